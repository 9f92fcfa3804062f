/- Part 38 of the proof of a statement of seat YtnjcehngoajnnaaGreatDoor: HsGLex4. -/
import Derived.Test.YtnjcehngoajnnaaGreatDoorPart36
import Derived.Test.YtnjcehngoajnnaaGreatDoorPart37
set_option linter.unusedSimpArgs false
set_option linter.unusedVariables false
section
namespace Go.Hs
open Go.Proofs
set_option maxRecDepth 10000
theorem Zi8 {m:Nat} (h:m<1000000):((m:Int) > IntKind.i64.max)=False:=by
 rw [eq_iff_iff,iff_false,show IntKind.i64.max=9223372036854775807 from rfl];omega
def Z56 (p:Nat × Nat):V := .tuple [.int .i64 p.1,.int .u8 p.2]
theorem Zem (G:Nat→V) (hE:GExp G) (s:List UInt8) (hs:s.length<100000):Spec Tryz.prog G 77 [.str s] Zk (fun v _=>v=Z56 (Zca s)):=by
 have hG:=hE.ok;refine Zo 0 42 [.tmp 2,.tmp 3] Tryz.func77 fun X=>?_;refine Z1 ?_;intro g1;refine Z6 ?_;refine AW.block ?_
 cases s with
 | nil =>
  refine Z1 ?_;refine Zh rfl (fun h2=>?_) (fun h2=>?_)
  ·exact Zr
  ·cases h2
 | cons c r =>
  cases hp:Zea [45,45] (c::r) with
  | true =>
   refine Z1 ?_;refine Zn hG ?_ (s:=(Zld G _ _));refine Zsf hp ?_;refine Zh rfl (fun h2=>?_) (fun h2=>?_)
   ·refine Z ?_
    rw [Zje,if_pos hp]<;>rfl
   ·cases h2
  | false =>
   refine Z1 ?_;refine Zn hG ?_ (s:=(Zld G _ _));refine Zsf hp ?_;refine Zbd rfl ?_
   try clear h2
   refine Z1 ?_;refine Zc hG ?_ (s:=(Z1h G hG c));refine Zh rfl (fun h3=>?_) (fun h3=>?_)
   ·refine Z1 ?_
    refine Zc hG ?_ (s:=(Z7i G hG _ (by omega) (fDigit hG)));refine Z ?_
    rw [Zim h3]<;>rfl
   ·refine Z1 ?_
    refine Zc hG ?_ (s:=(Zlg G hG c));refine Zh rfl (fun h4=>?_) (fun h4=>?_)
    ·have hn:=Z7f Zgf (c::r)
     have hw:=Zon ((c::r).take (Zad Zgf (c::r))) (Zzd Zgf (c::r));have hf:=Zwp (r:=r) h4;refine Z1 ?_;refine Zc hG ?_ (s:=(Z7i G hG _ (by omega) (fAl hG)));generalize Zad Zgf (c::r)=n at hn hw hf ⊢;have hn:n≤r.length+1:=hn;refine Z6 ?_
     have hl0:(List.take n (c::r)).length≤100000:=by rw [List.length_take];omega
     have hl1:=Zi8 (m:=1+(List.take n (c::r)).length) (by omega);have hl2:=Zi8 (m:=(List.take n (c::r)).length+1+1) (by omega);refine Ztc (by kernel_rfl) ?_;simp -implicitDefEqProofs only[go_sem,seval,↓reduceIte,hl1,hl2,hn,Nat.zero_le,Nat.sub_zero,List.append_eq,List.cons_append,List.nil_append];refine Zc hG ?_ (s:=(Z3p G hE Zn7 _ (by decide)));rw [hw];refine Zh rfl (fun h6=>?_) (fun h6=>?_)
     ·refine Z ?_
      rw [hf,if_pos h6]<;>rfl
     ·refine Z ?_
      rw [hf,if_neg (by rw [h6];simp)];rfl
    ·refine Z0 ?_
     have hf:=Zhj (c:=c) (r:=r) (by unfold Zgf;rw [h3,h4]<;>rfl) hp;obtain ⟨cg,hsg⟩:=hE.sg
     refine Z6 <| Zre 0 (by kernel_rfl) rfl rfl ?_
     simp -implicitDefEqProofs only[go_sem,seval,↓reduceIte,List.take_zero];refine ⟨_,Zln Tryz.underlying212 (by kernel_rfl) (c:=cg) (cs:=signsL.map V.str) (zpf hsg) rfl (fun v hv=>by obtain ⟨t,_,rfl⟩:=List.mem_map.1 hv;rfl),?_⟩;refine Zqe hG [Za cg.ent 1 V.str (.mk true signsL),.func (.func 113) [] [.view .old (.str (c::r))]] (by kernel_rfl) ⟨?_,Zmr ⟨?_,trivial⟩,trivial⟩ ?_
     ·exact Zgk (Zry (c:=cg) (m:=1) (fun x y hy=>by simp [V.cells] at hy;subst hy;exact .str _) (.mk true signsL)) (Zgz _ _ _ (.mk true signsL))
     ·exact Rd.ptr (v := .str (c::r)) (c := .new) (fz:=0) zp (by intro y hy;simp [V.cells] at hy;subst hy;exact .str _) zp
     refine (Zwl G hG _ (.mk true signsL) (by decide) (fPre hG (c::r))).mono ?_;rintro _ _ rfl;refine ⟨.int _ _,?_⟩;refine Zs ?_
     have hN:Zp4 (c::r)=match signsL.findIdx? (Zea · (c::r)) with | some i=>(signsL.getD i []).length | none=>0:=by
      unfold Zp4;rw [List.find?_eq_bind_findIdx?_getElem?]
      cases hi:signsL.findIdx? (Zea · (c::r)) with
      | none=>rfl
      | some i =>
       have hlt:i<signsL.length:=(List.findIdx?_eq_some_iff_getElem.1 hi).1;simp only [Option.bind_some,List.getElem?_eq_getElem hlt,List.getD_eq_getElem?_getD,Option.getD_some]
     have hI:Z7x (Zea · (c::r)) signsL=match signsL.findIdx? (Zea · (c::r)) with | some i=>(i:Int) | none => -1:=rfl
     have hne:∀ i,signsL.findIdx? (Zea · (c::r))=some i→i<14∧(signsL.getD i []).length≠0:=fun i hi=>by
      have h1:=List.findIdx?_eq_some_iff_getElem.1 hi;obtain ⟨hlt,_⟩:=h1;have hlt:i<14:=hlt;refine ⟨hlt,?_⟩
      have:∀ i,i<14→(signsL.getD i []).length≠0:=by decide
      exact this i hlt
     rw [hI];rw [hN] at hf
     cases hi:signsL.findIdx? (Zea · (c::r)) with
     | none =>
      rw [hi] at hf;refine Z1 ?_;refine Zh rfl (fun h7=>?_) (fun h7=>?_)
      ·refine Z ?_
       rw [hf]<;>rfl
      ·cases h7
     | some i =>
      rw [hi] at hf;obtain ⟨hi14,hi0⟩:=hne i hi;refine Z1 ?_;refine Zh rfl (fun h7=>?_) (fun h7=>?_)
      ·have h7:decide ((i:Int)<0)=true:=h7
       simp at h7;omega
      ·refine Z0 ?_
       have hge:(signsL.map V.str)[i]? = some (.str (signsL.getD i [])):=by
        have hlt:i<signsL.length:=hi14
        rw [List.getElem?_map,List.getElem?_eq_getElem hlt,List.getD_eq_getElem?_getD,List.getElem?_eq_getElem hlt]<;>rfl
       have hi14':(i:Int)<14:=by omega
       refine Zf (zi hsg (zi hge (zi hi14' (zi @Int.natCast_nonneg @Nat.mul_one)))) ?_;rw [hf]
       show _=Z56 ((signsL.getD i []).length,if (signsL.getD i []).length=0 then 0 else 4)
       rw [if_neg hi0]<;>rfl
theorem Zfl (G:Nat→V) (hE:GExp G) (s:List UInt8) (hs:s.length<100000):Spec Tryz.prog G 64 [.str s] Zk (fun v _=>v = .int .u8 (isP s)):=by
 have hG:=hE.ok;refine Zo 0 19 [.tmp 2] Tryz.func64 fun X=>?_;refine Z1 ?_;refine Z1 ?_;refine Zn hG ?_ (s:=(Zem G hE s hs))
 have hI:isP s=if (Zca s).1≠s.length∨(Zca s).1 > 64 then 0 else (Zca s).2:=rfl
 generalize Zca s=p at hI ⊢;obtain ⟨n,k⟩:=p;simp -implicitDefEqProofs only[go_sem,seval,↓reduceIte,Z56];refine Z6 ?_
 by_cases h1:n=s.length
 ·have e1:((n:Int) != (s.length:Int))=false:=by simp [h1]
  refine Z1f e1 ?_;refine Zh rfl (fun h2=>?_) (fun h2=>?_)
  ·have h2:n > 64:=by have h2:decide ((n:Int) > 64)=true:=h2;simp at h2;omega
   refine Z ?_
   rw [hI,if_pos (.inr h2)]<;>rfl
  ·have h2:¬ n > 64:=by have h2:decide ((n:Int) > 64)=false:=h2;simp at h2;omega
   refine Z ?_;rw [hI,if_neg (fun h=>h.elim (fun h=>h h1) h2)]
 ·have e1:((n:Int) != (s.length:Int))=true:=by
   have h1:¬ ((n:Int)=(s.length:Int)):=by omega
   simpa using h1
  refine Z1f e1 ?_;refine Zh rfl (fun h2=>?_) (fun h2=>?_)
  ·refine Z ?_
   rw [hI,if_pos (.inl h1)]<;>rfl
  ·cases h2
def Z0b (t:Tk):V := .agg [.int .u8 t.kind,.str t.text,.int .i64 t.pos]
theorem Zom (t:Tk):(Z0b t).cells.length=3:=rfl
def Zq3 (c:Col) (l:List Tk):V:=Za c 3 Z0b (Zba l)
def Zc8 (r:List Tk × Int × Int):V := .tuple [Zq3 .new r.1,.int .i64 r.2.1,.int .i64 r.2.2]
theorem Z7r:∀ (f:Nat) (s:List UInt8) (i:Nat) (acc:List Tk),(Zcc f s i acc).1.length≤acc.length+(s.length-i)
 | 0,s,i,acc=>by rw [Zcc];exact Nat.le_add_right _ _
 | f+1,s,i,acc=>by
  rw [Zcc]
  split
  ·split
   ·exact Nat.zero_le _
   ·rename_i h1 h2
    have:=Z7r f s (i+(Zca (s.drop i)).1+blk (s.drop (i+(Zca (s.drop i)).1))) (acc++[⟨(Zca (s.drop i)).2,(s.drop i).take (Zca (s.drop i)).1,i⟩]);simp only [List.length_append,List.length_singleton] at this;omega
  ·exact Nat.le_add_right _ _
theorem Z2s (G:Nat→V) (hE:GExp G) (s:List UInt8) (hs:s.length<100000):Spec Tryz.prog G 49 [.str s] Zk (fun v _=>v=Zc8 (Z5b s)):=by
 have hG:=hE.ok;refine Zo 0 52 [.tmp 2,.tmp 3,.tmp 4] Tryz.func49 fun X=>?_;refine Z1 ?_;refine Z1 ?_
 have hT:Z5b s=if s.length > 65536 then ([],0,3) else Zcc (s.length+1) s (blk s) []:=rfl
 refine Zh rfl (fun h2=>?_) (fun h2=>?_)
 ·have h2:s.length > 65536:=by have h2:decide ((s.length:Int) > 65536)=true:=h2;simp at h2;omega
  refine Z ?_
  rw [hT,if_pos h2]<;>rfl
 ·have h2:¬ s.length > 65536:=by have h2:decide ((s.length:Int) > 65536)=false:=h2;simp at h2;omega
  rw [if_neg h2] at hT;refine Z1 ?_;refine Zc hG ?_ (s:=(Zok G hG s (by omega)));have hb:=Ziy s;refine AW.block ?_
  refine Zkl (fun (x:Nat × Nat × List Tk)=>st [(0,.str s),(2,grown 47 x.1 3 x.2.2),(3,.int .i64 x.2.1)] [(47,Z2b x.1 Z0b x.2.2)]) (fun x=>x.2.1≤s.length∧x.2.2.length≤x.2.1∧Z5b s=Zcc (s.length+1) s x.2.1 x.2.2) (fun x=>s.length-x.2.1) (0,blk s,[]) ⟨hb,Nat.zero_le _,hT⟩
   (Zg zp zp) ?_
  rintro ⟨gx,i,acc⟩ ⟨hi,hal,hR⟩ L2 hL2;have hi:i≤s.length:=hi;have hal:acc.length≤i:=hal;have hR:Z5b s=Zcc (s.length+1) s i acc:=hR;refine Z1 ?_;refine Zh rfl (fun h4=>?_) (fun h4=>?_)
  ·have hi1:i<s.length:=by simpa using h4
   refine Z0 ?_;refine Z6 ?_;refine AW.block ?_;have hfl:=Zjm (s.drop i);rw [List.length_drop] at hfl;have hst:=Z0y (f:=s.length+1) (acc:=acc) hi1 (by omega);have hbd:=Z9r (f:=s.length+1) (acc:=acc) hi1 (by omega);refine Z1f (zi hi @Nat.le_refl) ?_;refine Zn hG ?_ (s:=(Zem G hE (s.drop i) (by simp;omega)));generalize Zca (s.drop i)=p at hfl hst hbd ⊢;obtain ⟨n,k⟩:=p;simp only at hfl hst hbd;simp -implicitDefEqProofs only[go_sem,seval,↓reduceIte,Z56];refine Z6 ?_
   by_cases hn0:n=0
   ·have e0:((n:Int)==0)=true:=by simp [hn0]
    refine Z1f e0 ?_;refine Zh rfl (fun h9=>?_) (fun h9=>?_)
    ·refine Z ?_
     rw [hR,hbd (.inl hn0)]<;>rfl
    ·cases h9
   ·have e0:((n:Int)==0)=false:=by
     rw [beq_eq_false_iff_ne];omega
    refine Z1f e0 ?_;refine Zh rfl (fun h9=>?_) (fun h9=>?_)
    ·have h9:n > 64:=by have h9:decide ((n:Int) > 64)=true:=h9;simp at h9;omega
     refine Z ?_
     rw [hR,hbd (.inr h9)]<;>rfl
    ·have h9:¬ n > 64:=by have h9:decide ((n:Int) > 64)=false:=h9;simp at h9;omega
     refine Z0 ?_;have hst:=hst (fun h=>h.elim hn0 h9)
     have hw:IntKind.i64.wrap ((i:Int)+(n:Int))=((i+n:Nat):Int):=by rw [w64 (by omega) (by omega)];omega
     have hin:i≤i+n:=by omega
     have hin2:i+n≤s.length:=by omega
     have hsub:i+n-i=n:=by omega
     refine Z1f (zi hw (zi hin (zi hin2 hsub))) ?_;intro g46;refine Znc (f:=Z0b) (l:=acc) (l2:=[⟨k,(s.drop i).take n,i⟩]) (g:=gx) Zom rfl rfl rfl zp (Zta (by omega) (by simp;omega)) fun g47=>?_;refine Zs ?_;refine Z1f hw ?_;have hbl:=Ziy (s.drop (i+n));rw [List.length_drop] at hbl
     have hw2:IntKind.i64.wrap (((i+n:Nat):Int)+(blk (s.drop (i+n)):Nat))=((i+n+blk (s.drop (i+n)):Nat):Int):=by rw [w64 (by omega) (by omega)];omega
     refine Z1f (zi hin2 @Nat.le_refl) ?_;refine Zc hG ?_ (s:=(Zok G hG (s.drop (i+n)) (by simp;omega)));refine hL2 _ ⟨(g47,i+n+blk (s.drop (i+n)),acc++[⟨k,(s.drop i).take n,i⟩]),?_,⟨?_,?_,?_⟩,Zg (by simp -implicitDefEqProofs only[go_sem,seval,↓reduceIte];exact congrArg _ hw2) zp⟩
     ·show s.length-(i+n+blk (s.drop (i+n)))<s.length-i
      omega
     ·show i+n+blk (s.drop (i+n))≤s.length
      omega
     ·show (acc++[_]).length≤i+n+blk (s.drop (i+n))
      simp only [List.length_append,List.length_singleton];omega
     ·rw [hR];exact hst
  ·have hi1:¬ i<s.length:=by simpa using h4
   refine Z0 ?_;refine AW.weak (Z8 (fun o=>o==47) (l:=[(2,Zq3 .new acc)]) (m:=[]) ?_ trivial) ?_
   ·refine Zs ?_
    exact Z0e rfl rfl Zom
   refine Z ?_
   rw [hR,Z8r hi1]<;>rfl
end Go.Hs
end
