/- Part 38 of the proof of a statement of seat YtnjcehngoajnnaaGreatDoor: HsGLex4 HsGLexR. -/
import Derived.Test.YtnjcehngoajnnaaGreatDoorPart36
import Derived.Test.YtnjcehngoajnnaaGreatDoorPart37
set_option linter.unusedSimpArgs false
set_option linter.unusedVariables false
section
namespace Go.Hs
open Go.Proofs
set_option maxRecDepth 10000
theorem Zt6 {m:Nat} (h:m<1000000):((m:Int) > IntKind.i64.max)=False:=by
 rw [eq_iff_iff,iff_false,show IntKind.i64.max=9223372036854775807 from rfl];omega
def Zk5 (p:Nat × Nat):V := .tuple [.int .i64 p.1,.int .u8 p.2]
theorem Ztm (G:Nat→V) (hE:GExp G) (s:List UInt8) (hs:s.length<100000):Spec Tryz.prog G 77 [.str s] Zu (fun v _=>v=Zk5 (Z3a s)):=by
 have hG:=hE.ok;refine Zo 0 42 [.tmp 2,.tmp 3] Tryz.func77 fun X=>?_;refine Z1 ?_;intro g1;refine Zv ?_;refine AW.block ?_
 cases s with
 | nil =>
  refine Z1 ?_;refine Zd rfl (fun h2=>?_) (fun h2=>?_)
  ·exact Zr
  ·cases h2
 | cons c r =>
  cases hp:Zsa [45,45] (c::r) with
  | true =>
   refine Z1 ?_;refine Zn hG ?_ (s:=(Z3d G _ _));refine Zsf hp ?_;refine Zd rfl (fun h2=>?_) (fun h2=>?_)
   ·refine Z ?_
    rw [Z0e,if_pos hp]<;>rfl
   ·cases h2
  | false =>
   refine Z1 ?_;refine Zn hG ?_ (s:=(Z3d G _ _));refine Zsf hp ?_;refine Z8 rfl ?_
   try clear h2
   refine Z1 ?_;refine Zc hG ?_ (s:=(Zji G hG c));refine Zd rfl (fun h3=>?_) (fun h3=>?_)
   ·refine Z1 ?_
    refine Zc hG ?_ (s:=(Zkj G hG _ (by omega) (fDigit hG)));refine Z ?_
    rw [Z1s h3]<;>rfl
   ·refine Z1 ?_
    refine Zc hG ?_ (s:=(Z0g G hG c));refine Zd rfl (fun h4=>?_) (fun h4=>?_)
    ·have hn:=Zdi Zxf (c::r)
     have hw:=Z3n ((c::r).take (Zje Zxf (c::r))) (Z8i Zxf (c::r));have hf:=Zbx (r:=r) h4;refine Z1 ?_;refine Zc hG ?_ (s:=(Zkj G hG _ (by omega) (fAl hG)));generalize Zje Zxf (c::r)=n at hn hw hf ⊢;have hn:n≤r.length+1:=hn;refine Zv ?_
     have hl0:(List.take n (c::r)).length≤100000:=by rw [List.length_take];omega
     have hl1:=Zt6 (m:=1+(List.take n (c::r)).length) (by omega);have hl2:=Zt6 (m:=(List.take n (c::r)).length+1+1) (by omega);refine Z4 (by kernel_rfl) ?_;simp -implicitDefEqProofs only[go_sem,seval,↓reduceIte,hl1,hl2,hn,Nat.zero_le,Nat.sub_zero,List.append_eq,List.cons_append,List.nil_append];refine Zc hG ?_ (s:=(Z8p G hE Z25 _ (by decide)));rw [hw];refine Zd rfl (fun h6=>?_) (fun h6=>?_)
     ·refine Z ?_
      rw [hf,if_pos h6]<;>rfl
     ·refine Z ?_
      rw [hf,if_neg (by rw [h6];simp)];rfl
    ·refine Z0 ?_
     have hf:=Zul (c:=c) (r:=r) (by unfold Zxf;rw [h3,h4]<;>rfl) hp;obtain ⟨cg,hsg⟩:=hE.sg
     refine Zv <| Z6e 0 (by kernel_rfl) rfl rfl ?_
     simp -implicitDefEqProofs only[go_sem,seval,↓reduceIte,List.take_zero];refine ⟨_,Z0n Tryz.underlying212 (by kernel_rfl) (c:=cg) (cs:=signsL.map V.str) (zpf hsg) rfl (fun v hv=>by obtain ⟨t,_,rfl⟩:=List.mem_map.1 hv;rfl),?_⟩;refine Z5e hG [Zb cg.ent 1 V.str (.mk true signsL),.func (.func 113) [] [.view .old (.str (c::r))]] (by kernel_rfl) ⟨?_,Zox ⟨?_,trivial⟩,trivial⟩ ?_
     ·exact Zew (Zb3 (c:=cg) (m:=1) (fun x y hy=>by simp [V.cells] at hy;subst hy;exact .str _) (.mk true signsL)) (Z9x _ _ _ (.mk true signsL))
     ·exact Rd.ptr (v := .str (c::r)) (c := .new) (fz:=0) zp (by intro y hy;simp [V.cells] at hy;subst hy;exact .str _) zp
     refine (Z4l G hG _ (.mk true signsL) (by decide) (fPre hG (c::r))).mono ?_;rintro _ _ rfl;refine ⟨.int _ _,?_⟩;refine Zs ?_
     have hN:sgnN (c::r)=match signsL.findIdx? (Zsa · (c::r)) with | some i=>(signsL.getD i []).length | none=>0:=by
      unfold sgnN;rw [List.find?_eq_bind_findIdx?_getElem?]
      cases hi:signsL.findIdx? (Zsa · (c::r)) with
      | none=>rfl
      | some i =>
       have hlt:i<signsL.length:=(List.findIdx?_eq_some_iff_getElem.1 hi).1;simp only [Option.bind_some,List.getElem?_eq_getElem hlt,List.getD_eq_getElem?_getD,Option.getD_some]
     have hI:Zd5 (Zsa · (c::r)) signsL=match signsL.findIdx? (Zsa · (c::r)) with | some i=>(i:Int) | none => -1:=rfl
     have hne:∀ i,signsL.findIdx? (Zsa · (c::r))=some i→i<14∧(signsL.getD i []).length≠0:=fun i hi=>by
      have h1:=List.findIdx?_eq_some_iff_getElem.1 hi;obtain ⟨hlt,_⟩:=h1;have hlt:i<14:=hlt;refine ⟨hlt,?_⟩
      have:∀ i,i<14→(signsL.getD i []).length≠0:=by decide
      exact this i hlt
     rw [hI];rw [hN] at hf
     cases hi:signsL.findIdx? (Zsa · (c::r)) with
     | none =>
      rw [hi] at hf;refine Z1 ?_;refine Zd rfl (fun h7=>?_) (fun h7=>?_)
      ·refine Z ?_
       rw [hf]<;>rfl
      ·cases h7
     | some i =>
      rw [hi] at hf;obtain ⟨hi14,hi0⟩:=hne i hi;refine Z1 ?_;refine Zd rfl (fun h7=>?_) (fun h7=>?_)
      ·have h7:decide ((i:Int)<0)=true:=h7
       simp at h7;omega
      ·refine Z0 ?_
       have hge:(signsL.map V.str)[i]? = some (.str (signsL.getD i [])):=by
        have hlt:i<signsL.length:=hi14
        rw [List.getElem?_map,List.getElem?_eq_getElem hlt,List.getD_eq_getElem?_getD,List.getElem?_eq_getElem hlt]<;>rfl
       have hi14':(i:Int)<14:=by omega
       refine Zf (zi hsg (zi hge (zi hi14' (zi @Int.natCast_nonneg @Nat.mul_one)))) ?_;rw [hf]
       show _=Zk5 ((signsL.getD i []).length,if (signsL.getD i []).length=0 then 0 else 4)
       rw [if_neg hi0]<;>rfl
theorem Zax (G:Nat→V) (hE:GExp G) (s:List UInt8) (hs:s.length<100000):Spec Tryz.prog G 64 [.str s] Zu (fun v _=>v = .int .u8 (isP s)):=by
 have hG:=hE.ok;refine Zo 0 19 [.tmp 2] Tryz.func64 fun X=>?_;refine Z1 ?_;refine Z1 ?_;refine Zn hG ?_ (s:=(Ztm G hE s hs))
 have hI:isP s=if (Z3a s).1≠s.length∨(Z3a s).1 > 64 then 0 else (Z3a s).2:=rfl
 generalize Z3a s=p at hI ⊢;obtain ⟨n,k⟩:=p;simp -implicitDefEqProofs only[go_sem,seval,↓reduceIte,Zk5];refine Zv ?_
 by_cases h1:n=s.length
 ·have e1:((n:Int) != (s.length:Int))=false:=by simp [h1]
  refine Z1f e1 ?_;refine Zd rfl (fun h2=>?_) (fun h2=>?_)
  ·have h2:n > 64:=by have h2:decide ((n:Int) > 64)=true:=h2;simp at h2;omega
   refine Z ?_
   rw [hI,if_pos (.inr h2)]<;>rfl
  ·have h2:¬ n > 64:=by have h2:decide ((n:Int) > 64)=false:=h2;simp at h2;omega
   refine Z ?_;rw [hI,if_neg (fun h=>h.elim (fun h=>h h1) h2)]
 ·have e1:((n:Int) != (s.length:Int))=true:=by
   have h1:¬ ((n:Int)=(s.length:Int)):=by omega
   simpa using h1
  refine Z1f e1 ?_;refine Zd rfl (fun h2=>?_) (fun h2=>?_)
  ·refine Z ?_
   rw [hI,if_pos (.inl h1)]<;>rfl
  ·cases h2
def Zke (t:Tk):V := .agg [.int .u8 t.kind,.str t.text,.int .i64 t.pos]
theorem Z3m (t:Tk):(Zke t).cells.length=3:=rfl
def Zo2 (c:Col) (l:List Tk):V:=Zb c 3 Zke (Znb l)
def Zo6 (r:List Tk × Int × Int):V := .tuple [Zo2 .new r.1,.int .i64 r.2.1,.int .i64 r.2.2]
theorem Z1r:∀ (f:Nat) (s:List UInt8) (i:Nat) (acc:List Tk),(Zee f s i acc).1.length≤acc.length+(s.length-i)
 | 0,s,i,acc=>by rw [Zee];exact Nat.le_add_right _ _
 | f+1,s,i,acc=>by
  rw [Zee]
  split
  ·split
   ·exact Nat.zero_le _
   ·rename_i h1 h2
    have:=Z1r f s (i+(Z3a (s.drop i)).1+blk (s.drop (i+(Z3a (s.drop i)).1))) (acc++[⟨(Z3a (s.drop i)).2,(s.drop i).take (Z3a (s.drop i)).1,i⟩]);simp only [List.length_append,List.length_singleton] at this;omega
  ·exact Nat.le_add_right _ _
theorem Zts (G:Nat→V) (hE:GExp G) (s:List UInt8) (hs:s.length<100000):Spec Tryz.prog G 49 [.str s] Zu (fun v _=>v=Zo6 (Z1b s)):=by
 have hG:=hE.ok;refine Zo 0 52 [.tmp 2,.tmp 3,.tmp 4] Tryz.func49 fun X=>?_;refine Z1 ?_;refine Z1 ?_
 have hT:Z1b s=if s.length > 65536 then ([],0,3) else Zee (s.length+1) s (blk s) []:=rfl
 refine Zd rfl (fun h2=>?_) (fun h2=>?_)
 ·have h2:s.length > 65536:=by have h2:decide ((s.length:Int) > 65536)=true:=h2;simp at h2;omega
  refine Z ?_
  rw [hT,if_pos h2]<;>rfl
 ·have h2:¬ s.length > 65536:=by have h2:decide ((s.length:Int) > 65536)=false:=h2;simp at h2;omega
  rw [if_neg h2] at hT;refine Z1 ?_;refine Zc hG ?_ (s:=(Z2k G hG s (by omega)));have hb:=Zw2 s;refine AW.block ?_
  refine Zig (fun (x:Nat × Nat × List Tk)=>st [(0,.str s),(2,grown 47 x.1 3 x.2.2),(3,.int .i64 x.2.1)] [(47,Zfb x.1 Zke x.2.2)]) (fun x=>x.2.1≤s.length∧x.2.2.length≤x.2.1∧Z1b s=Zee (s.length+1) s x.2.1 x.2.2) (fun x=>s.length-x.2.1) (0,blk s,[]) ⟨hb,Nat.zero_le _,hT⟩
   (Zg zp zp) ?_
  rintro ⟨gx,i,acc⟩ ⟨hi,hal,hR⟩ L2 hL2;have hi:i≤s.length:=hi;have hal:acc.length≤i:=hal;have hR:Z1b s=Zee (s.length+1) s i acc:=hR;refine Z1 ?_;refine Zd rfl (fun h4=>?_) (fun h4=>?_)
  ·have hi1:i<s.length:=by simpa using h4
   refine Z0 ?_;refine Zv ?_;refine AW.block ?_;have hfl:=Zf2 (s.drop i);rw [List.length_drop] at hfl;have hst:=Zwx (f:=s.length+1) (acc:=acc) hi1 (by omega);have hbd:=Zn0 (f:=s.length+1) (acc:=acc) hi1 (by omega);refine Z1f (zi hi @Nat.le_refl) ?_;refine Zn hG ?_ (s:=(Ztm G hE (s.drop i) (by simp;omega)));generalize Z3a (s.drop i)=p at hfl hst hbd ⊢;obtain ⟨n,k⟩:=p;simp only at hfl hst hbd;simp -implicitDefEqProofs only[go_sem,seval,↓reduceIte,Zk5];refine Zv ?_
   by_cases hn0:n=0
   ·have e0:((n:Int)==0)=true:=by simp [hn0]
    refine Z1f e0 ?_;refine Zd rfl (fun h9=>?_) (fun h9=>?_)
    ·refine Z ?_
     rw [hR,hbd (.inl hn0)]<;>rfl
    ·cases h9
   ·have e0:((n:Int)==0)=false:=by
     rw [beq_eq_false_iff_ne];omega
    refine Z1f e0 ?_;refine Zd rfl (fun h9=>?_) (fun h9=>?_)
    ·have h9:n > 64:=by have h9:decide ((n:Int) > 64)=true:=h9;simp at h9;omega
     refine Z ?_
     rw [hR,hbd (.inr h9)]<;>rfl
    ·have h9:¬ n > 64:=by have h9:decide ((n:Int) > 64)=false:=h9;simp at h9;omega
     refine Z0 ?_;have hst:=hst (fun h=>h.elim hn0 h9)
     have hw:IntKind.i64.wrap ((i:Int)+(n:Int))=((i+n:Nat):Int):=by rw [w64 (by omega) (by omega)];omega
     have hin:i≤i+n:=by omega
     have hin2:i+n≤s.length:=by omega
     have hsub:i+n-i=n:=by omega
     refine Z1f (zi hw (zi hin (zi hin2 hsub))) ?_;intro g46;refine Zlc (f:=Zke) (l:=acc) (l2:=[⟨k,(s.drop i).take n,i⟩]) (g:=gx) Z3m rfl rfl rfl zp (Zab (by omega) (by simp;omega)) fun g47=>?_;refine Zs ?_;refine Z1f hw ?_;have hbl:=Zw2 (s.drop (i+n));rw [List.length_drop] at hbl
     have hw2:IntKind.i64.wrap (((i+n:Nat):Int)+(blk (s.drop (i+n)):Nat))=((i+n+blk (s.drop (i+n)):Nat):Int):=by rw [w64 (by omega) (by omega)];omega
     refine Z1f (zi hin2 @Nat.le_refl) ?_;refine Zc hG ?_ (s:=(Z2k G hG (s.drop (i+n)) (by simp;omega)));refine hL2 _ ⟨(g47,i+n+blk (s.drop (i+n)),acc++[⟨k,(s.drop i).take n,i⟩]),?_,⟨?_,?_,?_⟩,Zg (by simp -implicitDefEqProofs only[go_sem,seval,↓reduceIte];exact congrArg _ hw2) zp⟩
     ·show s.length-(i+n+blk (s.drop (i+n)))<s.length-i
      omega
     ·show i+n+blk (s.drop (i+n))≤s.length
      omega
     ·show (acc++[_]).length≤i+n+blk (s.drop (i+n))
      simp only [List.length_append,List.length_singleton];omega
     ·rw [hR];exact hst
  ·have hi1:¬ i<s.length:=by simpa using h4
   refine Z0 ?_;refine AW.weak (Z7 (fun o=>o==47) (l:=[(2,Zo2 .new acc)]) (m:=[]) ?_ trivial) ?_
   ·refine Zs ?_
    exact Zpd rfl rfl Z3m
   refine Z ?_
   rw [hR,Zm0 hi1]<;>rfl
end Go.Hs
end

section
namespace Go.Hs
open Go.Proofs
set_option maxRecDepth 10000
theorem Z1w (G:Nat→V) (hG:GOk G) (c:UInt8):Spec Tryz.prog G 150 [.int .u8 c.toNat] Zu (fun v _=>v = .bool (Zya c)):=by
 refine Zo 0 9 [.tmp 2] Tryz.func150 fun X=>?_
 have key:Zya c=(decide ((c.toNat:Int)≥48) && decide ((c.toNat:Int)≤57)):=by
  unfold Zya
  congr 1
  ·rw [decide_eq_decide];omega
  ·rw [decide_eq_decide];omega
 rw [key];refine Zi fun K hK=>AW.region (by kernel_rfl) ?_;refine Zs ?_;refine hK _ ?_
 try clear hK K
 cases h1:decide ((c.toNat:Int)≥48)<;>cases h2:decide ((c.toNat:Int)≤57)<;>((refine Zi fun K hK=>AW.region (by kernel_rfl) ?_;simp -implicitDefEqProofs only[go_sem,seval,↓reduceIte,h1,h2];refine hK _ ?_;clear hK K);(refine AW.ret ?_;simp -implicitDefEqProofs only[go_sem,seval,↓reduceIte];refine Zk ?_);rfl)
theorem Z0w (G:Nat→V) (hG:GOk G) (c:UInt8):Spec Tryz.prog G 149 [.int .u8 c.toNat] Zu (fun v _=>v = .bool (isLt c)):=by
 refine Zo 0 21 [.tmp 2] Tryz.func149 fun X=>?_
 have key:isLt c=((decide ((c.toNat:Int)≥65) && decide ((c.toNat:Int)≤90) || (decide ((c.toNat:Int)≥97) && decide ((c.toNat:Int)≤122))) || c==95):=by
  have:=Zg0 (fun c=>isLt c==((decide ((c.toNat:Int)≥65) && decide ((c.toNat:Int)≤90) || (decide ((c.toNat:Int)≥97) && decide ((c.toNat:Int)≤122))) || c==95)) (by decide +kernel) c;simpa using this
 rw [key];refine Zi fun K hK=>AW.region (by kernel_rfl) ?_;refine Zs ?_;refine hK _ ?_
 try clear hK K
 cases h1:decide ((c.toNat:Int)≥65)<;>cases h2:decide ((c.toNat:Int)≤90)<;>cases h3:decide ((c.toNat:Int)≥97)<;>cases h4:decide ((c.toNat:Int)≤122)<;>cases h5:(c==95)<;>((refine Zi fun K hK=>AW.region (by kernel_rfl) ?_;simp -implicitDefEqProofs only[go_sem,seval,↓reduceIte,Zx3,h1,h2,h3,h4,h5];refine hK _ ?_;clear hK K);(refine AW.ret ?_;simp -implicitDefEqProofs only[go_sem,seval,↓reduceIte];refine Zk ?_);rfl)
theorem Zhm (G:Nat→V) (hG:GOk G) (c:Col) (t:List UInt8) (s:Sl (List UInt8)) (hs:s.l.length<1000000) :
  Spec Tryz.prog G 148 [.str t,Zb c 1 V.str s] Zu (fun v _=>v = .bool (s.l.contains t)):=by
 refine Zo 0 18 [.tmp 4] Tryz.func148 fun X=>?_;refine Z1 ?_;refine Z1 ?_;refine AW.block ?_
 refine Z0a s.l.length (fun k (_:Unit)=>st [(0,.str t),(1,Zb c 1 V.str s),(5,.int .i64 k)] []) (fun k _=>(s.l.take k).contains t=false) 0 () (Nat.zero_le _) rfl
  (Zg zp zp) ?_
 intro k _ hk hR L2 hL2;refine Z1 ?_;refine Zd rfl (fun h4=>?_) (fun h4=>?_)
 ·have hk1:k<s.l.length:=by simpa using h4
  have hg:=List.getElem?_eq_getElem hk1
  have htk:s.l.take (k+1)=s.l.take k++[s.l[k]]:=by rw [List.take_succ_eq_append_getElem hk1]
  have hmem:=List.getElem_mem hk1;generalize s.l[k]=x at hg htk hmem;refine Z1f hg ?_;refine Zd rfl (fun h6=>?_) (fun h6=>?_)
  ·have h6:x=t:=by simpa using h6
   refine Z ?_
   have:s.l.contains t=true:=by rw [← h6];simpa using hmem
   rw [this]
  ·have h6:¬ x=t:=by simpa using h6
   refine Z1 ?_;refine hL2 _ ⟨hk1,(),?_,Zg zw zp⟩;rw [htk];simp only [List.contains_eq_mem,decide_eq_false_iff_not] at hR ⊢;intro hm
   rcases List.mem_append.1 hm with h | h
   ·exact hR h
   ·exact h6 ((List.mem_singleton.1 h).symm)
 ·have hk1:k=s.l.length:=by simp at h4;omega
  refine Z ?_;rw [hk1,List.take_length] at hR;rw [hR]
theorem Zyu (G:Nat→V) (hG:GOk G) (s:List UInt8) (hs:s.length<1000000):Spec Tryz.prog G 120 [.str s] Zu (fun v _=>v = .int .u8 (Z7d s)):=by
 refine Zo 0 45 [.tmp 2] Tryz.func120 fun X=>?_
 have hW1:signsL.contains s=true→Z7d s=4:=fun h=>by unfold Z7d;rw [if_pos h]
 have hW2:signsL.contains s=false→wordsL.contains s=true→Z7d s=3:=fun h h2=>by unfold Z7d;rw [if_neg (by rw [h];simp),if_pos h2]
 have hW3:∀ c r,s=c::r→signsL.contains s=false→wordsL.contains s=false→Z7d s=if s.all Zya then 1 else if isLt c && s.all Zxf then 2 else 0:=by
  rintro c r rfl h h2;unfold Z7d;rw [if_neg (by rw [h];simp),if_neg (by rw [h2];simp)]
 refine Z1 ?_;refine Z1 ?_;intro g;refine Z5e hG [.str s,Zb .old 1 V.str (.mk false signsL)] (by kernel_rfl) ⟨Zew (.str _) rfl,Rd.msl (off:=0) (n:=14) (l:=signsL) (f:=V.str) (f':=V.str) (g:=g) (fz:=0) (c := .new) zp (fun _=>rfl) (fun x y hy=>by simp [V.cells] at hy;subst hy;exact .str _) (fun _=>rfl) (by decide),trivial⟩ ?_;refine (Zhm G hG _ s (.mk false signsL) (by decide)).mono ?_;rintro _ _ rfl;refine ⟨.bool _,?_⟩;refine Zs ?_;refine Zd rfl (fun h2=>?_) (fun h2=>?_)
 ·refine Z ?_
  rw [hW1 h2]<;>rfl
 refine Z1 ?_;intro g;refine Z5e hG [.str s,Zb .old 1 V.str (.mk false wordsL)] (by kernel_rfl) ⟨Zew (.str _) rfl,Rd.msl (off:=0) (n:=14) (l:=wordsL) (f:=V.str) (f':=V.str) (g:=g) (fz:=0) (c := .new) zp (fun _=>rfl) (fun x y hy=>by simp [V.cells] at hy;subst hy;exact .str _) (fun _=>rfl) (by decide),trivial⟩ ?_;refine (Zhm G hG _ s (.mk false wordsL) (by decide)).mono ?_;rintro _ _ rfl;refine ⟨.bool _,?_⟩;refine Zs ?_;refine Zd rfl (fun h4=>?_) (fun h4=>?_)
 ·refine Z ?_
  rw [hW2 h2 h4]<;>rfl
 refine Z0 ?_;refine Zv ?_
 cases s with
 | nil =>
  refine Z1 ?_;refine Zd rfl (fun h6=>?_) (fun h6=>?_)
  ·exact Zr
  ·cases h6
 | cons c r =>
  have hW:=hW3 c r rfl h2 h4;refine Z1 ?_;refine Z1 ?_;refine Z1 ?_;refine Zc hG ?_ (s:=(Z0w G hG c));refine Zi fun K7 hK7=>?_;refine Z1 ?_;refine AW.block ?_;generalize hs0:c::r=s at hs hW hK7 ⊢
  refine Z0a s.length (fun k (_:Unit)=>st [(0,.str s),(3,.bool ((s.take k).all Zya)),(4,.bool (isLt c && (s.take k).all Zxf)),(5,.int .i64 k)] []) (fun k _=>True) 0 () (Nat.zero_le _) trivial
   (Zg (by simp -implicitDefEqProofs only[go_sem,seval,↓reduceIte];rw [List.all_nil,List.all_nil,Bool.and_true];exact ⟨rfl,rfl⟩) zp) ?_
  intro k _ hk hR L8 hL8;refine Z1 ?_;refine Zd rfl (fun h10=>?_) (fun h10=>?_)
  ·have hk1:k<s.length:=by simpa using h10
   have hg:=Z81 hk1
   have htk:s.take (k+1)=s.take k++[s[k]]:=by rw [List.take_succ_eq_append_getElem hk1]
   generalize s[k]=x at hg htk;refine Z0 ?_;refine Zv ?_;refine AW.block ?_
   have ha:∀ p:UInt8→Bool,(s.take (k+1)).all p=((s.take k).all p && p x):=fun p=>by rw [htk,List.all_append];simp
   refine Zyb (fun (_:Unit)=>st [(0,.str s),(3,.bool ((s.take (k+1)).all Zya)),(4,.bool (isLt c && (s.take k).all Zxf)),(5,.int .i64 k)] []) (fun _=>True) (fun K12 hK12=>?_) ?_
   ·rw [ha Zya] at hK12
    cases h1:(s.take k).all Zya with
    | true =>
     refine Z1f (zi hg h1) ?_;refine Zc hG ?_ (s:=(Z1w G hG x));exact hK12 _ () trivial (Zg (by simp -implicitDefEqProofs only[go_sem,seval,↓reduceIte,h1];cases Zya x<;>rfl) zp)
    | false =>
     refine Z1f (zi hg h1) ?_;exact hK12 _ () trivial (Zg (zpf h1) zp)
   intro _ _
   have hN:(isLt c && (s.take (k+1)).all Zxf)=((isLt c && (s.take k).all Zxf) && (isLt x || Zya x)):=by
    rw [ha Zxf,← Bool.and_assoc]<;>rfl
   cases h1:(isLt c && (s.take k).all Zxf) with
   | true =>
    rw [h1,Bool.true_and] at hN;refine Z1f (zi hg h1) ?_;refine Zn hG ?_ (s:=(Z0w G hG x))
    cases h2:isLt x with
    | true =>
     refine Zsf h2 ?_;refine Z1 ?_;refine hL8 _ ⟨hk1,(),trivial,Zg (by rw [hN,h2];simp -implicitDefEqProofs only[go_sem,seval,↓reduceIte];exact ⟨rfl,congrArg _ (w64 (by omega) (by omega))⟩) zp⟩
    | false =>
     refine Zsf (zi hg h2) ?_;refine Zc hG ?_ (s:=(Z1w G hG x));refine Z1 ?_;refine hL8 _ ⟨hk1,(),trivial,Zg (by rw [hN,h2];simp -implicitDefEqProofs only[go_sem,seval,↓reduceIte];cases Zya x<;>exact ⟨rfl,congrArg _ (w64 (by omega) (by omega))⟩) zp⟩
   | false =>
    rw [h1,Bool.false_and] at hN;refine Z1f (zi hg h1) ?_;refine Z1 ?_;refine hL8 _ ⟨hk1,(),trivial,Zg (by rw [hN];simp -implicitDefEqProofs only[go_sem,seval,↓reduceIte];try exact congrArg _ (w64 (by omega) (by omega))) zp⟩
  ·have hk1:k=s.length:=by simp at h10;omega
   rw [hk1,List.take_length];refine Z0 ?_;refine hK7 _ ?_;refine Zi fun K12 hK12=>?_;refine Z1 ?_;refine Zd rfl (fun h13=>?_) (fun h13=>?_)
   ·refine Z ?_
    rw [hW,if_pos h13]<;>rfl
   refine Z0 ?_;refine hK12 _ ?_;refine Z1 ?_;refine Zd rfl (fun h15=>?_) (fun h15=>?_)
   ·refine Z ?_
    rw [hW,if_neg (by rw [h13];simp),if_pos h15];rfl
   refine Z ?_;rw [hW,if_neg (by rw [h13];simp),if_neg (by rw [h15];simp)];rfl
theorem Zh4 (G:Nat→V) (hG:GOk G) (s:List UInt8) (hs:s.length<1000000):Spec Tryz.prog G 81 [.str s] Zu (fun v _=>v = .int .u8 (isP s)):=by
 refine Zo 0 8 [.tmp 2] Tryz.func81 fun X=>?_;rw [Zvs];refine Z1 ?_;refine Z1 ?_;refine Zd rfl (fun h2=>?_) (fun h2=>?_)
 ·have h2:s.length > 64:=by have h2:decide ((s.length:Int) > 64)=true:=h2;simp at h2;omega
  refine Z ?_
  rw [if_pos h2]<;>rfl
 ·have h2:¬ s.length > 64:=by have h2:decide ((s.length:Int) > 64)=false:=h2;simp at h2;omega
  refine Z1 ?_;refine Zc hG ?_ (s:=(Zyu G hG s hs));refine Z ?_;rw [if_neg h2]
end Go.Hs
end
