/- Part 37 of the proof of a statement of seat YtohdjmgdaaipaaaGreatDoor: HsHLex4 HsHLexR HsHLexT. -/
import Derived.Test.YtohdjmgdaaipaaaGreatDoorPart34
import Derived.Test.YtohdjmgdaaipaaaGreatDoorPart36
set_option linter.unusedSimpArgs false
set_option linter.unusedVariables false
section
namespace Go.Hs
open Go.Proofs
set_option maxRecDepth 10000
theorem Z7ba {m:Nat} (h:m<1000000000000010):((m:Int) > IntKind.i64.max)=False:=by
 rw [eq_iff_iff,iff_false,show IntKind.i64.max=9223372036854775807 from rfl];omega
def encFk (p:Nat × Nat):V := .tuple [.int .i64 p.1,.int .u8 p.2]
theorem Z2o (G:Nat→V) (hE:GExp G) (s:List UInt8) (hs:s.length<1000000000000000):Spec Tryz.prog G 87 [.str s] Zl (fun v _=>v=encFk (Zba s)):=by
 have hG:=hE.ok;refine Zo 0 42 [.tmp 2,.tmp 3] Tryz.func87 fun X=>?_;refine Z1 ?_;intro g1;refine Zy ?_;refine AW.block ?_
 cases s with
 | nil =>
  refine Z1 ?_;refine Za rfl (fun h2=>?_) (fun h2=>?_)
  ·exact Zr
  ·cases h2
 | cons c r =>
  cases hp:Zfa [45,45] (c::r) with
  | true =>
   refine Z1 ?_;refine Zn hG ?_ (s:=(Zie G _ _));refine Zsf hp ?_;refine Za rfl (fun h2=>?_) (fun h2=>?_)
   ·refine Z ?_
    rw [Zqc,if_pos hp]<;>rfl
   ·cases h2
  | false =>
   refine Z1 ?_;refine Zn hG ?_ (s:=(Zie G _ _));refine Zsf hp ?_;refine Zta rfl ?_
   try clear h2
   refine Z1 ?_;refine Zc hG ?_ (s:=(Zwj G hG c));refine Za rfl (fun h3=>?_) (fun h3=>?_)
   ·refine Z1 ?_
    refine Zc hG ?_ (s:=(Z4k G hG _ (by omega) (fDigit hG)));refine Z ?_
    rw [Zpg h3]<;>rfl
   ·refine Z1 ?_
    refine Zc hG ?_ (s:=(Zzh G hG c));refine Za rfl (fun h4=>?_) (fun h4=>?_)
    ·have hn:=Z8d Zzd (c::r)
     have hw:=Z9p ((c::r).take (Zxc Zzd (c::r))) (Zse Zzd (c::r));have hf:=Z7i (r:=r) h4;refine Z1 ?_;refine Zc hG ?_ (s:=(Z4k G hG _ (by omega) (fAl hG)));generalize Zxc Zzd (c::r)=n at hn hw hf ⊢;have hn:n≤r.length+1:=hn;refine Zy ?_
     have hl0:(List.take n (c::r)).length≤1000000000000000:=by rw [List.length_take];omega
     have hl1:=Z7ba (m:=1+(List.take n (c::r)).length) (by omega);have hl2:=Z7ba (m:=(List.take n (c::r)).length+1+1) (by omega);refine Zdc (by kernel_rfl) ?_;simp -implicitDefEqProofs only[go_sem,seval,↓reduceIte,hl1,hl2,hn,Nat.zero_le,Nat.sub_zero,List.append_eq,List.cons_append,List.nil_append];refine Zc hG ?_ (s:=(Z8s G hE Zeba _ (by decide)));rw [hw];refine Za rfl (fun h6=>?_) (fun h6=>?_)
     ·refine Z ?_
      rw [hf,if_pos h6]<;>rfl
     ·refine Z ?_
      rw [hf,if_neg (by rw [h6];simp)];rfl
    ·refine Z0 ?_
     have hf:=Zue (c:=c) (r:=r) (by unfold Zzd;rw [h3,h4]<;>rfl) hp;obtain ⟨cg,hsg⟩:=hE.sg
     refine Zy <| Zuf 0 (by kernel_rfl) rfl rfl ?_
     simp -implicitDefEqProofs only[go_sem,seval,↓reduceIte,List.take_zero];refine ⟨_,Z7p Tryz.underlying206 (by kernel_rfl) (c:=cg) (cs:=signsL.map V.str) (zpf hsg) rfl (fun v hv=>by obtain ⟨t,_,rfl⟩:=List.mem_map.1 hv;rfl),?_⟩;refine Z8c hG [Zd cg.ent 1 V.str (.mk true signsL),.func (.func 152) [] [.view .old (.str (c::r))]] (by kernel_rfl) ⟨?_,Zy2 ⟨?_,trivial⟩,trivial⟩ ?_
     ·exact Znl (Ziy (c:=cg) (m:=1) (fun x y hy=>by simp [V.cells] at hy;subst hy;exact .str _) (.mk true signsL)) (Zxl _ _ _ (.mk true signsL))
     ·exact Rd.ptr (v := .str (c::r)) (c := .new) (fz:=0) zp (by intro y hy;simp [V.cells] at hy;subst hy;exact .str _) zp
     refine (Zco G hG _ (.mk true signsL) (by decide) (fPre hG (c::r))).mono ?_;rintro _ _ rfl;refine ⟨.int _ _,?_⟩;refine Zs ?_
     have hN:Zj1 (c::r)=match signsL.findIdx? (Zfa · (c::r)) with | some i=>(signsL.getD i []).length | none=>0:=by
      unfold Zj1;rw [List.find?_eq_bind_findIdx?_getElem?]
      cases hi:signsL.findIdx? (Zfa · (c::r)) with
      | none=>rfl
      | some i =>
       have hlt:i<signsL.length:=(List.findIdx?_eq_some_iff_getElem.1 hi).1;simp only [Option.bind_some,List.getElem?_eq_getElem hlt,List.getD_eq_getElem?_getD,Option.getD_some]
     have hI:Z34 (Zfa · (c::r)) signsL=match signsL.findIdx? (Zfa · (c::r)) with | some i=>(i:Int) | none => -1:=rfl
     have hne:∀ i,signsL.findIdx? (Zfa · (c::r))=some i→i<14∧(signsL.getD i []).length≠0:=fun i hi=>by
      have h1:=List.findIdx?_eq_some_iff_getElem.1 hi;obtain ⟨hlt,_⟩:=h1;have hlt:i<14:=hlt;refine ⟨hlt,?_⟩
      have:∀ i,i<14→(signsL.getD i []).length≠0:=by decide
      exact this i hlt
     rw [hI];rw [hN] at hf
     cases hi:signsL.findIdx? (Zfa · (c::r)) with
     | none =>
      rw [hi] at hf;refine Z1 ?_;refine Za rfl (fun h7=>?_) (fun h7=>?_)
      ·refine Z ?_
       rw [hf]<;>rfl
      ·cases h7
     | some i =>
      rw [hi] at hf;obtain ⟨hi14,hi0⟩:=hne i hi;refine Z1 ?_;refine Za rfl (fun h7=>?_) (fun h7=>?_)
      ·have h7:decide ((i:Int)<0)=true:=h7
       simp at h7;omega
      ·refine Z0 ?_
       have hge:(signsL.map V.str)[i]? = some (.str (signsL.getD i [])):=by
        have hlt:i<signsL.length:=hi14
        rw [List.getElem?_map,List.getElem?_eq_getElem hlt,List.getD_eq_getElem?_getD,List.getElem?_eq_getElem hlt]<;>rfl
       have hi14':(i:Int)<14:=by omega
       refine Zf (zi hsg (zi hge (zi hi14' (zi @Int.natCast_nonneg @Nat.mul_one)))) ?_;rw [hf]
       show _=encFk ((signsL.getD i []).length,if (signsL.getD i []).length=0 then 0 else 4)
       rw [if_neg hi0]<;>rfl
theorem Zrn (G:Nat→V) (hE:GExp G) (s:List UInt8) (hs:s.length<1000000000000000):Spec Tryz.prog G 101 [.str s] Zl (fun v _=>v = .int .u8 (isP s)):=by
 have hG:=hE.ok;refine Zo 0 19 [.tmp 2] Tryz.func101 fun X=>?_;refine Z1 ?_;refine Z1 ?_;refine Zn hG ?_ (s:=(Z2o G hE s hs))
 have hI:isP s=if (Zba s).1≠s.length∨(Zba s).1 > 64 then 0 else (Zba s).2:=rfl
 generalize Zba s=p at hI ⊢;obtain ⟨n,k⟩:=p;refine Zsf @encFk.eq_1 ?_;refine Zy ?_
 by_cases h1:n=s.length
 ·have e1:((n:Int) != (s.length:Int))=false:=by simp [h1]
  refine Z1f e1 ?_;refine Za rfl (fun h2=>?_) (fun h2=>?_)
  ·have h2:n > 64:=by have h2:decide ((n:Int) > 64)=true:=h2;simp at h2;omega
   refine Z ?_
   rw [hI,if_pos (.inr h2)]<;>rfl
  ·have h2:¬ n > 64:=by have h2:decide ((n:Int) > 64)=false:=h2;simp at h2;omega
   refine Z ?_;rw [hI,if_neg (fun h=>h.elim (fun h=>h h1) h2)]
 ·have e1:((n:Int) != (s.length:Int))=true:=by
   have h1:¬ ((n:Int)=(s.length:Int)):=by omega
   simpa using h1
  refine Z1f e1 ?_;refine Za rfl (fun h2=>?_) (fun h2=>?_)
  ·refine Z ?_
   rw [hI,if_pos (.inl h1)]<;>rfl
  ·cases h2
def Z8a (t:Tk):V := .agg [.int .u8 t.kind,.str t.text,.int .i64 t.pos]
theorem Zdh (t:Tk):(Z8a t).cells.length=3:=rfl
def encTks (c:Col) (l:List Tk):V:=Zd c 3 Z8a (Zea l)
def encTok (r:List Tk × Int × Int):V := .tuple [encTks .new r.1,.int .i64 r.2.1,.int .i64 r.2.2]
theorem Zsv:∀ (f:Nat) (s:List UInt8) (i:Nat) (acc:List Tk),(Z3b f s i acc).1.length≤acc.length+(s.length-i)
 | 0,s,i,acc=>by rw [Z3b];exact Nat.le_add_right _ _
 | f+1,s,i,acc=>by
  rw [Z3b]
  split
  ·split
   ·exact Nat.zero_le _
   ·rename_i h1 h2
    have:=Zsv f s (i+(Zba (s.drop i)).1+blk (s.drop (i+(Zba (s.drop i)).1))) (acc++[⟨(Zba (s.drop i)).2,(s.drop i).take (Zba (s.drop i)).1,i⟩]);simp only [List.length_append,List.length_singleton] at this;omega
  ·exact Nat.le_add_right _ _
theorem Zym (G:Nat→V) (hE:GExp G) (s:List UInt8) (hs:s.length<100000):Spec Tryz.prog G 40 [.str s] Zl (fun v _=>v=encTok (Zbb s)):=by
 have hG:=hE.ok;refine Zo 0 52 [.tmp 2,.tmp 3,.tmp 4] Tryz.func40 fun X=>?_;refine Z1 ?_;refine Z1 ?_
 have hT:Zbb s=if s.length > 65536 then ([],0,3) else Z3b (s.length+1) s (blk s) []:=rfl
 refine Za rfl (fun h2=>?_) (fun h2=>?_)
 ·have h2:s.length > 65536:=by have h2:decide ((s.length:Int) > 65536)=true:=h2;simp at h2;omega
  refine Z ?_
  rw [hT,if_pos h2]<;>rfl
 ·have h2:¬ s.length > 65536:=by have h2:decide ((s.length:Int) > 65536)=false:=h2;simp at h2;omega
  rw [if_neg h2] at hT;refine Z1 ?_;refine Zc hG ?_ (s:=(Zzm G hG s (by omega)));have hb:=Ztr s;refine AW.block ?_
  refine Zwc (fun (x:Nat × Nat × List Tk)=>st [(0,.str s),(2,grown 47 x.1 3 x.2.2),(3,.int .i64 x.2.1)] [(47,Zjb x.1 Z8a x.2.2)]) (fun x=>x.2.1≤s.length∧x.2.2.length≤x.2.1∧Zbb s=Z3b (s.length+1) s x.2.1 x.2.2) (fun x=>s.length-x.2.1) (0,blk s,[]) ⟨hb,Nat.zero_le _,hT⟩
   (Zb zp zp) ?_
  rintro ⟨gx,i,acc⟩ ⟨hi,hal,hR⟩ L2 hL2;have hi:i≤s.length:=hi;have hal:acc.length≤i:=hal;have hR:Zbb s=Z3b (s.length+1) s i acc:=hR;refine Z1 ?_;refine Za rfl (fun h4=>?_) (fun h4=>?_)
  ·have hi1:i<s.length:=by simpa using h4
   refine Z0 ?_;refine Zy ?_;refine AW.block ?_;have hfl:=Zqg (s.drop i);rw [List.length_drop] at hfl;have hst:=Zgg (f:=s.length+1) (acc:=acc) hi1 (by omega);have hbd:=Z5n (f:=s.length+1) (acc:=acc) hi1 (by omega);refine Z1f (zi hi @Nat.le_refl) ?_;refine Zn hG ?_ (s:=(Z2o G hE (s.drop i) (by simp;omega)));generalize Zba (s.drop i)=p at hfl hst hbd ⊢;obtain ⟨n,k⟩:=p;simp only at hfl hst hbd;refine Zsf @encFk.eq_1 ?_;refine Zy ?_
   by_cases hn0:n=0
   ·have e0:((n:Int)==0)=true:=by simp [hn0]
    refine Z1f e0 ?_;refine Za rfl (fun h9=>?_) (fun h9=>?_)
    ·refine Z ?_
     rw [hR,hbd (.inl hn0)]<;>rfl
    ·cases h9
   ·have e0:((n:Int)==0)=false:=by
     rw [beq_eq_false_iff_ne];omega
    refine Z1f e0 ?_;refine Za rfl (fun h9=>?_) (fun h9=>?_)
    ·have h9:n > 64:=by have h9:decide ((n:Int) > 64)=true:=h9;simp at h9;omega
     refine Z ?_
     rw [hR,hbd (.inr h9)]<;>rfl
    ·have h9:¬ n > 64:=by have h9:decide ((n:Int) > 64)=false:=h9;simp at h9;omega
     refine Z0 ?_;have hst:=hst (fun h=>h.elim hn0 h9)
     have hw:IntKind.i64.wrap ((i:Int)+(n:Int))=((i+n:Nat):Int):=by rw [w64 (by omega) (by omega)];omega
     have hin:i≤i+n:=by omega
     have hin2:i+n≤s.length:=by omega
     have hsub:i+n-i=n:=by omega
     refine Z1f (zi hw (zi hin (zi hin2 hsub))) ?_;intro g46;refine Zpb (f:=Z8a) (l:=acc) (l2:=[⟨k,(s.drop i).take n,i⟩]) (g:=gx) Zdh rfl rfl rfl zp (Zda (by omega) (by simp;omega)) fun g47=>?_;refine Zs ?_;refine Z1f hw ?_;have hbl:=Ztr (s.drop (i+n));rw [List.length_drop] at hbl
     have hw2:IntKind.i64.wrap (((i+n:Nat):Int)+(blk (s.drop (i+n)):Nat))=((i+n+blk (s.drop (i+n)):Nat):Int):=by rw [w64 (by omega) (by omega)];omega
     refine Z1f (zi hin2 @Nat.le_refl) ?_;refine Zc hG ?_ (s:=(Zzm G hG (s.drop (i+n)) (by simp;omega)));refine hL2 _ ⟨(g47,i+n+blk (s.drop (i+n)),acc++[⟨k,(s.drop i).take n,i⟩]),?_,⟨?_,?_,?_⟩,Zb (by simp -implicitDefEqProofs only[go_sem,seval,↓reduceIte];exact congrArg _ hw2) zp⟩
     ·show s.length-(i+n+blk (s.drop (i+n)))<s.length-i
      omega
     ·show i+n+blk (s.drop (i+n))≤s.length
      omega
     ·show (acc++[_]).length≤i+n+blk (s.drop (i+n))
      simp only [List.length_append,List.length_singleton];omega
     ·rw [hR];exact hst
  ·have hi1:¬ i<s.length:=by simpa using h4
   refine Z0 ?_;refine AW.weak (Z2 (fun o=>o==47) (l:=[(2,encTks .new acc)]) (m:=[]) ?_ trivial) ?_
   ·refine Zs ?_
    exact Zyb rfl rfl Zdh
   refine Z ?_
   rw [hR,Zaf hi1]<;>rfl
end Go.Hs
end

section
namespace Go.Hs
open Go.Proofs
set_option maxRecDepth 10000
theorem Zv1 (G:Nat→V) (hG:GOk G) (c:UInt8):Spec Tryz.prog G 141 [.int .u8 c.toNat] Zl (fun v _=>v = .bool (Zja c)):=by
 refine Zo 0 9 [.tmp 2] Tryz.func141 fun X=>?_
 have key:Zja c=(decide ((c.toNat:Int)≥48) && decide ((c.toNat:Int)≤57)):=by
  unfold Zja
  congr 1
  ·rw [decide_eq_decide];omega
  ·rw [decide_eq_decide];omega
 rw [key];refine Zh fun K hK=>AW.region (by kernel_rfl) ?_;refine Zs ?_;refine hK _ ?_
 try clear hK K
 cases h1:decide ((c.toNat:Int)≥48)<;>cases h2:decide ((c.toNat:Int)≤57)<;>((refine Zh fun K hK=>AW.region (by kernel_rfl) ?_;simp -implicitDefEqProofs only[go_sem,seval,↓reduceIte,h1,h2];refine hK _ ?_;clear hK K);(refine AW.ret ?_;simp -implicitDefEqProofs only[go_sem,seval,↓reduceIte];refine Zia ?_);rfl)
theorem Zu1 (G:Nat→V) (hG:GOk G) (c:UInt8):Spec Tryz.prog G 140 [.int .u8 c.toNat] Zl (fun v _=>v = .bool (Zhj c)):=by
 refine Zo 0 21 [.tmp 2] Tryz.func140 fun X=>?_
 have key:Zhj c=((decide ((c.toNat:Int)≥65) && decide ((c.toNat:Int)≤90) || (decide ((c.toNat:Int)≥97) && decide ((c.toNat:Int)≤122))) || c==95):=by
  have:=Z1n (fun c=>Zhj c==((decide ((c.toNat:Int)≥65) && decide ((c.toNat:Int)≤90) || (decide ((c.toNat:Int)≥97) && decide ((c.toNat:Int)≤122))) || c==95)) (by decide +kernel) c;simpa using this
 rw [key];refine Zh fun K hK=>AW.region (by kernel_rfl) ?_;refine Zs ?_;refine hK _ ?_
 try clear hK K
 cases h1:decide ((c.toNat:Int)≥65)<;>cases h2:decide ((c.toNat:Int)≤90)<;>cases h3:decide ((c.toNat:Int)≥97)<;>cases h4:decide ((c.toNat:Int)≤122)<;>cases h5:(c==95)<;>((refine Zh fun K hK=>AW.region (by kernel_rfl) ?_;simp -implicitDefEqProofs only[go_sem,seval,↓reduceIte,Z48,h1,h2,h3,h4,h5];refine hK _ ?_;clear hK K);(refine AW.ret ?_;simp -implicitDefEqProofs only[go_sem,seval,↓reduceIte];refine Zia ?_);rfl)
theorem Z55 (G:Nat→V) (hG:GOk G) (s:List UInt8) (hs:s.length<1000000) (i:Nat) (hi:i≤s.length):Spec Tryz.prog G 138 [.str s,.int .i64 i] Zl (fun v _=>v = .bool (Zfa [45,45] (s.drop i))):=by
 refine Zo 0 23 [.tmp 4] Tryz.func138 fun X=>?_
 have hw:IntKind.i64.wrap ((i:Int)+1)=((i+1:Nat):Int):=by rw [w64 (by omega) (by omega)];omega
 refine Zh fun K hK=>AW.region (by kernel_rfl) ?_;refine Zs ?_;refine hK _ ?_
 try clear hK K
 by_cases h:i+1<s.length
 ·have h1:decide (((i+1:Nat):Int)<s.length)=true:=zT
  have g1:=Zdm (l:=s) (k:=i) (by omega);have g2:=Zdm h
  have hd:s.drop i=s[i]::s[i+1]::s.drop (i+2):=by rw [List.drop_eq_getElem_cons (by omega),List.drop_eq_getElem_cons h]
  generalize s[i]=a at g1 hd;generalize s[i+1]=b at g2 hd;rw [hd,Zcb,Zcb,Z0c];rw [show ((45:UInt8)==a)=(a==45) from Bool.beq_comm,show ((45:UInt8)==b)=(b==45) from Bool.beq_comm]
  cases ha:(a==45)<;>cases hb:(b==45)<;>((refine Zh fun K hK=>AW.region (by kernel_rfl) ?_;simp -implicitDefEqProofs only[go_sem,seval,↓reduceIte,hw,h1,g1,g2,u8q45,ha,hb];refine hK _ ?_;clear hK K);(refine AW.ret ?_;simp -implicitDefEqProofs only[go_sem,seval,↓reduceIte];refine Zia ?_);rfl)
 ·have h1:decide (((i+1:Nat):Int)<s.length)=false:=zF
  have:Zfa [45,45] (s.drop i)=false:=by
   rw [Bool.eq_false_iff];intro hp;have:=(Z3f hp).2;rw [List.length_drop] at this;omega
  rw [this];refine Zh fun K hK=>AW.region (by kernel_rfl) ?_;refine Zsf (zi hw h1) ?_;refine hK _ ?_
  try clear hK K
  exact Zr
theorem Zno (G:Nat→V) (hG:GOk G) (s:List UInt8) (hs:s.length<1000000) (i:Nat) (hi:i≤s.length):Spec Tryz.prog G 80 [.str s,.int .i64 i] Zl (fun v _=>v = .int .i64 ((i+blk (s.drop i):Nat):Int)):=by
 refine Zo 0 52 [.tmp 4] Tryz.func80 fun X=>?_;refine Z1 ?_;refine Zy ?_;refine AW.block ?_
 refine Zwc (fun (k:Nat)=>st [(0,.str s),(1,.int .i64 k)] []) (fun k=>k≤s.length∧i+blk (s.drop i)=k+blk (s.drop k)) (fun k=>s.length-k) i ⟨hi,rfl⟩
  (Zb zp zp) ?_
 rintro k ⟨hk,hR⟩ L2 hL2;refine Z1 ?_;refine Za rfl (fun h4=>?_) (fun h4=>?_)
 ·have hk1:k<s.length:=by simpa using h4
  have g1:=Zdm hk1;have hd:s.drop k=s[k]::s.drop (k+1):=List.drop_eq_getElem_cons hk1;generalize s[k]=c at g1 hd;refine Z0 ?_;refine AW.block ?_;refine AW.block ?_
  have hbl:Znh c=(c==9 || c==10 || c==13 || c==32):=by
   have:=Z1n (fun c=>Znh c==(c==9 || c==10 || c==13 || c==32)) (by decide +kernel) c;simpa using this
  refine Z9 (fun (_:Unit)=>st [(0,.str s),(1,.int .i64 k),(10,.bool (Znh c))] []) (fun _=>True) (fun K5 hK5=>?_) ?_
  ·rw [hbl] at hK5
   cases h1:(c==9)<;>cases h2:(c==10)<;>cases h3:(c==13)<;>cases h5:(c==32)<;>(rw [h1,h2,h3,h5] at hK5;refine AW.region (by kernel_rfl) ?_;simp -implicitDefEqProofs only[go_sem,seval,↓reduceIte,g1,u8q9,Z58,Zc5,Zb5,h1,h2,h3,h5];exact hK5 _ () trivial (Zb zp zp))
  intro _ _;refine Za rfl (fun h6=>?_) (fun h6=>?_)
  ·rw [hd,Z2m h6] at hR
   refine Z1 ?_;refine hL2 _ ⟨k+1,by omega,⟨by omega,by omega⟩,Zb (by simp -implicitDefEqProofs only[go_sem,seval,↓reduceIte];exact congrArg _ (by rw [w64 (by omega) (by omega)];omega)) zp⟩
  ·refine Z1 ?_
   refine Zc hG ?_ (s:=(Z55 G hG s hs k hk));refine Za rfl (fun h7=>?_) (fun h7=>?_)
   ·rw [Zhm h7,List.drop_drop] at hR
    have hr:=Z8d Z4l (s.drop k);have h2:=Z3f h7;rw [List.length_drop] at hr;refine AW.block ?_
    refine Zwc (fun (j:Nat)=>st [(0,.str s),(1,.int .i64 j)] []) (fun j=>j≤s.length∧k≤j∧k+Zxc Z4l (s.drop k)=j+Zxc Z4l (s.drop j)) (fun j=>s.length-j) k ⟨hk,Nat.le_refl _,rfl⟩
     (Zb zp zp) ?_
    rintro j ⟨hj,hkj,hJ⟩ L8 hL8;refine Zy ?_
    by_cases hj1:j<s.length
    ·have e1:decide ((j:Int)<s.length)=true:=zT
     have g2:=Zdm hj1;have hd2:s.drop j=s[j]::s.drop (j+1):=List.drop_eq_getElem_cons hj1;generalize s[j]=b at g2 hd2;rw [hd2,Zjg] at hJ
     cases hb:(b==10) with
     | true =>
      refine Zdc (by kernel_rfl) ?_;simp -implicitDefEqProofs only[go_sem,seval,↓reduceIte,e1,g2,bne,Z58,hb];refine Zta rfl ?_
      ·refine Z0 ?_
       have:Z4l b=false:=by unfold Z4l;rw [hb]<;>rfl
       rw [this,if_neg (by simp)] at hJ;refine hL2 _ ⟨j,by omega,⟨hj,by have hJ':k+Zxc Z4l (s.drop k)=j:=hJ;rw [hR,hJ'];omega⟩,Zb zp zp⟩
     | false =>
      refine Zdc (by kernel_rfl) ?_;simp -implicitDefEqProofs only[go_sem,seval,↓reduceIte,e1,g2,bne,Z58,hb];refine Za rfl (fun h10=>?_) (fun h10=>?_)
      ·have:Z4l b=true:=by unfold Z4l;rw [hb]<;>rfl
       rw [this,if_pos rfl] at hJ;refine Z1 ?_;refine hL8 _ ⟨j+1,by omega,⟨by omega,by omega,by omega⟩,Zb (by simp -implicitDefEqProofs only[go_sem,seval,↓reduceIte];exact congrArg _ (by rw [w64 (by omega) (by omega)];omega)) zp⟩
      ·cases h10
    ·have e1:decide ((j:Int)<s.length)=false:=zF
     have hj2:j=s.length:=by omega
     refine Z1f e1 ?_;refine Zta rfl ?_
     ·refine Z0 ?_
      have h0:s.drop j=[]:=by rw [hj2,List.drop_length]
      rw [h0] at hJ;refine hL2 _ ⟨j,by omega,⟨hj,by have hJ':k+Zxc Z4l (s.drop k)=j:=hJ;rw [hR,hJ'];omega⟩,Zb zp zp⟩
   ·rw [hd] at h7 hR
    rw [Zmp h6 h7] at hR;refine Z ?_
    rw [hR]<;>rfl
 ·have hk1:¬ k<s.length:=by simpa using h4
  refine Z ?_;have h0:s.drop k=[]:=List.drop_eq_nil_of_le (by omega)
  rw [hR,h0]<;>rfl
theorem Zoo (G:Nat→V) (hG:GOk G) (c:Col) (t:List UInt8) (s:Sl (List UInt8)) (hs:s.l.length<1000000) :
  Spec Tryz.prog G 139 [.str t,Zd c 1 V.str s] Zl (fun v _=>v = .bool (s.l.contains t)):=by
 refine Zo 0 18 [.tmp 4] Tryz.func139 fun X=>?_;refine Z1 ?_;refine Z1 ?_;refine AW.block ?_
 refine Zua s.l.length (fun k (_:Unit)=>st [(0,.str t),(1,Zd c 1 V.str s),(5,.int .i64 k)] []) (fun k _=>(s.l.take k).contains t=false) 0 () (Nat.zero_le _) rfl
  (Zb zp zp) ?_
 intro k _ hk hR L2 hL2;refine Z1 ?_;refine Za rfl (fun h4=>?_) (fun h4=>?_)
 ·have hk1:k<s.l.length:=by simpa using h4
  have hg:=List.getElem?_eq_getElem hk1
  have htk:s.l.take (k+1)=s.l.take k++[s.l[k]]:=by rw [List.take_succ_eq_append_getElem hk1]
  have hmem:=List.getElem_mem hk1;generalize s.l[k]=x at hg htk hmem;refine Z1f hg ?_;refine Za rfl (fun h6=>?_) (fun h6=>?_)
  ·have h6:x=t:=by simpa using h6
   refine Z ?_
   have:s.l.contains t=true:=by rw [← h6];simpa using hmem
   rw [this]
  ·have h6:¬ x=t:=by simpa using h6
   refine Z1 ?_;refine hL2 _ ⟨hk1,(),?_,Zb zw zp⟩;rw [htk];simp only [List.contains_eq_mem,decide_eq_false_iff_not] at hR ⊢;intro hm
   rcases List.mem_append.1 hm with h | h
   ·exact hR h
   ·exact h6 ((List.mem_singleton.1 h).symm)
 ·have hk1:k=s.l.length:=by simp at h4;omega
  refine Z ?_;rw [hk1,List.take_length] at hR;rw [hR]
theorem Zpj (G:Nat→V) (hG:GOk G) (s:List UInt8) (hs:s.length<1000000000000000):Spec Tryz.prog G 82 [.str s] Zl (fun v _=>v = .int .u8 (Z6b s)):=by
 refine Zo 0 45 [.tmp 2] Tryz.func82 fun X=>?_
 have hW1:signsL.contains s=true→Z6b s=4:=fun h=>by unfold Z6b;rw [if_pos h]
 have hW2:signsL.contains s=false→wordsL.contains s=true→Z6b s=3:=fun h h2=>by unfold Z6b;rw [if_neg (by rw [h];simp),if_pos h2]
 have hW3:∀ c r,s=c::r→signsL.contains s=false→wordsL.contains s=false→Z6b s=if s.all Zja then 1 else if Zhj c && s.all Zzd then 2 else 0:=by
  rintro c r rfl h h2;unfold Z6b;rw [if_neg (by rw [h];simp),if_neg (by rw [h2];simp)]
 refine Z1 ?_;refine Z1 ?_;intro g;refine Z8c hG [.str s,Zd .old 1 V.str (.mk false signsL)] (by kernel_rfl) ⟨Znl (.str _) rfl,Rd.msl (off:=0) (n:=14) (l:=signsL) (f:=V.str) (f':=V.str) (g:=g) (fz:=0) (c := .new) zp (fun _=>rfl) (fun x y hy=>by simp [V.cells] at hy;subst hy;exact .str _) (fun _=>rfl) (by decide),trivial⟩ ?_;refine (Zoo G hG _ s (.mk false signsL) (by decide)).mono ?_;rintro _ _ rfl;refine ⟨.bool _,?_⟩;refine Zs ?_;refine Za rfl (fun h2=>?_) (fun h2=>?_)
 ·refine Z ?_
  rw [hW1 h2]<;>rfl
 refine Z1 ?_;intro g;refine Z8c hG [.str s,Zd .old 1 V.str (.mk false wordsL)] (by kernel_rfl) ⟨Znl (.str _) rfl,Rd.msl (off:=0) (n:=14) (l:=wordsL) (f:=V.str) (f':=V.str) (g:=g) (fz:=0) (c := .new) zp (fun _=>rfl) (fun x y hy=>by simp [V.cells] at hy;subst hy;exact .str _) (fun _=>rfl) (by decide),trivial⟩ ?_;refine (Zoo G hG _ s (.mk false wordsL) (by decide)).mono ?_;rintro _ _ rfl;refine ⟨.bool _,?_⟩;refine Zs ?_;refine Za rfl (fun h4=>?_) (fun h4=>?_)
 ·refine Z ?_
  rw [hW2 h2 h4]<;>rfl
 refine Z0 ?_;refine Zy ?_
 cases s with
 | nil =>
  refine Z1 ?_;refine Za rfl (fun h6=>?_) (fun h6=>?_)
  ·exact Zr
  ·cases h6
 | cons c r =>
  have hW:=hW3 c r rfl h2 h4;refine Z1 ?_;refine Z1 ?_;refine Z1 ?_;refine Zc hG ?_ (s:=(Zu1 G hG c));refine Zh fun K7 hK7=>?_;refine Z1 ?_;refine AW.block ?_;generalize hs0:c::r=s at hs hW hK7 ⊢
  refine Zua s.length (fun k (_:Unit)=>st [(0,.str s),(3,.bool ((s.take k).all Zja)),(4,.bool (Zhj c && (s.take k).all Zzd)),(5,.int .i64 k)] []) (fun k _=>True) 0 () (Nat.zero_le _) trivial
   (Zb (by simp -implicitDefEqProofs only[go_sem,seval,↓reduceIte];rw [List.all_nil,List.all_nil,Bool.and_true];exact ⟨rfl,rfl⟩) zp) ?_
  intro k _ hk hR L8 hL8;refine Z1 ?_;refine Za rfl (fun h10=>?_) (fun h10=>?_)
  ·have hk1:k<s.length:=by simpa using h10
   have hg:=Zdm hk1
   have htk:s.take (k+1)=s.take k++[s[k]]:=by rw [List.take_succ_eq_append_getElem hk1]
   generalize s[k]=x at hg htk;refine Z0 ?_;refine Zy ?_;refine AW.block ?_
   have ha:∀ p:UInt8→Bool,(s.take (k+1)).all p=((s.take k).all p && p x):=fun p=>by rw [htk,List.all_append];simp
   refine Z9 (fun (_:Unit)=>st [(0,.str s),(3,.bool ((s.take (k+1)).all Zja)),(4,.bool (Zhj c && (s.take k).all Zzd)),(5,.int .i64 k)] []) (fun _=>True) (fun K12 hK12=>?_) ?_
   ·rw [ha Zja] at hK12
    cases h1:(s.take k).all Zja with
    | true =>
     refine Z1f (zi hg h1) ?_;refine Zc hG ?_ (s:=(Zv1 G hG x));exact hK12 _ () trivial (Zb (by simp -implicitDefEqProofs only[go_sem,seval,↓reduceIte,h1];cases Zja x<;>rfl) zp)
    | false =>
     refine Z1f (zi hg h1) ?_;exact hK12 _ () trivial (Zb (zpf h1) zp)
   intro _ _
   have hN:(Zhj c && (s.take (k+1)).all Zzd)=((Zhj c && (s.take k).all Zzd) && (Zhj x || Zja x)):=by
    rw [ha Zzd,← Bool.and_assoc]<;>rfl
   cases h1:(Zhj c && (s.take k).all Zzd) with
   | true =>
    rw [h1,Bool.true_and] at hN;refine Z1f (zi hg h1) ?_;refine Zn hG ?_ (s:=(Zu1 G hG x))
    cases h2:Zhj x with
    | true =>
     refine Zsf h2 ?_;refine Z1 ?_;refine hL8 _ ⟨hk1,(),trivial,Zb (by rw [hN,h2];simp -implicitDefEqProofs only[go_sem,seval,↓reduceIte];exact ⟨rfl,congrArg _ (w64 (by omega) (by omega))⟩) zp⟩
    | false =>
     refine Zsf (zi hg h2) ?_;refine Zc hG ?_ (s:=(Zv1 G hG x));refine Z1 ?_;refine hL8 _ ⟨hk1,(),trivial,Zb (by rw [hN,h2];simp -implicitDefEqProofs only[go_sem,seval,↓reduceIte];cases Zja x<;>exact ⟨rfl,congrArg _ (w64 (by omega) (by omega))⟩) zp⟩
   | false =>
    rw [h1,Bool.false_and] at hN;refine Z1f (zi hg h1) ?_;refine Z1 ?_;refine hL8 _ ⟨hk1,(),trivial,Zb (by rw [hN];simp -implicitDefEqProofs only[go_sem,seval,↓reduceIte];try exact congrArg _ (w64 (by omega) (by omega))) zp⟩
  ·have hk1:k=s.length:=by simp at h10;omega
   rw [hk1,List.take_length];refine Z0 ?_;refine hK7 _ ?_;refine Zh fun K12 hK12=>?_;refine Z1 ?_;refine Za rfl (fun h13=>?_) (fun h13=>?_)
   ·refine Z ?_
    rw [hW,if_pos h13]<;>rfl
   refine Z0 ?_;refine hK12 _ ?_;refine Z1 ?_;refine Za rfl (fun h15=>?_) (fun h15=>?_)
   ·refine Z ?_
    rw [hW,if_neg (by rw [h13];simp),if_pos h15];rfl
   refine Z ?_;rw [hW,if_neg (by rw [h13];simp),if_neg (by rw [h15];simp)];rfl
theorem Zyi (G:Nat→V) (hG:GOk G) (s:List UInt8) (hs:s.length<1000000000000000):Spec Tryz.prog G 53 [.str s] Zl (fun v _=>v = .int .u8 (isP s)):=by
 refine Zo 0 8 [.tmp 2] Tryz.func53 fun X=>?_;rw [Z6k];refine Z1 ?_;refine Z1 ?_;refine Za rfl (fun h2=>?_) (fun h2=>?_)
 ·have h2:s.length > 64:=by have h2:decide ((s.length:Int) > 64)=true:=h2;simp at h2;omega
  refine Z ?_
  rw [if_pos h2]<;>rfl
 ·have h2:¬ s.length > 64:=by have h2:decide ((s.length:Int) > 64)=false:=h2;simp at h2;omega
  refine Z1 ?_;refine Zc hG ?_ (s:=(Zpj G hG s hs));refine Z ?_;rw [if_neg h2]
theorem Zos (G:Nat→V) (hG:GOk G) (s:List UInt8) (hs:s.length<1000000) (i:Nat) (hi:i<s.length) (hp:Zfa [45,45] (s.drop i)=false) :
  Spec Tryz.prog G 81 [.str s,.int .i64 i] Zl (fun v _=>v = .int .i64 (Zba (s.drop i)).1):=by
 refine Zo 0 35 [.tmp 4] Tryz.func81 fun X=>?_;have hdl:(s.drop i).length=s.length-i:=List.length_drop;have hend:=fun k=>Zx6 (s:=s.drop i) (by intro h;rw [h] at hdl;simp at hdl;omega) hp (k:=k);have hsucc:=fun k=>Z3e (s.drop i) (k:=k);have hle:=Z61 (s.drop i);refine Z1 ?_;refine Z1 ?_;refine Z1 ?_;refine AW.block ?_
 refine Zwc (fun (k:Nat)=>st [(0,.str s),(1,.int .i64 i),(5,.int .i64 (Zif (s.drop i) k)),(6,.int .i64 k)] []) (fun k=>1≤k∧k≤(s.drop i).length+1) (fun k=>(s.drop i).length+1-k) 1 ⟨Nat.le_refl _,by omega⟩
  (Zb (by simp -implicitDefEqProofs only[go_sem,seval,↓reduceIte];rw [Z3k]<;>rfl) zp) ?_
 rintro k ⟨hk1,hk2⟩ L2 hL2;have hlk:=hle k
 have hw:IntKind.i64.wrap ((i:Int)+(k:Int))=((i+k:Nat):Int):=by rw [w64 (by omega) (by omega)];omega
 have hw1:IntKind.i64.wrap ((k:Int)-1)=(k:Int)-1:=w64 (by omega) (by omega);refine Zy ?_
 by_cases h1:i+k≤s.length
 ·have e1:decide (((i+k:Nat):Int)≤s.length)=true:=zT
  refine Z9 (fun (_:Unit)=>st [(0,.str s),(1,.int .i64 i),(5,.int .i64 (Zif (s.drop i) k)),(6,.int .i64 k),(22,.bool (decide (k<3∨Zif (s.drop i) k=k-1)))] []) (fun _=>True) (fun K4 hK4=>?_) ?_
  ·by_cases h2:k<3
   ·have e2:decide ((k:Int)<3)=true:=zT
    have e3:decide (k<3∨Zif (s.drop i) k=k-1)=true:=by rw [decide_eq_true_iff];exact .inl h2
    rw [e3] at hK4;refine Z1f (zi hw (zi e1 e2)) ?_;exact hK4 _ () trivial (Zb zp zp)
   ·have e2:decide ((k:Int)<3)=false:=zF
    have e3:((Zif (s.drop i) k:Int)==(k:Int)-1)=decide (k<3∨Zif (s.drop i) k=k-1):=by
     by_cases h3:Zif (s.drop i) k=k-1
     ·rw [show decide (k<3∨Zif (s.drop i) k=k-1)=true by rw [decide_eq_true_iff];exact .inr h3,h3]
      rw [beq_iff_eq];omega
     ·rw [show decide (k<3∨Zif (s.drop i) k=k-1)=false by rw [decide_eq_false_iff_not];rintro (h | h);exact h2 h;exact h3 h]
      rw [beq_eq_false_iff_ne];omega
    rw [← e3] at hK4;generalize Zif (s.drop i) k=n at hK4 ⊢
    cases e4:((n:Int)==(k:Int)-1) with
    | true =>
     rw [e4] at hK4;refine Z1f (zi hw (zi hw1 (zi e1 (zi e2 e4)))) ?_;exact hK4 _ () trivial (Zb zp zp)
    | false =>
     rw [e4] at hK4;refine Z1f (zi hw (zi hw1 (zi e1 (zi e2 e4)))) ?_;exact hK4 _ () trivial (Zb zp zp)
  intro _ _;refine Za rfl (fun h4=>?_) (fun h4=>?_)
  ·refine Z0 ?_
   refine Zy ?_;refine AW.block ?_
   have hin:i≤i+k:=by omega
   have hsub:i+k-i=k:=by omega
   have hs1:=hsucc k hk1
   have hkl:((s.drop i).take k).length<1000000:=by rw [List.length_take];omega
   refine Z1f (zi hw (zi hin (zi hsub h1))) ?_;refine Zc hG ?_ (s:=(Zpj G hG _ (by omega)));generalize Z6b ((s.drop i).take k)=wk at hs1 ⊢;refine Za rfl (fun h6=>?_) (fun h6=>?_)
   ·have h6:¬ wk=0:=by simpa using h6
    rw [if_neg h6] at hs1;refine Z1 ?_;refine Z1 ?_;refine hL2 _ ⟨k+1,by omega,⟨by omega,by omega⟩,Zb (by rw [hs1];simp -implicitDefEqProofs only[go_sem,seval,↓reduceIte];exact congrArg _ (w64 (by omega) (by omega))) zp⟩
   ·have h6:wk=0:=by simpa using h6
    rw [if_pos h6] at hs1;refine Z1 ?_;refine hL2 _ ⟨k+1,by omega,⟨by omega,by omega⟩,Zb (by rw [hs1];simp -implicitDefEqProofs only[go_sem,seval,↓reduceIte];exact congrArg _ (w64 (by omega) (by omega))) zp⟩
  ·have h4:¬ (k<3∨Zif (s.drop i) k=k-1):=by simpa using h4
   refine Z ?_;rw [hend k hk1 hk2 (.inr ⟨by omega,fun h=>h4 (.inr h)⟩)]
 ·have e1:decide (((i+k:Nat):Int)≤s.length)=false:=zF
  refine Z1f (zi hw e1) ?_;refine Zta rfl ?_
  ·refine Z ?_
   rw [hend k hk1 hk2 (.inl (by omega))]
end Go.Hs
end

section
namespace Go.Hs
open Go.Proofs
set_option maxRecDepth 10000
theorem Z8v (G:Nat→V) (hG:GOk G) (s:List UInt8) (hs:s.length<100000):Spec Tryz.prog G 38 [.str s] Zl (fun v _=>v=encTok (Zbb s)):=by
 refine Zo 0 51 [.tmp 2,.tmp 3,.tmp 4] Tryz.func38 fun X=>?_;refine Z1 ?_;refine Z1 ?_
 have hT:Zbb s=if s.length > 65536 then ([],0,3) else Z3b (s.length+1) s (blk s) []:=rfl
 refine Za rfl (fun h2=>?_) (fun h2=>?_)
 ·have h2:s.length > 65536:=by have h2:decide ((s.length:Int) > 65536)=true:=h2;simp at h2;omega
  refine Z ?_
  rw [hT,if_pos h2]<;>rfl
 ·have h2:¬ s.length > 65536:=by have h2:decide ((s.length:Int) > 65536)=false:=h2;simp at h2;omega
  rw [if_neg h2] at hT;refine Z1 ?_;refine Z1 ?_;refine Zn hG ?_ (s:=(Zno G hG s (by omega) 0 (Nat.zero_le _)));rw [List.drop_zero,Nat.zero_add];refine Zs ?_;have hb:=Ztr s;have hcl:=Znp s;refine Zy ?_;refine AW.block ?_
  refine Zwc (fun (x:Nat × Nat × List Tk)=>st [(0,.str s),(5,grown 44 x.1 3 x.2.2),(6,.int .i64 x.2.1)] [(44,Zjb x.1 Z8a x.2.2)]) (fun x=>x.2.1≤s.length∧x.2.2.length≤x.2.1∧Zbb s=Z3b (s.length+1) s x.2.1 x.2.2∧Zhp (s.drop x.2.1)) (fun x=>s.length-x.2.1) (0,blk s,[]) ⟨hb,Nat.zero_le _,hT,hcl⟩
   (Zb zp zp) ?_
  rintro ⟨gx,i,acc⟩ ⟨hi,hal,hR,hC⟩ L2 hL2;have hi:i≤s.length:=hi;have hal:acc.length≤i:=hal;have hR:Zbb s=Z3b (s.length+1) s i acc:=hR;have hC:Zhp (s.drop i):=hC;refine Z1 ?_;refine Za rfl (fun h4=>?_) (fun h4=>?_)
  ·have hi1:i<s.length:=by simpa using h4
   refine Z0 ?_;refine AW.block ?_;have hpre:Zfa [45,45] (s.drop i)=false:=(hC _ _ (List.drop_eq_getElem_cons hi1)).2;have hfl:=Zqg (s.drop i);rw [List.length_drop] at hfl;have hst:=Zgg (f:=s.length+1) (acc:=acc) hi1 (by omega);have hbd:=Z5n (f:=s.length+1) (acc:=acc) hi1 (by omega);have hkd:=Znr hpre;refine Z1 ?_;refine Zn hG ?_ (s:=(Zos G hG s (by omega) i hi1 hpre));generalize Zba (s.drop i)=p at hfl hst hbd hkd ⊢;obtain ⟨n,k⟩:=p;simp only at hfl hst hbd hkd;refine Zs ?_;refine Zy ?_
   by_cases hn0:n=0
   ·have e0:((n:Int)==0)=true:=by simp [hn0]
    refine Z1f e0 ?_;refine Za rfl (fun h9=>?_) (fun h9=>?_)
    ·refine Z ?_
     rw [hR,hbd (.inl hn0)]<;>rfl
    ·cases h9
   ·have e0:((n:Int)==0)=false:=by
     rw [beq_eq_false_iff_ne];omega
    refine Z1f e0 ?_;refine Za rfl (fun h9=>?_) (fun h9=>?_)
    ·have h9:n > 64:=by have h9:decide ((n:Int) > 64)=true:=h9;simp at h9;omega
     refine Z ?_
     rw [hR,hbd (.inr h9)]<;>rfl
    ·have h9:¬ n > 64:=by have h9:decide ((n:Int) > 64)=false:=h9;simp at h9;omega
     refine Z0 ?_;have hst:=hst (fun h=>h.elim hn0 h9);obtain ⟨hkd,_⟩:=hkd hn0
     have hw:IntKind.i64.wrap ((i:Int)+(n:Int))=((i+n:Nat):Int):=by rw [w64 (by omega) (by omega)];omega
     have hin:i≤i+n:=by omega
     have hin2:i+n≤s.length:=by omega
     have hsub:i+n-i=n:=by omega
     have p1:Zni Tryz.prog G 82 [.str ((s.drop i).take n)] (.int .u8 k):=⟨by kernel_rfl,by
      refine Zs ?_;refine (Zpj G hG _ (by rw [List.length_take,List.length_drop];omega)).mono ?_;rintro _ _ rfl
      rw [hkd]<;>rfl⟩
     refine Zy <| Z5 ⟨fun i=>if i=7 then .int .u8 k else .top,fun _ => .pure⟩ (by kernel_rfl) hG (by kernel_rfl) (by kernel_rfl) ?_
     refine Zsf (zi hw (zi hin (zi hin2 hsub))) ?_;refine ⟨p1,?_⟩;intro g43;refine Zpb (f:=Z8a) (l:=acc) (l2:=[⟨k,(s.drop i).take n,i⟩]) (g:=gx) Zdh rfl rfl rfl zp (Zda (by omega) (by simp;omega)) fun g44=>?_;refine Zs ?_;have hbl:=Ztr (s.drop (i+n));rw [List.length_drop] at hbl;refine Z1f hw ?_;refine Zc hG ?_ (s:=(Zno G hG s (by omega) (i+n) hin2));refine hL2 _ ⟨(g44,i+n+blk (s.drop (i+n)),acc++[⟨k,(s.drop i).take n,i⟩]),?_,⟨?_,?_,?_,?_⟩,Zb zp zp⟩
     ·show s.length-(i+n+blk (s.drop (i+n)))<s.length-i
      omega
     ·show i+n+blk (s.drop (i+n))≤s.length
      omega
     ·show (acc++[_]).length≤i+n+blk (s.drop (i+n))
      simp only [List.length_append,List.length_singleton];omega
     ·rw [hR];exact hst
     ·have:=Znp (s.drop (i+n))
      rwa [List.drop_drop] at this
  ·have hi1:¬ i<s.length:=by simpa using h4
   refine Z0 ?_;refine AW.weak (Z2 (fun o=>o==44) (l:=[(5,encTks .new acc)]) (m:=[]) ?_ trivial) ?_
   ·refine Zs ?_
    exact Zyb rfl rfl Zdh
   refine Z ?_
   rw [hR,Zaf hi1]<;>rfl
end Go.Hs
end
