/- Part 38 of the proof of a statement of seat YtnjcehngoajnnaaGreatDoor: HsGLex4 HsGLexR HsGLexT. -/
import Derived.Test.YtnjcehngoajnnaaGreatDoorPart36
import Derived.Test.YtnjcehngoajnnaaGreatDoorPart37
set_option linter.unusedSimpArgs false
set_option linter.unusedVariables false
section
namespace Go.Hs
open Go.Proofs
set_option maxRecDepth 10000
theorem Zhda {m:Nat} (h:m<1000000):((m:Int) > IntKind.i64.max)=False:=by
 rw [eq_iff_iff,iff_false,show IntKind.i64.max=9223372036854775807 from rfl];omega
def Z2ba (p:Nat × Nat):V := .tuple [.int .i64 p.1,.int .u8 p.2]
theorem Zvp (G:Nat→V) (hE:GExp G) (s:List UInt8) (hs:s.length<100000):Spec Tryz.prog G 77 [.str s] Zp (fun v _=>v=Z2ba (Zla s)):=by
 have hG:=hE.ok;refine Zo 0 42 [.tmp 2,.tmp 3] Tryz.func77 fun X=>?_;refine Z1 ?_;intro g1;refine Z2 ?_;refine AW.block ?_
 cases s with
 | nil =>
  refine Z1 ?_;refine Zd rfl (fun h2=>?_) (fun h2=>?_)
  ·exact Zr
  ·cases h2
 | cons c r =>
  cases hp:Zna [45,45] (c::r) with
  | true =>
   refine Z1 ?_;refine Zn hG ?_ (s:=(Zve G _ _));refine Zsf hp ?_;refine Zd rfl (fun h2=>?_) (fun h2=>?_)
   ·refine Z ?_
    rw [Z3f,if_pos hp]<;>rfl
   ·cases h2
  | false =>
   refine Z1 ?_;refine Zn hG ?_ (s:=(Zve G _ _));refine Zsf hp ?_;refine Z9a rfl ?_
   try clear h2
   refine Z1 ?_;refine Zc hG ?_ (s:=(Zlk G hG c));refine Zd rfl (fun h3=>?_) (fun h3=>?_)
   ·refine Z1 ?_
    refine Zc hG ?_ (s:=(Zsl G hG _ (by omega) (fDigit hG)));refine Z ?_
    rw [Zxl h3]<;>rfl
   ·refine Z1 ?_
    refine Zc hG ?_ (s:=(Zni G hG c));refine Zd rfl (fun h4=>?_) (fun h4=>?_)
    ·have hn:=Ztf Zqe (c::r)
     have hw:=Zfr ((c::r).take (Z7c Zqe (c::r))) (Z9e Zqe (c::r));have hf:=Zfo (r:=r) h4;refine Z1 ?_;refine Zc hG ?_ (s:=(Zsl G hG _ (by omega) (fAl hG)));generalize Z7c Zqe (c::r)=n at hn hw hf ⊢;have hn:n≤r.length+1:=hn;refine Z2 ?_
     have hl0:(List.take n (c::r)).length≤100000:=by rw [List.length_take];omega
     have hl1:=Zhda (m:=1+(List.take n (c::r)).length) (by omega);have hl2:=Zhda (m:=(List.take n (c::r)).length+1+1) (by omega);refine Zwa (by kernel_rfl) ?_;simp -implicitDefEqProofs only[go_sem,seval,↓reduceIte,hl1,hl2,hn,Nat.zero_le,Nat.sub_zero,List.append_eq,List.cons_append,List.nil_append];refine Zc hG ?_ (s:=(Z8t G hE Zpca _ (by decide)));rw [hw];refine Zd rfl (fun h6=>?_) (fun h6=>?_)
     ·refine Z ?_
      rw [hf,if_pos h6]<;>rfl
     ·refine Z ?_
      rw [hf,if_neg (by rw [h6];simp)];rfl
    ·refine Z0 ?_
     have hf:=Zpj (c:=c) (r:=r) (by unfold Zqe;rw [h3,h4]<;>rfl) hp;obtain ⟨cg,hsg⟩:=hE.sg
     refine Z2 <| Zcr 0 (by kernel_rfl) rfl rfl ?_
     simp -implicitDefEqProofs only[go_sem,seval,↓reduceIte,List.take_zero];refine ⟨_,Zar Tryz.underlying212 (by kernel_rfl) (c:=cg) (cs:=signsL.map V.str) (zpf hsg) rfl (fun v hv=>by obtain ⟨t,_,rfl⟩:=List.mem_map.1 hv;rfl),?_⟩;refine Z4e hG [Za cg.ent 1 V.str (.mk true signsL),.func (.func 113) [] [.view .old (.str (c::r))]] (by kernel_rfl) ⟨?_,Z2v ⟨?_,trivial⟩,trivial⟩ ?_
     ·exact Zam (Zp9 (c:=cg) (m:=1) (fun x y hy=>by simp [V.cells] at hy;subst hy;exact .str _) (.mk true signsL)) (Zb4 _ _ _ (.mk true signsL))
     ·exact Rd.ptr (v := .str (c::r)) (c := .new) (fz:=0) zp (by intro y hy;simp [V.cells] at hy;subst hy;exact .str _) zp
     refine (Z0o G hG _ (.mk true signsL) (by decide) (fPre hG (c::r))).mono ?_;rintro _ _ rfl;refine ⟨.int _ _,?_⟩;refine Zs ?_
     have hN:Z36 (c::r)=match signsL.findIdx? (Zna · (c::r)) with | some i=>(signsL.getD i []).length | none=>0:=by
      unfold Z36;rw [List.find?_eq_bind_findIdx?_getElem?]
      cases hi:signsL.findIdx? (Zna · (c::r)) with
      | none=>rfl
      | some i =>
       have hlt:i<signsL.length:=(List.findIdx?_eq_some_iff_getElem.1 hi).1;simp only [Option.bind_some,List.getElem?_eq_getElem hlt,List.getD_eq_getElem?_getD,Option.getD_some]
     have hI:Zdr (Zna · (c::r)) signsL=match signsL.findIdx? (Zna · (c::r)) with | some i=>(i:Int) | none => -1:=rfl
     have hne:∀ i,signsL.findIdx? (Zna · (c::r))=some i→i<14∧(signsL.getD i []).length≠0:=fun i hi=>by
      have h1:=List.findIdx?_eq_some_iff_getElem.1 hi;obtain ⟨hlt,_⟩:=h1;have hlt:i<14:=hlt;refine ⟨hlt,?_⟩
      have:∀ i,i<14→(signsL.getD i []).length≠0:=by decide
      exact this i hlt
     rw [hI];rw [hN] at hf
     cases hi:signsL.findIdx? (Zna · (c::r)) with
     | none =>
      rw [hi] at hf;refine Z1 ?_;refine Zd rfl (fun h7=>?_) (fun h7=>?_)
      ·refine Z ?_
       rw [hf]<;>rfl
      ·cases h7
     | some i =>
      rw [hi] at hf;obtain ⟨hi14,hi0⟩:=hne i hi;refine Z1 ?_;refine Zd rfl (fun h7=>?_) (fun h7=>?_)
      ·have h7:decide ((i:Int)<0)=true:=h7
       simp at h7;omega
      ·refine Z0 ?_
       have hge:(signsL.map V.str)[i]? = some (.str (signsL.getD i [])):=by
        have hlt:i<signsL.length:=hi14
        rw [List.getElem?_map,List.getElem?_eq_getElem hlt,List.getD_eq_getElem?_getD,List.getElem?_eq_getElem hlt]<;>rfl
       have hi14':(i:Int)<14:=by omega
       refine Zf (zi hsg (zi hge (zi hi14' (zi @Int.natCast_nonneg @Nat.mul_one)))) ?_;rw [hf]
       show _=Z2ba ((signsL.getD i []).length,if (signsL.getD i []).length=0 then 0 else 4)
       rw [if_neg hi0]<;>rfl
theorem Zco (G:Nat→V) (hE:GExp G) (s:List UInt8) (hs:s.length<100000):Spec Tryz.prog G 64 [.str s] Zp (fun v _=>v = .int .u8 (isP s)):=by
 have hG:=hE.ok;refine Zo 0 19 [.tmp 2] Tryz.func64 fun X=>?_;refine Z1 ?_;refine Z1 ?_;refine Zn hG ?_ (s:=(Zvp G hE s hs))
 have hI:isP s=if (Zla s).1≠s.length∨(Zla s).1 > 64 then 0 else (Zla s).2:=rfl
 generalize Zla s=p at hI ⊢;obtain ⟨n,k⟩:=p;simp -implicitDefEqProofs only[go_sem,seval,↓reduceIte,Z2ba];refine Z2 ?_
 by_cases h1:n=s.length
 ·have e1:((n:Int) != (s.length:Int))=false:=by simp [h1]
  refine Z1f e1 ?_;refine Zd rfl (fun h2=>?_) (fun h2=>?_)
  ·have h2:n > 64:=by have h2:decide ((n:Int) > 64)=true:=h2;simp at h2;omega
   refine Z ?_
   rw [hI,if_pos (.inr h2)]<;>rfl
  ·have h2:¬ n > 64:=by have h2:decide ((n:Int) > 64)=false:=h2;simp at h2;omega
   refine Z ?_;rw [hI,if_neg (fun h=>h.elim (fun h=>h h1) h2)]
 ·have e1:((n:Int) != (s.length:Int))=true:=by
   have h1:¬ ((n:Int)=(s.length:Int)):=by omega
   simpa using h1
  refine Z1f e1 ?_;refine Zd rfl (fun h2=>?_) (fun h2=>?_)
  ·refine Z ?_
   rw [hI,if_pos (.inl h1)]<;>rfl
  ·cases h2
def Zib (t:Tk):V := .agg [.int .u8 t.kind,.str t.text,.int .i64 t.pos]
theorem Zvh (t:Tk):(Zib t).cells.length=3:=rfl
def Ztx (c:Col) (l:List Tk):V:=Za c 3 Zib (Zu l)
def Zf3 (r:List Tk × Int × Int):V := .tuple [Ztx .new r.1,.int .i64 r.2.1,.int .i64 r.2.2]
theorem Zlw:∀ (f:Nat) (s:List UInt8) (i:Nat) (acc:List Tk),(Z1c f s i acc).1.length≤acc.length+(s.length-i)
 | 0,s,i,acc=>by rw [Z1c];exact Nat.le_add_right _ _
 | f+1,s,i,acc=>by
  rw [Z1c]
  split
  ·split
   ·exact Nat.zero_le _
   ·rename_i h1 h2
    have:=Zlw f s (i+(Zla (s.drop i)).1+blk (s.drop (i+(Zla (s.drop i)).1))) (acc++[⟨(Zla (s.drop i)).2,(s.drop i).take (Zla (s.drop i)).1,i⟩]);simp only [List.length_append,List.length_singleton] at this;omega
  ·exact Nat.le_add_right _ _
theorem Zlx (G:Nat→V) (hE:GExp G) (s:List UInt8) (hs:s.length<100000):Spec Tryz.prog G 49 [.str s] Zp (fun v _=>v=Zf3 (Zac s)):=by
 have hG:=hE.ok;refine Zo 0 52 [.tmp 2,.tmp 3,.tmp 4] Tryz.func49 fun X=>?_;refine Z1 ?_;refine Z1 ?_
 have hT:Zac s=if s.length > 65536 then ([],0,3) else Z1c (s.length+1) s (blk s) []:=rfl
 refine Zd rfl (fun h2=>?_) (fun h2=>?_)
 ·have h2:s.length > 65536:=by have h2:decide ((s.length:Int) > 65536)=true:=h2;simp at h2;omega
  refine Z ?_
  rw [hT,if_pos h2]<;>rfl
 ·have h2:¬ s.length > 65536:=by have h2:decide ((s.length:Int) > 65536)=false:=h2;simp at h2;omega
  rw [if_neg h2] at hT;refine Z1 ?_;refine Zc hG ?_ (s:=(Zkn G hG s (by omega)));have hb:=Zus s;refine AW.block ?_
  refine Zhc (fun (x:Nat × Nat × List Tk)=>st [(0,.str s),(2,grown 47 x.1 3 x.2.2),(3,.int .i64 x.2.1)] [(47,Zta x.1 Zib x.2.2)]) (fun x=>x.2.1≤s.length∧x.2.2.length≤x.2.1∧Zac s=Z1c (s.length+1) s x.2.1 x.2.2) (fun x=>s.length-x.2.1) (0,blk s,[]) ⟨hb,Nat.zero_le _,hT⟩
   (Ze zp zp) ?_
  rintro ⟨gx,i,acc⟩ ⟨hi,hal,hR⟩ L2 hL2;have hi:i≤s.length:=hi;have hal:acc.length≤i:=hal;have hR:Zac s=Z1c (s.length+1) s i acc:=hR;refine Z1 ?_;refine Zd rfl (fun h4=>?_) (fun h4=>?_)
  ·have hi1:i<s.length:=by simpa using h4
   refine Z0 ?_;refine Z2 ?_;refine AW.block ?_;have hfl:=Zyl (s.drop i);rw [List.length_drop] at hfl;have hst:=Z0r (f:=s.length+1) (acc:=acc) hi1 (by omega);have hbd:=Zso (f:=s.length+1) (acc:=acc) hi1 (by omega);refine Z1f (zi hi @Nat.le_refl) ?_;refine Zn hG ?_ (s:=(Zvp G hE (s.drop i) (by simp;omega)));generalize Zla (s.drop i)=p at hfl hst hbd ⊢;obtain ⟨n,k⟩:=p;simp only at hfl hst hbd;simp -implicitDefEqProofs only[go_sem,seval,↓reduceIte,Z2ba];refine Z2 ?_
   by_cases hn0:n=0
   ·have e0:((n:Int)==0)=true:=by simp [hn0]
    refine Z1f e0 ?_;refine Zd rfl (fun h9=>?_) (fun h9=>?_)
    ·refine Z ?_
     rw [hR,hbd (.inl hn0)]<;>rfl
    ·cases h9
   ·have e0:((n:Int)==0)=false:=by
     rw [beq_eq_false_iff_ne];omega
    refine Z1f e0 ?_;refine Zd rfl (fun h9=>?_) (fun h9=>?_)
    ·have h9:n > 64:=by have h9:decide ((n:Int) > 64)=true:=h9;simp at h9;omega
     refine Z ?_
     rw [hR,hbd (.inr h9)]<;>rfl
    ·have h9:¬ n > 64:=by have h9:decide ((n:Int) > 64)=false:=h9;simp at h9;omega
     refine Z0 ?_;have hst:=hst (fun h=>h.elim hn0 h9)
     have hw:IntKind.i64.wrap ((i:Int)+(n:Int))=((i+n:Nat):Int):=by rw [w64 (by omega) (by omega)];omega
     have hin:i≤i+n:=by omega
     have hin2:i+n≤s.length:=by omega
     have hsub:i+n-i=n:=by omega
     refine Z1f (zi hw (zi hin (zi hin2 hsub))) ?_;intro g46;refine Z1a (f:=Zib) (l:=acc) (l2:=[⟨k,(s.drop i).take n,i⟩]) (g:=gx) Zvh rfl rfl rfl zp (Zca (by omega) (by simp;omega)) fun g47=>?_;refine Zs ?_;refine Z1f hw ?_;have hbl:=Zus (s.drop (i+n));rw [List.length_drop] at hbl
     have hw2:IntKind.i64.wrap (((i+n:Nat):Int)+(blk (s.drop (i+n)):Nat))=((i+n+blk (s.drop (i+n)):Nat):Int):=by rw [w64 (by omega) (by omega)];omega
     refine Z1f (zi hin2 @Nat.le_refl) ?_;refine Zc hG ?_ (s:=(Zkn G hG (s.drop (i+n)) (by simp;omega)));refine hL2 _ ⟨(g47,i+n+blk (s.drop (i+n)),acc++[⟨k,(s.drop i).take n,i⟩]),?_,⟨?_,?_,?_⟩,Ze (by simp -implicitDefEqProofs only[go_sem,seval,↓reduceIte];exact congrArg _ hw2) zp⟩
     ·show s.length-(i+n+blk (s.drop (i+n)))<s.length-i
      omega
     ·show i+n+blk (s.drop (i+n))≤s.length
      omega
     ·show (acc++[_]).length≤i+n+blk (s.drop (i+n))
      simp only [List.length_append,List.length_singleton];omega
     ·rw [hR];exact hst
  ·have hi1:¬ i<s.length:=by simpa using h4
   refine Z0 ?_;refine AW.weak (Zz (fun o=>o==47) (l:=[(2,Ztx .new acc)]) (m:=[]) ?_ trivial) ?_
   ·refine Zs ?_
    exact Z4a rfl rfl Zvh
   refine Z ?_
   rw [hR,Zro hi1]<;>rfl
end Go.Hs
end

section
namespace Go.Hs
open Go.Proofs
set_option maxRecDepth 10000
theorem Zu2 (G:Nat→V) (hG:GOk G) (c:UInt8):Spec Tryz.prog G 150 [.int .u8 c.toNat] Zp (fun v _=>v = .bool (Zka c)):=by
 refine Zo 0 9 [.tmp 2] Tryz.func150 fun X=>?_
 have key:Zka c=(decide ((c.toNat:Int)≥48) && decide ((c.toNat:Int)≤57)):=by
  unfold Zka
  congr 1
  ·rw [decide_eq_decide];omega
  ·rw [decide_eq_decide];omega
 rw [key];refine Z5 fun K hK=>AW.region (by kernel_rfl) ?_;refine Zs ?_;refine hK _ ?_
 try clear hK K
 cases h1:decide ((c.toNat:Int)≥48)<;>cases h2:decide ((c.toNat:Int)≤57)<;>((refine Z5 fun K hK=>AW.region (by kernel_rfl) ?_;simp -implicitDefEqProofs only[go_sem,seval,↓reduceIte,h1,h2];refine hK _ ?_;clear hK K);(refine AW.ret ?_;simp -implicitDefEqProofs only[go_sem,seval,↓reduceIte];refine Z9 ?_);rfl)
theorem Zt2 (G:Nat→V) (hG:GOk G) (c:UInt8):Spec Tryz.prog G 149 [.int .u8 c.toNat] Zp (fun v _=>v = .bool (isLt c)):=by
 refine Zo 0 21 [.tmp 2] Tryz.func149 fun X=>?_
 have key:isLt c=((decide ((c.toNat:Int)≥65) && decide ((c.toNat:Int)≤90) || (decide ((c.toNat:Int)≥97) && decide ((c.toNat:Int)≤122))) || c==95):=by
  have:=Zfw (fun c=>isLt c==((decide ((c.toNat:Int)≥65) && decide ((c.toNat:Int)≤90) || (decide ((c.toNat:Int)≥97) && decide ((c.toNat:Int)≤122))) || c==95)) (by decide +kernel) c;simpa using this
 rw [key];refine Z5 fun K hK=>AW.region (by kernel_rfl) ?_;refine Zs ?_;refine hK _ ?_
 try clear hK K
 cases h1:decide ((c.toNat:Int)≥65)<;>cases h2:decide ((c.toNat:Int)≤90)<;>cases h3:decide ((c.toNat:Int)≥97)<;>cases h4:decide ((c.toNat:Int)≤122)<;>cases h5:(c==95)<;>((refine Z5 fun K hK=>AW.region (by kernel_rfl) ?_;simp -implicitDefEqProofs only[go_sem,seval,↓reduceIte,Zfaa,h1,h2,h3,h4,h5];refine hK _ ?_;clear hK K);(refine AW.ret ?_;simp -implicitDefEqProofs only[go_sem,seval,↓reduceIte];refine Z9 ?_);rfl)
theorem Zk7 (G:Nat→V) (hG:GOk G) (s:List UInt8) (hs:s.length<1000000) (i:Nat) (hi:i≤s.length):Spec Tryz.prog G 151 [.str s,.int .i64 i] Zp (fun v _=>v = .bool (Zna [45,45] (s.drop i))):=by
 refine Zo 0 23 [.tmp 4] Tryz.func151 fun X=>?_
 have hw:IntKind.i64.wrap ((i:Int)+1)=((i+1:Nat):Int):=by rw [w64 (by omega) (by omega)];omega
 refine Z5 fun K hK=>AW.region (by kernel_rfl) ?_;refine Zs ?_;refine hK _ ?_
 try clear hK K
 by_cases h:i+1<s.length
 ·have h1:decide (((i+1:Nat):Int)<s.length)=true:=zT
  have g1:=Zym (l:=s) (k:=i) (by omega);have g2:=Zym h
  have hd:s.drop i=s[i]::s[i+1]::s.drop (i+2):=by rw [List.drop_eq_getElem_cons (by omega),List.drop_eq_getElem_cons h]
  generalize s[i]=a at g1 hd;generalize s[i+1]=b at g2 hd;rw [hd,Zgb,Zgb,Z0c];rw [show ((45:UInt8)==a)=(a==45) from Bool.beq_comm,show ((45:UInt8)==b)=(b==45) from Bool.beq_comm]
  cases ha:(a==45)<;>cases hb:(b==45)<;>((refine Z5 fun K hK=>AW.region (by kernel_rfl) ?_;simp -implicitDefEqProofs only[go_sem,seval,↓reduceIte,hw,h1,g1,g2,u8q45,ha,hb];refine hK _ ?_;clear hK K);(refine AW.ret ?_;simp -implicitDefEqProofs only[go_sem,seval,↓reduceIte];refine Z9 ?_);rfl)
 ·have h1:decide (((i+1:Nat):Int)<s.length)=false:=zF
  have:Zna [45,45] (s.drop i)=false:=by
   rw [Bool.eq_false_iff];intro hp;have:=(Zph hp).2;rw [List.length_drop] at this;omega
  rw [this];refine Z5 fun K hK=>AW.region (by kernel_rfl) ?_;refine Zsf (zi hw h1) ?_;refine hK _ ?_
  try clear hK K
  exact Zr
theorem Zfp (G:Nat→V) (hG:GOk G) (s:List UInt8) (hs:s.length<1000000) (i:Nat) (hi:i≤s.length):Spec Tryz.prog G 121 [.str s,.int .i64 i] Zp (fun v _=>v = .int .i64 ((i+blk (s.drop i):Nat):Int)):=by
 refine Zo 0 52 [.tmp 4] Tryz.func121 fun X=>?_;refine Z1 ?_;refine Z2 ?_;refine AW.block ?_
 refine Zhc (fun (k:Nat)=>st [(0,.str s),(1,.int .i64 k)] []) (fun k=>k≤s.length∧i+blk (s.drop i)=k+blk (s.drop k)) (fun k=>s.length-k) i ⟨hi,rfl⟩
  (Ze zp zp) ?_
 rintro k ⟨hk,hR⟩ L2 hL2;refine Z1 ?_;refine Zd rfl (fun h4=>?_) (fun h4=>?_)
 ·have hk1:k<s.length:=by simpa using h4
  have g1:=Zym hk1;have hd:s.drop k=s[k]::s.drop (k+1):=List.drop_eq_getElem_cons hk1;generalize s[k]=c at g1 hd;refine Z0 ?_;refine AW.block ?_;refine AW.block ?_
  have hbl:Z3j c=(c==9 || c==10 || c==13 || c==32):=by
   have:=Zfw (fun c=>Z3j c==(c==9 || c==10 || c==13 || c==32)) (by decide +kernel) c;simpa using this
  refine Zva (fun (_:Unit)=>st [(0,.str s),(1,.int .i64 k),(10,.bool (Z3j c))] []) (fun _=>True) (fun K5 hK5=>?_) ?_
  ·rw [hbl] at hK5
   cases h1:(c==9)<;>cases h2:(c==10)<;>cases h3:(c==13)<;>cases h5:(c==32)<;>(rw [h1,h2,h3,h5] at hK5;refine AW.region (by kernel_rfl) ?_;simp -implicitDefEqProofs only[go_sem,seval,↓reduceIte,g1,u8q9,Zgaa,Zl6,Zk6,h1,h2,h3,h5];exact hK5 _ () trivial (Ze zp zp))
  intro _ _;refine Zd rfl (fun h6=>?_) (fun h6=>?_)
  ·rw [hd,Zm3 h6] at hR
   refine Z1 ?_;refine hL2 _ ⟨k+1,by omega,⟨by omega,by omega⟩,Ze (by simp -implicitDefEqProofs only[go_sem,seval,↓reduceIte];exact congrArg _ (by rw [w64 (by omega) (by omega)];omega)) zp⟩
  ·refine Z1 ?_
   refine Zc hG ?_ (s:=(Zk7 G hG s hs k hk));refine Zd rfl (fun h7=>?_) (fun h7=>?_)
   ·rw [Zdu h7,List.drop_drop] at hR
    have hr:=Ztf Zbo (s.drop k);have h2:=Zph h7;rw [List.length_drop] at hr;refine AW.block ?_
    refine Zhc (fun (j:Nat)=>st [(0,.str s),(1,.int .i64 j)] []) (fun j=>j≤s.length∧k≤j∧k+Z7c Zbo (s.drop k)=j+Z7c Zbo (s.drop j)) (fun j=>s.length-j) k ⟨hk,Nat.le_refl _,rfl⟩
     (Ze zp zp) ?_
    rintro j ⟨hj,hkj,hJ⟩ L8 hL8;refine Z2 ?_
    by_cases hj1:j<s.length
    ·have e1:decide ((j:Int)<s.length)=true:=zT
     have g2:=Zym hj1;have hd2:s.drop j=s[j]::s.drop (j+1):=List.drop_eq_getElem_cons hj1;generalize s[j]=b at g2 hd2;rw [hd2,Zel] at hJ
     cases hb:(b==10) with
     | true =>
      refine Zwa (by kernel_rfl) ?_;simp -implicitDefEqProofs only[go_sem,seval,↓reduceIte,e1,g2,bne,Zgaa,hb];refine Z9a rfl ?_
      ·refine Z0 ?_
       have:Zbo b=false:=by unfold Zbo;rw [hb]<;>rfl
       rw [this,if_neg (by simp)] at hJ;refine hL2 _ ⟨j,by omega,⟨hj,by have hJ':k+Z7c Zbo (s.drop k)=j:=hJ;rw [hR,hJ'];omega⟩,Ze zp zp⟩
     | false =>
      refine Zwa (by kernel_rfl) ?_;simp -implicitDefEqProofs only[go_sem,seval,↓reduceIte,e1,g2,bne,Zgaa,hb];refine Zd rfl (fun h10=>?_) (fun h10=>?_)
      ·have:Zbo b=true:=by unfold Zbo;rw [hb]<;>rfl
       rw [this,if_pos rfl] at hJ;refine Z1 ?_;refine hL8 _ ⟨j+1,by omega,⟨by omega,by omega,by omega⟩,Ze (by simp -implicitDefEqProofs only[go_sem,seval,↓reduceIte];exact congrArg _ (by rw [w64 (by omega) (by omega)];omega)) zp⟩
      ·cases h10
    ·have e1:decide ((j:Int)<s.length)=false:=zF
     have hj2:j=s.length:=by omega
     refine Z1f e1 ?_;refine Z9a rfl ?_
     ·refine Z0 ?_
      have h0:s.drop j=[]:=by rw [hj2,List.drop_length]
      rw [h0] at hJ;refine hL2 _ ⟨j,by omega,⟨hj,by have hJ':k+Z7c Zbo (s.drop k)=j:=hJ;rw [hR,hJ'];omega⟩,Ze zp zp⟩
   ·rw [hd] at h7 hR
    rw [Zk3 h6 h7] at hR;refine Z ?_
    rw [hR]<;>rfl
 ·have hk1:¬ k<s.length:=by simpa using h4
  refine Z ?_;have h0:s.drop k=[]:=List.drop_eq_nil_of_le (by omega)
  rw [hR,h0]<;>rfl
theorem Zgp (G:Nat→V) (hG:GOk G) (c:Col) (t:List UInt8) (s:Sl (List UInt8)) (hs:s.l.length<1000000) :
  Spec Tryz.prog G 148 [.str t,Za c 1 V.str s] Zp (fun v _=>v = .bool (s.l.contains t)):=by
 refine Zo 0 18 [.tmp 4] Tryz.func148 fun X=>?_;refine Z1 ?_;refine Z1 ?_;refine AW.block ?_
 refine Z6a s.l.length (fun k (_:Unit)=>st [(0,.str t),(1,Za c 1 V.str s),(5,.int .i64 k)] []) (fun k _=>(s.l.take k).contains t=false) 0 () (Nat.zero_le _) rfl
  (Ze zp zp) ?_
 intro k _ hk hR L2 hL2;refine Z1 ?_;refine Zd rfl (fun h4=>?_) (fun h4=>?_)
 ·have hk1:k<s.l.length:=by simpa using h4
  have hg:=List.getElem?_eq_getElem hk1
  have htk:s.l.take (k+1)=s.l.take k++[s.l[k]]:=by rw [List.take_succ_eq_append_getElem hk1]
  have hmem:=List.getElem_mem hk1;generalize s.l[k]=x at hg htk hmem;refine Z1f hg ?_;refine Zd rfl (fun h6=>?_) (fun h6=>?_)
  ·have h6:x=t:=by simpa using h6
   refine Z ?_
   have:s.l.contains t=true:=by rw [← h6];simpa using hmem
   rw [this]
  ·have h6:¬ x=t:=by simpa using h6
   refine Z1 ?_;refine hL2 _ ⟨hk1,(),?_,Ze zw zp⟩;rw [htk];simp only [List.contains_eq_mem,decide_eq_false_iff_not] at hR ⊢;intro hm
   rcases List.mem_append.1 hm with h | h
   ·exact hR h
   ·exact h6 ((List.mem_singleton.1 h).symm)
 ·have hk1:k=s.l.length:=by simp at h4;omega
  refine Z ?_;rw [hk1,List.take_length] at hR;rw [hR]
theorem Zgk (G:Nat→V) (hG:GOk G) (s:List UInt8) (hs:s.length<1000000):Spec Tryz.prog G 120 [.str s] Zp (fun v _=>v = .int .u8 (Zgc s)):=by
 refine Zo 0 45 [.tmp 2] Tryz.func120 fun X=>?_
 have hW1:signsL.contains s=true→Zgc s=4:=fun h=>by unfold Zgc;rw [if_pos h]
 have hW2:signsL.contains s=false→wordsL.contains s=true→Zgc s=3:=fun h h2=>by unfold Zgc;rw [if_neg (by rw [h];simp),if_pos h2]
 have hW3:∀ c r,s=c::r→signsL.contains s=false→wordsL.contains s=false→Zgc s=if s.all Zka then 1 else if isLt c && s.all Zqe then 2 else 0:=by
  rintro c r rfl h h2;unfold Zgc;rw [if_neg (by rw [h];simp),if_neg (by rw [h2];simp)]
 refine Z1 ?_;refine Z1 ?_;intro g;refine Z4e hG [.str s,Za .old 1 V.str (.mk false signsL)] (by kernel_rfl) ⟨Zam (.str _) rfl,Rd.msl (off:=0) (n:=14) (l:=signsL) (f:=V.str) (f':=V.str) (g:=g) (fz:=0) (c := .new) zp (fun _=>rfl) (fun x y hy=>by simp [V.cells] at hy;subst hy;exact .str _) (fun _=>rfl) (by decide),trivial⟩ ?_;refine (Zgp G hG _ s (.mk false signsL) (by decide)).mono ?_;rintro _ _ rfl;refine ⟨.bool _,?_⟩;refine Zs ?_;refine Zd rfl (fun h2=>?_) (fun h2=>?_)
 ·refine Z ?_
  rw [hW1 h2]<;>rfl
 refine Z1 ?_;intro g;refine Z4e hG [.str s,Za .old 1 V.str (.mk false wordsL)] (by kernel_rfl) ⟨Zam (.str _) rfl,Rd.msl (off:=0) (n:=14) (l:=wordsL) (f:=V.str) (f':=V.str) (g:=g) (fz:=0) (c := .new) zp (fun _=>rfl) (fun x y hy=>by simp [V.cells] at hy;subst hy;exact .str _) (fun _=>rfl) (by decide),trivial⟩ ?_;refine (Zgp G hG _ s (.mk false wordsL) (by decide)).mono ?_;rintro _ _ rfl;refine ⟨.bool _,?_⟩;refine Zs ?_;refine Zd rfl (fun h4=>?_) (fun h4=>?_)
 ·refine Z ?_
  rw [hW2 h2 h4]<;>rfl
 refine Z0 ?_;refine Z2 ?_
 cases s with
 | nil =>
  refine Z1 ?_;refine Zd rfl (fun h6=>?_) (fun h6=>?_)
  ·exact Zr
  ·cases h6
 | cons c r =>
  have hW:=hW3 c r rfl h2 h4;refine Z1 ?_;refine Z1 ?_;refine Z1 ?_;refine Zc hG ?_ (s:=(Zt2 G hG c));refine Z5 fun K7 hK7=>?_;refine Z1 ?_;refine AW.block ?_;generalize hs0:c::r=s at hs hW hK7 ⊢
  refine Z6a s.length (fun k (_:Unit)=>st [(0,.str s),(3,.bool ((s.take k).all Zka)),(4,.bool (isLt c && (s.take k).all Zqe)),(5,.int .i64 k)] []) (fun k _=>True) 0 () (Nat.zero_le _) trivial
   (Ze (by simp -implicitDefEqProofs only[go_sem,seval,↓reduceIte];rw [List.all_nil,List.all_nil,Bool.and_true];exact ⟨rfl,rfl⟩) zp) ?_
  intro k _ hk hR L8 hL8;refine Z1 ?_;refine Zd rfl (fun h10=>?_) (fun h10=>?_)
  ·have hk1:k<s.length:=by simpa using h10
   have hg:=Zym hk1
   have htk:s.take (k+1)=s.take k++[s[k]]:=by rw [List.take_succ_eq_append_getElem hk1]
   generalize s[k]=x at hg htk;refine Z0 ?_;refine Z2 ?_;refine AW.block ?_
   have ha:∀ p:UInt8→Bool,(s.take (k+1)).all p=((s.take k).all p && p x):=fun p=>by rw [htk,List.all_append];simp
   refine Zva (fun (_:Unit)=>st [(0,.str s),(3,.bool ((s.take (k+1)).all Zka)),(4,.bool (isLt c && (s.take k).all Zqe)),(5,.int .i64 k)] []) (fun _=>True) (fun K12 hK12=>?_) ?_
   ·rw [ha Zka] at hK12
    cases h1:(s.take k).all Zka with
    | true =>
     refine Z1f (zi hg h1) ?_;refine Zc hG ?_ (s:=(Zu2 G hG x));exact hK12 _ () trivial (Ze (by simp -implicitDefEqProofs only[go_sem,seval,↓reduceIte,h1];cases Zka x<;>rfl) zp)
    | false =>
     refine Z1f (zi hg h1) ?_;exact hK12 _ () trivial (Ze (zpf h1) zp)
   intro _ _
   have hN:(isLt c && (s.take (k+1)).all Zqe)=((isLt c && (s.take k).all Zqe) && (isLt x || Zka x)):=by
    rw [ha Zqe,← Bool.and_assoc]<;>rfl
   cases h1:(isLt c && (s.take k).all Zqe) with
   | true =>
    rw [h1,Bool.true_and] at hN;refine Z1f (zi hg h1) ?_;refine Zn hG ?_ (s:=(Zt2 G hG x))
    cases h2:isLt x with
    | true =>
     refine Zsf h2 ?_;refine Z1 ?_;refine hL8 _ ⟨hk1,(),trivial,Ze (by rw [hN,h2];simp -implicitDefEqProofs only[go_sem,seval,↓reduceIte];exact ⟨rfl,congrArg _ (w64 (by omega) (by omega))⟩) zp⟩
    | false =>
     refine Zsf (zi hg h2) ?_;refine Zc hG ?_ (s:=(Zu2 G hG x));refine Z1 ?_;refine hL8 _ ⟨hk1,(),trivial,Ze (by rw [hN,h2];simp -implicitDefEqProofs only[go_sem,seval,↓reduceIte];cases Zka x<;>exact ⟨rfl,congrArg _ (w64 (by omega) (by omega))⟩) zp⟩
   | false =>
    rw [h1,Bool.false_and] at hN;refine Z1f (zi hg h1) ?_;refine Z1 ?_;refine hL8 _ ⟨hk1,(),trivial,Ze (by rw [hN];simp -implicitDefEqProofs only[go_sem,seval,↓reduceIte];try exact congrArg _ (w64 (by omega) (by omega))) zp⟩
  ·have hk1:k=s.length:=by simp at h10;omega
   rw [hk1,List.take_length];refine Z0 ?_;refine hK7 _ ?_;refine Z5 fun K12 hK12=>?_;refine Z1 ?_;refine Zd rfl (fun h13=>?_) (fun h13=>?_)
   ·refine Z ?_
    rw [hW,if_pos h13]<;>rfl
   refine Z0 ?_;refine hK12 _ ?_;refine Z1 ?_;refine Zd rfl (fun h15=>?_) (fun h15=>?_)
   ·refine Z ?_
    rw [hW,if_neg (by rw [h13];simp),if_pos h15];rfl
   refine Z ?_;rw [hW,if_neg (by rw [h13];simp),if_neg (by rw [h15];simp)];rfl
theorem Zfj (G:Nat→V) (hG:GOk G) (s:List UInt8) (hs:s.length<1000000):Spec Tryz.prog G 81 [.str s] Zp (fun v _=>v = .int .u8 (isP s)):=by
 refine Zo 0 8 [.tmp 2] Tryz.func81 fun X=>?_;rw [Zwp];refine Z1 ?_;refine Z1 ?_;refine Zd rfl (fun h2=>?_) (fun h2=>?_)
 ·have h2:s.length > 64:=by have h2:decide ((s.length:Int) > 64)=true:=h2;simp at h2;omega
  refine Z ?_
  rw [if_pos h2]<;>rfl
 ·have h2:¬ s.length > 64:=by have h2:decide ((s.length:Int) > 64)=false:=h2;simp at h2;omega
  refine Z1 ?_;refine Zc hG ?_ (s:=(Zgk G hG s hs));refine Z ?_;rw [if_neg h2]
theorem Zqt (G:Nat→V) (hG:GOk G) (s:List UInt8) (hs:s.length<1000000) (i:Nat) (hi:i<s.length) (hp:Zna [45,45] (s.drop i)=false) :
  Spec Tryz.prog G 122 [.str s,.int .i64 i] Zp (fun v _=>v = .int .i64 (Zla (s.drop i)).1):=by
 refine Zo 0 35 [.tmp 4] Tryz.func122 fun X=>?_;have hdl:(s.drop i).length=s.length-i:=List.length_drop;have hend:=fun k=>Zh8 (s:=s.drop i) (by intro h;rw [h] at hdl;simp at hdl;omega) hp (k:=k);have hsucc:=fun k=>Zif (s.drop i) (k:=k);have hle:=Z42 (s.drop i);refine Z1 ?_;refine Z1 ?_;refine Z1 ?_;refine AW.block ?_
 refine Zhc (fun (k:Nat)=>st [(0,.str s),(1,.int .i64 i),(5,.int .i64 (Z0f (s.drop i) k)),(6,.int .i64 k)] []) (fun k=>1≤k∧k≤(s.drop i).length+1) (fun k=>(s.drop i).length+1-k) 1 ⟨Nat.le_refl _,by omega⟩
  (Ze (by simp -implicitDefEqProofs only[go_sem,seval,↓reduceIte];rw [Zrl]<;>rfl) zp) ?_
 rintro k ⟨hk1,hk2⟩ L2 hL2;have hlk:=hle k
 have hw:IntKind.i64.wrap ((i:Int)+(k:Int))=((i+k:Nat):Int):=by rw [w64 (by omega) (by omega)];omega
 have hw1:IntKind.i64.wrap ((k:Int)-1)=(k:Int)-1:=w64 (by omega) (by omega);refine Z2 ?_
 by_cases h1:i+k≤s.length
 ·have e1:decide (((i+k:Nat):Int)≤s.length)=true:=zT
  refine Zva (fun (_:Unit)=>st [(0,.str s),(1,.int .i64 i),(5,.int .i64 (Z0f (s.drop i) k)),(6,.int .i64 k),(22,.bool (decide (k<3∨Z0f (s.drop i) k=k-1)))] []) (fun _=>True) (fun K4 hK4=>?_) ?_
  ·by_cases h2:k<3
   ·have e2:decide ((k:Int)<3)=true:=zT
    have e3:decide (k<3∨Z0f (s.drop i) k=k-1)=true:=by rw [decide_eq_true_iff];exact .inl h2
    rw [e3] at hK4;refine Z1f (zi hw (zi e1 e2)) ?_;exact hK4 _ () trivial (Ze zp zp)
   ·have e2:decide ((k:Int)<3)=false:=zF
    have e3:((Z0f (s.drop i) k:Int)==(k:Int)-1)=decide (k<3∨Z0f (s.drop i) k=k-1):=by
     by_cases h3:Z0f (s.drop i) k=k-1
     ·rw [show decide (k<3∨Z0f (s.drop i) k=k-1)=true by rw [decide_eq_true_iff];exact .inr h3,h3]
      rw [beq_iff_eq];omega
     ·rw [show decide (k<3∨Z0f (s.drop i) k=k-1)=false by rw [decide_eq_false_iff_not];rintro (h | h);exact h2 h;exact h3 h]
      rw [beq_eq_false_iff_ne];omega
    rw [← e3] at hK4;generalize Z0f (s.drop i) k=n at hK4 ⊢
    cases e4:((n:Int)==(k:Int)-1) with
    | true =>
     rw [e4] at hK4;refine Z1f (zi hw (zi hw1 (zi e1 (zi e2 e4)))) ?_;exact hK4 _ () trivial (Ze zp zp)
    | false =>
     rw [e4] at hK4;refine Z1f (zi hw (zi hw1 (zi e1 (zi e2 e4)))) ?_;exact hK4 _ () trivial (Ze zp zp)
  intro _ _;refine Zd rfl (fun h4=>?_) (fun h4=>?_)
  ·refine Z0 ?_
   refine Z2 ?_;refine AW.block ?_
   have hin:i≤i+k:=by omega
   have hsub:i+k-i=k:=by omega
   have hs1:=hsucc k hk1
   have hkl:((s.drop i).take k).length<1000000:=by rw [List.length_take];omega
   refine Z1f (zi hw (zi hin (zi hsub h1))) ?_;refine Zc hG ?_ (s:=(Zgk G hG _ hkl));generalize Zgc ((s.drop i).take k)=wk at hs1 ⊢;refine Zd rfl (fun h6=>?_) (fun h6=>?_)
   ·have h6:¬ wk=0:=by simpa using h6
    rw [if_neg h6] at hs1;refine Z1 ?_;refine Z1 ?_;refine hL2 _ ⟨k+1,by omega,⟨by omega,by omega⟩,Ze (by rw [hs1];simp -implicitDefEqProofs only[go_sem,seval,↓reduceIte];exact congrArg _ (w64 (by omega) (by omega))) zp⟩
   ·have h6:wk=0:=by simpa using h6
    rw [if_pos h6] at hs1;refine Z1 ?_;refine hL2 _ ⟨k+1,by omega,⟨by omega,by omega⟩,Ze (by rw [hs1];simp -implicitDefEqProofs only[go_sem,seval,↓reduceIte];exact congrArg _ (w64 (by omega) (by omega))) zp⟩
  ·have h4:¬ (k<3∨Z0f (s.drop i) k=k-1):=by simpa using h4
   refine Z ?_;rw [hend k hk1 hk2 (.inr ⟨by omega,fun h=>h4 (.inr h)⟩)]
 ·have e1:decide (((i+k:Nat):Int)≤s.length)=false:=zF
  refine Z1f (zi hw e1) ?_;refine Z9a rfl ?_
  ·refine Z ?_
   rw [hend k hk1 hk2 (.inl (by omega))]
end Go.Hs
end

section
namespace Go.Hs
open Go.Proofs
set_option maxRecDepth 10000
theorem Zzw (G:Nat→V) (hG:GOk G) (s:List UInt8) (hs:s.length<100000):Spec Tryz.prog G 85 [.str s] Zp (fun v _=>v=Zf3 (Zac s)):=by
 refine Zo 0 51 [.tmp 2,.tmp 3,.tmp 4] Tryz.func85 fun X=>?_;refine Z1 ?_;refine Z1 ?_
 have hT:Zac s=if s.length > 65536 then ([],0,3) else Z1c (s.length+1) s (blk s) []:=rfl
 refine Zd rfl (fun h2=>?_) (fun h2=>?_)
 ·have h2:s.length > 65536:=by have h2:decide ((s.length:Int) > 65536)=true:=h2;simp at h2;omega
  refine Z ?_
  rw [hT,if_pos h2]<;>rfl
 ·have h2:¬ s.length > 65536:=by have h2:decide ((s.length:Int) > 65536)=false:=h2;simp at h2;omega
  rw [if_neg h2] at hT;refine Z1 ?_;refine Z1 ?_;refine Zn hG ?_ (s:=(Zfp G hG s (by omega) 0 (Nat.zero_le _)));rw [List.drop_zero,Nat.zero_add];refine Zs ?_;have hb:=Zus s;have hcl:=Ziq s;refine Z2 ?_;refine AW.block ?_
  refine Zhc (fun (x:Nat × Nat × List Tk)=>st [(0,.str s),(5,grown 44 x.1 3 x.2.2),(6,.int .i64 x.2.1)] [(44,Zta x.1 Zib x.2.2)]) (fun x=>x.2.1≤s.length∧x.2.2.length≤x.2.1∧Zac s=Z1c (s.length+1) s x.2.1 x.2.2∧Zh3 (s.drop x.2.1)) (fun x=>s.length-x.2.1) (0,blk s,[]) ⟨hb,Nat.zero_le _,hT,hcl⟩
   (Ze zp zp) ?_
  rintro ⟨gx,i,acc⟩ ⟨hi,hal,hR,hC⟩ L2 hL2;have hi:i≤s.length:=hi;have hal:acc.length≤i:=hal;have hR:Zac s=Z1c (s.length+1) s i acc:=hR;have hC:Zh3 (s.drop i):=hC;refine Z1 ?_;refine Zd rfl (fun h4=>?_) (fun h4=>?_)
  ·have hi1:i<s.length:=by simpa using h4
   refine Z0 ?_;refine AW.block ?_;have hpre:Zna [45,45] (s.drop i)=false:=(hC _ _ (List.drop_eq_getElem_cons hi1)).2;have hfl:=Zyl (s.drop i);rw [List.length_drop] at hfl;have hst:=Z0r (f:=s.length+1) (acc:=acc) hi1 (by omega);have hbd:=Zso (f:=s.length+1) (acc:=acc) hi1 (by omega);have hkd:=Zps hpre;refine Z1 ?_;refine Zn hG ?_ (s:=(Zqt G hG s (by omega) i hi1 hpre));generalize Zla (s.drop i)=p at hfl hst hbd hkd ⊢;obtain ⟨n,k⟩:=p;simp only at hfl hst hbd hkd;refine Zs ?_;refine Z2 ?_
   by_cases hn0:n=0
   ·have e0:((n:Int)==0)=true:=by simp [hn0]
    refine Z1f e0 ?_;refine Zd rfl (fun h9=>?_) (fun h9=>?_)
    ·refine Z ?_
     rw [hR,hbd (.inl hn0)]<;>rfl
    ·cases h9
   ·have e0:((n:Int)==0)=false:=by
     rw [beq_eq_false_iff_ne];omega
    refine Z1f e0 ?_;refine Zd rfl (fun h9=>?_) (fun h9=>?_)
    ·have h9:n > 64:=by have h9:decide ((n:Int) > 64)=true:=h9;simp at h9;omega
     refine Z ?_
     rw [hR,hbd (.inr h9)]<;>rfl
    ·have h9:¬ n > 64:=by have h9:decide ((n:Int) > 64)=false:=h9;simp at h9;omega
     refine Z0 ?_;have hst:=hst (fun h=>h.elim hn0 h9);obtain ⟨hkd,_⟩:=hkd hn0
     have hw:IntKind.i64.wrap ((i:Int)+(n:Int))=((i+n:Nat):Int):=by rw [w64 (by omega) (by omega)];omega
     have hin:i≤i+n:=by omega
     have hin2:i+n≤s.length:=by omega
     have hsub:i+n-i=n:=by omega
     have p1:Zbh Tryz.prog G 120 [.str ((s.drop i).take n)] (.int .u8 k):=⟨by kernel_rfl,by
      refine Zs ?_;refine (Zgk G hG _ (by rw [List.length_take,List.length_drop];omega)).mono ?_;rintro _ _ rfl
      rw [hkd]<;>rfl⟩
     refine Z2 <| Zv ⟨fun i=>if i=7 then .int .u8 k else .top,fun _ => .pure⟩ (by kernel_rfl) hG (by kernel_rfl) (by kernel_rfl) ?_
     refine Zsf (zi hw (zi hin (zi hin2 hsub))) ?_;refine ⟨p1,?_⟩;intro g43;refine Z1a (f:=Zib) (l:=acc) (l2:=[⟨k,(s.drop i).take n,i⟩]) (g:=gx) Zvh rfl rfl rfl zp (Zca (by omega) (by simp;omega)) fun g44=>?_;refine Zs ?_;have hbl:=Zus (s.drop (i+n));rw [List.length_drop] at hbl;refine Z1f hw ?_;refine Zc hG ?_ (s:=(Zfp G hG s (by omega) (i+n) hin2));refine hL2 _ ⟨(g44,i+n+blk (s.drop (i+n)),acc++[⟨k,(s.drop i).take n,i⟩]),?_,⟨?_,?_,?_,?_⟩,Ze zp zp⟩
     ·show s.length-(i+n+blk (s.drop (i+n)))<s.length-i
      omega
     ·show i+n+blk (s.drop (i+n))≤s.length
      omega
     ·show (acc++[_]).length≤i+n+blk (s.drop (i+n))
      simp only [List.length_append,List.length_singleton];omega
     ·rw [hR];exact hst
     ·have:=Ziq (s.drop (i+n))
      rwa [List.drop_drop] at this
  ·have hi1:¬ i<s.length:=by simpa using h4
   refine Z0 ?_;refine AW.weak (Zz (fun o=>o==44) (l:=[(5,Ztx .new acc)]) (m:=[]) ?_ trivial) ?_
   ·refine Zs ?_
    exact Z4a rfl rfl Zvh
   refine Z ?_
   rw [hR,Zro hi1]<;>rfl
end Go.Hs
end
