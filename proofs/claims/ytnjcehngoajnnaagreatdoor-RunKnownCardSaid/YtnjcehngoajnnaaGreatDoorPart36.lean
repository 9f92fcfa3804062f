/- Part 36 of a proof; no condition. -/
import Derived.Test.YtnjcehngoajnnaaGreatDoorPart34
import Derived.Test.YtnjcehngoajnnaaGreatDoorPart35
set_option linter.unusedSimpArgs false
set_option linter.unusedVariables false
section
namespace Go.Hs
open Go.Proofs
set_option maxRecDepth 10000
theorem Zbfa {m:Nat} (h:m<1000000000000010):((m:Int) > IntKind.i64.max)=False:=by
 rw [eq_iff_iff,iff_false,show IntKind.i64.max=9223372036854775807 from rfl];omega
def encFk (p:Nat × Nat):V := .tuple [.int .i64 p.1,.int .u8 p.2]
theorem Z8p (G:Nat→V) (hE:GExp G) (s:List UInt8) (hs:s.length<1000000000000000):Spec Tryz.prog G 77 [.str s] Zm (fun v _=>v=encFk (Zoa s)):=by
 have hG:=hE.ok;refine Zo 0 42 [.tmp 2,.tmp 3] Tryz.func77 fun X=>?_;refine Z1 ?_;intro g1;refine Z5 ?_;refine AW.block ?_
 cases s with
 | nil =>
  refine Z1 ?_;refine Ze rfl (fun h2=>?_) (fun h2=>?_)
  ·exact Zr
  ·cases h2
 | cons c r =>
  cases hp:Zta [45,45] (c::r) with
  | true =>
   refine Z1 ?_;refine Zn hG ?_ (s:=(Zue G _ _));refine Zsf hp ?_;refine Ze rfl (fun h2=>?_) (fun h2=>?_)
   ·refine Z ?_
    rw [Zcg,if_pos hp]<;>rfl
   ·cases h2
  | false =>
   refine Z1 ?_;refine Zn hG ?_ (s:=(Zue G _ _));refine Zsf hp ?_;refine Zkc rfl ?_
   try clear h2
   refine Z1 ?_;refine Zc hG ?_ (s:=(Zvk G hG c));refine Ze rfl (fun h3=>?_) (fun h3=>?_)
   ·refine Z1 ?_
    refine Zc hG ?_ (s:=(Z6l G hG _ (by omega) (fDigit hG)));refine Z ?_
    rw [Zcm h3]<;>rfl
   ·refine Z1 ?_
    refine Zc hG ?_ (s:=(Zsi G hG c));refine Ze rfl (fun h4=>?_) (fun h4=>?_)
    ·have hn:=Z2f Zqe (c::r)
     have hw:=Zrr ((c::r).take (Z9c Zqe (c::r))) (Zff Zqe (c::r));have hf:=Zto (r:=r) h4;refine Z1 ?_;refine Zc hG ?_ (s:=(Z6l G hG _ (by omega) (fAl hG)));generalize Z9c Zqe (c::r)=n at hn hw hf ⊢;have hn:n≤r.length+1:=hn;refine Z5 ?_
     have hl0:(List.take n (c::r)).length≤1000000000000000:=by rw [List.length_take];omega
     have hl1:=Zbfa (m:=1+(List.take n (c::r)).length) (by omega);have hl2:=Zbfa (m:=(List.take n (c::r)).length+1+1) (by omega);refine Z5c zk ?_;simp -implicitDefEqProofs only[go_sem,seval,hl1,hl2,hn,Nat.zero_le,Nat.sub_zero,List.append_eq,List.cons_append,List.nil_append];refine Zc hG ?_ (s:=(Zmu G hE Zhea _ (by decide)));rw [hw];refine Ze rfl (fun h6=>?_) (fun h6=>?_)
     ·refine Z ?_
      rw [hf,if_pos h6]<;>rfl
     ·refine Z ?_
      rw [hf,if_neg (by rw [h6];simp)];rfl
    ·refine Z0 ?_
     have hf:=Zwj (c:=c) (r:=r) (by unfold Zqe;rw [h3,h4]<;>rfl) hp;obtain ⟨cg,hsg⟩:=hE.sg
     refine Z5 <| Zkg 0 zk rfl rfl ?_
     simp -implicitDefEqProofs only[go_sem,seval,List.take_zero];refine ⟨_,Zlr Tryz.underlying212 zk (c:=cg) (cs:=signsL.map V.str) (zpf hsg) rfl (fun v hv=>by obtain ⟨t,_,rfl⟩:=List.mem_map.1 hv;rfl),?_⟩;refine Ztc hG [Za cg.ent 1 V.str (.mk true signsL),.func (.func 113) [] [.view .old (.str (c::r))]] zk ⟨?_,Zvw ⟨?_,trivial⟩,trivial⟩ ?_
     ·exact Z7e (Zet (c:=cg) (m:=1) (fun x y hy=>by simp [V.cells] at hy;subst hy;exact .str _) (.mk true signsL)) (Zi5 _ _ _ (.mk true signsL))
     ·exact Rd.ptr (v := .str (c::r)) (c := .new) (fz:=0) zp (by intro y hy;simp [V.cells] at hy;subst hy;exact .str _) zp
     refine (Zdp G hG _ (.mk true signsL) (by decide) (fPre hG (c::r))).mono ?_;rintro _ _ rfl;refine ⟨.int _ _,?_⟩;refine Zs ?_
     have hN:Zb8 (c::r)=match signsL.findIdx? (Zta · (c::r)) with | some i=>(signsL.getD i []).length | none=>0:=by
      unfold Zb8;rw [List.find?_eq_bind_findIdx?_getElem?]
      cases hi:signsL.findIdx? (Zta · (c::r)) with
      | none=>rfl
      | some i =>
       have hlt:i<signsL.length:=(List.findIdx?_eq_some_iff_getElem.1 hi).1;simp only [Option.bind_some,List.getElem?_eq_getElem hlt,List.getD_eq_getElem?_getD,Option.getD_some]
     have hI:Znr (Zta · (c::r)) signsL=match signsL.findIdx? (Zta · (c::r)) with | some i=>(i:Int) | none => -1:=rfl
     have hne:∀ i,signsL.findIdx? (Zta · (c::r))=some i→i<14∧(signsL.getD i []).length≠0:=fun i hi=>by
      have h1:=List.findIdx?_eq_some_iff_getElem.1 hi;obtain ⟨hlt,_⟩:=h1;have hlt:i<14:=hlt;refine ⟨hlt,?_⟩
      have:∀ i,i<14→(signsL.getD i []).length≠0:=by decide
      exact this i hlt
     rw [hI];rw [hN] at hf
     cases hi:signsL.findIdx? (Zta · (c::r)) with
     | none =>
      rw [hi] at hf;refine Z1 ?_;refine Ze rfl (fun h7=>?_) (fun h7=>?_)
      ·refine Z ?_
       rw [hf]<;>rfl
      ·cases h7
     | some i =>
      rw [hi] at hf;obtain ⟨hi14,hi0⟩:=hne i hi;refine Z1 ?_;refine Ze rfl (fun h7=>?_) (fun h7=>?_)
      ·have h7:decide ((i:Int)<0)=true:=h7
       simp at h7;omega
      ·refine Z0 ?_
       have hge:(signsL.map V.str)[i]? = some (.str (signsL.getD i [])):=by
        have hlt:i<signsL.length:=hi14
        rw [List.getElem?_map,List.getElem?_eq_getElem hlt,List.getD_eq_getElem?_getD,List.getElem?_eq_getElem hlt]<;>rfl
       have hi14':(i:Int)<14:=by omega
       refine Zf (zi hsg (zi hge (zi hi14' (zi @Int.natCast_nonneg @Nat.mul_one)))) ?_;rw [hf]
       show _=encFk ((signsL.getD i []).length,if (signsL.getD i []).length=0 then 0 else 4)
       rw [if_neg hi0]<;>rfl
theorem Zqo (G:Nat→V) (hE:GExp G) (s:List UInt8) (hs:s.length<1000000000000000):Spec Tryz.prog G 64 [.str s] Zm (fun v _=>v = .int .u8 (isP s)):=by
 have hG:=hE.ok;refine Zo 0 19 [.tmp 2] Tryz.func64 fun X=>?_;refine Z1 ?_;refine Z1 ?_;refine Zn hG ?_ (s:=(Z8p G hE s hs))
 have hI:isP s=if (Zoa s).1≠s.length∨(Zoa s).1 > 64 then 0 else (Zoa s).2:=rfl
 generalize Zoa s=p at hI ⊢;obtain ⟨n,k⟩:=p;refine Zsf @encFk.eq_1 ?_;refine Z5 ?_
 by_cases h1:n=s.length
 ·have e1:((n:Int) != (s.length:Int))=false:=by simp [h1]
  refine Z1f e1 ?_;refine Ze rfl (fun h2=>?_) (fun h2=>?_)
  ·have h2:n > 64:=by have h2:decide ((n:Int) > 64)=true:=h2;simp at h2;omega
   refine Z ?_
   rw [hI,if_pos (.inr h2)]<;>rfl
  ·have h2:¬ n > 64:=by have h2:decide ((n:Int) > 64)=false:=h2;simp at h2;omega
   refine Z ?_;rw [hI,if_neg (fun h=>h.elim (fun h=>h h1) h2)]
 ·have e1:((n:Int) != (s.length:Int))=true:=by
   have h1:¬ ((n:Int)=(s.length:Int)):=by omega
   simpa using h1
  refine Z1f e1 ?_;refine Ze rfl (fun h2=>?_) (fun h2=>?_)
  ·refine Z ?_
   rw [hI,if_pos (.inl h1)]<;>rfl
  ·cases h2
def Zib (t:Tk):V := .agg [.int .u8 t.kind,.str t.text,.int .i64 t.pos]
theorem Z6h (t:Tk):(Zib t).cells.length=3:=rfl
def encTks (c:Col) (l:List Tk):V:=Za c 3 Zib (Zv l)
def encTok (r:List Tk × Int × Int):V := .tuple [encTks .new r.1,.int .i64 r.2.1,.int .i64 r.2.2]
theorem Zjx:∀ (f:Nat) (s:List UInt8) (i:Nat) (acc:List Tk),(Z2c f s i acc).1.length≤acc.length+(s.length-i)
 | 0,s,i,acc=>by rw [Z2c];exact Nat.le_add_right _ _
 | f+1,s,i,acc=>by
  rw [Z2c]
  split
  ·split
   ·exact Nat.zero_le _
   ·rename_i h1 h2
    have:=Zjx f s (i+(Zoa (s.drop i)).1+blk (s.drop (i+(Zoa (s.drop i)).1))) (acc++[⟨(Zoa (s.drop i)).2,(s.drop i).take (Zoa (s.drop i)).1,i⟩]);simp only [List.length_append,List.length_singleton] at this;omega
  ·exact Nat.le_add_right _ _
theorem Zly (G:Nat→V) (hE:GExp G) (s:List UInt8) (hs:s.length<100000):Spec Tryz.prog G 49 [.str s] Zm (fun v _=>v=encTok (Zac s)):=by
 have hG:=hE.ok;refine Zo 0 52 [.tmp 2,.tmp 3,.tmp 4] Tryz.func49 fun X=>?_;refine Z1 ?_;refine Z1 ?_
 have hT:Zac s=if s.length > 65536 then ([],0,3) else Z2c (s.length+1) s (blk s) []:=rfl
 refine Ze rfl (fun h2=>?_) (fun h2=>?_)
 ·have h2:s.length > 65536:=by have h2:decide ((s.length:Int) > 65536)=true:=h2;simp at h2;omega
  refine Z ?_
  rw [hT,if_pos h2]<;>rfl
 ·have h2:¬ s.length > 65536:=by have h2:decide ((s.length:Int) > 65536)=false:=h2;simp at h2;omega
  rw [if_neg h2] at hT;refine Z1 ?_;refine Zc hG ?_ (s:=(Zzn G hG s (by omega)));have hb:=Z8s s;refine AW.block ?_
  refine Zhc (fun (x:Nat × Nat × List Tk)=>st [(0,.str s),(2,grown 47 x.1 3 x.2.2),(3,.int .i64 x.2.1)] [(47,Zua x.1 Zib x.2.2)]) (fun x=>x.2.1≤s.length∧x.2.2.length≤x.2.1∧Zac s=Z2c (s.length+1) s x.2.1 x.2.2) (fun x=>s.length-x.2.1) (0,blk s,[]) ⟨hb,Nat.zero_le _,hT⟩
   (Zb zp zp) ?_
  rintro ⟨gx,i,acc⟩ ⟨hi,hal,hR⟩ L2 hL2;have hi:i≤s.length:=hi;have hal:acc.length≤i:=hal;have hR:Zac s=Z2c (s.length+1) s i acc:=hR;refine Z1 ?_;refine Ze rfl (fun h4=>?_) (fun h4=>?_)
  ·have hi1:i<s.length:=by simpa using h4
   refine Z0 ?_;refine Z5 ?_;refine AW.block ?_;have hfl:=Zdm (s.drop i);rw [List.length_drop] at hfl;have hst:=Zcs (f:=s.length+1) (acc:=acc) hi1 (by omega);have hbd:=Z5o (f:=s.length+1) (acc:=acc) hi1 (by omega);refine Z1f (zi hi @Nat.le_refl) ?_;refine Zn hG ?_ (s:=(Z8p G hE (s.drop i) (by simp;omega)));generalize Zoa (s.drop i)=p at hfl hst hbd ⊢;obtain ⟨n,k⟩:=p;simp only at hfl hst hbd;refine Zsf @encFk.eq_1 ?_;refine Z5 ?_
   by_cases hn0:n=0
   ·have e0:((n:Int)==0)=true:=by simp [hn0]
    refine Z1f e0 ?_;refine Ze rfl (fun h9=>?_) (fun h9=>?_)
    ·refine Z ?_
     rw [hR,hbd (.inl hn0)]<;>rfl
    ·cases h9
   ·have e0:((n:Int)==0)=false:=by
     rw [beq_eq_false_iff_ne];omega
    refine Z1f e0 ?_;refine Ze rfl (fun h9=>?_) (fun h9=>?_)
    ·have h9:n > 64:=by have h9:decide ((n:Int) > 64)=true:=h9;simp at h9;omega
     refine Z ?_
     rw [hR,hbd (.inr h9)]<;>rfl
    ·have h9:¬ n > 64:=by have h9:decide ((n:Int) > 64)=false:=h9;simp at h9;omega
     refine Z0 ?_;have hst:=hst (fun h=>h.elim hn0 h9)
     have hw:IntKind.i64.wrap ((i:Int)+(n:Int))=((i+n:Nat):Int):=by rw [w64 (by omega) (by omega)];omega
     have hin:i≤i+n:=by omega
     have hin2:i+n≤s.length:=by omega
     have hsub:i+n-i=n:=by omega
     refine Z1f (zi hw (zi hin (zi hin2 hsub))) ?_;intro g46;refine Zza (f:=Zib) (l:=acc) (l2:=[⟨k,(s.drop i).take n,i⟩]) (g:=gx) Z6h rfl rfl rfl zp (Zca (by omega) (by simp;omega)) fun g47=>?_;refine Zs ?_;refine Z1f hw ?_;have hbl:=Z8s (s.drop (i+n));rw [List.length_drop] at hbl
     have hw2:IntKind.i64.wrap (((i+n:Nat):Int)+(blk (s.drop (i+n)):Nat))=((i+n+blk (s.drop (i+n)):Nat):Int):=by rw [w64 (by omega) (by omega)];omega
     refine Z1f (zi hin2 @Nat.le_refl) ?_;refine Zc hG ?_ (s:=(Zzn G hG (s.drop (i+n)) (by simp;omega)));refine hL2 _ ⟨(g47,i+n+blk (s.drop (i+n)),acc++[⟨k,(s.drop i).take n,i⟩]),?_,⟨?_,?_,?_⟩,Zb (by simp -implicitDefEqProofs only[go_sem,seval];exact congrArg _ hw2) zp⟩
     ·show s.length-(i+n+blk (s.drop (i+n)))<s.length-i
      omega
     ·show i+n+blk (s.drop (i+n))≤s.length
      omega
     ·show (acc++[_]).length≤i+n+blk (s.drop (i+n))
      simp only [List.length_append,List.length_singleton];omega
     ·rw [hR];exact hst
  ·have hi1:¬ i<s.length:=by simpa using h4
   refine Z0 ?_;refine AW.weak (Zz (fun o=>o==47) (l:=[(2,encTks .new acc)]) (m:=[]) ?_ trivial) ?_
   ·refine Zs ?_
    exact Z1a rfl rfl Z6h
   refine Z ?_
   rw [hR,Z4o hi1]<;>rfl
theorem Zz3 (G:Nat→V) (hG:GOk G) (c:UInt8):Spec Tryz.prog G 150 [.int .u8 c.toNat] Zm (fun v _=>v = .bool (Zna c)):=by
 refine Zo 0 9 [.tmp 2] Tryz.func150 fun X=>?_
 have key:Zna c=(decide ((c.toNat:Int)≥48) && decide ((c.toNat:Int)≤57)):=by
  unfold Zna
  congr 1
  ·rw [decide_eq_decide];omega
  ·rw [decide_eq_decide];omega
 rw [key];refine Zx fun K hK=>AW.region zk ?_;refine Zs ?_;refine hK _ ?_
 try clear hK K
 cases h1:decide ((c.toNat:Int)≥48)<;>cases h2:decide ((c.toNat:Int)≤57)<;>((refine Zx fun K hK=>AW.region zk ?_;simp -implicitDefEqProofs only[go_sem,seval,h1,h2];refine hK _ ?_;clear hK K);(refine AW.ret ?_;simp -implicitDefEqProofs only[go_sem,seval];refine Zmb ?_);rfl)
theorem Zy3 (G:Nat→V) (hG:GOk G) (c:UInt8):Spec Tryz.prog G 149 [.int .u8 c.toNat] Zm (fun v _=>v = .bool (isLt c)):=by
 refine Zo 0 21 [.tmp 2] Tryz.func149 fun X=>?_
 have key:isLt c=((decide ((c.toNat:Int)≥65) && decide ((c.toNat:Int)≤90) || (decide ((c.toNat:Int)≥97) && decide ((c.toNat:Int)≤122))) || c==95):=by
  have:=Zdx (fun c=>isLt c==((decide ((c.toNat:Int)≥65) && decide ((c.toNat:Int)≤90) || (decide ((c.toNat:Int)≥97) && decide ((c.toNat:Int)≤122))) || c==95)) (by decide +kernel) c;simpa using this
 rw [key];refine Zx fun K hK=>AW.region zk ?_;refine Zs ?_;refine hK _ ?_
 try clear hK K
 cases h1:decide ((c.toNat:Int)≥65)<;>cases h2:decide ((c.toNat:Int)≤90)<;>cases h3:decide ((c.toNat:Int)≥97)<;>cases h4:decide ((c.toNat:Int)≤122)<;>cases h5:(c==95)<;>((refine Zx fun K hK=>AW.region zk ?_;simp -implicitDefEqProofs only[go_sem,seval,Zyba,h1,h2,h3,h4,h5];refine hK _ ?_;clear hK K);(refine AW.ret ?_;simp -implicitDefEqProofs only[go_sem,seval];refine Zmb ?_);rfl)
theorem Zo8 (G:Nat→V) (hG:GOk G) (s:List UInt8) (hs:s.length<1000000) (i:Nat) (hi:i≤s.length):Spec Tryz.prog G 151 [.str s,.int .i64 i] Zm (fun v _=>v = .bool (Zta [45,45] (s.drop i))):=by
 refine Zo 0 23 [.tmp 4] Tryz.func151 fun X=>?_
 have hw:IntKind.i64.wrap ((i:Int)+1)=((i+1:Nat):Int):=by rw [w64 (by omega) (by omega)];omega
 refine Zx fun K hK=>AW.region zk ?_;refine Zs ?_;refine hK _ ?_
 try clear hK K
 by_cases h:i+1<s.length
 ·have h1:decide (((i+1:Nat):Int)<s.length)=true:=zT
  have g1:=Zdn (l:=s) (k:=i) (by omega);have g2:=Zdn h
  have hd:s.drop i=s[i]::s[i+1]::s.drop (i+2):=by rw [List.drop_eq_getElem_cons (by omega),List.drop_eq_getElem_cons h]
  generalize s[i]=a at g1 hd;generalize s[i+1]=b at g2 hd;rw [hd,Zgb,Zgb,Z1c];rw [show ((45:UInt8)==a)=(a==45) from Bool.beq_comm,show ((45:UInt8)==b)=(b==45) from Bool.beq_comm]
  cases ha:(a==45)<;>cases hb:(b==45)<;>((refine Zx fun K hK=>AW.region zk ?_;simp -implicitDefEqProofs only[go_sem,seval,hw,h1,g1,g2,u8q45,ha,hb];refine hK _ ?_;clear hK K);(refine AW.ret ?_;simp -implicitDefEqProofs only[go_sem,seval];refine Zmb ?_);rfl)
 ·have h1:decide (((i+1:Nat):Int)<s.length)=false:=zF
  have:Zta [45,45] (s.drop i)=false:=by
   rw [Bool.eq_false_iff];intro hp;have:=(Z3h hp).2;rw [List.length_drop] at this;omega
  rw [this];refine Zx fun K hK=>AW.region zk ?_;refine Zsf (zi hw h1) ?_;refine hK _ ?_
  try clear hK K
  exact Zr
theorem Zsp (G:Nat→V) (hG:GOk G) (s:List UInt8) (hs:s.length<1000000) (i:Nat) (hi:i≤s.length):Spec Tryz.prog G 121 [.str s,.int .i64 i] Zm (fun v _=>v = .int .i64 ((i+blk (s.drop i):Nat):Int)):=by
 refine Zo 0 52 [.tmp 4] Tryz.func121 fun X=>?_;refine Z1 ?_;refine Z5 ?_;refine AW.block ?_
 refine Zhc (fun (k:Nat)=>st [(0,.str s),(1,.int .i64 k)] []) (fun k=>k≤s.length∧i+blk (s.drop i)=k+blk (s.drop k)) (fun k=>s.length-k) i ⟨hi,rfl⟩
  (Zb zp zp) ?_
 rintro k ⟨hk,hR⟩ L2 hL2;refine Z1 ?_;refine Ze rfl (fun h4=>?_) (fun h4=>?_)
 ·have hk1:k<s.length:=by simpa using h4
  have g1:=Zdn hk1;have hd:s.drop k=s[k]::s.drop (k+1):=List.drop_eq_getElem_cons hk1;generalize s[k]=c at g1 hd;refine Z0 ?_;refine AW.block ?_;refine AW.block ?_
  have hbl:Zfk c=(c==9 || c==10 || c==13 || c==32):=by
   have:=Zdx (fun c=>Zfk c==(c==9 || c==10 || c==13 || c==32)) (by decide +kernel) c;simpa using this
  refine Zha (fun (_:Unit)=>st [(0,.str s),(1,.int .i64 k),(10,.bool (Zfk c))] []) (fun _=>True) (fun K5 hK5=>?_) ?_
  ·rw [hbl] at hK5
   cases h1:(c==9)<;>cases h2:(c==10)<;>cases h3:(c==13)<;>cases h5:(c==32)<;>(rw [h1,h2,h3,h5] at hK5;refine AW.region zk ?_;simp -implicitDefEqProofs only[go_sem,seval,g1,u8q9,Zzba,Zr7,Zq7,h1,h2,h3,h5];exact hK5 _ () trivial (Zb zp zp))
  intro _ _;refine Ze rfl (fun h6=>?_) (fun h6=>?_)
  ·rw [hd,Zp4 h6] at hR
   refine Z1 ?_;refine hL2 _ ⟨k+1,by omega,⟨by omega,by omega⟩,Zb (by simp -implicitDefEqProofs only[go_sem,seval];exact congrArg _ (by rw [w64 (by omega) (by omega)];omega)) zp⟩
  ·refine Z1 ?_
   refine Zc hG ?_ (s:=(Zo8 G hG s hs k hk));refine Ze rfl (fun h7=>?_) (fun h7=>?_)
   ·rw [Ztu h7,List.drop_drop] at hR
    have hr:=Z2f Zpo (s.drop k);have h2:=Z3h h7;rw [List.length_drop] at hr;refine AW.block ?_
    refine Zhc (fun (j:Nat)=>st [(0,.str s),(1,.int .i64 j)] []) (fun j=>j≤s.length∧k≤j∧k+Z9c Zpo (s.drop k)=j+Z9c Zpo (s.drop j)) (fun j=>s.length-j) k ⟨hk,Nat.le_refl _,rfl⟩
     (Zb zp zp) ?_
    rintro j ⟨hj,hkj,hJ⟩ L8 hL8;refine Z5 ?_
    by_cases hj1:j<s.length
    ·have e1:decide ((j:Int)<s.length)=true:=zT
     have g2:=Zdn hj1;have hd2:s.drop j=s[j]::s.drop (j+1):=List.drop_eq_getElem_cons hj1;generalize s[j]=b at g2 hd2;rw [hd2,Ztl] at hJ
     cases hb:(b==10) with
     | true =>
      refine Z5c zk ?_;simp -implicitDefEqProofs only[go_sem,seval,e1,g2,bne,Zzba,hb];refine Zkc rfl ?_
      ·refine Z0 ?_
       have:Zpo b=false:=by unfold Zpo;rw [hb]<;>rfl
       rw [this,if_neg (by simp)] at hJ;refine hL2 _ ⟨j,by omega,⟨hj,by have hJ':k+Z9c Zpo (s.drop k)=j:=hJ;rw [hR,hJ'];omega⟩,Zb zp zp⟩
     | false =>
      refine Z5c zk ?_;simp -implicitDefEqProofs only[go_sem,seval,e1,g2,bne,Zzba,hb];refine Ze rfl (fun h10=>?_) (fun h10=>?_)
      ·have:Zpo b=true:=by unfold Zpo;rw [hb]<;>rfl
       rw [this,if_pos rfl] at hJ;refine Z1 ?_;refine hL8 _ ⟨j+1,by omega,⟨by omega,by omega,by omega⟩,Zb (by simp -implicitDefEqProofs only[go_sem,seval];exact congrArg _ (by rw [w64 (by omega) (by omega)];omega)) zp⟩
      ·cases h10
    ·have e1:decide ((j:Int)<s.length)=false:=zF
     have hj2:j=s.length:=by omega
     refine Z1f e1 ?_;refine Zkc rfl ?_
     ·refine Z0 ?_
      have h0:s.drop j=[]:=by rw [hj2,List.drop_length]
      rw [h0] at hJ;refine hL2 _ ⟨j,by omega,⟨hj,by have hJ':k+Z9c Zpo (s.drop k)=j:=hJ;rw [hR,hJ'];omega⟩,Zb zp zp⟩
   ·rw [hd] at h7 hR
    rw [Zn4 h6 h7] at hR;refine Z ?_
    rw [hR]<;>rfl
 ·have hk1:¬ k<s.length:=by simpa using h4
  refine Z ?_;have h0:s.drop k=[]:=List.drop_eq_nil_of_le (by omega)
  rw [hR,h0]<;>rfl
theorem Ztp (G:Nat→V) (hG:GOk G) (c:Col) (t:List UInt8) (s:Sl (List UInt8)) (hs:s.l.length<1000000) :
  Spec Tryz.prog G 148 [.str t,Za c 1 V.str s] Zm (fun v _=>v = .bool (s.l.contains t)):=by
 refine Zo 0 18 [.tmp 4] Tryz.func148 fun X=>?_;refine Z1 ?_;refine Z1 ?_;refine AW.block ?_
 refine Zwa s.l.length (fun k (_:Unit)=>st [(0,.str t),(1,Za c 1 V.str s),(5,.int .i64 k)] []) (fun k _=>(s.l.take k).contains t=false) 0 () (Nat.zero_le _) rfl
  (Zb zp zp) ?_
 intro k _ hk hR L2 hL2;refine Z1 ?_;refine Ze rfl (fun h4=>?_) (fun h4=>?_)
 ·have hk1:k<s.l.length:=by simpa using h4
  have hg:=List.getElem?_eq_getElem hk1
  have htk:s.l.take (k+1)=s.l.take k++[s.l[k]]:=by rw [List.take_succ_eq_append_getElem hk1]
  have hmem:=List.getElem_mem hk1;generalize s.l[k]=x at hg htk hmem;refine Z1f hg ?_;refine Ze rfl (fun h6=>?_) (fun h6=>?_)
  ·have h6:x=t:=by simpa using h6
   refine Z ?_
   have:s.l.contains t=true:=by rw [← h6];simpa using hmem
   rw [this]
  ·have h6:¬ x=t:=by simpa using h6
   refine Z1 ?_;refine hL2 _ ⟨hk1,(),?_,Zb zw zp⟩;rw [htk];simp only [List.contains_eq_mem,decide_eq_false_iff_not] at hR ⊢;intro hm
   rcases List.mem_append.1 hm with h | h
   ·exact hR h
   ·exact h6 ((List.mem_singleton.1 h).symm)
 ·have hk1:k=s.l.length:=by simp at h4;omega
  refine Z ?_;rw [hk1,List.take_length] at hR;rw [hR]
theorem Zqk (G:Nat→V) (hG:GOk G) (s:List UInt8) (hs:s.length<1000000000000000):Spec Tryz.prog G 120 [.str s] Zm (fun v _=>v = .int .u8 (Zec s)):=by
 refine Zo 0 45 [.tmp 2] Tryz.func120 fun X=>?_
 have hW1:signsL.contains s=true→Zec s=4:=fun h=>by unfold Zec;rw [if_pos h]
 have hW2:signsL.contains s=false→wordsL.contains s=true→Zec s=3:=fun h h2=>by unfold Zec;rw [if_neg (by rw [h];simp),if_pos h2]
 have hW3:∀ c r,s=c::r→signsL.contains s=false→wordsL.contains s=false→Zec s=if s.all Zna then 1 else if isLt c && s.all Zqe then 2 else 0:=by
  rintro c r rfl h h2;unfold Zec;rw [if_neg (by rw [h];simp),if_neg (by rw [h2];simp)]
 refine Z1 ?_;refine Z1 ?_;intro g;refine Ztc hG [.str s,Za .old 1 V.str (.mk false signsL)] zk ⟨Z7e (.str _) rfl,Rd.msl (off:=0) (n:=14) (l:=signsL) (f:=V.str) (f':=V.str) (g:=g) (fz:=0) (c := .new) zp (fun _=>rfl) (fun x y hy=>by simp [V.cells] at hy;subst hy;exact .str _) (fun _=>rfl) (by decide),trivial⟩ ?_;refine (Ztp G hG _ s (.mk false signsL) (by decide)).mono ?_;rintro _ _ rfl;refine ⟨.bool _,?_⟩;refine Zs ?_;refine Ze rfl (fun h2=>?_) (fun h2=>?_)
 ·refine Z ?_
  rw [hW1 h2]<;>rfl
 refine Z1 ?_;intro g;refine Ztc hG [.str s,Za .old 1 V.str (.mk false wordsL)] zk ⟨Z7e (.str _) rfl,Rd.msl (off:=0) (n:=14) (l:=wordsL) (f:=V.str) (f':=V.str) (g:=g) (fz:=0) (c := .new) zp (fun _=>rfl) (fun x y hy=>by simp [V.cells] at hy;subst hy;exact .str _) (fun _=>rfl) (by decide),trivial⟩ ?_;refine (Ztp G hG _ s (.mk false wordsL) (by decide)).mono ?_;rintro _ _ rfl;refine ⟨.bool _,?_⟩;refine Zs ?_;refine Ze rfl (fun h4=>?_) (fun h4=>?_)
 ·refine Z ?_
  rw [hW2 h2 h4]<;>rfl
 refine Z0 ?_;refine Z5 ?_
 cases s with
 | nil =>
  refine Z1 ?_;refine Ze rfl (fun h6=>?_) (fun h6=>?_)
  ·exact Zr
  ·cases h6
 | cons c r =>
  have hW:=hW3 c r rfl h2 h4;refine Z1 ?_;refine Z1 ?_;refine Z1 ?_;refine Zc hG ?_ (s:=(Zy3 G hG c));refine Zx fun K7 hK7=>?_;refine Z1 ?_;refine AW.block ?_;generalize hs0:c::r=s at hs hW hK7 ⊢
  refine Zwa s.length (fun k (_:Unit)=>st [(0,.str s),(3,.bool ((s.take k).all Zna)),(4,.bool (isLt c && (s.take k).all Zqe)),(5,.int .i64 k)] []) (fun k _=>True) 0 () (Nat.zero_le _) trivial
   (Zb (by simp -implicitDefEqProofs only[go_sem,seval];rw [List.all_nil,List.all_nil,Bool.and_true];exact ⟨rfl,rfl⟩) zp) ?_
  intro k _ hk hR L8 hL8;refine Z1 ?_;refine Ze rfl (fun h10=>?_) (fun h10=>?_)
  ·have hk1:k<s.length:=by simpa using h10
   have hg:=Zdn hk1
   have htk:s.take (k+1)=s.take k++[s[k]]:=by rw [List.take_succ_eq_append_getElem hk1]
   generalize s[k]=x at hg htk;refine Z0 ?_;refine Z5 ?_;refine AW.block ?_
   have ha:∀ p:UInt8→Bool,(s.take (k+1)).all p=((s.take k).all p && p x):=fun p=>by rw [htk,List.all_append];simp
   refine Zha (fun (_:Unit)=>st [(0,.str s),(3,.bool ((s.take (k+1)).all Zna)),(4,.bool (isLt c && (s.take k).all Zqe)),(5,.int .i64 k)] []) (fun _=>True) (fun K12 hK12=>?_) ?_
   ·rw [ha Zna] at hK12
    cases h1:(s.take k).all Zna with
    | true =>
     refine Z1f (zi hg h1) ?_;refine Zc hG ?_ (s:=(Zz3 G hG x));exact hK12 _ () trivial (Zb (by simp -implicitDefEqProofs only[go_sem,seval,h1];cases Zna x<;>rfl) zp)
    | false =>
     refine Z1f (zi hg h1) ?_;exact hK12 _ () trivial (Zb (zpf h1) zp)
   intro _ _
   have hN:(isLt c && (s.take (k+1)).all Zqe)=((isLt c && (s.take k).all Zqe) && (isLt x || Zna x)):=by
    rw [ha Zqe,← Bool.and_assoc]<;>rfl
   cases h1:(isLt c && (s.take k).all Zqe) with
   | true =>
    rw [h1,Bool.true_and] at hN;refine Z1f (zi hg h1) ?_;refine Zn hG ?_ (s:=(Zy3 G hG x))
    cases h2:isLt x with
    | true =>
     refine Zsf h2 ?_;refine Z1 ?_;refine hL8 _ ⟨hk1,(),trivial,Zb (by rw [hN,h2];simp -implicitDefEqProofs only[go_sem,seval];exact ⟨rfl,congrArg _ (w64 (by omega) (by omega))⟩) zp⟩
    | false =>
     refine Zsf (zi hg h2) ?_;refine Zc hG ?_ (s:=(Zz3 G hG x));refine Z1 ?_;refine hL8 _ ⟨hk1,(),trivial,Zb (by rw [hN,h2];simp -implicitDefEqProofs only[go_sem,seval];cases Zna x<;>exact ⟨rfl,congrArg _ (w64 (by omega) (by omega))⟩) zp⟩
   | false =>
    rw [h1,Bool.false_and] at hN;refine Z1f (zi hg h1) ?_;refine Z1 ?_;refine hL8 _ ⟨hk1,(),trivial,Zb (by rw [hN];simp -implicitDefEqProofs only[go_sem,seval];try exact congrArg _ (w64 (by omega) (by omega))) zp⟩
  ·have hk1:k=s.length:=by simp at h10;omega
   rw [hk1,List.take_length];refine Z0 ?_;refine hK7 _ ?_;refine Zx fun K12 hK12=>?_;refine Z1 ?_;refine Ze rfl (fun h13=>?_) (fun h13=>?_)
   ·refine Z ?_
    rw [hW,if_pos h13]<;>rfl
   refine Z0 ?_;refine hK12 _ ?_;refine Z1 ?_;refine Ze rfl (fun h15=>?_) (fun h15=>?_)
   ·refine Z ?_
    rw [hW,if_neg (by rw [h13];simp),if_pos h15];rfl
   refine Z ?_;rw [hW,if_neg (by rw [h13];simp),if_neg (by rw [h15];simp)];rfl
theorem Zlj (G:Nat→V) (hG:GOk G) (s:List UInt8) (hs:s.length<1000000000000000):Spec Tryz.prog G 81 [.str s] Zm (fun v _=>v = .int .u8 (isP s)):=by
 refine Zo 0 8 [.tmp 2] Tryz.func81 fun X=>?_;rw [Zaq];refine Z1 ?_;refine Z1 ?_;refine Ze rfl (fun h2=>?_) (fun h2=>?_)
 ·have h2:s.length > 64:=by have h2:decide ((s.length:Int) > 64)=true:=h2;simp at h2;omega
  refine Z ?_
  rw [if_pos h2]<;>rfl
 ·have h2:¬ s.length > 64:=by have h2:decide ((s.length:Int) > 64)=false:=h2;simp at h2;omega
  refine Z1 ?_;refine Zc hG ?_ (s:=(Zqk G hG s hs));refine Z ?_;rw [if_neg h2]
theorem Z3t (G:Nat→V) (hG:GOk G) (s:List UInt8) (hs:s.length<1000000) (i:Nat) (hi:i<s.length) (hp:Zta [45,45] (s.drop i)=false) :
  Spec Tryz.prog G 122 [.str s,.int .i64 i] Zm (fun v _=>v = .int .i64 (Zoa (s.drop i)).1):=by
 refine Zo 0 35 [.tmp 4] Tryz.func122 fun X=>?_;have hdl:(s.drop i).length=s.length-i:=List.length_drop;have hend:=fun k=>Zm9 (s:=s.drop i) (by intro h;rw [h] at hdl;simp at hdl;omega) hp (k:=k);have hsucc:=fun k=>Zqf (s.drop i) (k:=k);have hle:=Z93 (s.drop i);refine Z1 ?_;refine Z1 ?_;refine Z1 ?_;refine AW.block ?_
 refine Zhc (fun (k:Nat)=>st [(0,.str s),(1,.int .i64 i),(5,.int .i64 (Zag (s.drop i) k)),(6,.int .i64 k)] []) (fun k=>1≤k∧k≤(s.drop i).length+1) (fun k=>(s.drop i).length+1-k) 1 ⟨Nat.le_refl _,by omega⟩
  (Zb (by simp -implicitDefEqProofs only[go_sem,seval];rw [Z5l]<;>rfl) zp) ?_
 rintro k ⟨hk1,hk2⟩ L2 hL2;have hlk:=hle k
 have hw:IntKind.i64.wrap ((i:Int)+(k:Int))=((i+k:Nat):Int):=by rw [w64 (by omega) (by omega)];omega
 have hw1:IntKind.i64.wrap ((k:Int)-1)=(k:Int)-1:=w64 (by omega) (by omega);refine Z5 ?_
 by_cases h1:i+k≤s.length
 ·have e1:decide (((i+k:Nat):Int)≤s.length)=true:=zT
  refine Zha (fun (_:Unit)=>st [(0,.str s),(1,.int .i64 i),(5,.int .i64 (Zag (s.drop i) k)),(6,.int .i64 k),(22,.bool (decide (k<3∨Zag (s.drop i) k=k-1)))] []) (fun _=>True) (fun K4 hK4=>?_) ?_
  ·by_cases h2:k<3
   ·have e2:decide ((k:Int)<3)=true:=zT
    have e3:decide (k<3∨Zag (s.drop i) k=k-1)=true:=by rw [decide_eq_true_iff];exact .inl h2
    rw [e3] at hK4;refine Z1f (zi hw (zi e1 e2)) ?_;exact hK4 _ () trivial (Zb zp zp)
   ·have e2:decide ((k:Int)<3)=false:=zF
    have e3:((Zag (s.drop i) k:Int)==(k:Int)-1)=decide (k<3∨Zag (s.drop i) k=k-1):=by
     by_cases h3:Zag (s.drop i) k=k-1
     ·rw [show decide (k<3∨Zag (s.drop i) k=k-1)=true by rw [decide_eq_true_iff];exact .inr h3,h3]
      rw [beq_iff_eq];omega
     ·rw [show decide (k<3∨Zag (s.drop i) k=k-1)=false by rw [decide_eq_false_iff_not];rintro (h | h);exact h2 h;exact h3 h]
      rw [beq_eq_false_iff_ne];omega
    rw [← e3] at hK4;generalize Zag (s.drop i) k=n at hK4 ⊢
    cases e4:((n:Int)==(k:Int)-1) with
    | true =>
     rw [e4] at hK4;refine Z1f (zi hw (zi hw1 (zi e1 (zi e2 e4)))) ?_;exact hK4 _ () trivial (Zb zp zp)
    | false =>
     rw [e4] at hK4;refine Z1f (zi hw (zi hw1 (zi e1 (zi e2 e4)))) ?_;exact hK4 _ () trivial (Zb zp zp)
  intro _ _;refine Ze rfl (fun h4=>?_) (fun h4=>?_)
  ·refine Z0 ?_
   refine Z5 ?_;refine AW.block ?_
   have hin:i≤i+k:=by omega
   have hsub:i+k-i=k:=by omega
   have hs1:=hsucc k hk1
   have hkl:((s.drop i).take k).length<1000000:=by rw [List.length_take];omega
   refine Z1f (zi hw (zi hin (zi hsub h1))) ?_;refine Zc hG ?_ (s:=(Zqk G hG _ (by omega)));generalize Zec ((s.drop i).take k)=wk at hs1 ⊢;refine Ze rfl (fun h6=>?_) (fun h6=>?_)
   ·have h6:¬ wk=0:=by simpa using h6
    rw [if_neg h6] at hs1;refine Z1 ?_;refine Z1 ?_;refine hL2 _ ⟨k+1,by omega,⟨by omega,by omega⟩,Zb (by rw [hs1];simp -implicitDefEqProofs only[go_sem,seval];exact congrArg _ (w64 (by omega) (by omega))) zp⟩
   ·have h6:wk=0:=by simpa using h6
    rw [if_pos h6] at hs1;refine Z1 ?_;refine hL2 _ ⟨k+1,by omega,⟨by omega,by omega⟩,Zb (by rw [hs1];simp -implicitDefEqProofs only[go_sem,seval];exact congrArg _ (w64 (by omega) (by omega))) zp⟩
  ·have h4:¬ (k<3∨Zag (s.drop i) k=k-1):=by simpa using h4
   refine Z ?_;rw [hend k hk1 hk2 (.inr ⟨by omega,fun h=>h4 (.inr h)⟩)]
 ·have e1:decide (((i+k:Nat):Int)≤s.length)=false:=zF
  refine Z1f (zi hw e1) ?_;refine Zkc rfl ?_
  ·refine Z ?_
   rw [hend k hk1 hk2 (.inl (by omega))]
theorem Z1x (G:Nat→V) (hG:GOk G) (s:List UInt8) (hs:s.length<100000):Spec Tryz.prog G 85 [.str s] Zm (fun v _=>v=encTok (Zac s)):=by
 refine Zo 0 51 [.tmp 2,.tmp 3,.tmp 4] Tryz.func85 fun X=>?_;refine Z1 ?_;refine Z1 ?_
 have hT:Zac s=if s.length > 65536 then ([],0,3) else Z2c (s.length+1) s (blk s) []:=rfl
 refine Ze rfl (fun h2=>?_) (fun h2=>?_)
 ·have h2:s.length > 65536:=by have h2:decide ((s.length:Int) > 65536)=true:=h2;simp at h2;omega
  refine Z ?_
  rw [hT,if_pos h2]<;>rfl
 ·have h2:¬ s.length > 65536:=by have h2:decide ((s.length:Int) > 65536)=false:=h2;simp at h2;omega
  rw [if_neg h2] at hT;refine Z1 ?_;refine Z1 ?_;refine Zn hG ?_ (s:=(Zsp G hG s (by omega) 0 (Nat.zero_le _)));rw [List.drop_zero,Nat.zero_add];refine Zs ?_;have hb:=Z8s s;have hcl:=Zuq s;refine Z5 ?_;refine AW.block ?_
  refine Zhc (fun (x:Nat × Nat × List Tk)=>st [(0,.str s),(5,grown 44 x.1 3 x.2.2),(6,.int .i64 x.2.1)] [(44,Zua x.1 Zib x.2.2)]) (fun x=>x.2.1≤s.length∧x.2.2.length≤x.2.1∧Zac s=Z2c (s.length+1) s x.2.1 x.2.2∧Zl4 (s.drop x.2.1)) (fun x=>s.length-x.2.1) (0,blk s,[]) ⟨hb,Nat.zero_le _,hT,hcl⟩
   (Zb zp zp) ?_
  rintro ⟨gx,i,acc⟩ ⟨hi,hal,hR,hC⟩ L2 hL2;have hi:i≤s.length:=hi;have hal:acc.length≤i:=hal;have hR:Zac s=Z2c (s.length+1) s i acc:=hR;have hC:Zl4 (s.drop i):=hC;refine Z1 ?_;refine Ze rfl (fun h4=>?_) (fun h4=>?_)
  ·have hi1:i<s.length:=by simpa using h4
   refine Z0 ?_;refine AW.block ?_;have hpre:Zta [45,45] (s.drop i)=false:=(hC _ _ (List.drop_eq_getElem_cons hi1)).2;have hfl:=Zdm (s.drop i);rw [List.length_drop] at hfl;have hst:=Zcs (f:=s.length+1) (acc:=acc) hi1 (by omega);have hbd:=Z5o (f:=s.length+1) (acc:=acc) hi1 (by omega);have hkd:=Z3s hpre;refine Z1 ?_;refine Zn hG ?_ (s:=(Z3t G hG s (by omega) i hi1 hpre));generalize Zoa (s.drop i)=p at hfl hst hbd hkd ⊢;obtain ⟨n,k⟩:=p;simp only at hfl hst hbd hkd;refine Zs ?_;refine Z5 ?_
   by_cases hn0:n=0
   ·have e0:((n:Int)==0)=true:=by simp [hn0]
    refine Z1f e0 ?_;refine Ze rfl (fun h9=>?_) (fun h9=>?_)
    ·refine Z ?_
     rw [hR,hbd (.inl hn0)]<;>rfl
    ·cases h9
   ·have e0:((n:Int)==0)=false:=by
     rw [beq_eq_false_iff_ne];omega
    refine Z1f e0 ?_;refine Ze rfl (fun h9=>?_) (fun h9=>?_)
    ·have h9:n > 64:=by have h9:decide ((n:Int) > 64)=true:=h9;simp at h9;omega
     refine Z ?_
     rw [hR,hbd (.inr h9)]<;>rfl
    ·have h9:¬ n > 64:=by have h9:decide ((n:Int) > 64)=false:=h9;simp at h9;omega
     refine Z0 ?_;have hst:=hst (fun h=>h.elim hn0 h9);obtain ⟨hkd,_⟩:=hkd hn0
     have hw:IntKind.i64.wrap ((i:Int)+(n:Int))=((i+n:Nat):Int):=by rw [w64 (by omega) (by omega)];omega
     have hin:i≤i+n:=by omega
     have hin2:i+n≤s.length:=by omega
     have hsub:i+n-i=n:=by omega
     have p1:Z5g Tryz.prog G 120 [.str ((s.drop i).take n)] (.int .u8 k):=⟨by kernel_rfl,by
      refine Zs ?_;refine (Zqk G hG _ (by rw [List.length_take,List.length_drop];omega)).mono ?_;rintro _ _ rfl
      rw [hkd]<;>rfl⟩
     refine Z5 <| Zy ⟨fun i=>if i=7 then .int .u8 k else .top,fun _ => .pure⟩ zk hG zk zk ?_
     refine Zsf (zi hw (zi hin (zi hin2 hsub))) ?_;refine ⟨p1,?_⟩;intro g43;refine Zza (f:=Zib) (l:=acc) (l2:=[⟨k,(s.drop i).take n,i⟩]) (g:=gx) Z6h rfl rfl rfl zp (Zca (by omega) (by simp;omega)) fun g44=>?_;refine Zs ?_;have hbl:=Z8s (s.drop (i+n));rw [List.length_drop] at hbl;refine Z1f hw ?_;refine Zc hG ?_ (s:=(Zsp G hG s (by omega) (i+n) hin2));refine hL2 _ ⟨(g44,i+n+blk (s.drop (i+n)),acc++[⟨k,(s.drop i).take n,i⟩]),?_,⟨?_,?_,?_,?_⟩,Zb zp zp⟩
     ·show s.length-(i+n+blk (s.drop (i+n)))<s.length-i
      omega
     ·show i+n+blk (s.drop (i+n))≤s.length
      omega
     ·show (acc++[_]).length≤i+n+blk (s.drop (i+n))
      simp only [List.length_append,List.length_singleton];omega
     ·rw [hR];exact hst
     ·have:=Zuq (s.drop (i+n))
      rwa [List.drop_drop] at this
  ·have hi1:¬ i<s.length:=by simpa using h4
   refine Z0 ?_;refine AW.weak (Zz (fun o=>o==44) (l:=[(5,encTks .new acc)]) (m:=[]) ?_ trivial) ?_
   ·refine Zs ?_
    exact Z1a rfl rfl Z6h
   refine Z ?_
   rw [hR,Z4o hi1]<;>rfl
end Go.Hs
end
