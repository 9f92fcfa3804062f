/- Part 44 of the proof of a statement of seat YtnjcehngoajnnaaGreatDoor: HsGEvT HsExprGram HsExprPrn HsExprP HsExprBkLaw HsGEvU HsExprNm HsGExprFr HsGExprPa HsGEvF HsGTypOf HsEvPl HsGEvG HsGEvH HsGExpLaid HsGExpLaidG HsGExpArgs HsGExpArgs2 HsGEvArgs HsGSeatF. -/
import Derived.Test.YtnjcehngoajnnaaGreatDoorPart43
import Derived.Test.YtnjcehngoajnnaaGreatDoorPart42
import Derived.Test.YtnjcehngoajnnaaGreatDoorPart33
import Derived.Test.YtnjcehngoajnnaaGreatDoorPart38
import Derived.Test.YtnjcehngoajnnaaGreatDoorPart37
import Derived.Test.YtnjcehngoajnnaaGreatDoorPart39
import Derived.Test.YtnjcehngoajnnaaGreatDoorPart36
import Derived.Laws.StructEq
import Derived.Test.YtnjcehngoajnnaaGreatDoorRows
import Derived.ProofKit
import Derived.OpenShut
import Derived.LaidLaws
import Derived.Stop.LaidErr
import Derived.Lib.LaidTab
import Derived.Handed
import Derived.ChangeMaps5
import Derived.Test.YtnjcehngoajnnaaGreatDoorCards
set_option linter.unusedSimpArgs false
set_option linter.unusedVariables false
section
namespace Go.Hs
open Go.Proofs
set_option maxRecDepth 10000
set_option maxHeartbeats 1000000
theorem leaf10 (G:Nat→V) (hG:GOk G) (sl:Sl XN) (hs:sl.l.length<1000000) (env:Sl (List UInt8 × Int)) (hv:env.l.length<1000000) (i:Nat) (n:XN) (hn:sl.l[i]? = some n) (ho:1≤n.op∧n.op≤4):RC G sl env i (leafV2 env.l n.op n.num n.name):=by
 intro c1 c2
 have hil:i<sl.l.length:=(List.getElem?_eq_some_iff.1 hn).1
 obtain ⟨op,num,name,na,nb,nc⟩:=n
 refine Spec.of_code' 0 163 [.cell 4 43,.tmp 5] Tryz.func46 rfl rfl rfl rfl fun X=>?_
 refine AW.seq_k fun K hK=>AW.region (by kernel_rfl) ?_
 simp -implicitDefEqProofs only[go_sem,seval,↓reduceIte,lk10]
 intro g2 g4
 refine hK _ ?_
 clear hK K
 refine AW.seq_k fun K hK=>AW.region (by kernel_rfl) ?_
 simp -implicitDefEqProofs only[go_sem,seval,↓reduceIte,hn,Int.natCast_nonneg,Int.ofNat_lt,hil,encXN_K]
 intro g6
 refine hK _ ?_
 clear hK K
 refine AW.weak (Weak.stF (fun o=>o==2 || o==6) (l:=[(2,.view .new (.agg [encSl c1 6 encXN sl,encSl c2 2 encBi env])),(4,.ptr 4 g4 0),(5,.int .i64 0),(6,.view .new (.agg [.int .u8 op,.int .i64 num,.str name,.int .i64 na,.int .i64 nb,.int .i64 nc]))]) (m:=[(4,.cells .new g4 0 [.int .u8 0,.int .i64 0,.bool false])]) ?_ ?_) ?_
 ·simp -implicitDefEqProofs only[go_sem,seval,↓reduceIte]
  refine ⟨?_,Fz.same _,Fz.same _,?_⟩
  ·exact Fz.ptr (v := .agg [encSl c1 6 encXN sl,encSl c2 2 encBi env]) (c := .new) (fz:=0) rfl (by simp -implicitDefEqProofs only[go_sem,seval,↓reduceIte];try rfl)
  ·exact Fz.ptr (v := .agg [.int .u8 op,.int .i64 num,.str name,.int .i64 na,.int .i64 nb,.int .i64 nc]) (c := .new) (fz:=0) rfl (by simp -implicitDefEqProofs only[go_sem,seval,↓reduceIte];try rfl)
 ·simp only [allFzO_cons,allFzO_nil,and_true]
  exact FzO.keep rfl (by simp -implicitDefEqProofs only[go_sem,seval,↓reduceIte];try rfl)
 simp only at ho ⊢
 obtain rfl | rfl | rfl | rfl:op=1∨op=2∨op=3∨op=4:=by omega
 ·repeat first
   | (refine AW.qr (by kernel_rfl) ?_;simp -implicitDefEqProofs only[go_sem,seval,↓reduceIte])
   | (refine AW.region (by kernel_rfl) ?_;simp -implicitDefEqProofs only[go_sem,seval,↓reduceIte])
   | refine AW.qq ?_
   | refine AW.block ?_
   | refine AW.qT rfl ?_
   | refine AW.qF rfl ?_
   | (refine AW.skip ?_;simp -implicitDefEqProofs only[go_sem,seval,↓reduceIte])
   | (refine AW.exit ?_;simp -implicitDefEqProofs only[go_sem,seval,↓reduceIte])
   | (refine AW.ret ?_;simp -implicitDefEqProofs only[go_sem,seval,↓reduceIte];refine endK_some ?_)
  refine CallA.pure hG (by kernel_rfl) ?_
  simp -implicitDefEqProofs only[go_sem,seval,↓reduceIte,recol_xns,recol_bis,lk10,encXN_K]
  refine (counted_spec G _ 0).mono ?_
  rintro _ _ rfl
  simp -implicitDefEqProofs only[go_sem,seval,↓reduceIte,encVE,encEV]
  repeat first
   | (refine AW.qr (by kernel_rfl) ?_;simp -implicitDefEqProofs only[go_sem,seval,↓reduceIte])
   | (refine AW.region (by kernel_rfl) ?_;simp -implicitDefEqProofs only[go_sem,seval,↓reduceIte])
   | refine AW.qq ?_
   | refine AW.block ?_
   | refine AW.qT rfl ?_
   | refine AW.qF rfl ?_
   | (refine AW.skip ?_;simp -implicitDefEqProofs only[go_sem,seval,↓reduceIte])
   | (refine AW.exit ?_;simp -implicitDefEqProofs only[go_sem,seval,↓reduceIte])
   | (refine AW.ret ?_;simp -implicitDefEqProofs only[go_sem,seval,↓reduceIte];refine endK_some ?_)
  rfl
 rotate_left
 ·repeat first
   | (refine AW.qr (by kernel_rfl) ?_;simp -implicitDefEqProofs only[go_sem,seval,↓reduceIte])
   | (refine AW.region (by kernel_rfl) ?_;simp -implicitDefEqProofs only[go_sem,seval,↓reduceIte])
   | refine AW.qq ?_
   | refine AW.block ?_
   | refine AW.qT rfl ?_
   | refine AW.qF rfl ?_
   | (refine AW.skip ?_;simp -implicitDefEqProofs only[go_sem,seval,↓reduceIte])
   | (refine AW.exit ?_;simp -implicitDefEqProofs only[go_sem,seval,↓reduceIte])
   | (refine AW.ret ?_;simp -implicitDefEqProofs only[go_sem,seval,↓reduceIte];refine endK_some ?_)
  refine CallA.pure hG (by kernel_rfl) ?_
  simp -implicitDefEqProofs only[go_sem,seval,↓reduceIte,recol_xns,recol_bis,lk10,encXN_K]
  refine (tolds_spec G _ 0).mono ?_
  rintro _ _ rfl
  simp -implicitDefEqProofs only[go_sem,seval,↓reduceIte,encVE,encEV]
  repeat first
   | (refine AW.qr (by kernel_rfl) ?_;simp -implicitDefEqProofs only[go_sem,seval,↓reduceIte])
   | (refine AW.region (by kernel_rfl) ?_;simp -implicitDefEqProofs only[go_sem,seval,↓reduceIte])
   | refine AW.qq ?_
   | refine AW.block ?_
   | refine AW.qT rfl ?_
   | refine AW.qF rfl ?_
   | (refine AW.skip ?_;simp -implicitDefEqProofs only[go_sem,seval,↓reduceIte])
   | (refine AW.exit ?_;simp -implicitDefEqProofs only[go_sem,seval,↓reduceIte])
   | (refine AW.ret ?_;simp -implicitDefEqProofs only[go_sem,seval,↓reduceIte];refine endK_some ?_)
  rfl
 ·repeat first
   | (refine AW.qr (by kernel_rfl) ?_;simp -implicitDefEqProofs only[go_sem,seval,↓reduceIte])
   | (refine AW.region (by kernel_rfl) ?_;simp -implicitDefEqProofs only[go_sem,seval,↓reduceIte])
   | refine AW.qq ?_
   | refine AW.block ?_
   | refine AW.qT rfl ?_
   | refine AW.qF rfl ?_
   | (refine AW.skip ?_;simp -implicitDefEqProofs only[go_sem,seval,↓reduceIte])
   | (refine AW.exit ?_;simp -implicitDefEqProofs only[go_sem,seval,↓reduceIte])
   | (refine AW.ret ?_;simp -implicitDefEqProofs only[go_sem,seval,↓reduceIte];refine endK_some ?_)
  refine CallA.pure hG (by kernel_rfl) ?_
  simp -implicitDefEqProofs only[go_sem,seval,↓reduceIte,recol_xns,recol_bis,lk10,encXN_K]
  refine (tolds_spec G _ 0).mono ?_
  rintro _ _ rfl
  simp -implicitDefEqProofs only[go_sem,seval,↓reduceIte,encVE,encEV]
  repeat first
   | (refine AW.qr (by kernel_rfl) ?_;simp -implicitDefEqProofs only[go_sem,seval,↓reduceIte])
   | (refine AW.region (by kernel_rfl) ?_;simp -implicitDefEqProofs only[go_sem,seval,↓reduceIte])
   | refine AW.qq ?_
   | refine AW.block ?_
   | refine AW.qT rfl ?_
   | refine AW.qF rfl ?_
   | (refine AW.skip ?_;simp -implicitDefEqProofs only[go_sem,seval,↓reduceIte])
   | (refine AW.exit ?_;simp -implicitDefEqProofs only[go_sem,seval,↓reduceIte])
   | (refine AW.ret ?_;simp -implicitDefEqProofs only[go_sem,seval,↓reduceIte];refine endK_some ?_)
  rfl
 ·refine AW.seq_k fun K1 hK1=>?_
  clear hK1
  refine AW.block ?_
  refine AW.qr (by kernel_rfl) ?_
  simp -implicitDefEqProofs only[go_sem,seval,↓reduceIte]
  refine AW.qF rfl ?_
  refine AW.qr (by kernel_rfl) ?_
  simp -implicitDefEqProofs only[go_sem,seval,↓reduceIte]
  refine AW.qT rfl ?_
  refine AW.seq_k fun K2 hK2=>?_
  repeat first
   | (refine AW.qr (by kernel_rfl) ?_;simp -implicitDefEqProofs only[go_sem,seval,↓reduceIte])
   | (refine AW.region (by kernel_rfl) ?_;simp -implicitDefEqProofs only[go_sem,seval,↓reduceIte])
   | refine AW.qq ?_
   | refine AW.block ?_
   | refine AW.qT rfl ?_
   | refine AW.qF rfl ?_
   | (refine AW.skip ?_;simp -implicitDefEqProofs only[go_sem,seval,↓reduceIte])
   | (refine AW.exit ?_;simp -implicitDefEqProofs only[go_sem,seval,↓reduceIte])
   | (refine AW.ret ?_;simp -implicitDefEqProofs only[go_sem,seval,↓reduceIte];refine endK_some ?_)
  refine AW.for env.l.length (fun j (_:Unit)=>st [(2,.view .new (.agg [encSl c1 6 encXN sl,encSl c2 2 encBi env])),(4,.ptr 4 g4 0),(5,.int .i64 0),(6,.view .new (.agg [.int .u8 2,.int .i64 num,.str name,.int .i64 na,.int .i64 nb,.int .i64 nc])),(7,.int .i64 j)] [(4,.cells .new g4 0 [.int .u8 0,.int .i64 0,.bool false])]) (fun j _=>lookB env.l name=lookB (env.l.drop j) name) 0 () (Nat.zero_le _) rfl
   (Weak.st (by simp -implicitDefEqProofs only[go_sem,seval,↓reduceIte];try rfl) (by simp -implicitDefEqProofs only[go_sem,seval,↓reduceIte];try rfl)) ?_
  rintro j _ hj hR L hL
  by_cases hjl:j<env.l.length
  ·have hlt:decide ((j:Int)<(env.l.length:Int))=true:=by simpa using hjl
   have hg:env.l[j]? = some env.l[j]:=List.getElem?_eq_getElem hjl
   have hd:env.l.drop j=env.l[j]::env.l.drop (j+1):=List.drop_eq_getElem_cons hjl
   generalize env.l[j]=p at hg hd
   rw [hd] at hR
   repeat first
    | (refine AW.qr (by kernel_rfl) ?_;simp -implicitDefEqProofs only[go_sem,seval,↓reduceIte,hlt])
    | (refine AW.region (by kernel_rfl) ?_;simp -implicitDefEqProofs only[go_sem,seval,↓reduceIte,hlt])
    | refine AW.qq ?_
    | refine AW.block ?_
    | refine AW.qT rfl ?_
    | refine AW.qF rfl ?_
    | (refine AW.skip ?_;simp -implicitDefEqProofs only[go_sem,seval,↓reduceIte,hlt])
    | (refine AW.exit ?_;simp -implicitDefEqProofs only[go_sem,seval,↓reduceIte,hlt])
    | (refine AW.ret ?_;simp -implicitDefEqProofs only[go_sem,seval,↓reduceIte,hlt];refine endK_some ?_)
   by_cases hnm:p.1=name
   ·have hq:(p.1==name)=true:=by simpa using hnm
    refine AW.regionT ⟨fun _ => .top,fun i=>if i=1 then .lend else if i=7 then .lend else .pure⟩ (by kernel_rfl) hG (by kernel_rfl) (by kernel_rfl) ?_
    simp -implicitDefEqProofs only[go_sem,seval,↓reduceIte,hg,encBi_K,hjl,Int.natCast_nonneg,Int.ofNat_lt,hq]
    repeat first
     | (refine AW.qr (by kernel_rfl) ?_;simp -implicitDefEqProofs only[go_sem,seval,↓reduceIte,hg,encBi_K,hjl,Int.natCast_nonneg,Int.ofNat_lt])
     | (refine AW.region (by kernel_rfl) ?_;simp -implicitDefEqProofs only[go_sem,seval,↓reduceIte,hg,encBi_K,hjl,Int.natCast_nonneg,Int.ofNat_lt])
     | refine AW.qq ?_
     | refine AW.block ?_
     | refine AW.qT rfl ?_
     | refine AW.qF rfl ?_
     | (refine AW.skip ?_;simp -implicitDefEqProofs only[go_sem,seval,↓reduceIte,hg,encBi_K,hjl,Int.natCast_nonneg,Int.ofNat_lt])
     | (refine AW.exit ?_;simp -implicitDefEqProofs only[go_sem,seval,↓reduceIte,hg,encBi_K,hjl,Int.natCast_nonneg,Int.ofNat_lt])
     | (refine AW.ret ?_;simp -implicitDefEqProofs only[go_sem,seval,↓reduceIte,hg,encBi_K,hjl,Int.natCast_nonneg,Int.ofNat_lt];refine endK_some ?_)
    refine CallA.pure hG (by kernel_rfl) ?_
    simp -implicitDefEqProofs only[go_sem,seval,↓reduceIte,recol_xns,recol_bis,lk10,encXN_K]
    refine (counted_spec G _ 0).mono ?_
    rintro _ _ rfl
    simp -implicitDefEqProofs only[go_sem,seval,↓reduceIte,encVE,encEV]
    have hV:leafV2 env.l 2 num name = .num p.2:=by
     unfold leafV2
     rw [if_neg (by decide),if_pos rfl,hR]
     unfold lookB
     rw [List.find?_cons_of_pos (by simpa using hnm)]
     rfl
    rw [hV]
    repeat first
     | (refine AW.qr (by kernel_rfl) ?_;simp -implicitDefEqProofs only[go_sem,seval,↓reduceIte])
     | (refine AW.region (by kernel_rfl) ?_;simp -implicitDefEqProofs only[go_sem,seval,↓reduceIte])
     | refine AW.qq ?_
     | refine AW.block ?_
     | refine AW.qT rfl ?_
     | refine AW.qF rfl ?_
     | (refine AW.skip ?_;simp -implicitDefEqProofs only[go_sem,seval,↓reduceIte])
     | (refine AW.exit ?_;simp -implicitDefEqProofs only[go_sem,seval,↓reduceIte])
     | (refine AW.ret ?_;simp -implicitDefEqProofs only[go_sem,seval,↓reduceIte];refine endK_some ?_)
    rfl
   ·have hq:(p.1==name)=false:=by simpa using hnm
    have w1:IntKind.i64.wrap ((j:Int)+1)=(j:Int)+1:=w64 (by omega) (by omega)
    refine AW.regionT ⟨fun _ => .top,fun i=>if i=1 then .lend else if i=7 then .lend else .pure⟩ (by kernel_rfl) hG (by kernel_rfl) (by kernel_rfl) ?_
    simp -implicitDefEqProofs only[go_sem,seval,↓reduceIte,hg,encBi_K,hjl,Int.natCast_nonneg,Int.ofNat_lt,hq]
    repeat first
     | (refine AW.qr (by kernel_rfl) ?_;simp -implicitDefEqProofs only[go_sem,seval,↓reduceIte,w1])
     | (refine AW.region (by kernel_rfl) ?_;simp -implicitDefEqProofs only[go_sem,seval,↓reduceIte,w1])
     | refine AW.qq ?_
     | refine AW.block ?_
     | refine AW.qT rfl ?_
     | refine AW.qF rfl ?_
     | (refine AW.skip ?_;simp -implicitDefEqProofs only[go_sem,seval,↓reduceIte,w1])
     | (refine AW.exit ?_;simp -implicitDefEqProofs only[go_sem,seval,↓reduceIte,w1])
     | (refine AW.ret ?_;simp -implicitDefEqProofs only[go_sem,seval,↓reduceIte,w1];refine endK_some ?_)
    refine hL _ ⟨hjl,(),?_,Weak.st (by simp -implicitDefEqProofs only[go_sem,seval,↓reduceIte];try rfl) (by simp -implicitDefEqProofs only[go_sem,seval,↓reduceIte];try rfl)⟩
    rw [hR]
    unfold lookB
    rw [List.find?_cons_of_neg (by simpa using hnm)]
  ·have hje:j=env.l.length:=by omega
   have hlt:decide ((env.l.length:Int)<(env.l.length:Int))=false:=by simp
   subst hje
   rw [List.drop_length] at hR
   have hV:leafV2 env.l 2 num name = .err 90:=by
    unfold leafV2
    rw [if_neg (by decide),if_pos rfl,hR]
    rfl
   repeat first
    | (refine AW.qr (by kernel_rfl) ?_;simp -implicitDefEqProofs only[go_sem,seval,↓reduceIte,hlt])
    | (refine AW.region (by kernel_rfl) ?_;simp -implicitDefEqProofs only[go_sem,seval,↓reduceIte,hlt])
    | refine AW.qq ?_
    | refine AW.block ?_
    | refine AW.qT rfl ?_
    | refine AW.qF rfl ?_
    | (refine AW.skip ?_;simp -implicitDefEqProofs only[go_sem,seval,↓reduceIte,hlt])
    | (refine AW.exit ?_;simp -implicitDefEqProofs only[go_sem,seval,↓reduceIte,hlt])
    | (refine AW.ret ?_;simp -implicitDefEqProofs only[go_sem,seval,↓reduceIte,hlt];refine endK_some ?_)
   refine hK2 _ ?_
   rw [hV]
   repeat first
    | (refine AW.qr (by kernel_rfl) ?_;simp -implicitDefEqProofs only[go_sem,seval,↓reduceIte])
    | (refine AW.region (by kernel_rfl) ?_;simp -implicitDefEqProofs only[go_sem,seval,↓reduceIte])
    | refine AW.qq ?_
    | refine AW.block ?_
    | refine AW.qT rfl ?_
    | refine AW.qF rfl ?_
    | (refine AW.skip ?_;simp -implicitDefEqProofs only[go_sem,seval,↓reduceIte])
    | (refine AW.exit ?_;simp -implicitDefEqProofs only[go_sem,seval,↓reduceIte])
    | (refine AW.ret ?_;simp -implicitDefEqProofs only[go_sem,seval,↓reduceIte];refine endK_some ?_)
   rfl
theorem neg10 (G:Nat→V) (hG:GOk G) (sl:Sl XN) (hs:sl.l.length<1000000) (env:Sl (List UInt8 × Int)) (i:Nat) (n:XN) (hn:sl.l[i]? = some n) (A:EV) (ho:n.op=5) (hA:RC G sl env n.a A) (fA:A.fine):RC G sl env i (unV2 n.op A):=by
 intro c1 c2
 have hil:i<sl.l.length:=(List.getElem?_eq_some_iff.1 hn).1
 obtain ⟨op,num,name,na,nb,nc⟩:=n
 refine Spec.of_code' 0 163 [.cell 4 43,.tmp 5] Tryz.func46 rfl rfl rfl rfl fun X=>?_
 refine AW.seq_k fun K hK=>AW.region (by kernel_rfl) ?_
 simp -implicitDefEqProofs only[go_sem,seval,↓reduceIte,lk10]
 intro g2 g4
 refine hK _ ?_
 clear hK K
 refine AW.seq_k fun K hK=>AW.region (by kernel_rfl) ?_
 simp -implicitDefEqProofs only[go_sem,seval,↓reduceIte,hn,Int.natCast_nonneg,Int.ofNat_lt,hil,encXN_K]
 intro g6
 refine hK _ ?_
 clear hK K
 refine AW.weak (Weak.stF (fun o=>o==2 || o==6) (l:=[(2,.view .new (.agg [encSl c1 6 encXN sl,encSl c2 2 encBi env])),(4,.ptr 4 g4 0),(5,.int .i64 0),(6,.view .new (.agg [.int .u8 op,.int .i64 num,.str name,.int .i64 na,.int .i64 nb,.int .i64 nc]))]) (m:=[(4,.cells .new g4 0 [.int .u8 0,.int .i64 0,.bool false])]) ?_ ?_) ?_
 ·simp -implicitDefEqProofs only[go_sem,seval,↓reduceIte]
  refine ⟨?_,Fz.same _,Fz.same _,?_⟩
  ·exact Fz.ptr (v := .agg [encSl c1 6 encXN sl,encSl c2 2 encBi env]) (c := .new) (fz:=0) rfl (by simp -implicitDefEqProofs only[go_sem,seval,↓reduceIte];try rfl)
  ·exact Fz.ptr (v := .agg [.int .u8 op,.int .i64 num,.str name,.int .i64 na,.int .i64 nb,.int .i64 nc]) (c := .new) (fz:=0) rfl (by simp -implicitDefEqProofs only[go_sem,seval,↓reduceIte];try rfl)
 ·simp only [allFzO_cons,allFzO_nil,and_true]
  exact FzO.keep rfl (by simp -implicitDefEqProofs only[go_sem,seval,↓reduceIte];try rfl)
 simp only at ho hA ⊢
 subst ho
 have hU:unV2 5 A=A.onN fun a => .ofR (Go.Hs.told (-a)):=rfl
 rw [hU]
 repeat first
  | (refine AW.qr (by kernel_rfl) ?_;simp -implicitDefEqProofs only[go_sem,seval,↓reduceIte])
  | (refine AW.region (by kernel_rfl) ?_;simp -implicitDefEqProofs only[go_sem,seval,↓reduceIte])
  | refine AW.qq ?_
  | refine AW.block ?_
  | refine AW.qT rfl ?_
  | refine AW.qF rfl ?_
  | (refine AW.skip ?_;simp -implicitDefEqProofs only[go_sem,seval,↓reduceIte])
  | (refine AW.exit ?_;simp -implicitDefEqProofs only[go_sem,seval,↓reduceIte])
  | (refine AW.ret ?_;simp -implicitDefEqProofs only[go_sem,seval,↓reduceIte];refine endK_some ?_)
 refine CallA.pure hG (by kernel_rfl) ?_
 simp -implicitDefEqProofs only[go_sem,seval,↓reduceIte,recol_xns,recol_bis,lk10,encXN_K]
 refine (number10 G hG c1.ent c2.ent sl env na A hA fA).mono ?_
 rintro _ _ rfl
 simp -implicitDefEqProofs only[go_sem,seval,↓reduceIte,encNE]
 by_cases hAe:∃ e,A.need 1 = .err e
 ·obtain ⟨e,he⟩:=hAe
  have h0:(e != 0)=true:=by
   cases A with
   | err e'=>cases he;simpa using fine_err fA rfl
   | num a=>cases he
   | tru a=>cases he;rfl
  rw [need1_err _ he,he]
  repeat first
   | (refine AW.qr (by kernel_rfl) ?_;simp -implicitDefEqProofs only[go_sem,seval,↓reduceIte,h0,EV.er,EV.nm])
   | (refine AW.region (by kernel_rfl) ?_;simp -implicitDefEqProofs only[go_sem,seval,↓reduceIte,h0,EV.er,EV.nm])
   | refine AW.qq ?_
   | refine AW.block ?_
   | refine AW.qT rfl ?_
   | refine AW.qF rfl ?_
   | (refine AW.skip ?_;simp -implicitDefEqProofs only[go_sem,seval,↓reduceIte,h0,EV.er,EV.nm])
   | (refine AW.exit ?_;simp -implicitDefEqProofs only[go_sem,seval,↓reduceIte,h0,EV.er,EV.nm])
   | (refine AW.ret ?_;simp -implicitDefEqProofs only[go_sem,seval,↓reduceIte,h0,EV.er,EV.nm];refine endK_some ?_)
  rfl
 obtain ⟨a,rfl⟩:=need1_ok fun e he=>hAe ⟨e,he⟩
 rw [need1_num]
 simp -implicitDefEqProofs only[go_sem,seval,↓reduceIte,EV.er,EV.nm]
 repeat first
  | (refine AW.qr (by kernel_rfl) ?_;simp -implicitDefEqProofs only[go_sem,seval,↓reduceIte])
  | (refine AW.region (by kernel_rfl) ?_;simp -implicitDefEqProofs only[go_sem,seval,↓reduceIte])
  | refine AW.qq ?_
  | refine AW.block ?_
  | refine AW.qT rfl ?_
  | refine AW.qF rfl ?_
  | (refine AW.skip ?_;simp -implicitDefEqProofs only[go_sem,seval,↓reduceIte])
  | (refine AW.exit ?_;simp -implicitDefEqProofs only[go_sem,seval,↓reduceIte])
  | (refine AW.ret ?_;simp -implicitDefEqProofs only[go_sem,seval,↓reduceIte];refine endK_some ?_)
 refine CallA.pure hG (by kernel_rfl) ?_
 simp -implicitDefEqProofs only[go_sem,seval,↓reduceIte,recol_xns,recol_bis,lk10,encXN_K]
 refine (rNegN_spec G hG a (inK_of_fits fA)).mono ?_
 rintro _ _ rfl
 simp -implicitDefEqProofs only[go_sem,seval,↓reduceIte,encR]
 refine CallA.pure hG (by kernel_rfl) ?_
 simp -implicitDefEqProofs only[go_sem,seval,↓reduceIte,recol_xns,recol_bis,lk10,encXN_K]
 refine (counted_spec G _ _).mono ?_
 rintro _ _ rfl
 simp -implicitDefEqProofs only[go_sem,seval,↓reduceIte,encVE,encEV]
 repeat first
  | (refine AW.qr (by kernel_rfl) ?_;simp -implicitDefEqProofs only[go_sem,seval,↓reduceIte])
  | (refine AW.region (by kernel_rfl) ?_;simp -implicitDefEqProofs only[go_sem,seval,↓reduceIte])
  | refine AW.qq ?_
  | refine AW.block ?_
  | refine AW.qT rfl ?_
  | refine AW.qF rfl ?_
  | (refine AW.skip ?_;simp -implicitDefEqProofs only[go_sem,seval,↓reduceIte])
  | (refine AW.exit ?_;simp -implicitDefEqProofs only[go_sem,seval,↓reduceIte])
  | (refine AW.ret ?_;simp -implicitDefEqProofs only[go_sem,seval,↓reduceIte];refine endK_some ?_)
 rfl
theorem not10 (G:Nat→V) (hG:GOk G) (sl:Sl XN) (hs:sl.l.length<1000000) (env:Sl (List UInt8 × Int)) (i:Nat) (n:XN) (hn:sl.l[i]? = some n) (A:EV) (ho:n.op=6) (hA:RC G sl env n.a A) (fA:A.fine):RC G sl env i (unV2 n.op A):=by
 intro c1 c2
 have hil:i<sl.l.length:=(List.getElem?_eq_some_iff.1 hn).1
 obtain ⟨op,num,name,na,nb,nc⟩:=n
 refine Spec.of_code' 0 163 [.cell 4 43,.tmp 5] Tryz.func46 rfl rfl rfl rfl fun X=>?_
 refine AW.seq_k fun K hK=>AW.region (by kernel_rfl) ?_
 simp -implicitDefEqProofs only[go_sem,seval,↓reduceIte,lk10]
 intro g2 g4
 refine hK _ ?_
 clear hK K
 refine AW.seq_k fun K hK=>AW.region (by kernel_rfl) ?_
 simp -implicitDefEqProofs only[go_sem,seval,↓reduceIte,hn,Int.natCast_nonneg,Int.ofNat_lt,hil,encXN_K]
 intro g6
 refine hK _ ?_
 clear hK K
 refine AW.weak (Weak.stF (fun o=>o==2 || o==6) (l:=[(2,.view .new (.agg [encSl c1 6 encXN sl,encSl c2 2 encBi env])),(4,.ptr 4 g4 0),(5,.int .i64 0),(6,.view .new (.agg [.int .u8 op,.int .i64 num,.str name,.int .i64 na,.int .i64 nb,.int .i64 nc]))]) (m:=[(4,.cells .new g4 0 [.int .u8 0,.int .i64 0,.bool false])]) ?_ ?_) ?_
 ·simp -implicitDefEqProofs only[go_sem,seval,↓reduceIte]
  refine ⟨?_,Fz.same _,Fz.same _,?_⟩
  ·exact Fz.ptr (v := .agg [encSl c1 6 encXN sl,encSl c2 2 encBi env]) (c := .new) (fz:=0) rfl (by simp -implicitDefEqProofs only[go_sem,seval,↓reduceIte];try rfl)
  ·exact Fz.ptr (v := .agg [.int .u8 op,.int .i64 num,.str name,.int .i64 na,.int .i64 nb,.int .i64 nc]) (c := .new) (fz:=0) rfl (by simp -implicitDefEqProofs only[go_sem,seval,↓reduceIte];try rfl)
 ·simp only [allFzO_cons,allFzO_nil,and_true]
  exact FzO.keep rfl (by simp -implicitDefEqProofs only[go_sem,seval,↓reduceIte];try rfl)
 simp only at ho hA ⊢
 subst ho
 have hU:unV2 6 A=A.onB fun b => .tru (!b):=rfl
 rw [hU]
 repeat first
  | (refine AW.qr (by kernel_rfl) ?_;simp -implicitDefEqProofs only[go_sem,seval,↓reduceIte])
  | (refine AW.region (by kernel_rfl) ?_;simp -implicitDefEqProofs only[go_sem,seval,↓reduceIte])
  | refine AW.qq ?_
  | refine AW.block ?_
  | refine AW.qT rfl ?_
  | refine AW.qF rfl ?_
  | (refine AW.skip ?_;simp -implicitDefEqProofs only[go_sem,seval,↓reduceIte])
  | (refine AW.exit ?_;simp -implicitDefEqProofs only[go_sem,seval,↓reduceIte])
  | (refine AW.ret ?_;simp -implicitDefEqProofs only[go_sem,seval,↓reduceIte];refine endK_some ?_)
 refine CallA.pure hG (by kernel_rfl) ?_
 simp -implicitDefEqProofs only[go_sem,seval,↓reduceIte,recol_xns,recol_bis,lk10,encXN_K]
 refine (truth10 G hG c1.ent c2.ent sl env na A hA fA).mono ?_
 rintro _ _ rfl
 simp -implicitDefEqProofs only[go_sem,seval,↓reduceIte,encTE]
 by_cases hAe:∃ e,A.need 2 = .err e
 ·obtain ⟨e,he⟩:=hAe
  have h00:¬ e=0:=by
   cases A with
   | err e'=>cases he;exact fine_err fA rfl
   | tru a=>cases he
   | num a=>cases he;decide
  rw [need2_err _ he,he]
  repeat first
   | (refine AW.qr (by kernel_rfl) ?_;simp -implicitDefEqProofs only[go_sem,seval,↓reduceIte,EV.er,EV.tr])
   | (refine AW.region (by kernel_rfl) ?_;simp -implicitDefEqProofs only[go_sem,seval,↓reduceIte,EV.er,EV.tr])
   | refine AW.qq ?_
   | refine AW.block ?_
   | refine AW.qT rfl ?_
   | refine AW.qF rfl ?_
   | (refine AW.skip ?_;simp -implicitDefEqProofs only[go_sem,seval,↓reduceIte,EV.er,EV.tr])
   | (refine AW.exit ?_;simp -implicitDefEqProofs only[go_sem,seval,↓reduceIte,EV.er,EV.tr])
   | (refine AW.ret ?_;simp -implicitDefEqProofs only[go_sem,seval,↓reduceIte,EV.er,EV.tr];refine endK_some ?_)
  refine CallA.pure hG (by kernel_rfl) ?_
  simp -implicitDefEqProofs only[go_sem,seval,↓reduceIte,recol_xns,recol_bis,lk10,encXN_K]
  refine (tolds_spec G _ _).mono ?_
  rintro _ _ rfl
  simp -implicitDefEqProofs only[go_sem,seval,↓reduceIte,if_neg h00,encVE,encEV]
  repeat first
   | (refine AW.qr (by kernel_rfl) ?_;simp -implicitDefEqProofs only[go_sem,seval,↓reduceIte])
   | (refine AW.region (by kernel_rfl) ?_;simp -implicitDefEqProofs only[go_sem,seval,↓reduceIte])
   | refine AW.qq ?_
   | refine AW.block ?_
   | refine AW.qT rfl ?_
   | refine AW.qF rfl ?_
   | (refine AW.skip ?_;simp -implicitDefEqProofs only[go_sem,seval,↓reduceIte])
   | (refine AW.exit ?_;simp -implicitDefEqProofs only[go_sem,seval,↓reduceIte])
   | (refine AW.ret ?_;simp -implicitDefEqProofs only[go_sem,seval,↓reduceIte];refine endK_some ?_)
  rfl
 obtain ⟨b,rfl⟩:=need2_ok fun e he=>hAe ⟨e,he⟩
 rw [need2_tru]
 simp -implicitDefEqProofs only[go_sem,seval,↓reduceIte,EV.er,EV.tr]
 repeat first
  | (refine AW.qr (by kernel_rfl) ?_;simp -implicitDefEqProofs only[go_sem,seval,↓reduceIte])
  | (refine AW.region (by kernel_rfl) ?_;simp -implicitDefEqProofs only[go_sem,seval,↓reduceIte])
  | refine AW.qq ?_
  | refine AW.block ?_
  | refine AW.qT rfl ?_
  | refine AW.qF rfl ?_
  | (refine AW.skip ?_;simp -implicitDefEqProofs only[go_sem,seval,↓reduceIte])
  | (refine AW.exit ?_;simp -implicitDefEqProofs only[go_sem,seval,↓reduceIte])
  | (refine AW.ret ?_;simp -implicitDefEqProofs only[go_sem,seval,↓reduceIte];refine endK_some ?_)
 refine CallA.pure hG (by kernel_rfl) ?_
 simp -implicitDefEqProofs only[go_sem,seval,↓reduceIte,recol_xns,recol_bis,lk10,encXN_K]
 refine (tolds_spec G _ 0).mono ?_
 rintro _ _ rfl
 simp -implicitDefEqProofs only[go_sem,seval,↓reduceIte,encVE,encEV]
 repeat first
  | (refine AW.qr (by kernel_rfl) ?_;simp -implicitDefEqProofs only[go_sem,seval,↓reduceIte])
  | (refine AW.region (by kernel_rfl) ?_;simp -implicitDefEqProofs only[go_sem,seval,↓reduceIte])
  | refine AW.qq ?_
  | refine AW.block ?_
  | refine AW.qT rfl ?_
  | refine AW.qF rfl ?_
  | (refine AW.skip ?_;simp -implicitDefEqProofs only[go_sem,seval,↓reduceIte])
  | (refine AW.exit ?_;simp -implicitDefEqProofs only[go_sem,seval,↓reduceIte])
  | (refine AW.ret ?_;simp -implicitDefEqProofs only[go_sem,seval,↓reduceIte];refine endK_some ?_)
 rfl
theorem ite10 (G:Nat→V) (hG:GOk G) (sl:Sl XN) (hs:sl.l.length<1000000) (env:Sl (List UInt8 × Int)) (i:Nat) (n:XN) (hn:sl.l[i]? = some n) (A B C:EV) (ho:n.op=22) (hA:RC G sl env n.a A) (hB:RC G sl env n.b B) (hC:RC G sl env n.c C) (fA:A.fine):RC G sl env i (A.onB fun t=>if t=true then B else C):=by
 intro c1 c2
 have hil:i<sl.l.length:=(List.getElem?_eq_some_iff.1 hn).1
 obtain ⟨op,num,name,na,nb,nc⟩:=n
 refine Spec.of_code' 0 163 [.cell 4 43,.tmp 5] Tryz.func46 rfl rfl rfl rfl fun X=>?_
 refine AW.seq_k fun K hK=>AW.region (by kernel_rfl) ?_
 simp -implicitDefEqProofs only[go_sem,seval,↓reduceIte,lk10]
 intro g2 g4
 refine hK _ ?_
 clear hK K
 refine AW.seq_k fun K hK=>AW.region (by kernel_rfl) ?_
 simp -implicitDefEqProofs only[go_sem,seval,↓reduceIte,hn,Int.natCast_nonneg,Int.ofNat_lt,hil,encXN_K]
 intro g6
 refine hK _ ?_
 clear hK K
 refine AW.weak (Weak.stF (fun o=>o==2 || o==6) (l:=[(2,.view .new (.agg [encSl c1 6 encXN sl,encSl c2 2 encBi env])),(4,.ptr 4 g4 0),(5,.int .i64 0),(6,.view .new (.agg [.int .u8 op,.int .i64 num,.str name,.int .i64 na,.int .i64 nb,.int .i64 nc]))]) (m:=[(4,.cells .new g4 0 [.int .u8 0,.int .i64 0,.bool false])]) ?_ ?_) ?_
 ·simp -implicitDefEqProofs only[go_sem,seval,↓reduceIte]
  refine ⟨?_,Fz.same _,Fz.same _,?_⟩
  ·exact Fz.ptr (v := .agg [encSl c1 6 encXN sl,encSl c2 2 encBi env]) (c := .new) (fz:=0) rfl (by simp -implicitDefEqProofs only[go_sem,seval,↓reduceIte];try rfl)
  ·exact Fz.ptr (v := .agg [.int .u8 op,.int .i64 num,.str name,.int .i64 na,.int .i64 nb,.int .i64 nc]) (c := .new) (fz:=0) rfl (by simp -implicitDefEqProofs only[go_sem,seval,↓reduceIte];try rfl)
 ·simp only [allFzO_cons,allFzO_nil,and_true]
  exact FzO.keep rfl (by simp -implicitDefEqProofs only[go_sem,seval,↓reduceIte];try rfl)
 simp only at ho hA hB hC ⊢
 subst ho
 repeat first
  | (refine AW.qr (by kernel_rfl) ?_;simp -implicitDefEqProofs only[go_sem,seval,↓reduceIte])
  | (refine AW.region (by kernel_rfl) ?_;simp -implicitDefEqProofs only[go_sem,seval,↓reduceIte])
  | refine AW.qq ?_
  | refine AW.block ?_
  | refine AW.qT rfl ?_
  | refine AW.qF rfl ?_
  | (refine AW.skip ?_;simp -implicitDefEqProofs only[go_sem,seval,↓reduceIte])
  | (refine AW.exit ?_;simp -implicitDefEqProofs only[go_sem,seval,↓reduceIte])
  | (refine AW.ret ?_;simp -implicitDefEqProofs only[go_sem,seval,↓reduceIte];refine endK_some ?_)
 refine CallA.pure hG (by kernel_rfl) ?_
 simp -implicitDefEqProofs only[go_sem,seval,↓reduceIte,recol_xns,recol_bis,lk10,encXN_K]
 refine (truth10 G hG c1.ent c2.ent sl env na A hA fA).mono ?_
 rintro _ _ rfl
 simp -implicitDefEqProofs only[go_sem,seval,↓reduceIte,encTE]
 by_cases hAe:∃ e,A.need 2 = .err e
 ·obtain ⟨e,he⟩:=hAe
  have h0:(e != 0)=true:=by
   cases A with
   | err e'=>cases he;simpa using fine_err fA rfl
   | tru a=>cases he
   | num a=>cases he;rfl
  rw [need2_err _ he,he]
  repeat first
   | (refine AW.qr (by kernel_rfl) ?_;simp -implicitDefEqProofs only[go_sem,seval,↓reduceIte,h0,EV.er,EV.tr])
   | (refine AW.region (by kernel_rfl) ?_;simp -implicitDefEqProofs only[go_sem,seval,↓reduceIte,h0,EV.er,EV.tr])
   | refine AW.qq ?_
   | refine AW.block ?_
   | refine AW.qT rfl ?_
   | refine AW.qF rfl ?_
   | (refine AW.skip ?_;simp -implicitDefEqProofs only[go_sem,seval,↓reduceIte,h0,EV.er,EV.tr])
   | (refine AW.exit ?_;simp -implicitDefEqProofs only[go_sem,seval,↓reduceIte,h0,EV.er,EV.tr])
   | (refine AW.ret ?_;simp -implicitDefEqProofs only[go_sem,seval,↓reduceIte,h0,EV.er,EV.tr];refine endK_some ?_)
  rfl
 obtain ⟨b,rfl⟩:=need2_ok fun e he=>hAe ⟨e,he⟩
 rw [need2_tru]
 simp -implicitDefEqProofs only[go_sem,seval,↓reduceIte,EV.er,EV.tr]
 cases b
 ·have hR:(EV.tru false).onB (fun t=>if t=true then B else C)=C:=rfl
  rw [hR]
  repeat first
   | (refine AW.qr (by kernel_rfl) ?_;simp -implicitDefEqProofs only[go_sem,seval,↓reduceIte])
   | (refine AW.region (by kernel_rfl) ?_;simp -implicitDefEqProofs only[go_sem,seval,↓reduceIte])
   | refine AW.qq ?_
   | refine AW.block ?_
   | refine AW.qT rfl ?_
   | refine AW.qF rfl ?_
   | (refine AW.skip ?_;simp -implicitDefEqProofs only[go_sem,seval,↓reduceIte])
   | (refine AW.exit ?_;simp -implicitDefEqProofs only[go_sem,seval,↓reduceIte])
   | (refine AW.ret ?_;simp -implicitDefEqProofs only[go_sem,seval,↓reduceIte];refine endK_some ?_)
  refine CallA.pure hG (by kernel_rfl) ?_
  simp -implicitDefEqProofs only[go_sem,seval,↓reduceIte,recol_xns,recol_bis,lk10,encXN_K]
  refine (hC c1.ent c2.ent).mono ?_
  rintro _ _ rfl
  simp -implicitDefEqProofs only[go_sem,seval,↓reduceIte,encVE,encEV]
  repeat first
   | (refine AW.qr (by kernel_rfl) ?_;simp -implicitDefEqProofs only[go_sem,seval,↓reduceIte])
   | (refine AW.region (by kernel_rfl) ?_;simp -implicitDefEqProofs only[go_sem,seval,↓reduceIte])
   | refine AW.qq ?_
   | refine AW.block ?_
   | refine AW.qT rfl ?_
   | refine AW.qF rfl ?_
   | (refine AW.skip ?_;simp -implicitDefEqProofs only[go_sem,seval,↓reduceIte])
   | (refine AW.exit ?_;simp -implicitDefEqProofs only[go_sem,seval,↓reduceIte])
   | (refine AW.ret ?_;simp -implicitDefEqProofs only[go_sem,seval,↓reduceIte];refine endK_some ?_)
  rfl
 ·have hR:(EV.tru true).onB (fun t=>if t=true then B else C)=B:=rfl
  rw [hR]
  repeat first
   | (refine AW.qr (by kernel_rfl) ?_;simp -implicitDefEqProofs only[go_sem,seval,↓reduceIte])
   | (refine AW.region (by kernel_rfl) ?_;simp -implicitDefEqProofs only[go_sem,seval,↓reduceIte])
   | refine AW.qq ?_
   | refine AW.block ?_
   | refine AW.qT rfl ?_
   | refine AW.qF rfl ?_
   | (refine AW.skip ?_;simp -implicitDefEqProofs only[go_sem,seval,↓reduceIte])
   | (refine AW.exit ?_;simp -implicitDefEqProofs only[go_sem,seval,↓reduceIte])
   | (refine AW.ret ?_;simp -implicitDefEqProofs only[go_sem,seval,↓reduceIte];refine endK_some ?_)
  refine CallA.pure hG (by kernel_rfl) ?_
  simp -implicitDefEqProofs only[go_sem,seval,↓reduceIte,recol_xns,recol_bis,lk10,encXN_K]
  refine (hB c1.ent c2.ent).mono ?_
  rintro _ _ rfl
  simp -implicitDefEqProofs only[go_sem,seval,↓reduceIte,encVE,encEV]
  repeat first
   | (refine AW.qr (by kernel_rfl) ?_;simp -implicitDefEqProofs only[go_sem,seval,↓reduceIte])
   | (refine AW.region (by kernel_rfl) ?_;simp -implicitDefEqProofs only[go_sem,seval,↓reduceIte])
   | refine AW.qq ?_
   | refine AW.block ?_
   | refine AW.qT rfl ?_
   | refine AW.qF rfl ?_
   | (refine AW.skip ?_;simp -implicitDefEqProofs only[go_sem,seval,↓reduceIte])
   | (refine AW.exit ?_;simp -implicitDefEqProofs only[go_sem,seval,↓reduceIte])
   | (refine AW.ret ?_;simp -implicitDefEqProofs only[go_sem,seval,↓reduceIte];refine endK_some ?_)
  rfl
theorem bin10 (G:Nat→V) (hG:GOk G) (sl:Sl XN) (hs:sl.l.length<1000000) (env:Sl (List UInt8 × Int)) (i:Nat) (n:XN) (hn:sl.l[i]? = some n) (A B:EV) (ho:7≤n.op∧n.op≤21) (hA:RC G sl env n.a A) (hB:RC G sl env n.b B) (fA:A.fine) (fB:B.fine):RC G sl env i (binV2 n.op A B):=by
 intro c1 c2
 have hil:i<sl.l.length:=(List.getElem?_eq_some_iff.1 hn).1
 obtain ⟨op,num,name,na,nb,nc⟩:=n
 refine Spec.of_code' 0 163 [.cell 4 43,.tmp 5] Tryz.func46 rfl rfl rfl rfl fun X=>?_
 refine AW.seq_k fun K hK=>AW.region (by kernel_rfl) ?_
 simp -implicitDefEqProofs only[go_sem,seval,↓reduceIte,lk10]
 intro g2 g4
 refine hK _ ?_
 clear hK K
 refine AW.seq_k fun K hK=>AW.region (by kernel_rfl) ?_
 simp -implicitDefEqProofs only[go_sem,seval,↓reduceIte,hn,Int.natCast_nonneg,Int.ofNat_lt,hil,encXN_K]
 intro g6
 refine hK _ ?_
 clear hK K
 refine AW.weak (Weak.stF (fun o=>o==2 || o==6) (l:=[(2,.view .new (.agg [encSl c1 6 encXN sl,encSl c2 2 encBi env])),(4,.ptr 4 g4 0),(5,.int .i64 0),(6,.view .new (.agg [.int .u8 op,.int .i64 num,.str name,.int .i64 na,.int .i64 nb,.int .i64 nc]))]) (m:=[(4,.cells .new g4 0 [.int .u8 0,.int .i64 0,.bool false])]) ?_ ?_) ?_
 ·simp -implicitDefEqProofs only[go_sem,seval,↓reduceIte]
  refine ⟨?_,Fz.same _,Fz.same _,?_⟩
  ·exact Fz.ptr (v := .agg [encSl c1 6 encXN sl,encSl c2 2 encBi env]) (c := .new) (fz:=0) rfl (by simp -implicitDefEqProofs only[go_sem,seval,↓reduceIte];try rfl)
  ·exact Fz.ptr (v := .agg [.int .u8 op,.int .i64 num,.str name,.int .i64 na,.int .i64 nb,.int .i64 nc]) (c := .new) (fz:=0) rfl (by simp -implicitDefEqProofs only[go_sem,seval,↓reduceIte];try rfl)
 ·simp only [allFzO_cons,allFzO_nil,and_true]
  exact FzO.keep rfl (by simp -implicitDefEqProofs only[go_sem,seval,↓reduceIte];try rfl)
 simp only at ho hA hB ⊢
 have n1:(op==1)=false:=by simp;omega
 have n2:(op==2)=false:=by simp;omega
 have n3:(op==3)=false:=by simp;omega
 have n4:(op==4)=false:=by simp;omega
 have n5:(op==5)=false:=by simp;omega
 have n6:(op==6)=false:=by simp;omega
 have o21:decide (op≤21)=true:=by simp;omega
 by_cases h15:op≤15
 ·have o15:decide (op≤15)=true:=by simp;omega
  repeat first
   | (refine AW.qr (by kernel_rfl) ?_;simp -implicitDefEqProofs only[go_sem,seval,↓reduceIte,n1,n2,n3,n4,n5,n6,o15])
   | (refine AW.region (by kernel_rfl) ?_;simp -implicitDefEqProofs only[go_sem,seval,↓reduceIte,n1,n2,n3,n4,n5,n6,o15])
   | refine AW.qq ?_
   | refine AW.block ?_
   | refine AW.qT rfl ?_
   | refine AW.qF rfl ?_
   | (refine AW.skip ?_;simp -implicitDefEqProofs only[go_sem,seval,↓reduceIte,n1,n2,n3,n4,n5,n6,o15])
   | (refine AW.exit ?_;simp -implicitDefEqProofs only[go_sem,seval,↓reduceIte,n1,n2,n3,n4,n5,n6,o15])
   | (refine AW.ret ?_;simp -implicitDefEqProofs only[go_sem,seval,↓reduceIte,n1,n2,n3,n4,n5,n6,o15];refine endK_some ?_)
  refine CallA.pure hG (by kernel_rfl) ?_
  simp -implicitDefEqProofs only[go_sem,seval,↓reduceIte,recol_xns,recol_bis,lk10,encXN_K]
  refine (two10 G hG c1.ent c2.ent sl env ⟨op,num,name,na,nb,nc⟩ A B ⟨ho.1,h15⟩ hA hB fA fB).mono ?_
  rintro _ _ rfl
  simp -implicitDefEqProofs only[go_sem,seval,↓reduceIte,encVE,encEV]
  repeat first
   | (refine AW.qr (by kernel_rfl) ?_;simp -implicitDefEqProofs only[go_sem,seval,↓reduceIte])
   | (refine AW.region (by kernel_rfl) ?_;simp -implicitDefEqProofs only[go_sem,seval,↓reduceIte])
   | refine AW.qq ?_
   | refine AW.block ?_
   | refine AW.qT rfl ?_
   | refine AW.qF rfl ?_
   | (refine AW.skip ?_;simp -implicitDefEqProofs only[go_sem,seval,↓reduceIte])
   | (refine AW.exit ?_;simp -implicitDefEqProofs only[go_sem,seval,↓reduceIte])
   | (refine AW.ret ?_;simp -implicitDefEqProofs only[go_sem,seval,↓reduceIte];refine endK_some ?_)
  rfl
 have o15:decide (op≤15)=false:=by simp;omega
 by_cases h17:op≤17
 ·have o17:decide (op≤17)=true:=by simp;omega
  repeat first
   | (refine AW.qr (by kernel_rfl) ?_;simp -implicitDefEqProofs only[go_sem,seval,↓reduceIte,n1,n2,n3,n4,n5,n6,o15,o17])
   | (refine AW.region (by kernel_rfl) ?_;simp -implicitDefEqProofs only[go_sem,seval,↓reduceIte,n1,n2,n3,n4,n5,n6,o15,o17])
   | refine AW.qq ?_
   | refine AW.block ?_
   | refine AW.qT rfl ?_
   | refine AW.qF rfl ?_
   | (refine AW.skip ?_;simp -implicitDefEqProofs only[go_sem,seval,↓reduceIte,n1,n2,n3,n4,n5,n6,o15,o17])
   | (refine AW.exit ?_;simp -implicitDefEqProofs only[go_sem,seval,↓reduceIte,n1,n2,n3,n4,n5,n6,o15,o17])
   | (refine AW.ret ?_;simp -implicitDefEqProofs only[go_sem,seval,↓reduceIte,n1,n2,n3,n4,n5,n6,o15,o17];refine endK_some ?_)
  refine CallA.pure hG (by kernel_rfl) ?_
  simp -implicitDefEqProofs only[go_sem,seval,↓reduceIte,recol_xns,recol_bis,lk10,encXN_K]
  refine (alike10 G hG c1.ent c2.ent sl env ⟨op,num,name,na,nb,nc⟩ A B ⟨show 16≤op by omega,h17⟩ hA hB fA fB).mono ?_
  rintro _ _ rfl
  simp -implicitDefEqProofs only[go_sem,seval,↓reduceIte,encVE,encEV]
  repeat first
   | (refine AW.qr (by kernel_rfl) ?_;simp -implicitDefEqProofs only[go_sem,seval,↓reduceIte])
   | (refine AW.region (by kernel_rfl) ?_;simp -implicitDefEqProofs only[go_sem,seval,↓reduceIte])
   | refine AW.qq ?_
   | refine AW.block ?_
   | refine AW.qT rfl ?_
   | refine AW.qF rfl ?_
   | (refine AW.skip ?_;simp -implicitDefEqProofs only[go_sem,seval,↓reduceIte])
   | (refine AW.exit ?_;simp -implicitDefEqProofs only[go_sem,seval,↓reduceIte])
   | (refine AW.ret ?_;simp -implicitDefEqProofs only[go_sem,seval,↓reduceIte];refine endK_some ?_)
  rfl
 have o17:decide (op≤17)=false:=by simp;omega
 repeat first
  | (refine AW.qr (by kernel_rfl) ?_;simp -implicitDefEqProofs only[go_sem,seval,↓reduceIte,n1,n2,n3,n4,n5,n6,o15,o17,o21])
  | (refine AW.region (by kernel_rfl) ?_;simp -implicitDefEqProofs only[go_sem,seval,↓reduceIte,n1,n2,n3,n4,n5,n6,o15,o17,o21])
  | refine AW.qq ?_
  | refine AW.block ?_
  | refine AW.qT rfl ?_
  | refine AW.qF rfl ?_
  | (refine AW.skip ?_;simp -implicitDefEqProofs only[go_sem,seval,↓reduceIte,n1,n2,n3,n4,n5,n6,o15,o17,o21])
  | (refine AW.exit ?_;simp -implicitDefEqProofs only[go_sem,seval,↓reduceIte,n1,n2,n3,n4,n5,n6,o15,o17,o21])
  | (refine AW.ret ?_;simp -implicitDefEqProofs only[go_sem,seval,↓reduceIte,n1,n2,n3,n4,n5,n6,o15,o17,o21];refine endK_some ?_)
 refine CallA.pure hG (by kernel_rfl) ?_
 simp -implicitDefEqProofs only[go_sem,seval,↓reduceIte,recol_xns,recol_bis,lk10,encXN_K]
 refine (logic10 G hG c1.ent c2.ent sl env ⟨op,num,name,na,nb,nc⟩ A B ⟨show 18≤op by omega,ho.2⟩ hA hB fA fB).mono ?_
 rintro _ _ rfl
 simp -implicitDefEqProofs only[go_sem,seval,↓reduceIte,encVE,encEV]
 repeat first
  | (refine AW.qr (by kernel_rfl) ?_;simp -implicitDefEqProofs only[go_sem,seval,↓reduceIte])
  | (refine AW.region (by kernel_rfl) ?_;simp -implicitDefEqProofs only[go_sem,seval,↓reduceIte])
  | refine AW.qq ?_
  | refine AW.block ?_
  | refine AW.qT rfl ?_
  | refine AW.qF rfl ?_
  | (refine AW.skip ?_;simp -implicitDefEqProofs only[go_sem,seval,↓reduceIte])
  | (refine AW.exit ?_;simp -implicitDefEqProofs only[go_sem,seval,↓reduceIte])
  | (refine AW.ret ?_;simp -implicitDefEqProofs only[go_sem,seval,↓reduceIte];refine endK_some ?_)
 rfl
theorem worth10 (G:Nat→V) (hG:GOk G) (sl:Sl XN) (hs:sl.l.length<1000000) (env:Sl (List UInt8 × Int)) (hv:env.l.length<1000000) (hm:∀ p∈env.l,fits p.2=true) (x:X) :
  ∀ b:Nat,x.ok=true→NumsOk x→At sl.l x b→RC G sl env ((b+x.size-1:Nat):Int) (evX env.l x):=by
 induction x with
 | leaf op num name =>
  intro b h hn hat
  simp only [X.ok,Bool.and_eq_true,decide_eq_true_eq] at h
  have hr:=(well_range h.1).1
  exact leaf10 G hG sl hs env hv _ _ hat.get ⟨hr,h.2⟩
 | un op a ih =>
  intro b h hn hat
  have hsz:=a.size_pos
  simp only [X.ok,Bool.and_eq_true,decide_eq_true_eq] at h
  have na:NumsOk a:=fun o n nm hm=>hn o n nm (by simp [subs,hm])
  have hA:=ih b h.2 na hat.un
  rw [show ((b+a.size-1:Nat):Int)=(b:Int)+a.size-1 by omega] at hA
  obtain h5 | h6:op=5∨op=6:=by omega
  ·exact neg10 G hG sl hs env _ _ hat.get (evX env.l a) h5 hA (evX_fine2 hm a h.2 na)
  ·exact not10 G hG sl hs env _ _ hat.get (evX env.l a) h6 hA (evX_fine2 hm a h.2 na)
 | bin op a c iha ihc =>
  intro b h hn hat
  have hsz:=a.size_pos
  have hsc:=c.size_pos
  simp only [X.ok,Bool.and_eq_true,decide_eq_true_eq] at h
  have na:NumsOk a:=fun o n nm hm=>hn o n nm (by simp [subs,hm])
  have nc:NumsOk c:=fun o n nm hm=>hn o n nm (by simp [subs,hm])
  have hA:=iha b h.1.2 na hat.bin.1
  have hC:=ihc (b+a.size) h.2 nc hat.bin.2
  rw [show ((b+a.size-1:Nat):Int)=(b:Int)+a.size-1 by omega] at hA
  rw [show ((b+a.size+c.size-1:Nat):Int)=(b:Int)+a.size+c.size-1 by omega] at hC
  exact bin10 G hG sl hs env _ _ hat.get (evX env.l a) (evX env.l c) h.1.1 hA hC (evX_fine2 hm a h.1.2 na) (evX_fine2 hm c h.2 nc)
 | ite a c d iha ihc ihd =>
  intro b h hn hat
  have hsz:=a.size_pos
  have hsc:=c.size_pos
  have hsd:=d.size_pos
  simp only [X.ok,Bool.and_eq_true] at h
  have na:NumsOk a:=fun o n nm hm=>hn o n nm (by simp [subs,hm])
  have nc:NumsOk c:=fun o n nm hm=>hn o n nm (by simp [subs,hm])
  have nd:NumsOk d:=fun o n nm hm=>hn o n nm (by simp [subs,hm])
  have hA:=iha b h.1.1 na hat.ite.1
  have hC:=ihc (b+a.size) h.1.2 nc hat.ite.2.1
  have hD:=ihd (b+a.size+c.size) h.2 nd hat.ite.2.2
  rw [show ((b+a.size-1:Nat):Int)=(b:Int)+a.size-1 by omega] at hA
  rw [show ((b+a.size+c.size-1:Nat):Int)=(b:Int)+a.size+c.size-1 by omega] at hC
  rw [show ((b+a.size+c.size+d.size-1:Nat):Int)=(b:Int)+a.size+c.size+d.size-1 by omega] at hD
  exact ite10 G hG sl hs env _ _ hat.get (evX env.l a) (evX env.l c) (evX env.l d) rfl hA hC hD (evX_fine2 hm a h.1.1 na)
end Go.Hs
end

section
namespace Go.Hs
def sgT (op:Nat):List UInt8:=(tabL.getD op ⟨[],0,0⟩).text
def wNot:List UInt8:=[110,111,116]
def wTrue:List UInt8:=[116,114,117,101]
def wFalse:List UInt8:=[102,97,108,115,101]
inductive Gr:Int→List (List UInt8)→X→Prop where
 | num {n:Int} {t:List UInt8} {v:Int}:isP t=1→parseR (trim0 t)=(v,0)→Gr n [t] (.leaf 1 v [])
 | name {n:Int} {t:List UInt8}:isP t=2→Gr n [t] (.leaf 2 0 t)
 | tr {n:Int}:Gr n [wTrue] (.leaf 3 0 [])
 | fa {n:Int}:Gr n [wFalse] (.leaf 4 0 [])
 | neg {n:Int} {ts:List (List UInt8)} {a:X}:n≤9→Gr 9 ts a→Gr n ([45]::ts) (.un 5 a)
 | not {n:Int} {ts:List (List UInt8)} {a:X}:n≤9→Gr 9 ts a→Gr n (wNot::ts) (.un 6 a)
 | par {n:Int} {ts:List (List UInt8)} {a:X}:Gr 1 ts a→Gr n ([40]::(ts++[[41]])) a
 | bin {n:Int} {op:Nat} {ta tb:List (List UInt8)} {a b:X}:7≤op→op≤21→n≤lvl op→Gr (lvl op) ta a→Gr (lvl op+1) tb b→Gr n (ta++sgT op::tb) (.bin op a b)
 | ite {n:Int} {ta tb tc:List (List UInt8)} {a b c:X}:Gr 1 ta a→Gr 1 tb b→Gr 1 tc c→Gr n (wIf::(ta++wThen::(tb++wElse::(tc++[wEndif])))) (.ite a b c)
theorem Gr.mono {n m:Int} {ts:List (List UInt8)} {x:X} (h:Gr n ts x) (hm:m≤n):Gr m ts x:=by
 cases h with
 | num h1 h2=>exact .num h1 h2
 | name h1=>exact .name h1
 | tr=>exact .tr
 | fa=>exact .fa
 | neg h1 h2=>exact .neg (by omega) h2
 | not h1 h2=>exact .not (by omega) h2
 | par h1=>exact .par h1
 | bin h1 h2 h3 h4 h5=>exact .bin h1 h2 (by omega) h4 h5
 | ite h1 h2 h3=>exact .ite h1 h2 h3
theorem Gr.pos {n:Int} {ts:List (List UInt8)} {x:X} (h:Gr n ts x):0<ts.length:=by
 cases h<;>simp<;>omega
def wdOf (t:Tk):List UInt8:=if (isP t.text:Int)=t.kind then t.text else []
theorem next_wd {l:List Tk} {i:Nat} {w:List UInt8} (h:(l.map wdOf)[i]? = some w):(nextP l i).text=w∧(nextP l i).kind=isP w:=by
 have hk:=nextP_is l i
 have:(nextP l i).text=w:=by
  rw [List.getElem?_map] at h
  unfold nextP
  cases hg:l[i]? with
  | none=>rw [hg] at h;cases h
  | some t =>
   rw [hg] at h
   simp only [Option.map_some,Option.some.injEq] at h
   simp only
   rw [← h]
   unfold wdOf
   split<;>rfl
 exact ⟨this,by rw [← hk,this]⟩
theorem next_text {l:List Tk} {i:Nat} (h:i<l.length):(l.map wdOf)[i]? = some (nextP l i).text:=by
 have hg:(l.map wdOf)[i]? = some (wdOf l[i]):=by rw [List.getElem?_map,List.getElem?_eq_getElem h];rfl
 rw [hg,(next_wd hg).1]
def Seg (l:List Tk) (i:Nat) (ts:List (List UInt8)):Prop:=∃ pre post,l.map wdOf=pre++(ts++post)∧pre.length=i
theorem Seg.le {l:List Tk} {i:Nat} {b:List (List UInt8)} (h:Seg l i b):i+b.length≤l.length:=by
 obtain ⟨pre,post,e,hp⟩:=h
 have:=congrArg List.length e
 simp only [List.length_map,List.length_append] at this
 omega
theorem Seg.app {l:List Tk} {i:Nat} {a b:List (List UInt8)} (h:Seg l i a) (h2:Seg l (i+a.length) b):Seg l i (a++b):=by
 obtain ⟨pre,post,e,hp⟩:=h
 obtain ⟨pre2,post2,e2,hp2⟩:=h2
 refine ⟨pre,post2,?_,hp⟩
 rw [e] at e2
 have h1:pre++(a++post)=(pre++a)++post:=by simp
 rw [h1] at e2
 obtain ⟨q1,q2⟩:=List.append_inj e2 (by simp [hp,hp2])
 rw [e,q2];simp
theorem Seg.one {l:List Tk} {i:Nat} {w:List UInt8} (hi:i<l.length) (h:(nextP l i).text=w):Seg l i [w]:=by
 have hg:=next_text hi
 rw [h] at hg
 obtain ⟨q1,q2⟩:=List.getElem?_eq_some_iff.1 hg
 refine ⟨(l.map wdOf).take i,(l.map wdOf).drop (i+1),?_,?_⟩
 ·rw [← q2,List.singleton_append,← List.drop_eq_getElem_cons q1,List.take_append_drop]
 ·rw [List.length_take];omega
def after (r:RS) (k:Nat) (x:X):RS:=⟨r.i+k,r.nodes++x.row r.nodes.length,r.e⟩
theorem after_last (r:RS) (k:Nat) (x:X):(after r k x).last=(r.nodes.length:Int)+x.size-1:=by
 show (((r.nodes++x.row r.nodes.length).length:Nat):Int)-1=_
 rw [List.length_append,X.row_len];omega
theorem parse_pos {t:List UInt8} (h:isP t=1):0≤(parseR (trim0 t)).1:=by
 have hd:=(isP_dig h).2
 have h1:(trim0 t).all isDig=true∧trim0 t≠[]:=by
  unfold trim0
  split
  ·exact ⟨by decide,by simp⟩
  ·rename_i hn
   refine ⟨?_,hn⟩
   rw [List.all_eq_true] at hd ⊢
   exact fun x hx=>hd x ((List.dropWhile_sublist _).mem hx)
 obtain ⟨h1,h2⟩:=h1
 generalize trim0 t=s at h1 h2
 have hh':(s.head? == some 45)=false:=by
  cases s with
  | nil=>exact absurd rfl h2
  | cons c r =>
   rw [beq_eq_false_iff_ne]
   intro hc
   have hc:c=45:=by simpa using hc
   subst hc
   rw [List.all_cons] at h1
   revert h1
   simp [isDig]
 unfold parseR
 rw [hh']
 simp only [Bool.false_eq_true,if_false,or_false]
 split
 ·exact Int.le_refl _
 ·unfold told
  split
  ·exact Int.natCast_nonneg _
  ·exact Int.le_refl _
theorem Gr.ok {n:Int} {ts:List (List UInt8)} {x:X} (h:Gr n ts x):x.ok=true:=by
 induction h with
 | @num n t v h1 h2 =>
  have hp:=parse_pos h1
  rw [h2] at hp
  have hp:0≤v:=hp
  have:wellP ⟨1,v,[],-1,-1,-1⟩=true:=by
   unfold wellP
   rw [if_neg (by simp;omega),if_neg (by simp)];rfl
  simp only [X.ok,this,Bool.true_and];rfl
 | @name n t h1 =>
  have:wellP ⟨2,0,t,-1,-1,-1⟩=true:=by
   unfold wellP
   rw [if_neg (by simp),if_pos rfl,h1];rfl
  simp only [X.ok,this,Bool.true_and];rfl
 | tr=>rfl
 | fa=>rfl
 | neg _ _ ih=>simp only [X.ok,ih,Bool.and_true];rfl
 | not _ _ ih=>simp only [X.ok,ih,Bool.and_true];rfl
 | par _ ih=>exact ih
 | bin h1 h2 _ _ _ ih1 ih2 =>
  simp only [X.ok,ih1,ih2,Bool.and_true,Bool.and_eq_true,decide_eq_true_eq]
  omega
 | ite _ _ _ i1 i2 i3=>simp only [X.ok,i1,i2,i3];rfl
def ReadsX (l:List Tk) (n:Int) (r r':RS):Prop:=∃ ts x,Gr n ts x∧Seg l r.i ts∧r'=after r ts.length x
theorem eat_inv {l:List Tk} {w:List UInt8} {r:RS} (h:(eatP l w r).1=true):eatP l w r=(true,r.adv)∧Seg l r.i [w]:=by
 unfold eatP at h ⊢
 split at h
 ·cases h
 ·rename_i hn
  rw [if_neg hn]
  simp only [not_or,Decidable.not_not] at hn
  exact ⟨rfl,Seg.one (nextP_lt hn.1) hn.2⟩
theorem then_inv {x:Bool × RS} {k:RS→Bool × RS} (h:(andThen x k).1=true):x.1=true∧(k x.2).1=true∧andThen x k=k x.2:=by
 obtain ⟨b,r⟩:=x
 cases b
 ·cases h
 ·exact ⟨rfl,h,rfl⟩
theorem put_after (r:RS) (k:Nat) (x:X) (n:XN):(after r k x).put n=⟨r.i+k,r.nodes++(x.row r.nodes.length++[n]),r.e⟩:=by
 show RS.mk _ _ _=_
 congr 1
 show r.nodes++_++[n]=_
 rw [List.append_assoc]
theorem sgT_of {t:List UInt8} {op:Nat} (h:ofI t 2=some op):sgT op=t:=by
 obtain ⟨s,h1,h2,_⟩:=ofI_some h
 unfold sgT
 rw [List.getD_eq_getElem?_getD,h1];exact h2
theorem ahead_inv {l:List Tk} {inner:Inner} (hin:∀ n r,n=1∨n=9→(inner n r).1=true→ReadsX l n r (inner n r).2) {r:RS} (h:(aheadP l inner r).1=true):ReadsX l 9 r (aheadP l inner r).2:=by
 have hk:=nextP_is l r.i
 have hlt:(nextP l r.i).kind≠0→r.i<l.length:=nextP_lt
 have hP:aheadP l inner r=if (nextP l r.i).kind=1 then numberP r (nextP l r.i).text
  else if (nextP l r.i).kind=2 then leafP r 2 0 (nextP l r.i).text
  else if (nextP l r.i).kind=0 then (false,r.err 80)
  else if (ofP (nextP l r.i).text 1).2 then andThen (inner 9 r.adv) fun a=>(true,a.put ⟨(ofP (nextP l r.i).text 1).1,0,[],a.last,-1,-1⟩)
  else if (nextP l r.i).text=[40] then andThen (inner 1 r.adv) (eatP l [41])
  else if (nextP l r.i).text=wIf then branchesP l inner r
  else if (ofP (nextP l r.i).text 0).2∧(nextP l r.i).kind=3 then leafP r (ofP (nextP l r.i).text 0).1 0 []
  else (false,r.err 80):=rfl
 generalize aheadP l inner r=res at h hP ⊢
 by_cases k0:(nextP l r.i).kind=0
 ·rw [k0] at hP
  rw [if_neg (by decide),if_neg (by decide),if_pos rfl] at hP
  rw [hP] at h;cases h
 have hone:=Seg.one (l:=l) (i:=r.i) (hlt k0) rfl
 generalize nextP l r.i=t at hP hk hone k0
 obtain ⟨k,t,p⟩:=t
 simp only at hP hk hone k0
 by_cases k1:k=1
 ·rw [if_pos k1] at hP
  have ht:isP t=1:=by omega
  unfold numberP at hP
  by_cases he:(parseR (trim0 t)).2=0
  ·rw [if_neg (by simpa using he)] at hP
   refine ⟨[t],.leaf 1 (parseR (trim0 t)).1 [],.num ht (by rw [← he]),hone,by rw [hP];rfl⟩
  ·rw [if_pos he] at hP
   rw [hP] at h;cases h
 rw [if_neg k1] at hP
 by_cases k2:k=2
 ·rw [if_pos k2] at hP
  exact ⟨[t],.leaf 2 0 t,.name (by omega),hone,by rw [hP];rfl⟩
 rw [if_neg k2,if_neg k0] at hP
 cases h1:ofI t 1 with
 | some op =>
  have e1:ofP t 1=(op,true):=by unfold ofP;rw [h1]
  rw [e1,if_pos rfl] at hP
  rw [hP] at h
  obtain ⟨q1,_,q3⟩:=then_inv h
  obtain ⟨ts,x,g1,g2,g3⟩:=hin 9 r.adv (.inr rfl) q1
  rw [q3] at hP
  simp only at hP
  rw [g3] at hP
  have hs:Seg l r.i (t::ts):=hone.app (b:=ts) g2
  have hres:res.2=after r (ts.length+1) (.un op x):=by
   rw [hP,after_last]
   simp only [put_after]
   show RS.mk _ _ _=RS.mk _ _ _
   congr 1
   show r.i+1+ts.length=_
   omega
  rcases ofI_one h1 with ⟨rfl,rfl⟩ | ⟨rfl,rfl⟩
  ·exact ⟨_,_,.neg (Int.le_refl _) g1,hs,hres⟩
  ·exact ⟨_,_,.not (Int.le_refl _) g1,hs,hres⟩
 | none =>
 have e1:(ofP t 1).2=false:=by unfold ofP;rw [h1]
 rw [e1,if_neg (by simp)] at hP
 by_cases h2:t=[40]
 ·rw [if_pos h2] at hP
  subst h2
  rw [hP] at h
  obtain ⟨q1,q2,q3⟩:=then_inv h
  obtain ⟨ts,x,g1,g2,g3⟩:=hin 1 r.adv (.inl rfl) q1
  rw [q3,g3] at hP
  rw [g3] at q2
  obtain ⟨q4,q5⟩:=eat_inv q2
  rw [q4] at hP
  refine ⟨_,_,.par g1,hone.app (b:=ts++[[41]]) (g2.app q5),?_⟩
  rw [hP]
  show RS.mk _ _ _=RS.mk _ _ _
  congr 1
  show r.i+1+ts.length+1=_
  simp only [List.length_cons,List.length_append,List.length_nil];omega
 rw [if_neg h2] at hP
 by_cases h3:t=wIf
 ·rw [if_pos h3] at hP
  subst h3
  unfold branchesP at hP
  rw [hP] at h
  obtain ⟨a1,a2,a3⟩:=then_inv h
  obtain ⟨b1,b2⟩:=eat_inv a1
  rw [a3] at hP
  rw [b1] at hP a2
  simp only at hP a2
  obtain ⟨c1,c2,c3⟩:=then_inv a2
  obtain ⟨ta,xa,ga,sa,ra⟩:=hin 1 r.adv (.inl rfl) c1
  rw [c3,ra] at hP
  rw [ra] at c2
  obtain ⟨d1,d2,d3⟩:=then_inv c2
  obtain ⟨e1,e2⟩:=eat_inv d1
  rw [d3,e1] at hP
  rw [e1] at d2
  simp only at hP d2
  obtain ⟨f1,f2,f3⟩:=then_inv d2
  obtain ⟨tb,xb,gb,sb,rb⟩:=hin 1 _ (.inl rfl) f1
  rw [f3,rb] at hP
  rw [rb] at f2
  obtain ⟨i1,i2,i3⟩:=then_inv f2
  obtain ⟨j1,j2⟩:=eat_inv i1
  rw [i3,j1] at hP
  rw [j1] at i2
  simp only at hP i2
  obtain ⟨k1,k2,k3⟩:=then_inv i2
  obtain ⟨tc,xc,gc,sc,rc⟩:=hin 1 _ (.inl rfl) k1
  rw [k3,rc] at hP
  rw [rc] at k2
  obtain ⟨m1,m2,m3⟩:=then_inv k2
  obtain ⟨n1,n2⟩:=eat_inv m1
  rw [m3,n1] at hP
  simp only [after_last] at hP
  refine ⟨_,_,.ite ga gb gc,?_,?_⟩
  ·exact hone.app (b:=_) (sa.app (e2.app (b:=_) (sb.app (j2.app (b:=_) (sc.app n2)))))
  ·rw [hP]
   show RS.mk _ _ _=RS.mk _ _ _
   congr 1
   ·show r.i+1+ta.length+1+tb.length+1+tc.length+1=_
    simp only [List.length_append,List.length_cons,List.length_nil];omega
   ·have q1:(after r.adv ta.length xa).adv.nodes=r.nodes++xa.row r.nodes.length:=rfl
    have q2:(after (after r.adv ta.length xa).adv tb.length xb).adv.nodes=(after r.adv ta.length xa).adv.nodes++xb.row ((after r.adv ta.length xa).adv.nodes.length:Nat):=rfl
    show (after (after r.adv ta.length xa).adv tb.length xb).adv.nodes++xc.row ((after (after r.adv ta.length xa).adv tb.length xb).adv.nodes.length:Nat)++[_]=_
    have q3:r.adv.nodes=r.nodes:=rfl
    simp only [q2,q1,q3,List.length_append,X.row_len,X.row,List.append_assoc,Int.natCast_add,Int.add_assoc]
 rw [if_neg h3] at hP
 cases h4:ofI t 0 with
 | none =>
  have e0:(ofP t 0).2=false:=by unfold ofP;rw [h4]
  rw [e0,if_neg (by simp)] at hP
  rw [hP] at h;cases h
 | some op =>
  have e0:ofP t 0=(op,true):=by unfold ofP;rw [h4]
  rw [e0] at hP
  have hk3:k=3:=by
   rcases ofI_zero h4 with ⟨rfl,_⟩ | ⟨rfl,_⟩
   ·rw [← hk];decide +kernel
   ·rw [← hk];decide +kernel
  rw [if_pos ⟨rfl,hk3⟩] at hP
  rcases ofI_zero h4 with ⟨rfl,rfl⟩ | ⟨rfl,rfl⟩
  ·exact ⟨_,_,.tr,hone,by rw [hP];rfl⟩
  ·exact ⟨_,_,.fa,hone,by rw [hP];rfl⟩
theorem loop_inv {l:List Tk} {inner:Inner} (hin:∀ n r,1≤n→n≤9→(inner n r).1=true→ReadsX l n r (inner n r).2∧Ends l n (inner n r).2.i) {n:Int} {r0:RS} :
  ∀ (m:Nat) (r:RS) (k:Int) (ts:List (List UInt8)) (x:X),Gr k ts x→Seg l r0.i ts→r=after r0 ts.length x→n≤k→(∀ op,opAt l r.i=some op→lvl op≤k)→(loopP l inner n m r).1=true→ReadsX l n r0 (loopP l inner n m r).2
 | 0,r,k,ts,x,g,s,e,hk,_,_=>⟨ts,x,g.mono hk,s,e⟩
 | m+1,r,k,ts,x,g,s,e,hk,ho,h=>by
  rw [loopP] at h ⊢
  cases hop:opAt l r.i with
  | none=>exact ⟨ts,x,g.mono hk,s,e⟩
  | some op =>
   rw [hop] at h
   simp only at h ⊢
   by_cases hl:lvl op<n
   ·rw [if_pos hl];exact ⟨ts,x,g.mono hk,s,e⟩
   rw [if_neg hl] at h ⊢
   obtain ⟨p1,p2,p3,p4⟩:=op_pos hop
   obtain ⟨q1,q2,q3⟩:=then_inv h
   obtain ⟨⟨tb,b,gb,sb,rb⟩,hend⟩:=hin (lvl op+1) r.adv (by omega) (by omega) q1
   rw [q3]
   have hw:sgT op=(nextP l r.i).text:=sgT_of (by rw [← opAt_two];exact hop)
   have hg2:Gr (lvl op) (ts++sgT op::tb) (.bin op x b) := .bin p1 p2 (Int.le_refl _) (g.mono (ho op hop)) gb
   have hri:r.i=r0.i+ts.length:=by rw [e];rfl
   have hone:Seg l r.i [sgT op]:=Seg.one (opAt_lt hop) hw.symm
   have hs2:Seg l r0.i (ts++sgT op::tb):=s.app (by rw [← hri];exact hone.app (b:=tb) sb)
   rw [rb] at q2 hend ⊢
   have he2:(after r.adv tb.length b).put ⟨(op:Int),0,[],r.last,(after r.adv tb.length b).last,-1⟩=after r0 (ts++sgT op::tb).length (.bin op x b):=by
    rw [after_last,put_after,e,after_last]
    show RS.mk _ _ _=RS.mk _ _ _
    congr 1
    ·show r0.i+ts.length+1+tb.length=_
     simp only [List.length_append,List.length_cons];omega
    ·have q1:(after r0 ts.length x).adv.nodes=r0.nodes++x.row r0.nodes.length:=rfl
     simp only [q1,List.length_append,X.row_len,X.row,List.append_assoc,Int.natCast_add]
   refine loop_inv hin m _ (lvl op) _ _ hg2 hs2 he2 (by omega) ?_ q2
   intro op' ho'
   have:=hend op' ho'
   omega
theorem climb_inv {l:List Tk}:∀ (f:Nat) (n:Int) (r:RS),1≤n→n≤9→(climbP l f n r).1=true→ReadsX l n r (climbP l f n r).2
 | 0,n,r,_,_,h=>by cases h
 | f+1,n,r,h1,h9,h=>by
  rw [climbP] at h ⊢
  obtain ⟨q1,q2,q3⟩:=then_inv h
  have hin:∀ n r,1≤n→n≤9→(climbP l f n r).1=true→ReadsX l n r (climbP l f n r).2:=fun n r a b c=>climb_inv f n r a b c
  obtain ⟨ts,x,g,s,e⟩:=ahead_inv (fun n r hn hb=>hin n r (by omega) (by omega) hb) q1
  rw [q3]
  exact loop_inv (fun n r a b c=>⟨hin n r a b c,climbP_ends c⟩) _ _ 9 ts x g s e h9 (fun op ho=>by have:=op_pos ho;omega) q2
end Go.Hs
end

section
namespace Go.Hs
def parW (b:Bool) (ts:List (List UInt8)):List (List UInt8):=if b then [40]::(ts++[[41]]) else ts
def X.W:X→Int→List (List UInt8)
 | .leaf op num name,_=>[if op=1 then putR num else if op=2 then name else sgT op.toNat]
 | .un op a,k=>parW (9<k) (sgT op.toNat::a.W 9)
 | .bin op a b,k=>parW (lvl op.toNat<k) (a.W (lvl op.toNat)++sgT op.toNat::b.W (lvl op.toNat+1))
 | .ite a b c,_=>wIf::(a.W 0++wThen::(b.W 0++wElse::(c.W 0++[wEndif])))
def X.fit:X→Prop
 | .leaf _ num _=>num≤9223372036854775807
 | .un _ a=>a.fit
 | .bin _ a b=>a.fit∧b.fit
 | .ite a b c=>a.fit∧b.fit∧c.fit
theorem leaf_cases {op num:Int} {name:List UInt8} (h:(X.leaf op num name).ok=true):(op=1∧0≤num∧name=[])∨(op=2∧num=0∧isP name=2)∨(op=3∧num=0∧name=[])∨(op=4∧num=0∧name=[]):=by
 simp only [X.ok,Bool.and_eq_true,decide_eq_true_eq] at h
 obtain ⟨h1,h2⟩:=h
 unfold wellP at h1
 split at h1
 ·cases h1
 rename_i h0
 simp only [not_or,Int.not_lt] at h0
 split at h1
 ·simp only [Bool.and_eq_true,beq_iff_eq] at h1
  rename_i q
  exact .inr (.inl ⟨q,h1⟩)
 ·rename_i q
  simp only [Bool.and_eq_true,beq_iff_eq,Bool.or_eq_true] at h1 q h0
  rcases h1.2 with q1 | q1
  ·exact .inl ⟨q1,h0.2.2,h1.1⟩
  ·by_cases o1:op=1
   ·exact .inl ⟨o1,h0.2.2,h1.1⟩
   ·by_cases o3:op=3
    ·exact .inr (.inr (.inl ⟨o3,q1,h1.1⟩))
    ·exact .inr (.inr (.inr ⟨by omega,q1,h1.1⟩))
theorem row_inj:∀ (x y:X) (k:Int),x.ok=true→y.ok=true→x.row k=y.row k→x=y:=by
 have last:∀ {a b:List XN} {m n:XN},a++[m]=b++[n]→a=b∧m=n:=by
  intro a b m n h
  obtain ⟨q1,q2⟩:=List.append_inj' h rfl
  exact ⟨q1,by simpa using q2⟩
 have body:∀ (x:X) (k:Int),∃ b,x.row k=b++[x.top k]:=fun x k=>by obtain ⟨b,h,_⟩:=x.row_top k;exact ⟨b,h⟩
 have opr:∀ (x:X) (k:Int),x.ok=true→match x with
   | .leaf op _ _=>1≤op∧op≤4
   | .un op _=>5≤op∧op≤6
   | .bin op _ _=>7≤op∧op≤21
   | .ite .. => True:=by
  intro x k h
  cases x with
  | leaf op num name=>rcases leaf_cases h with ⟨h,_⟩ | ⟨h,_⟩ | ⟨h,_⟩ | ⟨h,_⟩<;>(show 1≤op∧op≤4;omega)
  | un op a=>simp only [X.ok,Bool.and_eq_true,decide_eq_true_eq] at h;exact h.1
  | bin op a b=>simp only [X.ok,Bool.and_eq_true,decide_eq_true_eq] at h;exact h.1.1
  | ite=>trivial
 intro x
 induction x with
 | leaf op num name =>
  intro y k hx hy h
  have o1:=opr _ k hx
  have o2:=opr y k hy
  obtain ⟨b,hb⟩:=body y k
  rw [hb] at h
  obtain ⟨_,ht⟩:=last (a:=[]) h
  cases y with
  | leaf op' num' name'=>simp only [X.top,XN.mk.injEq] at ht;obtain ⟨rfl,rfl,rfl,_⟩:=ht;rfl
  | un op' a'=>simp only [X.top,XN.mk.injEq] at ht o1 o2;omega
  | bin op' a' b'=>simp only [X.top,XN.mk.injEq] at ht o1 o2;omega
  | ite a' b' c'=>simp only [X.top,XN.mk.injEq] at ht o1 o2;omega
 | un op a iha =>
  intro y k hx hy h
  have o1:=opr _ k hx
  have o2:=opr y k hy
  cases y with
  | leaf op' num' name' =>
   have ht:=(last (b:=[]) h).2
   simp only [XN.mk.injEq] at ht o1 o2;omega
  | un op' a' =>
   obtain ⟨hr,ht⟩:=last h
   simp only [XN.mk.injEq] at ht
   simp only [X.ok,Bool.and_eq_true] at hx hy
   rw [iha a' k hx.2 hy.2 hr,ht.1]
  | bin op' a' b' =>
   have ht:=(last h).2
   simp only [XN.mk.injEq] at ht o1 o2;omega
  | ite a' b' c' =>
   have ht:=(last h).2
   simp only [XN.mk.injEq] at ht o1 o2;omega
 | bin op a b iha ihb =>
  intro y k hx hy h
  have o1:=opr _ k hx
  have o2:=opr y k hy
  cases y with
  | leaf op' num' name' =>
   have ht:=(last (b:=[]) h).2
   simp only [XN.mk.injEq] at ht o1 o2;omega
  | un op' a' =>
   have ht:=(last h).2
   simp only [XN.mk.injEq] at ht o1 o2;omega
  | bin op' a' b' =>
   obtain ⟨hr,ht⟩:=last h
   simp only [XN.mk.injEq] at ht
   simp only [X.ok,Bool.and_eq_true] at hx hy
   have hs:a.size=a'.size:=by omega
   obtain ⟨q1,q2⟩:=List.append_inj hr (by rw [X.row_len,X.row_len];exact hs)
   rw [← hs] at q2
   rw [iha a' k hx.1.2 hy.1.2 q1,ihb b' _ hx.2 hy.2 q2,ht.1]
  | ite a' b' c' =>
   have ht:=(last h).2
   simp only [XN.mk.injEq] at ht o1 o2;omega
 | ite a b c iha ihb ihc =>
  intro y k hx hy h
  have o2:=opr y k hy
  cases y with
  | leaf op' num' name' =>
   have ht:=(last (b:=[]) h).2
   simp only [XN.mk.injEq] at ht o2;omega
  | un op' a' =>
   have ht:=(last h).2
   simp only [XN.mk.injEq] at ht o2;omega
  | bin op' a' b' =>
   have ht:=(last h).2
   simp only [XN.mk.injEq] at ht o2;omega
  | ite a' b' c' =>
   obtain ⟨hr,ht⟩:=last h
   simp only [XN.mk.injEq] at ht
   simp only [X.ok,Bool.and_eq_true] at hx hy
   have hs:a.size=a'.size:=by omega
   have hs2:b.size=b'.size:=by omega
   obtain ⟨q1,q2⟩:=List.append_inj hr (by rw [List.length_append,List.length_append,X.row_len,X.row_len,X.row_len,X.row_len];omega)
   obtain ⟨q3,q4⟩:=List.append_inj q1 (by rw [X.row_len,X.row_len];exact hs)
   rw [← hs] at q4 q2
   rw [← hs2] at q2
   rw [iha a' k hx.1.1 hy.1.1 q3,ihb b' _ hx.1.2 hy.1.2 q4,ihc c' _ hx.2 hy.2 q2]
end Go.Hs
end

section
namespace Go.Hs
def fromP (l:List Tk):List XN × Int × Int:=if (climbP l (l.length+1) 1 ⟨0,[],0⟩).1=false then ([],(climbP l (l.length+1) 1 ⟨0,[],0⟩).2.i,(climbP l (l.length+1) 1 ⟨0,[],0⟩).2.e)
 else if depthP (climbP l (l.length+1) 1 ⟨0,[],0⟩).2.nodes > 64 then ([],0,3) else ((climbP l (l.length+1) 1 ⟨0,[],0⟩).2.nodes,(climbP l (l.length+1) 1 ⟨0,[],0⟩).2.i,0)
def exprP (s:List UInt8):List XN × Int × Int :=
 if (toksP s).2.2≠0 then ([],(toksP s).2.1,(toksP s).2.2)
 else if (fromP (toksP s).1).2.2=3 then ([],0,3)
 else if (fromP (toksP s).1).2.2=0∧(fromP (toksP s).1).2.1=((toksP s).1.length:Nat) then ((fromP (toksP s).1).1,0,0)
 else ([],if (fromP (toksP s).1).2.1=((toksP s).1.length:Nat) then (s.length:Int) else ((toksP s).1.getD (fromP (toksP s).1).2.1.toNat ⟨0,[],0⟩).pos,if (fromP (toksP s).1).2.2=0 then 80 else (fromP (toksP s).1).2.2)
theorem fromP_bnd {l:List Tk}:0≤(fromP l).2.1∧(fromP l).2.1≤(l.length:Nat):=by
 have hok:=((climbP_bal l (l.length+1) 1 ⟨0,[],0⟩).ok ⟨Nat.zero_le _,Nat.le_refl _⟩).1
 unfold fromP
 split
 ·exact ⟨Int.natCast_nonneg _,Int.ofNat_le.2 hok⟩
 ·split
  ·exact ⟨Int.le_refl _,Int.natCast_nonneg _⟩
  ·exact ⟨Int.natCast_nonneg _,Int.ofNat_le.2 hok⟩
end Go.Hs
end

section
namespace Go.Hs
def ErrS (x:Bool × RS):Prop:=x.1=false→x.2.e≠0
theorem ErrS.then {x:Bool × RS} {k:RS→Bool × RS} (h1:ErrS x) (h2:x.1=true→ErrS (k x.2)):ErrS (andThen x k):=by
 obtain ⟨b,r⟩:=x
 cases b
 ·exact h1
 ·exact h2 rfl
theorem ErrS.ok {x:RS}:ErrS (true,x):=fun h=>by cases h
theorem eat_err (l:List Tk) (w:List UInt8) (r:RS):ErrS (eatP l w r):=by
 unfold eatP
 split
 ·intro _;show (80:Int)≠0;decide
 ·exact .ok
theorem climb_err {l:List Tk}:∀ (f:Nat) (n:Int) (r:RS),l.length<f+r.i→r.i≤l.length→ErrS (climbP l f n r)
 | 0,n,r,h,h2=>by omega
 | f+1,n,r,h,h2=>by
  have hin:∀ n (r':RS),r.i<r'.i→r'.i≤l.length→ErrS (climbP l f n r'):=fun n r' a b=>climb_err f n r' (by omega) b
  have hbs:=climbP_bal l f
  rw [climbP]
  refine ErrS.then ?_ fun _=>?_
  ·have hkl:(nextP l r.i).kind≠0→r.i+1≤l.length:=fun q=>nextP_lt q
   unfold aheadP
   split
   ·unfold numberP
    split
    ·rename_i q;intro _;exact q
    ·exact .ok
   split
   ·exact .ok
   split
   ·intro _;show (80:Int)≠0;decide
   rename_i k0
   have hlt:=hkl k0
   split
   ·exact ErrS.then (hin 9 r.adv (Nat.lt_succ_self _) hlt) fun _ => .ok
   split
   ·exact ErrS.then (hin 1 r.adv (Nat.lt_succ_self _) hlt) fun _=>eat_err _ _ _
   split
   ·unfold branchesP
    have b0:=eatP_bal l wIf r
    refine ErrS.then (eat_err _ _ _) fun q1=>?_
    have m1:=b0.2 q1
    have u1:r.i+1≤(eatP l wIf r).2.i:=by
     unfold eatP at q1 ⊢
     split at q1
     ·cases q1
     ·rename_i qq;rw [if_neg qq];exact Nat.le_refl _
    have i1:=m1.inn h2
    generalize (eatP l wIf r).2=r1 at u1 i1 ⊢
    have b1:=hbs 1 r1
    refine ErrS.then (hin 1 r1 u1 i1) fun _=>?_
    have u2:=b1.up
    have i2:=b1.inn i1
    generalize (climbP l f 1 r1).2=a at u2 i2 ⊢
    have b2:=(eatP_bal l wThen a).1
    refine ErrS.then (eat_err _ _ _) fun _=>?_
    have u3:=b2.up
    have i3:=b2.inn i2
    generalize (eatP l wThen a).2=r2 at u3 i3 ⊢
    have b3:=hbs 1 r2
    refine ErrS.then (hin 1 r2 (by omega) i3) fun _=>?_
    have u4:=b3.up
    have i4:=b3.inn i3
    generalize (climbP l f 1 r2).2=b at u4 i4 ⊢
    have b4:=(eatP_bal l wElse b).1
    refine ErrS.then (eat_err _ _ _) fun _=>?_
    have u5:=b4.up
    have i5:=b4.inn i4
    generalize (eatP l wElse b).2=r3 at u5 i5 ⊢
    refine ErrS.then (hin 1 r3 (by omega) i5) fun _=>?_
    exact ErrS.then (eat_err _ _ _) fun _ => .ok
   split
   ·exact .ok
   ·intro _;show (80:Int)≠0;decide
  ·have hb:=aheadP_bal hbs r
   have u0:=hb.up
   have i0:=hb.inn h2
   generalize (aheadP l (climbP l f) r).2=q at u0 i0 ⊢
   have key:∀ (m:Nat) (q:RS),r.i≤q.i→q.i≤l.length→ErrS (loopP l (climbP l f) n m q):=by
    intro m
    induction m with
    | zero=>intro q _ _;exact .ok
    | succ m ih =>
     intro q hq hl
     rw [loopP]
     split
     ·exact .ok
     ·rename_i op ho
      split
      ·exact .ok
      ·have hb:=hbs (lvl op+1) q.adv
       have hlt:=opAt_lt ho
       refine ErrS.then (hin _ q.adv (by show r.i<q.i+1;omega) hlt) fun _=>?_
       refine ih _ ?_ ?_
       ·have:=hb.up
        show r.i≤_
        have h3:q.i+1≤_:=this
        simp only [RS.put_i];omega
       ·simp only [RS.put_i];exact hb.inn hlt
   exact key _ q u0 i0
theorem Gr.size {n:Int} {ts:List (List UInt8)} {x:X} (h:Gr n ts x):x.size≤ts.length:=by
 induction h<;>simp only [X.size,List.length_cons,List.length_append,List.length_nil]<;>omega
theorem Gr.fit {n:Int} {ts:List (List UInt8)} {x:X} (h:Gr n ts x):x.fit:=by
 induction h with
 | @num n t v h1 h2 =>
  show v≤9223372036854775807
  have hp:(parseR (trim0 t)).1≤9223372036854775807:=by
   have ht:∀ z:Int,(told z).1≤9223372036854775807:=by
    intro z
    unfold told
    split
    ·rename_i q
     simp only [fits,decide_eq_true_eq] at q
     exact q.2
    ·show (0:Int)≤_;decide
   generalize trim0 t=u
   unfold parseR
   generalize (u.head? == some 45)=bl
   cases bl
   ·simp only [Bool.false_eq_true,if_false]
    split
    ·show (0:Int)≤_;decide
    ·exact ht _
   ·simp only [if_true]
    split
    ·show (0:Int)≤_;decide
    ·exact ht _
  rw [h2] at hp
  exact hp
 | name=>show (0:Int)≤_;decide
 | tr=>show (0:Int)≤_;decide
 | fa=>show (0:Int)≤_;decide
 | neg _ _ ih=>exact ih
 | not _ _ ih=>exact ih
 | par _ ih=>exact ih
 | bin _ _ _ _ _ i1 i2=>exact ⟨i1,i2⟩
 | ite _ _ _ i1 i2 i3=>exact ⟨i1,i2,i3⟩
end Go.Hs
end

section
namespace Go.Hs
open Go.Proofs
set_option maxRecDepth 10000
set_option maxHeartbeats 1000000
structure EvIn (s:Sl XN) (env:Sl (List UInt8 × Int)):Prop where
 hs:s.l.length<1000000
 hnm:∀ n∈s.l,n.name.length<100000
 hnum:∀ n∈s.l,fits n.num=true
 hv:env.l.length<1000000
 hf:∀ p∈env.l,fits p.2=true
theorem numsOk_row {x:X} (h:∀ n∈x.row 0,fits n.num=true):NumsOk x:=by
 intro op num name hm
 obtain ⟨b,hb⟩:=mem_subs hm
 have ht:=hb.top
 have:=h _ (List.mem_of_getElem? ht)
 exact this
theorem check_tree {l:List XN} (h:checkP l=0):∃ x:X,x.ok=true∧l=x.row 0:=by
 refine right_tree.1 ?_
 rw [right_depth]
 unfold checkP at h
 split at h
 ·cases h
 ·rename_i h0;simpa using h0
open Classical in
noncomputable def evL (env:List (List UInt8 × Int)) (l:List XN):EV :=
 if h:checkP l=0 then evX env (check_tree h).choose else .err (checkP l)
theorem evL_err {env:List (List UInt8 × Int)} {l:List XN} (h:checkP l≠0):evL env l = .err (checkP l):=dif_neg h
theorem evL_row {env:List (List UInt8 × Int)} {x:X} (hx:x.ok=true) (h:checkP (x.row 0)=0):evL env (x.row 0)=evX env x:=by
 unfold evL
 rw [dif_pos h]
 have hc:=(check_tree h).choose_spec
 exact congrArg (evX env) (row_inj _ _ 0 hc.1 hx hc.2.symm)
theorem kindsIs_evL {env:List (List UInt8 × Int)} {l:List XN} {k:Int} (hnum:∀ n∈l,fits n.num=true):KindsIs env l k ((evL env l).need k):=by
 by_cases h:checkP l=0
 ·right
  obtain ⟨x,hx,rfl⟩:=check_tree h
  exact ⟨h,x,hx,numsOk_row hnum,rfl,by rw [evL_row hx h]⟩
 ·left
  exact ⟨h,by rw [evL_err h];rfl⟩
theorem eval_spec (G:Nat→V) (hE:GExp G) (c c2:Col) (s:Sl XN) (env:Sl (List UInt8 × Int)) (h:EvIn s env):Spec Tryz.prog G 17 [.agg [encSl c 6 encXN s],encSl c2 2 encBi env] hNone (fun v _=>v=encVE (evL env.l s.l)):=by
 have hG:=hE.ok
 refine Spec.of_code' 0 11 [.cell 4 34,.tmp 5] Tryz.func17 rfl rfl rfl rfl fun X=>?_
 refine AW.seq_k fun K hK=>AW.region (by kernel_rfl) ?_
 simp -implicitDefEqProofs only[go_sem,seval,↓reduceIte]
 intro g2 g4
 refine hK _ ?_
 clear hK K
 repeat first
  | (refine AW.qr (by kernel_rfl) ?_;simp -implicitDefEqProofs only[go_sem,seval,↓reduceIte])
  | (refine AW.region (by kernel_rfl) ?_;simp -implicitDefEqProofs only[go_sem,seval,↓reduceIte])
  | refine AW.qq ?_
  | refine AW.block ?_
  | refine AW.qT rfl ?_
  | refine AW.qF rfl ?_
  | (refine AW.skip ?_;simp -implicitDefEqProofs only[go_sem,seval,↓reduceIte])
  | (refine AW.exit ?_;simp -implicitDefEqProofs only[go_sem,seval,↓reduceIte])
  | (refine AW.ret ?_;simp -implicitDefEqProofs only[go_sem,seval,↓reduceIte];refine endK_some ?_)
 refine CallA.pure hG (by kernel_rfl) ?_
 simp -implicitDefEqProofs only[go_sem,seval,↓reduceIte,recol_xns,recol_bis]
 refine (kinds_spec G hE c.ent c2.ent s h.hs h.hnm env h.hv h.hf 0 (by decide) _ (kindsIs_evL h.hnum)).mono ?_
 rintro _ _ rfl
 simp -implicitDefEqProofs only[go_sem,seval,↓reduceIte,encVE,encEV]
 repeat first
  | (refine AW.qr (by kernel_rfl) ?_;simp -implicitDefEqProofs only[go_sem,seval,↓reduceIte])
  | (refine AW.region (by kernel_rfl) ?_;simp -implicitDefEqProofs only[go_sem,seval,↓reduceIte])
  | refine AW.qq ?_
  | refine AW.block ?_
  | refine AW.qT rfl ?_
  | refine AW.qF rfl ?_
  | (refine AW.skip ?_;simp -implicitDefEqProofs only[go_sem,seval,↓reduceIte])
  | (refine AW.exit ?_;simp -implicitDefEqProofs only[go_sem,seval,↓reduceIte])
  | (refine AW.ret ?_;simp -implicitDefEqProofs only[go_sem,seval,↓reduceIte];refine endK_some ?_)
 rw [need0]
theorem number_spec (G:Nat→V) (hE:GExp G) (c c2:Col) (s:Sl XN) (env:Sl (List UInt8 × Int)) (h:EvIn s env):Spec Tryz.prog G 22 [.agg [encSl c 6 encXN s],encSl c2 2 encBi env] hNone (fun v _=>v=encNE ((evL env.l s.l).need 1)):=by
 have hG:=hE.ok
 refine Spec.of_code' 0 17 [.tmp 4,.tmp 5] Tryz.func22 rfl rfl rfl rfl fun X=>?_
 refine AW.seq_k fun K hK=>AW.region (by kernel_rfl) ?_
 simp -implicitDefEqProofs only[go_sem,seval,↓reduceIte]
 intro g2
 refine hK _ ?_
 clear hK K
 repeat first
  | (refine AW.qr (by kernel_rfl) ?_;simp -implicitDefEqProofs only[go_sem,seval,↓reduceIte])
  | (refine AW.region (by kernel_rfl) ?_;simp -implicitDefEqProofs only[go_sem,seval,↓reduceIte])
  | refine AW.qq ?_
  | refine AW.block ?_
  | refine AW.qT rfl ?_
  | refine AW.qF rfl ?_
  | (refine AW.skip ?_;simp -implicitDefEqProofs only[go_sem,seval,↓reduceIte])
  | (refine AW.exit ?_;simp -implicitDefEqProofs only[go_sem,seval,↓reduceIte])
  | (refine AW.ret ?_;simp -implicitDefEqProofs only[go_sem,seval,↓reduceIte];refine endK_some ?_)
 refine CallA.pure hG (by kernel_rfl) ?_
 simp -implicitDefEqProofs only[go_sem,seval,↓reduceIte,recol_xns,recol_bis]
 refine (kinds_spec G hE c.ent c2.ent s h.hs h.hnm env h.hv h.hf 1 (by decide) _ (kindsIs_evL h.hnum)).mono ?_
 rintro _ _ rfl
 simp -implicitDefEqProofs only[go_sem,seval,↓reduceIte,encVE,encEV]
 intro g6
 repeat first
  | (refine AW.qr (by kernel_rfl) ?_;simp -implicitDefEqProofs only[go_sem,seval,↓reduceIte])
  | (refine AW.region (by kernel_rfl) ?_;simp -implicitDefEqProofs only[go_sem,seval,↓reduceIte])
  | refine AW.qq ?_
  | refine AW.block ?_
  | refine AW.qT rfl ?_
  | refine AW.qF rfl ?_
  | (refine AW.skip ?_;simp -implicitDefEqProofs only[go_sem,seval,↓reduceIte])
  | (refine AW.exit ?_;simp -implicitDefEqProofs only[go_sem,seval,↓reduceIte])
  | (refine AW.ret ?_;simp -implicitDefEqProofs only[go_sem,seval,↓reduceIte];refine endK_some ?_)
 rfl
theorem tru_spec (G:Nat→V) (hE:GExp G) (c c2:Col) (s:Sl XN) (env:Sl (List UInt8 × Int)) (h:EvIn s env):Spec Tryz.prog G 16 [.agg [encSl c 6 encXN s],encSl c2 2 encBi env] hNone (fun v _=>v=encTE ((evL env.l s.l).need 2)):=by
 have hG:=hE.ok
 refine Spec.of_code' 0 17 [.tmp 4,.tmp 5] Tryz.func16 rfl rfl rfl rfl fun X=>?_
 refine AW.seq_k fun K hK=>AW.region (by kernel_rfl) ?_
 simp -implicitDefEqProofs only[go_sem,seval,↓reduceIte]
 intro g2
 refine hK _ ?_
 clear hK K
 repeat first
  | (refine AW.qr (by kernel_rfl) ?_;simp -implicitDefEqProofs only[go_sem,seval,↓reduceIte])
  | (refine AW.region (by kernel_rfl) ?_;simp -implicitDefEqProofs only[go_sem,seval,↓reduceIte])
  | refine AW.qq ?_
  | refine AW.block ?_
  | refine AW.qT rfl ?_
  | refine AW.qF rfl ?_
  | (refine AW.skip ?_;simp -implicitDefEqProofs only[go_sem,seval,↓reduceIte])
  | (refine AW.exit ?_;simp -implicitDefEqProofs only[go_sem,seval,↓reduceIte])
  | (refine AW.ret ?_;simp -implicitDefEqProofs only[go_sem,seval,↓reduceIte];refine endK_some ?_)
 refine CallA.pure hG (by kernel_rfl) ?_
 simp -implicitDefEqProofs only[go_sem,seval,↓reduceIte,recol_xns,recol_bis]
 refine (kinds_spec G hE c.ent c2.ent s h.hs h.hnm env h.hv h.hf 2 (by decide) _ (kindsIs_evL h.hnum)).mono ?_
 rintro _ _ rfl
 simp -implicitDefEqProofs only[go_sem,seval,↓reduceIte,encVE,encEV]
 intro g6
 repeat first
  | (refine AW.qr (by kernel_rfl) ?_;simp -implicitDefEqProofs only[go_sem,seval,↓reduceIte])
  | (refine AW.region (by kernel_rfl) ?_;simp -implicitDefEqProofs only[go_sem,seval,↓reduceIte])
  | refine AW.qq ?_
  | refine AW.block ?_
  | refine AW.qT rfl ?_
  | refine AW.qF rfl ?_
  | (refine AW.skip ?_;simp -implicitDefEqProofs only[go_sem,seval,↓reduceIte])
  | (refine AW.exit ?_;simp -implicitDefEqProofs only[go_sem,seval,↓reduceIte])
  | (refine AW.ret ?_;simp -implicitDefEqProofs only[go_sem,seval,↓reduceIte];refine endK_some ?_)
 rfl
theorem eval10 (G:Nat→V) (hG:GOk G) (c c2:Col) (s:Sl XN) (env:Sl (List UInt8 × Int)) (h:EvIn s env):Spec Tryz.prog G 21 [encSl c 6 encXN s,encSl c2 2 encBi env] hNone (fun v _=>v=encVE (evL env.l s.l)):=by
 refine Spec.of_code' 0 22 [.cell 4 43,.tmp 5] Tryz.func21 rfl rfl rfl rfl fun X=>?_
 refine AW.seq_k fun K hK=>AW.region (by kernel_rfl) ?_
 simp -implicitDefEqProofs only[go_sem,seval,↓reduceIte]
 intro g4
 refine hK _ ?_
 clear hK K
 have hc0:(checkP s.l != 0)=false∨(checkP s.l != 0)=true:=by cases (checkP s.l != 0)<;>simp
 repeat first
  | (refine AW.qr (by kernel_rfl) ?_;simp -implicitDefEqProofs only[go_sem,seval,↓reduceIte])
  | (refine AW.region (by kernel_rfl) ?_;simp -implicitDefEqProofs only[go_sem,seval,↓reduceIte])
  | refine AW.qq ?_
  | refine AW.block ?_
  | refine AW.qT rfl ?_
  | refine AW.qF rfl ?_
  | (refine AW.skip ?_;simp -implicitDefEqProofs only[go_sem,seval,↓reduceIte])
  | (refine AW.exit ?_;simp -implicitDefEqProofs only[go_sem,seval,↓reduceIte])
  | (refine AW.ret ?_;simp -implicitDefEqProofs only[go_sem,seval,↓reduceIte];refine endK_some ?_)
 refine CallA.pure hG (by kernel_rfl) ?_
 simp -implicitDefEqProofs only[go_sem,seval,↓reduceIte,recol_xns]
 refine (rCheck_spec G hG c.ent s h.hs h.hnm).mono ?_
 rintro _ _ rfl
 simp -implicitDefEqProofs only[go_sem,seval,↓reduceIte]
 by_cases hc:checkP s.l=0
 rotate_left
 ·have hcb:(checkP s.l != 0)=true:=by simpa using hc
  rw [evL_err hc]
  repeat first
   | (refine AW.qr (by kernel_rfl) ?_;simp -implicitDefEqProofs only[go_sem,seval,↓reduceIte,hcb])
   | (refine AW.region (by kernel_rfl) ?_;simp -implicitDefEqProofs only[go_sem,seval,↓reduceIte,hcb])
   | refine AW.qq ?_
   | refine AW.block ?_
   | refine AW.qT rfl ?_
   | refine AW.qF rfl ?_
   | (refine AW.skip ?_;simp -implicitDefEqProofs only[go_sem,seval,↓reduceIte,hcb])
   | (refine AW.exit ?_;simp -implicitDefEqProofs only[go_sem,seval,↓reduceIte,hcb])
   | (refine AW.ret ?_;simp -implicitDefEqProofs only[go_sem,seval,↓reduceIte,hcb];refine endK_some ?_)
  rfl
 obtain ⟨x,hx,hl⟩:=check_tree hc
 have hsz:((0+x.size-1:Nat):Int)=(s.l.length:Int)-1:=by
  have:=x.size_pos
  rw [hl,Go.Hs.X.row_len]
  omega
 have hn:=numsOk_row (hl ▸ h.hnum)
 have hW:=worth10 G hG s h.hs env h.hv h.hf x 0 hx hn (hl ▸ At.whole x)
 have hF:=evX_fine2 h.hf x hx hn
 have hLx:evL env.l s.l=evX env.l x:=by rw [hl,evL_row hx (hl ▸ hc)]
 rw [hsz] at hW
 rw [hLx]
 have hw3:IntKind.i64.wrap ((s.l.length:Int)-1)=(s.l.length:Int)-1:=w64 (by have:=h.hs;omega) (by have:=h.hs;omega)
 rw [hc]
 repeat first
  | (refine AW.qr (by kernel_rfl) ?_;simp -implicitDefEqProofs only[go_sem,seval,↓reduceIte,hw3])
  | (refine AW.region (by kernel_rfl) ?_;simp -implicitDefEqProofs only[go_sem,seval,↓reduceIte,hw3])
  | refine AW.qq ?_
  | refine AW.block ?_
  | refine AW.qT rfl ?_
  | refine AW.qF rfl ?_
  | (refine AW.skip ?_;simp -implicitDefEqProofs only[go_sem,seval,↓reduceIte,hw3])
  | (refine AW.exit ?_;simp -implicitDefEqProofs only[go_sem,seval,↓reduceIte,hw3])
  | (refine AW.ret ?_;simp -implicitDefEqProofs only[go_sem,seval,↓reduceIte,hw3];refine endK_some ?_)
 refine CallA.pure hG (by kernel_rfl) ?_
 simp -implicitDefEqProofs only[go_sem,seval,↓reduceIte,recol_xns,recol_bis,encXN_K]
 refine (hW c.ent c2.ent).mono ?_
 rintro _ _ rfl
 simp -implicitDefEqProofs only[go_sem,seval,↓reduceIte,encVE,encEV]
 repeat first
  | (refine AW.qr (by kernel_rfl) ?_;simp -implicitDefEqProofs only[go_sem,seval,↓reduceIte])
  | (refine AW.region (by kernel_rfl) ?_;simp -implicitDefEqProofs only[go_sem,seval,↓reduceIte])
  | refine AW.qq ?_
  | refine AW.block ?_
  | refine AW.qT rfl ?_
  | refine AW.qF rfl ?_
  | (refine AW.skip ?_;simp -implicitDefEqProofs only[go_sem,seval,↓reduceIte])
  | (refine AW.exit ?_;simp -implicitDefEqProofs only[go_sem,seval,↓reduceIte])
  | (refine AW.ret ?_;simp -implicitDefEqProofs only[go_sem,seval,↓reduceIte];refine endK_some ?_)
 rfl
theorem num10 (G:Nat→V) (hG:GOk G) (c c2:Col) (s:Sl XN) (env:Sl (List UInt8 × Int)) (h:EvIn s env):Spec Tryz.prog G 23 [encSl c 6 encXN s,encSl c2 2 encBi env] hNone (fun v _=>v=encNE ((evL env.l s.l).need 1)):=by
 refine Spec.of_code' 0 21 [.tmp 4,.tmp 5] Tryz.func23 rfl rfl rfl rfl fun X=>?_
 refine AW.seq_k fun K hK=>AW.region (by kernel_rfl) ?_
 simp -implicitDefEqProofs only[go_sem,seval,↓reduceIte]
 refine hK _ ?_
 clear hK K
 have hc0:(checkP s.l != 0)=false∨(checkP s.l != 0)=true:=by cases (checkP s.l != 0)<;>simp
 repeat first
  | (refine AW.qr (by kernel_rfl) ?_;simp -implicitDefEqProofs only[go_sem,seval,↓reduceIte])
  | (refine AW.region (by kernel_rfl) ?_;simp -implicitDefEqProofs only[go_sem,seval,↓reduceIte])
  | refine AW.qq ?_
  | refine AW.block ?_
  | refine AW.qT rfl ?_
  | refine AW.qF rfl ?_
  | (refine AW.skip ?_;simp -implicitDefEqProofs only[go_sem,seval,↓reduceIte])
  | (refine AW.exit ?_;simp -implicitDefEqProofs only[go_sem,seval,↓reduceIte])
  | (refine AW.ret ?_;simp -implicitDefEqProofs only[go_sem,seval,↓reduceIte];refine endK_some ?_)
 refine CallA.pure hG (by kernel_rfl) ?_
 simp -implicitDefEqProofs only[go_sem,seval,↓reduceIte,recol_xns]
 refine (rCheck_spec G hG c.ent s h.hs h.hnm).mono ?_
 rintro _ _ rfl
 simp -implicitDefEqProofs only[go_sem,seval,↓reduceIte]
 by_cases hc:checkP s.l=0
 rotate_left
 ·have hcb:(checkP s.l != 0)=true:=by simpa using hc
  rw [evL_err hc]
  repeat first
   | (refine AW.qr (by kernel_rfl) ?_;simp -implicitDefEqProofs only[go_sem,seval,↓reduceIte,hcb])
   | (refine AW.region (by kernel_rfl) ?_;simp -implicitDefEqProofs only[go_sem,seval,↓reduceIte,hcb])
   | refine AW.qq ?_
   | refine AW.block ?_
   | refine AW.qT rfl ?_
   | refine AW.qF rfl ?_
   | (refine AW.skip ?_;simp -implicitDefEqProofs only[go_sem,seval,↓reduceIte,hcb])
   | (refine AW.exit ?_;simp -implicitDefEqProofs only[go_sem,seval,↓reduceIte,hcb])
   | (refine AW.ret ?_;simp -implicitDefEqProofs only[go_sem,seval,↓reduceIte,hcb];refine endK_some ?_)
  rfl
 obtain ⟨x,hx,hl⟩:=check_tree hc
 have hsz:((0+x.size-1:Nat):Int)=(s.l.length:Int)-1:=by
  have:=x.size_pos
  rw [hl,Go.Hs.X.row_len]
  omega
 have hn:=numsOk_row (hl ▸ h.hnum)
 have hW:=worth10 G hG s h.hs env h.hv h.hf x 0 hx hn (hl ▸ At.whole x)
 have hF:=evX_fine2 h.hf x hx hn
 have hLx:evL env.l s.l=evX env.l x:=by rw [hl,evL_row hx (hl ▸ hc)]
 rw [hsz] at hW
 rw [hLx]
 have hw3:IntKind.i64.wrap ((s.l.length:Int)-1)=(s.l.length:Int)-1:=w64 (by have:=h.hs;omega) (by have:=h.hs;omega)
 rw [hc]
 repeat first
  | (refine AW.qr (by kernel_rfl) ?_;simp -implicitDefEqProofs only[go_sem,seval,↓reduceIte,hw3])
  | (refine AW.region (by kernel_rfl) ?_;simp -implicitDefEqProofs only[go_sem,seval,↓reduceIte,hw3])
  | refine AW.qq ?_
  | refine AW.block ?_
  | refine AW.qT rfl ?_
  | refine AW.qF rfl ?_
  | (refine AW.skip ?_;simp -implicitDefEqProofs only[go_sem,seval,↓reduceIte,hw3])
  | (refine AW.exit ?_;simp -implicitDefEqProofs only[go_sem,seval,↓reduceIte,hw3])
  | (refine AW.ret ?_;simp -implicitDefEqProofs only[go_sem,seval,↓reduceIte,hw3];refine endK_some ?_)
 refine CallA.pure hG (by kernel_rfl) ?_
 simp -implicitDefEqProofs only[go_sem,seval,↓reduceIte,recol_xns,recol_bis,encXN_K]
 refine (number10 G hG c.ent c2.ent s env _ (evX env.l x) hW hF).mono ?_
 rintro _ _ rfl
 simp -implicitDefEqProofs only[go_sem,seval,↓reduceIte,encNE]
 repeat first
  | (refine AW.qr (by kernel_rfl) ?_;simp -implicitDefEqProofs only[go_sem,seval,↓reduceIte])
  | (refine AW.region (by kernel_rfl) ?_;simp -implicitDefEqProofs only[go_sem,seval,↓reduceIte])
  | refine AW.qq ?_
  | refine AW.block ?_
  | refine AW.qT rfl ?_
  | refine AW.qF rfl ?_
  | (refine AW.skip ?_;simp -implicitDefEqProofs only[go_sem,seval,↓reduceIte])
  | (refine AW.exit ?_;simp -implicitDefEqProofs only[go_sem,seval,↓reduceIte])
  | (refine AW.ret ?_;simp -implicitDefEqProofs only[go_sem,seval,↓reduceIte];refine endK_some ?_)
 rfl
theorem tru10 (G:Nat→V) (hG:GOk G) (c c2:Col) (s:Sl XN) (env:Sl (List UInt8 × Int)) (h:EvIn s env):Spec Tryz.prog G 24 [encSl c 6 encXN s,encSl c2 2 encBi env] hNone (fun v _=>v=encTE ((evL env.l s.l).need 2)):=by
 refine Spec.of_code' 0 21 [.tmp 4,.tmp 5] Tryz.func24 rfl rfl rfl rfl fun X=>?_
 refine AW.seq_k fun K hK=>AW.region (by kernel_rfl) ?_
 simp -implicitDefEqProofs only[go_sem,seval,↓reduceIte]
 refine hK _ ?_
 clear hK K
 have hc0:(checkP s.l != 0)=false∨(checkP s.l != 0)=true:=by cases (checkP s.l != 0)<;>simp
 repeat first
  | (refine AW.qr (by kernel_rfl) ?_;simp -implicitDefEqProofs only[go_sem,seval,↓reduceIte])
  | (refine AW.region (by kernel_rfl) ?_;simp -implicitDefEqProofs only[go_sem,seval,↓reduceIte])
  | refine AW.qq ?_
  | refine AW.block ?_
  | refine AW.qT rfl ?_
  | refine AW.qF rfl ?_
  | (refine AW.skip ?_;simp -implicitDefEqProofs only[go_sem,seval,↓reduceIte])
  | (refine AW.exit ?_;simp -implicitDefEqProofs only[go_sem,seval,↓reduceIte])
  | (refine AW.ret ?_;simp -implicitDefEqProofs only[go_sem,seval,↓reduceIte];refine endK_some ?_)
 refine CallA.pure hG (by kernel_rfl) ?_
 simp -implicitDefEqProofs only[go_sem,seval,↓reduceIte,recol_xns]
 refine (rCheck_spec G hG c.ent s h.hs h.hnm).mono ?_
 rintro _ _ rfl
 simp -implicitDefEqProofs only[go_sem,seval,↓reduceIte]
 by_cases hc:checkP s.l=0
 rotate_left
 ·have hcb:(checkP s.l != 0)=true:=by simpa using hc
  rw [evL_err hc]
  repeat first
   | (refine AW.qr (by kernel_rfl) ?_;simp -implicitDefEqProofs only[go_sem,seval,↓reduceIte,hcb])
   | (refine AW.region (by kernel_rfl) ?_;simp -implicitDefEqProofs only[go_sem,seval,↓reduceIte,hcb])
   | refine AW.qq ?_
   | refine AW.block ?_
   | refine AW.qT rfl ?_
   | refine AW.qF rfl ?_
   | (refine AW.skip ?_;simp -implicitDefEqProofs only[go_sem,seval,↓reduceIte,hcb])
   | (refine AW.exit ?_;simp -implicitDefEqProofs only[go_sem,seval,↓reduceIte,hcb])
   | (refine AW.ret ?_;simp -implicitDefEqProofs only[go_sem,seval,↓reduceIte,hcb];refine endK_some ?_)
  rfl
 obtain ⟨x,hx,hl⟩:=check_tree hc
 have hsz:((0+x.size-1:Nat):Int)=(s.l.length:Int)-1:=by
  have:=x.size_pos
  rw [hl,Go.Hs.X.row_len]
  omega
 have hn:=numsOk_row (hl ▸ h.hnum)
 have hW:=worth10 G hG s h.hs env h.hv h.hf x 0 hx hn (hl ▸ At.whole x)
 have hF:=evX_fine2 h.hf x hx hn
 have hLx:evL env.l s.l=evX env.l x:=by rw [hl,evL_row hx (hl ▸ hc)]
 rw [hsz] at hW
 rw [hLx]
 have hw3:IntKind.i64.wrap ((s.l.length:Int)-1)=(s.l.length:Int)-1:=w64 (by have:=h.hs;omega) (by have:=h.hs;omega)
 rw [hc]
 repeat first
  | (refine AW.qr (by kernel_rfl) ?_;simp -implicitDefEqProofs only[go_sem,seval,↓reduceIte,hw3])
  | (refine AW.region (by kernel_rfl) ?_;simp -implicitDefEqProofs only[go_sem,seval,↓reduceIte,hw3])
  | refine AW.qq ?_
  | refine AW.block ?_
  | refine AW.qT rfl ?_
  | refine AW.qF rfl ?_
  | (refine AW.skip ?_;simp -implicitDefEqProofs only[go_sem,seval,↓reduceIte,hw3])
  | (refine AW.exit ?_;simp -implicitDefEqProofs only[go_sem,seval,↓reduceIte,hw3])
  | (refine AW.ret ?_;simp -implicitDefEqProofs only[go_sem,seval,↓reduceIte,hw3];refine endK_some ?_)
 refine CallA.pure hG (by kernel_rfl) ?_
 simp -implicitDefEqProofs only[go_sem,seval,↓reduceIte,recol_xns,recol_bis,encXN_K]
 refine (truth10 G hG c.ent c2.ent s env _ (evX env.l x) hW hF).mono ?_
 rintro _ _ rfl
 simp -implicitDefEqProofs only[go_sem,seval,↓reduceIte,encTE]
 repeat first
  | (refine AW.qr (by kernel_rfl) ?_;simp -implicitDefEqProofs only[go_sem,seval,↓reduceIte])
  | (refine AW.region (by kernel_rfl) ?_;simp -implicitDefEqProofs only[go_sem,seval,↓reduceIte])
  | refine AW.qq ?_
  | refine AW.block ?_
  | refine AW.qT rfl ?_
  | refine AW.qF rfl ?_
  | (refine AW.skip ?_;simp -implicitDefEqProofs only[go_sem,seval,↓reduceIte])
  | (refine AW.exit ?_;simp -implicitDefEqProofs only[go_sem,seval,↓reduceIte])
  | (refine AW.ret ?_;simp -implicitDefEqProofs only[go_sem,seval,↓reduceIte];refine endK_some ?_)
 rfl
end Go.Hs
end

section
namespace Go.Hs
def NmQ (Q:List UInt8→Prop) (r:RS):Prop:=∀ n∈r.nodes,Q n.name
def NmI (Q:List UInt8→Prop) (inner:Inner):Prop:=∀ n r,NmQ Q r→NmQ Q (inner n r).2
theorem NmQ.put {Q:List UInt8→Prop} {r:RS} {n:XN} (h:NmQ Q r) (hn:Q n.name):NmQ Q (r.put n):=by
 intro m hm
 rcases List.mem_append.1 hm with h1 | h1
 ·exact h m h1
 ·rw [List.mem_singleton.1 h1];exact hn
theorem andThen_nm {Q:List UInt8→Prop} {x:Bool × RS} {k:RS→Bool × RS} (h:NmQ Q x.2) (hk:∀ r,NmQ Q r→NmQ Q (k r).2):NmQ Q (andThen x k).2:=by
 obtain ⟨b,r⟩:=x
 cases b
 ·exact h
 ·exact hk r h
theorem eatP_nm {Q:List UInt8→Prop} (l:List Tk) (w:List UInt8) {r:RS} (h:NmQ Q r):NmQ Q (eatP l w r).2:=by
 unfold eatP;split<;>exact h
theorem numberP_nm {Q:List UInt8→Prop} (h0:Q []) (t:List UInt8) {r:RS} (h:NmQ Q r):NmQ Q (numberP r t).2:=by
 unfold numberP;split
 ·exact h
 ·exact NmQ.put (n:=⟨1,_,[],-1,-1,-1⟩) h h0
theorem branchesP_nm {Q:List UInt8→Prop} {l:List Tk} {inner:Inner} (h0:Q []) (hi:NmI Q inner) {r:RS} (h:NmQ Q r):NmQ Q (branchesP l inner r).2:=by
 unfold branchesP
 refine andThen_nm (eatP_nm _ _ h) fun r1 h1=>andThen_nm (hi _ _ h1) fun a h2=>andThen_nm (eatP_nm _ _ h2) fun r2 h3=>andThen_nm (hi _ _ h3) fun b h4=>andThen_nm (eatP_nm _ _ h4) fun r3 h5=>andThen_nm (hi _ _ h5) fun c h6=>andThen_nm (eatP_nm _ _ h6) fun r4 h7=>?_
 exact NmQ.put h7 h0
theorem aheadP_nm {Q:List UInt8→Prop} {l:List Tk} {inner:Inner} (h0:Q []) (hq:∀ i,(nextP l i).kind=2→Q (nextP l i).text) (hi:NmI Q inner) {r:RS} (h:NmQ Q r):NmQ Q (aheadP l inner r).2:=by
 unfold aheadP
 split
 ·exact numberP_nm h0 _ h
 split
 ·rename_i hk;exact NmQ.put (n:=⟨2,0,(nextP l r.i).text,-1,-1,-1⟩) h (hq _ hk)
 split
 ·exact h
 split
 ·exact andThen_nm (hi _ _ h) fun a ha=>NmQ.put ha h0
 split
 ·exact andThen_nm (hi _ _ h) fun a ha=>eatP_nm _ _ ha
 split
 ·exact branchesP_nm h0 hi h
 split
 ·exact NmQ.put (n:=⟨_,0,[],-1,-1,-1⟩) h h0
 ·exact h
theorem loopP_nm {Q:List UInt8→Prop} {l:List Tk} {inner:Inner} (h0:Q []) (hi:NmI Q inner) (n:Int):∀ (m:Nat) (r:RS),NmQ Q r→NmQ Q (loopP l inner n m r).2
 | 0,r,h=>h
 | m+1,r,h=>by
  rw [loopP]
  split
  ·exact h
  ·split
   ·exact h
   ·exact andThen_nm (hi _ r.adv h) fun a ha=>loopP_nm h0 hi n m (a.put _) (NmQ.put ha h0)
theorem climbP_nm {Q:List UInt8→Prop} (l:List Tk) (h0:Q []) (hq:∀ i,(nextP l i).kind=2→Q (nextP l i).text):∀ f,NmI Q (climbP l f)
 | 0=>fun _ _ h=>h
 | f+1=>fun n r h=>by
  rw [climbP]
  exact andThen_nm (aheadP_nm h0 hq (climbP_nm l h0 hq f) h) fun a ha=>loopP_nm h0 (climbP_nm l h0 hq f) n _ a ha
end Go.Hs
end

section
namespace Go.Hs
open Go.Proofs
set_option maxRecDepth 10000
theorem RdS.callN {NO:Nat} {tl:List V} {G:Nat→V} (hG:GOk G) {f:FuncId} {args args':List V} {sl:Sl Tk} {g:Nat} {r r':RS} {v:V} (h:RdS NO tl G f args' sl g r v r') {H:Heap} {K:V→Heap→Prop}
  (hen:enterable Tryz.prog f=true) (htl:∀ F:Col→Col,tl.map (V.recol F)=tl) (hargs:args.map (V.recol Col.ent)=args') (hv:v.recol Col.bk=v) (hr:r.nodes=[])
  (cs:List V) (h8:H 8 = .cells .new g 0 cs) (hcs:V.recolL Col.ent cs=(encSl .any 3 encTk sl :: .int .i64 r.i :: .nils :: .int .i64 r.e::tl)) (hN:H NO = .dead)
  (hk:∀ gx',K v (sets H [(8,.cells .new g 0 (encSl .any 3 encTk sl :: .int .i64 r'.i::grown NO gx' 6 r'.nodes :: .int .i64 r'.e::tl)),(NO,grownO gx' encXN r'.nodes)])) :
  CallA Tryz.prog G f (.ptr 8 g 0::args) H K:=by
 refine CallA.handN hG [(8,rdO NO tl sl g 0 r),(NO,ndO 0 r.nodes)] hen ?_ ?_ ?_
 ·intro p hp
  simp only [List.mem_cons,List.not_mem_nil,or_false] at hp
  rcases hp with rfl | rfl
  ·simp only [h8,AObj.toAny,hcs,rdO_K,hr];rfl
  ·simp only [hN,AObj.toAny,hr];rfl
 ·intro p hp c g' fz cs' ho
  simp only [List.mem_cons,List.not_mem_nil,or_false] at hp
  rcases hp with rfl | rfl
  ·simp only [h8,AObj.cells.injEq] at ho;exact ho.1.symm
  ·simp only [hN] at ho;cases ho
 ·have ha:(V.ptr 8 g 0::args).map (V.recol Col.ent) = .ptr 8 g 0::args':=by rw [List.map_cons,recol_ptr,hargs]
  rw [ha]
  refine (h 0).mono ?_
  rintro _ H' ⟨rfl,gx',q8,qN⟩
  have b8:(rdO NO tl sl g gx' r').backNew = .cells .new g 0 (encSl .any 3 encTk sl :: .int .i64 r'.i::grown NO gx' 6 r'.nodes :: .int .i64 r'.e::tl):=by
   simp only [rdO_K,AObj.backNew,V.recolL_eq,List.map_cons,recol_tks,recol_int,recol_grown,htl]
   rfl
  have bN:(ndO gx' r'.nodes).backNew=grownO gx' encXN r'.nodes:=by
   unfold ndO
   cases hn:r'.nodes with
   | nil=>rfl
   | cons x t =>
    rw [grownC_ne _ _ _ (by simp),grownO_ne _ _ (by simp)]
    simp only [AObj.backNew,V.recolL_eq]
    rw [← flat_recol,List.map_map]
    have he:(x::t).map (V.recol Col.bk ∘ encXN)=(x::t).map encXN:=List.map_congr_left fun y _=>recol_xn _ y
    first | done | rw [he]
  simp only [List.map_cons,List.map_nil,q8,qN,b8,bN,hv]
  exact hk gx'
def encXs (c:Col) (l:List XN):V:=encSl c 6 encXN (grownS l)
def encFr (c:Col) (p:List XN × Int × Int):V := .tuple [.agg [encXs c p.1],.int .i64 p.2.1,.int .i64 p.2.2]
theorem climb_names {l:List Tk} (hT:TkOk l):∀ n∈(climbP l (l.length+1) 1 ⟨0,[],0⟩).2.nodes,n.name.length<100000 :=
 climbP_nm (Q:=fun s=>s.length<100000) l (Nat.zero_lt_succ _) (fun i _=>nextP_len hT i) _ _ _ (fun n hn=>by cases hn)
theorem xFrom_spec (G:Nat→V) (hE:GExp G) (c:Col) (sl:Sl Tk) (hT:TkOk sl.l):Spec Tryz.prog G 50 [encSl c 3 encTk sl] hNone (fun v _=>v=encFr .new (fromP sl.l)):=by
 have hG:=hE.ok
 have hTl:=hT.len
 refine Spec.of_code' 0 44 [.cell 2 24,.tmp 3,.tmp 4] Tryz.func50 rfl rfl rfl rfl fun X=>?_
 have hP:fromP sl.l=if (climbP sl.l (sl.l.length+1) 1 ⟨0,[],0⟩).1=false then (([]:List XN),((climbP sl.l (sl.l.length+1) 1 ⟨0,[],0⟩).2.i:Int),(climbP sl.l (sl.l.length+1) 1 ⟨0,[],0⟩).2.e)
  else if depthP (climbP sl.l (sl.l.length+1) 1 ⟨0,[],0⟩).2.nodes > 64 then ([],0,3) else ((climbP sl.l (sl.l.length+1) 1 ⟨0,[],0⟩).2.nodes,((climbP sl.l (sl.l.length+1) 1 ⟨0,[],0⟩).2.i:Int),(0:Int)):=rfl
 have hr0:RSok sl.l ⟨0,[],0⟩:=⟨Nat.zero_le _,Nat.le_refl _⟩
 have hcl:=fun g=>xClimb_spec G hE sl hT g (sl.l.length+1) 1 ⟨0,[],0⟩ (by decide) (by decide) (Nat.lt_succ_self _) hr0
 have hnm2:=climb_names hT
 have hok:=(climbP_bal sl.l (sl.l.length+1) 1 ⟨0,[],0⟩)
 generalize fromP sl.l=res at hP ⊢
 generalize climbP sl.l (sl.l.length+1) 1 ⟨0,[],0⟩=y at hP hcl hok hnm2
 obtain ⟨b,r⟩:=y
 simp only at hP hcl hok hnm2
 refine AW.seq_k fun K hK=>AW.region (by kernel_rfl) ?_
 simp -implicitDefEqProofs only[go_sem,seval,↓reduceIte]
 intro g2
 refine hK _ ?_
 clear hK K
 refine AW.seq_k fun K hK=>AW.region (by kernel_rfl) ?_
 simp -implicitDefEqProofs only[go_sem,seval,↓reduceIte]
 intro g8
 refine hK _ ?_
 clear hK K
 refine AW.seq_k fun K1 hK1=>?_
 refine AW.block ?_
 refine AW.weak (Weak.stF (fun _=>false) (l:=[(5,.ptr 8 g8 0),(2,.ptr 2 g2 0)]) (m:=[(2,.cells .new g2 0 [.nils]),(8,.cells .new g8 0 [encSl .any 3 encTk sl,.int .i64 0,.nils,.int .i64 0,.func (.func 78) [] []])]) ?_ ?_) ?_
 ·simp -implicitDefEqProofs only[go_sem,seval,↓reduceIte]
  exact ⟨Fz.same _,Fz.same _⟩
 ·simp only [allFzO_cons,allFzO_nil,and_true]
  exact ⟨FzO.keep rfl (by simp -implicitDefEqProofs only[go_sem,seval,↓reduceIte]),FzO.of (c := .new) (fz:=0) (cs:=[encSl c 3 encTk sl,.int .i64 0,.nils,.int .i64 0,.func (.func 78) [] []]) rfl (by simp -implicitDefEqProofs only[go_sem,seval,↓reduceIte];try rfl) ⟨Fz.any (recol_tks _ _ _),Fz.same _,Fz.same _,Fz.same _,Fz.same _,trivial⟩⟩
 refine AW.seq_k fun K hK=>AW.region (by kernel_rfl) ?_
 simp -implicitDefEqProofs only[go_sem,seval,↓reduceIte]
 refine RdS.callN hG (hcl g8) (by kernel_rfl) (fun F=>rfl) rfl rfl rfl _ (by simp -implicitDefEqProofs only[go_sem,seval,↓reduceIte];rfl) (by simp only [V.recolL_eq,List.map_cons,List.map_nil,recol_tks];rfl) (by simp -implicitDefEqProofs only[go_sem,seval,↓reduceIte]) fun gx=>?_
 simp -implicitDefEqProofs only[go_sem,seval,↓reduceIte,sets]
 refine hK _ ?_
 clear hK K
 cases b with
 | false =>
  refine AW.condS (by simp -implicitDefEqProofs only[go_sem,seval,↓reduceIte];rfl) (fun h9=>?_) (fun h9=>?_)
  rotate_left
  ·cases h9
  refine AW.weak (Weak.stF (fun o=>o==8) (l:=[(5,.view .new (.agg [encSl .any 3 encTk sl,.int .i64 r.i,grown 1031 gx 6 r.nodes,.int .i64 r.e,.func (.func 78) [] []])),(2,.ptr 2 g2 0)]) (m:=[(2,.cells .new g2 0 [.nils])]) ?_ ?_) ?_
  ·simp -implicitDefEqProofs only[go_sem,seval,↓reduceIte]
   exact ⟨Fz.ptr (v := .agg [encSl .any 3 encTk sl,.int .i64 r.i,grown 1031 gx 6 r.nodes,.int .i64 r.e,.func (.func 78) [] []]) (c := .new) (fz:=0) rfl (by simp -implicitDefEqProofs only[go_sem,seval,↓reduceIte];try rfl),Fz.same _⟩
  ·simp only [allFzO_cons,allFzO_nil,and_true]
   exact FzO.keep rfl (by simp -implicitDefEqProofs only[go_sem,seval,↓reduceIte])
  refine AW.seq_k fun K2 hK2=>?_
  refine AW.regionT ⟨fun _ => .top,fun i=>if i=4 then .lend else if i=8 then .lend else .pure⟩ (by kernel_rfl) hG (by kernel_rfl) (by kernel_rfl) ?_
  simp -implicitDefEqProofs only[go_sem,seval,↓reduceIte]
  refine hK2 _ ?_
  refine AW.ret ?_
  simp -implicitDefEqProofs only[go_sem,seval,↓reduceIte]
  refine endK_some ?_
  rw [hP];rfl
 | true =>
 refine AW.condS (by simp -implicitDefEqProofs only[go_sem,seval,↓reduceIte];rfl) (fun h9=>?_) (fun h9=>?_)
 ·cases h9
 refine AW.weak (Weak.stF (fun o=>o==1031) (l:=[(5,.ptr 8 g8 0),(2,.ptr 2 g2 0)]) (m:=[(2,.cells .new g2 0 [.nils]),(8,.cells .new g8 0 [encSl .any 3 encTk sl,.int .i64 r.i,encXs .new r.nodes,.int .i64 r.e,.func (.func 78) [] []])]) ?_ ?_) ?_
 ·simp -implicitDefEqProofs only[go_sem,seval,↓reduceIte]
  exact ⟨Fz.same _,Fz.same _⟩
 ·simp only [allFzO_cons,allFzO_nil,and_true]
  exact ⟨FzO.keep rfl (by simp -implicitDefEqProofs only[go_sem,seval,↓reduceIte]),FzO.of (c := .new) (fz:=0) (cs:=[encSl .any 3 encTk sl,.int .i64 r.i,grown 1031 gx 6 r.nodes,.int .i64 r.e,.func (.func 78) [] []]) rfl (by simp -implicitDefEqProofs only[go_sem,seval,↓reduceIte];try rfl) ⟨Fz.same _,Fz.same _,Fz.grown rfl (by simp -implicitDefEqProofs only[go_sem,seval,↓reduceIte];try rfl) encXN_cells,Fz.same _,Fz.same _,trivial⟩⟩
 have hrl:r.nodes.length<1000000:=by have:=(hok.ok hr0);have h1:=this.1;have h2:=this.2;omega
 rw [if_neg (by simp)] at hP
 refine AW.seq_k fun K hK=>AW.region (by kernel_rfl) ?_
 simp -implicitDefEqProofs only[go_sem,seval,↓reduceIte,encXs]
 refine CallA.pure hG (by kernel_rfl) ?_
 simp -implicitDefEqProofs only[go_sem,seval,↓reduceIte,recol_xns]
 refine (xDepth_spec G hE Col.new.ent (grownS r.nodes) (by rw [grownS_l];exact hrl) (by rw [grownS_l];exact hnm2)).mono ?_
 rintro _ _ rfl
 simp -implicitDefEqProofs only[go_sem,seval,↓reduceIte]
 refine hK _ ?_
 clear hK K
 refine AW.condS (by simp -implicitDefEqProofs only[go_sem,seval,↓reduceIte];rfl) (fun h26=>?_) (fun h26=>?_)
 ·have h26:depthP r.nodes > 64:=by simpa using h26
  rw [if_pos h26] at hP
  refine AW.seq_k fun K hK=>AW.region (by kernel_rfl) ?_
  simp -implicitDefEqProofs only[go_sem,seval,↓reduceIte]
  refine hK _ ?_
  clear hK K
  refine AW.ret ?_
  simp -implicitDefEqProofs only[go_sem,seval,↓reduceIte]
  refine endK_some ?_
  rw [hP];rfl
 have h26:¬ depthP r.nodes > 64:=by simpa using h26
 rw [if_neg h26] at hP
 refine AW.skip ?_
 simp -implicitDefEqProofs only[go_sem,seval,↓reduceIte]
 refine hK1 _ ?_
 refine AW.weak (Weak.stF (fun o=>o==8) (l:=[(5,.view .new (.agg [encSl .any 3 encTk sl,.int .i64 r.i,encXs .new r.nodes,.int .i64 r.e,.func (.func 78) [] []])),(2,.ptr 2 g2 0)]) (m:=[(2,.cells .new g2 0 [.nils])]) ?_ ?_) ?_
 ·simp -implicitDefEqProofs only[go_sem,seval,↓reduceIte]
  exact ⟨Fz.ptr (v := .agg [encSl .any 3 encTk sl,.int .i64 r.i,encXs .new r.nodes,.int .i64 r.e,.func (.func 78) [] []]) (c := .new) (fz:=0) rfl (by simp -implicitDefEqProofs only[go_sem,seval,↓reduceIte];try rfl),Fz.same _⟩
 ·simp only [allFzO_cons,allFzO_nil,and_true]
  exact FzO.keep rfl (by simp -implicitDefEqProofs only[go_sem,seval,↓reduceIte])
 refine AW.seq_k fun K2 hK2=>?_
 refine AW.regionT ⟨fun _ => .top,fun i=>if i=3 then .lend else if i=8 then .lend else .pure⟩ (by kernel_rfl) hG (by kernel_rfl) (by kernel_rfl) ?_
 simp -implicitDefEqProofs only[go_sem,seval,↓reduceIte,encXs]
 refine hK2 _ ?_
 refine AW.ret ?_
 simp -implicitDefEqProofs only[go_sem,seval,↓reduceIte]
 refine endK_some ?_
 rw [hP];rfl
end Go.Hs
end

section
namespace Go.Hs
open Go.Proofs
set_option maxRecDepth 10000
theorem toksF_text:∀ (f:Nat) (s:List UInt8) (i:Nat) (acc:List Tk),(∀ t∈acc,t.text.length≤s.length)→∀ t∈(toksF f s i acc).1,t.text.length≤s.length
 | 0,s,i,acc,h=>by rw [toksF];exact h
 | f+1,s,i,acc,h=>by
  rw [toksF]
  split
  ·split
   ·intro t ht;cases ht
   ·refine toksF_text f s _ _ ?_
    intro t ht
    rcases List.mem_append.1 ht with h1 | h1
    ·exact h t h1
    ·rw [List.mem_singleton.1 h1]
     show ((s.drop i).take _).length≤s.length
     rw [List.length_take,List.length_drop];omega
  ·exact h
theorem toks_ok {s:List UInt8} (hs:s.length<100000):TkOk (toksP s).1:=by
 unfold toksP
 split
 ·exact ⟨Nat.zero_lt_succ _,fun t ht=>by cases ht⟩
 refine ⟨?_,?_⟩
 ·have:=toksF_len (s.length+1) s (blk s) []
  have h0:([]:List Tk).length=0:=rfl
  omega
 ·intro t ht
  have:=toksF_text (s.length+1) s (blk s) [] (fun t ht=>by cases ht) t ht
  omega
theorem xParse_spec (G:Nat→V) (hE:GExp G) (s:List UInt8) (hs:s.length<100000):Spec Tryz.prog G 25 [.str s] hNone (fun v _=>v=encFr .new (exprP s)):=by
 have hG:=hE.ok
 refine Spec.of_code' 0 60 [.cell 2 24,.tmp 3,.tmp 4] Tryz.func25 rfl rfl rfl rfl fun X=>?_
 have hP:exprP s=if (toksP s).2.2≠0 then (([]:List XN),(toksP s).2.1,(toksP s).2.2)
  else if (fromP (toksP s).1).2.2=3 then ([],0,3)
  else if (fromP (toksP s).1).2.2=0∧(fromP (toksP s).1).2.1=((toksP s).1.length:Nat) then ((fromP (toksP s).1).1,0,0)
  else ([],if (fromP (toksP s).1).2.1=((toksP s).1.length:Nat) then (s.length:Int) else ((toksP s).1.getD (fromP (toksP s).1).2.1.toNat ⟨0,[],0⟩).pos,if (fromP (toksP s).1).2.2=0 then 80 else (fromP (toksP s).1).2.2):=rfl
 generalize exprP s=res at hP ⊢
 have hT:=toks_ok hs
 have hl:=lTokens_spec G hE s hs
 have hfr:=fun c=>xFrom_spec G hE c (grownS (toksP s).1) (by rw [grownS_l];exact hT)
 simp only [grownS_l] at hfr
 have hb:=fromP_bnd (l:=(toksP s).1)
 generalize toksP s=t at hP hT hl hfr hb
 generalize fromP t.1=p at hP hfr hb
 obtain ⟨l,at0,e0⟩:=t
 obtain ⟨ns,i,e⟩:=p
 simp only at hP hT hfr hb
 refine AW.seq_k fun K hK=>AW.region (by kernel_rfl) ?_
 simp -implicitDefEqProofs only[go_sem,seval,↓reduceIte]
 intro g2
 refine hK _ ?_
 clear hK K
 refine AW.seq_k fun K hK=>AW.region (by kernel_rfl) ?_
 simp -implicitDefEqProofs only[go_sem,seval,↓reduceIte]
 refine CallA.pure hG (by kernel_rfl) ?_
 simp -implicitDefEqProofs only[go_sem,seval,↓reduceIte]
 refine hl.mono ?_
 rintro _ _ rfl
 simp -implicitDefEqProofs only[go_sem,seval,↓reduceIte,encTok,encTks,recol_tks]
 refine hK _ ?_
 clear hK K
 refine AW.seq_k fun K1 hK1=>?_
 refine AW.seq_k fun K hK=>AW.region (by kernel_rfl) ?_
 simp -implicitDefEqProofs only[go_sem,seval,↓reduceIte]
 refine hK _ ?_
 clear hK K
 by_cases he0:e0=0
 rotate_left
 ·have q1:(e0 != 0)=true:=by simpa using he0
  rw [if_pos he0] at hP
  refine AW.condS (by simp -implicitDefEqProofs only[go_sem,seval,↓reduceIte];rfl) (fun h17=>?_) (fun h17=>?_)
  ·refine AW.seq_k fun K hK=>AW.region (by kernel_rfl) ?_
   simp -implicitDefEqProofs only[go_sem,seval,↓reduceIte]
   refine hK _ ?_
   clear hK K
   refine AW.ret ?_
   simp -implicitDefEqProofs only[go_sem,seval,↓reduceIte]
   refine endK_some ?_
   rw [hP];rfl
  ·rw [q1] at h17;cases h17
 have q1:(e0 != 0)=false:=by simpa using he0
 rw [if_neg (by simpa using he0)] at hP
 refine AW.condS (by simp -implicitDefEqProofs only[go_sem,seval,↓reduceIte];rfl) (fun h17=>?_) (fun h17=>?_)
 ·rw [q1] at h17;cases h17
 refine AW.skip ?_
 simp -implicitDefEqProofs only[go_sem,seval,↓reduceIte]
 refine hK1 _ ?_
 refine AW.seq_k fun K hK=>AW.region (by kernel_rfl) ?_
 simp -implicitDefEqProofs only[go_sem,seval,↓reduceIte]
 refine CallA.pure hG (by kernel_rfl) ?_
 simp -implicitDefEqProofs only[go_sem,seval,↓reduceIte,recol_tks]
 refine (hfr _).mono ?_
 rintro _ _ rfl
 simp -implicitDefEqProofs only[go_sem,seval,↓reduceIte,encFr,encXs,recol_xns]
 intro g8
 refine hK _ ?_
 clear hK K
 refine AW.seq_k fun K2 hK2=>?_
 refine AW.block ?_
 refine AW.seq_k fun K hK=>AW.region (by kernel_rfl) ?_
 simp -implicitDefEqProofs only[go_sem,seval,↓reduceIte]
 refine hK _ ?_
 clear hK K
 by_cases he3:e=3
 ·have q3:(e==3)=true:=by simpa using he3
  rw [if_pos he3] at hP
  refine AW.condS (by simp -implicitDefEqProofs only[go_sem,seval,↓reduceIte];rfl) (fun h27=>?_) (fun h27=>?_)
  ·refine AW.seq_k fun K hK=>AW.region (by kernel_rfl) ?_
   simp -implicitDefEqProofs only[go_sem,seval,↓reduceIte]
   refine hK _ ?_
   clear hK K
   refine AW.ret ?_
   simp -implicitDefEqProofs only[go_sem,seval,↓reduceIte]
   refine endK_some ?_
   rw [hP,he3];rfl
  ·rw [q3] at h27;cases h27
 have q3:(e==3)=false:=by simpa using he3
 rw [if_neg he3] at hP
 refine AW.condS (by simp -implicitDefEqProofs only[go_sem,seval,↓reduceIte];rfl) (fun h27=>?_) (fun h27=>?_)
 ·rw [q3] at h27;cases h27
 by_cases he:e=0
 ·have q4:(e==0)=true:=by simpa using he
  by_cases hi:i=(l.length:Nat)
  ·have q5:(i==((l.length:Nat):Int))=true:=by simpa using hi
   rw [if_pos ⟨he,hi⟩] at hP
   refine AW.seq_k fun K hK=>AW.region (by kernel_rfl) ?_
   simp -implicitDefEqProofs only[go_sem,seval,↓reduceIte,q4,q5]
   refine hK _ ?_
   clear hK K
   refine AW.condS (by simp -implicitDefEqProofs only[go_sem,seval,↓reduceIte];rfl) (fun h32=>?_) (fun h32=>?_)
   ·refine AW.seq_k fun K hK=>AW.region (by kernel_rfl) ?_
    simp -implicitDefEqProofs only[go_sem,seval,↓reduceIte]
    refine hK _ ?_
    clear hK K
    refine AW.ret ?_
    simp -implicitDefEqProofs only[go_sem,seval,↓reduceIte]
    refine endK_some ?_
    rw [hP];rfl
   ·cases h32
  have q5:(i==((l.length:Nat):Int))=false:=by simpa using hi
  rw [if_neg (fun h=>hi h.2),if_neg hi,if_pos he] at hP
  obtain ⟨m,rfl⟩:∃ m:Nat,i=m:=⟨i.toNat,by omega⟩
  have hml:m<l.length:=by omega
  obtain ⟨tk,htk⟩:∃ tk,l[m]? = some tk:=⟨_,List.getElem?_eq_getElem hml⟩
  have hgd:(l.getD ((m:Nat):Int).toNat ⟨0,[],0⟩)=tk:=by rw [Int.toNat_natCast,List.getD_eq_getElem?_getD,htk];rfl
  rw [hgd] at hP
  refine AW.seq_k fun K hK=>AW.region (by kernel_rfl) ?_
  simp -implicitDefEqProofs only[go_sem,seval,↓reduceIte,q4,q5]
  refine hK _ ?_
  clear hK K
  refine AW.condS (by simp -implicitDefEqProofs only[go_sem,seval,↓reduceIte];rfl) (fun h32=>?_) (fun h32=>?_)
  ·cases h32
  refine AW.seq_k fun K hK=>AW.region (by kernel_rfl) ?_
  simp -implicitDefEqProofs only[go_sem,seval,↓reduceIte,q4]
  refine hK _ ?_
  clear hK K
  refine AW.condS (by simp -implicitDefEqProofs only[go_sem,seval,↓reduceIte];rfl) (fun h42=>?_) (fun h42=>?_)
  rotate_left
  ·cases h42
  refine AW.region (by kernel_rfl) ?_
  simp -implicitDefEqProofs only[go_sem,seval,↓reduceIte]
  refine hK2 _ ?_
  refine AW.seq_k fun K3 hK3=>?_
  refine AW.seq_k fun K hK=>AW.region (by kernel_rfl) ?_
  simp -implicitDefEqProofs only[go_sem,seval,↓reduceIte,q5]
  refine hK _ ?_
  clear hK K
  refine AW.condS (by simp -implicitDefEqProofs only[go_sem,seval,↓reduceIte];rfl) (fun h48=>?_) (fun h48=>?_)
  ·cases h48
  refine AW.skip ?_
  simp -implicitDefEqProofs only[go_sem,seval,↓reduceIte]
  refine hK3 _ ?_
  refine AW.seq_k fun K4 hK4=>?_
  refine AW.regionT ⟨fun _ => .top,fun i=>if i=5 then .lend else .pure⟩ (by kernel_rfl) hG (by kernel_rfl) (by kernel_rfl) ?_
  simp -implicitDefEqProofs only[go_sem,seval,↓reduceIte,htk,encTk_K]
  refine hK4 _ ?_
  refine AW.ret ?_
  simp -implicitDefEqProofs only[go_sem,seval,↓reduceIte]
  refine endK_some ?_
  rw [hP];rfl
 have q4:(e==0)=false:=by simpa using he
 rw [if_neg (fun h=>he h.1),if_neg he] at hP
 refine AW.seq_k fun K hK=>AW.region (by kernel_rfl) ?_
 simp -implicitDefEqProofs only[go_sem,seval,↓reduceIte,q4]
 refine hK _ ?_
 clear hK K
 refine AW.condS (by simp -implicitDefEqProofs only[go_sem,seval,↓reduceIte];rfl) (fun h32=>?_) (fun h32=>?_)
 ·cases h32
 refine AW.seq_k fun K hK=>AW.region (by kernel_rfl) ?_
 simp -implicitDefEqProofs only[go_sem,seval,↓reduceIte,q4]
 refine hK _ ?_
 clear hK K
 refine AW.condS (by simp -implicitDefEqProofs only[go_sem,seval,↓reduceIte];rfl) (fun h42=>?_) (fun h42=>?_)
 ·cases h42
 refine AW.skip ?_
 simp -implicitDefEqProofs only[go_sem,seval,↓reduceIte]
 refine hK2 _ ?_
 refine AW.seq_k fun K3 hK3=>?_
 by_cases hi:i=(l.length:Nat)
 ·have q5:(i==((l.length:Nat):Int))=true:=by simpa using hi
  rw [if_pos hi] at hP
  refine AW.seq_k fun K hK=>AW.region (by kernel_rfl) ?_
  simp -implicitDefEqProofs only[go_sem,seval,↓reduceIte,q5]
  refine hK _ ?_
  clear hK K
  refine AW.condS (by simp -implicitDefEqProofs only[go_sem,seval,↓reduceIte];rfl) (fun h48=>?_) (fun h48=>?_)
  ·refine AW.seq_k fun K hK=>AW.region (by kernel_rfl) ?_
   simp -implicitDefEqProofs only[go_sem,seval,↓reduceIte]
   refine hK _ ?_
   clear hK K
   refine AW.ret ?_
   simp -implicitDefEqProofs only[go_sem,seval,↓reduceIte]
   refine endK_some ?_
   rw [hP];rfl
  ·cases h48
 have q5:(i==((l.length:Nat):Int))=false:=by simpa using hi
 rw [if_neg hi] at hP
 obtain ⟨m,rfl⟩:∃ m:Nat,i=m:=⟨i.toNat,by omega⟩
 have hml:m<l.length:=by omega
 obtain ⟨tk,htk⟩:∃ tk,l[m]? = some tk:=⟨_,List.getElem?_eq_getElem hml⟩
 have hgd:(l.getD ((m:Nat):Int).toNat ⟨0,[],0⟩)=tk:=by rw [Int.toNat_natCast,List.getD_eq_getElem?_getD,htk];rfl
 rw [hgd] at hP
 refine AW.seq_k fun K hK=>AW.region (by kernel_rfl) ?_
 simp -implicitDefEqProofs only[go_sem,seval,↓reduceIte,q5]
 refine hK _ ?_
 clear hK K
 refine AW.condS (by simp -implicitDefEqProofs only[go_sem,seval,↓reduceIte];rfl) (fun h48=>?_) (fun h48=>?_)
 ·cases h48
 refine AW.skip ?_
 simp -implicitDefEqProofs only[go_sem,seval,↓reduceIte]
 refine hK3 _ ?_
 refine AW.seq_k fun K4 hK4=>?_
 refine AW.regionT ⟨fun _ => .top,fun i=>if i=5 then .lend else .pure⟩ (by kernel_rfl) hG (by kernel_rfl) (by kernel_rfl) ?_
 simp -implicitDefEqProofs only[go_sem,seval,↓reduceIte,htk,encTk_K]
 refine hK4 _ ?_
 refine AW.ret ?_
 simp -implicitDefEqProofs only[go_sem,seval,↓reduceIte]
 refine endK_some ?_
 rw [hP];rfl
end Go.Hs
end

section
namespace Go.Hs
open Go.Proofs
set_option maxRecDepth 10000
set_option maxHeartbeats 1000000
theorem wRef_spec (G:Nat→V) (hG:GOk G) (c:Col) (s:Sl XN) (hs:s.l.length<1000000) :
  Spec Tryz.prog G 19 [.agg [encSl c 6 encXN s]] hNone (fun v _=>v=encXs .new s.l):=by
 refine Spec.of_code' 0 35 [.tmp 2] Tryz.func19 rfl rfl rfl rfl fun X=>?_
 refine AW.seq_k fun K hK=>AW.region (by kernel_rfl) ?_
 simp -implicitDefEqProofs only[go_sem,seval,↓reduceIte]
 intro g1
 refine hK _ ?_
 clear hK K
 refine AW.seq_k fun K hK=>AW.region (by kernel_rfl) ?_
 simp -implicitDefEqProofs only[go_sem,seval,↓reduceIte]
 refine hK _ ?_
 clear hK K
 refine AW.seq_k fun K2 hK2=>?_
 refine AW.seq_k fun K hK=>AW.region (by kernel_rfl) ?_
 simp -implicitDefEqProofs only[go_sem,seval,↓reduceIte]
 refine hK _ ?_
 clear hK K
 refine AW.block ?_
 refine AW.for s.l.length (fun k (gx:Nat)=>st [(1,.ptr 1 g1 0),(3,grown 33 gx 6 (s.l.take k)),(4,.int .i64 k)] [(1,.cells .new g1 0 [encSl c 6 encXN s]),(33,grownO gx encXN (s.l.take k))])
  (fun k _=>True) 0 0 (Nat.zero_le _) trivial
  (Weak.st (by simp -implicitDefEqProofs only[go_sem,seval,↓reduceIte];try rfl) (by simp -implicitDefEqProofs only[go_sem,seval,↓reduceIte];try rfl)) ?_
 intro k gx hk _ L3 hL3
 refine AW.seq_k fun K4 hK4=>?_
 refine AW.seq_k fun K hK=>AW.region (by kernel_rfl) ?_
 simp -implicitDefEqProofs only[go_sem,seval,↓reduceIte]
 refine hK _ ?_
 clear hK K
 refine AW.condS (by simp -implicitDefEqProofs only[go_sem,seval,↓reduceIte];rfl) (fun h10=>?_) (fun h10=>?_)
 ·have hk1:k<s.l.length:=by simpa using h10
  have hg:=List.getElem?_eq_getElem hk1
  have htk:s.l.take (k+1)=s.l.take k++[s.l[k]]:=by rw [List.take_succ_eq_append_getElem hk1]
  have hlt:(s.l.take k).length=k:=by rw [List.length_take];omega
  generalize s.l[k]=n at hg htk
  generalize s.l.take k=ns at htk hlt ⊢
  refine AW.skip ?_
  simp -implicitDefEqProofs only[go_sem,seval,↓reduceIte]
  refine hK4 _ ?_
  refine AW.seq_k fun K5 hK5=>?_
  refine AW.block ?_
  refine AW.seq_k fun K hK=>AW.region (by kernel_rfl) ?_
  simp -implicitDefEqProofs only[go_sem,seval,↓reduceIte,hg,encXN_K]
  intro g5
  refine hK _ ?_
  clear hK K
  refine AW.region (by kernel_rfl) ?_
  simp -implicitDefEqProofs only[go_sem,seval,↓reduceIte]
  intro g32
  refine app_grown (f:=encXN) (l:=ns) (l2:=[n]) (g:=gx) encXN_cells rfl rfl rfl (by simp -implicitDefEqProofs only[go_sem,seval,↓reduceIte];try rfl) (roomOk_of (by omega) (by simp;omega)) fun g2=>?_
  simp -implicitDefEqProofs only[go_sem,seval,↓reduceIte]
  refine hK5 _ ?_
  refine AW.region (by kernel_rfl) ?_
  simp -implicitDefEqProofs only[go_sem,seval,↓reduceIte]
  refine hL3 _ ⟨hk1,g2,trivial,Weak.st (by simp -implicitDefEqProofs only[go_sem,seval,↓reduceIte];exact ⟨by rw [htk],congrArg _ (w64 (by omega) (by omega))⟩) (by simp -implicitDefEqProofs only[go_sem,seval,↓reduceIte];rw [htk];try rfl)⟩
 ·have hk1:k=s.l.length:=by simp at h10;omega
  refine AW.exit ?_
  simp -implicitDefEqProofs only[go_sem,seval,↓reduceIte]
  refine hK2 _ ?_
  rw [hk1,List.take_length]
  refine AW.weak (Weak.stF (fun o=>o==33) (l:=[(3,encXs .new s.l)]) (m:=[]) ?_ trivial) ?_
  ·simp -implicitDefEqProofs only[go_sem,seval,↓reduceIte]
   exact Fz.grown rfl rfl encXN_cells
  refine AW.seq_k fun K hK=>AW.region (by kernel_rfl) ?_
  simp -implicitDefEqProofs only[go_sem,seval,↓reduceIte]
  refine hK _ ?_
  clear hK K
  refine AW.ret ?_
  simp -implicitDefEqProofs only[go_sem,seval,↓reduceIte]
  refine endK_some ?_
  rfl
theorem encBi_cells (p:List UInt8 × Int):(encBi p).cells.length=2:=rfl
theorem wBinds_spec (G:Nat→V) (hG:GOk G) (c:Col) (s:Sl (List UInt8 × Int)) (hs:s.l.length<1000000) :
  Spec Tryz.prog G 20 [encSl c 2 encBi s] hNone (fun v _=>v=encSl .new 2 encBi (grownS s.l)):=by
 refine Spec.of_code' 0 26 [.tmp 2] Tryz.func20 rfl rfl rfl rfl fun X=>?_
 refine AW.seq_k fun K hK=>AW.region (by kernel_rfl) ?_
 simp -implicitDefEqProofs only[go_sem,seval,↓reduceIte]
 refine hK _ ?_
 clear hK K
 refine AW.seq_k fun K hK=>AW.region (by kernel_rfl) ?_
 simp -implicitDefEqProofs only[go_sem,seval,↓reduceIte]
 refine hK _ ?_
 clear hK K
 refine AW.seq_k fun K2 hK2=>?_
 refine AW.seq_k fun K hK=>AW.region (by kernel_rfl) ?_
 simp -implicitDefEqProofs only[go_sem,seval,↓reduceIte]
 refine hK _ ?_
 clear hK K
 refine AW.block ?_
 refine AW.for s.l.length (fun k (gx:Nat)=>st [(0,encSl c 2 encBi s),(3,grown 24 gx 2 (s.l.take k)),(4,.int .i64 k)] [(24,grownO gx encBi (s.l.take k))])
  (fun k _=>True) 0 0 (Nat.zero_le _) trivial
  (Weak.st (by simp -implicitDefEqProofs only[go_sem,seval,↓reduceIte];try rfl) (by simp -implicitDefEqProofs only[go_sem,seval,↓reduceIte];try rfl)) ?_
 intro k gx hk _ L3 hL3
 refine AW.seq_k fun K4 hK4=>?_
 refine AW.seq_k fun K hK=>AW.region (by kernel_rfl) ?_
 simp -implicitDefEqProofs only[go_sem,seval,↓reduceIte]
 refine hK _ ?_
 clear hK K
 refine AW.condS (by simp -implicitDefEqProofs only[go_sem,seval,↓reduceIte];rfl) (fun h10=>?_) (fun h10=>?_)
 ·have hk1:k<s.l.length:=by simpa using h10
  have hg:=List.getElem?_eq_getElem hk1
  have htk:s.l.take (k+1)=s.l.take k++[s.l[k]]:=by rw [List.take_succ_eq_append_getElem hk1]
  have hlt:(s.l.take k).length=k:=by rw [List.length_take];omega
  generalize s.l[k]=n at hg htk
  generalize s.l.take k=ns at htk hlt ⊢
  refine AW.skip ?_
  simp -implicitDefEqProofs only[go_sem,seval,↓reduceIte]
  refine hK4 _ ?_
  refine AW.seq_k fun K5 hK5=>?_
  refine AW.block ?_
  refine AW.regionT ⟨fun _ => .top,fun _ => .pure⟩ (by kernel_rfl) hG (by kernel_rfl) (by kernel_rfl) ?_
  simp -implicitDefEqProofs only[go_sem,seval,↓reduceIte,hg,encBi_K,hk1,Int.natCast_nonneg,Int.ofNat_lt]
  intro g32
  refine app_grown (f:=encBi) (l:=ns) (l2:=[n]) (g:=gx) encBi_cells rfl rfl rfl (by simp -implicitDefEqProofs only[go_sem,seval,↓reduceIte];try rfl) (roomOk_of (by omega) (by simp;omega)) fun g2=>?_
  simp -implicitDefEqProofs only[go_sem,seval,↓reduceIte]
  refine hK5 _ ?_
  refine AW.region (by kernel_rfl) ?_
  simp -implicitDefEqProofs only[go_sem,seval,↓reduceIte]
  refine hL3 _ ⟨hk1,g2,trivial,Weak.st (by simp -implicitDefEqProofs only[go_sem,seval,↓reduceIte];exact ⟨by rw [htk],congrArg _ (w64 (by omega) (by omega))⟩) (by simp -implicitDefEqProofs only[go_sem,seval,↓reduceIte];rw [htk];try rfl)⟩
 ·have hk1:k=s.l.length:=by simp at h10;omega
  refine AW.exit ?_
  simp -implicitDefEqProofs only[go_sem,seval,↓reduceIte]
  refine hK2 _ ?_
  rw [hk1,List.take_length]
  refine AW.weak (Weak.stF (fun o=>o==24) (l:=[(3,encSl .new 2 encBi (grownS s.l))]) (m:=[]) ?_ trivial) ?_
  ·simp -implicitDefEqProofs only[go_sem,seval,↓reduceIte]
   exact Fz.grown rfl rfl encBi_cells
  refine AW.seq_k fun K hK=>AW.region (by kernel_rfl) ?_
  simp -implicitDefEqProofs only[go_sem,seval,↓reduceIte]
  refine hK _ ?_
  clear hK K
  refine AW.ret ?_
  simp -implicitDefEqProofs only[go_sem,seval,↓reduceIte]
  refine endK_some ?_
  rfl
def Few10 (l:List XN) (env:List (List UInt8 × Int)):Prop:=l.length≤200∧env.length≤20∧(∀ n∈l,n.name.length≤70)∧∀ p∈env,p.1.length≤70
theorem wFew_spec (G:Nat→V) (hG:GOk G) (c c2:Col) (s:Sl XN) (env:Sl (List UInt8 × Int)) :
  Spec Tryz.prog G 13 [.agg [encSl c 6 encXN s],encSl c2 2 encBi env] hNone (fun v _=>∃ b,v = .bool b∧(b=true→Few10 s.l env.l)):=by
 refine Spec.of_code' 0 44 [.tmp 4] Tryz.func13 rfl rfl rfl rfl fun X=>?_
 refine AW.seq_k fun K hK=>AW.region (by kernel_rfl) ?_
 simp -implicitDefEqProofs only[go_sem,seval,↓reduceIte]
 intro g2
 refine hK _ ?_
 clear hK K
 refine AW.seq_k fun K1 hK1=>?_
 by_cases hl:s.l.length > 200∨env.l.length > 20
 ·have q1:(decide (((s.l.length:Nat):Int) > 200) || decide (((env.l.length:Nat):Int) > 20))=true:=by simp;omega
  by_cases h1:s.l.length > 200
  ·have q:decide (((s.l.length:Nat):Int) > 200)=true:=by rw [decide_eq_true_iff];omega
   repeat first
    | (refine AW.qr (by kernel_rfl) ?_;simp -implicitDefEqProofs only[go_sem,seval,↓reduceIte,q])
    | (refine AW.region (by kernel_rfl) ?_;simp -implicitDefEqProofs only[go_sem,seval,↓reduceIte,q])
    | refine AW.qq ?_
    | refine AW.block ?_
    | refine AW.qT rfl ?_
    | refine AW.qF rfl ?_
    | (refine AW.skip ?_;simp -implicitDefEqProofs only[go_sem,seval,↓reduceIte,q])
    | (refine AW.exit ?_;simp -implicitDefEqProofs only[go_sem,seval,↓reduceIte,q])
    | (refine AW.ret ?_;simp -implicitDefEqProofs only[go_sem,seval,↓reduceIte,q];refine endK_some ?_)
   exact ⟨false,rfl,fun h=>by cases h⟩
  ·have q:decide (((s.l.length:Nat):Int) > 200)=false:=by rw [decide_eq_false_iff_not];omega
   have q2:decide (((env.l.length:Nat):Int) > 20)=true:=by rw [decide_eq_true_iff];omega
   repeat first
    | (refine AW.qr (by kernel_rfl) ?_;simp -implicitDefEqProofs only[go_sem,seval,↓reduceIte,q,q2])
    | (refine AW.region (by kernel_rfl) ?_;simp -implicitDefEqProofs only[go_sem,seval,↓reduceIte,q,q2])
    | refine AW.qq ?_
    | refine AW.block ?_
    | refine AW.qT rfl ?_
    | refine AW.qF rfl ?_
    | (refine AW.skip ?_;simp -implicitDefEqProofs only[go_sem,seval,↓reduceIte,q,q2])
    | (refine AW.exit ?_;simp -implicitDefEqProofs only[go_sem,seval,↓reduceIte,q,q2])
    | (refine AW.ret ?_;simp -implicitDefEqProofs only[go_sem,seval,↓reduceIte,q,q2];refine endK_some ?_)
   exact ⟨false,rfl,fun h=>by cases h⟩
 have q1:decide (((s.l.length:Nat):Int) > 200)=false:=by rw [decide_eq_false_iff_not];omega
 have q2:decide (((env.l.length:Nat):Int) > 20)=false:=by rw [decide_eq_false_iff_not];omega
 repeat first
  | (refine AW.qr (by kernel_rfl) ?_;simp -implicitDefEqProofs only[go_sem,seval,↓reduceIte,q1,q2])
  | (refine AW.region (by kernel_rfl) ?_;simp -implicitDefEqProofs only[go_sem,seval,↓reduceIte,q1,q2])
  | refine AW.qq ?_
  | refine AW.block ?_
  | refine AW.qT rfl ?_
  | refine AW.qF rfl ?_
  | (refine AW.skip ?_;simp -implicitDefEqProofs only[go_sem,seval,↓reduceIte,q1,q2])
  | (refine AW.exit ?_;simp -implicitDefEqProofs only[go_sem,seval,↓reduceIte,q1,q2])
  | (refine AW.ret ?_;simp -implicitDefEqProofs only[go_sem,seval,↓reduceIte,q1,q2];refine endK_some ?_)
 refine hK1 _ ?_
 clear hK1 K1
 refine AW.seq_k fun K2 hK2=>?_
 repeat first
  | (refine AW.qr (by kernel_rfl) ?_;simp -implicitDefEqProofs only[go_sem,seval,↓reduceIte])
  | (refine AW.region (by kernel_rfl) ?_;simp -implicitDefEqProofs only[go_sem,seval,↓reduceIte])
  | refine AW.qq ?_
  | refine AW.block ?_
  | refine AW.qT rfl ?_
  | refine AW.qF rfl ?_
  | (refine AW.skip ?_;simp -implicitDefEqProofs only[go_sem,seval,↓reduceIte])
  | (refine AW.exit ?_;simp -implicitDefEqProofs only[go_sem,seval,↓reduceIte])
  | (refine AW.ret ?_;simp -implicitDefEqProofs only[go_sem,seval,↓reduceIte];refine endK_some ?_)
 refine AW.for s.l.length (fun k (_:Unit)=>st [(1,encSl c2 2 encBi env),(2,.ptr 2 g2 0),(5,.int .i64 k)] [(2,.cells .new g2 0 [encSl c 6 encXN s])]) (fun k _=>∀ n∈s.l.take k,n.name.length≤70) 0 () (Nat.zero_le _) (fun n h=>by cases h)
  (Weak.st (by simp -implicitDefEqProofs only[go_sem,seval,↓reduceIte];try rfl) (by simp -implicitDefEqProofs only[go_sem,seval,↓reduceIte];try rfl)) ?_
 intro k _ hk hR L3 hL3
 by_cases hk1:k<s.l.length
 ·have hlt:decide ((k:Int)<(s.l.length:Int))=true:=by simpa using hk1
  have hg:=List.getElem?_eq_getElem hk1
  have htk:s.l.take (k+1)=s.l.take k++[s.l[k]]:=by rw [List.take_succ_eq_append_getElem hk1]
  generalize s.l[k]=n at hg htk
  have w1:IntKind.i64.wrap ((k:Int)+1)=(k:Int)+1:=w64 (by omega) (by omega)
  by_cases hn:n.name.length > 70
  ·have q3:decide (((n.name.length:Nat):Int) > 70)=true:=by rw [decide_eq_true_iff];omega
   repeat first
    | (refine AW.qr (by kernel_rfl) ?_;simp -implicitDefEqProofs only[go_sem,seval,↓reduceIte,hlt,hg,encXN_K,q3,hk1,Int.natCast_nonneg,Int.ofNat_lt])
    | (refine AW.region (by kernel_rfl) ?_;simp -implicitDefEqProofs only[go_sem,seval,↓reduceIte,hlt,hg,encXN_K,q3,hk1,Int.natCast_nonneg,Int.ofNat_lt])
    | refine AW.qq ?_
    | refine AW.block ?_
    | refine AW.qT rfl ?_
    | refine AW.qF rfl ?_
    | (refine AW.skip ?_;simp -implicitDefEqProofs only[go_sem,seval,↓reduceIte,hlt,hg,encXN_K,q3,hk1,Int.natCast_nonneg,Int.ofNat_lt])
    | (refine AW.exit ?_;simp -implicitDefEqProofs only[go_sem,seval,↓reduceIte,hlt,hg,encXN_K,q3,hk1,Int.natCast_nonneg,Int.ofNat_lt])
    | (refine AW.ret ?_;simp -implicitDefEqProofs only[go_sem,seval,↓reduceIte,hlt,hg,encXN_K,q3,hk1,Int.natCast_nonneg,Int.ofNat_lt];refine endK_some ?_)
   exact ⟨false,rfl,fun h=>by cases h⟩
  ·have q3:decide (((n.name.length:Nat):Int) > 70)=false:=by rw [decide_eq_false_iff_not];omega
   repeat first
    | (refine AW.qr (by kernel_rfl) ?_;simp -implicitDefEqProofs only[go_sem,seval,↓reduceIte,hlt,hg,encXN_K,q3,hk1,Int.natCast_nonneg,Int.ofNat_lt,w1])
    | (refine AW.region (by kernel_rfl) ?_;simp -implicitDefEqProofs only[go_sem,seval,↓reduceIte,hlt,hg,encXN_K,q3,hk1,Int.natCast_nonneg,Int.ofNat_lt,w1])
    | refine AW.qq ?_
    | refine AW.block ?_
    | refine AW.qT rfl ?_
    | refine AW.qF rfl ?_
    | (refine AW.skip ?_;simp -implicitDefEqProofs only[go_sem,seval,↓reduceIte,hlt,hg,encXN_K,q3,hk1,Int.natCast_nonneg,Int.ofNat_lt,w1])
    | (refine AW.exit ?_;simp -implicitDefEqProofs only[go_sem,seval,↓reduceIte,hlt,hg,encXN_K,q3,hk1,Int.natCast_nonneg,Int.ofNat_lt,w1])
    | (refine AW.ret ?_;simp -implicitDefEqProofs only[go_sem,seval,↓reduceIte,hlt,hg,encXN_K,q3,hk1,Int.natCast_nonneg,Int.ofNat_lt,w1];refine endK_some ?_)
   refine hL3 _ ⟨hk1,(),?_,Weak.st (by simp -implicitDefEqProofs only[go_sem,seval,↓reduceIte];try rfl) (by simp -implicitDefEqProofs only[go_sem,seval,↓reduceIte];try rfl)⟩
   intro n' hn'
   rw [htk,List.mem_append] at hn'
   rcases hn' with hn' | hn'
   ·exact hR n' hn'
   ·simp at hn';subst hn';omega
 have hke:k=s.l.length:=by omega
 subst hke
 have hlt:decide ((s.l.length:Int)<(s.l.length:Int))=false:=by simp
 repeat first
  | (refine AW.qr (by kernel_rfl) ?_;simp -implicitDefEqProofs only[go_sem,seval,↓reduceIte,hlt])
  | (refine AW.region (by kernel_rfl) ?_;simp -implicitDefEqProofs only[go_sem,seval,↓reduceIte,hlt])
  | refine AW.qq ?_
  | refine AW.block ?_
  | refine AW.qT rfl ?_
  | refine AW.qF rfl ?_
  | (refine AW.skip ?_;simp -implicitDefEqProofs only[go_sem,seval,↓reduceIte,hlt])
  | (refine AW.exit ?_;simp -implicitDefEqProofs only[go_sem,seval,↓reduceIte,hlt])
  | (refine AW.ret ?_;simp -implicitDefEqProofs only[go_sem,seval,↓reduceIte,hlt];refine endK_some ?_)
 refine hK2 _ ?_
 clear hK2 hL3 K2 L3
 rw [List.take_length] at hR
 have hS:=hR
 clear hR hk hk1 hlt
 refine AW.seq_k fun K2 hK2=>?_
 repeat first
  | (refine AW.qr (by kernel_rfl) ?_;simp -implicitDefEqProofs only[go_sem,seval,↓reduceIte])
  | (refine AW.region (by kernel_rfl) ?_;simp -implicitDefEqProofs only[go_sem,seval,↓reduceIte])
  | refine AW.qq ?_
  | refine AW.block ?_
  | refine AW.qT rfl ?_
  | refine AW.qF rfl ?_
  | (refine AW.skip ?_;simp -implicitDefEqProofs only[go_sem,seval,↓reduceIte])
  | (refine AW.exit ?_;simp -implicitDefEqProofs only[go_sem,seval,↓reduceIte])
  | (refine AW.ret ?_;simp -implicitDefEqProofs only[go_sem,seval,↓reduceIte];refine endK_some ?_)
 refine AW.for env.l.length (fun k (_:Unit)=>st [(1,encSl c2 2 encBi env),(6,.int .i64 k)] []) (fun k _=>∀ n∈env.l.take k,n.1.length≤70) 0 () (Nat.zero_le _) (fun n h=>by cases h)
  (Weak.st (by simp -implicitDefEqProofs only[go_sem,seval,↓reduceIte];try rfl) (by simp -implicitDefEqProofs only[go_sem,seval,↓reduceIte];try rfl)) ?_
 intro k _ hk hR L3 hL3
 by_cases hk1:k<env.l.length
 ·have hlt:decide ((k:Int)<(env.l.length:Int))=true:=by simpa using hk1
  have hg:=List.getElem?_eq_getElem hk1
  have htk:env.l.take (k+1)=env.l.take k++[env.l[k]]:=by rw [List.take_succ_eq_append_getElem hk1]
  generalize env.l[k]=n at hg htk
  have w1:IntKind.i64.wrap ((k:Int)+1)=(k:Int)+1:=w64 (by omega) (by omega)
  by_cases hn:n.1.length > 70
  ·have q3:decide (((n.1.length:Nat):Int) > 70)=true:=by rw [decide_eq_true_iff];omega
   repeat first
    | (refine AW.qr (by kernel_rfl) ?_;simp -implicitDefEqProofs only[go_sem,seval,↓reduceIte,hlt,hg,encBi_K,q3,hk1,Int.natCast_nonneg,Int.ofNat_lt])
    | (refine AW.region (by kernel_rfl) ?_;simp -implicitDefEqProofs only[go_sem,seval,↓reduceIte,hlt,hg,encBi_K,q3,hk1,Int.natCast_nonneg,Int.ofNat_lt])
    | refine AW.qq ?_
    | refine AW.block ?_
    | refine AW.qT rfl ?_
    | refine AW.qF rfl ?_
    | (refine AW.skip ?_;simp -implicitDefEqProofs only[go_sem,seval,↓reduceIte,hlt,hg,encBi_K,q3,hk1,Int.natCast_nonneg,Int.ofNat_lt])
    | (refine AW.exit ?_;simp -implicitDefEqProofs only[go_sem,seval,↓reduceIte,hlt,hg,encBi_K,q3,hk1,Int.natCast_nonneg,Int.ofNat_lt])
    | (refine AW.ret ?_;simp -implicitDefEqProofs only[go_sem,seval,↓reduceIte,hlt,hg,encBi_K,q3,hk1,Int.natCast_nonneg,Int.ofNat_lt];refine endK_some ?_)
   exact ⟨false,rfl,fun h=>by cases h⟩
  ·have q3:decide (((n.1.length:Nat):Int) > 70)=false:=by rw [decide_eq_false_iff_not];omega
   repeat first
    | (refine AW.qr (by kernel_rfl) ?_;simp -implicitDefEqProofs only[go_sem,seval,↓reduceIte,hlt,hg,encBi_K,q3,hk1,Int.natCast_nonneg,Int.ofNat_lt,w1])
    | (refine AW.region (by kernel_rfl) ?_;simp -implicitDefEqProofs only[go_sem,seval,↓reduceIte,hlt,hg,encBi_K,q3,hk1,Int.natCast_nonneg,Int.ofNat_lt,w1])
    | refine AW.qq ?_
    | refine AW.block ?_
    | refine AW.qT rfl ?_
    | refine AW.qF rfl ?_
    | (refine AW.skip ?_;simp -implicitDefEqProofs only[go_sem,seval,↓reduceIte,hlt,hg,encBi_K,q3,hk1,Int.natCast_nonneg,Int.ofNat_lt,w1])
    | (refine AW.exit ?_;simp -implicitDefEqProofs only[go_sem,seval,↓reduceIte,hlt,hg,encBi_K,q3,hk1,Int.natCast_nonneg,Int.ofNat_lt,w1])
    | (refine AW.ret ?_;simp -implicitDefEqProofs only[go_sem,seval,↓reduceIte,hlt,hg,encBi_K,q3,hk1,Int.natCast_nonneg,Int.ofNat_lt,w1];refine endK_some ?_)
   refine hL3 _ ⟨hk1,(),?_,Weak.st (by simp -implicitDefEqProofs only[go_sem,seval,↓reduceIte];try rfl) (by simp -implicitDefEqProofs only[go_sem,seval,↓reduceIte];try rfl)⟩
   intro n' hn'
   rw [htk,List.mem_append] at hn'
   rcases hn' with hn' | hn'
   ·exact hR n' hn'
   ·simp at hn';subst hn';omega
 have hke:k=env.l.length:=by omega
 subst hke
 have hlt:decide ((env.l.length:Int)<(env.l.length:Int))=false:=by simp
 rw [List.take_length] at hR
 repeat first
  | (refine AW.qr (by kernel_rfl) ?_;simp -implicitDefEqProofs only[go_sem,seval,↓reduceIte,hlt])
  | (refine AW.region (by kernel_rfl) ?_;simp -implicitDefEqProofs only[go_sem,seval,↓reduceIte,hlt])
  | refine AW.qq ?_
  | refine AW.block ?_
  | refine AW.qT rfl ?_
  | refine AW.qF rfl ?_
  | (refine AW.skip ?_;simp -implicitDefEqProofs only[go_sem,seval,↓reduceIte,hlt])
  | (refine AW.exit ?_;simp -implicitDefEqProofs only[go_sem,seval,↓reduceIte,hlt])
  | (refine AW.ret ?_;simp -implicitDefEqProofs only[go_sem,seval,↓reduceIte,hlt];refine endK_some ?_)
 refine hK2 _ ?_
 repeat first
  | (refine AW.qr (by kernel_rfl) ?_;simp -implicitDefEqProofs only[go_sem,seval,↓reduceIte])
  | (refine AW.region (by kernel_rfl) ?_;simp -implicitDefEqProofs only[go_sem,seval,↓reduceIte])
  | refine AW.qq ?_
  | refine AW.block ?_
  | refine AW.qT rfl ?_
  | refine AW.qF rfl ?_
  | (refine AW.skip ?_;simp -implicitDefEqProofs only[go_sem,seval,↓reduceIte])
  | (refine AW.exit ?_;simp -implicitDefEqProofs only[go_sem,seval,↓reduceIte])
  | (refine AW.ret ?_;simp -implicitDefEqProofs only[go_sem,seval,↓reduceIte];refine endK_some ?_)
 exact ⟨true,rfl,fun _=>⟨by omega,by omega,hS,hR⟩⟩
end Go.Hs
end

section
namespace Go.Hs
open Go.Proofs
set_option maxRecDepth 10000
theorem exprP_bnd {s:List UInt8} (hs:s.length<100000):(exprP s).1.length<100000∧∀ n∈(exprP s).1,n.name.length<100000:=by
 have hT:=toks_ok hs
 have hnm:=climb_names hT
 have hok:=((climbP_bal (toksP s).1 ((toksP s).1.length+1) 1 ⟨0,[],0⟩).ok ⟨Nat.zero_le _,Nat.le_refl _⟩)
 have hfr:(fromP (toksP s).1).1.length<100000∧∀ n∈(fromP (toksP s).1).1,n.name.length<100000:=by
  unfold fromP
  split
  ·exact ⟨Nat.zero_lt_succ _,fun n hn=>by cases hn⟩
  ·split
   ·exact ⟨Nat.zero_lt_succ _,fun n hn=>by cases hn⟩
   ·have:=hok.1;have:=hok.2;have:=hT.len
    exact ⟨by show (climbP _ _ _ _).2.nodes.length<_;omega,hnm⟩
 unfold exprP
 split
 ·exact ⟨Nat.zero_lt_succ _,fun n hn=>by cases hn⟩
 split
 ·exact ⟨Nat.zero_lt_succ _,fun n hn=>by cases hn⟩
 split
 ·exact hfr
 ·exact ⟨Nat.zero_lt_succ _,fun n hn=>by cases hn⟩
end Go.Hs
end

section
namespace Go.Hs
theorem fromV_inv {l:List Tk} (h:(fromP l).2.2=0):∃ ts x,Gr 1 ts x∧x.depth≤64∧(∃ r,l.map wdOf=ts++r)∧fromP l=(x.row 0,(ts.length:Int),0):=by
 have hF:fromP l=if (climbP l (l.length+1) 1 ⟨0,[],0⟩).1=false then (([]:List XN),((climbP l (l.length+1) 1 ⟨0,[],0⟩).2.i:Int),(climbP l (l.length+1) 1 ⟨0,[],0⟩).2.e)
  else if depthP (climbP l (l.length+1) 1 ⟨0,[],0⟩).2.nodes > 64 then ([],0,3) else ((climbP l (l.length+1) 1 ⟨0,[],0⟩).2.nodes,((climbP l (l.length+1) 1 ⟨0,[],0⟩).2.i:Int),(0:Int)):=rfl
 by_cases hb:(climbP l (l.length+1) 1 ⟨0,[],0⟩).1=true
 ·obtain ⟨ts,x,g,sg,e⟩:=climb_inv _ 1 ⟨0,[],0⟩ (by decide) (by decide) hb
  rw [hb] at hF
  simp only [Bool.true_eq_false,if_false] at hF
  have hok:=g.ok
  have hn:(climbP l (l.length+1) 1 ⟨0,[],0⟩).2.nodes=x.row 0:=by rw [e];simp [after]
  rw [hn,depth_row hok] at hF
  by_cases hdp:(x.depth:Int) > 64
  ·rw [if_pos hdp] at hF
   rw [hF] at h;cases h
  rw [if_neg hdp] at hF
  have hi:(climbP l (l.length+1) 1 ⟨0,[],0⟩).2.i=ts.length:=by rw [e];show 0+ts.length=_;omega
  rw [hi] at hF
  obtain ⟨pre,post,e1,e2⟩:=sg
  have hp:pre=[]:=List.length_eq_zero_iff.1 e2
  rw [hp] at e1
  exact ⟨ts,x,g,by omega,⟨post,by simpa using e1⟩,hF⟩
 ·have hb:(climbP l (l.length+1) 1 ⟨0,[],0⟩).1=false:=by simpa using hb
  rw [if_pos hb] at hF
  exfalso
  have he:=climb_err (l.length+1) 1 ⟨0,[],0⟩ (by show l.length<l.length+1+0;omega) (Nat.zero_le _) hb
  rw [hF] at h
  exact he h
theorem numV (op num:Int) (name:List UInt8) (a b c:Int) (h:0≤num∧num≤9223372036854775807):fits (XN.mk op num name a b c).num=true:=by
 show decide (_≤num∧num≤_)=true
 rw [decide_eq_true_iff]
 omega
theorem row_fits:∀ (x:X) (k:Int),x.ok=true→x.fit→∀ n∈x.row k,fits n.num=true
 | .leaf op num name,k,ho,h=>by
  intro n hn
  rw [X.row,List.mem_singleton] at hn
  simp only [X.ok,Bool.and_eq_true] at ho
  subst hn
  exact numV _ _ _ _ _ _ ⟨wellP_num ho.1,h⟩
 | .un op a,k,ho,h=>by
  intro n hn
  simp only [X.ok,Bool.and_eq_true] at ho
  rw [X.row,List.mem_append,List.mem_singleton] at hn
  rcases hn with q | q
  ·exact row_fits a k ho.2 h n q
  ·rw [q];exact numV _ _ _ _ _ _ (by decide)
 | .bin op a b,k,ho,h=>by
  intro n hn
  simp only [X.ok,Bool.and_eq_true] at ho
  rw [X.row,List.mem_append,List.mem_append,List.mem_singleton] at hn
  rcases hn with (q | q) | q
  ·exact row_fits a k ho.1.2 h.1 n q
  ·exact row_fits b _ ho.2 h.2 n q
  ·rw [q];exact numV _ _ _ _ _ _ (by decide)
 | .ite a b c,k,ho,h=>by
  intro n hn
  simp only [X.ok,Bool.and_eq_true] at ho
  rw [X.row,List.mem_append,List.mem_append,List.mem_append,List.mem_singleton] at hn
  rcases hn with ((q | q) | q) | q
  ·exact row_fits a k ho.1.1 h.1 n q
  ·exact row_fits b _ ho.1.2 h.2.1 n q
  ·exact row_fits c _ ho.2 h.2.2 n q
  ·rw [q];exact numV _ _ _ _ _ _ (by decide)
theorem exprP_nums {s:List UInt8}:∀ n∈(exprP s).1,fits n.num=true:=by
 intro n hn
 unfold exprP at hn
 split at hn
 ·cases hn
 split at hn
 ·cases hn
 split at hn
 ·rename_i h
  obtain ⟨ts,x,g,_,_,e⟩:=fromV_inv h.1
  rw [e] at hn
  exact row_fits x 0 g.ok g.fit n hn
 ·cases hn
end Go.Hs
end

section
namespace Go.Hs
open Go.Proofs
set_option maxRecDepth 10000
set_option maxHeartbeats 1000000
def xNum (n:Int):X := .leaf 1 n []
def exX:List (List UInt8 × X × EV):=[
 ([55,32,100,105,118,32,50,32,45,32,120],.bin 11 (.bin 8 (xNum 7) (xNum 2)) (.leaf 2 0 [120]),.num (-2)),
 ([49,32,60,32,50,32,97,110,100,32,120,32,61,32,53],.bin 18 (.bin 12 (xNum 1) (xNum 2)) (.bin 16 (.leaf 2 0 [120]) (xNum 5)),.tru true),
 ([102,97,108,115,101,32,97,110,100,32,121],.bin 18 (.leaf 4 0 []) (.leaf 2 0 [121]),.tru false),
 ([116,114,117,101,32,111,114,32,49,32,100,105,118,32,48,32,61,32,49],.bin 19 (.leaf 3 0 []) (.bin 16 (.bin 8 (xNum 1) (xNum 0)) (xNum 1)),.tru true),
 ([49,32,100,105,118,32,48],.bin 8 (xNum 1) (xNum 0),.err 61),
 ([49,32,43,32,116,114,117,101],.bin 10 (xNum 1) (.leaf 3 0 []),.err 90),
 ([121],.leaf 2 0 [121],.err 90),
 ([105,102,32,116,114,117,101,32,116,104,101,110,32,49,32,101,108,115,101,32,102,97,108,115,101,32,101,110,100,105,102],.ite (.leaf 3 0 []) (xNum 1) (.leaf 4 0 []),.num 1)]
def exE:List (List UInt8 × Int):=[([120],5)]
def exT:List (List UInt8):=exX.map (·.1)
def exW:List EV:=exX.map (·.2.2)
def exR:List Int:=exX.map (·.2.2.er)
def exGood (w:List UInt8 × X × EV):Bool:=decide (w.1.length<1000) && decide ((exprP w.1).1=w.2.1.row 0) && decide ((exprP w.1).2.2=0) && w.2.1.ok && decide (checkP (w.2.1.row 0)=0) && decide (evX exE w.2.1=w.2.2)
theorem ex_good:exX.all exGood=true:=by decide +kernel
theorem ex_at {k:Nat} {w:List UInt8 × X × EV} (h:exX[k]? = some w):w.1.length<1000∧(exprP w.1).1=w.2.1.row 0∧(exprP w.1).2.2=0∧w.2.1.ok=true∧checkP (w.2.1.row 0)=0∧evX exE w.2.1=w.2.2:=by
 have:=List.all_eq_true.1 ex_good w (List.mem_of_getElem? h)
 simp only [exGood,Bool.and_eq_true,decide_eq_true_eq] at this
 obtain ⟨⟨⟨⟨⟨h1,h2⟩,h3⟩,h4⟩,h5⟩,h6⟩:=this
 exact ⟨h1,h2,h3,h4,h5,h6⟩
theorem wWorks10_spec (G:Nat→V) (hE:GExp G):Spec Tryz.prog G 14 [] hNone (fun v _=>v = .bool true):=by
 have hG:=hE.ok
 refine Spec.of_code' 0 63 [.tmp 0] Tryz.func14 rfl rfl rfl rfl fun X=>?_
 refine AW.seq_k fun K hK=>AW.region (by kernel_rfl) ?_
 simp -implicitDefEqProofs only[go_sem,seval,↓reduceIte]
 refine hK _ ?_
 clear hK K
 refine AW.seq_k fun K hK=>AW.region (by kernel_rfl) ?_
 simp -implicitDefEqProofs only[go_sem,seval,↓reduceIte]
 intro g12
 refine hK _ ?_
 clear hK K
 refine AW.seq_k fun K hK=>AW.region (by kernel_rfl) ?_
 simp -implicitDefEqProofs only[go_sem,seval,↓reduceIte]
 intro g13
 refine hK _ ?_
 clear hK K
 refine AW.seq_k fun K hK=>AW.region (by kernel_rfl) ?_
 simp -implicitDefEqProofs only[go_sem,seval,↓reduceIte]
 intro g22
 refine hK _ ?_
 clear hK K
 refine AW.seq_k fun K hK=>AW.region (by kernel_rfl) ?_
 simp -implicitDefEqProofs only[go_sem,seval,↓reduceIte]
 intro g23
 refine hK _ ?_
 clear hK K
 refine AW.weak (Weak.stF (fun _=>true) (l:=[(1,encSl .new 2 encBi (.mk false exE)),(2,encSl .new 1 V.str (.mk false exT)),(3,encSl .new 3 encEV (.mk false exW)),(4,encSl .new 1 (V.int .i64) (.mk false exR))]) (m:=[]) ?_ trivial) ?_
 ·simp -implicitDefEqProofs only[go_sem,seval,↓reduceIte]
  refine ⟨?_,?_,?_,?_⟩
  ·exact Fz.sl (f:=encBi) (l:=exE) (m:=2) (fz:=0) (c := .new) (g:=g12) rfl (by simp -implicitDefEqProofs only[go_sem,seval,↓reduceIte];rfl) (fun _=>rfl)
  ·exact Fz.sl (f:=V.str) (l:=exT) (m:=1) (fz:=0) (c := .new) (g:=g13) rfl (by simp -implicitDefEqProofs only[go_sem,seval,↓reduceIte];rfl) (fun _=>rfl)
  ·exact Fz.sl (f:=encEV) (l:=exW) (m:=3) (fz:=0) (c := .new) (g:=g22) rfl (by simp -implicitDefEqProofs only[go_sem,seval,↓reduceIte];rfl) (fun _=>rfl)
  ·exact Fz.sl (f:=V.int .i64) (l:=exR) (m:=1) (fz:=0) (c := .new) (g:=g23) rfl (by simp -implicitDefEqProofs only[go_sem,seval,↓reduceIte];rfl) (fun _=>rfl)
 refine AW.seq_k fun K2 hK2=>?_
 repeat first
  | (refine AW.qr (by kernel_rfl) ?_;simp -implicitDefEqProofs only[go_sem,seval,↓reduceIte])
  | (refine AW.region (by kernel_rfl) ?_;simp -implicitDefEqProofs only[go_sem,seval,↓reduceIte])
  | refine AW.qq ?_
  | refine AW.block ?_
  | refine AW.qT rfl ?_
  | refine AW.qF rfl ?_
  | (refine AW.skip ?_;simp -implicitDefEqProofs only[go_sem,seval,↓reduceIte])
  | (refine AW.exit ?_;simp -implicitDefEqProofs only[go_sem,seval,↓reduceIte])
  | (refine AW.ret ?_;simp -implicitDefEqProofs only[go_sem,seval,↓reduceIte];refine endK_some ?_)
 refine AW.for 8 (fun k (_:Unit)=>st [(1,encSl .new 2 encBi (.mk false exE)),(2,encSl .new 1 V.str (.mk false exT)),(3,encSl .new 3 encEV (.mk false exW)),(4,encSl .new 1 (V.int .i64) (.mk false exR)),(5,.int .i64 k)] []) (fun k _=>True) 0 () (Nat.zero_le _) trivial
  (Weak.st (by simp -implicitDefEqProofs only[go_sem,seval,↓reduceIte];try rfl) (by simp -implicitDefEqProofs only[go_sem,seval,↓reduceIte];try rfl)) ?_
 intro k _ hk _ L3 hL3
 by_cases hk1:k<8
 ·have hkx:k<exX.length:=hk1
  have hg:=List.getElem?_eq_getElem hkx
  have g1:exT[k]? = some exX[k].1:=by rw [exT,List.getElem?_map,hg];rfl
  have g2:exW[k]? = some exX[k].2.2:=by rw [exW,List.getElem?_map,hg];rfl
  have g3:exR[k]? = some exX[k].2.2.er:=by rw [exR,List.getElem?_map,hg];rfl
  obtain ⟨w1,w2,w3,w4,w5,w6⟩:=ex_at hg
  have hb:=exprP_bnd (s:=exX[k].1) (by omega)
  have hnu:=exprP_nums (s:=exX[k].1)
  have hP:=xParse_spec G hE exX[k].1 (by omega)
  generalize exX[k]=w at *
  obtain ⟨t,x,r⟩:=w
  simp only at g1 g2 g3 w1 w2 w3 w4 w5 w6 hb hnu hP
  generalize exprP t=pr at *
  obtain ⟨ns,n1,n2⟩:=pr
  simp only at w2 w3 hb hnu
  subst w2 w3
  have l1:exT.length=8:=rfl
  have l2:exW.length=8:=rfl
  have l3:exR.length=8:=rfl
  have hlt:decide ((k:Int)<8)=true:=by simp;omega
  have hk8:(k:Int)<8:=by omega
  have hEv:=fun c c2=>eval_spec G hE c c2 (grownS (x.row 0)) (.mk false exE) ⟨by rw [grownS_l];omega,by rw [grownS_l];exact hb.2,by rw [grownS_l];exact hnu,by decide,by decide⟩
  have hL:evL (Sl.mk false exE).l (grownS (x.row 0)).l=r:=by rw [grownS_l,evL_row w4 w5];exact w6
  rw [hL] at hEv
  repeat first
   | (refine AW.qr (by kernel_rfl) ?_;simp -implicitDefEqProofs only[go_sem,seval,↓reduceIte,l1,hlt,g1,Int.natCast_nonneg,hk8])
   | (refine AW.region (by kernel_rfl) ?_;simp -implicitDefEqProofs only[go_sem,seval,↓reduceIte,l1,hlt,g1,Int.natCast_nonneg,hk8])
   | refine AW.qq ?_
   | refine AW.block ?_
   | refine AW.qT rfl ?_
   | refine AW.qF rfl ?_
   | (refine AW.skip ?_;simp -implicitDefEqProofs only[go_sem,seval,↓reduceIte,l1,hlt,g1,Int.natCast_nonneg,hk8])
   | (refine AW.exit ?_;simp -implicitDefEqProofs only[go_sem,seval,↓reduceIte,l1,hlt,g1,Int.natCast_nonneg,hk8])
   | (refine AW.ret ?_;simp -implicitDefEqProofs only[go_sem,seval,↓reduceIte,l1,hlt,g1,Int.natCast_nonneg,hk8];refine endK_some ?_)
  refine CallA.pure hG (by kernel_rfl) ?_
  simp -implicitDefEqProofs only[go_sem,seval,↓reduceIte]
  refine hP.mono ?_
  rintro _ _ rfl
  simp -implicitDefEqProofs only[go_sem,seval,↓reduceIte,encFr,encXs]
  intro g6
  repeat first
   | (refine AW.qr (by kernel_rfl) ?_;simp -implicitDefEqProofs only[go_sem,seval,↓reduceIte])
   | (refine AW.region (by kernel_rfl) ?_;simp -implicitDefEqProofs only[go_sem,seval,↓reduceIte])
   | refine AW.qq ?_
   | refine AW.block ?_
   | refine AW.qT rfl ?_
   | refine AW.qF rfl ?_
   | (refine AW.skip ?_;simp -implicitDefEqProofs only[go_sem,seval,↓reduceIte])
   | (refine AW.exit ?_;simp -implicitDefEqProofs only[go_sem,seval,↓reduceIte])
   | (refine AW.ret ?_;simp -implicitDefEqProofs only[go_sem,seval,↓reduceIte];refine endK_some ?_)
  refine CallA.pure hG (by kernel_rfl) ?_
  simp -implicitDefEqProofs only[go_sem,seval,↓reduceIte,recol_xns,recol_bis,encXN_K]
  refine (hEv _ _).mono ?_
  rintro _ _ rfl
  simp -implicitDefEqProofs only[go_sem,seval,↓reduceIte,encVE,encEV]
  intro g9
  refine AW.weak (Weak.stF (fun o=>o==6 || o==9) (l:=[(1,encSl .new 2 encBi (.mk false exE)),(2,encSl .new 1 V.str (.mk false exT)),(3,encSl .new 3 encEV (.mk false exW)),(4,encSl .new 1 (V.int .i64) (.mk false exR)),(5,.int .i64 k),(8,.int .i64 0),(9,.view .new (.agg [.int .u8 r.kind,.int .i64 r.nm,.bool r.tr])),(10,.int .i64 r.er)]) (m:=[]) ?_ trivial) ?_
  ·simp -implicitDefEqProofs only[go_sem,seval,↓reduceIte]
   refine ⟨Fz.same _,Fz.same _,Fz.same _,Fz.same _,Fz.same _,Fz.same _,?_,Fz.same _⟩
   exact Fz.ptr (v := .agg [.int .u8 r.kind,.int .i64 r.nm,.bool r.tr]) (c := .new) (fz:=0) rfl (by simp -implicitDefEqProofs only[go_sem,seval,↓reduceIte];try rfl)
  have e1:encEV r = .agg [.int .u8 r.kind,.int .i64 r.nm,.bool r.tr]:=rfl
  have hk2:k<exW.length:=by omega
  have hk3:k<exR.length:=by omega
  repeat first
   | (refine AW.qr (by kernel_rfl) ?_;simp -implicitDefEqProofs only[go_sem,seval,↓reduceIte])
   | (refine AW.region (by kernel_rfl) ?_;simp -implicitDefEqProofs only[go_sem,seval,↓reduceIte])
   | refine AW.qq ?_
   | refine AW.block ?_
   | refine AW.qT rfl ?_
   | refine AW.qF rfl ?_
   | (refine AW.skip ?_;simp -implicitDefEqProofs only[go_sem,seval,↓reduceIte])
   | (refine AW.exit ?_;simp -implicitDefEqProofs only[go_sem,seval,↓reduceIte])
   | (refine AW.ret ?_;simp -implicitDefEqProofs only[go_sem,seval,↓reduceIte];refine endK_some ?_)
  refine AW.regionT ⟨fun _ => .top,fun i=>if i=3 then .lend else .pure⟩ (by kernel_rfl) hG (by kernel_rfl) (by kernel_rfl) ?_
  simp -implicitDefEqProofs only[go_sem,seval,↓reduceIte,g2,g3,e1,l2,l3,Int.natCast_nonneg,hk8,Bool.and_self,Bool.not_true,Bool.not_false]
  have w7:IntKind.i64.wrap ((k:Int)+1)=(k:Int)+1:=w64 (by omega) (by omega)
  repeat first
   | (refine AW.qr (by kernel_rfl) ?_;simp -implicitDefEqProofs only[go_sem,seval,↓reduceIte,w7])
   | (refine AW.region (by kernel_rfl) ?_;simp -implicitDefEqProofs only[go_sem,seval,↓reduceIte,w7])
   | refine AW.qq ?_
   | refine AW.block ?_
   | refine AW.qT rfl ?_
   | refine AW.qF rfl ?_
   | (refine AW.skip ?_;simp -implicitDefEqProofs only[go_sem,seval,↓reduceIte,w7])
   | (refine AW.exit ?_;simp -implicitDefEqProofs only[go_sem,seval,↓reduceIte,w7])
   | (refine AW.ret ?_;simp -implicitDefEqProofs only[go_sem,seval,↓reduceIte,w7];refine endK_some ?_)
  exact hL3 _ ⟨hk1,(),trivial,Weak.st (by simp -implicitDefEqProofs only[go_sem,seval,↓reduceIte];try rfl) (by simp -implicitDefEqProofs only[go_sem,seval,↓reduceIte];try rfl)⟩
 have hke:k=8:=by omega
 subst hke
 have l1:exT.length=8:=rfl
 repeat first
  | (refine AW.qr (by kernel_rfl) ?_;simp -implicitDefEqProofs only[go_sem,seval,↓reduceIte,l1])
  | (refine AW.region (by kernel_rfl) ?_;simp -implicitDefEqProofs only[go_sem,seval,↓reduceIte,l1])
  | refine AW.qq ?_
  | refine AW.block ?_
  | refine AW.qT rfl ?_
  | refine AW.qF rfl ?_
  | (refine AW.skip ?_;simp -implicitDefEqProofs only[go_sem,seval,↓reduceIte,l1])
  | (refine AW.exit ?_;simp -implicitDefEqProofs only[go_sem,seval,↓reduceIte,l1])
  | (refine AW.ret ?_;simp -implicitDefEqProofs only[go_sem,seval,↓reduceIte,l1];refine endK_some ?_)
 refine hK2 _ ?_
 repeat first
  | (refine AW.qr (by kernel_rfl) ?_;simp -implicitDefEqProofs only[go_sem,seval,↓reduceIte])
  | (refine AW.region (by kernel_rfl) ?_;simp -implicitDefEqProofs only[go_sem,seval,↓reduceIte])
  | refine AW.qq ?_
  | refine AW.block ?_
  | refine AW.qT rfl ?_
  | refine AW.qF rfl ?_
  | (refine AW.skip ?_;simp -implicitDefEqProofs only[go_sem,seval,↓reduceIte])
  | (refine AW.exit ?_;simp -implicitDefEqProofs only[go_sem,seval,↓reduceIte])
  | (refine AW.ret ?_;simp -implicitDefEqProofs only[go_sem,seval,↓reduceIte];refine endK_some ?_)
 rfl
end Go.Hs
end

section
namespace Go.Hs
open Go.Proofs
set_option maxRecDepth 10000
set_option maxHeartbeats 1000000
theorem worthL_spec (G:Nat→V) (hE:GExp G) (c c2:Col) (s:Sl XN) (env:Sl (List UInt8 × Int)) (hnum:∀ n∈s.l,fits n.num=true) (hf:∀ p∈env.l,fits p.2=true) :
  Spec Tryz.prog G 4 [.agg [encSl c 6 encXN s],encSl c2 2 encBi env] hNone (fun v _=>v = .bool true):=by
 have hG:=hE.ok
 refine Spec.of_code' 0 111 [.tmp 4] Tryz.func4 rfl rfl rfl rfl fun X=>?_
 refine AW.seq_k fun K hK=>AW.region (by kernel_rfl) ?_
 simp -implicitDefEqProofs only[go_sem,seval,↓reduceIte]
 intro g2
 refine hK _ ?_
 clear hK K
 repeat first
  | (refine AW.qr (by kernel_rfl) ?_;simp -implicitDefEqProofs only[go_sem,seval,↓reduceIte])
  | (refine AW.region (by kernel_rfl) ?_;simp -implicitDefEqProofs only[go_sem,seval,↓reduceIte])
  | refine AW.qq ?_
  | refine AW.block ?_
  | refine AW.qT rfl ?_
  | refine AW.qF rfl ?_
  | (refine AW.skip ?_;simp -implicitDefEqProofs only[go_sem,seval,↓reduceIte])
  | (refine AW.exit ?_;simp -implicitDefEqProofs only[go_sem,seval,↓reduceIte])
  | (refine AW.ret ?_;simp -implicitDefEqProofs only[go_sem,seval,↓reduceIte];refine endK_some ?_)
 refine CallA.pure hG (by kernel_rfl) ?_
 simp -implicitDefEqProofs only[go_sem,seval,↓reduceIte,recol_xns,recol_bis]
 refine (wFew_spec G hG c.ent c2.ent s env).mono ?_
 rintro _ _ ⟨b,rfl,hb⟩
 simp -implicitDefEqProofs only[go_sem,seval,↓reduceIte]
 cases b
 ·repeat first
   | (refine AW.qr (by kernel_rfl) ?_;simp -implicitDefEqProofs only[go_sem,seval,↓reduceIte])
   | (refine AW.region (by kernel_rfl) ?_;simp -implicitDefEqProofs only[go_sem,seval,↓reduceIte])
   | refine AW.qq ?_
   | refine AW.block ?_
   | refine AW.qT rfl ?_
   | refine AW.qF rfl ?_
   | (refine AW.skip ?_;simp -implicitDefEqProofs only[go_sem,seval,↓reduceIte])
   | (refine AW.exit ?_;simp -implicitDefEqProofs only[go_sem,seval,↓reduceIte])
   | (refine AW.ret ?_;simp -implicitDefEqProofs only[go_sem,seval,↓reduceIte];refine endK_some ?_)
  refine CallA.pure hG (by kernel_rfl) ?_
  simp -implicitDefEqProofs only[go_sem,seval,↓reduceIte,recol_xns,recol_bis]
  refine (wWorks10_spec G hE).mono ?_
  rintro _ _ rfl
  simp -implicitDefEqProofs only[go_sem,seval,↓reduceIte,List.map_nil]
  repeat first
   | (refine AW.qr (by kernel_rfl) ?_;simp -implicitDefEqProofs only[go_sem,seval,↓reduceIte])
   | (refine AW.region (by kernel_rfl) ?_;simp -implicitDefEqProofs only[go_sem,seval,↓reduceIte])
   | refine AW.qq ?_
   | refine AW.block ?_
   | refine AW.qT rfl ?_
   | refine AW.qF rfl ?_
   | (refine AW.skip ?_;simp -implicitDefEqProofs only[go_sem,seval,↓reduceIte])
   | (refine AW.exit ?_;simp -implicitDefEqProofs only[go_sem,seval,↓reduceIte])
   | (refine AW.ret ?_;simp -implicitDefEqProofs only[go_sem,seval,↓reduceIte];refine endK_some ?_)
  rfl
 obtain ⟨f1,f2,f3,f4⟩:=hb rfl
 clear hb
 have hI:EvIn s env:=⟨by omega,fun n hn=>by have:=f3 n hn;omega,hnum,by omega,hf⟩
 have hI2:EvIn (grownS s.l) (grownS env.l):=⟨by rw [grownS_l];omega,fun n hn=>by rw [grownS_l] at hn;have:=f3 n hn;omega,by rw [grownS_l];exact hnum,by rw [grownS_l];omega,by rw [grownS_l];exact hf⟩
 have e1:=fun c c2=>eval_spec G hE c c2 s env hI
 have e2:=fun c c2=>number_spec G hE c c2 s env hI
 have e3:=fun c c2=>tru_spec G hE c c2 s env hI
 have r1:=fun c c2=>eval10 G hG c c2 _ _ hI2
 have r2:=fun c c2=>num10 G hG c c2 _ _ hI2
 have r3:=fun c c2=>tru10 G hG c c2 _ _ hI2
 simp only [grownS_l] at r1 r2 r3
 generalize evL env.l s.l=r at *
 repeat first
  | (refine AW.qr (by kernel_rfl) ?_;simp -implicitDefEqProofs only[go_sem,seval,↓reduceIte])
  | (refine AW.region (by kernel_rfl) ?_;simp -implicitDefEqProofs only[go_sem,seval,↓reduceIte])
  | refine AW.qq ?_
  | refine AW.block ?_
  | refine AW.qT rfl ?_
  | refine AW.qF rfl ?_
  | (refine AW.skip ?_;simp -implicitDefEqProofs only[go_sem,seval,↓reduceIte])
  | (refine AW.exit ?_;simp -implicitDefEqProofs only[go_sem,seval,↓reduceIte])
  | (refine AW.ret ?_;simp -implicitDefEqProofs only[go_sem,seval,↓reduceIte];refine endK_some ?_)
 refine CallA.pure hG (by kernel_rfl) ?_
 simp -implicitDefEqProofs only[go_sem,seval,↓reduceIte,recol_xns,recol_bis]
 refine (wRef_spec G hG _ s hI.hs).mono ?_
 rintro _ _ rfl
 simp -implicitDefEqProofs only[go_sem,seval,↓reduceIte,encXs]
 refine CallA.pure hG (by kernel_rfl) ?_
 simp -implicitDefEqProofs only[go_sem,seval,↓reduceIte,recol_xns,recol_bis]
 refine (wBinds_spec G hG _ env hI.hv).mono ?_
 rintro _ _ rfl
 simp -implicitDefEqProofs only[go_sem,seval,↓reduceIte,encXs]
 repeat first
  | (refine AW.qr (by kernel_rfl) ?_;simp -implicitDefEqProofs only[go_sem,seval,↓reduceIte])
  | (refine AW.region (by kernel_rfl) ?_;simp -implicitDefEqProofs only[go_sem,seval,↓reduceIte])
  | refine AW.qq ?_
  | refine AW.block ?_
  | refine AW.qT rfl ?_
  | refine AW.qF rfl ?_
  | (refine AW.skip ?_;simp -implicitDefEqProofs only[go_sem,seval,↓reduceIte])
  | (refine AW.exit ?_;simp -implicitDefEqProofs only[go_sem,seval,↓reduceIte])
  | (refine AW.ret ?_;simp -implicitDefEqProofs only[go_sem,seval,↓reduceIte];refine endK_some ?_)
 refine CallA.pure hG (by kernel_rfl) ?_
 simp -implicitDefEqProofs only[go_sem,seval,↓reduceIte,recol_xns,recol_bis]
 refine (e1 _ _).mono ?_
 rintro _ _ rfl
 simp -implicitDefEqProofs only[go_sem,seval,↓reduceIte,encVE,encEV]
 intro g7
 repeat first
  | (refine AW.qr (by kernel_rfl) ?_;simp -implicitDefEqProofs only[go_sem,seval,↓reduceIte])
  | (refine AW.region (by kernel_rfl) ?_;simp -implicitDefEqProofs only[go_sem,seval,↓reduceIte])
  | refine AW.qq ?_
  | refine AW.block ?_
  | refine AW.qT rfl ?_
  | refine AW.qF rfl ?_
  | (refine AW.skip ?_;simp -implicitDefEqProofs only[go_sem,seval,↓reduceIte])
  | (refine AW.exit ?_;simp -implicitDefEqProofs only[go_sem,seval,↓reduceIte])
  | (refine AW.ret ?_;simp -implicitDefEqProofs only[go_sem,seval,↓reduceIte];refine endK_some ?_)
 refine CallA.pure hG (by kernel_rfl) ?_
 simp -implicitDefEqProofs only[go_sem,seval,↓reduceIte,recol_xns,recol_bis]
 refine (r1 _ _).mono ?_
 rintro _ _ rfl
 simp -implicitDefEqProofs only[go_sem,seval,↓reduceIte,encVE,encEV]
 intro g9
 repeat first
  | (refine AW.qr (by kernel_rfl) ?_;simp -implicitDefEqProofs only[go_sem,seval,↓reduceIte])
  | (refine AW.region (by kernel_rfl) ?_;simp -implicitDefEqProofs only[go_sem,seval,↓reduceIte])
  | refine AW.qq ?_
  | refine AW.block ?_
  | refine AW.qT rfl ?_
  | refine AW.qF rfl ?_
  | (refine AW.skip ?_;simp -implicitDefEqProofs only[go_sem,seval,↓reduceIte])
  | (refine AW.exit ?_;simp -implicitDefEqProofs only[go_sem,seval,↓reduceIte])
  | (refine AW.ret ?_;simp -implicitDefEqProofs only[go_sem,seval,↓reduceIte];refine endK_some ?_)
 refine CallA.pure hG (by kernel_rfl) ?_
 simp -implicitDefEqProofs only[go_sem,seval,↓reduceIte,recol_xns,recol_bis]
 refine (e2 _ _).mono ?_
 rintro _ _ rfl
 simp -implicitDefEqProofs only[go_sem,seval,↓reduceIte,encNE]
 repeat first
  | (refine AW.qr (by kernel_rfl) ?_;simp -implicitDefEqProofs only[go_sem,seval,↓reduceIte])
  | (refine AW.region (by kernel_rfl) ?_;simp -implicitDefEqProofs only[go_sem,seval,↓reduceIte])
  | refine AW.qq ?_
  | refine AW.block ?_
  | refine AW.qT rfl ?_
  | refine AW.qF rfl ?_
  | (refine AW.skip ?_;simp -implicitDefEqProofs only[go_sem,seval,↓reduceIte])
  | (refine AW.exit ?_;simp -implicitDefEqProofs only[go_sem,seval,↓reduceIte])
  | (refine AW.ret ?_;simp -implicitDefEqProofs only[go_sem,seval,↓reduceIte];refine endK_some ?_)
 refine CallA.pure hG (by kernel_rfl) ?_
 simp -implicitDefEqProofs only[go_sem,seval,↓reduceIte,recol_xns,recol_bis]
 refine (r2 _ _).mono ?_
 rintro _ _ rfl
 simp -implicitDefEqProofs only[go_sem,seval,↓reduceIte,encNE]
 repeat first
  | (refine AW.qr (by kernel_rfl) ?_;simp -implicitDefEqProofs only[go_sem,seval,↓reduceIte])
  | (refine AW.region (by kernel_rfl) ?_;simp -implicitDefEqProofs only[go_sem,seval,↓reduceIte])
  | refine AW.qq ?_
  | refine AW.block ?_
  | refine AW.qT rfl ?_
  | refine AW.qF rfl ?_
  | (refine AW.skip ?_;simp -implicitDefEqProofs only[go_sem,seval,↓reduceIte])
  | (refine AW.exit ?_;simp -implicitDefEqProofs only[go_sem,seval,↓reduceIte])
  | (refine AW.ret ?_;simp -implicitDefEqProofs only[go_sem,seval,↓reduceIte];refine endK_some ?_)
 refine CallA.pure hG (by kernel_rfl) ?_
 simp -implicitDefEqProofs only[go_sem,seval,↓reduceIte,recol_xns,recol_bis]
 refine (e3 _ _).mono ?_
 rintro _ _ rfl
 simp -implicitDefEqProofs only[go_sem,seval,↓reduceIte,encTE]
 repeat first
  | (refine AW.qr (by kernel_rfl) ?_;simp -implicitDefEqProofs only[go_sem,seval,↓reduceIte])
  | (refine AW.region (by kernel_rfl) ?_;simp -implicitDefEqProofs only[go_sem,seval,↓reduceIte])
  | refine AW.qq ?_
  | refine AW.block ?_
  | refine AW.qT rfl ?_
  | refine AW.qF rfl ?_
  | (refine AW.skip ?_;simp -implicitDefEqProofs only[go_sem,seval,↓reduceIte])
  | (refine AW.exit ?_;simp -implicitDefEqProofs only[go_sem,seval,↓reduceIte])
  | (refine AW.ret ?_;simp -implicitDefEqProofs only[go_sem,seval,↓reduceIte];refine endK_some ?_)
 refine CallA.pure hG (by kernel_rfl) ?_
 simp -implicitDefEqProofs only[go_sem,seval,↓reduceIte,recol_xns,recol_bis]
 refine (r3 _ _).mono ?_
 rintro _ _ rfl
 simp -implicitDefEqProofs only[go_sem,seval,↓reduceIte,encTE]
 repeat first
  | (refine AW.qr (by kernel_rfl) ?_;simp -implicitDefEqProofs only[go_sem,seval,↓reduceIte,beq_self_eq_true])
  | (refine AW.region (by kernel_rfl) ?_;simp -implicitDefEqProofs only[go_sem,seval,↓reduceIte,beq_self_eq_true])
  | refine AW.qq ?_
  | refine AW.block ?_
  | refine AW.qT rfl ?_
  | refine AW.qF rfl ?_
  | (refine AW.skip ?_;simp -implicitDefEqProofs only[go_sem,seval,↓reduceIte,beq_self_eq_true])
  | (refine AW.exit ?_;simp -implicitDefEqProofs only[go_sem,seval,↓reduceIte,beq_self_eq_true])
  | (refine AW.ret ?_;simp -implicitDefEqProofs only[go_sem,seval,↓reduceIte,beq_self_eq_true];refine endK_some ?_)
 refine CallA.pure hG (by kernel_rfl) ?_
 simp -implicitDefEqProofs only[go_sem,seval,↓reduceIte,recol_xns,recol_bis]
 refine (wWorks10_spec G hE).mono ?_
 rintro _ _ rfl
 simp -implicitDefEqProofs only[go_sem,seval,↓reduceIte,List.map_nil]
 repeat first
  | (refine AW.qr (by kernel_rfl) ?_;simp -implicitDefEqProofs only[go_sem,seval,↓reduceIte])
  | (refine AW.region (by kernel_rfl) ?_;simp -implicitDefEqProofs only[go_sem,seval,↓reduceIte])
  | refine AW.qq ?_
  | refine AW.block ?_
  | refine AW.qT rfl ?_
  | refine AW.qF rfl ?_
  | (refine AW.skip ?_;simp -implicitDefEqProofs only[go_sem,seval,↓reduceIte])
  | (refine AW.exit ?_;simp -implicitDefEqProofs only[go_sem,seval,↓reduceIte])
  | (refine AW.ret ?_;simp -implicitDefEqProofs only[go_sem,seval,↓reduceIte];refine endK_some ?_)
 rfl
theorem textsL_spec (G:Nat→V) (hE:GExp G) (c2:Col) (t:List UInt8) (env:Sl (List UInt8 × Int)) (hf:∀ p∈env.l,fits p.2=true) :
  Spec Tryz.prog G 5 [.str t,encSl c2 2 encBi env] hNone (fun v _=>v = .bool true):=by
 have hG:=hE.ok
 refine Spec.of_code' 0 28 [.tmp 4] Tryz.func5 rfl rfl rfl rfl fun X=>?_
 by_cases hl:t.length > 300
 ·have q:decide (((t.length:Nat):Int) > 300)=true:=by rw [decide_eq_true_iff];omega
  repeat first
   | (refine AW.qr (by kernel_rfl) ?_;simp -implicitDefEqProofs only[go_sem,seval,↓reduceIte,q])
   | (refine AW.region (by kernel_rfl) ?_;simp -implicitDefEqProofs only[go_sem,seval,↓reduceIte,q])
   | refine AW.qq ?_
   | refine AW.block ?_
   | refine AW.qT rfl ?_
   | refine AW.qF rfl ?_
   | (refine AW.skip ?_;simp -implicitDefEqProofs only[go_sem,seval,↓reduceIte,q])
   | (refine AW.exit ?_;simp -implicitDefEqProofs only[go_sem,seval,↓reduceIte,q])
   | (refine AW.ret ?_;simp -implicitDefEqProofs only[go_sem,seval,↓reduceIte,q];refine endK_some ?_)
  refine CallA.pure hG (by kernel_rfl) ?_
  simp -implicitDefEqProofs only[go_sem,seval,↓reduceIte,recol_xns,recol_bis]
  refine (wWorks10_spec G hE).mono ?_
  rintro _ _ rfl
  simp -implicitDefEqProofs only[go_sem,seval,↓reduceIte,List.map_nil]
  repeat first
   | (refine AW.qr (by kernel_rfl) ?_;simp -implicitDefEqProofs only[go_sem,seval,↓reduceIte])
   | (refine AW.region (by kernel_rfl) ?_;simp -implicitDefEqProofs only[go_sem,seval,↓reduceIte])
   | refine AW.qq ?_
   | refine AW.block ?_
   | refine AW.qT rfl ?_
   | refine AW.qF rfl ?_
   | (refine AW.skip ?_;simp -implicitDefEqProofs only[go_sem,seval,↓reduceIte])
   | (refine AW.exit ?_;simp -implicitDefEqProofs only[go_sem,seval,↓reduceIte])
   | (refine AW.ret ?_;simp -implicitDefEqProofs only[go_sem,seval,↓reduceIte];refine endK_some ?_)
  rfl
 have q:decide (((t.length:Nat):Int) > 300)=false:=by rw [decide_eq_false_iff_not];omega
 repeat first
  | (refine AW.qr (by kernel_rfl) ?_;simp -implicitDefEqProofs only[go_sem,seval,↓reduceIte,q])
  | (refine AW.region (by kernel_rfl) ?_;simp -implicitDefEqProofs only[go_sem,seval,↓reduceIte,q])
  | refine AW.qq ?_
  | refine AW.block ?_
  | refine AW.qT rfl ?_
  | refine AW.qF rfl ?_
  | (refine AW.skip ?_;simp -implicitDefEqProofs only[go_sem,seval,↓reduceIte,q])
  | (refine AW.exit ?_;simp -implicitDefEqProofs only[go_sem,seval,↓reduceIte,q])
  | (refine AW.ret ?_;simp -implicitDefEqProofs only[go_sem,seval,↓reduceIte,q];refine endK_some ?_)
 refine CallA.pure hG (by kernel_rfl) ?_
 simp -implicitDefEqProofs only[go_sem,seval,↓reduceIte]
 refine (xParse_spec G hE t (by omega)).mono ?_
 rintro _ _ rfl
 have hn:=exprP_nums (s:=t)
 generalize exprP t=p at hn ⊢
 obtain ⟨ns,n1,n2⟩:=p
 simp only at hn
 simp -implicitDefEqProofs only[go_sem,seval,↓reduceIte,encFr,encXs,recol_xns]
 intro g5
 by_cases h2:n2=0
 ·subst h2
  have hn2:∀ n∈(grownS ns).l,fits n.num=true:=by rw [grownS_l];exact hn
  repeat first
   | (refine AW.qr (by kernel_rfl) ?_;simp -implicitDefEqProofs only[go_sem,seval,↓reduceIte])
   | (refine AW.region (by kernel_rfl) ?_;simp -implicitDefEqProofs only[go_sem,seval,↓reduceIte])
   | refine AW.qq ?_
   | refine AW.block ?_
   | refine AW.qT rfl ?_
   | refine AW.qF rfl ?_
   | (refine AW.skip ?_;simp -implicitDefEqProofs only[go_sem,seval,↓reduceIte])
   | (refine AW.exit ?_;simp -implicitDefEqProofs only[go_sem,seval,↓reduceIte])
   | (refine AW.ret ?_;simp -implicitDefEqProofs only[go_sem,seval,↓reduceIte];refine endK_some ?_)
  refine CallA.pure hG (by kernel_rfl) ?_
  simp -implicitDefEqProofs only[go_sem,seval,↓reduceIte,recol_xns,recol_bis]
  refine (worthL_spec G hE _ _ (grownS ns) env hn2 hf).mono ?_
  rintro _ _ rfl
  simp -implicitDefEqProofs only[go_sem,seval,↓reduceIte,List.map_nil]
  repeat first
   | (refine AW.qr (by kernel_rfl) ?_;simp -implicitDefEqProofs only[go_sem,seval,↓reduceIte])
   | (refine AW.region (by kernel_rfl) ?_;simp -implicitDefEqProofs only[go_sem,seval,↓reduceIte])
   | refine AW.qq ?_
   | refine AW.block ?_
   | refine AW.qT rfl ?_
   | refine AW.qF rfl ?_
   | (refine AW.skip ?_;simp -implicitDefEqProofs only[go_sem,seval,↓reduceIte])
   | (refine AW.exit ?_;simp -implicitDefEqProofs only[go_sem,seval,↓reduceIte])
   | (refine AW.ret ?_;simp -implicitDefEqProofs only[go_sem,seval,↓reduceIte];refine endK_some ?_)
  rfl
 ·have h2b:(n2 != 0)=true:=by simpa using h2
  repeat first
   | (refine AW.qr (by kernel_rfl) ?_;simp -implicitDefEqProofs only[go_sem,seval,↓reduceIte,h2b])
   | (refine AW.region (by kernel_rfl) ?_;simp -implicitDefEqProofs only[go_sem,seval,↓reduceIte,h2b])
   | refine AW.qq ?_
   | refine AW.block ?_
   | refine AW.qT rfl ?_
   | refine AW.qF rfl ?_
   | (refine AW.skip ?_;simp -implicitDefEqProofs only[go_sem,seval,↓reduceIte,h2b])
   | (refine AW.exit ?_;simp -implicitDefEqProofs only[go_sem,seval,↓reduceIte,h2b])
   | (refine AW.ret ?_;simp -implicitDefEqProofs only[go_sem,seval,↓reduceIte,h2b];refine endK_some ?_)
  refine CallA.pure hG (by kernel_rfl) ?_
  simp -implicitDefEqProofs only[go_sem,seval,↓reduceIte,recol_xns,recol_bis]
  refine (wWorks10_spec G hE).mono ?_
  rintro _ _ rfl
  simp -implicitDefEqProofs only[go_sem,seval,↓reduceIte,List.map_nil]
  repeat first
   | (refine AW.qr (by kernel_rfl) ?_;simp -implicitDefEqProofs only[go_sem,seval,↓reduceIte])
   | (refine AW.region (by kernel_rfl) ?_;simp -implicitDefEqProofs only[go_sem,seval,↓reduceIte])
   | refine AW.qq ?_
   | refine AW.block ?_
   | refine AW.qT rfl ?_
   | refine AW.qF rfl ?_
   | (refine AW.skip ?_;simp -implicitDefEqProofs only[go_sem,seval,↓reduceIte])
   | (refine AW.exit ?_;simp -implicitDefEqProofs only[go_sem,seval,↓reduceIte])
   | (refine AW.ret ?_;simp -implicitDefEqProofs only[go_sem,seval,↓reduceIte];refine endK_some ?_)
  rfl
end Go.Hs
end

section
namespace Go.Proofs.YtnjcehngoajnnaaGreatDoor
open Go.RowKit Go.Hs
set_option maxRecDepth 100000
def laidAll:List (String × DataW Unit):=[("math/bits.deBruijn32tab",Rows.laid_math_bits_deBruijn32tab),("math/bits.deBruijn64tab",Rows.laid_math_bits_deBruijn64tab),("internal/strconv.uint64pow10",Rows.laid_internal_strconv_uint64pow10),("unicode/utf8.acceptRanges",Rows.laid_unicode_utf8_acceptRanges),("strconv.ErrRange",Rows.laid_strconv_ErrRange),("strconv.ErrSyntax",Rows.laid_strconv_ErrSyntax),("hopscotch/lex.signs",Rows.laid_hopscotch_lex_signs),("unicode/utf8.first",Rows.laid_unicode_utf8_first)]
noncomputable def low:Nat:=(World.holding Tryz.prog default ⟨#[],#[],[]⟩).heap.size
def b32:List Int:=[0,1,28,2,29,14,24,3,30,22,20,15,25,17,4,8,31,27,13,23,21,19,16,7,26,12,18,6,11,5,10,9]
def b64:List Int:=0::1::56::2::57::49::28::3::61::58::42::50::38::29::17::4::62::47::59::36::45::43::51::22::53::39::33::30::24::18::12::5::63::55::48::27::60::41::37::16::46::35::44::21::52::32::23::11::54::26::40::15::34::20::31::10::25::14::19::9::13::8::7::6::[]
def acR:List Int:=[128,191,160,191,128,159,144,191,128,143]++List.replicate 22 0
def errR:ByteArray:={ data := #[118,97,108,117,101,32,111,117,116,32,111,102,32,114,97,110,103,101] }
def errS:ByteArray:={ data := #[105,110,118,97,108,105,100,32,115,121,110,116,97,120] }
def withCells (cs:Array Value):Obj→Obj
 | .cells _ t frozen => .cells cs t frozen
 | o=>o
noncomputable def laidWorld (os:Os):World :=
 let w0:=World.holding Tryz.prog os ⟨#[.cells #[.string errR] 328,.cells #[.string errS] 328],#[],[]⟩
 { w0 with heap:=(((((((w0.heap.modify 2 (withCells #[.iface 326 (.pointer (some ⟨low,0,none⟩))])).modify 5 (withCells #[.iface 326 (.pointer (some ⟨low+1,0,none⟩))])).modify 6
   (withCells (Lib.pow10Tab.map (Value.int .u64)).toArray)).modify 7 (withCells (b32.map (Value.int .u8)).toArray)).modify 8 (withCells (b64.map (Value.int .u8)).toArray)).modify 4 (withCells (acR.map (Value.int .u8)).toArray)).modify
   0 (withCells (signsL.map fun s=>Value.string ⟨s.toArray⟩).toArray)).modify 3 (withCells (Pinned.utf8FirstZ.map fun (n:Nat)=>Value.int .u8 (n:Int)).toArray) }
theorem laidWorld_met (os:Os) (args:Array Value):laidMet Tryz.prog laidAll ((laidWorld os).forCall (fun _ _=>0) ⟨#[],args,[]⟩).memory :=
 laidMet_of_run' 8 (by kernel_rfl) (by kernel_rfl)
end Go.Proofs.YtnjcehngoajnnaaGreatDoor
end

section
namespace Go.Proofs.YtnjcehngoajnnaaGreatDoor
open Go.RowKit Go.Hs
set_option maxRecDepth 100000
theorem laidMet_tail {P:Program} {W:World} {x:String × DataW Unit} {r:List (String × DataW Unit)} (h:laidMet P (x::r) W):laidMet P r W:=by
 obtain ⟨n,d⟩:=x
 obtain ⟨ps,⟨g0,t0,cs0,f0,p0,q0,hg0,ht0,hv0,hd0,hq,e0⟩,hnd,hrows⟩:=h
 subst e0
 exact ⟨q0,hq,(List.nodup_append.1 hnd).2.1,fun b off hm=>hrows b off (List.mem_append.2 (.inr hm))⟩
noncomputable def gE (m:Int):Nat→V:=fun g=>if g=2 then .view .old (.iface 326 (.view .old (.agg []))) else if g=6 then .view .old (.agg (Lib.pow10Tab.map (V.int .u64)))
 else if g=0 then .view .old (.agg (signsL.map V.str)) else if g=1 then .view .old (.int .i64 m) else .top
theorem recolL_ints (f:Col→Col):∀ l:List Int,V.recolL f (l.map (V.int .u64))=l.map (V.int .u64)
 | []=>rfl
 | x::r=>by simp only [List.map_cons,V.recolL];rw [recolL_ints f r];rfl
theorem recolL_strs (f:Col→Col):∀ l:List (List UInt8),V.recolL f (l.map V.str)=l.map V.str
 | []=>rfl
 | x::r=>by simp only [List.map_cons,V.recolL];rw [recolL_strs f r];rfl
theorem gE_ok (m:Int):GExp (gE m) where
 ok:=fun g=>by
  unfold gE
  split
  ·exact ⟨rfl,.view _ _ fun x hx=>by simp [V.cells] at hx;subst hx;exact .iface _ _ (.view _ _ fun x hx=>by simp [V.cells] at hx)⟩
  ·split
   ·refine ⟨by simp only [V.recol,Col.ent,recolL_ints],.view _ _ fun x hx=>?_⟩
    obtain ⟨n,_,rfl⟩:=List.mem_map.1 hx
    exact .int _ _
   ·split
    ·refine ⟨by simp only [V.recol,Col.ent,recolL_strs],.view _ _ fun x hx=>?_⟩
     obtain ⟨n,_,rfl⟩:=List.mem_map.1 hx
     exact .str _
    ·split
     ·exact ⟨rfl,.view _ _ fun x hx=>by simp [V.cells] at hx;subst hx;exact .int _ _⟩
     ·exact ⟨rfl,.top⟩
 er:=⟨_,_,_,rfl⟩
 tab:=⟨_,rfl⟩
 sg:=⟨_,rfl⟩
 ml:=⟨_,m,rfl⟩
theorem gER:Tryz.prog.globalNamed "strconv.ErrRange" = some 2:=by kernel_rfl
theorem gERType:(Tryz.prog.globals[2]?).map (·.type)=some 279:=by kernel_rfl
theorem cells111:Tryz.prog.cellsOf 328=1:=by kernel_rfl
theorem cells9:Tryz.prog.cellsOf 9=1:=by kernel_rfl
theorem star : "*" ++ "errors.errorString" = "*errors.errorString" := by decide
theorem row109 (u:TypeId) (h:Tryz.prog.typeName? 3 u=some "*errors.errorString"):u=326 :=
 typeName_ptr_named (nm := "errors.errorString") (by rw [star];kernel_rfl) (by kernel_rfl) (by decide) u (by rw [star];exact h)
theorem gTab:Tryz.prog.globalNamed "internal/strconv.uint64pow10" = some 6:=by kernel_rfl
theorem gTabType:∃ t n,(Tryz.prog.globals[6]?).map (·.type)=some t∧Tryz.prog.underlying t=some (.array n 262)∧Tryz.prog.cellsOf t=n∧n=20:=by
 refine ⟨(((Tryz.prog.globals[6]?).map (·.type)).getD 0),20,by kernel_rfl,by kernel_rfl,by kernel_rfl,rfl⟩
theorem laid_tab {W:World} (h:laidMet Tryz.prog laidAll W):Lib.TabIs Tryz.prog W "internal/strconv.uint64pow10" .u64 Lib.pow10Tab:=by
 obtain ⟨t,n,h1,h2,h3,rfl⟩:=gTabType
 have e:(Rows.laid_internal_strconv_uint64pow10:DataW Unit)=Lib.tabData .u64 Lib.pow10Tab:=by rfl
 have h4:=laidMet_tail (laidMet_tail h)
 rw [e] at h4
 exact Lib.tabIs_of_head gTab h1 h2 Tryz.underlying262 (by kernel_rfl) h3 h4
theorem laid_err {W:World} (h:laidMet Tryz.prog laidAll W):∃ b off,W.cell? ⟨2,0,none⟩=some (.iface 326 (.pointer (some ⟨b,off,none⟩))):=by
 obtain ⟨a,s,h1,h2,_,_⟩:=laid_sentinel (laidMet_tail (laidMet_tail (laidMet_tail (laidMet_tail h)))) gER gERType Tryz.underlying279 row109 Tryz.underlying326 Tryz.underlying328 rfl rfl Tryz.underlying9 cells111 cells9
 have h0:=World.var?_cell gER h1 0
 have hs:=World.cell?_spot h2
 obtain ⟨b,off,sp⟩:=a
 have hs:sp=none:=hs
 subst hs
 exact ⟨b,off,by simpa using h0⟩
def strData {H:Type} (zs:List (List UInt8)):DataW H := .agg (zs.map fun z => .lit (.string z))
theorem cells_of_strs {H:Type} {enc:TypeId × Value→H} {P:Program} {w:World} {base:Nat} {sp:Nat→Bool} {held:Bool} {fuel:Nat} {t e:TypeId} {n:Nat} {cs:List Value} {zs:List (List UInt8)} {p:List MemPlace}
  (ht:P.underlying t=some (.array n e)) (he:P.underlying e=some .string) (hce:P.cellsOf e=1) (hct:P.cellsOf t=n)
  (h:DataW.trod enc P w base sp held fuel t cs=some (strData zs,p)):cs.length=zs.length∧∀ i (hi:i<zs.length),∃ s:ByteArray,cs[i]? = some (.string s)∧s.data.toList=zs[i]:=by
 cases fuel with
 | zero=>simp [DataW.trod] at h
 | succ fuel =>
  simp only [DataW.trod,ht,hce,hct,Nat.mul_one] at h
  split at h
  ·rename_i hl
   obtain ⟨xs,hm,hx⟩:=Option.map_eq_some_iff.1 h
   have hxs:xs.map (·.1)=zs.map fun z=>(DataW.lit (.string z):DataW H):=by
    have:=congrArg Prod.fst hx
    simpa [strData] using this
   have hxl:xs.length=n:=by simpa using Lib.mapM_length hm
   have hzl:zs.length=n:=by
    have:=congrArg List.length hxs
    simp at this
    omega
   refine ⟨by omega,fun i hi=>?_⟩
   have hin:i<n:=by omega
   obtain ⟨b,hb,hf⟩:=Lib.mapM_at hm i i (by simp [hin])
   obtain ⟨z,hc,rfl,_⟩:=DataW.trod_string he hf
   have h1:cs[i]? = some (.string z):=by
    have:=congrArg (·[0]?) hc
    simpa [List.getElem?_take,List.getElem?_drop] using this
   have h2:(xs.map (·.1))[i]? = some (DataW.lit (.string z.data.toList):DataW H):=by simp [hb]
   rw [hxs,List.getElem?_map,List.getElem?_eq_getElem hi] at h2
   refine ⟨z,h1,?_⟩
   have h3:(DataW.lit (.string zs[i]):DataW H) = .lit (.string z.data.toList):=Option.some.inj h2
   injection h3 with h3
   injection h3 with h3
   exact h3.symm
  ·cases h
theorem gSg:Tryz.prog.globalNamed "hopscotch/lex.signs" = some 0:=by kernel_rfl
theorem gSgType:(Tryz.prog.globals[0]?).map (·.type)=some 212:=by kernel_rfl
theorem laid_signs {W:World} (h:laidMet Tryz.prog laidAll W):∃ cs:Array Value,W.var? Tryz.prog "hopscotch/lex.signs" = some cs∧cs.size=14∧∀ i (hi:i<signsL.length),∃ s:ByteArray,cs[i]? = some (.string s)∧s.data.toList=signsL[i]:=by
 have e:(Rows.laid_hopscotch_lex_signs:DataW Unit)=strData signsL:=by rfl
 have h4:=laidMet_tail (laidMet_tail (laidMet_tail (laidMet_tail (laidMet_tail (laidMet_tail h)))))
 rw [e] at h4
 obtain ⟨ps,⟨g',t',cs,fuel,p,q,hg',ht',hvar,hd,_,_⟩,_⟩:=h4
 obtain rfl:=Option.some.inj (gSg.symm.trans hg')
 obtain rfl:=Option.some.inj (gSgType.symm.trans ht')
 obtain ⟨h1,h2⟩:=cells_of_strs Tryz.underlying212 Tryz.underlying9 cells9 (by kernel_rfl) hd
 refine ⟨_,hvar,(by simpa using h1:cs.size=signsL.length).trans rfl,fun i hi=>?_⟩
 obtain ⟨s,h3,h4⟩:=h2 i hi
 exact ⟨s,by simpa using h3,h4⟩
theorem maxlen_of {W:World} (h:W.ShapedOpen Tryz.prog):∃ m,W.cell? ⟨1,0,none⟩=some (.int .i64 m):=by
 obtain ⟨cs,hh,hs,hr⟩:=h.1 1 #[.int .i64 0] 3 (of_decide_eq_true (by kernel_rfl)) (by kernel_rfl)
 obtain ⟨ts,hts,_,hall⟩:=hr (by kernel_rfl)
 rw [show Tryz.prog.cellTypes Tryz.prog.depth 3=some [3] by kernel_rfl] at hts
 cases hts
 have h1:0<cs.size:=by rw [hs];decide
 obtain ⟨u,hu',hok⟩:=hall 0 cs[0] (by simp [h1])
 have:u=3:=by simpa using hu'.symm
 subst this
 have hcell:W.cell? ⟨1,0,none⟩=some cs[0]:=by simp [World.cell?,hh,h1]
 rw [hcell]
 unfold Cell.ok at hok
 rw [Tryz.underlying3] at hok
 cases hv:cs[0]<;>rw [hv] at hok<;>first | (obtain ⟨rfl,_⟩:=hok;exact ⟨_,rfl⟩) | simp at hok
theorem laid_G {W:World} (h:laidMet Tryz.prog laidAll W) (hS:W.ShapedOpen Tryz.prog):∃ m,∀ g,RelG (Cx.ofW W) g (gE m g):=by
 obtain ⟨m,hml⟩:=maxlen_of hS
 refine ⟨m,fun g=>?_⟩
 unfold gE
 split
 ·rename_i hg
  subst hg
  obtain ⟨b,off,h1⟩:=laid_err h
  refine ⟨?_,trivial⟩
  refine .view .old _ 2 0 (fun _ => .iface 326 (.pointer (some ⟨b,off,none⟩))) (fun i hi=>?_) (fun i hi=>?_)
  ·have:i=0:=by simpa [V.cells] using hi
   subst this
   refine ⟨by show (W.cell? _).isSome=true;rw [h1];rfl,World.block_lt_of_cell? _ _ h1,h1,rfl⟩
  ·have:i=0:=by simpa [V.cells] using hi
   subst this
   exact .iface _ _ _ (.view .old _ b off (fun _ => .nilIface) (fun i hi=>by simp [V.cells] at hi) (fun i hi=>by simp [V.cells] at hi))
 ·split
  ·rename_i hg
   subst hg
   have ht:=laid_tab h
   have hc:∀ i (hi:i<Lib.pow10Tab.length),W.cell? ⟨6,i,none⟩=some (.int .u64 (Lib.pow10Tab.getD i 0)):=fun i hi=>ht.cell gTab i hi
   have hlen:Lib.pow10Tab.length=20:=Lib.pow10Tab_length
   have hlt:6<W.heap.size:=World.block_lt_of_cell? _ _ (hc 0 (by omega))
   have hv:W.var? Tryz.prog "internal/strconv.uint64pow10" = some (Lib.pow10Tab.map fun z=>Value.int .u64 z).toArray:=ht
   refine ⟨?_,?_⟩
   ·refine .view .old _ 6 0 (fun i => .int .u64 (Lib.pow10Tab.getD i 0)) (fun i hi=>?_) (fun i hi=>?_)
    ·have hi:i<Lib.pow10Tab.length:=by simpa [V.cells] using hi
     rw [Nat.zero_add]
     exact ⟨by show (W.cell? _).isSome=true;rw [hc i hi];rfl,hlt,hc i hi,rfl⟩
    ·have hi':i<Lib.pow10Tab.length:=by simpa [V.cells] using hi
     have key:∀ v,v=V.int .u64 (Lib.pow10Tab.getD i 0)→Rel (Cx.ofW W) (Value.int .u64 (Lib.pow10Tab.getD i 0)) v:=fun v e=>by rw [e];exact .int _ _
     exact key _ (by simp [V.cells,List.getD,hi'])
   ·refine ⟨hlt,?_⟩
    unfold World.var? at hv
    rw [gTab] at hv
    have hv:(match W.heap[6]? with | some (Obj.cells cs _ _)=>some cs | _=>none)=some (Lib.pow10Tab.map fun z=>Value.int .u64 z).toArray:=hv
    split at hv
    ·rename_i cs t fr hh
     cases hv
     exact ⟨_,t,fr,hh,by simp⟩
    ·cases hv
  ·split
   ·rename_i hg
    subst hg
    obtain ⟨cs,hv,hsz,hcs⟩:=laid_signs h
    have h0:=fun i=>World.var?_cell gSg hv i
    have hc:∀ i (hi:i<signsL.length),∃ s:ByteArray,W.cell? ⟨0,i,none⟩=some (.string s)∧s.data.toList=signsL[i]:=fun i hi=>by
     obtain ⟨s,h1,h2⟩:=hcs i hi
     exact ⟨s,by rw [h0 i];exact h1,h2⟩
    have hlt:0<W.heap.size:=by
     obtain ⟨s,h1,_⟩:=hc 0 (by decide)
     exact World.block_lt_of_cell? _ _ h1
    refine ⟨?_,?_⟩
    ·refine .view .old _ 0 0 (fun i=>(cs[i]?).getD undef) (fun i hi=>?_) (fun i hi=>?_)
     ·have hi:i<signsL.length:=by simpa [V.cells] using hi
      obtain ⟨s,h1,_⟩:=hcs i hi
      rw [Nat.zero_add,h1]
      have h2:W.cell? ⟨0,i,none⟩=some (.string s):=by rw [h0 i];exact h1
      exact ⟨by show (W.cell? _).isSome=true;rw [h2];rfl,hlt,h2,rfl⟩
     ·have hi':i<signsL.length:=by simpa [V.cells] using hi
      obtain ⟨s,h1,h2⟩:=hcs i hi'
      rw [h1]
      have key:∀ v,v=V.str signsL[i]→Rel (Cx.ofW W) (Value.string s) v:=fun v e=>by rw [e];exact .str _ _ h2
      exact key _ (by simp [V.cells])
    ·refine ⟨hlt,?_⟩
     unfold World.var? at hv
     rw [gSg] at hv
     have hv:(match W.heap[0]? with | some (Obj.cells cs _ _)=>some cs | _=>none)=some cs:=hv
     split at hv
     ·rename_i cs' t fr hh
      cases hv
      exact ⟨_,t,fr,hh,by rw [hsz];rfl⟩
     ·cases hv
   ·split
    ·rename_i hg
     subst hg
     refine ⟨?_,trivial⟩
     refine .view .old _ 1 0 (fun _ => .int .i64 m) (fun i hi=>?_) (fun i hi=>?_)
     ·have:i=0:=by simpa [V.cells] using hi
      subst this
      refine ⟨by show (W.cell? _).isSome=true;rw [hml];rfl,World.block_lt_of_cell? _ _ hml,hml,rfl⟩
     ·have:i=0:=by simpa [V.cells] using hi
      subst this
      exact .int _ _
    ·exact ⟨.top _,trivial⟩
end Go.Proofs.YtnjcehngoajnnaaGreatDoor
end

section
namespace Go.Proofs.YtnjcehngoajnnaaGreatDoor
open Go.RowKit Go.Hs Go.ChangeShapes Go.WideShapes Go.ChangeAt
open Go.ChangeMaps (open_string shut_string)
set_option maxRecDepth 100000
theorem reads_str (W:World):Reads Tryz.prog W 9 1 (fun s:List UInt8=>[V.str s]):=by
 refine ⟨by kernel_rfl,fun _=>rfl,fun enc held fuel cs x h=>?_⟩
 obtain ⟨s,rfl,_,_⟩:=DataW.trod_string Tryz.underlying9 h
 exact ⟨s.data.toList,RelC.cons rfl (.str _ _ rfl) RelC.nil⟩
theorem inK_of_wf {k:IntKind} {n:Int} (h:(Lit.int k n).wf=true):InK k n:=by
 simpa [Lit.wf,InK] using h
variable {W:World} {H:Type} {enc:TypeId × Value→H} {b0:Nat} {v:Value} {d:DataW H} {ps:List MemPlace}
theorem argS (hv:Value.okWide Tryz.prog W .any b0 9 v) (h:DataW.Trod enc Tryz.prog W 0 (fun _=>true) true 9 v d ps):∃ x:List UInt8,Rel (Cx.ofW W) v (.str x):=by
 obtain ⟨s,rfl,_,_,_⟩:=open_string Tryz.underlying9 hv h
 exact ⟨_,.str s _ rfl⟩
theorem own:ownKnob Tryz.prog.godebug=none:=by kernel_rfl
theorem laidOut:laidOutB Tryz.prog=true:=by kernel_rfl
theorem lift_shaped {a:Assume} {C:Checked} {os:Os} {f:FuncId} {fn:Func} {H:Type} {enc:TypeId × Value→H} {s:ChangeSpec} {conds:List PathCond} {apart fresh handsOn again:Bool} {X:World→Array Value→Prop}
  (hX:∀ (w w':World) (args:Array Value),w.heap=w'.heap→X w args→X w' args)
  (ownk:ownKnob C.prog.godebug=none) (started:os.Started) (noInit:C.prog.inits.idxOf? f=none) (hfn:C.prog.funcs[f]? = some fn)
  (witness:∃ (w:World) (tape:Tape) (i:Input),w.os=os∧(w.forCall tape i).Shaped C.prog∧i.vars=[]∧Input.okWide C.prog (w.forCall tape i) .any w.heap.size f i ∧
   ((s.pre enc C.prog fn conds apart (w.forCall tape i).memory i.args∧X (w.forCall tape i).memory i.args)∧sizedMet enc C.prog fn (OpenSpec.ofChange s) apart (w.forCall tape i).memory i.args)∧a.holds C.prog (lone (Frame.enter C.prog f i.args .normal) [] (w.forCall tape i)))
  (contract:∀ (W:World) (base:Nat) (args:Array Value) (ds gs:List (DataW H)) (before:List MemPlace),W.ShapedOpen C.prog →
   (∀ (j:Nat) t v,fn.params[j]? = some t→args[j]? = some v→Value.okWide C.prog W .any base t v) →
   DataW.Whole enc C.prog fn.params.toList s.vars apart W args.toList ds gs before→X W args →
   Calls C.prog f args W fun e W'=>∃ v,e = .returned v∧s.post enc C.prog fn apart fresh handsOn again W args v W') :
  ReturnsInHanded a C os f .any (fun w args=>(s.pre enc C.prog fn conds apart w args∧X w args)∧sizedMet enc C.prog fn (OpenSpec.ofChange s) apart w args) (s.post enc C.prog fn apart fresh handsOn again):=by
 refine returnsInHanded_of_calls ownk started noInit witness ?_
 intro w tape i _ hsh _ hok hpre _
 obtain ⟨_,_,_,fn',hfn',_,_,_,_,hval⟩:=hok
 have e:fn'=fn:=Option.some.inj (hfn'.symm.trans hfn)
 subst e
 obtain ⟨⟨⟨ds,gs,before,hw,_⟩,hx⟩,_⟩:=hpre
 have hw':=DataW.Whole.of_heap (w':=w.forCall tape i) (by rfl) hw
 refine (contract (w.forCall tape i) w.heap.size i.args ds gs before hsh hval hw' (hX _ _ _ (by rfl) hx)).mono fun e W' ⟨v,he,hp⟩=>?_
 subst he
 exact ChangeSpec.post_blind hp
end Go.Proofs.YtnjcehngoajnnaaGreatDoor
end

section
namespace Go.Proofs.YtnjcehngoajnnaaGreatDoor
open Go.RowKit Go.Hs Go.ChangeShapes Go.WideShapes Go.ChangeAt
set_option maxRecDepth 100000
abbrev XNb:={ n:XN // InK .i64 n.num }
theorem reads_xnb (W:World):Reads Tryz.prog W 59 6 (fun n:XNb=>(encXN n.1).cells):=by
 refine ⟨by kernel_rfl,fun _=>rfl,fun enc held fuel cs x h=>?_⟩
 obtain ⟨xs,n,_,_,hl,hlen,hf⟩:=DataW.trod_struct Tryz.underlying59 h
 have e43:Tryz.prog.cellsOf 59=6:=by kernel_rfl
 rw [e43] at hl
 have hx:xs.length=6:=hlen
 have rI:Reads Tryz.prog W 2 1 (fun n:{ n:Int // InK .i64 n }=>[V.int .i64 n.1]):=by
  refine ⟨by kernel_rfl,fun _=>rfl,fun enc held fuel cs x h=>?_⟩
  obtain ⟨n,rfl,_,hw⟩:=DataW.trod_int Tryz.underlying2 h
  exact ⟨⟨n,inK_of_wf hw⟩,RelC.cons rfl (.int _ _) RelC.nil⟩
 obtain ⟨op,h0⟩:=Reads.field (Reads.int (W:=W) Tryz.underlying5 (by kernel_rfl)) (i:=0) (hf 0 _ rfl) (by omega)
 obtain ⟨num,h1⟩:=Reads.field rI (i:=1) (hf 1 _ rfl) (by omega)
 obtain ⟨name,h2⟩:=Reads.field (reads_str W) (i:=2) (hf 2 _ rfl) (by omega)
 obtain ⟨a,h3⟩:=Reads.field (Reads.int (W:=W) Tryz.underlying3 (by kernel_rfl)) (i:=3) (hf 3 _ rfl) (by omega)
 obtain ⟨b,h4⟩:=Reads.field (Reads.int (W:=W) Tryz.underlying3 (by kernel_rfl)) (i:=4) (hf 4 _ rfl) (by omega)
 obtain ⟨c,h5⟩:=Reads.field (Reads.int (W:=W) Tryz.underlying3 (by kernel_rfl)) (i:=5) (hf 5 _ rfl) (by omega)
 match cs,hl with
 | [c0,c1,c2,c3,c4,c5],_=>exact ⟨⟨⟨op,num.1,name,a,b,c⟩,num.2⟩,h0.append (h1.append (h2.append (h3.append (h4.append h5))))⟩
theorem reads_xnbs (W:World):Reads Tryz.prog W 22 1 (fun s:Sl XNb=>[encSl .any 6 (fun n:XNb=>encXN n.1) s]) :=
 Reads.slice Tryz.underlying22 (by kernel_rfl) (by decide) (reads_xnb W)
theorem reads_exprb (W:World):Reads Tryz.prog W 24 1 (fun s:Sl XNb=>(V.agg [encSl .any 6 (fun n:XNb=>encXN n.1) s]).cells):=by
 refine ⟨by kernel_rfl,fun _=>rfl,fun enc held fuel cs x h=>?_⟩
 obtain ⟨xs,n,_,_,hl,hlen,hf⟩:=DataW.trod_struct Tryz.underlying24 h
 have e24:Tryz.prog.cellsOf 24=1:=by kernel_rfl
 rw [e24] at hl
 have hx:xs.length=1:=hlen
 obtain ⟨s,h0⟩:=Reads.field (reads_xnbs W) (i:=0) (hf 0 _ rfl) (by omega)
 match cs,hl with
 | [c0],_=>exact ⟨s,h0⟩
def unX:Sl XNb→Sl XN
 | .nil => .nil
 | .mk b l => .mk b (l.map (·.1))
theorem unX_in (s:Sl XNb):∀ n∈(unX s).l,InK .i64 n.num:=by
 cases s with
 | nil=>intro x hx;cases hx
 | mk b l =>
  intro x hx
  obtain ⟨y,_,rfl⟩:=List.mem_map.1 hx
  exact y.2
theorem unX_enc (c:Col) (s:Sl XNb):encSl c 6 (fun n:XNb=>encXN n.1) s=encSl c 6 encXN (unX s):=by
 cases s with
 | nil=>rfl
 | mk b l=>simp only [encSl,unX,List.map_map];rfl
variable {W:World} {H:Type} {enc:TypeId × Value→H} {b0:Nat} {v:Value} {d:DataW H} {ps:List MemPlace}
theorem argE (hv:Value.okWide Tryz.prog W .any b0 24 v) (h:DataW.Trod enc Tryz.prog W 0 (fun _=>true) true 24 v d ps):∃ x:Sl XN,(∀ n∈x.l,InK .i64 n.num)∧Rel (Cx.ofW W) v (.agg [encSl .old 6 encXN x]):=by
 obtain ⟨fuel,h⟩:=h
 obtain ⟨x,hx⟩:=(reads_exprb W).2.2 enc true fuel _ _ h
 have key:Rel (Cx.ofW W) v (.agg [encSl .any 6 encXN (unX x)]):=by
  rw [← unX_enc]
  unfold Value.okWide at hv
  rw [Tryz.underlying24] at hv
  obtain ⟨cs,rfl,_,_⟩:=hv
  have hx':RelC (Cx.ofW W) (Value.agg cs).cells.toList [encSl .any 6 (fun n:XNb=>encXN n.1) x]:=hx
  exact Rel.of_aggC hx'
 have h2:=key.ofW_old
 refine ⟨unX x,unX_in x,?_⟩
 simpa only [go_sem,recol_xns,List.map_cons,List.map_nil] using h2
end Go.Proofs.YtnjcehngoajnnaaGreatDoor
end

section
namespace Go.Proofs.YtnjcehngoajnnaaGreatDoor
open Go.RowKit Go.Hs Go.ChangeShapes Go.WideShapes Go.ChangeAt
set_option maxRecDepth 100000
theorem fits_inK {n:Int} (h:InK .i64 n):fits n=true:=decide_eq_true h
abbrev BIb:={ p:List UInt8 × Int // InK .i64 p.2 }
theorem reads_bib (W:World):Reads Tryz.prog W 55 2 (fun p:BIb=>(encBi p.1).cells):=by
 refine ⟨by kernel_rfl,fun _=>rfl,fun enc held fuel cs x h=>?_⟩
 obtain ⟨xs,n,_,_,hl,hlen,hf⟩:=DataW.trod_struct Tryz.underlying55 h
 have e43:Tryz.prog.cellsOf 55=2:=by kernel_rfl
 rw [e43] at hl
 have hx:xs.length=2:=hlen
 have rI:Reads Tryz.prog W 2 1 (fun n:{ n:Int // InK .i64 n }=>[V.int .i64 n.1]):=by
  refine ⟨by kernel_rfl,fun _=>rfl,fun enc held fuel cs x h=>?_⟩
  obtain ⟨n,rfl,_,hw⟩:=DataW.trod_int Tryz.underlying2 h
  exact ⟨⟨n,inK_of_wf hw⟩,RelC.cons rfl (.int _ _) RelC.nil⟩
 obtain ⟨name,h0⟩:=Reads.field (reads_str W) (i:=0) (hf 0 _ rfl) (by omega)
 obtain ⟨num,h1⟩:=Reads.field rI (i:=1) (hf 1 _ rfl) (by omega)
 match cs,hl with
 | [c0,c1],_=>exact ⟨⟨(name,num.1),num.2⟩,h0.append h1⟩
theorem reads_bibs (W:World):Reads Tryz.prog W 25 1 (fun s:Sl BIb=>[encSl .any 2 (fun p:BIb=>encBi p.1) s]) :=
 Reads.slice Tryz.underlying25 (by kernel_rfl) (by decide) (reads_bib W)
def unB:Sl BIb→Sl (List UInt8 × Int)
 | .nil => .nil
 | .mk b l => .mk b (l.map (·.1))
theorem unB_in (s:Sl BIb):∀ n∈(unB s).l,fits n.2=true:=by
 cases s with
 | nil=>intro x hx;cases hx
 | mk b l =>
  intro x hx
  obtain ⟨y,_,rfl⟩:=List.mem_map.1 hx
  exact fits_inK y.2
theorem unB_enc (c:Col) (s:Sl BIb):encSl c 2 (fun p:BIb=>encBi p.1) s=encSl c 2 encBi (unB s):=by
 cases s with
 | nil=>rfl
 | mk b l=>simp only [encSl,unB,List.map_map];rfl
variable {W:World} {H:Type} {enc:TypeId × Value→H} {b0:Nat} {v:Value} {d:DataW H} {ps:List MemPlace}
theorem argN (hv:Value.okWide Tryz.prog W .any b0 25 v) (h:DataW.Trod enc Tryz.prog W 0 (fun _=>true) true 25 v d ps):∃ x:Sl (List UInt8 × Int),(∀ p∈x.l,fits p.2=true)∧Rel (Cx.ofW W) v (encSl .old 2 encBi x):=by
 obtain ⟨fuel,h⟩:=h
 obtain ⟨x,hx⟩:=(reads_bibs W).2.2 enc true fuel _ _ h
 have key:Rel (Cx.ofW W) v (encSl .any 2 encBi (unB x)):=by
  rw [← unB_enc]
  unfold Value.okWide at hv
  rw [Tryz.underlying25] at hv
  have hc:v.cells = #[v]:=by
   unfold Cell.okWide Cell.ok at hv
   rw [Tryz.underlying25] at hv
   cases v<;>first | rfl | (simp at hv)
  rw [hc] at hx
  exact hx.rel 0 (by simp) (by simp)
 have h2:=key.ofW_old
 refine ⟨unB x,unB_in x,?_⟩
 simpa only [go_sem,recol_bis,List.map_cons,List.map_nil] using h2
theorem fits_all {x:Sl XN} (h:∀ n∈x.l,InK .i64 n.num):∀ n∈x.l,fits n.num=true:=fun n hn=>fits_inK (h n hn)
end Go.Proofs.YtnjcehngoajnnaaGreatDoor
end

section
namespace Go.Proofs.YtnjcehngoajnnaaGreatDoor
open Go.RowKit Go.Hs Go.ChangeShapes Go.WideShapes Go.ChangeAt
set_option maxRecDepth 100000
set_option maxHeartbeats 4000000
theorem sfMaps:mapsRowed Tryz.prog=true:=by kernel_rfl
theorem sfStops:(Tryz.prog.stops==[])=true:=by kernel_rfl
theorem sfKnobs:(Tryz.prog.stopKnobs==[])=true:=by kernel_rfl
theorem sfKeys:(Rows.evalTextsRow.plainKeys==Tryz.prog.plainKeys)=true:=by kernel_rfl
theorem sfHeard:Tryz.prog.stopsHeard=true:=by kernel_rfl
theorem sfEnter:Tryz.prog.mayEnter=true:=by kernel_rfl
theorem sfLifted:(Rows.evalTextsRow.lifted==Tryz.prog.liftsFinal)=true:=by kernel_rfl
theorem sfMake:(Tryz.prog.make==some Rows.evalTextsRow.make)=true:=by kernel_rfl
end Go.Proofs.YtnjcehngoajnnaaGreatDoor
end
