/- Part 39 of the proof of a statement of seat YtpoiceejhcpnaaaGreatDoor: HsEExprDep2 HsEPrtR HsEExprDep4 HsExprNm HsEExprFr HsEExprPa HsEPrtP HsEPrtL HsEPrtWk HsEExpL4 HsExprSub HsTypLaw HsEExpLaid HsEExpLaidG HsEExpArgs HsEExpArgs2. -/
import Derived.Test.YtpoiceejhcpnaaaGreatDoorPart38
import Derived.Test.YtpoiceejhcpnaaaGreatDoorPart34
import Derived.Test.YtpoiceejhcpnaaaGreatDoorPart36
import Derived.Test.YtpoiceejhcpnaaaGreatDoorPart37
import Derived.Test.YtpoiceejhcpnaaaGreatDoorPart35
import Derived.Test.YtpoiceejhcpnaaaGreatDoorPart30
import Derived.Test.YtpoiceejhcpnaaaGreatDoorPart33
import Derived.Test.YtpoiceejhcpnaaaGreatDoorRows
import Derived.ProofKit
import Derived.OpenShut
import Derived.LaidLaws
import Derived.Stop.LaidErr
import Derived.Lib.LaidTab
import Derived.Handed
import Derived.Laws.StructEq
import Derived.ChangeMaps5
set_option linter.unusedSimpArgs false
set_option linter.unusedVariables false
section
namespace Go.Hs
open Go.Proofs
set_option maxRecDepth 10000
def encPc (p:Int × Int):V := .agg [.int .i64 p.1,.int .i64 p.2]
theorem encPc_cells (p:Int × Int):(encPc p).cells.length=2:=rfl
theorem depGo_drop {l:List XN} {k:Nat} {n:XN} (h:l[k]? = some n) (i:Int) (opn:List (Int × Int)):depGo (l.drop k) i opn=match depStep i n opn with | some o=>depGo (l.drop (k+1)) (i+1) o | none=>none:=by
 obtain ⟨h1,h2⟩:=List.getElem?_eq_some_iff.1 h
 rw [List.drop_eq_getElem_cons h1,h2];rfl
theorem parts_tab {op:Int} (h1:1≤op) (h2:op≤22):tabC[op.toNat * 3+2]? = some (.int .i64 (partsOf op:Nat)):=by
 obtain ⟨n,rfl⟩:∃ n:Nat,op=n:=⟨op.toNat,by omega⟩
 rw [Int.toNat_natCast,tabC_get n (by omega) 2 (by decide)]
 have:∀ n:Nat,n<23→1≤n→(tabL.getD n ⟨[],0,0⟩).parts=(partsOf n:Nat):=by decide +kernel
 rw [← this n (by omega) (by omega)];rfl
theorem flat_pc:∀ (l:List (Int × Int)) (i:Nat) (x:Int × Int),l[i]? = some x→((flat (l.map encPc)).drop (i * 2)).take 2=[.int .i64 x.1,.int .i64 x.2]
 | [],i,x,h=>by simp at h
 | y::r,0,x,h=>by
  have:y=x:=by simpa using h
  subst this;rfl
 | y::r,i+1,x,h=>by
  have ih:=flat_pc r i x (by simpa using h)
  rw [← ih,List.map_cons]
  have:flat (encPc y::r.map encPc) = .int .i64 y.1 :: .int .i64 y.2::flat (r.map encPc):=rfl
  rw [this,show (i+1) * 2=i * 2+1+1 by omega,List.drop_succ_cons,List.drop_succ_cons]
def plC (l:List (Int × Int)):List V:=(places3 l).map (V.int .i64)
theorem plC_set:∀ (l:List (Int × Int)) (j:Nat) (x:Int × Int),l[j]? = some x→j<3→Hs.setAt (plC (l.take j)) j [.int .i64 x.1]=plC (l.take (j+1)):=by
 intro l j x h hj
 match l,j,h,hj with
 | a::r,0,h,_ =>
  have:a=x:=by simpa using h
  subst this;rfl
 | a::b::r,1,h,_ =>
  have:b=x:=by simpa using h
  subst this;rfl
 | a::b::c::r,2,h,_ =>
  have:c=x:=by simpa using h
  subst this;rfl
theorem deepest_succ (l:List (Int × Int)) (j:Nat) (x:Int × Int) (h:l[j]? = some x):deepest (l.take (j+1))=max (deepest (l.take j)) x.2:=by
 unfold deepest
 rw [List.take_add_one,h,List.foldl_append];rfl
theorem plC_len (l:List (Int × Int)):(plC l).length=3:=rfl
theorem partsOf_le (op:Int):partsOf op≤3:=by
 unfold partsOf
 split
 ·omega
 ·split
  ·omega
  ·split<;>omega
theorem deepest_le {l:List (Int × Int)} {k:Int} (hk:0≤k) (h:∀ y∈l,(0:Int)≤y.2∧y.2≤k):0≤deepest l∧deepest l≤k:=by
 have:∀ (l:List (Int × Int)) (d:Int),0≤d→d≤k→(∀ y∈l,(0:Int)≤y.2∧y.2≤k)→0≤l.foldl (fun d p=>max d p.2) d∧l.foldl (fun d p=>max d p.2) d≤k:=by
  intro l
  induction l with
  | nil=>intro d h1 h2 _;exact ⟨h1,h2⟩
  | cons y r ih =>
   intro d h1 h2 h3
   have:=h3 y (by simp)
   exact ih (max d y.2) (by omega) (by omega) fun z hz=>h3 z (by simp [hz])
 exact this l 0 (Int.le_refl _) hk h
theorem flat_take (l:List (Int × Int)) (n:Nat):(flat (l.map encPc)).take (n * 2)=flat ((l.take n).map encPc):=by
 induction l generalizing n with
 | nil=>simp [flat]
 | cons y r ih =>
  cases n with
  | zero=>simp [flat]
  | succ n =>
   have e:flat ((y::r).map encPc) = .int .i64 y.1 :: .int .i64 y.2::flat (r.map encPc):=rfl
   rw [e,List.take_succ_cons,List.map_cons,show (n+1) * 2=n * 2+1+1 by omega,List.take_succ_cons,List.take_succ_cons,ih];rfl
theorem xDepth_spec (G:Nat→V) (hE:GExp G) (c:Col) (s:Sl XN) (hs:s.l.length<1000000) (hnm:∀ n∈s.l,n.name.length<100000) :
  Spec Tryz.prog G 41 [.agg [encSl c 6 encXN s]] hNone (fun v _=>v = .int .i64 (depthP s.l)):=by
 have hG:=hE.ok
 refine Spec.of_code' 0 81 [.tmp 2] Tryz.func41 rfl rfl rfl rfl fun X=>?_
 have hD:depthP s.l=match depGo s.l 0 [] with | some [x]=>x.2 | _=>0:=rfl
 have hnone:depGo s.l 0 []=none→depthP s.l=0:=fun h=>by rw [hD,h]
 refine AW.seq_k fun K hK=>AW.region (by kernel_rfl) ?_
 simp -implicitDefEqProofs only[go_sem,seval,↓reduceIte]
 intro g1
 refine hK _ ?_
 clear hK K
 refine AW.seq_k fun K hK=>AW.region (by kernel_rfl) ?_
 simp -implicitDefEqProofs only[go_sem,seval,↓reduceIte]
 refine CallA.pure hG (by kernel_rfl) ?_
 simp -implicitDefEqProofs only[go_sem,seval,↓reduceIte,List.map_nil]
 refine (xTable_spec G hG).mono ?_
 rintro _ _ rfl
 simp -implicitDefEqProofs only[go_sem,seval,↓reduceIte,tabC_rc,tabC_len,Nat.le_refl]
 intro g3
 rw [setAt_tab _ ?hl]
 case hl=>rfl
 refine hK _ ?_
 clear hK K
 refine AW.seq_k fun K hK=>AW.region (by kernel_rfl) ?_
 simp -implicitDefEqProofs only[go_sem,seval,↓reduceIte]
 refine hK _ ?_
 clear hK K
 refine AW.seq_k fun K1 hK1=>?_
 refine AW.seq_k fun K hK=>AW.region (by kernel_rfl) ?_
 simp -implicitDefEqProofs only[go_sem,seval,↓reduceIte]
 refine hK _ ?_
 clear hK K
 refine AW.block ?_
 refine AW.for s.l.length (fun k (x:Nat × List (Int × Int))=>st [(3,.ptr 3 g3 0),(4,grown 72 x.1 2 x.2),(14,encSl c 6 encXN s),(15,.int .i64 s.l.length),(16,.int .i64 k)] [(3,.cells .new g3 0 tabC),(72,grownO x.1 encPc x.2)])
  (fun k x=>depGo s.l 0 []=depGo (s.l.drop k) k x.2∧x.2.length≤k∧∀ y∈x.2,(0:Int)≤y.2∧y.2≤k) 0 (0,[]) (Nat.zero_le _) ⟨by simp,Nat.le_refl _,by simp⟩
  (Weak.st (by simp -implicitDefEqProofs only[go_sem,seval,↓reduceIte];try rfl) (by simp -implicitDefEqProofs only[go_sem,seval,↓reduceIte];try rfl)) ?_
 rintro k ⟨gx,opn⟩ hk ⟨hR,hol,hdp⟩ L2 hL2
 replace hR:depGo s.l 0 []=depGo (s.l.drop k) k opn:=hR
 replace hol:opn.length≤k:=hol
 replace hdp:∀ y∈opn,(0:Int)≤y.2∧y.2≤k:=hdp
 refine AW.seq_k fun K hK=>AW.region (by kernel_rfl) ?_
 simp -implicitDefEqProofs only[go_sem,seval,↓reduceIte]
 refine hK _ ?_
 clear hK K
 refine AW.seq_k fun K3 hK3=>?_
 refine AW.condS (by simp -implicitDefEqProofs only[go_sem,seval,↓reduceIte];rfl) (fun h4=>?_) (fun h4=>?_)
 ·have hk1:k<s.l.length:=by simpa using h4
  have hg:=List.getElem?_eq_getElem hk1
  have hnn:=hnm _ (List.getElem_mem hk1)
  generalize s.l[k]=n at hg hnn
  rw [depGo_drop hg] at hR
  refine AW.skip ?_
  simp -implicitDefEqProofs only[go_sem,seval,↓reduceIte]
  refine hK3 _ ?_
  refine AW.seq_k fun K5 hK5=>?_
  refine AW.block ?_
  refine AW.seq_k fun K hK=>AW.region (by kernel_rfl) ?_
  simp -implicitDefEqProofs only[go_sem,seval,↓reduceIte,hg,encXN_K]
  intro g6
  refine hK _ ?_
  clear hK K
  refine AW.seq_k fun K6 hK6=>?_
  refine AW.seq_k fun K hK=>AW.region (by kernel_rfl) ?_
  simp -implicitDefEqProofs only[go_sem,seval,↓reduceIte]
  rw [← encXN_K]
  refine CallA.pure hG (by kernel_rfl) ?_
  simp -implicitDefEqProofs only[go_sem,seval,↓reduceIte,recol_xn]
  refine (xWell_spec G hE n hnn).mono ?_
  rintro _ _ rfl
  simp -implicitDefEqProofs only[go_sem,seval,↓reduceIte]
  refine hK _ ?_
  clear hK K
  have hst:depStep k n opn=if wellP n=false then none else if opn.length<partsOf n.op then none
   else if places3 (opn.drop (opn.length-partsOf n.op))≠[n.a,n.b,n.c] then none
   else some (opn.take (opn.length-partsOf n.op)++[((k:Int),deepest (opn.drop (opn.length-partsOf n.op))+1)]):=rfl
  cases hw:wellP n with
  | false =>
   rw [if_pos hw] at hst
   rw [hst] at hR
   refine AW.condS (by simp -implicitDefEqProofs only[go_sem,seval,↓reduceIte];rfl) (fun h7=>?_) (fun h7=>?_)
   ·refine AW.seq_k fun K hK=>AW.region (by kernel_rfl) ?_
    simp -implicitDefEqProofs only[go_sem,seval,↓reduceIte]
    refine hK _ ?_
    clear hK K
    refine AW.ret ?_
    simp -implicitDefEqProofs only[go_sem,seval,↓reduceIte]
    refine endK_some ?_
    rw [hnone hR]
   ·cases h7
  | true =>
  rw [if_neg (by rw [hw];simp)] at hst
  refine AW.condS (by simp -implicitDefEqProofs only[go_sem,seval,↓reduceIte];rfl) (fun h7=>?_) (fun h7=>?_)
  ·cases h7
  refine AW.skip ?_
  simp -implicitDefEqProofs only[go_sem,seval,↓reduceIte]
  refine hK6 _ ?_
  have hrg:=well_range hw
  have hpt:=parts_tab hrg.1 hrg.2
  have hp3:partsOf n.op≤3:=partsOf_le _
  generalize hpd:partsOf n.op=p at hst hpt hp3
  have hop0:(0:Int)≤n.op:=by omega
  have hop23:n.op<23:=by omega
  have hsub:IntKind.i64.wrap ((opn.length:Int)-(p:Int))=(opn.length:Int)-p:=w64 (by omega) (by omega)
  refine AW.seq_k fun K hK=>AW.region (by kernel_rfl) ?_
  simp -implicitDefEqProofs only[go_sem,seval,↓reduceIte,hop0,hop23,hpt,hsub,Nat.zero_add]
  refine hK _ ?_
  clear hK K
  refine AW.seq_k fun K8 hK8=>?_
  by_cases hlt:opn.length<p
  ·have e1:decide ((opn.length:Int)-p<0)=true:=by rw [decide_eq_true_iff];omega
   rw [if_pos hlt] at hst
   rw [hst] at hR
   refine AW.seq_k fun K hK=>AW.region (by kernel_rfl) ?_
   simp -implicitDefEqProofs only[go_sem,seval,↓reduceIte,e1]
   refine hK _ ?_
   clear hK K
   refine AW.condS (by simp -implicitDefEqProofs only[go_sem,seval,↓reduceIte];rfl) (fun h9=>?_) (fun h9=>?_)
   ·refine AW.seq_k fun K hK=>AW.region (by kernel_rfl) ?_
    simp -implicitDefEqProofs only[go_sem,seval,↓reduceIte]
    refine hK _ ?_
    clear hK K
    refine AW.ret ?_
    simp -implicitDefEqProofs only[go_sem,seval,↓reduceIte]
    refine endK_some ?_
    rw [hnone hR]
   ·cases h9
  have e1:decide ((opn.length:Int)-p<0)=false:=by rw [decide_eq_false_iff_not];omega
  rw [if_neg hlt] at hst
  refine AW.seq_k fun K hK=>AW.region (by kernel_rfl) ?_
  simp -implicitDefEqProofs only[go_sem,seval,↓reduceIte,e1]
  refine hK _ ?_
  clear hK K
  refine AW.condS (by simp -implicitDefEqProofs only[go_sem,seval,↓reduceIte];rfl) (fun h9=>?_) (fun h9=>?_)
  ·cases h9
  refine AW.skip ?_
  simp -implicitDefEqProofs only[go_sem,seval,↓reduceIte]
  refine hK8 _ ?_
  obtain ⟨kk,hkk⟩:∃ kk:Nat,kk=opn.length-p:=⟨_,rfl⟩
  rw [← hkk] at hst
  have hkd:(opn.length:Int)-p=(kk:Int):=by omega
  rw [hkd]
  refine AW.seq_k fun K hK=>AW.region (by kernel_rfl) ?_
  simp -implicitDefEqProofs only[go_sem,seval,↓reduceIte]
  intro g34
  refine hK _ ?_
  clear hK K
  have hkl:kk+p=opn.length:=by omega
  refine AW.seqJ (fun (_:Unit)=>st [(3,.ptr 3 g3 0),(4,grown 72 gx 2 opn),(5,.int .i64 k),(6,.ptr 6 g6 0),(7,.int .i64 kk),(8,.msl 34 g34 0 3 1),(9,.int .i64 (deepest (opn.drop kk))),(14,encSl c 6 encXN s),(15,.int .i64 s.l.length),(16,.int .i64 k)]
    [(3,.cells .new g3 0 tabC),(72,grownO gx encPc opn),(6,.cells .new g6 0 [.int .u8 n.op,.int .i64 n.num,.str n.name,.int .i64 n.a,.int .i64 n.b,.int .i64 n.c]),(34,.cells .new g34 0 (plC (opn.drop kk)))])
   (fun _=>True) (fun K10 hK10=>?_) ?_
  ·by_cases hp0:p=0
   ·have hdn:opn.drop kk=[]:=List.drop_eq_nil_of_le (by omega)
    rw [hdn] at hK10
    subst hp0
    have hkle:kk≤opn.length:=by omega
    have hnlt:¬ kk<opn.length:=by omega
    by_cases hne:opn=[]
    ·subst hne
     have hk0:kk=0:=by simpa using hkl
     subst hk0
     refine AW.seq_k fun K hK=>AW.region (by kernel_rfl) ?_
     simp -implicitDefEqProofs only[go_sem,seval,↓reduceIte,grown_nil,grownO_nil,and_self]
     refine hK _ ?_
     clear hK K
     refine AW.block ?_
     refine AW.for 0 (fun j (_:Unit)=>st [(3,.ptr 3 g3 0),(5,.int .i64 k),(4,.nils),(6,.ptr 6 g6 0),(7,.int .i64 (0:Nat)),(8,.msl 34 g34 0 3 1),(9,.int .i64 0),(14,encSl c 6 encXN s),(15,.int .i64 s.l.length),(16,.int .i64 k),(38,.int .i64 0),(39,.int .i64 j)]
       [(3,.cells .new g3 0 tabC),(6,.cells .new g6 0 [.int .u8 n.op,.int .i64 n.num,.str n.name,.int .i64 n.a,.int .i64 n.b,.int .i64 n.c]),(34,.cells .new g34 0 (plC []))])
      (fun j _=>True) 0 () (Nat.zero_le _) trivial (Weak.st (by simp -implicitDefEqProofs only[go_sem,seval,↓reduceIte];try rfl) (by simp -implicitDefEqProofs only[go_sem,seval,↓reduceIte];try rfl)) ?_
     intro j _ hj _ L11 hL11
     obtain rfl:j=0:=by omega
     refine AW.seq_k fun K hK=>AW.region (by kernel_rfl) ?_
     simp -implicitDefEqProofs only[go_sem,seval,↓reduceIte]
     refine hK _ ?_
     clear hK K
     refine AW.seq_k fun K12 hK12=>?_
     refine AW.condS (by simp -implicitDefEqProofs only[go_sem,seval,↓reduceIte];rfl) (fun h13=>?_) (fun h13=>?_)
     ·cases h13
     ·refine AW.exit ?_
      simp -implicitDefEqProofs only[go_sem,seval,↓reduceIte]
      exact hK10 _ () trivial (Weak.st (by simp -implicitDefEqProofs only[go_sem,seval,↓reduceIte,grown_nil];try rfl) (by simp -implicitDefEqProofs only[go_sem,seval,↓reduceIte,grownO_nil];try rfl))
    ·have hk0:¬ kk=0:=by
      intro h
      have:opn.length=0:=by omega
      exact hne (List.length_eq_zero_iff.1 this)
     refine AW.seq_k fun K hK=>AW.region (by kernel_rfl) ?_
     simp -implicitDefEqProofs only[go_sem,seval,↓reduceIte,grown_ne 72 gx 2 hne,hkle,Nat.le_refl,and_self,hk0,hnlt]
     refine hK _ ?_
     clear hK K
     refine AW.block ?_
     refine AW.for 0 (fun j (_:Unit)=>st [(3,.ptr 3 g3 0),(4,grown 72 gx 2 opn),(5,.int .i64 k),(6,.ptr 6 g6 0),(7,.int .i64 kk),(8,.msl 34 g34 0 3 1),(9,.int .i64 0),(14,encSl c 6 encXN s),(15,.int .i64 s.l.length),(16,.int .i64 k),(38,.int .i64 0),(39,.int .i64 j)]
       [(3,.cells .new g3 0 tabC),(72,grownO gx encPc opn),(6,.cells .new g6 0 [.int .u8 n.op,.int .i64 n.num,.str n.name,.int .i64 n.a,.int .i64 n.b,.int .i64 n.c]),(34,.cells .new g34 0 (plC []))])
      (fun j _=>True) 0 () (Nat.zero_le _) trivial (Weak.st (by simp -implicitDefEqProofs only[go_sem,seval,↓reduceIte];rw [grown_ne 72 gx 2 hne];try exact ⟨rfl,rfl⟩) (by simp -implicitDefEqProofs only[go_sem,seval,↓reduceIte];try rfl)) ?_
     intro j _ hj _ L11 hL11
     obtain rfl:j=0:=by omega
     refine AW.seq_k fun K hK=>AW.region (by kernel_rfl) ?_
     simp -implicitDefEqProofs only[go_sem,seval,↓reduceIte]
     refine hK _ ?_
     clear hK K
     refine AW.seq_k fun K12 hK12=>?_
     refine AW.condS (by simp -implicitDefEqProofs only[go_sem,seval,↓reduceIte];rfl) (fun h13=>?_) (fun h13=>?_)
     ·cases h13
     ·refine AW.exit ?_
      simp -implicitDefEqProofs only[go_sem,seval,↓reduceIte]
      exact hK10 _ () trivial (Weak.st (by simp -implicitDefEqProofs only[go_sem,seval,↓reduceIte];try rfl) (by simp -implicitDefEqProofs only[go_sem,seval,↓reduceIte];try rfl))
   ·have hne:opn≠[]:=by intro e;rw [e] at hkl;simp at hkl;omega
    have hsl:(if kk=0 then V.msl 72 gx 0 opn.length 2 else if kk<opn.length then V.msl 72 gx (kk * 2) (opn.length-kk) 2 else V.slice .any false 2 []) = .msl 72 gx (kk * 2) p 2:=by
     by_cases h0:kk=0
     ·rw [if_pos h0];congr 1<;>omega
     ·rw [if_neg h0,if_pos (by omega)];congr 1;omega
    have hkle:kk≤opn.length:=by omega
    refine AW.seq_k fun K hK=>AW.region (by kernel_rfl) ?_
    simp -implicitDefEqProofs only[go_sem,seval,↓reduceIte,grown_ne 72 gx 2 hne,hkle,Nat.le_refl,and_self,hsl,Nat.zero_add]
    refine hK _ ?_
    clear hK K
    refine AW.block ?_
    refine AW.for p (fun j (_:Unit)=>st [(3,.ptr 3 g3 0),(4,grown 72 gx 2 opn),(5,.int .i64 k),(6,.ptr 6 g6 0),(7,.int .i64 kk),(8,.msl 34 g34 0 3 1),(9,.int .i64 (deepest ((opn.drop kk).take j))),(14,encSl c 6 encXN s),(15,.int .i64 s.l.length),(16,.int .i64 k),(37,.msl 72 gx (kk * 2) p 2),(38,.int .i64 p),(39,.int .i64 j)]
      [(3,.cells .new g3 0 tabC),(72,grownO gx encPc opn),(6,.cells .new g6 0 [.int .u8 n.op,.int .i64 n.num,.str n.name,.int .i64 n.a,.int .i64 n.b,.int .i64 n.c]),(34,.cells .new g34 0 (plC ((opn.drop kk).take j)))])
     (fun j _=>True) 0 () (Nat.zero_le _) trivial
     (Weak.st (by simp -implicitDefEqProofs only[go_sem,seval,↓reduceIte];rw [grown_ne 72 gx 2 hne];exact ⟨rfl,rfl⟩) (by simp -implicitDefEqProofs only[go_sem,seval,↓reduceIte];try rfl)) ?_
    intro j _ hj _ L11 hL11
    refine AW.seq_k fun K hK=>AW.region (by kernel_rfl) ?_
    simp -implicitDefEqProofs only[go_sem,seval,↓reduceIte]
    refine hK _ ?_
    clear hK K
    refine AW.seq_k fun K12 hK12=>?_
    refine AW.condS (by simp -implicitDefEqProofs only[go_sem,seval,↓reduceIte];rfl) (fun h13=>?_) (fun h13=>?_)
    ·have hj1:j<p:=by have h13:decide ((j:Int)<p)=true:=h13;simp at h13;omega
     refine AW.skip ?_
     simp -implicitDefEqProofs only[go_sem,seval,↓reduceIte]
     refine hK12 _ ?_
     refine AW.seq_k fun K14 hK14=>?_
     refine AW.block ?_
     obtain ⟨x,hx⟩:∃ x,opn[kk+j]? = some x:=⟨_,List.getElem?_eq_getElem (by omega)⟩
     have hxd:(opn.drop kk)[j]? = some x:=by rw [List.getElem?_drop];exact hx
     have hfp:=flat_pc opn (kk+j) x hx
     rw [show (kk+j) * 2=kk * 2+j * 2 by omega] at hfp
     have hfl:kk * 2+j * 2+2≤(flat (opn.map encPc)).length:=by rw [flat_len (m:=2) encPc_cells];omega
     have hps:=plC_set (opn.drop kk) j x hxd (by omega)
     have hds:=deepest_succ (opn.drop kk) j x hxd
     have hpl:=plC_len ((opn.drop kk).take j)
     generalize plC ((opn.drop kk).take j)=pc at hps hpl ⊢
     generalize deepest ((opn.drop kk).take j)=dd at hds ⊢
     have hj3:(j:Int)<3:=by omega
     refine AW.seq_k fun K hK=>AW.region (by kernel_rfl) ?_
     simp -implicitDefEqProofs only[go_sem,seval,↓reduceIte,grownO_ne gx encPc hne,hfp,hfl,Int.natCast_nonneg,hj1,Int.ofNat_lt]
     intro g11
     refine hK _ ?_
     clear hK K
     refine AW.weak (Weak.stF (fun o=>o==11) (l:=[(3,.ptr 3 g3 0),(4,grown 72 gx 2 opn),(5,.int .i64 k),(6,.ptr 6 g6 0),(7,.int .i64 kk),(8,.msl 34 g34 0 3 1),(9,.int .i64 dd),(10,.int .i64 j),(11,.view .new (.agg [.int .i64 x.1,.int .i64 x.2])),(14,encSl c 6 encXN s),(15,.int .i64 s.l.length),(16,.int .i64 k),(37,.msl 72 gx (kk * 2) p 2),(38,.int .i64 p),(39,.int .i64 j)])
      (m:=[(3,.cells .new g3 0 tabC),(72,grownO gx encPc opn),(6,.cells .new g6 0 [.int .u8 n.op,.int .i64 n.num,.str n.name,.int .i64 n.a,.int .i64 n.b,.int .i64 n.c]),(34,.cells .new g34 0 pc)]) ?_ ?_) ?_
     ·simp -implicitDefEqProofs only[go_sem,seval,↓reduceIte]
      refine ⟨Fz.same _,Fz.same _,Fz.same _,Fz.same _,Fz.same _,Fz.same _,Fz.same _,Fz.same _,?_,Fz.same _,Fz.same _,Fz.same _,Fz.same _,Fz.same _,Fz.same _⟩
      exact Fz.ptr (v := .agg [.int .i64 x.1,.int .i64 x.2]) (c := .new) (fz:=0) rfl (by simp -implicitDefEqProofs only[go_sem,seval,↓reduceIte];try rfl)
     ·simp only [allFzO_cons,allFzO_nil,and_true]
      exact ⟨FzO.keep rfl (by simp -implicitDefEqProofs only[go_sem,seval,↓reduceIte]),FzO.keep rfl (by first | rfl | (rw [grownO_ne gx encPc hne];rfl) | (simp -implicitDefEqProofs only[go_sem,seval,↓reduceIte];try rfl)),FzO.keep rfl (by simp -implicitDefEqProofs only[go_sem,seval,↓reduceIte]),FzO.keep rfl (by simp -implicitDefEqProofs only[go_sem,seval,↓reduceIte])⟩
     refine AW.regionT ⟨fun _ => .top,fun i=>if i=3 then .lend else if i=6 then .lend else .pure⟩ (by kernel_rfl) hG (by kernel_rfl) (by kernel_rfl) ?_
     have hjl:j+1≤pc.length:=by omega
     have hset:pc.set j (.int .i64 x.1)=plC ((opn.drop kk).take (j+1)):=hps
     have hmx:(if x.2 > dd then x.2 else dd)=max dd x.2:=by
      rw [Int.max_def];split<;>split<;>omega
     simp -implicitDefEqProofs only[go_sem,seval,↓reduceIte,hj3,Int.natCast_nonneg,Nat.mul_one,Nat.zero_le,hjl,hset,hmx,← hds]
     refine hK14 _ ?_
     refine AW.region (by kernel_rfl) ?_
     simp -implicitDefEqProofs only[go_sem,seval,↓reduceIte]
     refine hL11 _ ⟨hj1,(),trivial,Weak.st (by simp -implicitDefEqProofs only[go_sem,seval,↓reduceIte];exact congrArg _ (w64 (by omega) (by omega))) (by simp -implicitDefEqProofs only[go_sem,seval,↓reduceIte];try rfl)⟩
    ·have hj1:j=p:=by have h13:decide ((j:Int)<p)=false:=h13;simp at h13;omega
     have htk:(opn.drop kk).take j=opn.drop kk:=List.take_of_length_le (by rw [List.length_drop];omega)
     rw [htk]
     refine AW.exit ?_
     simp -implicitDefEqProofs only[go_sem,seval,↓reduceIte]
     exact hK10 _ () trivial (Weak.st (by simp -implicitDefEqProofs only[go_sem,seval,↓reduceIte]) (by simp -implicitDefEqProofs only[go_sem,seval,↓reduceIte];try rfl))
  intro _ _
  refine AW.seq_k fun K11 hK11=>?_
  have hpl:places3 (opn.drop kk)=[(places3 (opn.drop kk)).getD 0 0,(places3 (opn.drop kk)).getD 1 0,(places3 (opn.drop kk)).getD 2 0]:=rfl
  refine AW.seq_k fun K hK=>AW.region (by kernel_rfl) ?_
  simp -implicitDefEqProofs only[go_sem,seval,↓reduceIte]
  intro g61
  refine CallA.bor hG [encSl .old 1 (V.int .i64) (.mk false (places3 (opn.drop kk))),encSl .old 1 (V.int .i64) (.mk false [n.a,n.b,n.c])] (by kernel_rfl) ⟨?_,?_,trivial⟩ ?_
  ·exact Rd.msl (off:=0) (n:=3) (l:=places3 (opn.drop kk)) (f:=V.int .i64) (f':=V.int .i64) (g:=g34) (fz:=0) (c := .new) (by simp -implicitDefEqProofs only[go_sem,seval,↓reduceIte];exact congrArg (AObj.cells Col.new g34 0) (flat_intsV _ _).symm) (fun _=>rfl) (fun x y hy=>by simp [V.cells] at hy;subst hy;exact .int _ _) (fun _=>rfl) (by simp [places3])
  ·exact Rd.msl (off:=0) (n:=3) (l:=[n.a,n.b,n.c]) (f:=V.int .i64) (f':=V.int .i64) (g:=g61) (fz:=0) (c := .new) (by simp -implicitDefEqProofs only[go_sem,seval,↓reduceIte];rfl) (fun _=>rfl) (fun x y hy=>by simp [V.cells] at hy;subst hy;exact .int _ _) (fun _=>rfl) (by simp)
  refine (sEqual_spec G hG _ _ (.mk false (places3 (opn.drop kk))) (.mk false [n.a,n.b,n.c]) (by simp [places3,Sl.l])).mono ?_
  rintro _ _ rfl
  refine ⟨.bool _,?_⟩
  simp -implicitDefEqProofs only[go_sem,seval,↓reduceIte]
  refine hK _ ?_
  clear hK K
  cases heq:(places3 (opn.drop kk)==[n.a,n.b,n.c]) with
  | false =>
   have heq2:places3 (opn.drop kk)≠[n.a,n.b,n.c]:=by simpa using heq
   rw [if_pos heq2] at hst
   rw [hst] at hR
   refine AW.condS (by simp -implicitDefEqProofs only[go_sem,seval,↓reduceIte];rfl) (fun h12=>?_) (fun h12=>?_)
   ·refine AW.seq_k fun K hK=>AW.region (by kernel_rfl) ?_
    simp -implicitDefEqProofs only[go_sem,seval,↓reduceIte]
    refine hK _ ?_
    clear hK K
    refine AW.ret ?_
    simp -implicitDefEqProofs only[go_sem,seval,↓reduceIte]
    refine endK_some ?_
    rw [hnone hR]
   ·cases h12
  | true =>
  have heq2:¬ places3 (opn.drop kk)≠[n.a,n.b,n.c]:=by simpa using heq
  rw [if_neg heq2] at hst
  rw [hst] at hR
  refine AW.condS (by simp -implicitDefEqProofs only[go_sem,seval,↓reduceIte];rfl) (fun h12=>?_) (fun h12=>?_)
  ·cases h12
  refine AW.skip ?_
  simp -implicitDefEqProofs only[go_sem,seval,↓reduceIte]
  refine hK11 _ ?_
  have hdb:=deepest_le (l:=opn.drop kk) (k:=k) (by omega) fun y hy=>hdp y (List.mem_of_mem_drop hy)
  generalize deepest (opn.drop kk)=dd at hR hdb ⊢
  have hwd:IntKind.i64.wrap (dd+1)=dd+1:=w64 (by omega) (by omega)
  have hne2:opn.take kk++[((k:Int),dd+1)]≠[]:=by simp
  have hlen2:(opn.take kk++[((k:Int),dd+1)]).length=kk+1:=by rw [List.length_append,List.length_take];simp;omega
  have hdp2:∀ y∈opn.take kk++[((k:Int),dd+1)],(0:Int)≤y.2∧y.2≤(k+1:Nat):=by
   intro y hy
   rcases List.mem_append.1 hy with h | h
   ·have:=hdp y (List.mem_of_mem_take h);omega
   ·rw [List.mem_singleton.1 h];show 0≤dd+1∧dd+1≤_;omega
  by_cases hne:opn=[]
  ·subst hne
   have hk0:kk=0:=by simpa using hkk
   subst hk0
   refine AW.region (by kernel_rfl) ?_
   simp -implicitDefEqProofs only[go_sem,seval,↓reduceIte,grown_nil,grownO_nil,and_self,hwd]
   intro g71
   refine app_grown (f:=encPc) (l:=([]:List (Int × Int))) (l2:=[((k:Int),dd+1)]) (g:=gx) encPc_cells rfl rfl rfl rfl (roomOk_of (by omega) (by simp)) fun g2=>?_
   simp -implicitDefEqProofs only[go_sem,seval,↓reduceIte]
   refine hK5 _ ?_
   refine AW.region (by kernel_rfl) ?_
   simp -implicitDefEqProofs only[go_sem,seval,↓reduceIte]
   refine hL2 _ ⟨hk1,(g2,[((k:Int),dd+1)]),⟨hR,?_,hdp2⟩,Weak.st (by simp -implicitDefEqProofs only[go_sem,seval,↓reduceIte];exact congrArg _ (w64 (by omega) (by omega))) (by simp -implicitDefEqProofs only[go_sem,seval,↓reduceIte];try rfl)⟩
   show 1≤k+1
   omega
  ·have hkle:kk≤opn.length:=by omega
   refine AW.region (by kernel_rfl) ?_
   simp -implicitDefEqProofs only[go_sem,seval,↓reduceIte,grown_ne 72 gx 2 hne,Nat.zero_le,hkle,and_self,hwd,grownO_ne gx encPc hne]
   intro g71
   refine ⟨roomOk_of (by omega) (by omega),by rw [flat_len (m:=2) encPc_cells];omega,fun g2=>?_⟩
   refine hK5 _ ?_
   refine AW.region (by kernel_rfl) ?_
   simp -implicitDefEqProofs only[go_sem,seval,↓reduceIte]
   refine hL2 _ ⟨hk1,(g2,opn.take kk++[((k:Int),dd+1)]),⟨hR,?_,hdp2⟩,Weak.st (by simp -implicitDefEqProofs only[go_sem,seval,↓reduceIte];exact ⟨by rw [grown_ne _ _ _ hne2,hlen2],congrArg _ (w64 (by omega) (by omega))⟩) (by simp -implicitDefEqProofs only[go_sem,seval,↓reduceIte];rw [grownO_ne _ _ hne2,List.map_append,flat_app,← flat_take];rfl)⟩
   show (opn.take kk++[_]).length≤k+1
   rw [hlen2];omega
 ·have hk1:k=s.l.length:=by simp at h4;omega
  refine AW.exit ?_
  simp -implicitDefEqProofs only[go_sem,seval,↓reduceIte]
  refine hK1 _ ?_
  rw [hk1,List.drop_length,depGo] at hR
  rw [hR] at hD
  refine AW.seq_k fun K6 hK6=>?_
  match opn,hD with
  | [],hD =>
   refine AW.seq_k fun K hK=>AW.region (by kernel_rfl) ?_
   simp -implicitDefEqProofs only[go_sem,seval,↓reduceIte,grown_nil]
   refine hK _ ?_
   clear hK K
   refine AW.condS (by simp -implicitDefEqProofs only[go_sem,seval,↓reduceIte];rfl) (fun h7=>?_) (fun h7=>?_)
   ·refine AW.seq_k fun K hK=>AW.region (by kernel_rfl) ?_
    simp -implicitDefEqProofs only[go_sem,seval,↓reduceIte]
    refine hK _ ?_
    clear hK K
    refine AW.ret ?_
    simp -implicitDefEqProofs only[go_sem,seval,↓reduceIte]
    refine endK_some ?_
    rw [hD]
   ·cases h7
  | [x],hD =>
   have hne:[x]≠([]:List (Int × Int)):=by simp
   refine AW.seq_k fun K hK=>AW.region (by kernel_rfl) ?_
   simp -implicitDefEqProofs only[go_sem,seval,↓reduceIte]
   refine hK _ ?_
   clear hK K
   refine AW.condS (by simp -implicitDefEqProofs only[go_sem,seval,↓reduceIte];rfl) (fun h7=>?_) (fun h7=>?_)
   ·cases h7
   refine AW.skip ?_
   simp -implicitDefEqProofs only[go_sem,seval,↓reduceIte]
   refine hK6 _ ?_
   have hfx:flat ([x].map encPc)=[.int .i64 x.1,.int .i64 x.2]:=rfl
   refine AW.seq_k fun K hK=>AW.region (by kernel_rfl) ?_
   simp -implicitDefEqProofs only[go_sem,seval,↓reduceIte,grown_ne 72 gx 2 hne,grownO_ne gx encPc hne,hfx]
   refine hK _ ?_
   clear hK K
   refine AW.ret ?_
   simp -implicitDefEqProofs only[go_sem,seval,↓reduceIte]
   refine endK_some ?_
   rw [hD]
  | x::y::r,hD =>
   have e1:(((x::y::r).length:Int) != 1)=true:=by simp;omega
   refine AW.seq_k fun K hK=>AW.region (by kernel_rfl) ?_
   simp -implicitDefEqProofs only[go_sem,seval,↓reduceIte,e1]
   refine hK _ ?_
   clear hK K
   refine AW.condS (by simp -implicitDefEqProofs only[go_sem,seval,↓reduceIte];rfl) (fun h7=>?_) (fun h7=>?_)
   ·refine AW.seq_k fun K hK=>AW.region (by kernel_rfl) ?_
    simp -implicitDefEqProofs only[go_sem,seval,↓reduceIte]
    refine hK _ ?_
    clear hK K
    refine AW.ret ?_
    simp -implicitDefEqProofs only[go_sem,seval,↓reduceIte]
    refine endK_some ?_
    rw [hD]
   ·cases h7
end Go.Hs
end

section
namespace Go.Hs
open Go.Proofs
set_option maxRecDepth 10000
theorem joinW_cons (w:List UInt8) {b:List (List UInt8)} (h:b≠[]):joinW (w::b)=w++32::joinW b:=by
 cases b with
 | nil=>exact absurd rfl h
 | cons=>rfl
theorem W_ne (x:X) (k:Int):x.W k≠[]:=by
 cases x with
 | leaf=>simp [X.W]
 | un=>rw [X.W];unfold parW;split<;>simp
 | bin=>rw [X.W];unfold parW;split<;>simp
 | ite=>simp [X.W]
end Go.Hs
end

section
namespace Go.Hs
open Go.Proofs
set_option maxRecDepth 10000
def checkP (l:List XN):Int:=if depthP l=0 then 2 else if depthP l > 64 then 3 else 0
theorem xCheck_spec (G:Nat→V) (hE:GExp G) (c:Col) (s:Sl XN) (hs:s.l.length<1000000) (hnm:∀ n∈s.l,n.name.length<100000) :
  Spec Tryz.prog G 39 [.agg [encSl c 6 encXN s]] hNone (fun v _=>v = .int .i64 (checkP s.l)):=by
 have hG:=hE.ok
 refine Spec.of_code' 0 12 [.tmp 2] Tryz.func39 rfl rfl rfl rfl fun X=>?_
 have hC:checkP s.l=if depthP s.l=0 then 2 else if depthP s.l > 64 then 3 else 0:=rfl
 generalize checkP s.l=res at hC ⊢
 refine AW.seq_k fun K hK=>AW.region (by kernel_rfl) ?_
 simp -implicitDefEqProofs only[go_sem,seval,↓reduceIte]
 intro g1
 refine hK _ ?_
 clear hK K
 refine AW.seq_k fun K1 hK1=>?_
 refine AW.seq_k fun K hK=>AW.region (by kernel_rfl) ?_
 simp -implicitDefEqProofs only[go_sem,seval,↓reduceIte]
 refine CallA.pure hG (by kernel_rfl) ?_
 simp -implicitDefEqProofs only[go_sem,seval,↓reduceIte,recol_xns]
 refine (xDepth_spec G hE c.ent s hs hnm).mono ?_
 rintro _ _ rfl
 simp -implicitDefEqProofs only[go_sem,seval,↓reduceIte]
 refine hK _ ?_
 clear hK K
 refine AW.block ?_
 refine AW.seq_k fun K hK=>AW.region (by kernel_rfl) ?_
 simp -implicitDefEqProofs only[go_sem,seval,↓reduceIte]
 refine hK _ ?_
 clear hK K
 refine AW.condS (by simp -implicitDefEqProofs only[go_sem,seval,↓reduceIte];rfl) (fun h6=>?_) (fun h6=>?_)
 ·have h6:depthP s.l=0:=by simpa using h6
  rw [if_pos h6] at hC
  refine AW.seq_k fun K hK=>AW.region (by kernel_rfl) ?_
  simp -implicitDefEqProofs only[go_sem,seval,↓reduceIte]
  refine hK _ ?_
  clear hK K
  refine AW.ret ?_
  simp -implicitDefEqProofs only[go_sem,seval,↓reduceIte]
  refine endK_some ?_
  rw [hC]
 have h6:¬ depthP s.l=0:=by simpa using h6
 rw [if_neg h6] at hC
 refine AW.seq_k fun K hK=>AW.region (by kernel_rfl) ?_
 simp -implicitDefEqProofs only[go_sem,seval,↓reduceIte]
 refine hK _ ?_
 clear hK K
 refine AW.condS (by simp -implicitDefEqProofs only[go_sem,seval,↓reduceIte];rfl) (fun h7=>?_) (fun h7=>?_)
 ·have h7:depthP s.l > 64:=by simpa using h7
  rw [if_pos h7] at hC
  refine AW.seq_k fun K hK=>AW.region (by kernel_rfl) ?_
  simp -implicitDefEqProofs only[go_sem,seval,↓reduceIte]
  refine hK _ ?_
  clear hK K
  refine AW.ret ?_
  simp -implicitDefEqProofs only[go_sem,seval,↓reduceIte]
  refine endK_some ?_
  rw [hC]
 ·have h7:¬ depthP s.l > 64:=by simpa using h7
  rw [if_neg h7] at hC
  refine AW.skip ?_
  simp -implicitDefEqProofs only[go_sem,seval,↓reduceIte]
  refine hK1 _ ?_
  refine AW.seq_k fun K hK=>AW.region (by kernel_rfl) ?_
  simp -implicitDefEqProofs only[go_sem,seval,↓reduceIte]
  refine hK _ ?_
  clear hK K
  refine AW.ret ?_
  simp -implicitDefEqProofs only[go_sem,seval,↓reduceIte]
  refine endK_some ?_
  rw [hC]
end Go.Hs
end

section
namespace Go.Hs
def NmQ (Q:List UInt8→Prop) (r:RS):Prop:=∀ n∈r.nodes,Q n.name
def NmI (Q:List UInt8→Prop) (inner:Inner):Prop:=∀ n r,NmQ Q r→NmQ Q (inner n r).2
theorem NmQ.put {Q:List UInt8→Prop} {r:RS} {n:XN} (h:NmQ Q r) (hn:Q n.name):NmQ Q (r.put n):=by
 intro m hm
 rcases List.mem_append.1 hm with h1 | h1
 ·exact h m h1
 ·rw [List.mem_singleton.1 h1];exact hn
theorem andThen_nm {Q:List UInt8→Prop} {x:Bool × RS} {k:RS→Bool × RS} (h:NmQ Q x.2) (hk:∀ r,NmQ Q r→NmQ Q (k r).2):NmQ Q (andThen x k).2:=by
 obtain ⟨b,r⟩:=x
 cases b
 ·exact h
 ·exact hk r h
theorem eatP_nm {Q:List UInt8→Prop} (l:List Tk) (w:List UInt8) {r:RS} (h:NmQ Q r):NmQ Q (eatP l w r).2:=by
 unfold eatP;split<;>exact h
theorem numberP_nm {Q:List UInt8→Prop} (h0:Q []) (t:List UInt8) {r:RS} (h:NmQ Q r):NmQ Q (numberP r t).2:=by
 unfold numberP;split
 ·exact h
 ·exact NmQ.put (n:=⟨1,_,[],-1,-1,-1⟩) h h0
theorem branchesP_nm {Q:List UInt8→Prop} {l:List Tk} {inner:Inner} (h0:Q []) (hi:NmI Q inner) {r:RS} (h:NmQ Q r):NmQ Q (branchesP l inner r).2:=by
 unfold branchesP
 refine andThen_nm (eatP_nm _ _ h) fun r1 h1=>andThen_nm (hi _ _ h1) fun a h2=>andThen_nm (eatP_nm _ _ h2) fun r2 h3=>andThen_nm (hi _ _ h3) fun b h4=>andThen_nm (eatP_nm _ _ h4) fun r3 h5=>andThen_nm (hi _ _ h5) fun c h6=>andThen_nm (eatP_nm _ _ h6) fun r4 h7=>?_
 exact NmQ.put h7 h0
theorem aheadP_nm {Q:List UInt8→Prop} {l:List Tk} {inner:Inner} (h0:Q []) (hq:∀ i,(nextP l i).kind=2→Q (nextP l i).text) (hi:NmI Q inner) {r:RS} (h:NmQ Q r):NmQ Q (aheadP l inner r).2:=by
 unfold aheadP
 split
 ·exact numberP_nm h0 _ h
 split
 ·rename_i hk;exact NmQ.put (n:=⟨2,0,(nextP l r.i).text,-1,-1,-1⟩) h (hq _ hk)
 split
 ·exact h
 split
 ·exact andThen_nm (hi _ _ h) fun a ha=>NmQ.put ha h0
 split
 ·exact andThen_nm (hi _ _ h) fun a ha=>eatP_nm _ _ ha
 split
 ·exact branchesP_nm h0 hi h
 split
 ·exact NmQ.put (n:=⟨_,0,[],-1,-1,-1⟩) h h0
 ·exact h
theorem loopP_nm {Q:List UInt8→Prop} {l:List Tk} {inner:Inner} (h0:Q []) (hi:NmI Q inner) (n:Int):∀ (m:Nat) (r:RS),NmQ Q r→NmQ Q (loopP l inner n m r).2
 | 0,r,h=>h
 | m+1,r,h=>by
  rw [loopP]
  split
  ·exact h
  ·split
   ·exact h
   ·exact andThen_nm (hi _ r.adv h) fun a ha=>loopP_nm h0 hi n m (a.put _) (NmQ.put ha h0)
theorem climbP_nm {Q:List UInt8→Prop} (l:List Tk) (h0:Q []) (hq:∀ i,(nextP l i).kind=2→Q (nextP l i).text):∀ f,NmI Q (climbP l f)
 | 0=>fun _ _ h=>h
 | f+1=>fun n r h=>by
  rw [climbP]
  exact andThen_nm (aheadP_nm h0 hq (climbP_nm l h0 hq f) h) fun a ha=>loopP_nm h0 (climbP_nm l h0 hq f) n _ a ha
end Go.Hs
end

section
namespace Go.Hs
open Go.Proofs
set_option maxRecDepth 10000
theorem RdS.callN {NO:Nat} {tl:List V} {G:Nat→V} (hG:GOk G) {f:FuncId} {args args':List V} {sl:Sl Tk} {g:Nat} {r r':RS} {v:V} (h:RdS NO tl G f args' sl g r v r') {H:Heap} {K:V→Heap→Prop}
  (hen:enterable Tryz.prog f=true) (htl:∀ F:Col→Col,tl.map (V.recol F)=tl) (hargs:args.map (V.recol Col.ent)=args') (hv:v.recol Col.bk=v) (hr:r.nodes=[])
  (cs:List V) (h8:H 8 = .cells .new g 0 cs) (hcs:V.recolL Col.ent cs=(encSl .any 3 encTk sl :: .int .i64 r.i :: .nils :: .int .i64 r.e::tl)) (hN:H NO = .dead)
  (hk:∀ gx',K v (sets H [(8,.cells .new g 0 (encSl .any 3 encTk sl :: .int .i64 r'.i::grown NO gx' 6 r'.nodes :: .int .i64 r'.e::tl)),(NO,grownO gx' encXN r'.nodes)])) :
  CallA Tryz.prog G f (.ptr 8 g 0::args) H K:=by
 refine CallA.handN hG [(8,rdO NO tl sl g 0 r),(NO,ndO 0 r.nodes)] hen ?_ ?_ ?_
 ·intro p hp
  simp only [List.mem_cons,List.not_mem_nil,or_false] at hp
  rcases hp with rfl | rfl
  ·simp only [h8,AObj.toAny,hcs,rdO_K,hr];rfl
  ·simp only [hN,AObj.toAny,hr];rfl
 ·intro p hp c g' fz cs' ho
  simp only [List.mem_cons,List.not_mem_nil,or_false] at hp
  rcases hp with rfl | rfl
  ·simp only [h8,AObj.cells.injEq] at ho;exact ho.1.symm
  ·simp only [hN] at ho;cases ho
 ·have ha:(V.ptr 8 g 0::args).map (V.recol Col.ent) = .ptr 8 g 0::args':=by rw [List.map_cons,recol_ptr,hargs]
  rw [ha]
  refine (h 0).mono ?_
  rintro _ H' ⟨rfl,gx',q8,qN⟩
  have b8:(rdO NO tl sl g gx' r').backNew = .cells .new g 0 (encSl .any 3 encTk sl :: .int .i64 r'.i::grown NO gx' 6 r'.nodes :: .int .i64 r'.e::tl):=by
   simp only [rdO_K,AObj.backNew,V.recolL_eq,List.map_cons,recol_tks,recol_int,recol_grown,htl]
   rfl
  have bN:(ndO gx' r'.nodes).backNew=grownO gx' encXN r'.nodes:=by
   unfold ndO
   cases hn:r'.nodes with
   | nil=>rfl
   | cons x t =>
    rw [grownC_ne _ _ _ (by simp),grownO_ne _ _ (by simp)]
    simp only [AObj.backNew,V.recolL_eq]
    rw [← flat_recol,List.map_map]
    have he:(x::t).map (V.recol Col.bk ∘ encXN)=(x::t).map encXN:=List.map_congr_left fun y _=>recol_xn _ y
    first | done | rw [he]
  simp only [List.map_cons,List.map_nil,q8,qN,b8,bN,hv]
  exact hk gx'
def encXs (c:Col) (l:List XN):V:=encSl c 6 encXN (grownS l)
def encFr (c:Col) (p:List XN × Int × Int):V := .tuple [.agg [encXs c p.1],.int .i64 p.2.1,.int .i64 p.2.2]
theorem climb_names {l:List Tk} (hT:TkOk l):∀ n∈(climbP l (l.length+1) 1 ⟨0,[],0⟩).2.nodes,n.name.length<100000 :=
 climbP_nm (Q:=fun s=>s.length<100000) l (Nat.zero_lt_succ _) (fun i _=>nextP_len hT i) _ _ _ (fun n hn=>by cases hn)
theorem xFrom_spec (G:Nat→V) (hE:GExp G) (c:Col) (sl:Sl Tk) (hT:TkOk sl.l):Spec Tryz.prog G 33 [encSl c 3 encTk sl] hNone (fun v _=>v=encFr .new (fromP sl.l)):=by
 have hG:=hE.ok
 have hTl:=hT.len
 refine Spec.of_code' 0 44 [.cell 2 24,.tmp 3,.tmp 4] Tryz.func33 rfl rfl rfl rfl fun X=>?_
 have hP:fromP sl.l=if (climbP sl.l (sl.l.length+1) 1 ⟨0,[],0⟩).1=false then (([]:List XN),((climbP sl.l (sl.l.length+1) 1 ⟨0,[],0⟩).2.i:Int),(climbP sl.l (sl.l.length+1) 1 ⟨0,[],0⟩).2.e)
  else if depthP (climbP sl.l (sl.l.length+1) 1 ⟨0,[],0⟩).2.nodes > 64 then ([],0,3) else ((climbP sl.l (sl.l.length+1) 1 ⟨0,[],0⟩).2.nodes,((climbP sl.l (sl.l.length+1) 1 ⟨0,[],0⟩).2.i:Int),(0:Int)):=rfl
 have hr0:RSok sl.l ⟨0,[],0⟩:=⟨Nat.zero_le _,Nat.le_refl _⟩
 have hcl:=fun g=>xClimb_spec G hE sl hT g (sl.l.length+1) 1 ⟨0,[],0⟩ (by decide) (by decide) (Nat.lt_succ_self _) hr0
 have hnm2:=climb_names hT
 have hok:=(climbP_bal sl.l (sl.l.length+1) 1 ⟨0,[],0⟩)
 generalize fromP sl.l=res at hP ⊢
 generalize climbP sl.l (sl.l.length+1) 1 ⟨0,[],0⟩=y at hP hcl hok hnm2
 obtain ⟨b,r⟩:=y
 simp only at hP hcl hok hnm2
 refine AW.seq_k fun K hK=>AW.region (by kernel_rfl) ?_
 simp -implicitDefEqProofs only[go_sem,seval,↓reduceIte]
 intro g2
 refine hK _ ?_
 clear hK K
 refine AW.seq_k fun K hK=>AW.region (by kernel_rfl) ?_
 simp -implicitDefEqProofs only[go_sem,seval,↓reduceIte]
 intro g8
 refine hK _ ?_
 clear hK K
 refine AW.seq_k fun K1 hK1=>?_
 refine AW.block ?_
 refine AW.weak (Weak.stF (fun _=>false) (l:=[(5,.ptr 8 g8 0),(2,.ptr 2 g2 0)]) (m:=[(2,.cells .new g2 0 [.nils]),(8,.cells .new g8 0 [encSl .any 3 encTk sl,.int .i64 0,.nils,.int .i64 0,.func (.func 56) [] []])]) ?_ ?_) ?_
 ·simp -implicitDefEqProofs only[go_sem,seval,↓reduceIte]
  exact ⟨Fz.same _,Fz.same _⟩
 ·simp only [allFzO_cons,allFzO_nil,and_true]
  exact ⟨FzO.keep rfl (by simp -implicitDefEqProofs only[go_sem,seval,↓reduceIte]),FzO.of (c := .new) (fz:=0) (cs:=[encSl c 3 encTk sl,.int .i64 0,.nils,.int .i64 0,.func (.func 56) [] []]) rfl (by simp -implicitDefEqProofs only[go_sem,seval,↓reduceIte];try rfl) ⟨Fz.any (recol_tks _ _ _),Fz.same _,Fz.same _,Fz.same _,Fz.same _,trivial⟩⟩
 refine AW.seq_k fun K hK=>AW.region (by kernel_rfl) ?_
 simp -implicitDefEqProofs only[go_sem,seval,↓reduceIte]
 refine RdS.callN hG (hcl g8) (by kernel_rfl) (fun F=>rfl) rfl rfl rfl _ (by simp -implicitDefEqProofs only[go_sem,seval,↓reduceIte];rfl) (by simp only [V.recolL_eq,List.map_cons,List.map_nil,recol_tks];rfl) (by simp -implicitDefEqProofs only[go_sem,seval,↓reduceIte]) fun gx=>?_
 simp -implicitDefEqProofs only[go_sem,seval,↓reduceIte,sets]
 refine hK _ ?_
 clear hK K
 cases b with
 | false =>
  refine AW.condS (by simp -implicitDefEqProofs only[go_sem,seval,↓reduceIte];rfl) (fun h9=>?_) (fun h9=>?_)
  rotate_left
  ·cases h9
  refine AW.weak (Weak.stF (fun o=>o==8) (l:=[(5,.view .new (.agg [encSl .any 3 encTk sl,.int .i64 r.i,grown 1031 gx 6 r.nodes,.int .i64 r.e,.func (.func 56) [] []])),(2,.ptr 2 g2 0)]) (m:=[(2,.cells .new g2 0 [.nils])]) ?_ ?_) ?_
  ·simp -implicitDefEqProofs only[go_sem,seval,↓reduceIte]
   exact ⟨Fz.ptr (v := .agg [encSl .any 3 encTk sl,.int .i64 r.i,grown 1031 gx 6 r.nodes,.int .i64 r.e,.func (.func 56) [] []]) (c := .new) (fz:=0) rfl (by simp -implicitDefEqProofs only[go_sem,seval,↓reduceIte];try rfl),Fz.same _⟩
  ·simp only [allFzO_cons,allFzO_nil,and_true]
   exact FzO.keep rfl (by simp -implicitDefEqProofs only[go_sem,seval,↓reduceIte])
  refine AW.seq_k fun K2 hK2=>?_
  refine AW.regionT ⟨fun _ => .top,fun i=>if i=4 then .lend else if i=8 then .lend else .pure⟩ (by kernel_rfl) hG (by kernel_rfl) (by kernel_rfl) ?_
  simp -implicitDefEqProofs only[go_sem,seval,↓reduceIte]
  refine hK2 _ ?_
  refine AW.ret ?_
  simp -implicitDefEqProofs only[go_sem,seval,↓reduceIte]
  refine endK_some ?_
  rw [hP];rfl
 | true =>
 refine AW.condS (by simp -implicitDefEqProofs only[go_sem,seval,↓reduceIte];rfl) (fun h9=>?_) (fun h9=>?_)
 ·cases h9
 refine AW.weak (Weak.stF (fun o=>o==1031) (l:=[(5,.ptr 8 g8 0),(2,.ptr 2 g2 0)]) (m:=[(2,.cells .new g2 0 [.nils]),(8,.cells .new g8 0 [encSl .any 3 encTk sl,.int .i64 r.i,encXs .new r.nodes,.int .i64 r.e,.func (.func 56) [] []])]) ?_ ?_) ?_
 ·simp -implicitDefEqProofs only[go_sem,seval,↓reduceIte]
  exact ⟨Fz.same _,Fz.same _⟩
 ·simp only [allFzO_cons,allFzO_nil,and_true]
  exact ⟨FzO.keep rfl (by simp -implicitDefEqProofs only[go_sem,seval,↓reduceIte]),FzO.of (c := .new) (fz:=0) (cs:=[encSl .any 3 encTk sl,.int .i64 r.i,grown 1031 gx 6 r.nodes,.int .i64 r.e,.func (.func 56) [] []]) rfl (by simp -implicitDefEqProofs only[go_sem,seval,↓reduceIte];try rfl) ⟨Fz.same _,Fz.same _,Fz.grown rfl (by simp -implicitDefEqProofs only[go_sem,seval,↓reduceIte];try rfl) encXN_cells,Fz.same _,Fz.same _,trivial⟩⟩
 have hrl:r.nodes.length<1000000:=by have:=(hok.ok hr0);have h1:=this.1;have h2:=this.2;omega
 rw [if_neg (by simp)] at hP
 refine AW.seq_k fun K hK=>AW.region (by kernel_rfl) ?_
 simp -implicitDefEqProofs only[go_sem,seval,↓reduceIte,encXs]
 refine CallA.pure hG (by kernel_rfl) ?_
 simp -implicitDefEqProofs only[go_sem,seval,↓reduceIte,recol_xns]
 refine (xDepth_spec G hE Col.new.ent (grownS r.nodes) (by rw [grownS_l];exact hrl) (by rw [grownS_l];exact hnm2)).mono ?_
 rintro _ _ rfl
 simp -implicitDefEqProofs only[go_sem,seval,↓reduceIte]
 refine hK _ ?_
 clear hK K
 refine AW.condS (by simp -implicitDefEqProofs only[go_sem,seval,↓reduceIte];rfl) (fun h26=>?_) (fun h26=>?_)
 ·have h26:depthP r.nodes > 64:=by simpa using h26
  rw [if_pos h26] at hP
  refine AW.seq_k fun K hK=>AW.region (by kernel_rfl) ?_
  simp -implicitDefEqProofs only[go_sem,seval,↓reduceIte]
  refine hK _ ?_
  clear hK K
  refine AW.ret ?_
  simp -implicitDefEqProofs only[go_sem,seval,↓reduceIte]
  refine endK_some ?_
  rw [hP];rfl
 have h26:¬ depthP r.nodes > 64:=by simpa using h26
 rw [if_neg h26] at hP
 refine AW.skip ?_
 simp -implicitDefEqProofs only[go_sem,seval,↓reduceIte]
 refine hK1 _ ?_
 refine AW.weak (Weak.stF (fun o=>o==8) (l:=[(5,.view .new (.agg [encSl .any 3 encTk sl,.int .i64 r.i,encXs .new r.nodes,.int .i64 r.e,.func (.func 56) [] []])),(2,.ptr 2 g2 0)]) (m:=[(2,.cells .new g2 0 [.nils])]) ?_ ?_) ?_
 ·simp -implicitDefEqProofs only[go_sem,seval,↓reduceIte]
  exact ⟨Fz.ptr (v := .agg [encSl .any 3 encTk sl,.int .i64 r.i,encXs .new r.nodes,.int .i64 r.e,.func (.func 56) [] []]) (c := .new) (fz:=0) rfl (by simp -implicitDefEqProofs only[go_sem,seval,↓reduceIte];try rfl),Fz.same _⟩
 ·simp only [allFzO_cons,allFzO_nil,and_true]
  exact FzO.keep rfl (by simp -implicitDefEqProofs only[go_sem,seval,↓reduceIte])
 refine AW.seq_k fun K2 hK2=>?_
 refine AW.regionT ⟨fun _ => .top,fun i=>if i=3 then .lend else if i=8 then .lend else .pure⟩ (by kernel_rfl) hG (by kernel_rfl) (by kernel_rfl) ?_
 simp -implicitDefEqProofs only[go_sem,seval,↓reduceIte,encXs]
 refine hK2 _ ?_
 refine AW.ret ?_
 simp -implicitDefEqProofs only[go_sem,seval,↓reduceIte]
 refine endK_some ?_
 rw [hP];rfl
end Go.Hs
end

section
namespace Go.Hs
open Go.Proofs
set_option maxRecDepth 10000
theorem toksF_text:∀ (f:Nat) (s:List UInt8) (i:Nat) (acc:List Tk),(∀ t∈acc,t.text.length≤s.length)→∀ t∈(toksF f s i acc).1,t.text.length≤s.length
 | 0,s,i,acc,h=>by rw [toksF];exact h
 | f+1,s,i,acc,h=>by
  rw [toksF]
  split
  ·split
   ·intro t ht;cases ht
   ·refine toksF_text f s _ _ ?_
    intro t ht
    rcases List.mem_append.1 ht with h1 | h1
    ·exact h t h1
    ·rw [List.mem_singleton.1 h1]
     show ((s.drop i).take _).length≤s.length
     rw [List.length_take,List.length_drop];omega
  ·exact h
theorem toks_ok {s:List UInt8} (hs:s.length<100000):TkOk (toksP s).1:=by
 unfold toksP
 split
 ·exact ⟨Nat.zero_lt_succ _,fun t ht=>by cases ht⟩
 refine ⟨?_,?_⟩
 ·have:=toksF_len (s.length+1) s (blk s) []
  have h0:([]:List Tk).length=0:=rfl
  omega
 ·intro t ht
  have:=toksF_text (s.length+1) s (blk s) [] (fun t ht=>by cases ht) t ht
  omega
theorem xParse_spec (G:Nat→V) (hE:GExp G) (s:List UInt8) (hs:s.length<100000):Spec Tryz.prog G 29 [.str s] hNone (fun v _=>v=encFr .new (exprP s)):=by
 have hG:=hE.ok
 refine Spec.of_code' 0 60 [.cell 2 24,.tmp 3,.tmp 4] Tryz.func29 rfl rfl rfl rfl fun X=>?_
 have hP:exprP s=if (toksP s).2.2≠0 then (([]:List XN),(toksP s).2.1,(toksP s).2.2)
  else if (fromP (toksP s).1).2.2=3 then ([],0,3)
  else if (fromP (toksP s).1).2.2=0∧(fromP (toksP s).1).2.1=((toksP s).1.length:Nat) then ((fromP (toksP s).1).1,0,0)
  else ([],if (fromP (toksP s).1).2.1=((toksP s).1.length:Nat) then (s.length:Int) else ((toksP s).1.getD (fromP (toksP s).1).2.1.toNat ⟨0,[],0⟩).pos,if (fromP (toksP s).1).2.2=0 then 80 else (fromP (toksP s).1).2.2):=rfl
 generalize exprP s=res at hP ⊢
 have hT:=toks_ok hs
 have hl:=lTokens_spec G hE s hs
 have hfr:=fun c=>xFrom_spec G hE c (grownS (toksP s).1) (by rw [grownS_l];exact hT)
 simp only [grownS_l] at hfr
 have hb:=fromP_bnd (l:=(toksP s).1)
 generalize toksP s=t at hP hT hl hfr hb
 generalize fromP t.1=p at hP hfr hb
 obtain ⟨l,at0,e0⟩:=t
 obtain ⟨ns,i,e⟩:=p
 simp only at hP hT hfr hb
 refine AW.seq_k fun K hK=>AW.region (by kernel_rfl) ?_
 simp -implicitDefEqProofs only[go_sem,seval,↓reduceIte]
 intro g2
 refine hK _ ?_
 clear hK K
 refine AW.seq_k fun K hK=>AW.region (by kernel_rfl) ?_
 simp -implicitDefEqProofs only[go_sem,seval,↓reduceIte]
 refine CallA.pure hG (by kernel_rfl) ?_
 simp -implicitDefEqProofs only[go_sem,seval,↓reduceIte]
 refine hl.mono ?_
 rintro _ _ rfl
 simp -implicitDefEqProofs only[go_sem,seval,↓reduceIte,encTok,encTks,recol_tks]
 refine hK _ ?_
 clear hK K
 refine AW.seq_k fun K1 hK1=>?_
 refine AW.seq_k fun K hK=>AW.region (by kernel_rfl) ?_
 simp -implicitDefEqProofs only[go_sem,seval,↓reduceIte]
 refine hK _ ?_
 clear hK K
 by_cases he0:e0=0
 rotate_left
 ·have q1:(e0 != 0)=true:=by simpa using he0
  rw [if_pos he0] at hP
  refine AW.condS (by simp -implicitDefEqProofs only[go_sem,seval,↓reduceIte];rfl) (fun h17=>?_) (fun h17=>?_)
  ·refine AW.seq_k fun K hK=>AW.region (by kernel_rfl) ?_
   simp -implicitDefEqProofs only[go_sem,seval,↓reduceIte]
   refine hK _ ?_
   clear hK K
   refine AW.ret ?_
   simp -implicitDefEqProofs only[go_sem,seval,↓reduceIte]
   refine endK_some ?_
   rw [hP];rfl
  ·rw [q1] at h17;cases h17
 have q1:(e0 != 0)=false:=by simpa using he0
 rw [if_neg (by simpa using he0)] at hP
 refine AW.condS (by simp -implicitDefEqProofs only[go_sem,seval,↓reduceIte];rfl) (fun h17=>?_) (fun h17=>?_)
 ·rw [q1] at h17;cases h17
 refine AW.skip ?_
 simp -implicitDefEqProofs only[go_sem,seval,↓reduceIte]
 refine hK1 _ ?_
 refine AW.seq_k fun K hK=>AW.region (by kernel_rfl) ?_
 simp -implicitDefEqProofs only[go_sem,seval,↓reduceIte]
 refine CallA.pure hG (by kernel_rfl) ?_
 simp -implicitDefEqProofs only[go_sem,seval,↓reduceIte,recol_tks]
 refine (hfr _).mono ?_
 rintro _ _ rfl
 simp -implicitDefEqProofs only[go_sem,seval,↓reduceIte,encFr,encXs,recol_xns]
 intro g8
 refine hK _ ?_
 clear hK K
 refine AW.seq_k fun K2 hK2=>?_
 refine AW.block ?_
 refine AW.seq_k fun K hK=>AW.region (by kernel_rfl) ?_
 simp -implicitDefEqProofs only[go_sem,seval,↓reduceIte]
 refine hK _ ?_
 clear hK K
 by_cases he3:e=3
 ·have q3:(e==3)=true:=by simpa using he3
  rw [if_pos he3] at hP
  refine AW.condS (by simp -implicitDefEqProofs only[go_sem,seval,↓reduceIte];rfl) (fun h27=>?_) (fun h27=>?_)
  ·refine AW.seq_k fun K hK=>AW.region (by kernel_rfl) ?_
   simp -implicitDefEqProofs only[go_sem,seval,↓reduceIte]
   refine hK _ ?_
   clear hK K
   refine AW.ret ?_
   simp -implicitDefEqProofs only[go_sem,seval,↓reduceIte]
   refine endK_some ?_
   rw [hP,he3];rfl
  ·rw [q3] at h27;cases h27
 have q3:(e==3)=false:=by simpa using he3
 rw [if_neg he3] at hP
 refine AW.condS (by simp -implicitDefEqProofs only[go_sem,seval,↓reduceIte];rfl) (fun h27=>?_) (fun h27=>?_)
 ·rw [q3] at h27;cases h27
 by_cases he:e=0
 ·have q4:(e==0)=true:=by simpa using he
  by_cases hi:i=(l.length:Nat)
  ·have q5:(i==((l.length:Nat):Int))=true:=by simpa using hi
   rw [if_pos ⟨he,hi⟩] at hP
   refine AW.seq_k fun K hK=>AW.region (by kernel_rfl) ?_
   simp -implicitDefEqProofs only[go_sem,seval,↓reduceIte,q4,q5]
   refine hK _ ?_
   clear hK K
   refine AW.condS (by simp -implicitDefEqProofs only[go_sem,seval,↓reduceIte];rfl) (fun h32=>?_) (fun h32=>?_)
   ·refine AW.seq_k fun K hK=>AW.region (by kernel_rfl) ?_
    simp -implicitDefEqProofs only[go_sem,seval,↓reduceIte]
    refine hK _ ?_
    clear hK K
    refine AW.ret ?_
    simp -implicitDefEqProofs only[go_sem,seval,↓reduceIte]
    refine endK_some ?_
    rw [hP];rfl
   ·cases h32
  have q5:(i==((l.length:Nat):Int))=false:=by simpa using hi
  rw [if_neg (fun h=>hi h.2),if_neg hi,if_pos he] at hP
  obtain ⟨m,rfl⟩:∃ m:Nat,i=m:=⟨i.toNat,by omega⟩
  have hml:m<l.length:=by omega
  obtain ⟨tk,htk⟩:∃ tk,l[m]? = some tk:=⟨_,List.getElem?_eq_getElem hml⟩
  have hgd:(l.getD ((m:Nat):Int).toNat ⟨0,[],0⟩)=tk:=by rw [Int.toNat_natCast,List.getD_eq_getElem?_getD,htk];rfl
  rw [hgd] at hP
  refine AW.seq_k fun K hK=>AW.region (by kernel_rfl) ?_
  simp -implicitDefEqProofs only[go_sem,seval,↓reduceIte,q4,q5]
  refine hK _ ?_
  clear hK K
  refine AW.condS (by simp -implicitDefEqProofs only[go_sem,seval,↓reduceIte];rfl) (fun h32=>?_) (fun h32=>?_)
  ·cases h32
  refine AW.seq_k fun K hK=>AW.region (by kernel_rfl) ?_
  simp -implicitDefEqProofs only[go_sem,seval,↓reduceIte,q4]
  refine hK _ ?_
  clear hK K
  refine AW.condS (by simp -implicitDefEqProofs only[go_sem,seval,↓reduceIte];rfl) (fun h42=>?_) (fun h42=>?_)
  rotate_left
  ·cases h42
  refine AW.region (by kernel_rfl) ?_
  simp -implicitDefEqProofs only[go_sem,seval,↓reduceIte]
  refine hK2 _ ?_
  refine AW.seq_k fun K3 hK3=>?_
  refine AW.seq_k fun K hK=>AW.region (by kernel_rfl) ?_
  simp -implicitDefEqProofs only[go_sem,seval,↓reduceIte,q5]
  refine hK _ ?_
  clear hK K
  refine AW.condS (by simp -implicitDefEqProofs only[go_sem,seval,↓reduceIte];rfl) (fun h48=>?_) (fun h48=>?_)
  ·cases h48
  refine AW.skip ?_
  simp -implicitDefEqProofs only[go_sem,seval,↓reduceIte]
  refine hK3 _ ?_
  refine AW.seq_k fun K4 hK4=>?_
  refine AW.regionT ⟨fun _ => .top,fun i=>if i=5 then .lend else .pure⟩ (by kernel_rfl) hG (by kernel_rfl) (by kernel_rfl) ?_
  simp -implicitDefEqProofs only[go_sem,seval,↓reduceIte,htk,encTk_K]
  refine hK4 _ ?_
  refine AW.ret ?_
  simp -implicitDefEqProofs only[go_sem,seval,↓reduceIte]
  refine endK_some ?_
  rw [hP];rfl
 have q4:(e==0)=false:=by simpa using he
 rw [if_neg (fun h=>he h.1),if_neg he] at hP
 refine AW.seq_k fun K hK=>AW.region (by kernel_rfl) ?_
 simp -implicitDefEqProofs only[go_sem,seval,↓reduceIte,q4]
 refine hK _ ?_
 clear hK K
 refine AW.condS (by simp -implicitDefEqProofs only[go_sem,seval,↓reduceIte];rfl) (fun h32=>?_) (fun h32=>?_)
 ·cases h32
 refine AW.seq_k fun K hK=>AW.region (by kernel_rfl) ?_
 simp -implicitDefEqProofs only[go_sem,seval,↓reduceIte,q4]
 refine hK _ ?_
 clear hK K
 refine AW.condS (by simp -implicitDefEqProofs only[go_sem,seval,↓reduceIte];rfl) (fun h42=>?_) (fun h42=>?_)
 ·cases h42
 refine AW.skip ?_
 simp -implicitDefEqProofs only[go_sem,seval,↓reduceIte]
 refine hK2 _ ?_
 refine AW.seq_k fun K3 hK3=>?_
 by_cases hi:i=(l.length:Nat)
 ·have q5:(i==((l.length:Nat):Int))=true:=by simpa using hi
  rw [if_pos hi] at hP
  refine AW.seq_k fun K hK=>AW.region (by kernel_rfl) ?_
  simp -implicitDefEqProofs only[go_sem,seval,↓reduceIte,q5]
  refine hK _ ?_
  clear hK K
  refine AW.condS (by simp -implicitDefEqProofs only[go_sem,seval,↓reduceIte];rfl) (fun h48=>?_) (fun h48=>?_)
  ·refine AW.seq_k fun K hK=>AW.region (by kernel_rfl) ?_
   simp -implicitDefEqProofs only[go_sem,seval,↓reduceIte]
   refine hK _ ?_
   clear hK K
   refine AW.ret ?_
   simp -implicitDefEqProofs only[go_sem,seval,↓reduceIte]
   refine endK_some ?_
   rw [hP];rfl
  ·cases h48
 have q5:(i==((l.length:Nat):Int))=false:=by simpa using hi
 rw [if_neg hi] at hP
 obtain ⟨m,rfl⟩:∃ m:Nat,i=m:=⟨i.toNat,by omega⟩
 have hml:m<l.length:=by omega
 obtain ⟨tk,htk⟩:∃ tk,l[m]? = some tk:=⟨_,List.getElem?_eq_getElem hml⟩
 have hgd:(l.getD ((m:Nat):Int).toNat ⟨0,[],0⟩)=tk:=by rw [Int.toNat_natCast,List.getD_eq_getElem?_getD,htk];rfl
 rw [hgd] at hP
 refine AW.seq_k fun K hK=>AW.region (by kernel_rfl) ?_
 simp -implicitDefEqProofs only[go_sem,seval,↓reduceIte,q5]
 refine hK _ ?_
 clear hK K
 refine AW.condS (by simp -implicitDefEqProofs only[go_sem,seval,↓reduceIte];rfl) (fun h48=>?_) (fun h48=>?_)
 ·cases h48
 refine AW.skip ?_
 simp -implicitDefEqProofs only[go_sem,seval,↓reduceIte]
 refine hK3 _ ?_
 refine AW.seq_k fun K4 hK4=>?_
 refine AW.regionT ⟨fun _ => .top,fun i=>if i=5 then .lend else .pure⟩ (by kernel_rfl) hG (by kernel_rfl) (by kernel_rfl) ?_
 simp -implicitDefEqProofs only[go_sem,seval,↓reduceIte,htk,encTk_K]
 refine hK4 _ ?_
 refine AW.ret ?_
 simp -implicitDefEqProofs only[go_sem,seval,↓reduceIte]
 refine endK_some ?_
 rw [hP];rfl
end Go.Hs
end

section
namespace Go.Hs
open Go.Proofs
set_option maxRecDepth 10000
theorem join_lib (ws:List (List UInt8)):Lib.join ws [32]=joinW ws:=by
 have:∀ ws:List (List UInt8),[32].intercalate ws=joinW ws:=by
  intro ws
  induction ws with
  | nil=>rfl
  | cons w r ih =>
   cases r with
   | nil=>simp [joinW,List.intercalate,List.intersperse]
   | cons v r =>
    rw [joinW_cons _ (by simp),← ih]
    simp [List.intercalate,List.intersperse]
 exact this ws
theorem join_spec (G:Nat→V) (c:Col) (ws:List (List UInt8)) (hne:ws≠[]) (hl:ws.length<1000000) (hj:(joinW ws).length<1000000) :
  Spec Tryz.prog G 58 [encSl c 1 V.str (.mk false ws),.str [32]] hNone (fun v _=>v = .str (joinW ws)):=by
 refine Spec.of_calls fun X cargs _ _ hA=>?_
 obtain ⟨x,y,rfl,hx,hy⟩:=hA.two
 obtain ⟨p',rfl,hp⟩:=hy.str_inv
 have hfl:=flat_strW ws
 generalize hv:encSl c 1 V.str (.mk false ws)=v at hx
 have hv:v = .slice c false 1 (ws.map V.str):=hv.symm
 subst hv
 generalize hm:ws.map V.str=ls at hx hfl
 cases hx with
 | slice0=>cases ws with
  | nil=>exact absurd rfl hne
  | cons=>cases hm
 | slice _ _ _ _ b off cap f hcap hclip hE hc hr =>
  have hln:ls.length=ws.length:=by rw [← hm,List.length_map]
  have hfn:(flat ls).length=ws.length:=by rw [hfl,hln]
  have hget:∀ j (h:j<ws.length),X.w.cell? ⟨b,off+j,none⟩=some (.string ⟨ws[j].toArray⟩):=by
   intro j h
   have h1:=(hc j (by omega)).2.2.1
   have h2:=hr j (by omega)
   have e:(flat ls)[j]'(by omega) = .str ws[j]:=by
    have:(flat ls)[j]? = some (.str ws[j]):=by rw [hfl,← hm,List.getElem?_map,List.getElem?_eq_getElem h];rfl
    rw [List.getElem?_eq_getElem (by omega)] at this
    exact Option.some.inj this
   rw [e] at h2
   obtain ⟨s',h3,h4⟩:=h2.str_inv
   have h5:s'=⟨ws[j].toArray⟩:=by
    obtain ⟨⟨l⟩⟩:=s'
    simp at h4
    rw [h4]
   rw [h3,h5] at h1
   exact h1
  have hbk:b<X.w.heap.size:=by
   have h0:=hget 0 (by cases ws with | nil=>exact absurd rfl hne | cons=>simp)
   rw [← Nat.not_le]
   intro hle
   have:X.w.heap[b]? = none:=by rw [Array.getElem?_eq_none_iff];exact hle
   simp [World.cell?,this] at h0
  have hxs:(ws.map fun w=>(⟨w.toArray⟩:ByteArray)).map (·.data.toList)=ws:=by rw [List.map_map];exact (List.map_congr_left fun w _=>rfl).trans (List.map_id _)
  have hjl:Lib.join ((ws.map fun w=>(⟨w.toArray⟩:ByteArray)).map (·.data.toList)) p'.data.toList=joinW ws:=by rw [hxs,hp,join_lib]
  have hkit:=Any.strings_Join Tryz.laysJN Tryz.extraJN b off cap (ws.map fun w=>(⟨w.toArray⟩:ByteArray)) p' X.w (fun j x hj=>by
   rw [List.getElem?_map] at hj
   cases hw:ws[j]? with
   | none=>rw [hw] at hj;cases hj
   | some w =>
    rw [hw] at hj
    obtain ⟨q1,q2⟩:=List.getElem?_eq_some_iff.1 hw
    cases hj
    rw [hget j q1,q2]) hbk (by rw [List.length_map];omega) (by rw [List.length_map,← hln];exact hcap) (by rw [hjl];omega)
  rw [List.length_map,← hln] at hkit
  refine (show Calls Tryz.prog 58 _ _ _ from hkit).mono ?_
  rintro e w' ⟨rfl,hB⟩
  exact ⟨_,_,rfl,hB,.str _ _ rfl,by rw [hjl]⟩
def PrintS (l:List XN) (r:List UInt8 × Int):Prop:=(checkP l≠0→r=([],checkP l))∧∀ x:X,x.ok=true→l=x.row 0→checkP l=0→r=(joinW (x.W 0),0)
def encPr (r:List UInt8 × Int):V := .tuple [.str r.1,.int .i64 r.2]
theorem checkP_ok {l:List XN} (h:checkP l=0):∃ x:X,x.ok=true∧l=x.row 0∧x.depth≤64:=by
 have hd:depthP l≠0:=by
  intro hd
  rw [checkP,if_pos hd] at h
  cases h
 obtain ⟨x,hx,rfl⟩:=depth_none hd
 refine ⟨x,hx,rfl,?_⟩
 unfold checkP at h
 rw [if_neg hd] at h
 split at h
 ·cases h
 ·rename_i q
  rw [depth_row hx] at q
  omega
theorem xPrint_spec (G:Nat→V) (hE:GExp G) (c:Col) (s:Sl XN) (hs:s.l.length<1000) (hnm:∀ n∈s.l,n.name.length<100000) (hnum:∀ n∈s.l,n.num≤9223372036854775807) :
  Spec Tryz.prog G 37 [.agg [encSl c 6 encXN s]] hNone (fun v _=>∃ r,v=encPr r∧PrintS s.l r):=by
 have hG:=hE.ok
 refine Spec.of_code' 0 17 [.tmp 2,.tmp 3] Tryz.func37 rfl rfl rfl rfl fun X0=>?_
 refine AW.seq_k fun K hK=>AW.region (by kernel_rfl) ?_
 simp -implicitDefEqProofs only[go_sem,seval,↓reduceIte]
 intro g1
 refine hK _ ?_
 clear hK K
 refine AW.seq_k fun K1 hK1=>?_
 refine AW.seq_k fun K hK=>AW.region (by kernel_rfl) ?_
 simp -implicitDefEqProofs only[go_sem,seval,↓reduceIte]
 refine CallA.pure hG (by kernel_rfl) ?_
 simp -implicitDefEqProofs only[go_sem,seval,↓reduceIte,recol_xns]
 refine (xCheck_spec G hE _ s (by omega) hnm).mono ?_
 rintro _ _ rfl
 simp -implicitDefEqProofs only[go_sem,seval,↓reduceIte]
 refine hK _ ?_
 clear hK K
 refine AW.seq_k fun K hK=>AW.region (by kernel_rfl) ?_
 simp -implicitDefEqProofs only[go_sem,seval,↓reduceIte]
 refine hK _ ?_
 clear hK K
 by_cases hc:checkP s.l=0
 rotate_left
 ·have e1:(checkP s.l != 0)=true:=by simpa using hc
  rw [e1]
  refine AW.condS (by simp -implicitDefEqProofs only[go_sem,seval,↓reduceIte];rfl) (fun h8=>?_) (fun h8=>?_)
  rotate_left
  ·cases h8
  refine AW.seq_k fun K hK=>AW.region (by kernel_rfl) ?_
  simp -implicitDefEqProofs only[go_sem,seval,↓reduceIte]
  refine hK _ ?_
  clear hK K
  refine AW.ret ?_
  simp -implicitDefEqProofs only[go_sem,seval,↓reduceIte]
  refine endK_some ?_
  exact ⟨_,rfl,fun _=>rfl,fun x _ _ h=>absurd h hc⟩
 have e1:(checkP s.l != 0)=false:=by simpa using hc
 rw [e1]
 refine AW.condS (by simp -implicitDefEqProofs only[go_sem,seval,↓reduceIte];rfl) (fun h8=>?_) (fun h8=>?_)
 ·cases h8
 refine AW.skip ?_
 simp -implicitDefEqProofs only[go_sem,seval,↓reduceIte]
 refine hK1 _ ?_
 obtain ⟨x,hx,hl,hd⟩:=checkP_ok hc
 have hfit:x.fit:=fit_of x 0 (by rw [← hl];exact hnum)
 have hsz:s.l.length=x.size:=by rw [hl,X.row_len]
 have hat:At s.l x 0:=by rw [hl];exact At.whole x
 have hxp:=x.size_pos
 have hw:IntKind.i64.wrap ((s.l.length:Int)-1)=((0:Nat):Int)+x.size-1:=by rw [w64 (by omega) (by omega)];omega
 have hpl:=print_len hx hfit
 have hcn:=W_cnt x 0
 refine AW.seq_k fun K hK=>AW.region (by kernel_rfl) ?_
 simp -implicitDefEqProofs only[go_sem,seval,↓reduceIte,hw]
 refine CallA.pure hG (by kernel_rfl) ?_
 simp -implicitDefEqProofs only[go_sem,seval,↓reduceIte,recol_xns]
 refine (xWords_spec G hE s hs x.size x 0 _ 0 (Nat.le_refl _) hat hx hfit (by decide) (by decide)).mono ?_
 rintro _ _ rfl
 have hrb:(encSl .new 1 V.str (.mk false (x.W 0))).recol Col.bk=encSl .new 1 V.str (.mk false (x.W 0)):=recol_enc _ _ _ (fun _=>rfl) _
 simp -implicitDefEqProofs only[go_sem,seval,↓reduceIte,hrb]
 refine CallA.pure hG (by kernel_rfl) ?_
 rw [List.map_cons,List.map_cons,List.map_nil,show (encSl .new 1 V.str (.mk false (x.W 0))).recol Col.ent=encSl (Col.ent .new) 1 V.str (.mk false (x.W 0)) from recol_enc _ _ _ (fun _=>rfl) _]
 refine (join_spec G _ (x.W 0) (W_ne x 0) (by omega) (by omega)).mono ?_
 rintro _ _ rfl
 simp -implicitDefEqProofs only[go_sem,seval,↓reduceIte]
 refine hK _ ?_
 clear hK K
 refine AW.ret ?_
 simp -implicitDefEqProofs only[go_sem,seval,↓reduceIte]
 refine endK_some ?_
 exact ⟨(joinW (x.W 0),0),rfl,fun h=>absurd hc h,fun y hy hly _=>by rw [row_inj y x 0 hy hx (by rw [← hly,← hl])]⟩
end Go.Hs
end

section
namespace Go.Hs
open Go.Proofs
set_option maxRecDepth 10000
theorem vRef_spec (G:Nat→V) (hG:GOk G) (c:Col) (s:Sl XN) (hs:s.l.length<1000000) :
  Spec Tryz.prog G 36 [.agg [encSl c 6 encXN s]] hNone (fun v _=>v=encXs .new s.l):=by
 refine Spec.of_code' 0 35 [.tmp 2] Tryz.func36 rfl rfl rfl rfl fun X=>?_
 refine AW.seq_k fun K hK=>AW.region (by kernel_rfl) ?_
 simp -implicitDefEqProofs only[go_sem,seval,↓reduceIte]
 intro g1
 refine hK _ ?_
 clear hK K
 refine AW.seq_k fun K hK=>AW.region (by kernel_rfl) ?_
 simp -implicitDefEqProofs only[go_sem,seval,↓reduceIte]
 refine hK _ ?_
 clear hK K
 refine AW.seq_k fun K2 hK2=>?_
 refine AW.seq_k fun K hK=>AW.region (by kernel_rfl) ?_
 simp -implicitDefEqProofs only[go_sem,seval,↓reduceIte]
 refine hK _ ?_
 clear hK K
 refine AW.block ?_
 refine AW.for s.l.length (fun k (gx:Nat)=>st [(1,.ptr 1 g1 0),(3,grown 33 gx 6 (s.l.take k)),(4,.int .i64 k)] [(1,.cells .new g1 0 [encSl c 6 encXN s]),(33,grownO gx encXN (s.l.take k))])
  (fun k _=>True) 0 0 (Nat.zero_le _) trivial
  (Weak.st (by simp -implicitDefEqProofs only[go_sem,seval,↓reduceIte];try rfl) (by simp -implicitDefEqProofs only[go_sem,seval,↓reduceIte];try rfl)) ?_
 intro k gx hk _ L3 hL3
 refine AW.seq_k fun K4 hK4=>?_
 refine AW.seq_k fun K hK=>AW.region (by kernel_rfl) ?_
 simp -implicitDefEqProofs only[go_sem,seval,↓reduceIte]
 refine hK _ ?_
 clear hK K
 refine AW.condS (by simp -implicitDefEqProofs only[go_sem,seval,↓reduceIte];rfl) (fun h10=>?_) (fun h10=>?_)
 ·have hk1:k<s.l.length:=by simpa using h10
  have hg:=List.getElem?_eq_getElem hk1
  have htk:s.l.take (k+1)=s.l.take k++[s.l[k]]:=by rw [List.take_succ_eq_append_getElem hk1]
  have hlt:(s.l.take k).length=k:=by rw [List.length_take];omega
  generalize s.l[k]=n at hg htk
  generalize s.l.take k=ns at htk hlt ⊢
  refine AW.skip ?_
  simp -implicitDefEqProofs only[go_sem,seval,↓reduceIte]
  refine hK4 _ ?_
  refine AW.seq_k fun K5 hK5=>?_
  refine AW.block ?_
  refine AW.seq_k fun K hK=>AW.region (by kernel_rfl) ?_
  simp -implicitDefEqProofs only[go_sem,seval,↓reduceIte,hg,encXN_K]
  intro g5
  refine hK _ ?_
  clear hK K
  refine AW.region (by kernel_rfl) ?_
  simp -implicitDefEqProofs only[go_sem,seval,↓reduceIte]
  intro g32
  refine app_grown (f:=encXN) (l:=ns) (l2:=[n]) (g:=gx) encXN_cells rfl rfl rfl (by simp -implicitDefEqProofs only[go_sem,seval,↓reduceIte];try rfl) (roomOk_of (by omega) (by simp;omega)) fun g2=>?_
  simp -implicitDefEqProofs only[go_sem,seval,↓reduceIte]
  refine hK5 _ ?_
  refine AW.region (by kernel_rfl) ?_
  simp -implicitDefEqProofs only[go_sem,seval,↓reduceIte]
  refine hL3 _ ⟨hk1,g2,trivial,Weak.st (by simp -implicitDefEqProofs only[go_sem,seval,↓reduceIte];exact ⟨by rw [htk],congrArg _ (w64 (by omega) (by omega))⟩) (by simp -implicitDefEqProofs only[go_sem,seval,↓reduceIte];rw [htk];try rfl)⟩
 ·have hk1:k=s.l.length:=by simp at h10;omega
  refine AW.exit ?_
  simp -implicitDefEqProofs only[go_sem,seval,↓reduceIte]
  refine hK2 _ ?_
  rw [hk1,List.take_length]
  refine AW.weak (Weak.stF (fun o=>o==33) (l:=[(3,encXs .new s.l)]) (m:=[]) ?_ trivial) ?_
  ·simp -implicitDefEqProofs only[go_sem,seval,↓reduceIte]
   exact Fz.grown rfl rfl encXN_cells
  refine AW.seq_k fun K hK=>AW.region (by kernel_rfl) ?_
  simp -implicitDefEqProofs only[go_sem,seval,↓reduceIte]
  refine hK _ ?_
  clear hK K
  refine AW.ret ?_
  simp -implicitDefEqProofs only[go_sem,seval,↓reduceIte]
  refine endK_some ?_
  rfl
def fewE (l:List XN):Bool:=decide (l.length≤200) && l.all fun n=>decide (n.name.length≤70)
theorem fewE_true {l:List XN} (h:fewE l=true):l.length≤200∧∀ n∈l,n.name.length≤70:=by
 unfold fewE at h
 simp only [Bool.and_eq_true,decide_eq_true_eq,List.all_eq_true] at h
 exact h
theorem vFew_spec (G:Nat→V) (hG:GOk G) (c:Col) (s:Sl XN) :
  Spec Tryz.prog G 35 [.agg [encSl c 6 encXN s]] hNone (fun v _=>v = .bool (fewE s.l)):=by
 refine Spec.of_code' 0 23 [.tmp 2] Tryz.func35 rfl rfl rfl rfl fun X=>?_
 have hF:fewE s.l=(decide (s.l.length≤200) && s.l.all fun n=>decide (n.name.length≤70)):=rfl
 generalize fewE s.l=res at hF ⊢
 refine AW.seq_k fun K hK=>AW.region (by kernel_rfl) ?_
 simp -implicitDefEqProofs only[go_sem,seval,↓reduceIte]
 intro g1
 refine hK _ ?_
 clear hK K
 refine AW.seq_k fun K1 hK1=>?_
 refine AW.seq_k fun K hK=>AW.region (by kernel_rfl) ?_
 simp -implicitDefEqProofs only[go_sem,seval,↓reduceIte]
 refine hK _ ?_
 clear hK K
 by_cases hl:s.l.length > 200
 ·have q1:decide (((s.l.length:Nat):Int) > 200)=true:=by rw [decide_eq_true_iff];omega
  rw [decide_eq_false (by omega)] at hF
  rw [q1]
  refine AW.condS (by simp -implicitDefEqProofs only[go_sem,seval,↓reduceIte];rfl) (fun h7=>?_) (fun h7=>?_)
  rotate_left
  ·cases h7
  refine AW.seq_k fun K hK=>AW.region (by kernel_rfl) ?_
  simp -implicitDefEqProofs only[go_sem,seval,↓reduceIte]
  refine hK _ ?_
  clear hK K
  refine AW.ret ?_
  simp -implicitDefEqProofs only[go_sem,seval,↓reduceIte]
  refine endK_some ?_
  rw [hF];rfl
 have q1:decide (((s.l.length:Nat):Int) > 200)=false:=by rw [decide_eq_false_iff_not];omega
 rw [decide_eq_true (by omega),Bool.true_and] at hF
 rw [q1]
 refine AW.condS (by simp -implicitDefEqProofs only[go_sem,seval,↓reduceIte];rfl) (fun h7=>?_) (fun h7=>?_)
 ·cases h7
 refine AW.skip ?_
 simp -implicitDefEqProofs only[go_sem,seval,↓reduceIte]
 refine hK1 _ ?_
 refine AW.seq_k fun K2 hK2=>?_
 refine AW.seq_k fun K hK=>AW.region (by kernel_rfl) ?_
 simp -implicitDefEqProofs only[go_sem,seval,↓reduceIte]
 refine hK _ ?_
 clear hK K
 refine AW.block ?_
 refine AW.for s.l.length (fun k (_:Unit)=>st [(1,.ptr 1 g1 0),(3,.int .i64 k)] [(1,.cells .new g1 0 [encSl c 6 encXN s])]) (fun k _=>(s.l.take k).all (fun n=>decide (n.name.length≤70))=true) 0 () (Nat.zero_le _) rfl
  (Weak.st (by simp -implicitDefEqProofs only[go_sem,seval,↓reduceIte];try rfl) (by simp -implicitDefEqProofs only[go_sem,seval,↓reduceIte];try rfl)) ?_
 intro k _ hk hR L3 hL3
 refine AW.seq_k fun K4 hK4=>?_
 refine AW.seq_k fun K hK=>AW.region (by kernel_rfl) ?_
 simp -implicitDefEqProofs only[go_sem,seval,↓reduceIte]
 refine hK _ ?_
 clear hK K
 refine AW.condS (by simp -implicitDefEqProofs only[go_sem,seval,↓reduceIte];rfl) (fun h12=>?_) (fun h12=>?_)
 ·have hk1:k<s.l.length:=by simpa using h12
  have hg:=List.getElem?_eq_getElem hk1
  have htk:s.l.take (k+1)=s.l.take k++[s.l[k]]:=by rw [List.take_succ_eq_append_getElem hk1]
  have hmem:=List.getElem_mem hk1
  generalize s.l[k]=n at hg htk hmem
  refine AW.skip ?_
  simp -implicitDefEqProofs only[go_sem,seval,↓reduceIte]
  refine hK4 _ ?_
  refine AW.seq_k fun K5 hK5=>?_
  refine AW.block ?_
  by_cases hn:n.name.length > 70
  ·have q2:decide (((n.name.length:Nat):Int) > 70)=true:=by rw [decide_eq_true_iff];omega
   refine AW.seq_k fun K hK=>AW.region (by kernel_rfl) ?_
   simp -implicitDefEqProofs only[go_sem,seval,↓reduceIte,hg,encXN_K,q2]
   refine hK _ ?_
   clear hK K
   refine AW.condS (by simp -implicitDefEqProofs only[go_sem,seval,↓reduceIte];rfl) (fun h22=>?_) (fun h22=>?_)
   rotate_left
   ·cases h22
   refine AW.seq_k fun K hK=>AW.region (by kernel_rfl) ?_
   simp -implicitDefEqProofs only[go_sem,seval,↓reduceIte]
   refine hK _ ?_
   clear hK K
   refine AW.ret ?_
   simp -implicitDefEqProofs only[go_sem,seval,↓reduceIte]
   refine endK_some ?_
   have:(s.l.all fun n=>decide (n.name.length≤70))=false:=by
    rw [List.all_eq_false]
    exact ⟨n,hmem,by simp;omega⟩
   rw [hF,this]
  ·have q2:decide (((n.name.length:Nat):Int) > 70)=false:=by rw [decide_eq_false_iff_not];omega
   refine AW.seq_k fun K hK=>AW.region (by kernel_rfl) ?_
   simp -implicitDefEqProofs only[go_sem,seval,↓reduceIte,hg,encXN_K,q2]
   refine hK _ ?_
   clear hK K
   refine AW.condS (by simp -implicitDefEqProofs only[go_sem,seval,↓reduceIte];rfl) (fun h22=>?_) (fun h22=>?_)
   ·cases h22
   refine AW.skip ?_
   simp -implicitDefEqProofs only[go_sem,seval,↓reduceIte]
   refine hK5 _ ?_
   refine AW.region (by kernel_rfl) ?_
   simp -implicitDefEqProofs only[go_sem,seval,↓reduceIte]
   refine hL3 _ ⟨hk1,(),?_,Weak.st (by simp -implicitDefEqProofs only[go_sem,seval,↓reduceIte];exact congrArg _ (w64 (by omega) (by omega))) (by simp -implicitDefEqProofs only[go_sem,seval,↓reduceIte];try rfl)⟩
   rw [htk,List.all_append,hR,Bool.true_and]
   simp;omega
 ·have hk1:k=s.l.length:=by simp at h12;omega
  refine AW.exit ?_
  simp -implicitDefEqProofs only[go_sem,seval,↓reduceIte]
  refine hK2 _ ?_
  rw [hk1,List.take_length] at hR
  refine AW.seq_k fun K hK=>AW.region (by kernel_rfl) ?_
  simp -implicitDefEqProofs only[go_sem,seval,↓reduceIte]
  refine hK _ ?_
  clear hK K
  refine AW.ret ?_
  simp -implicitDefEqProofs only[go_sem,seval,↓reduceIte]
  refine endK_some ?_
  rw [hF,hR]
theorem xn_eqV (n m:XN):(n.op==m.op && (n.num==m.num && (n.name==m.name && (n.a==m.a && (n.b==m.b && (n.c==m.c && true))))))=(n==m):=by
 obtain ⟨a1,a2,a3,a4,a5,a6⟩:=n
 obtain ⟨b1,b2,b3,b4,b5,b6⟩:=m
 rw [Bool.eq_iff_iff]
 simp [and_assoc]
theorem vSame_spec (G:Nat→V) (hG:GOk G) (c c1:Col) (s t:Sl XN) (hs:s.l.length<1000000) :
  Spec Tryz.prog G 32 [.agg [encSl c 6 encXN s],encSl c1 6 encXN t] hNone (fun v _=>v = .bool (s.l==t.l)):=by
 refine Spec.of_code' 0 30 [.tmp 4] Tryz.func32 rfl rfl rfl rfl fun X=>?_
 refine AW.seq_k fun K hK=>AW.region (by kernel_rfl) ?_
 simp -implicitDefEqProofs only[go_sem,seval,↓reduceIte]
 intro g2
 refine hK _ ?_
 clear hK K
 refine AW.weak (Weak.stF (fun o=>o==2) (l:=[(1,encSl c1 6 encXN t),(2,.view .new (.agg [encSl c 6 encXN s]))]) (m:=[]) ?_ trivial) ?_
 ·simp -implicitDefEqProofs only[go_sem,seval,↓reduceIte]
  exact ⟨Fz.same _,Fz.ptr (v := .agg [encSl c 6 encXN s]) (c := .new) (fz:=0) rfl (by simp -implicitDefEqProofs only[go_sem,seval,↓reduceIte];try rfl)⟩
 refine AW.seq_k fun K1 hK1=>?_
 refine AW.seq_k fun K hK=>AW.region (by kernel_rfl) ?_
 simp -implicitDefEqProofs only[go_sem,seval,↓reduceIte]
 refine hK _ ?_
 clear hK K
 by_cases hl:s.l.length=t.l.length
 rotate_left
 ·have q1:(((s.l.length:Nat):Int) != ((t.l.length:Nat):Int))=true:=by simp;omega
  have hne:(s.l==t.l)=false:=by rw [beq_eq_false_iff_ne];exact fun h=>hl (by rw [h])
  rw [q1]
  refine AW.condS (by simp -implicitDefEqProofs only[go_sem,seval,↓reduceIte];rfl) (fun h10=>?_) (fun h10=>?_)
  ·refine AW.seq_k fun K hK=>AW.region (by kernel_rfl) ?_
   simp -implicitDefEqProofs only[go_sem,seval,↓reduceIte]
   refine hK _ ?_
   clear hK K
   refine AW.ret ?_
   simp -implicitDefEqProofs only[go_sem,seval,↓reduceIte]
   refine endK_some ?_
   rw [hne]
  ·cases h10
 have q1:(((s.l.length:Nat):Int) != ((t.l.length:Nat):Int))=false:=by simp;omega
 rw [q1]
 refine AW.condS (by simp -implicitDefEqProofs only[go_sem,seval,↓reduceIte];rfl) (fun h10=>?_) (fun h10=>?_)
 ·cases h10
 refine AW.skip ?_
 simp -implicitDefEqProofs only[go_sem,seval,↓reduceIte]
 refine hK1 _ ?_
 refine AW.seq_k fun K hK=>AW.region (by kernel_rfl) ?_
 simp -implicitDefEqProofs only[go_sem,seval,↓reduceIte]
 refine CallA.pure hG (by kernel_rfl) ?_
 simp -implicitDefEqProofs only[go_sem,seval,↓reduceIte,recol_xns]
 refine (vRef_spec G hG _ s hs).mono ?_
 rintro _ _ rfl
 simp -implicitDefEqProofs only[go_sem,seval,↓reduceIte,encXs,recol_xns]
 refine hK _ ?_
 clear hK K
 have hgl:(grownS s.l).l=s.l:=grownS_l _
 refine AW.seq_k fun K2 hK2=>?_
 refine AW.seq_k fun K hK=>AW.region (by kernel_rfl) ?_
 simp -implicitDefEqProofs only[go_sem,seval,↓reduceIte]
 refine hK _ ?_
 clear hK K
 refine AW.block ?_
 refine AW.for t.l.length (fun k (_:Unit)=>st [(1,encSl c1 6 encXN t),(5,encSl .new 6 encXN (grownS s.l)),(6,.int .i64 k)] []) (fun k _=>s.l.take k=t.l.take k) 0 () (Nat.zero_le _) rfl
  (Weak.st (by simp -implicitDefEqProofs only[go_sem,seval,↓reduceIte];try rfl) (by simp -implicitDefEqProofs only[go_sem,seval,↓reduceIte])) ?_
 intro k _ hk hR L3 hL3
 refine AW.seq_k fun K4 hK4=>?_
 refine AW.seq_k fun K hK=>AW.region (by kernel_rfl) ?_
 simp -implicitDefEqProofs only[go_sem,seval,↓reduceIte]
 refine hK _ ?_
 clear hK K
 refine AW.condS (by simp -implicitDefEqProofs only[go_sem,seval,↓reduceIte];rfl) (fun h14=>?_) (fun h14=>?_)
 ·have hk2:k<t.l.length:=by simpa using h14
  have hk1:k<s.l.length:=by omega
  have hg:=List.getElem?_eq_getElem hk1
  have hg2:=List.getElem?_eq_getElem hk2
  have htk:s.l.take (k+1)=s.l.take k++[s.l[k]]:=by rw [List.take_succ_eq_append_getElem hk1]
  have htk2:t.l.take (k+1)=t.l.take k++[t.l[k]]:=by rw [List.take_succ_eq_append_getElem hk2]
  generalize s.l[k]=x at hg htk
  generalize t.l[k]=y at hg2 htk2
  refine AW.skip ?_
  simp -implicitDefEqProofs only[go_sem,seval,↓reduceIte]
  refine hK4 _ ?_
  refine AW.seq_k fun K5 hK5=>?_
  refine AW.block ?_
  by_cases hxy:x=y
  rotate_left
  ·have q2:(x==y)=false:=by simpa using hxy
   have hne:(s.l==t.l)=false:=by
    rw [beq_eq_false_iff_ne]
    intro h
    rw [h,hg2] at hg
    exact hxy (Option.some.inj hg).symm
   refine AW.seq_k fun K hK=>AW.regionT ⟨fun _ => .top,fun _ => .pure⟩ (by kernel_rfl) hG (by kernel_rfl) (by kernel_rfl) ?_
   simp -implicitDefEqProofs only[go_sem,seval,↓reduceIte,hgl,hg,hg2,encXN_K,xn_eqV,q2]
   refine hK _ ?_
   clear hK K
   refine AW.condS (by simp -implicitDefEqProofs only[go_sem,seval,↓reduceIte];rfl) (fun h25=>?_) (fun h25=>?_)
   ·refine AW.seq_k fun K hK=>AW.region (by kernel_rfl) ?_
    simp -implicitDefEqProofs only[go_sem,seval,↓reduceIte]
    refine hK _ ?_
    clear hK K
    refine AW.ret ?_
    simp -implicitDefEqProofs only[go_sem,seval,↓reduceIte]
    refine endK_some ?_
    rw [hne]
   ·cases h25
  have q2:(x==y)=true:=by simpa using hxy
  refine AW.seq_k fun K hK=>AW.regionT ⟨fun _ => .top,fun _ => .pure⟩ (by kernel_rfl) hG (by kernel_rfl) (by kernel_rfl) ?_
  simp -implicitDefEqProofs only[go_sem,seval,↓reduceIte,hgl,hg,hg2,encXN_K,xn_eqV,q2]
  refine hK _ ?_
  clear hK K
  refine AW.condS (by simp -implicitDefEqProofs only[go_sem,seval,↓reduceIte];rfl) (fun h25=>?_) (fun h25=>?_)
  ·cases h25
  refine AW.skip ?_
  simp -implicitDefEqProofs only[go_sem,seval,↓reduceIte]
  refine hK5 _ ?_
  refine AW.region (by kernel_rfl) ?_
  simp -implicitDefEqProofs only[go_sem,seval,↓reduceIte]
  exact hL3 _ ⟨hk2,(),by rw [htk,htk2,hR,hxy],Weak.st (by simp -implicitDefEqProofs only[go_sem,seval,↓reduceIte];exact congrArg _ (w64 (by omega) (by omega))) (by simp -implicitDefEqProofs only[go_sem,seval,↓reduceIte])⟩
 ·have hk1:k=t.l.length:=by simp at h14;omega
  refine AW.exit ?_
  simp -implicitDefEqProofs only[go_sem,seval,↓reduceIte]
  refine hK2 _ ?_
  rw [hk1,List.take_length,← hl,List.take_length] at hR
  refine AW.seq_k fun K hK=>AW.region (by kernel_rfl) ?_
  simp -implicitDefEqProofs only[go_sem,seval,↓reduceIte]
  refine hK _ ?_
  clear hK K
  refine AW.ret ?_
  simp -implicitDefEqProofs only[go_sem,seval,↓reduceIte]
  refine endK_some ?_
  rw [hR];simp
theorem sEqualX_spec (G:Nat→V) (hG:GOk G) (c c1:Col) (s t:Sl XN) (hs:s.l.length<1000000) :
  Spec Tryz.prog G 65 [encSl c 6 encXN s,encSl c1 6 encXN t] hNone (fun v _=>v = .bool (s.l==t.l)):=by
 refine Spec.of_code' 0 26 [.tmp 4] Tryz.func65 rfl rfl rfl rfl fun X=>?_
 refine AW.seq_k fun K hK=>AW.region (by kernel_rfl) ?_
 simp -implicitDefEqProofs only[go_sem,seval,↓reduceIte]
 refine hK _ ?_
 clear hK K
 refine AW.seq_k fun K1 hK1=>?_
 refine AW.seq_k fun K hK=>AW.region (by kernel_rfl) ?_
 simp -implicitDefEqProofs only[go_sem,seval,↓reduceIte]
 refine hK _ ?_
 clear hK K
 by_cases hl:s.l.length=t.l.length
 rotate_left
 ·have q1:(((s.l.length:Nat):Int) != ((t.l.length:Nat):Int))=true:=by simp;omega
  have hne:(s.l==t.l)=false:=by rw [beq_eq_false_iff_ne];exact fun h=>hl (by rw [h])
  rw [q1]
  refine AW.condS (by simp -implicitDefEqProofs only[go_sem,seval,↓reduceIte];rfl) (fun h10=>?_) (fun h10=>?_)
  ·refine AW.seq_k fun K hK=>AW.region (by kernel_rfl) ?_
   simp -implicitDefEqProofs only[go_sem,seval,↓reduceIte]
   refine hK _ ?_
   clear hK K
   refine AW.ret ?_
   simp -implicitDefEqProofs only[go_sem,seval,↓reduceIte]
   refine endK_some ?_
   rw [hne]
  ·cases h10
 have q1:(((s.l.length:Nat):Int) != ((t.l.length:Nat):Int))=false:=by simp;omega
 rw [q1]
 refine AW.condS (by simp -implicitDefEqProofs only[go_sem,seval,↓reduceIte];rfl) (fun h10=>?_) (fun h10=>?_)
 ·cases h10
 refine AW.skip ?_
 simp -implicitDefEqProofs only[go_sem,seval,↓reduceIte]
 refine hK1 _ ?_
 refine AW.seq_k fun K2 hK2=>?_
 refine AW.seq_k fun K hK=>AW.region (by kernel_rfl) ?_
 simp -implicitDefEqProofs only[go_sem,seval,↓reduceIte]
 refine hK _ ?_
 clear hK K
 refine AW.block ?_
 refine AW.for s.l.length (fun k (_:Unit)=>st [(0,encSl c 6 encXN s),(1,encSl c1 6 encXN t),(12,.int .i64 s.l.length),(13,.int .i64 k)] []) (fun k _=>s.l.take k=t.l.take k) 0 () (Nat.zero_le _) rfl
  (Weak.st (by simp -implicitDefEqProofs only[go_sem,seval,↓reduceIte];try rfl) (by simp -implicitDefEqProofs only[go_sem,seval,↓reduceIte])) ?_
 intro k _ hk hR L3 hL3
 refine AW.seq_k fun K hK=>AW.region (by kernel_rfl) ?_
 simp -implicitDefEqProofs only[go_sem,seval,↓reduceIte]
 refine hK _ ?_
 clear hK K
 refine AW.seq_k fun K4 hK4=>?_
 refine AW.condS (by simp -implicitDefEqProofs only[go_sem,seval,↓reduceIte];rfl) (fun h14=>?_) (fun h14=>?_)
 ·have hk1:k<s.l.length:=by simpa using h14
  have hk2:k<t.l.length:=by omega
  have hg:=List.getElem?_eq_getElem hk1
  have hg2:=List.getElem?_eq_getElem hk2
  have htk:s.l.take (k+1)=s.l.take k++[s.l[k]]:=by rw [List.take_succ_eq_append_getElem hk1]
  have htk2:t.l.take (k+1)=t.l.take k++[t.l[k]]:=by rw [List.take_succ_eq_append_getElem hk2]
  generalize s.l[k]=x at hg htk
  generalize t.l[k]=y at hg2 htk2
  refine AW.skip ?_
  simp -implicitDefEqProofs only[go_sem,seval,↓reduceIte]
  refine hK4 _ ?_
  refine AW.seq_k fun K5 hK5=>?_
  refine AW.block ?_
  refine AW.seq_k fun K hK=>AW.region (by kernel_rfl) ?_
  simp -implicitDefEqProofs only[go_sem,seval,↓reduceIte]
  refine hK _ ?_
  clear hK K
  by_cases hxy:x=y
  rotate_left
  ·have q2:(x==y)=false:=by simpa using hxy
   have hne:(s.l==t.l)=false:=by
    rw [beq_eq_false_iff_ne]
    intro h
    rw [h,hg2] at hg
    exact hxy (Option.some.inj hg).symm
   refine AW.seq_k fun K hK=>AW.regionT ⟨fun _ => .top,fun _ => .pure⟩ (by kernel_rfl) hG (by kernel_rfl) (by kernel_rfl) ?_
   simp -implicitDefEqProofs only[go_sem,seval,↓reduceIte,hg,hg2,encXN_K,xn_eqV,q2]
   refine hK _ ?_
   clear hK K
   refine AW.condS (by simp -implicitDefEqProofs only[go_sem,seval,↓reduceIte];rfl) (fun h25=>?_) (fun h25=>?_)
   ·refine AW.seq_k fun K hK=>AW.region (by kernel_rfl) ?_
    simp -implicitDefEqProofs only[go_sem,seval,↓reduceIte]
    refine hK _ ?_
    clear hK K
    refine AW.ret ?_
    simp -implicitDefEqProofs only[go_sem,seval,↓reduceIte]
    refine endK_some ?_
    rw [hne]
   ·cases h25
  have q2:(x==y)=true:=by simpa using hxy
  refine AW.seq_k fun K hK=>AW.regionT ⟨fun _ => .top,fun _ => .pure⟩ (by kernel_rfl) hG (by kernel_rfl) (by kernel_rfl) ?_
  simp -implicitDefEqProofs only[go_sem,seval,↓reduceIte,hg,hg2,encXN_K,xn_eqV,q2]
  refine hK _ ?_
  clear hK K
  refine AW.condS (by simp -implicitDefEqProofs only[go_sem,seval,↓reduceIte];rfl) (fun h25=>?_) (fun h25=>?_)
  ·cases h25
  refine AW.skip ?_
  simp -implicitDefEqProofs only[go_sem,seval,↓reduceIte]
  refine hK5 _ ?_
  refine AW.region (by kernel_rfl) ?_
  simp -implicitDefEqProofs only[go_sem,seval,↓reduceIte]
  exact hL3 _ ⟨hk1,(),by rw [htk,htk2,hR,hxy],Weak.st (by simp -implicitDefEqProofs only[go_sem,seval,↓reduceIte];exact congrArg _ (w64 (by omega) (by omega))) (by simp -implicitDefEqProofs only[go_sem,seval,↓reduceIte])⟩
 ·have hk1:k=s.l.length:=by simp at h14;omega
  refine AW.exit ?_
  simp -implicitDefEqProofs only[go_sem,seval,↓reduceIte]
  refine hK2 _ ?_
  rw [hk1,List.take_length,hl,List.take_length] at hR
  refine AW.seq_k fun K hK=>AW.region (by kernel_rfl) ?_
  simp -implicitDefEqProofs only[go_sem,seval,↓reduceIte]
  refine hK _ ?_
  clear hK K
  refine AW.ret ?_
  simp -implicitDefEqProofs only[go_sem,seval,↓reduceIte]
  refine endK_some ?_
  rw [hR];simp
theorem xSame_spec (G:Nat→V) (hG:GOk G) (c c1:Col) (s t:Sl XN) (hs:s.l.length<1000000) :
  Spec Tryz.prog G 43 [.agg [encSl c 6 encXN s],.agg [encSl c1 6 encXN t]] hNone (fun v _=>v = .bool (s.l==t.l)):=by
 refine Spec.of_code' 0 10 [.tmp 4] Tryz.func43 rfl rfl rfl rfl fun X=>?_
 refine AW.seq_k fun K hK=>AW.region (by kernel_rfl) ?_
 simp -implicitDefEqProofs only[go_sem,seval,↓reduceIte]
 intro g2 g3
 refine hK _ ?_
 clear hK K
 refine AW.seq_k fun K hK=>AW.region (by kernel_rfl) ?_
 simp -implicitDefEqProofs only[go_sem,seval,↓reduceIte]
 refine CallA.pure hG (by kernel_rfl) ?_
 simp -implicitDefEqProofs only[go_sem,seval,↓reduceIte,recol_xns]
 refine (sEqualX_spec G hG _ _ s t hs).mono ?_
 rintro _ _ rfl
 simp -implicitDefEqProofs only[go_sem,seval,↓reduceIte]
 refine hK _ ?_
 clear hK K
 refine AW.ret ?_
 simp -implicitDefEqProofs only[go_sem,seval,↓reduceIte]
 refine endK_some ?_
 rfl
end Go.Hs
end

section
namespace Go.Hs
open Go.Proofs
set_option maxRecDepth 10000
def xq (n:Int):X := .leaf 1 n []
def xv (c:UInt8):X := .leaf 2 0 [c]
def xA:X := .bin 10 (xq 1) (.bin 7 (xq 2) (xv 120))
def xB:X := .bin 7 (.bin 10 (xq 1) (xq 2)) (xv 120)
def xC:X := .bin 11 (xv 97) (.bin 11 (xv 98) (xv 99))
def xD:X := .un 5 (.un 5 (xq 1))
theorem vWorks_spec (G:Nat→V) (hE:GExp G):Spec Tryz.prog G 30 [] hNone (fun v _=>v = .bool true):=by
 have hG:=hE.ok
 refine Spec.of_code' 0 139 [.tmp 0] Tryz.func30 rfl rfl rfl rfl fun X=>?_
 refine AW.seq_k fun K hK=>AW.region (by kernel_rfl) ?_
 simp -implicitDefEqProofs only[go_sem,seval,↓reduceIte]
 refine hK _ ?_
 clear hK K
 refine AW.seq_k fun K hK=>AW.region (by kernel_rfl) ?_
 simp -implicitDefEqProofs only[go_sem,seval,↓reduceIte]
 refine CallA.pure hG (by kernel_rfl) ?_
 simp -implicitDefEqProofs only[go_sem,seval,↓reduceIte]
 refine (xParse_spec G hE [49,32,43,32,50,32,42,32,120] (by decide)).mono ?_
 rintro _ _ rfl
 rw [show exprP [49,32,43,32,50,32,42,32,120]=(xA.row 0,0,0) from by decide +kernel]
 simp -implicitDefEqProofs only[go_sem,seval,↓reduceIte,encFr,encXs,recol_xns]
 intro g1
 refine hK _ ?_
 clear hK K
 refine AW.seq_k fun K hK=>AW.region (by kernel_rfl) ?_
 simp -implicitDefEqProofs only[go_sem,seval,↓reduceIte]
 refine CallA.pure hG (by kernel_rfl) ?_
 simp -implicitDefEqProofs only[go_sem,seval,↓reduceIte]
 refine (xParse_spec G hE [40,49,43,50,41,42,120] (by decide)).mono ?_
 rintro _ _ rfl
 rw [show exprP [40,49,43,50,41,42,120]=(xB.row 0,0,0) from by decide +kernel]
 simp -implicitDefEqProofs only[go_sem,seval,↓reduceIte,encFr,encXs,recol_xns]
 intro g4
 refine hK _ ?_
 clear hK K
 refine AW.seq_k fun K hK=>AW.region (by kernel_rfl) ?_
 simp -implicitDefEqProofs only[go_sem,seval,↓reduceIte]
 refine CallA.pure hG (by kernel_rfl) ?_
 simp -implicitDefEqProofs only[go_sem,seval,↓reduceIte]
 refine (xParse_spec G hE [97,32,45,32,40,98,32,45,32,99,41] (by decide)).mono ?_
 rintro _ _ rfl
 rw [show exprP [97,32,45,32,40,98,32,45,32,99,41]=(xC.row 0,0,0) from by decide +kernel]
 simp -implicitDefEqProofs only[go_sem,seval,↓reduceIte,encFr,encXs,recol_xns]
 intro g7
 refine hK _ ?_
 clear hK K
 refine AW.seq_k fun K hK=>AW.region (by kernel_rfl) ?_
 simp -implicitDefEqProofs only[go_sem,seval,↓reduceIte]
 refine CallA.pure hG (by kernel_rfl) ?_
 simp -implicitDefEqProofs only[go_sem,seval,↓reduceIte]
 refine (xParse_spec G hE [45,32,45,32,49] (by decide)).mono ?_
 rintro _ _ rfl
 rw [show exprP [45,32,45,32,49]=(xD.row 0,0,0) from by decide +kernel]
 simp -implicitDefEqProofs only[go_sem,seval,↓reduceIte,encFr,encXs,recol_xns]
 intro g10
 refine hK _ ?_
 clear hK K
 refine AW.seq_k fun K hK=>AW.region (by kernel_rfl) ?_
 simp -implicitDefEqProofs only[go_sem,seval,↓reduceIte]
 refine CallA.pure hG (by kernel_rfl) ?_
 simp -implicitDefEqProofs only[go_sem,seval,↓reduceIte,recol_xns]
 refine (xPrint_spec G hE _ (grownS (xA.row 0)) (by rw [grownS_l];decide) (by rw [grownS_l];decide +kernel) (by rw [grownS_l];decide +kernel)).mono ?_
 rintro _ _ ⟨r,rfl,hr⟩
 rw [grownS_l] at hr
 obtain rfl:r=([49,32,43,32,50,32,42,32,120],0):=by rw [hr.2 xA (by decide +kernel) rfl (by decide +kernel),show joinW (xA.W 0)=[49,32,43,32,50,32,42,32,120] from by decide +kernel]
 simp -implicitDefEqProofs only[go_sem,seval,↓reduceIte,encPr]
 refine hK _ ?_
 clear hK K
 refine AW.seq_k fun K hK=>AW.region (by kernel_rfl) ?_
 simp -implicitDefEqProofs only[go_sem,seval,↓reduceIte]
 refine CallA.pure hG (by kernel_rfl) ?_
 simp -implicitDefEqProofs only[go_sem,seval,↓reduceIte,recol_xns]
 refine (xPrint_spec G hE _ (grownS (xB.row 0)) (by rw [grownS_l];decide) (by rw [grownS_l];decide +kernel) (by rw [grownS_l];decide +kernel)).mono ?_
 rintro _ _ ⟨r,rfl,hr⟩
 rw [grownS_l] at hr
 obtain rfl:r=([40,32,49,32,43,32,50,32,41,32,42,32,120],0):=by rw [hr.2 xB (by decide +kernel) rfl (by decide +kernel),show joinW (xB.W 0)=[40,32,49,32,43,32,50,32,41,32,42,32,120] from by decide +kernel]
 simp -implicitDefEqProofs only[go_sem,seval,↓reduceIte,encPr]
 refine hK _ ?_
 clear hK K
 refine AW.seq_k fun K hK=>AW.region (by kernel_rfl) ?_
 simp -implicitDefEqProofs only[go_sem,seval,↓reduceIte]
 refine CallA.pure hG (by kernel_rfl) ?_
 simp -implicitDefEqProofs only[go_sem,seval,↓reduceIte,recol_xns]
 refine (xPrint_spec G hE _ (grownS (xC.row 0)) (by rw [grownS_l];decide) (by rw [grownS_l];decide +kernel) (by rw [grownS_l];decide +kernel)).mono ?_
 rintro _ _ ⟨r,rfl,hr⟩
 rw [grownS_l] at hr
 obtain rfl:r=([97,32,45,32,40,32,98,32,45,32,99,32,41],0):=by rw [hr.2 xC (by decide +kernel) rfl (by decide +kernel),show joinW (xC.W 0)=[97,32,45,32,40,32,98,32,45,32,99,32,41] from by decide +kernel]
 simp -implicitDefEqProofs only[go_sem,seval,↓reduceIte,encPr]
 refine hK _ ?_
 clear hK K
 refine AW.seq_k fun K hK=>AW.region (by kernel_rfl) ?_
 simp -implicitDefEqProofs only[go_sem,seval,↓reduceIte]
 refine CallA.pure hG (by kernel_rfl) ?_
 simp -implicitDefEqProofs only[go_sem,seval,↓reduceIte,recol_xns]
 refine (xPrint_spec G hE _ (grownS (xD.row 0)) (by rw [grownS_l];decide) (by rw [grownS_l];decide +kernel) (by rw [grownS_l];decide +kernel)).mono ?_
 rintro _ _ ⟨r,rfl,hr⟩
 rw [grownS_l] at hr
 obtain rfl:r=([45,32,45,32,49],0):=by rw [hr.2 xD (by decide +kernel) rfl (by decide +kernel),show joinW (xD.W 0)=[45,32,45,32,49] from by decide +kernel]
 simp -implicitDefEqProofs only[go_sem,seval,↓reduceIte,encPr]
 refine hK _ ?_
 clear hK K
 refine AW.seq_k fun K hK=>AW.region (by kernel_rfl) ?_
 simp -implicitDefEqProofs only[go_sem,seval,↓reduceIte]
 refine CallA.pure hG (by kernel_rfl) ?_
 simp -implicitDefEqProofs only[go_sem,seval,↓reduceIte]
 refine (xParse_spec G hE [49,32,43] (by decide)).mono ?_
 rintro _ _ rfl
 rw [show exprP [49,32,43]=([],3,80) from by decide +kernel]
 simp -implicitDefEqProofs only[go_sem,seval,↓reduceIte,encFr,encXs,recol_xns]
 intro g21
 refine hK _ ?_
 clear hK K
 refine AW.seq_k fun K hK=>AW.region (by kernel_rfl) ?_
 simp -implicitDefEqProofs only[go_sem,seval,↓reduceIte]
 refine CallA.pure hG (by kernel_rfl) ?_
 simp -implicitDefEqProofs only[go_sem,seval,↓reduceIte]
 refine (xParse_spec G hE [97,32,98] (by decide)).mono ?_
 rintro _ _ rfl
 rw [show exprP [97,32,98]=([],2,80) from by decide +kernel]
 simp -implicitDefEqProofs only[go_sem,seval,↓reduceIte,encFr,encXs,recol_xns]
 intro g24
 refine hK _ ?_
 clear hK K
 refine AW.seq_k fun K hK=>AW.region (by kernel_rfl) ?_
 simp -implicitDefEqProofs only[go_sem,seval,↓reduceIte]
 refine CallA.pure hG (by kernel_rfl) ?_
 simp -implicitDefEqProofs only[go_sem,seval,↓reduceIte]
 refine (xParse_spec G hE [57,57,57,57,57,57,57,57,57,57,57,57,57,57,57,57,57,57,57,57] (by decide)).mono ?_
 rintro _ _ rfl
 rw [show exprP [57,57,57,57,57,57,57,57,57,57,57,57,57,57,57,57,57,57,57,57]=([],0,60) from by decide +kernel]
 simp -implicitDefEqProofs only[go_sem,seval,↓reduceIte,encFr,encXs,recol_xns]
 intro g27
 refine hK _ ?_
 clear hK K
 have ta:∀ l:List Oper,l.toArray=(⟨l⟩:Array Oper):=fun l=>rfl
 simp -implicitDefEqProofs only [ta,List.append_eq,List.cons_append,List.nil_append]
 refine AW.seq_k fun K hK=>AW.region (by kernel_rfl) ?_
 simp -implicitDefEqProofs only[go_sem,seval,↓reduceIte]
 refine hK _ ?_
 clear hK K
 refine AW.ret ?_
 simp -implicitDefEqProofs only[go_sem,seval,↓reduceIte]
 refine endK_some ?_
 rfl
end Go.Hs
end

section
namespace Go.Hs
open Go.Proofs
set_option maxRecDepth 10000
theorem u8q40 (c:UInt8):((c.toNat:Int)==40)=(c==40):=u8q c 40 (by decide)
theorem u8q41 (c:UInt8):((c.toNat:Int)==41)=(c==41):=u8q c 41 (by decide)
theorem cut_erase (t:List UInt8) (i k:Nat) (h:i<k) (hk:k<t.length):t.take i++(t.drop (i+1)).take (k-(i+1))++t.drop (k+1)=(t.eraseIdx k).eraseIdx i:=by
 rw [List.eraseIdx_eq_take_drop_succ,List.eraseIdx_eq_take_drop_succ (l:=t),List.take_append_of_le_length (by rw [List.length_take];omega),List.take_take,Nat.min_eq_left (by omega),List.drop_append_of_le_length (by rw [List.length_take];omega),List.drop_take,List.append_assoc]
theorem lExprLeast (G:Nat→V) (hE:GExp G) (s:Sl XN) (hns:∀ n∈s.l,n.num≤9223372036854775807) :
  Spec Tryz.prog G 12 [.agg [encSl .old 6 encXN s]] hNone (fun v _=>v = .bool true):=by
 have hG:=hE.ok
 refine Spec.of_code' 0 91 [.tmp 2] Tryz.func12 rfl rfl rfl rfl fun X0=>?_
 refine AW.seq_k fun K hK=>AW.region (by kernel_rfl) ?_
 simp -implicitDefEqProofs only[go_sem,seval,↓reduceIte]
 intro g1
 refine hK _ ?_
 clear hK K
 refine AW.weak (Weak.stF (fun o=>o==1) (l:=[(1,.view .new (.agg [encSl .old 6 encXN s]))]) (m:=[]) ?_ trivial) ?_
 ·simp -implicitDefEqProofs only[go_sem,seval,↓reduceIte]
  exact Fz.ptr (v := .agg [encSl .old 6 encXN s]) (c := .new) (fz:=0) rfl (by simp -implicitDefEqProofs only[go_sem,seval,↓reduceIte];try rfl)
 refine AW.seq_k fun K1 hK1=>?_
 refine AW.seq_k fun K hK=>AW.region (by kernel_rfl) ?_
 simp -implicitDefEqProofs only[go_sem,seval,↓reduceIte]
 refine CallA.pure hG (by kernel_rfl) ?_
 simp -implicitDefEqProofs only[go_sem,seval,↓reduceIte,recol_xns]
 refine (vFew_spec G hG _ s).mono ?_
 rintro _ _ rfl
 cases hf:fewE s.l with
 | false =>
  simp -implicitDefEqProofs only[go_sem,seval,↓reduceIte]
  refine hK _ ?_
  clear hK K
  refine AW.condS (by simp -implicitDefEqProofs only[go_sem,seval,↓reduceIte];rfl) (fun h19=>?_) (fun h19=>?_)
  rotate_left
  ·cases h19
  refine AW.seq_k fun K hK=>AW.region (by kernel_rfl) ?_
  simp -implicitDefEqProofs only[go_sem,seval,↓reduceIte]
  refine CallA.pure hG (by kernel_rfl) ?_
  simp -implicitDefEqProofs only[go_sem,seval,↓reduceIte,List.map_nil]
  refine (vWorks_spec G hE).mono ?_
  rintro _ _ rfl
  simp -implicitDefEqProofs only[go_sem,seval,↓reduceIte]
  refine hK _ ?_
  clear hK K
  refine AW.ret ?_
  simp -implicitDefEqProofs only[go_sem,seval,↓reduceIte]
  refine endK_some ?_
  rfl
 | true =>
 by_cases hz:s.l.length > 60
 ·have q1:decide (((s.l.length:Nat):Int) > 60)=true:=by rw [decide_eq_true_iff];omega
  simp -implicitDefEqProofs only[go_sem,seval,↓reduceIte,q1]
  refine hK _ ?_
  clear hK K
  refine AW.condS (by simp -implicitDefEqProofs only[go_sem,seval,↓reduceIte];rfl) (fun h19=>?_) (fun h19=>?_)
  rotate_left
  ·cases h19
  refine AW.seq_k fun K hK=>AW.region (by kernel_rfl) ?_
  simp -implicitDefEqProofs only[go_sem,seval,↓reduceIte]
  refine CallA.pure hG (by kernel_rfl) ?_
  simp -implicitDefEqProofs only[go_sem,seval,↓reduceIte,List.map_nil]
  refine (vWorks_spec G hE).mono ?_
  rintro _ _ rfl
  simp -implicitDefEqProofs only[go_sem,seval,↓reduceIte]
  refine hK _ ?_
  clear hK K
  refine AW.ret ?_
  simp -implicitDefEqProofs only[go_sem,seval,↓reduceIte]
  refine endK_some ?_
  rfl
 have q1:decide (((s.l.length:Nat):Int) > 60)=false:=by rw [decide_eq_false_iff_not];omega
 simp -implicitDefEqProofs only[go_sem,seval,↓reduceIte,q1]
 refine hK _ ?_
 clear hK K
 refine AW.condS (by simp -implicitDefEqProofs only[go_sem,seval,↓reduceIte];rfl) (fun h19=>?_) (fun h19=>?_)
 ·cases h19
 refine AW.skip ?_
 simp -implicitDefEqProofs only[go_sem,seval,↓reduceIte]
 refine hK1 _ ?_
 obtain ⟨hsl,hs70⟩:=fewE_true hf
 have hnm:∀ n∈s.l,n.name.length<100000:=fun n hn=>by have:=hs70 n hn;omega
 refine AW.seq_k fun K hK=>AW.region (by kernel_rfl) ?_
 simp -implicitDefEqProofs only[go_sem,seval,↓reduceIte]
 refine CallA.pure hG (by kernel_rfl) ?_
 simp -implicitDefEqProofs only[go_sem,seval,↓reduceIte,recol_xns]
 refine (xPrint_spec G hE _ s (by omega) hnm hns).mono ?_
 rintro _ _ ⟨r,rfl,hr⟩
 obtain ⟨tx,e⟩:=r
 simp -implicitDefEqProofs only[go_sem,seval,↓reduceIte,encPr]
 refine hK _ ?_
 clear hK K
 refine AW.seq_k fun K2 hK2=>?_
 by_cases he:e=0
 rotate_left
 ·have hck:checkP s.l≠0:=by
   intro hck
   obtain ⟨x,hx,hlx,hdx⟩:=checkP_ok hck
   exact he (congrArg Prod.snd (hr.2 x hx hlx hck))
  obtain rfl:tx=[]:=congrArg Prod.fst (hr.1 hck)
  have q2:(e==0)=false:=by simpa using he
  refine AW.seq_k fun K hK=>AW.region (by kernel_rfl) ?_
  simp -implicitDefEqProofs only[go_sem,seval,↓reduceIte,bne,q2]
  refine hK _ ?_
  clear hK K
  refine AW.condS (by simp -implicitDefEqProofs only[go_sem,seval,↓reduceIte];rfl) (fun h27=>?_) (fun h27=>?_)
  rotate_left
  ·cases h27
  have q3:(([]:List UInt8)==[])=true:=rfl
  refine AW.seq_k fun K hK=>AW.region (by kernel_rfl) ?_
  simp -implicitDefEqProofs only[go_sem,seval,↓reduceIte,q3]
  refine CallA.pure hG (by kernel_rfl) ?_
  simp -implicitDefEqProofs only[go_sem,seval,↓reduceIte,List.map_nil]
  refine (vWorks_spec G hE).mono ?_
  rintro _ _ rfl
  simp -implicitDefEqProofs only[go_sem,seval,↓reduceIte]
  refine hK _ ?_
  clear hK K
  refine AW.ret ?_
  simp -implicitDefEqProofs only[go_sem,seval,↓reduceIte]
  refine endK_some ?_
  rfl
 subst he
 have hck:checkP s.l=0:=by
  by_cases hck:checkP s.l=0
  ·exact hck
  ·have:=congrArg Prod.snd (hr.1 hck)
   exact absurd this.symm hck
 obtain ⟨x,hx,hlx,hdx⟩:=checkP_ok hck
 have hfx:x.fit:=fit_of x 0 (by rw [← hlx];exact hns)
 have hszx:x.size≤200:=by rw [← X.row_len x 0,← hlx];exact hsl
 obtain rfl:tx=joinW (x.W 0):=congrArg Prod.fst (hr.2 x hx hlx hck)
 have hjl:=print_len hx hfx
 have hlow:∀ i k,i<k→(joinW (x.W 0))[i]? = some 40→(joinW (x.W 0))[k]? = some 41→(exprP (((joinW (x.W 0)).eraseIdx k).eraseIdx i)).2.2=0→(exprP (((joinW (x.W 0)).eraseIdx k).eraseIdx i)).1≠s.l:=by
  intro i k hik hi hk h0
  rw [hlx]
  exact expr_least hx hfx hik hi hk h0
 clear hr
 generalize joinW (x.W 0)=tx at hjl hlow ⊢
 have htl:tx.length<90000:=by omega
 refine AW.seq_k fun K hK=>AW.region (by kernel_rfl) ?_
 simp -implicitDefEqProofs only[go_sem,seval,↓reduceIte]
 refine hK _ ?_
 clear hK K
 refine AW.condS (by simp -implicitDefEqProofs only[go_sem,seval,↓reduceIte];rfl) (fun h27=>?_) (fun h27=>?_)
 ·cases h27
 refine AW.skip ?_
 simp -implicitDefEqProofs only[go_sem,seval,↓reduceIte]
 refine hK2 _ ?_
 refine AW.seq_k fun K3 hK3=>?_
 refine AW.seq_k fun K hK=>AW.region (by kernel_rfl) ?_
 simp -implicitDefEqProofs only[go_sem,seval,↓reduceIte]
 refine hK _ ?_
 clear hK K
 refine AW.block ?_
 refine AW.for tx.length (fun i (_:Unit)=>st [(1,.view .new (.agg [encSl .old 6 encXN s])),(3,.str tx),(5,.int .i64 i)] []) (fun _ _=>True) 0 () (Nat.zero_le _) trivial (Weak.st (by simp -implicitDefEqProofs only[go_sem,seval,↓reduceIte];try rfl) (by simp -implicitDefEqProofs only[go_sem,seval,↓reduceIte];try rfl)) ?_
 intro i _ hi _ L4 hL4
 refine AW.seq_k fun K5 hK5=>?_
 refine AW.seq_k fun K hK=>AW.region (by kernel_rfl) ?_
 simp -implicitDefEqProofs only[go_sem,seval,↓reduceIte]
 refine hK _ ?_
 clear hK K
 refine AW.condS (by simp -implicitDefEqProofs only[go_sem,seval,↓reduceIte];rfl) (fun h36=>?_) (fun h36=>?_)
 rotate_left
 ·refine AW.exit ?_
  simp -implicitDefEqProofs only[go_sem,seval,↓reduceIte]
  refine hK3 _ ?_
  refine AW.seq_k fun K hK=>AW.region (by kernel_rfl) ?_
  simp -implicitDefEqProofs only[go_sem,seval,↓reduceIte]
  refine CallA.pure hG (by kernel_rfl) ?_
  simp -implicitDefEqProofs only[go_sem,seval,↓reduceIte,List.map_nil]
  refine (vWorks_spec G hE).mono ?_
  rintro _ _ rfl
  simp -implicitDefEqProofs only[go_sem,seval,↓reduceIte]
  refine hK _ ?_
  clear hK K
  refine AW.ret ?_
  simp -implicitDefEqProofs only[go_sem,seval,↓reduceIte]
  refine endK_some ?_
  rfl
 have hi1:i<tx.length:=by simpa using h36
 refine AW.skip ?_
 simp -implicitDefEqProofs only[go_sem,seval,↓reduceIte]
 refine hK5 _ ?_
 refine AW.seqJ (fun (_:Unit)=>st [(1,.view .new (.agg [encSl .old 6 encXN s])),(3,.str tx),(5,.int .i64 i)] []) (fun _=>True) (fun K6 hK6=>?_) ?_
 rotate_left
 ·intro _ _
  refine AW.region (by kernel_rfl) ?_
  simp -implicitDefEqProofs only[go_sem,seval,↓reduceIte]
  refine hL4 _ ⟨hi1,(),trivial,Weak.st (by simp -implicitDefEqProofs only[go_sem,seval,↓reduceIte];exact congrArg _ (by rw [w64 (by omega) (by omega)];omega)) (by simp -implicitDefEqProofs only[go_sem,seval,↓reduceIte];try rfl)⟩
 refine AW.block ?_
 have gi:=getE_of hi1
 generalize tx[i]=b at gi
 refine AW.seq_k fun K7 hK7=>?_
 cases hb:(b==40) with
 | false =>
  refine AW.seq_k fun K hK=>AW.region (by kernel_rfl) ?_
  simp -implicitDefEqProofs only[go_sem,seval,↓reduceIte,gi,bne,u8q40,hb]
  refine hK _ ?_
  clear hK K
  refine AW.condS (by simp -implicitDefEqProofs only[go_sem,seval,↓reduceIte];rfl) (fun h42=>?_) (fun h42=>?_)
  rotate_left
  ·cases h42
  refine AW.exit ?_
  simp -implicitDefEqProofs only[go_sem,seval,↓reduceIte]
  exact hK6 _ () trivial (Weak.st (by simp -implicitDefEqProofs only[go_sem,seval,↓reduceIte];try rfl) (by simp -implicitDefEqProofs only[go_sem,seval,↓reduceIte];try rfl))
 | true =>
 obtain rfl:b=40:=by simpa using hb
 refine AW.seq_k fun K hK=>AW.region (by kernel_rfl) ?_
 simp -implicitDefEqProofs only[go_sem,seval,↓reduceIte,gi,bne,u8q40,hb]
 refine hK _ ?_
 clear hK K
 refine AW.condS (by simp -implicitDefEqProofs only[go_sem,seval,↓reduceIte];rfl) (fun h42=>?_) (fun h42=>?_)
 ·cases h42
 refine AW.skip ?_
 simp -implicitDefEqProofs only[go_sem,seval,↓reduceIte]
 refine hK7 _ ?_
 refine AW.seq_k fun K hK=>AW.region (by kernel_rfl) ?_
 simp -implicitDefEqProofs only[go_sem,seval,↓reduceIte]
 refine hK _ ?_
 clear hK K
 refine AW.seq_k fun K hK=>AW.region (by kernel_rfl) ?_
 simp -implicitDefEqProofs only[go_sem,seval,↓reduceIte]
 refine hK _ ?_
 clear hK K
 refine AW.block ?_
 refine AW.for tx.length (fun k (o:Int)=>st [(1,.view .new (.agg [encSl .old 6 encXN s])),(3,.str tx),(5,.int .i64 i),(6,.int .i64 o),(7,.int .i64 k)] []) (fun k o=>(k=i∧o=0)∨(i<k∧1≤o∧o≤k)) i 0 hi (.inl ⟨rfl,rfl⟩) (Weak.st (by simp -implicitDefEqProofs only[go_sem,seval,↓reduceIte];try rfl) (by simp -implicitDefEqProofs only[go_sem,seval,↓reduceIte];try rfl)) ?_
 intro k o hk hR L8 hL8
 refine AW.seq_k fun K9 hK9=>?_
 refine AW.seq_k fun K hK=>AW.region (by kernel_rfl) ?_
 simp -implicitDefEqProofs only[go_sem,seval,↓reduceIte]
 refine hK _ ?_
 clear hK K
 refine AW.condS (by simp -implicitDefEqProofs only[go_sem,seval,↓reduceIte];rfl) (fun h47=>?_) (fun h47=>?_)
 rotate_left
 ·refine AW.exit ?_
  simp -implicitDefEqProofs only[go_sem,seval,↓reduceIte]
  exact hK6 _ () trivial (Weak.st (by simp -implicitDefEqProofs only[go_sem,seval,↓reduceIte];try rfl) (by simp -implicitDefEqProofs only[go_sem,seval,↓reduceIte];try rfl))
 have hk1:k<tx.length:=by simpa using h47
 refine AW.skip ?_
 simp -implicitDefEqProofs only[go_sem,seval,↓reduceIte]
 refine hK9 _ ?_
 have gk:=getE_of hk1
 generalize tx[k]=c at gk
 refine AW.seq_k fun K10 hK10=>?_
 refine AW.block ?_
 refine AW.seqJ (fun (_:Unit)=>st [(1,.view .new (.agg [encSl .old 6 encXN s])),(3,.str tx),(5,.int .i64 i),(6,.int .i64 (if (c==40)=true then o+1 else o)),(7,.int .i64 k)] []) (fun _=>True) (fun K11 hK11=>?_) ?_
 ·refine AW.seq_k fun K hK=>AW.region (by kernel_rfl) ?_
  simp -implicitDefEqProofs only[go_sem,seval,↓reduceIte,gk,u8q40]
  refine hK _ ?_
  clear hK K
  refine AW.condS (by simp -implicitDefEqProofs only[go_sem,seval,↓reduceIte];rfl) (fun h53=>?_) (fun h53=>?_)
  ·rw [if_pos h53] at hK11
   refine AW.region (by kernel_rfl) ?_
   simp -implicitDefEqProofs only[go_sem,seval,↓reduceIte]
   exact hK11 _ () trivial (Weak.st (by simp -implicitDefEqProofs only[go_sem,seval,↓reduceIte];exact congrArg _ (w64 (by omega) (by omega))) (by simp -implicitDefEqProofs only[go_sem,seval,↓reduceIte];try rfl))
  ·rw [if_neg (by rw [h53];decide)] at hK11
   refine AW.skip ?_
   simp -implicitDefEqProofs only[go_sem,seval,↓reduceIte]
   exact hK11 _ () trivial (Weak.st (by simp -implicitDefEqProofs only[go_sem,seval,↓reduceIte];try rfl) (by simp -implicitDefEqProofs only[go_sem,seval,↓reduceIte];try rfl))
 intro _ _
 have ho1:0≤(if (c==40)=true then o+1 else o)∧(if (c==40)=true then o+1 else o)≤k+1:=by split<;>omega
 have hoc:1≤(if (c==40)=true then o+1 else o):=by
  rcases hR with ⟨rfl,rfl⟩ | ⟨h1,h2,h3⟩
  ·rw [gi] at gk
   obtain rfl:(40:UInt8)=c:=by simpa using gk
   decide
  ·split<;>omega
 generalize (if (c==40)=true then o+1 else o)=o1 at ho1 hoc
 refine AW.seqJ (fun (_:Unit)=>st [(1,.view .new (.agg [encSl .old 6 encXN s])),(3,.str tx),(5,.int .i64 i),(6,.int .i64 (if (c==41)=true then o1-1 else o1)),(7,.int .i64 k)] []) (fun _=>True) (fun K11 hK11=>?_) ?_
 ·refine AW.seq_k fun K hK=>AW.region (by kernel_rfl) ?_
  simp -implicitDefEqProofs only[go_sem,seval,↓reduceIte,gk,u8q41]
  refine hK _ ?_
  clear hK K
  refine AW.condS (by simp -implicitDefEqProofs only[go_sem,seval,↓reduceIte];rfl) (fun h59=>?_) (fun h59=>?_)
  ·rw [if_pos h59] at hK11
   refine AW.region (by kernel_rfl) ?_
   simp -implicitDefEqProofs only[go_sem,seval,↓reduceIte]
   exact hK11 _ () trivial (Weak.st (by simp -implicitDefEqProofs only[go_sem,seval,↓reduceIte];exact congrArg _ (w64 (by omega) (by omega))) (by simp -implicitDefEqProofs only[go_sem,seval,↓reduceIte];try rfl))
  ·rw [if_neg (by rw [h59];decide)] at hK11
   refine AW.skip ?_
   simp -implicitDefEqProofs only[go_sem,seval,↓reduceIte]
   exact hK11 _ () trivial (Weak.st (by simp -implicitDefEqProofs only[go_sem,seval,↓reduceIte];try rfl) (by simp -implicitDefEqProofs only[go_sem,seval,↓reduceIte];try rfl))
 intro _ _
 have hik:i≤k:=by omega
 have hz0:(if (c==41)=true then o1-1 else o1)=0→c=41∧i<k:=by
  intro h
  have hc:c=41:=by
   refine Classical.byContradiction fun hc=>?_
   rw [if_neg (by simpa using hc)] at h
   omega
  refine ⟨hc,?_⟩
  subst hc
  rcases hR with ⟨rfl,rfl⟩ | ⟨h1,h2,h3⟩
  ·rw [gi] at gk
   cases gk
  ·exact h1
 have hz1:(if (c==41)=true then o1-1 else o1)≠0→1≤(if (c==41)=true then o1-1 else o1)∧(if (c==41)=true then o1-1 else o1)≤k+1:=by
  intro h
  by_cases hc:(c==41)=true
  ·rw [if_pos hc] at h ⊢
   omega
  ·rw [if_neg hc] at h ⊢
   omega
 generalize (if (c==41)=true then o1-1 else o1)=o2 at hz0 hz1
 refine AW.seq_k fun K hK=>AW.region (by kernel_rfl) ?_
 simp -implicitDefEqProofs only[go_sem,seval,↓reduceIte]
 refine hK _ ?_
 clear hK K
 refine AW.condS (by simp -implicitDefEqProofs only[go_sem,seval,↓reduceIte];rfl) (fun h63=>?_) (fun h63=>?_)
 rotate_left
 ·have ho2:o2≠0:=by simpa using h63
  obtain ⟨z1,z2⟩:=hz1 ho2
  refine AW.skip ?_
  simp -implicitDefEqProofs only[go_sem,seval,↓reduceIte]
  refine hK10 _ ?_
  refine AW.region (by kernel_rfl) ?_
  simp -implicitDefEqProofs only[go_sem,seval,↓reduceIte]
  refine hL8 _ ⟨hk1,o2,.inr ⟨by omega,z1,by omega⟩,Weak.st (by simp -implicitDefEqProofs only[go_sem,seval,↓reduceIte];exact congrArg _ (by rw [w64 (by omega) (by omega)];omega)) (by simp -implicitDefEqProofs only[go_sem,seval,↓reduceIte];try rfl)⟩
 have ho2:o2=0:=by simpa using h63
 obtain ⟨rfl,hik1⟩:=hz0 ho2
 have hpl:=hlow i k hik1 gi gk
 have hxp:=xParse_spec G hE ((tx.eraseIdx k).eraseIdx i) (by
  have:=List.length_eraseIdx_le (tx.eraseIdx k) i
  have:=List.length_eraseIdx_le tx k
  omega)
 have hcut:=cut_erase tx i k hik1 hk1
 have hlc:=congrArg List.length hcut
 have hln:((tx.eraseIdx k).eraseIdx i).length≤tx.length:=by
  have:=List.length_eraseIdx_le (tx.eraseIdx k) i
  have:=List.length_eraseIdx_le tx k
  omega
 generalize (tx.eraseIdx k).eraseIdx i=tc at hpl hxp hcut hlc hln
 generalize exprP tc=p at hpl hxp
 obtain ⟨ns,q,e⟩:=p
 simp only at hpl
 have pP:PureC Tryz.prog G 29 [.str tc] (.tuple [.agg [encSl .new 6 encXN (grownS ns)],.int .i64 q,.int .i64 e]):=⟨by kernel_rfl,by
  simp -implicitDefEqProofs only[go_sem,seval,↓reduceIte]
  refine hxp.mono ?_
  rintro _ _ rfl
  simp -implicitDefEqProofs only[go_sem,seval,↓reduceIte,encFr,encXs,recol_xns]⟩
 have w1:IntKind.i64.wrap ((i:Int)+1)=((i+1:Nat):Int):=by rw [w64 (by omega) (by omega)];omega
 have w2:IntKind.i64.wrap ((k:Int)+1)=((k+1:Nat):Int):=by rw [w64 (by omega) (by omega)];omega
 have n1:i≤tx.length:=by omega
 have n2:i+1≤k:=by omega
 have n3:k≤tx.length:=by omega
 have n4:k+1≤tx.length:=by omega
 have la:(tx.take i).length=i:=by rw [List.length_take];omega
 have lb:((tx.drop (i+1)).take (k-(i+1))).length=k-(i+1):=by rw [List.length_take,List.length_drop];omega
 have lc:(tx.drop (k+1)).length=tx.length-(k+1):=List.length_drop
 have l1:¬ ((((tx.take i).length+((tx.drop (i+1)).take (k-(i+1))).length:Nat):Int) > IntKind.i64.max):=by rw [show IntKind.i64.max=9223372036854775807 from rfl,la,lb];omega
 have l2:¬ ((((tx.take i).length+((tx.drop (i+1)).take (k-(i+1))).length+(tx.drop (k+1)).length:Nat):Int) > IntKind.i64.max):=by rw [show IntKind.i64.max=9223372036854775807 from rfl,la,lb,lc];omega
 have l3:¬ ((((tx.take i++(tx.drop (i+1)).take (k-(i+1))).length+(tx.drop (k+1)).length:Nat):Int) > IntKind.i64.max):=by rw [show IntKind.i64.max=9223372036854775807 from rfl,List.length_append,la,lb,lc];omega
 have n5:tx.length≤tx.length:=Nat.le_refl _
 have e3:(tx.drop (k+1)).take (tx.length-(k+1))=tx.drop (k+1):=List.take_of_length_le (by rw [List.length_drop];omega)
 refine AW.seq_k fun K hK=>AW.regionT ⟨fun i=>if i=14 then .tuple [.agg [encSl .new 6 encXN (grownS ns)],.int .i64 q,.int .i64 e] else .top,fun _ => .pure⟩ (by kernel_rfl) hG (by kernel_rfl) (by kernel_rfl) ?_
 simp -implicitDefEqProofs only[go_sem,seval,↓reduceIte,w1,w2,n1,n2,n3,n4,n5,Nat.zero_le,Nat.sub_zero,List.drop_zero,e3,l1,l2,l3,hcut]
 refine ⟨pP,?_⟩
 intro g8
 refine hK _ ?_
 clear hK K
 refine AW.seq_k fun K12 hK12=>?_
 by_cases he:e=0
 ·subst he
  have hne:(s.l==(grownS ns).l)=false:=by
   rw [grownS_l,beq_eq_false_iff_ne]
   exact fun h=>hpl rfl h.symm
  refine AW.seq_k fun K hK=>AW.region (by kernel_rfl) ?_
  simp -implicitDefEqProofs only[go_sem,seval,↓reduceIte]
  refine CallA.pure hG (by kernel_rfl) ?_
  simp -implicitDefEqProofs only[go_sem,seval,↓reduceIte,recol_xns]
  refine (xSame_spec G hG _ _ s (grownS ns) (by omega)).mono ?_
  rintro _ _ rfl
  rw [hne]
  simp -implicitDefEqProofs only[go_sem,seval,↓reduceIte]
  refine hK _ ?_
  clear hK K
  refine AW.condS (by simp -implicitDefEqProofs only[go_sem,seval,↓reduceIte];rfl) (fun h89=>?_) (fun h89=>?_)
  ·cases h89
  refine AW.skip ?_
  simp -implicitDefEqProofs only[go_sem,seval,↓reduceIte]
  refine hK12 _ ?_
  refine AW.exit ?_
  simp -implicitDefEqProofs only[go_sem,seval,↓reduceIte]
  exact hK6 _ () trivial (Weak.st (by simp -implicitDefEqProofs only[go_sem,seval,↓reduceIte];try rfl) (by simp -implicitDefEqProofs only[go_sem,seval,↓reduceIte];try rfl))
 ·have q2:(e==0)=false:=by simpa using he
  refine AW.seq_k fun K hK=>AW.region (by kernel_rfl) ?_
  simp -implicitDefEqProofs only[go_sem,seval,↓reduceIte,q2]
  refine hK _ ?_
  clear hK K
  refine AW.condS (by simp -implicitDefEqProofs only[go_sem,seval,↓reduceIte];rfl) (fun h89=>?_) (fun h89=>?_)
  ·cases h89
  refine AW.skip ?_
  simp -implicitDefEqProofs only[go_sem,seval,↓reduceIte]
  refine hK12 _ ?_
  refine AW.exit ?_
  simp -implicitDefEqProofs only[go_sem,seval,↓reduceIte]
  exact hK6 _ () trivial (Weak.st (by simp -implicitDefEqProofs only[go_sem,seval,↓reduceIte];try rfl) (by simp -implicitDefEqProofs only[go_sem,seval,↓reduceIte];try rfl))
end Go.Hs
end

section
namespace Go.Hs
inductive Sub:X→X→Nat→Prop where
 | refl (x:X):Sub x x 0
 | un {op:Int} {a y:X} {b:Nat}:Sub a y b→Sub (.un op a) y b
 | bin1 {op:Int} {a c y:X} {b:Nat}:Sub a y b→Sub (.bin op a c) y b
 | bin2 {op:Int} {a c y:X} {b:Nat}:Sub c y b→Sub (.bin op a c) y (a.size+b)
 | ite1 {a c d y:X} {b:Nat}:Sub a y b→Sub (.ite a c d) y b
 | ite2 {a c d y:X} {b:Nat}:Sub c y b→Sub (.ite a c d) y (a.size+b)
 | ite3 {a c d y:X} {b:Nat}:Sub d y b→Sub (.ite a c d) y (a.size+c.size+b)
def subs:X→List X
 | .leaf op num name=>[.leaf op num name]
 | .un op a=>subs a++[.un op a]
 | .bin op a c=>subs a++subs c++[.bin op a c]
 | .ite a c d=>subs a++subs c++subs d++[.ite a c d]
theorem subs_len:∀ x:X,(subs x).length=x.size
 | .leaf .. => rfl
 | .un _ a=>by simp [subs,X.size,subs_len a]
 | .bin _ a b=>by simp [subs,X.size,subs_len a,subs_len b];omega
 | .ite a b c=>by simp [subs,X.size,subs_len a,subs_len b,subs_len c];omega
theorem Sub.trans {x y z:X} {b c:Nat} (h:Sub x y b) (h2:Sub y z c):Sub x z (b+c):=by
 induction h with
 | refl=>simpa using h2
 | un _ ih=>exact .un (ih h2)
 | bin1 _ ih=>exact .bin1 (ih h2)
 | bin2 _ ih=>rw [Nat.add_assoc];exact .bin2 (ih h2)
 | ite1 _ ih=>exact .ite1 (ih h2)
 | ite2 _ ih=>rw [Nat.add_assoc];exact .ite2 (ih h2)
 | ite3 _ ih=>rw [Nat.add_assoc];exact .ite3 (ih h2)
theorem Sub.ok {x y:X} {b:Nat} (h:Sub x y b):x.ok=true→y.ok=true:=by
 induction h with
 | refl=>exact id
 | un _ ih=>intro h;simp [X.ok] at h;exact ih h.2
 | bin1 _ ih=>intro h;simp [X.ok] at h;exact ih h.1.2
 | bin2 _ ih=>intro h;simp [X.ok] at h;exact ih h.2
 | ite1 _ ih=>intro h;simp [X.ok] at h;exact ih h.1.1
 | ite2 _ ih=>intro h;simp [X.ok] at h;exact ih h.1.2
 | ite3 _ ih=>intro h;simp [X.ok] at h;exact ih h.2
theorem Sub.size {x y:X} {b:Nat} (h:Sub x y b):b+y.size≤x.size:=by
 induction h with
 | refl=>simp
 | un _ ih=>simp only [X.size];omega
 | bin1 _ ih=>simp only [X.size];omega
 | bin2 _ ih=>simp only [X.size];omega
 | ite1 _ ih=>simp only [X.size];omega
 | ite2 _ ih=>simp only [X.size];omega
 | ite3 _ ih=>simp only [X.size];omega
theorem Sub.depth {x y:X} {b:Nat} (h:Sub x y b):y.depth≤x.depth:=by
 induction h with
 | refl=>simp
 | un _ ih=>simp only [X.depth];omega
 | bin1 _ ih=>simp only [X.depth];omega
 | bin2 _ ih=>simp only [X.depth];omega
 | ite1 _ ih=>simp only [X.depth];omega
 | ite2 _ ih=>simp only [X.depth];omega
 | ite3 _ ih=>simp only [X.depth];omega
theorem Sub.at {x y:X} {b:Nat} (h:Sub x y b):∀ {l:List XN} {k:Nat},At l x k→At l y (k+b):=by
 induction h with
 | refl=>exact id
 | un _ ih=>intro l k h;exact ih h.un
 | bin1 _ ih=>intro l k h;exact ih h.bin.1
 | bin2 _ ih=>intro l k h;rw [← Nat.add_assoc];exact ih h.bin.2
 | ite1 _ ih=>intro l k h;exact ih h.ite.1
 | ite2 _ ih=>intro l k h;rw [← Nat.add_assoc];exact ih h.ite.2.1
 | ite3 _ ih=>intro l k h;rw [← Nat.add_assoc,← Nat.add_assoc];exact ih h.ite.2.2
theorem subs_top (x:X):(subs x)[x.size-1]? = some x:=by
 have:∃ l,subs x=l++[x]:=by
  cases x with
  | leaf=>exact ⟨[],rfl⟩
  | un=>exact ⟨_,rfl⟩
  | bin=>exact ⟨_,rfl⟩
  | ite=>exact ⟨_,rfl⟩
 obtain ⟨l,h⟩:=this
 have hl:=subs_len x
 rw [h,List.length_append,List.length_singleton] at hl
 rw [h,List.getElem?_append_right (by omega),show x.size-1-l.length=0 by omega];rfl
theorem Sub.get {x y:X} {b:Nat} (h:Sub x y b):(subs x)[b+y.size-1]? = some y:=by
 have hy:=y.size_pos
 induction h with
 | refl x=>rw [Nat.zero_add];exact subs_top x
 | @un op a y b h ih =>
  have:=h.size
  have hl:=subs_len a
  rw [subs,List.getElem?_append_left (by omega)];exact ih hy
 | @bin1 op a c y b h ih =>
  have:=h.size
  have hl:=subs_len a
  rw [subs,List.append_assoc,List.getElem?_append_left (by omega)];exact ih hy
 | @bin2 op a c y b h ih =>
  have:=h.size
  have hl:=subs_len a
  have hl2:=subs_len c
  rw [subs,List.append_assoc,List.getElem?_append_right (by omega),List.getElem?_append_left (by omega),← ih hy]
  congr 1;omega
 | @ite1 a c d y b h ih =>
  have:=h.size
  have hl:=subs_len a
  rw [subs,List.append_assoc,List.append_assoc,List.getElem?_append_left (by omega)];exact ih hy
 | @ite2 a c d y b h ih =>
  have:=h.size
  have hl:=subs_len a
  have hl2:=subs_len c
  rw [subs,List.append_assoc,List.append_assoc,List.getElem?_append_right (by omega),List.getElem?_append_left (by omega),← ih hy]
  congr 1;omega
 | @ite3 a c d y b h ih =>
  have:=h.size
  have hl:=subs_len a
  have hl2:=subs_len c
  have hl3:=subs_len d
  rw [subs,List.append_assoc,List.append_assoc,List.getElem?_append_right (by omega),List.getElem?_append_right (by omega),List.getElem?_append_left (by omega),← ih hy]
  congr 1;omega
theorem Sub.top {x y:X} {b:Nat} (h:Sub x y b):(x.row 0)[b+y.size-1]? = some (y.top b):=by
 have:=(h.at (At.whole x)).get
 rw [Nat.zero_add] at this
 exact this
end Go.Hs
end

section
namespace Go.Hs
def kd (op:Int) (named:Bool) (a b c:Int):Int :=
 if op=1∨op=2∧named=true then 1
 else if op=3∨op=4 then 2
 else if op=5∧a=1∨7≤op∧op≤11∧a=1∧b=1 then 1
 else if 12≤op∧op≤15∧a=1∧b=1∨(op=16∨op=17)∧a=b∧a≠0 then 2
 else if op=6∧a=2∨18≤op∧op≤21∧a=2∧b=2 then 2
 else if op=22∧a=2∧b=c then b else 0
end Go.Hs
end

section
namespace Go.Proofs.YtpoiceejhcpnaaaGreatDoor
open Go.RowKit Go.Hs
set_option maxRecDepth 100000
def laidAll:List (String × DataW Unit):=[("math/bits.deBruijn32tab",Rows.laid_math_bits_deBruijn32tab),("math/bits.deBruijn64tab",Rows.laid_math_bits_deBruijn64tab),("internal/strconv.uint64pow10",Rows.laid_internal_strconv_uint64pow10),("unicode/utf8.acceptRanges",Rows.laid_unicode_utf8_acceptRanges),("strconv.ErrRange",Rows.laid_strconv_ErrRange),("strconv.ErrSyntax",Rows.laid_strconv_ErrSyntax),("hopscotch/lex.signs",Rows.laid_hopscotch_lex_signs),("unicode/utf8.first",Rows.laid_unicode_utf8_first)]
noncomputable def low:Nat:=(World.holding Tryz.prog default ⟨#[],#[],[]⟩).heap.size
def b32:List Int:=[0,1,28,2,29,14,24,3,30,22,20,15,25,17,4,8,31,27,13,23,21,19,16,7,26,12,18,6,11,5,10,9]
def b64:List Int:=0::1::56::2::57::49::28::3::61::58::42::50::38::29::17::4::62::47::59::36::45::43::51::22::53::39::33::30::24::18::12::5::63::55::48::27::60::41::37::16::46::35::44::21::52::32::23::11::54::26::40::15::34::20::31::10::25::14::19::9::13::8::7::6::[]
def acR:List Int:=[128,191,160,191,128,159,144,191,128,143]++List.replicate 22 0
def errR:ByteArray:={ data := #[118,97,108,117,101,32,111,117,116,32,111,102,32,114,97,110,103,101] }
def errS:ByteArray:={ data := #[105,110,118,97,108,105,100,32,115,121,110,116,97,120] }
def withCells (cs:Array Value):Obj→Obj
 | .cells _ t frozen => .cells cs t frozen
 | o=>o
noncomputable def laidWorld (os:Os):World :=
 let w0:=World.holding Tryz.prog os ⟨#[.cells #[.string errR] 240,.cells #[.string errS] 240],#[],[]⟩
 { w0 with heap:=(((((((w0.heap.modify 1 (withCells #[.iface 238 (.pointer (some ⟨low,0,none⟩))])).modify 6 (withCells #[.iface 238 (.pointer (some ⟨low+1,0,none⟩))])).modify 3
   (withCells (Lib.pow10Tab.map (Value.int .u64)).toArray)).modify 7 (withCells (b32.map (Value.int .u8)).toArray)).modify 8 (withCells (b64.map (Value.int .u8)).toArray)).modify 5 (withCells (acR.map (Value.int .u8)).toArray)).modify
   0 (withCells (signsL.map fun s=>Value.string ⟨s.toArray⟩).toArray)).modify 4 (withCells (Pinned.utf8FirstZ.map fun (n:Nat)=>Value.int .u8 (n:Int)).toArray) }
theorem laidWorld_met (os:Os) (args:Array Value):laidMet Tryz.prog laidAll ((laidWorld os).forCall (fun _ _=>0) ⟨#[],args,[]⟩).memory :=
 laidMet_of_run' 8 (by kernel_rfl) (by kernel_rfl)
end Go.Proofs.YtpoiceejhcpnaaaGreatDoor
end

section
namespace Go.Proofs.YtpoiceejhcpnaaaGreatDoor
open Go.RowKit Go.Hs
set_option maxRecDepth 100000
theorem laidMet_tail {P:Program} {W:World} {x:String × DataW Unit} {r:List (String × DataW Unit)} (h:laidMet P (x::r) W):laidMet P r W:=by
 obtain ⟨n,d⟩:=x
 obtain ⟨ps,⟨g0,t0,cs0,f0,p0,q0,hg0,ht0,hv0,hd0,hq,e0⟩,hnd,hrows⟩:=h
 subst e0
 exact ⟨q0,hq,(List.nodup_append.1 hnd).2.1,fun b off hm=>hrows b off (List.mem_append.2 (.inr hm))⟩
noncomputable def gE (m:Int):Nat→V:=fun g=>if g=1 then .view .old (.iface 238 (.view .old (.agg []))) else if g=3 then .view .old (.agg (Lib.pow10Tab.map (V.int .u64)))
 else if g=0 then .view .old (.agg (signsL.map V.str)) else if g=2 then .view .old (.int .i64 m) else .top
theorem recolL_ints (f:Col→Col):∀ l:List Int,V.recolL f (l.map (V.int .u64))=l.map (V.int .u64)
 | []=>rfl
 | x::r=>by simp only [List.map_cons,V.recolL];rw [recolL_ints f r];rfl
theorem recolL_strs (f:Col→Col):∀ l:List (List UInt8),V.recolL f (l.map V.str)=l.map V.str
 | []=>rfl
 | x::r=>by simp only [List.map_cons,V.recolL];rw [recolL_strs f r];rfl
theorem gE_ok (m:Int):GExp (gE m) where
 ok:=fun g=>by
  unfold gE
  split
  ·exact ⟨rfl,.view _ _ fun x hx=>by simp [V.cells] at hx;subst hx;exact .iface _ _ (.view _ _ fun x hx=>by simp [V.cells] at hx)⟩
  ·split
   ·refine ⟨by simp only [V.recol,Col.ent,recolL_ints],.view _ _ fun x hx=>?_⟩
    obtain ⟨n,_,rfl⟩:=List.mem_map.1 hx
    exact .int _ _
   ·split
    ·refine ⟨by simp only [V.recol,Col.ent,recolL_strs],.view _ _ fun x hx=>?_⟩
     obtain ⟨n,_,rfl⟩:=List.mem_map.1 hx
     exact .str _
    ·split
     ·exact ⟨rfl,.view _ _ fun x hx=>by simp [V.cells] at hx;subst hx;exact .int _ _⟩
     ·exact ⟨rfl,.top⟩
 er:=⟨_,_,_,rfl⟩
 tab:=⟨_,rfl⟩
 sg:=⟨_,rfl⟩
 ml:=⟨_,m,rfl⟩
theorem gER:Tryz.prog.globalNamed "strconv.ErrRange" = some 1:=by kernel_rfl
theorem gERType:(Tryz.prog.globals[1]?).map (·.type)=some 136:=by kernel_rfl
theorem cells111:Tryz.prog.cellsOf 240=1:=by kernel_rfl
theorem cells9:Tryz.prog.cellsOf 9=1:=by kernel_rfl
theorem star : "*" ++ "errors.errorString" = "*errors.errorString" := by decide
theorem row109 (u:TypeId) (h:Tryz.prog.typeName? 3 u=some "*errors.errorString"):u=238 :=
 typeName_ptr_named (nm := "errors.errorString") (by rw [star];kernel_rfl) (by kernel_rfl) (by decide) u (by rw [star];exact h)
theorem gTab:Tryz.prog.globalNamed "internal/strconv.uint64pow10" = some 3:=by kernel_rfl
theorem gTabType:∃ t n,(Tryz.prog.globals[3]?).map (·.type)=some t∧Tryz.prog.underlying t=some (.array n 182)∧Tryz.prog.cellsOf t=n∧n=20:=by
 refine ⟨(((Tryz.prog.globals[3]?).map (·.type)).getD 0),20,by kernel_rfl,by kernel_rfl,by kernel_rfl,rfl⟩
theorem laid_tab {W:World} (h:laidMet Tryz.prog laidAll W):Lib.TabIs Tryz.prog W "internal/strconv.uint64pow10" .u64 Lib.pow10Tab:=by
 obtain ⟨t,n,h1,h2,h3,rfl⟩:=gTabType
 have e:(Rows.laid_internal_strconv_uint64pow10:DataW Unit)=Lib.tabData .u64 Lib.pow10Tab:=by rfl
 have h4:=laidMet_tail (laidMet_tail h)
 rw [e] at h4
 exact Lib.tabIs_of_head gTab h1 h2 Tryz.underlying182 (by kernel_rfl) h3 h4
theorem laid_err {W:World} (h:laidMet Tryz.prog laidAll W):∃ b off,W.cell? ⟨1,0,none⟩=some (.iface 238 (.pointer (some ⟨b,off,none⟩))):=by
 obtain ⟨a,s,h1,h2,_,_⟩:=laid_sentinel (laidMet_tail (laidMet_tail (laidMet_tail (laidMet_tail h)))) gER gERType Tryz.underlying136 row109 Tryz.underlying238 Tryz.underlying240 rfl rfl Tryz.underlying9 cells111 cells9
 have h0:=World.var?_cell gER h1 0
 have hs:=World.cell?_spot h2
 obtain ⟨b,off,sp⟩:=a
 have hs:sp=none:=hs
 subst hs
 exact ⟨b,off,by simpa using h0⟩
def strData {H:Type} (zs:List (List UInt8)):DataW H := .agg (zs.map fun z => .lit (.string z))
theorem cells_of_strs {H:Type} {enc:TypeId × Value→H} {P:Program} {w:World} {base:Nat} {sp:Nat→Bool} {held:Bool} {fuel:Nat} {t e:TypeId} {n:Nat} {cs:List Value} {zs:List (List UInt8)} {p:List MemPlace}
  (ht:P.underlying t=some (.array n e)) (he:P.underlying e=some .string) (hce:P.cellsOf e=1) (hct:P.cellsOf t=n)
  (h:DataW.trod enc P w base sp held fuel t cs=some (strData zs,p)):cs.length=zs.length∧∀ i (hi:i<zs.length),∃ s:ByteArray,cs[i]? = some (.string s)∧s.data.toList=zs[i]:=by
 cases fuel with
 | zero=>simp [DataW.trod] at h
 | succ fuel =>
  simp only [DataW.trod,ht,hce,hct,Nat.mul_one] at h
  split at h
  ·rename_i hl
   obtain ⟨xs,hm,hx⟩:=Option.map_eq_some_iff.1 h
   have hxs:xs.map (·.1)=zs.map fun z=>(DataW.lit (.string z):DataW H):=by
    have:=congrArg Prod.fst hx
    simpa [strData] using this
   have hxl:xs.length=n:=by simpa using Lib.mapM_length hm
   have hzl:zs.length=n:=by
    have:=congrArg List.length hxs
    simp at this
    omega
   refine ⟨by omega,fun i hi=>?_⟩
   have hin:i<n:=by omega
   obtain ⟨b,hb,hf⟩:=Lib.mapM_at hm i i (by simp [hin])
   obtain ⟨z,hc,rfl,_⟩:=DataW.trod_string he hf
   have h1:cs[i]? = some (.string z):=by
    have:=congrArg (·[0]?) hc
    simpa [List.getElem?_take,List.getElem?_drop] using this
   have h2:(xs.map (·.1))[i]? = some (DataW.lit (.string z.data.toList):DataW H):=by simp [hb]
   rw [hxs,List.getElem?_map,List.getElem?_eq_getElem hi] at h2
   refine ⟨z,h1,?_⟩
   have h3:(DataW.lit (.string zs[i]):DataW H) = .lit (.string z.data.toList):=Option.some.inj h2
   injection h3 with h3
   injection h3 with h3
   exact h3.symm
  ·cases h
theorem gSg:Tryz.prog.globalNamed "hopscotch/lex.signs" = some 0:=by kernel_rfl
theorem gSgType:(Tryz.prog.globals[0]?).map (·.type)=some 148:=by kernel_rfl
theorem laid_signs {W:World} (h:laidMet Tryz.prog laidAll W):∃ cs:Array Value,W.var? Tryz.prog "hopscotch/lex.signs" = some cs∧cs.size=14∧∀ i (hi:i<signsL.length),∃ s:ByteArray,cs[i]? = some (.string s)∧s.data.toList=signsL[i]:=by
 have e:(Rows.laid_hopscotch_lex_signs:DataW Unit)=strData signsL:=by rfl
 have h4:=laidMet_tail (laidMet_tail (laidMet_tail (laidMet_tail (laidMet_tail (laidMet_tail h)))))
 rw [e] at h4
 obtain ⟨ps,⟨g',t',cs,fuel,p,q,hg',ht',hvar,hd,_,_⟩,_⟩:=h4
 obtain rfl:=Option.some.inj (gSg.symm.trans hg')
 obtain rfl:=Option.some.inj (gSgType.symm.trans ht')
 obtain ⟨h1,h2⟩:=cells_of_strs Tryz.underlying148 Tryz.underlying9 cells9 (by kernel_rfl) hd
 refine ⟨_,hvar,(by simpa using h1:cs.size=signsL.length).trans rfl,fun i hi=>?_⟩
 obtain ⟨s,h3,h4⟩:=h2 i hi
 exact ⟨s,by simpa using h3,h4⟩
theorem maxlen_of {W:World} (h:W.ShapedOpen Tryz.prog):∃ m,W.cell? ⟨2,0,none⟩=some (.int .i64 m):=by
 obtain ⟨cs,hh,hs,hr⟩:=h.1 2 #[.int .i64 0] 3 (of_decide_eq_true (by kernel_rfl)) (by kernel_rfl)
 obtain ⟨ts,hts,_,hall⟩:=hr (by kernel_rfl)
 rw [show Tryz.prog.cellTypes Tryz.prog.depth 3=some [3] by kernel_rfl] at hts
 cases hts
 have h1:0<cs.size:=by rw [hs];decide
 obtain ⟨u,hu',hok⟩:=hall 0 cs[0] (by simp [h1])
 have:u=3:=by simpa using hu'.symm
 subst this
 have hcell:W.cell? ⟨2,0,none⟩=some cs[0]:=by simp [World.cell?,hh,h1]
 rw [hcell]
 unfold Cell.ok at hok
 rw [Tryz.underlying3] at hok
 cases hv:cs[0]<;>rw [hv] at hok<;>first | (obtain ⟨rfl,_⟩:=hok;exact ⟨_,rfl⟩) | simp at hok
theorem laid_G {W:World} (h:laidMet Tryz.prog laidAll W) (hS:W.ShapedOpen Tryz.prog):∃ m,∀ g,RelG (Cx.ofW W) g (gE m g):=by
 obtain ⟨m,hml⟩:=maxlen_of hS
 refine ⟨m,fun g=>?_⟩
 unfold gE
 split
 ·rename_i hg
  subst hg
  obtain ⟨b,off,h1⟩:=laid_err h
  refine ⟨?_,trivial⟩
  refine .view .old _ 1 0 (fun _ => .iface 238 (.pointer (some ⟨b,off,none⟩))) (fun i hi=>?_) (fun i hi=>?_)
  ·have:i=0:=by simpa [V.cells] using hi
   subst this
   refine ⟨by show (W.cell? _).isSome=true;rw [h1];rfl,World.block_lt_of_cell? _ _ h1,h1,rfl⟩
  ·have:i=0:=by simpa [V.cells] using hi
   subst this
   exact .iface _ _ _ (.view .old _ b off (fun _ => .nilIface) (fun i hi=>by simp [V.cells] at hi) (fun i hi=>by simp [V.cells] at hi))
 ·split
  ·rename_i hg
   subst hg
   have ht:=laid_tab h
   have hc:∀ i (hi:i<Lib.pow10Tab.length),W.cell? ⟨3,i,none⟩=some (.int .u64 (Lib.pow10Tab.getD i 0)):=fun i hi=>ht.cell gTab i hi
   have hlen:Lib.pow10Tab.length=20:=Lib.pow10Tab_length
   have hlt:3<W.heap.size:=World.block_lt_of_cell? _ _ (hc 0 (by omega))
   have hv:W.var? Tryz.prog "internal/strconv.uint64pow10" = some (Lib.pow10Tab.map fun z=>Value.int .u64 z).toArray:=ht
   refine ⟨?_,?_⟩
   ·refine .view .old _ 3 0 (fun i => .int .u64 (Lib.pow10Tab.getD i 0)) (fun i hi=>?_) (fun i hi=>?_)
    ·have hi:i<Lib.pow10Tab.length:=by simpa [V.cells] using hi
     rw [Nat.zero_add]
     exact ⟨by show (W.cell? _).isSome=true;rw [hc i hi];rfl,hlt,hc i hi,rfl⟩
    ·have hi':i<Lib.pow10Tab.length:=by simpa [V.cells] using hi
     have key:∀ v,v=V.int .u64 (Lib.pow10Tab.getD i 0)→Rel (Cx.ofW W) (Value.int .u64 (Lib.pow10Tab.getD i 0)) v:=fun v e=>by rw [e];exact .int _ _
     exact key _ (by simp [V.cells,List.getD,hi'])
   ·refine ⟨hlt,?_⟩
    unfold World.var? at hv
    rw [gTab] at hv
    have hv:(match W.heap[3]? with | some (Obj.cells cs _ _)=>some cs | _=>none)=some (Lib.pow10Tab.map fun z=>Value.int .u64 z).toArray:=hv
    split at hv
    ·rename_i cs t fr hh
     cases hv
     exact ⟨_,t,fr,hh,by simp⟩
    ·cases hv
  ·split
   ·rename_i hg
    subst hg
    obtain ⟨cs,hv,hsz,hcs⟩:=laid_signs h
    have h0:=fun i=>World.var?_cell gSg hv i
    have hc:∀ i (hi:i<signsL.length),∃ s:ByteArray,W.cell? ⟨0,i,none⟩=some (.string s)∧s.data.toList=signsL[i]:=fun i hi=>by
     obtain ⟨s,h1,h2⟩:=hcs i hi
     exact ⟨s,by rw [h0 i];exact h1,h2⟩
    have hlt:0<W.heap.size:=by
     obtain ⟨s,h1,_⟩:=hc 0 (by decide)
     exact World.block_lt_of_cell? _ _ h1
    refine ⟨?_,?_⟩
    ·refine .view .old _ 0 0 (fun i=>(cs[i]?).getD undef) (fun i hi=>?_) (fun i hi=>?_)
     ·have hi:i<signsL.length:=by simpa [V.cells] using hi
      obtain ⟨s,h1,_⟩:=hcs i hi
      rw [Nat.zero_add,h1]
      have h2:W.cell? ⟨0,i,none⟩=some (.string s):=by rw [h0 i];exact h1
      exact ⟨by show (W.cell? _).isSome=true;rw [h2];rfl,hlt,h2,rfl⟩
     ·have hi':i<signsL.length:=by simpa [V.cells] using hi
      obtain ⟨s,h1,h2⟩:=hcs i hi'
      rw [h1]
      have key:∀ v,v=V.str signsL[i]→Rel (Cx.ofW W) (Value.string s) v:=fun v e=>by rw [e];exact .str _ _ h2
      exact key _ (by simp [V.cells])
    ·refine ⟨hlt,?_⟩
     unfold World.var? at hv
     rw [gSg] at hv
     have hv:(match W.heap[0]? with | some (Obj.cells cs _ _)=>some cs | _=>none)=some cs:=hv
     split at hv
     ·rename_i cs' t fr hh
      cases hv
      exact ⟨_,t,fr,hh,by rw [hsz];rfl⟩
     ·cases hv
   ·split
    ·rename_i hg
     subst hg
     refine ⟨?_,trivial⟩
     refine .view .old _ 2 0 (fun _ => .int .i64 m) (fun i hi=>?_) (fun i hi=>?_)
     ·have:i=0:=by simpa [V.cells] using hi
      subst this
      refine ⟨by show (W.cell? _).isSome=true;rw [hml];rfl,World.block_lt_of_cell? _ _ hml,hml,rfl⟩
     ·have:i=0:=by simpa [V.cells] using hi
      subst this
      exact .int _ _
    ·exact ⟨.top _,trivial⟩
end Go.Proofs.YtpoiceejhcpnaaaGreatDoor
end

section
namespace Go.Proofs.YtpoiceejhcpnaaaGreatDoor
open Go.RowKit Go.Hs Go.ChangeShapes Go.WideShapes Go.ChangeAt
open Go.ChangeMaps (open_string shut_string)
set_option maxRecDepth 100000
theorem reads_str (W:World):Reads Tryz.prog W 9 1 (fun s:List UInt8=>[V.str s]):=by
 refine ⟨by kernel_rfl,fun _=>rfl,fun enc held fuel cs x h=>?_⟩
 obtain ⟨s,rfl,_,_⟩:=DataW.trod_string Tryz.underlying9 h
 exact ⟨s.data.toList,RelC.cons rfl (.str _ _ rfl) RelC.nil⟩
theorem inK_of_wf {k:IntKind} {n:Int} (h:(Lit.int k n).wf=true):InK k n:=by
 simpa [Lit.wf,InK] using h
variable {W:World} {H:Type} {enc:TypeId × Value→H} {b0:Nat} {v:Value} {d:DataW H} {ps:List MemPlace}
theorem own:ownKnob Tryz.prog.godebug=none:=by kernel_rfl
theorem laidOut:laidOutB Tryz.prog=true:=by kernel_rfl
theorem lift_shaped {a:Assume} {C:Checked} {os:Os} {f:FuncId} {fn:Func} {H:Type} {enc:TypeId × Value→H} {s:ChangeSpec} {conds:List PathCond} {apart fresh handsOn again:Bool} {X:World→Array Value→Prop}
  (hX:∀ (w w':World) (args:Array Value),w.heap=w'.heap→X w args→X w' args)
  (ownk:ownKnob C.prog.godebug=none) (started:os.Started) (noInit:C.prog.inits.idxOf? f=none) (hfn:C.prog.funcs[f]? = some fn)
  (witness:∃ (w:World) (tape:Tape) (i:Input),w.os=os∧(w.forCall tape i).Shaped C.prog∧i.vars=[]∧Input.okWide C.prog (w.forCall tape i) .any w.heap.size f i ∧
   ((s.pre enc C.prog fn conds apart (w.forCall tape i).memory i.args∧X (w.forCall tape i).memory i.args)∧sizedMet enc C.prog fn (OpenSpec.ofChange s) apart (w.forCall tape i).memory i.args)∧a.holds C.prog (lone (Frame.enter C.prog f i.args .normal) [] (w.forCall tape i)))
  (contract:∀ (W:World) (base:Nat) (args:Array Value) (ds gs:List (DataW H)) (before:List MemPlace),W.ShapedOpen C.prog →
   (∀ (j:Nat) t v,fn.params[j]? = some t→args[j]? = some v→Value.okWide C.prog W .any base t v) →
   DataW.Whole enc C.prog fn.params.toList s.vars apart W args.toList ds gs before→X W args →
   Calls C.prog f args W fun e W'=>∃ v,e = .returned v∧s.post enc C.prog fn apart fresh handsOn again W args v W') :
  ReturnsInHanded a C os f .any (fun w args=>(s.pre enc C.prog fn conds apart w args∧X w args)∧sizedMet enc C.prog fn (OpenSpec.ofChange s) apart w args) (s.post enc C.prog fn apart fresh handsOn again):=by
 refine returnsInHanded_of_calls ownk started noInit witness ?_
 intro w tape i _ hsh _ hok hpre _
 obtain ⟨_,_,_,fn',hfn',_,_,_,_,hval⟩:=hok
 have e:fn'=fn:=Option.some.inj (hfn'.symm.trans hfn)
 subst e
 obtain ⟨⟨⟨ds,gs,before,hw,_⟩,hx⟩,_⟩:=hpre
 have hw':=DataW.Whole.of_heap (w':=w.forCall tape i) (by rfl) hw
 refine (contract (w.forCall tape i) w.heap.size i.args ds gs before hsh hval hw' (hX _ _ _ (by rfl) hx)).mono fun e W' ⟨v,he,hp⟩=>?_
 subst he
 exact ChangeSpec.post_blind hp
end Go.Proofs.YtpoiceejhcpnaaaGreatDoor
end

section
namespace Go.Proofs.YtpoiceejhcpnaaaGreatDoor
open Go.RowKit Go.Hs Go.ChangeShapes Go.WideShapes Go.ChangeAt
set_option maxRecDepth 100000
abbrev XNb:={ n:XN // InK .i64 n.num }
theorem reads_xnb (W:World):Reads Tryz.prog W 41 6 (fun n:XNb=>(encXN n.1).cells):=by
 refine ⟨by kernel_rfl,fun _=>rfl,fun enc held fuel cs x h=>?_⟩
 obtain ⟨xs,n,_,_,hl,hlen,hf⟩:=DataW.trod_struct Tryz.underlying41 h
 have e43:Tryz.prog.cellsOf 41=6:=by kernel_rfl
 rw [e43] at hl
 have hx:xs.length=6:=hlen
 have rI:Reads Tryz.prog W 2 1 (fun n:{ n:Int // InK .i64 n }=>[V.int .i64 n.1]):=by
  refine ⟨by kernel_rfl,fun _=>rfl,fun enc held fuel cs x h=>?_⟩
  obtain ⟨n,rfl,_,hw⟩:=DataW.trod_int Tryz.underlying2 h
  exact ⟨⟨n,inK_of_wf hw⟩,RelC.cons rfl (.int _ _) RelC.nil⟩
 obtain ⟨op,h0⟩:=Reads.field (Reads.int (W:=W) Tryz.underlying5 (by kernel_rfl)) (i:=0) (hf 0 _ rfl) (by omega)
 obtain ⟨num,h1⟩:=Reads.field rI (i:=1) (hf 1 _ rfl) (by omega)
 obtain ⟨name,h2⟩:=Reads.field (reads_str W) (i:=2) (hf 2 _ rfl) (by omega)
 obtain ⟨a,h3⟩:=Reads.field (Reads.int (W:=W) Tryz.underlying3 (by kernel_rfl)) (i:=3) (hf 3 _ rfl) (by omega)
 obtain ⟨b,h4⟩:=Reads.field (Reads.int (W:=W) Tryz.underlying3 (by kernel_rfl)) (i:=4) (hf 4 _ rfl) (by omega)
 obtain ⟨c,h5⟩:=Reads.field (Reads.int (W:=W) Tryz.underlying3 (by kernel_rfl)) (i:=5) (hf 5 _ rfl) (by omega)
 match cs,hl with
 | [c0,c1,c2,c3,c4,c5],_=>exact ⟨⟨⟨op,num.1,name,a,b,c⟩,num.2⟩,h0.append (h1.append (h2.append (h3.append (h4.append h5))))⟩
theorem reads_xnbs (W:World):Reads Tryz.prog W 22 1 (fun s:Sl XNb=>[encSl .any 6 (fun n:XNb=>encXN n.1) s]) :=
 Reads.slice Tryz.underlying22 (by kernel_rfl) (by decide) (reads_xnb W)
theorem reads_exprb (W:World):Reads Tryz.prog W 24 1 (fun s:Sl XNb=>(V.agg [encSl .any 6 (fun n:XNb=>encXN n.1) s]).cells):=by
 refine ⟨by kernel_rfl,fun _=>rfl,fun enc held fuel cs x h=>?_⟩
 obtain ⟨xs,n,_,_,hl,hlen,hf⟩:=DataW.trod_struct Tryz.underlying24 h
 have e24:Tryz.prog.cellsOf 24=1:=by kernel_rfl
 rw [e24] at hl
 have hx:xs.length=1:=hlen
 obtain ⟨s,h0⟩:=Reads.field (reads_xnbs W) (i:=0) (hf 0 _ rfl) (by omega)
 match cs,hl with
 | [c0],_=>exact ⟨s,h0⟩
def unX:Sl XNb→Sl XN
 | .nil => .nil
 | .mk b l => .mk b (l.map (·.1))
theorem unX_in (s:Sl XNb):∀ n∈(unX s).l,InK .i64 n.num:=by
 cases s with
 | nil=>intro x hx;cases hx
 | mk b l =>
  intro x hx
  obtain ⟨y,_,rfl⟩:=List.mem_map.1 hx
  exact y.2
theorem unX_enc (c:Col) (s:Sl XNb):encSl c 6 (fun n:XNb=>encXN n.1) s=encSl c 6 encXN (unX s):=by
 cases s with
 | nil=>rfl
 | mk b l=>simp only [encSl,unX,List.map_map];rfl
variable {W:World} {H:Type} {enc:TypeId × Value→H} {b0:Nat} {v:Value} {d:DataW H} {ps:List MemPlace}
theorem argE (hv:Value.okWide Tryz.prog W .any b0 24 v) (h:DataW.Trod enc Tryz.prog W 0 (fun _=>true) true 24 v d ps):∃ x:Sl XN,(∀ n∈x.l,InK .i64 n.num)∧Rel (Cx.ofW W) v (.agg [encSl .old 6 encXN x]):=by
 obtain ⟨fuel,h⟩:=h
 obtain ⟨x,hx⟩:=(reads_exprb W).2.2 enc true fuel _ _ h
 have key:Rel (Cx.ofW W) v (.agg [encSl .any 6 encXN (unX x)]):=by
  rw [← unX_enc]
  unfold Value.okWide at hv
  rw [Tryz.underlying24] at hv
  obtain ⟨cs,rfl,_,_⟩:=hv
  have hx':RelC (Cx.ofW W) (Value.agg cs).cells.toList [encSl .any 6 (fun n:XNb=>encXN n.1) x]:=hx
  exact Rel.of_aggC hx'
 have h2:=key.ofW_old
 refine ⟨unX x,unX_in x,?_⟩
 simpa only [go_sem,recol_xns,List.map_cons,List.map_nil] using h2
end Go.Proofs.YtpoiceejhcpnaaaGreatDoor
end
