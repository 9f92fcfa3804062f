/- Part 43 of the proof of a statement of seat YtnjcehngoajnnaaGreatDoor: HsGExprDep2 HsGExprDep3 HsGExprDep4 HsGEvK HsGNumRef5 HsGNumRef6 HsGNumRef7 HsGNumRef8 HsGEvR HsGEvS. -/
import Derived.Test.YtnjcehngoajnnaaGreatDoorPart42
import Derived.Test.YtnjcehngoajnnaaGreatDoorPart33
set_option linter.unusedSimpArgs false
set_option linter.unusedVariables false
section
namespace Go.Hs
open Go.Proofs
set_option maxRecDepth 10000
def encPc (p:Int × Int):V := .agg [.int .i64 p.1,.int .i64 p.2]
theorem encPc_cells (p:Int × Int):(encPc p).cells.length=2:=rfl
theorem depGo_drop {l:List XN} {k:Nat} {n:XN} (h:l[k]? = some n) (i:Int) (opn:List (Int × Int)):depGo (l.drop k) i opn=match depStep i n opn with | some o=>depGo (l.drop (k+1)) (i+1) o | none=>none:=by
 obtain ⟨h1,h2⟩:=List.getElem?_eq_some_iff.1 h
 rw [List.drop_eq_getElem_cons h1,h2];rfl
theorem parts_tab {op:Int} (h1:1≤op) (h2:op≤22):tabC[op.toNat * 3+2]? = some (.int .i64 (partsOf op:Nat)):=by
 obtain ⟨n,rfl⟩:∃ n:Nat,op=n:=⟨op.toNat,by omega⟩
 rw [Int.toNat_natCast,tabC_get n (by omega) 2 (by decide)]
 have:∀ n:Nat,n<23→1≤n→(tabL.getD n ⟨[],0,0⟩).parts=(partsOf n:Nat):=by decide +kernel
 rw [← this n (by omega) (by omega)];rfl
theorem flat_pc:∀ (l:List (Int × Int)) (i:Nat) (x:Int × Int),l[i]? = some x→((flat (l.map encPc)).drop (i * 2)).take 2=[.int .i64 x.1,.int .i64 x.2]
 | [],i,x,h=>by simp at h
 | y::r,0,x,h=>by
  have:y=x:=by simpa using h
  subst this;rfl
 | y::r,i+1,x,h=>by
  have ih:=flat_pc r i x (by simpa using h)
  rw [← ih,List.map_cons]
  have:flat (encPc y::r.map encPc) = .int .i64 y.1 :: .int .i64 y.2::flat (r.map encPc):=rfl
  rw [this,show (i+1) * 2=i * 2+1+1 by omega,List.drop_succ_cons,List.drop_succ_cons]
def plC (l:List (Int × Int)):List V:=(places3 l).map (V.int .i64)
theorem plC_set:∀ (l:List (Int × Int)) (j:Nat) (x:Int × Int),l[j]? = some x→j<3→Hs.setAt (plC (l.take j)) j [.int .i64 x.1]=plC (l.take (j+1)):=by
 intro l j x h hj
 match l,j,h,hj with
 | a::r,0,h,_ =>
  have:a=x:=by simpa using h
  subst this;rfl
 | a::b::r,1,h,_ =>
  have:b=x:=by simpa using h
  subst this;rfl
 | a::b::c::r,2,h,_ =>
  have:c=x:=by simpa using h
  subst this;rfl
theorem deepest_succ (l:List (Int × Int)) (j:Nat) (x:Int × Int) (h:l[j]? = some x):deepest (l.take (j+1))=max (deepest (l.take j)) x.2:=by
 unfold deepest
 rw [List.take_add_one,h,List.foldl_append];rfl
theorem plC_len (l:List (Int × Int)):(plC l).length=3:=rfl
theorem partsOf_le (op:Int):partsOf op≤3:=by
 unfold partsOf
 split
 ·omega
 ·split
  ·omega
  ·split<;>omega
theorem deepest_le {l:List (Int × Int)} {k:Int} (hk:0≤k) (h:∀ y∈l,(0:Int)≤y.2∧y.2≤k):0≤deepest l∧deepest l≤k:=by
 have:∀ (l:List (Int × Int)) (d:Int),0≤d→d≤k→(∀ y∈l,(0:Int)≤y.2∧y.2≤k)→0≤l.foldl (fun d p=>max d p.2) d∧l.foldl (fun d p=>max d p.2) d≤k:=by
  intro l
  induction l with
  | nil=>intro d h1 h2 _;exact ⟨h1,h2⟩
  | cons y r ih =>
   intro d h1 h2 h3
   have:=h3 y (by simp)
   exact ih (max d y.2) (by omega) (by omega) fun z hz=>h3 z (by simp [hz])
 exact this l 0 (Int.le_refl _) hk h
theorem flat_take (l:List (Int × Int)) (n:Nat):(flat (l.map encPc)).take (n * 2)=flat ((l.take n).map encPc):=by
 induction l generalizing n with
 | nil=>simp [flat]
 | cons y r ih =>
  cases n with
  | zero=>simp [flat]
  | succ n =>
   have e:flat ((y::r).map encPc) = .int .i64 y.1 :: .int .i64 y.2::flat (r.map encPc):=rfl
   rw [e,List.take_succ_cons,List.map_cons,show (n+1) * 2=n * 2+1+1 by omega,List.take_succ_cons,List.take_succ_cons,ih];rfl
theorem xDepth_spec (G:Nat→V) (hE:GExp G) (c:Col) (s:Sl XN) (hs:s.l.length<1000000) (hnm:∀ n∈s.l,n.name.length<100000) :
  Spec Tryz.prog G 15 [.agg [encSl c 6 encXN s]] hNone (fun v _=>v = .int .i64 (depthP s.l)):=by
 have hG:=hE.ok
 refine Spec.of_code' 0 81 [.tmp 2] Tryz.func15 rfl rfl rfl rfl fun X=>?_
 have hD:depthP s.l=match depGo s.l 0 [] with | some [x]=>x.2 | _=>0:=rfl
 have hnone:depGo s.l 0 []=none→depthP s.l=0:=fun h=>by rw [hD,h]
 refine AW.seq_k fun K hK=>AW.region (by kernel_rfl) ?_
 simp -implicitDefEqProofs only[go_sem,seval,↓reduceIte]
 intro g1
 refine hK _ ?_
 clear hK K
 refine AW.seq_k fun K hK=>AW.region (by kernel_rfl) ?_
 simp -implicitDefEqProofs only[go_sem,seval,↓reduceIte]
 refine CallA.pure hG (by kernel_rfl) ?_
 simp -implicitDefEqProofs only[go_sem,seval,↓reduceIte,List.map_nil]
 refine (xTable_spec G hG).mono ?_
 rintro _ _ rfl
 simp -implicitDefEqProofs only[go_sem,seval,↓reduceIte,tabC_rc,tabC_len,Nat.le_refl]
 intro g3
 rw [setAt_tab _ ?hl]
 case hl=>rfl
 refine hK _ ?_
 clear hK K
 refine AW.seq_k fun K hK=>AW.region (by kernel_rfl) ?_
 simp -implicitDefEqProofs only[go_sem,seval,↓reduceIte]
 refine hK _ ?_
 clear hK K
 refine AW.seq_k fun K1 hK1=>?_
 refine AW.seq_k fun K hK=>AW.region (by kernel_rfl) ?_
 simp -implicitDefEqProofs only[go_sem,seval,↓reduceIte]
 refine hK _ ?_
 clear hK K
 refine AW.block ?_
 refine AW.for s.l.length (fun k (x:Nat × List (Int × Int))=>st [(3,.ptr 3 g3 0),(4,grown 72 x.1 2 x.2),(14,encSl c 6 encXN s),(15,.int .i64 s.l.length),(16,.int .i64 k)] [(3,.cells .new g3 0 tabC),(72,grownO x.1 encPc x.2)])
  (fun k x=>depGo s.l 0 []=depGo (s.l.drop k) k x.2∧x.2.length≤k∧∀ y∈x.2,(0:Int)≤y.2∧y.2≤k) 0 (0,[]) (Nat.zero_le _) ⟨by simp,Nat.le_refl _,by simp⟩
  (Weak.st (by simp -implicitDefEqProofs only[go_sem,seval,↓reduceIte];try rfl) (by simp -implicitDefEqProofs only[go_sem,seval,↓reduceIte];try rfl)) ?_
 rintro k ⟨gx,opn⟩ hk ⟨hR,hol,hdp⟩ L2 hL2
 replace hR:depGo s.l 0 []=depGo (s.l.drop k) k opn:=hR
 replace hol:opn.length≤k:=hol
 replace hdp:∀ y∈opn,(0:Int)≤y.2∧y.2≤k:=hdp
 refine AW.seq_k fun K hK=>AW.region (by kernel_rfl) ?_
 simp -implicitDefEqProofs only[go_sem,seval,↓reduceIte]
 refine hK _ ?_
 clear hK K
 refine AW.seq_k fun K3 hK3=>?_
 refine AW.condS (by simp -implicitDefEqProofs only[go_sem,seval,↓reduceIte];rfl) (fun h4=>?_) (fun h4=>?_)
 ·have hk1:k<s.l.length:=by simpa using h4
  have hg:=List.getElem?_eq_getElem hk1
  have hnn:=hnm _ (List.getElem_mem hk1)
  generalize s.l[k]=n at hg hnn
  rw [depGo_drop hg] at hR
  refine AW.skip ?_
  simp -implicitDefEqProofs only[go_sem,seval,↓reduceIte]
  refine hK3 _ ?_
  refine AW.seq_k fun K5 hK5=>?_
  refine AW.block ?_
  refine AW.seq_k fun K hK=>AW.region (by kernel_rfl) ?_
  simp -implicitDefEqProofs only[go_sem,seval,↓reduceIte,hg,encXN_K]
  intro g6
  refine hK _ ?_
  clear hK K
  refine AW.seq_k fun K6 hK6=>?_
  refine AW.seq_k fun K hK=>AW.region (by kernel_rfl) ?_
  simp -implicitDefEqProofs only[go_sem,seval,↓reduceIte]
  rw [← encXN_K]
  refine CallA.pure hG (by kernel_rfl) ?_
  simp -implicitDefEqProofs only[go_sem,seval,↓reduceIte,recol_xn]
  refine (xWell_spec G hE n hnn).mono ?_
  rintro _ _ rfl
  simp -implicitDefEqProofs only[go_sem,seval,↓reduceIte]
  refine hK _ ?_
  clear hK K
  have hst:depStep k n opn=if wellP n=false then none else if opn.length<partsOf n.op then none
   else if places3 (opn.drop (opn.length-partsOf n.op))≠[n.a,n.b,n.c] then none
   else some (opn.take (opn.length-partsOf n.op)++[((k:Int),deepest (opn.drop (opn.length-partsOf n.op))+1)]):=rfl
  cases hw:wellP n with
  | false =>
   rw [if_pos hw] at hst
   rw [hst] at hR
   refine AW.condS (by simp -implicitDefEqProofs only[go_sem,seval,↓reduceIte];rfl) (fun h7=>?_) (fun h7=>?_)
   ·refine AW.seq_k fun K hK=>AW.region (by kernel_rfl) ?_
    simp -implicitDefEqProofs only[go_sem,seval,↓reduceIte]
    refine hK _ ?_
    clear hK K
    refine AW.ret ?_
    simp -implicitDefEqProofs only[go_sem,seval,↓reduceIte]
    refine endK_some ?_
    rw [hnone hR]
   ·cases h7
  | true =>
  rw [if_neg (by rw [hw];simp)] at hst
  refine AW.condS (by simp -implicitDefEqProofs only[go_sem,seval,↓reduceIte];rfl) (fun h7=>?_) (fun h7=>?_)
  ·cases h7
  refine AW.skip ?_
  simp -implicitDefEqProofs only[go_sem,seval,↓reduceIte]
  refine hK6 _ ?_
  have hrg:=well_range hw
  have hpt:=parts_tab hrg.1 hrg.2
  have hp3:partsOf n.op≤3:=partsOf_le _
  generalize hpd:partsOf n.op=p at hst hpt hp3
  have hop0:(0:Int)≤n.op:=by omega
  have hop23:n.op<23:=by omega
  have hsub:IntKind.i64.wrap ((opn.length:Int)-(p:Int))=(opn.length:Int)-p:=w64 (by omega) (by omega)
  refine AW.seq_k fun K hK=>AW.region (by kernel_rfl) ?_
  simp -implicitDefEqProofs only[go_sem,seval,↓reduceIte,hop0,hop23,hpt,hsub,Nat.zero_add]
  refine hK _ ?_
  clear hK K
  refine AW.seq_k fun K8 hK8=>?_
  by_cases hlt:opn.length<p
  ·have e1:decide ((opn.length:Int)-p<0)=true:=by rw [decide_eq_true_iff];omega
   rw [if_pos hlt] at hst
   rw [hst] at hR
   refine AW.seq_k fun K hK=>AW.region (by kernel_rfl) ?_
   simp -implicitDefEqProofs only[go_sem,seval,↓reduceIte,e1]
   refine hK _ ?_
   clear hK K
   refine AW.condS (by simp -implicitDefEqProofs only[go_sem,seval,↓reduceIte];rfl) (fun h9=>?_) (fun h9=>?_)
   ·refine AW.seq_k fun K hK=>AW.region (by kernel_rfl) ?_
    simp -implicitDefEqProofs only[go_sem,seval,↓reduceIte]
    refine hK _ ?_
    clear hK K
    refine AW.ret ?_
    simp -implicitDefEqProofs only[go_sem,seval,↓reduceIte]
    refine endK_some ?_
    rw [hnone hR]
   ·cases h9
  have e1:decide ((opn.length:Int)-p<0)=false:=by rw [decide_eq_false_iff_not];omega
  rw [if_neg hlt] at hst
  refine AW.seq_k fun K hK=>AW.region (by kernel_rfl) ?_
  simp -implicitDefEqProofs only[go_sem,seval,↓reduceIte,e1]
  refine hK _ ?_
  clear hK K
  refine AW.condS (by simp -implicitDefEqProofs only[go_sem,seval,↓reduceIte];rfl) (fun h9=>?_) (fun h9=>?_)
  ·cases h9
  refine AW.skip ?_
  simp -implicitDefEqProofs only[go_sem,seval,↓reduceIte]
  refine hK8 _ ?_
  obtain ⟨kk,hkk⟩:∃ kk:Nat,kk=opn.length-p:=⟨_,rfl⟩
  rw [← hkk] at hst
  have hkd:(opn.length:Int)-p=(kk:Int):=by omega
  rw [hkd]
  refine AW.seq_k fun K hK=>AW.region (by kernel_rfl) ?_
  simp -implicitDefEqProofs only[go_sem,seval,↓reduceIte]
  intro g34
  refine hK _ ?_
  clear hK K
  have hkl:kk+p=opn.length:=by omega
  refine AW.seqJ (fun (_:Unit)=>st [(3,.ptr 3 g3 0),(4,grown 72 gx 2 opn),(5,.int .i64 k),(6,.ptr 6 g6 0),(7,.int .i64 kk),(8,.msl 34 g34 0 3 1),(9,.int .i64 (deepest (opn.drop kk))),(14,encSl c 6 encXN s),(15,.int .i64 s.l.length),(16,.int .i64 k)]
    [(3,.cells .new g3 0 tabC),(72,grownO gx encPc opn),(6,.cells .new g6 0 [.int .u8 n.op,.int .i64 n.num,.str n.name,.int .i64 n.a,.int .i64 n.b,.int .i64 n.c]),(34,.cells .new g34 0 (plC (opn.drop kk)))])
   (fun _=>True) (fun K10 hK10=>?_) ?_
  ·by_cases hp0:p=0
   ·have hdn:opn.drop kk=[]:=List.drop_eq_nil_of_le (by omega)
    rw [hdn] at hK10
    subst hp0
    have hkle:kk≤opn.length:=by omega
    have hnlt:¬ kk<opn.length:=by omega
    by_cases hne:opn=[]
    ·subst hne
     have hk0:kk=0:=by simpa using hkl
     subst hk0
     refine AW.seq_k fun K hK=>AW.region (by kernel_rfl) ?_
     simp -implicitDefEqProofs only[go_sem,seval,↓reduceIte,grown_nil,grownO_nil,and_self]
     refine hK _ ?_
     clear hK K
     refine AW.block ?_
     refine AW.for 0 (fun j (_:Unit)=>st [(3,.ptr 3 g3 0),(5,.int .i64 k),(4,.nils),(6,.ptr 6 g6 0),(7,.int .i64 (0:Nat)),(8,.msl 34 g34 0 3 1),(9,.int .i64 0),(14,encSl c 6 encXN s),(15,.int .i64 s.l.length),(16,.int .i64 k),(38,.int .i64 0),(39,.int .i64 j)]
       [(3,.cells .new g3 0 tabC),(6,.cells .new g6 0 [.int .u8 n.op,.int .i64 n.num,.str n.name,.int .i64 n.a,.int .i64 n.b,.int .i64 n.c]),(34,.cells .new g34 0 (plC []))])
      (fun j _=>True) 0 () (Nat.zero_le _) trivial (Weak.st (by simp -implicitDefEqProofs only[go_sem,seval,↓reduceIte];try rfl) (by simp -implicitDefEqProofs only[go_sem,seval,↓reduceIte];try rfl)) ?_
     intro j _ hj _ L11 hL11
     obtain rfl:j=0:=by omega
     refine AW.seq_k fun K hK=>AW.region (by kernel_rfl) ?_
     simp -implicitDefEqProofs only[go_sem,seval,↓reduceIte]
     refine hK _ ?_
     clear hK K
     refine AW.seq_k fun K12 hK12=>?_
     refine AW.condS (by simp -implicitDefEqProofs only[go_sem,seval,↓reduceIte];rfl) (fun h13=>?_) (fun h13=>?_)
     ·cases h13
     ·refine AW.exit ?_
      simp -implicitDefEqProofs only[go_sem,seval,↓reduceIte]
      exact hK10 _ () trivial (Weak.st (by simp -implicitDefEqProofs only[go_sem,seval,↓reduceIte,grown_nil];try rfl) (by simp -implicitDefEqProofs only[go_sem,seval,↓reduceIte,grownO_nil];try rfl))
    ·have hk0:¬ kk=0:=by
      intro h
      have:opn.length=0:=by omega
      exact hne (List.length_eq_zero_iff.1 this)
     refine AW.seq_k fun K hK=>AW.region (by kernel_rfl) ?_
     simp -implicitDefEqProofs only[go_sem,seval,↓reduceIte,grown_ne 72 gx 2 hne,hkle,Nat.le_refl,and_self,hk0,hnlt]
     refine hK _ ?_
     clear hK K
     refine AW.block ?_
     refine AW.for 0 (fun j (_:Unit)=>st [(3,.ptr 3 g3 0),(4,grown 72 gx 2 opn),(5,.int .i64 k),(6,.ptr 6 g6 0),(7,.int .i64 kk),(8,.msl 34 g34 0 3 1),(9,.int .i64 0),(14,encSl c 6 encXN s),(15,.int .i64 s.l.length),(16,.int .i64 k),(38,.int .i64 0),(39,.int .i64 j)]
       [(3,.cells .new g3 0 tabC),(72,grownO gx encPc opn),(6,.cells .new g6 0 [.int .u8 n.op,.int .i64 n.num,.str n.name,.int .i64 n.a,.int .i64 n.b,.int .i64 n.c]),(34,.cells .new g34 0 (plC []))])
      (fun j _=>True) 0 () (Nat.zero_le _) trivial (Weak.st (by simp -implicitDefEqProofs only[go_sem,seval,↓reduceIte];rw [grown_ne 72 gx 2 hne];try exact ⟨rfl,rfl⟩) (by simp -implicitDefEqProofs only[go_sem,seval,↓reduceIte];try rfl)) ?_
     intro j _ hj _ L11 hL11
     obtain rfl:j=0:=by omega
     refine AW.seq_k fun K hK=>AW.region (by kernel_rfl) ?_
     simp -implicitDefEqProofs only[go_sem,seval,↓reduceIte]
     refine hK _ ?_
     clear hK K
     refine AW.seq_k fun K12 hK12=>?_
     refine AW.condS (by simp -implicitDefEqProofs only[go_sem,seval,↓reduceIte];rfl) (fun h13=>?_) (fun h13=>?_)
     ·cases h13
     ·refine AW.exit ?_
      simp -implicitDefEqProofs only[go_sem,seval,↓reduceIte]
      exact hK10 _ () trivial (Weak.st (by simp -implicitDefEqProofs only[go_sem,seval,↓reduceIte];try rfl) (by simp -implicitDefEqProofs only[go_sem,seval,↓reduceIte];try rfl))
   ·have hne:opn≠[]:=by intro e;rw [e] at hkl;simp at hkl;omega
    have hsl:(if kk=0 then V.msl 72 gx 0 opn.length 2 else if kk<opn.length then V.msl 72 gx (kk * 2) (opn.length-kk) 2 else V.slice .any false 2 []) = .msl 72 gx (kk * 2) p 2:=by
     by_cases h0:kk=0
     ·rw [if_pos h0];congr 1<;>omega
     ·rw [if_neg h0,if_pos (by omega)];congr 1;omega
    have hkle:kk≤opn.length:=by omega
    refine AW.seq_k fun K hK=>AW.region (by kernel_rfl) ?_
    simp -implicitDefEqProofs only[go_sem,seval,↓reduceIte,grown_ne 72 gx 2 hne,hkle,Nat.le_refl,and_self,hsl,Nat.zero_add]
    refine hK _ ?_
    clear hK K
    refine AW.block ?_
    refine AW.for p (fun j (_:Unit)=>st [(3,.ptr 3 g3 0),(4,grown 72 gx 2 opn),(5,.int .i64 k),(6,.ptr 6 g6 0),(7,.int .i64 kk),(8,.msl 34 g34 0 3 1),(9,.int .i64 (deepest ((opn.drop kk).take j))),(14,encSl c 6 encXN s),(15,.int .i64 s.l.length),(16,.int .i64 k),(37,.msl 72 gx (kk * 2) p 2),(38,.int .i64 p),(39,.int .i64 j)]
      [(3,.cells .new g3 0 tabC),(72,grownO gx encPc opn),(6,.cells .new g6 0 [.int .u8 n.op,.int .i64 n.num,.str n.name,.int .i64 n.a,.int .i64 n.b,.int .i64 n.c]),(34,.cells .new g34 0 (plC ((opn.drop kk).take j)))])
     (fun j _=>True) 0 () (Nat.zero_le _) trivial
     (Weak.st (by simp -implicitDefEqProofs only[go_sem,seval,↓reduceIte];rw [grown_ne 72 gx 2 hne];exact ⟨rfl,rfl⟩) (by simp -implicitDefEqProofs only[go_sem,seval,↓reduceIte];try rfl)) ?_
    intro j _ hj _ L11 hL11
    refine AW.seq_k fun K hK=>AW.region (by kernel_rfl) ?_
    simp -implicitDefEqProofs only[go_sem,seval,↓reduceIte]
    refine hK _ ?_
    clear hK K
    refine AW.seq_k fun K12 hK12=>?_
    refine AW.condS (by simp -implicitDefEqProofs only[go_sem,seval,↓reduceIte];rfl) (fun h13=>?_) (fun h13=>?_)
    ·have hj1:j<p:=by have h13:decide ((j:Int)<p)=true:=h13;simp at h13;omega
     refine AW.skip ?_
     simp -implicitDefEqProofs only[go_sem,seval,↓reduceIte]
     refine hK12 _ ?_
     refine AW.seq_k fun K14 hK14=>?_
     refine AW.block ?_
     obtain ⟨x,hx⟩:∃ x,opn[kk+j]? = some x:=⟨_,List.getElem?_eq_getElem (by omega)⟩
     have hxd:(opn.drop kk)[j]? = some x:=by rw [List.getElem?_drop];exact hx
     have hfp:=flat_pc opn (kk+j) x hx
     rw [show (kk+j) * 2=kk * 2+j * 2 by omega] at hfp
     have hfl:kk * 2+j * 2+2≤(flat (opn.map encPc)).length:=by rw [flat_len (m:=2) encPc_cells];omega
     have hps:=plC_set (opn.drop kk) j x hxd (by omega)
     have hds:=deepest_succ (opn.drop kk) j x hxd
     have hpl:=plC_len ((opn.drop kk).take j)
     generalize plC ((opn.drop kk).take j)=pc at hps hpl ⊢
     generalize deepest ((opn.drop kk).take j)=dd at hds ⊢
     have hj3:(j:Int)<3:=by omega
     refine AW.seq_k fun K hK=>AW.region (by kernel_rfl) ?_
     simp -implicitDefEqProofs only[go_sem,seval,↓reduceIte,grownO_ne gx encPc hne,hfp,hfl,Int.natCast_nonneg,hj1,Int.ofNat_lt]
     intro g11
     refine hK _ ?_
     clear hK K
     refine AW.weak (Weak.stF (fun o=>o==11) (l:=[(3,.ptr 3 g3 0),(4,grown 72 gx 2 opn),(5,.int .i64 k),(6,.ptr 6 g6 0),(7,.int .i64 kk),(8,.msl 34 g34 0 3 1),(9,.int .i64 dd),(10,.int .i64 j),(11,.view .new (.agg [.int .i64 x.1,.int .i64 x.2])),(14,encSl c 6 encXN s),(15,.int .i64 s.l.length),(16,.int .i64 k),(37,.msl 72 gx (kk * 2) p 2),(38,.int .i64 p),(39,.int .i64 j)])
      (m:=[(3,.cells .new g3 0 tabC),(72,grownO gx encPc opn),(6,.cells .new g6 0 [.int .u8 n.op,.int .i64 n.num,.str n.name,.int .i64 n.a,.int .i64 n.b,.int .i64 n.c]),(34,.cells .new g34 0 pc)]) ?_ ?_) ?_
     ·simp -implicitDefEqProofs only[go_sem,seval,↓reduceIte]
      refine ⟨Fz.same _,Fz.same _,Fz.same _,Fz.same _,Fz.same _,Fz.same _,Fz.same _,Fz.same _,?_,Fz.same _,Fz.same _,Fz.same _,Fz.same _,Fz.same _,Fz.same _⟩
      exact Fz.ptr (v := .agg [.int .i64 x.1,.int .i64 x.2]) (c := .new) (fz:=0) rfl (by simp -implicitDefEqProofs only[go_sem,seval,↓reduceIte];try rfl)
     ·simp only [allFzO_cons,allFzO_nil,and_true]
      exact ⟨FzO.keep rfl (by simp -implicitDefEqProofs only[go_sem,seval,↓reduceIte]),FzO.keep rfl (by first | rfl | (rw [grownO_ne gx encPc hne];rfl) | (simp -implicitDefEqProofs only[go_sem,seval,↓reduceIte];try rfl)),FzO.keep rfl (by simp -implicitDefEqProofs only[go_sem,seval,↓reduceIte]),FzO.keep rfl (by simp -implicitDefEqProofs only[go_sem,seval,↓reduceIte])⟩
     refine AW.regionT ⟨fun _ => .top,fun i=>if i=3 then .lend else if i=6 then .lend else .pure⟩ (by kernel_rfl) hG (by kernel_rfl) (by kernel_rfl) ?_
     have hjl:j+1≤pc.length:=by omega
     have hset:pc.set j (.int .i64 x.1)=plC ((opn.drop kk).take (j+1)):=hps
     have hmx:(if x.2 > dd then x.2 else dd)=max dd x.2:=by
      rw [Int.max_def];split<;>split<;>omega
     simp -implicitDefEqProofs only[go_sem,seval,↓reduceIte,hj3,Int.natCast_nonneg,Nat.mul_one,Nat.zero_le,hjl,hset,hmx,← hds]
     refine hK14 _ ?_
     refine AW.region (by kernel_rfl) ?_
     simp -implicitDefEqProofs only[go_sem,seval,↓reduceIte]
     refine hL11 _ ⟨hj1,(),trivial,Weak.st (by simp -implicitDefEqProofs only[go_sem,seval,↓reduceIte];exact congrArg _ (w64 (by omega) (by omega))) (by simp -implicitDefEqProofs only[go_sem,seval,↓reduceIte];try rfl)⟩
    ·have hj1:j=p:=by have h13:decide ((j:Int)<p)=false:=h13;simp at h13;omega
     have htk:(opn.drop kk).take j=opn.drop kk:=List.take_of_length_le (by rw [List.length_drop];omega)
     rw [htk]
     refine AW.exit ?_
     simp -implicitDefEqProofs only[go_sem,seval,↓reduceIte]
     exact hK10 _ () trivial (Weak.st (by simp -implicitDefEqProofs only[go_sem,seval,↓reduceIte]) (by simp -implicitDefEqProofs only[go_sem,seval,↓reduceIte];try rfl))
  intro _ _
  refine AW.seq_k fun K11 hK11=>?_
  have hpl:places3 (opn.drop kk)=[(places3 (opn.drop kk)).getD 0 0,(places3 (opn.drop kk)).getD 1 0,(places3 (opn.drop kk)).getD 2 0]:=rfl
  refine AW.seq_k fun K hK=>AW.region (by kernel_rfl) ?_
  simp -implicitDefEqProofs only[go_sem,seval,↓reduceIte]
  intro g61
  refine CallA.bor hG [encSl .old 1 (V.int .i64) (.mk false (places3 (opn.drop kk))),encSl .old 1 (V.int .i64) (.mk false [n.a,n.b,n.c])] (by kernel_rfl) ⟨?_,?_,trivial⟩ ?_
  ·exact Rd.msl (off:=0) (n:=3) (l:=places3 (opn.drop kk)) (f:=V.int .i64) (f':=V.int .i64) (g:=g34) (fz:=0) (c := .new) (by simp -implicitDefEqProofs only[go_sem,seval,↓reduceIte];exact congrArg (AObj.cells Col.new g34 0) (flat_intsV _ _).symm) (fun _=>rfl) (fun x y hy=>by simp [V.cells] at hy;subst hy;exact .int _ _) (fun _=>rfl) (by simp [places3])
  ·exact Rd.msl (off:=0) (n:=3) (l:=[n.a,n.b,n.c]) (f:=V.int .i64) (f':=V.int .i64) (g:=g61) (fz:=0) (c := .new) (by simp -implicitDefEqProofs only[go_sem,seval,↓reduceIte];rfl) (fun _=>rfl) (fun x y hy=>by simp [V.cells] at hy;subst hy;exact .int _ _) (fun _=>rfl) (by simp)
  refine (sEqual_spec G hG _ _ (.mk false (places3 (opn.drop kk))) (.mk false [n.a,n.b,n.c]) (by simp [places3,Sl.l])).mono ?_
  rintro _ _ rfl
  refine ⟨.bool _,?_⟩
  simp -implicitDefEqProofs only[go_sem,seval,↓reduceIte]
  refine hK _ ?_
  clear hK K
  cases heq:(places3 (opn.drop kk)==[n.a,n.b,n.c]) with
  | false =>
   have heq2:places3 (opn.drop kk)≠[n.a,n.b,n.c]:=by simpa using heq
   rw [if_pos heq2] at hst
   rw [hst] at hR
   refine AW.condS (by simp -implicitDefEqProofs only[go_sem,seval,↓reduceIte];rfl) (fun h12=>?_) (fun h12=>?_)
   ·refine AW.seq_k fun K hK=>AW.region (by kernel_rfl) ?_
    simp -implicitDefEqProofs only[go_sem,seval,↓reduceIte]
    refine hK _ ?_
    clear hK K
    refine AW.ret ?_
    simp -implicitDefEqProofs only[go_sem,seval,↓reduceIte]
    refine endK_some ?_
    rw [hnone hR]
   ·cases h12
  | true =>
  have heq2:¬ places3 (opn.drop kk)≠[n.a,n.b,n.c]:=by simpa using heq
  rw [if_neg heq2] at hst
  rw [hst] at hR
  refine AW.condS (by simp -implicitDefEqProofs only[go_sem,seval,↓reduceIte];rfl) (fun h12=>?_) (fun h12=>?_)
  ·cases h12
  refine AW.skip ?_
  simp -implicitDefEqProofs only[go_sem,seval,↓reduceIte]
  refine hK11 _ ?_
  have hdb:=deepest_le (l:=opn.drop kk) (k:=k) (by omega) fun y hy=>hdp y (List.mem_of_mem_drop hy)
  generalize deepest (opn.drop kk)=dd at hR hdb ⊢
  have hwd:IntKind.i64.wrap (dd+1)=dd+1:=w64 (by omega) (by omega)
  have hne2:opn.take kk++[((k:Int),dd+1)]≠[]:=by simp
  have hlen2:(opn.take kk++[((k:Int),dd+1)]).length=kk+1:=by rw [List.length_append,List.length_take];simp;omega
  have hdp2:∀ y∈opn.take kk++[((k:Int),dd+1)],(0:Int)≤y.2∧y.2≤(k+1:Nat):=by
   intro y hy
   rcases List.mem_append.1 hy with h | h
   ·have:=hdp y (List.mem_of_mem_take h);omega
   ·rw [List.mem_singleton.1 h];show 0≤dd+1∧dd+1≤_;omega
  by_cases hne:opn=[]
  ·subst hne
   have hk0:kk=0:=by simpa using hkk
   subst hk0
   refine AW.region (by kernel_rfl) ?_
   simp -implicitDefEqProofs only[go_sem,seval,↓reduceIte,grown_nil,grownO_nil,and_self,hwd]
   intro g71
   refine app_grown (f:=encPc) (l:=([]:List (Int × Int))) (l2:=[((k:Int),dd+1)]) (g:=gx) encPc_cells rfl rfl rfl rfl (roomOk_of (by omega) (by simp)) fun g2=>?_
   simp -implicitDefEqProofs only[go_sem,seval,↓reduceIte]
   refine hK5 _ ?_
   refine AW.region (by kernel_rfl) ?_
   simp -implicitDefEqProofs only[go_sem,seval,↓reduceIte]
   refine hL2 _ ⟨hk1,(g2,[((k:Int),dd+1)]),⟨hR,?_,hdp2⟩,Weak.st (by simp -implicitDefEqProofs only[go_sem,seval,↓reduceIte];exact congrArg _ (w64 (by omega) (by omega))) (by simp -implicitDefEqProofs only[go_sem,seval,↓reduceIte];try rfl)⟩
   show 1≤k+1
   omega
  ·have hkle:kk≤opn.length:=by omega
   refine AW.region (by kernel_rfl) ?_
   simp -implicitDefEqProofs only[go_sem,seval,↓reduceIte,grown_ne 72 gx 2 hne,Nat.zero_le,hkle,and_self,hwd,grownO_ne gx encPc hne]
   intro g71
   refine ⟨roomOk_of (by omega) (by omega),by rw [flat_len (m:=2) encPc_cells];omega,fun g2=>?_⟩
   refine hK5 _ ?_
   refine AW.region (by kernel_rfl) ?_
   simp -implicitDefEqProofs only[go_sem,seval,↓reduceIte]
   refine hL2 _ ⟨hk1,(g2,opn.take kk++[((k:Int),dd+1)]),⟨hR,?_,hdp2⟩,Weak.st (by simp -implicitDefEqProofs only[go_sem,seval,↓reduceIte];exact ⟨by rw [grown_ne _ _ _ hne2,hlen2],congrArg _ (w64 (by omega) (by omega))⟩) (by simp -implicitDefEqProofs only[go_sem,seval,↓reduceIte];rw [grownO_ne _ _ hne2,List.map_append,flat_app,← flat_take];rfl)⟩
   show (opn.take kk++[_]).length≤k+1
   rw [hlen2];omega
 ·have hk1:k=s.l.length:=by simp at h4;omega
  refine AW.exit ?_
  simp -implicitDefEqProofs only[go_sem,seval,↓reduceIte]
  refine hK1 _ ?_
  rw [hk1,List.drop_length,depGo] at hR
  rw [hR] at hD
  refine AW.seq_k fun K6 hK6=>?_
  match opn,hD with
  | [],hD =>
   refine AW.seq_k fun K hK=>AW.region (by kernel_rfl) ?_
   simp -implicitDefEqProofs only[go_sem,seval,↓reduceIte,grown_nil]
   refine hK _ ?_
   clear hK K
   refine AW.condS (by simp -implicitDefEqProofs only[go_sem,seval,↓reduceIte];rfl) (fun h7=>?_) (fun h7=>?_)
   ·refine AW.seq_k fun K hK=>AW.region (by kernel_rfl) ?_
    simp -implicitDefEqProofs only[go_sem,seval,↓reduceIte]
    refine hK _ ?_
    clear hK K
    refine AW.ret ?_
    simp -implicitDefEqProofs only[go_sem,seval,↓reduceIte]
    refine endK_some ?_
    rw [hD]
   ·cases h7
  | [x],hD =>
   have hne:[x]≠([]:List (Int × Int)):=by simp
   refine AW.seq_k fun K hK=>AW.region (by kernel_rfl) ?_
   simp -implicitDefEqProofs only[go_sem,seval,↓reduceIte]
   refine hK _ ?_
   clear hK K
   refine AW.condS (by simp -implicitDefEqProofs only[go_sem,seval,↓reduceIte];rfl) (fun h7=>?_) (fun h7=>?_)
   ·cases h7
   refine AW.skip ?_
   simp -implicitDefEqProofs only[go_sem,seval,↓reduceIte]
   refine hK6 _ ?_
   have hfx:flat ([x].map encPc)=[.int .i64 x.1,.int .i64 x.2]:=rfl
   refine AW.seq_k fun K hK=>AW.region (by kernel_rfl) ?_
   simp -implicitDefEqProofs only[go_sem,seval,↓reduceIte,grown_ne 72 gx 2 hne,grownO_ne gx encPc hne,hfx]
   refine hK _ ?_
   clear hK K
   refine AW.ret ?_
   simp -implicitDefEqProofs only[go_sem,seval,↓reduceIte]
   refine endK_some ?_
   rw [hD]
  | x::y::r,hD =>
   have e1:(((x::y::r).length:Int) != 1)=true:=by simp;omega
   refine AW.seq_k fun K hK=>AW.region (by kernel_rfl) ?_
   simp -implicitDefEqProofs only[go_sem,seval,↓reduceIte,e1]
   refine hK _ ?_
   clear hK K
   refine AW.condS (by simp -implicitDefEqProofs only[go_sem,seval,↓reduceIte];rfl) (fun h7=>?_) (fun h7=>?_)
   ·refine AW.seq_k fun K hK=>AW.region (by kernel_rfl) ?_
    simp -implicitDefEqProofs only[go_sem,seval,↓reduceIte]
    refine hK _ ?_
    clear hK K
    refine AW.ret ?_
    simp -implicitDefEqProofs only[go_sem,seval,↓reduceIte]
    refine endK_some ?_
    rw [hD]
   ·cases h7
end Go.Hs
end

section
namespace Go.Hs
open Go.Proofs
set_option maxRecDepth 10000
theorem rPartsOf_spec (G:Nat→V) (hG:GOk G) (op:Int):Spec Tryz.prog G 135 [.int .u8 op] hNone (fun v _=>v = .int .i64 (partsOf op:Nat)):=by
 refine Spec.of_code' 0 12 [.tmp 2] Tryz.func135 rfl rfl rfl rfl fun X=>?_
 have hP:partsOf op=if op≤4 then 0 else if op≤6 then 1 else if op≤21 then 2 else 3:=rfl
 refine AW.seq_k fun K hK=>AW.region (by kernel_rfl) ?_
 simp -implicitDefEqProofs only[go_sem,seval,↓reduceIte]
 refine hK _ ?_
 clear hK K
 refine AW.seqJ (fun (_:Unit)=>st [] []) (fun _=>¬ op≤4∧¬ op≤6∧¬ op≤21) (fun K1 hK1=>?_) ?_
 ·refine AW.block ?_
  refine AW.seq_k fun K hK=>AW.region (by kernel_rfl) ?_
  simp -implicitDefEqProofs only[go_sem,seval,↓reduceIte]
  refine hK _ ?_
  clear hK K
  refine AW.condS (by simp -implicitDefEqProofs only[go_sem,seval,↓reduceIte];rfl) (fun h1=>?_) (fun h1=>?_)
  ·refine AW.seq_k fun K hK=>AW.region (by kernel_rfl) ?_
   simp -implicitDefEqProofs only[go_sem,seval,↓reduceIte]
   refine hK _ ?_
   clear hK K
   refine AW.ret ?_
   simp -implicitDefEqProofs only[go_sem,seval,↓reduceIte]
   refine endK_some ?_
   rw [hP,if_pos (by simpa using h1)];rfl
  refine AW.seq_k fun K hK=>AW.region (by kernel_rfl) ?_
  simp -implicitDefEqProofs only[go_sem,seval,↓reduceIte]
  refine hK _ ?_
  clear hK K
  refine AW.condS (by simp -implicitDefEqProofs only[go_sem,seval,↓reduceIte];rfl) (fun h2=>?_) (fun h2=>?_)
  ·refine AW.seq_k fun K hK=>AW.region (by kernel_rfl) ?_
   simp -implicitDefEqProofs only[go_sem,seval,↓reduceIte]
   refine hK _ ?_
   clear hK K
   refine AW.ret ?_
   simp -implicitDefEqProofs only[go_sem,seval,↓reduceIte]
   refine endK_some ?_
   rw [hP,if_neg (by simpa using h1),if_pos (by simpa using h2)];rfl
  refine AW.seq_k fun K hK=>AW.region (by kernel_rfl) ?_
  simp -implicitDefEqProofs only[go_sem,seval,↓reduceIte]
  refine hK _ ?_
  clear hK K
  refine AW.condS (by simp -implicitDefEqProofs only[go_sem,seval,↓reduceIte];rfl) (fun h3=>?_) (fun h3=>?_)
  ·refine AW.seq_k fun K hK=>AW.region (by kernel_rfl) ?_
   simp -implicitDefEqProofs only[go_sem,seval,↓reduceIte]
   refine hK _ ?_
   clear hK K
   refine AW.ret ?_
   simp -implicitDefEqProofs only[go_sem,seval,↓reduceIte]
   refine endK_some ?_
   rw [hP,if_neg (by simpa using h1),if_neg (by simpa using h2),if_pos (by simpa using h3)];rfl
  ·refine AW.skip ?_
   simp -implicitDefEqProofs only[go_sem,seval,↓reduceIte]
   exact hK1 _ () ⟨by simpa using h1,by simpa using h2,by simpa using h3⟩ (Weak.st (by simp -implicitDefEqProofs only[go_sem,seval,↓reduceIte]) (by simp -implicitDefEqProofs only[go_sem,seval,↓reduceIte]))
 rintro _ ⟨h1,h2,h3⟩
 refine AW.seq_k fun K hK=>AW.region (by kernel_rfl) ?_
 simp -implicitDefEqProofs only[go_sem,seval,↓reduceIte]
 refine hK _ ?_
 clear hK K
 refine AW.ret ?_
 simp -implicitDefEqProofs only[go_sem,seval,↓reduceIte]
 refine endK_some ?_
 rw [hP,if_neg h1,if_neg h2,if_neg h3];rfl
theorem rRightN_spec (G:Nat→V) (hG:GOk G) (n:XN) (hn:n.name.length<100000):Spec Tryz.prog G 134 [encXN n] hNone (fun v _=>v = .bool (wellP n)):=by
 refine Spec.of_code' 0 36 [.tmp 2] Tryz.func134 rfl rfl rfl rfl fun X=>?_
 have hW:wellP n=if n.op<1∨n.op > 22∨n.num<0 then false else if n.op=2 then n.num==0 && isP n.name==2 else n.name==[] && (n.op==1 || n.num==0):=rfl
 obtain ⟨op,num,name,a,b,c⟩:=n
 simp only at hn hW
 simp only [encXN_K]
 refine AW.seq_k fun K hK=>AW.region (by kernel_rfl) ?_
 simp -implicitDefEqProofs only[go_sem,seval,↓reduceIte]
 intro g1
 refine hK _ ?_
 clear hK K
 refine AW.seqJ (fun (_:Unit)=>st [(1,.ptr 1 g1 0)] [(1,.cells .new g1 0 [.int .u8 op,.int .i64 num,.str name,.int .i64 a,.int .i64 b,.int .i64 c])]) (fun _=>wellP ⟨op,num,name,a,b,c⟩=if op=2 then isP name==2 else name==[]) (fun K1 hK1=>?_) ?_
 ·have hK2:(op<1)=False→(op > 22)=False→(num<0)=False→(op=1∨num=0)→wellP ⟨op,num,name,a,b,c⟩=if op=2 then isP name==2 else name==[]:=by
   intro h1 h2 h3 h4
   rw [hW,if_neg (by rintro (h | h | h);exact h1 ▸ h;exact h2 ▸ h;exact h3 ▸ h)]
   by_cases ho:op=2
   ·have:num=0:=h4.resolve_left (by omega)
    rw [if_pos ho,if_pos ho,this];rfl
   ·rw [if_neg ho,if_neg ho]
    rcases h4 with h | h
    ·rw [h];simp
    ·rw [h];simp
  have hK3:(op<1∨op > 22∨num<0∨(op≠1∧num≠0))→wellP ⟨op,num,name,a,b,c⟩=false:=by
   intro h
   rw [hW]
   split
   ·rfl
   ·rename_i h0
    simp only [not_or] at h0
    obtain ⟨q1,q2⟩:op≠1∧num≠0:=by
     rcases h with h | h | h | h
     ·exact absurd h h0.1
     ·exact absurd h h0.2.1
     ·exact absurd h h0.2.2
     ·exact h
    have e1:(op==1)=false:=by simpa using q1
    have e2:(num==0)=false:=by simpa using q2
    rw [e1,e2];simp
  by_cases q1:op<1
  ·have h1:decide (op<1)=true:=by simpa using q1
   (refine AW.seq_k fun K hK=>AW.region (by kernel_rfl) ?_;simp -implicitDefEqProofs only[go_sem,seval,↓reduceIte,h1];refine hK _ ?_;clear hK K)
   refine AW.condS (b:=true) (by simp -implicitDefEqProofs only[go_sem,seval,↓reduceIte]) (fun _=>?_) (fun h=>by cases h)
   (refine AW.seq_k fun K hK=>AW.region (by kernel_rfl) ?_;simp -implicitDefEqProofs only[go_sem,seval,↓reduceIte];refine hK _ ?_;clear hK K)
   (refine AW.ret ?_;simp -implicitDefEqProofs only[go_sem,seval,↓reduceIte];refine endK_some ?_)
   rw [hK3 (.inl q1)]
  have h1:decide (op<1)=false:=by simpa using q1
  by_cases q2:op > 22
  ·have h2:decide (op > 22)=true:=by simpa using q2
   (refine AW.seq_k fun K hK=>AW.region (by kernel_rfl) ?_;simp -implicitDefEqProofs only[go_sem,seval,↓reduceIte,h1,h2];refine hK _ ?_;clear hK K)
   refine AW.condS (b:=true) (by simp -implicitDefEqProofs only[go_sem,seval,↓reduceIte]) (fun _=>?_) (fun h=>by cases h)
   (refine AW.seq_k fun K hK=>AW.region (by kernel_rfl) ?_;simp -implicitDefEqProofs only[go_sem,seval,↓reduceIte];refine hK _ ?_;clear hK K)
   (refine AW.ret ?_;simp -implicitDefEqProofs only[go_sem,seval,↓reduceIte];refine endK_some ?_)
   rw [hK3 (.inr (.inl q2))]
  have h2:decide (op > 22)=false:=by simpa using q2
  by_cases q4:op=1
  ·have h4:(op != 1)=false:=by simpa using q4
   by_cases q3:num<0
   ·have h3:decide (num<0)=true:=by simpa using q3
    (refine AW.seq_k fun K hK=>AW.region (by kernel_rfl) ?_;simp -implicitDefEqProofs only[go_sem,seval,↓reduceIte,h1,h2,h3,h4];refine hK _ ?_;clear hK K)
    refine AW.condS (b:=true) (by simp -implicitDefEqProofs only[go_sem,seval,↓reduceIte]) (fun _=>?_) (fun h=>by cases h)
    (refine AW.seq_k fun K hK=>AW.region (by kernel_rfl) ?_;simp -implicitDefEqProofs only[go_sem,seval,↓reduceIte];refine hK _ ?_;clear hK K)
    (refine AW.ret ?_;simp -implicitDefEqProofs only[go_sem,seval,↓reduceIte];refine endK_some ?_)
    rw [hK3 (.inr (.inr (.inl q3)))]
   have h3:decide (num<0)=false:=by simpa using q3
   (refine AW.seq_k fun K hK=>AW.region (by kernel_rfl) ?_;simp -implicitDefEqProofs only[go_sem,seval,↓reduceIte,h1,h2,h3,h4];refine hK _ ?_;clear hK K)
   refine AW.condS (b:=false) (by simp -implicitDefEqProofs only[go_sem,seval,↓reduceIte]) (fun h=>by cases h) (fun _=>?_)
   refine AW.skip ?_
   simp -implicitDefEqProofs only[go_sem,seval,↓reduceIte]
   exact hK1 _ () (hK2 (eq_false q1) (eq_false q2) (eq_false q3) (.inl q4)) (Weak.st (by simp -implicitDefEqProofs only[go_sem,seval,↓reduceIte]) (by simp -implicitDefEqProofs only[go_sem,seval,↓reduceIte]))
  have h4:(op != 1)=true:=by simpa using q4
  by_cases q5:num=0
  ·have h5:(num != 0)=false:=by simpa using q5
   have q3:¬ num<0:=by omega
   have h3:decide (num<0)=false:=by simpa using q3
   (refine AW.seq_k fun K hK=>AW.region (by kernel_rfl) ?_;simp -implicitDefEqProofs only[go_sem,seval,↓reduceIte,h1,h2,h3,h4,h5];refine hK _ ?_;clear hK K)
   refine AW.condS (b:=false) (by simp -implicitDefEqProofs only[go_sem,seval,↓reduceIte]) (fun h=>by cases h) (fun _=>?_)
   refine AW.skip ?_
   simp -implicitDefEqProofs only[go_sem,seval,↓reduceIte]
   exact hK1 _ () (hK2 (eq_false q1) (eq_false q2) (eq_false q3) (.inr q5)) (Weak.st (by simp -implicitDefEqProofs only[go_sem,seval,↓reduceIte]) (by simp -implicitDefEqProofs only[go_sem,seval,↓reduceIte]))
  have h5:(num != 0)=true:=by simpa using q5
  (refine AW.seq_k fun K hK=>AW.region (by kernel_rfl) ?_;simp -implicitDefEqProofs only[go_sem,seval,↓reduceIte,h1,h2,h4,h5];refine hK _ ?_;clear hK K)
  refine AW.condS (b:=true) (by simp -implicitDefEqProofs only[go_sem,seval,↓reduceIte]) (fun _=>?_) (fun h=>by cases h)
  (refine AW.seq_k fun K hK=>AW.region (by kernel_rfl) ?_;simp -implicitDefEqProofs only[go_sem,seval,↓reduceIte];refine hK _ ?_;clear hK K)
  (refine AW.ret ?_;simp -implicitDefEqProofs only[go_sem,seval,↓reduceIte];refine endK_some ?_)
  rw [hK3 (.inr (.inr (.inr ⟨q4,q5⟩)))]
 rintro _ hW2
 refine AW.seq_k fun K2 hK2=>?_
 refine AW.seq_k fun K hK=>AW.region (by kernel_rfl) ?_
 simp -implicitDefEqProofs only[go_sem,seval,↓reduceIte]
 refine hK _ ?_
 clear hK K
 refine AW.condS (by simp -implicitDefEqProofs only[go_sem,seval,↓reduceIte];rfl) (fun h5=>?_) (fun h5=>?_)
 ·have h5:op=2:=by simpa using h5
  rw [if_pos h5] at hW2
  refine AW.seq_k fun K hK=>AW.region (by kernel_rfl) ?_
  simp -implicitDefEqProofs only[go_sem,seval,↓reduceIte]
  refine CallA.pure hG (by kernel_rfl) ?_
  simp -implicitDefEqProofs only[go_sem,seval,↓reduceIte]
  refine (rIs_spec G hG name (by omega)).mono ?_
  rintro _ _ rfl
  simp -implicitDefEqProofs only[go_sem,seval,↓reduceIte]
  refine hK _ ?_
  clear hK K
  refine AW.ret ?_
  simp -implicitDefEqProofs only[go_sem,seval,↓reduceIte]
  refine endK_some ?_
  rw [hW2]
  generalize isP name=z
  cases hz:(z==2) with
  | true =>
   have:((z:Int)==2)=true:=by rw [beq_iff_eq] at hz ⊢;omega
   rw [this]
  | false =>
   have:((z:Int)==2)=false:=by rw [beq_eq_false_iff_ne] at hz ⊢;omega
   rw [this]
 ·have h5:¬ op=2:=by simpa using h5
  rw [if_neg h5] at hW2
  refine AW.skip ?_
  simp -implicitDefEqProofs only[go_sem,seval,↓reduceIte]
  refine hK2 _ ?_
  refine AW.seq_k fun K hK=>AW.region (by kernel_rfl) ?_
  simp -implicitDefEqProofs only[go_sem,seval,↓reduceIte]
  refine hK _ ?_
  clear hK K
  refine AW.ret ?_
  simp -implicitDefEqProofs only[go_sem,seval,↓reduceIte]
  refine endK_some ?_
  rw [hW2]
def placeOf (n:XN):Nat→Int
 | 0=>n.a
 | 1=>n.b
 | _=>n.c
def begLoop (rec:Int→Int) (n:XN):Nat→Int→Option Int
 | 0,last=>some last
 | k+1,last=>match begStep rec (Nat.blt k (partsOf n.op)) (placeOf n k) last with
  | none=>none
  | some q=>begLoop rec n k q
theorem begR_loop (l:List XN) (f:Nat) (i:Int):begR l (f+1) i=match nthP l i with
  | none => -1
  | some n=>bif wellP n then (match begLoop (begR l f) n 3 (i-1) with | none => -1 | some q=>q+1) else -1:=by
 rw [begR]
 cases nthP l i with
 | none=>rfl
 | some n =>
  simp only
  cases wellP n with
  | false=>rfl
  | true =>
   simp only [cond_true,begLoop,placeOf]
   cases begStep (begR l f) (Nat.blt 2 (partsOf n.op)) n.c (i-1) with
   | none=>rfl
   | some l2 =>
    simp only
    cases begStep (begR l f) (Nat.blt 1 (partsOf n.op)) n.b l2 with
    | none=>rfl
    | some l1 =>
     simp only
     cases begStep (begR l f) (Nat.blt 0 (partsOf n.op)) n.a l1 with
     | none=>rfl
     | some l0=>rfl
theorem begStep_ne {rec:Int→Int} {pl last:Int} (h:¬ pl=last):begStep rec true pl last=none:=by simp [begStep,h]
theorem begStep_neg {rec:Int→Int} {pl last:Int} (h:pl=last) (h2:rec last<0):begStep rec true pl last=none:=by simp [begStep,h,h2]
theorem begStep_pos {rec:Int→Int} {pl last:Int} (h:pl=last) (h2:¬ rec last<0):begStep rec true pl last=some (rec last-1):=by simp [begStep,h,h2]
theorem bsNo {rec:Int→Int} {pl last:Int} (h:¬ pl = -1):begStep rec false pl last=none:=by simp [begStep,h]
theorem bsNone {rec:Int→Int} {pl last:Int} (h:pl = -1):begStep rec false pl last=some last:=by simp [begStep,h]
theorem begR_le (l:List XN) (f:Nat) (i:Int) (h:0≤begR l f i):begR l f i≤i:=by
 obtain ⟨x,b,_,_,h3,h4⟩:=begR_tree l f i h
 have:=x.size_pos
 omega
theorem rBegin_spec (G:Nat→V) (hG:GOk G) (s:Sl XN) (hs:s.l.length<1000000) (hnm:∀ n∈s.l,n.name.length<100000):∀ (f:Nat) (c:Col) (i:Int),-1≤i→i<f→i<1000000 →
  Spec Tryz.prog G 94 [encSl c 6 encXN s,.int .i64 i] hNone (fun v _=>v = .int .i64 (begR s.l f i)):=by
 intro f
 induction f with
 | zero =>
  intro c i h1 h2 _
  obtain rfl:i = -1:=by omega
  refine Spec.of_code' 0 68 [.tmp 4] Tryz.func94 rfl rfl rfl rfl fun X=>?_
  refine AW.seq_k fun K hK=>AW.region (by kernel_rfl) ?_
  simp -implicitDefEqProofs only[go_sem,seval,↓reduceIte]
  refine hK _ ?_
  clear hK K
  refine AW.seq_k fun K1 hK1=>?_
  refine AW.seq_k fun K hK=>AW.region (by kernel_rfl) ?_
  simp -implicitDefEqProofs only[go_sem,seval,↓reduceIte]
  refine hK _ ?_
  clear hK K
  refine AW.condS (by simp -implicitDefEqProofs only[go_sem,seval,↓reduceIte];rfl) (fun h2=>?_) (fun h2=>?_)
  ·refine AW.seq_k fun K hK=>AW.region (by kernel_rfl) ?_
   simp -implicitDefEqProofs only[go_sem,seval,↓reduceIte]
   refine hK _ ?_
   clear hK K
   refine AW.ret ?_
   simp -implicitDefEqProofs only[go_sem,seval,↓reduceIte]
   refine endK_some ?_
   rfl
  ·cases h2
 | succ f ih =>
 intro c i h1 h2 h3
 refine Spec.of_code' 0 68 [.tmp 4] Tryz.func94 rfl rfl rfl rfl fun X=>?_
 have hB:=begR_loop s.l f i
 generalize begR s.l (f+1) i=res at hB ⊢
 refine AW.seq_k fun K hK=>AW.region (by kernel_rfl) ?_
 simp -implicitDefEqProofs only[go_sem,seval,↓reduceIte]
 refine hK _ ?_
 clear hK K
 refine AW.seq_k fun K1 hK1=>?_
 by_cases hi:i<0
 ·have e1:decide (i<0)=true:=by simpa using hi
  have hno:nthP s.l i=none:=by unfold nthP;rw [if_pos hi]
  rw [hno] at hB
  refine AW.seq_k fun K hK=>AW.region (by kernel_rfl) ?_
  simp -implicitDefEqProofs only[go_sem,seval,↓reduceIte,e1]
  refine hK _ ?_
  clear hK K
  refine AW.condS (by simp -implicitDefEqProofs only[go_sem,seval,↓reduceIte];rfl) (fun h4=>?_) (fun h4=>?_)
  ·refine AW.seq_k fun K hK=>AW.region (by kernel_rfl) ?_
   simp -implicitDefEqProofs only[go_sem,seval,↓reduceIte]
   refine hK _ ?_
   clear hK K
   refine AW.ret ?_
   simp -implicitDefEqProofs only[go_sem,seval,↓reduceIte]
   refine endK_some ?_
   rw [hB]
  ·cases h4
 have e1:decide (i<0)=false:=by simpa using hi
 obtain ⟨m,rfl⟩:∃ m:Nat,i=m:=⟨i.toNat,by omega⟩
 by_cases hm:m≥s.l.length
 ·have e2:decide ((m:Int)≥s.l.length)=true:=by rw [decide_eq_true_iff];omega
  have hno:nthP s.l m=none:=by unfold nthP;rw [if_neg hi];exact List.getElem?_eq_none (by simpa using hm)
  rw [hno] at hB
  refine AW.seq_k fun K hK=>AW.region (by kernel_rfl) ?_
  simp -implicitDefEqProofs only[go_sem,seval,↓reduceIte,e1,e2]
  refine hK _ ?_
  clear hK K
  refine AW.condS (by simp -implicitDefEqProofs only[go_sem,seval,↓reduceIte];rfl) (fun h4=>?_) (fun h4=>?_)
  ·refine AW.seq_k fun K hK=>AW.region (by kernel_rfl) ?_
   simp -implicitDefEqProofs only[go_sem,seval,↓reduceIte]
   refine hK _ ?_
   clear hK K
   refine AW.ret ?_
   simp -implicitDefEqProofs only[go_sem,seval,↓reduceIte]
   refine endK_some ?_
   rw [hB]
  ·cases h4
 have e2:decide ((m:Int)≥s.l.length)=false:=by rw [decide_eq_false_iff_not];omega
 have hg:=List.getElem?_eq_getElem (Nat.lt_of_not_le hm)
 have hnn:=hnm _ (List.getElem_mem (Nat.lt_of_not_le hm))
 generalize s.l[m]=n at hg hnn
 have hno:nthP s.l m=some n:=by unfold nthP;rw [if_neg hi];exact hg
 rw [hno] at hB
 simp only at hB
 refine AW.seq_k fun K hK=>AW.region (by kernel_rfl) ?_
 simp -implicitDefEqProofs only[go_sem,seval,↓reduceIte,e1,e2,hg,encXN_K]
 rw [← encXN_K]
 refine CallA.pure hG (by kernel_rfl) ?_
 simp -implicitDefEqProofs only[go_sem,seval,↓reduceIte,recol_xn]
 refine (rRightN_spec G hG n hnn).mono ?_
 rintro _ _ rfl
 simp -implicitDefEqProofs only[go_sem,seval,↓reduceIte]
 refine hK _ ?_
 clear hK K
 cases hw:wellP n with
 | false =>
  rw [hw,cond_false] at hB
  refine AW.condS (by simp -implicitDefEqProofs only[go_sem,seval,↓reduceIte];rfl) (fun h4=>?_) (fun h4=>?_)
  ·refine AW.seq_k fun K hK=>AW.region (by kernel_rfl) ?_
   simp -implicitDefEqProofs only[go_sem,seval,↓reduceIte]
   refine hK _ ?_
   clear hK K
   refine AW.ret ?_
   simp -implicitDefEqProofs only[go_sem,seval,↓reduceIte]
   refine endK_some ?_
   rw [hB]
  ·cases h4
 | true =>
 rw [hw,cond_true] at hB
 refine AW.condS (by simp -implicitDefEqProofs only[go_sem,seval,↓reduceIte];rfl) (fun h4=>?_) (fun h4=>?_)
 ·cases h4
 refine AW.skip ?_
 simp -implicitDefEqProofs only[go_sem,seval,↓reduceIte]
 refine hK1 _ ?_
 refine AW.seq_k fun K hK=>AW.region (by kernel_rfl) ?_
 simp -implicitDefEqProofs only[go_sem,seval,↓reduceIte,hg,encXN_K]
 intro g5
 refine hK _ ?_
 clear hK K
 refine AW.seq_k fun K hK=>AW.region (by kernel_rfl) ?_
 simp -implicitDefEqProofs only[go_sem,seval,↓reduceIte]
 intro g36
 refine hK _ ?_
 clear hK K
 have hw1:IntKind.i64.wrap ((m:Int)-1)=(m:Int)-1:=w64 (by omega) (by omega)
 refine AW.seq_k fun K hK=>AW.region (by kernel_rfl) ?_
 simp -implicitDefEqProofs only[go_sem,seval,↓reduceIte,hw1]
 refine hK _ ?_
 clear hK K
 refine AW.seq_k fun K5 hK5=>?_
 refine AW.seq_k fun K hK=>AW.region (by kernel_rfl) ?_
 simp -implicitDefEqProofs only[go_sem,seval,↓reduceIte]
 refine hK _ ?_
 clear hK K
 refine AW.block ?_
 refine AW.while (fun (x:Nat × Int)=>st [(0,encSl c 6 encXN s),(5,.ptr 5 g5 0),(6,.msl 36 g36 0 3 1),(7,.int .i64 x.2),(8,.int .i64 ((x.1:Int)-1))] [(5,.cells .new g5 0 [.int .u8 n.op,.int .i64 n.num,.str n.name,.int .i64 n.a,.int .i64 n.b,.int .i64 n.c]),(36,.cells .new g36 0 [.int .i64 n.a,.int .i64 n.b,.int .i64 n.c])])
  (fun x=>(res=match begLoop (begR s.l f) n x.1 x.2 with | none => -1 | some q=>q+1)∧x.1≤3 ∧ -1≤x.2∧x.2≤(m:Int)-1) (fun x=>x.1) (3,(m:Int)-1) ⟨hB,Nat.le_refl _,by show -1≤(m:Int)-1;omega,Int.le_refl _⟩
  (Weak.st (by simp -implicitDefEqProofs only[go_sem,seval,↓reduceIte];try rfl) (by simp -implicitDefEqProofs only[go_sem,seval,↓reduceIte])) ?_
 clear hB
 rintro ⟨k,last⟩ ⟨hB,hk3,hl1,hl2⟩ L6 hL6
 replace hB:res=match begLoop (begR s.l f) n k last with | none => -1 | some q=>q+1:=hB
 replace hk3:k≤3:=hk3
 replace hl1 : -1≤last:=hl1
 replace hl2:last≤(m:Int)-1:=hl2
 refine AW.seq_k fun K7 hK7=>?_
 refine AW.seq_k fun K hK=>AW.region (by kernel_rfl) ?_
 simp -implicitDefEqProofs only[go_sem,seval,↓reduceIte]
 refine hK _ ?_
 clear hK K
 cases k with
 | zero =>
  refine AW.condS (by simp -implicitDefEqProofs only[go_sem,seval,↓reduceIte];rfl) (fun h8=>?_) (fun h8=>?_)
  ·cases h8
  refine AW.exit ?_
  simp -implicitDefEqProofs only[go_sem,seval,↓reduceIte]
  refine hK5 _ ?_
  refine AW.seq_k fun K hK=>AW.region (by kernel_rfl) ?_
  simp -implicitDefEqProofs only[go_sem,seval,↓reduceIte]
  refine hK _ ?_
  clear hK K
  refine AW.ret ?_
  simp -implicitDefEqProofs only[go_sem,seval,↓reduceIte]
  refine endK_some ?_
  rw [hB,w64 (by omega) (by omega)];rfl
 | succ k =>
 have e8:decide (((k+1:Nat):Int)-1≥0)=true:=by rw [decide_eq_true_iff];omega
 rw [begLoop] at hB
 refine AW.condS (by simp -implicitDefEqProofs only[go_sem,seval,↓reduceIte];rfl) (fun h8=>?_) (fun h8=>?_)
 rotate_left
 ·rw [e8] at h8;cases h8
 refine AW.skip ?_
 simp -implicitDefEqProofs only[go_sem,seval,↓reduceIte]
 refine hK7 _ ?_
 have ek:((k+1:Nat):Int)-1=(k:Int):=by omega
 rw [ek]
 have hwk:IntKind.i64.wrap ((k:Int)-1)=(k:Int)-1:=w64 (by omega) (by omega)
 have hpl:([.int .i64 n.a,.int .i64 n.b,.int .i64 n.c]:List V)[k]? = some (.int .i64 (placeOf n k)):=by
  match k,hk3 with
  | 0,_=>rfl
  | 1,_=>rfl
  | 2,_=>rfl
 have hklt:(k:Int)<3:=by omega
 generalize placeOf n k=pl at hB hpl
 refine AW.seq_k fun K9 hK9=>?_
 refine AW.block ?_
 refine AW.seq_k fun K10 hK10=>?_
 refine AW.seq_k fun K hK=>AW.region (by kernel_rfl) ?_
 simp -implicitDefEqProofs only[go_sem,seval,↓reduceIte]
 refine CallA.pure hG (by kernel_rfl) ?_
 simp -implicitDefEqProofs only[go_sem,seval,↓reduceIte]
 refine (rPartsOf_spec G hG n.op).mono ?_
 rintro _ _ rfl
 simp -implicitDefEqProofs only[go_sem,seval,↓reduceIte]
 refine hK _ ?_
 clear hK K
 generalize hpo:partsOf n.op=po at hB ⊢
 by_cases hkp:k<po
 ·have e5:decide ((k:Int)≥(po:Int))=false:=by rw [decide_eq_false_iff_not];omega
  have hbs:Nat.blt k po=true:=by simpa using hkp
  rw [hbs] at hB
  refine AW.condS (by simp -implicitDefEqProofs only[go_sem,seval,↓reduceIte];rfl) (fun h11=>?_) (fun h11=>?_)
  ·rw [e5] at h11;cases h11
  refine AW.skip ?_
  simp -implicitDefEqProofs only[go_sem,seval,↓reduceIte]
  refine hK10 _ ?_
  refine AW.seq_k fun K12 hK12=>?_
  by_cases hpe:pl=last
  rotate_left
  ·have e6:(pl != last)=true:=by simpa using hpe
   rw [begStep_ne hpe] at hB
   refine AW.seq_k fun K hK=>AW.region (by kernel_rfl) ?_
   simp -implicitDefEqProofs only[go_sem,seval,↓reduceIte,Nat.mul_one,hpl,hklt,Int.natCast_nonneg,e6]
   refine hK _ ?_
   clear hK K
   refine AW.condS (by simp -implicitDefEqProofs only[go_sem,seval,↓reduceIte];rfl) (fun h13=>?_) (fun h13=>?_)
   ·refine AW.seq_k fun K hK=>AW.region (by kernel_rfl) ?_
    simp -implicitDefEqProofs only[go_sem,seval,↓reduceIte]
    refine hK _ ?_
    clear hK K
    refine AW.ret ?_
    simp -implicitDefEqProofs only[go_sem,seval,↓reduceIte]
    refine endK_some ?_
    rw [hB]
   ·cases h13
  have e6:(pl != last)=false:=by simpa using hpe
  refine AW.seq_k fun K hK=>AW.region (by kernel_rfl) ?_
  simp -implicitDefEqProofs only[go_sem,seval,↓reduceIte,Nat.mul_one,hpl,hklt,Int.natCast_nonneg,e6]
  refine hK _ ?_
  clear hK K
  refine AW.condS (by simp -implicitDefEqProofs only[go_sem,seval,↓reduceIte];rfl) (fun h13=>?_) (fun h13=>?_)
  ·cases h13
  refine AW.skip ?_
  simp -implicitDefEqProofs only[go_sem,seval,↓reduceIte]
  refine hK12 _ ?_
  refine AW.seq_k fun K hK=>AW.region (by kernel_rfl) ?_
  simp -implicitDefEqProofs only[go_sem,seval,↓reduceIte]
  refine CallA.pure hG (by kernel_rfl) ?_
  simp -implicitDefEqProofs only[go_sem,seval,↓reduceIte,recol_xns]
  refine (ih c.ent last (by omega) (by omega) (by omega)).mono ?_
  rintro _ _ rfl
  simp -implicitDefEqProofs only[go_sem,seval,↓reduceIte]
  refine hK _ ?_
  clear hK K
  have hge:=begR_ge s.l f last
  have hle:=begR_le s.l f last
  refine AW.seq_k fun K14 hK14=>?_
  by_cases hr0:begR s.l f last<0
  ·have e7:decide (begR s.l f last<0)=true:=by simpa using hr0
   rw [begStep_neg hpe hr0] at hB
   refine AW.seq_k fun K hK=>AW.region (by kernel_rfl) ?_
   simp -implicitDefEqProofs only[go_sem,seval,↓reduceIte,e7]
   refine hK _ ?_
   clear hK K
   refine AW.condS (by simp -implicitDefEqProofs only[go_sem,seval,↓reduceIte];rfl) (fun h15=>?_) (fun h15=>?_)
   ·refine AW.seq_k fun K hK=>AW.region (by kernel_rfl) ?_
    simp -implicitDefEqProofs only[go_sem,seval,↓reduceIte]
    refine hK _ ?_
    clear hK K
    refine AW.ret ?_
    simp -implicitDefEqProofs only[go_sem,seval,↓reduceIte]
    refine endK_some ?_
    rw [hB]
   ·cases h15
  have e7:decide (begR s.l f last<0)=false:=by simpa using hr0
  rw [begStep_pos hpe hr0] at hB
  refine AW.seq_k fun K hK=>AW.region (by kernel_rfl) ?_
  simp -implicitDefEqProofs only[go_sem,seval,↓reduceIte,e7]
  refine hK _ ?_
  clear hK K
  refine AW.condS (by simp -implicitDefEqProofs only[go_sem,seval,↓reduceIte];rfl) (fun h15=>?_) (fun h15=>?_)
  ·cases h15
  refine AW.skip ?_
  simp -implicitDefEqProofs only[go_sem,seval,↓reduceIte]
  refine hK14 _ ?_
  have hle2:=hle (by omega)
  generalize begR s.l f last=r at hB hge hle2 hr0 ⊢
  have hwr:IntKind.i64.wrap (r-1)=r-1:=w64 (by omega) (by omega)
  refine AW.region (by kernel_rfl) ?_
  simp -implicitDefEqProofs only[go_sem,seval,↓reduceIte,hwr]
  refine hK9 _ ?_
  refine AW.region (by kernel_rfl) ?_
  simp -implicitDefEqProofs only[go_sem,seval,↓reduceIte,hwk]
  refine hL6 _ ⟨(k,r-1),by show k<k+1;omega,⟨hB,by show k≤3;omega,by show -1≤r-1;omega,by show r-1≤(m:Int)-1;omega⟩,Weak.st (by simp -implicitDefEqProofs only[go_sem,seval,↓reduceIte];try rfl) (by simp -implicitDefEqProofs only[go_sem,seval,↓reduceIte];try rfl)⟩
 ·have e5:decide ((k:Int)≥(po:Int))=true:=by rw [decide_eq_true_iff];omega
  have hbs:Nat.blt k po=false:=by
   rw [Bool.eq_false_iff];simpa using hkp
  rw [hbs] at hB
  refine AW.condS (by simp -implicitDefEqProofs only[go_sem,seval,↓reduceIte];rfl) (fun h11=>?_) (fun h11=>?_)
  rotate_left
  ·rw [e5] at h11;cases h11
  refine AW.seq_k fun K12 hK12=>?_
  by_cases hpe:pl = -1
  rotate_left
  ·have e6:(pl != -1)=true:=by simpa using hpe
   rw [bsNo hpe] at hB
   refine AW.seq_k fun K hK=>AW.region (by kernel_rfl) ?_
   simp -implicitDefEqProofs only[go_sem,seval,↓reduceIte,Nat.mul_one,hpl,hklt,Int.natCast_nonneg,e6]
   refine hK _ ?_
   clear hK K
   refine AW.condS (by simp -implicitDefEqProofs only[go_sem,seval,↓reduceIte];rfl) (fun h13=>?_) (fun h13=>?_)
   ·refine AW.seq_k fun K hK=>AW.region (by kernel_rfl) ?_
    simp -implicitDefEqProofs only[go_sem,seval,↓reduceIte]
    refine hK _ ?_
    clear hK K
    refine AW.ret ?_
    simp -implicitDefEqProofs only[go_sem,seval,↓reduceIte]
    refine endK_some ?_
    rw [hB]
   ·cases h13
  have e6:(pl != -1)=false:=by simpa using hpe
  rw [bsNone hpe] at hB
  refine AW.seq_k fun K hK=>AW.region (by kernel_rfl) ?_
  simp -implicitDefEqProofs only[go_sem,seval,↓reduceIte,Nat.mul_one,hpl,hklt,Int.natCast_nonneg,e6]
  refine hK _ ?_
  clear hK K
  refine AW.condS (by simp -implicitDefEqProofs only[go_sem,seval,↓reduceIte];rfl) (fun h13=>?_) (fun h13=>?_)
  ·cases h13
  refine AW.skip ?_
  simp -implicitDefEqProofs only[go_sem,seval,↓reduceIte]
  refine hK12 _ ?_
  refine AW.exit ?_
  simp -implicitDefEqProofs only[go_sem,seval,↓reduceIte]
  refine hK9 _ ?_
  refine AW.region (by kernel_rfl) ?_
  simp -implicitDefEqProofs only[go_sem,seval,↓reduceIte,hwk]
  refine hL6 _ ⟨(k,last),by show k<k+1;omega,⟨hB,by show k≤3;omega,hl1,hl2⟩,Weak.st (by simp -implicitDefEqProofs only[go_sem,seval,↓reduceIte];try rfl) (by simp -implicitDefEqProofs only[go_sem,seval,↓reduceIte];try rfl)⟩
def dep0 (s:Sl XN) (G:Nat→V) (i d:Int):Prop:=∀ c,Spec Tryz.prog G 95 [encSl c 6 encXN s,.int .i64 i] hNone (fun v _=>v = .int .i64 d)
theorem rDepth_neg (G:Nat→V) (hG:GOk G) (s:Sl XN):dep0 s G (-1) 0:=by
 intro c
 refine Spec.of_code' 0 30 [.tmp 4] Tryz.func95 rfl rfl rfl rfl fun X=>?_
 refine AW.seq_k fun K hK=>AW.region (by kernel_rfl) ?_
 simp -implicitDefEqProofs only[go_sem,seval,↓reduceIte]
 refine hK _ ?_
 clear hK K
 refine AW.seq_k fun K1 hK1=>?_
 refine AW.seq_k fun K hK=>AW.region (by kernel_rfl) ?_
 simp -implicitDefEqProofs only[go_sem,seval,↓reduceIte]
 refine hK _ ?_
 clear hK K
 refine AW.condS (by simp -implicitDefEqProofs only[go_sem,seval,↓reduceIte];rfl) (fun h2=>?_) (fun h2=>?_)
 ·refine AW.seq_k fun K hK=>AW.region (by kernel_rfl) ?_
  simp -implicitDefEqProofs only[go_sem,seval,↓reduceIte]
  refine hK _ ?_
  clear hK K
  refine AW.ret ?_
  simp -implicitDefEqProofs only[go_sem,seval,↓reduceIte]
  refine endK_some ?_
  rfl
 ·cases h2
theorem rDepth_step (G:Nat→V) (hG:GOk G) (s:Sl XN) (m:Nat) (n:XN) (hg:s.l[m]? = some n) (d0 d1 d2:Int) (h0:dep0 s G n.a d0) (h1:dep0 s G n.b d1) (h2:dep0 s G n.c d2) (hb:(0≤d0∧d0<1000000)∧(0≤d1∧d1<1000000)∧(0≤d2∧d2<1000000)) :
  dep0 s G m (max (max d0 d1) d2+1):=by
 intro c
 refine Spec.of_code' 0 30 [.tmp 4] Tryz.func95 rfl rfl rfl rfl fun X=>?_
 refine AW.seq_k fun K hK=>AW.region (by kernel_rfl) ?_
 simp -implicitDefEqProofs only[go_sem,seval,↓reduceIte]
 refine hK _ ?_
 clear hK K
 refine AW.seq_k fun K1 hK1=>?_
 have e1:decide ((m:Int)<0)=false:=by rw [decide_eq_false_iff_not];omega
 refine AW.seq_k fun K hK=>AW.region (by kernel_rfl) ?_
 simp -implicitDefEqProofs only[go_sem,seval,↓reduceIte,e1]
 refine hK _ ?_
 clear hK K
 refine AW.condS (by simp -implicitDefEqProofs only[go_sem,seval,↓reduceIte];rfl) (fun h3=>?_) (fun h3=>?_)
 ·cases h3
 refine AW.skip ?_
 simp -implicitDefEqProofs only[go_sem,seval,↓reduceIte]
 refine hK1 _ ?_
 have pc:∀ i d,dep0 s G i d→PureC Tryz.prog G 95 [encSl c 6 encXN s,.int .i64 i] (.int .i64 d):=fun i d h=>⟨by kernel_rfl,by
  simp only [List.map_cons,List.map_nil,recol_xns,recol_int]
  refine (h c.ent).mono ?_
  rintro _ _ rfl
  rfl⟩
 have hmx:(if d2 > (if d1 > d0 then d1 else d0) then d2 else (if d1 > d0 then d1 else d0))=max (max d0 d1) d2:=by
  rw [Int.max_def,Int.max_def]
  split<;>split<;>split<;>omega
 have hw:IntKind.i64.wrap (1+max (max d0 d1) d2)=max (max d0 d1) d2+1:=by rw [w64 (by omega) (by omega)];omega
 refine AW.seq_k fun K hK=>AW.regionT ⟨fun i=>if i=6 then .int .i64 d0 else if i=13 then .int .i64 d1 else if i=20 then .int .i64 d2 else .top,fun _ => .pure⟩ (by kernel_rfl) hG (by kernel_rfl) (by kernel_rfl) ?_
 simp -implicitDefEqProofs only[go_sem,seval,↓reduceIte,hg,encXN_K,hmx,hw]
 refine ⟨pc _ _ h0,pc _ _ h1,pc _ _ h2,?_⟩
 refine hK _ ?_
 clear hK K
 refine AW.ret ?_
 simp -implicitDefEqProofs only[go_sem,seval,↓reduceIte]
 refine endK_some ?_
 rfl
theorem depth_le:∀ x:X,x.depth≤x.size
 | .leaf .. => Nat.le_refl _
 | .un _ a=>by have:=depth_le a;simp only [X.depth,X.size];omega
 | .bin _ a b=>by have:=depth_le a;have:=depth_le b;simp only [X.depth,X.size];omega
 | .ite a b c=>by have:=depth_le a;have:=depth_le b;have:=depth_le c;simp only [X.depth,X.size];omega
theorem At.size_le {l:List XN} {x:X} {b:Nat} (h:At l x b):b+x.size≤l.length:=by
 obtain ⟨pre,post,rfl,hb⟩:=h
 rw [List.length_append,List.length_append,X.row_len];omega
theorem rDepth_at (G:Nat→V) (hG:GOk G) (s:Sl XN) (hs:s.l.length<1000000):∀ (x:X) (b:Nat),At s.l x b→dep0 s G ((b:Int)+x.size-1) x.depth
 | .leaf op num name,b,h=>by
  have:=rDepth_step G hG s b _ h.get 0 0 0 (rDepth_neg G hG s) (rDepth_neg G hG s) (rDepth_neg G hG s) ⟨by decide,by decide,by decide⟩
  have e:(b:Int)+(X.leaf op num name).size-1=(b:Nat):=by simp only [X.size];omega
  rw [e];exact this
 | .un op a,b,h=>by
  have ha:=h.un
  have ih:=rDepth_at G hG s hs a b ha
  have hz:=At.size_le h
  have hd:=depth_le a
  have hp:=a.size_pos
  have:=rDepth_step G hG s _ _ h.get _ 0 0 ih (rDepth_neg G hG s) (rDepth_neg G hG s) ⟨⟨by omega,by simp only [X.size] at hz;omega⟩,by decide,by decide⟩
  have e:(b:Int)+(X.un op a).size-1=((b+(X.un op a).size-1:Nat):Int):=by simp only [X.size];omega
  rw [e]
  have e2:((X.un op a).depth:Int)=max (max (a.depth:Int) 0) 0+1:=by simp only [X.depth];omega
  rw [e2];exact this
 | .bin op x y,b,h=>by
  obtain ⟨hx,hy⟩:=h.bin
  have ihx:=rDepth_at G hG s hs x b hx
  have ihy:=rDepth_at G hG s hs y (b+x.size) hy
  have hz:=At.size_le h
  have hd1:=depth_le x
  have hd2:=depth_le y
  have hp1:=x.size_pos
  have hp2:=y.size_pos
  have e3:((b+x.size:Nat):Int)+y.size-1=(b:Int)+x.size+y.size-1:=by omega
  rw [e3] at ihy
  simp only [X.size] at hz
  have:=rDepth_step G hG s _ _ h.get _ _ 0 ihx ihy (rDepth_neg G hG s) ⟨⟨by omega,by omega⟩,⟨by omega,by omega⟩,by decide⟩
  have e:(b:Int)+(X.bin op x y).size-1=((b+(X.bin op x y).size-1:Nat):Int):=by simp only [X.size];omega
  rw [e]
  have e2:((X.bin op x y).depth:Int)=max (max (x.depth:Int) y.depth) 0+1:=by simp only [X.depth];omega
  rw [e2];exact this
 | .ite x y z,b,h=>by
  obtain ⟨hx,hy,hz'⟩:=h.ite
  have ihx:=rDepth_at G hG s hs x b hx
  have ihy:=rDepth_at G hG s hs y (b+x.size) hy
  have ihz:=rDepth_at G hG s hs z (b+x.size+y.size) hz'
  have hz:=At.size_le h
  have hd1:=depth_le x
  have hd2:=depth_le y
  have hd3:=depth_le z
  have hp1:=x.size_pos
  have hp2:=y.size_pos
  have hp3:=z.size_pos
  have e3:((b+x.size:Nat):Int)+y.size-1=(b:Int)+x.size+y.size-1:=by omega
  rw [e3] at ihy
  have e4:((b+x.size+y.size:Nat):Int)+z.size-1=(b:Int)+x.size+y.size+z.size-1:=by omega
  rw [e4] at ihz
  simp only [X.size] at hz
  have:=rDepth_step G hG s _ _ h.get _ _ _ ihx ihy ihz ⟨⟨by omega,by omega⟩,⟨by omega,by omega⟩,⟨by omega,by omega⟩⟩
  have e:(b:Int)+(X.ite x y z).size-1=((b+(X.ite x y z).size-1:Nat):Int):=by simp only [X.size];omega
  rw [e]
  have e2:((X.ite x y z).depth:Int)=max (max (x.depth:Int) y.depth) z.depth+1:=by simp only [X.depth];omega
  rw [e2];exact this
end Go.Hs
end

section
namespace Go.Hs
open Go.Proofs
set_option maxRecDepth 10000
theorem rRight_spec (G:Nat→V) (hG:GOk G) (c:Col) (s:Sl XN) (hs:s.l.length<1000000) (hnm:∀ n∈s.l,n.name.length<100000) :
  Spec Tryz.prog G 68 [encSl c 6 encXN s] hNone (fun v _=>v = .bool (rightR s.l)):=by
 refine Spec.of_code' 0 9 [.tmp 2] Tryz.func68 rfl rfl rfl rfl fun X=>?_
 have hw:IntKind.i64.wrap ((s.l.length:Int)-1)=(s.l.length:Int)-1:=w64 (by omega) (by omega)
 refine AW.seq_k fun K hK=>AW.region (by kernel_rfl) ?_
 simp -implicitDefEqProofs only[go_sem,seval,↓reduceIte]
 refine hK _ ?_
 clear hK K
 refine AW.seq_k fun K hK=>AW.region (by kernel_rfl) ?_
 simp -implicitDefEqProofs only[go_sem,seval,↓reduceIte,hw]
 refine CallA.pure hG (by kernel_rfl) ?_
 simp -implicitDefEqProofs only[go_sem,seval,↓reduceIte,recol_xns]
 refine (rBegin_spec G hG s hs hnm s.l.length c.ent ((s.l.length:Int)-1) (by omega) (by omega) (by omega)).mono ?_
 rintro _ _ rfl
 simp -implicitDefEqProofs only[go_sem,seval,↓reduceIte]
 refine hK _ ?_
 clear hK K
 refine AW.ret ?_
 simp -implicitDefEqProofs only[go_sem,seval,↓reduceIte]
 refine endK_some ?_
 rfl
theorem rDepthN_spec (G:Nat→V) (hG:GOk G) (c:Col) (s:Sl XN) (hs:s.l.length<1000000) (hnm:∀ n∈s.l,n.name.length<100000) :
  Spec Tryz.prog G 69 [encSl c 6 encXN s] hNone (fun v _=>v = .int .i64 (depthP s.l)):=by
 refine Spec.of_code' 0 11 [.tmp 2] Tryz.func69 rfl rfl rfl rfl fun X=>?_
 have hw:IntKind.i64.wrap ((s.l.length:Int)-1)=(s.l.length:Int)-1:=w64 (by omega) (by omega)
 refine AW.seq_k fun K hK=>AW.region (by kernel_rfl) ?_
 simp -implicitDefEqProofs only[go_sem,seval,↓reduceIte]
 refine hK _ ?_
 clear hK K
 refine AW.seq_k fun K1 hK1=>?_
 refine AW.seq_k fun K hK=>AW.region (by kernel_rfl) ?_
 simp -implicitDefEqProofs only[go_sem,seval,↓reduceIte]
 refine CallA.pure hG (by kernel_rfl) ?_
 simp -implicitDefEqProofs only[go_sem,seval,↓reduceIte,recol_xns]
 refine (rRight_spec G hG c.ent s hs hnm).mono ?_
 rintro _ _ rfl
 simp -implicitDefEqProofs only[go_sem,seval,↓reduceIte]
 refine hK _ ?_
 clear hK K
 cases hr:rightR s.l with
 | false =>
  have hd:depthP s.l=0:=by
   have:=right_depth s.l
   rw [hr] at this
   have h2:=of_decide_eq_false this.symm
   exact Classical.byContradiction h2
  refine AW.condS (by simp -implicitDefEqProofs only[go_sem,seval,↓reduceIte];rfl) (fun h6=>?_) (fun h6=>?_)
  ·refine AW.seq_k fun K hK=>AW.region (by kernel_rfl) ?_
   simp -implicitDefEqProofs only[go_sem,seval,↓reduceIte]
   refine hK _ ?_
   clear hK K
   refine AW.ret ?_
   simp -implicitDefEqProofs only[go_sem,seval,↓reduceIte]
   refine endK_some ?_
   rw [hd]
  ·cases h6
 | true =>
 refine AW.condS (by simp -implicitDefEqProofs only[go_sem,seval,↓reduceIte];rfl) (fun h6=>?_) (fun h6=>?_)
 ·cases h6
 refine AW.skip ?_
 simp -implicitDefEqProofs only[go_sem,seval,↓reduceIte]
 refine hK1 _ ?_
 obtain ⟨x,hx,hl⟩:=right_tree.1 hr
 have hat:At s.l x 0:=hl ▸ At.whole x
 have hdep:depthP s.l=x.depth:=by rw [hl,depth_row hx]
 have hlen:s.l.length=x.size:=by rw [hl,Go.Hs.X.row_len]
 have hsp:=rDepth_at G hG s hs x 0 hat
 rw [show ((0:Nat):Int)+x.size-1=(s.l.length:Int)-1 by omega] at hsp
 refine AW.seq_k fun K hK=>AW.region (by kernel_rfl) ?_
 simp -implicitDefEqProofs only[go_sem,seval,↓reduceIte,hw]
 refine CallA.pure hG (by kernel_rfl) ?_
 simp -implicitDefEqProofs only[go_sem,seval,↓reduceIte,recol_xns]
 refine (hsp c.ent).mono ?_
 rintro _ _ rfl
 simp -implicitDefEqProofs only[go_sem,seval,↓reduceIte]
 refine hK _ ?_
 clear hK K
 refine AW.ret ?_
 simp -implicitDefEqProofs only[go_sem,seval,↓reduceIte]
 refine endK_some ?_
 rw [hdep]
def checkP (l:List XN):Int:=if depthP l=0 then 2 else if depthP l > 64 then 3 else 0
theorem rCheck_spec (G:Nat→V) (hG:GOk G) (c:Col) (s:Sl XN) (hs:s.l.length<1000000) (hnm:∀ n∈s.l,n.name.length<100000) :
  Spec Tryz.prog G 45 [encSl c 6 encXN s] hNone (fun v _=>v = .int .i64 (checkP s.l)):=by
 refine Spec.of_code' 0 9 [.tmp 2] Tryz.func45 rfl rfl rfl rfl fun X=>?_
 have hC:checkP s.l=if depthP s.l=0 then 2 else if depthP s.l > 64 then 3 else 0:=rfl
 generalize checkP s.l=res at hC ⊢
 refine AW.seq_k fun K hK=>AW.region (by kernel_rfl) ?_
 simp -implicitDefEqProofs only[go_sem,seval,↓reduceIte]
 refine hK _ ?_
 clear hK K
 refine AW.seq_k fun K1 hK1=>?_
 refine AW.seq_k fun K hK=>AW.region (by kernel_rfl) ?_
 simp -implicitDefEqProofs only[go_sem,seval,↓reduceIte]
 refine CallA.pure hG (by kernel_rfl) ?_
 simp -implicitDefEqProofs only[go_sem,seval,↓reduceIte,recol_xns]
 refine (rRight_spec G hG c.ent s hs hnm).mono ?_
 rintro _ _ rfl
 simp -implicitDefEqProofs only[go_sem,seval,↓reduceIte]
 refine hK _ ?_
 clear hK K
 rw [right_depth]
 by_cases hd:depthP s.l=0
 ·rw [if_pos hd] at hC
  have e1:decide (depthP s.l≠0)=false:=by simpa using hd
  rw [e1]
  refine AW.condS (by simp -implicitDefEqProofs only[go_sem,seval,↓reduceIte];rfl) (fun h6=>?_) (fun h6=>?_)
  ·refine AW.seq_k fun K hK=>AW.region (by kernel_rfl) ?_
   simp -implicitDefEqProofs only[go_sem,seval,↓reduceIte]
   refine hK _ ?_
   clear hK K
   refine AW.ret ?_
   simp -implicitDefEqProofs only[go_sem,seval,↓reduceIte]
   refine endK_some ?_
   rw [hC]
  ·cases h6
 have e1:decide (depthP s.l≠0)=true:=by simpa using hd
 rw [if_neg hd] at hC
 rw [e1]
 refine AW.condS (by simp -implicitDefEqProofs only[go_sem,seval,↓reduceIte];rfl) (fun h6=>?_) (fun h6=>?_)
 ·cases h6
 refine AW.skip ?_
 simp -implicitDefEqProofs only[go_sem,seval,↓reduceIte]
 refine hK1 _ ?_
 refine AW.seq_k fun K2 hK2=>?_
 refine AW.seq_k fun K hK=>AW.region (by kernel_rfl) ?_
 simp -implicitDefEqProofs only[go_sem,seval,↓reduceIte]
 refine CallA.pure hG (by kernel_rfl) ?_
 simp -implicitDefEqProofs only[go_sem,seval,↓reduceIte,recol_xns]
 refine (rDepthN_spec G hG c.ent s hs hnm).mono ?_
 rintro _ _ rfl
 simp -implicitDefEqProofs only[go_sem,seval,↓reduceIte]
 refine hK _ ?_
 clear hK K
 refine AW.condS (by simp -implicitDefEqProofs only[go_sem,seval,↓reduceIte];rfl) (fun h7=>?_) (fun h7=>?_)
 ·have h7:depthP s.l > 64:=by simpa using h7
  rw [if_pos h7] at hC
  refine AW.seq_k fun K hK=>AW.region (by kernel_rfl) ?_
  simp -implicitDefEqProofs only[go_sem,seval,↓reduceIte]
  refine hK _ ?_
  clear hK K
  refine AW.ret ?_
  simp -implicitDefEqProofs only[go_sem,seval,↓reduceIte]
  refine endK_some ?_
  rw [hC]
 ·have h7:¬ depthP s.l > 64:=by simpa using h7
  rw [if_neg h7] at hC
  refine AW.skip ?_
  simp -implicitDefEqProofs only[go_sem,seval,↓reduceIte]
  refine hK2 _ ?_
  refine AW.seq_k fun K hK=>AW.region (by kernel_rfl) ?_
  simp -implicitDefEqProofs only[go_sem,seval,↓reduceIte]
  refine hK _ ?_
  clear hK K
  refine AW.ret ?_
  simp -implicitDefEqProofs only[go_sem,seval,↓reduceIte]
  refine endK_some ?_
  rw [hC]
theorem xCheck_spec (G:Nat→V) (hE:GExp G) (c:Col) (s:Sl XN) (hs:s.l.length<1000000) (hnm:∀ n∈s.l,n.name.length<100000) :
  Spec Tryz.prog G 65 [.agg [encSl c 6 encXN s]] hNone (fun v _=>v = .int .i64 (checkP s.l)):=by
 have hG:=hE.ok
 refine Spec.of_code' 0 12 [.tmp 2] Tryz.func65 rfl rfl rfl rfl fun X=>?_
 have hC:checkP s.l=if depthP s.l=0 then 2 else if depthP s.l > 64 then 3 else 0:=rfl
 generalize checkP s.l=res at hC ⊢
 refine AW.seq_k fun K hK=>AW.region (by kernel_rfl) ?_
 simp -implicitDefEqProofs only[go_sem,seval,↓reduceIte]
 intro g1
 refine hK _ ?_
 clear hK K
 refine AW.seq_k fun K1 hK1=>?_
 refine AW.seq_k fun K hK=>AW.region (by kernel_rfl) ?_
 simp -implicitDefEqProofs only[go_sem,seval,↓reduceIte]
 refine CallA.pure hG (by kernel_rfl) ?_
 simp -implicitDefEqProofs only[go_sem,seval,↓reduceIte,recol_xns]
 refine (xDepth_spec G hE c.ent s hs hnm).mono ?_
 rintro _ _ rfl
 simp -implicitDefEqProofs only[go_sem,seval,↓reduceIte]
 refine hK _ ?_
 clear hK K
 refine AW.block ?_
 refine AW.seq_k fun K hK=>AW.region (by kernel_rfl) ?_
 simp -implicitDefEqProofs only[go_sem,seval,↓reduceIte]
 refine hK _ ?_
 clear hK K
 refine AW.condS (by simp -implicitDefEqProofs only[go_sem,seval,↓reduceIte];rfl) (fun h6=>?_) (fun h6=>?_)
 ·have h6:depthP s.l=0:=by simpa using h6
  rw [if_pos h6] at hC
  refine AW.seq_k fun K hK=>AW.region (by kernel_rfl) ?_
  simp -implicitDefEqProofs only[go_sem,seval,↓reduceIte]
  refine hK _ ?_
  clear hK K
  refine AW.ret ?_
  simp -implicitDefEqProofs only[go_sem,seval,↓reduceIte]
  refine endK_some ?_
  rw [hC]
 have h6:¬ depthP s.l=0:=by simpa using h6
 rw [if_neg h6] at hC
 refine AW.seq_k fun K hK=>AW.region (by kernel_rfl) ?_
 simp -implicitDefEqProofs only[go_sem,seval,↓reduceIte]
 refine hK _ ?_
 clear hK K
 refine AW.condS (by simp -implicitDefEqProofs only[go_sem,seval,↓reduceIte];rfl) (fun h7=>?_) (fun h7=>?_)
 ·have h7:depthP s.l > 64:=by simpa using h7
  rw [if_pos h7] at hC
  refine AW.seq_k fun K hK=>AW.region (by kernel_rfl) ?_
  simp -implicitDefEqProofs only[go_sem,seval,↓reduceIte]
  refine hK _ ?_
  clear hK K
  refine AW.ret ?_
  simp -implicitDefEqProofs only[go_sem,seval,↓reduceIte]
  refine endK_some ?_
  rw [hC]
 ·have h7:¬ depthP s.l > 64:=by simpa using h7
  rw [if_neg h7] at hC
  refine AW.skip ?_
  simp -implicitDefEqProofs only[go_sem,seval,↓reduceIte]
  refine hK1 _ ?_
  refine AW.seq_k fun K hK=>AW.region (by kernel_rfl) ?_
  simp -implicitDefEqProofs only[go_sem,seval,↓reduceIte]
  refine hK _ ?_
  clear hK K
  refine AW.ret ?_
  simp -implicitDefEqProofs only[go_sem,seval,↓reduceIte]
  refine endK_some ?_
  rw [hC]
end Go.Hs
end

section
namespace Go.Hs
open Go.Proofs
set_option maxRecDepth 10000
set_option maxHeartbeats 1000000
def encVE (r:EV):V := .tuple [encEV r,.int .i64 r.er]
def KindsIs (env:List (List UInt8 × Int)) (l:List XN) (k:Int) (r:EV):Prop:=checkP l≠0∧r = .err (checkP l)∨checkP l=0∧∃ x:X,x.ok=true∧NumsOk x∧l=x.row 0∧r=(evX env x).need k
theorem sets2_sub {H:Heap} {a b:AObj} (h6:H 6=a) (h7:H 7=b) (o:Nat):sets hNone [(6,a),(7,b)] o = .dead∨sets hNone [(6,a),(7,b)] o=H o:=by
 simp only [sets,upd]
 split
 ·rename_i h;subst h;exact .inr h6.symm
 split
 ·rename_i h;subst h;exact .inr h7.symm
 ·exact .inl rfl
theorem kinds_spec (G:Nat→V) (hE:GExp G) (c c2:Col) (s:Sl XN) (hs:s.l.length<1000000) (hnm:∀ n∈s.l,n.name.length<100000) (env:Sl (List UInt8 × Int)) (hv:env.l.length<1000000) (hf:∀ p∈env.l,fits p.2=true) (k:Int) (hk:0≤k∧k≤2) (r:EV) (hr:KindsIs env.l s.l k r) :
  Spec Tryz.prog G 44 [.agg [encSl c 6 encXN s],encSl c2 2 encBi env,.int .u8 k] hNone (fun v _=>v=encVE r):=by
 have hG:=hE.ok
 refine Spec.of_defers 0 51 [.cell 6 34,.cell 7 30] Tryz.func44 rfl rfl rfl rfl fun X0=>?_
 refine AWR.seq_k rfl fun K hK=>AW.region (by kernel_rfl) ?_
 simp -implicitDefEqProofs only[go_sem,seval,↓reduceIte]
 intro g3 g6 g7
 refine hK _ ?_
 clear hK K
 refine AWR.seq_k rfl fun K1 hK1=>?_
 refine AW.seq_k fun K hK=>AW.region (by kernel_rfl) ?_
 simp -implicitDefEqProofs only[go_sem,seval,↓reduceIte]
 refine CallA.pure hG (by kernel_rfl) ?_
 simp -implicitDefEqProofs only[go_sem,seval,↓reduceIte,recol_xns]
 refine (xCheck_spec G hE c.ent s hs hnm).mono ?_
 rintro _ _ rfl
 simp -implicitDefEqProofs only[go_sem,seval,↓reduceIte]
 refine hK _ ?_
 clear hK K
 by_cases hc:checkP s.l=0
 rotate_left
 ·obtain rfl:r = .err (checkP s.l):=by
   rcases hr with ⟨_,h⟩ | ⟨h,_⟩
   ·exact h
   ·exact absurd h hc
  have hcb:(checkP s.l != 0)=true:=by simpa using hc
  refine AW.seq_k fun K hK=>AW.region (by kernel_rfl) ?_
  simp -implicitDefEqProofs only[go_sem,seval,↓reduceIte,hcb]
  refine hK _ ?_
  clear hK K
  refine AW.qT rfl ?_
  refine AW.seq_k fun K hK=>AW.region (by kernel_rfl) ?_
  simp -implicitDefEqProofs only[go_sem,seval,↓reduceIte]
  refine hK _ ?_
  clear hK K
  refine AW.ret ?_
  intro a w hsat
  refine post_early rfl hsat (v:=encVE (.err (checkP s.l))) (rs:=[.cell 6 34,.cell 7 30]) ?_ ?_
  ·simp -implicitDefEqProofs only[go_sem,seval,↓reduceIte]
   rfl
  ·rfl
 obtain ⟨x,hx,hxn,hl,rfl⟩:∃ x:X,x.ok=true∧NumsOk x∧s.l=x.row 0∧r=(evX env.l x).need k:=by
  rcases hr with ⟨h,_⟩ | ⟨_,h⟩
  ·exact absurd hc h
  ·exact h
 have hcb:(checkP s.l != 0)=false:=by simpa using hc
 refine AW.seq_k fun K hK=>AW.region (by kernel_rfl) ?_
 simp -implicitDefEqProofs only[go_sem,seval,↓reduceIte,hcb]
 refine hK _ ?_
 clear hK K
 refine AW.qF rfl ?_
 refine AW.skip ?_
 simp -implicitDefEqProofs only[go_sem,seval,↓reduceIte]
 refine hK1 _ ?_
 clear hK1 K1
 refine AWR.cut 1 (fun _=>(⟨X0,hNone,51,0,G,none,[.func (.func 66) [] [.ptr 6 g6 0,.ptr 7 g7 0]]⟩:Ent)) (fun _=>rfl) (by kernel_rfl) rfl rfl rfl (fun _=>rfl) ?_
 simp -implicitDefEqProofs only[go_sem,seval,↓reduceIte]
 intro X1 a1 hX1
 refine defer_wp hX1 (fun d hd=>by cases hd) (fid:=66) (first:=[]) (cap:=[.ptr 6 g6 0,.ptr 7 g7 0]) (by simp -implicitDefEqProofs only[go_sem,seval,↓reduceIte]) ?_
 rw [put_none]
 refine AWR.weak (Weak.st (l:=[(1,encSl c2 2 encBi env),(2,.int .u8 k),(3,.ptr 3 g3 0),(6,.ptr 6 g6 0),(7,.ptr 7 g7 0)]) (m:=[(3,.cells .new g3 0 [encSl c 6 encXN s]),(6,.cells .new g6 0 [.int .u8 0,.int .i64 0,.bool false]),(7,.cells .new g7 0 [.int .i64 0])]) (by simp -implicitDefEqProofs only[go_sem,seval,↓reduceIte];try rfl) (by simp -implicitDefEqProofs only[go_sem,seval,↓reduceIte];try rfl)) ?_
 refine AWR.seq_k rfl fun K hK=>AW.region (by kernel_rfl) ?_
 simp -implicitDefEqProofs only[go_sem,seval,↓reduceIte]
 intro b g22
 refine hK _ ?_
 clear hK K
 refine AWR.weak (Weak.st (l:=[(1,encSl c2 2 encBi env),(2,.int .u8 k),(3,.ptr 3 g3 0),(6,.ptr 6 g6 0),(7,.ptr 7 g7 0),(9,.ptr 22 g22 0)]) (m:=[(3,.cells .new g3 0 [encSl c 6 encXN s]),(6,.cells .new g6 0 [.int .u8 0,.int .i64 0,.bool false]),(7,.cells .new g7 0 [.int .i64 0]),(20,.mp X0.w.heap.size b [] []),(22,.cells .new g22 0 [encSl c 6 encXN s,.mref 20 b])]) (by simp -implicitDefEqProofs only[go_sem,seval,↓reduceIte];try rfl) (by simp -implicitDefEqProofs only[go_sem,seval,↓reduceIte];try rfl)) ?_
 refine AWR.seq_k rfl fun K1 hK1=>?_
 have hw:IntKind.i64.wrap ((env.l.length:Int)-1)=(env.l.length:Int)-1:=w64 (by omega) (by omega)
 refine AW.seq_k fun K hK=>AW.region (by kernel_rfl) ?_
 simp -implicitDefEqProofs only[go_sem,seval,↓reduceIte,hw]
 refine hK _ ?_
 clear hK K
 refine AW.block ?_
 refine AW.for env.l.length (fun j (_:Unit)=>st [(1,encSl c2 2 encBi env),(2,.int .u8 k),(3,.ptr 3 g3 0),(6,.ptr 6 g6 0),(7,.ptr 7 g7 0),(9,.ptr 22 g22 0),(10,.int .i64 ((env.l.length:Int)-1-j))] [(3,.cells .new g3 0 [encSl c 6 encXN s]),(6,.cells .new g6 0 [.int .u8 0,.int .i64 0,.bool false]),(7,.cells .new g7 0 [.int .i64 0]),(20,.mp X0.w.heap.size b (envKs (envFrom env.l j)) (envVs (envFrom env.l j))),(22,.cells .new g22 0 [encSl c 6 encXN s,.mref 20 b])]) (fun _ _=>True) 0 () (Nat.zero_le _) trivial
  (Weak.st (by simp -implicitDefEqProofs only[go_sem,seval,↓reduceIte];simp) (by simp -implicitDefEqProofs only[go_sem,seval,↓reduceIte];try rfl)) ?_
 rintro j _ hj-L hL
 refine AW.seq_k fun K3 hK3=>?_
 by_cases hjl:j<env.l.length
 ·obtain ⟨i,hi⟩:∃ i:Nat,i=env.l.length-(j+1):=⟨_,rfl⟩
  have hil:i<env.l.length:=by omega
  have hq:(env.l.length:Int)-1-j=(i:Int):=by omega
  have hg:env.l[i]? = some env.l[i]:=List.getElem?_eq_getElem hil
  have hnx:envFrom env.l (j+1)=setB (envFrom env.l j) env.l[i]:=by
   rw [envFrom,← hi,hg]
  generalize env.l[i]=p at hg hnx
  rw [hq]
  refine AW.seq_k fun K hK=>AW.region (by kernel_rfl) ?_
  simp -implicitDefEqProofs only[go_sem,seval,↓reduceIte]
  refine hK _ ?_
  clear hK K
  refine AW.condS (by simp -implicitDefEqProofs only[go_sem,seval,↓reduceIte];rfl) (fun h1=>?_) (fun h1=>?_)
  rotate_left
  ·have h1:decide ((i:Int)≥0)=false:=h1
   simp at h1
  refine AW.skip ?_
  simp -implicitDefEqProofs only[go_sem,seval,↓reduceIte]
  refine hK3 _ ?_
  clear hK3 K3
  refine AW.seq_k fun K4 hK4=>?_
  refine AW.block ?_
  refine AW.regionT ⟨fun _ => .top,fun _ => .pure⟩ (by kernel_rfl) hG (by kernel_rfl) (by kernel_rfl) ?_
  simp -implicitDefEqProofs only[go_sem,seval,↓reduceIte,hg,encBi_K,hil,Int.natCast_nonneg,Int.ofNat_lt,mapSetA_mref Tryz.underlying155 Tryz.underlying9,putV_set,optK_some,Nat.le_refl]
  refine hK4 _ ?_
  clear hK4 K4
  have hw2:IntKind.i64.wrap ((i:Int)-1)=(i:Int)-1:=w64 (by omega) (by omega)
  refine AW.region (by kernel_rfl) ?_
  simp -implicitDefEqProofs only[go_sem,seval,↓reduceIte,hw2]
  refine hL _ ⟨hjl,(),trivial,Weak.st (by simp -implicitDefEqProofs only[go_sem,seval,↓reduceIte];exact congrArg (V.int .i64) (by omega)) (by simp -implicitDefEqProofs only[go_sem,seval,↓reduceIte];rw [hnx];try rfl)⟩
 ·have hje:j=env.l.length:=by omega
  subst hje
  have hq:(env.l.length:Int)-1-env.l.length = -1:=by omega
  rw [hq]
  refine AW.qr (by kernel_rfl) ?_
  simp -implicitDefEqProofs only[go_sem,seval,↓reduceIte]
  refine AW.qF rfl ?_
  refine AW.exit ?_
  simp -implicitDefEqProofs only[go_sem,seval,↓reduceIte]
  refine hK1 _ ?_
  clear hK1 hL hK3 K1 K3
  refine AWR.weak (Weak.stMap 20 (lo:=X0.w.heap.size) (b:=b) (ks:=envKs (envM env.l)) (vs:=envVs (envM env.l)) [(1,encSl c2 2 encBi env),(2,.int .u8 k),(3,.ptr 3 g3 0),(6,.ptr 6 g6 0),(7,.ptr 7 g7 0),(9,.ptr 22 g22 0)] [(3,.cells .new g3 0 [encSl c 6 encXN s]),(6,.cells .new g6 0 [.int .u8 0,.int .i64 0,.bool false]),(7,.cells .new g7 0 [.int .i64 0]),(22,.cells .new g22 0 [encSl c 6 encXN s,.mapv (envKs (envM env.l)) (envVs (envM env.l))])] (by simp -implicitDefEqProofs only[go_sem,seval,↓reduceIte];try rfl) (Nat.le_refl _) ?_ ?_) ?_
  ·simp -implicitDefEqProofs only[go_sem,seval,↓reduceIte]
   exact ⟨.inl rfl,.inl rfl,.inl rfl,.inl rfl,.inl rfl,.inl rfl⟩
  ·simp -implicitDefEqProofs only[go_sem,seval,↓reduceIte]
   exact ⟨⟨_,rfl,.inl rfl,trivial⟩,⟨_,rfl,.inl rfl,.inl rfl,.inl rfl,trivial⟩,⟨_,rfl,.inl rfl,trivial⟩,⟨_,rfl,.inl rfl,.inr ⟨rfl,rfl⟩,trivial⟩⟩
  refine AWR.weak (Weak.stF (fun o=>o==22) (l:=[(1,encSl c2 2 encBi env),(2,.int .u8 k),(3,.ptr 3 g3 0),(6,.ptr 6 g6 0),(7,.ptr 7 g7 0),(9,lkV .new c s (envM env.l))]) (m:=[(3,.cells .new g3 0 [encSl c 6 encXN s]),(6,.cells .new g6 0 [.int .u8 0,.int .i64 0,.bool false]),(7,.cells .new g7 0 [.int .i64 0])]) ?_ ?_) ?_
  ·simp -implicitDefEqProofs only[go_sem,seval,↓reduceIte]
   refine ⟨Fz.same _,Fz.same _,Fz.same _,Fz.same _,Fz.same _,?_⟩
   exact Fz.ptr (v := .agg [encSl c 6 encXN s,.mapv (envKs (envM env.l)) (envVs (envM env.l))]) (c := .new) (fz:=0) rfl (by simp -implicitDefEqProofs only[go_sem,seval,↓reduceIte];try rfl)
  ·simp only [allFzO_cons,allFzO_nil,and_true]
   exact ⟨FzO.keep rfl (by simp -implicitDefEqProofs only[go_sem,seval,↓reduceIte];try rfl),FzO.keep rfl (by simp -implicitDefEqProofs only[go_sem,seval,↓reduceIte];try rfl),FzO.keep rfl (by simp -implicitDefEqProofs only[go_sem,seval,↓reduceIte];try rfl)⟩
  have hw3:IntKind.i64.wrap ((s.l.length:Int)-1)=(s.l.length:Int)-1:=w64 (by omega) (by omega)
  refine AWR.cut 6 (fun _=>(⟨X0,hNone,51,0,G,none,[.func (.func 66) [] [.ptr 6 g6 0,.ptr 7 g7 0]]⟩:Ent)) (fun _=>rfl) (by kernel_rfl) rfl rfl rfl (fun _=>rfl) ?_
  simp -implicitDefEqProofs only[go_sem,seval,↓reduceIte,hw3]
  intro X2 a2 hX2
  refine call_wp hX2 (fun d hd=>by cases hd;exact Nat.le_refl 51) (fid:=67) (first:=[]) (cap:=[]) (KP:=fun v H'=>(∃ e,(evX env.l x).need k = .err e∧v=haltV e)∧H' 6 = .cells .new g6 0 [.int .u8 0,.int .i64 0,.bool false]∧H' 7 = .cells .new g7 0 [.int .i64 0]) (by simp -implicitDefEqProofs only[go_sem,seval,↓reduceIte]) ?_ ?_
  ·simp -implicitDefEqProofs only[go_sem,seval,↓reduceIte]
   have hsz:((0+x.size-1:Nat):Int)=(s.l.length:Int)-1:=by
    have:=x.size_pos
    rw [hl,Go.Hs.X.row_len]
    omega
   have hO:=of_spec G hG s hs (envM env.l) (envFrom_fits hf _) x 0 hx hxn (hl ▸ At.whole x)
   rw [hsz,evX_envM] at hO
   refine CallP.pureE hG (by kernel_rfl) (hO .old c.ent k hk) (by simp -implicitDefEqProofs only[go_sem,seval,↓reduceIte,lkV]) ?_ ?_
   ·rintro v H' ⟨e,he,rfl⟩
    exact ⟨⟨e,he,rfl⟩,rfl,rfl⟩
   rintro v H' ⟨hne,rfl⟩
   simp -implicitDefEqProofs only[go_sem,seval,↓reduceIte,encEV]
   refine AWR.ret ?_
   rintro a w ⟨Y,hY⟩
   obtain rfl:Y.w=w:=hY.hw
   refine leaves_fin (rs:=[.cell 6 34,.cell 7 30]) (pv:=none) rfl hY (by kernel_rfl) rfl (close_nil G g6 g7 [.int .u8 ((evX env.l x).need k).kind,.int .i64 ((evX env.l x).need k).nm,.bool ((evX env.l x).need k).tr] [.int .i64 0]) ?_ ?_
   ·intro o
    refine sets2_sub ?_ ?_ o
    ·simp -implicitDefEqProofs only[go_sem,seval,↓reduceIte]
     try rfl
    ·simp -implicitDefEqProofs only[go_sem,seval,↓reduceIte]
     try rfl
   rintro H'' ⟨q6,q7⟩
   simp -implicitDefEqProofs only[go_sem,seval,↓reduceIte]
   rw [q6,q7]
   simp -implicitDefEqProofs only[go_sem,seval,↓reduceIte]
   generalize (evX env.l x).need k=r at hne ⊢
   cases r with
   | err e=>exact absurd rfl (hne e)
   | num n=>exact ⟨_,rfl,rfl⟩
   | tru b=>exact ⟨_,rfl,rfl⟩
  ·rintro cv v Y H' hY hrel ⟨⟨e,he,rfl⟩,h6,h7⟩
   refine leaves_fin (rs:=[.cell 6 34,.cell 7 30]) (pv:=some (haltV e)) rfl hY (by kernel_rfl) ⟨cv,rfl,hrel⟩ (close_halt G hG g6 g7 (.int .i64 0) e) ?_ ?_
   ·exact fun o=>sets2_sub h6 h7 o
   ·rintro H'' ⟨q6,q7⟩
    simp -implicitDefEqProofs only[go_sem,seval,↓reduceIte]
    rw [q6,q7,he]
    simp -implicitDefEqProofs only[go_sem,seval,↓reduceIte]
    exact ⟨_,rfl,rfl⟩
end Go.Hs
end

section
namespace Go.Hs
open Go.Proofs
set_option maxRecDepth 10000
theorem add_pure (G:Nat→V) (hG:GOk G) (c1 c2:Col) (n1 n2:Bool) (a b:Nat) (h1:n1=true→dg a=[]) (h2:n2=true→dg b=[]) (hla:(dg a).length<1000000) (hlb:(dg b).length<1000000) :
  PureC Tryz.prog G 163 [encSl c1 1 (V.int .i64) (slD n1 (dg a)),encSl c2 1 (V.int .i64) (slD n2 (dg b))] (encSl .any 1 (V.int .i64) (slD (decide (dg a=[]∧dg b=[])) (dg (a+b)))):=⟨by kernel_rfl,by
 simp -implicitDefEqProofs only[go_sem,seval,↓reduceIte]
 refine (rAdd_spec G hG _ _ _ _ (dg a) (dg b) (slD_l h1) (slD_l h2) (dig_dg a) (dig_dg b) hla hlb).mono ?_
 rintro _ _ rfl
 rw [val_dg,val_dg]
 simp -implicitDefEqProofs only[go_sem,seval,↓reduceIte]⟩
theorem take_pure (G:Nat→V) (hG:GOk G) (c1 c2:Col) (n1 n2:Bool) (a b:Nat) (h1:n1=true→dg a=[]) (h2:n2=true→dg b=[]) (hla:(dg a).length<1000000) (hab:b≤a) :
  PureC Tryz.prog G 166 [encSl c1 1 (V.int .i64) (slD n1 (dg a)),encSl c2 1 (V.int .i64) (slD n2 (dg b))] (encSl .any 1 (V.int .i64) (slD (decide (dg a=[])) (dg (a-b)))):=⟨by kernel_rfl,by
 have hlen:(dg b).length≤(dg a).length:=by
  rcases Nat.lt_or_ge (dg a).length (dg b).length with h | h
  ·have:=dg_len_lt h;omega
  ·exact h
 simp -implicitDefEqProofs only[go_sem,seval,↓reduceIte]
 refine (rTake_spec G hG _ _ _ _ (dg a) (dg b) (slD_l h1) (slD_l h2) (dig_dg a) (dig_dg b) hla hlen (by rw [val_dg,val_dg];exact hab)).mono ?_
 rintro _ _ rfl
 rw [val_dg,val_dg]
 simp -implicitDefEqProofs only[go_sem,seval,↓reduceIte]⟩
theorem rPlus_spec (G:Nat→V) (hG:GOk G) (c1 c2:Col) (n1 n2 b1 b2:Bool) (a b:Nat) (h1:n1=true→dg a=[]) (h2:n2=true→dg b=[]) (hla:(dg a).length<1000000) (hlb:(dg b).length<1000000) :
  Spec Tryz.prog G 139 [encLong c1 n1 (dg a) b1,encLong c2 n2 (dg b) b2] hNone (fun v _=>∃ nl m below,v=encLong .any nl (dg m) below∧(nl=true→dg m=[])∧sgn below m=sgn b1 a+sgn b2 b∧m≤a+b):=by
 refine Spec.of_code' 0 39 [.cell 4 204] Tryz.func139 rfl rfl rfl rfl fun X=>?_
 simp only [encLong]
 refine AW.seq_k fun K hK=>AW.region (by kernel_rfl) ?_
 simp -implicitDefEqProofs only[go_sem,seval,↓reduceIte]
 intro g2 g3 g4
 refine hK _ ?_
 clear hK K
 refine AW.seq_k fun K1 hK1=>?_
 refine AW.seq_k fun K hK=>AW.region (by kernel_rfl) ?_
 simp -implicitDefEqProofs only[go_sem,seval,↓reduceIte]
 refine hK _ ?_
 clear hK K
 refine AW.condS (by simp -implicitDefEqProofs only[go_sem,seval,↓reduceIte];rfl) (fun h2'=>?_) (fun h2'=>?_)
 ·have hb:b1=b2:=by simpa using h2'
  have p1:=add_pure G hG c1 c2 n1 n2 a b h1 h2 hla hlb
  refine AW.seq_k fun K hK=>AW.regionT ⟨fun i=>if i=4 then encSl .any 1 (V.int .i64) (slD (decide (dg a=[]∧dg b=[])) (dg (a+b))) else .top,fun _ => .pure⟩ (by kernel_rfl) hG (by kernel_rfl) (by kernel_rfl) ?_
  simp -implicitDefEqProofs only[go_sem,seval,↓reduceIte]
  refine ⟨p1,?_⟩
  refine hK _ ?_
  clear hK K
  refine AW.ret ?_
  simp -implicitDefEqProofs only[go_sem,seval,↓reduceIte]
  refine endK_some ?_
  refine ⟨_,a+b,b1,rfl,?_,?_,Nat.le_refl _⟩
  ·intro h
   have h:=of_decide_eq_true h
   rw [dg_ne] at h ⊢
   rw [dg_ne] at h
   omega
  ·subst hb
   unfold sgn
   split<;>omega
 ·have hb:b1≠b2:=by simpa using h2'
  refine AW.skip ?_
  simp -implicitDefEqProofs only[go_sem,seval,↓reduceIte]
  refine hK1 _ ?_
  refine AW.seq_k fun K3 hK3=>?_
  refine AW.seq_k fun K hK=>AW.region (by kernel_rfl) ?_
  simp -implicitDefEqProofs only[go_sem,seval,↓reduceIte]
  refine CallA.pure hG (by kernel_rfl) ?_
  simp -implicitDefEqProofs only[go_sem,seval,↓reduceIte]
  refine (rLess_spec G hG _ _ _ _ a b (slD_l h1) (slD_l h2) hla hlb).mono ?_
  rintro _ _ rfl
  simp -implicitDefEqProofs only[go_sem,seval,↓reduceIte]
  refine hK _ ?_
  clear hK K
  refine AW.condS (by simp -implicitDefEqProofs only[go_sem,seval,↓reduceIte];rfl) (fun h4=>?_) (fun h4=>?_)
  ·have h4':=of_decide_eq_true h4
   have p1:=take_pure G hG c2 c1 n2 n1 b a h2 h1 hlb (by omega)
   refine AW.seq_k fun K hK=>AW.regionT ⟨fun i=>if i=4 then encSl .any 1 (V.int .i64) (slD (decide (dg b=[])) (dg (b-a))) else .top,fun _ => .pure⟩ (by kernel_rfl) hG (by kernel_rfl) (by kernel_rfl) ?_
   simp -implicitDefEqProofs only[go_sem,seval,↓reduceIte]
   refine ⟨p1,?_⟩
   refine hK _ ?_
   clear hK K
   refine AW.ret ?_
   simp -implicitDefEqProofs only[go_sem,seval,↓reduceIte]
   refine endK_some ?_
   refine ⟨_,b-a,b2,rfl,?_,?_,by omega⟩
   ·intro h
    have h:=of_decide_eq_true h
    rw [dg_ne] at h ⊢
    omega
   ·unfold sgn
    cases b1<;>cases b2<;>simp at hb ⊢ <;> omega
  ·have h4':=of_decide_eq_false h4
   have p1:=take_pure G hG c1 c2 n1 n2 a b h1 h2 hla (by omega)
   refine AW.skip ?_
   simp -implicitDefEqProofs only[go_sem,seval,↓reduceIte]
   refine hK3 _ ?_
   refine AW.seq_k fun K hK=>AW.regionT ⟨fun i=>if i=4 then encSl .any 1 (V.int .i64) (slD (decide (dg a=[])) (dg (a-b))) else .top,fun _ => .pure⟩ (by kernel_rfl) hG (by kernel_rfl) (by kernel_rfl) ?_
   simp -implicitDefEqProofs only[go_sem,seval,↓reduceIte]
   refine ⟨p1,?_⟩
   refine hK _ ?_
   clear hK K
   refine AW.ret ?_
   simp -implicitDefEqProofs only[go_sem,seval,↓reduceIte]
   refine endK_some ?_
   refine ⟨_,a-b,b1,rfl,?_,?_,by omega⟩
   ·intro h
    have h:=of_decide_eq_true h
    rw [dg_ne] at h ⊢
    omega
   ·unfold sgn
    cases b1<;>cases b2<;>simp at hb ⊢ <;> omega
theorem sgn_of {n:Int}:sgn (decide (n<0)) n.natAbs=n:=by
 unfold sgn
 split
 ·rename_i h;have:=of_decide_eq_true h;omega
 ·rename_i h;have:¬ n<0:=by simpa using h
  omega
theorem nil_of {n:Int} (h:decide (n=0)=true):dg n.natAbs=[]:=by
 have:=of_decide_eq_true h
 subst this;rfl
theorem len_of {n:Int} (hn:InK .i64 n):(dg n.natAbs).length<1000000:=by
 have:=(inK_iff n).1 hn
 have:=dg_len (n:=n.natAbs) (k:=20) (by omega)
 omega
theorem len_le {m:Nat} (h:m≤100000000000000000000000000000000000000000):(dg m).length<1000000:=by
 have:=dg_len (n:=m) (k:=42) (by omega)
 omega
theorem rAddN_spec (G:Nat→V) (hG:GOk G) (a b:Int) (ha:InK .i64 a) (hb:InK .i64 b):Spec Tryz.prog G 102 [.int .i64 a,.int .i64 b] hNone (fun v _=>v=encR (told (a+b))):=by
 have ha':=(inK_iff a).1 ha
 have hb':=(inK_iff b).1 hb
 refine Spec.of_code' 0 14 [.tmp 4,.tmp 5] Tryz.func102 rfl rfl rfl rfl fun X=>?_
 refine AW.seq_k fun K hK=>AW.region (by kernel_rfl) ?_
 simp -implicitDefEqProofs only[go_sem,seval,↓reduceIte]
 refine hK _ ?_
 clear hK K
 refine AW.seq_k fun K hK=>AW.region (by kernel_rfl) ?_
 simp -implicitDefEqProofs only[go_sem,seval,↓reduceIte]
 refine CallA.pure hG (by kernel_rfl) ?_
 simp -implicitDefEqProofs only[go_sem,seval,↓reduceIte]
 refine (rOf_spec G hG a ha).mono ?_
 rintro _ _ rfl
 simp -implicitDefEqProofs only[go_sem,seval,↓reduceIte,encLong]
 refine CallA.pure hG (by kernel_rfl) ?_
 simp -implicitDefEqProofs only[go_sem,seval,↓reduceIte]
 refine (rOf_spec G hG b hb).mono ?_
 rintro _ _ rfl
 simp -implicitDefEqProofs only[go_sem,seval,↓reduceIte,encLong]
 refine CallA.pure hG (by kernel_rfl) ?_
 simp -implicitDefEqProofs only[go_sem,seval,↓reduceIte]
 rw [← encLong,← encLong]
 refine (rPlus_spec G hG _ _ _ _ _ _ _ _ nil_of nil_of (len_of ha) (len_of hb)).mono ?_
 rintro _ _ ⟨nl,m,below,rfl,hnl,hm,hml⟩
 rw [sgn_of,sgn_of] at hm
 simp -implicitDefEqProofs only[go_sem,seval,↓reduceIte,encLong]
 refine CallA.pure hG (by kernel_rfl) ?_
 simp -implicitDefEqProofs only[go_sem,seval,↓reduceIte]
 rw [← encLong]
 refine (rTold_spec G hG _ _ _ _ hnl (dig_dg _) (len_le (by omega))).mono ?_
 rintro _ _ rfl
 rw [val_dg,hm]
 simp -implicitDefEqProofs only[go_sem,seval,↓reduceIte,encR]
 refine hK _ ?_
 clear hK K
 refine AW.ret ?_
 simp -implicitDefEqProofs only[go_sem,seval,↓reduceIte]
 refine endK_some ?_
 rfl
theorem rSubN_spec (G:Nat→V) (hG:GOk G) (a b:Int) (ha:InK .i64 a) (hb:InK .i64 b):Spec Tryz.prog G 103 [.int .i64 a,.int .i64 b] hNone (fun v _=>v=encR (told (a-b))):=by
 have ha':=(inK_iff a).1 ha
 have hb':=(inK_iff b).1 hb
 refine Spec.of_code' 0 15 [.tmp 4,.tmp 5] Tryz.func103 rfl rfl rfl rfl fun X=>?_
 refine AW.seq_k fun K hK=>AW.region (by kernel_rfl) ?_
 simp -implicitDefEqProofs only[go_sem,seval,↓reduceIte]
 refine hK _ ?_
 clear hK K
 refine AW.seq_k fun K hK=>AW.region (by kernel_rfl) ?_
 simp -implicitDefEqProofs only[go_sem,seval,↓reduceIte]
 refine CallA.pure hG (by kernel_rfl) ?_
 simp -implicitDefEqProofs only[go_sem,seval,↓reduceIte]
 refine (rOf_spec G hG a ha).mono ?_
 rintro _ _ rfl
 simp -implicitDefEqProofs only[go_sem,seval,↓reduceIte,encLong]
 refine CallA.pure hG (by kernel_rfl) ?_
 simp -implicitDefEqProofs only[go_sem,seval,↓reduceIte]
 refine (rOf_spec G hG b hb).mono ?_
 rintro _ _ rfl
 simp -implicitDefEqProofs only[go_sem,seval,↓reduceIte,encLong]
 refine CallA.pure hG (by kernel_rfl) ?_
 simp -implicitDefEqProofs only[go_sem,seval,↓reduceIte]
 rw [← encLong]
 refine (rMinus_spec G hG _ _ _ _).mono ?_
 rintro _ _ rfl
 simp -implicitDefEqProofs only[go_sem,seval,↓reduceIte,encLong]
 refine CallA.pure hG (by kernel_rfl) ?_
 simp -implicitDefEqProofs only[go_sem,seval,↓reduceIte]
 rw [← encLong,← encLong]
 refine (rPlus_spec G hG _ _ _ _ _ _ _ _ nil_of nil_of (len_of ha) (len_of hb)).mono ?_
 rintro _ _ ⟨nl,m,below,rfl,hnl,hm,hml⟩
 have hneg:sgn (!decide (b<0)) b.natAbs = -b:=by unfold sgn;by_cases h:b<0<;>simp [h]<;>omega
 rw [sgn_of,hneg] at hm
 simp -implicitDefEqProofs only[go_sem,seval,↓reduceIte,encLong]
 refine CallA.pure hG (by kernel_rfl) ?_
 simp -implicitDefEqProofs only[go_sem,seval,↓reduceIte]
 rw [← encLong]
 refine (rTold_spec G hG _ _ _ _ hnl (dig_dg _) (len_le (by omega))).mono ?_
 rintro _ _ rfl
 rw [val_dg,hm,show a + -b=a-b by omega]
 simp -implicitDefEqProofs only[go_sem,seval,↓reduceIte,encR]
 refine hK _ ?_
 clear hK K
 refine AW.ret ?_
 simp -implicitDefEqProofs only[go_sem,seval,↓reduceIte]
 refine endK_some ?_
 rfl
theorem rNegN_spec (G:Nat→V) (hG:GOk G) (a:Int) (ha:InK .i64 a):Spec Tryz.prog G 72 [.int .i64 a] hNone (fun v _=>v=encR (told (-a))):=by
 have ha':=(inK_iff a).1 ha
 refine Spec.of_code' 0 10 [.tmp 2,.tmp 3] Tryz.func72 rfl rfl rfl rfl fun X=>?_
 refine AW.seq_k fun K hK=>AW.region (by kernel_rfl) ?_
 simp -implicitDefEqProofs only[go_sem,seval,↓reduceIte]
 refine hK _ ?_
 clear hK K
 refine AW.seq_k fun K hK=>AW.region (by kernel_rfl) ?_
 simp -implicitDefEqProofs only[go_sem,seval,↓reduceIte]
 refine CallA.pure hG (by kernel_rfl) ?_
 simp -implicitDefEqProofs only[go_sem,seval,↓reduceIte]
 refine (rOf_spec G hG a ha).mono ?_
 rintro _ _ rfl
 simp -implicitDefEqProofs only[go_sem,seval,↓reduceIte,encLong]
 refine CallA.pure hG (by kernel_rfl) ?_
 simp -implicitDefEqProofs only[go_sem,seval,↓reduceIte]
 rw [← encLong]
 refine (rMinus_spec G hG _ _ _ _).mono ?_
 rintro _ _ rfl
 have hneg:sgn (!decide (a<0)) a.natAbs = -a:=by unfold sgn;by_cases h:a<0<;>simp [h]<;>omega
 simp -implicitDefEqProofs only[go_sem,seval,↓reduceIte,encLong]
 refine CallA.pure hG (by kernel_rfl) ?_
 simp -implicitDefEqProofs only[go_sem,seval,↓reduceIte]
 rw [← encLong]
 refine (rTold_spec G hG _ _ _ _ nil_of (dig_dg _) (len_of ha)).mono ?_
 rintro _ _ rfl
 rw [val_dg,hneg]
 simp -implicitDefEqProofs only[go_sem,seval,↓reduceIte,encR]
 refine hK _ ?_
 clear hK K
 refine AW.ret ?_
 simp -implicitDefEqProofs only[go_sem,seval,↓reduceIte]
 refine endK_some ?_
 rfl
end Go.Hs
end

section
namespace Go.Hs
open Go.Proofs
set_option maxRecDepth 10000
theorem repV_ints (k:Nat):repV k [V.int .i64 0]=(ints (List.replicate k 0)).map (V.int .i64):=by
 induction k with
 | zero=>rfl
 | succ k ih=>rw [repV,ih];rfl
theorem flat_ints (k:IntKind) (l:List Int):flat (l.map (V.int k))=l.map (V.int k):=by
 induction l with
 | nil=>rfl
 | cons x r ih =>
  rw [List.map_cons]
  show [V.int k x]++flat (r.map (V.int k))=_
  rw [ih];rfl
theorem row_cells (k:Nat) (la:List Nat):(repV k [V.int .i64 0]).take (k * 1)++flat ((ints la).map (V.int .i64))=flat ((ints (List.replicate k 0++la)).map (V.int .i64)):=by
 rw [repV_ints,flat_ints,flat_ints,ints_app,List.map_append,Nat.mul_one,List.take_of_length_le (by simp)]
theorem val_rep:∀ (k:Nat) (l:List Nat),val (List.replicate k 0++l)=10 ^ k * val l
 | 0,l=>by simp
 | k+1,l=>by
  rw [List.replicate_succ,List.cons_append,val,val_rep k l,Nat.pow_succ,Nat.zero_add,Nat.mul_comm (10 ^ k) 10,Nat.mul_assoc]
theorem dig_rep {k:Nat} {l:List Nat} (h:Dig l):Dig (List.replicate k 0++l):=Dig.app.2 ⟨fun d hd=>by have:=List.eq_of_mem_replicate hd;omega,h⟩
theorem val_take_succ {l:List Nat} {k:Nat} (h:k<l.length):val (l.take (k+1))=val (l.take k)+10 ^ k * l.getD k 0:=by
 rw [List.take_succ_eq_append_getElem h,val_app,List.length_take,Nat.min_eq_left (by omega),List.getD_eq_getElem?_getD,List.getElem?_eq_getElem h]
 simp [val]
theorem val_take_le (l:List Nat) (k:Nat):val (l.take k)≤val l:=by
 have:val l=val (l.take k)+10 ^ (l.take k).length * val (l.drop k):=by rw [← val_app,List.take_append_drop]
 omega
theorem rTimes_spec (G:Nat→V) (hG:GOk G) (c1 c2:Col) (n1 n2 b1 b2:Bool) (a b:Nat) (h1:n1=true→dg a=[]) (h2:n2=true→dg b=[]) (ha:a≤10000000000000000000) (hb:b≤10000000000000000000) :
  Spec Tryz.prog G 137 [encLong c1 n1 (dg a) b1,encLong c2 n2 (dg b) b2] hNone (fun v _=>∃ nl,v=encLong .any nl (dg (a * b)) (b1 != b2)∧(nl=true→dg (a * b)=[])):=by
 have hla:=dg_len (n:=a) (k:=20) (by omega)
 have hlb:=dg_len (n:=b) (k:=20) (by omega)
 have hab:a * b≤100000000000000000000000000000000000000:=Nat.mul_le_mul ha hb
 have s1:=slD_l h1
 have s2:=slD_l h2
 refine Spec.of_code' 0 41 [.cell 4 204] Tryz.func137 rfl rfl rfl rfl fun X=>?_
 simp only [encLong]
 refine AW.seq_k fun K hK=>AW.region (by kernel_rfl) ?_
 simp -implicitDefEqProofs only[go_sem,seval,↓reduceIte]
 intro g2 g3 g4
 refine hK _ ?_
 clear hK K
 refine AW.seq_k fun K hK=>AW.region (by kernel_rfl) ?_
 simp -implicitDefEqProofs only[go_sem,seval,↓reduceIte]
 refine hK _ ?_
 clear hK K
 refine AW.seq_k fun K1 hK1=>?_
 refine AW.seq_k fun K hK=>AW.region (by kernel_rfl) ?_
 simp -implicitDefEqProofs only[go_sem,seval,↓reduceIte]
 refine hK _ ?_
 clear hK K
 refine AW.block ?_
 refine AW.for (dg b).length (fun k (nl:Bool)=>st [(2,.ptr 2 g2 0),(3,.ptr 3 g3 0),(4,.ptr 4 g4 0),(5,encSl .any 1 (V.int .i64) (slD nl (dg (a * val ((dg b).take k))))),(6,.int .i64 k)] [(2,.cells .new g2 0 [encSl c1 1 (V.int .i64) (slD n1 (dg a)),.bool b1]),(3,.cells .new g3 0 [encSl c2 1 (V.int .i64) (slD n2 (dg b)),.bool b2]),(4,.cells .new g4 0 [.nils,.bool false])]) (fun k nl=>nl=true→dg (a * val ((dg b).take k))=[]) 0 true (Nat.zero_le _) (fun _=>by simp [val,dg_zero])
  (Weak.st (by simp -implicitDefEqProofs only[go_sem,seval,↓reduceIte];first | rfl | exact ⟨rfl,rfl⟩) (by simp -implicitDefEqProofs only[go_sem,seval,↓reduceIte])) ?_
 intro k nl hk hR L2 hL2
 refine AW.seq_k fun K3 hK3=>?_
 refine AW.seq_k fun K hK=>AW.region (by kernel_rfl) ?_
 simp -implicitDefEqProofs only[go_sem,seval,↓reduceIte,s2,ints_len]
 refine hK _ ?_
 clear hK K
 refine AW.condS (by simp -implicitDefEqProofs only[go_sem,seval,↓reduceIte];rfl) (fun h4=>?_) (fun h4=>?_)
 ·have hk1:k<(dg b).length:=by have:=of_decide_eq_true h4;omega
  have gk:=ints_get_some hk1
  have h5:=getD_lt (dig_dg b) k
  have hts:=val_take_succ hk1
  have htl:=val_take_le (dg b) (k+1)
  rw [val_dg] at htl
  generalize hd:(dg b).getD k 0=d at gk h5 hts
  obtain ⟨W,hW⟩:∃ W,W=a * val ((dg b).take k):=⟨_,rfl⟩
  rw [← hW] at hR ⊢
  have hWd:W+d * (10 ^ k * a)=a * val ((dg b).take (k+1)):=by rw [hts,hW,Nat.mul_add,Nat.mul_comm (10 ^ k) d,Nat.mul_left_comm a d,Nat.mul_comm a (10 ^ k)]
  have hWl:W+d * (10 ^ k * a)≤a * b:=by rw [hWd];exact Nat.mul_le_mul_left a htl
  refine AW.skip ?_
  simp -implicitDefEqProofs only[go_sem,seval,↓reduceIte]
  refine hK3 _ ?_
  refine AW.seq_k fun K5 hK5=>?_
  refine AW.block ?_
  refine AW.seq_k fun K hK=>AW.region (by kernel_rfl) ?_
  simp -implicitDefEqProofs only[go_sem,seval,↓reduceIte]
  refine hK _ ?_
  clear hK K
  refine AW.block ?_
  refine AW.for d (fun t (nl:Bool)=>st [(2,.ptr 2 g2 0),(3,.ptr 3 g3 0),(4,.ptr 4 g4 0),(5,encSl .any 1 (V.int .i64) (slD nl (dg (W+t * (10 ^ k * a))))),(6,.int .i64 k),(7,.int .i64 t)] [(2,.cells .new g2 0 [encSl c1 1 (V.int .i64) (slD n1 (dg a)),.bool b1]),(3,.cells .new g3 0 [encSl c2 1 (V.int .i64) (slD n2 (dg b)),.bool b2]),(4,.cells .new g4 0 [.nils,.bool false])]) (fun t nl=>nl=true→dg (W+t * (10 ^ k * a))=[]) 0 nl (Nat.zero_le _) (by rw [Nat.zero_mul,Nat.add_zero];exact hR)
   (Weak.st (by simp -implicitDefEqProofs only[go_sem,seval,↓reduceIte,Nat.zero_mul];try rfl) (by simp -implicitDefEqProofs only[go_sem,seval,↓reduceIte])) ?_
  intro t nl2 ht hR2 L6 hL6
  refine AW.seq_k fun K7 hK7=>?_
  refine AW.seq_k fun K hK=>AW.region (by kernel_rfl) ?_
  simp -implicitDefEqProofs only[go_sem,seval,↓reduceIte,s2,gk]
  refine hK _ ?_
  clear hK K
  refine AW.condS (by simp -implicitDefEqProofs only[go_sem,seval,↓reduceIte];rfl) (fun h8=>?_) (fun h8=>?_)
  ·have ht1:t<d:=by have:=of_decide_eq_true h8;omega
   refine AW.skip ?_
   simp -implicitDefEqProofs only[go_sem,seval,↓reduceIte]
   refine hK7 _ ?_
   refine AW.seq_k fun K9 hK9=>?_
   refine AW.block ?_
   refine AW.seq_k fun K hK=>AW.region (by kernel_rfl) ?_
   simp -implicitDefEqProofs only[go_sem,seval,↓reduceIte]
   refine ⟨⟨by omega,by omega,by omega⟩,fun g26=>?_⟩
   refine hK _ ?_
   clear hK K
   refine AW.region (by kernel_rfl) ?_
   simp -implicitDefEqProofs only[go_sem,seval,↓reduceIte,s1,ints_len]
   refine ⟨roomOk_of (by omega) (by omega),by rw [repV_ints];simp,by omega,fun g31=>?_⟩
   rw [row_cells]
   have hmono:t * (10 ^ k * a)≤d * (10 ^ k * a):=Nat.mul_le_mul_right _ (by omega)
   have hlen:(dg (W+t * (10 ^ k * a))).length<1000000:=len_le (by omega)
   have hrow:=dig_rep (k:=k) (dig_dg a)
   have hrl:(List.replicate k 0++dg a).length<1000000:=by simp;omega
   have hrv:=val_rep k (dg a)
   rw [val_dg] at hrv
   have hll:k+(dg a).length=(ints (List.replicate k 0++dg a)).length:=by simp
   rw [hll]
   generalize hrw:List.replicate k 0++dg a=row at hrow hrl hrv
   refine CallA.frzL (fun o=>o==26) [encSl .any 1 (V.int .i64) (slD nl2 (dg (W+t * (10 ^ k * a)))),encSl .new 1 (V.int .i64) (.mk false (ints row))] [(2,.cells .new g2 0 [encSl c1 1 (V.int .i64) (slD n1 (dg a)),.bool b1]),(3,.cells .new g3 0 [encSl c2 1 (V.int .i64) (slD n2 (dg b)),.bool b2]),(4,.cells .new g4 0 [.nils,.bool false])] ⟨Fz.same _,Fz.sl rfl rfl (fun _=>rfl),trivial⟩ ⟨FzO.keep rfl (by simp -implicitDefEqProofs only[go_sem,seval,↓reduceIte]),FzO.keep rfl (by simp -implicitDefEqProofs only[go_sem,seval,↓reduceIte]),FzO.keep rfl (by simp -implicitDefEqProofs only[go_sem,seval,↓reduceIte]),trivial⟩ ?_
   refine CallA.pure hG (by kernel_rfl) ?_
   simp -implicitDefEqProofs only[go_sem,seval,↓reduceIte]
   refine (rAdd_spec G hG _ _ _ _ (dg (W+t * (10 ^ k * a))) row (slD_l hR2) rfl (dig_dg _) hrow hlen hrl).mono ?_
   rintro _ _ rfl
   rw [val_dg,hrv]
   simp -implicitDefEqProofs only[go_sem,seval,↓reduceIte]
   refine hK9 _ ?_
   refine AW.region (by kernel_rfl) ?_
   simp -implicitDefEqProofs only[go_sem,seval,↓reduceIte]
   have hnx:W+t * (10 ^ k * a)+10 ^ k * a=W+(t+1) * (10 ^ k * a):=by rw [Nat.succ_mul];omega
   refine hL6 _ ⟨ht1,decide (dg (W+t * (10 ^ k * a))=[]∧row=[]),fun h=>?_,Weak.st (by simp -implicitDefEqProofs only[go_sem,seval,↓reduceIte,hnx];exact congrArg _ (w64 (by omega) (by omega))) (by simp -implicitDefEqProofs only[go_sem,seval,↓reduceIte])⟩
   have h:=of_decide_eq_true h
   have hr0:10 ^ k * a=0:=by rw [← hrv,h.2];rfl
   rw [← hnx,show W+t * (10 ^ k * a)+10 ^ k * a=W+t * (10 ^ k * a) by omega]
   exact h.1
  ·have ht1:t=d:=by have:=of_decide_eq_false h8;omega
   subst ht1
   refine AW.exit ?_
   simp -implicitDefEqProofs only[go_sem,seval,↓reduceIte]
   refine hK5 _ ?_
   refine AW.region (by kernel_rfl) ?_
   simp -implicitDefEqProofs only[go_sem,seval,↓reduceIte]
   rw [hWd] at hR2 ⊢
   refine hL2 _ ⟨hk1,nl2,hR2,Weak.st (by simp -implicitDefEqProofs only[go_sem,seval,↓reduceIte];exact congrArg _ (w64 (by omega) (by omega))) (by simp -implicitDefEqProofs only[go_sem,seval,↓reduceIte])⟩
 ·have hk1:k=(dg b).length:=by have:=of_decide_eq_false h4;omega
  rw [hk1,List.take_length,val_dg] at hR ⊢
  refine AW.exit ?_
  simp -implicitDefEqProofs only[go_sem,seval,↓reduceIte]
  refine hK1 _ ?_
  have p1:PureC Tryz.prog G 164 [encSl .any 1 (V.int .i64) (slD nl (dg (a * b)))] (encSl .any 1 (V.int .i64) (slD nl (dg (a * b)))):=⟨by kernel_rfl,by
   simp -implicitDefEqProofs only[go_sem,seval,↓reduceIte]
   refine (trim_spec G hG _ nl (dg (a * b)) hR (by have:=len_le (m:=a * b) (by omega);omega)).mono ?_
   rintro _ _ rfl
   rw [trim_val _ _ (Nat.le_refl _) (dig_dg _),val_dg]
   simp -implicitDefEqProofs only[go_sem,seval,↓reduceIte]⟩
  refine AW.seq_k fun K hK=>AW.regionT ⟨fun i=>if i=1 then encSl .any 1 (V.int .i64) (slD nl (dg (a * b))) else .top,fun _ => .pure⟩ (by kernel_rfl) hG (by kernel_rfl) (by kernel_rfl) ?_
  simp -implicitDefEqProofs only[go_sem,seval,↓reduceIte]
  refine ⟨p1,?_⟩
  refine hK _ ?_
  clear hK K
  refine AW.ret ?_
  simp -implicitDefEqProofs only[go_sem,seval,↓reduceIte]
  refine endK_some ?_
  exact ⟨nl,rfl,hR⟩
theorem rMulN_spec (G:Nat→V) (hG:GOk G) (a b:Int) (ha:InK .i64 a) (hb:InK .i64 b):Spec Tryz.prog G 99 [.int .i64 a,.int .i64 b] hNone (fun v _=>v=encR (told (a * b))):=by
 have ha':=(inK_iff a).1 ha
 have hb':=(inK_iff b).1 hb
 refine Spec.of_code' 0 14 [.tmp 4,.tmp 5] Tryz.func99 rfl rfl rfl rfl fun X=>?_
 refine AW.seq_k fun K hK=>AW.region (by kernel_rfl) ?_
 simp -implicitDefEqProofs only[go_sem,seval,↓reduceIte]
 refine hK _ ?_
 clear hK K
 refine AW.seq_k fun K hK=>AW.region (by kernel_rfl) ?_
 simp -implicitDefEqProofs only[go_sem,seval,↓reduceIte]
 refine CallA.pure hG (by kernel_rfl) ?_
 simp -implicitDefEqProofs only[go_sem,seval,↓reduceIte]
 refine (rOf_spec G hG a ha).mono ?_
 rintro _ _ rfl
 simp -implicitDefEqProofs only[go_sem,seval,↓reduceIte,encLong]
 refine CallA.pure hG (by kernel_rfl) ?_
 simp -implicitDefEqProofs only[go_sem,seval,↓reduceIte]
 refine (rOf_spec G hG b hb).mono ?_
 rintro _ _ rfl
 simp -implicitDefEqProofs only[go_sem,seval,↓reduceIte,encLong]
 refine CallA.pure hG (by kernel_rfl) ?_
 simp -implicitDefEqProofs only[go_sem,seval,↓reduceIte]
 rw [← encLong,← encLong]
 refine (rTimes_spec G hG _ _ _ _ _ _ a.natAbs b.natAbs nil_of nil_of (by omega) (by omega)).mono ?_
 rintro _ _ ⟨nl,rfl,hnl⟩
 have hm:sgn (decide (a<0) != decide (b<0)) (a.natAbs * b.natAbs)=a * b:=by
  rw [← Int.natAbs_mul]
  unfold sgn
  by_cases h4:a<0<;>by_cases h5:b<0<;>simp only [h4,h5,decide_true,decide_false,bne_self_eq_false,bool_bne_tf,bool_bne_ft,if_true,Bool.false_eq_true,if_false]
  ·have:=Int.mul_pos_of_neg_of_neg h4 h5;omega
  ·have:=Int.mul_nonpos_of_nonpos_of_nonneg (Int.le_of_lt h4) (Int.not_lt.1 h5);omega
  ·have:=Int.mul_nonpos_of_nonneg_of_nonpos (Int.not_lt.1 h4) (Int.le_of_lt h5);omega
  ·have:=Int.mul_nonneg (Int.not_lt.1 h4) (Int.not_lt.1 h5);omega
 have hlen:(dg (a.natAbs * b.natAbs)).length<1000000:=len_le (by have:a.natAbs * b.natAbs≤10000000000000000000 * 10000000000000000000:=Nat.mul_le_mul (by omega) (by omega);omega)
 simp -implicitDefEqProofs only[go_sem,seval,↓reduceIte,encLong]
 refine CallA.pure hG (by kernel_rfl) ?_
 simp -implicitDefEqProofs only[go_sem,seval,↓reduceIte]
 rw [← encLong]
 refine (rTold_spec G hG _ _ _ _ hnl (dig_dg _) hlen).mono ?_
 rintro _ _ rfl
 rw [val_dg,hm]
 simp -implicitDefEqProofs only[go_sem,seval,↓reduceIte,encR]
 refine hK _ ?_
 clear hK K
 refine AW.ret ?_
 simp -implicitDefEqProofs only[go_sem,seval,↓reduceIte]
 refine endK_some ?_
 rfl
end Go.Hs
end

section
namespace Go.Hs
open Go.Proofs
set_option maxRecDepth 10000
structure PartI (a b:Nat) (l:List Nat) (k:Nat) (q:List Nat) (rest:Nat):Prop where
 len:q.length=l.length
 dig:Dig q
 zero:∀ j,j<l.length-k→q.getD j 0=0
 v:val (q.drop (l.length-k)) * b+rest=val (l.drop (l.length-k))
 lt:rest<b
theorem PartI.init {a b:Nat} {l:List Nat} (hb:0<b):PartI a b l 0 (List.replicate l.length 0) 0:=by
 refine ⟨by simp,fun d hd=>by have:=List.eq_of_mem_replicate hd;omega,fun j hj=>by rw [List.getD_eq_getElem?_getD,List.getElem?_replicate];split<;>rfl,?_,hb⟩
 rw [List.drop_eq_nil_of_le (by simp),List.drop_eq_nil_of_le (by omega)]
 simp [val]
theorem PartI.step {a b:Nat} {l:List Nat} {k:Nat} {q:List Nat} {rest:Nat} (h:PartI a b l k q rest) (hk:k<l.length) {t r:Nat} (ht:r+t * b=l.getD (l.length-1-k) 0+10 * rest) (hr:r<b) (hd:Dig l) :
  PartI a b l (k+1) (q.set (l.length-1-k) t) r:=by
 have hi:l.length-(k+1)=l.length-1-k:=by omega
 have hi2:l.length-k=l.length-1-k+1:=by omega
 have h9:=getD_lt hd (l.length-1-k)
 have ht10:t<10:=by
  have h1:=h.lt
  rcases Nat.lt_or_ge t 10 with h2 | h2
  ·exact h2
  ·have:10 * b≤t * b:=Nat.mul_le_mul_right b h2
   omega
 refine ⟨by simp [h.len],?_,?_,?_,hr⟩
 ·intro d hd'
  rcases List.mem_or_eq_of_mem_set hd' with h1 | h1
  ·exact h.dig d h1
  ·omega
 ·intro j hj
  have:=h.zero j (by omega)
  rw [List.getD_eq_getElem?_getD,List.getElem?_set_ne (by omega),← List.getD_eq_getElem?_getD]
  exact this
 ·have hv:=h.v
  rw [hi2] at hv
  rw [hi,val_drop (q.set _ t),val_drop l (l.length-1-k)]
  have e1:(q.set (l.length-1-k) t).getD (l.length-1-k) 0=t:=by
   rw [List.getD_eq_getElem?_getD,List.getElem?_set_self (by rw [h.len];omega)]
   rfl
  have e2:(q.set (l.length-1-k) t).drop (l.length-1-k+1)=q.drop (l.length-1-k+1):=by
   rw [List.drop_set_of_lt (by omega)]
  rw [e1,e2,← hv,Nat.add_mul,Nat.mul_assoc]
  generalize val (q.drop (l.length-1-k+1)) * b=z at *
  omega
theorem PartI.done {a b:Nat} {q:List Nat} {rest:Nat} (h:PartI a b (dg a) (dg a).length q rest):val q=a / b∧rest=a % b:=by
 have hv:=h.v
 rw [Nat.sub_self,List.drop_zero,List.drop_zero,val_dg] at hv
 have hlt:=h.lt
 have hdm:(val q * b+rest) / b=val q:=by
  rw [Nat.add_comm,Nat.add_mul_div_right _ _ (by omega),Nat.div_eq_of_lt hlt,Nat.zero_add]
 have hmm:(val q * b+rest) % b=rest:=by
  rw [Nat.add_comm,Nat.add_mul_mod_self_right,Nat.mod_eq_of_lt hlt]
 rw [hv] at hdm hmm
 exact ⟨hdm.symm,hmm.symm⟩
theorem rParts_spec (G:Nat→V) (hG:GOk G) (c1 c2:Col) (n1 n2:Bool) (a b:Nat) (h1:n1=true→dg a=[]) (h2:n2=true→dg b=[]) (ha:a≤10000000000000000000) (hb:b≤10000000000000000000) (hb0:0<b) :
  Spec Tryz.prog G 138 [encSl c1 1 (V.int .i64) (slD n1 (dg a)),encSl c2 1 (V.int .i64) (slD n2 (dg b))] hNone (fun v _=>∃ nr,v = .tuple [encSl .any 1 (V.int .i64) (slD false (dg (a / b))),encSl .any 1 (V.int .i64) (slD nr (dg (a % b)))]∧(nr=true→dg (a % b)=[])):=by
 have hla:=dg_len (n:=a) (k:=20) (by omega)
 have hlb:=dg_len (n:=b) (k:=20) (by omega)
 have s1:=slD_l h1
 have s2:=slD_l h2
 refine Spec.of_code' 0 45 [.tmp 4,.tmp 5] Tryz.func138 rfl rfl rfl rfl fun X=>?_
 refine AW.seq_k fun K hK=>AW.region (by kernel_rfl) ?_
 simp -implicitDefEqProofs only[go_sem,seval,↓reduceIte]
 refine hK _ ?_
 clear hK K
 refine AW.seq_k fun K hK=>AW.region (by kernel_rfl) ?_
 simp -implicitDefEqProofs only[go_sem,seval,↓reduceIte,s1,ints_len]
 refine ⟨⟨by omega,by omega,by omega⟩,fun g12=>?_⟩
 refine hK _ ?_
 clear hK K
 rw [repV_ints]
 refine AW.seq_k fun K hK=>AW.region (by kernel_rfl) ?_
 simp -implicitDefEqProofs only[go_sem,seval,↓reduceIte]
 refine hK _ ?_
 clear hK K
 refine AW.seq_k fun K1 hK1=>?_
 refine AW.seq_k fun K hK=>AW.region (by kernel_rfl) ?_
 simp -implicitDefEqProofs only[go_sem,seval,↓reduceIte,s1,ints_len]
 refine hK _ ?_
 clear hK K
 refine AW.block ?_
 refine AW.for (dg a).length (fun k (x:(Nat × Bool) × List Nat × Nat)=>st [(0,encSl c1 1 (V.int .i64) (slD n1 (dg a))),(1,encSl c2 1 (V.int .i64) (slD n2 (dg b))),(6,.msl 12 x.1.1 0 (dg a).length 1),(7,encSl .any 1 (V.int .i64) (slD x.1.2 (dg x.2.2))),(8,.int .i64 (((dg a).length:Int)-1-k))] [(12,.cells .new x.1.1 0 ((ints x.2.1).map (V.int .i64)))])
  (fun k x=>PartI a b (dg a) k x.2.1 x.2.2∧(x.1.2=true→dg x.2.2=[])) 0 ((g12,true),List.replicate (dg a).length 0,0) (Nat.zero_le _) ⟨PartI.init hb0,fun _=>rfl⟩
  (Weak.st (by simp -implicitDefEqProofs only[go_sem,seval,↓reduceIte];exact ⟨rfl,congrArg _ (by rw [w64 (by omega) (by omega)];omega)⟩) (by simp -implicitDefEqProofs only[go_sem,seval,↓reduceIte])) ?_
 rintro k ⟨⟨gq,nr⟩,q,rest⟩ hk ⟨hI,hnr⟩ L2 hL2
 have hI:PartI a b (dg a) k q rest:=hI
 have hnr:nr=true→dg rest=[]:=hnr
 have hql:=hI.len
 have hrl:=hI.lt
 refine AW.seq_k fun K3 hK3=>?_
 refine AW.seq_k fun K hK=>AW.region (by kernel_rfl) ?_
 simp -implicitDefEqProofs only[go_sem,seval,↓reduceIte]
 refine hK _ ?_
 clear hK K
 refine AW.condS (by simp -implicitDefEqProofs only[go_sem,seval,↓reduceIte];rfl) (fun h4=>?_) (fun h4=>?_)
 ·have hk1:k<(dg a).length:=by have:=of_decide_eq_true h4;omega
  refine AW.skip ?_
  simp -implicitDefEqProofs only[go_sem,seval,↓reduceIte]
  refine hK3 _ ?_
  obtain ⟨i,hi⟩:∃ i,i=(dg a).length-1-k:=⟨_,rfl⟩
  have e0:(((dg a).length:Int)-1-k)=(i:Int):=by omega
  have gi:=ints_get_some (l:=dg a) (k:=i) (by omega)
  have h5:=getD_lt (dig_dg a) i
  have hstep:=fun t r=>hI.step hk1 (t:=t) (r:=r)
  rw [← hi] at hstep
  rw [e0]
  generalize hd:(dg a).getD i 0=d at gi h5 hstep
  refine AW.seq_k fun K5 hK5=>?_
  refine AW.block ?_
  refine AW.seq_k fun K hK=>AW.region (by kernel_rfl) ?_
  simp -implicitDefEqProofs only[go_sem,seval,↓reduceIte,s1,gi]
  intro g24
  refine hK _ ?_
  clear hK K
  have s3:=slD_l hnr
  have hrd:=dg_len (n:=rest) (k:=20) (by omega)
  refine AW.seq_k fun K hK=>AW.region (by kernel_rfl) ?_
  simp -implicitDefEqProofs only[go_sem,seval,↓reduceIte,s3,ints_len]
  refine ⟨roomOk_of (by omega) (by omega),fun g27=>?_⟩
  rw [show V.int .i64 (d:Int)::flat ((ints (dg rest)).map (V.int .i64))=flat ((ints (d::dg rest)).map (V.int .i64)) from rfl,show 1+(dg rest).length=(ints (d::dg rest)).length by simp;omega]
  refine CallA.frzL (fun o=>o==24) [encSl .new 1 (V.int .i64) (.mk false (ints (d::dg rest)))] [(12,.cells .new gq 0 ((ints q).map (V.int .i64)))] ⟨Fz.sl rfl rfl (fun _=>rfl),trivial⟩ ⟨FzO.keep rfl (by simp -implicitDefEqProofs only[go_sem,seval,↓reduceIte]),trivial⟩ ?_
  refine CallA.pure hG (by kernel_rfl) ?_
  simp -implicitDefEqProofs only[go_sem,seval,↓reduceIte]
  refine (trim_spec G hG _ false (d::dg rest) (by simp) (by simp;omega)).mono ?_
  rintro _ _ rfl
  rw [trim_val _ _ (Nat.le_refl _) (by intro x hx;rcases List.mem_cons.1 hx with rfl | hx;exact h5;exact dig_dg _ x hx),val,val_dg]
  simp -implicitDefEqProofs only[go_sem,seval,↓reduceIte]
  refine hK _ ?_
  clear hK K
  have hqi:i<q.length:=by omega
  have hq0:q.set i 0=q:=by
   have h0:=hI.zero i (by omega)
   rw [List.getD_eq_getElem?_getD,List.getElem?_eq_getElem hqi] at h0
   have h0:q[i]=0:=h0
   conv=>rhs;rw [← List.set_getElem_self hqi,h0]
  refine AW.block ?_
  refine AW.while (fun (x:(Nat × Bool) × Nat × Nat)=>st [(0,encSl c1 1 (V.int .i64) (slD n1 (dg a))),(1,encSl c2 1 (V.int .i64) (slD n2 (dg b))),(6,.msl 12 x.1.1 0 (dg a).length 1),(7,encSl .any 1 (V.int .i64) (slD x.1.2 (dg x.2.2))),(8,.int .i64 i)] [(12,.cells .new x.1.1 0 ((ints (q.set i x.2.1)).map (V.int .i64)))])
   (fun x=>x.2.2+x.2.1 * b=d+10 * rest∧(x.1.2=true→dg x.2.2=[])) (fun x=>x.2.2) ((gq,false),0,d+10 * rest) ⟨by show d+10 * rest+0 * b=_;omega,by simp⟩
   (Weak.st (by simp -implicitDefEqProofs only[go_sem,seval,↓reduceIte]) (by simp -implicitDefEqProofs only[go_sem,seval,↓reduceIte,hq0])) ?_
  rintro ⟨⟨gq2,nr2⟩,t,r⟩ ⟨ht,hnr2⟩ L6 hL6
  have ht:r+t * b=d+10 * rest:=ht
  have hnr2:nr2=true→dg r=[]:=hnr2
  have hrr:=dg_len (n:=r) (k:=21) (by omega)
  refine AW.seq_k fun K6 hK6=>?_
  refine AW.seq_k fun K hK=>AW.region (by kernel_rfl) ?_
  simp -implicitDefEqProofs only[go_sem,seval,↓reduceIte]
  refine CallA.pure hG (by kernel_rfl) ?_
  simp -implicitDefEqProofs only[go_sem,seval,↓reduceIte]
  refine (rLess_spec G hG _ _ _ _ r b (slD_l hnr2) s2 (by omega) (by omega)).mono ?_
  rintro _ _ rfl
  simp -implicitDefEqProofs only[go_sem,seval,↓reduceIte]
  refine hK _ ?_
  clear hK K
  refine AW.condS (by simp -implicitDefEqProofs only[go_sem,seval,↓reduceIte];rfl) (fun h7=>?_) (fun h7=>?_)
  ·have h7':b≤r:=by simpa using h7
   refine AW.skip ?_
   simp -implicitDefEqProofs only[go_sem,seval,↓reduceIte]
   refine hK6 _ ?_
   refine AW.block ?_
   refine AW.seq_k fun K hK=>AW.region (by kernel_rfl) ?_
   simp -implicitDefEqProofs only[go_sem,seval,↓reduceIte]
   refine CallA.pure hG (by kernel_rfl) ((take_pure G hG _ _ _ _ r b hnr2 h2 (by omega) h7').2.mono ?_)
   rintro v _ hv
   rw [hv]
   simp -implicitDefEqProofs only[go_sem,seval,↓reduceIte]
   refine hK _ ?_
   clear hK K
   have gc:((ints (q.set i t)).map (V.int .i64))[i]? = some (V.int .i64 (t:Int)):=by
    rw [List.getElem?_map,ints_get,List.getElem?_set_self hqi]
    rfl
   have hil:(i:Int)<((dg a).length:Int):=by omega
   have hcl:i+1≤((ints (q.set i t)).map (V.int .i64)).length:=by simp;omega
   have ht9:t<10:=by
    rcases Nat.lt_or_ge t 10 with h | h
    ·exact h
    ·have:10 * b≤t * b:=Nat.mul_le_mul_right b h
     omega
   have hw:IntKind.i64.wrap ((t:Int)+1)=((t+1:Nat):Int):=by rw [w64 (by omega) (by omega)];omega
   have hset:((ints (q.set i t)).map (V.int .i64)).set i (V.int .i64 ((t+1:Nat):Int))=(ints (q.set i (t+1))).map (V.int .i64):=by
    rw [ints,ints,List.map_map,List.map_map,List.map_set,List.map_set,List.set_set]
    rfl
   refine AW.region (by kernel_rfl) ?_
   simp -implicitDefEqProofs only[go_sem,seval,↓reduceIte,gc,hil,Nat.mul_one,hcl,hw,hset]
   refine hL6 _ ⟨((gq2,decide (dg r=[])),t+1,r-b),by show r-b<r;omega,⟨?_,?_⟩,Weak.st (by simp -implicitDefEqProofs only[go_sem,seval,↓reduceIte]) (by simp -implicitDefEqProofs only[go_sem,seval,↓reduceIte])⟩
   ·show r-b+(t+1) * b=d+10 * rest
    rw [Nat.succ_mul];omega
   ·intro h
    have h:=of_decide_eq_true h
    rw [dg_ne] at h
    omega
  ·have h7':r<b:=by simpa using h7
   refine AW.exit ?_
   simp -implicitDefEqProofs only[go_sem,seval,↓reduceIte]
   refine hK5 _ ?_
   refine AW.region (by kernel_rfl) ?_
   simp -implicitDefEqProofs only[go_sem,seval,↓reduceIte]
   refine hL2 _ ⟨hk1,((gq2,nr2),q.set i t,r),⟨hstep t r ht h7' (dig_dg a),hnr2⟩,Weak.st (by simp -implicitDefEqProofs only[go_sem,seval,↓reduceIte];exact congrArg _ (by rw [w64 (by omega) (by omega)];omega)) (by simp -implicitDefEqProofs only[go_sem,seval,↓reduceIte])⟩
 ·have hk1:k=(dg a).length:=by have:=of_decide_eq_false h4;omega
  subst hk1
  obtain ⟨hq1,hr1⟩:=hI.done
  have hqd:=hI.dig
  subst hr1
  refine AW.exit ?_
  simp -implicitDefEqProofs only[go_sem,seval,↓reduceIte]
  refine hK1 _ ?_
  refine AW.seq_k fun K hK=>AW.region (by kernel_rfl) ?_
  simp -implicitDefEqProofs only[go_sem,seval,↓reduceIte]
  rw [show (dg a).length=(ints q).length by simp [hql]]
  refine CallA.frzL (fun o=>o==12) [encSl .new 1 (V.int .i64) (.mk false (ints q))] [] ⟨Fz.sl (fz:=0) (c := .new) (f:=V.int .i64) rfl (by simp -implicitDefEqProofs only[go_sem,seval,↓reduceIte,flat_ints]) (fun _=>rfl),trivial⟩ trivial ?_
  refine CallA.pure hG (by kernel_rfl) ?_
  simp -implicitDefEqProofs only[go_sem,seval,↓reduceIte]
  refine (trim_spec G hG _ false q (by simp) (by omega)).mono ?_
  rintro _ _ rfl
  rw [trim_val _ _ (Nat.le_refl _) hqd,hq1]
  simp -implicitDefEqProofs only[go_sem,seval,↓reduceIte]
  refine hK _ ?_
  clear hK K
  refine AW.ret ?_
  simp -implicitDefEqProofs only[go_sem,seval,↓reduceIte]
  refine endK_some ?_
  exact ⟨nr,rfl,hnr⟩
end Go.Hs
end

section
namespace Go.Hs
open Go.Proofs
set_option maxRecDepth 10000
theorem rDivN_spec (G:Nat→V) (hG:GOk G) (a b:Int) (ha:InK .i64 a) (hb:InK .i64 b):Spec Tryz.prog G 100 [.int .i64 a,.int .i64 b] hNone (fun v _=>v=encR (divR a b)):=by
 have ha':=(inK_iff a).1 ha
 have hb':=(inK_iff b).1 hb
 refine Spec.of_code' 0 30 [.tmp 4,.tmp 5] Tryz.func100 rfl rfl rfl rfl fun X=>?_
 refine AW.seq_k fun K hK=>AW.region (by kernel_rfl) ?_
 simp -implicitDefEqProofs only[go_sem,seval,↓reduceIte]
 refine hK _ ?_
 clear hK K
 refine AW.seq_k fun K1 hK1=>?_
 refine AW.seq_k fun K hK=>AW.region (by kernel_rfl) ?_
 simp -implicitDefEqProofs only[go_sem,seval,↓reduceIte]
 refine hK _ ?_
 clear hK K
 refine AW.condS (by simp -implicitDefEqProofs only[go_sem,seval,↓reduceIte];rfl) (fun h2=>?_) (fun h2=>?_)
 ·have h3:b=0:=by simpa using h2
  refine AW.seq_k fun K hK=>AW.region (by kernel_rfl) ?_
  simp -implicitDefEqProofs only[go_sem,seval,↓reduceIte]
  refine hK _ ?_
  clear hK K
  refine AW.ret ?_
  simp -implicitDefEqProofs only[go_sem,seval,↓reduceIte]
  refine endK_some ?_
  rw [divR,if_pos h3]
  rfl
 ·have h3:¬ b=0:=by simpa using h2
  refine AW.skip ?_
  simp -implicitDefEqProofs only[go_sem,seval,↓reduceIte]
  refine hK1 _ ?_
  refine AW.seq_k fun K hK=>AW.region (by kernel_rfl) ?_
  simp -implicitDefEqProofs only[go_sem,seval,↓reduceIte]
  refine CallA.pure hG (by kernel_rfl) ?_
  simp -implicitDefEqProofs only[go_sem,seval,↓reduceIte]
  refine (rOf_spec G hG a ha).mono ?_
  rintro _ _ rfl
  simp -implicitDefEqProofs only[go_sem,seval,↓reduceIte,encLong]
  refine CallA.pure hG (by kernel_rfl) ?_
  simp -implicitDefEqProofs only[go_sem,seval,↓reduceIte]
  refine (rOf_spec G hG b hb).mono ?_
  rintro _ _ rfl
  simp -implicitDefEqProofs only[go_sem,seval,↓reduceIte,encLong]
  refine CallA.pure hG (by kernel_rfl) ?_
  simp -implicitDefEqProofs only[go_sem,seval,↓reduceIte]
  refine (rParts_spec G hG _ _ _ _ a.natAbs b.natAbs nil_of nil_of (by omega) (by omega) (by omega)).mono ?_
  rintro _ _ ⟨nr,rfl,hnr⟩
  simp -implicitDefEqProofs only[go_sem,seval,↓reduceIte]
  refine hK _ ?_
  clear hK K
  refine AW.seq_k fun K hK=>AW.region (by kernel_rfl) ?_
  simp -implicitDefEqProofs only[go_sem,seval,↓reduceIte]
  have hq:a.natAbs / b.natAbs≤a.natAbs:=Nat.div_le_self _ _
  refine CallA.pure hG (by kernel_rfl) ?_
  simp -implicitDefEqProofs only[go_sem,seval,↓reduceIte]
  rw [← encLong]
  refine (rTold_spec G hG _ _ _ _ (show false=true→dg (a.natAbs / b.natAbs)=[] from fun h=>by cases h) (dig_dg _) (len_le (m:=a.natAbs / b.natAbs) (by omega))).mono ?_
  rintro _ _ rfl
  have hm:sgn (decide (a<0) != decide (b<0)) (a.natAbs / b.natAbs)=a.tdiv b:=by rw [tdiv_abs];rfl
  rw [val_dg,hm]
  simp -implicitDefEqProofs only[go_sem,seval,↓reduceIte,encR]
  refine hK _ ?_
  clear hK K
  refine AW.ret ?_
  simp -implicitDefEqProofs only[go_sem,seval,↓reduceIte]
  refine endK_some ?_
  rw [divR,if_neg h3]
  rfl
theorem rModN_spec (G:Nat→V) (hG:GOk G) (a b:Int) (ha:InK .i64 a) (hb:InK .i64 b):Spec Tryz.prog G 101 [.int .i64 a,.int .i64 b] hNone (fun v _=>v=encR (modR a b)):=by
 have ha':=(inK_iff a).1 ha
 have hb':=(inK_iff b).1 hb
 refine Spec.of_code' 0 27 [.tmp 4,.tmp 5] Tryz.func101 rfl rfl rfl rfl fun X=>?_
 refine AW.seq_k fun K hK=>AW.region (by kernel_rfl) ?_
 simp -implicitDefEqProofs only[go_sem,seval,↓reduceIte]
 refine hK _ ?_
 clear hK K
 refine AW.seq_k fun K1 hK1=>?_
 refine AW.seq_k fun K hK=>AW.region (by kernel_rfl) ?_
 simp -implicitDefEqProofs only[go_sem,seval,↓reduceIte]
 refine hK _ ?_
 clear hK K
 refine AW.condS (by simp -implicitDefEqProofs only[go_sem,seval,↓reduceIte];rfl) (fun h2=>?_) (fun h2=>?_)
 ·have h3:b=0:=by simpa using h2
  refine AW.seq_k fun K hK=>AW.region (by kernel_rfl) ?_
  simp -implicitDefEqProofs only[go_sem,seval,↓reduceIte]
  refine hK _ ?_
  clear hK K
  refine AW.ret ?_
  simp -implicitDefEqProofs only[go_sem,seval,↓reduceIte]
  refine endK_some ?_
  rw [modR,if_pos h3]
  rfl
 ·have h3:¬ b=0:=by simpa using h2
  refine AW.skip ?_
  simp -implicitDefEqProofs only[go_sem,seval,↓reduceIte]
  refine hK1 _ ?_
  refine AW.seq_k fun K hK=>AW.region (by kernel_rfl) ?_
  simp -implicitDefEqProofs only[go_sem,seval,↓reduceIte]
  refine CallA.pure hG (by kernel_rfl) ?_
  simp -implicitDefEqProofs only[go_sem,seval,↓reduceIte]
  refine (rOf_spec G hG a ha).mono ?_
  rintro _ _ rfl
  simp -implicitDefEqProofs only[go_sem,seval,↓reduceIte,encLong]
  refine CallA.pure hG (by kernel_rfl) ?_
  simp -implicitDefEqProofs only[go_sem,seval,↓reduceIte]
  refine (rOf_spec G hG b hb).mono ?_
  rintro _ _ rfl
  simp -implicitDefEqProofs only[go_sem,seval,↓reduceIte,encLong]
  refine CallA.pure hG (by kernel_rfl) ?_
  simp -implicitDefEqProofs only[go_sem,seval,↓reduceIte]
  refine (rParts_spec G hG _ _ _ _ a.natAbs b.natAbs nil_of nil_of (by omega) (by omega) (by omega)).mono ?_
  rintro _ _ ⟨nr,rfl,hnr⟩
  simp -implicitDefEqProofs only[go_sem,seval,↓reduceIte]
  refine hK _ ?_
  clear hK K
  refine AW.seq_k fun K hK=>AW.region (by kernel_rfl) ?_
  simp -implicitDefEqProofs only[go_sem,seval,↓reduceIte]
  have hq:a.natAbs % b.natAbs≤a.natAbs:=Nat.mod_le _ _
  refine CallA.pure hG (by kernel_rfl) ?_
  simp -implicitDefEqProofs only[go_sem,seval,↓reduceIte]
  rw [← encLong]
  refine (rTold_spec G hG _ _ _ _ hnr (dig_dg _) (len_le (m:=a.natAbs % b.natAbs) (by omega))).mono ?_
  rintro _ _ rfl
  have hm:sgn (decide (a<0)) (a.natAbs % b.natAbs)=a.tmod b:=by rw [tmod_abs];rfl
  rw [val_dg,hm]
  simp -implicitDefEqProofs only[go_sem,seval,↓reduceIte,encR]
  refine hK _ ?_
  clear hK K
  refine AW.ret ?_
  simp -implicitDefEqProofs only[go_sem,seval,↓reduceIte]
  refine endK_some ?_
  rw [modR,if_neg h3]
  rfl
end Go.Hs
end

section
namespace Go.Hs
open Go.Proofs
set_option maxRecDepth 10000
set_option maxHeartbeats 1000000
def encNE (r:EV):V := .tuple [.int .i64 r.nm,.int .i64 r.er]
def encTE (r:EV):V := .tuple [.bool r.tr,.int .i64 r.er]
theorem counted_spec (G:Nat→V) (n e:Int):Spec Tryz.prog G 70 [.int .i64 n,.int .i64 e] hNone (fun v _=>v=encVE (.ofR (n,e))):=by
 refine Spec.of_code' 0 12 [.cell 4 43,.tmp 5] Tryz.func70 rfl rfl rfl rfl fun X=>?_
 by_cases h:e=0
 ·subst h
  refine AW.seq_k fun K hK=>AW.region (by kernel_rfl) ?_
  simp -implicitDefEqProofs only[go_sem,seval,↓reduceIte]
  intro g4
  refine hK _ ?_
  clear hK K
  repeat first
   | (refine AW.qr (by kernel_rfl) ?_;simp -implicitDefEqProofs only[go_sem,seval,↓reduceIte])
   | (refine AW.region (by kernel_rfl) ?_;simp -implicitDefEqProofs only[go_sem,seval,↓reduceIte])
   | refine AW.qq ?_
   | refine AW.block ?_
   | refine AW.qT rfl ?_
   | refine AW.qF rfl ?_
   | (refine AW.skip ?_;simp -implicitDefEqProofs only[go_sem,seval,↓reduceIte])
   | (refine AW.exit ?_;simp -implicitDefEqProofs only[go_sem,seval,↓reduceIte])
   | (refine AW.ret ?_;simp -implicitDefEqProofs only[go_sem,seval,↓reduceIte];refine endK_some ?_)
  rfl
 ·have h1:(e != 0)=true:=by simpa using h
  have h2:EV.ofR (n,e) = .err e:=if_neg h
  refine AW.seq_k fun K hK=>AW.region (by kernel_rfl) ?_
  simp -implicitDefEqProofs only[go_sem,seval,↓reduceIte]
  intro g4
  refine hK _ ?_
  clear hK K
  repeat first
   | (refine AW.qr (by kernel_rfl) ?_;simp -implicitDefEqProofs only[go_sem,seval,↓reduceIte,h1])
   | (refine AW.region (by kernel_rfl) ?_;simp -implicitDefEqProofs only[go_sem,seval,↓reduceIte,h1])
   | refine AW.qq ?_
   | refine AW.block ?_
   | refine AW.qT rfl ?_
   | refine AW.qF rfl ?_
   | (refine AW.skip ?_;simp -implicitDefEqProofs only[go_sem,seval,↓reduceIte,h1])
   | (refine AW.exit ?_;simp -implicitDefEqProofs only[go_sem,seval,↓reduceIte,h1])
   | (refine AW.ret ?_;simp -implicitDefEqProofs only[go_sem,seval,↓reduceIte,h1];refine endK_some ?_)
  rw [h2]
  rfl
theorem tolds_spec (G:Nat→V) (b:Bool) (e:Int):Spec Tryz.prog G 71 [.bool b,.int .i64 e] hNone (fun v _=>v=encVE (if e=0 then .tru b else .err e)):=by
 refine Spec.of_code' 0 12 [.cell 4 43,.tmp 5] Tryz.func71 rfl rfl rfl rfl fun X=>?_
 by_cases h:e=0
 ·subst h
  refine AW.seq_k fun K hK=>AW.region (by kernel_rfl) ?_
  simp -implicitDefEqProofs only[go_sem,seval,↓reduceIte]
  intro g4
  refine hK _ ?_
  clear hK K
  repeat first
   | (refine AW.qr (by kernel_rfl) ?_;simp -implicitDefEqProofs only[go_sem,seval,↓reduceIte])
   | (refine AW.region (by kernel_rfl) ?_;simp -implicitDefEqProofs only[go_sem,seval,↓reduceIte])
   | refine AW.qq ?_
   | refine AW.block ?_
   | refine AW.qT rfl ?_
   | refine AW.qF rfl ?_
   | (refine AW.skip ?_;simp -implicitDefEqProofs only[go_sem,seval,↓reduceIte])
   | (refine AW.exit ?_;simp -implicitDefEqProofs only[go_sem,seval,↓reduceIte])
   | (refine AW.ret ?_;simp -implicitDefEqProofs only[go_sem,seval,↓reduceIte];refine endK_some ?_)
  rfl
 ·have h1:(e != 0)=true:=by simpa using h
  rw [if_neg h]
  refine AW.seq_k fun K hK=>AW.region (by kernel_rfl) ?_
  simp -implicitDefEqProofs only[go_sem,seval,↓reduceIte]
  intro g4
  refine hK _ ?_
  clear hK K
  repeat first
   | (refine AW.qr (by kernel_rfl) ?_;simp -implicitDefEqProofs only[go_sem,seval,↓reduceIte,h1])
   | (refine AW.region (by kernel_rfl) ?_;simp -implicitDefEqProofs only[go_sem,seval,↓reduceIte,h1])
   | refine AW.qq ?_
   | refine AW.block ?_
   | refine AW.qT rfl ?_
   | refine AW.qF rfl ?_
   | (refine AW.skip ?_;simp -implicitDefEqProofs only[go_sem,seval,↓reduceIte,h1])
   | (refine AW.exit ?_;simp -implicitDefEqProofs only[go_sem,seval,↓reduceIte,h1])
   | (refine AW.ret ?_;simp -implicitDefEqProofs only[go_sem,seval,↓reduceIte,h1];refine endK_some ?_)
  rfl
def lk10 (c1 c2:Col) (sl:Sl XN) (env:Sl (List UInt8 × Int)):V := .agg [encSl c1 6 encXN sl,encSl c2 2 encBi env]
def RC (G:Nat→V) (sl:Sl XN) (env:Sl (List UInt8 × Int)) (a:Int) (x:EV):Prop:=∀ c1 c2,Spec Tryz.prog G 46 [lk10 c1 c2 sl env,.int .i64 a] hNone (fun v _=>v=encVE x)
theorem fine_err {x:EV} (h:x.fine) {e:Int} (hx:x = .err e):e≠0:=by
 subst hx
 rcases h with h | h | h<;>omega
theorem number10 (G:Nat→V) (hG:GOk G) (c1 c2:Col) (sl:Sl XN) (env:Sl (List UInt8 × Int)) (a:Int) (x:EV) (h:RC G sl env a x) (hf:x.fine):Spec Tryz.prog G 47 [lk10 c1 c2 sl env,.int .i64 a] hNone (fun v _=>v=encNE (x.need 1)):=by
 refine Spec.of_code' 0 24 [.tmp 4,.tmp 5] Tryz.func47 rfl rfl rfl rfl fun X=>?_
 refine AW.seq_k fun K hK=>AW.region (by kernel_rfl) ?_
 simp -implicitDefEqProofs only[go_sem,seval,↓reduceIte,lk10]
 intro g2
 refine hK _ ?_
 clear hK K
 refine AW.seq_k fun K hK=>AW.region (by kernel_rfl) ?_
 simp -implicitDefEqProofs only[go_sem,seval,↓reduceIte,lk10]
 refine CallA.pure hG (by kernel_rfl) ?_
 simp -implicitDefEqProofs only[go_sem,seval,↓reduceIte,recol_xns,lk10]
 refine (h c1.ent c2.ent).mono ?_
 rintro _ _ rfl
 simp -implicitDefEqProofs only[go_sem,seval,↓reduceIte,encVE,encEV]
 intro g6
 refine hK _ ?_
 clear hK K
 cases x with
 | err e =>
  have he:(e==0)=false:=by simpa using fine_err hf rfl
  repeat first
   | (refine AW.qr (by kernel_rfl) ?_;simp -implicitDefEqProofs only[go_sem,seval,↓reduceIte,he,EV.er,EV.nm,EV.kind])
   | (refine AW.region (by kernel_rfl) ?_;simp -implicitDefEqProofs only[go_sem,seval,↓reduceIte,he,EV.er,EV.nm,EV.kind])
   | refine AW.qq ?_
   | refine AW.block ?_
   | refine AW.qT rfl ?_
   | refine AW.qF rfl ?_
   | (refine AW.skip ?_;simp -implicitDefEqProofs only[go_sem,seval,↓reduceIte,he,EV.er,EV.nm,EV.kind])
   | (refine AW.exit ?_;simp -implicitDefEqProofs only[go_sem,seval,↓reduceIte,he,EV.er,EV.nm,EV.kind])
   | (refine AW.ret ?_;simp -implicitDefEqProofs only[go_sem,seval,↓reduceIte,he,EV.er,EV.nm,EV.kind];refine endK_some ?_)
  rfl
 | num n =>
  repeat first
   | (refine AW.qr (by kernel_rfl) ?_;simp -implicitDefEqProofs only[go_sem,seval,↓reduceIte,EV.er,EV.nm,EV.kind])
   | (refine AW.region (by kernel_rfl) ?_;simp -implicitDefEqProofs only[go_sem,seval,↓reduceIte,EV.er,EV.nm,EV.kind])
   | refine AW.qq ?_
   | refine AW.block ?_
   | refine AW.qT rfl ?_
   | refine AW.qF rfl ?_
   | (refine AW.skip ?_;simp -implicitDefEqProofs only[go_sem,seval,↓reduceIte,EV.er,EV.nm,EV.kind])
   | (refine AW.exit ?_;simp -implicitDefEqProofs only[go_sem,seval,↓reduceIte,EV.er,EV.nm,EV.kind])
   | (refine AW.ret ?_;simp -implicitDefEqProofs only[go_sem,seval,↓reduceIte,EV.er,EV.nm,EV.kind];refine endK_some ?_)
  rfl
 | tru b =>
  repeat first
   | (refine AW.qr (by kernel_rfl) ?_;simp -implicitDefEqProofs only[go_sem,seval,↓reduceIte,EV.er,EV.nm,EV.kind])
   | (refine AW.region (by kernel_rfl) ?_;simp -implicitDefEqProofs only[go_sem,seval,↓reduceIte,EV.er,EV.nm,EV.kind])
   | refine AW.qq ?_
   | refine AW.block ?_
   | refine AW.qT rfl ?_
   | refine AW.qF rfl ?_
   | (refine AW.skip ?_;simp -implicitDefEqProofs only[go_sem,seval,↓reduceIte,EV.er,EV.nm,EV.kind])
   | (refine AW.exit ?_;simp -implicitDefEqProofs only[go_sem,seval,↓reduceIte,EV.er,EV.nm,EV.kind])
   | (refine AW.ret ?_;simp -implicitDefEqProofs only[go_sem,seval,↓reduceIte,EV.er,EV.nm,EV.kind];refine endK_some ?_)
  rfl
theorem truth10 (G:Nat→V) (hG:GOk G) (c1 c2:Col) (sl:Sl XN) (env:Sl (List UInt8 × Int)) (a:Int) (x:EV) (h:RC G sl env a x) (hf:x.fine):Spec Tryz.prog G 48 [lk10 c1 c2 sl env,.int .i64 a] hNone (fun v _=>v=encTE (x.need 2)):=by
 refine Spec.of_code' 0 24 [.tmp 4,.tmp 5] Tryz.func48 rfl rfl rfl rfl fun X=>?_
 refine AW.seq_k fun K hK=>AW.region (by kernel_rfl) ?_
 simp -implicitDefEqProofs only[go_sem,seval,↓reduceIte,lk10]
 intro g2
 refine hK _ ?_
 clear hK K
 refine AW.seq_k fun K hK=>AW.region (by kernel_rfl) ?_
 simp -implicitDefEqProofs only[go_sem,seval,↓reduceIte,lk10]
 refine CallA.pure hG (by kernel_rfl) ?_
 simp -implicitDefEqProofs only[go_sem,seval,↓reduceIte,recol_xns,lk10]
 refine (h c1.ent c2.ent).mono ?_
 rintro _ _ rfl
 simp -implicitDefEqProofs only[go_sem,seval,↓reduceIte,encVE,encEV]
 intro g6
 refine hK _ ?_
 clear hK K
 cases x with
 | err e =>
  have he:(e==0)=false:=by simpa using fine_err hf rfl
  repeat first
   | (refine AW.qr (by kernel_rfl) ?_;simp -implicitDefEqProofs only[go_sem,seval,↓reduceIte,he,EV.er,EV.nm,EV.kind])
   | (refine AW.region (by kernel_rfl) ?_;simp -implicitDefEqProofs only[go_sem,seval,↓reduceIte,he,EV.er,EV.nm,EV.kind])
   | refine AW.qq ?_
   | refine AW.block ?_
   | refine AW.qT rfl ?_
   | refine AW.qF rfl ?_
   | (refine AW.skip ?_;simp -implicitDefEqProofs only[go_sem,seval,↓reduceIte,he,EV.er,EV.nm,EV.kind])
   | (refine AW.exit ?_;simp -implicitDefEqProofs only[go_sem,seval,↓reduceIte,he,EV.er,EV.nm,EV.kind])
   | (refine AW.ret ?_;simp -implicitDefEqProofs only[go_sem,seval,↓reduceIte,he,EV.er,EV.nm,EV.kind];refine endK_some ?_)
  rfl
 | num n =>
  repeat first
   | (refine AW.qr (by kernel_rfl) ?_;simp -implicitDefEqProofs only[go_sem,seval,↓reduceIte,EV.er,EV.nm,EV.kind])
   | (refine AW.region (by kernel_rfl) ?_;simp -implicitDefEqProofs only[go_sem,seval,↓reduceIte,EV.er,EV.nm,EV.kind])
   | refine AW.qq ?_
   | refine AW.block ?_
   | refine AW.qT rfl ?_
   | refine AW.qF rfl ?_
   | (refine AW.skip ?_;simp -implicitDefEqProofs only[go_sem,seval,↓reduceIte,EV.er,EV.nm,EV.kind])
   | (refine AW.exit ?_;simp -implicitDefEqProofs only[go_sem,seval,↓reduceIte,EV.er,EV.nm,EV.kind])
   | (refine AW.ret ?_;simp -implicitDefEqProofs only[go_sem,seval,↓reduceIte,EV.er,EV.nm,EV.kind];refine endK_some ?_)
  rfl
 | tru b =>
  repeat first
   | (refine AW.qr (by kernel_rfl) ?_;simp -implicitDefEqProofs only[go_sem,seval,↓reduceIte,EV.er,EV.nm,EV.kind])
   | (refine AW.region (by kernel_rfl) ?_;simp -implicitDefEqProofs only[go_sem,seval,↓reduceIte,EV.er,EV.nm,EV.kind])
   | refine AW.qq ?_
   | refine AW.block ?_
   | refine AW.qT rfl ?_
   | refine AW.qF rfl ?_
   | (refine AW.skip ?_;simp -implicitDefEqProofs only[go_sem,seval,↓reduceIte,EV.er,EV.nm,EV.kind])
   | (refine AW.exit ?_;simp -implicitDefEqProofs only[go_sem,seval,↓reduceIte,EV.er,EV.nm,EV.kind])
   | (refine AW.ret ?_;simp -implicitDefEqProofs only[go_sem,seval,↓reduceIte,EV.er,EV.nm,EV.kind];refine endK_some ?_)
  rfl
end Go.Hs
end

section
namespace Go.Hs
open Go.Proofs
set_option maxRecDepth 10000
set_option maxHeartbeats 1000000
theorem two10 (G:Nat→V) (hG:GOk G) (c1 c2:Col) (sl:Sl XN) (env:Sl (List UInt8 × Int)) (n:XN) (A B:EV) (ho:7≤n.op∧n.op≤15) (hA:RC G sl env n.a A) (hB:RC G sl env n.b B) (fA:A.fine) (fB:B.fine) :
  Spec Tryz.prog G 73 [lk10 c1 c2 sl env,encXN n] hNone (fun v _=>v=encVE (binV2 n.op A B)):=by
 obtain ⟨op,num,name,na,nb,nc⟩:=n
 simp only at ho hA hB ⊢
 refine Spec.of_code' 0 113 [.cell 4 43,.tmp 5] Tryz.func73 rfl rfl rfl rfl fun X=>?_
 refine AW.seq_k fun K hK=>AW.region (by kernel_rfl) ?_
 simp -implicitDefEqProofs only[go_sem,seval,↓reduceIte,lk10,encXN_K]
 intro g2 g3 g4
 refine hK _ ?_
 clear hK K
 repeat first
  | (refine AW.qr (by kernel_rfl) ?_;simp -implicitDefEqProofs only[go_sem,seval,↓reduceIte])
  | (refine AW.region (by kernel_rfl) ?_;simp -implicitDefEqProofs only[go_sem,seval,↓reduceIte])
  | refine AW.qq ?_
  | refine AW.block ?_
  | refine AW.qT rfl ?_
  | refine AW.qF rfl ?_
  | (refine AW.skip ?_;simp -implicitDefEqProofs only[go_sem,seval,↓reduceIte])
  | (refine AW.exit ?_;simp -implicitDefEqProofs only[go_sem,seval,↓reduceIte])
  | (refine AW.ret ?_;simp -implicitDefEqProofs only[go_sem,seval,↓reduceIte];refine endK_some ?_)
 refine CallA.pure hG (by kernel_rfl) ?_
 simp -implicitDefEqProofs only[go_sem,seval,↓reduceIte,recol_xns,recol_bis,lk10,encXN_K]
 refine (number10 G hG c1.ent c2.ent sl env na A hA fA).mono ?_
 rintro _ _ rfl
 simp -implicitDefEqProofs only[go_sem,seval,↓reduceIte,encNE]
 have hE:∀ e,A.need 1 = .err e→binV2 op A B = .err e:=by
  intro e he
  unfold binV2
  by_cases h11:op≤11
  ·rw [if_pos h11];exact need1_err _ he
  ·rw [if_neg h11,if_pos ho.2];exact need1_err _ he
 by_cases hAe:∃ e,A.need 1 = .err e
 ·obtain ⟨e,he⟩:=hAe
  have h0:(e != 0)=true:=by
   cases A with
   | err e'=>cases he;simpa using fine_err fA rfl
   | num a=>cases he
   | tru a=>cases he;rfl
  rw [hE e he,he]
  repeat first
   | (refine AW.qr (by kernel_rfl) ?_;simp -implicitDefEqProofs only[go_sem,seval,↓reduceIte,h0,EV.er,EV.nm])
   | (refine AW.region (by kernel_rfl) ?_;simp -implicitDefEqProofs only[go_sem,seval,↓reduceIte,h0,EV.er,EV.nm])
   | refine AW.qq ?_
   | refine AW.block ?_
   | refine AW.qT rfl ?_
   | refine AW.qF rfl ?_
   | (refine AW.skip ?_;simp -implicitDefEqProofs only[go_sem,seval,↓reduceIte,h0,EV.er,EV.nm])
   | (refine AW.exit ?_;simp -implicitDefEqProofs only[go_sem,seval,↓reduceIte,h0,EV.er,EV.nm])
   | (refine AW.ret ?_;simp -implicitDefEqProofs only[go_sem,seval,↓reduceIte,h0,EV.er,EV.nm];refine endK_some ?_)
  rfl
 obtain ⟨a,rfl⟩:=need1_ok fun e he=>hAe ⟨e,he⟩
 clear hE hAe
 rw [need1_num]
 simp -implicitDefEqProofs only[go_sem,seval,↓reduceIte,EV.er,EV.nm]
 repeat first
  | (refine AW.qr (by kernel_rfl) ?_;simp -implicitDefEqProofs only[go_sem,seval,↓reduceIte])
  | (refine AW.region (by kernel_rfl) ?_;simp -implicitDefEqProofs only[go_sem,seval,↓reduceIte])
  | refine AW.qq ?_
  | refine AW.block ?_
  | refine AW.qT rfl ?_
  | refine AW.qF rfl ?_
  | (refine AW.skip ?_;simp -implicitDefEqProofs only[go_sem,seval,↓reduceIte])
  | (refine AW.exit ?_;simp -implicitDefEqProofs only[go_sem,seval,↓reduceIte])
  | (refine AW.ret ?_;simp -implicitDefEqProofs only[go_sem,seval,↓reduceIte];refine endK_some ?_)
 refine CallA.pure hG (by kernel_rfl) ?_
 simp -implicitDefEqProofs only[go_sem,seval,↓reduceIte,recol_xns,recol_bis,lk10,encXN_K]
 refine (number10 G hG c1.ent c2.ent sl env nb B hB fB).mono ?_
 rintro _ _ rfl
 simp -implicitDefEqProofs only[go_sem,seval,↓reduceIte,encNE]
 have hE:∀ e,B.need 1 = .err e→binV2 op (.num a) B = .err e:=by
  intro e he
  unfold binV2
  by_cases h11:op≤11
  ·rw [if_pos h11];exact need1_err (x:=B) (fun b => .ofR (arith op a b)) he
  ·rw [if_neg h11,if_pos ho.2];exact need1_err (x:=B) (fun b => .tru (cmpV op a b)) he
 by_cases hBe:∃ e,B.need 1 = .err e
 ·obtain ⟨e,he⟩:=hBe
  have h0:(e != 0)=true:=by
   cases B with
   | err e'=>cases he;simpa using fine_err fB rfl
   | num a=>cases he
   | tru a=>cases he;rfl
  rw [hE e he,he]
  repeat first
   | (refine AW.qr (by kernel_rfl) ?_;simp -implicitDefEqProofs only[go_sem,seval,↓reduceIte,h0,EV.er,EV.nm])
   | (refine AW.region (by kernel_rfl) ?_;simp -implicitDefEqProofs only[go_sem,seval,↓reduceIte,h0,EV.er,EV.nm])
   | refine AW.qq ?_
   | refine AW.block ?_
   | refine AW.qT rfl ?_
   | refine AW.qF rfl ?_
   | (refine AW.skip ?_;simp -implicitDefEqProofs only[go_sem,seval,↓reduceIte,h0,EV.er,EV.nm])
   | (refine AW.exit ?_;simp -implicitDefEqProofs only[go_sem,seval,↓reduceIte,h0,EV.er,EV.nm])
   | (refine AW.ret ?_;simp -implicitDefEqProofs only[go_sem,seval,↓reduceIte,h0,EV.er,EV.nm];refine endK_some ?_)
  rfl
 obtain ⟨b,rfl⟩:=need1_ok fun e he=>hBe ⟨e,he⟩
 clear hE hBe hA hB
 rw [need1_num]
 simp -implicitDefEqProofs only[go_sem,seval,↓reduceIte,EV.er,EV.nm]
 refine AW.weak (Weak.st (l:=[(3,.ptr 3 g3 0),(4,.ptr 4 g4 0),(6,.int .i64 a),(8,.int .i64 b),(7,.int .i64 0)]) (m:=[(3,.cells .new g3 0 [.int .u8 op,.int .i64 num,.str name,.int .i64 na,.int .i64 nb,.int .i64 nc]),(4,.cells .new g4 0 [.int .u8 0,.int .i64 0,.bool false])]) (by simp -implicitDefEqProofs only[go_sem,seval,↓reduceIte];try rfl) (by simp -implicitDefEqProofs only[go_sem,seval,↓reduceIte];try rfl)) ?_
 obtain rfl | rfl | rfl | rfl | rfl | rfl | rfl | rfl | rfl:op=7∨op=8∨op=9∨op=10∨op=11∨op=12∨op=13∨op=14∨op=15:=by omega
 ·repeat first
   | (refine AW.qr (by kernel_rfl) ?_;simp -implicitDefEqProofs only[go_sem,seval,↓reduceIte])
   | (refine AW.region (by kernel_rfl) ?_;simp -implicitDefEqProofs only[go_sem,seval,↓reduceIte])
   | refine AW.qq ?_
   | refine AW.block ?_
   | refine AW.qT rfl ?_
   | refine AW.qF rfl ?_
   | (refine AW.skip ?_;simp -implicitDefEqProofs only[go_sem,seval,↓reduceIte])
   | (refine AW.exit ?_;simp -implicitDefEqProofs only[go_sem,seval,↓reduceIte])
   | (refine AW.ret ?_;simp -implicitDefEqProofs only[go_sem,seval,↓reduceIte];refine endK_some ?_)
  refine CallA.pure hG (by kernel_rfl) ?_
  simp -implicitDefEqProofs only[go_sem,seval,↓reduceIte,recol_xns,recol_bis,lk10,encXN_K]
  refine (rMulN_spec G hG a b (inK_of_fits fA) (inK_of_fits fB)).mono ?_
  rintro _ _ rfl
  simp -implicitDefEqProofs only[go_sem,seval,↓reduceIte,encR]
  refine CallA.pure hG (by kernel_rfl) ?_
  simp -implicitDefEqProofs only[go_sem,seval,↓reduceIte,recol_xns,recol_bis,lk10,encXN_K]
  refine (counted_spec G _ _).mono ?_
  rintro _ _ rfl
  simp -implicitDefEqProofs only[go_sem,seval,↓reduceIte,encVE,encEV]
  repeat first
   | (refine AW.qr (by kernel_rfl) ?_;simp -implicitDefEqProofs only[go_sem,seval,↓reduceIte])
   | (refine AW.region (by kernel_rfl) ?_;simp -implicitDefEqProofs only[go_sem,seval,↓reduceIte])
   | refine AW.qq ?_
   | refine AW.block ?_
   | refine AW.qT rfl ?_
   | refine AW.qF rfl ?_
   | (refine AW.skip ?_;simp -implicitDefEqProofs only[go_sem,seval,↓reduceIte])
   | (refine AW.exit ?_;simp -implicitDefEqProofs only[go_sem,seval,↓reduceIte])
   | (refine AW.ret ?_;simp -implicitDefEqProofs only[go_sem,seval,↓reduceIte];refine endK_some ?_)
  rfl
 ·repeat first
   | (refine AW.qr (by kernel_rfl) ?_;simp -implicitDefEqProofs only[go_sem,seval,↓reduceIte])
   | (refine AW.region (by kernel_rfl) ?_;simp -implicitDefEqProofs only[go_sem,seval,↓reduceIte])
   | refine AW.qq ?_
   | refine AW.block ?_
   | refine AW.qT rfl ?_
   | refine AW.qF rfl ?_
   | (refine AW.skip ?_;simp -implicitDefEqProofs only[go_sem,seval,↓reduceIte])
   | (refine AW.exit ?_;simp -implicitDefEqProofs only[go_sem,seval,↓reduceIte])
   | (refine AW.ret ?_;simp -implicitDefEqProofs only[go_sem,seval,↓reduceIte];refine endK_some ?_)
  refine CallA.pure hG (by kernel_rfl) ?_
  simp -implicitDefEqProofs only[go_sem,seval,↓reduceIte,recol_xns,recol_bis,lk10,encXN_K]
  refine (rDivN_spec G hG a b (inK_of_fits fA) (inK_of_fits fB)).mono ?_
  rintro _ _ rfl
  simp -implicitDefEqProofs only[go_sem,seval,↓reduceIte,encR]
  refine CallA.pure hG (by kernel_rfl) ?_
  simp -implicitDefEqProofs only[go_sem,seval,↓reduceIte,recol_xns,recol_bis,lk10,encXN_K]
  refine (counted_spec G _ _).mono ?_
  rintro _ _ rfl
  simp -implicitDefEqProofs only[go_sem,seval,↓reduceIte,encVE,encEV]
  repeat first
   | (refine AW.qr (by kernel_rfl) ?_;simp -implicitDefEqProofs only[go_sem,seval,↓reduceIte])
   | (refine AW.region (by kernel_rfl) ?_;simp -implicitDefEqProofs only[go_sem,seval,↓reduceIte])
   | refine AW.qq ?_
   | refine AW.block ?_
   | refine AW.qT rfl ?_
   | refine AW.qF rfl ?_
   | (refine AW.skip ?_;simp -implicitDefEqProofs only[go_sem,seval,↓reduceIte])
   | (refine AW.exit ?_;simp -implicitDefEqProofs only[go_sem,seval,↓reduceIte])
   | (refine AW.ret ?_;simp -implicitDefEqProofs only[go_sem,seval,↓reduceIte];refine endK_some ?_)
  rfl
 ·repeat first
   | (refine AW.qr (by kernel_rfl) ?_;simp -implicitDefEqProofs only[go_sem,seval,↓reduceIte])
   | (refine AW.region (by kernel_rfl) ?_;simp -implicitDefEqProofs only[go_sem,seval,↓reduceIte])
   | refine AW.qq ?_
   | refine AW.block ?_
   | refine AW.qT rfl ?_
   | refine AW.qF rfl ?_
   | (refine AW.skip ?_;simp -implicitDefEqProofs only[go_sem,seval,↓reduceIte])
   | (refine AW.exit ?_;simp -implicitDefEqProofs only[go_sem,seval,↓reduceIte])
   | (refine AW.ret ?_;simp -implicitDefEqProofs only[go_sem,seval,↓reduceIte];refine endK_some ?_)
  refine CallA.pure hG (by kernel_rfl) ?_
  simp -implicitDefEqProofs only[go_sem,seval,↓reduceIte,recol_xns,recol_bis,lk10,encXN_K]
  refine (rModN_spec G hG a b (inK_of_fits fA) (inK_of_fits fB)).mono ?_
  rintro _ _ rfl
  simp -implicitDefEqProofs only[go_sem,seval,↓reduceIte,encR]
  refine CallA.pure hG (by kernel_rfl) ?_
  simp -implicitDefEqProofs only[go_sem,seval,↓reduceIte,recol_xns,recol_bis,lk10,encXN_K]
  refine (counted_spec G _ _).mono ?_
  rintro _ _ rfl
  simp -implicitDefEqProofs only[go_sem,seval,↓reduceIte,encVE,encEV]
  repeat first
   | (refine AW.qr (by kernel_rfl) ?_;simp -implicitDefEqProofs only[go_sem,seval,↓reduceIte])
   | (refine AW.region (by kernel_rfl) ?_;simp -implicitDefEqProofs only[go_sem,seval,↓reduceIte])
   | refine AW.qq ?_
   | refine AW.block ?_
   | refine AW.qT rfl ?_
   | refine AW.qF rfl ?_
   | (refine AW.skip ?_;simp -implicitDefEqProofs only[go_sem,seval,↓reduceIte])
   | (refine AW.exit ?_;simp -implicitDefEqProofs only[go_sem,seval,↓reduceIte])
   | (refine AW.ret ?_;simp -implicitDefEqProofs only[go_sem,seval,↓reduceIte];refine endK_some ?_)
  rfl
 ·repeat first
   | (refine AW.qr (by kernel_rfl) ?_;simp -implicitDefEqProofs only[go_sem,seval,↓reduceIte])
   | (refine AW.region (by kernel_rfl) ?_;simp -implicitDefEqProofs only[go_sem,seval,↓reduceIte])
   | refine AW.qq ?_
   | refine AW.block ?_
   | refine AW.qT rfl ?_
   | refine AW.qF rfl ?_
   | (refine AW.skip ?_;simp -implicitDefEqProofs only[go_sem,seval,↓reduceIte])
   | (refine AW.exit ?_;simp -implicitDefEqProofs only[go_sem,seval,↓reduceIte])
   | (refine AW.ret ?_;simp -implicitDefEqProofs only[go_sem,seval,↓reduceIte];refine endK_some ?_)
  refine CallA.pure hG (by kernel_rfl) ?_
  simp -implicitDefEqProofs only[go_sem,seval,↓reduceIte,recol_xns,recol_bis,lk10,encXN_K]
  refine (rAddN_spec G hG a b (inK_of_fits fA) (inK_of_fits fB)).mono ?_
  rintro _ _ rfl
  simp -implicitDefEqProofs only[go_sem,seval,↓reduceIte,encR]
  refine CallA.pure hG (by kernel_rfl) ?_
  simp -implicitDefEqProofs only[go_sem,seval,↓reduceIte,recol_xns,recol_bis,lk10,encXN_K]
  refine (counted_spec G _ _).mono ?_
  rintro _ _ rfl
  simp -implicitDefEqProofs only[go_sem,seval,↓reduceIte,encVE,encEV]
  repeat first
   | (refine AW.qr (by kernel_rfl) ?_;simp -implicitDefEqProofs only[go_sem,seval,↓reduceIte])
   | (refine AW.region (by kernel_rfl) ?_;simp -implicitDefEqProofs only[go_sem,seval,↓reduceIte])
   | refine AW.qq ?_
   | refine AW.block ?_
   | refine AW.qT rfl ?_
   | refine AW.qF rfl ?_
   | (refine AW.skip ?_;simp -implicitDefEqProofs only[go_sem,seval,↓reduceIte])
   | (refine AW.exit ?_;simp -implicitDefEqProofs only[go_sem,seval,↓reduceIte])
   | (refine AW.ret ?_;simp -implicitDefEqProofs only[go_sem,seval,↓reduceIte];refine endK_some ?_)
  rfl
 ·repeat first
   | (refine AW.qr (by kernel_rfl) ?_;simp -implicitDefEqProofs only[go_sem,seval,↓reduceIte])
   | (refine AW.region (by kernel_rfl) ?_;simp -implicitDefEqProofs only[go_sem,seval,↓reduceIte])
   | refine AW.qq ?_
   | refine AW.block ?_
   | refine AW.qT rfl ?_
   | refine AW.qF rfl ?_
   | (refine AW.skip ?_;simp -implicitDefEqProofs only[go_sem,seval,↓reduceIte])
   | (refine AW.exit ?_;simp -implicitDefEqProofs only[go_sem,seval,↓reduceIte])
   | (refine AW.ret ?_;simp -implicitDefEqProofs only[go_sem,seval,↓reduceIte];refine endK_some ?_)
  refine CallA.pure hG (by kernel_rfl) ?_
  simp -implicitDefEqProofs only[go_sem,seval,↓reduceIte,recol_xns,recol_bis,lk10,encXN_K]
  refine (rSubN_spec G hG a b (inK_of_fits fA) (inK_of_fits fB)).mono ?_
  rintro _ _ rfl
  simp -implicitDefEqProofs only[go_sem,seval,↓reduceIte,encR]
  refine CallA.pure hG (by kernel_rfl) ?_
  simp -implicitDefEqProofs only[go_sem,seval,↓reduceIte,recol_xns,recol_bis,lk10,encXN_K]
  refine (counted_spec G _ _).mono ?_
  rintro _ _ rfl
  simp -implicitDefEqProofs only[go_sem,seval,↓reduceIte,encVE,encEV]
  repeat first
   | (refine AW.qr (by kernel_rfl) ?_;simp -implicitDefEqProofs only[go_sem,seval,↓reduceIte])
   | (refine AW.region (by kernel_rfl) ?_;simp -implicitDefEqProofs only[go_sem,seval,↓reduceIte])
   | refine AW.qq ?_
   | refine AW.block ?_
   | refine AW.qT rfl ?_
   | refine AW.qF rfl ?_
   | (refine AW.skip ?_;simp -implicitDefEqProofs only[go_sem,seval,↓reduceIte])
   | (refine AW.exit ?_;simp -implicitDefEqProofs only[go_sem,seval,↓reduceIte])
   | (refine AW.ret ?_;simp -implicitDefEqProofs only[go_sem,seval,↓reduceIte];refine endK_some ?_)
  rfl
 ·repeat first
   | (refine AW.qr (by kernel_rfl) ?_;simp -implicitDefEqProofs only[go_sem,seval,↓reduceIte])
   | (refine AW.region (by kernel_rfl) ?_;simp -implicitDefEqProofs only[go_sem,seval,↓reduceIte])
   | refine AW.qq ?_
   | refine AW.block ?_
   | refine AW.qT rfl ?_
   | refine AW.qF rfl ?_
   | (refine AW.skip ?_;simp -implicitDefEqProofs only[go_sem,seval,↓reduceIte])
   | (refine AW.exit ?_;simp -implicitDefEqProofs only[go_sem,seval,↓reduceIte])
   | (refine AW.ret ?_;simp -implicitDefEqProofs only[go_sem,seval,↓reduceIte];refine endK_some ?_)
  refine CallA.pure hG (by kernel_rfl) ?_
  simp -implicitDefEqProofs only[go_sem,seval,↓reduceIte,recol_xns,recol_bis,lk10,encXN_K]
  refine (tolds_spec G _ 0).mono ?_
  rintro _ _ rfl
  simp -implicitDefEqProofs only[go_sem,seval,↓reduceIte,encVE,encEV]
  repeat first
   | (refine AW.qr (by kernel_rfl) ?_;simp -implicitDefEqProofs only[go_sem,seval,↓reduceIte])
   | (refine AW.region (by kernel_rfl) ?_;simp -implicitDefEqProofs only[go_sem,seval,↓reduceIte])
   | refine AW.qq ?_
   | refine AW.block ?_
   | refine AW.qT rfl ?_
   | refine AW.qF rfl ?_
   | (refine AW.skip ?_;simp -implicitDefEqProofs only[go_sem,seval,↓reduceIte])
   | (refine AW.exit ?_;simp -implicitDefEqProofs only[go_sem,seval,↓reduceIte])
   | (refine AW.ret ?_;simp -implicitDefEqProofs only[go_sem,seval,↓reduceIte];refine endK_some ?_)
  rfl
 ·repeat first
   | (refine AW.qr (by kernel_rfl) ?_;simp -implicitDefEqProofs only[go_sem,seval,↓reduceIte])
   | (refine AW.region (by kernel_rfl) ?_;simp -implicitDefEqProofs only[go_sem,seval,↓reduceIte])
   | refine AW.qq ?_
   | refine AW.block ?_
   | refine AW.qT rfl ?_
   | refine AW.qF rfl ?_
   | (refine AW.skip ?_;simp -implicitDefEqProofs only[go_sem,seval,↓reduceIte])
   | (refine AW.exit ?_;simp -implicitDefEqProofs only[go_sem,seval,↓reduceIte])
   | (refine AW.ret ?_;simp -implicitDefEqProofs only[go_sem,seval,↓reduceIte];refine endK_some ?_)
  refine CallA.pure hG (by kernel_rfl) ?_
  simp -implicitDefEqProofs only[go_sem,seval,↓reduceIte,recol_xns,recol_bis,lk10,encXN_K]
  refine (tolds_spec G _ 0).mono ?_
  rintro _ _ rfl
  simp -implicitDefEqProofs only[go_sem,seval,↓reduceIte,encVE,encEV]
  repeat first
   | (refine AW.qr (by kernel_rfl) ?_;simp -implicitDefEqProofs only[go_sem,seval,↓reduceIte])
   | (refine AW.region (by kernel_rfl) ?_;simp -implicitDefEqProofs only[go_sem,seval,↓reduceIte])
   | refine AW.qq ?_
   | refine AW.block ?_
   | refine AW.qT rfl ?_
   | refine AW.qF rfl ?_
   | (refine AW.skip ?_;simp -implicitDefEqProofs only[go_sem,seval,↓reduceIte])
   | (refine AW.exit ?_;simp -implicitDefEqProofs only[go_sem,seval,↓reduceIte])
   | (refine AW.ret ?_;simp -implicitDefEqProofs only[go_sem,seval,↓reduceIte];refine endK_some ?_)
  rfl
 ·repeat first
   | (refine AW.qr (by kernel_rfl) ?_;simp -implicitDefEqProofs only[go_sem,seval,↓reduceIte])
   | (refine AW.region (by kernel_rfl) ?_;simp -implicitDefEqProofs only[go_sem,seval,↓reduceIte])
   | refine AW.qq ?_
   | refine AW.block ?_
   | refine AW.qT rfl ?_
   | refine AW.qF rfl ?_
   | (refine AW.skip ?_;simp -implicitDefEqProofs only[go_sem,seval,↓reduceIte])
   | (refine AW.exit ?_;simp -implicitDefEqProofs only[go_sem,seval,↓reduceIte])
   | (refine AW.ret ?_;simp -implicitDefEqProofs only[go_sem,seval,↓reduceIte];refine endK_some ?_)
  refine CallA.pure hG (by kernel_rfl) ?_
  simp -implicitDefEqProofs only[go_sem,seval,↓reduceIte,recol_xns,recol_bis,lk10,encXN_K]
  refine (tolds_spec G _ 0).mono ?_
  rintro _ _ rfl
  simp -implicitDefEqProofs only[go_sem,seval,↓reduceIte,encVE,encEV]
  repeat first
   | (refine AW.qr (by kernel_rfl) ?_;simp -implicitDefEqProofs only[go_sem,seval,↓reduceIte])
   | (refine AW.region (by kernel_rfl) ?_;simp -implicitDefEqProofs only[go_sem,seval,↓reduceIte])
   | refine AW.qq ?_
   | refine AW.block ?_
   | refine AW.qT rfl ?_
   | refine AW.qF rfl ?_
   | (refine AW.skip ?_;simp -implicitDefEqProofs only[go_sem,seval,↓reduceIte])
   | (refine AW.exit ?_;simp -implicitDefEqProofs only[go_sem,seval,↓reduceIte])
   | (refine AW.ret ?_;simp -implicitDefEqProofs only[go_sem,seval,↓reduceIte];refine endK_some ?_)
  rfl
 ·repeat first
   | (refine AW.qr (by kernel_rfl) ?_;simp -implicitDefEqProofs only[go_sem,seval,↓reduceIte])
   | (refine AW.region (by kernel_rfl) ?_;simp -implicitDefEqProofs only[go_sem,seval,↓reduceIte])
   | refine AW.qq ?_
   | refine AW.block ?_
   | refine AW.qT rfl ?_
   | refine AW.qF rfl ?_
   | (refine AW.skip ?_;simp -implicitDefEqProofs only[go_sem,seval,↓reduceIte])
   | (refine AW.exit ?_;simp -implicitDefEqProofs only[go_sem,seval,↓reduceIte])
   | (refine AW.ret ?_;simp -implicitDefEqProofs only[go_sem,seval,↓reduceIte];refine endK_some ?_)
  refine CallA.pure hG (by kernel_rfl) ?_
  simp -implicitDefEqProofs only[go_sem,seval,↓reduceIte,recol_xns,recol_bis,lk10,encXN_K]
  refine (tolds_spec G _ 0).mono ?_
  rintro _ _ rfl
  simp -implicitDefEqProofs only[go_sem,seval,↓reduceIte,encVE,encEV]
  repeat first
   | (refine AW.qr (by kernel_rfl) ?_;simp -implicitDefEqProofs only[go_sem,seval,↓reduceIte])
   | (refine AW.region (by kernel_rfl) ?_;simp -implicitDefEqProofs only[go_sem,seval,↓reduceIte])
   | refine AW.qq ?_
   | refine AW.block ?_
   | refine AW.qT rfl ?_
   | refine AW.qF rfl ?_
   | (refine AW.skip ?_;simp -implicitDefEqProofs only[go_sem,seval,↓reduceIte])
   | (refine AW.exit ?_;simp -implicitDefEqProofs only[go_sem,seval,↓reduceIte])
   | (refine AW.ret ?_;simp -implicitDefEqProofs only[go_sem,seval,↓reduceIte];refine endK_some ?_)
  rfl
theorem tolds_pure (G:Nat→V) (b:Bool):PureC Tryz.prog G 71 [.bool b,.int .i64 0] (encVE (.tru b)):=⟨by kernel_rfl,(tolds_spec G b 0).mono fun v _ hv=>by subst hv;rfl⟩
theorem alike10 (G:Nat→V) (hG:GOk G) (c1 c2:Col) (sl:Sl XN) (env:Sl (List UInt8 × Int)) (n:XN) (A B:EV) (ho:16≤n.op∧n.op≤17) (hA:RC G sl env n.a A) (hB:RC G sl env n.b B) (fA:A.fine) (fB:B.fine) :
  Spec Tryz.prog G 74 [lk10 c1 c2 sl env,encXN n] hNone (fun v _=>v=encVE (binV2 n.op A B)):=by
 have hN:binV2 n.op A B=alikeV n.op A B:=by
  unfold binV2
  rw [if_neg (by omega),if_neg (by omega),if_pos ho.2]
 rw [hN]
 clear hN
 obtain ⟨op,num,name,na,nb,nc⟩:=n
 simp only at ho hA hB ⊢
 refine Spec.of_code' 0 47 [.cell 4 43,.tmp 5] Tryz.func74 rfl rfl rfl rfl fun X=>?_
 refine AW.seq_k fun K hK=>AW.region (by kernel_rfl) ?_
 simp -implicitDefEqProofs only[go_sem,seval,↓reduceIte,lk10,encXN_K]
 intro g2 g3 g4
 refine hK _ ?_
 clear hK K
 repeat first
  | (refine AW.qr (by kernel_rfl) ?_;simp -implicitDefEqProofs only[go_sem,seval,↓reduceIte])
  | (refine AW.region (by kernel_rfl) ?_;simp -implicitDefEqProofs only[go_sem,seval,↓reduceIte])
  | refine AW.qq ?_
  | refine AW.block ?_
  | refine AW.qT rfl ?_
  | refine AW.qF rfl ?_
  | (refine AW.skip ?_;simp -implicitDefEqProofs only[go_sem,seval,↓reduceIte])
  | (refine AW.exit ?_;simp -implicitDefEqProofs only[go_sem,seval,↓reduceIte])
  | (refine AW.ret ?_;simp -implicitDefEqProofs only[go_sem,seval,↓reduceIte];refine endK_some ?_)
 refine CallA.pure hG (by kernel_rfl) ?_
 simp -implicitDefEqProofs only[go_sem,seval,↓reduceIte,recol_xns,recol_bis,lk10,encXN_K]
 refine (hA c1.ent c2.ent).mono ?_
 rintro _ _ rfl
 simp -implicitDefEqProofs only[go_sem,seval,↓reduceIte,encVE,encEV]
 intro g6
 by_cases hAe:∃ e,A = .err e
 ·obtain ⟨e,rfl⟩:=hAe
  have h0:(e != 0)=true:=by simpa using fine_err fA rfl
  repeat first
   | (refine AW.qr (by kernel_rfl) ?_;simp -implicitDefEqProofs only[go_sem,seval,↓reduceIte,h0,EV.er,EV.nm])
   | (refine AW.region (by kernel_rfl) ?_;simp -implicitDefEqProofs only[go_sem,seval,↓reduceIte,h0,EV.er,EV.nm])
   | refine AW.qq ?_
   | refine AW.block ?_
   | refine AW.qT rfl ?_
   | refine AW.qF rfl ?_
   | (refine AW.skip ?_;simp -implicitDefEqProofs only[go_sem,seval,↓reduceIte,h0,EV.er,EV.nm])
   | (refine AW.exit ?_;simp -implicitDefEqProofs only[go_sem,seval,↓reduceIte,h0,EV.er,EV.nm])
   | (refine AW.ret ?_;simp -implicitDefEqProofs only[go_sem,seval,↓reduceIte,h0,EV.er,EV.nm];refine endK_some ?_)
  rfl
 have hA0:A.er=0:=by cases A<;>first | rfl | exact absurd ⟨_,rfl⟩ hAe
 rw [hA0]
 repeat first
  | (refine AW.qr (by kernel_rfl) ?_;simp -implicitDefEqProofs only[go_sem,seval,↓reduceIte])
  | (refine AW.region (by kernel_rfl) ?_;simp -implicitDefEqProofs only[go_sem,seval,↓reduceIte])
  | refine AW.qq ?_
  | refine AW.block ?_
  | refine AW.qT rfl ?_
  | refine AW.qF rfl ?_
  | (refine AW.skip ?_;simp -implicitDefEqProofs only[go_sem,seval,↓reduceIte])
  | (refine AW.exit ?_;simp -implicitDefEqProofs only[go_sem,seval,↓reduceIte])
  | (refine AW.ret ?_;simp -implicitDefEqProofs only[go_sem,seval,↓reduceIte];refine endK_some ?_)
 refine CallA.pure hG (by kernel_rfl) ?_
 simp -implicitDefEqProofs only[go_sem,seval,↓reduceIte,recol_xns,recol_bis,lk10,encXN_K]
 refine (hB c1.ent c2.ent).mono ?_
 rintro _ _ rfl
 simp -implicitDefEqProofs only[go_sem,seval,↓reduceIte,encVE,encEV]
 intro g8
 by_cases hBe:∃ e,B = .err e
 ·obtain ⟨e,rfl⟩:=hBe
  have h0:(e != 0)=true:=by simpa using fine_err fB rfl
  have hR:alikeV op A (.err e) = .err e:=by cases A<;>first | rfl | exact absurd ⟨_,rfl⟩ hAe
  rw [hR]
  repeat first
   | (refine AW.qr (by kernel_rfl) ?_;simp -implicitDefEqProofs only[go_sem,seval,↓reduceIte,h0,EV.er,EV.nm])
   | (refine AW.region (by kernel_rfl) ?_;simp -implicitDefEqProofs only[go_sem,seval,↓reduceIte,h0,EV.er,EV.nm])
   | refine AW.qq ?_
   | refine AW.block ?_
   | refine AW.qT rfl ?_
   | refine AW.qF rfl ?_
   | (refine AW.skip ?_;simp -implicitDefEqProofs only[go_sem,seval,↓reduceIte,h0,EV.er,EV.nm])
   | (refine AW.exit ?_;simp -implicitDefEqProofs only[go_sem,seval,↓reduceIte,h0,EV.er,EV.nm])
   | (refine AW.ret ?_;simp -implicitDefEqProofs only[go_sem,seval,↓reduceIte,h0,EV.er,EV.nm];refine endK_some ?_)
  rfl
 have hB0:B.er=0:=by cases B<;>first | rfl | exact absurd ⟨_,rfl⟩ hBe
 rw [hB0]
 refine AW.weak (Weak.st (l:=[(3,.ptr 3 g3 0),(4,.ptr 4 g4 0),(6,.ptr 6 g6 0),(8,.ptr 8 g8 0),(7,.int .i64 0)]) (m:=[(3,.cells .new g3 0 [.int .u8 op,.int .i64 num,.str name,.int .i64 na,.int .i64 nb,.int .i64 nc]),(4,.cells .new g4 0 [.int .u8 0,.int .i64 0,.bool false]),(6,.cells .new g6 0 [.int .u8 A.kind,.int .i64 A.nm,.bool A.tr]),(8,.cells .new g8 0 [.int .u8 B.kind,.int .i64 B.nm,.bool B.tr])]) (by simp -implicitDefEqProofs only[go_sem,seval,↓reduceIte];try rfl) (by simp -implicitDefEqProofs only[go_sem,seval,↓reduceIte];try rfl)) ?_
 refine AW.weak (Weak.stF (fun o=>o==3 || o==6 || o==8) (l:=[(3,.view .new (.agg [.int .u8 op,.int .i64 num,.str name,.int .i64 na,.int .i64 nb,.int .i64 nc])),(4,.ptr 4 g4 0),(6,.view .new (.agg [.int .u8 A.kind,.int .i64 A.nm,.bool A.tr])),(8,.view .new (.agg [.int .u8 B.kind,.int .i64 B.nm,.bool B.tr])),(7,.int .i64 0)]) (m:=[(4,.cells .new g4 0 [.int .u8 0,.int .i64 0,.bool false])]) ?_ ?_) ?_
 ·simp -implicitDefEqProofs only[go_sem,seval,↓reduceIte]
  refine ⟨?_,Fz.same _,?_,?_,Fz.same _⟩
  ·exact Fz.ptr (v := .agg [.int .u8 op,.int .i64 num,.str name,.int .i64 na,.int .i64 nb,.int .i64 nc]) (c := .new) (fz:=0) rfl (by simp -implicitDefEqProofs only[go_sem,seval,↓reduceIte];try rfl)
  ·exact Fz.ptr (v := .agg [.int .u8 A.kind,.int .i64 A.nm,.bool A.tr]) (c := .new) (fz:=0) rfl (by simp -implicitDefEqProofs only[go_sem,seval,↓reduceIte];try rfl)
  ·exact Fz.ptr (v := .agg [.int .u8 B.kind,.int .i64 B.nm,.bool B.tr]) (c := .new) (fz:=0) rfl (by simp -implicitDefEqProofs only[go_sem,seval,↓reduceIte];try rfl)
 ·simp only [allFzO_cons,allFzO_nil,and_true]
  exact FzO.keep rfl (by simp -implicitDefEqProofs only[go_sem,seval,↓reduceIte];try rfl)
 clear hA hB
 cases A with
 | err e'=>exact absurd ⟨_,rfl⟩ hAe
 | num a =>
  cases B with
  | err e'=>exact absurd ⟨_,rfl⟩ hBe
  | num b =>
   rw [alike_num]
   simp only [EV.kind,EV.nm,EV.tr]
   repeat first
    | (refine AW.qr (by kernel_rfl) ?_;simp -implicitDefEqProofs only[go_sem,seval,↓reduceIte])
    | (refine AW.region (by kernel_rfl) ?_;simp -implicitDefEqProofs only[go_sem,seval,↓reduceIte])
    | refine AW.qq ?_
    | refine AW.block ?_
    | refine AW.qT rfl ?_
    | refine AW.qF rfl ?_
    | (refine AW.skip ?_;simp -implicitDefEqProofs only[go_sem,seval,↓reduceIte])
    | (refine AW.exit ?_;simp -implicitDefEqProofs only[go_sem,seval,↓reduceIte])
    | (refine AW.ret ?_;simp -implicitDefEqProofs only[go_sem,seval,↓reduceIte];refine endK_some ?_)
   refine AW.regionT ⟨fun i=>if i=7 then encVE (.tru ((a==b)==(op==16))) else .top,fun i=>if i=0 then .lend else if i=1 then .lend else if i=4 then .lend else .pure⟩ (by kernel_rfl) hG (by kernel_rfl) (by kernel_rfl) ?_
   simp -implicitDefEqProofs only[go_sem,seval,↓reduceIte,encVE,encEV,EV.kind,EV.nm,EV.tr,EV.er]
   refine ⟨by simp only [Bool.true_and,Bool.and_true];exact tolds_pure G _,?_⟩
   repeat first
    | (refine AW.qr (by kernel_rfl) ?_;simp -implicitDefEqProofs only[go_sem,seval,↓reduceIte])
    | (refine AW.region (by kernel_rfl) ?_;simp -implicitDefEqProofs only[go_sem,seval,↓reduceIte])
    | refine AW.qq ?_
    | refine AW.block ?_
    | refine AW.qT rfl ?_
    | refine AW.qF rfl ?_
    | (refine AW.skip ?_;simp -implicitDefEqProofs only[go_sem,seval,↓reduceIte])
    | (refine AW.exit ?_;simp -implicitDefEqProofs only[go_sem,seval,↓reduceIte])
    | (refine AW.ret ?_;simp -implicitDefEqProofs only[go_sem,seval,↓reduceIte];refine endK_some ?_)
   rfl
  | tru b =>
   simp only [EV.kind,EV.nm,EV.tr]
   repeat first
    | (refine AW.qr (by kernel_rfl) ?_;simp -implicitDefEqProofs only[go_sem,seval,↓reduceIte])
    | (refine AW.region (by kernel_rfl) ?_;simp -implicitDefEqProofs only[go_sem,seval,↓reduceIte])
    | refine AW.qq ?_
    | refine AW.block ?_
    | refine AW.qT rfl ?_
    | refine AW.qF rfl ?_
    | (refine AW.skip ?_;simp -implicitDefEqProofs only[go_sem,seval,↓reduceIte])
    | (refine AW.exit ?_;simp -implicitDefEqProofs only[go_sem,seval,↓reduceIte])
    | (refine AW.ret ?_;simp -implicitDefEqProofs only[go_sem,seval,↓reduceIte];refine endK_some ?_)
   rfl
 | tru a =>
  cases B with
  | err e'=>exact absurd ⟨_,rfl⟩ hBe
  | num b =>
   simp only [EV.kind,EV.nm,EV.tr]
   repeat first
    | (refine AW.qr (by kernel_rfl) ?_;simp -implicitDefEqProofs only[go_sem,seval,↓reduceIte])
    | (refine AW.region (by kernel_rfl) ?_;simp -implicitDefEqProofs only[go_sem,seval,↓reduceIte])
    | refine AW.qq ?_
    | refine AW.block ?_
    | refine AW.qT rfl ?_
    | refine AW.qF rfl ?_
    | (refine AW.skip ?_;simp -implicitDefEqProofs only[go_sem,seval,↓reduceIte])
    | (refine AW.exit ?_;simp -implicitDefEqProofs only[go_sem,seval,↓reduceIte])
    | (refine AW.ret ?_;simp -implicitDefEqProofs only[go_sem,seval,↓reduceIte];refine endK_some ?_)
   rfl
  | tru b =>
   rw [alike_tru]
   simp only [EV.kind,EV.nm,EV.tr]
   repeat first
    | (refine AW.qr (by kernel_rfl) ?_;simp -implicitDefEqProofs only[go_sem,seval,↓reduceIte])
    | (refine AW.region (by kernel_rfl) ?_;simp -implicitDefEqProofs only[go_sem,seval,↓reduceIte])
    | refine AW.qq ?_
    | refine AW.block ?_
    | refine AW.qT rfl ?_
    | refine AW.qF rfl ?_
    | (refine AW.skip ?_;simp -implicitDefEqProofs only[go_sem,seval,↓reduceIte])
    | (refine AW.exit ?_;simp -implicitDefEqProofs only[go_sem,seval,↓reduceIte])
    | (refine AW.ret ?_;simp -implicitDefEqProofs only[go_sem,seval,↓reduceIte];refine endK_some ?_)
   refine AW.regionT ⟨fun i=>if i=7 then encVE (.tru ((a==b)==(op==16))) else .top,fun i=>if i=0 then .lend else if i=1 then .lend else if i=4 then .lend else .pure⟩ (by kernel_rfl) hG (by kernel_rfl) (by kernel_rfl) ?_
   simp -implicitDefEqProofs only[go_sem,seval,↓reduceIte,encVE,encEV,EV.kind,EV.nm,EV.tr,EV.er]
   refine ⟨by simp only [Bool.true_and,Bool.and_true];exact tolds_pure G _,?_⟩
   repeat first
    | (refine AW.qr (by kernel_rfl) ?_;simp -implicitDefEqProofs only[go_sem,seval,↓reduceIte])
    | (refine AW.region (by kernel_rfl) ?_;simp -implicitDefEqProofs only[go_sem,seval,↓reduceIte])
    | refine AW.qq ?_
    | refine AW.block ?_
    | refine AW.qT rfl ?_
    | refine AW.qF rfl ?_
    | (refine AW.skip ?_;simp -implicitDefEqProofs only[go_sem,seval,↓reduceIte])
    | (refine AW.exit ?_;simp -implicitDefEqProofs only[go_sem,seval,↓reduceIte])
    | (refine AW.ret ?_;simp -implicitDefEqProofs only[go_sem,seval,↓reduceIte];refine endK_some ?_)
   rfl
theorem logic10 (G:Nat→V) (hG:GOk G) (c1 c2:Col) (sl:Sl XN) (env:Sl (List UInt8 × Int)) (n:XN) (A B:EV) (ho:18≤n.op∧n.op≤21) (hA:RC G sl env n.a A) (hB:RC G sl env n.b B) (fA:A.fine) (fB:B.fine) :
  Spec Tryz.prog G 75 [lk10 c1 c2 sl env,encXN n] hNone (fun v _=>v=encVE (binV2 n.op A B)):=by
 have hN:binV2 n.op A B=logicV n.op A B:=by
  unfold binV2
  rw [if_neg (by omega),if_neg (by omega),if_neg (by omega)]
 rw [hN]
 clear hN
 obtain ⟨op,num,name,na,nb,nc⟩:=n
 simp only at ho hA hB ⊢
 refine Spec.of_code' 0 70 [.cell 4 43,.tmp 5] Tryz.func75 rfl rfl rfl rfl fun X=>?_
 refine AW.seq_k fun K hK=>AW.region (by kernel_rfl) ?_
 simp -implicitDefEqProofs only[go_sem,seval,↓reduceIte,lk10,encXN_K]
 intro g2 g3 g4
 refine hK _ ?_
 clear hK K
 repeat first
  | (refine AW.qr (by kernel_rfl) ?_;simp -implicitDefEqProofs only[go_sem,seval,↓reduceIte])
  | (refine AW.region (by kernel_rfl) ?_;simp -implicitDefEqProofs only[go_sem,seval,↓reduceIte])
  | refine AW.qq ?_
  | refine AW.block ?_
  | refine AW.qT rfl ?_
  | refine AW.qF rfl ?_
  | (refine AW.skip ?_;simp -implicitDefEqProofs only[go_sem,seval,↓reduceIte])
  | (refine AW.exit ?_;simp -implicitDefEqProofs only[go_sem,seval,↓reduceIte])
  | (refine AW.ret ?_;simp -implicitDefEqProofs only[go_sem,seval,↓reduceIte];refine endK_some ?_)
 refine CallA.pure hG (by kernel_rfl) ?_
 simp -implicitDefEqProofs only[go_sem,seval,↓reduceIte,recol_xns,recol_bis,lk10,encXN_K]
 refine (truth10 G hG c1.ent c2.ent sl env na A hA fA).mono ?_
 rintro _ _ rfl
 simp -implicitDefEqProofs only[go_sem,seval,↓reduceIte,encTE]
 by_cases hAe:∃ e,A.need 2 = .err e
 ·obtain ⟨e,he⟩:=hAe
  have h0:(e != 0)=true:=by
   cases A with
   | err e'=>cases he;simpa using fine_err fA rfl
   | tru a=>cases he
   | num a=>cases he;rfl
  have hE:logicV op A B = .err e:=need2_err _ he
  rw [hE,he]
  repeat first
   | (refine AW.qr (by kernel_rfl) ?_;simp -implicitDefEqProofs only[go_sem,seval,↓reduceIte,h0,EV.er,EV.nm])
   | (refine AW.region (by kernel_rfl) ?_;simp -implicitDefEqProofs only[go_sem,seval,↓reduceIte,h0,EV.er,EV.nm])
   | refine AW.qq ?_
   | refine AW.block ?_
   | refine AW.qT rfl ?_
   | refine AW.qF rfl ?_
   | (refine AW.skip ?_;simp -implicitDefEqProofs only[go_sem,seval,↓reduceIte,h0,EV.er,EV.nm])
   | (refine AW.exit ?_;simp -implicitDefEqProofs only[go_sem,seval,↓reduceIte,h0,EV.er,EV.nm])
   | (refine AW.ret ?_;simp -implicitDefEqProofs only[go_sem,seval,↓reduceIte,h0,EV.er,EV.nm];refine endK_some ?_)
  rfl
 obtain ⟨a,rfl⟩:=need2_ok fun e he=>hAe ⟨e,he⟩
 clear hAe
 rw [need2_tru]
 simp -implicitDefEqProofs only[go_sem,seval,↓reduceIte,EV.er,EV.tr]
 have hEr:∀ e,B.need 2 = .err e→(e != 0)=true∧(e==0)=false:=by
  intro e he
  cases B with
  | err e'=>cases he;exact ⟨by simpa using fine_err fB rfl,by simpa using fine_err fB rfl⟩
  | tru a=>cases he
  | num a=>cases he;exact ⟨rfl,rfl⟩
 have hX:∀ op a,logicV op (.tru a) B=if op=18∧a=false then .tru false else if op=19∧a=true∨op=21∧a=false then .tru true else B.onB fun b => .tru (if op=20 then a != b else b):=fun _ _=>rfl
 obtain rfl | rfl | rfl | rfl:op=18∨op=19∨op=20∨op=21:=by omega
 ·cases a
  ·repeat first
    | (refine AW.qr (by kernel_rfl) ?_;simp -implicitDefEqProofs only[go_sem,seval,↓reduceIte])
    | (refine AW.region (by kernel_rfl) ?_;simp -implicitDefEqProofs only[go_sem,seval,↓reduceIte])
    | refine AW.qq ?_
    | refine AW.block ?_
    | refine AW.qT rfl ?_
    | refine AW.qF rfl ?_
    | (refine AW.skip ?_;simp -implicitDefEqProofs only[go_sem,seval,↓reduceIte])
    | (refine AW.exit ?_;simp -implicitDefEqProofs only[go_sem,seval,↓reduceIte])
    | (refine AW.ret ?_;simp -implicitDefEqProofs only[go_sem,seval,↓reduceIte];refine endK_some ?_)
   refine CallA.pure hG (by kernel_rfl) ?_
   simp -implicitDefEqProofs only[go_sem,seval,↓reduceIte,recol_xns,recol_bis,lk10,encXN_K]
   refine (tolds_spec G _ 0).mono ?_
   rintro _ _ rfl
   simp -implicitDefEqProofs only[go_sem,seval,↓reduceIte,encVE,encEV]
   repeat first
    | (refine AW.qr (by kernel_rfl) ?_;simp -implicitDefEqProofs only[go_sem,seval,↓reduceIte])
    | (refine AW.region (by kernel_rfl) ?_;simp -implicitDefEqProofs only[go_sem,seval,↓reduceIte])
    | refine AW.qq ?_
    | refine AW.block ?_
    | refine AW.qT rfl ?_
    | refine AW.qF rfl ?_
    | (refine AW.skip ?_;simp -implicitDefEqProofs only[go_sem,seval,↓reduceIte])
    | (refine AW.exit ?_;simp -implicitDefEqProofs only[go_sem,seval,↓reduceIte])
    | (refine AW.ret ?_;simp -implicitDefEqProofs only[go_sem,seval,↓reduceIte];refine endK_some ?_)
   rfl
  ·repeat first
    | (refine AW.qr (by kernel_rfl) ?_;simp -implicitDefEqProofs only[go_sem,seval,↓reduceIte])
    | (refine AW.region (by kernel_rfl) ?_;simp -implicitDefEqProofs only[go_sem,seval,↓reduceIte])
    | refine AW.qq ?_
    | refine AW.block ?_
    | refine AW.qT rfl ?_
    | refine AW.qF rfl ?_
    | (refine AW.skip ?_;simp -implicitDefEqProofs only[go_sem,seval,↓reduceIte])
    | (refine AW.exit ?_;simp -implicitDefEqProofs only[go_sem,seval,↓reduceIte])
    | (refine AW.ret ?_;simp -implicitDefEqProofs only[go_sem,seval,↓reduceIte];refine endK_some ?_)
   refine CallA.pure hG (by kernel_rfl) ?_
   simp -implicitDefEqProofs only[go_sem,seval,↓reduceIte,recol_xns,recol_bis,lk10,encXN_K]
   refine (truth10 G hG c1.ent c2.ent sl env nb B hB fB).mono ?_
   rintro _ _ rfl
   simp -implicitDefEqProofs only[go_sem,seval,↓reduceIte,encTE]
   by_cases hBe:∃ e,B.need 2 = .err e
   ·obtain ⟨e,he⟩:=hBe
    have h00:¬ e=0:=by simpa using (hEr e he).1
    rw [hX,if_neg (by decide),if_neg (by decide),need2_err _ he,he]
    repeat first
     | (refine AW.qr (by kernel_rfl) ?_;simp -implicitDefEqProofs only[go_sem,seval,↓reduceIte,EV.er,EV.tr])
     | (refine AW.region (by kernel_rfl) ?_;simp -implicitDefEqProofs only[go_sem,seval,↓reduceIte,EV.er,EV.tr])
     | refine AW.qq ?_
     | refine AW.block ?_
     | refine AW.qT rfl ?_
     | refine AW.qF rfl ?_
     | (refine AW.skip ?_;simp -implicitDefEqProofs only[go_sem,seval,↓reduceIte,EV.er,EV.tr])
     | (refine AW.exit ?_;simp -implicitDefEqProofs only[go_sem,seval,↓reduceIte,EV.er,EV.tr])
     | (refine AW.ret ?_;simp -implicitDefEqProofs only[go_sem,seval,↓reduceIte,EV.er,EV.tr];refine endK_some ?_)
    refine CallA.pure hG (by kernel_rfl) ?_
    simp -implicitDefEqProofs only[go_sem,seval,↓reduceIte,recol_xns,recol_bis,lk10,encXN_K]
    refine (tolds_spec G _ _).mono ?_
    rintro _ _ rfl
    simp -implicitDefEqProofs only[go_sem,seval,↓reduceIte,if_neg h00,encVE,encEV]
    repeat first
     | (refine AW.qr (by kernel_rfl) ?_;simp -implicitDefEqProofs only[go_sem,seval,↓reduceIte])
     | (refine AW.region (by kernel_rfl) ?_;simp -implicitDefEqProofs only[go_sem,seval,↓reduceIte])
     | refine AW.qq ?_
     | refine AW.block ?_
     | refine AW.qT rfl ?_
     | refine AW.qF rfl ?_
     | (refine AW.skip ?_;simp -implicitDefEqProofs only[go_sem,seval,↓reduceIte])
     | (refine AW.exit ?_;simp -implicitDefEqProofs only[go_sem,seval,↓reduceIte])
     | (refine AW.ret ?_;simp -implicitDefEqProofs only[go_sem,seval,↓reduceIte];refine endK_some ?_)
    rfl
   obtain ⟨b,rfl⟩:=need2_ok fun e he=>hBe ⟨e,he⟩
   rw [need2_tru]
   simp -implicitDefEqProofs only[go_sem,seval,↓reduceIte,EV.er,EV.tr]
   repeat first
    | (refine AW.qr (by kernel_rfl) ?_;simp -implicitDefEqProofs only[go_sem,seval,↓reduceIte])
    | (refine AW.region (by kernel_rfl) ?_;simp -implicitDefEqProofs only[go_sem,seval,↓reduceIte])
    | refine AW.qq ?_
    | refine AW.block ?_
    | refine AW.qT rfl ?_
    | refine AW.qF rfl ?_
    | (refine AW.skip ?_;simp -implicitDefEqProofs only[go_sem,seval,↓reduceIte])
    | (refine AW.exit ?_;simp -implicitDefEqProofs only[go_sem,seval,↓reduceIte])
    | (refine AW.ret ?_;simp -implicitDefEqProofs only[go_sem,seval,↓reduceIte];refine endK_some ?_)
   refine CallA.pure hG (by kernel_rfl) ?_
   simp -implicitDefEqProofs only[go_sem,seval,↓reduceIte,recol_xns,recol_bis,lk10,encXN_K]
   refine (tolds_spec G _ 0).mono ?_
   rintro _ _ rfl
   simp -implicitDefEqProofs only[go_sem,seval,↓reduceIte,encVE,encEV]
   repeat first
    | (refine AW.qr (by kernel_rfl) ?_;simp -implicitDefEqProofs only[go_sem,seval,↓reduceIte])
    | (refine AW.region (by kernel_rfl) ?_;simp -implicitDefEqProofs only[go_sem,seval,↓reduceIte])
    | refine AW.qq ?_
    | refine AW.block ?_
    | refine AW.qT rfl ?_
    | refine AW.qF rfl ?_
    | (refine AW.skip ?_;simp -implicitDefEqProofs only[go_sem,seval,↓reduceIte])
    | (refine AW.exit ?_;simp -implicitDefEqProofs only[go_sem,seval,↓reduceIte])
    | (refine AW.ret ?_;simp -implicitDefEqProofs only[go_sem,seval,↓reduceIte];refine endK_some ?_)
   rfl
 ·cases a
  ·repeat first
    | (refine AW.qr (by kernel_rfl) ?_;simp -implicitDefEqProofs only[go_sem,seval,↓reduceIte])
    | (refine AW.region (by kernel_rfl) ?_;simp -implicitDefEqProofs only[go_sem,seval,↓reduceIte])
    | refine AW.qq ?_
    | refine AW.block ?_
    | refine AW.qT rfl ?_
    | refine AW.qF rfl ?_
    | (refine AW.skip ?_;simp -implicitDefEqProofs only[go_sem,seval,↓reduceIte])
    | (refine AW.exit ?_;simp -implicitDefEqProofs only[go_sem,seval,↓reduceIte])
    | (refine AW.ret ?_;simp -implicitDefEqProofs only[go_sem,seval,↓reduceIte];refine endK_some ?_)
   refine CallA.pure hG (by kernel_rfl) ?_
   simp -implicitDefEqProofs only[go_sem,seval,↓reduceIte,recol_xns,recol_bis,lk10,encXN_K]
   refine (truth10 G hG c1.ent c2.ent sl env nb B hB fB).mono ?_
   rintro _ _ rfl
   simp -implicitDefEqProofs only[go_sem,seval,↓reduceIte,encTE]
   by_cases hBe:∃ e,B.need 2 = .err e
   ·obtain ⟨e,he⟩:=hBe
    have h00:¬ e=0:=by simpa using (hEr e he).1
    rw [hX,if_neg (by decide),if_neg (by decide),need2_err _ he,he]
    repeat first
     | (refine AW.qr (by kernel_rfl) ?_;simp -implicitDefEqProofs only[go_sem,seval,↓reduceIte,EV.er,EV.tr])
     | (refine AW.region (by kernel_rfl) ?_;simp -implicitDefEqProofs only[go_sem,seval,↓reduceIte,EV.er,EV.tr])
     | refine AW.qq ?_
     | refine AW.block ?_
     | refine AW.qT rfl ?_
     | refine AW.qF rfl ?_
     | (refine AW.skip ?_;simp -implicitDefEqProofs only[go_sem,seval,↓reduceIte,EV.er,EV.tr])
     | (refine AW.exit ?_;simp -implicitDefEqProofs only[go_sem,seval,↓reduceIte,EV.er,EV.tr])
     | (refine AW.ret ?_;simp -implicitDefEqProofs only[go_sem,seval,↓reduceIte,EV.er,EV.tr];refine endK_some ?_)
    refine CallA.pure hG (by kernel_rfl) ?_
    simp -implicitDefEqProofs only[go_sem,seval,↓reduceIte,recol_xns,recol_bis,lk10,encXN_K]
    refine (tolds_spec G _ _).mono ?_
    rintro _ _ rfl
    simp -implicitDefEqProofs only[go_sem,seval,↓reduceIte,if_neg h00,encVE,encEV]
    repeat first
     | (refine AW.qr (by kernel_rfl) ?_;simp -implicitDefEqProofs only[go_sem,seval,↓reduceIte])
     | (refine AW.region (by kernel_rfl) ?_;simp -implicitDefEqProofs only[go_sem,seval,↓reduceIte])
     | refine AW.qq ?_
     | refine AW.block ?_
     | refine AW.qT rfl ?_
     | refine AW.qF rfl ?_
     | (refine AW.skip ?_;simp -implicitDefEqProofs only[go_sem,seval,↓reduceIte])
     | (refine AW.exit ?_;simp -implicitDefEqProofs only[go_sem,seval,↓reduceIte])
     | (refine AW.ret ?_;simp -implicitDefEqProofs only[go_sem,seval,↓reduceIte];refine endK_some ?_)
    rfl
   obtain ⟨b,rfl⟩:=need2_ok fun e he=>hBe ⟨e,he⟩
   rw [need2_tru]
   simp -implicitDefEqProofs only[go_sem,seval,↓reduceIte,EV.er,EV.tr]
   repeat first
    | (refine AW.qr (by kernel_rfl) ?_;simp -implicitDefEqProofs only[go_sem,seval,↓reduceIte])
    | (refine AW.region (by kernel_rfl) ?_;simp -implicitDefEqProofs only[go_sem,seval,↓reduceIte])
    | refine AW.qq ?_
    | refine AW.block ?_
    | refine AW.qT rfl ?_
    | refine AW.qF rfl ?_
    | (refine AW.skip ?_;simp -implicitDefEqProofs only[go_sem,seval,↓reduceIte])
    | (refine AW.exit ?_;simp -implicitDefEqProofs only[go_sem,seval,↓reduceIte])
    | (refine AW.ret ?_;simp -implicitDefEqProofs only[go_sem,seval,↓reduceIte];refine endK_some ?_)
   refine CallA.pure hG (by kernel_rfl) ?_
   simp -implicitDefEqProofs only[go_sem,seval,↓reduceIte,recol_xns,recol_bis,lk10,encXN_K]
   refine (tolds_spec G _ 0).mono ?_
   rintro _ _ rfl
   simp -implicitDefEqProofs only[go_sem,seval,↓reduceIte,encVE,encEV]
   repeat first
    | (refine AW.qr (by kernel_rfl) ?_;simp -implicitDefEqProofs only[go_sem,seval,↓reduceIte])
    | (refine AW.region (by kernel_rfl) ?_;simp -implicitDefEqProofs only[go_sem,seval,↓reduceIte])
    | refine AW.qq ?_
    | refine AW.block ?_
    | refine AW.qT rfl ?_
    | refine AW.qF rfl ?_
    | (refine AW.skip ?_;simp -implicitDefEqProofs only[go_sem,seval,↓reduceIte])
    | (refine AW.exit ?_;simp -implicitDefEqProofs only[go_sem,seval,↓reduceIte])
    | (refine AW.ret ?_;simp -implicitDefEqProofs only[go_sem,seval,↓reduceIte];refine endK_some ?_)
   rfl
  ·repeat first
    | (refine AW.qr (by kernel_rfl) ?_;simp -implicitDefEqProofs only[go_sem,seval,↓reduceIte])
    | (refine AW.region (by kernel_rfl) ?_;simp -implicitDefEqProofs only[go_sem,seval,↓reduceIte])
    | refine AW.qq ?_
    | refine AW.block ?_
    | refine AW.qT rfl ?_
    | refine AW.qF rfl ?_
    | (refine AW.skip ?_;simp -implicitDefEqProofs only[go_sem,seval,↓reduceIte])
    | (refine AW.exit ?_;simp -implicitDefEqProofs only[go_sem,seval,↓reduceIte])
    | (refine AW.ret ?_;simp -implicitDefEqProofs only[go_sem,seval,↓reduceIte];refine endK_some ?_)
   refine CallA.pure hG (by kernel_rfl) ?_
   simp -implicitDefEqProofs only[go_sem,seval,↓reduceIte,recol_xns,recol_bis,lk10,encXN_K]
   refine (tolds_spec G _ 0).mono ?_
   rintro _ _ rfl
   simp -implicitDefEqProofs only[go_sem,seval,↓reduceIte,encVE,encEV]
   repeat first
    | (refine AW.qr (by kernel_rfl) ?_;simp -implicitDefEqProofs only[go_sem,seval,↓reduceIte])
    | (refine AW.region (by kernel_rfl) ?_;simp -implicitDefEqProofs only[go_sem,seval,↓reduceIte])
    | refine AW.qq ?_
    | refine AW.block ?_
    | refine AW.qT rfl ?_
    | refine AW.qF rfl ?_
    | (refine AW.skip ?_;simp -implicitDefEqProofs only[go_sem,seval,↓reduceIte])
    | (refine AW.exit ?_;simp -implicitDefEqProofs only[go_sem,seval,↓reduceIte])
    | (refine AW.ret ?_;simp -implicitDefEqProofs only[go_sem,seval,↓reduceIte];refine endK_some ?_)
   rfl
 ·cases a
  ·repeat first
    | (refine AW.qr (by kernel_rfl) ?_;simp -implicitDefEqProofs only[go_sem,seval,↓reduceIte])
    | (refine AW.region (by kernel_rfl) ?_;simp -implicitDefEqProofs only[go_sem,seval,↓reduceIte])
    | refine AW.qq ?_
    | refine AW.block ?_
    | refine AW.qT rfl ?_
    | refine AW.qF rfl ?_
    | (refine AW.skip ?_;simp -implicitDefEqProofs only[go_sem,seval,↓reduceIte])
    | (refine AW.exit ?_;simp -implicitDefEqProofs only[go_sem,seval,↓reduceIte])
    | (refine AW.ret ?_;simp -implicitDefEqProofs only[go_sem,seval,↓reduceIte];refine endK_some ?_)
   refine CallA.pure hG (by kernel_rfl) ?_
   simp -implicitDefEqProofs only[go_sem,seval,↓reduceIte,recol_xns,recol_bis,lk10,encXN_K]
   refine (truth10 G hG c1.ent c2.ent sl env nb B hB fB).mono ?_
   rintro _ _ rfl
   simp -implicitDefEqProofs only[go_sem,seval,↓reduceIte,encTE]
   by_cases hBe:∃ e,B.need 2 = .err e
   ·obtain ⟨e,he⟩:=hBe
    have h00:¬ e=0:=by simpa using (hEr e he).1
    rw [hX,if_neg (by decide),if_neg (by decide),need2_err _ he,he]
    repeat first
     | (refine AW.qr (by kernel_rfl) ?_;simp -implicitDefEqProofs only[go_sem,seval,↓reduceIte,EV.er,EV.tr])
     | (refine AW.region (by kernel_rfl) ?_;simp -implicitDefEqProofs only[go_sem,seval,↓reduceIte,EV.er,EV.tr])
     | refine AW.qq ?_
     | refine AW.block ?_
     | refine AW.qT rfl ?_
     | refine AW.qF rfl ?_
     | (refine AW.skip ?_;simp -implicitDefEqProofs only[go_sem,seval,↓reduceIte,EV.er,EV.tr])
     | (refine AW.exit ?_;simp -implicitDefEqProofs only[go_sem,seval,↓reduceIte,EV.er,EV.tr])
     | (refine AW.ret ?_;simp -implicitDefEqProofs only[go_sem,seval,↓reduceIte,EV.er,EV.tr];refine endK_some ?_)
    refine CallA.pure hG (by kernel_rfl) ?_
    simp -implicitDefEqProofs only[go_sem,seval,↓reduceIte,recol_xns,recol_bis,lk10,encXN_K]
    refine (tolds_spec G _ _).mono ?_
    rintro _ _ rfl
    simp -implicitDefEqProofs only[go_sem,seval,↓reduceIte,if_neg h00,encVE,encEV]
    repeat first
     | (refine AW.qr (by kernel_rfl) ?_;simp -implicitDefEqProofs only[go_sem,seval,↓reduceIte])
     | (refine AW.region (by kernel_rfl) ?_;simp -implicitDefEqProofs only[go_sem,seval,↓reduceIte])
     | refine AW.qq ?_
     | refine AW.block ?_
     | refine AW.qT rfl ?_
     | refine AW.qF rfl ?_
     | (refine AW.skip ?_;simp -implicitDefEqProofs only[go_sem,seval,↓reduceIte])
     | (refine AW.exit ?_;simp -implicitDefEqProofs only[go_sem,seval,↓reduceIte])
     | (refine AW.ret ?_;simp -implicitDefEqProofs only[go_sem,seval,↓reduceIte];refine endK_some ?_)
    rfl
   obtain ⟨b,rfl⟩:=need2_ok fun e he=>hBe ⟨e,he⟩
   rw [need2_tru]
   simp -implicitDefEqProofs only[go_sem,seval,↓reduceIte,EV.er,EV.tr]
   repeat first
    | (refine AW.qr (by kernel_rfl) ?_;simp -implicitDefEqProofs only[go_sem,seval,↓reduceIte])
    | (refine AW.region (by kernel_rfl) ?_;simp -implicitDefEqProofs only[go_sem,seval,↓reduceIte])
    | refine AW.qq ?_
    | refine AW.block ?_
    | refine AW.qT rfl ?_
    | refine AW.qF rfl ?_
    | (refine AW.skip ?_;simp -implicitDefEqProofs only[go_sem,seval,↓reduceIte])
    | (refine AW.exit ?_;simp -implicitDefEqProofs only[go_sem,seval,↓reduceIte])
    | (refine AW.ret ?_;simp -implicitDefEqProofs only[go_sem,seval,↓reduceIte];refine endK_some ?_)
   refine CallA.pure hG (by kernel_rfl) ?_
   simp -implicitDefEqProofs only[go_sem,seval,↓reduceIte,recol_xns,recol_bis,lk10,encXN_K]
   refine (tolds_spec G _ 0).mono ?_
   rintro _ _ rfl
   simp -implicitDefEqProofs only[go_sem,seval,↓reduceIte,encVE,encEV]
   repeat first
    | (refine AW.qr (by kernel_rfl) ?_;simp -implicitDefEqProofs only[go_sem,seval,↓reduceIte])
    | (refine AW.region (by kernel_rfl) ?_;simp -implicitDefEqProofs only[go_sem,seval,↓reduceIte])
    | refine AW.qq ?_
    | refine AW.block ?_
    | refine AW.qT rfl ?_
    | refine AW.qF rfl ?_
    | (refine AW.skip ?_;simp -implicitDefEqProofs only[go_sem,seval,↓reduceIte])
    | (refine AW.exit ?_;simp -implicitDefEqProofs only[go_sem,seval,↓reduceIte])
    | (refine AW.ret ?_;simp -implicitDefEqProofs only[go_sem,seval,↓reduceIte];refine endK_some ?_)
   rfl
  ·repeat first
    | (refine AW.qr (by kernel_rfl) ?_;simp -implicitDefEqProofs only[go_sem,seval,↓reduceIte])
    | (refine AW.region (by kernel_rfl) ?_;simp -implicitDefEqProofs only[go_sem,seval,↓reduceIte])
    | refine AW.qq ?_
    | refine AW.block ?_
    | refine AW.qT rfl ?_
    | refine AW.qF rfl ?_
    | (refine AW.skip ?_;simp -implicitDefEqProofs only[go_sem,seval,↓reduceIte])
    | (refine AW.exit ?_;simp -implicitDefEqProofs only[go_sem,seval,↓reduceIte])
    | (refine AW.ret ?_;simp -implicitDefEqProofs only[go_sem,seval,↓reduceIte];refine endK_some ?_)
   refine CallA.pure hG (by kernel_rfl) ?_
   simp -implicitDefEqProofs only[go_sem,seval,↓reduceIte,recol_xns,recol_bis,lk10,encXN_K]
   refine (truth10 G hG c1.ent c2.ent sl env nb B hB fB).mono ?_
   rintro _ _ rfl
   simp -implicitDefEqProofs only[go_sem,seval,↓reduceIte,encTE]
   by_cases hBe:∃ e,B.need 2 = .err e
   ·obtain ⟨e,he⟩:=hBe
    have h00:¬ e=0:=by simpa using (hEr e he).1
    rw [hX,if_neg (by decide),if_neg (by decide),need2_err _ he,he]
    repeat first
     | (refine AW.qr (by kernel_rfl) ?_;simp -implicitDefEqProofs only[go_sem,seval,↓reduceIte,EV.er,EV.tr])
     | (refine AW.region (by kernel_rfl) ?_;simp -implicitDefEqProofs only[go_sem,seval,↓reduceIte,EV.er,EV.tr])
     | refine AW.qq ?_
     | refine AW.block ?_
     | refine AW.qT rfl ?_
     | refine AW.qF rfl ?_
     | (refine AW.skip ?_;simp -implicitDefEqProofs only[go_sem,seval,↓reduceIte,EV.er,EV.tr])
     | (refine AW.exit ?_;simp -implicitDefEqProofs only[go_sem,seval,↓reduceIte,EV.er,EV.tr])
     | (refine AW.ret ?_;simp -implicitDefEqProofs only[go_sem,seval,↓reduceIte,EV.er,EV.tr];refine endK_some ?_)
    refine CallA.pure hG (by kernel_rfl) ?_
    simp -implicitDefEqProofs only[go_sem,seval,↓reduceIte,recol_xns,recol_bis,lk10,encXN_K]
    refine (tolds_spec G _ _).mono ?_
    rintro _ _ rfl
    simp -implicitDefEqProofs only[go_sem,seval,↓reduceIte,if_neg h00,encVE,encEV]
    repeat first
     | (refine AW.qr (by kernel_rfl) ?_;simp -implicitDefEqProofs only[go_sem,seval,↓reduceIte])
     | (refine AW.region (by kernel_rfl) ?_;simp -implicitDefEqProofs only[go_sem,seval,↓reduceIte])
     | refine AW.qq ?_
     | refine AW.block ?_
     | refine AW.qT rfl ?_
     | refine AW.qF rfl ?_
     | (refine AW.skip ?_;simp -implicitDefEqProofs only[go_sem,seval,↓reduceIte])
     | (refine AW.exit ?_;simp -implicitDefEqProofs only[go_sem,seval,↓reduceIte])
     | (refine AW.ret ?_;simp -implicitDefEqProofs only[go_sem,seval,↓reduceIte];refine endK_some ?_)
    rfl
   obtain ⟨b,rfl⟩:=need2_ok fun e he=>hBe ⟨e,he⟩
   rw [need2_tru]
   simp -implicitDefEqProofs only[go_sem,seval,↓reduceIte,EV.er,EV.tr]
   repeat first
    | (refine AW.qr (by kernel_rfl) ?_;simp -implicitDefEqProofs only[go_sem,seval,↓reduceIte])
    | (refine AW.region (by kernel_rfl) ?_;simp -implicitDefEqProofs only[go_sem,seval,↓reduceIte])
    | refine AW.qq ?_
    | refine AW.block ?_
    | refine AW.qT rfl ?_
    | refine AW.qF rfl ?_
    | (refine AW.skip ?_;simp -implicitDefEqProofs only[go_sem,seval,↓reduceIte])
    | (refine AW.exit ?_;simp -implicitDefEqProofs only[go_sem,seval,↓reduceIte])
    | (refine AW.ret ?_;simp -implicitDefEqProofs only[go_sem,seval,↓reduceIte];refine endK_some ?_)
   refine CallA.pure hG (by kernel_rfl) ?_
   simp -implicitDefEqProofs only[go_sem,seval,↓reduceIte,recol_xns,recol_bis,lk10,encXN_K]
   refine (tolds_spec G _ 0).mono ?_
   rintro _ _ rfl
   simp -implicitDefEqProofs only[go_sem,seval,↓reduceIte,encVE,encEV]
   repeat first
    | (refine AW.qr (by kernel_rfl) ?_;simp -implicitDefEqProofs only[go_sem,seval,↓reduceIte])
    | (refine AW.region (by kernel_rfl) ?_;simp -implicitDefEqProofs only[go_sem,seval,↓reduceIte])
    | refine AW.qq ?_
    | refine AW.block ?_
    | refine AW.qT rfl ?_
    | refine AW.qF rfl ?_
    | (refine AW.skip ?_;simp -implicitDefEqProofs only[go_sem,seval,↓reduceIte])
    | (refine AW.exit ?_;simp -implicitDefEqProofs only[go_sem,seval,↓reduceIte])
    | (refine AW.ret ?_;simp -implicitDefEqProofs only[go_sem,seval,↓reduceIte];refine endK_some ?_)
   rfl
 ·cases a
  ·repeat first
    | (refine AW.qr (by kernel_rfl) ?_;simp -implicitDefEqProofs only[go_sem,seval,↓reduceIte])
    | (refine AW.region (by kernel_rfl) ?_;simp -implicitDefEqProofs only[go_sem,seval,↓reduceIte])
    | refine AW.qq ?_
    | refine AW.block ?_
    | refine AW.qT rfl ?_
    | refine AW.qF rfl ?_
    | (refine AW.skip ?_;simp -implicitDefEqProofs only[go_sem,seval,↓reduceIte])
    | (refine AW.exit ?_;simp -implicitDefEqProofs only[go_sem,seval,↓reduceIte])
    | (refine AW.ret ?_;simp -implicitDefEqProofs only[go_sem,seval,↓reduceIte];refine endK_some ?_)
   refine CallA.pure hG (by kernel_rfl) ?_
   simp -implicitDefEqProofs only[go_sem,seval,↓reduceIte,recol_xns,recol_bis,lk10,encXN_K]
   refine (tolds_spec G _ 0).mono ?_
   rintro _ _ rfl
   simp -implicitDefEqProofs only[go_sem,seval,↓reduceIte,encVE,encEV]
   repeat first
    | (refine AW.qr (by kernel_rfl) ?_;simp -implicitDefEqProofs only[go_sem,seval,↓reduceIte])
    | (refine AW.region (by kernel_rfl) ?_;simp -implicitDefEqProofs only[go_sem,seval,↓reduceIte])
    | refine AW.qq ?_
    | refine AW.block ?_
    | refine AW.qT rfl ?_
    | refine AW.qF rfl ?_
    | (refine AW.skip ?_;simp -implicitDefEqProofs only[go_sem,seval,↓reduceIte])
    | (refine AW.exit ?_;simp -implicitDefEqProofs only[go_sem,seval,↓reduceIte])
    | (refine AW.ret ?_;simp -implicitDefEqProofs only[go_sem,seval,↓reduceIte];refine endK_some ?_)
   rfl
  ·repeat first
    | (refine AW.qr (by kernel_rfl) ?_;simp -implicitDefEqProofs only[go_sem,seval,↓reduceIte])
    | (refine AW.region (by kernel_rfl) ?_;simp -implicitDefEqProofs only[go_sem,seval,↓reduceIte])
    | refine AW.qq ?_
    | refine AW.block ?_
    | refine AW.qT rfl ?_
    | refine AW.qF rfl ?_
    | (refine AW.skip ?_;simp -implicitDefEqProofs only[go_sem,seval,↓reduceIte])
    | (refine AW.exit ?_;simp -implicitDefEqProofs only[go_sem,seval,↓reduceIte])
    | (refine AW.ret ?_;simp -implicitDefEqProofs only[go_sem,seval,↓reduceIte];refine endK_some ?_)
   refine CallA.pure hG (by kernel_rfl) ?_
   simp -implicitDefEqProofs only[go_sem,seval,↓reduceIte,recol_xns,recol_bis,lk10,encXN_K]
   refine (truth10 G hG c1.ent c2.ent sl env nb B hB fB).mono ?_
   rintro _ _ rfl
   simp -implicitDefEqProofs only[go_sem,seval,↓reduceIte,encTE]
   by_cases hBe:∃ e,B.need 2 = .err e
   ·obtain ⟨e,he⟩:=hBe
    have h00:¬ e=0:=by simpa using (hEr e he).1
    rw [hX,if_neg (by decide),if_neg (by decide),need2_err _ he,he]
    repeat first
     | (refine AW.qr (by kernel_rfl) ?_;simp -implicitDefEqProofs only[go_sem,seval,↓reduceIte,EV.er,EV.tr])
     | (refine AW.region (by kernel_rfl) ?_;simp -implicitDefEqProofs only[go_sem,seval,↓reduceIte,EV.er,EV.tr])
     | refine AW.qq ?_
     | refine AW.block ?_
     | refine AW.qT rfl ?_
     | refine AW.qF rfl ?_
     | (refine AW.skip ?_;simp -implicitDefEqProofs only[go_sem,seval,↓reduceIte,EV.er,EV.tr])
     | (refine AW.exit ?_;simp -implicitDefEqProofs only[go_sem,seval,↓reduceIte,EV.er,EV.tr])
     | (refine AW.ret ?_;simp -implicitDefEqProofs only[go_sem,seval,↓reduceIte,EV.er,EV.tr];refine endK_some ?_)
    refine CallA.pure hG (by kernel_rfl) ?_
    simp -implicitDefEqProofs only[go_sem,seval,↓reduceIte,recol_xns,recol_bis,lk10,encXN_K]
    refine (tolds_spec G _ _).mono ?_
    rintro _ _ rfl
    simp -implicitDefEqProofs only[go_sem,seval,↓reduceIte,if_neg h00,encVE,encEV]
    repeat first
     | (refine AW.qr (by kernel_rfl) ?_;simp -implicitDefEqProofs only[go_sem,seval,↓reduceIte])
     | (refine AW.region (by kernel_rfl) ?_;simp -implicitDefEqProofs only[go_sem,seval,↓reduceIte])
     | refine AW.qq ?_
     | refine AW.block ?_
     | refine AW.qT rfl ?_
     | refine AW.qF rfl ?_
     | (refine AW.skip ?_;simp -implicitDefEqProofs only[go_sem,seval,↓reduceIte])
     | (refine AW.exit ?_;simp -implicitDefEqProofs only[go_sem,seval,↓reduceIte])
     | (refine AW.ret ?_;simp -implicitDefEqProofs only[go_sem,seval,↓reduceIte];refine endK_some ?_)
    rfl
   obtain ⟨b,rfl⟩:=need2_ok fun e he=>hBe ⟨e,he⟩
   rw [need2_tru]
   simp -implicitDefEqProofs only[go_sem,seval,↓reduceIte,EV.er,EV.tr]
   repeat first
    | (refine AW.qr (by kernel_rfl) ?_;simp -implicitDefEqProofs only[go_sem,seval,↓reduceIte])
    | (refine AW.region (by kernel_rfl) ?_;simp -implicitDefEqProofs only[go_sem,seval,↓reduceIte])
    | refine AW.qq ?_
    | refine AW.block ?_
    | refine AW.qT rfl ?_
    | refine AW.qF rfl ?_
    | (refine AW.skip ?_;simp -implicitDefEqProofs only[go_sem,seval,↓reduceIte])
    | (refine AW.exit ?_;simp -implicitDefEqProofs only[go_sem,seval,↓reduceIte])
    | (refine AW.ret ?_;simp -implicitDefEqProofs only[go_sem,seval,↓reduceIte];refine endK_some ?_)
   refine CallA.pure hG (by kernel_rfl) ?_
   simp -implicitDefEqProofs only[go_sem,seval,↓reduceIte,recol_xns,recol_bis,lk10,encXN_K]
   refine (tolds_spec G _ 0).mono ?_
   rintro _ _ rfl
   simp -implicitDefEqProofs only[go_sem,seval,↓reduceIte,encVE,encEV]
   repeat first
    | (refine AW.qr (by kernel_rfl) ?_;simp -implicitDefEqProofs only[go_sem,seval,↓reduceIte])
    | (refine AW.region (by kernel_rfl) ?_;simp -implicitDefEqProofs only[go_sem,seval,↓reduceIte])
    | refine AW.qq ?_
    | refine AW.block ?_
    | refine AW.qT rfl ?_
    | refine AW.qF rfl ?_
    | (refine AW.skip ?_;simp -implicitDefEqProofs only[go_sem,seval,↓reduceIte])
    | (refine AW.exit ?_;simp -implicitDefEqProofs only[go_sem,seval,↓reduceIte])
    | (refine AW.ret ?_;simp -implicitDefEqProofs only[go_sem,seval,↓reduceIte];refine endK_some ?_)
   rfl
end Go.Hs
end
