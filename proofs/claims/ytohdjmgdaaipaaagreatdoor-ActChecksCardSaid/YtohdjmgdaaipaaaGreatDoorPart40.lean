/- Part 40 of the proof of a statement of seat YtohdjmgdaaipaaaGreatDoor: HsHExprDep3 HsHExprDep4 HsExprNm HsExprP HsHExprFr HsHExprPa HsActLaw HsHActR HsHPrtShelf HsHPrtCat HsLexLaw3 HsLexLaw4 HsNumBackLaw HsExprPrn HsHPrtW HsExprBkLaw HsHPrtW2 HsHNumRef5 HsHNumRefPut HsHPrtR HsHPrtP. -/
import Derived.Test.YtohdjmgdaaipaaaGreatDoorPart39
import Derived.Test.YtohdjmgdaaipaaaGreatDoorPart38
import Derived.Test.YtohdjmgdaaipaaaGreatDoorPart37
import Derived.Test.YtohdjmgdaaipaaaGreatDoorChecked
import Derived.Shelf.Spec.SlicesGrow
import Derived.Ground.Names7Prog
import Derived.Test.YtohdjmgdaaipaaaGreatDoorPart20
import Derived.Test.YtohdjmgdaaipaaaGreatDoorPart34
import Derived.Test.YtohdjmgdaaipaaaGreatDoorPart33
import Derived.Test.YtohdjmgdaaipaaaGreatDoorPart24
import Derived.Test.YtohdjmgdaaipaaaGreatDoorPart31
import Derived.Test.YtohdjmgdaaipaaaGreatDoorPart32
import Derived.Test.YtohdjmgdaaipaaaGreatDoorPart35
set_option linter.unusedSimpArgs false
set_option linter.unusedVariables false
section
namespace Go.Hs
open Go.Proofs
set_option maxRecDepth 10000
theorem rPartsOf_spec (G:Nat→V) (hG:GOk G) (op:Int):Spec Tryz.prog G 165 [.int .u8 op] hNone (fun v _=>v = .int .i64 (partsOf op:Nat)):=by
 refine Spec.of_code' 0 12 [.tmp 2] Tryz.func165 rfl rfl rfl rfl fun X=>?_
 have hP:partsOf op=if op≤4 then 0 else if op≤6 then 1 else if op≤21 then 2 else 3:=rfl
 refine AW.seq_k fun K hK=>AW.region (by kernel_rfl) ?_;simp -implicitDefEqProofs only[go_sem,seval,↓reduceIte];refine hK _ ?_;clear hK K;refine AW.seqJ (fun (_:Unit)=>st [] []) (fun _=>¬ op≤4∧¬ op≤6∧¬ op≤21) (fun K1 hK1=>?_) ?_
 ·refine AW.block ?_
  refine AW.seq_k fun K hK=>AW.region (by kernel_rfl) ?_;simp -implicitDefEqProofs only[go_sem,seval,↓reduceIte];refine hK _ ?_;clear hK K;refine AW.condS (by simp -implicitDefEqProofs only[go_sem,seval,↓reduceIte];rfl) (fun h1=>?_) (fun h1=>?_)
  ·refine AW.seq_k fun K hK=>AW.region (by kernel_rfl) ?_
   simp -implicitDefEqProofs only[go_sem,seval,↓reduceIte];refine hK _ ?_;clear hK K;refine AW.ret ?_;simp -implicitDefEqProofs only[go_sem,seval,↓reduceIte];refine endK_some ?_;rw [hP,if_pos (by simpa using h1)];rfl
  refine AW.seq_k fun K hK=>AW.region (by kernel_rfl) ?_;simp -implicitDefEqProofs only[go_sem,seval,↓reduceIte];refine hK _ ?_;clear hK K;refine AW.condS (by simp -implicitDefEqProofs only[go_sem,seval,↓reduceIte];rfl) (fun h2=>?_) (fun h2=>?_)
  ·refine AW.seq_k fun K hK=>AW.region (by kernel_rfl) ?_
   simp -implicitDefEqProofs only[go_sem,seval,↓reduceIte];refine hK _ ?_;clear hK K;refine AW.ret ?_;simp -implicitDefEqProofs only[go_sem,seval,↓reduceIte];refine endK_some ?_;rw [hP,if_neg (by simpa using h1),if_pos (by simpa using h2)];rfl
  refine AW.seq_k fun K hK=>AW.region (by kernel_rfl) ?_;simp -implicitDefEqProofs only[go_sem,seval,↓reduceIte];refine hK _ ?_;clear hK K;refine AW.condS (by simp -implicitDefEqProofs only[go_sem,seval,↓reduceIte];rfl) (fun h3=>?_) (fun h3=>?_)
  ·refine AW.seq_k fun K hK=>AW.region (by kernel_rfl) ?_
   simp -implicitDefEqProofs only[go_sem,seval,↓reduceIte];refine hK _ ?_;clear hK K;refine AW.ret ?_;simp -implicitDefEqProofs only[go_sem,seval,↓reduceIte];refine endK_some ?_;rw [hP,if_neg (by simpa using h1),if_neg (by simpa using h2),if_pos (by simpa using h3)];rfl
  ·refine AW.skip ?_
   simp -implicitDefEqProofs only[go_sem,seval,↓reduceIte];exact hK1 _ () ⟨by simpa using h1,by simpa using h2,by simpa using h3⟩ (Weak.st (by simp -implicitDefEqProofs only[go_sem,seval,↓reduceIte]) (by simp -implicitDefEqProofs only[go_sem,seval,↓reduceIte]))
 rintro _ ⟨h1,h2,h3⟩;refine AW.seq_k fun K hK=>AW.region (by kernel_rfl) ?_;simp -implicitDefEqProofs only[go_sem,seval,↓reduceIte];refine hK _ ?_;clear hK K;refine AW.ret ?_;simp -implicitDefEqProofs only[go_sem,seval,↓reduceIte];refine endK_some ?_;rw [hP,if_neg h1,if_neg h2,if_neg h3];rfl
theorem rRightN_spec (G:Nat→V) (hG:GOk G) (n:XN) (hn:n.name.length<100000):Spec Tryz.prog G 237 [encXN n] hNone (fun v _=>v = .bool (wellP n)):=by
 refine Spec.of_code' 0 36 [.tmp 2] Tryz.func237 rfl rfl rfl rfl fun X=>?_
 have hW:wellP n=if n.op<1∨n.op > 22∨n.num<0 then false else if n.op=2 then n.num==0 && isP n.name==2 else n.name==[] && (n.op==1 || n.num==0):=rfl
 obtain ⟨op,num,name,a,b,c⟩:=n;simp only at hn hW;simp only [encXN_K];refine AW.seq_k fun K hK=>AW.region (by kernel_rfl) ?_;simp -implicitDefEqProofs only[go_sem,seval,↓reduceIte];intro g1;refine hK _ ?_;clear hK K;refine AW.seqJ (fun (_:Unit)=>st [(1,.ptr 1 g1 0)] [(1,.cells .new g1 0 [.int .u8 op,.int .i64 num,.str name,.int .i64 a,.int .i64 b,.int .i64 c])]) (fun _=>wellP ⟨op,num,name,a,b,c⟩=if op=2 then isP name==2 else name==[]) (fun K1 hK1=>?_) ?_
 ·have hK2:(op<1)=False→(op > 22)=False→(num<0)=False→(op=1∨num=0)→wellP ⟨op,num,name,a,b,c⟩=if op=2 then isP name==2 else name==[]:=by
   intro h1 h2 h3 h4;rw [hW,if_neg (by rintro (h | h | h);exact h1 ▸ h;exact h2 ▸ h;exact h3 ▸ h)]
   by_cases ho:op=2
   ·have:num=0:=h4.resolve_left (by omega)
    rw [if_pos ho,if_pos ho,this];rfl
   ·rw [if_neg ho,if_neg ho]
    rcases h4 with h | h
    ·rw [h];simp
    ·rw [h];simp
  have hK3:(op<1∨op > 22∨num<0∨(op≠1∧num≠0))→wellP ⟨op,num,name,a,b,c⟩=false:=by
   intro h;rw [hW]
   split
   ·rfl
   ·rename_i h0
    simp only [not_or] at h0
    obtain ⟨q1,q2⟩:op≠1∧num≠0:=by
     rcases h with h | h | h | h
     ·exact absurd h h0.1
     ·exact absurd h h0.2.1
     ·exact absurd h h0.2.2
     ·exact h
    have e1:(op==1)=false:=by simpa using q1
    have e2:(num==0)=false:=by simpa using q2
    rw [e1,e2];simp
  by_cases q1:op<1
  ·have h1:decide (op<1)=true:=by simpa using q1
   (refine AW.seq_k fun K hK=>AW.region (by kernel_rfl) ?_;simp -implicitDefEqProofs only[go_sem,seval,↓reduceIte,h1];refine hK _ ?_;clear hK K)
   refine AW.condS (b:=true) (by simp -implicitDefEqProofs only[go_sem,seval,↓reduceIte]) (fun _=>?_) (fun h=>by cases h)
   (refine AW.seq_k fun K hK=>AW.region (by kernel_rfl) ?_;simp -implicitDefEqProofs only[go_sem,seval,↓reduceIte];refine hK _ ?_;clear hK K)
   (refine AW.ret ?_;simp -implicitDefEqProofs only[go_sem,seval,↓reduceIte];refine endK_some ?_)
   rw [hK3 (.inl q1)]
  have h1:decide (op<1)=false:=by simpa using q1
  by_cases q2:op > 22
  ·have h2:decide (op > 22)=true:=by simpa using q2
   (refine AW.seq_k fun K hK=>AW.region (by kernel_rfl) ?_;simp -implicitDefEqProofs only[go_sem,seval,↓reduceIte,h1,h2];refine hK _ ?_;clear hK K)
   refine AW.condS (b:=true) (by simp -implicitDefEqProofs only[go_sem,seval,↓reduceIte]) (fun _=>?_) (fun h=>by cases h)
   (refine AW.seq_k fun K hK=>AW.region (by kernel_rfl) ?_;simp -implicitDefEqProofs only[go_sem,seval,↓reduceIte];refine hK _ ?_;clear hK K)
   (refine AW.ret ?_;simp -implicitDefEqProofs only[go_sem,seval,↓reduceIte];refine endK_some ?_)
   rw [hK3 (.inr (.inl q2))]
  have h2:decide (op > 22)=false:=by simpa using q2
  by_cases q4:op=1
  ·have h4:(op != 1)=false:=by simpa using q4
   by_cases q3:num<0
   ·have h3:decide (num<0)=true:=by simpa using q3
    (refine AW.seq_k fun K hK=>AW.region (by kernel_rfl) ?_;simp -implicitDefEqProofs only[go_sem,seval,↓reduceIte,h1,h2,h3,h4];refine hK _ ?_;clear hK K)
    refine AW.condS (b:=true) (by simp -implicitDefEqProofs only[go_sem,seval,↓reduceIte]) (fun _=>?_) (fun h=>by cases h)
    (refine AW.seq_k fun K hK=>AW.region (by kernel_rfl) ?_;simp -implicitDefEqProofs only[go_sem,seval,↓reduceIte];refine hK _ ?_;clear hK K)
    (refine AW.ret ?_;simp -implicitDefEqProofs only[go_sem,seval,↓reduceIte];refine endK_some ?_)
    rw [hK3 (.inr (.inr (.inl q3)))]
   have h3:decide (num<0)=false:=by simpa using q3
   (refine AW.seq_k fun K hK=>AW.region (by kernel_rfl) ?_;simp -implicitDefEqProofs only[go_sem,seval,↓reduceIte,h1,h2,h3,h4];refine hK _ ?_;clear hK K)
   refine AW.condS (b:=false) (by simp -implicitDefEqProofs only[go_sem,seval,↓reduceIte]) (fun h=>by cases h) (fun _=>?_);refine AW.skip ?_;simp -implicitDefEqProofs only[go_sem,seval,↓reduceIte];exact hK1 _ () (hK2 (eq_false q1) (eq_false q2) (eq_false q3) (.inl q4)) (Weak.st (by simp -implicitDefEqProofs only[go_sem,seval,↓reduceIte]) (by simp -implicitDefEqProofs only[go_sem,seval,↓reduceIte]))
  have h4:(op != 1)=true:=by simpa using q4
  by_cases q5:num=0
  ·have h5:(num != 0)=false:=by simpa using q5
   have q3:¬ num<0:=by omega
   have h3:decide (num<0)=false:=by simpa using q3
   (refine AW.seq_k fun K hK=>AW.region (by kernel_rfl) ?_;simp -implicitDefEqProofs only[go_sem,seval,↓reduceIte,h1,h2,h3,h4,h5];refine hK _ ?_;clear hK K)
   refine AW.condS (b:=false) (by simp -implicitDefEqProofs only[go_sem,seval,↓reduceIte]) (fun h=>by cases h) (fun _=>?_);refine AW.skip ?_;simp -implicitDefEqProofs only[go_sem,seval,↓reduceIte];exact hK1 _ () (hK2 (eq_false q1) (eq_false q2) (eq_false q3) (.inr q5)) (Weak.st (by simp -implicitDefEqProofs only[go_sem,seval,↓reduceIte]) (by simp -implicitDefEqProofs only[go_sem,seval,↓reduceIte]))
  have h5:(num != 0)=true:=by simpa using q5
  (refine AW.seq_k fun K hK=>AW.region (by kernel_rfl) ?_;simp -implicitDefEqProofs only[go_sem,seval,↓reduceIte,h1,h2,h4,h5];refine hK _ ?_;clear hK K)
  refine AW.condS (b:=true) (by simp -implicitDefEqProofs only[go_sem,seval,↓reduceIte]) (fun _=>?_) (fun h=>by cases h)
  (refine AW.seq_k fun K hK=>AW.region (by kernel_rfl) ?_;simp -implicitDefEqProofs only[go_sem,seval,↓reduceIte];refine hK _ ?_;clear hK K)
  (refine AW.ret ?_;simp -implicitDefEqProofs only[go_sem,seval,↓reduceIte];refine endK_some ?_)
  rw [hK3 (.inr (.inr (.inr ⟨q4,q5⟩)))]
 rintro _ hW2;refine AW.seq_k fun K2 hK2=>?_;refine AW.seq_k fun K hK=>AW.region (by kernel_rfl) ?_;simp -implicitDefEqProofs only[go_sem,seval,↓reduceIte];refine hK _ ?_;clear hK K;refine AW.condS (by simp -implicitDefEqProofs only[go_sem,seval,↓reduceIte];rfl) (fun h5=>?_) (fun h5=>?_)
 ·have h5:op=2:=by simpa using h5
  rw [if_pos h5] at hW2;refine AW.seq_k fun K hK=>AW.region (by kernel_rfl) ?_;simp -implicitDefEqProofs only[go_sem,seval,↓reduceIte];refine CallA.pure hG (by kernel_rfl) ?_;simp -implicitDefEqProofs only[go_sem,seval,↓reduceIte];refine (rIs_spec G hG name (by omega)).mono ?_;rintro _ _ rfl;simp -implicitDefEqProofs only[go_sem,seval,↓reduceIte];refine hK _ ?_;clear hK K;refine AW.ret ?_;simp -implicitDefEqProofs only[go_sem,seval,↓reduceIte];refine endK_some ?_;rw [hW2];generalize isP name=z
  cases hz:(z==2) with
  | true =>
   have:((z:Int)==2)=true:=by rw [beq_iff_eq] at hz ⊢;omega
   rw [this]
  | false =>
   have:((z:Int)==2)=false:=by rw [beq_eq_false_iff_ne] at hz ⊢;omega
   rw [this]
 ·have h5:¬ op=2:=by simpa using h5
  rw [if_neg h5] at hW2;refine AW.skip ?_;simp -implicitDefEqProofs only[go_sem,seval,↓reduceIte];refine hK2 _ ?_;refine AW.seq_k fun K hK=>AW.region (by kernel_rfl) ?_;simp -implicitDefEqProofs only[go_sem,seval,↓reduceIte];refine hK _ ?_;clear hK K;refine AW.ret ?_;simp -implicitDefEqProofs only[go_sem,seval,↓reduceIte];refine endK_some ?_;rw [hW2]
def placeOf (n:XN):Nat→Int
 | 0=>n.a
 | 1=>n.b
 | _=>n.c
def begLoop (rec:Int→Int) (n:XN):Nat→Int→Option Int
 | 0,last=>some last
 | k+1,last=>match begStep rec (Nat.blt k (partsOf n.op)) (placeOf n k) last with
  | none=>none
  | some q=>begLoop rec n k q
theorem begR_loop (l:List XN) (f:Nat) (i:Int):begR l (f+1) i=match nthP l i with
  | none => -1
  | some n=>bif wellP n then (match begLoop (begR l f) n 3 (i-1) with | none => -1 | some q=>q+1) else -1:=by
 rw [begR]
 cases nthP l i with
 | none=>rfl
 | some n =>
  simp only
  cases wellP n with
  | false=>rfl
  | true =>
   simp only [cond_true,begLoop,placeOf]
   cases begStep (begR l f) (Nat.blt 2 (partsOf n.op)) n.c (i-1) with
   | none=>rfl
   | some l2 =>
    simp only
    cases begStep (begR l f) (Nat.blt 1 (partsOf n.op)) n.b l2 with
    | none=>rfl
    | some l1 =>
     simp only
     cases begStep (begR l f) (Nat.blt 0 (partsOf n.op)) n.a l1 with
     | none=>rfl
     | some l0=>rfl
theorem begStep_ne {rec:Int→Int} {pl last:Int} (h:¬ pl=last):begStep rec true pl last=none:=by simp [begStep,h]
theorem begStep_neg {rec:Int→Int} {pl last:Int} (h:pl=last) (h2:rec last<0):begStep rec true pl last=none:=by simp [begStep,h,h2]
theorem begStep_pos {rec:Int→Int} {pl last:Int} (h:pl=last) (h2:¬ rec last<0):begStep rec true pl last=some (rec last-1):=by simp [begStep,h,h2]
theorem bsNo {rec:Int→Int} {pl last:Int} (h:¬ pl = -1):begStep rec false pl last=none:=by simp [begStep,h]
theorem bsNone {rec:Int→Int} {pl last:Int} (h:pl = -1):begStep rec false pl last=some last:=by simp [begStep,h]
theorem begR_le (l:List XN) (f:Nat) (i:Int) (h:0≤begR l f i):begR l f i≤i:=by
 obtain ⟨x,b,_,_,h3,h4⟩:=begR_tree l f i h;have:=x.size_pos;omega
theorem rBegin_spec (G:Nat→V) (hG:GOk G) (s:Sl XN) (hs:s.l.length<1000000) (hnm:∀ n∈s.l,n.name.length<100000):∀ (f:Nat) (c:Col) (i:Int),-1≤i→i<f→i<1000000 →
  Spec Tryz.prog G 169 [encSl c 6 encXN s,.int .i64 i] hNone (fun v _=>v = .int .i64 (begR s.l f i)):=by
 intro f
 induction f with
 | zero =>
  intro c i h1 h2 _
  obtain rfl:i = -1:=by omega
  refine Spec.of_code' 0 68 [.tmp 4] Tryz.func169 rfl rfl rfl rfl fun X=>?_;refine AW.seq_k fun K hK=>AW.region (by kernel_rfl) ?_;simp -implicitDefEqProofs only[go_sem,seval,↓reduceIte];refine hK _ ?_;clear hK K;refine AW.seq_k fun K1 hK1=>?_;refine AW.seq_k fun K hK=>AW.region (by kernel_rfl) ?_;simp -implicitDefEqProofs only[go_sem,seval,↓reduceIte];refine hK _ ?_;clear hK K;refine AW.condS (by simp -implicitDefEqProofs only[go_sem,seval,↓reduceIte];rfl) (fun h2=>?_) (fun h2=>?_)
  ·refine AW.seq_k fun K hK=>AW.region (by kernel_rfl) ?_
   simp -implicitDefEqProofs only[go_sem,seval,↓reduceIte];refine hK _ ?_;clear hK K;refine AW.ret ?_;simp -implicitDefEqProofs only[go_sem,seval,↓reduceIte];refine endK_some ?_;rfl
  ·cases h2
 | succ f ih =>
 intro c i h1 h2 h3;refine Spec.of_code' 0 68 [.tmp 4] Tryz.func169 rfl rfl rfl rfl fun X=>?_;have hB:=begR_loop s.l f i;generalize begR s.l (f+1) i=res at hB ⊢;refine AW.seq_k fun K hK=>AW.region (by kernel_rfl) ?_;simp -implicitDefEqProofs only[go_sem,seval,↓reduceIte];refine hK _ ?_;clear hK K;refine AW.seq_k fun K1 hK1=>?_
 by_cases hi:i<0
 ·have e1:decide (i<0)=true:=by simpa using hi
  have hno:nthP s.l i=none:=by unfold nthP;rw [if_pos hi]
  rw [hno] at hB;refine AW.seq_k fun K hK=>AW.region (by kernel_rfl) ?_;simp -implicitDefEqProofs only[go_sem,seval,↓reduceIte,e1];refine hK _ ?_;clear hK K;refine AW.condS (by simp -implicitDefEqProofs only[go_sem,seval,↓reduceIte];rfl) (fun h4=>?_) (fun h4=>?_)
  ·refine AW.seq_k fun K hK=>AW.region (by kernel_rfl) ?_
   simp -implicitDefEqProofs only[go_sem,seval,↓reduceIte];refine hK _ ?_;clear hK K;refine AW.ret ?_;simp -implicitDefEqProofs only[go_sem,seval,↓reduceIte];refine endK_some ?_;rw [hB]
  ·cases h4
 have e1:decide (i<0)=false:=by simpa using hi
 obtain ⟨m,rfl⟩:∃ m:Nat,i=m:=⟨i.toNat,by omega⟩
 by_cases hm:m≥s.l.length
 ·have e2:decide ((m:Int)≥s.l.length)=true:=by rw [decide_eq_true_iff];omega
  have hno:nthP s.l m=none:=by unfold nthP;rw [if_neg hi];exact List.getElem?_eq_none (by simpa using hm)
  rw [hno] at hB;refine AW.seq_k fun K hK=>AW.region (by kernel_rfl) ?_;simp -implicitDefEqProofs only[go_sem,seval,↓reduceIte,e1,e2];refine hK _ ?_;clear hK K;refine AW.condS (by simp -implicitDefEqProofs only[go_sem,seval,↓reduceIte];rfl) (fun h4=>?_) (fun h4=>?_)
  ·refine AW.seq_k fun K hK=>AW.region (by kernel_rfl) ?_
   simp -implicitDefEqProofs only[go_sem,seval,↓reduceIte];refine hK _ ?_;clear hK K;refine AW.ret ?_;simp -implicitDefEqProofs only[go_sem,seval,↓reduceIte];refine endK_some ?_;rw [hB]
  ·cases h4
 have e2:decide ((m:Int)≥s.l.length)=false:=by rw [decide_eq_false_iff_not];omega
 have hg:=List.getElem?_eq_getElem (Nat.lt_of_not_le hm);have hnn:=hnm _ (List.getElem_mem (Nat.lt_of_not_le hm));generalize s.l[m]=n at hg hnn
 have hno:nthP s.l m=some n:=by unfold nthP;rw [if_neg hi];exact hg
 rw [hno] at hB;simp only at hB;refine AW.seq_k fun K hK=>AW.region (by kernel_rfl) ?_;simp -implicitDefEqProofs only[go_sem,seval,↓reduceIte,e1,e2,hg,encXN_K];rw [← encXN_K];refine CallA.pure hG (by kernel_rfl) ?_;simp -implicitDefEqProofs only[go_sem,seval,↓reduceIte,recol_xn];refine (rRightN_spec G hG n hnn).mono ?_;rintro _ _ rfl;simp -implicitDefEqProofs only[go_sem,seval,↓reduceIte];refine hK _ ?_;clear hK K
 cases hw:wellP n with
 | false =>
  rw [hw,cond_false] at hB;refine AW.condS (by simp -implicitDefEqProofs only[go_sem,seval,↓reduceIte];rfl) (fun h4=>?_) (fun h4=>?_)
  ·refine AW.seq_k fun K hK=>AW.region (by kernel_rfl) ?_
   simp -implicitDefEqProofs only[go_sem,seval,↓reduceIte];refine hK _ ?_;clear hK K;refine AW.ret ?_;simp -implicitDefEqProofs only[go_sem,seval,↓reduceIte];refine endK_some ?_;rw [hB]
  ·cases h4
 | true =>
 rw [hw,cond_true] at hB;refine AW.condS (by simp -implicitDefEqProofs only[go_sem,seval,↓reduceIte];rfl) (fun h4=>?_) (fun h4=>?_)
 ·cases h4
 refine AW.skip ?_;simp -implicitDefEqProofs only[go_sem,seval,↓reduceIte];refine hK1 _ ?_;refine AW.seq_k fun K hK=>AW.region (by kernel_rfl) ?_;simp -implicitDefEqProofs only[go_sem,seval,↓reduceIte,hg,encXN_K];intro g5;refine hK _ ?_;clear hK K;refine AW.seq_k fun K hK=>AW.region (by kernel_rfl) ?_;simp -implicitDefEqProofs only[go_sem,seval,↓reduceIte];intro g36;refine hK _ ?_;clear hK K;have hw1:IntKind.i64.wrap ((m:Int)-1)=(m:Int)-1:=w64 (by omega) (by omega);refine AW.seq_k fun K hK=>AW.region (by kernel_rfl) ?_;simp -implicitDefEqProofs only[go_sem,seval,↓reduceIte,hw1];refine hK _ ?_;clear hK K;refine AW.seq_k fun K5 hK5=>?_;refine AW.seq_k fun K hK=>AW.region (by kernel_rfl) ?_;simp -implicitDefEqProofs only[go_sem,seval,↓reduceIte];refine hK _ ?_;clear hK K;refine AW.block ?_
 refine AW.while (fun (x:Nat × Int)=>st [(0,encSl c 6 encXN s),(5,.ptr 5 g5 0),(6,.msl 36 g36 0 3 1),(7,.int .i64 x.2),(8,.int .i64 ((x.1:Int)-1))] [(5,.cells .new g5 0 [.int .u8 n.op,.int .i64 n.num,.str n.name,.int .i64 n.a,.int .i64 n.b,.int .i64 n.c]),(36,.cells .new g36 0 [.int .i64 n.a,.int .i64 n.b,.int .i64 n.c])])
  (fun x=>(res=match begLoop (begR s.l f) n x.1 x.2 with | none => -1 | some q=>q+1)∧x.1≤3 ∧ -1≤x.2∧x.2≤(m:Int)-1) (fun x=>x.1) (3,(m:Int)-1) ⟨hB,Nat.le_refl _,by show -1≤(m:Int)-1;omega,Int.le_refl _⟩
  (Weak.st (by simp -implicitDefEqProofs only[go_sem,seval,↓reduceIte];try rfl) (by simp -implicitDefEqProofs only[go_sem,seval,↓reduceIte])) ?_
 clear hB;rintro ⟨k,last⟩ ⟨hB,hk3,hl1,hl2⟩ L6 hL6
 replace hB:res=match begLoop (begR s.l f) n k last with | none => -1 | some q=>q+1:=hB
 replace hk3:k≤3:=hk3
 replace hl1 : -1≤last:=hl1
 replace hl2:last≤(m:Int)-1:=hl2
 refine AW.seq_k fun K7 hK7=>?_;refine AW.seq_k fun K hK=>AW.region (by kernel_rfl) ?_;simp -implicitDefEqProofs only[go_sem,seval,↓reduceIte];refine hK _ ?_;clear hK K
 cases k with
 | zero =>
  refine AW.condS (by simp -implicitDefEqProofs only[go_sem,seval,↓reduceIte];rfl) (fun h8=>?_) (fun h8=>?_)
  ·cases h8
  refine AW.exit ?_;simp -implicitDefEqProofs only[go_sem,seval,↓reduceIte];refine hK5 _ ?_;refine AW.seq_k fun K hK=>AW.region (by kernel_rfl) ?_;simp -implicitDefEqProofs only[go_sem,seval,↓reduceIte];refine hK _ ?_;clear hK K;refine AW.ret ?_;simp -implicitDefEqProofs only[go_sem,seval,↓reduceIte];refine endK_some ?_;rw [hB,w64 (by omega) (by omega)];rfl
 | succ k =>
 have e8:decide (((k+1:Nat):Int)-1≥0)=true:=by rw [decide_eq_true_iff];omega
 rw [begLoop] at hB;refine AW.condS (by simp -implicitDefEqProofs only[go_sem,seval,↓reduceIte];rfl) (fun h8=>?_) (fun h8=>?_);rotate_left
 ·rw [e8] at h8;cases h8
 refine AW.skip ?_;simp -implicitDefEqProofs only[go_sem,seval,↓reduceIte];refine hK7 _ ?_
 have ek:((k+1:Nat):Int)-1=(k:Int):=by omega
 rw [ek];have hwk:IntKind.i64.wrap ((k:Int)-1)=(k:Int)-1:=w64 (by omega) (by omega)
 have hpl:([.int .i64 n.a,.int .i64 n.b,.int .i64 n.c]:List V)[k]? = some (.int .i64 (placeOf n k)):=by
  match k,hk3 with
  | 0,_=>rfl
  | 1,_=>rfl
  | 2,_=>rfl
 have hklt:(k:Int)<3:=by omega
 generalize placeOf n k=pl at hB hpl;refine AW.seq_k fun K9 hK9=>?_;refine AW.block ?_;refine AW.seq_k fun K10 hK10=>?_;refine AW.seq_k fun K hK=>AW.region (by kernel_rfl) ?_;simp -implicitDefEqProofs only[go_sem,seval,↓reduceIte];refine CallA.pure hG (by kernel_rfl) ?_;simp -implicitDefEqProofs only[go_sem,seval,↓reduceIte];refine (rPartsOf_spec G hG n.op).mono ?_;rintro _ _ rfl;simp -implicitDefEqProofs only[go_sem,seval,↓reduceIte];refine hK _ ?_;clear hK K;generalize hpo:partsOf n.op=po at hB ⊢
 by_cases hkp:k<po
 ·have e5:decide ((k:Int)≥(po:Int))=false:=by rw [decide_eq_false_iff_not];omega
  have hbs:Nat.blt k po=true:=by simpa using hkp
  rw [hbs] at hB;refine AW.condS (by simp -implicitDefEqProofs only[go_sem,seval,↓reduceIte];rfl) (fun h11=>?_) (fun h11=>?_)
  ·rw [e5] at h11;cases h11
  refine AW.skip ?_;simp -implicitDefEqProofs only[go_sem,seval,↓reduceIte];refine hK10 _ ?_;refine AW.seq_k fun K12 hK12=>?_
  by_cases hpe:pl=last
  rotate_left
  ·have e6:(pl != last)=true:=by simpa using hpe
   rw [begStep_ne hpe] at hB;refine AW.seq_k fun K hK=>AW.region (by kernel_rfl) ?_;simp -implicitDefEqProofs only[go_sem,seval,↓reduceIte,Nat.mul_one,hpl,hklt,Int.natCast_nonneg,e6];refine hK _ ?_;clear hK K;refine AW.condS (by simp -implicitDefEqProofs only[go_sem,seval,↓reduceIte];rfl) (fun h13=>?_) (fun h13=>?_)
   ·refine AW.seq_k fun K hK=>AW.region (by kernel_rfl) ?_
    simp -implicitDefEqProofs only[go_sem,seval,↓reduceIte];refine hK _ ?_;clear hK K;refine AW.ret ?_;simp -implicitDefEqProofs only[go_sem,seval,↓reduceIte];refine endK_some ?_;rw [hB]
   ·cases h13
  have e6:(pl != last)=false:=by simpa using hpe
  refine AW.seq_k fun K hK=>AW.region (by kernel_rfl) ?_;simp -implicitDefEqProofs only[go_sem,seval,↓reduceIte,Nat.mul_one,hpl,hklt,Int.natCast_nonneg,e6];refine hK _ ?_;clear hK K;refine AW.condS (by simp -implicitDefEqProofs only[go_sem,seval,↓reduceIte];rfl) (fun h13=>?_) (fun h13=>?_)
  ·cases h13
  refine AW.skip ?_;simp -implicitDefEqProofs only[go_sem,seval,↓reduceIte];refine hK12 _ ?_;refine AW.seq_k fun K hK=>AW.region (by kernel_rfl) ?_;simp -implicitDefEqProofs only[go_sem,seval,↓reduceIte];refine CallA.pure hG (by kernel_rfl) ?_;simp -implicitDefEqProofs only[go_sem,seval,↓reduceIte,recol_xns];refine (ih c.ent last (by omega) (by omega) (by omega)).mono ?_;rintro _ _ rfl;simp -implicitDefEqProofs only[go_sem,seval,↓reduceIte];refine hK _ ?_;clear hK K;have hge:=begR_ge s.l f last;have hle:=begR_le s.l f last;refine AW.seq_k fun K14 hK14=>?_
  by_cases hr0:begR s.l f last<0
  ·have e7:decide (begR s.l f last<0)=true:=by simpa using hr0
   rw [begStep_neg hpe hr0] at hB;refine AW.seq_k fun K hK=>AW.region (by kernel_rfl) ?_;simp -implicitDefEqProofs only[go_sem,seval,↓reduceIte,e7];refine hK _ ?_;clear hK K;refine AW.condS (by simp -implicitDefEqProofs only[go_sem,seval,↓reduceIte];rfl) (fun h15=>?_) (fun h15=>?_)
   ·refine AW.seq_k fun K hK=>AW.region (by kernel_rfl) ?_
    simp -implicitDefEqProofs only[go_sem,seval,↓reduceIte];refine hK _ ?_;clear hK K;refine AW.ret ?_;simp -implicitDefEqProofs only[go_sem,seval,↓reduceIte];refine endK_some ?_;rw [hB]
   ·cases h15
  have e7:decide (begR s.l f last<0)=false:=by simpa using hr0
  rw [begStep_pos hpe hr0] at hB;refine AW.seq_k fun K hK=>AW.region (by kernel_rfl) ?_;simp -implicitDefEqProofs only[go_sem,seval,↓reduceIte,e7];refine hK _ ?_;clear hK K;refine AW.condS (by simp -implicitDefEqProofs only[go_sem,seval,↓reduceIte];rfl) (fun h15=>?_) (fun h15=>?_)
  ·cases h15
  refine AW.skip ?_;simp -implicitDefEqProofs only[go_sem,seval,↓reduceIte];refine hK14 _ ?_;have hle2:=hle (by omega);generalize begR s.l f last=r at hB hge hle2 hr0 ⊢;have hwr:IntKind.i64.wrap (r-1)=r-1:=w64 (by omega) (by omega);refine AW.region (by kernel_rfl) ?_;simp -implicitDefEqProofs only[go_sem,seval,↓reduceIte,hwr];refine hK9 _ ?_;refine AW.region (by kernel_rfl) ?_;simp -implicitDefEqProofs only[go_sem,seval,↓reduceIte,hwk];refine hL6 _ ⟨(k,r-1),by show k<k+1;omega,⟨hB,by show k≤3;omega,by show -1≤r-1;omega,by show r-1≤(m:Int)-1;omega⟩,Weak.st (by simp -implicitDefEqProofs only[go_sem,seval,↓reduceIte];try rfl) (by simp -implicitDefEqProofs only[go_sem,seval,↓reduceIte];try rfl)⟩
 ·have e5:decide ((k:Int)≥(po:Int))=true:=by rw [decide_eq_true_iff];omega
  have hbs:Nat.blt k po=false:=by
   rw [Bool.eq_false_iff];simpa using hkp
  rw [hbs] at hB;refine AW.condS (by simp -implicitDefEqProofs only[go_sem,seval,↓reduceIte];rfl) (fun h11=>?_) (fun h11=>?_);rotate_left
  ·rw [e5] at h11;cases h11
  refine AW.seq_k fun K12 hK12=>?_
  by_cases hpe:pl = -1
  rotate_left
  ·have e6:(pl != -1)=true:=by simpa using hpe
   rw [bsNo hpe] at hB;refine AW.seq_k fun K hK=>AW.region (by kernel_rfl) ?_;simp -implicitDefEqProofs only[go_sem,seval,↓reduceIte,Nat.mul_one,hpl,hklt,Int.natCast_nonneg,e6];refine hK _ ?_;clear hK K;refine AW.condS (by simp -implicitDefEqProofs only[go_sem,seval,↓reduceIte];rfl) (fun h13=>?_) (fun h13=>?_)
   ·refine AW.seq_k fun K hK=>AW.region (by kernel_rfl) ?_
    simp -implicitDefEqProofs only[go_sem,seval,↓reduceIte];refine hK _ ?_;clear hK K;refine AW.ret ?_;simp -implicitDefEqProofs only[go_sem,seval,↓reduceIte];refine endK_some ?_;rw [hB]
   ·cases h13
  have e6:(pl != -1)=false:=by simpa using hpe
  rw [bsNone hpe] at hB;refine AW.seq_k fun K hK=>AW.region (by kernel_rfl) ?_;simp -implicitDefEqProofs only[go_sem,seval,↓reduceIte,Nat.mul_one,hpl,hklt,Int.natCast_nonneg,e6];refine hK _ ?_;clear hK K;refine AW.condS (by simp -implicitDefEqProofs only[go_sem,seval,↓reduceIte];rfl) (fun h13=>?_) (fun h13=>?_)
  ·cases h13
  refine AW.skip ?_;simp -implicitDefEqProofs only[go_sem,seval,↓reduceIte];refine hK12 _ ?_;refine AW.exit ?_;simp -implicitDefEqProofs only[go_sem,seval,↓reduceIte];refine hK9 _ ?_;refine AW.region (by kernel_rfl) ?_;simp -implicitDefEqProofs only[go_sem,seval,↓reduceIte,hwk];refine hL6 _ ⟨(k,last),by show k<k+1;omega,⟨hB,by show k≤3;omega,hl1,hl2⟩,Weak.st (by simp -implicitDefEqProofs only[go_sem,seval,↓reduceIte];try rfl) (by simp -implicitDefEqProofs only[go_sem,seval,↓reduceIte];try rfl)⟩
def dep0 (s:Sl XN) (G:Nat→V) (i d:Int):Prop:=∀ c,Spec Tryz.prog G 170 [encSl c 6 encXN s,.int .i64 i] hNone (fun v _=>v = .int .i64 d)
theorem rDepth_neg (G:Nat→V) (hG:GOk G) (s:Sl XN):dep0 s G (-1) 0:=by
 intro c;refine Spec.of_code' 0 30 [.tmp 4] Tryz.func170 rfl rfl rfl rfl fun X=>?_;refine AW.seq_k fun K hK=>AW.region (by kernel_rfl) ?_;simp -implicitDefEqProofs only[go_sem,seval,↓reduceIte];refine hK _ ?_;clear hK K;refine AW.seq_k fun K1 hK1=>?_;refine AW.seq_k fun K hK=>AW.region (by kernel_rfl) ?_;simp -implicitDefEqProofs only[go_sem,seval,↓reduceIte];refine hK _ ?_;clear hK K;refine AW.condS (by simp -implicitDefEqProofs only[go_sem,seval,↓reduceIte];rfl) (fun h2=>?_) (fun h2=>?_)
 ·refine AW.seq_k fun K hK=>AW.region (by kernel_rfl) ?_
  simp -implicitDefEqProofs only[go_sem,seval,↓reduceIte];refine hK _ ?_;clear hK K;refine AW.ret ?_;simp -implicitDefEqProofs only[go_sem,seval,↓reduceIte];refine endK_some ?_;rfl
 ·cases h2
theorem rDepth_step (G:Nat→V) (hG:GOk G) (s:Sl XN) (m:Nat) (n:XN) (hg:s.l[m]? = some n) (d0 d1 d2:Int) (h0:dep0 s G n.a d0) (h1:dep0 s G n.b d1) (h2:dep0 s G n.c d2) (hb:(0≤d0∧d0<1000000)∧(0≤d1∧d1<1000000)∧(0≤d2∧d2<1000000)) :
  dep0 s G m (max (max d0 d1) d2+1):=by
 intro c;refine Spec.of_code' 0 30 [.tmp 4] Tryz.func170 rfl rfl rfl rfl fun X=>?_;refine AW.seq_k fun K hK=>AW.region (by kernel_rfl) ?_;simp -implicitDefEqProofs only[go_sem,seval,↓reduceIte];refine hK _ ?_;clear hK K;refine AW.seq_k fun K1 hK1=>?_
 have e1:decide ((m:Int)<0)=false:=by rw [decide_eq_false_iff_not];omega
 refine AW.seq_k fun K hK=>AW.region (by kernel_rfl) ?_;simp -implicitDefEqProofs only[go_sem,seval,↓reduceIte,e1];refine hK _ ?_;clear hK K;refine AW.condS (by simp -implicitDefEqProofs only[go_sem,seval,↓reduceIte];rfl) (fun h3=>?_) (fun h3=>?_)
 ·cases h3
 refine AW.skip ?_;simp -implicitDefEqProofs only[go_sem,seval,↓reduceIte];refine hK1 _ ?_
 have pc:∀ i d,dep0 s G i d→PureC Tryz.prog G 170 [encSl c 6 encXN s,.int .i64 i] (.int .i64 d):=fun i d h=>⟨by kernel_rfl,by
  simp only [List.map_cons,List.map_nil,recol_xns,recol_int];refine (h c.ent).mono ?_;rintro _ _ rfl
  rfl⟩
 have hmx:(if d2 > (if d1 > d0 then d1 else d0) then d2 else (if d1 > d0 then d1 else d0))=max (max d0 d1) d2:=by
  rw [Int.max_def,Int.max_def]
  split<;>split<;>split<;>omega
 have hw:IntKind.i64.wrap (1+max (max d0 d1) d2)=max (max d0 d1) d2+1:=by rw [w64 (by omega) (by omega)];omega
 refine AW.seq_k fun K hK=>AW.regionT ⟨fun i=>if i=6 then .int .i64 d0 else if i=13 then .int .i64 d1 else if i=20 then .int .i64 d2 else .top,fun _ => .pure⟩ (by kernel_rfl) hG (by kernel_rfl) (by kernel_rfl) ?_;simp -implicitDefEqProofs only[go_sem,seval,↓reduceIte,hg,encXN_K,hmx,hw];refine ⟨pc _ _ h0,pc _ _ h1,pc _ _ h2,?_⟩;refine hK _ ?_;clear hK K;refine AW.ret ?_;simp -implicitDefEqProofs only[go_sem,seval,↓reduceIte];refine endK_some ?_;rfl
theorem depth_le:∀ x:X,x.depth≤x.size
 | .leaf .. => Nat.le_refl _
 | .un _ a=>by have:=depth_le a;simp only [X.depth,X.size];omega
 | .bin _ a b=>by have:=depth_le a;have:=depth_le b;simp only [X.depth,X.size];omega
 | .ite a b c=>by have:=depth_le a;have:=depth_le b;have:=depth_le c;simp only [X.depth,X.size];omega
theorem At.size_le {l:List XN} {x:X} {b:Nat} (h:At l x b):b+x.size≤l.length:=by
 obtain ⟨pre,post,rfl,hb⟩:=h;rw [List.length_append,List.length_append,X.row_len];omega
theorem rDepth_at (G:Nat→V) (hG:GOk G) (s:Sl XN) (hs:s.l.length<1000000):∀ (x:X) (b:Nat),At s.l x b→dep0 s G ((b:Int)+x.size-1) x.depth
 | .leaf op num name,b,h=>by
  have:=rDepth_step G hG s b _ h.get 0 0 0 (rDepth_neg G hG s) (rDepth_neg G hG s) (rDepth_neg G hG s) ⟨by decide,by decide,by decide⟩
  have e:(b:Int)+(X.leaf op num name).size-1=(b:Nat):=by simp only [X.size];omega
  rw [e];exact this
 | .un op a,b,h=>by
  have ha:=h.un;have ih:=rDepth_at G hG s hs a b ha;have hz:=At.size_le h;have hd:=depth_le a;have hp:=a.size_pos;have:=rDepth_step G hG s _ _ h.get _ 0 0 ih (rDepth_neg G hG s) (rDepth_neg G hG s) ⟨⟨by omega,by simp only [X.size] at hz;omega⟩,by decide,by decide⟩
  have e:(b:Int)+(X.un op a).size-1=((b+(X.un op a).size-1:Nat):Int):=by simp only [X.size];omega
  rw [e]
  have e2:((X.un op a).depth:Int)=max (max (a.depth:Int) 0) 0+1:=by simp only [X.depth];omega
  rw [e2];exact this
 | .bin op x y,b,h=>by
  obtain ⟨hx,hy⟩:=h.bin;have ihx:=rDepth_at G hG s hs x b hx;have ihy:=rDepth_at G hG s hs y (b+x.size) hy;have hz:=At.size_le h;have hd1:=depth_le x;have hd2:=depth_le y;have hp1:=x.size_pos;have hp2:=y.size_pos
  have e3:((b+x.size:Nat):Int)+y.size-1=(b:Int)+x.size+y.size-1:=by omega
  rw [e3] at ihy;simp only [X.size] at hz;have:=rDepth_step G hG s _ _ h.get _ _ 0 ihx ihy (rDepth_neg G hG s) ⟨⟨by omega,by omega⟩,⟨by omega,by omega⟩,by decide⟩
  have e:(b:Int)+(X.bin op x y).size-1=((b+(X.bin op x y).size-1:Nat):Int):=by simp only [X.size];omega
  rw [e]
  have e2:((X.bin op x y).depth:Int)=max (max (x.depth:Int) y.depth) 0+1:=by simp only [X.depth];omega
  rw [e2];exact this
 | .ite x y z,b,h=>by
  obtain ⟨hx,hy,hz'⟩:=h.ite;have ihx:=rDepth_at G hG s hs x b hx;have ihy:=rDepth_at G hG s hs y (b+x.size) hy;have ihz:=rDepth_at G hG s hs z (b+x.size+y.size) hz';have hz:=At.size_le h;have hd1:=depth_le x;have hd2:=depth_le y;have hd3:=depth_le z;have hp1:=x.size_pos;have hp2:=y.size_pos;have hp3:=z.size_pos
  have e3:((b+x.size:Nat):Int)+y.size-1=(b:Int)+x.size+y.size-1:=by omega
  rw [e3] at ihy
  have e4:((b+x.size+y.size:Nat):Int)+z.size-1=(b:Int)+x.size+y.size+z.size-1:=by omega
  rw [e4] at ihz;simp only [X.size] at hz;have:=rDepth_step G hG s _ _ h.get _ _ _ ihx ihy ihz ⟨⟨by omega,by omega⟩,⟨by omega,by omega⟩,⟨by omega,by omega⟩⟩
  have e:(b:Int)+(X.ite x y z).size-1=((b+(X.ite x y z).size-1:Nat):Int):=by simp only [X.size];omega
  rw [e]
  have e2:((X.ite x y z).depth:Int)=max (max (x.depth:Int) y.depth) z.depth+1:=by simp only [X.depth];omega
  rw [e2];exact this
end Go.Hs
end

section
namespace Go.Hs
open Go.Proofs
set_option maxRecDepth 10000
theorem rRight_spec (G:Nat→V) (hG:GOk G) (c:Col) (s:Sl XN) (hs:s.l.length<1000000) (hnm:∀ n∈s.l,n.name.length<100000) :
  Spec Tryz.prog G 102 [encSl c 6 encXN s] hNone (fun v _=>v = .bool (rightR s.l)):=by
 refine Spec.of_code' 0 9 [.tmp 2] Tryz.func102 rfl rfl rfl rfl fun X=>?_;have hw:IntKind.i64.wrap ((s.l.length:Int)-1)=(s.l.length:Int)-1:=w64 (by omega) (by omega);refine AW.seq_k fun K hK=>AW.region (by kernel_rfl) ?_;simp -implicitDefEqProofs only[go_sem,seval,↓reduceIte];refine hK _ ?_;clear hK K;refine AW.seq_k fun K hK=>AW.region (by kernel_rfl) ?_;simp -implicitDefEqProofs only[go_sem,seval,↓reduceIte,hw];refine CallA.pure hG (by kernel_rfl) ?_;simp -implicitDefEqProofs only[go_sem,seval,↓reduceIte,recol_xns];refine (rBegin_spec G hG s hs hnm s.l.length c.ent ((s.l.length:Int)-1) (by omega) (by omega) (by omega)).mono ?_;rintro _ _ rfl;simp -implicitDefEqProofs only[go_sem,seval,↓reduceIte];refine hK _ ?_;clear hK K;refine AW.ret ?_;simp -implicitDefEqProofs only[go_sem,seval,↓reduceIte];refine endK_some ?_;rfl
theorem rDepthN_spec (G:Nat→V) (hG:GOk G) (c:Col) (s:Sl XN) (hs:s.l.length<1000000) (hnm:∀ n∈s.l,n.name.length<100000) :
  Spec Tryz.prog G 103 [encSl c 6 encXN s] hNone (fun v _=>v = .int .i64 (depthP s.l)):=by
 refine Spec.of_code' 0 11 [.tmp 2] Tryz.func103 rfl rfl rfl rfl fun X=>?_;have hw:IntKind.i64.wrap ((s.l.length:Int)-1)=(s.l.length:Int)-1:=w64 (by omega) (by omega);refine AW.seq_k fun K hK=>AW.region (by kernel_rfl) ?_;simp -implicitDefEqProofs only[go_sem,seval,↓reduceIte];refine hK _ ?_;clear hK K;refine AW.seq_k fun K1 hK1=>?_;refine AW.seq_k fun K hK=>AW.region (by kernel_rfl) ?_;simp -implicitDefEqProofs only[go_sem,seval,↓reduceIte];refine CallA.pure hG (by kernel_rfl) ?_;simp -implicitDefEqProofs only[go_sem,seval,↓reduceIte,recol_xns];refine (rRight_spec G hG c.ent s hs hnm).mono ?_;rintro _ _ rfl;simp -implicitDefEqProofs only[go_sem,seval,↓reduceIte];refine hK _ ?_;clear hK K
 cases hr:rightR s.l with
 | false =>
  have hd:depthP s.l=0:=by
   have:=right_depth s.l;rw [hr] at this;have h2:=of_decide_eq_false this.symm;exact Classical.byContradiction h2
  refine AW.condS (by simp -implicitDefEqProofs only[go_sem,seval,↓reduceIte];rfl) (fun h6=>?_) (fun h6=>?_)
  ·refine AW.seq_k fun K hK=>AW.region (by kernel_rfl) ?_
   simp -implicitDefEqProofs only[go_sem,seval,↓reduceIte];refine hK _ ?_;clear hK K;refine AW.ret ?_;simp -implicitDefEqProofs only[go_sem,seval,↓reduceIte];refine endK_some ?_;rw [hd]
  ·cases h6
 | true =>
 refine AW.condS (by simp -implicitDefEqProofs only[go_sem,seval,↓reduceIte];rfl) (fun h6=>?_) (fun h6=>?_)
 ·cases h6
 refine AW.skip ?_;simp -implicitDefEqProofs only[go_sem,seval,↓reduceIte];refine hK1 _ ?_;obtain ⟨x,hx,hl⟩:=right_tree.1 hr;have hat:At s.l x 0:=hl ▸ At.whole x
 have hdep:depthP s.l=x.depth:=by rw [hl,depth_row hx]
 have hlen:s.l.length=x.size:=by rw [hl,Go.Hs.X.row_len]
 have hsp:=rDepth_at G hG s hs x 0 hat;rw [show ((0:Nat):Int)+x.size-1=(s.l.length:Int)-1 by omega] at hsp;refine AW.seq_k fun K hK=>AW.region (by kernel_rfl) ?_;simp -implicitDefEqProofs only[go_sem,seval,↓reduceIte,hw];refine CallA.pure hG (by kernel_rfl) ?_;simp -implicitDefEqProofs only[go_sem,seval,↓reduceIte,recol_xns];refine (hsp c.ent).mono ?_;rintro _ _ rfl;simp -implicitDefEqProofs only[go_sem,seval,↓reduceIte];refine hK _ ?_;clear hK K;refine AW.ret ?_;simp -implicitDefEqProofs only[go_sem,seval,↓reduceIte];refine endK_some ?_;rw [hdep]
def checkP (l:List XN):Int:=if depthP l=0 then 2 else if depthP l > 64 then 3 else 0
theorem rCheck_spec (G:Nat→V) (hG:GOk G) (c:Col) (s:Sl XN) (hs:s.l.length<1000000) (hnm:∀ n∈s.l,n.name.length<100000) :
  Spec Tryz.prog G 54 [encSl c 6 encXN s] hNone (fun v _=>v = .int .i64 (checkP s.l)):=by
 refine Spec.of_code' 0 9 [.tmp 2] Tryz.func54 rfl rfl rfl rfl fun X=>?_
 have hC:checkP s.l=if depthP s.l=0 then 2 else if depthP s.l > 64 then 3 else 0:=rfl
 generalize checkP s.l=res at hC ⊢;refine AW.seq_k fun K hK=>AW.region (by kernel_rfl) ?_;simp -implicitDefEqProofs only[go_sem,seval,↓reduceIte];refine hK _ ?_;clear hK K;refine AW.seq_k fun K1 hK1=>?_;refine AW.seq_k fun K hK=>AW.region (by kernel_rfl) ?_;simp -implicitDefEqProofs only[go_sem,seval,↓reduceIte];refine CallA.pure hG (by kernel_rfl) ?_;simp -implicitDefEqProofs only[go_sem,seval,↓reduceIte,recol_xns];refine (rRight_spec G hG c.ent s hs hnm).mono ?_;rintro _ _ rfl;simp -implicitDefEqProofs only[go_sem,seval,↓reduceIte];refine hK _ ?_;clear hK K;rw [right_depth]
 by_cases hd:depthP s.l=0
 ·rw [if_pos hd] at hC
  have e1:decide (depthP s.l≠0)=false:=by simpa using hd
  rw [e1];refine AW.condS (by simp -implicitDefEqProofs only[go_sem,seval,↓reduceIte];rfl) (fun h6=>?_) (fun h6=>?_)
  ·refine AW.seq_k fun K hK=>AW.region (by kernel_rfl) ?_
   simp -implicitDefEqProofs only[go_sem,seval,↓reduceIte];refine hK _ ?_;clear hK K;refine AW.ret ?_;simp -implicitDefEqProofs only[go_sem,seval,↓reduceIte];refine endK_some ?_;rw [hC]
  ·cases h6
 have e1:decide (depthP s.l≠0)=true:=by simpa using hd
 rw [if_neg hd] at hC;rw [e1];refine AW.condS (by simp -implicitDefEqProofs only[go_sem,seval,↓reduceIte];rfl) (fun h6=>?_) (fun h6=>?_)
 ·cases h6
 refine AW.skip ?_;simp -implicitDefEqProofs only[go_sem,seval,↓reduceIte];refine hK1 _ ?_;refine AW.seq_k fun K2 hK2=>?_;refine AW.seq_k fun K hK=>AW.region (by kernel_rfl) ?_;simp -implicitDefEqProofs only[go_sem,seval,↓reduceIte];refine CallA.pure hG (by kernel_rfl) ?_;simp -implicitDefEqProofs only[go_sem,seval,↓reduceIte,recol_xns];refine (rDepthN_spec G hG c.ent s hs hnm).mono ?_;rintro _ _ rfl;simp -implicitDefEqProofs only[go_sem,seval,↓reduceIte];refine hK _ ?_;clear hK K;refine AW.condS (by simp -implicitDefEqProofs only[go_sem,seval,↓reduceIte];rfl) (fun h7=>?_) (fun h7=>?_)
 ·have h7:depthP s.l > 64:=by simpa using h7
  rw [if_pos h7] at hC;refine AW.seq_k fun K hK=>AW.region (by kernel_rfl) ?_;simp -implicitDefEqProofs only[go_sem,seval,↓reduceIte];refine hK _ ?_;clear hK K;refine AW.ret ?_;simp -implicitDefEqProofs only[go_sem,seval,↓reduceIte];refine endK_some ?_;rw [hC]
 ·have h7:¬ depthP s.l > 64:=by simpa using h7
  rw [if_neg h7] at hC;refine AW.skip ?_;simp -implicitDefEqProofs only[go_sem,seval,↓reduceIte];refine hK2 _ ?_;refine AW.seq_k fun K hK=>AW.region (by kernel_rfl) ?_;simp -implicitDefEqProofs only[go_sem,seval,↓reduceIte];refine hK _ ?_;clear hK K;refine AW.ret ?_;simp -implicitDefEqProofs only[go_sem,seval,↓reduceIte];refine endK_some ?_;rw [hC]
theorem xCheck_spec (G:Nat→V) (hE:GExp G) (c:Col) (s:Sl XN) (hs:s.l.length<1000000) (hnm:∀ n∈s.l,n.name.length<100000) :
  Spec Tryz.prog G 93 [.agg [encSl c 6 encXN s]] hNone (fun v _=>v = .int .i64 (checkP s.l)):=by
 have hG:=hE.ok;refine Spec.of_code' 0 12 [.tmp 2] Tryz.func93 rfl rfl rfl rfl fun X=>?_
 have hC:checkP s.l=if depthP s.l=0 then 2 else if depthP s.l > 64 then 3 else 0:=rfl
 generalize checkP s.l=res at hC ⊢;refine AW.seq_k fun K hK=>AW.region (by kernel_rfl) ?_;simp -implicitDefEqProofs only[go_sem,seval,↓reduceIte];intro g1;refine hK _ ?_;clear hK K;refine AW.seq_k fun K1 hK1=>?_;refine AW.seq_k fun K hK=>AW.region (by kernel_rfl) ?_;simp -implicitDefEqProofs only[go_sem,seval,↓reduceIte];refine CallA.pure hG (by kernel_rfl) ?_;simp -implicitDefEqProofs only[go_sem,seval,↓reduceIte,recol_xns];refine (xDepth_spec G hE c.ent s hs hnm).mono ?_;rintro _ _ rfl;simp -implicitDefEqProofs only[go_sem,seval,↓reduceIte];refine hK _ ?_;clear hK K;refine AW.block ?_;refine AW.seq_k fun K hK=>AW.region (by kernel_rfl) ?_;simp -implicitDefEqProofs only[go_sem,seval,↓reduceIte];refine hK _ ?_;clear hK K;refine AW.condS (by simp -implicitDefEqProofs only[go_sem,seval,↓reduceIte];rfl) (fun h6=>?_) (fun h6=>?_)
 ·have h6:depthP s.l=0:=by simpa using h6
  rw [if_pos h6] at hC;refine AW.seq_k fun K hK=>AW.region (by kernel_rfl) ?_;simp -implicitDefEqProofs only[go_sem,seval,↓reduceIte];refine hK _ ?_;clear hK K;refine AW.ret ?_;simp -implicitDefEqProofs only[go_sem,seval,↓reduceIte];refine endK_some ?_;rw [hC]
 have h6:¬ depthP s.l=0:=by simpa using h6
 rw [if_neg h6] at hC;refine AW.seq_k fun K hK=>AW.region (by kernel_rfl) ?_;simp -implicitDefEqProofs only[go_sem,seval,↓reduceIte];refine hK _ ?_;clear hK K;refine AW.condS (by simp -implicitDefEqProofs only[go_sem,seval,↓reduceIte];rfl) (fun h7=>?_) (fun h7=>?_)
 ·have h7:depthP s.l > 64:=by simpa using h7
  rw [if_pos h7] at hC;refine AW.seq_k fun K hK=>AW.region (by kernel_rfl) ?_;simp -implicitDefEqProofs only[go_sem,seval,↓reduceIte];refine hK _ ?_;clear hK K;refine AW.ret ?_;simp -implicitDefEqProofs only[go_sem,seval,↓reduceIte];refine endK_some ?_;rw [hC]
 ·have h7:¬ depthP s.l > 64:=by simpa using h7
  rw [if_neg h7] at hC;refine AW.skip ?_;simp -implicitDefEqProofs only[go_sem,seval,↓reduceIte];refine hK1 _ ?_;refine AW.seq_k fun K hK=>AW.region (by kernel_rfl) ?_;simp -implicitDefEqProofs only[go_sem,seval,↓reduceIte];refine hK _ ?_;clear hK K;refine AW.ret ?_;simp -implicitDefEqProofs only[go_sem,seval,↓reduceIte];refine endK_some ?_;rw [hC]
end Go.Hs
end

section
namespace Go.Hs
def NmQ (Q:List UInt8→Prop) (r:RS):Prop:=∀ n∈r.nodes,Q n.name
def NmI (Q:List UInt8→Prop) (inner:Inner):Prop:=∀ n r,NmQ Q r→NmQ Q (inner n r).2
theorem NmQ.put {Q:List UInt8→Prop} {r:RS} {n:XN} (h:NmQ Q r) (hn:Q n.name):NmQ Q (r.put n):=by
 intro m hm
 rcases List.mem_append.1 hm with h1 | h1
 ·exact h m h1
 ·rw [List.mem_singleton.1 h1];exact hn
theorem andThen_nm {Q:List UInt8→Prop} {x:Bool × RS} {k:RS→Bool × RS} (h:NmQ Q x.2) (hk:∀ r,NmQ Q r→NmQ Q (k r).2):NmQ Q (andThen x k).2:=by
 obtain ⟨b,r⟩:=x;cases b
 ·exact h
 ·exact hk r h
theorem eatP_nm {Q:List UInt8→Prop} (l:List Tk) (w:List UInt8) {r:RS} (h:NmQ Q r):NmQ Q (eatP l w r).2:=by
 unfold eatP;split<;>exact h
theorem numberP_nm {Q:List UInt8→Prop} (h0:Q []) (t:List UInt8) {r:RS} (h:NmQ Q r):NmQ Q (numberP r t).2:=by
 unfold numberP;split
 ·exact h
 ·exact NmQ.put (n:=⟨1,_,[],-1,-1,-1⟩) h h0
theorem branchesP_nm {Q:List UInt8→Prop} {l:List Tk} {inner:Inner} (h0:Q []) (hi:NmI Q inner) {r:RS} (h:NmQ Q r):NmQ Q (branchesP l inner r).2:=by
 unfold branchesP;refine andThen_nm (eatP_nm _ _ h) fun r1 h1=>andThen_nm (hi _ _ h1) fun a h2=>andThen_nm (eatP_nm _ _ h2) fun r2 h3=>andThen_nm (hi _ _ h3) fun b h4=>andThen_nm (eatP_nm _ _ h4) fun r3 h5=>andThen_nm (hi _ _ h5) fun c h6=>andThen_nm (eatP_nm _ _ h6) fun r4 h7=>?_;exact NmQ.put h7 h0
theorem aheadP_nm {Q:List UInt8→Prop} {l:List Tk} {inner:Inner} (h0:Q []) (hq:∀ i,(nextP l i).kind=2→Q (nextP l i).text) (hi:NmI Q inner) {r:RS} (h:NmQ Q r):NmQ Q (aheadP l inner r).2:=by
 unfold aheadP
 split
 ·exact numberP_nm h0 _ h
 split
 ·rename_i hk;exact NmQ.put (n:=⟨2,0,(nextP l r.i).text,-1,-1,-1⟩) h (hq _ hk)
 split
 ·exact h
 split
 ·exact andThen_nm (hi _ _ h) fun a ha=>NmQ.put ha h0
 split
 ·exact andThen_nm (hi _ _ h) fun a ha=>eatP_nm _ _ ha
 split
 ·exact branchesP_nm h0 hi h
 split
 ·exact NmQ.put (n:=⟨_,0,[],-1,-1,-1⟩) h h0
 ·exact h
theorem loopP_nm {Q:List UInt8→Prop} {l:List Tk} {inner:Inner} (h0:Q []) (hi:NmI Q inner) (n:Int):∀ (m:Nat) (r:RS),NmQ Q r→NmQ Q (loopP l inner n m r).2
 | 0,r,h=>h
 | m+1,r,h=>by
  rw [loopP]
  split
  ·exact h
  ·split
   ·exact h
   ·exact andThen_nm (hi _ r.adv h) fun a ha=>loopP_nm h0 hi n m (a.put _) (NmQ.put ha h0)
theorem climbP_nm {Q:List UInt8→Prop} (l:List Tk) (h0:Q []) (hq:∀ i,(nextP l i).kind=2→Q (nextP l i).text):∀ f,NmI Q (climbP l f)
 | 0=>fun _ _ h=>h
 | f+1=>fun n r h=>by
  rw [climbP];exact andThen_nm (aheadP_nm h0 hq (climbP_nm l h0 hq f) h) fun a ha=>loopP_nm h0 (climbP_nm l h0 hq f) n _ a ha
end Go.Hs
end

section
namespace Go.Hs
def fromP (l:List Tk):List XN × Int × Int:=if (climbP l (l.length+1) 1 ⟨0,[],0⟩).1=false then ([],(climbP l (l.length+1) 1 ⟨0,[],0⟩).2.i,(climbP l (l.length+1) 1 ⟨0,[],0⟩).2.e)
 else if depthP (climbP l (l.length+1) 1 ⟨0,[],0⟩).2.nodes > 64 then ([],0,3) else ((climbP l (l.length+1) 1 ⟨0,[],0⟩).2.nodes,(climbP l (l.length+1) 1 ⟨0,[],0⟩).2.i,0)
theorem fromP_bnd {l:List Tk}:0≤(fromP l).2.1∧(fromP l).2.1≤(l.length:Nat):=by
 have hok:=((climbP_bal l (l.length+1) 1 ⟨0,[],0⟩).ok ⟨Nat.zero_le _,Nat.le_refl _⟩).1;unfold fromP
 split
 ·exact ⟨Int.natCast_nonneg _,Int.ofNat_le.2 hok⟩
 ·split
  ·exact ⟨Int.le_refl _,Int.natCast_nonneg _⟩
  ·exact ⟨Int.natCast_nonneg _,Int.ofNat_le.2 hok⟩
end Go.Hs
end

section
namespace Go.Hs
open Go.Proofs
set_option maxRecDepth 10000
theorem RdS.callN {NO:Nat} {tl:List V} {G:Nat→V} (hG:GOk G) {f:FuncId} {args args':List V} {sl:Sl Tk} {g:Nat} {r r':RS} {v:V} (h:RdS NO tl G f args' sl g r v r') {H:Heap} {K:V→Heap→Prop}
  (hen:enterable Tryz.prog f=true) (htl:∀ F:Col→Col,tl.map (V.recol F)=tl) (hargs:args.map (V.recol Col.ent)=args') (hv:v.recol Col.bk=v) (hr:r.nodes=[])
  (cs:List V) (h8:H 8 = .cells .new g 0 cs) (hcs:V.recolL Col.ent cs=(encSl .any 3 encTk sl :: .int .i64 r.i :: .nils :: .int .i64 r.e::tl)) (hN:H NO = .dead)
  (hk:∀ gx',K v (sets H [(8,.cells .new g 0 (encSl .any 3 encTk sl :: .int .i64 r'.i::grown NO gx' 6 r'.nodes :: .int .i64 r'.e::tl)),(NO,grownO gx' encXN r'.nodes)])) :
  CallA Tryz.prog G f (.ptr 8 g 0::args) H K:=by
 refine CallA.handN hG [(8,rdO NO tl sl g 0 r),(NO,ndO 0 r.nodes)] hen ?_ ?_ ?_
 ·intro p hp
  simp only [List.mem_cons,List.not_mem_nil,or_false] at hp
  rcases hp with rfl | rfl
  ·simp only [h8,AObj.toAny,hcs,rdO_K,hr];rfl
  ·simp only [hN,AObj.toAny,hr];rfl
 ·intro p hp c g' fz cs' ho
  simp only [List.mem_cons,List.not_mem_nil,or_false] at hp
  rcases hp with rfl | rfl
  ·simp only [h8,AObj.cells.injEq] at ho;exact ho.1.symm
  ·simp only [hN] at ho;cases ho
 ·have ha:(V.ptr 8 g 0::args).map (V.recol Col.ent) = .ptr 8 g 0::args':=by rw [List.map_cons,recol_ptr,hargs]
  rw [ha];refine (h 0).mono ?_;rintro _ H' ⟨rfl,gx',q8,qN⟩
  have b8:(rdO NO tl sl g gx' r').backNew = .cells .new g 0 (encSl .any 3 encTk sl :: .int .i64 r'.i::grown NO gx' 6 r'.nodes :: .int .i64 r'.e::tl):=by
   simp only [rdO_K,AObj.backNew,V.recolL_eq,List.map_cons,recol_tks,recol_int,recol_grown,htl];rfl
  have bN:(ndO gx' r'.nodes).backNew=grownO gx' encXN r'.nodes:=by
   unfold ndO
   cases hn:r'.nodes with
   | nil=>rfl
   | cons x t =>
    rw [grownC_ne _ _ _ (by simp),grownO_ne _ _ (by simp)];simp only [AObj.backNew,V.recolL_eq];rw [← flat_recol,List.map_map];have he:(x::t).map (V.recol Col.bk ∘ encXN)=(x::t).map encXN:=List.map_congr_left fun y _=>recol_xn _ y
    first | done | rw [he]
  simp only [List.map_cons,List.map_nil,q8,qN,b8,bN,hv];exact hk gx'
def encXs (c:Col) (l:List XN):V:=encSl c 6 encXN (grownS l)
def encFr (c:Col) (p:List XN × Int × Int):V := .tuple [.agg [encXs c p.1],.int .i64 p.2.1,.int .i64 p.2.2]
theorem climb_names {l:List Tk} (hT:TkOk l):∀ n∈(climbP l (l.length+1) 1 ⟨0,[],0⟩).2.nodes,n.name.length<100000 :=
 climbP_nm (Q:=fun s=>s.length<100000) l (Nat.zero_lt_succ _) (fun i _=>nextP_len hT i) _ _ _ (fun n hn=>by cases hn)
theorem xFrom_spec (G:Nat→V) (hE:GExp G) (c:Col) (sl:Sl Tk) (hT:TkOk sl.l):Spec Tryz.prog G 226 [encSl c 3 encTk sl] hNone (fun v _=>v=encFr .new (fromP sl.l)):=by
 have hG:=hE.ok;have hTl:=hT.len;refine Spec.of_code' 0 44 [.cell 2 53,.tmp 3,.tmp 4] Tryz.func226 rfl rfl rfl rfl fun X=>?_
 have hP:fromP sl.l=if (climbP sl.l (sl.l.length+1) 1 ⟨0,[],0⟩).1=false then (([]:List XN),((climbP sl.l (sl.l.length+1) 1 ⟨0,[],0⟩).2.i:Int),(climbP sl.l (sl.l.length+1) 1 ⟨0,[],0⟩).2.e)
  else if depthP (climbP sl.l (sl.l.length+1) 1 ⟨0,[],0⟩).2.nodes > 64 then ([],0,3) else ((climbP sl.l (sl.l.length+1) 1 ⟨0,[],0⟩).2.nodes,((climbP sl.l (sl.l.length+1) 1 ⟨0,[],0⟩).2.i:Int),(0:Int)):=rfl
 have hr0:RSok sl.l ⟨0,[],0⟩:=⟨Nat.zero_le _,Nat.le_refl _⟩;have hcl:=fun g=>xClimb_spec G hE sl hT g (sl.l.length+1) 1 ⟨0,[],0⟩ (by decide) (by decide) (Nat.lt_succ_self _) hr0;have hnm2:=climb_names hT;have hok:=(climbP_bal sl.l (sl.l.length+1) 1 ⟨0,[],0⟩);generalize fromP sl.l=res at hP ⊢;generalize climbP sl.l (sl.l.length+1) 1 ⟨0,[],0⟩=y at hP hcl hok hnm2;obtain ⟨b,r⟩:=y;simp only at hP hcl hok hnm2;refine AW.seq_k fun K hK=>AW.region (by kernel_rfl) ?_;simp -implicitDefEqProofs only[go_sem,seval,↓reduceIte];intro g2;refine hK _ ?_;clear hK K;refine AW.seq_k fun K hK=>AW.region (by kernel_rfl) ?_;simp -implicitDefEqProofs only[go_sem,seval,↓reduceIte];intro g8;refine hK _ ?_;clear hK K;refine AW.seq_k fun K1 hK1=>?_;refine AW.block ?_;refine AW.weak (Weak.stF (fun _=>false) (l:=[(5,.ptr 8 g8 0),(2,.ptr 2 g2 0)]) (m:=[(2,.cells .new g2 0 [.nils]),(8,.cells .new g8 0 [encSl .any 3 encTk sl,.int .i64 0,.nils,.int .i64 0,.func (.func 256) [] []])]) ?_ ?_) ?_
 ·simp -implicitDefEqProofs only[go_sem,seval,↓reduceIte]
  exact ⟨Fz.same _,Fz.same _⟩
 ·simp only [allFzO_cons,allFzO_nil,and_true]
  exact ⟨FzO.keep rfl (by simp -implicitDefEqProofs only[go_sem,seval,↓reduceIte]),FzO.of (c := .new) (fz:=0) (cs:=[encSl c 3 encTk sl,.int .i64 0,.nils,.int .i64 0,.func (.func 256) [] []]) rfl (by simp -implicitDefEqProofs only[go_sem,seval,↓reduceIte];try rfl) ⟨Fz.any (recol_tks _ _ _),Fz.same _,Fz.same _,Fz.same _,Fz.same _,trivial⟩⟩
 refine AW.seq_k fun K hK=>AW.region (by kernel_rfl) ?_;simp -implicitDefEqProofs only[go_sem,seval,↓reduceIte];refine RdS.callN hG (hcl g8) (by kernel_rfl) (fun F=>rfl) rfl rfl rfl _ (by simp -implicitDefEqProofs only[go_sem,seval,↓reduceIte];rfl) (by simp only [V.recolL_eq,List.map_cons,List.map_nil,recol_tks];rfl) (by simp -implicitDefEqProofs only[go_sem,seval,↓reduceIte]) fun gx=>?_;simp -implicitDefEqProofs only[go_sem,seval,↓reduceIte,sets];refine hK _ ?_;clear hK K
 cases b with
 | false =>
  refine AW.condS (by simp -implicitDefEqProofs only[go_sem,seval,↓reduceIte];rfl) (fun h9=>?_) (fun h9=>?_);rotate_left
  ·cases h9
  refine AW.weak (Weak.stF (fun o=>o==8) (l:=[(5,.view .new (.agg [encSl .any 3 encTk sl,.int .i64 r.i,grown 1031 gx 6 r.nodes,.int .i64 r.e,.func (.func 256) [] []])),(2,.ptr 2 g2 0)]) (m:=[(2,.cells .new g2 0 [.nils])]) ?_ ?_) ?_
  ·simp -implicitDefEqProofs only[go_sem,seval,↓reduceIte]
   exact ⟨Fz.ptr (v := .agg [encSl .any 3 encTk sl,.int .i64 r.i,grown 1031 gx 6 r.nodes,.int .i64 r.e,.func (.func 256) [] []]) (c := .new) (fz:=0) rfl (by simp -implicitDefEqProofs only[go_sem,seval,↓reduceIte];try rfl),Fz.same _⟩
  ·simp only [allFzO_cons,allFzO_nil,and_true]
   exact FzO.keep rfl (by simp -implicitDefEqProofs only[go_sem,seval,↓reduceIte])
  refine AW.seq_k fun K2 hK2=>?_;refine AW.regionT ⟨fun _ => .top,fun i=>if i=4 then .lend else if i=8 then .lend else .pure⟩ (by kernel_rfl) hG (by kernel_rfl) (by kernel_rfl) ?_;simp -implicitDefEqProofs only[go_sem,seval,↓reduceIte];refine hK2 _ ?_;refine AW.ret ?_;simp -implicitDefEqProofs only[go_sem,seval,↓reduceIte];refine endK_some ?_;rw [hP];rfl
 | true =>
 refine AW.condS (by simp -implicitDefEqProofs only[go_sem,seval,↓reduceIte];rfl) (fun h9=>?_) (fun h9=>?_)
 ·cases h9
 refine AW.weak (Weak.stF (fun o=>o==1031) (l:=[(5,.ptr 8 g8 0),(2,.ptr 2 g2 0)]) (m:=[(2,.cells .new g2 0 [.nils]),(8,.cells .new g8 0 [encSl .any 3 encTk sl,.int .i64 r.i,encXs .new r.nodes,.int .i64 r.e,.func (.func 256) [] []])]) ?_ ?_) ?_
 ·simp -implicitDefEqProofs only[go_sem,seval,↓reduceIte]
  exact ⟨Fz.same _,Fz.same _⟩
 ·simp only [allFzO_cons,allFzO_nil,and_true]
  exact ⟨FzO.keep rfl (by simp -implicitDefEqProofs only[go_sem,seval,↓reduceIte]),FzO.of (c := .new) (fz:=0) (cs:=[encSl .any 3 encTk sl,.int .i64 r.i,grown 1031 gx 6 r.nodes,.int .i64 r.e,.func (.func 256) [] []]) rfl (by simp -implicitDefEqProofs only[go_sem,seval,↓reduceIte];try rfl) ⟨Fz.same _,Fz.same _,Fz.grown rfl (by simp -implicitDefEqProofs only[go_sem,seval,↓reduceIte];try rfl) encXN_cells,Fz.same _,Fz.same _,trivial⟩⟩
 have hrl:r.nodes.length<1000000:=by have:=(hok.ok hr0);have h1:=this.1;have h2:=this.2;omega
 rw [if_neg (by simp)] at hP;refine AW.seq_k fun K hK=>AW.region (by kernel_rfl) ?_;simp -implicitDefEqProofs only[go_sem,seval,↓reduceIte,encXs];refine CallA.pure hG (by kernel_rfl) ?_;simp -implicitDefEqProofs only[go_sem,seval,↓reduceIte,recol_xns];refine (xDepth_spec G hE Col.new.ent (grownS r.nodes) (by rw [grownS_l];exact hrl) (by rw [grownS_l];exact hnm2)).mono ?_;rintro _ _ rfl;simp -implicitDefEqProofs only[go_sem,seval,↓reduceIte];refine hK _ ?_;clear hK K;refine AW.condS (by simp -implicitDefEqProofs only[go_sem,seval,↓reduceIte];rfl) (fun h26=>?_) (fun h26=>?_)
 ·have h26:depthP r.nodes > 64:=by simpa using h26
  rw [if_pos h26] at hP;refine AW.seq_k fun K hK=>AW.region (by kernel_rfl) ?_;simp -implicitDefEqProofs only[go_sem,seval,↓reduceIte];refine hK _ ?_;clear hK K;refine AW.ret ?_;simp -implicitDefEqProofs only[go_sem,seval,↓reduceIte];refine endK_some ?_;rw [hP];rfl
 have h26:¬ depthP r.nodes > 64:=by simpa using h26
 rw [if_neg h26] at hP;refine AW.skip ?_;simp -implicitDefEqProofs only[go_sem,seval,↓reduceIte];refine hK1 _ ?_;refine AW.weak (Weak.stF (fun o=>o==8) (l:=[(5,.view .new (.agg [encSl .any 3 encTk sl,.int .i64 r.i,encXs .new r.nodes,.int .i64 r.e,.func (.func 256) [] []])),(2,.ptr 2 g2 0)]) (m:=[(2,.cells .new g2 0 [.nils])]) ?_ ?_) ?_
 ·simp -implicitDefEqProofs only[go_sem,seval,↓reduceIte]
  exact ⟨Fz.ptr (v := .agg [encSl .any 3 encTk sl,.int .i64 r.i,encXs .new r.nodes,.int .i64 r.e,.func (.func 256) [] []]) (c := .new) (fz:=0) rfl (by simp -implicitDefEqProofs only[go_sem,seval,↓reduceIte];try rfl),Fz.same _⟩
 ·simp only [allFzO_cons,allFzO_nil,and_true]
  exact FzO.keep rfl (by simp -implicitDefEqProofs only[go_sem,seval,↓reduceIte])
 refine AW.seq_k fun K2 hK2=>?_;refine AW.regionT ⟨fun _ => .top,fun i=>if i=3 then .lend else if i=8 then .lend else .pure⟩ (by kernel_rfl) hG (by kernel_rfl) (by kernel_rfl) ?_;simp -implicitDefEqProofs only[go_sem,seval,↓reduceIte,encXs];refine hK2 _ ?_;refine AW.ret ?_;simp -implicitDefEqProofs only[go_sem,seval,↓reduceIte];refine endK_some ?_;rw [hP];rfl
end Go.Hs
end

section
namespace Go.Hs
open Go.Proofs
set_option maxRecDepth 10000
theorem toksF_text:∀ (f:Nat) (s:List UInt8) (i:Nat) (acc:List Tk),(∀ t∈acc,t.text.length≤s.length)→∀ t∈(toksF f s i acc).1,t.text.length≤s.length
 | 0,s,i,acc,h=>by rw [toksF];exact h
 | f+1,s,i,acc,h=>by
  rw [toksF]
  split
  ·split
   ·intro t ht;cases ht
   ·refine toksF_text f s _ _ ?_
    intro t ht
    rcases List.mem_append.1 ht with h1 | h1
    ·exact h t h1
    ·rw [List.mem_singleton.1 h1]
     show ((s.drop i).take _).length≤s.length
     rw [List.length_take,List.length_drop];omega
  ·exact h
theorem toks_ok {s:List UInt8} (hs:s.length<100000):TkOk (toksP s).1:=by
 unfold toksP
 split
 ·exact ⟨Nat.zero_lt_succ _,fun t ht=>by cases ht⟩
 refine ⟨?_,?_⟩
 ·have:=toksF_len (s.length+1) s (blk s) []
  have h0:([]:List Tk).length=0:=rfl;omega
 ·intro t ht
  have:=toksF_text (s.length+1) s (blk s) [] (fun t ht=>by cases ht) t ht;omega
end Go.Hs
end

section
namespace Go.Hs
theorem fromP_bad {l:List Tk} (h:(fromP l).2.2≠0):(fromP l).1=[]:=by
 unfold fromP at h ⊢
 split
 ·rfl
 ·split
  ·rfl
  ·rename_i h1 h2
   rw [if_neg h1,if_neg h2] at h;exact absurd rfl h
structure ASt where
 kind:Int
 name:List UInt8
 x:List XN
 deriving DecidableEq,Inhabited
def emitW:List UInt8:=[101,109,105,116]
def txtP (l:List Tk) (i:Nat):List UInt8:=match l[i]? with | some t=>t.text | none=>[]
def nameP (l:List Tk) (i:Nat):Bool:=match l[i]? with | some t=>t.kind==2 | none=>false
theorem txtP_some {l:List Tk} {i:Nat} {t:Tk} (h:l[i]? = some t):txtP l i=t.text:=by unfold txtP;rw [h]
theorem txtP_none {l:List Tk} {i:Nat} (h:l.length≤i):txtP l i=[]:=by unfold txtP;rw [List.getElem?_eq_none h]
theorem nameP_some {l:List Tk} {i:Nat} {t:Tk} (h:l[i]? = some t):nameP l i=(t.kind==2):=by unfold nameP;rw [h]
theorem nameP_none {l:List Tk} {i:Nat} (h:l.length≤i):nameP l i=false:=by unfold nameP;rw [List.getElem?_eq_none h]
def takeP (l:List Tk):List (List UInt8)→Nat→Bool × Nat
 | [],i=>(true,i)
 | w::r,i=>if txtP l i=w then takeP l r (i+1) else (false,i)
def shutS (l:List Tk) (s:ASt) (ws:List (List UInt8)) (i:Nat):ASt × Int × Int :=
 ((s,((takeP l ws i).2:Int),if (takeP l ws i).1=true then 0 else 110))
def exprS (l:List Tk) (k:Int) (nm:List UInt8) (ws:List (List UInt8)) (i:Nat):ASt × Int × Int :=
 if (fromP (l.drop i)).2.2≠0 then (⟨k,nm,[]⟩,(i:Int)+(fromP (l.drop i)).2.1,(fromP (l.drop i)).2.2)
 else shutS l ⟨k,nm,(fromP (l.drop i)).1⟩ ws (i+(fromP (l.drop i)).2.1.toNat)
def stmtQ (l:List Tk) (k:Int) (w:List UInt8) (ws:List (List UInt8)) (i:Nat):ASt × Int × Int :=
 if nameP l i=false then (⟨k,[],[]⟩,(i:Int),110)
 else if txtP l (i+1)≠w then (⟨k,txtP l i,[]⟩,((i+1:Nat):Int),110)
 else if k=2∧txtP l (i+2)=[41] then shutS l ⟨k,txtP l i,[]⟩ ws (i+2)
 else exprS l k (txtP l i) ws (i+2)
def stmtP (l:List Tk) (i:Nat):ASt × Int × Int :=
 if txtP l i=emitW then stmtQ l 2 [40] [[41],[59]] (i+1) else stmtQ l 1 [58,61] [[59]] i
theorem takeP_ge {l:List Tk}:∀ (ws:List (List UInt8)) (i:Nat),i≤(takeP l ws i).2
 | [],i=>Nat.le_refl _
 | w::r,i=>by
  rw [takeP]
  split
  ·exact Nat.le_trans (Nat.le_succ i) (takeP_ge r (i+1))
  ·exact Nat.le_refl _
theorem txtP_lt {l:List Tk} {i:Nat} (h:txtP l i≠[]):i<l.length:=by
 refine Classical.byContradiction fun h2=>h (txtP_none (by omega))
theorem takeP_ok {l:List Tk}:∀ (ws:List (List UInt8)) (i:Nat),(∀ w∈ws,w≠[])→(takeP l ws i).1=true→(takeP l ws i).2=i+ws.length∧(ws≠[]→(takeP l ws i).2≤l.length)
 | [],i,_,_=>⟨rfl,fun h=>absurd rfl h⟩
 | w::r,i,hw,h=>by
  rw [takeP] at h ⊢
  split at h
  ·rename_i h1
   rw [if_pos h1];obtain ⟨h2,h3⟩:=takeP_ok r (i+1) (fun x hx=>hw x (List.mem_cons_of_mem _ hx)) h;refine ⟨by rw [h2,List.length_cons];omega,fun _=>?_⟩;have h4:=txtP_lt (l:=l) (i:=i) (by rw [h1];exact hw w (List.mem_cons_self ..))
   cases r with
   | nil=>rw [h2];exact h4
   | cons a b=>exact h3 (by simp)
  ·cases h
structure StB (l:List Tk) (i:Nat) (r:ASt × Int × Int):Prop where
 ge:(i:Int)≤r.2.1
 ok:r.2.2=0→(i:Int)<r.2.1∧r.2.1≤l.length
theorem shutS_b {l:List Tk} {s:ASt} {ws:List (List UInt8)} {i j:Nat} (hw:∀ w∈ws,w≠[]) (hn:ws≠[]) (hij:i≤j):StB l i (shutS l s ws j):=by
 have h1:=takeP_ge (l:=l) ws j;refine ⟨by show (i:Int)≤((takeP l ws j).2:Int);omega,fun h=>?_⟩
 have ht:(takeP l ws j).1=true:=by
  refine Classical.byContradiction fun h2=>?_;have h:(if (takeP l ws j).1=true then (0:Int) else 110)=0:=h;rw [if_neg h2] at h;cases h
 obtain ⟨h3,h4⟩:=takeP_ok ws j hw ht;have h5:=h4 hn;have h6:0<ws.length:=List.length_pos_iff.2 hn
 show (i:Int)<((takeP l ws j).2:Int)∧((takeP l ws j).2:Int)≤l.length
 omega
theorem exprS_b {l:List Tk} {k:Int} {nm:List UInt8} {ws:List (List UInt8)} {i j:Nat} (hw:∀ w∈ws,w≠[]) (hn:ws≠[]) (hij:i≤j):StB l i (exprS l k nm ws j):=by
 unfold exprS;have hb:=(fromP_bnd (l:=l.drop j)).1
 split
 ·rename_i h
  exact ⟨by show (i:Int)≤(j:Int)+(fromP (l.drop j)).2.1;omega,fun h2=>absurd h2 h⟩
 ·exact shutS_b hw hn (by omega)
theorem stmtQ_b {l:List Tk} {k:Int} {w:List UInt8} {ws:List (List UInt8)} {i j:Nat} (hw:∀ w∈ws,w≠[]) (hn:ws≠[]) (hij:i≤j):StB l i (stmtQ l k w ws j):=by
 unfold stmtQ
 split
 ·exact ⟨by show (i:Int)≤(j:Int);omega,fun h=>by cases h⟩
 split
 ·exact ⟨by show (i:Int)≤((j+1:Nat):Int);omega,fun h=>by cases h⟩
 split
 ·exact shutS_b hw hn (by omega)
 ·exact exprS_b hw hn (by omega)
theorem stmtP_b (l:List Tk) (i:Nat):StB l i (stmtP l i):=by
 unfold stmtP
 split
 ·exact stmtQ_b (by decide) (by decide) (by omega)
 ·exact stmtQ_b (by decide) (by decide) (Nat.le_refl _)
def placeP (l:List Tk) (n:Nat) (i:Int):Int:=if i<l.length then (l.getD i.toNat ⟨0,[],0⟩).pos else n
def bodyF (l:List Tk) (n:Nat):Nat→Nat→List ASt→List ASt × Int × Int
 | 0,_,acc=>(acc,0,0)
 | f+1,i,acc =>
  if l.length≤i then (acc,0,0)
  else if acc.length=512 then ([],placeP l n i,3)
  else if (stmtP l i).2.2≠0 then ([],placeP l n (stmtP l i).2.1,(stmtP l i).2.2)
  else bodyF l n f (stmtP l i).2.1.toNat (acc++[(stmtP l i).1])
def bodyP (s:List UInt8):List ASt × Int × Int :=
 if (toksP s).2.2≠0 then ([],(toksP s).2.1,(toksP s).2.2) else bodyF (toksP s).1 s.length ((toksP s).1.length+1) 0 []
end Go.Hs
end

section
namespace Go.Hs
open Go.Proofs
set_option maxRecDepth 10000
def encAS (c:Col) (s:ASt):V := .agg [.int .u8 s.kind,.str s.name,encSl c 6 encXN (grownS s.x)]
theorem encAS_K (c:Col) (s:ASt):encAS c s = .agg [.int .u8 s.kind,.str s.name,encSl c 6 encXN (grownS s.x)]:=rfl
end Go.Hs
end

section
namespace Go.Proofs
open Go.Shelf
def Tryz.laysGR_ren:Go.Shelf.Ren:=⟨fun | 4=>232 | n=>n,fun | 22=>36 | 25=>9 | 3=>3 | 4=>4 | 9=>9 | 20=>20 | 0=>0 | n=>n,fun | n=>n⟩
theorem Tryz.laysGR:Go.Proofs.Lays8.n4 Tryz.prog Tryz.laysGR_ren:={
 mixed:=by kernel_rfl
 f4:=⟨Tryz.f232.name,by decide,Tryz.func232.trans (congrArg some (by kernel_rfl))⟩
 t0:=Tryz.underlying0
 a0:=Tryz.isAgg0
 z0:=Tryz.sizeOf0
 v0:=Tryz.zeroValue0
 t3:=Tryz.underlying3
 a3:=Tryz.isAgg3
 z3:=Tryz.sizeOf3
 v3:=Tryz.zeroValue3
 t4:=Tryz.underlying4
 a4:=Tryz.isAgg4
 z4:=Tryz.sizeOf4
 v4:=Tryz.zeroValue4
 t9:=Tryz.underlying9
 a9:=Tryz.isAgg9
 z9:=Tryz.sizeOf9
 v9:=Tryz.zeroValue9
 t20:=Tryz.underlying20
 a20:=Tryz.isAgg20
 z20:=Tryz.sizeOf20
 v20:=Tryz.zeroValue20
 t22:=Tryz.underlying36
 a22:=Tryz.isAgg36
 z22:=Tryz.sizeOf36
 v22:=Tryz.zeroValue36 }
end Go.Proofs
end

section
namespace Go.Hs
open Go.Proofs
set_option maxRecDepth 10000
theorem zc_size (z:Array Value) (n:Nat) (h:z.size=1):(Builtin.zeroCells z n).size=n:=by
 simp [Builtin.zeroCells,h]
theorem grow_call {G:Nat→V} (hG:GOk G) (o n:Nat) (hn:n≤1000000000) {H:Heap} {K:V→Heap→Prop} (h0:n=0→K .nils H) (h1:n≠0→∀ g,K (.msl o g 0 0 1) (upd H o (.cells .new g 0 []))) :
  CallA Tryz.prog G 232 [.nils,.int .i64 n] H K:=by
 refine ⟨by kernel_rfl,fun X cargs hI _ hA=>?_⟩;obtain ⟨x,y,rfl,hx,hy⟩:=hA.two;cases hx;cases hy
 by_cases hz:n=0
 ·subst hz
  refine (show Calls Tryz.prog 232 _ _ _ from Any8.slices_Grow_room Tryz.laysGR none 0 0 0 X.w (by omega) (by omega) (by omega) (by omega)).mono ?_;rintro e w' ⟨rfl,rfl⟩;exact ⟨_,.nils,H,X,rfl,rfl,Goes.refl hI,.nils,h0 rfl⟩
 ·obtain ⟨i0,hi0,hb,hs,z,hz0,hzs⟩:∃ i0,Tryz.prog.info? 9=some i0∧i0.bytes=16∧i0.size=1∧∃ z,i0.zero=some z∧z.cells.size=1:=by
   have hb:bytesV Tryz.prog 9=some 16:=by kernel_rfl
   have hz:szOf Tryz.prog 9=some 1:=by kernel_rfl
   have h0:((Tryz.prog.info? 9).bind fun i=>i.zero.map fun z=>z.cells.size)=some 1:=by kernel_rfl
   unfold bytesV at hb;unfold szOf at hz
   cases hi:Tryz.prog.info? 9 with
   | none=>rw [hi] at hb;cases hb
   | some i0 =>
    rw [hi] at hb hz h0;simp only [Option.map_some,Option.some.injEq,Option.bind_some] at hb hz h0
    cases hz0:i0.zero with
    | none=>rw [hz0] at h0;cases h0
    | some z =>
     rw [hz0] at h0;simp only [Option.map_some,Option.some.injEq] at h0;exact ⟨i0,rfl,hb,hz,z,hz0,h0⟩
  refine (show Calls Tryz.prog 232 _ _ _ from Any8.slices_Grow_grow Tryz.laysGR i0 z hi0 hz0 (by omega) none 0 0 n [] X.w (by omega) (by omega) (by rw [hb];omega) (by omega) (by simp) (fun _=>rfl) (fun a ha=>by cases ha)).mono ?_;rintro e w' ⟨rfl,rfl⟩;have hge:=grownCap_ge X.w (0+n) 0 9
  obtain ⟨v,H',Y,e1,e2,e3,e4⟩:=append_new hI o (E:=1) (need:=0) (cap:=grownCap X.w (0+n) 0 9) (xs:=[]) (cs:=[]) ⟨rfl,fun _ h=>by simp at h,fun i h=>by simp at h⟩ rfl (Nat.zero_le _) 9
   (Builtin.zeroCells z.cells (0+n-0)++Builtin.zeroCells z.cells (grownCap X.w (0+n) 0 9-(0+n))) (by rw [Array.size_append,zc_size _ _ hzs,zc_size _ _ hzs];omega) .new (.inl rfl) 0 (h1 hz)
  refine ⟨_,v,H',Y,rfl,?_,e2,e3,e4⟩;rw [e1];simp;rfl
theorem flat_strW (l:List (List UInt8)):flat (l.map V.str)=l.map V.str:=by
 induction l with
 | nil=>rfl
 | cons x r ih=>unfold flat at ih ⊢;rw [List.map_cons,List.flatMap_cons,ih];rfl
def encSS (c c1:Col) (s:Sl (Sl (List UInt8))):V:=encSl c 1 (fun t=>encSl c1 1 V.str t) s
def catL (l:List (Sl (List UInt8))):List (List UInt8):=l.flatMap Sl.l
theorem catL_take {l:List (Sl (List UInt8))} {k:Nat} {t:Sl (List UInt8)} (h:l[k]? = some t):catL (l.take (k+1))=catL (l.take k)++t.l:=by
 unfold catL;rw [List.take_add_one,h,List.flatMap_append];simp
theorem catL_len {l:List (Sl (List UInt8))} {k:Nat}:(catL (l.take k)).length≤(catL l).length:=by
 unfold catL
 conv=>rhs;rw [← List.take_append_drop k l,List.flatMap_append,List.length_append]
 omega
theorem sConcat_spec (G:Nat→V) (hG:GOk G) (c c1:Col) (s:Sl (Sl (List UInt8))) (hs:s.l.length<1000000) (hl:(catL s.l).length<1000000) (hne:(catL s.l).length≠0) :
  Spec Tryz.prog G 161 [encSS c c1 s] hNone (fun v _=>v=encSl .new 1 V.str (.mk false (catL s.l))):=by
 refine Spec.of_code' 0 36 [.tmp 2] Tryz.func161 rfl rfl rfl rfl fun X=>?_;unfold encSS;refine AW.seq_k fun K hK=>AW.region (by kernel_rfl) ?_;simp -implicitDefEqProofs only[go_sem,seval,↓reduceIte];refine hK _ ?_;clear hK K;refine AW.seq_k fun K hK=>AW.region (by kernel_rfl) ?_;simp -implicitDefEqProofs only[go_sem,seval,↓reduceIte];refine hK _ ?_;clear hK K;refine AW.seq_k fun K1 hK1=>?_;refine AW.seq_k fun K hK=>AW.region (by kernel_rfl) ?_;simp -implicitDefEqProofs only[go_sem,seval,↓reduceIte];refine hK _ ?_;clear hK K;refine AW.block ?_
 refine AW.for s.l.length (fun k (_:Unit)=>st [(0,encSl c 1 (fun t=>encSl c1 1 V.str t) s),(3,.int .i64 (catL (s.l.take k)).length),(9,encSl c 1 (fun t=>encSl c1 1 V.str t) s),(10,.int .i64 s.l.length),(11,.int .i64 k)] [])
  (fun _ _=>True) 0 () (Nat.zero_le _) trivial (Weak.st (by simp -implicitDefEqProofs only[go_sem,seval,↓reduceIte];try rfl) (by simp -implicitDefEqProofs only[go_sem,seval,↓reduceIte];try rfl)) ?_
 intro k _ hk _ L2 hL2;refine AW.seq_k fun K hK=>AW.region (by kernel_rfl) ?_;simp -implicitDefEqProofs only[go_sem,seval,↓reduceIte];refine hK _ ?_;clear hK K;refine AW.seq_k fun K3 hK3=>?_;refine AW.condS (by simp -implicitDefEqProofs only[go_sem,seval,↓reduceIte];rfl) (fun h12=>?_) (fun h12=>?_)
 ·have hk1:k<s.l.length:=by simpa using h12
  have hg:=List.getElem?_eq_getElem hk1;have htk:=catL_take hg;have hle:=catL_len (l:=s.l) (k:=k+1);generalize s.l[k]=t at hg htk;refine AW.skip ?_;simp -implicitDefEqProofs only[go_sem,seval,↓reduceIte];refine hK3 _ ?_;refine AW.seq_k fun K4 hK4=>?_;refine AW.block ?_
  have hlen:(catL (s.l.take (k+1))).length=(catL (s.l.take k)).length+t.l.length:=by rw [htk,List.length_append]
  have hw:IntKind.i64.wrap (((catL (s.l.take k)).length:Int)+(t.l.length:Int))=(((catL (s.l.take k)).length+t.l.length:Nat):Int):=by rw [w64 (by omega) (by omega)];omega
  have hnn:decide ((((catL (s.l.take k)).length+t.l.length:Nat):Int)<0)=false:=by rw [decide_eq_false_iff_not];omega
  refine AW.seq_k fun K hK=>AW.region (by kernel_rfl) ?_;simp -implicitDefEqProofs only[go_sem,seval,↓reduceIte,hg];refine hK _ ?_;clear hK K;refine AW.seq_k fun K hK=>AW.region (by kernel_rfl) ?_;simp -implicitDefEqProofs only[go_sem,seval,↓reduceIte,hw];refine hK _ ?_;clear hK K;refine AW.seq_k fun K hK=>AW.region (by kernel_rfl) ?_;simp -implicitDefEqProofs only[go_sem,seval,↓reduceIte,hnn];refine hK _ ?_;clear hK K;refine AW.condS (by simp -implicitDefEqProofs only[go_sem,seval,↓reduceIte];rfl) (fun h20=>?_) (fun h20=>?_)
  ·cases h20
  refine AW.skip ?_;simp -implicitDefEqProofs only[go_sem,seval,↓reduceIte];refine hK4 _ ?_;refine AW.region (by kernel_rfl) ?_;simp -implicitDefEqProofs only[go_sem,seval,↓reduceIte];refine hL2 _ ⟨hk1,(),trivial,Weak.st (by rw [hlen];simp -implicitDefEqProofs only[go_sem,seval,↓reduceIte];exact congrArg _ (w64 (by omega) (by omega))) (by simp -implicitDefEqProofs only[go_sem,seval,↓reduceIte];try rfl)⟩
 ·have hk1:k=s.l.length:=by simp at h12;omega
  refine AW.exit ?_;simp -implicitDefEqProofs only[go_sem,seval,↓reduceIte];refine hK1 _ ?_;rw [hk1,List.take_length];refine AW.seq_k fun K hK=>AW.region (by kernel_rfl) ?_;simp -implicitDefEqProofs only[go_sem,seval,↓reduceIte];refine grow_call hG 1024 (catL s.l).length (by omega) (fun h=>absurd h hne) fun _ g24=>?_;simp -implicitDefEqProofs only[go_sem,seval,↓reduceIte];refine hK _ ?_;clear hK K;refine AW.seq_k fun K5 hK5=>?_;refine AW.seq_k fun K hK=>AW.region (by kernel_rfl) ?_;simp -implicitDefEqProofs only[go_sem,seval,↓reduceIte];refine hK _ ?_;clear hK K;refine AW.block ?_
  refine AW.for s.l.length (fun k (g:Nat)=>st [(0,encSl c 1 (fun t=>encSl c1 1 V.str t) s),(6,.msl 1024 g 0 (catL (s.l.take k)).length 1),(25,encSl c 1 (fun t=>encSl c1 1 V.str t) s),(26,.int .i64 s.l.length),(27,.int .i64 k)] [(1024,.cells .new g 0 (flat ((catL (s.l.take k)).map V.str)))])
   (fun _ _=>True) 0 g24 (Nat.zero_le _) trivial (Weak.st (by simp -implicitDefEqProofs only[go_sem,seval,↓reduceIte];try rfl) (by simp -implicitDefEqProofs only[go_sem,seval,↓reduceIte];try rfl)) ?_
  intro k g hk _ L6 hL6;refine AW.seq_k fun K hK=>AW.region (by kernel_rfl) ?_;simp -implicitDefEqProofs only[go_sem,seval,↓reduceIte];refine hK _ ?_;clear hK K;refine AW.seq_k fun K7 hK7=>?_;refine AW.condS (by simp -implicitDefEqProofs only[go_sem,seval,↓reduceIte];rfl) (fun h28=>?_) (fun h28=>?_)
  ·have hk1:k<s.l.length:=by simpa using h28
   have hg:=List.getElem?_eq_getElem hk1;have htk:=catL_take hg;have hle:=catL_len (l:=s.l) (k:=k+1);generalize s.l[k]=t at hg htk
   have hlen:(catL (s.l.take (k+1))).length=(catL (s.l.take k)).length+t.l.length:=by rw [htk,List.length_append]
   refine AW.skip ?_;simp -implicitDefEqProofs only[go_sem,seval,↓reduceIte];refine hK7 _ ?_;refine AW.seq_k fun K8 hK8=>?_;refine AW.block ?_;refine AW.seq_k fun K hK=>AW.region (by kernel_rfl) ?_;simp -implicitDefEqProofs only[go_sem,seval,↓reduceIte,hg];refine hK _ ?_;clear hK K;refine AW.region (by kernel_rfl) ?_;simp -implicitDefEqProofs only[go_sem,seval,↓reduceIte]
   have hfl:∀ l:List (List UInt8),(flat (l.map V.str)).length=l.length:=fun l=>by rw [flat_strW,List.length_map]
   have hcl:List.take ((catL (s.l.take k)).length * 1) (flat ((catL (s.l.take k)).map V.str))++flat (t.l.map V.str)=flat ((catL (s.l.take (k+1))).map V.str):=by
    rw [htk,List.map_append,flat_app,Nat.mul_one,List.take_of_length_le (by rw [hfl];omega)]
   refine ⟨roomOk_of (by omega) (by omega),by rw [hfl];omega,by omega,fun g2=>?_⟩;rw [hcl,← hlen];refine hK8 _ ?_;refine AW.region (by kernel_rfl) ?_;simp -implicitDefEqProofs only[go_sem,seval,↓reduceIte];refine hL6 _ ⟨hk1,g2,trivial,Weak.st (by simp -implicitDefEqProofs only[go_sem,seval,↓reduceIte];exact congrArg _ (w64 (by omega) (by omega))) (by simp -implicitDefEqProofs only[go_sem,seval,↓reduceIte];try rfl)⟩
  ·have hk1:k=s.l.length:=by simp at h28;omega
   refine AW.exit ?_;simp -implicitDefEqProofs only[go_sem,seval,↓reduceIte];refine hK5 _ ?_;rw [hk1,List.take_length];refine AW.weak (Weak.stF (fun o=>o==1024) (l:=[(6,encSl .new 1 V.str (.mk false (catL s.l)))]) (m:=[]) ?_ trivial) ?_
   ·simp -implicitDefEqProofs only[go_sem,seval,↓reduceIte]
    exact Fz.sl (f:=V.str) (l:=catL s.l) (m:=1) (g:=g) (fz:=0) (c := .new) rfl (by simp -implicitDefEqProofs only[go_sem,seval,↓reduceIte];try rfl) (fun _=>rfl)
   refine AW.seq_k fun K hK=>AW.region (by kernel_rfl) ?_;simp -implicitDefEqProofs only[go_sem,seval,↓reduceIte];refine hK _ ?_;clear hK K;refine AW.ret ?_;simp -implicitDefEqProofs only[go_sem,seval,↓reduceIte];refine endK_some ?_;rfl
end Go.Hs
end

section
namespace Go.Hs
def stopB (c:UInt8):Bool:=c==32 || c==10
theorem stop_not {c:UInt8} (h:stopB c=true):isDig c=false∧isAl c=false∧isBl c=true∧c≠45:=by
 simp only [stopB,Bool.or_eq_true,beq_iff_eq] at h
 rcases h with rfl | rfl<;>decide
theorem runL_app {p:UInt8→Bool} {c:UInt8} (h:p c=false) (r:List UInt8):∀ u:List UInt8,runL p (u++c::r)=runL p u
 | []=>by simp [runL,h]
 | a::u=>by
  rw [List.cons_append,runL_cons,runL_cons,runL_app h r u]
theorem take_app {u r:List UInt8} {k:Nat} (h:k≤u.length):(u++r).take k=u.take k:=by
 rw [List.take_append_of_le_length h]
theorem hasPre_app {c:UInt8} (h:c≠45) (r:List UInt8) {u:List UInt8} (hu:u≠[]):hasPre [45,45] (u++c::r)=hasPre [45,45] u:=by
 match u with
 | []=>exact absurd rfl hu
 | [a] =>
  have:(45==c)=false:=by rw [beq_eq_false_iff_ne];exact fun q=>h q.symm
  simp [hasPre,List.isPrefixOf,this]
 | a::b::u=>simp [hasPre,List.isPrefixOf]
theorem sg2_stop {c:UInt8} (h:stopB c=true) (a:UInt8):sg2.contains [a,c]=false:=by
 simp only [stopB,Bool.or_eq_true,beq_iff_eq] at h
 rcases h with rfl | rfl<;>simp [sg2]
theorem sgnN_app {c:UInt8} (h:stopB c=true) (r:List UInt8) {u:List UInt8} (hu:u≠[]):sgnN (u++c::r)=sgnN u:=by
 match u with
 | []=>exact absurd rfl hu
 | [a] =>
  rw [List.cons_append,List.nil_append,sgnN_two,sg2_stop h,sgnN_one,contains_split,sg2_len (by simp)];simp
 | a::b::u=>rw [List.cons_append,List.cons_append,sgnN_two,sgnN_two]
theorem first_app {c:UInt8} (h:stopB c=true) (r:List UInt8) {u:List UInt8} (hu:u≠[]):firstP (u++c::r)=firstP u:=by
 obtain ⟨h1,h2,h3,h4⟩:=stop_not h;have hpre:=hasPre_app h4 r hu;have hd:=runL_app h1 r u;have ha:=runL_app h2 r u;have hs:=sgnN_app h r hu
 cases u with
 | nil=>exact absurd rfl hu
 | cons a u =>
  rw [List.cons_append] at hpre hd ha hs ⊢
  rcases al_cases a with q | ⟨_,q⟩ | ⟨q,_,_⟩
  ·rw [first_dig q,first_dig q,hd]
  ·rw [first_lt q,first_lt q,ha]
   have:=take_app (u:=a::u) (r:=c::r) (runL_le isAl (a::u));rw [List.cons_append] at this;rw [this]
  ·by_cases hp:hasPre [45,45] (a::u)=true
   ·rw [hp] at hpre
    rw [firstP_cons,firstP_cons,if_pos hpre,if_pos hp]
   ·have hp:hasPre [45,45] (a::u)=false:=by simpa using hp
    rw [hp] at hpre;rw [first_no q hpre,first_no q hp,hs]
theorem isP_first {w:List UInt8} (h:isP w≠0):firstP w=(w.length,isP w)∧0<w.length∧w.length≤64:=by
 unfold isP at h ⊢
 split at h
 ·exact absurd rfl h
 ·rename_i q
  rw [if_neg q];simp only [not_or,Decidable.not_not,Nat.not_lt] at q;refine ⟨Prod.ext q.1 rfl,?_,by omega⟩
  cases w with
  | nil=>exact absurd rfl h
  | cons=>simp
end Go.Hs
end

section
namespace Go.Hs
theorem blk_app (r:List UInt8):∀ (k:Nat) (s:List UInt8),s.length≤k→blk (s++10::r)=if blk s=s.length then s.length+1+blk r else blk s
 | _,[],_=>by
  rw [List.nil_append,blk_bl (by decide),blk_nil];simp;omega
 | k+1,c::t,h=>by
  simp only [List.length_cons] at h;rw [List.cons_append]
  by_cases hb:isBl c=true
  ·rw [blk_bl hb,blk_bl hb,blk_app r k t (by omega),List.length_cons]
   split
   ·rename_i q
    rw [if_pos (by omega)];omega
   ·rename_i q
    rw [if_neg (by omega)]
  have hb:isBl c=false:=by simpa using hb
  have hpa:=hasPre_app (c:=10) (by decide) r (u:=c::t) (by simp);rw [List.cons_append] at hpa
  by_cases hp:hasPre [45,45] (c::t)=true
  ·have hr:=runL_app (p:=noNl) (c:=10) (by decide) r (c::t)
   rw [List.cons_append] at hr;rw [blk_rem (by rw [hpa];exact hp),blk_rem hp,hr];have hle:=runL_le noNl (c::t);have h2:=(noNl_pre hp).1;generalize hm:runL noNl (c::t)=m at hle h2
   have hd:(c::(t++10::r)).drop m=(c::t).drop m++10::r:=by
    rw [← List.cons_append,List.drop_append_of_le_length hle]
   have hl:((c::t).drop m).length=(c::t).length-m:=List.length_drop;simp only [List.length_cons] at hl hle;rw [hd,blk_app r k _ (by omega),hl,List.length_cons]
   split
   ·rename_i q
    rw [if_pos (by omega)];omega
   ·rename_i q
    rw [if_neg (by omega)]
  ·have hp:hasPre [45,45] (c::t)=false:=by simpa using hp
   rw [blk_no hb (by rw [hpa];exact hp),blk_no hb hp,List.length_cons,if_neg (by omega)]
 | 0,c::t,h=>by simp at h
inductive Lx:List UInt8→List (List UInt8)→Prop where
 | nil {s:List UInt8}:blk s=s.length→Lx s []
 | cons {s:List UInt8} {ws:List (List UInt8)} {k:Nat}:blk s<s.length→(firstP (s.drop (blk s))).1=k→0<k→k≤64→Lx ((s.drop (blk s)).drop k) ws→Lx s ((s.drop (blk s)).take k::ws)
theorem first_is {s:List UInt8} (hb:blk s<s.length) {k:Nat} (hk:(firstP (s.drop (blk s))).1=k) (h0:0<k) (h64:k≤64) :
  isP ((s.drop (blk s)).take k)=(firstP (s.drop (blk s))).2∧(firstP (s.drop (blk s))).2≠0:=by
 have hc:=blk_clear s;generalize s.drop (blk s)=u at hk hc ⊢
 have hp:hasPre [45,45] u=false:=by
  cases u with
  | nil=>rfl
  | cons c r=>exact (hc c r rfl).2
 obtain ⟨q1,q2⟩:=first_kind hp (by omega);rw [hk] at q1;refine ⟨?_,q2⟩;rw [isP_whole,if_neg (by rw [List.length_take];omega),q1]
theorem toks_lx {S:List UInt8}:∀ (f i:Nat) (acc l:List Tk),S.length<f+i→i≤S.length→toksF f S (i+blk (S.drop i)) acc=(l,0,0)→∃ l2,l=acc++l2∧Lx (S.drop i) (l2.map wdOf)
 | 0,i,acc,l,hf,hi,_=>by omega
 | f+1,i,acc,l,hf,hi,h=>by
  have hbl:=blk_le (S.drop i);rw [List.length_drop] at hbl
  by_cases hb:blk (S.drop i)<(S.drop i).length
  ·have hb':=hb
   rw [List.length_drop] at hb'
   have hdd:S.drop (i+blk (S.drop i))=(S.drop i).drop (blk (S.drop i)):=by rw [List.drop_drop]
   by_cases hk:(firstP (S.drop (i+blk (S.drop i)))).1=0∨(firstP (S.drop (i+blk (S.drop i)))).1 > 64
   ·rw [toksF_bad (by omega) (by omega) hk] at h
    have:=congrArg (fun x=>x.2.2) h;simp at this
   ·rw [toksF,if_pos (by omega),if_neg hk] at h
    rw [hdd] at h hk;simp only [not_or,Nat.not_lt] at hk;have hle:=firstP_le ((S.drop i).drop (blk (S.drop i)));rw [List.length_drop,List.length_drop] at hle;obtain ⟨p1,p2⟩:=first_is hb rfl (by omega) (by omega);obtain ⟨l2,e1,e2⟩:=toks_lx f (i+blk (S.drop i)+(firstP ((S.drop i).drop (blk (S.drop i)))).1) _ l (by omega) (by omega) h;refine ⟨_::l2,by rw [e1,List.append_assoc];rfl,?_⟩;rw [List.map_cons]
    have hw:∀ p,wdOf ⟨(firstP ((S.drop i).drop (blk (S.drop i)))).2,((S.drop i).drop (blk (S.drop i))).take (firstP ((S.drop i).drop (blk (S.drop i)))).1,p⟩=((S.drop i).drop (blk (S.drop i))).take (firstP ((S.drop i).drop (blk (S.drop i)))).1:=by
     intro p;unfold wdOf;simp only;rw [p1,if_pos rfl]
    rw [hw];refine .cons hb rfl (by omega) (by omega) ?_;rw [← List.drop_drop,hdd] at e2;exact e2
  ·rw [List.length_drop] at hb
   rw [toksF_end (by omega)] at h;have hl:acc=l:=congrArg Prod.fst h;refine ⟨[],by rw [hl,List.append_nil],.nil ?_⟩;rw [List.length_drop];omega
theorem toksP_lx {s:List UInt8} {l:List Tk} (h:toksP s=(l,0,0)):Lx s (l.map wdOf):=by
 unfold toksP at h
 split at h
 ·have:=congrArg (fun x=>x.2.2) h
  simp at this
 ·have h2:toksF (s.length+1) s (0+blk (s.drop 0)) []=(l,0,0):=by simpa using h
  obtain ⟨l2,e1,e2⟩:=toks_lx _ 0 [] l (by omega) (Nat.zero_le _) h2;rw [e1,List.nil_append];simpa using e2
end Go.Hs
end

section
namespace Go.Hs.PutLaw
open Go Go.Hs
def chr (d:Nat):UInt8:=UInt8.ofNat (48+d)
def chars (l:List Nat):List UInt8:=(l.map chr).reverse
theorem decDigits_dg (u:Nat) (h:0<u):Lib.decDigits u=chars (dg u):=by
 induction u using Nat.strongRecOn with
 | _ u ih =>
  rw [Lib.decDigits,dg_pos h]
  by_cases h1:u<10
  ·rw [dif_pos h1,show u / 10=0 by omega,dg_zero,Nat.mod_eq_of_lt h1]
   rfl
  ·rw [dif_neg h1,ih (u / 10) (by omega) (by omega)]
   simp [chars,chr]
theorem putR_dg (n:Int):putR n=if n=0 then [48] else if n<0 then 45::chars (dg n.natAbs) else chars (dg n.natAbs):=by
 unfold putR Lib.itoa
 by_cases h0:n=0
 ·subst h0
  simp;rw [Lib.decDigits];simp
 ·rw [if_neg h0]
  by_cases h1:n<0
  ·rw [if_pos h1,if_pos h1,decDigits_dg _ (by omega)]
  ·rw [if_neg h1,if_neg h1,show n.toNat=n.natAbs by omega,decDigits_dg _ (by omega)]
theorem chr_nat {d:Nat} (h:d<10):(chr d).toNat=48+d:=by
 unfold chr;rw [UInt8.toNat_ofNat'];omega
theorem dval_chr {d:Nat} (h:d<10):dval (chr d)=d:=by
 unfold dval;rw [chr_nat h];omega
theorem isDig_chr {d:Nat} (h:d<10):isDig (chr d)=true:=by
 unfold isDig;rw [chr_nat h];simp;omega
theorem map_dval {l:List Nat} (h:Dig l):(chars l).reverse.map dval=l:=by
 unfold chars;rw [List.reverse_reverse,List.map_map];have:∀ d∈l,(dval ∘ chr) d=d:=fun d hd=>dval_chr (h d hd);rw [List.map_congr_left this];simp
theorem all_chars {l:List Nat} (h:Dig l):(chars l).all isDig=true:=by
 rw [List.all_eq_true];intro c hc;unfold chars at hc;obtain ⟨d,hd,rfl⟩:=List.mem_map.1 (List.mem_reverse.1 hc);exact isDig_chr (h d hd)
theorem head_chars (l:List Nat):(chars l).head? = l.getLast?.map chr:=by
 unfold chars;rw [List.head?_reverse,List.getLast?_map]
theorem head_ne {m:Nat} (h:0<m):(chars (dg m)).head? ≠ some 48∧(chars (dg m)).head? ≠ some 45∧chars (dg m)≠[]:=by
 have hne:dg m≠[]:=by rw [Ne,dg_ne];omega
 obtain ⟨d,hd⟩:∃ d,(dg m).getLast? = some d:=⟨_,List.getLast?_eq_some_getLast hne⟩;have h0:=dg_last m d hd;have h9:d<10:=dig_dg m d (List.mem_of_getLast? hd);rw [head_chars,hd];refine ⟨fun e=>?_,fun e=>?_,fun e=>?_⟩
 ·have:=Option.some.inj e
  have:=congrArg UInt8.toNat this;rw [chr_nat h9] at this;have h48:(48:UInt8).toNat=48:=rfl;omega
 ·have:=Option.some.inj e
  have:=congrArg UInt8.toNat this;rw [chr_nat h9] at this;have h45:(45:UInt8).toNat=45:=rfl;omega
 ·have e2:=head_chars (dg m)
  rw [e,hd] at e2;cases e2
theorem parse_put {a:Int} (ha : -9223372036854775808≤a∧a≤9223372036854775807):parseR (putR a)=(a,0):=by
 rw [putR_dg]
 by_cases h0:a=0
 ·rw [if_pos h0,h0];rfl
 ·rw [if_neg h0]
  have hm:0<a.natAbs:=by omega
  obtain ⟨h1,h2,h3⟩:=head_ne hm
  have hv:val ((chars (dg a.natAbs)).reverse.map dval)=a.natAbs:=by rw [map_dval (dig_dg _),val_dg]
  have hall:=all_chars (dig_dg a.natAbs)
  by_cases hn:a<0
  ·rw [if_pos hn]
   unfold parseR;simp only [List.head?_cons,List.drop_succ_cons,List.drop_zero,show ((some (45:UInt8))==some 45)=true from rfl,if_true];rw [if_neg (by simp only [hall,h1,h3,Bool.true_eq_false,false_and,or_self,not_false_eq_true]),hv];rw [told_ok (by omega)];exact Prod.ext (by show -((a.natAbs:Nat):Int)=a;omega) rfl
  ·rw [if_neg hn]
   unfold parseR
   have hb:((chars (dg a.natAbs)).head? == some 45)=false:=by simpa using h2
   simp only [hb,Bool.false_eq_true,if_false];rw [if_neg (by simp only [hall,h1,h3,Bool.true_eq_false,false_and,or_self,not_false_eq_true]),hv];rw [told_ok (by omega)];exact Prod.ext (by show ((a.natAbs:Nat):Int)=a;omega) rfl
end Go.Hs.PutLaw
end

section
namespace Go.Hs
open PutLaw
def parW (b:Bool) (ts:List (List UInt8)):List (List UInt8):=if b then [40]::(ts++[[41]]) else ts
def X.W:X→Int→List (List UInt8)
 | .leaf op num name,_=>[if op=1 then putR num else if op=2 then name else sgT op.toNat]
 | .un op a,k=>parW (9<k) (sgT op.toNat::a.W 9)
 | .bin op a b,k=>parW (lvl op.toNat<k) (a.W (lvl op.toNat)++sgT op.toNat::b.W (lvl op.toNat+1))
 | .ite a b c,_=>wIf::(a.W 0++wThen::(b.W 0++wElse::(c.W 0++[wEndif])))
def X.fit:X→Prop
 | .leaf _ num _=>num≤9223372036854775807
 | .un _ a=>a.fit
 | .bin _ a b=>a.fit∧b.fit
 | .ite a b c=>a.fit∧b.fit∧c.fit
theorem fit_of:∀ (x:X) (k:Int),(∀ n∈x.row k,n.num≤9223372036854775807)→x.fit
 | .leaf op num name,k,h=>h ⟨op,num,name,-1,-1,-1⟩ (by simp [X.row])
 | .un op a,k,h=>fit_of a k fun n hn=>h n (by simp [X.row,hn])
 | .bin op a b,k,h=>⟨fit_of a k fun n hn=>h n (by simp [X.row,hn]),fit_of b (k+a.size) fun n hn=>h n (by simp [X.row,hn])⟩
 | .ite a b c,k,h=>⟨fit_of a k fun n hn=>h n (by simp [X.row,hn]),fit_of b (k+a.size) fun n hn=>h n (by simp [X.row,hn]),fit_of c (k+a.size+b.size) fun n hn=>h n (by simp [X.row,hn])⟩
theorem put_digits {n:Int} (h0:0≤n) (h1:n≤9223372036854775807):(putR n).all isDig=true∧putR n≠[]∧(putR n).length≤19∧trim0 (putR n)=putR n:=by
 rw [putR_dg]
 by_cases hz:n=0
 ·subst hz;decide +kernel
 rw [if_neg hz,if_neg (by omega)]
 have hp:0<n.natAbs:=by omega
 have hd:=dig_dg n.natAbs;obtain ⟨q1,q2,q3⟩:=head_ne hp;refine ⟨all_chars hd,q3,?_,?_⟩
 ·have:=dg_len (n:=n.natAbs) (k:=19) (by omega)
  have hl:(chars (dg n.natAbs)).length=(dg n.natAbs).length:=by simp [chars]
  omega
 ·unfold trim0
  have:(chars (dg n.natAbs)).dropWhile (· == 48)=chars (dg n.natAbs):=by
   cases hc:chars (dg n.natAbs) with
   | nil=>rfl
   | cons c r =>
    rw [hc] at q1
    have:(c==48)=false:=by rw [beq_eq_false_iff_ne];intro q;exact q1 (by rw [q];rfl)
    rw [List.dropWhile_cons,this];rfl
  rw [this,if_neg q3]
theorem isP_digits {t:List UInt8} (h:t.all isDig=true) (hne:t≠[]) (hl:t.length≤64):isP t=1:=by
 rw [isP_whole,if_neg (by omega)]
 cases t with
 | nil=>exact absurd rfl hne
 | cons c r =>
  rw [List.all_cons,Bool.and_eq_true] at h;rw [whole_dg h.1,if_pos (by rw [List.all_cons,h.1,h.2];rfl)]
theorem lvl_of {op:Int} (h:7≤op∧op≤21):1≤lvl op.toNat∧lvl op.toNat≤8∧ofI (sgT op.toNat) 2=some op.toNat∧isP (sgT op.toNat)≠0:=lvl_rng _ (by omega) (by omega)
theorem Gr.parW {n:Int} {ts:List (List UInt8)} {x:X} {b:Bool} (h:Gr (if b then 1 else n) ts x):Gr n (parW b ts) x:=by
 cases b
 ·exact h
 ·exact .par h
theorem leaf_cases {op num:Int} {name:List UInt8} (h:(X.leaf op num name).ok=true):(op=1∧0≤num∧name=[])∨(op=2∧num=0∧isP name=2)∨(op=3∧num=0∧name=[])∨(op=4∧num=0∧name=[]):=by
 simp only [X.ok,Bool.and_eq_true,decide_eq_true_eq] at h;obtain ⟨h1,h2⟩:=h;unfold wellP at h1
 split at h1
 ·cases h1
 rename_i h0;simp only [not_or,Int.not_lt] at h0
 split at h1
 ·simp only [Bool.and_eq_true,beq_iff_eq] at h1
  rename_i q;exact .inr (.inl ⟨q,h1⟩)
 ·rename_i q
  simp only [Bool.and_eq_true,beq_iff_eq,Bool.or_eq_true] at h1 q h0
  rcases h1.2 with q1 | q1
  ·exact .inl ⟨q1,h0.2.2,h1.1⟩
  ·by_cases o1:op=1
   ·exact .inl ⟨o1,h0.2.2,h1.1⟩
   ·by_cases o3:op=3
    ·exact .inr (.inr (.inl ⟨o3,q1,h1.1⟩))
    ·exact .inr (.inr (.inr ⟨by omega,q1,h1.1⟩))
theorem W_gr:∀ (x:X),x.ok=true→x.fit→∀ k:Int,k≤9→Gr (max k 1) (x.W k) x
 | .leaf op num name,h,hf,k,hk=>by
  rcases leaf_cases h with ⟨rfl,h1,rfl⟩ | ⟨rfl,rfl,h1⟩ | ⟨rfl,rfl,rfl⟩ | ⟨rfl,rfl,rfl⟩
  ·obtain ⟨p1,p2,p3,p4⟩:=put_digits h1 hf
   simp only [X.W,if_pos];exact .num (isP_digits p1 p2 (by omega)) (by rw [p4];exact parse_put ⟨by omega,hf⟩)
  ·simp only [X.W]
   exact .name h1
  ·exact .tr
  ·exact .fa
 | .un op a,h,hf,k,hk=>by
  simp only [X.ok,Bool.and_eq_true,decide_eq_true_eq] at h;have ih:=W_gr a h.2 hf 9 (Int.le_refl _)
  have:op=5∨op=6:=by omega
  have hb:decide (9<k)=false:=by rw [decide_eq_false_iff_not];omega
  rw [X.W,hb]
  rcases this with rfl | rfl
  ·exact .neg (by omega) ih
  ·exact .not (by omega) ih
 | .bin op a b,h,hf,k,hk=>by
  simp only [X.ok,Bool.and_eq_true,decide_eq_true_eq] at h;obtain ⟨l1,l2,_,_⟩:=lvl_of ⟨h.1.1.1,h.1.1.2⟩;have ha:=W_gr a h.1.2 hf.1 (lvl op.toNat) (by omega);have hb:=W_gr b h.2 hf.2 (lvl op.toNat+1) (by omega);rw [Int.max_eq_left (by omega)] at ha hb
  have ho:((op.toNat:Nat):Int)=op:=by omega
  rw [X.W];refine Gr.parW ?_;have:=Gr.bin (n:=lvl op.toNat) (op:=op.toNat) (by omega) (by omega) (Int.le_refl _) ha hb;rw [ho] at this;refine this.mono ?_
  by_cases q:lvl op.toNat<k
  ·rw [decide_eq_true q];exact l1
  ·rw [decide_eq_false q];simp only [Bool.false_eq_true,if_false];omega
 | .ite a b c,h,hf,k,hk=>by
  simp only [X.ok,Bool.and_eq_true] at h;exact .ite (W_gr a h.1.1 hf.1 0 (by decide)) (W_gr b h.1.2 hf.2.1 0 (by decide)) (W_gr c h.2 hf.2.2 0 (by decide))
def joinW:List (List UInt8)→List UInt8
 | []=>[]
 | [w]=>w
 | w::r=>w++32::joinW r
theorem words_ok:∀ (x:X),x.ok=true→x.fit→∀ k:Int,∀ w∈x.W k,isP w≠0
 | .leaf op num name,h,hf,k=>by
  intro w hw;simp only [X.W,List.mem_singleton] at hw;subst hw
  rcases leaf_cases h with ⟨rfl,h1,rfl⟩ | ⟨rfl,rfl,h1⟩ | ⟨rfl,rfl,rfl⟩ | ⟨rfl,rfl,rfl⟩
  ·obtain ⟨p1,p2,p3,p4⟩:=put_digits h1 hf
   rw [if_pos rfl,isP_digits p1 p2 (by omega)];decide
  ·rw [if_neg (by decide),if_pos rfl,h1];decide
  ·decide +kernel
  ·decide +kernel
 | .un op a,h,hf,k=>by
  simp only [X.ok,Bool.and_eq_true,decide_eq_true_eq] at h;have ih:=words_ok a h.2 hf 9
  have ho:isP (sgT op.toNat)≠0:=by
   have:op=5∨op=6:=by omega
   rcases this with rfl | rfl<;>decide +kernel
  intro w hw;rw [X.W] at hw;unfold parW at hw
  split at hw
  ·simp only [List.mem_cons,List.mem_append,List.not_mem_nil,or_false] at hw
   rcases hw with rfl | (rfl | hw) | rfl
   ·decide +kernel
   ·exact ho
   ·exact ih w hw
   ·decide +kernel
  ·simp only [List.mem_cons] at hw
   rcases hw with rfl | hw
   ·exact ho
   ·exact ih w hw
 | .bin op a b,h,hf,k=>by
  simp only [X.ok,Bool.and_eq_true,decide_eq_true_eq] at h;have ih1:=words_ok a h.1.2 hf.1 (lvl op.toNat);have ih2:=words_ok b h.2 hf.2 (lvl op.toNat+1);have ho:=(lvl_of ⟨h.1.1.1,h.1.1.2⟩).2.2.2;intro w hw;rw [X.W] at hw;unfold parW at hw
  split at hw
  ·simp only [List.mem_cons,List.mem_append,List.not_mem_nil,or_false] at hw
   rcases hw with rfl | (hw | rfl | hw) | rfl
   ·decide +kernel
   ·exact ih1 w hw
   ·exact ho
   ·exact ih2 w hw
   ·decide +kernel
  ·simp only [List.mem_cons,List.mem_append] at hw
   rcases hw with hw | rfl | hw
   ·exact ih1 w hw
   ·exact ho
   ·exact ih2 w hw
 | .ite a b c,h,hf,k=>by
  simp only [X.ok,Bool.and_eq_true] at h;have ih1:=words_ok a h.1.1 hf.1 0;have ih2:=words_ok b h.1.2 hf.2.1 0;have ih3:=words_ok c h.2 hf.2.2 0;intro w hw;simp only [X.W,List.mem_cons,List.mem_append,List.not_mem_nil,or_false] at hw
  rcases hw with rfl | hw | rfl | hw | rfl | hw | rfl
  ·decide +kernel
  ·exact ih1 w hw
  ·decide +kernel
  ·exact ih2 w hw
  ·decide +kernel
  ·exact ih3 w hw
  ·decide +kernel
theorem row_inj:∀ (x y:X) (k:Int),x.ok=true→y.ok=true→x.row k=y.row k→x=y:=by
 have last:∀ {a b:List XN} {m n:XN},a++[m]=b++[n]→a=b∧m=n:=by
  intro a b m n h;obtain ⟨q1,q2⟩:=List.append_inj' h rfl;exact ⟨q1,by simpa using q2⟩
 have body:∀ (x:X) (k:Int),∃ b,x.row k=b++[x.top k]:=fun x k=>by obtain ⟨b,h,_⟩:=x.row_top k;exact ⟨b,h⟩
 have opr:∀ (x:X) (k:Int),x.ok=true→match x with
   | .leaf op _ _=>1≤op∧op≤4
   | .un op _=>5≤op∧op≤6
   | .bin op _ _=>7≤op∧op≤21
   | .ite .. => True:=by
  intro x k h
  cases x with
  | leaf op num name=>rcases leaf_cases h with ⟨h,_⟩ | ⟨h,_⟩ | ⟨h,_⟩ | ⟨h,_⟩<;>(show 1≤op∧op≤4;omega)
  | un op a=>simp only [X.ok,Bool.and_eq_true,decide_eq_true_eq] at h;exact h.1
  | bin op a b=>simp only [X.ok,Bool.and_eq_true,decide_eq_true_eq] at h;exact h.1.1
  | ite=>trivial
 intro x
 induction x with
 | leaf op num name =>
  intro y k hx hy h;have o1:=opr _ k hx;have o2:=opr y k hy;obtain ⟨b,hb⟩:=body y k;rw [hb] at h;obtain ⟨_,ht⟩:=last (a:=[]) h
  cases y with
  | leaf op' num' name'=>simp only [X.top,XN.mk.injEq] at ht;obtain ⟨rfl,rfl,rfl,_⟩:=ht;rfl
  | un op' a'=>simp only [X.top,XN.mk.injEq] at ht o1 o2;omega
  | bin op' a' b'=>simp only [X.top,XN.mk.injEq] at ht o1 o2;omega
  | ite a' b' c'=>simp only [X.top,XN.mk.injEq] at ht o1 o2;omega
 | un op a iha =>
  intro y k hx hy h;have o1:=opr _ k hx;have o2:=opr y k hy
  cases y with
  | leaf op' num' name' =>
   have ht:=(last (b:=[]) h).2;simp only [XN.mk.injEq] at ht o1 o2;omega
  | un op' a' =>
   obtain ⟨hr,ht⟩:=last h;simp only [XN.mk.injEq] at ht;simp only [X.ok,Bool.and_eq_true] at hx hy;rw [iha a' k hx.2 hy.2 hr,ht.1]
  | bin op' a' b' =>
   have ht:=(last h).2;simp only [XN.mk.injEq] at ht o1 o2;omega
  | ite a' b' c' =>
   have ht:=(last h).2;simp only [XN.mk.injEq] at ht o1 o2;omega
 | bin op a b iha ihb =>
  intro y k hx hy h;have o1:=opr _ k hx;have o2:=opr y k hy
  cases y with
  | leaf op' num' name' =>
   have ht:=(last (b:=[]) h).2;simp only [XN.mk.injEq] at ht o1 o2;omega
  | un op' a' =>
   have ht:=(last h).2;simp only [XN.mk.injEq] at ht o1 o2;omega
  | bin op' a' b' =>
   obtain ⟨hr,ht⟩:=last h;simp only [XN.mk.injEq] at ht;simp only [X.ok,Bool.and_eq_true] at hx hy
   have hs:a.size=a'.size:=by omega
   obtain ⟨q1,q2⟩:=List.append_inj hr (by rw [X.row_len,X.row_len];exact hs);rw [← hs] at q2;rw [iha a' k hx.1.2 hy.1.2 q1,ihb b' _ hx.2 hy.2 q2,ht.1]
  | ite a' b' c' =>
   have ht:=(last h).2;simp only [XN.mk.injEq] at ht o1 o2;omega
 | ite a b c iha ihb ihc =>
  intro y k hx hy h;have o2:=opr y k hy
  cases y with
  | leaf op' num' name' =>
   have ht:=(last (b:=[]) h).2;simp only [XN.mk.injEq] at ht o2;omega
  | un op' a' =>
   have ht:=(last h).2;simp only [XN.mk.injEq] at ht o2;omega
  | bin op' a' b' =>
   have ht:=(last h).2;simp only [XN.mk.injEq] at ht o2;omega
  | ite a' b' c' =>
   obtain ⟨hr,ht⟩:=last h;simp only [XN.mk.injEq] at ht;simp only [X.ok,Bool.and_eq_true] at hx hy
   have hs:a.size=a'.size:=by omega
   have hs2:b.size=b'.size:=by omega
   obtain ⟨q1,q2⟩:=List.append_inj hr (by rw [List.length_append,List.length_append,X.row_len,X.row_len,X.row_len,X.row_len];omega);obtain ⟨q3,q4⟩:=List.append_inj q1 (by rw [X.row_len,X.row_len];exact hs);rw [← hs] at q4 q2;rw [← hs2] at q2;rw [iha a' k hx.1.1 hy.1.1 q3,ihb b' _ hx.1.2 hy.1.2 q4,ihc c' _ hx.2 hy.2 q2]
end Go.Hs
end

section
namespace Go.Hs
open Go.Proofs
set_option maxRecDepth 10000
theorem Fz.rowL {F:Nat→Bool} {H:Heap} {o g fz n:Nat} {c:Col} {cs ls:List V} (hF:F o=true) (hH:H o = .cells c g fz cs) (hn:cs.length=n) (hfl:flat ls=ls) (h1:∀ v∈ls,v.cells.length=1) (h:FzL F H cs ls):Fz F H (.msl o g 0 n 1) (.slice c false 1 ls):=by
 obtain ⟨hl,hr⟩:=h.get;refine Cv.msl (col:=id) o g 0 n 1 c fz cs ls hF hH (by omega) h1 (by omega) fun i k1 k2=>?_
 have e:(flat ls)[i]=ls[i]'(by rw [hfl] at k2;exact k2):=by simp only [hfl]
 rw [e];have:=hr i (by omega) (by rw [hfl] at k2;exact k2);simp only [Nat.zero_add];exact this
theorem flat_encs (c:Col) (l:List (Sl (List UInt8))):flat (l.map fun t=>encSl c 1 V.str t)=l.map fun t=>encSl c 1 V.str t:=by
 induction l with
 | nil=>rfl
 | cons x r ih=>unfold flat at ih ⊢;rw [List.map_cons,List.flatMap_cons,ih,cells_enc];rfl
theorem recol_encSS (g:Col→Col) (c c1:Col) (s:Sl (Sl (List UInt8))):(encSS c c1 s).recol g=encSS (g c) (g c1) s :=
 recol_enc g c 1 (fun t=>recol_enc g c1 1 (fun _=>rfl) t) s
theorem tabC_part (op:Nat) (h:op<23):partC true 3 tabC (op * 3)=some (encSg (tabL.getD op ⟨[],0,0⟩)):=by
 have hl:tabC.length=69:=tabC_len;have e0:=tabC_get op h 0 (by decide);have e1:=tabC_get op h 1 (by decide);have e2:=tabC_get op h 2 (by decide)
 have:(tabC.drop (op * 3)).take 3=(encSg (tabL.getD op ⟨[],0,0⟩)).cells:=by
  refine List.ext_getElem? fun i=>?_;rw [List.getElem?_take]
  by_cases hi:i<3
  ·rw [if_pos hi,List.getElem?_drop]
   match i,hi with
   | 0,_=>exact e0
   | 1,_=>exact e1
   | 2,_=>exact e2
  ·rw [if_neg hi]
   exact (List.getElem?_eq_none (by rw [encSg_cells];omega)).symm
 unfold partC;rw [this];simp [hl,encSg_K,V.cells];omega
theorem tab_parts (op:Nat) (h:op<23) (h0:1≤op):(tabL.getD op ⟨[],0,0⟩).parts=(partsOf op:Nat)∧(tabL.getD op ⟨[],0,0⟩).level=lvl op∧(tabL.getD op ⟨[],0,0⟩).text=sgT op:=by
 have:((List.range 23).all fun op=>decide (op=0∨(tabL.getD op ⟨[],0,0⟩).parts=(partsOf op:Nat)))=true:=by decide +kernel
 have:=List.all_eq_true.1 this op (List.mem_range.2 h);simp only [decide_eq_true_eq] at this;exact ⟨this.resolve_left (by omega),rfl,rfl⟩
def X.body:X→List (List UInt8)
 | .leaf op num name=>[if op=1 then putR num else if op=2 then name else sgT op.toNat]
 | .un op a=>sgT op.toNat::a.W 9
 | .bin op a b=>a.W (lvl op.toNat)++sgT op.toNat::b.W (lvl op.toNat+1)
 | .ite a b c=>wIf::(a.W 0++wThen::(b.W 0++wElse::(c.W 0++[wEndif])))
theorem lvl_leaf {op:Int} (h:op=1∨op=2∨op=3∨op=4):lvl op.toNat=10:=by
 rcases h with rfl | rfl | rfl | rfl<;>rfl
theorem W_body {x:X} (h:x.ok=true) {k:Int} (hk:k≤9) (b:Int):x.W k=parW (decide (lvl (x.top b).op.toNat<k)) x.body:=by
 cases x with
 | leaf op num name =>
  have:op=1∨op=2∨op=3∨op=4:=by rcases leaf_cases h with ⟨h,_⟩ | ⟨h,_⟩ | ⟨h,_⟩ | ⟨h,_⟩<;>omega
  have hl:=lvl_leaf this;rw [decide_eq_false (by show ¬ lvl op.toNat<k;omega)];rfl
 | un op a =>
  simp only [X.ok,Bool.and_eq_true,decide_eq_true_eq] at h
  have:lvl op.toNat=9:=by
   have:op=5∨op=6:=by omega
   rcases this with rfl | rfl<;>rfl
  show parW (decide (9<k)) _=parW (decide (lvl op.toNat<k)) _
  rw [this];rfl
 | bin op a b=>rfl
 | ite a b c =>
  have:lvl 22=10:=rfl;rw [decide_eq_false (by show ¬ lvl (22:Int).toNat<k;show ¬ lvl 22<k;omega)];rfl
theorem top_op {x:X} (h:x.ok=true) (b:Int):1≤(x.top b).op∧(x.top b).op≤22:=by
 cases x with
 | leaf op num name=>rcases leaf_cases h with ⟨h,_⟩ | ⟨h,_⟩ | ⟨h,_⟩ | ⟨h,_⟩<;>(show 1≤op∧op≤22;omega)
 | un op a=>simp only [X.ok,Bool.and_eq_true,decide_eq_true_eq] at h;show 1≤op∧op≤22;omega
 | bin op a b=>simp only [X.ok,Bool.and_eq_true,decide_eq_true_eq] at h;show 1≤op∧op≤22;omega
 | ite=>show (1:Int)≤22∧(22:Int)≤22;omega
end Go.Hs
end

section
namespace Go.Hs
open PutLaw
def ErrS (x:Bool × RS):Prop:=x.1=false→x.2.e≠0
theorem ErrS.then {x:Bool × RS} {k:RS→Bool × RS} (h1:ErrS x) (h2:x.1=true→ErrS (k x.2)):ErrS (andThen x k):=by
 obtain ⟨b,r⟩:=x;cases b
 ·exact h1
 ·exact h2 rfl
theorem ErrS.ok {x:RS}:ErrS (true,x):=fun h=>by cases h
theorem eat_err (l:List Tk) (w:List UInt8) (r:RS):ErrS (eatP l w r):=by
 unfold eatP
 split
 ·intro _;show (80:Int)≠0;decide
 ·exact .ok
theorem climb_err {l:List Tk}:∀ (f:Nat) (n:Int) (r:RS),l.length<f+r.i→r.i≤l.length→ErrS (climbP l f n r)
 | 0,n,r,h,h2=>by omega
 | f+1,n,r,h,h2=>by
  have hin:∀ n (r':RS),r.i<r'.i→r'.i≤l.length→ErrS (climbP l f n r'):=fun n r' a b=>climb_err f n r' (by omega) b;have hbs:=climbP_bal l f;rw [climbP];refine ErrS.then ?_ fun _=>?_
  ·have hkl:(nextP l r.i).kind≠0→r.i+1≤l.length:=fun q=>nextP_lt q
   unfold aheadP
   split
   ·unfold numberP
    split
    ·rename_i q;intro _;exact q
    ·exact .ok
   split
   ·exact .ok
   split
   ·intro _;show (80:Int)≠0;decide
   rename_i k0;have hlt:=hkl k0
   split
   ·exact ErrS.then (hin 9 r.adv (Nat.lt_succ_self _) hlt) fun _ => .ok
   split
   ·exact ErrS.then (hin 1 r.adv (Nat.lt_succ_self _) hlt) fun _=>eat_err _ _ _
   split
   ·unfold branchesP
    have b0:=eatP_bal l wIf r;refine ErrS.then (eat_err _ _ _) fun q1=>?_;have m1:=b0.2 q1
    have u1:r.i+1≤(eatP l wIf r).2.i:=by
     unfold eatP at q1 ⊢
     split at q1
     ·cases q1
     ·rename_i qq;rw [if_neg qq];exact Nat.le_refl _
    have i1:=m1.inn h2;generalize (eatP l wIf r).2=r1 at u1 i1 ⊢;have b1:=hbs 1 r1;refine ErrS.then (hin 1 r1 u1 i1) fun _=>?_;have u2:=b1.up;have i2:=b1.inn i1;generalize (climbP l f 1 r1).2=a at u2 i2 ⊢;have b2:=(eatP_bal l wThen a).1;refine ErrS.then (eat_err _ _ _) fun _=>?_;have u3:=b2.up;have i3:=b2.inn i2;generalize (eatP l wThen a).2=r2 at u3 i3 ⊢;have b3:=hbs 1 r2;refine ErrS.then (hin 1 r2 (by omega) i3) fun _=>?_;have u4:=b3.up;have i4:=b3.inn i3;generalize (climbP l f 1 r2).2=b at u4 i4 ⊢;have b4:=(eatP_bal l wElse b).1;refine ErrS.then (eat_err _ _ _) fun _=>?_;have u5:=b4.up;have i5:=b4.inn i4;generalize (eatP l wElse b).2=r3 at u5 i5 ⊢;refine ErrS.then (hin 1 r3 (by omega) i5) fun _=>?_;exact ErrS.then (eat_err _ _ _) fun _ => .ok
   split
   ·exact .ok
   ·intro _;show (80:Int)≠0;decide
  ·have hb:=aheadP_bal hbs r
   have u0:=hb.up;have i0:=hb.inn h2;generalize (aheadP l (climbP l f) r).2=q at u0 i0 ⊢
   have key:∀ (m:Nat) (q:RS),r.i≤q.i→q.i≤l.length→ErrS (loopP l (climbP l f) n m q):=by
    intro m
    induction m with
    | zero=>intro q _ _;exact .ok
    | succ m ih =>
     intro q hq hl;rw [loopP]
     split
     ·exact .ok
     ·rename_i op ho
      split
      ·exact .ok
      ·have hb:=hbs (lvl op+1) q.adv
       have hlt:=opAt_lt ho;refine ErrS.then (hin _ q.adv (by show r.i<q.i+1;omega) hlt) fun _=>?_;refine ih _ ?_ ?_
       ·have:=hb.up
        show r.i≤_
        have h3:q.i+1≤_:=this;simp only [RS.put_i];omega
       ·simp only [RS.put_i];exact hb.inn hlt
   exact key _ q u0 i0
theorem joinW_len:∀ ws:List (List UInt8),(joinW ws).length≤(ws.map fun w=>w.length+1).sum
 | []=>by simp [joinW]
 | [w]=>by simp [joinW]
 | w::v::r=>by
  have:=joinW_len (v::r);simp only [joinW,List.length_append,List.length_cons,List.map_cons,List.sum_cons] at this ⊢;omega
def wLen (ws:List (List UInt8)):Nat:=(ws.map fun w=>w.length+1).sum
theorem wLen_app (a b:List (List UInt8)):wLen (a++b)=wLen a+wLen b:=by simp [wLen]
theorem wLen_cons (w:List UInt8) (b:List (List UInt8)):wLen (w::b)=w.length+1+wLen b:=by simp [wLen]
theorem wLen_nil:wLen []=0:=rfl
theorem wLen_par (b:Bool) (ts:List (List UInt8)):wLen (parW b ts)≤wLen ts+4:=by
 cases b
 ·show wLen ts≤_;omega
 ·simp only [parW,if_true,wLen_cons,wLen_app,wLen_nil,List.length_cons,List.length_nil];omega
theorem sg_len:∀ op,op≤22→(sgT op).length≤7:=by
 have:((List.range 23).all fun op=>decide ((sgT op).length≤7))=true:=by decide +kernel
 intro op h;have:=List.all_eq_true.1 this op (List.mem_range.2 (by omega));simpa using this
theorem W_len:∀ (x:X),x.ok=true→x.fit→∀ k:Int,wLen (x.W k)≤66 * x.size
 | .leaf op num name,h,hf,k=>by
  simp only [X.W,wLen_cons,wLen_nil,X.size]
  rcases leaf_cases h with ⟨rfl,h1,rfl⟩ | ⟨rfl,rfl,h1⟩ | ⟨rfl,rfl,rfl⟩ | ⟨rfl,rfl,rfl⟩
  ·obtain ⟨p1,p2,p3,p4⟩:=put_digits h1 hf
   rw [if_pos rfl];omega
  ·have:=(isP_first (w:=name) (by omega)).2.2
   rw [if_neg (by decide),if_pos rfl];omega
  ·decide +kernel
  ·decide +kernel
 | .un op a,h,hf,k=>by
  simp only [X.ok,Bool.and_eq_true,decide_eq_true_eq] at h;have ih:=W_len a h.2 hf 9;have:=wLen_par (9<k) (sgT op.toNat::a.W 9);have hs:=sg_len op.toNat (by omega);rw [wLen_cons] at this;simp only [X.W,X.size];omega
 | .bin op a b,h,hf,k=>by
  simp only [X.ok,Bool.and_eq_true,decide_eq_true_eq] at h;have ih1:=W_len a h.1.2 hf.1 (lvl op.toNat);have ih2:=W_len b h.2 hf.2 (lvl op.toNat+1);have:=wLen_par (lvl op.toNat<k) (a.W (lvl op.toNat)++sgT op.toNat::b.W (lvl op.toNat+1));have hs:=sg_len op.toNat (by omega);rw [wLen_app,wLen_cons] at this;simp only [X.W,X.size];omega
 | .ite a b c,h,hf,k=>by
  simp only [X.ok,Bool.and_eq_true] at h;have ih1:=W_len a h.1.1 hf.1 0;have ih2:=W_len b h.1.2 hf.2.1 0;have ih3:=W_len c h.2 hf.2.2 0;simp only [X.W,X.size,wLen_cons,wLen_app,wLen_nil];have e1:wIf.length=2:=rfl;have e2:wThen.length=4:=rfl;have e3:wElse.length=4:=rfl;have e4:wEndif.length=5:=rfl;omega
theorem print_len {x:X} (h:x.ok=true) (hf:x.fit):(joinW (x.W 0)).length≤66 * x.size:=Nat.le_trans (joinW_len _) (W_len x h hf 0)
theorem Gr.size {n:Int} {ts:List (List UInt8)} {x:X} (h:Gr n ts x):x.size≤ts.length:=by
 induction h<;>simp only [X.size,List.length_cons,List.length_append,List.length_nil]<;>omega
theorem Gr.fit {n:Int} {ts:List (List UInt8)} {x:X} (h:Gr n ts x):x.fit:=by
 induction h with
 | @num n t v h1 h2 =>
  show v≤9223372036854775807
  have hp:(parseR (trim0 t)).1≤9223372036854775807:=by
   have ht:∀ z:Int,(told z).1≤9223372036854775807:=by
    intro z;unfold told
    split
    ·rename_i q
     simp only [fits,decide_eq_true_eq] at q;exact q.2
    ·show (0:Int)≤_;decide
   generalize trim0 t=u;unfold parseR;generalize (u.head? == some 45)=bl;cases bl
   ·simp only [Bool.false_eq_true,if_false]
    split
    ·show (0:Int)≤_;decide
    ·exact ht _
   ·simp only [if_true]
    split
    ·show (0:Int)≤_;decide
    ·exact ht _
  rw [h2] at hp;exact hp
 | name=>show (0:Int)≤_;decide
 | tr=>show (0:Int)≤_;decide
 | fa=>show (0:Int)≤_;decide
 | neg _ _ ih=>exact ih
 | not _ _ ih=>exact ih
 | par _ ih=>exact ih
 | bin _ _ _ _ _ i1 i2=>exact ⟨i1,i2⟩
 | ite _ _ _ i1 i2 i3=>exact ⟨i1,i2,i3⟩
theorem toks_count {s:List UInt8} {l:List Tk} (h:toksP s=(l,0,0)):l.length≤s.length:=by
 have key:∀ {s:List UInt8} {ws:List (List UInt8)},Lx s ws→ws.length≤s.length:=by
  intro s ws h
  induction h with
  | nil=>exact Nat.zero_le _
  | @cons s ws k hb hk h0 h64 _ ih =>
   have hle:=firstP_le (s.drop (blk s));rw [hk,List.length_drop] at hle;rw [List.length_drop,List.length_drop] at ih;simp only [List.length_cons];omega
 have:=key (toksP_lx h);rwa [List.length_map] at this
end Go.Hs
end

section
namespace Go.Hs
open Go.Proofs
set_option maxRecDepth 10000
theorem catL_W (ls:List (List (List UInt8))):catL (ls.map fun l=>Sl.mk false l)=ls.flatten:=by
 induction ls with
 | nil=>rfl
 | cons a r ih=>rw [List.map_cons,catL,List.flatMap_cons,List.flatten_cons];exact congrArg _ ih
theorem W_cnt:∀ (x:X) (k:Int),(x.W k).length≤6 * x.size
 | .leaf ..,k=>by simp [X.W,X.size]
 | .un op a,k=>by
  have:=W_cnt a 9
  have hp:∀ b (ts:List (List UInt8)),(parW b ts).length≤ts.length+2:=fun b ts=>by cases b<;>simp [parW]
  have:=hp (9<k) (sgT op.toNat::a.W 9);simp only [X.W,X.size,List.length_cons] at this ⊢;omega
 | .bin op a b,k=>by
  have:=W_cnt a (lvl op.toNat);have:=W_cnt b (lvl op.toNat+1)
  have hp:∀ b (ts:List (List UInt8)),(parW b ts).length≤ts.length+2:=fun b ts=>by cases b<;>simp [parW]
  have:=hp (lvl op.toNat<k) (a.W (lvl op.toNat)++sgT op.toNat::b.W (lvl op.toNat+1));simp only [X.W,X.size,List.length_cons,List.length_append] at this ⊢;omega
 | .ite a b c,k=>by
  have:=W_cnt a 0;have:=W_cnt b 0;have:=W_cnt c 0;simp only [X.W,X.size,List.length_cons,List.length_append,List.length_nil];omega
theorem cat_call {G:Nat→V} (hG:GOk G) (F:Nat→Bool) {H:Heap} {K:V→Heap→Prop} {v:V} (ls:List (List (List UInt8))) (hn:ls.length<1000) (hl:ls.flatten.length<1000000) (hne:ls.flatten.length≠0)
  (h:Fz F H v (encSS .new .new (.mk false (ls.map fun l=>Sl.mk false l)))) (hk:K (encSl .new 1 V.str (.mk false ls.flatten)) hNone):CallA Tryz.prog G 161 [v] H K:=by
 refine CallA.frzL F [encSS .new .new (.mk false (ls.map fun l=>Sl.mk false l))] [] ⟨h,trivial⟩ trivial ?_;refine CallA.pure hG (by kernel_rfl) ?_;rw [List.map_cons,List.map_nil,recol_encSS];refine (sConcat_spec G hG _ _ (.mk false (ls.map fun l=>Sl.mk false l)) (by simp [Sl.l];omega) (by rw [show (Sl.mk false (ls.map fun l=>Sl.mk false l)).l=ls.map fun l=>Sl.mk false l from rfl,catL_W];exact hl) (by rw [show (Sl.mk false (ls.map fun l=>Sl.mk false l)).l=ls.map fun l=>Sl.mk false l from rfl,catL_W];exact hne)).mono ?_;rintro _ _ rfl;rw [show (Sl.mk false (ls.map fun l=>Sl.mk false l)).l=ls.map fun l=>Sl.mk false l from rfl,catL_W];have:(encSl .new 1 V.str (.mk false ls.flatten)).recol Col.bk=encSl .new 1 V.str (.mk false ls.flatten):=recol_enc _ _ _ (fun _=>rfl) _;rw [this];exact hk
theorem Fz.rowSS {F:Nat→Bool} {H:Heap} {o g n:Nat} {cs:List V} (ls:List (List (List UInt8))) (hF:F o=true) (hH:H o = .cells .new g 0 cs) (hn:cs.length=n) (h:FzL F H cs (ls.map fun l=>encSl .new 1 V.str (.mk false l))) :
  Fz F H (.msl o g 0 n 1) (encSS .new .new (.mk false (ls.map fun l=>Sl.mk false l))):=by
 have e:encSS .new .new (.mk false (ls.map fun l=>Sl.mk false l)) = .slice .new false 1 (ls.map fun l=>encSl .new 1 V.str (.mk false l)):=by
  simp only [encSS,encSl,List.map_map];rfl
 rw [e]
 have e2:(ls.map fun l=>encSl .new 1 V.str (.mk false l))=(ls.map fun l=>Sl.mk false l).map fun t=>encSl .new 1 V.str t:=by rw [List.map_map];rfl
 refine Fz.rowL hF hH hn (by rw [e2];exact flat_encs .new _) ?_ h;intro v hv;obtain ⟨l,_,rfl⟩:=List.mem_map.1 hv;rfl
theorem Fz.one {F:Nat→Bool} {H:Heap} {o g:Nat} {w:List UInt8} (hF:F o=true) (hH:H o = .cells .new g 0 [.str w]):Fz F H (.msl o g 0 1 1) (encSl .new 1 V.str (.mk false [w])) :=
 Fz.sl (f:=V.str) (l:=[w]) (m:=1) (g:=g) (fz:=0) (c := .new) hF hH (fun _=>rfl)
theorem xWords_spec (G:Nat→V) (hE:GExp G) (s:Sl XN) (hs:s.l.length<1000):∀ (m:Nat) (y:X) (b:Nat) (c:Col) (k:Int),y.size≤m→At s.l y b→y.ok=true→y.fit→0≤k→k≤9 →
  Spec Tryz.prog G 94 [.agg [encSl c 6 encXN s],.int .i64 ((b:Int)+y.size-1),.int .i64 k] hNone (fun v _=>v=encSl .new 1 V.str (.mk false (y.W k))):=by
 have hG:=hE.ok;intro m
 induction m with
 | zero=>intro y b c k hm;have:=y.size_pos;omega
 | succ m ih =>
 intro y b c k hm hat hy hf hk0 hk9;refine Spec.of_code' 0 106 [.tmp 6] Tryz.func94 rfl rfl rfl rfl fun X0=>?_;have hyp:=y.size_pos;have hget:=hat.get
 have hsz:b+y.size≤s.l.length:=by
  obtain ⟨pre,post,e1,e2⟩:=hat;have:=congrArg List.length e1;simp only [List.length_append,X.row_len] at this;omega
 have hW:=W_body hy hk9 (b:Int);have hop:=top_op hy (b:Int)
 have hbp:0<y.body.length:=by cases y<;>(simp [X.body];try omega)
 have hbl:y.body.length≤6 * y.size:=by
  have:=W_cnt y 0;rw [W_body hy (by decide) (b:Int)] at this
  cases hq:decide (lvl (y.top b).op.toNat<0)<;>rw [hq] at this<;>simp [parW] at this<;>omega
 have hpos:((b:Int)+y.size-1)=((b+y.size-1:Nat):Int):=by omega
 have hlt:b+y.size-1<s.l.length:=by omega
 rw [hpos];generalize hn:y.top b=n at hget hW hop;generalize y.W k=res at hW ⊢;refine AW.seq_k fun K hK=>AW.region (by kernel_rfl) ?_;simp -implicitDefEqProofs only[go_sem,seval,↓reduceIte];intro g3;refine hK _ ?_;clear hK K;refine AW.seq_k fun K hK=>AW.region (by kernel_rfl) ?_;simp -implicitDefEqProofs only[go_sem,seval,↓reduceIte,hget,hlt,encXN_K];intro g7;refine hK _ ?_;clear hK K;refine AW.weak (Weak.stF (fun o=>o==3 || o==7) (l:=[(2,.int .i64 k),(3,.view .new (.agg [encSl c 6 encXN s])),(7,.view .new (encXN n))]) (m:=[]) ?_ trivial) ?_
 ·simp -implicitDefEqProofs only[go_sem,seval,↓reduceIte]
  exact ⟨Fz.same _,Fz.ptr (v := .agg [encSl c 6 encXN s]) (c := .new) (fz:=0) rfl (by simp -implicitDefEqProofs only[go_sem,seval,↓reduceIte];try rfl),Fz.ptr (v:=encXN n) (c := .new) (fz:=0) rfl (by simp -implicitDefEqProofs only[go_sem,seval,↓reduceIte];try rfl)⟩
 obtain ⟨on,hon⟩:∃ on:Nat,n.op=on:=⟨n.op.toNat,by omega⟩;have hpt:=tabC_part on (by omega);obtain ⟨t1,t2,t3⟩:=tab_parts on (by omega) (by omega)
 have hoi:n.op<23:=by omega
 have hoj:0≤n.op:=by omega
 have hot:n.op.toNat=on:=by omega
 have pT:PureC Tryz.prog G 159 [] (.agg tabC):=⟨by kernel_rfl,by
  simp -implicitDefEqProofs only[go_sem,seval,↓reduceIte,List.map_nil];refine (xTable_spec G hG).mono ?_;rintro _ _ rfl
  exact tabC_rc _⟩
 generalize tabL.getD on ⟨[],0,0⟩=sg at hpt t1 t2 t3;obtain ⟨tx,lv,pa⟩:=sg;simp only at t1 t2 t3;subst t1 t2 t3;rw [encSg_K] at hpt;simp only at hpt;refine AW.seq_k fun K hK=>AW.regionT ⟨fun _ => .agg tabC,fun i=>if i=0 then .pure else .lend⟩ (by kernel_rfl) hG (by kernel_rfl) (by kernel_rfl) ?_;simp -implicitDefEqProofs only[go_sem,seval,↓reduceIte,encXN_K,hoi,hoj,hot,hpt];refine ⟨pT,?_⟩;intro g8;refine hK _ ?_;clear hK K;refine AW.weak (Weak.stF (fun o=>o==8) (l:=[(2,.int .i64 k),(3,.view .new (.agg [encSl c 6 encXN s])),(7,.view .new (encXN n)),(8,.view .new (.agg [.str (sgT on),.int .i64 (lvl on),.int .i64 (partsOf on:Nat)]))]) (m:=[]) ?_ trivial) ?_
 ·simp -implicitDefEqProofs only[go_sem,seval,↓reduceIte]
  exact ⟨Fz.same _,Fz.same _,Fz.same _,Fz.ptr (v := .agg [.str (sgT on),.int .i64 (lvl on),.int .i64 (partsOf on:Nat)]) (c := .new) (fz:=0) rfl (by simp -implicitDefEqProofs only[go_sem,seval,↓reduceIte];try rfl)⟩
 refine AW.seq_k fun K hK=>AW.region (by kernel_rfl) ?_;simp -implicitDefEqProofs only[go_sem,seval,↓reduceIte];refine hK _ ?_;clear hK K
 have pw:∀ (z:X) (bz:Nat) (lv:Int),z.size≤m→At s.l z bz→z.ok=true→z.fit→0≤lv→lv≤9→PureC Tryz.prog G 94 [.agg [encSl c 6 encXN s],.int .i64 ((bz:Int)+z.size-1),.int .i64 lv] (encSl .new 1 V.str (.mk false (z.W lv))):=by
  intro z bz lv h1 h2 h3 h4 h5 h6;refine ⟨by kernel_rfl,?_⟩;simp -implicitDefEqProofs only[go_sem,seval,↓reduceIte,recol_xns];refine (ih z bz _ lv h1 h2 h3 h4 h5 h6).mono ?_;rintro _ _ rfl;exact recol_enc _ _ _ (fun _=>rfl) _
 refine AW.seqJ (fun (_:Unit)=>st [(2,.int .i64 k),(8,.view .new (.agg [.str (sgT on),.int .i64 (lvl on),.int .i64 (partsOf on:Nat)])),(9,encSl .new 1 V.str (.mk false y.body))] []) (fun _=>True) (fun K1 hK1=>?_) ?_;rotate_left
 ·intro _ _
  refine AW.seq_k fun K2 hK2=>?_;rw [hot] at hW
  by_cases hlk:lvl on<k
  ·have e1:decide (lvl on<k)=true:=by simpa using hlk
   rw [decide_eq_true hlk] at hW;refine AW.seq_k fun K hK=>AW.region (by kernel_rfl) ?_;simp -implicitDefEqProofs only[go_sem,seval,↓reduceIte,e1];refine hK _ ?_;clear hK K;refine AW.condS (by simp -implicitDefEqProofs only[go_sem,seval,↓reduceIte];rfl) (fun h99=>?_) (fun h99=>?_);rotate_left
   ·cases h99
   refine AW.seq_k fun K hK=>AW.region (by kernel_rfl) ?_;simp -implicitDefEqProofs only[go_sem,seval,↓reduceIte];intro g100 g102 g103;refine cat_call hG (fun o=>o==100 || o==102 || o==103) [[[40]],y.body,[[41]]] (by simp) (by simp;omega) (by simp) (Fz.rowSS (cs:=[.msl 100 g100 0 1 1,encSl .new 1 V.str (.mk false y.body),.msl 102 g102 0 1 1]) [[[40]],y.body,[[41]]] rfl (by simp -implicitDefEqProofs only[go_sem,seval,↓reduceIte];try rfl) rfl ⟨Fz.one rfl (by simp -implicitDefEqProofs only[go_sem,seval,↓reduceIte];try rfl),Fz.same _,Fz.one rfl (by simp -implicitDefEqProofs only[go_sem,seval,↓reduceIte];try rfl),trivial⟩) ?_;simp -implicitDefEqProofs only[go_sem,seval,↓reduceIte];refine hK _ ?_;clear hK K;refine AW.ret ?_;simp -implicitDefEqProofs only[go_sem,seval,↓reduceIte];refine endK_some ?_;rw [hW];simp [parW]
  ·have e1:decide (lvl on<k)=false:=by simpa using hlk
   rw [decide_eq_false hlk] at hW;refine AW.seq_k fun K hK=>AW.region (by kernel_rfl) ?_;simp -implicitDefEqProofs only[go_sem,seval,↓reduceIte,e1];refine hK _ ?_;clear hK K;refine AW.condS (by simp -implicitDefEqProofs only[go_sem,seval,↓reduceIte];rfl) (fun h99=>?_) (fun h99=>?_)
   ·cases h99
   refine AW.skip ?_;simp -implicitDefEqProofs only[go_sem,seval,↓reduceIte];refine hK2 _ ?_;refine AW.seq_k fun K hK=>AW.region (by kernel_rfl) ?_;simp -implicitDefEqProofs only[go_sem,seval,↓reduceIte];refine hK _ ?_;clear hK K;refine AW.ret ?_;simp -implicitDefEqProofs only[go_sem,seval,↓reduceIte];refine endK_some ?_;rw [hW];rfl
 refine AW.block ?_
 cases y with
 | leaf op num name =>
  obtain rfl:n=⟨op,num,name,-1,-1,-1⟩:=hn.symm
  rcases leaf_cases hy with ⟨rfl,h1,rfl⟩ | ⟨rfl,rfl,h1⟩ | ⟨rfl,rfl,rfl⟩ | ⟨rfl,rfl,rfl⟩
  ·have hf:num≤9223372036854775807:=hf
   refine AW.seq_k fun K hK=>AW.region (by kernel_rfl) ?_;simp -implicitDefEqProofs only[go_sem,seval,↓reduceIte,encXN_K];refine hK _ ?_;clear hK K;refine AW.condS (by simp -implicitDefEqProofs only[go_sem,seval,↓reduceIte];rfl) (fun h22=>?_) (fun h22=>?_);rotate_left
   ·cases h22
   refine AW.region (by kernel_rfl) ?_;simp -implicitDefEqProofs only[go_sem,seval,↓reduceIte,encXN_K];refine CallA.pure hG (by kernel_rfl) ?_;simp -implicitDefEqProofs only[go_sem,seval,↓reduceIte];refine (nPut_spec G hE.toGNum num ⟨by show -9223372036854775808≤num;omega,hf⟩).mono ?_;rintro _ _ rfl;simp -implicitDefEqProofs only[go_sem,seval,↓reduceIte];intro g29;exact hK1 _ () trivial (Weak.stF (fun o=>o==29) (by simp -implicitDefEqProofs only[go_sem,seval,↓reduceIte];exact ⟨Fz.same _,Fz.same _,Fz.one rfl (by simp -implicitDefEqProofs only[go_sem,seval,↓reduceIte];try rfl)⟩) trivial)
  ·refine AW.seq_k fun K hK=>AW.region (by kernel_rfl) ?_
   simp -implicitDefEqProofs only[go_sem,seval,↓reduceIte,encXN_K];refine hK _ ?_;clear hK K;refine AW.condS (by simp -implicitDefEqProofs only[go_sem,seval,↓reduceIte];rfl) (fun h22=>?_) (fun h22=>?_)
   ·cases h22
   clear h22;refine AW.seq_k fun K hK=>AW.region (by kernel_rfl) ?_;simp -implicitDefEqProofs only[go_sem,seval,↓reduceIte,encXN_K];refine hK _ ?_;clear hK K;refine AW.condS (by simp -implicitDefEqProofs only[go_sem,seval,↓reduceIte];rfl) (fun h22=>?_) (fun h22=>?_);rotate_left
   ·cases h22
   refine AW.region (by kernel_rfl) ?_;simp -implicitDefEqProofs only[go_sem,seval,↓reduceIte,encXN_K];intro g36;exact hK1 _ () trivial (Weak.stF (fun o=>o==36) (by simp -implicitDefEqProofs only[go_sem,seval,↓reduceIte];exact ⟨Fz.same _,Fz.same _,Fz.one rfl (by simp -implicitDefEqProofs only[go_sem,seval,↓reduceIte];try rfl)⟩) trivial)
  ·obtain rfl:on=3:=by have:(3:Int)=on:=hon;omega
   have e2:((((partsOf ((3:Nat):Int):Nat):Int))==2)=false:=rfl;have e3:((((partsOf ((3:Nat):Int):Nat):Int))==1)=false:=rfl;refine AW.seq_k fun K hK=>AW.region (by kernel_rfl) ?_;simp -implicitDefEqProofs only[go_sem,seval,↓reduceIte,encXN_K];refine hK _ ?_;clear hK K;refine AW.condS (by simp -implicitDefEqProofs only[go_sem,seval,↓reduceIte];rfl) (fun h22=>?_) (fun h22=>?_)
   ·cases h22
   clear h22;refine AW.seq_k fun K hK=>AW.region (by kernel_rfl) ?_;simp -implicitDefEqProofs only[go_sem,seval,↓reduceIte,encXN_K];refine hK _ ?_;clear hK K;refine AW.condS (by simp -implicitDefEqProofs only[go_sem,seval,↓reduceIte];rfl) (fun h22=>?_) (fun h22=>?_)
   ·cases h22
   clear h22;refine AW.seq_k fun K hK=>AW.region (by kernel_rfl) ?_;simp -implicitDefEqProofs only[go_sem,seval,↓reduceIte,encXN_K];refine hK _ ?_;clear hK K;refine AW.condS (by simp -implicitDefEqProofs only[go_sem,seval,↓reduceIte];rfl) (fun h22=>?_) (fun h22=>?_)
   ·cases h22
   clear h22;refine AW.seq_k fun K hK=>AW.region (by kernel_rfl) ?_;simp -implicitDefEqProofs only[go_sem,seval,↓reduceIte,e2];refine hK _ ?_;clear hK K;refine AW.condS (by simp -implicitDefEqProofs only[go_sem,seval,↓reduceIte];rfl) (fun h22=>?_) (fun h22=>?_)
   ·cases h22
   clear h22;refine AW.seq_k fun K hK=>AW.region (by kernel_rfl) ?_;simp -implicitDefEqProofs only[go_sem,seval,↓reduceIte,e3];refine hK _ ?_;clear hK K;refine AW.condS (by simp -implicitDefEqProofs only[go_sem,seval,↓reduceIte];rfl) (fun h22=>?_) (fun h22=>?_)
   ·cases h22
   clear h22;refine AW.region (by kernel_rfl) ?_;simp -implicitDefEqProofs only[go_sem,seval,↓reduceIte];intro g21;exact hK1 _ () trivial (Weak.stF (fun o=>o==21) (by simp -implicitDefEqProofs only[go_sem,seval,↓reduceIte];exact ⟨Fz.same _,Fz.same _,Fz.one rfl (by simp -implicitDefEqProofs only[go_sem,seval,↓reduceIte];try rfl)⟩) trivial)
  ·obtain rfl:on=4:=by have:(4:Int)=on:=hon;omega
   have e2:((((partsOf ((4:Nat):Int):Nat):Int))==2)=false:=rfl;have e3:((((partsOf ((4:Nat):Int):Nat):Int))==1)=false:=rfl;refine AW.seq_k fun K hK=>AW.region (by kernel_rfl) ?_;simp -implicitDefEqProofs only[go_sem,seval,↓reduceIte,encXN_K];refine hK _ ?_;clear hK K;refine AW.condS (by simp -implicitDefEqProofs only[go_sem,seval,↓reduceIte];rfl) (fun h22=>?_) (fun h22=>?_)
   ·cases h22
   clear h22;refine AW.seq_k fun K hK=>AW.region (by kernel_rfl) ?_;simp -implicitDefEqProofs only[go_sem,seval,↓reduceIte,encXN_K];refine hK _ ?_;clear hK K;refine AW.condS (by simp -implicitDefEqProofs only[go_sem,seval,↓reduceIte];rfl) (fun h22=>?_) (fun h22=>?_)
   ·cases h22
   clear h22;refine AW.seq_k fun K hK=>AW.region (by kernel_rfl) ?_;simp -implicitDefEqProofs only[go_sem,seval,↓reduceIte,encXN_K];refine hK _ ?_;clear hK K;refine AW.condS (by simp -implicitDefEqProofs only[go_sem,seval,↓reduceIte];rfl) (fun h22=>?_) (fun h22=>?_)
   ·cases h22
   clear h22;refine AW.seq_k fun K hK=>AW.region (by kernel_rfl) ?_;simp -implicitDefEqProofs only[go_sem,seval,↓reduceIte,e2];refine hK _ ?_;clear hK K;refine AW.condS (by simp -implicitDefEqProofs only[go_sem,seval,↓reduceIte];rfl) (fun h22=>?_) (fun h22=>?_)
   ·cases h22
   clear h22;refine AW.seq_k fun K hK=>AW.region (by kernel_rfl) ?_;simp -implicitDefEqProofs only[go_sem,seval,↓reduceIte,e3];refine hK _ ?_;clear hK K;refine AW.condS (by simp -implicitDefEqProofs only[go_sem,seval,↓reduceIte];rfl) (fun h22=>?_) (fun h22=>?_)
   ·cases h22
   clear h22;refine AW.region (by kernel_rfl) ?_;simp -implicitDefEqProofs only[go_sem,seval,↓reduceIte];intro g21;exact hK1 _ () trivial (Weak.stF (fun o=>o==21) (by simp -implicitDefEqProofs only[go_sem,seval,↓reduceIte];exact ⟨Fz.same _,Fz.same _,Fz.one rfl (by simp -implicitDefEqProofs only[go_sem,seval,↓reduceIte];try rfl)⟩) trivial)
 | un op a =>
  obtain rfl:n=⟨op,0,[],(b:Int)+a.size-1,-1,-1⟩:=hn.symm;simp only [X.ok,Bool.and_eq_true,decide_eq_true_eq] at hy;have hon:op=on:=hon
  have hpo:partsOf on=1:=by unfold partsOf;rw [if_neg (by omega),if_pos (by omega)]
  have q1:(op==1)=false:=by rw [beq_eq_false_iff_ne];omega
  have q2:(op==2)=false:=by rw [beq_eq_false_iff_ne];omega
  have q22:(op==22)=false:=by rw [beq_eq_false_iff_ne];omega
  have e2:(((partsOf on:Nat):Int)==2)=false:=by rw [hpo];rfl
  have e3:(((partsOf on:Nat):Int)==1)=true:=by rw [hpo];rfl
  have e9:lvl on=9:=by
   have:on=5∨on=6:=by omega
   rcases this with h | h<;>rw [h]<;>rfl
  have hwa:=pw a b (lvl on) (by simp only [X.size] at hm;omega) hat.un hy.2 hf (by omega) (by omega);have hcl:=W_cnt a (lvl on)
  have hfl:[[sgT on],a.W (lvl on)].flatten=(X.un op a).body:=by rw [e9,X.body,← hot];simp
  have hsz2:a.size<1000:=by simp only [X.size] at hsz;omega
  refine AW.seq_k fun K hK=>AW.region (by kernel_rfl) ?_;simp -implicitDefEqProofs only[go_sem,seval,↓reduceIte,encXN_K,q1];refine hK _ ?_;clear hK K;refine AW.condS (by simp -implicitDefEqProofs only[go_sem,seval,↓reduceIte];rfl) (fun h22=>?_) (fun h22=>?_)
  ·cases h22
  clear h22;refine AW.seq_k fun K hK=>AW.region (by kernel_rfl) ?_;simp -implicitDefEqProofs only[go_sem,seval,↓reduceIte,encXN_K,q2];refine hK _ ?_;clear hK K;refine AW.condS (by simp -implicitDefEqProofs only[go_sem,seval,↓reduceIte];rfl) (fun h22=>?_) (fun h22=>?_)
  ·cases h22
  clear h22;refine AW.seq_k fun K hK=>AW.region (by kernel_rfl) ?_;simp -implicitDefEqProofs only[go_sem,seval,↓reduceIte,encXN_K,q22];refine hK _ ?_;clear hK K;refine AW.condS (by simp -implicitDefEqProofs only[go_sem,seval,↓reduceIte];rfl) (fun h22=>?_) (fun h22=>?_)
  ·cases h22
  clear h22;refine AW.seq_k fun K hK=>AW.region (by kernel_rfl) ?_;simp -implicitDefEqProofs only[go_sem,seval,↓reduceIte,e2];refine hK _ ?_;clear hK K;refine AW.condS (by simp -implicitDefEqProofs only[go_sem,seval,↓reduceIte];rfl) (fun h22=>?_) (fun h22=>?_)
  ·cases h22
  clear h22;refine AW.seq_k fun K hK=>AW.region (by kernel_rfl) ?_;simp -implicitDefEqProofs only[go_sem,seval,↓reduceIte,e3];refine hK _ ?_;clear hK K;refine AW.condS (by simp -implicitDefEqProofs only[go_sem,seval,↓reduceIte];rfl) (fun h22=>?_) (fun h22=>?_);rotate_left
  ·cases h22
  refine AW.regionT ⟨fun _=>encSl .new 1 V.str (.mk false (a.W (lvl on))),fun i=>if i=8 then .pure else if i=10 then .any else .lend⟩ (by kernel_rfl) hG (by kernel_rfl) (by kernel_rfl) ?_;simp -implicitDefEqProofs only[go_sem,seval,↓reduceIte,encXN_K];intro g87;refine ⟨hwa,fun g94=>?_⟩;refine cat_call hG (fun o=>o==87 || o==94) [[sgT on],a.W (lvl on)] (by simp) (by simp;omega) (by simp) (Fz.rowSS (cs:=[.msl 87 g87 0 1 1,encSl .new 1 V.str (.mk false (a.W (lvl on)))]) [[sgT on],a.W (lvl on)] rfl (by simp -implicitDefEqProofs only[go_sem,seval,↓reduceIte];try rfl) rfl ⟨Fz.one rfl (by simp -implicitDefEqProofs only[go_sem,seval,↓reduceIte];try rfl),Fz.same _,trivial⟩) ?_;rw [hfl];simp -implicitDefEqProofs only[go_sem,seval,↓reduceIte];exact hK1 _ () trivial (Weak.st (by simp -implicitDefEqProofs only[go_sem,seval,↓reduceIte];try rfl) (by simp -implicitDefEqProofs only[go_sem,seval,↓reduceIte]))
 | bin op a b' =>
  obtain rfl:n=⟨op,0,[],(b:Int)+a.size-1,(b:Int)+a.size+b'.size-1,-1⟩:=hn.symm;simp only [X.ok,Bool.and_eq_true,decide_eq_true_eq] at hy;have hon:op=on:=hon
  have hpo:partsOf on=2:=by unfold partsOf;rw [if_neg (by omega),if_neg (by omega),if_pos (by omega)]
  have q1:(op==1)=false:=by rw [beq_eq_false_iff_ne];omega
  have q2:(op==2)=false:=by rw [beq_eq_false_iff_ne];omega
  have q22:(op==22)=false:=by rw [beq_eq_false_iff_ne];omega
  have e2:(((partsOf on:Nat):Int)==2)=true:=by rw [hpo];rfl
  obtain ⟨l1,l2,_,_⟩:=lvl_rng on (by omega) (by omega);simp only [X.size] at hm hsz;have hwa:=pw a b (lvl on) (by omega) hat.bin.1 hy.1.2 hf.1 (by omega) (by omega);have hwb:=pw b' (b+a.size) (lvl on+1) (by omega) hat.bin.2 hy.2 hf.2 (by omega) (by omega);rw [Int.natCast_add] at hwb;have hw:IntKind.i64.wrap (lvl on+1)=lvl on+1:=w64 (by omega) (by omega);have hca:=W_cnt a (lvl on);have hcb:=W_cnt b' (lvl on+1)
  have hfl:[a.W (lvl on),[sgT on],b'.W (lvl on+1)].flatten=(X.bin op a b').body:=by rw [X.body,← hot];simp
  refine AW.seq_k fun K hK=>AW.region (by kernel_rfl) ?_;simp -implicitDefEqProofs only[go_sem,seval,↓reduceIte,encXN_K,q1];refine hK _ ?_;clear hK K;refine AW.condS (by simp -implicitDefEqProofs only[go_sem,seval,↓reduceIte];rfl) (fun h22=>?_) (fun h22=>?_)
  ·cases h22
  clear h22;refine AW.seq_k fun K hK=>AW.region (by kernel_rfl) ?_;simp -implicitDefEqProofs only[go_sem,seval,↓reduceIte,encXN_K,q2];refine hK _ ?_;clear hK K;refine AW.condS (by simp -implicitDefEqProofs only[go_sem,seval,↓reduceIte];rfl) (fun h22=>?_) (fun h22=>?_)
  ·cases h22
  clear h22;refine AW.seq_k fun K hK=>AW.region (by kernel_rfl) ?_;simp -implicitDefEqProofs only[go_sem,seval,↓reduceIte,encXN_K,q22];refine hK _ ?_;clear hK K;refine AW.condS (by simp -implicitDefEqProofs only[go_sem,seval,↓reduceIte];rfl) (fun h22=>?_) (fun h22=>?_)
  ·cases h22
  clear h22;refine AW.seq_k fun K hK=>AW.region (by kernel_rfl) ?_;simp -implicitDefEqProofs only[go_sem,seval,↓reduceIte,e2];refine hK _ ?_;clear hK K;refine AW.condS (by simp -implicitDefEqProofs only[go_sem,seval,↓reduceIte];rfl) (fun h22=>?_) (fun h22=>?_);rotate_left
  ·cases h22
  refine AW.regionT ⟨fun i=>if i=5 then encSl .new 1 V.str (.mk false (a.W (lvl on))) else encSl .new 1 V.str (.mk false (b'.W (lvl on+1))),fun i=>if i=5 then .pure else if i=15 then .pure else if i=17 then .any else .lend⟩ (by kernel_rfl) hG (by kernel_rfl) (by kernel_rfl) ?_;simp -implicitDefEqProofs only[go_sem,seval,↓reduceIte,encXN_K,hw];refine ⟨hwa,fun g71=>⟨hwb,fun g79=>?_⟩⟩;refine cat_call hG (fun o=>o==71 || o==79) [a.W (lvl on),[sgT on],b'.W (lvl on+1)] (by simp) (by simp;omega) (by simp) (Fz.rowSS (cs:=[encSl .new 1 V.str (.mk false (a.W (lvl on))),.msl 71 g71 0 1 1,encSl .new 1 V.str (.mk false (b'.W (lvl on+1)))]) [a.W (lvl on),[sgT on],b'.W (lvl on+1)] rfl (by simp -implicitDefEqProofs only[go_sem,seval,↓reduceIte];try rfl) rfl ⟨Fz.same _,Fz.one rfl (by simp -implicitDefEqProofs only[go_sem,seval,↓reduceIte];try rfl),Fz.same _,trivial⟩) ?_;rw [hfl];simp -implicitDefEqProofs only[go_sem,seval,↓reduceIte];exact hK1 _ () trivial (Weak.st (by simp -implicitDefEqProofs only[go_sem,seval,↓reduceIte];try rfl) (by simp -implicitDefEqProofs only[go_sem,seval,↓reduceIte]))
 | ite a b' c' =>
  obtain rfl:n=⟨22,0,[],(b:Int)+a.size-1,(b:Int)+a.size+b'.size-1,(b:Int)+a.size+b'.size+c'.size-1⟩:=hn.symm;simp only [X.ok,Bool.and_eq_true] at hy;simp only [X.size] at hm hsz;have hwa:=pw a b 0 (by omega) hat.ite.1 hy.1.1 hf.1 (by decide) (by decide);have hwb:=pw b' (b+a.size) 0 (by omega) hat.ite.2.1 hy.1.2 hf.2.1 (by decide) (by decide);have hwc:=pw c' (b+a.size+b'.size) 0 (by omega) hat.ite.2.2 hy.2 hf.2.2 (by decide) (by decide);rw [Int.natCast_add] at hwb;rw [Int.natCast_add,Int.natCast_add] at hwc;have hca:=W_cnt a 0;have hcb:=W_cnt b' 0;have hcc:=W_cnt c' 0
  have hfl:[[wIf],a.W 0,[wThen],b'.W 0,[wElse],c'.W 0,[wEndif]].flatten=(X.ite a b' c').body:=by rw [X.body];simp
  refine AW.seq_k fun K hK=>AW.region (by kernel_rfl) ?_;simp -implicitDefEqProofs only[go_sem,seval,↓reduceIte,encXN_K];refine hK _ ?_;clear hK K;refine AW.condS (by simp -implicitDefEqProofs only[go_sem,seval,↓reduceIte];rfl) (fun h22=>?_) (fun h22=>?_)
  ·cases h22
  clear h22;refine AW.seq_k fun K hK=>AW.region (by kernel_rfl) ?_;simp -implicitDefEqProofs only[go_sem,seval,↓reduceIte,encXN_K];refine hK _ ?_;clear hK K;refine AW.condS (by simp -implicitDefEqProofs only[go_sem,seval,↓reduceIte];rfl) (fun h22=>?_) (fun h22=>?_)
  ·cases h22
  clear h22;refine AW.seq_k fun K hK=>AW.region (by kernel_rfl) ?_;simp -implicitDefEqProofs only[go_sem,seval,↓reduceIte,encXN_K];refine hK _ ?_;clear hK K;refine AW.condS (by simp -implicitDefEqProofs only[go_sem,seval,↓reduceIte];rfl) (fun h22=>?_) (fun h22=>?_);rotate_left
  ·cases h22
  refine AW.regionT ⟨fun i=>if i=4 then encSl .new 1 V.str (.mk false (a.W 0)) else if i=9 then encSl .new 1 V.str (.mk false (b'.W 0)) else encSl .new 1 V.str (.mk false (c'.W 0)),fun i=>if i=4 then .pure else if i=9 then .pure else if i=14 then .pure else if i=17 then .any else .lend⟩ (by kernel_rfl) hG (by kernel_rfl) (by kernel_rfl) ?_;simp -implicitDefEqProofs only[go_sem,seval,↓reduceIte,encXN_K];intro g41;refine ⟨hwa,fun g46=>⟨hwb,fun g51=>⟨hwc,fun g56 g57=>?_⟩⟩⟩;refine cat_call hG (fun o=>o==41 || o==46 || o==51 || o==56 || o==57) [[wIf],a.W 0,[wThen],b'.W 0,[wElse],c'.W 0,[wEndif]] (by simp) (by simp;omega) (by simp) (Fz.rowSS (cs:=[.msl 41 g41 0 1 1,encSl .new 1 V.str (.mk false (a.W 0)),.msl 46 g46 0 1 1,encSl .new 1 V.str (.mk false (b'.W 0)),.msl 51 g51 0 1 1,encSl .new 1 V.str (.mk false (c'.W 0)),.msl 56 g56 0 1 1]) [[wIf],a.W 0,[wThen],b'.W 0,[wElse],c'.W 0,[wEndif]] rfl (by simp -implicitDefEqProofs only[go_sem,seval,↓reduceIte];try rfl) rfl ⟨Fz.one rfl (by simp -implicitDefEqProofs only[go_sem,seval,↓reduceIte];try rfl),Fz.same _,Fz.one rfl (by simp -implicitDefEqProofs only[go_sem,seval,↓reduceIte];try rfl),Fz.same _,Fz.one rfl (by simp -implicitDefEqProofs only[go_sem,seval,↓reduceIte];try rfl),Fz.same _,Fz.one rfl (by simp -implicitDefEqProofs only[go_sem,seval,↓reduceIte];try rfl),trivial⟩) ?_;rw [hfl];simp -implicitDefEqProofs only[go_sem,seval,↓reduceIte];exact hK1 _ () trivial (Weak.st (by simp -implicitDefEqProofs only[go_sem,seval,↓reduceIte];try rfl) (by simp -implicitDefEqProofs only[go_sem,seval,↓reduceIte]))
end Go.Hs
end

section
namespace Go.Hs
open Go.Proofs
set_option maxRecDepth 10000
theorem nil_of {n:Int} (h:decide (n=0)=true):dg n.natAbs=[]:=by
 have:=of_decide_eq_true h;subst this;rfl
theorem len_of {n:Int} (hn:InK .i64 n):(dg n.natAbs).length<1000000:=by
 have:=(inK_iff n).1 hn;have:=dg_len (n:=n.natAbs) (k:=20) (by omega);omega
end Go.Hs
end

section
namespace Go.Hs
open Go.Proofs
set_option maxRecDepth 10000
def chars (l:List Nat):List UInt8:=(l.map fun d=>UInt8.ofNat (48+d)).reverse
theorem decDigits_dg (u:Nat) (h:0<u):Lib.decDigits u=chars (dg u):=by
 induction u using Nat.strongRecOn with
 | _ u ih =>
  rw [Lib.decDigits,dg_pos h]
  by_cases h1:u<10
  ·rw [dif_pos h1,show u / 10=0 by omega,dg_zero,Nat.mod_eq_of_lt h1]
   rfl
  ·rw [dif_neg h1,ih (u / 10) (by omega) (by omega)]
   simp [chars]
theorem putR_dg (n:Int):putR n=if n=0 then [48] else if n<0 then 45::chars (dg n.natAbs) else chars (dg n.natAbs):=by
 unfold putR Lib.itoa
 by_cases h0:n=0
 ·subst h0
  simp;rw [Lib.decDigits];simp
 ·rw [if_neg h0]
  by_cases h1:n<0
  ·rw [if_pos h1,if_pos h1,decDigits_dg _ (by omega)]
  ·rw [if_neg h1,if_neg h1,show n.toNat=n.natAbs by omega,decDigits_dg _ (by omega)]
theorem chars_nil {l:List Nat}:chars l=[] ↔ l=[]:=by simp [chars]
theorem chars_len (l:List Nat):(chars l).length=l.length:=by simp [chars]
theorem wu8 {n:Int} (h1:0≤n) (h2:n≤255):IntKind.u8.wrap n=n:=by
 unfold IntKind.wrap;simp [IntKind.signed,IntKind.bits];omega
theorem rPut_spec (G:Nat→V) (hG:GOk G) (n:Int) (hn:InK .i64 n):Spec Tryz.prog G 166 [.int .i64 n] hNone (fun v _=>v = .str (putR n)):=by
 have hn':=(inK_iff n).1 hn;have hnl:=nil_of (n:=n);have hll:=len_of hn;have hdg:=dig_dg n.natAbs
 have hn0:dg n.natAbs=[] ↔ n=0:=by rw [dg_ne];omega
 rw [putR_dg];refine Spec.of_code' 0 33 [.tmp 2] Tryz.func166 rfl rfl rfl rfl fun X=>?_;refine AW.seq_k fun K hK=>AW.region (by kernel_rfl) ?_;simp -implicitDefEqProofs only[go_sem,seval,↓reduceIte];refine hK _ ?_;clear hK K;refine AW.seq_k fun K hK=>AW.region (by kernel_rfl) ?_;simp -implicitDefEqProofs only[go_sem,seval,↓reduceIte];refine CallA.pure hG (by kernel_rfl) ?_;simp -implicitDefEqProofs only[go_sem,seval,↓reduceIte];refine (rOf_spec G hG n hn).mono ?_;rintro _ _ rfl;simp -implicitDefEqProofs only[go_sem,seval,↓reduceIte,encLong];intro g3;refine hK _ ?_;clear hK K;generalize decide (n=0)=nl at hnl;generalize hl:dg n.natAbs=l at hnl hll hdg hn0;have hsl:=slD_l hnl;refine AW.seq_k fun K hK=>AW.region (by kernel_rfl) ?_;simp -implicitDefEqProofs only[go_sem,seval,↓reduceIte];refine hK _ ?_;clear hK K;refine AW.seq_k fun K1 hK1=>?_;refine AW.seq_k fun K hK=>AW.region (by kernel_rfl) ?_;simp -implicitDefEqProofs only[go_sem,seval,↓reduceIte];refine hK _ ?_;clear hK K;refine AW.block ?_
 refine AW.for l.length (fun k (_:Unit)=>st [(3,.ptr 3 g3 0),(4,.str (chars (l.take k))),(5,.int .i64 k)] [(3,.cells .new g3 0 [encSl .new 1 (V.int .i64) (slD nl l),.bool (decide (n<0))])]) (fun k _=>True) 0 () (Nat.zero_le _) trivial
  (Weak.st (by simp -implicitDefEqProofs only[go_sem,seval,↓reduceIte];try rfl) (by simp -implicitDefEqProofs only[go_sem,seval,↓reduceIte];try rfl)) ?_
 intro k _ hk _ L2 hL2;refine AW.seq_k fun K3 hK3=>?_;refine AW.seq_k fun K hK=>AW.region (by kernel_rfl) ?_;simp -implicitDefEqProofs only[go_sem,seval,↓reduceIte,hsl,ints_len];refine hK _ ?_;clear hK K;refine AW.condS (by simp -implicitDefEqProofs only[go_sem,seval,↓reduceIte];rfl) (fun h4=>?_) (fun h4=>?_)
 ·have hk1:k<l.length:=by have:=of_decide_eq_true h4;omega
  refine AW.skip ?_;simp -implicitDefEqProofs only[go_sem,seval,↓reduceIte];refine hK3 _ ?_;have g2:=ints_get_some (l:=l) (k:=k) hk1;have h9:=getD_lt hdg k
  have htk:l.take (k+1)=l.take k++[l.getD k 0]:=by rw [List.take_succ_eq_append_getElem hk1,List.getD_eq_getElem?_getD,List.getElem?_eq_getElem hk1];rfl
  generalize l.getD k 0=d at g2 h9 htk
  have hch:chars (l.take (k+1))=UInt8.ofNat (48+d)::chars (l.take k):=by rw [htk];simp [chars]
  have hw1:IntKind.i64.wrap (48+(d:Int))=48+(d:Int):=w64 (by omega) (by omega);have hw2:IntKind.u8.wrap (48+(d:Int))=48+(d:Int):=wu8 (by omega) (by omega);have hb:UInt8.ofNat (48+(d:Int)).toNat=UInt8.ofNat (48+d):=congrArg _ (by omega)
  have hlen:¬ (((1+(chars (l.take k)).length:Nat):Int) > IntKind.i64.max):=by
   rw [show IntKind.i64.max=9223372036854775807 from rfl,chars_len,List.length_take];omega
  refine AW.seq_k fun K5 hK5=>?_;refine AW.block ?_;refine AW.regionB 8 23 (e:=5) (by kernel_rfl) rfl Tryz.underlying166 Tryz.underlying5 Tryz.underlying9 ?_;simp -implicitDefEqProofs only[go_sem,seval,↓reduceIte,List.take_succ_cons,List.take_zero,hsl,g2,hw1,hw2];intro g22;refine ⟨_,_,_,_,[48+(d:Int)],rfl,rfl,?_⟩;simp -implicitDefEqProofs only[go_sem,seval,↓reduceIte,List.drop_succ_cons,List.drop_zero,List.map_cons,List.map_nil,hb,hlen];refine hK5 _ ?_;refine AW.region (by kernel_rfl) ?_;simp -implicitDefEqProofs only[go_sem,seval,↓reduceIte];refine hL2 _ ⟨hk1,(),trivial,Weak.st (by rw [hch];simp -implicitDefEqProofs only[go_sem,seval,↓reduceIte];exact congrArg _ (by rw [w64 (by omega) (by omega)];omega)) (by simp -implicitDefEqProofs only[go_sem,seval,↓reduceIte];try rfl)⟩
 ·have hk1:k=l.length:=by have:=of_decide_eq_false h4;omega
  subst hk1;refine AW.exit ?_;simp -implicitDefEqProofs only[go_sem,seval,↓reduceIte];refine hK1 _ ?_;rw [List.take_length]
  have hz:(chars l==[])=decide (n=0):=by
   by_cases h:n=0
   ·rw [hn0.2 h];simp [h,chars]
   ·have:¬ l=[]:=fun e=>h (hn0.1 e)
    simp [h,chars_nil,this]
  refine AW.seq_k fun K6 hK6=>?_;refine AW.seq_k fun K hK=>AW.region (by kernel_rfl) ?_;simp -implicitDefEqProofs only[go_sem,seval,↓reduceIte,hz];refine hK _ ?_;clear hK K;refine AW.condS (by simp -implicitDefEqProofs only[go_sem,seval,↓reduceIte];rfl) (fun h7=>?_) (fun h7=>?_)
  ·have h7:=of_decide_eq_true h7
   refine AW.seq_k fun K hK=>AW.region (by kernel_rfl) ?_;simp -implicitDefEqProofs only[go_sem,seval,↓reduceIte];refine hK _ ?_;clear hK K;refine AW.ret ?_;simp -implicitDefEqProofs only[go_sem,seval,↓reduceIte];refine endK_some ?_;rw [if_pos h7]
  ·have h7:=of_decide_eq_false h7
   refine AW.skip ?_;simp -implicitDefEqProofs only[go_sem,seval,↓reduceIte];refine hK6 _ ?_;refine AW.seq_k fun K8 hK8=>?_;refine AW.seq_k fun K hK=>AW.region (by kernel_rfl) ?_;simp -implicitDefEqProofs only[go_sem,seval,↓reduceIte];refine hK _ ?_;clear hK K;refine AW.condS (by simp -implicitDefEqProofs only[go_sem,seval,↓reduceIte];rfl) (fun h8=>?_) (fun h8=>?_)
   ·have h8:=of_decide_eq_true h8
    have hlen:¬ (((1+(chars l).length:Nat):Int) > IntKind.i64.max):=by
     rw [show IntKind.i64.max=9223372036854775807 from rfl,chars_len];omega
    refine AW.seq_k fun K hK=>AW.region (by kernel_rfl) ?_;simp -implicitDefEqProofs only[go_sem,seval,↓reduceIte,hlen];refine hK _ ?_;clear hK K;refine AW.ret ?_;simp -implicitDefEqProofs only[go_sem,seval,↓reduceIte];refine endK_some ?_;rw [if_neg h7,if_pos h8]
   ·have h8:=of_decide_eq_false h8
    refine AW.skip ?_;simp -implicitDefEqProofs only[go_sem,seval,↓reduceIte];refine hK8 _ ?_;refine AW.seq_k fun K hK=>AW.region (by kernel_rfl) ?_;simp -implicitDefEqProofs only[go_sem,seval,↓reduceIte];refine hK _ ?_;clear hK K;refine AW.ret ?_;simp -implicitDefEqProofs only[go_sem,seval,↓reduceIte];refine endK_some ?_;rw [if_neg h7,if_neg h8]
end Go.Hs
end

section
namespace Go.Hs
open Go.Proofs
set_option maxRecDepth 10000
theorem joinW_cons (w:List UInt8) {b:List (List UInt8)} (h:b≠[]):joinW (w::b)=w++32::joinW b:=by
 cases b with
 | nil=>exact absurd rfl h
 | cons=>rfl
theorem joinW_app:∀ {a b:List (List UInt8)},a≠[]→b≠[]→joinW (a++b)=joinW a++32::joinW b
 | [],_,h,_=>absurd rfl h
 | [w],b,_,hb=>by rw [List.singleton_append,joinW_cons w hb];rfl
 | w::v::r,b,_,hb=>by
  rw [List.cons_append,joinW_cons w (by simp),joinW_app (a:=v::r) (by simp) hb,joinW_cons w (by simp)];simp
theorem W_ne (x:X) (k:Int):x.W k≠[]:=by
 cases x with
 | leaf=>simp [X.W]
 | un=>rw [X.W];unfold parW;split<;>simp
 | bin=>rw [X.W];unfold parW;split<;>simp
 | ite=>simp [X.W]
theorem body_ne (x:X):x.body≠[]:=by cases x<;>simp [X.body]
theorem join_par {ts:List (List UInt8)} (h:ts≠[]):joinW (parW true ts)=[40,32]++joinW ts++[32,41]:=by
 show joinW ([40]::(ts++[[41]]))=_
 rw [joinW_cons _ (by simp),joinW_app h (by simp)];simp [joinW]
theorem join_W_len {x:X} (h:x.ok=true) (hf:x.fit) (k:Int):(joinW (x.W k)).length≤66 * x.size:=Nat.le_trans (joinW_len _) (W_len x h hf k)
theorem rPrint_spec (G:Nat→V) (hG:GOk G) (s:Sl XN) (hs:s.l.length<1000):∀ (m:Nat) (y:X) (b:Nat) (c:Col) (k:Int),y.size≤m→At s.l y b→y.ok=true→y.fit→0≤k→k≤9 →
  Spec Tryz.prog G 98 [encSl c 6 encXN s,.int .i64 ((b:Int)+y.size-1),.int .i64 k] hNone (fun v _=>v = .str (joinW (y.W k))):=by
 intro m
 induction m with
 | zero=>intro y b c k hm;have:=y.size_pos;omega
 | succ m ih =>
 intro y b c k hm hat hy hf hk0 hk9;refine Spec.of_code' 0 96 [.tmp 6] Tryz.func98 rfl rfl rfl rfl fun X0=>?_;have hyp:=y.size_pos;have hget:=hat.get
 have hsz:b+y.size≤s.l.length:=by
  obtain ⟨pre,post,e1,e2⟩:=hat;have:=congrArg List.length e1;simp only [List.length_append,X.row_len] at this;omega
 have hW:=W_body hy hk9 (b:Int);have hop:=top_op hy (b:Int)
 have hbl:(joinW y.body).length≤66 * y.size:=by
  have:=W_body hy (k:=0) (by decide) (b:Int);have h2:=join_W_len hy hf 0;rw [this] at h2;cases hq:decide (lvl (y.top b).op.toNat<0)
  ·rw [hq] at h2;exact h2
  ·rw [hq,join_par (body_ne y)] at h2
   simp only [List.length_append] at h2;omega
 have hpos:((b:Int)+y.size-1)=((b+y.size-1:Nat):Int):=by omega
 have hlt:b+y.size-1<s.l.length:=by omega
 have hmx:∀ z:Nat,z<1000000→¬ ((z:Int) > IntKind.i64.max):=by
  intro z hz;rw [show IntKind.i64.max=9223372036854775807 from rfl];omega
 rw [hpos];generalize hn:y.top b=n at hget hW hop;generalize y.W k=res at hW ⊢;refine AW.seq_k fun K hK=>AW.region (by kernel_rfl) ?_;simp -implicitDefEqProofs only[go_sem,seval,↓reduceIte];refine hK _ ?_;clear hK K;refine AW.seq_k fun K hK=>AW.region (by kernel_rfl) ?_;simp -implicitDefEqProofs only[go_sem,seval,↓reduceIte,hget,hlt,encXN_K];intro g7;refine hK _ ?_;clear hK K;refine AW.weak (Weak.stF (fun o=>o==7) (l:=[(0,encSl c 6 encXN s),(2,.int .i64 k),(7,.view .new (encXN n))]) (m:=[]) ?_ trivial) ?_
 ·simp -implicitDefEqProofs only[go_sem,seval,↓reduceIte]
  exact ⟨Fz.same _,Fz.same _,Fz.ptr (v:=encXN n) (c := .new) (fz:=0) rfl (by simp -implicitDefEqProofs only[go_sem,seval,↓reduceIte];try rfl)⟩
 obtain ⟨on,hon⟩:∃ on:Nat,n.op=on:=⟨n.op.toNat,by omega⟩
 have hot:n.op.toNat=on:=by omega
 have hon22:on≤22:=by omega
 refine AW.seq_k fun K hK=>AW.region (by kernel_rfl) ?_;simp -implicitDefEqProofs only[go_sem,seval,↓reduceIte];refine hK _ ?_;clear hK K;refine AW.seq_k fun K hK=>AW.region (by kernel_rfl) ?_;simp -implicitDefEqProofs only[go_sem,seval,↓reduceIte,encXN_K];refine CallA.pure hG (by kernel_rfl) ?_;simp -implicitDefEqProofs only[go_sem,seval,↓reduceIte];rw [hon];refine (rLev_spec G hG on (by omega)).mono ?_;rintro _ _ rfl;simp -implicitDefEqProofs only[go_sem,seval,↓reduceIte];refine hK _ ?_;clear hK K
 have pw:∀ (z:X) (bz:Nat) (lv:Int),z.size≤m→At s.l z bz→z.ok=true→z.fit→0≤lv→lv≤9→PureC Tryz.prog G 98 [encSl c 6 encXN s,.int .i64 ((bz:Int)+z.size-1),.int .i64 lv] (.str (joinW (z.W lv))):=by
  intro z bz lv h1 h2 h3 h4 h5 h6;refine ⟨by kernel_rfl,?_⟩;simp -implicitDefEqProofs only[go_sem,seval,↓reduceIte,recol_xns];refine (ih z bz _ lv h1 h2 h3 h4 h5 h6).mono ?_;rintro _ _ rfl;rfl
 have pS:PureC Tryz.prog G 167 [] (encSl .new 1 V.str (.mk false sgnR)):=⟨by kernel_rfl,by
  simp -implicitDefEqProofs only[go_sem,seval,↓reduceIte,List.map_nil];refine (rSigns_spec G hG).mono ?_;rintro _ _ rfl
  exact recol_enc _ _ _ (fun _=>rfl) _⟩
 refine AW.seqJ (fun (_:Unit)=>st [(2,.int .i64 k),(8,.str (joinW y.body)),(9,.int .i64 (lvl on))] []) (fun _=>True) (fun K1 hK1=>?_) ?_;rotate_left
 ·intro _ _
  refine AW.seq_k fun K2 hK2=>?_;rw [hot] at hW
  by_cases hlk:lvl on<k
  ·have e1:decide (lvl on<k)=true:=by simpa using hlk
   rw [e1] at hW;have l1:=hmx (2+(joinW y.body).length) (by omega);have l2:=hmx ((joinW y.body).length+1+1+2) (by omega);refine AW.seq_k fun K hK=>AW.region (by kernel_rfl) ?_;simp -implicitDefEqProofs only[go_sem,seval,↓reduceIte,e1];refine hK _ ?_;clear hK K;refine AW.condS (by simp -implicitDefEqProofs only[go_sem,seval,↓reduceIte];rfl) (fun h99=>?_) (fun h99=>?_);rotate_left
   ·cases h99
   refine AW.seq_k fun K hK=>AW.region (by kernel_rfl) ?_;simp -implicitDefEqProofs only[go_sem,seval,↓reduceIte,l1,l2];refine hK _ ?_;clear hK K;refine AW.ret ?_;simp -implicitDefEqProofs only[go_sem,seval,↓reduceIte];refine endK_some ?_;rw [hW,join_par (body_ne y)]
   try simp
  ·have e1:decide (lvl on<k)=false:=by simpa using hlk
   rw [e1] at hW;refine AW.seq_k fun K hK=>AW.region (by kernel_rfl) ?_;simp -implicitDefEqProofs only[go_sem,seval,↓reduceIte,e1];refine hK _ ?_;clear hK K;refine AW.condS (by simp -implicitDefEqProofs only[go_sem,seval,↓reduceIte];rfl) (fun h99=>?_) (fun h99=>?_)
   ·cases h99
   refine AW.skip ?_;simp -implicitDefEqProofs only[go_sem,seval,↓reduceIte];refine hK2 _ ?_;refine AW.seq_k fun K hK=>AW.region (by kernel_rfl) ?_;simp -implicitDefEqProofs only[go_sem,seval,↓reduceIte];refine hK _ ?_;clear hK K;refine AW.ret ?_;simp -implicitDefEqProofs only[go_sem,seval,↓reduceIte];refine endK_some ?_;rw [hW];rfl
 refine AW.seq_k fun K hK=>AW.region (by kernel_rfl) ?_;simp -implicitDefEqProofs only[go_sem,seval,↓reduceIte,encXN_K];refine CallA.pure hG (by kernel_rfl) ?_;simp -implicitDefEqProofs only[go_sem,seval,↓reduceIte];refine (rPartsOf_spec G hG on).mono ?_;rintro _ _ rfl;simp -implicitDefEqProofs only[go_sem,seval,↓reduceIte];refine hK _ ?_;clear hK K;refine AW.block ?_
 cases y with
 | leaf op num name =>
  obtain rfl:n=⟨op,num,name,-1,-1,-1⟩:=hn.symm
  rcases leaf_cases hy with ⟨rfl,h1,rfl⟩ | ⟨rfl,rfl,h1⟩ | ⟨rfl,rfl,rfl⟩ | ⟨rfl,rfl,rfl⟩
  ·have hf:num≤9223372036854775807:=hf
   obtain rfl:on=1:=by have:(1:Int)=on:=hon;omega
   have hp:partsOf ((1:Nat):Int)=0:=rfl;refine AW.seq_k fun K hK=>AW.region (by kernel_rfl) ?_;simp -implicitDefEqProofs only[go_sem,seval,↓reduceIte,hp];refine hK _ ?_;clear hK K;refine AW.condS (by simp -implicitDefEqProofs only[go_sem,seval,↓reduceIte];rfl) (fun h22=>?_) (fun h22=>?_);rotate_left
   ·cases h22
   refine AW.seq_k fun K hK=>AW.region (by kernel_rfl) ?_;simp -implicitDefEqProofs only[go_sem,seval,↓reduceIte,encXN_K];refine hK _ ?_;clear hK K;refine AW.block ?_;refine AW.seq_k fun K hK=>AW.region (by kernel_rfl) ?_;simp -implicitDefEqProofs only[go_sem,seval,↓reduceIte];refine hK _ ?_;clear hK K;refine AW.condS (by simp -implicitDefEqProofs only[go_sem,seval,↓reduceIte];rfl) (fun h23=>?_) (fun h23=>?_);rotate_left
   ·cases h23
   refine AW.region (by kernel_rfl) ?_;simp -implicitDefEqProofs only[go_sem,seval,↓reduceIte,encXN_K];refine CallA.pure hG (by kernel_rfl) ?_;simp -implicitDefEqProofs only[go_sem,seval,↓reduceIte];refine (rPut_spec G hG num ⟨by show -9223372036854775808≤num;omega,hf⟩).mono ?_;rintro _ _ rfl;simp -implicitDefEqProofs only[go_sem,seval,↓reduceIte];exact hK1 _ () trivial (Weak.st (by simp -implicitDefEqProofs only[go_sem,seval,↓reduceIte];try rfl) (by simp -implicitDefEqProofs only[go_sem,seval,↓reduceIte]))
  ·obtain rfl:on=2:=by have:(2:Int)=on:=hon;omega
   have hp:partsOf ((2:Nat):Int)=0:=rfl;refine AW.seq_k fun K hK=>AW.region (by kernel_rfl) ?_;simp -implicitDefEqProofs only[go_sem,seval,↓reduceIte,hp];refine hK _ ?_;clear hK K;refine AW.condS (by simp -implicitDefEqProofs only[go_sem,seval,↓reduceIte];rfl) (fun h22=>?_) (fun h22=>?_);rotate_left
   ·cases h22
   refine AW.seq_k fun K hK=>AW.region (by kernel_rfl) ?_;simp -implicitDefEqProofs only[go_sem,seval,↓reduceIte,encXN_K];refine hK _ ?_;clear hK K;refine AW.block ?_;refine AW.seq_k fun K hK=>AW.region (by kernel_rfl) ?_;simp -implicitDefEqProofs only[go_sem,seval,↓reduceIte];refine hK _ ?_;clear hK K;refine AW.condS (by simp -implicitDefEqProofs only[go_sem,seval,↓reduceIte];rfl) (fun h23=>?_) (fun h23=>?_)
   ·cases h23
   clear h23;refine AW.seq_k fun K hK=>AW.region (by kernel_rfl) ?_;simp -implicitDefEqProofs only[go_sem,seval,↓reduceIte];refine hK _ ?_;clear hK K;refine AW.condS (by simp -implicitDefEqProofs only[go_sem,seval,↓reduceIte];rfl) (fun h23=>?_) (fun h23=>?_);rotate_left
   ·cases h23
   refine AW.region (by kernel_rfl) ?_;simp -implicitDefEqProofs only[go_sem,seval,↓reduceIte,encXN_K];exact hK1 _ () trivial (Weak.st (by simp -implicitDefEqProofs only[go_sem,seval,↓reduceIte];try rfl) (by simp -implicitDefEqProofs only[go_sem,seval,↓reduceIte]))
  ·obtain rfl:on=3:=by have:(3:Int)=on:=hon;omega
   have hp:partsOf ((3:Nat):Int)=0:=rfl;refine AW.seq_k fun K hK=>AW.region (by kernel_rfl) ?_;simp -implicitDefEqProofs only[go_sem,seval,↓reduceIte,hp];refine hK _ ?_;clear hK K;refine AW.condS (by simp -implicitDefEqProofs only[go_sem,seval,↓reduceIte];rfl) (fun h22=>?_) (fun h22=>?_);rotate_left
   ·cases h22
   refine AW.seq_k fun K hK=>AW.region (by kernel_rfl) ?_;simp -implicitDefEqProofs only[go_sem,seval,↓reduceIte,encXN_K];refine hK _ ?_;clear hK K;refine AW.block ?_;refine AW.seq_k fun K hK=>AW.region (by kernel_rfl) ?_;simp -implicitDefEqProofs only[go_sem,seval,↓reduceIte];refine hK _ ?_;clear hK K;refine AW.condS (by simp -implicitDefEqProofs only[go_sem,seval,↓reduceIte];rfl) (fun h23=>?_) (fun h23=>?_)
   ·cases h23
   clear h23;refine AW.seq_k fun K hK=>AW.region (by kernel_rfl) ?_;simp -implicitDefEqProofs only[go_sem,seval,↓reduceIte];refine hK _ ?_;clear hK K;refine AW.condS (by simp -implicitDefEqProofs only[go_sem,seval,↓reduceIte];rfl) (fun h23=>?_) (fun h23=>?_)
   ·cases h23
   clear h23;refine AW.seq_k fun K hK=>AW.region (by kernel_rfl) ?_;simp -implicitDefEqProofs only[go_sem,seval,↓reduceIte];refine hK _ ?_;clear hK K;refine AW.condS (by simp -implicitDefEqProofs only[go_sem,seval,↓reduceIte];rfl) (fun h23=>?_) (fun h23=>?_);rotate_left
   ·cases h23
   refine AW.region (by kernel_rfl) ?_;simp -implicitDefEqProofs only[go_sem,seval,↓reduceIte,encXN_K];exact hK1 _ () trivial (Weak.st (by simp -implicitDefEqProofs only[go_sem,seval,↓reduceIte];try rfl) (by simp -implicitDefEqProofs only[go_sem,seval,↓reduceIte]))
  ·obtain rfl:on=4:=by have:(4:Int)=on:=hon;omega
   have hp:partsOf ((4:Nat):Int)=0:=rfl;refine AW.seq_k fun K hK=>AW.region (by kernel_rfl) ?_;simp -implicitDefEqProofs only[go_sem,seval,↓reduceIte,hp];refine hK _ ?_;clear hK K;refine AW.condS (by simp -implicitDefEqProofs only[go_sem,seval,↓reduceIte];rfl) (fun h22=>?_) (fun h22=>?_);rotate_left
   ·cases h22
   refine AW.seq_k fun K hK=>AW.region (by kernel_rfl) ?_;simp -implicitDefEqProofs only[go_sem,seval,↓reduceIte,encXN_K];refine hK _ ?_;clear hK K;refine AW.block ?_;refine AW.seq_k fun K hK=>AW.region (by kernel_rfl) ?_;simp -implicitDefEqProofs only[go_sem,seval,↓reduceIte];refine hK _ ?_;clear hK K;refine AW.condS (by simp -implicitDefEqProofs only[go_sem,seval,↓reduceIte];rfl) (fun h23=>?_) (fun h23=>?_)
   ·cases h23
   clear h23;refine AW.seq_k fun K hK=>AW.region (by kernel_rfl) ?_;simp -implicitDefEqProofs only[go_sem,seval,↓reduceIte];refine hK _ ?_;clear hK K;refine AW.condS (by simp -implicitDefEqProofs only[go_sem,seval,↓reduceIte];rfl) (fun h23=>?_) (fun h23=>?_)
   ·cases h23
   clear h23;refine AW.seq_k fun K hK=>AW.region (by kernel_rfl) ?_;simp -implicitDefEqProofs only[go_sem,seval,↓reduceIte];refine hK _ ?_;clear hK K;refine AW.condS (by simp -implicitDefEqProofs only[go_sem,seval,↓reduceIte];rfl) (fun h23=>?_) (fun h23=>?_)
   ·cases h23
   clear h23;refine AW.region (by kernel_rfl) ?_;simp -implicitDefEqProofs only[go_sem,seval,↓reduceIte,encXN_K];exact hK1 _ () trivial (Weak.st (by simp -implicitDefEqProofs only[go_sem,seval,↓reduceIte];try rfl) (by simp -implicitDefEqProofs only[go_sem,seval,↓reduceIte]))
 | un op a =>
  obtain rfl:n=⟨op,0,[],(b:Int)+a.size-1,-1,-1⟩:=hn.symm;simp only [X.ok,Bool.and_eq_true,decide_eq_true_eq] at hy;have hon:op=on:=hon;subst hon
  have hp:partsOf on=1:=by unfold partsOf;rw [if_neg (by omega),if_pos (by omega)]
  have hlv:lvl on=9:=by
   have:on=5∨on=6:=by omega
   rcases this with h | h<;>rw [h]<;>rfl
  have hwa:=pw a b 9 (by simp only [X.size] at hm;omega) hat.un hy.2 hf (by decide) (by decide);have hla:=join_W_len hy.2 hf 9;have hsl:=sg_len on (by omega);have hsg:=sgnR_get on (by omega) (by omega)
  have hj:joinW (X.un (on:Int) a).body=sgT on++[32]++joinW (a.W 9):=by
   rw [X.body,joinW_cons _ (W_ne a 9)]
   show sgT ((on:Int).toNat)++_=_
   rw [Int.toNat_natCast];simp
  have hsz2:a.size<1000:=by simp only [X.size] at hsz;omega
  generalize joinW (a.W 9)=ta at hwa hla hj;generalize sgT on=sg at hsl hsg hj;have l1:=hmx (sg.length+1) (by omega);have l2:=hmx ((sg++[32]).length+ta.length) (by simp only [List.length_append,List.length_cons,List.length_nil];omega);have hsr:(Sl.mk false sgnR).l=sgnR:=rfl;rw [hlv] at hK1 ⊢;refine AW.seq_k fun K hK=>AW.region (by kernel_rfl) ?_;simp -implicitDefEqProofs only[go_sem,seval,↓reduceIte,hp];refine hK _ ?_;clear hK K;refine AW.condS (by simp -implicitDefEqProofs only[go_sem,seval,↓reduceIte];rfl) (fun h22=>?_) (fun h22=>?_)
  ·cases h22
  clear h22;refine AW.seq_k fun K hK=>AW.region (by kernel_rfl) ?_;simp -implicitDefEqProofs only[go_sem,seval,↓reduceIte,hp];refine hK _ ?_;clear hK K;refine AW.condS (by simp -implicitDefEqProofs only[go_sem,seval,↓reduceIte];rfl) (fun h22=>?_) (fun h22=>?_);rotate_left
  ·cases h22
  refine AW.regionT ⟨fun i=>if i=0 then encSl .new 1 V.str (.mk false sgnR) else .str ta,fun i=>if i=0 then .pure else if i=10 then .pure else .lend⟩ (by kernel_rfl) hG (by kernel_rfl) (by kernel_rfl) ?_;simp -implicitDefEqProofs only[go_sem,seval,↓reduceIte,encXN_K,hsr,hsg,l1,l2];refine ⟨pS,hwa,?_⟩;exact hK1 _ () trivial (Weak.st (by rw [hj];simp -implicitDefEqProofs only[go_sem,seval,↓reduceIte];try rfl) (by simp -implicitDefEqProofs only[go_sem,seval,↓reduceIte]))
 | bin op a b' =>
  obtain rfl:n=⟨op,0,[],(b:Int)+a.size-1,(b:Int)+a.size+b'.size-1,-1⟩:=hn.symm;simp only [X.ok,Bool.and_eq_true,decide_eq_true_eq] at hy;have hon:op=on:=hon;subst hon
  have hp:partsOf on=2:=by unfold partsOf;rw [if_neg (by omega),if_neg (by omega),if_pos (by omega)]
  obtain ⟨l1,l2,_,_⟩:=lvl_rng on (by omega) (by omega);simp only [X.size] at hm hsz;have hwa:=pw a b (lvl on) (by omega) hat.bin.1 hy.1.2 hf.1 (by omega) (by omega);have hwb:=pw b' (b+a.size) (lvl on+1) (by omega) hat.bin.2 hy.2 hf.2 (by omega) (by omega);rw [Int.natCast_add] at hwb;have hw:IntKind.i64.wrap (lvl on+1)=lvl on+1:=w64 (by omega) (by omega);have hla:=join_W_len hy.1.2 hf.1 (lvl on);have hlb:=join_W_len hy.2 hf.2 (lvl on+1);have hsl:=sg_len on (by omega);have hsg:=sgnR_get on (by omega) (by omega)
  have hj:joinW (X.bin (on:Int) a b').body=joinW (a.W (lvl on))++[32]++sgT on++[32]++joinW (b'.W (lvl on+1)):=by
   rw [X.body,joinW_app (W_ne a _) (by simp),joinW_cons _ (W_ne b' _)];rw [Int.toNat_natCast];simp
  generalize joinW (a.W (lvl on))=ta at hwa hla hj;generalize joinW (b'.W (lvl on+1))=tb at hwb hlb hj;generalize sgT on=sg at hsl hsg hj;have m1:=hmx (ta.length+1) (by omega);have m2:=hmx ((ta++[32]).length+sg.length) (by simp only [List.length_append,List.length_cons,List.length_nil];omega);have m3:=hmx ((ta++[32]++sg).length+1) (by simp only [List.length_append,List.length_cons,List.length_nil];omega);have m4:=hmx ((ta++[32]++sg++[32]).length+tb.length) (by simp only [List.length_append,List.length_cons,List.length_nil];omega);have hsr:(Sl.mk false sgnR).l=sgnR:=rfl;refine AW.seq_k fun K hK=>AW.region (by kernel_rfl) ?_;simp -implicitDefEqProofs only[go_sem,seval,↓reduceIte,hp];refine hK _ ?_;clear hK K;refine AW.condS (by simp -implicitDefEqProofs only[go_sem,seval,↓reduceIte];rfl) (fun h22=>?_) (fun h22=>?_)
  ·cases h22
  clear h22;refine AW.seq_k fun K hK=>AW.region (by kernel_rfl) ?_;simp -implicitDefEqProofs only[go_sem,seval,↓reduceIte,hp];refine hK _ ?_;clear hK K;refine AW.condS (by simp -implicitDefEqProofs only[go_sem,seval,↓reduceIte];rfl) (fun h22=>?_) (fun h22=>?_)
  ·cases h22
  clear h22;refine AW.seq_k fun K hK=>AW.region (by kernel_rfl) ?_;simp -implicitDefEqProofs only[go_sem,seval,↓reduceIte,hp];refine hK _ ?_;clear hK K;refine AW.condS (by simp -implicitDefEqProofs only[go_sem,seval,↓reduceIte];rfl) (fun h22=>?_) (fun h22=>?_);rotate_left
  ·cases h22
  refine AW.regionT ⟨fun i=>if i=4 then .str ta else if i=6 then encSl .new 1 V.str (.mk false sgnR) else .str tb,fun i=>if i=4 then .pure else if i=6 then .pure else if i=18 then .pure else .lend⟩ (by kernel_rfl) hG (by kernel_rfl) (by kernel_rfl) ?_;simp -implicitDefEqProofs only[go_sem,seval,↓reduceIte,encXN_K,hsr,hsg,m1,m2,m3,m4,hw];refine ⟨hwa,pS,hwb,?_⟩;exact hK1 _ () trivial (Weak.st (by rw [hj];simp -implicitDefEqProofs only[go_sem,seval,↓reduceIte];try rfl) (by simp -implicitDefEqProofs only[go_sem,seval,↓reduceIte]))
 | ite a b' c' =>
  obtain rfl:n=⟨22,0,[],(b:Int)+a.size-1,(b:Int)+a.size+b'.size-1,(b:Int)+a.size+b'.size+c'.size-1⟩:=hn.symm;simp only [X.ok,Bool.and_eq_true] at hy;simp only [X.size] at hm hsz
  obtain rfl:on=22:=by have:(22:Int)=on:=hon;omega
  have hp:partsOf ((22:Nat):Int)=3:=rfl;have hwa:=pw a b 0 (by omega) hat.ite.1 hy.1.1 hf.1 (by decide) (by decide);have hwb:=pw b' (b+a.size) 0 (by omega) hat.ite.2.1 hy.1.2 hf.2.1 (by decide) (by decide);have hwc:=pw c' (b+a.size+b'.size) 0 (by omega) hat.ite.2.2 hy.2 hf.2.2 (by decide) (by decide);rw [Int.natCast_add] at hwb;rw [Int.natCast_add,Int.natCast_add] at hwc;have hla:=join_W_len hy.1.1 hf.1 0;have hlb:=join_W_len hy.1.2 hf.2.1 0;have hlc:=join_W_len hy.2 hf.2.2 0
  have hj:joinW (X.ite a b' c').body=[105,102,32]++joinW (a.W 0)++[32,116,104,101,110,32]++joinW (b'.W 0)++[32,101,108,115,101,32]++joinW (c'.W 0)++[32,101,110,100,105,102]:=by
   rw [X.body,joinW_cons _ (by simp),joinW_app (W_ne a 0) (by simp),joinW_cons _ (by simp),joinW_app (W_ne b' 0) (by simp),joinW_cons _ (by simp),joinW_app (W_ne c' 0) (by simp)];simp [joinW,wIf,wThen,wElse,wEndif]
  generalize joinW (a.W 0)=ta at hwa hla hj;generalize joinW (b'.W 0)=tb at hwb hlb hj;generalize joinW (c'.W 0)=tc at hwc hlc hj;have m1:=hmx (3+ta.length) (by omega);have m2:=hmx (ta.length+1+1+1+6) (by omega);have m3:=hmx ((ta++[32,116,104,101,110,32]).length+1+1+1+tb.length) (by simp only [List.length_append,List.length_cons,List.length_nil];omega);have m4:=hmx ((ta++[32,116,104,101,110,32]++tb).length+1+1+1+6) (by simp only [List.length_append,List.length_cons,List.length_nil];omega);have m5:=hmx ((ta++[32,116,104,101,110,32]++tb++[32,101,108,115,101,32]).length+1+1+1+tc.length) (by simp only [List.length_append,List.length_cons,List.length_nil];omega);have m6:=hmx ((ta++[32,116,104,101,110,32]++tb++[32,101,108,115,101,32]++tc).length+1+1+1+6) (by simp only [List.length_append,List.length_cons,List.length_nil];omega);refine AW.seq_k fun K hK=>AW.region (by kernel_rfl) ?_;simp -implicitDefEqProofs only[go_sem,seval,↓reduceIte,hp];refine hK _ ?_;clear hK K;refine AW.condS (by simp -implicitDefEqProofs only[go_sem,seval,↓reduceIte];rfl) (fun h22=>?_) (fun h22=>?_)
  ·cases h22
  clear h22;refine AW.seq_k fun K hK=>AW.region (by kernel_rfl) ?_;simp -implicitDefEqProofs only[go_sem,seval,↓reduceIte,hp];refine hK _ ?_;clear hK K;refine AW.condS (by simp -implicitDefEqProofs only[go_sem,seval,↓reduceIte];rfl) (fun h22=>?_) (fun h22=>?_)
  ·cases h22
  clear h22;refine AW.seq_k fun K hK=>AW.region (by kernel_rfl) ?_;simp -implicitDefEqProofs only[go_sem,seval,↓reduceIte,hp];refine hK _ ?_;clear hK K;refine AW.condS (by simp -implicitDefEqProofs only[go_sem,seval,↓reduceIte];rfl) (fun h22=>?_) (fun h22=>?_)
  ·cases h22
  clear h22;refine AW.regionT ⟨fun i=>if i=3 then .str ta else if i=9 then .str tb else .str tc,fun i=>if i=3 then .pure else if i=9 then .pure else if i=15 then .pure else .lend⟩ (by kernel_rfl) hG (by kernel_rfl) (by kernel_rfl) ?_;simp -implicitDefEqProofs only[go_sem,seval,↓reduceIte,encXN_K,m1,m2,m3,m4,m5,m6];refine ⟨hwa,hwb,hwc,?_⟩;exact hK1 _ () trivial (Weak.st (by rw [hj];simp -implicitDefEqProofs only[go_sem,seval,↓reduceIte];try rfl) (by simp -implicitDefEqProofs only[go_sem,seval,↓reduceIte]))
end Go.Hs
end

section
namespace Go.Hs
open Go.Proofs
set_option maxRecDepth 10000
theorem join_lib (ws:List (List UInt8)):Lib.join ws [32]=joinW ws:=by
 have:∀ ws:List (List UInt8),[32].intercalate ws=joinW ws:=by
  intro ws
  induction ws with
  | nil=>rfl
  | cons w r ih =>
   cases r with
   | nil=>simp [joinW,List.intercalate,List.intersperse]
   | cons v r =>
    rw [joinW_cons _ (by simp),← ih];simp [List.intercalate,List.intersperse]
 exact this ws
theorem join_spec (G:Nat→V) (c:Col) (ws:List (List UInt8)) (hne:ws≠[]) (hl:ws.length<1000000) (hj:(joinW ws).length<1000000) :
  Spec Tryz.prog G 46 [encSl c 1 V.str (.mk false ws),.str [32]] hNone (fun v _=>v = .str (joinW ws)):=by
 refine Spec.of_calls fun X cargs _ _ hA=>?_;obtain ⟨x,y,rfl,hx,hy⟩:=hA.two;obtain ⟨p',rfl,hp⟩:=hy.str_inv;have hfl:=flat_strW ws;generalize hv:encSl c 1 V.str (.mk false ws)=v at hx;have hv:v = .slice c false 1 (ws.map V.str):=hv.symm;subst hv;generalize hm:ws.map V.str=ls at hx hfl
 cases hx with
 | slice0=>cases ws with
  | nil=>exact absurd rfl hne
  | cons=>cases hm
 | slice _ _ _ _ b off cap f hcap hclip hE hc hr =>
  have hln:ls.length=ws.length:=by rw [← hm,List.length_map]
  have hfn:(flat ls).length=ws.length:=by rw [hfl,hln]
  have hget:∀ j (h:j<ws.length),X.w.cell? ⟨b,off+j,none⟩=some (.string ⟨ws[j].toArray⟩):=by
   intro j h;have h1:=(hc j (by omega)).2.2.1;have h2:=hr j (by omega)
   have e:(flat ls)[j]'(by omega) = .str ws[j]:=by
    have:(flat ls)[j]? = some (.str ws[j]):=by rw [hfl,← hm,List.getElem?_map,List.getElem?_eq_getElem h];rfl
    rw [List.getElem?_eq_getElem (by omega)] at this;exact Option.some.inj this
   rw [e] at h2;obtain ⟨s',h3,h4⟩:=h2.str_inv
   have h5:s'=⟨ws[j].toArray⟩:=by
    obtain ⟨⟨l⟩⟩:=s';simp at h4;rw [h4]
   rw [h3,h5] at h1;exact h1
  have hbk:b<X.w.heap.size:=by
   have h0:=hget 0 (by cases ws with | nil=>exact absurd rfl hne | cons=>simp);rw [← Nat.not_le];intro hle
   have:X.w.heap[b]? = none:=by rw [Array.getElem?_eq_none_iff];exact hle
   simp [World.cell?,this] at h0
  have hxs:(ws.map fun w=>(⟨w.toArray⟩:ByteArray)).map (·.data.toList)=ws:=by rw [List.map_map];exact (List.map_congr_left fun w _=>rfl).trans (List.map_id _)
  have hjl:Lib.join ((ws.map fun w=>(⟨w.toArray⟩:ByteArray)).map (·.data.toList)) p'.data.toList=joinW ws:=by rw [hxs,hp,join_lib]
  have hkit:=Any.strings_Join Tryz.laysJN Tryz.extraJN b off cap (ws.map fun w=>(⟨w.toArray⟩:ByteArray)) p' X.w (fun j x hj=>by
   rw [List.getElem?_map] at hj
   cases hw:ws[j]? with
   | none=>rw [hw] at hj;cases hj
   | some w =>
    rw [hw] at hj;obtain ⟨q1,q2⟩:=List.getElem?_eq_some_iff.1 hw;cases hj
    rw [hget j q1,q2]) hbk (by rw [List.length_map];omega) (by rw [List.length_map,← hln];exact hcap) (by rw [hjl];omega)
  rw [List.length_map,← hln] at hkit;refine (show Calls Tryz.prog 46 _ _ _ from hkit).mono ?_;rintro e w' ⟨rfl,hB⟩;exact ⟨_,_,rfl,hB,.str _ _ rfl,by rw [hjl]⟩
def PrintS (l:List XN) (r:List UInt8 × Int):Prop:=(checkP l≠0→r=([],checkP l))∧∀ x:X,x.ok=true→l=x.row 0→checkP l=0→r=(joinW (x.W 0),0)
def encPr (r:List UInt8 × Int):V := .tuple [.str r.1,.int .i64 r.2]
theorem checkP_ok {l:List XN} (h:checkP l=0):∃ x:X,x.ok=true∧l=x.row 0∧x.depth≤64:=by
 have hd:depthP l≠0:=by
  intro hd;rw [checkP,if_pos hd] at h;cases h
 obtain ⟨x,hx,rfl⟩:=depth_none hd;refine ⟨x,hx,rfl,?_⟩;unfold checkP at h;rw [if_neg hd] at h
 split at h
 ·cases h
 ·rename_i q
  rw [depth_row hx] at q;omega
theorem xPrint_spec (G:Nat→V) (hE:GExp G) (c:Col) (s:Sl XN) (hs:s.l.length<1000) (hnm:∀ n∈s.l,n.name.length<100000) (hnum:∀ n∈s.l,n.num≤9223372036854775807) :
  Spec Tryz.prog G 45 [.agg [encSl c 6 encXN s]] hNone (fun v _=>∃ r,v=encPr r∧PrintS s.l r):=by
 have hG:=hE.ok;refine Spec.of_code' 0 17 [.tmp 2,.tmp 3] Tryz.func45 rfl rfl rfl rfl fun X0=>?_;refine AW.seq_k fun K hK=>AW.region (by kernel_rfl) ?_;simp -implicitDefEqProofs only[go_sem,seval,↓reduceIte];intro g1;refine hK _ ?_;clear hK K;refine AW.seq_k fun K1 hK1=>?_;refine AW.seq_k fun K hK=>AW.region (by kernel_rfl) ?_;simp -implicitDefEqProofs only[go_sem,seval,↓reduceIte];refine CallA.pure hG (by kernel_rfl) ?_;simp -implicitDefEqProofs only[go_sem,seval,↓reduceIte,recol_xns];refine (xCheck_spec G hE _ s (by omega) hnm).mono ?_;rintro _ _ rfl;simp -implicitDefEqProofs only[go_sem,seval,↓reduceIte];refine hK _ ?_;clear hK K;refine AW.seq_k fun K hK=>AW.region (by kernel_rfl) ?_;simp -implicitDefEqProofs only[go_sem,seval,↓reduceIte];refine hK _ ?_;clear hK K
 by_cases hc:checkP s.l=0
 rotate_left
 ·have e1:(checkP s.l != 0)=true:=by simpa using hc
  rw [e1];refine AW.condS (by simp -implicitDefEqProofs only[go_sem,seval,↓reduceIte];rfl) (fun h8=>?_) (fun h8=>?_);rotate_left
  ·cases h8
  refine AW.seq_k fun K hK=>AW.region (by kernel_rfl) ?_;simp -implicitDefEqProofs only[go_sem,seval,↓reduceIte];refine hK _ ?_;clear hK K;refine AW.ret ?_;simp -implicitDefEqProofs only[go_sem,seval,↓reduceIte];refine endK_some ?_;exact ⟨_,rfl,fun _=>rfl,fun x _ _ h=>absurd h hc⟩
 have e1:(checkP s.l != 0)=false:=by simpa using hc
 rw [e1];refine AW.condS (by simp -implicitDefEqProofs only[go_sem,seval,↓reduceIte];rfl) (fun h8=>?_) (fun h8=>?_)
 ·cases h8
 refine AW.skip ?_;simp -implicitDefEqProofs only[go_sem,seval,↓reduceIte];refine hK1 _ ?_;obtain ⟨x,hx,hl,hd⟩:=checkP_ok hc;have hfit:x.fit:=fit_of x 0 (by rw [← hl];exact hnum)
 have hsz:s.l.length=x.size:=by rw [hl,X.row_len]
 have hat:At s.l x 0:=by rw [hl];exact At.whole x
 have hxp:=x.size_pos
 have hw:IntKind.i64.wrap ((s.l.length:Int)-1)=((0:Nat):Int)+x.size-1:=by rw [w64 (by omega) (by omega)];omega
 have hpl:=print_len hx hfit;have hcn:=W_cnt x 0;refine AW.seq_k fun K hK=>AW.region (by kernel_rfl) ?_;simp -implicitDefEqProofs only[go_sem,seval,↓reduceIte,hw];refine CallA.pure hG (by kernel_rfl) ?_;simp -implicitDefEqProofs only[go_sem,seval,↓reduceIte,recol_xns];refine (xWords_spec G hE s hs x.size x 0 _ 0 (Nat.le_refl _) hat hx hfit (by decide) (by decide)).mono ?_;rintro _ _ rfl;have hrb:(encSl .new 1 V.str (.mk false (x.W 0))).recol Col.bk=encSl .new 1 V.str (.mk false (x.W 0)):=recol_enc _ _ _ (fun _=>rfl) _;simp -implicitDefEqProofs only[go_sem,seval,↓reduceIte,hrb];refine CallA.pure hG (by kernel_rfl) ?_;rw [List.map_cons,List.map_cons,List.map_nil,show (encSl .new 1 V.str (.mk false (x.W 0))).recol Col.ent=encSl (Col.ent .new) 1 V.str (.mk false (x.W 0)) from recol_enc _ _ _ (fun _=>rfl) _];refine (join_spec G _ (x.W 0) (W_ne x 0) (by omega) (by omega)).mono ?_;rintro _ _ rfl;simp -implicitDefEqProofs only[go_sem,seval,↓reduceIte];refine hK _ ?_;clear hK K;refine AW.ret ?_;simp -implicitDefEqProofs only[go_sem,seval,↓reduceIte];refine endK_some ?_;exact ⟨(joinW (x.W 0),0),rfl,fun h=>absurd hc h,fun y hy hly _=>by rw [row_inj y x 0 hy hx (by rw [← hly,← hl])]⟩
theorem rPrintA_spec (G:Nat→V) (hG:GOk G) (c:Col) (s:Sl XN) (hs:s.l.length<1000) (hnm:∀ n∈s.l,n.name.length<100000) (hnum:∀ n∈s.l,n.num≤9223372036854775807) :
  Spec Tryz.prog G 47 [encSl c 6 encXN s] hNone (fun v _=>∃ r,v=encPr r∧PrintS s.l r):=by
 refine Spec.of_code' 0 15 [.tmp 2,.tmp 3] Tryz.func47 rfl rfl rfl rfl fun X0=>?_;refine AW.seq_k fun K hK=>AW.region (by kernel_rfl) ?_;simp -implicitDefEqProofs only[go_sem,seval,↓reduceIte];refine hK _ ?_;clear hK K;refine AW.seq_k fun K hK=>AW.region (by kernel_rfl) ?_;simp -implicitDefEqProofs only[go_sem,seval,↓reduceIte];refine CallA.pure hG (by kernel_rfl) ?_;simp -implicitDefEqProofs only[go_sem,seval,↓reduceIte,recol_xns];refine (rCheck_spec G hG _ s (by omega) hnm).mono ?_;rintro _ _ rfl;simp -implicitDefEqProofs only[go_sem,seval,↓reduceIte];refine hK _ ?_;clear hK K;refine AW.seq_k fun K1 hK1=>?_;refine AW.seq_k fun K hK=>AW.region (by kernel_rfl) ?_;simp -implicitDefEqProofs only[go_sem,seval,↓reduceIte];refine hK _ ?_;clear hK K
 by_cases hc:checkP s.l=0
 rotate_left
 ·have e1:(checkP s.l != 0)=true:=by simpa using hc
  rw [e1];refine AW.condS (by simp -implicitDefEqProofs only[go_sem,seval,↓reduceIte];rfl) (fun h8=>?_) (fun h8=>?_);rotate_left
  ·cases h8
  refine AW.seq_k fun K hK=>AW.region (by kernel_rfl) ?_;simp -implicitDefEqProofs only[go_sem,seval,↓reduceIte];refine hK _ ?_;clear hK K;refine AW.ret ?_;simp -implicitDefEqProofs only[go_sem,seval,↓reduceIte];refine endK_some ?_;exact ⟨_,rfl,fun _=>rfl,fun x _ _ h=>absurd h hc⟩
 have e1:(checkP s.l != 0)=false:=by simpa using hc
 rw [e1];refine AW.condS (by simp -implicitDefEqProofs only[go_sem,seval,↓reduceIte];rfl) (fun h8=>?_) (fun h8=>?_)
 ·cases h8
 refine AW.skip ?_;simp -implicitDefEqProofs only[go_sem,seval,↓reduceIte];refine hK1 _ ?_;obtain ⟨x,hx,hl,hd⟩:=checkP_ok hc;have hfit:x.fit:=fit_of x 0 (by rw [← hl];exact hnum)
 have hsz:s.l.length=x.size:=by rw [hl,X.row_len]
 have hat:At s.l x 0:=by rw [hl];exact At.whole x
 have hxp:=x.size_pos
 have hw:IntKind.i64.wrap ((s.l.length:Int)-1)=((0:Nat):Int)+x.size-1:=by rw [w64 (by omega) (by omega)];omega
 refine AW.seq_k fun K hK=>AW.region (by kernel_rfl) ?_;simp -implicitDefEqProofs only[go_sem,seval,↓reduceIte,hw];refine CallA.pure hG (by kernel_rfl) ?_;simp -implicitDefEqProofs only[go_sem,seval,↓reduceIte,recol_xns];refine (rPrint_spec G hG s hs x.size x 0 _ 0 (Nat.le_refl _) hat hx hfit (by decide) (by decide)).mono ?_;rintro _ _ rfl;simp -implicitDefEqProofs only[go_sem,seval,↓reduceIte];refine hK _ ?_;clear hK K;refine AW.ret ?_;simp -implicitDefEqProofs only[go_sem,seval,↓reduceIte];refine endK_some ?_;exact ⟨(joinW (x.W 0),0),rfl,fun h=>absurd hc h,fun y hy hly _=>by rw [row_inj y x 0 hy hx (by rw [← hly,← hl])]⟩
end Go.Hs
end
