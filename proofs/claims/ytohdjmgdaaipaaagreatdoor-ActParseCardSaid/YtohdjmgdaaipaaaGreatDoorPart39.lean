/- Part 39 of the proof of a statement of seat YtohdjmgdaaipaaaGreatDoor: HsHExpr3 HsHExpr4 HsExprRef HsHExprDep HsHExprDep2 HsHExprDep3 HsHExprDep4 HsExprNm HsExprP HsHExprFr HsHExprPa HsHRedR5 HsActLaw HsHActR HsHPrtShelf HsHPrtCat HsLexLaw3 HsLexLaw4 HsNumBackLaw HsExprPrn HsHPrtW. -/
import Derived.Test.YtohdjmgdaaipaaaGreatDoorPart38
import Derived.Test.YtohdjmgdaaipaaaGreatDoorPart37
import Derived.Test.YtohdjmgdaaipaaaGreatDoorPart36
import Derived.Test.YtohdjmgdaaipaaaGreatDoorChecked
import Derived.Shelf.Spec.SlicesGrow
import Derived.Ground.Names7Prog
import Derived.Test.YtohdjmgdaaipaaaGreatDoorPart20
import Derived.Test.YtohdjmgdaaipaaaGreatDoorPart34
import Derived.Test.YtohdjmgdaaipaaaGreatDoorPart33
import Derived.Test.YtohdjmgdaaipaaaGreatDoorPart24
import Derived.Test.YtohdjmgdaaipaaaGreatDoorPart31
import Derived.Test.YtohdjmgdaaipaaaGreatDoorPart32
set_option linter.unusedSimpArgs false
set_option linter.unusedVariables false
section
namespace Go.Hs
open Go.Proofs
set_option maxRecDepth 10000
def InnerS (G:Nat→V) (sl:Sl Tk) (g:Nat) (inner:Inner) (i0:Nat):Prop :=
 ∀ n r,1≤n→n≤9→i0<r.i→RSok sl.l r→RdS 1031 [.func (.func 256) [] []] G 256 [.int .i64 n] sl g r (.bool (inner n r).1) (inner n r).2
theorem nextP_len {l:List Tk} (hT:TkOk l) (i:Nat):(nextP l i).text.length<100000:=by
 unfold nextP
 split
 ·rename_i t h
  split
  ·exact hT.text _ (List.mem_of_getElem? h)
  ·exact Nat.zero_lt_succ _
 ·exact Nat.zero_lt_succ _
theorem eatP_true (l:List Tk) (w:List UInt8) (r:RS):(eatP l w r).1=true→(eatP l w r).2=r.adv:=by
 unfold eatP
 split
 ·intro h;cases h
 ·exact fun _=>rfl
def restP (l:List Tk) (inner:Inner):List (List UInt8)→List Int→RS→Bool × RS
 | [],parts,r=>andThen (eatP l wEndif r) fun r4=>(true,r4.put (putAt ⟨22,0,[],0,0,0⟩ parts))
 | w::ws,parts,r=>andThen (eatP l w r) fun r1=>andThen (inner 1 r1) fun a=>restP l inner ws (parts++[a.last]) a
theorem branches_rest (l:List Tk) (inner:Inner) (r:RS):branchesP l inner r=restP l inner [wIf,wThen,wElse] [] r:=rfl
def brW:List (List UInt8):=[wIf,wThen,wElse]
theorem xBranches_spec (G:Nat→V) (hE:GExp G) (sl:Sl Tk) (hT:TkOk sl.l) (g:Nat) (r:RS) (hr:RSok sl.l r) (inner:Inner) (hin:InnerS G sl g inner r.i) (hb:Bals sl.l inner) :
  RdS 1031 [.func (.func 256) [] []] G 281 [] sl g r (.bool (branchesP sl.l inner r).1) (branchesP sl.l inner r).2:=by
 have hG:=hE.ok;have hTl:=hT.len;intro gx;refine Spec.of_code' 1000 37 [.tmp 2] Tryz.func281 rfl rfl rfl rfl fun X=>?_;refine AW.seq_k fun K hK=>AW.region (by kernel_rfl) ?_;simp -implicitDefEqProofs only[go_sem,seval,↓reduceIte];refine hK _ ?_;clear hK K;refine AW.seq_k fun K hK=>AW.region (by kernel_rfl) ?_;simp -implicitDefEqProofs only[go_sem,seval,↓reduceIte];refine hK _ ?_;clear hK K;refine AW.seq_k fun K1 hK1=>?_;refine AW.seq_k fun K hK=>AW.region (by kernel_rfl) ?_;simp -implicitDefEqProofs only[go_sem,seval,↓reduceIte];refine hK _ ?_;clear hK K;refine AW.block ?_
 refine AW.for 3 (fun k (x:Nat × Nat × List Int × RS)=>st [(0,.ptr 8 g 0),(3,grown 1027 x.1 1 x.2.2.1),(6,.agg (brW.map V.str)),(7,.int .i64 k)] [(1027,grownO x.1 (V.int .i64) x.2.2.1),(8,rdO 1031 [.func (.func 256) [] []] sl g x.2.1 x.2.2.2),(1031,ndO x.2.1 x.2.2.2.nodes)])
  (fun k x=>branchesP sl.l inner r=restP sl.l inner (brW.drop k) x.2.2.1 x.2.2.2∧RSok sl.l x.2.2.2∧r.i≤x.2.2.2.i∧x.2.2.1.length=k) 0 (0,gx,[],r) (Nat.zero_le _) ⟨branches_rest _ _ _,hr,Nat.le_refl _,rfl⟩
  (Weak.st (by simp -implicitDefEqProofs only[go_sem,seval,↓reduceIte,List.map_cons,List.map_nil];exact ⟨rfl,rfl⟩) (by simp -implicitDefEqProofs only[go_sem,seval,↓reduceIte,sets];try rfl)) ?_
 rintro k ⟨gp,gy,parts,q⟩ hk ⟨hP,hq,hqi,hpl⟩ L2 hL2;have hP:branchesP sl.l inner r=restP sl.l inner (brW.drop k) parts q:=hP;have hq:RSok sl.l q:=hq;have hqi:r.i≤q.i:=hqi;have hpl:parts.length=k:=hpl
 have hqI:q.i<1000000:=by have:=hq.1;omega
 refine AW.seq_k fun K hK=>AW.region (by kernel_rfl) ?_;simp -implicitDefEqProofs only[go_sem,seval,↓reduceIte];refine hK _ ?_;clear hK K;refine AW.seq_k fun K3 hK3=>?_;refine AW.condS (by simp -implicitDefEqProofs only[go_sem,seval,↓reduceIte];rfl) (fun h4=>?_) (fun h4=>?_)
 ·have hk1:k<3:=by have h4:decide ((k:Int)<3)=true:=h4;simp at h4;omega
  refine AW.skip ?_;simp -implicitDefEqProofs only[go_sem,seval,↓reduceIte];refine hK3 _ ?_;refine AW.seq_k fun K5 hK5=>?_;refine AW.block ?_
  obtain ⟨w,hw1,hw2⟩:∃ w,(brW.map V.str)[k]? = some (.str w)∧brW.drop k=w::brW.drop (k+1):=by
   have hkl:k<brW.length:=hk1;exact ⟨brW[k],by rw [List.getElem?_map,List.getElem?_eq_getElem hkl];rfl,List.drop_eq_getElem_cons hkl⟩
  have hk1':(k:Int)<3:=by omega
  rw [hw2,restP] at hP;have heb:=eatP_bal sl.l w q;have het:=eatP_true sl.l w q;have hes:=xEat_spec G hE sl hT g q hqI w;generalize eatP sl.l w q=y at hP heb hes het;obtain ⟨b,q1⟩:=y;simp only at heb hes het;refine AW.seq_k fun K hK=>AW.region (by kernel_rfl) ?_;simp -implicitDefEqProofs only[go_sem,seval,↓reduceIte,hw1,hk1',Int.natCast_nonneg,Nat.mul_one];refine hK _ ?_;clear hK K;refine AW.seq_k fun K6 hK6=>?_
  cases b with
  | false =>
   rw [andThen_false] at hP;refine AW.seq_k fun K hK=>AW.region (by kernel_rfl) ?_;simp -implicitDefEqProofs only[go_sem,seval,↓reduceIte];refine RdS.call hG (hes) (gx:=gy) (by kernel_rfl) (fun F=>rfl) (by decide) (by first | rfl | (simp -implicitDefEqProofs only[go_sem,seval,↓reduceIte,List.map_cons,List.map_nil,encXN_K];try rfl)) (by first | rfl | (simp -implicitDefEqProofs only[go_sem,seval,↓reduceIte,List.map_cons,List.map_nil];try rfl)) (by first | rfl | (simp -implicitDefEqProofs only[go_sem,seval,↓reduceIte];try rfl)) (by first | rfl | (simp -implicitDefEqProofs only[go_sem,seval,↓reduceIte];try rfl)) fun gz=>?_;simp -implicitDefEqProofs only[go_sem,seval,↓reduceIte,sets];refine hK _ ?_;clear hK K;refine AW.condS (by simp -implicitDefEqProofs only[go_sem,seval,↓reduceIte];rfl) (fun h7=>?_) (fun h7=>?_)
   ·refine AW.seq_k fun K hK=>AW.region (by kernel_rfl) ?_
    simp -implicitDefEqProofs only[go_sem,seval,↓reduceIte];refine hK _ ?_;clear hK K;refine AW.ret ?_;simp -implicitDefEqProofs only[go_sem,seval,↓reduceIte];refine endK_some ?_;rw [hP];exact ⟨rfl,gz,by first | rfl | (simp -implicitDefEqProofs only[go_sem,seval,↓reduceIte];try rfl),by first | rfl | (simp -implicitDefEqProofs only[go_sem,seval,↓reduceIte];try rfl)⟩
   ·cases h7
  | true =>
   rw [andThen_true] at hP;have hb1:=heb.2 rfl;have hq1:=hb1.ok hq
   have hlt:r.i<q1.i:=by rw [het rfl];show r.i<q.i+1;omega
   have hc:=hin 1 q1 (by decide) (by decide) hlt hq1;have hb2:=hb 1 q1;generalize inner 1 q1=z at hP hc hb2;obtain ⟨b,a⟩:=z;simp only at hc hb2;have ha:=hb2.ok hq1
   have han:a.nodes.length<1000000:=by have:=ha.1;have:=ha.2;omega
   cases b with
   | false =>
    rw [andThen_false] at hP;refine AW.seq_k fun K hK=>AW.region (by kernel_rfl) ?_;simp -implicitDefEqProofs only[go_sem,seval,↓reduceIte,rdO_K];refine RdS.call hG (hes) (gx:=gy) (by kernel_rfl) (fun F=>rfl) (by decide) (by first | rfl | (simp -implicitDefEqProofs only[go_sem,seval,↓reduceIte,List.map_cons,List.map_nil,encXN_K];try rfl)) (by first | rfl | (simp -implicitDefEqProofs only[go_sem,seval,↓reduceIte,List.map_cons,List.map_nil];try rfl)) (by first | rfl | (simp -implicitDefEqProofs only[go_sem,seval,↓reduceIte];try rfl)) (by first | rfl | (simp -implicitDefEqProofs only[go_sem,seval,↓reduceIte];try rfl)) fun gz=>?_;simp -implicitDefEqProofs only[go_sem,seval,↓reduceIte,sets];simp -implicitDefEqProofs only[go_sem,seval,↓reduceIte,rdO_K];refine RdS.call hG (hc) (gx:=gz) (by kernel_rfl) (fun F=>rfl) (by decide) (by first | rfl | (simp -implicitDefEqProofs only[go_sem,seval,↓reduceIte,List.map_cons,List.map_nil,encXN_K];try rfl)) (by first | rfl | (simp -implicitDefEqProofs only[go_sem,seval,↓reduceIte,List.map_cons,List.map_nil];try rfl)) (by first | rfl | (simp -implicitDefEqProofs only[go_sem,seval,↓reduceIte];try rfl)) (by first | rfl | (simp -implicitDefEqProofs only[go_sem,seval,↓reduceIte];try rfl)) fun gz2=>?_;simp -implicitDefEqProofs only[go_sem,seval,↓reduceIte,sets];refine hK _ ?_;clear hK K;refine AW.condS (by simp -implicitDefEqProofs only[go_sem,seval,↓reduceIte];rfl) (fun h7=>?_) (fun h7=>?_)
    ·refine AW.seq_k fun K hK=>AW.region (by kernel_rfl) ?_
     simp -implicitDefEqProofs only[go_sem,seval,↓reduceIte];refine hK _ ?_;clear hK K;refine AW.ret ?_;simp -implicitDefEqProofs only[go_sem,seval,↓reduceIte];refine endK_some ?_;rw [hP];exact ⟨rfl,gz2,by first | rfl | (simp -implicitDefEqProofs only[go_sem,seval,↓reduceIte];try rfl),by first | rfl | (simp -implicitDefEqProofs only[go_sem,seval,↓reduceIte];try rfl)⟩
    ·cases h7
   | true =>
    rw [andThen_true] at hP;refine AW.seq_k fun K hK=>AW.region (by kernel_rfl) ?_;simp -implicitDefEqProofs only[go_sem,seval,↓reduceIte,rdO_K];refine RdS.call hG (hes) (gx:=gy) (by kernel_rfl) (fun F=>rfl) (by decide) (by first | rfl | (simp -implicitDefEqProofs only[go_sem,seval,↓reduceIte,List.map_cons,List.map_nil,encXN_K];try rfl)) (by first | rfl | (simp -implicitDefEqProofs only[go_sem,seval,↓reduceIte,List.map_cons,List.map_nil];try rfl)) (by first | rfl | (simp -implicitDefEqProofs only[go_sem,seval,↓reduceIte];try rfl)) (by first | rfl | (simp -implicitDefEqProofs only[go_sem,seval,↓reduceIte];try rfl)) fun gz=>?_;simp -implicitDefEqProofs only[go_sem,seval,↓reduceIte,sets];simp -implicitDefEqProofs only[go_sem,seval,↓reduceIte,rdO_K];refine RdS.call hG (hc) (gx:=gz) (by kernel_rfl) (fun F=>rfl) (by decide) (by first | rfl | (simp -implicitDefEqProofs only[go_sem,seval,↓reduceIte,List.map_cons,List.map_nil,encXN_K];try rfl)) (by first | rfl | (simp -implicitDefEqProofs only[go_sem,seval,↓reduceIte,List.map_cons,List.map_nil];try rfl)) (by first | rfl | (simp -implicitDefEqProofs only[go_sem,seval,↓reduceIte];try rfl)) (by first | rfl | (simp -implicitDefEqProofs only[go_sem,seval,↓reduceIte];try rfl)) fun gz2=>?_;simp -implicitDefEqProofs only[go_sem,seval,↓reduceIte,sets];refine hK _ ?_;clear hK K;refine AW.condS (by simp -implicitDefEqProofs only[go_sem,seval,↓reduceIte];rfl) (fun h7=>?_) (fun h7=>?_)
    ·cases h7
    ·refine AW.skip ?_
     simp -implicitDefEqProofs only[go_sem,seval,↓reduceIte];refine hK6 _ ?_;refine AW.region (by kernel_rfl) ?_;simp -implicitDefEqProofs only[go_sem,seval,↓reduceIte];refine RdS.call hG (xLast_spec G hG sl g a han) (gx:=gz2) (by kernel_rfl) (fun F=>rfl) (by decide) (by first | rfl | (simp -implicitDefEqProofs only[go_sem,seval,↓reduceIte,List.map_cons,List.map_nil,encXN_K];try rfl)) (by first | rfl | (simp -implicitDefEqProofs only[go_sem,seval,↓reduceIte,List.map_cons,List.map_nil];try rfl)) (by first | rfl | (simp -implicitDefEqProofs only[go_sem,seval,↓reduceIte];try rfl)) (by first | rfl | (simp -implicitDefEqProofs only[go_sem,seval,↓reduceIte];try rfl)) fun gz3=>?_;simp -implicitDefEqProofs only[go_sem,seval,↓reduceIte,sets];intro g26;refine app_grown (f:=V.int .i64) (l:=parts) (l2:=[a.last]) (g:=gp) (fun _=>rfl) rfl rfl rfl (by simp -implicitDefEqProofs only[go_sem,seval,↓reduceIte]) (roomOk_of (by omega) (by simp;omega)) fun g27=>?_;simp -implicitDefEqProofs only[go_sem,seval,↓reduceIte];refine hK5 _ ?_;refine AW.region (by kernel_rfl) ?_;simp -implicitDefEqProofs only[go_sem,seval,↓reduceIte];refine hL2 _ ⟨hk1,(g27,gz3,parts++[a.last],a),⟨hP,ha,?_,?_⟩,Weak.st (by simp -implicitDefEqProofs only[go_sem,seval,↓reduceIte];exact congrArg _ (w64 (by omega) (by omega))) (by simp -implicitDefEqProofs only[go_sem,seval,↓reduceIte];try rfl)⟩
     ·show r.i≤a.i
      have:=hb2.up;omega
     ·show (parts++[a.last]).length=k+1
      rw [List.length_append,List.length_singleton,hpl]
 ·have hk1:k=3:=by have h4:decide ((k:Int)<3)=false:=h4;simp at h4;omega
  refine AW.exit ?_;simp -implicitDefEqProofs only[go_sem,seval,↓reduceIte];refine hK1 _ ?_;rw [hk1,show brW.drop 3=[] from rfl,restP] at hP;have heb:=eatP_bal sl.l wEndif q;have hes:=xEat_spec G hE sl hT g q hqI wEndif;generalize eatP sl.l wEndif q=y at hP heb hes;obtain ⟨b,q1⟩:=y;simp only at heb hes;have hq1:=(heb.1).ok hq
  have hqn:q1.nodes.length<1000000:=by have:=hq1.1;have:=hq1.2;omega
  cases b with
  | false =>
   rw [andThen_false] at hP;refine AW.seq_k fun K hK=>AW.region (by kernel_rfl) ?_;simp -implicitDefEqProofs only[go_sem,seval,↓reduceIte];refine RdS.call hG (hes) (gx:=gy) (by kernel_rfl) (fun F=>rfl) (by decide) (by first | rfl | (simp -implicitDefEqProofs only[go_sem,seval,↓reduceIte,List.map_cons,List.map_nil,encXN_K];try rfl)) (by first | rfl | (simp -implicitDefEqProofs only[go_sem,seval,↓reduceIte,List.map_cons,List.map_nil];try rfl)) (by first | rfl | (simp -implicitDefEqProofs only[go_sem,seval,↓reduceIte];try rfl)) (by first | rfl | (simp -implicitDefEqProofs only[go_sem,seval,↓reduceIte];try rfl)) fun gz=>?_;simp -implicitDefEqProofs only[go_sem,seval,↓reduceIte,sets];refine hK _ ?_;clear hK K;refine AW.ret ?_;simp -implicitDefEqProofs only[go_sem,seval,↓reduceIte];refine endK_some ?_;rw [hP];exact ⟨rfl,gz,by first | rfl | (simp -implicitDefEqProofs only[go_sem,seval,↓reduceIte];try rfl),by first | rfl | (simp -implicitDefEqProofs only[go_sem,seval,↓reduceIte];try rfl)⟩
  | true =>
   rw [andThen_true] at hP;refine AW.seq_k fun K hK=>AW.region (by kernel_rfl) ?_;simp -implicitDefEqProofs only[go_sem,seval,↓reduceIte];refine RdS.call hG (hes) (gx:=gy) (by kernel_rfl) (fun F=>rfl) (by decide) (by first | rfl | (simp -implicitDefEqProofs only[go_sem,seval,↓reduceIte,List.map_cons,List.map_nil,encXN_K];try rfl)) (by first | rfl | (simp -implicitDefEqProofs only[go_sem,seval,↓reduceIte,List.map_cons,List.map_nil];try rfl)) (by first | rfl | (simp -implicitDefEqProofs only[go_sem,seval,↓reduceIte];try rfl)) (by first | rfl | (simp -implicitDefEqProofs only[go_sem,seval,↓reduceIte];try rfl)) fun gz=>?_;simp -implicitDefEqProofs only[go_sem,seval,↓reduceIte,sets];refine CallA.frzL (fun o=>o==1027) [.ptr 8 g 0,encXN ⟨22,0,[],0,0,0⟩,encSl .new 1 (V.int .i64) (grownS parts)] [(8,rdO 1031 [.func (.func 256) [] []] sl g gz q1),(1031,ndO gz q1.nodes)] ⟨Fz.same _,Fz.same _,?_,trivial⟩ ?_ ?_
   ·exact Fz.grown (g:=gp) rfl (by simp -implicitDefEqProofs only[go_sem,seval,↓reduceIte];try rfl) (fun _=>rfl)
   ·simp only [allFzO_cons,allFzO_nil,and_true]
    exact ⟨FzO.keep rfl (by simp -implicitDefEqProofs only[go_sem,seval,↓reduceIte];try rfl),FzO.keep rfl (by simp -implicitDefEqProofs only[go_sem,seval,↓reduceIte];try rfl)⟩
   have hp3:(grownS parts).l.length≤3:=by rw [grownS_l];omega
   refine RdS.call hG (xPut_spec G hG sl g q1 hqn ⟨22,0,[],0,0,0⟩ .old (grownS parts) hp3) (gx:=gz) (by kernel_rfl) (fun F=>rfl) (by decide) (by first | rfl | (simp -implicitDefEqProofs only[go_sem,seval,↓reduceIte,List.map_cons,List.map_nil,encXN_K];try rfl)) (by first | rfl | (simp -implicitDefEqProofs only[go_sem,seval,↓reduceIte,List.map_cons,List.map_nil];try rfl)) (by first | rfl | (simp -implicitDefEqProofs only[go_sem,seval,↓reduceIte];try rfl)) (by first | rfl | (simp -implicitDefEqProofs only[go_sem,seval,↓reduceIte];try rfl)) fun gz2=>?_;simp -implicitDefEqProofs only[go_sem,seval,↓reduceIte,sets];refine hK _ ?_;clear hK K;refine AW.ret ?_;simp -implicitDefEqProofs only[go_sem,seval,↓reduceIte];refine endK_some ?_;rw [hP];exact ⟨rfl,gz2,by first | rfl | (simp -implicitDefEqProofs only[go_sem,seval,↓reduceIte];try rfl),by first | rfl | (simp -implicitDefEqProofs only[go_sem,seval,↓reduceIte];try rfl)⟩
theorem xAhead_spec (G:Nat→V) (hE:GExp G) (sl:Sl Tk) (hT:TkOk sl.l) (g:Nat) (r:RS) (hr:RSok sl.l r) (inner:Inner) (hin:InnerS G sl g inner r.i) (hb:Bals sl.l inner) :
  RdS 1031 [.func (.func 256) [] []] G 265 [] sl g r (.bool (aheadP sl.l inner r).1) (aheadP sl.l inner r).2:=by
 have hG:=hE.ok;have hTl:=hT.len
 have hri:r.i<1000000:=by have:=hr.1;omega
 have hrn:r.nodes.length<1000000:=by have:=hr.2;omega
 have hw:IntKind.i64.wrap ((r.i:Int)+1)=((r.i+1:Nat):Int):=by rw [w64 (by omega) (by omega)];omega
 intro gx;refine Spec.of_code' 1000 107 [.tmp 2] Tryz.func265 rfl rfl rfl rfl fun X=>?_
 have hP:aheadP sl.l inner r=if (nextP sl.l r.i).kind=1 then numberP r (nextP sl.l r.i).text
  else if (nextP sl.l r.i).kind=2 then leafP r 2 0 (nextP sl.l r.i).text
  else if (nextP sl.l r.i).kind=0 then (false,r.err 80)
  else if (ofP (nextP sl.l r.i).text 1).2 then andThen (inner 9 r.adv) fun a=>(true,a.put ⟨(ofP (nextP sl.l r.i).text 1).1,0,[],a.last,-1,-1⟩)
  else if (nextP sl.l r.i).text=[40] then andThen (inner 1 r.adv) (eatP sl.l [41])
  else if (nextP sl.l r.i).text=wIf then branchesP sl.l inner r
  else if (ofP (nextP sl.l r.i).text 0).2∧(nextP sl.l r.i).kind=3 then leafP r (ofP (nextP sl.l r.i).text 0).1 0 []
  else (false,r.err 80):=rfl
 have htl:=nextP_len hT r.i;have hadv:(nextP sl.l r.i).kind≠0→RSok sl.l r.adv:=fun h=>(Bal.adv (nextP_lt h)).ok hr
 have hno0:(nextP sl.l r.i).kind=0→(ofP (nextP sl.l r.i).text 0).2=false:=fun h=>by
  unfold ofP
  cases ho:ofI (nextP sl.l r.i).text 0 with
  | none=>rfl
  | some i =>
   have hk:=nextP_is sl.l r.i;rw [h] at hk
   rcases ofI_zero ho with ⟨h,_⟩ | ⟨h,_⟩
   ·rw [h] at hk;exact absurd hk (by decide)
   ·rw [h] at hk;exact absurd hk (by decide)
 refine AW.seq_k fun K hK=>AW.region (by kernel_rfl) ?_;simp -implicitDefEqProofs only[go_sem,seval,↓reduceIte];refine hK _ ?_;clear hK K;refine AW.seq_k fun K hK=>AW.region (by kernel_rfl) ?_;simp -implicitDefEqProofs only[go_sem,seval,↓reduceIte];refine RdS.call hG (xNext_spec G hE sl hT g r hri) (gx:=gx) (by kernel_rfl) (fun F=>rfl) (by decide) (by first | rfl | (simp -implicitDefEqProofs only[go_sem,seval,↓reduceIte,List.map_cons,List.map_nil,encXN_K];try rfl)) (by first | rfl | (simp -implicitDefEqProofs only[go_sem,seval,↓reduceIte,List.map_cons,List.map_nil];try rfl)) (by first | rfl | (simp -implicitDefEqProofs only[go_sem,seval,↓reduceIte];try rfl)) (by first | rfl | (simp -implicitDefEqProofs only[go_sem,seval,↓reduceIte];try rfl)) fun gx1=>?_;simp -implicitDefEqProofs only[go_sem,seval,↓reduceIte,sets];simp -implicitDefEqProofs only[go_sem,seval,↓reduceIte,encTk_K];intro g3;refine hK _ ?_;clear hK K;generalize nextP sl.l r.i=t at hP htl hadv hno0 ⊢;obtain ⟨k,t,p⟩:=t;simp only at hP htl hadv hno0;refine AW.seq_k fun K hK=>AW.region (by kernel_rfl) ?_;simp -implicitDefEqProofs only[go_sem,seval,↓reduceIte];refine CallA.pure hG (by kernel_rfl) ?_;simp -implicitDefEqProofs only[go_sem,seval,↓reduceIte];refine (xOf_spec G hG t 1).mono ?_;rintro _ _ rfl;generalize ofP t 1=o1 at hP ⊢;obtain ⟨op1,one⟩:=o1;simp only at hP;simp -implicitDefEqProofs only[go_sem,seval,↓reduceIte,encOf];refine hK _ ?_;clear hK K
 refine AW.seqJ (fun (_:Unit)=>st [(0,.ptr 8 g 0),(3,.ptr 1003 g3 0)] [(1003,.cells .new g3 0 [.int .u8 k,.str t,.int .i64 p]),(8,rdO 1031 [.func (.func 256) [] []] sl g gx1 r),(1031,ndO gx1 r.nodes)])
  (fun _=>(k=0∨(k≠0∧k≠1∧k≠2∧one=false∧t≠[40]∧t≠wIf))) (fun K1 hK1=>?_) ?_
 ·refine AW.block ?_
  by_cases k1:k=1
  ·have e1:(k==1)=true:=by simpa using k1
   rw [if_pos k1] at hP;refine AW.seq_k fun K hK=>AW.region (by kernel_rfl) ?_;simp -implicitDefEqProofs only[go_sem,seval,↓reduceIte,e1];refine hK _ ?_;clear hK K;refine AW.condS (by simp -implicitDefEqProofs only[go_sem,seval,↓reduceIte];rfl) (fun h2=>?_) (fun h2=>?_)
   ·refine AW.seq_k fun K hK=>AW.region (by kernel_rfl) ?_
    simp -implicitDefEqProofs only[go_sem,seval,↓reduceIte];refine RdS.call hG (xNumber_spec G hE sl g r hri hrn t htl) (gx:=gx1) (by kernel_rfl) (fun F=>rfl) (by decide) (by first | rfl | (simp -implicitDefEqProofs only[go_sem,seval,↓reduceIte,List.map_cons,List.map_nil,encXN_K];try rfl)) (by first | rfl | (simp -implicitDefEqProofs only[go_sem,seval,↓reduceIte,List.map_cons,List.map_nil];try rfl)) (by first | rfl | (simp -implicitDefEqProofs only[go_sem,seval,↓reduceIte];try rfl)) (by first | rfl | (simp -implicitDefEqProofs only[go_sem,seval,↓reduceIte];try rfl)) fun gx2=>?_;simp -implicitDefEqProofs only[go_sem,seval,↓reduceIte,sets];refine hK _ ?_;clear hK K;refine AW.ret ?_;simp -implicitDefEqProofs only[go_sem,seval,↓reduceIte];refine endK_some ?_;rw [hP];exact ⟨rfl,gx2,by first | rfl | (simp -implicitDefEqProofs only[go_sem,seval,↓reduceIte];try rfl),by first | rfl | (simp -implicitDefEqProofs only[go_sem,seval,↓reduceIte];try rfl)⟩
   ·cases h2
  have e1:(k==1)=false:=by simpa using k1
  rw [if_neg k1] at hP;refine AW.seq_k fun K hK=>AW.region (by kernel_rfl) ?_;simp -implicitDefEqProofs only[go_sem,seval,↓reduceIte,e1];refine hK _ ?_;clear hK K;refine AW.condS (by simp -implicitDefEqProofs only[go_sem,seval,↓reduceIte];rfl) (fun h2=>?_) (fun h2=>?_)
  ·cases h2
  clear h2
  by_cases k2:k=2
  ·have e2:(k==2)=true:=by simpa using k2
   rw [if_pos k2] at hP;refine AW.seq_k fun K hK=>AW.region (by kernel_rfl) ?_;simp -implicitDefEqProofs only[go_sem,seval,↓reduceIte,e2];refine hK _ ?_;clear hK K;refine AW.condS (by simp -implicitDefEqProofs only[go_sem,seval,↓reduceIte];rfl) (fun h2=>?_) (fun h2=>?_)
   ·refine AW.seq_k fun K hK=>AW.region (by kernel_rfl) ?_
    simp -implicitDefEqProofs only[go_sem,seval,↓reduceIte];rw [← encXN_K ⟨2,0,t,0,0,0⟩];refine RdS.call hG (xLeaf_spec G hG sl g r hri hrn 2 0 t 0 0 0) (gx:=gx1) (by kernel_rfl) (fun F=>rfl) (by decide) (by first | rfl | (simp -implicitDefEqProofs only[go_sem,seval,↓reduceIte,List.map_cons,List.map_nil,encXN_K];try rfl)) (by first | rfl | (simp -implicitDefEqProofs only[go_sem,seval,↓reduceIte,List.map_cons,List.map_nil];try rfl)) (by first | rfl | (simp -implicitDefEqProofs only[go_sem,seval,↓reduceIte];try rfl)) (by first | rfl | (simp -implicitDefEqProofs only[go_sem,seval,↓reduceIte];try rfl)) fun gx2=>?_;simp -implicitDefEqProofs only[go_sem,seval,↓reduceIte,sets];refine hK _ ?_;clear hK K;refine AW.ret ?_;simp -implicitDefEqProofs only[go_sem,seval,↓reduceIte];refine endK_some ?_;rw [hP];exact ⟨rfl,gx2,by first | rfl | (simp -implicitDefEqProofs only[go_sem,seval,↓reduceIte];try rfl),by first | rfl | (simp -implicitDefEqProofs only[go_sem,seval,↓reduceIte];try rfl)⟩
   ·cases h2
  have e2:(k==2)=false:=by simpa using k2
  rw [if_neg k2] at hP;refine AW.seq_k fun K hK=>AW.region (by kernel_rfl) ?_;simp -implicitDefEqProofs only[go_sem,seval,↓reduceIte,e2];refine hK _ ?_;clear hK K;refine AW.condS (by simp -implicitDefEqProofs only[go_sem,seval,↓reduceIte];rfl) (fun h2=>?_) (fun h2=>?_)
  ·cases h2
  clear h2
  by_cases k0:k=0
  ·have e0:(k==0)=true:=by simpa using k0
   refine AW.seq_k fun K hK=>AW.region (by kernel_rfl) ?_;simp -implicitDefEqProofs only[go_sem,seval,↓reduceIte,e0];refine hK _ ?_;clear hK K;refine AW.condS (by simp -implicitDefEqProofs only[go_sem,seval,↓reduceIte];rfl) (fun h2=>?_) (fun h2=>?_)
   ·refine AW.skip ?_
    simp -implicitDefEqProofs only[go_sem,seval,↓reduceIte];exact hK1 _ () (.inl k0) (Weak.st (by simp -implicitDefEqProofs only[go_sem,seval,↓reduceIte]) (by simp -implicitDefEqProofs only[go_sem,seval,↓reduceIte]))
   ·cases h2
  have e0:(k==0)=false:=by simpa using k0
  rw [if_neg k0] at hP;have had:=hadv k0;refine AW.seq_k fun K hK=>AW.region (by kernel_rfl) ?_;simp -implicitDefEqProofs only[go_sem,seval,↓reduceIte,e0];refine hK _ ?_;clear hK K;refine AW.condS (by simp -implicitDefEqProofs only[go_sem,seval,↓reduceIte];rfl) (fun h2=>?_) (fun h2=>?_)
  ·cases h2
  clear h2;refine AW.seq_k fun K hK=>AW.region (by kernel_rfl) ?_;simp -implicitDefEqProofs only[go_sem,seval,↓reduceIte];refine hK _ ?_;clear hK K;refine AW.condS (by simp -implicitDefEqProofs only[go_sem,seval,↓reduceIte];rfl) (fun h3=>?_) (fun h3=>?_)
  ·subst h3
   rw [if_pos rfl] at hP;have hc:=hin 9 r.adv (by decide) (by decide) (Nat.lt_succ_self _) had;have hbl:=(hb 9 r.adv).ok had;generalize inner 9 r.adv=x at hc hP hbl;obtain ⟨b,a⟩:=x;simp only at hc hbl
   have han:a.nodes.length<1000000:=by have:=hbl.1;have:=hbl.2;omega
   refine AW.seq_k fun K hK=>AW.region (by kernel_rfl) ?_;simp -implicitDefEqProofs only[go_sem,seval,↓reduceIte,rdO_K,hw];refine hK _ ?_;clear hK K
   cases b with
   | false =>
    refine AW.seq_k fun K hK=>AW.region (by kernel_rfl) ?_;simp -implicitDefEqProofs only[go_sem,seval,↓reduceIte,rdO_K];refine RdS.call hG (hc) (gx:=gx1) (by kernel_rfl) (fun F=>rfl) (by decide) (by first | rfl | (simp -implicitDefEqProofs only[go_sem,seval,↓reduceIte,List.map_cons,List.map_nil,encXN_K];try rfl)) (by first | rfl | (simp -implicitDefEqProofs only[go_sem,seval,↓reduceIte,List.map_cons,List.map_nil];try rfl)) (by first | rfl | (simp -implicitDefEqProofs only[go_sem,seval,↓reduceIte];try rfl)) (by first | rfl | (simp -implicitDefEqProofs only[go_sem,seval,↓reduceIte];try rfl)) fun gx2=>?_;simp -implicitDefEqProofs only[go_sem,seval,↓reduceIte,sets];refine hK _ ?_;clear hK K;refine AW.ret ?_;simp -implicitDefEqProofs only[go_sem,seval,↓reduceIte];refine endK_some ?_;rw [hP];exact ⟨rfl,gx2,by first | rfl | (simp -implicitDefEqProofs only[go_sem,seval,↓reduceIte];try rfl),by first | rfl | (simp -implicitDefEqProofs only[go_sem,seval,↓reduceIte];try rfl)⟩
   | true =>
    refine AW.seq_k fun K hK=>AW.region (by kernel_rfl) ?_;simp -implicitDefEqProofs only[go_sem,seval,↓reduceIte,rdO_K];refine RdS.call hG (hc) (gx:=gx1) (by kernel_rfl) (fun F=>rfl) (by decide) (by first | rfl | (simp -implicitDefEqProofs only[go_sem,seval,↓reduceIte,List.map_cons,List.map_nil,encXN_K];try rfl)) (by first | rfl | (simp -implicitDefEqProofs only[go_sem,seval,↓reduceIte,List.map_cons,List.map_nil];try rfl)) (by first | rfl | (simp -implicitDefEqProofs only[go_sem,seval,↓reduceIte];try rfl)) (by first | rfl | (simp -implicitDefEqProofs only[go_sem,seval,↓reduceIte];try rfl)) fun gx2=>?_;simp -implicitDefEqProofs only[go_sem,seval,↓reduceIte,sets];refine RdS.call hG (xLast_spec G hG sl g a han) (gx:=gx2) (by kernel_rfl) (fun F=>rfl) (by decide) (by first | rfl | (simp -implicitDefEqProofs only[go_sem,seval,↓reduceIte,List.map_cons,List.map_nil,encXN_K];try rfl)) (by first | rfl | (simp -implicitDefEqProofs only[go_sem,seval,↓reduceIte,List.map_cons,List.map_nil];try rfl)) (by first | rfl | (simp -implicitDefEqProofs only[go_sem,seval,↓reduceIte];try rfl)) (by first | rfl | (simp -implicitDefEqProofs only[go_sem,seval,↓reduceIte];try rfl)) fun gx3=>?_;simp -implicitDefEqProofs only[go_sem,seval,↓reduceIte,sets];intro g58;refine CallA.frzL (fun o=>o==1058) [.ptr 8 g 0,encXN ⟨op1,0,[],0,0,0⟩,.slice .new false 1 [.int .i64 a.last]] [(8,rdO 1031 [.func (.func 256) [] []] sl g gx3 a),(1031,ndO gx3 a.nodes)] ⟨Fz.same _,Fz.same _,?_,trivial⟩ ?_ ?_
    ·exact Fz.sl (f:=V.int .i64) (l:=[a.last]) (m:=1) (g:=g58) (fz:=0) (c := .new) rfl (by simp -implicitDefEqProofs only[go_sem,seval,↓reduceIte];rfl) (fun _=>rfl)
    ·simp only [allFzO_cons,allFzO_nil,and_true]
     exact ⟨FzO.keep rfl (by simp -implicitDefEqProofs only[go_sem,seval,↓reduceIte];try rfl),FzO.keep rfl (by simp -implicitDefEqProofs only[go_sem,seval,↓reduceIte];try rfl)⟩
    refine RdS.call hG (xPut_spec G hG sl g a han ⟨op1,0,[],0,0,0⟩ .old (.mk false [a.last]) (Nat.le_of_ble_eq_true rfl)) (gx:=gx3) (by kernel_rfl) (fun F=>rfl) (by decide) (by first | rfl | (simp -implicitDefEqProofs only[go_sem,seval,↓reduceIte,List.map_cons,List.map_nil,encXN_K];try rfl)) (by first | rfl | (simp -implicitDefEqProofs only[go_sem,seval,↓reduceIte,List.map_cons,List.map_nil];try rfl)) (by first | rfl | (simp -implicitDefEqProofs only[go_sem,seval,↓reduceIte];try rfl)) (by first | rfl | (simp -implicitDefEqProofs only[go_sem,seval,↓reduceIte];try rfl)) fun gx4=>?_;simp -implicitDefEqProofs only[go_sem,seval,↓reduceIte,sets];refine hK _ ?_;clear hK K;refine AW.ret ?_;simp -implicitDefEqProofs only[go_sem,seval,↓reduceIte];refine endK_some ?_;rw [hP];exact ⟨rfl,gx4,by first | rfl | (simp -implicitDefEqProofs only[go_sem,seval,↓reduceIte];try rfl),by first | rfl | (simp -implicitDefEqProofs only[go_sem,seval,↓reduceIte];try rfl)⟩
  ·subst h3
   rw [if_neg (by simp)] at hP;refine AW.seq_k fun K hK=>AW.region (by kernel_rfl) ?_;simp -implicitDefEqProofs only[go_sem,seval,↓reduceIte];refine hK _ ?_;clear hK K;refine AW.condS (by simp -implicitDefEqProofs only[go_sem,seval,↓reduceIte];rfl) (fun h4=>?_) (fun h4=>?_)
   ·have h4:t=[40]:=by simpa using h4
    rw [if_pos h4] at hP;have hc:=hin 1 r.adv (by decide) (by decide) (Nat.lt_succ_self _) had;have hbl:=(hb 1 r.adv).ok had;generalize inner 1 r.adv=x at hc hP hbl;obtain ⟨b,a⟩:=x;simp only at hc hbl
    have hai:a.i<1000000:=by have:=hbl.1;omega
    refine AW.seq_k fun K hK=>AW.region (by kernel_rfl) ?_;simp -implicitDefEqProofs only[go_sem,seval,↓reduceIte,rdO_K,hw];refine hK _ ?_;clear hK K
    cases b with
    | false =>
     refine AW.seq_k fun K hK=>AW.region (by kernel_rfl) ?_;simp -implicitDefEqProofs only[go_sem,seval,↓reduceIte,rdO_K];refine RdS.call hG (hc) (gx:=gx1) (by kernel_rfl) (fun F=>rfl) (by decide) (by first | rfl | (simp -implicitDefEqProofs only[go_sem,seval,↓reduceIte,List.map_cons,List.map_nil,encXN_K];try rfl)) (by first | rfl | (simp -implicitDefEqProofs only[go_sem,seval,↓reduceIte,List.map_cons,List.map_nil];try rfl)) (by first | rfl | (simp -implicitDefEqProofs only[go_sem,seval,↓reduceIte];try rfl)) (by first | rfl | (simp -implicitDefEqProofs only[go_sem,seval,↓reduceIte];try rfl)) fun gx2=>?_;simp -implicitDefEqProofs only[go_sem,seval,↓reduceIte,sets];refine hK _ ?_;clear hK K;refine AW.ret ?_;simp -implicitDefEqProofs only[go_sem,seval,↓reduceIte];refine endK_some ?_;rw [hP];exact ⟨rfl,gx2,by first | rfl | (simp -implicitDefEqProofs only[go_sem,seval,↓reduceIte];try rfl),by first | rfl | (simp -implicitDefEqProofs only[go_sem,seval,↓reduceIte];try rfl)⟩
    | true =>
     rw [andThen_true] at hP;refine AW.seq_k fun K hK=>AW.region (by kernel_rfl) ?_;simp -implicitDefEqProofs only[go_sem,seval,↓reduceIte,rdO_K];refine RdS.call hG (hc) (gx:=gx1) (by kernel_rfl) (fun F=>rfl) (by decide) (by first | rfl | (simp -implicitDefEqProofs only[go_sem,seval,↓reduceIte,List.map_cons,List.map_nil,encXN_K];try rfl)) (by first | rfl | (simp -implicitDefEqProofs only[go_sem,seval,↓reduceIte,List.map_cons,List.map_nil];try rfl)) (by first | rfl | (simp -implicitDefEqProofs only[go_sem,seval,↓reduceIte];try rfl)) (by first | rfl | (simp -implicitDefEqProofs only[go_sem,seval,↓reduceIte];try rfl)) fun gx2=>?_;simp -implicitDefEqProofs only[go_sem,seval,↓reduceIte,sets];refine RdS.call hG (xEat_spec G hE sl hT g a hai [41]) (gx:=gx2) (by kernel_rfl) (fun F=>rfl) (by decide) (by first | rfl | (simp -implicitDefEqProofs only[go_sem,seval,↓reduceIte,List.map_cons,List.map_nil,encXN_K];try rfl)) (by first | rfl | (simp -implicitDefEqProofs only[go_sem,seval,↓reduceIte,List.map_cons,List.map_nil];try rfl)) (by first | rfl | (simp -implicitDefEqProofs only[go_sem,seval,↓reduceIte];try rfl)) (by first | rfl | (simp -implicitDefEqProofs only[go_sem,seval,↓reduceIte];try rfl)) fun gx3=>?_;simp -implicitDefEqProofs only[go_sem,seval,↓reduceIte,sets];generalize eatP sl.l [41] a=y at hP ⊢;obtain ⟨b,a2⟩:=y
     cases b with
     | true =>
      simp -implicitDefEqProofs only[go_sem,seval,↓reduceIte];refine hK _ ?_;clear hK K;refine AW.ret ?_;simp -implicitDefEqProofs only[go_sem,seval,↓reduceIte];refine endK_some ?_;rw [hP];exact ⟨rfl,gx3,by first | rfl | (simp -implicitDefEqProofs only[go_sem,seval,↓reduceIte];try rfl),by first | rfl | (simp -implicitDefEqProofs only[go_sem,seval,↓reduceIte];try rfl)⟩
     | false =>
      simp -implicitDefEqProofs only[go_sem,seval,↓reduceIte];refine hK _ ?_;clear hK K;refine AW.ret ?_;simp -implicitDefEqProofs only[go_sem,seval,↓reduceIte];refine endK_some ?_;rw [hP];exact ⟨rfl,gx3,by first | rfl | (simp -implicitDefEqProofs only[go_sem,seval,↓reduceIte];try rfl),by first | rfl | (simp -implicitDefEqProofs only[go_sem,seval,↓reduceIte];try rfl)⟩
   ·have h4:¬ t=[40]:=by simpa using h4
    rw [if_neg h4] at hP;refine AW.seq_k fun K hK=>AW.region (by kernel_rfl) ?_;simp -implicitDefEqProofs only[go_sem,seval,↓reduceIte];refine hK _ ?_;clear hK K;refine AW.condS (by simp -implicitDefEqProofs only[go_sem,seval,↓reduceIte];rfl) (fun h5=>?_) (fun h5=>?_)
    ·have h5:t=wIf:=by
      have h5:(t==[105,102])=true:=h5;exact eq_of_beq h5
     rw [if_pos h5] at hP;refine AW.seq_k fun K hK=>AW.region (by kernel_rfl) ?_;simp -implicitDefEqProofs only[go_sem,seval,↓reduceIte];refine RdS.call hG (xBranches_spec G hE sl hT g r hr inner hin hb) (gx:=gx1) (by kernel_rfl) (fun F=>rfl) (by decide) (by first | rfl | (simp -implicitDefEqProofs only[go_sem,seval,↓reduceIte,List.map_cons,List.map_nil,encXN_K];try rfl)) (by first | rfl | (simp -implicitDefEqProofs only[go_sem,seval,↓reduceIte,List.map_cons,List.map_nil];try rfl)) (by first | rfl | (simp -implicitDefEqProofs only[go_sem,seval,↓reduceIte];try rfl)) (by first | rfl | (simp -implicitDefEqProofs only[go_sem,seval,↓reduceIte];try rfl)) fun gx2=>?_;simp -implicitDefEqProofs only[go_sem,seval,↓reduceIte,sets];refine hK _ ?_;clear hK K;refine AW.ret ?_;simp -implicitDefEqProofs only[go_sem,seval,↓reduceIte];refine endK_some ?_;rw [hP];exact ⟨rfl,gx2,by first | rfl | (simp -implicitDefEqProofs only[go_sem,seval,↓reduceIte];try rfl),by first | rfl | (simp -implicitDefEqProofs only[go_sem,seval,↓reduceIte];try rfl)⟩
    ·have h5:¬ t=wIf:=by
      have h5:(t==[105,102])=false:=h5;exact beq_eq_false_iff_ne.1 h5
     refine AW.skip ?_;simp -implicitDefEqProofs only[go_sem,seval,↓reduceIte];exact hK1 _ () (.inr ⟨k0,k1,k2,rfl,h4,h5⟩) (Weak.st (by simp -implicitDefEqProofs only[go_sem,seval,↓reduceIte]) (by simp -implicitDefEqProofs only[go_sem,seval,↓reduceIte]))
 rintro _ hcase
 have hP2:aheadP sl.l inner r=if (ofP t 0).2∧k=3 then leafP r (ofP t 0).1 0 [] else (false,r.err 80):=by
  rw [hP]
  rcases hcase with k0 | ⟨k0,k1,k2,k3,k4,k5⟩
  ·have:=hno0 k0
   subst k0;rw [if_neg (by decide),if_neg (by decide),if_pos rfl,this,if_neg (by simp)]
  ·rw [if_neg k1,if_neg k2,if_neg k0,k3,if_neg (by simp),if_neg k4,if_neg k5]
 clear hP;have hP:=hP2;clear hP2 hno0 hcase;refine AW.seq_k fun K6 hK6=>?_;refine AW.seq_k fun K hK=>AW.region (by kernel_rfl) ?_;simp -implicitDefEqProofs only[go_sem,seval,↓reduceIte];refine CallA.pure hG (by kernel_rfl) ?_;simp -implicitDefEqProofs only[go_sem,seval,↓reduceIte];refine (xOf_spec G hG t 0).mono ?_;rintro _ _ rfl;generalize ofP t 0=o0 at hP ⊢;obtain ⟨op0,ok⟩:=o0;simp only at hP;simp -implicitDefEqProofs only[go_sem,seval,↓reduceIte,encOf];refine hK _ ?_;clear hK K
 cases ok with
 | false =>
  rw [if_neg (by simp)] at hP;refine AW.seq_k fun K hK=>AW.region (by kernel_rfl) ?_;simp -implicitDefEqProofs only[go_sem,seval,↓reduceIte];refine hK _ ?_;clear hK K;refine AW.condS (by simp -implicitDefEqProofs only[go_sem,seval,↓reduceIte];rfl) (fun h7=>?_) (fun h7=>?_)
  ·cases h7
  ·refine AW.skip ?_
   simp -implicitDefEqProofs only[go_sem,seval,↓reduceIte];refine hK6 _ ?_;refine AW.seq_k fun K hK=>AW.region (by kernel_rfl) ?_;simp -implicitDefEqProofs only[go_sem,seval,↓reduceIte,rdO_K];refine hK _ ?_;clear hK K;refine AW.seq_k fun K hK=>AW.region (by kernel_rfl) ?_;simp -implicitDefEqProofs only[go_sem,seval,↓reduceIte];refine hK _ ?_;clear hK K;refine AW.ret ?_;simp -implicitDefEqProofs only[go_sem,seval,↓reduceIte];refine endK_some ?_;rw [hP];exact ⟨rfl,gx1,by first | rfl | (simp -implicitDefEqProofs only[go_sem,seval,↓reduceIte];try rfl),by first | rfl | (simp -implicitDefEqProofs only[go_sem,seval,↓reduceIte];try rfl)⟩
 | true =>
  by_cases k3:k=3
  ·have e3:(k==3)=true:=by simpa using k3
   rw [if_pos ⟨rfl,k3⟩] at hP;refine AW.seq_k fun K hK=>AW.region (by kernel_rfl) ?_;simp -implicitDefEqProofs only[go_sem,seval,↓reduceIte,e3];refine hK _ ?_;clear hK K;refine AW.condS (by simp -implicitDefEqProofs only[go_sem,seval,↓reduceIte];rfl) (fun h7=>?_) (fun h7=>?_)
   ·refine AW.seq_k fun K hK=>AW.region (by kernel_rfl) ?_
    simp -implicitDefEqProofs only[go_sem,seval,↓reduceIte];rw [← encXN_K ⟨op0,0,[],0,0,0⟩];refine RdS.call hG (xLeaf_spec G hG sl g r hri hrn op0 0 [] 0 0 0) (gx:=gx1) (by kernel_rfl) (fun F=>rfl) (by decide) (by first | rfl | (simp -implicitDefEqProofs only[go_sem,seval,↓reduceIte,List.map_cons,List.map_nil,encXN_K];try rfl)) (by first | rfl | (simp -implicitDefEqProofs only[go_sem,seval,↓reduceIte,List.map_cons,List.map_nil];try rfl)) (by first | rfl | (simp -implicitDefEqProofs only[go_sem,seval,↓reduceIte];try rfl)) (by first | rfl | (simp -implicitDefEqProofs only[go_sem,seval,↓reduceIte];try rfl)) fun gx2=>?_;simp -implicitDefEqProofs only[go_sem,seval,↓reduceIte,sets];refine hK _ ?_;clear hK K;refine AW.ret ?_;simp -implicitDefEqProofs only[go_sem,seval,↓reduceIte];refine endK_some ?_;rw [hP];exact ⟨rfl,gx2,by first | rfl | (simp -implicitDefEqProofs only[go_sem,seval,↓reduceIte];try rfl),by first | rfl | (simp -implicitDefEqProofs only[go_sem,seval,↓reduceIte];try rfl)⟩
   ·cases h7
  ·have e3:(k==3)=false:=by simpa using k3
   rw [if_neg (fun h=>k3 h.2)] at hP;refine AW.seq_k fun K hK=>AW.region (by kernel_rfl) ?_;simp -implicitDefEqProofs only[go_sem,seval,↓reduceIte,e3];refine hK _ ?_;clear hK K;refine AW.condS (by simp -implicitDefEqProofs only[go_sem,seval,↓reduceIte];rfl) (fun h7=>?_) (fun h7=>?_)
   ·cases h7
   ·refine AW.skip ?_
    simp -implicitDefEqProofs only[go_sem,seval,↓reduceIte];refine hK6 _ ?_;refine AW.seq_k fun K hK=>AW.region (by kernel_rfl) ?_;simp -implicitDefEqProofs only[go_sem,seval,↓reduceIte,rdO_K];refine hK _ ?_;clear hK K;refine AW.seq_k fun K hK=>AW.region (by kernel_rfl) ?_;simp -implicitDefEqProofs only[go_sem,seval,↓reduceIte];refine hK _ ?_;clear hK K;refine AW.ret ?_;simp -implicitDefEqProofs only[go_sem,seval,↓reduceIte];refine endK_some ?_;rw [hP];exact ⟨rfl,gx1,by first | rfl | (simp -implicitDefEqProofs only[go_sem,seval,↓reduceIte];try rfl),by first | rfl | (simp -implicitDefEqProofs only[go_sem,seval,↓reduceIte];try rfl)⟩
end Go.Hs
end

section
namespace Go.Hs
open Go.Proofs
set_option maxRecDepth 10000
theorem loopP_succ (l:List Tk) (inner:Inner) (n:Int) (m:Nat) (r:RS):loopP l inner n (m+1) r=match opAt l r.i with
  | none=>(true,r)
  | some op=>if lvl op<n then (true,r) else andThen (inner (lvl op+1) r.adv) fun a=>loopP l inner n m (a.put ⟨op,0,[],r.last,a.last,-1⟩):=rfl
theorem ofP_opAt {l:List Tk} {i:Nat}:((nextP l i).kind=0∨(ofP (nextP l i).text 2).2=false→opAt l i=none)∧((nextP l i).kind≠0→(ofP (nextP l i).text 2).2=true→opAt l i=some (ofP (nextP l i).text 2).1):=by
 unfold opAt ofP
 constructor
 ·rintro (h | h)
  ·rw [if_pos h]
  ·split
   ·rfl
   ·cases ho:ofI (nextP l i).text 2 with
    | none=>rfl
    | some op=>rw [ho] at h;cases h
 ·intro h h2
  rw [if_neg h]
  cases ho:ofI (nextP l i).text 2 with
  | none=>rw [ho] at h2;cases h2
  | some op=>rfl
theorem ofP_lt (t:List UInt8) (p:Int):(ofP t p).1<23:=by
 unfold ofP
 split
 ·rename_i h;exact ofI_lt h
 ·decide
theorem xClimb_spec (G:Nat→V) (hE:GExp G) (sl:Sl Tk) (hT:TkOk sl.l) (g:Nat):∀ (f:Nat) (n:Int) (r:RS),1≤n→n≤9→sl.l.length<f+r.i→RSok sl.l r →
  RdS 1031 [.func (.func 256) [] []] G 256 [.int .i64 n] sl g r (.bool (climbP sl.l f n r).1) (climbP sl.l f n r).2:=by
 have hG:=hE.ok;have hTl:=hT.len;intro f
 induction f with
 | zero=>intro n r _ _ hf hr;have:=hr.1;omega
 | succ f ih =>
 intro n r hn1 hn9 hf hr gx;have hin:∀ i0,r.i≤i0→InnerS G sl g (climbP sl.l f) i0:=fun i0 hi0 n' r' h1 h9 hi hr'=>ih n' r' h1 h9 (by omega) hr';have hbs:=climbP_bal sl.l f;have hP:climbP sl.l (f+1) n r=andThen (aheadP sl.l (climbP sl.l f) r) (loopP sl.l (climbP sl.l f) n (sl.l.length+1)):=rfl;generalize climbP sl.l (f+1) n r=res at hP ⊢;refine Spec.of_code' 1000 65 [.tmp 4] Tryz.func256 rfl rfl rfl rfl fun X=>?_;have hah:=xAhead_spec G hE sl hT g r hr _ (hin r.i (Nat.le_refl _)) hbs;have hab:=aheadP_bal hbs r;generalize aheadP sl.l (climbP sl.l f) r=y at hP hah hab;obtain ⟨b,q0⟩:=y;simp only at hah hab;refine AW.seq_k fun K hK=>AW.region (by kernel_rfl) ?_;simp -implicitDefEqProofs only[go_sem,seval,↓reduceIte];refine hK _ ?_;clear hK K;refine AW.seq_k fun K1 hK1=>?_
 cases b with
 | false =>
  rw [andThen_false] at hP;refine AW.seq_k fun K hK=>AW.region (by kernel_rfl) ?_;simp -implicitDefEqProofs only[go_sem,seval,↓reduceIte];refine RdS.call hG (hah) (gx:=gx) (by kernel_rfl) (fun F=>rfl) (by decide) (by first | rfl | (simp -implicitDefEqProofs only[go_sem,seval,↓reduceIte,List.map_cons,List.map_nil,encXN_K];try rfl)) (by first | rfl | (simp -implicitDefEqProofs only[go_sem,seval,↓reduceIte,List.map_cons,List.map_nil];try rfl)) (by first | rfl | (simp -implicitDefEqProofs only[go_sem,seval,↓reduceIte];try rfl)) (by first | rfl | (simp -implicitDefEqProofs only[go_sem,seval,↓reduceIte];try rfl)) fun gx1=>?_;simp -implicitDefEqProofs only[go_sem,seval,↓reduceIte,sets];refine hK _ ?_;clear hK K;refine AW.condS (by simp -implicitDefEqProofs only[go_sem,seval,↓reduceIte];rfl) (fun h2=>?_) (fun h2=>?_)
  ·refine AW.seq_k fun K hK=>AW.region (by kernel_rfl) ?_
   simp -implicitDefEqProofs only[go_sem,seval,↓reduceIte];refine hK _ ?_;clear hK K;refine AW.ret ?_;simp -implicitDefEqProofs only[go_sem,seval,↓reduceIte];refine endK_some ?_;rw [hP];exact ⟨rfl,gx1,by first | rfl | (simp -implicitDefEqProofs only[go_sem,seval,↓reduceIte];try rfl),by first | rfl | (simp -implicitDefEqProofs only[go_sem,seval,↓reduceIte];try rfl)⟩
  ·cases h2
 | true =>
 rw [andThen_true] at hP;have hq0:=hab.ok hr;refine AW.seq_k fun K hK=>AW.region (by kernel_rfl) ?_;simp -implicitDefEqProofs only[go_sem,seval,↓reduceIte];refine RdS.call hG (hah) (gx:=gx) (by kernel_rfl) (fun F=>rfl) (by decide) (by first | rfl | (simp -implicitDefEqProofs only[go_sem,seval,↓reduceIte,List.map_cons,List.map_nil,encXN_K];try rfl)) (by first | rfl | (simp -implicitDefEqProofs only[go_sem,seval,↓reduceIte,List.map_cons,List.map_nil];try rfl)) (by first | rfl | (simp -implicitDefEqProofs only[go_sem,seval,↓reduceIte];try rfl)) (by first | rfl | (simp -implicitDefEqProofs only[go_sem,seval,↓reduceIte];try rfl)) fun gx1=>?_;simp -implicitDefEqProofs only[go_sem,seval,↓reduceIte,sets];refine hK _ ?_;clear hK K;refine AW.condS (by simp -implicitDefEqProofs only[go_sem,seval,↓reduceIte];rfl) (fun h2=>?_) (fun h2=>?_)
 ·cases h2
 refine AW.skip ?_;simp -implicitDefEqProofs only[go_sem,seval,↓reduceIte];refine hK1 _ ?_;refine AW.seq_k fun K hK=>AW.region (by kernel_rfl) ?_;simp -implicitDefEqProofs only[go_sem,seval,↓reduceIte];refine CallA.pure hG (by kernel_rfl) ?_;simp -implicitDefEqProofs only[go_sem,seval,↓reduceIte,List.map_nil];refine (xTable_spec G hG).mono ?_;rintro _ _ rfl;simp -implicitDefEqProofs only[go_sem,seval,↓reduceIte,tabC_rc,tabC_len,Nat.le_refl];intro g5;rw [setAt_tab _ ?hl]
 case hl=>rfl
 refine hK _ ?_;clear hK K;refine AW.block ?_
 refine AW.while (fun (x:Nat × Nat × RS)=>st [(0,.ptr 8 g 0),(1,.int .i64 n),(5,.ptr 1005 g5 0)] [(1005,.cells .new g5 0 tabC),(8,rdO 1031 [.func (.func 256) [] []] sl g x.1 x.2.2),(1031,ndO x.1 x.2.2.nodes)])
  (fun x=>res=loopP sl.l (climbP sl.l f) n x.2.1 x.2.2∧RSok sl.l x.2.2∧r.i≤x.2.2.i∧sl.l.length<x.2.1+x.2.2.i) (fun x=>x.2.1) (gx1,sl.l.length+1,q0) ⟨hP,hq0,hab.up,Nat.lt_add_right _ (Nat.lt_succ_self _)⟩
  (Weak.st (by simp -implicitDefEqProofs only[go_sem,seval,↓reduceIte]) (by simp -implicitDefEqProofs only[go_sem,seval,↓reduceIte];try rfl)) ?_
 clear hP;rintro ⟨gy,m,q⟩ ⟨hP,hq,hqi,hm⟩ L3 hL3
 replace hP:res=loopP sl.l (climbP sl.l f) n m q:=hP
 replace hq:RSok sl.l q:=hq
 replace hqi:r.i≤q.i:=hqi
 replace hm:sl.l.length<m+q.i:=hm
 obtain ⟨m,rfl⟩:∃ m',m=m'+1:=⟨m-1,by have:=hq.1;omega⟩
 have hqI:q.i<1000000:=by have:=hq.1;omega
 have hqn:q.nodes.length<1000000:=by have:=hq.1;have:=hq.2;omega
 rw [loopP_succ] at hP;have hop:=ofP_opAt (l:=sl.l) (i:=q.i);have hlt23:=ofP_lt (nextP sl.l q.i).text 2;have htl:=nextP_len hT q.i
 have hbnd:∀ op,opAt sl.l q.i=some op→1≤lvl op∧lvl op≤8:=fun op h=>by have:=op_pos h;exact ⟨this.2.2.1,this.2.2.2⟩
 have hilt:∀ op,opAt sl.l q.i=some op→q.i<sl.l.length:=fun op h=>opAt_lt h;refine AW.block ?_;refine AW.seq_k fun K hK=>AW.region (by kernel_rfl) ?_;simp -implicitDefEqProofs only[go_sem,seval,↓reduceIte];refine RdS.call hG (xNext_spec G hE sl hT g q hqI) (gx:=gy) (by kernel_rfl) (fun F=>rfl) (by decide) (by first | rfl | (simp -implicitDefEqProofs only[go_sem,seval,↓reduceIte,List.map_cons,List.map_nil,encXN_K];try rfl)) (by first | rfl | (simp -implicitDefEqProofs only[go_sem,seval,↓reduceIte,List.map_cons,List.map_nil];try rfl)) (by first | rfl | (simp -implicitDefEqProofs only[go_sem,seval,↓reduceIte];try rfl)) (by first | rfl | (simp -implicitDefEqProofs only[go_sem,seval,↓reduceIte];try rfl)) fun gz=>?_;simp -implicitDefEqProofs only[go_sem,seval,↓reduceIte,sets];simp -implicitDefEqProofs only[go_sem,seval,↓reduceIte,encTk_K];intro g6;refine hK _ ?_;clear hK K;generalize opAt sl.l q.i=oa at hP hop hbnd hilt;generalize nextP sl.l q.i=t at hop hlt23 htl ⊢;obtain ⟨k,t,p⟩:=t;simp only at hop hlt23 htl;refine AW.seq_k fun K hK=>AW.region (by kernel_rfl) ?_;simp -implicitDefEqProofs only[go_sem,seval,↓reduceIte];refine CallA.pure hG (by kernel_rfl) ?_;simp -implicitDefEqProofs only[go_sem,seval,↓reduceIte];refine (xOf_spec G hG t 2).mono ?_;rintro _ _ rfl;generalize ofP t 2=o2 at hop hlt23 ⊢;obtain ⟨op,ok⟩:=o2;simp only at hop hlt23;simp -implicitDefEqProofs only[go_sem,seval,↓reduceIte,encOf];refine hK _ ?_;clear hK K;have hlv:=tabC_lvl op hlt23
 have hi23:(op:Int)<23:=by omega
 refine AW.seq_k fun K hK=>AW.region (by kernel_rfl) ?_;simp -implicitDefEqProofs only[go_sem,seval,↓reduceIte,hi23,Int.natCast_nonneg,hlv,Nat.zero_add];refine hK _ ?_;clear hK K;refine AW.seq_k fun K8 hK8=>?_
 cases ok with
 | false =>
  rw [hop.1 (.inr rfl)] at hP;refine AW.seq_k fun K hK=>AW.region (by kernel_rfl) ?_;simp -implicitDefEqProofs only[go_sem,seval,↓reduceIte];refine hK _ ?_;clear hK K;refine AW.condS (by simp -implicitDefEqProofs only[go_sem,seval,↓reduceIte];rfl) (fun h9=>?_) (fun h9=>?_)
  ·refine AW.seq_k fun K hK=>AW.region (by kernel_rfl) ?_
   simp -implicitDefEqProofs only[go_sem,seval,↓reduceIte];refine hK _ ?_;clear hK K;refine AW.ret ?_;simp -implicitDefEqProofs only[go_sem,seval,↓reduceIte];refine endK_some ?_;rw [hP];exact ⟨rfl,gz,by first | rfl | (simp -implicitDefEqProofs only[go_sem,seval,↓reduceIte];try rfl),by first | rfl | (simp -implicitDefEqProofs only[go_sem,seval,↓reduceIte];try rfl)⟩
  ·cases h9
 | true =>
 by_cases hk:k=0
 ·have e1:(k==0)=true:=by simpa using hk
  rw [hop.1 (.inl hk)] at hP;refine AW.seq_k fun K hK=>AW.region (by kernel_rfl) ?_;simp -implicitDefEqProofs only[go_sem,seval,↓reduceIte,e1];refine hK _ ?_;clear hK K;refine AW.condS (by simp -implicitDefEqProofs only[go_sem,seval,↓reduceIte];rfl) (fun h9=>?_) (fun h9=>?_)
  ·refine AW.seq_k fun K hK=>AW.region (by kernel_rfl) ?_
   simp -implicitDefEqProofs only[go_sem,seval,↓reduceIte];refine hK _ ?_;clear hK K;refine AW.ret ?_;simp -implicitDefEqProofs only[go_sem,seval,↓reduceIte];refine endK_some ?_;rw [hP];exact ⟨rfl,gz,by first | rfl | (simp -implicitDefEqProofs only[go_sem,seval,↓reduceIte];try rfl),by first | rfl | (simp -implicitDefEqProofs only[go_sem,seval,↓reduceIte];try rfl)⟩
  ·cases h9
 have e1:(k==0)=false:=by simpa using hk
 have hoa:=hop.2 hk rfl;rw [hoa] at hP;simp only at hP;obtain ⟨hl1,hl8⟩:=hbnd op hoa;have hil:=hilt op hoa;generalize lvl op=lv at hP hl1 hl8 ⊢
 by_cases hlt:lv<n
 ·have e2:decide (lv<n)=true:=by simpa using hlt
  rw [if_pos hlt] at hP;refine AW.seq_k fun K hK=>AW.region (by kernel_rfl) ?_;simp -implicitDefEqProofs only[go_sem,seval,↓reduceIte,e1,e2];refine hK _ ?_;clear hK K;refine AW.condS (by simp -implicitDefEqProofs only[go_sem,seval,↓reduceIte];rfl) (fun h9=>?_) (fun h9=>?_)
  ·refine AW.seq_k fun K hK=>AW.region (by kernel_rfl) ?_
   simp -implicitDefEqProofs only[go_sem,seval,↓reduceIte];refine hK _ ?_;clear hK K;refine AW.ret ?_;simp -implicitDefEqProofs only[go_sem,seval,↓reduceIte];refine endK_some ?_;rw [hP];exact ⟨rfl,gz,by first | rfl | (simp -implicitDefEqProofs only[go_sem,seval,↓reduceIte];try rfl),by first | rfl | (simp -implicitDefEqProofs only[go_sem,seval,↓reduceIte];try rfl)⟩
  ·cases h9
 have e2:decide (lv<n)=false:=by simpa using hlt
 rw [if_neg hlt] at hP;refine AW.seq_k fun K hK=>AW.region (by kernel_rfl) ?_;simp -implicitDefEqProofs only[go_sem,seval,↓reduceIte,e1,e2];refine hK _ ?_;clear hK K;refine AW.condS (by simp -implicitDefEqProofs only[go_sem,seval,↓reduceIte];rfl) (fun h9=>?_) (fun h9=>?_)
 ·cases h9
 refine AW.skip ?_;simp -implicitDefEqProofs only[go_sem,seval,↓reduceIte];refine hK8 _ ?_
 have hw:IntKind.i64.wrap ((q.i:Int)+1)=((q.i+1:Nat):Int):=by rw [w64 (by omega) (by omega)];omega
 have hw2:IntKind.i64.wrap (lv+1)=lv+1:=w64 (by omega) (by omega);have hadv:RSok sl.l q.adv:=(Bal.adv hil).ok hq;have hc:=ih (lv+1) q.adv (by omega) (by omega) (by show sl.l.length<f+(q.i+1);omega) hadv;have hcb:=hbs (lv+1) q.adv;generalize climbP sl.l f (lv+1) q.adv=z at hP hc hcb;obtain ⟨b,a⟩:=z;simp only at hc hcb;have ha:=hcb.ok hadv;have haup:q.i+1≤a.i:=hcb.up
 have han:a.nodes.length<1000000:=by have:=ha.1;have:=ha.2;omega
 refine AW.seq_k fun K hK=>AW.region (by kernel_rfl) ?_;simp -implicitDefEqProofs only[go_sem,seval,↓reduceIte];refine RdS.call hG (xLast_spec G hG sl g q hqn) (gx:=gz) (by kernel_rfl) (fun F=>rfl) (by decide) (by first | rfl | (simp -implicitDefEqProofs only[go_sem,seval,↓reduceIte,List.map_cons,List.map_nil,encXN_K];try rfl)) (by first | rfl | (simp -implicitDefEqProofs only[go_sem,seval,↓reduceIte,List.map_cons,List.map_nil];try rfl)) (by first | rfl | (simp -implicitDefEqProofs only[go_sem,seval,↓reduceIte];try rfl)) (by first | rfl | (simp -implicitDefEqProofs only[go_sem,seval,↓reduceIte];try rfl)) fun gz1=>?_;simp -implicitDefEqProofs only[go_sem,seval,↓reduceIte,sets];refine hK _ ?_;clear hK K;refine AW.seq_k fun K hK=>AW.region (by kernel_rfl) ?_;simp -implicitDefEqProofs only[go_sem,seval,↓reduceIte,rdO_K,hw];refine hK _ ?_;clear hK K;refine AW.seq_k fun K10 hK10=>?_
 cases b with
 | false =>
  rw [andThen_false] at hP;refine AW.seq_k fun K hK=>AW.region (by kernel_rfl) ?_;simp -implicitDefEqProofs only[go_sem,seval,↓reduceIte,rdO_K,hw2];refine RdS.call hG (hc) (gx:=gz1) (by kernel_rfl) (fun F=>rfl) (by decide) (by first | rfl | (simp -implicitDefEqProofs only[go_sem,seval,↓reduceIte,List.map_cons,List.map_nil,encXN_K];try rfl)) (by first | rfl | (simp -implicitDefEqProofs only[go_sem,seval,↓reduceIte,List.map_cons,List.map_nil];try rfl)) (by first | rfl | (simp -implicitDefEqProofs only[go_sem,seval,↓reduceIte];try rfl)) (by first | rfl | (simp -implicitDefEqProofs only[go_sem,seval,↓reduceIte];try rfl)) fun gz2=>?_;simp -implicitDefEqProofs only[go_sem,seval,↓reduceIte,sets];refine hK _ ?_;clear hK K;refine AW.condS (by simp -implicitDefEqProofs only[go_sem,seval,↓reduceIte];rfl) (fun h11=>?_) (fun h11=>?_)
  ·refine AW.seq_k fun K hK=>AW.region (by kernel_rfl) ?_
   simp -implicitDefEqProofs only[go_sem,seval,↓reduceIte];refine hK _ ?_;clear hK K;refine AW.ret ?_;simp -implicitDefEqProofs only[go_sem,seval,↓reduceIte];refine endK_some ?_;rw [hP];exact ⟨rfl,gz2,by first | rfl | (simp -implicitDefEqProofs only[go_sem,seval,↓reduceIte];try rfl),by first | rfl | (simp -implicitDefEqProofs only[go_sem,seval,↓reduceIte];try rfl)⟩
  ·cases h11
 | true =>
  rw [andThen_true] at hP;refine AW.seq_k fun K hK=>AW.region (by kernel_rfl) ?_;simp -implicitDefEqProofs only[go_sem,seval,↓reduceIte,rdO_K,hw2];refine RdS.call hG (hc) (gx:=gz1) (by kernel_rfl) (fun F=>rfl) (by decide) (by first | rfl | (simp -implicitDefEqProofs only[go_sem,seval,↓reduceIte,List.map_cons,List.map_nil,encXN_K];try rfl)) (by first | rfl | (simp -implicitDefEqProofs only[go_sem,seval,↓reduceIte,List.map_cons,List.map_nil];try rfl)) (by first | rfl | (simp -implicitDefEqProofs only[go_sem,seval,↓reduceIte];try rfl)) (by first | rfl | (simp -implicitDefEqProofs only[go_sem,seval,↓reduceIte];try rfl)) fun gz2=>?_;simp -implicitDefEqProofs only[go_sem,seval,↓reduceIte,sets];refine hK _ ?_;clear hK K;refine AW.condS (by simp -implicitDefEqProofs only[go_sem,seval,↓reduceIte];rfl) (fun h11=>?_) (fun h11=>?_)
  ·cases h11
  refine AW.skip ?_;simp -implicitDefEqProofs only[go_sem,seval,↓reduceIte];refine hK10 _ ?_;refine AW.region (by kernel_rfl) ?_;simp -implicitDefEqProofs only[go_sem,seval,↓reduceIte];refine RdS.call hG (xLast_spec G hG sl g a han) (gx:=gz2) (by kernel_rfl) (fun F=>rfl) (by decide) (by first | rfl | (simp -implicitDefEqProofs only[go_sem,seval,↓reduceIte,List.map_cons,List.map_nil,encXN_K];try rfl)) (by first | rfl | (simp -implicitDefEqProofs only[go_sem,seval,↓reduceIte,List.map_cons,List.map_nil];try rfl)) (by first | rfl | (simp -implicitDefEqProofs only[go_sem,seval,↓reduceIte];try rfl)) (by first | rfl | (simp -implicitDefEqProofs only[go_sem,seval,↓reduceIte];try rfl)) fun gz3=>?_;simp -implicitDefEqProofs only[go_sem,seval,↓reduceIte,sets];intro g63;refine CallA.frzL (fun o=>o==1063) [.ptr 8 g 0,encXN ⟨op,0,[],0,0,0⟩,.slice .new false 1 [.int .i64 q.last,.int .i64 a.last]] [(8,rdO 1031 [.func (.func 256) [] []] sl g gz3 a),(1031,ndO gz3 a.nodes),(1005,.cells .new g5 0 tabC)] ⟨Fz.same _,Fz.same _,?_,trivial⟩ ?_ ?_
  ·exact Fz.sl (f:=V.int .i64) (l:=[q.last,a.last]) (m:=1) (g:=g63) (fz:=0) (c := .new) rfl (by simp -implicitDefEqProofs only[go_sem,seval,↓reduceIte];rfl) (fun _=>rfl)
  ·simp only [allFzO_cons,allFzO_nil,and_true]
   exact ⟨FzO.keep rfl (by simp -implicitDefEqProofs only[go_sem,seval,↓reduceIte];try rfl),FzO.keep rfl (by simp -implicitDefEqProofs only[go_sem,seval,↓reduceIte];try rfl),FzO.keep rfl (by simp -implicitDefEqProofs only[go_sem,seval,↓reduceIte];try rfl)⟩
  refine RdS.call hG (xPut_spec G hG sl g a han ⟨op,0,[],0,0,0⟩ .old (.mk false [q.last,a.last]) (Nat.le_of_ble_eq_true rfl)) (gx:=gz3) (by kernel_rfl) (fun F=>rfl) (by decide) (by first | rfl | (simp -implicitDefEqProofs only[go_sem,seval,↓reduceIte,List.map_cons,List.map_nil,encXN_K];try rfl)) (by first | rfl | (simp -implicitDefEqProofs only[go_sem,seval,↓reduceIte,List.map_cons,List.map_nil];try rfl)) (by first | rfl | (simp -implicitDefEqProofs only[go_sem,seval,↓reduceIte];try rfl)) (by first | rfl | (simp -implicitDefEqProofs only[go_sem,seval,↓reduceIte];try rfl)) fun gz4=>?_;simp -implicitDefEqProofs only[go_sem,seval,↓reduceIte,sets]
  have hres:RSok sl.l (a.put ⟨op,0,[],q.last,a.last,-1⟩):=⟨ha.1,by
   have h1:=hcb.cnt;have h2:=hq.2
   show (a.nodes++[_]).length≤a.i
   rw [List.length_append,List.length_singleton];have h3:a.nodes.length+(q.i+1)+0≤q.nodes.length+a.i:=h1
   omega⟩
  refine hL3 _ ⟨(gz4,m,a.put ⟨op,0,[],q.last,a.last,-1⟩),Nat.lt_succ_self _,⟨hP,hres,?_,?_⟩,Weak.st (by simp -implicitDefEqProofs only[go_sem,seval,↓reduceIte]) (by simp -implicitDefEqProofs only[go_sem,seval,↓reduceIte];exact ⟨rfl,rfl⟩)⟩
  ·show r.i≤a.i
   omega
  ·show sl.l.length<m+a.i
   omega
end Go.Hs
end

section
namespace Go.Hs
def begStep (rec:Int→Int) (has:Bool) (place last:Int):Option Int :=
 if has=false then (if place ≠ -1 then none else some last)
 else if place≠last then none else if rec last<0 then none else some (rec last-1)
def nthP (l:List XN) (i:Int):Option XN:=if i<0 then none else l[i.toNat]?
def begR (l:List XN):Nat→Int→Int
 | 0,_ => -1
 | f+1,i=>match nthP l i with
  | none => -1
  | some n=>bif wellP n then
   match begStep (begR l f) (Nat.blt 2 (partsOf n.op)) n.c (i-1) with
   | none => -1
   | some l2=>match begStep (begR l f) (Nat.blt 1 (partsOf n.op)) n.b l2 with
    | none => -1
    | some l1=>match begStep (begR l f) (Nat.blt 0 (partsOf n.op)) n.a l1 with
     | none => -1
     | some l0=>l0+1
   else -1
theorem begR_ge (l:List XN):∀ f i,-1≤begR l f i
 | 0,_=>by simp [begR]
 | f+1,i=>by
  have ih:=begR_ge l f
  have hs:∀ has place last q,begStep (begR l f) has place last=some q→q=last ∨ -1≤q:=by
   intro has place last q h;unfold begStep at h
   split at h
   ·split at h
    ·cases h
    ·cases h;exact .inl rfl
   ·split at h
    ·cases h
    ·split at h
     ·cases h
     ·cases h;right;omega
  rw [begR]
  cases hn:nthP l i with
  | none=>simp
  | some n =>
   simp only
   have hi:0≤i:=by unfold nthP at hn;split at hn;cases hn;omega
   cases wellP n with
   | false=>simp
   | true =>
    simp only [cond_true]
    cases h2:begStep (begR l f) (Nat.blt 2 (partsOf n.op)) n.c (i-1) with
    | none=>simp
    | some l2 =>
     simp only
     cases h1:begStep (begR l f) (Nat.blt 1 (partsOf n.op)) n.b l2 with
     | none=>simp
     | some l1 =>
      simp only
      cases h0:begStep (begR l f) (Nat.blt 0 (partsOf n.op)) n.a l1 with
      | none=>simp
      | some l0 =>
       simp only;have a2:=hs _ _ _ _ h2;have a1:=hs _ _ _ _ h1;have a0:=hs _ _ _ _ h0;omega
def At (l:List XN) (x:X) (b:Nat):Prop:=∃ pre post,l=pre++x.row b++post∧pre.length=b
theorem X.row_top:∀ (x:X) (k:Int),∃ body,x.row k=body++[x.top k]∧body.length+1=x.size
 | .leaf op num name,k=>⟨[],rfl,rfl⟩
 | .un op a,k=>⟨a.row k,rfl,by rw [X.row_len];rfl⟩
 | .bin op a b,k=>⟨a.row k++b.row (k+a.size),rfl,by rw [List.length_append,X.row_len,X.row_len];rfl⟩
 | .ite a b c,k=>⟨a.row k++b.row (k+a.size)++c.row (k+a.size+b.size),rfl,by rw [List.length_append,List.length_append,X.row_len,X.row_len,X.row_len];rfl⟩
theorem At.top {l:List XN} {x:X} {b:Nat} (h:At l x b):nthP l ((b:Int)+x.size-1)=some (x.top b):=by
 obtain ⟨pre,post,rfl,hb⟩:=h;obtain ⟨body,h1,h2⟩:=x.row_top b;unfold nthP;rw [if_neg (by omega)]
 have:((b:Int)+x.size-1).toNat=(pre++body).length:=by rw [List.length_append];omega
 rw [this,h1,show pre++(body++[x.top b])++post=(pre++body)++(x.top b::post) by simp];rw [List.getElem?_append_right (Nat.le_refl _)];simp
theorem At.get {l:List XN} {x:X} {b:Nat} (h:At l x b):l[b+x.size-1]? = some (x.top b):=by
 have:=h.top;unfold nthP at this;have hp:=x.size_pos;rw [if_neg (by omega)] at this;rw [← this];congr 1;omega
theorem At.un {l:List XN} {op:Int} {a:X} {b:Nat} (h:At l (.un op a) b):At l a b:=by
 obtain ⟨pre,post,rfl,hb⟩:=h;exact ⟨pre,_,by simp only [X.row,List.append_assoc];rfl,hb⟩
theorem At.bin {l:List XN} {op:Int} {x y:X} {b:Nat} (h:At l (.bin op x y) b):At l x b∧At l y (b+x.size):=by
 obtain ⟨pre,post,rfl,hb⟩:=h;refine ⟨⟨pre,y.row (b+x.size)++[X.top (.bin op x y) b]++post,by simp only [X.row,List.append_assoc];rfl,hb⟩,⟨pre++x.row b,[X.top (.bin op x y) b]++post,?_,by rw [List.length_append,X.row_len,hb]⟩⟩;simp only [X.row,List.append_assoc];rfl
theorem At.ite {l:List XN} {x y z:X} {b:Nat} (h:At l (.ite x y z) b):At l x b∧At l y (b+x.size)∧At l z (b+x.size+y.size):=by
 obtain ⟨pre,post,rfl,hb⟩:=h;refine ⟨⟨pre,y.row (b+x.size)++z.row (b+x.size+y.size)++[X.top (.ite x y z) b]++post,by simp only [X.row,List.append_assoc];rfl,hb⟩,⟨pre++x.row b,z.row (b+x.size+y.size)++[X.top (.ite x y z) b]++post,?_,by rw [List.length_append,X.row_len,hb]⟩,⟨pre++x.row b++y.row (b+x.size),[X.top (.ite x y z) b]++post,?_,by rw [List.length_append,List.length_append,X.row_len,X.row_len,hb]⟩⟩
 ·simp only [X.row,List.append_assoc];rfl
 ·simp only [X.row,List.append_assoc];rfl
theorem begStep_no (rec:Int→Int) (last:Int):begStep rec false (-1) last=some last:=rfl
theorem begStep_yes {rec:Int→Int} {last:Int} (h:0≤rec last):begStep rec true last last=some (rec last-1):=by
 unfold begStep;rw [if_neg (by simp),if_neg (by simp),if_neg (by omega)]
theorem begR_at:∀ (x:X) (l:List XN) (b f:Nat),x.ok=true→At l x b→x.size≤f→begR l f ((b:Int)+x.size-1)=b
 | .leaf op num name,l,b,f,hok,h,hf=>by
  unfold X.ok at hok;simp only [Bool.and_eq_true,decide_eq_true_eq] at hok;obtain ⟨f,rfl⟩:∃ f',f=f'+1:=⟨f-1,by simp only [X.size] at hf;omega⟩;rw [begR,h.top];simp only [X.top]
  have hp:partsOf op=0:=by unfold partsOf;rw [if_pos hok.2]
  rw [hok.1,hp,cond_true];simp only [show Nat.blt 2 0=false from rfl,show Nat.blt 1 0=false from rfl,show Nat.blt 0 0=false from rfl,begStep_no,X.size];omega
 | .un op a,l,b,f,hok,h,hf=>by
  unfold X.ok at hok;simp only [Bool.and_eq_true,decide_eq_true_eq] at hok;simp only [X.size] at hf;obtain ⟨f,rfl⟩:∃ f',f=f'+1:=⟨f-1,by omega⟩;have ia:=begR_at a l b f hok.2 h.un (by omega);rw [begR,h.top];simp only [X.top]
  have hp:partsOf op=1:=by unfold partsOf;rw [if_neg (by omega),if_pos (by omega)]
  rw [well_op (by omega),hp,cond_true]
  have e:(b:Int)+(X.un op a).size-1-1=b+a.size-1:=by simp only [X.size];omega
  simp only [show Nat.blt 2 1=false from rfl,show Nat.blt 1 1=false from rfl,show Nat.blt 0 1=true from rfl,begStep_no,e];rw [begStep_yes (by rw [ia];omega),ia];simp
 | .bin op x y,l,b,f,hok,h,hf=>by
  unfold X.ok at hok;simp only [Bool.and_eq_true,decide_eq_true_eq] at hok;simp only [X.size] at hf;obtain ⟨f,rfl⟩:∃ f',f=f'+1:=⟨f-1,by omega⟩;have ix:=begR_at x l b f hok.1.2 h.bin.1 (by omega);have iy:=begR_at y l (b+x.size) f hok.2 h.bin.2 (by omega);rw [begR,h.top];simp only [X.top]
  have hp:partsOf op=2:=by unfold partsOf;rw [if_neg (by omega),if_neg (by omega),if_pos (by omega)]
  rw [well_op (by omega),hp,cond_true]
  have e:(b:Int)+(X.bin op x y).size-1-1=b+x.size+y.size-1:=by simp only [X.size];omega
  have ey:((b+x.size:Nat):Int)=b+x.size:=by omega
  rw [ey] at iy;simp only [show Nat.blt 2 2=false from rfl,show Nat.blt 1 2=true from rfl,show Nat.blt 0 2=true from rfl,begStep_no,e];rw [begStep_yes (by rw [iy];omega),iy];simp only;rw [begStep_yes (by rw [ix];omega),ix];simp
 | .ite x y z,l,b,f,hok,h,hf=>by
  unfold X.ok at hok;simp only [Bool.and_eq_true] at hok;simp only [X.size] at hf;obtain ⟨f,rfl⟩:∃ f',f=f'+1:=⟨f-1,by omega⟩;have ix:=begR_at x l b f hok.1.1 h.ite.1 (by omega);have iy:=begR_at y l (b+x.size) f hok.1.2 h.ite.2.1 (by omega);have iz:=begR_at z l (b+x.size+y.size) f hok.2 h.ite.2.2 (by omega);rw [begR,h.top];simp only [X.top];rw [well_op (by omega),show partsOf 22=3 from rfl,cond_true]
  have e:(b:Int)+(X.ite x y z).size-1-1=b+x.size+y.size+z.size-1:=by simp only [X.size];omega
  have ey:((b+x.size:Nat):Int)=b+x.size:=by omega
  have ez:((b+x.size+y.size:Nat):Int)=b+x.size+y.size:=by omega
  rw [ey] at iy;rw [ez] at iz;simp only [show Nat.blt 2 3=true from rfl,show Nat.blt 1 3=true from rfl,show Nat.blt 0 3=true from rfl,e];rw [begStep_yes (by rw [iz];omega),iz];simp only;rw [begStep_yes (by rw [iy];omega),iy];simp only;rw [begStep_yes (by rw [ix];omega),ix];simp
theorem begStep_inv {rec:Int→Int} {has:Bool} {place last q:Int} (h:begStep rec has place last=some q):has=false∧place = -1∧q=last∨has=true∧place=last∧0≤rec last∧q=rec last-1:=by
 unfold begStep at h
 split at h
 ·rename_i h1
  split at h
  ·cases h
  ·rename_i h2;cases h;exact .inl ⟨h1,by simpa using h2,rfl⟩
 ·rename_i h1
  split at h
  ·cases h
  ·rename_i h2
   split at h
   ·cases h
   ·rename_i h3;cases h;exact .inr ⟨by simpa using h1,by simpa using h2,by omega,rfl⟩
theorem At.glue {l:List XN} {x:X} {b:Nat} (h:At l x b):∃ pre,l.take (b+x.size)=pre++x.row b∧pre.length=b:=by
 obtain ⟨pre,post,rfl,hb⟩:=h;refine ⟨pre,?_,hb⟩;rw [List.take_append_of_le_length (by rw [List.length_append,X.row_len];omega),List.take_of_length_le (by rw [List.length_append,X.row_len];omega)]
theorem At.of_take {l:List XN} {x:X} {b:Nat} {pre:List XN} (h:l.take (b+x.size)=pre++x.row b) (hb:pre.length=b):At l x b :=
 ⟨pre,l.drop (b+x.size),by rw [← h,List.take_append_drop],hb⟩
theorem nthP_some {l:List XN} {i:Int} {n:XN} (h:nthP l i=some n):0≤i∧l[i.toNat]? = some n∧i.toNat<l.length:=by
 unfold nthP at h
 split at h
 ·cases h
 ·have:=List.getElem?_eq_some_iff.1 h
  exact ⟨by omega,h,this.1⟩
theorem begR_tree (l:List XN):∀ (f:Nat) (i:Int),0≤begR l f i→∃ (x:X) (b:Nat),x.ok=true∧At l x b∧begR l f i=b∧(b:Int)+x.size=i+1
 | 0,i,h=>by simp [begR] at h
 | f+1,i,h=>by
  rw [begR] at h ⊢
  cases hn:nthP l i with
  | none=>rw [hn] at h;simp at h
  | some n =>
   rw [hn] at h;obtain ⟨hi,hg,hlt⟩:=nthP_some hn;simp only at h ⊢
   cases hw:wellP n with
   | false=>rw [hw] at h;simp at h
   | true =>
   rw [hw,cond_true] at h;rw [cond_true];have hrg:=well_range hw
   have htk:l.take (i.toNat+1)=l.take i.toNat++[n]:=by rw [List.take_add_one,hg];rfl
   cases h2:begStep (begR l f) (Nat.blt 2 (partsOf n.op)) n.c (i-1) with
   | none=>rw [h2] at h;simp at h
   | some l2 =>
   rw [h2] at h;simp only at h ⊢
   cases h1:begStep (begR l f) (Nat.blt 1 (partsOf n.op)) n.b l2 with
   | none=>rw [h1] at h;simp at h
   | some l1 =>
   rw [h1] at h;simp only at h ⊢
   cases h0:begStep (begR l f) (Nat.blt 0 (partsOf n.op)) n.a l1 with
   | none=>rw [h0] at h;simp at h
   | some l0 =>
   rw [h0] at h;simp only at h ⊢;obtain ⟨op,num,name,a,b,c⟩:=n;simp only at h2 h1 h0 hrg
   by_cases h4:op≤4
   ·have hp:partsOf op=0:=by unfold partsOf;rw [if_pos h4]
    rw [hp] at h2 h1 h0
    obtain ⟨_,rfl,rfl⟩ | ⟨hh,_⟩:=begStep_inv h2
    rotate_left
    ·exact absurd hh (by decide)
    obtain ⟨_,rfl,rfl⟩ | ⟨hh,_⟩:=begStep_inv h1
    rotate_left
    ·exact absurd hh (by decide)
    obtain ⟨_,rfl,rfl⟩ | ⟨hh,_⟩:=begStep_inv h0
    rotate_left
    ·exact absurd hh (by decide)
    refine ⟨.leaf op num name,i.toNat,by unfold X.ok;rw [hw];simp;omega,At.of_take (pre:=l.take i.toNat) (by rw [X.size,htk];rfl) (by rw [List.length_take];omega),by omega,by simp only [X.size];omega⟩
   have hnn:=well_num hw (show op≠1 by omega);simp only at hnn;obtain ⟨rfl,hnm,_⟩:=hnn;obtain rfl:=hnm (by omega)
   by_cases h6:op≤6
   ·have hp:partsOf op=1:=by unfold partsOf;rw [if_neg h4,if_pos h6]
    rw [hp] at h2 h1 h0
    obtain ⟨_,rfl,rfl⟩ | ⟨hh,_⟩:=begStep_inv h2
    rotate_left
    ·exact absurd hh (by decide)
    obtain ⟨_,rfl,rfl⟩ | ⟨hh,_⟩:=begStep_inv h1
    rotate_left
    ·exact absurd hh (by decide)
    obtain ⟨hh,_⟩ | ⟨_,rfl,hr,rfl⟩:=begStep_inv h0
    ·exact absurd hh (by decide)
    obtain ⟨x,bx,ok1,at1,e1,s1⟩:=begR_tree l f _ hr;obtain ⟨pre,g1,g2⟩:=at1.glue;refine ⟨.un op x,bx,by unfold X.ok;rw [ok1];simp;omega,At.of_take (pre:=pre) ?_ g2,by omega,by simp only [X.size];omega⟩;rw [show bx+(X.un op x).size=i.toNat+1 by simp only [X.size];omega,htk,show i.toNat=bx+x.size by omega,g1,X.row,List.append_assoc]
    congr 4;omega
   by_cases h21:op≤21
   ·have hp:partsOf op=2:=by unfold partsOf;rw [if_neg h4,if_neg h6,if_pos h21]
    rw [hp] at h2 h1 h0
    obtain ⟨_,rfl,rfl⟩ | ⟨hh,_⟩:=begStep_inv h2
    rotate_left
    ·exact absurd hh (by decide)
    obtain ⟨hh,_⟩ | ⟨_,rfl,hr1,rfl⟩:=begStep_inv h1
    ·exact absurd hh (by decide)
    obtain ⟨hh,_⟩ | ⟨_,rfl,hr0,rfl⟩:=begStep_inv h0
    ·exact absurd hh (by decide)
    obtain ⟨y,by',ok1,at1,e1,s1⟩:=begR_tree l f _ hr1;rw [e1] at hr0 h0 h ⊢;obtain ⟨x,bx,ok0,at0,e0,s0⟩:=begR_tree l f _ hr0;obtain ⟨prey,gy1,gy2⟩:=at1.glue;obtain ⟨prex,gx1,gx2⟩:=at0.glue
    have eby:by'=bx+x.size:=by omega
    have hpy:prey=prex++x.row bx:=by
     have:(l.take (by'+y.size)).take by'=prey:=by rw [gy1,List.take_left' gy2]
     rw [← this,List.take_take,Nat.min_eq_left (by omega),eby,gx1]
    refine ⟨.bin op x y,bx,by unfold X.ok;rw [ok1,ok0];simp;omega,At.of_take (pre:=prex) ?_ gx2,by omega,by simp only [X.size];omega⟩;rw [show bx+(X.bin op x y).size=i.toNat+1 by simp only [X.size];omega,htk,show i.toNat=by'+y.size by omega,gy1,hpy,X.row,eby];simp only [List.append_assoc]
    congr 5<;>omega
   ·have hp:partsOf op=3:=by unfold partsOf;rw [if_neg h4,if_neg h6,if_neg h21]
    obtain rfl:op=22:=by omega
    rw [hp] at h2 h1 h0
    obtain ⟨hh,_⟩ | ⟨_,rfl,hr2,rfl⟩:=begStep_inv h2
    ·exact absurd hh (by decide)
    obtain ⟨z,bz,ok2,at2,e2,s2⟩:=begR_tree l f _ hr2;rw [e2] at h1
    obtain ⟨hh,_⟩ | ⟨_,rfl,hr1,rfl⟩:=begStep_inv h1
    ·exact absurd hh (by decide)
    obtain ⟨y,by',ok1,at1,e1,s1⟩:=begR_tree l f _ hr1;rw [e1] at h0
    obtain ⟨hh,_⟩ | ⟨_,rfl,hr0,rfl⟩:=begStep_inv h0
    ·exact absurd hh (by decide)
    obtain ⟨x,bx,ok0,at0,e0,s0⟩:=begR_tree l f _ hr0;obtain ⟨prez,gz1,gz2⟩:=at2.glue;obtain ⟨prey,gy1,gy2⟩:=at1.glue;obtain ⟨prex,gx1,gx2⟩:=at0.glue
    have eby:by'=bx+x.size:=by omega
    have ebz:bz=bx+x.size+y.size:=by omega
    have hpy:prey=prex++x.row bx:=by
     have:(l.take (by'+y.size)).take by'=prey:=by rw [gy1,List.take_left' gy2]
     rw [← this,List.take_take,Nat.min_eq_left (by omega),eby,gx1]
    have hpz:prez=prey++y.row by':=by
     have:(l.take (bz+z.size)).take bz=prez:=by rw [gz1,List.take_left' gz2]
     rw [← this,List.take_take,Nat.min_eq_left (by omega),show bz=by'+y.size by omega,gy1]
    refine ⟨.ite x y z,bx,by unfold X.ok;rw [ok2,ok1,ok0];rfl,At.of_take (pre:=prex) ?_ gx2,by omega,by simp only [X.size];omega⟩;rw [show bx+(X.ite x y z).size=i.toNat+1 by simp only [X.size];omega,htk,show i.toNat=bz+z.size by omega,gz1,hpz,hpy,X.row,ebz,eby];simp only [List.append_assoc]
    congr 6<;>omega
def rightR (l:List XN):Bool:=begR l l.length ((l.length:Int)-1)==0
theorem At.whole (x:X):At (x.row 0) x 0:=⟨[],[],by simp,rfl⟩
theorem right_tree {l:List XN}:rightR l=true ↔ ∃ x:X,x.ok=true∧l=x.row 0:=by
 unfold rightR;rw [beq_iff_eq]
 constructor
 ·intro h
  obtain ⟨x,b,h1,h2,h3,h4⟩:=begR_tree l l.length ((l.length:Int)-1) (by omega)
  obtain rfl:b=0:=by omega
  obtain ⟨pre,post,rfl,hb⟩:=h2;obtain rfl:=List.length_eq_zero_iff.1 hb
  have hl:post.length=0:=by
   simp only [List.nil_append,List.length_append,X.row_len] at h4;omega
  obtain rfl:=List.length_eq_zero_iff.1 hl;exact ⟨x,h1,by simp⟩
 ·rintro ⟨x,hx,rfl⟩
  have:=begR_at x (x.row 0) 0 (x.row 0).length hx (At.whole x) (by rw [X.row_len];exact Nat.le_refl _);rw [X.row_len] at this ⊢;simpa using this
theorem right_depth (l:List XN):rightR l=decide (depthP l≠0):=by
 rw [Bool.eq_iff_iff,right_tree,decide_eq_true_iff]
 constructor
 ·rintro ⟨x,hx,rfl⟩
  rw [depth_row hx];have:=x.depth_pos;omega
 ·exact depth_none
end Go.Hs
end

section
namespace Go.Hs
open Go.Proofs
set_option maxRecDepth 10000
theorem sEqual_spec (G:Nat→V) (hG:GOk G) (ca cb:Col) (a b:Sl Int) (ha:a.l.length<1000000000) :
  Spec Tryz.prog G 230 [encSl ca 1 (V.int .i64) a,encSl cb 1 (V.int .i64) b] hNone (fun v _=>v = .bool (a.l==b.l)):=by
 refine Spec.of_code' 0 26 [.tmp 4] Tryz.func230 rfl rfl rfl rfl fun X=>?_;refine AW.seq_k fun K hK=>AW.region (by kernel_rfl) ?_;simp -implicitDefEqProofs only[go_sem,seval,↓reduceIte];refine hK _ ?_;clear hK K;refine AW.seq_k fun K1 hK1=>?_;refine AW.seq_k fun K hK=>AW.region (by kernel_rfl) ?_;simp -implicitDefEqProofs only[go_sem,seval,↓reduceIte];refine hK _ ?_;clear hK K;refine AW.condS (by simp -implicitDefEqProofs only[go_sem,seval,↓reduceIte];rfl) (fun h2=>?_) (fun h2=>?_)
 ·
  refine AW.seq_k fun K hK=>AW.region (by kernel_rfl) ?_;simp -implicitDefEqProofs only[go_sem,seval,↓reduceIte];refine hK _ ?_;clear hK K;refine AW.ret ?_;simp -implicitDefEqProofs only[go_sem,seval,↓reduceIte];refine endK_some ?_;simp at h2 ⊢;intro e;rw [e] at h2;exact h2 rfl
 ·
  refine AW.skip ?_;simp -implicitDefEqProofs only[go_sem,seval,↓reduceIte];refine hK1 _ ?_
  have hl:a.l.length=b.l.length:=by simp at h2;omega
  refine AW.seq_k fun K3 hK3=>?_;refine AW.seq_k fun K hK=>AW.region (by kernel_rfl) ?_;simp -implicitDefEqProofs only[go_sem,seval,↓reduceIte];refine hK _ ?_;clear hK K;refine AW.block ?_
  refine AW.for a.l.length (fun k (_:Unit)=>st [(0,encSl ca 1 (V.int .i64) a),(1,encSl cb 1 (V.int .i64) b),(12,.int .i64 a.l.length),(13,.int .i64 k)] []) (fun k _=>a.l.take k=b.l.take k) 0 () (Nat.zero_le _) (by simp)
   (Weak.st (by simp -implicitDefEqProofs only[go_sem,seval,↓reduceIte];try simp) (by simp -implicitDefEqProofs only[go_sem,seval,↓reduceIte])) ?_
  intro k _ hk hR L4 hL4;refine AW.seq_k fun K hK=>AW.region (by kernel_rfl) ?_;simp -implicitDefEqProofs only[go_sem,seval,↓reduceIte];refine hK _ ?_;clear hK K;refine AW.seq_k fun K5 hK5=>?_;refine AW.condS (by simp -implicitDefEqProofs only[go_sem,seval,↓reduceIte];rfl) (fun h6=>?_) (fun h6=>?_)
  ·
   refine AW.skip ?_;simp -implicitDefEqProofs only[go_sem,seval,↓reduceIte];refine hK5 _ ?_
   have hk1:k<a.l.length:=by simpa using h6
   have hk2:k<b.l.length:=by omega
   refine AW.seq_k fun K7 hK7=>?_;refine AW.block ?_;refine AW.seq_k fun K hK=>AW.region (by kernel_rfl) ?_;simp -implicitDefEqProofs only[go_sem,seval,↓reduceIte];refine hK _ ?_;clear hK K;refine AW.seq_k fun K hK=>AW.regionT ⟨fun _ => .top,fun _ => .pure⟩ (by kernel_rfl) hG (by kernel_rfl) (by kernel_rfl) ?_;simp -implicitDefEqProofs only[go_sem,seval,↓reduceIte,List.getElem?_eq_getElem hk1,List.getElem?_eq_getElem hk2];refine hK _ ?_;clear hK K;refine AW.condS (by simp -implicitDefEqProofs only[go_sem,seval,↓reduceIte];rfl) (fun h8=>?_) (fun h8=>?_)
   ·
    refine AW.seq_k fun K hK=>AW.region (by kernel_rfl) ?_;simp -implicitDefEqProofs only[go_sem,seval,↓reduceIte];refine hK _ ?_;clear hK K;refine AW.ret ?_;simp -implicitDefEqProofs only[go_sem,seval,↓reduceIte];refine endK_some ?_;simp at h8;simp;intro e;simp [e] at h8
   ·
    refine AW.skip ?_;simp -implicitDefEqProofs only[go_sem,seval,↓reduceIte];refine hK7 _ ?_
    have h3':a.l[k]=b.l[k]:=by simpa using h8
    refine AW.region (by kernel_rfl) ?_;simp -implicitDefEqProofs only[go_sem,seval,↓reduceIte];refine hL4 _ ⟨hk1,(),?_,Weak.st (by simp -implicitDefEqProofs only[go_sem,seval,↓reduceIte];simp;exact w64 (by omega) (by omega)) (by simp -implicitDefEqProofs only[go_sem,seval,↓reduceIte])⟩;rw [List.take_succ_eq_append_getElem hk1,List.take_succ_eq_append_getElem hk2,hR,h3']
  ·
   refine AW.exit ?_;simp -implicitDefEqProofs only[go_sem,seval,↓reduceIte];refine hK3 _ ?_
   have hk1:k=a.l.length:=by simp at h6;omega
   refine AW.seq_k fun K hK=>AW.region (by kernel_rfl) ?_;simp -implicitDefEqProofs only[go_sem,seval,↓reduceIte];refine hK _ ?_;clear hK K;refine AW.ret ?_;simp -implicitDefEqProofs only[go_sem,seval,↓reduceIte];refine endK_some ?_;subst hk1;rw [List.take_length,hl,List.take_length] at hR;simp [hR]
theorem xWell_spec (G:Nat→V) (hE:GExp G) (n:XN) (hn:n.name.length<100000):Spec Tryz.prog G 229 [encXN n] hNone (fun v _=>v = .bool (wellP n)):=by
 have hG:=hE.ok;refine Spec.of_code' 0 43 [.tmp 2] Tryz.func229 rfl rfl rfl rfl fun X=>?_
 have hW:wellP n=if n.op<1∨n.op > 22∨n.num<0 then false else if n.op=2 then n.num==0 && isP n.name==2 else n.name==[] && (n.op==1 || n.num==0):=rfl
 obtain ⟨op,num,name,a,b,c⟩:=n;simp only at hn hW;simp only [encXN_K];refine AW.seq_k fun K hK=>AW.region (by kernel_rfl) ?_;simp -implicitDefEqProofs only[go_sem,seval,↓reduceIte];intro g1;refine hK _ ?_;clear hK K;refine AW.seqJ (fun (_:Unit)=>st [(1,.ptr 1 g1 0)] [(1,.cells .new g1 0 [.int .u8 op,.int .i64 num,.str name,.int .i64 a,.int .i64 b,.int .i64 c])]) (fun _=>¬ (op<1∨op > 22∨num<0)∧op≠2) (fun K1 hK1=>?_) ?_
 ·refine AW.block ?_
  by_cases h0:op<1∨op > 22∨num<0
  ·rw [if_pos h0] at hW
   have key:∀ K:AS→Prop,(K (st [(1,.ptr 1 g1 0),(3,.bool true)] [(1,.cells .new g1 0 [.int .u8 op,.int .i64 num,.str name,.int .i64 a,.int .i64 b,.int .i64 c])]))→True:=fun _ _=>trivial
   cases h1:decide (op<1)<;>cases h2:decide (op > 22)<;>cases h3:decide (num<0)
   ·simp only [decide_eq_false_iff_not] at h1 h2 h3
    rcases h0 with h | h | h
    ·exact absurd h h1
    ·exact absurd h h2
    ·exact absurd h h3
   all_goals
    (refine AW.seq_k fun K hK=>AW.region (by kernel_rfl) ?_;simp -implicitDefEqProofs only[go_sem,seval,↓reduceIte,h1,h2,h3];refine hK _ ?_;clear hK K)
    refine AW.condS (b:=true) (by simp -implicitDefEqProofs only[go_sem,seval,↓reduceIte]) (fun _=>?_) (fun h=>by cases h)
    (refine AW.seq_k fun K hK=>AW.region (by kernel_rfl) ?_;simp -implicitDefEqProofs only[go_sem,seval,↓reduceIte];refine hK _ ?_;clear hK K)
    (refine AW.ret ?_;simp -implicitDefEqProofs only[go_sem,seval,↓reduceIte];refine endK_some ?_)
    rw [hW]
  ·have h1:decide (op<1)=false:=by rw [decide_eq_false_iff_not];exact fun h=>h0 (.inl h)
   have h2:decide (op > 22)=false:=by rw [decide_eq_false_iff_not];exact fun h=>h0 (.inr (.inl h))
   have h3:decide (num<0)=false:=by rw [decide_eq_false_iff_not];exact fun h=>h0 (.inr (.inr h))
   rw [if_neg h0] at hW;refine AW.seq_k fun K hK=>AW.region (by kernel_rfl) ?_;simp -implicitDefEqProofs only[go_sem,seval,↓reduceIte,h1,h2,h3];refine hK _ ?_;clear hK K;refine AW.condS (by simp -implicitDefEqProofs only[go_sem,seval,↓reduceIte];rfl) (fun h4=>?_) (fun h4=>?_)
   ·cases h4
   clear h4;refine AW.seq_k fun K hK=>AW.region (by kernel_rfl) ?_;simp -implicitDefEqProofs only[go_sem,seval,↓reduceIte];refine hK _ ?_;clear hK K;refine AW.condS (by simp -implicitDefEqProofs only[go_sem,seval,↓reduceIte];rfl) (fun h5=>?_) (fun h5=>?_)
   ·have h5:op=2:=by simpa using h5
    rw [if_pos h5] at hW
    cases h6:(num==0) with
    | false =>
     refine AW.seq_k fun K hK=>AW.region (by kernel_rfl) ?_;simp -implicitDefEqProofs only[go_sem,seval,↓reduceIte,h6];refine hK _ ?_;clear hK K;refine AW.ret ?_;simp -implicitDefEqProofs only[go_sem,seval,↓reduceIte];refine endK_some ?_;rw [hW,h6];rfl
    | true =>
     refine AW.seq_k fun K hK=>AW.region (by kernel_rfl) ?_;simp -implicitDefEqProofs only[go_sem,seval,↓reduceIte,h6];refine CallA.pure hG (by kernel_rfl) ?_;simp -implicitDefEqProofs only[go_sem,seval,↓reduceIte];refine (lIs_spec G hE name hn).mono ?_;rintro _ _ rfl;simp -implicitDefEqProofs only[go_sem,seval,↓reduceIte];refine hK _ ?_;clear hK K;refine AW.ret ?_;simp -implicitDefEqProofs only[go_sem,seval,↓reduceIte];refine endK_some ?_;rw [hW,h6,Bool.true_and];generalize isP name=z
     cases hz:(z==2) with
     | true =>
      have:((z:Int)==2)=true:=by rw [beq_iff_eq] at hz ⊢;omega
      rw [this]
     | false =>
      have:((z:Int)==2)=false:=by rw [beq_eq_false_iff_ne] at hz ⊢;omega
      rw [this]
   ·have h5:¬ op=2:=by simpa using h5
    refine AW.skip ?_;simp -implicitDefEqProofs only[go_sem,seval,↓reduceIte];exact hK1 _ () ⟨h0,h5⟩ (Weak.st (by simp -implicitDefEqProofs only[go_sem,seval,↓reduceIte]) (by simp -implicitDefEqProofs only[go_sem,seval,↓reduceIte]))
 rintro _ ⟨h0,h5⟩;rw [if_neg h0,if_neg h5] at hW
 cases h1:(name==[])<;>cases h2:(op==1)<;>cases h3:(num==0)<;>((refine AW.seq_k fun K hK=>AW.region (by kernel_rfl) ?_;simp -implicitDefEqProofs only[go_sem,seval,↓reduceIte,h1,h2,h3];refine hK _ ?_;clear hK K);(refine AW.ret ?_;simp -implicitDefEqProofs only[go_sem,seval,↓reduceIte];refine endK_some ?_);rw [hW,h1,h2,h3];rfl)
end Go.Hs
end

section
namespace Go.Hs
open Go.Proofs
set_option maxRecDepth 10000
def encPc (p:Int × Int):V := .agg [.int .i64 p.1,.int .i64 p.2]
theorem encPc_cells (p:Int × Int):(encPc p).cells.length=2:=rfl
theorem depGo_drop {l:List XN} {k:Nat} {n:XN} (h:l[k]? = some n) (i:Int) (opn:List (Int × Int)):depGo (l.drop k) i opn=match depStep i n opn with | some o=>depGo (l.drop (k+1)) (i+1) o | none=>none:=by
 obtain ⟨h1,h2⟩:=List.getElem?_eq_some_iff.1 h;rw [List.drop_eq_getElem_cons h1,h2];rfl
theorem parts_tab {op:Int} (h1:1≤op) (h2:op≤22):tabC[op.toNat * 3+2]? = some (.int .i64 (partsOf op:Nat)):=by
 obtain ⟨n,rfl⟩:∃ n:Nat,op=n:=⟨op.toNat,by omega⟩;rw [Int.toNat_natCast,tabC_get n (by omega) 2 (by decide)]
 have:∀ n:Nat,n<23→1≤n→(tabL.getD n ⟨[],0,0⟩).parts=(partsOf n:Nat):=by decide +kernel
 rw [← this n (by omega) (by omega)];rfl
theorem flat_pc:∀ (l:List (Int × Int)) (i:Nat) (x:Int × Int),l[i]? = some x→((flat (l.map encPc)).drop (i * 2)).take 2=[.int .i64 x.1,.int .i64 x.2]
 | [],i,x,h=>by simp at h
 | y::r,0,x,h=>by
  have:y=x:=by simpa using h
  subst this;rfl
 | y::r,i+1,x,h=>by
  have ih:=flat_pc r i x (by simpa using h);rw [← ih,List.map_cons];have:flat (encPc y::r.map encPc) = .int .i64 y.1 :: .int .i64 y.2::flat (r.map encPc):=rfl;rw [this,show (i+1) * 2=i * 2+1+1 by omega,List.drop_succ_cons,List.drop_succ_cons]
def plC (l:List (Int × Int)):List V:=(places3 l).map (V.int .i64)
theorem plC_set:∀ (l:List (Int × Int)) (j:Nat) (x:Int × Int),l[j]? = some x→j<3→Hs.setAt (plC (l.take j)) j [.int .i64 x.1]=plC (l.take (j+1)):=by
 intro l j x h hj
 match l,j,h,hj with
 | a::r,0,h,_ =>
  have:a=x:=by simpa using h
  subst this;rfl
 | a::b::r,1,h,_ =>
  have:b=x:=by simpa using h
  subst this;rfl
 | a::b::c::r,2,h,_ =>
  have:c=x:=by simpa using h
  subst this;rfl
theorem deepest_succ (l:List (Int × Int)) (j:Nat) (x:Int × Int) (h:l[j]? = some x):deepest (l.take (j+1))=max (deepest (l.take j)) x.2:=by
 unfold deepest;rw [List.take_add_one,h,List.foldl_append];rfl
theorem plC_len (l:List (Int × Int)):(plC l).length=3:=rfl
theorem partsOf_le (op:Int):partsOf op≤3:=by
 unfold partsOf
 split
 ·omega
 ·split
  ·omega
  ·split<;>omega
theorem deepest_le {l:List (Int × Int)} {k:Int} (hk:0≤k) (h:∀ y∈l,(0:Int)≤y.2∧y.2≤k):0≤deepest l∧deepest l≤k:=by
 have:∀ (l:List (Int × Int)) (d:Int),0≤d→d≤k→(∀ y∈l,(0:Int)≤y.2∧y.2≤k)→0≤l.foldl (fun d p=>max d p.2) d∧l.foldl (fun d p=>max d p.2) d≤k:=by
  intro l
  induction l with
  | nil=>intro d h1 h2 _;exact ⟨h1,h2⟩
  | cons y r ih =>
   intro d h1 h2 h3;have:=h3 y (by simp);exact ih (max d y.2) (by omega) (by omega) fun z hz=>h3 z (by simp [hz])
 exact this l 0 (Int.le_refl _) hk h
theorem flat_take (l:List (Int × Int)) (n:Nat):(flat (l.map encPc)).take (n * 2)=flat ((l.take n).map encPc):=by
 induction l generalizing n with
 | nil=>simp [flat]
 | cons y r ih =>
  cases n with
  | zero=>simp [flat]
  | succ n =>
   have e:flat ((y::r).map encPc) = .int .i64 y.1 :: .int .i64 y.2::flat (r.map encPc):=rfl;rw [e,List.take_succ_cons,List.map_cons,show (n+1) * 2=n * 2+1+1 by omega,List.take_succ_cons,List.take_succ_cons,ih];rfl
theorem xDepth_spec (G:Nat→V) (hE:GExp G) (c:Col) (s:Sl XN) (hs:s.l.length<1000000) (hnm:∀ n∈s.l,n.name.length<100000) :
  Spec Tryz.prog G 158 [.agg [encSl c 6 encXN s]] hNone (fun v _=>v = .int .i64 (depthP s.l)):=by
 have hG:=hE.ok;refine Spec.of_code' 0 81 [.tmp 2] Tryz.func158 rfl rfl rfl rfl fun X=>?_
 have hD:depthP s.l=match depGo s.l 0 [] with | some [x]=>x.2 | _=>0:=rfl
 have hnone:depGo s.l 0 []=none→depthP s.l=0:=fun h=>by rw [hD,h]
 refine AW.seq_k fun K hK=>AW.region (by kernel_rfl) ?_;simp -implicitDefEqProofs only[go_sem,seval,↓reduceIte];intro g1;refine hK _ ?_;clear hK K;refine AW.seq_k fun K hK=>AW.region (by kernel_rfl) ?_;simp -implicitDefEqProofs only[go_sem,seval,↓reduceIte];refine CallA.pure hG (by kernel_rfl) ?_;simp -implicitDefEqProofs only[go_sem,seval,↓reduceIte,List.map_nil];refine (xTable_spec G hG).mono ?_;rintro _ _ rfl;simp -implicitDefEqProofs only[go_sem,seval,↓reduceIte,tabC_rc,tabC_len,Nat.le_refl];intro g3;rw [setAt_tab _ ?hl]
 case hl=>rfl
 refine hK _ ?_;clear hK K;refine AW.seq_k fun K hK=>AW.region (by kernel_rfl) ?_;simp -implicitDefEqProofs only[go_sem,seval,↓reduceIte];refine hK _ ?_;clear hK K;refine AW.seq_k fun K1 hK1=>?_;refine AW.seq_k fun K hK=>AW.region (by kernel_rfl) ?_;simp -implicitDefEqProofs only[go_sem,seval,↓reduceIte];refine hK _ ?_;clear hK K;refine AW.block ?_
 refine AW.for s.l.length (fun k (x:Nat × List (Int × Int))=>st [(3,.ptr 3 g3 0),(4,grown 72 x.1 2 x.2),(14,encSl c 6 encXN s),(15,.int .i64 s.l.length),(16,.int .i64 k)] [(3,.cells .new g3 0 tabC),(72,grownO x.1 encPc x.2)])
  (fun k x=>depGo s.l 0 []=depGo (s.l.drop k) k x.2∧x.2.length≤k∧∀ y∈x.2,(0:Int)≤y.2∧y.2≤k) 0 (0,[]) (Nat.zero_le _) ⟨by simp,Nat.le_refl _,by simp⟩
  (Weak.st (by simp -implicitDefEqProofs only[go_sem,seval,↓reduceIte];try rfl) (by simp -implicitDefEqProofs only[go_sem,seval,↓reduceIte];try rfl)) ?_
 rintro k ⟨gx,opn⟩ hk ⟨hR,hol,hdp⟩ L2 hL2
 replace hR:depGo s.l 0 []=depGo (s.l.drop k) k opn:=hR
 replace hol:opn.length≤k:=hol
 replace hdp:∀ y∈opn,(0:Int)≤y.2∧y.2≤k:=hdp
 refine AW.seq_k fun K hK=>AW.region (by kernel_rfl) ?_;simp -implicitDefEqProofs only[go_sem,seval,↓reduceIte];refine hK _ ?_;clear hK K;refine AW.seq_k fun K3 hK3=>?_;refine AW.condS (by simp -implicitDefEqProofs only[go_sem,seval,↓reduceIte];rfl) (fun h4=>?_) (fun h4=>?_)
 ·have hk1:k<s.l.length:=by simpa using h4
  have hg:=List.getElem?_eq_getElem hk1;have hnn:=hnm _ (List.getElem_mem hk1);generalize s.l[k]=n at hg hnn;rw [depGo_drop hg] at hR;refine AW.skip ?_;simp -implicitDefEqProofs only[go_sem,seval,↓reduceIte];refine hK3 _ ?_;refine AW.seq_k fun K5 hK5=>?_;refine AW.block ?_;refine AW.seq_k fun K hK=>AW.region (by kernel_rfl) ?_;simp -implicitDefEqProofs only[go_sem,seval,↓reduceIte,hg,encXN_K];intro g6;refine hK _ ?_;clear hK K;refine AW.seq_k fun K6 hK6=>?_;refine AW.seq_k fun K hK=>AW.region (by kernel_rfl) ?_;simp -implicitDefEqProofs only[go_sem,seval,↓reduceIte];rw [← encXN_K];refine CallA.pure hG (by kernel_rfl) ?_;simp -implicitDefEqProofs only[go_sem,seval,↓reduceIte,recol_xn];refine (xWell_spec G hE n hnn).mono ?_;rintro _ _ rfl;simp -implicitDefEqProofs only[go_sem,seval,↓reduceIte];refine hK _ ?_;clear hK K
  have hst:depStep k n opn=if wellP n=false then none else if opn.length<partsOf n.op then none
   else if places3 (opn.drop (opn.length-partsOf n.op))≠[n.a,n.b,n.c] then none
   else some (opn.take (opn.length-partsOf n.op)++[((k:Int),deepest (opn.drop (opn.length-partsOf n.op))+1)]):=rfl
  cases hw:wellP n with
  | false =>
   rw [if_pos hw] at hst;rw [hst] at hR;refine AW.condS (by simp -implicitDefEqProofs only[go_sem,seval,↓reduceIte];rfl) (fun h7=>?_) (fun h7=>?_)
   ·refine AW.seq_k fun K hK=>AW.region (by kernel_rfl) ?_
    simp -implicitDefEqProofs only[go_sem,seval,↓reduceIte];refine hK _ ?_;clear hK K;refine AW.ret ?_;simp -implicitDefEqProofs only[go_sem,seval,↓reduceIte];refine endK_some ?_;rw [hnone hR]
   ·cases h7
  | true =>
  rw [if_neg (by rw [hw];simp)] at hst;refine AW.condS (by simp -implicitDefEqProofs only[go_sem,seval,↓reduceIte];rfl) (fun h7=>?_) (fun h7=>?_)
  ·cases h7
  refine AW.skip ?_;simp -implicitDefEqProofs only[go_sem,seval,↓reduceIte];refine hK6 _ ?_;have hrg:=well_range hw;have hpt:=parts_tab hrg.1 hrg.2;have hp3:partsOf n.op≤3:=partsOf_le _;generalize hpd:partsOf n.op=p at hst hpt hp3
  have hop0:(0:Int)≤n.op:=by omega
  have hop23:n.op<23:=by omega
  have hsub:IntKind.i64.wrap ((opn.length:Int)-(p:Int))=(opn.length:Int)-p:=w64 (by omega) (by omega);refine AW.seq_k fun K hK=>AW.region (by kernel_rfl) ?_;simp -implicitDefEqProofs only[go_sem,seval,↓reduceIte,hop0,hop23,hpt,hsub,Nat.zero_add];refine hK _ ?_;clear hK K;refine AW.seq_k fun K8 hK8=>?_
  by_cases hlt:opn.length<p
  ·have e1:decide ((opn.length:Int)-p<0)=true:=by rw [decide_eq_true_iff];omega
   rw [if_pos hlt] at hst;rw [hst] at hR;refine AW.seq_k fun K hK=>AW.region (by kernel_rfl) ?_;simp -implicitDefEqProofs only[go_sem,seval,↓reduceIte,e1];refine hK _ ?_;clear hK K;refine AW.condS (by simp -implicitDefEqProofs only[go_sem,seval,↓reduceIte];rfl) (fun h9=>?_) (fun h9=>?_)
   ·refine AW.seq_k fun K hK=>AW.region (by kernel_rfl) ?_
    simp -implicitDefEqProofs only[go_sem,seval,↓reduceIte];refine hK _ ?_;clear hK K;refine AW.ret ?_;simp -implicitDefEqProofs only[go_sem,seval,↓reduceIte];refine endK_some ?_;rw [hnone hR]
   ·cases h9
  have e1:decide ((opn.length:Int)-p<0)=false:=by rw [decide_eq_false_iff_not];omega
  rw [if_neg hlt] at hst;refine AW.seq_k fun K hK=>AW.region (by kernel_rfl) ?_;simp -implicitDefEqProofs only[go_sem,seval,↓reduceIte,e1];refine hK _ ?_;clear hK K;refine AW.condS (by simp -implicitDefEqProofs only[go_sem,seval,↓reduceIte];rfl) (fun h9=>?_) (fun h9=>?_)
  ·cases h9
  refine AW.skip ?_;simp -implicitDefEqProofs only[go_sem,seval,↓reduceIte];refine hK8 _ ?_;obtain ⟨kk,hkk⟩:∃ kk:Nat,kk=opn.length-p:=⟨_,rfl⟩;rw [← hkk] at hst
  have hkd:(opn.length:Int)-p=(kk:Int):=by omega
  rw [hkd];refine AW.seq_k fun K hK=>AW.region (by kernel_rfl) ?_;simp -implicitDefEqProofs only[go_sem,seval,↓reduceIte];intro g34;refine hK _ ?_;clear hK K
  have hkl:kk+p=opn.length:=by omega
  refine AW.seqJ (fun (_:Unit)=>st [(3,.ptr 3 g3 0),(4,grown 72 gx 2 opn),(5,.int .i64 k),(6,.ptr 6 g6 0),(7,.int .i64 kk),(8,.msl 34 g34 0 3 1),(9,.int .i64 (deepest (opn.drop kk))),(14,encSl c 6 encXN s),(15,.int .i64 s.l.length),(16,.int .i64 k)]
    [(3,.cells .new g3 0 tabC),(72,grownO gx encPc opn),(6,.cells .new g6 0 [.int .u8 n.op,.int .i64 n.num,.str n.name,.int .i64 n.a,.int .i64 n.b,.int .i64 n.c]),(34,.cells .new g34 0 (plC (opn.drop kk)))])
   (fun _=>True) (fun K10 hK10=>?_) ?_
  ·by_cases hp0:p=0
   ·have hdn:opn.drop kk=[]:=List.drop_eq_nil_of_le (by omega)
    rw [hdn] at hK10;subst hp0
    have hkle:kk≤opn.length:=by omega
    have hnlt:¬ kk<opn.length:=by omega
    by_cases hne:opn=[]
    ·subst hne
     have hk0:kk=0:=by simpa using hkl
     subst hk0;refine AW.seq_k fun K hK=>AW.region (by kernel_rfl) ?_;simp -implicitDefEqProofs only[go_sem,seval,↓reduceIte,grown_nil,grownO_nil,and_self];refine hK _ ?_;clear hK K;refine AW.block ?_
     refine AW.for 0 (fun j (_:Unit)=>st [(3,.ptr 3 g3 0),(5,.int .i64 k),(4,.nils),(6,.ptr 6 g6 0),(7,.int .i64 (0:Nat)),(8,.msl 34 g34 0 3 1),(9,.int .i64 0),(14,encSl c 6 encXN s),(15,.int .i64 s.l.length),(16,.int .i64 k),(38,.int .i64 0),(39,.int .i64 j)]
       [(3,.cells .new g3 0 tabC),(6,.cells .new g6 0 [.int .u8 n.op,.int .i64 n.num,.str n.name,.int .i64 n.a,.int .i64 n.b,.int .i64 n.c]),(34,.cells .new g34 0 (plC []))])
      (fun j _=>True) 0 () (Nat.zero_le _) trivial (Weak.st (by simp -implicitDefEqProofs only[go_sem,seval,↓reduceIte];try rfl) (by simp -implicitDefEqProofs only[go_sem,seval,↓reduceIte];try rfl)) ?_
     intro j _ hj _ L11 hL11
     obtain rfl:j=0:=by omega
     refine AW.seq_k fun K hK=>AW.region (by kernel_rfl) ?_;simp -implicitDefEqProofs only[go_sem,seval,↓reduceIte];refine hK _ ?_;clear hK K;refine AW.seq_k fun K12 hK12=>?_;refine AW.condS (by simp -implicitDefEqProofs only[go_sem,seval,↓reduceIte];rfl) (fun h13=>?_) (fun h13=>?_)
     ·cases h13
     ·refine AW.exit ?_
      simp -implicitDefEqProofs only[go_sem,seval,↓reduceIte];exact hK10 _ () trivial (Weak.st (by simp -implicitDefEqProofs only[go_sem,seval,↓reduceIte,grown_nil];try rfl) (by simp -implicitDefEqProofs only[go_sem,seval,↓reduceIte,grownO_nil];try rfl))
    ·have hk0:¬ kk=0:=by
      intro h
      have:opn.length=0:=by omega
      exact hne (List.length_eq_zero_iff.1 this)
     refine AW.seq_k fun K hK=>AW.region (by kernel_rfl) ?_;simp -implicitDefEqProofs only[go_sem,seval,↓reduceIte,grown_ne 72 gx 2 hne,hkle,Nat.le_refl,and_self,hk0,hnlt];refine hK _ ?_;clear hK K;refine AW.block ?_
     refine AW.for 0 (fun j (_:Unit)=>st [(3,.ptr 3 g3 0),(4,grown 72 gx 2 opn),(5,.int .i64 k),(6,.ptr 6 g6 0),(7,.int .i64 kk),(8,.msl 34 g34 0 3 1),(9,.int .i64 0),(14,encSl c 6 encXN s),(15,.int .i64 s.l.length),(16,.int .i64 k),(38,.int .i64 0),(39,.int .i64 j)]
       [(3,.cells .new g3 0 tabC),(72,grownO gx encPc opn),(6,.cells .new g6 0 [.int .u8 n.op,.int .i64 n.num,.str n.name,.int .i64 n.a,.int .i64 n.b,.int .i64 n.c]),(34,.cells .new g34 0 (plC []))])
      (fun j _=>True) 0 () (Nat.zero_le _) trivial (Weak.st (by simp -implicitDefEqProofs only[go_sem,seval,↓reduceIte];rw [grown_ne 72 gx 2 hne];try exact ⟨rfl,rfl⟩) (by simp -implicitDefEqProofs only[go_sem,seval,↓reduceIte];try rfl)) ?_
     intro j _ hj _ L11 hL11
     obtain rfl:j=0:=by omega
     refine AW.seq_k fun K hK=>AW.region (by kernel_rfl) ?_;simp -implicitDefEqProofs only[go_sem,seval,↓reduceIte];refine hK _ ?_;clear hK K;refine AW.seq_k fun K12 hK12=>?_;refine AW.condS (by simp -implicitDefEqProofs only[go_sem,seval,↓reduceIte];rfl) (fun h13=>?_) (fun h13=>?_)
     ·cases h13
     ·refine AW.exit ?_
      simp -implicitDefEqProofs only[go_sem,seval,↓reduceIte];exact hK10 _ () trivial (Weak.st (by simp -implicitDefEqProofs only[go_sem,seval,↓reduceIte];try rfl) (by simp -implicitDefEqProofs only[go_sem,seval,↓reduceIte];try rfl))
   ·have hne:opn≠[]:=by intro e;rw [e] at hkl;simp at hkl;omega
    have hsl:(if kk=0 then V.msl 72 gx 0 opn.length 2 else if kk<opn.length then V.msl 72 gx (kk * 2) (opn.length-kk) 2 else V.slice .any false 2 []) = .msl 72 gx (kk * 2) p 2:=by
     by_cases h0:kk=0
     ·rw [if_pos h0];congr 1<;>omega
     ·rw [if_neg h0,if_pos (by omega)];congr 1;omega
    have hkle:kk≤opn.length:=by omega
    refine AW.seq_k fun K hK=>AW.region (by kernel_rfl) ?_;simp -implicitDefEqProofs only[go_sem,seval,↓reduceIte,grown_ne 72 gx 2 hne,hkle,Nat.le_refl,and_self,hsl,Nat.zero_add];refine hK _ ?_;clear hK K;refine AW.block ?_
    refine AW.for p (fun j (_:Unit)=>st [(3,.ptr 3 g3 0),(4,grown 72 gx 2 opn),(5,.int .i64 k),(6,.ptr 6 g6 0),(7,.int .i64 kk),(8,.msl 34 g34 0 3 1),(9,.int .i64 (deepest ((opn.drop kk).take j))),(14,encSl c 6 encXN s),(15,.int .i64 s.l.length),(16,.int .i64 k),(37,.msl 72 gx (kk * 2) p 2),(38,.int .i64 p),(39,.int .i64 j)]
      [(3,.cells .new g3 0 tabC),(72,grownO gx encPc opn),(6,.cells .new g6 0 [.int .u8 n.op,.int .i64 n.num,.str n.name,.int .i64 n.a,.int .i64 n.b,.int .i64 n.c]),(34,.cells .new g34 0 (plC ((opn.drop kk).take j)))])
     (fun j _=>True) 0 () (Nat.zero_le _) trivial
     (Weak.st (by simp -implicitDefEqProofs only[go_sem,seval,↓reduceIte];rw [grown_ne 72 gx 2 hne];exact ⟨rfl,rfl⟩) (by simp -implicitDefEqProofs only[go_sem,seval,↓reduceIte];try rfl)) ?_
    intro j _ hj _ L11 hL11;refine AW.seq_k fun K hK=>AW.region (by kernel_rfl) ?_;simp -implicitDefEqProofs only[go_sem,seval,↓reduceIte];refine hK _ ?_;clear hK K;refine AW.seq_k fun K12 hK12=>?_;refine AW.condS (by simp -implicitDefEqProofs only[go_sem,seval,↓reduceIte];rfl) (fun h13=>?_) (fun h13=>?_)
    ·have hj1:j<p:=by have h13:decide ((j:Int)<p)=true:=h13;simp at h13;omega
     refine AW.skip ?_;simp -implicitDefEqProofs only[go_sem,seval,↓reduceIte];refine hK12 _ ?_;refine AW.seq_k fun K14 hK14=>?_;refine AW.block ?_;obtain ⟨x,hx⟩:∃ x,opn[kk+j]? = some x:=⟨_,List.getElem?_eq_getElem (by omega)⟩
     have hxd:(opn.drop kk)[j]? = some x:=by rw [List.getElem?_drop];exact hx
     have hfp:=flat_pc opn (kk+j) x hx;rw [show (kk+j) * 2=kk * 2+j * 2 by omega] at hfp
     have hfl:kk * 2+j * 2+2≤(flat (opn.map encPc)).length:=by rw [flat_len (m:=2) encPc_cells];omega
     have hps:=plC_set (opn.drop kk) j x hxd (by omega);have hds:=deepest_succ (opn.drop kk) j x hxd;have hpl:=plC_len ((opn.drop kk).take j);generalize plC ((opn.drop kk).take j)=pc at hps hpl ⊢;generalize deepest ((opn.drop kk).take j)=dd at hds ⊢
     have hj3:(j:Int)<3:=by omega
     refine AW.seq_k fun K hK=>AW.region (by kernel_rfl) ?_;simp -implicitDefEqProofs only[go_sem,seval,↓reduceIte,grownO_ne gx encPc hne,hfp,hfl,Int.natCast_nonneg,hj1,Int.ofNat_lt];intro g11;refine hK _ ?_;clear hK K
     refine AW.weak (Weak.stF (fun o=>o==11) (l:=[(3,.ptr 3 g3 0),(4,grown 72 gx 2 opn),(5,.int .i64 k),(6,.ptr 6 g6 0),(7,.int .i64 kk),(8,.msl 34 g34 0 3 1),(9,.int .i64 dd),(10,.int .i64 j),(11,.view .new (.agg [.int .i64 x.1,.int .i64 x.2])),(14,encSl c 6 encXN s),(15,.int .i64 s.l.length),(16,.int .i64 k),(37,.msl 72 gx (kk * 2) p 2),(38,.int .i64 p),(39,.int .i64 j)])
      (m:=[(3,.cells .new g3 0 tabC),(72,grownO gx encPc opn),(6,.cells .new g6 0 [.int .u8 n.op,.int .i64 n.num,.str n.name,.int .i64 n.a,.int .i64 n.b,.int .i64 n.c]),(34,.cells .new g34 0 pc)]) ?_ ?_) ?_
     ·simp -implicitDefEqProofs only[go_sem,seval,↓reduceIte]
      refine ⟨Fz.same _,Fz.same _,Fz.same _,Fz.same _,Fz.same _,Fz.same _,Fz.same _,Fz.same _,?_,Fz.same _,Fz.same _,Fz.same _,Fz.same _,Fz.same _,Fz.same _⟩;exact Fz.ptr (v := .agg [.int .i64 x.1,.int .i64 x.2]) (c := .new) (fz:=0) rfl (by simp -implicitDefEqProofs only[go_sem,seval,↓reduceIte];try rfl)
     ·simp only [allFzO_cons,allFzO_nil,and_true]
      exact ⟨FzO.keep rfl (by simp -implicitDefEqProofs only[go_sem,seval,↓reduceIte]),FzO.keep rfl (by first | rfl | (rw [grownO_ne gx encPc hne];rfl) | (simp -implicitDefEqProofs only[go_sem,seval,↓reduceIte];try rfl)),FzO.keep rfl (by simp -implicitDefEqProofs only[go_sem,seval,↓reduceIte]),FzO.keep rfl (by simp -implicitDefEqProofs only[go_sem,seval,↓reduceIte])⟩
     refine AW.regionT ⟨fun _ => .top,fun i=>if i=3 then .lend else if i=6 then .lend else .pure⟩ (by kernel_rfl) hG (by kernel_rfl) (by kernel_rfl) ?_
     have hjl:j+1≤pc.length:=by omega
     have hset:pc.set j (.int .i64 x.1)=plC ((opn.drop kk).take (j+1)):=hps
     have hmx:(if x.2 > dd then x.2 else dd)=max dd x.2:=by
      rw [Int.max_def];split<;>split<;>omega
     simp -implicitDefEqProofs only[go_sem,seval,↓reduceIte,hj3,Int.natCast_nonneg,Nat.mul_one,Nat.zero_le,hjl,hset,hmx,← hds];refine hK14 _ ?_;refine AW.region (by kernel_rfl) ?_;simp -implicitDefEqProofs only[go_sem,seval,↓reduceIte];refine hL11 _ ⟨hj1,(),trivial,Weak.st (by simp -implicitDefEqProofs only[go_sem,seval,↓reduceIte];exact congrArg _ (w64 (by omega) (by omega))) (by simp -implicitDefEqProofs only[go_sem,seval,↓reduceIte];try rfl)⟩
    ·have hj1:j=p:=by have h13:decide ((j:Int)<p)=false:=h13;simp at h13;omega
     have htk:(opn.drop kk).take j=opn.drop kk:=List.take_of_length_le (by rw [List.length_drop];omega);rw [htk];refine AW.exit ?_;simp -implicitDefEqProofs only[go_sem,seval,↓reduceIte];exact hK10 _ () trivial (Weak.st (by simp -implicitDefEqProofs only[go_sem,seval,↓reduceIte]) (by simp -implicitDefEqProofs only[go_sem,seval,↓reduceIte];try rfl))
  intro _ _;refine AW.seq_k fun K11 hK11=>?_;have hpl:places3 (opn.drop kk)=[(places3 (opn.drop kk)).getD 0 0,(places3 (opn.drop kk)).getD 1 0,(places3 (opn.drop kk)).getD 2 0]:=rfl;refine AW.seq_k fun K hK=>AW.region (by kernel_rfl) ?_;simp -implicitDefEqProofs only[go_sem,seval,↓reduceIte];intro g61;refine CallA.bor hG [encSl .old 1 (V.int .i64) (.mk false (places3 (opn.drop kk))),encSl .old 1 (V.int .i64) (.mk false [n.a,n.b,n.c])] (by kernel_rfl) ⟨?_,?_,trivial⟩ ?_
  ·exact Rd.msl (off:=0) (n:=3) (l:=places3 (opn.drop kk)) (f:=V.int .i64) (f':=V.int .i64) (g:=g34) (fz:=0) (c := .new) (by simp -implicitDefEqProofs only[go_sem,seval,↓reduceIte];exact congrArg (AObj.cells Col.new g34 0) (flat_intsV _ _).symm) (fun _=>rfl) (fun x y hy=>by simp [V.cells] at hy;subst hy;exact .int _ _) (fun _=>rfl) (by simp [places3])
  ·exact Rd.msl (off:=0) (n:=3) (l:=[n.a,n.b,n.c]) (f:=V.int .i64) (f':=V.int .i64) (g:=g61) (fz:=0) (c := .new) (by simp -implicitDefEqProofs only[go_sem,seval,↓reduceIte];rfl) (fun _=>rfl) (fun x y hy=>by simp [V.cells] at hy;subst hy;exact .int _ _) (fun _=>rfl) (by simp)
  refine (sEqual_spec G hG _ _ (.mk false (places3 (opn.drop kk))) (.mk false [n.a,n.b,n.c]) (by simp [places3,Sl.l])).mono ?_;rintro _ _ rfl;refine ⟨.bool _,?_⟩;simp -implicitDefEqProofs only[go_sem,seval,↓reduceIte];refine hK _ ?_;clear hK K
  cases heq:(places3 (opn.drop kk)==[n.a,n.b,n.c]) with
  | false =>
   have heq2:places3 (opn.drop kk)≠[n.a,n.b,n.c]:=by simpa using heq
   rw [if_pos heq2] at hst;rw [hst] at hR;refine AW.condS (by simp -implicitDefEqProofs only[go_sem,seval,↓reduceIte];rfl) (fun h12=>?_) (fun h12=>?_)
   ·refine AW.seq_k fun K hK=>AW.region (by kernel_rfl) ?_
    simp -implicitDefEqProofs only[go_sem,seval,↓reduceIte];refine hK _ ?_;clear hK K;refine AW.ret ?_;simp -implicitDefEqProofs only[go_sem,seval,↓reduceIte];refine endK_some ?_;rw [hnone hR]
   ·cases h12
  | true =>
  have heq2:¬ places3 (opn.drop kk)≠[n.a,n.b,n.c]:=by simpa using heq
  rw [if_neg heq2] at hst;rw [hst] at hR;refine AW.condS (by simp -implicitDefEqProofs only[go_sem,seval,↓reduceIte];rfl) (fun h12=>?_) (fun h12=>?_)
  ·cases h12
  refine AW.skip ?_;simp -implicitDefEqProofs only[go_sem,seval,↓reduceIte];refine hK11 _ ?_;have hdb:=deepest_le (l:=opn.drop kk) (k:=k) (by omega) fun y hy=>hdp y (List.mem_of_mem_drop hy);generalize deepest (opn.drop kk)=dd at hR hdb ⊢;have hwd:IntKind.i64.wrap (dd+1)=dd+1:=w64 (by omega) (by omega)
  have hne2:opn.take kk++[((k:Int),dd+1)]≠[]:=by simp
  have hlen2:(opn.take kk++[((k:Int),dd+1)]).length=kk+1:=by rw [List.length_append,List.length_take];simp;omega
  have hdp2:∀ y∈opn.take kk++[((k:Int),dd+1)],(0:Int)≤y.2∧y.2≤(k+1:Nat):=by
   intro y hy
   rcases List.mem_append.1 hy with h | h
   ·have:=hdp y (List.mem_of_mem_take h);omega
   ·rw [List.mem_singleton.1 h];show 0≤dd+1∧dd+1≤_;omega
  by_cases hne:opn=[]
  ·subst hne
   have hk0:kk=0:=by simpa using hkk
   subst hk0;refine AW.region (by kernel_rfl) ?_;simp -implicitDefEqProofs only[go_sem,seval,↓reduceIte,grown_nil,grownO_nil,and_self,hwd];intro g71;refine app_grown (f:=encPc) (l:=([]:List (Int × Int))) (l2:=[((k:Int),dd+1)]) (g:=gx) encPc_cells rfl rfl rfl rfl (roomOk_of (by omega) (by simp)) fun g2=>?_;simp -implicitDefEqProofs only[go_sem,seval,↓reduceIte];refine hK5 _ ?_;refine AW.region (by kernel_rfl) ?_;simp -implicitDefEqProofs only[go_sem,seval,↓reduceIte];refine hL2 _ ⟨hk1,(g2,[((k:Int),dd+1)]),⟨hR,?_,hdp2⟩,Weak.st (by simp -implicitDefEqProofs only[go_sem,seval,↓reduceIte];exact congrArg _ (w64 (by omega) (by omega))) (by simp -implicitDefEqProofs only[go_sem,seval,↓reduceIte];try rfl)⟩
   show 1≤k+1
   omega
  ·have hkle:kk≤opn.length:=by omega
   refine AW.region (by kernel_rfl) ?_;simp -implicitDefEqProofs only[go_sem,seval,↓reduceIte,grown_ne 72 gx 2 hne,Nat.zero_le,hkle,and_self,hwd,grownO_ne gx encPc hne];intro g71;refine ⟨roomOk_of (by omega) (by omega),by rw [flat_len (m:=2) encPc_cells];omega,fun g2=>?_⟩;refine hK5 _ ?_;refine AW.region (by kernel_rfl) ?_;simp -implicitDefEqProofs only[go_sem,seval,↓reduceIte];refine hL2 _ ⟨hk1,(g2,opn.take kk++[((k:Int),dd+1)]),⟨hR,?_,hdp2⟩,Weak.st (by simp -implicitDefEqProofs only[go_sem,seval,↓reduceIte];exact ⟨by rw [grown_ne _ _ _ hne2,hlen2],congrArg _ (w64 (by omega) (by omega))⟩) (by simp -implicitDefEqProofs only[go_sem,seval,↓reduceIte];rw [grownO_ne _ _ hne2,List.map_append,flat_app,← flat_take];rfl)⟩
   show (opn.take kk++[_]).length≤k+1
   rw [hlen2];omega
 ·have hk1:k=s.l.length:=by simp at h4;omega
  refine AW.exit ?_;simp -implicitDefEqProofs only[go_sem,seval,↓reduceIte];refine hK1 _ ?_;rw [hk1,List.drop_length,depGo] at hR;rw [hR] at hD;refine AW.seq_k fun K6 hK6=>?_
  match opn,hD with
  | [],hD =>
   refine AW.seq_k fun K hK=>AW.region (by kernel_rfl) ?_;simp -implicitDefEqProofs only[go_sem,seval,↓reduceIte,grown_nil];refine hK _ ?_;clear hK K;refine AW.condS (by simp -implicitDefEqProofs only[go_sem,seval,↓reduceIte];rfl) (fun h7=>?_) (fun h7=>?_)
   ·refine AW.seq_k fun K hK=>AW.region (by kernel_rfl) ?_
    simp -implicitDefEqProofs only[go_sem,seval,↓reduceIte];refine hK _ ?_;clear hK K;refine AW.ret ?_;simp -implicitDefEqProofs only[go_sem,seval,↓reduceIte];refine endK_some ?_;rw [hD]
   ·cases h7
  | [x],hD =>
   have hne:[x]≠([]:List (Int × Int)):=by simp
   refine AW.seq_k fun K hK=>AW.region (by kernel_rfl) ?_;simp -implicitDefEqProofs only[go_sem,seval,↓reduceIte];refine hK _ ?_;clear hK K;refine AW.condS (by simp -implicitDefEqProofs only[go_sem,seval,↓reduceIte];rfl) (fun h7=>?_) (fun h7=>?_)
   ·cases h7
   refine AW.skip ?_;simp -implicitDefEqProofs only[go_sem,seval,↓reduceIte];refine hK6 _ ?_;have hfx:flat ([x].map encPc)=[.int .i64 x.1,.int .i64 x.2]:=rfl;refine AW.seq_k fun K hK=>AW.region (by kernel_rfl) ?_;simp -implicitDefEqProofs only[go_sem,seval,↓reduceIte,grown_ne 72 gx 2 hne,grownO_ne gx encPc hne,hfx];refine hK _ ?_;clear hK K;refine AW.ret ?_;simp -implicitDefEqProofs only[go_sem,seval,↓reduceIte];refine endK_some ?_;rw [hD]
  | x::y::r,hD =>
   have e1:(((x::y::r).length:Int) != 1)=true:=by simp;omega
   refine AW.seq_k fun K hK=>AW.region (by kernel_rfl) ?_;simp -implicitDefEqProofs only[go_sem,seval,↓reduceIte,e1];refine hK _ ?_;clear hK K;refine AW.condS (by simp -implicitDefEqProofs only[go_sem,seval,↓reduceIte];rfl) (fun h7=>?_) (fun h7=>?_)
   ·refine AW.seq_k fun K hK=>AW.region (by kernel_rfl) ?_
    simp -implicitDefEqProofs only[go_sem,seval,↓reduceIte];refine hK _ ?_;clear hK K;refine AW.ret ?_;simp -implicitDefEqProofs only[go_sem,seval,↓reduceIte];refine endK_some ?_;rw [hD]
   ·cases h7
end Go.Hs
end

section
namespace Go.Hs
open Go.Proofs
set_option maxRecDepth 10000
theorem rPartsOf_spec (G:Nat→V) (hG:GOk G) (op:Int):Spec Tryz.prog G 165 [.int .u8 op] hNone (fun v _=>v = .int .i64 (partsOf op:Nat)):=by
 refine Spec.of_code' 0 12 [.tmp 2] Tryz.func165 rfl rfl rfl rfl fun X=>?_
 have hP:partsOf op=if op≤4 then 0 else if op≤6 then 1 else if op≤21 then 2 else 3:=rfl
 refine AW.seq_k fun K hK=>AW.region (by kernel_rfl) ?_;simp -implicitDefEqProofs only[go_sem,seval,↓reduceIte];refine hK _ ?_;clear hK K;refine AW.seqJ (fun (_:Unit)=>st [] []) (fun _=>¬ op≤4∧¬ op≤6∧¬ op≤21) (fun K1 hK1=>?_) ?_
 ·refine AW.block ?_
  refine AW.seq_k fun K hK=>AW.region (by kernel_rfl) ?_;simp -implicitDefEqProofs only[go_sem,seval,↓reduceIte];refine hK _ ?_;clear hK K;refine AW.condS (by simp -implicitDefEqProofs only[go_sem,seval,↓reduceIte];rfl) (fun h1=>?_) (fun h1=>?_)
  ·refine AW.seq_k fun K hK=>AW.region (by kernel_rfl) ?_
   simp -implicitDefEqProofs only[go_sem,seval,↓reduceIte];refine hK _ ?_;clear hK K;refine AW.ret ?_;simp -implicitDefEqProofs only[go_sem,seval,↓reduceIte];refine endK_some ?_;rw [hP,if_pos (by simpa using h1)];rfl
  refine AW.seq_k fun K hK=>AW.region (by kernel_rfl) ?_;simp -implicitDefEqProofs only[go_sem,seval,↓reduceIte];refine hK _ ?_;clear hK K;refine AW.condS (by simp -implicitDefEqProofs only[go_sem,seval,↓reduceIte];rfl) (fun h2=>?_) (fun h2=>?_)
  ·refine AW.seq_k fun K hK=>AW.region (by kernel_rfl) ?_
   simp -implicitDefEqProofs only[go_sem,seval,↓reduceIte];refine hK _ ?_;clear hK K;refine AW.ret ?_;simp -implicitDefEqProofs only[go_sem,seval,↓reduceIte];refine endK_some ?_;rw [hP,if_neg (by simpa using h1),if_pos (by simpa using h2)];rfl
  refine AW.seq_k fun K hK=>AW.region (by kernel_rfl) ?_;simp -implicitDefEqProofs only[go_sem,seval,↓reduceIte];refine hK _ ?_;clear hK K;refine AW.condS (by simp -implicitDefEqProofs only[go_sem,seval,↓reduceIte];rfl) (fun h3=>?_) (fun h3=>?_)
  ·refine AW.seq_k fun K hK=>AW.region (by kernel_rfl) ?_
   simp -implicitDefEqProofs only[go_sem,seval,↓reduceIte];refine hK _ ?_;clear hK K;refine AW.ret ?_;simp -implicitDefEqProofs only[go_sem,seval,↓reduceIte];refine endK_some ?_;rw [hP,if_neg (by simpa using h1),if_neg (by simpa using h2),if_pos (by simpa using h3)];rfl
  ·refine AW.skip ?_
   simp -implicitDefEqProofs only[go_sem,seval,↓reduceIte];exact hK1 _ () ⟨by simpa using h1,by simpa using h2,by simpa using h3⟩ (Weak.st (by simp -implicitDefEqProofs only[go_sem,seval,↓reduceIte]) (by simp -implicitDefEqProofs only[go_sem,seval,↓reduceIte]))
 rintro _ ⟨h1,h2,h3⟩;refine AW.seq_k fun K hK=>AW.region (by kernel_rfl) ?_;simp -implicitDefEqProofs only[go_sem,seval,↓reduceIte];refine hK _ ?_;clear hK K;refine AW.ret ?_;simp -implicitDefEqProofs only[go_sem,seval,↓reduceIte];refine endK_some ?_;rw [hP,if_neg h1,if_neg h2,if_neg h3];rfl
theorem rRightN_spec (G:Nat→V) (hG:GOk G) (n:XN) (hn:n.name.length<100000):Spec Tryz.prog G 237 [encXN n] hNone (fun v _=>v = .bool (wellP n)):=by
 refine Spec.of_code' 0 36 [.tmp 2] Tryz.func237 rfl rfl rfl rfl fun X=>?_
 have hW:wellP n=if n.op<1∨n.op > 22∨n.num<0 then false else if n.op=2 then n.num==0 && isP n.name==2 else n.name==[] && (n.op==1 || n.num==0):=rfl
 obtain ⟨op,num,name,a,b,c⟩:=n;simp only at hn hW;simp only [encXN_K];refine AW.seq_k fun K hK=>AW.region (by kernel_rfl) ?_;simp -implicitDefEqProofs only[go_sem,seval,↓reduceIte];intro g1;refine hK _ ?_;clear hK K;refine AW.seqJ (fun (_:Unit)=>st [(1,.ptr 1 g1 0)] [(1,.cells .new g1 0 [.int .u8 op,.int .i64 num,.str name,.int .i64 a,.int .i64 b,.int .i64 c])]) (fun _=>wellP ⟨op,num,name,a,b,c⟩=if op=2 then isP name==2 else name==[]) (fun K1 hK1=>?_) ?_
 ·have hK2:(op<1)=False→(op > 22)=False→(num<0)=False→(op=1∨num=0)→wellP ⟨op,num,name,a,b,c⟩=if op=2 then isP name==2 else name==[]:=by
   intro h1 h2 h3 h4;rw [hW,if_neg (by rintro (h | h | h);exact h1 ▸ h;exact h2 ▸ h;exact h3 ▸ h)]
   by_cases ho:op=2
   ·have:num=0:=h4.resolve_left (by omega)
    rw [if_pos ho,if_pos ho,this];rfl
   ·rw [if_neg ho,if_neg ho]
    rcases h4 with h | h
    ·rw [h];simp
    ·rw [h];simp
  have hK3:(op<1∨op > 22∨num<0∨(op≠1∧num≠0))→wellP ⟨op,num,name,a,b,c⟩=false:=by
   intro h;rw [hW]
   split
   ·rfl
   ·rename_i h0
    simp only [not_or] at h0
    obtain ⟨q1,q2⟩:op≠1∧num≠0:=by
     rcases h with h | h | h | h
     ·exact absurd h h0.1
     ·exact absurd h h0.2.1
     ·exact absurd h h0.2.2
     ·exact h
    have e1:(op==1)=false:=by simpa using q1
    have e2:(num==0)=false:=by simpa using q2
    rw [e1,e2];simp
  by_cases q1:op<1
  ·have h1:decide (op<1)=true:=by simpa using q1
   (refine AW.seq_k fun K hK=>AW.region (by kernel_rfl) ?_;simp -implicitDefEqProofs only[go_sem,seval,↓reduceIte,h1];refine hK _ ?_;clear hK K)
   refine AW.condS (b:=true) (by simp -implicitDefEqProofs only[go_sem,seval,↓reduceIte]) (fun _=>?_) (fun h=>by cases h)
   (refine AW.seq_k fun K hK=>AW.region (by kernel_rfl) ?_;simp -implicitDefEqProofs only[go_sem,seval,↓reduceIte];refine hK _ ?_;clear hK K)
   (refine AW.ret ?_;simp -implicitDefEqProofs only[go_sem,seval,↓reduceIte];refine endK_some ?_)
   rw [hK3 (.inl q1)]
  have h1:decide (op<1)=false:=by simpa using q1
  by_cases q2:op > 22
  ·have h2:decide (op > 22)=true:=by simpa using q2
   (refine AW.seq_k fun K hK=>AW.region (by kernel_rfl) ?_;simp -implicitDefEqProofs only[go_sem,seval,↓reduceIte,h1,h2];refine hK _ ?_;clear hK K)
   refine AW.condS (b:=true) (by simp -implicitDefEqProofs only[go_sem,seval,↓reduceIte]) (fun _=>?_) (fun h=>by cases h)
   (refine AW.seq_k fun K hK=>AW.region (by kernel_rfl) ?_;simp -implicitDefEqProofs only[go_sem,seval,↓reduceIte];refine hK _ ?_;clear hK K)
   (refine AW.ret ?_;simp -implicitDefEqProofs only[go_sem,seval,↓reduceIte];refine endK_some ?_)
   rw [hK3 (.inr (.inl q2))]
  have h2:decide (op > 22)=false:=by simpa using q2
  by_cases q4:op=1
  ·have h4:(op != 1)=false:=by simpa using q4
   by_cases q3:num<0
   ·have h3:decide (num<0)=true:=by simpa using q3
    (refine AW.seq_k fun K hK=>AW.region (by kernel_rfl) ?_;simp -implicitDefEqProofs only[go_sem,seval,↓reduceIte,h1,h2,h3,h4];refine hK _ ?_;clear hK K)
    refine AW.condS (b:=true) (by simp -implicitDefEqProofs only[go_sem,seval,↓reduceIte]) (fun _=>?_) (fun h=>by cases h)
    (refine AW.seq_k fun K hK=>AW.region (by kernel_rfl) ?_;simp -implicitDefEqProofs only[go_sem,seval,↓reduceIte];refine hK _ ?_;clear hK K)
    (refine AW.ret ?_;simp -implicitDefEqProofs only[go_sem,seval,↓reduceIte];refine endK_some ?_)
    rw [hK3 (.inr (.inr (.inl q3)))]
   have h3:decide (num<0)=false:=by simpa using q3
   (refine AW.seq_k fun K hK=>AW.region (by kernel_rfl) ?_;simp -implicitDefEqProofs only[go_sem,seval,↓reduceIte,h1,h2,h3,h4];refine hK _ ?_;clear hK K)
   refine AW.condS (b:=false) (by simp -implicitDefEqProofs only[go_sem,seval,↓reduceIte]) (fun h=>by cases h) (fun _=>?_);refine AW.skip ?_;simp -implicitDefEqProofs only[go_sem,seval,↓reduceIte];exact hK1 _ () (hK2 (eq_false q1) (eq_false q2) (eq_false q3) (.inl q4)) (Weak.st (by simp -implicitDefEqProofs only[go_sem,seval,↓reduceIte]) (by simp -implicitDefEqProofs only[go_sem,seval,↓reduceIte]))
  have h4:(op != 1)=true:=by simpa using q4
  by_cases q5:num=0
  ·have h5:(num != 0)=false:=by simpa using q5
   have q3:¬ num<0:=by omega
   have h3:decide (num<0)=false:=by simpa using q3
   (refine AW.seq_k fun K hK=>AW.region (by kernel_rfl) ?_;simp -implicitDefEqProofs only[go_sem,seval,↓reduceIte,h1,h2,h3,h4,h5];refine hK _ ?_;clear hK K)
   refine AW.condS (b:=false) (by simp -implicitDefEqProofs only[go_sem,seval,↓reduceIte]) (fun h=>by cases h) (fun _=>?_);refine AW.skip ?_;simp -implicitDefEqProofs only[go_sem,seval,↓reduceIte];exact hK1 _ () (hK2 (eq_false q1) (eq_false q2) (eq_false q3) (.inr q5)) (Weak.st (by simp -implicitDefEqProofs only[go_sem,seval,↓reduceIte]) (by simp -implicitDefEqProofs only[go_sem,seval,↓reduceIte]))
  have h5:(num != 0)=true:=by simpa using q5
  (refine AW.seq_k fun K hK=>AW.region (by kernel_rfl) ?_;simp -implicitDefEqProofs only[go_sem,seval,↓reduceIte,h1,h2,h4,h5];refine hK _ ?_;clear hK K)
  refine AW.condS (b:=true) (by simp -implicitDefEqProofs only[go_sem,seval,↓reduceIte]) (fun _=>?_) (fun h=>by cases h)
  (refine AW.seq_k fun K hK=>AW.region (by kernel_rfl) ?_;simp -implicitDefEqProofs only[go_sem,seval,↓reduceIte];refine hK _ ?_;clear hK K)
  (refine AW.ret ?_;simp -implicitDefEqProofs only[go_sem,seval,↓reduceIte];refine endK_some ?_)
  rw [hK3 (.inr (.inr (.inr ⟨q4,q5⟩)))]
 rintro _ hW2;refine AW.seq_k fun K2 hK2=>?_;refine AW.seq_k fun K hK=>AW.region (by kernel_rfl) ?_;simp -implicitDefEqProofs only[go_sem,seval,↓reduceIte];refine hK _ ?_;clear hK K;refine AW.condS (by simp -implicitDefEqProofs only[go_sem,seval,↓reduceIte];rfl) (fun h5=>?_) (fun h5=>?_)
 ·have h5:op=2:=by simpa using h5
  rw [if_pos h5] at hW2;refine AW.seq_k fun K hK=>AW.region (by kernel_rfl) ?_;simp -implicitDefEqProofs only[go_sem,seval,↓reduceIte];refine CallA.pure hG (by kernel_rfl) ?_;simp -implicitDefEqProofs only[go_sem,seval,↓reduceIte];refine (rIs_spec G hG name (by omega)).mono ?_;rintro _ _ rfl;simp -implicitDefEqProofs only[go_sem,seval,↓reduceIte];refine hK _ ?_;clear hK K;refine AW.ret ?_;simp -implicitDefEqProofs only[go_sem,seval,↓reduceIte];refine endK_some ?_;rw [hW2];generalize isP name=z
  cases hz:(z==2) with
  | true =>
   have:((z:Int)==2)=true:=by rw [beq_iff_eq] at hz ⊢;omega
   rw [this]
  | false =>
   have:((z:Int)==2)=false:=by rw [beq_eq_false_iff_ne] at hz ⊢;omega
   rw [this]
 ·have h5:¬ op=2:=by simpa using h5
  rw [if_neg h5] at hW2;refine AW.skip ?_;simp -implicitDefEqProofs only[go_sem,seval,↓reduceIte];refine hK2 _ ?_;refine AW.seq_k fun K hK=>AW.region (by kernel_rfl) ?_;simp -implicitDefEqProofs only[go_sem,seval,↓reduceIte];refine hK _ ?_;clear hK K;refine AW.ret ?_;simp -implicitDefEqProofs only[go_sem,seval,↓reduceIte];refine endK_some ?_;rw [hW2]
def placeOf (n:XN):Nat→Int
 | 0=>n.a
 | 1=>n.b
 | _=>n.c
def begLoop (rec:Int→Int) (n:XN):Nat→Int→Option Int
 | 0,last=>some last
 | k+1,last=>match begStep rec (Nat.blt k (partsOf n.op)) (placeOf n k) last with
  | none=>none
  | some q=>begLoop rec n k q
theorem begR_loop (l:List XN) (f:Nat) (i:Int):begR l (f+1) i=match nthP l i with
  | none => -1
  | some n=>bif wellP n then (match begLoop (begR l f) n 3 (i-1) with | none => -1 | some q=>q+1) else -1:=by
 rw [begR]
 cases nthP l i with
 | none=>rfl
 | some n =>
  simp only
  cases wellP n with
  | false=>rfl
  | true =>
   simp only [cond_true,begLoop,placeOf]
   cases begStep (begR l f) (Nat.blt 2 (partsOf n.op)) n.c (i-1) with
   | none=>rfl
   | some l2 =>
    simp only
    cases begStep (begR l f) (Nat.blt 1 (partsOf n.op)) n.b l2 with
    | none=>rfl
    | some l1 =>
     simp only
     cases begStep (begR l f) (Nat.blt 0 (partsOf n.op)) n.a l1 with
     | none=>rfl
     | some l0=>rfl
theorem begStep_ne {rec:Int→Int} {pl last:Int} (h:¬ pl=last):begStep rec true pl last=none:=by simp [begStep,h]
theorem begStep_neg {rec:Int→Int} {pl last:Int} (h:pl=last) (h2:rec last<0):begStep rec true pl last=none:=by simp [begStep,h,h2]
theorem begStep_pos {rec:Int→Int} {pl last:Int} (h:pl=last) (h2:¬ rec last<0):begStep rec true pl last=some (rec last-1):=by simp [begStep,h,h2]
theorem bsNo {rec:Int→Int} {pl last:Int} (h:¬ pl = -1):begStep rec false pl last=none:=by simp [begStep,h]
theorem bsNone {rec:Int→Int} {pl last:Int} (h:pl = -1):begStep rec false pl last=some last:=by simp [begStep,h]
theorem begR_le (l:List XN) (f:Nat) (i:Int) (h:0≤begR l f i):begR l f i≤i:=by
 obtain ⟨x,b,_,_,h3,h4⟩:=begR_tree l f i h;have:=x.size_pos;omega
theorem rBegin_spec (G:Nat→V) (hG:GOk G) (s:Sl XN) (hs:s.l.length<1000000) (hnm:∀ n∈s.l,n.name.length<100000):∀ (f:Nat) (c:Col) (i:Int),-1≤i→i<f→i<1000000 →
  Spec Tryz.prog G 169 [encSl c 6 encXN s,.int .i64 i] hNone (fun v _=>v = .int .i64 (begR s.l f i)):=by
 intro f
 induction f with
 | zero =>
  intro c i h1 h2 _
  obtain rfl:i = -1:=by omega
  refine Spec.of_code' 0 68 [.tmp 4] Tryz.func169 rfl rfl rfl rfl fun X=>?_;refine AW.seq_k fun K hK=>AW.region (by kernel_rfl) ?_;simp -implicitDefEqProofs only[go_sem,seval,↓reduceIte];refine hK _ ?_;clear hK K;refine AW.seq_k fun K1 hK1=>?_;refine AW.seq_k fun K hK=>AW.region (by kernel_rfl) ?_;simp -implicitDefEqProofs only[go_sem,seval,↓reduceIte];refine hK _ ?_;clear hK K;refine AW.condS (by simp -implicitDefEqProofs only[go_sem,seval,↓reduceIte];rfl) (fun h2=>?_) (fun h2=>?_)
  ·refine AW.seq_k fun K hK=>AW.region (by kernel_rfl) ?_
   simp -implicitDefEqProofs only[go_sem,seval,↓reduceIte];refine hK _ ?_;clear hK K;refine AW.ret ?_;simp -implicitDefEqProofs only[go_sem,seval,↓reduceIte];refine endK_some ?_;rfl
  ·cases h2
 | succ f ih =>
 intro c i h1 h2 h3;refine Spec.of_code' 0 68 [.tmp 4] Tryz.func169 rfl rfl rfl rfl fun X=>?_;have hB:=begR_loop s.l f i;generalize begR s.l (f+1) i=res at hB ⊢;refine AW.seq_k fun K hK=>AW.region (by kernel_rfl) ?_;simp -implicitDefEqProofs only[go_sem,seval,↓reduceIte];refine hK _ ?_;clear hK K;refine AW.seq_k fun K1 hK1=>?_
 by_cases hi:i<0
 ·have e1:decide (i<0)=true:=by simpa using hi
  have hno:nthP s.l i=none:=by unfold nthP;rw [if_pos hi]
  rw [hno] at hB;refine AW.seq_k fun K hK=>AW.region (by kernel_rfl) ?_;simp -implicitDefEqProofs only[go_sem,seval,↓reduceIte,e1];refine hK _ ?_;clear hK K;refine AW.condS (by simp -implicitDefEqProofs only[go_sem,seval,↓reduceIte];rfl) (fun h4=>?_) (fun h4=>?_)
  ·refine AW.seq_k fun K hK=>AW.region (by kernel_rfl) ?_
   simp -implicitDefEqProofs only[go_sem,seval,↓reduceIte];refine hK _ ?_;clear hK K;refine AW.ret ?_;simp -implicitDefEqProofs only[go_sem,seval,↓reduceIte];refine endK_some ?_;rw [hB]
  ·cases h4
 have e1:decide (i<0)=false:=by simpa using hi
 obtain ⟨m,rfl⟩:∃ m:Nat,i=m:=⟨i.toNat,by omega⟩
 by_cases hm:m≥s.l.length
 ·have e2:decide ((m:Int)≥s.l.length)=true:=by rw [decide_eq_true_iff];omega
  have hno:nthP s.l m=none:=by unfold nthP;rw [if_neg hi];exact List.getElem?_eq_none (by simpa using hm)
  rw [hno] at hB;refine AW.seq_k fun K hK=>AW.region (by kernel_rfl) ?_;simp -implicitDefEqProofs only[go_sem,seval,↓reduceIte,e1,e2];refine hK _ ?_;clear hK K;refine AW.condS (by simp -implicitDefEqProofs only[go_sem,seval,↓reduceIte];rfl) (fun h4=>?_) (fun h4=>?_)
  ·refine AW.seq_k fun K hK=>AW.region (by kernel_rfl) ?_
   simp -implicitDefEqProofs only[go_sem,seval,↓reduceIte];refine hK _ ?_;clear hK K;refine AW.ret ?_;simp -implicitDefEqProofs only[go_sem,seval,↓reduceIte];refine endK_some ?_;rw [hB]
  ·cases h4
 have e2:decide ((m:Int)≥s.l.length)=false:=by rw [decide_eq_false_iff_not];omega
 have hg:=List.getElem?_eq_getElem (Nat.lt_of_not_le hm);have hnn:=hnm _ (List.getElem_mem (Nat.lt_of_not_le hm));generalize s.l[m]=n at hg hnn
 have hno:nthP s.l m=some n:=by unfold nthP;rw [if_neg hi];exact hg
 rw [hno] at hB;simp only at hB;refine AW.seq_k fun K hK=>AW.region (by kernel_rfl) ?_;simp -implicitDefEqProofs only[go_sem,seval,↓reduceIte,e1,e2,hg,encXN_K];rw [← encXN_K];refine CallA.pure hG (by kernel_rfl) ?_;simp -implicitDefEqProofs only[go_sem,seval,↓reduceIte,recol_xn];refine (rRightN_spec G hG n hnn).mono ?_;rintro _ _ rfl;simp -implicitDefEqProofs only[go_sem,seval,↓reduceIte];refine hK _ ?_;clear hK K
 cases hw:wellP n with
 | false =>
  rw [hw,cond_false] at hB;refine AW.condS (by simp -implicitDefEqProofs only[go_sem,seval,↓reduceIte];rfl) (fun h4=>?_) (fun h4=>?_)
  ·refine AW.seq_k fun K hK=>AW.region (by kernel_rfl) ?_
   simp -implicitDefEqProofs only[go_sem,seval,↓reduceIte];refine hK _ ?_;clear hK K;refine AW.ret ?_;simp -implicitDefEqProofs only[go_sem,seval,↓reduceIte];refine endK_some ?_;rw [hB]
  ·cases h4
 | true =>
 rw [hw,cond_true] at hB;refine AW.condS (by simp -implicitDefEqProofs only[go_sem,seval,↓reduceIte];rfl) (fun h4=>?_) (fun h4=>?_)
 ·cases h4
 refine AW.skip ?_;simp -implicitDefEqProofs only[go_sem,seval,↓reduceIte];refine hK1 _ ?_;refine AW.seq_k fun K hK=>AW.region (by kernel_rfl) ?_;simp -implicitDefEqProofs only[go_sem,seval,↓reduceIte,hg,encXN_K];intro g5;refine hK _ ?_;clear hK K;refine AW.seq_k fun K hK=>AW.region (by kernel_rfl) ?_;simp -implicitDefEqProofs only[go_sem,seval,↓reduceIte];intro g36;refine hK _ ?_;clear hK K;have hw1:IntKind.i64.wrap ((m:Int)-1)=(m:Int)-1:=w64 (by omega) (by omega);refine AW.seq_k fun K hK=>AW.region (by kernel_rfl) ?_;simp -implicitDefEqProofs only[go_sem,seval,↓reduceIte,hw1];refine hK _ ?_;clear hK K;refine AW.seq_k fun K5 hK5=>?_;refine AW.seq_k fun K hK=>AW.region (by kernel_rfl) ?_;simp -implicitDefEqProofs only[go_sem,seval,↓reduceIte];refine hK _ ?_;clear hK K;refine AW.block ?_
 refine AW.while (fun (x:Nat × Int)=>st [(0,encSl c 6 encXN s),(5,.ptr 5 g5 0),(6,.msl 36 g36 0 3 1),(7,.int .i64 x.2),(8,.int .i64 ((x.1:Int)-1))] [(5,.cells .new g5 0 [.int .u8 n.op,.int .i64 n.num,.str n.name,.int .i64 n.a,.int .i64 n.b,.int .i64 n.c]),(36,.cells .new g36 0 [.int .i64 n.a,.int .i64 n.b,.int .i64 n.c])])
  (fun x=>(res=match begLoop (begR s.l f) n x.1 x.2 with | none => -1 | some q=>q+1)∧x.1≤3 ∧ -1≤x.2∧x.2≤(m:Int)-1) (fun x=>x.1) (3,(m:Int)-1) ⟨hB,Nat.le_refl _,by show -1≤(m:Int)-1;omega,Int.le_refl _⟩
  (Weak.st (by simp -implicitDefEqProofs only[go_sem,seval,↓reduceIte];try rfl) (by simp -implicitDefEqProofs only[go_sem,seval,↓reduceIte])) ?_
 clear hB;rintro ⟨k,last⟩ ⟨hB,hk3,hl1,hl2⟩ L6 hL6
 replace hB:res=match begLoop (begR s.l f) n k last with | none => -1 | some q=>q+1:=hB
 replace hk3:k≤3:=hk3
 replace hl1 : -1≤last:=hl1
 replace hl2:last≤(m:Int)-1:=hl2
 refine AW.seq_k fun K7 hK7=>?_;refine AW.seq_k fun K hK=>AW.region (by kernel_rfl) ?_;simp -implicitDefEqProofs only[go_sem,seval,↓reduceIte];refine hK _ ?_;clear hK K
 cases k with
 | zero =>
  refine AW.condS (by simp -implicitDefEqProofs only[go_sem,seval,↓reduceIte];rfl) (fun h8=>?_) (fun h8=>?_)
  ·cases h8
  refine AW.exit ?_;simp -implicitDefEqProofs only[go_sem,seval,↓reduceIte];refine hK5 _ ?_;refine AW.seq_k fun K hK=>AW.region (by kernel_rfl) ?_;simp -implicitDefEqProofs only[go_sem,seval,↓reduceIte];refine hK _ ?_;clear hK K;refine AW.ret ?_;simp -implicitDefEqProofs only[go_sem,seval,↓reduceIte];refine endK_some ?_;rw [hB,w64 (by omega) (by omega)];rfl
 | succ k =>
 have e8:decide (((k+1:Nat):Int)-1≥0)=true:=by rw [decide_eq_true_iff];omega
 rw [begLoop] at hB;refine AW.condS (by simp -implicitDefEqProofs only[go_sem,seval,↓reduceIte];rfl) (fun h8=>?_) (fun h8=>?_);rotate_left
 ·rw [e8] at h8;cases h8
 refine AW.skip ?_;simp -implicitDefEqProofs only[go_sem,seval,↓reduceIte];refine hK7 _ ?_
 have ek:((k+1:Nat):Int)-1=(k:Int):=by omega
 rw [ek];have hwk:IntKind.i64.wrap ((k:Int)-1)=(k:Int)-1:=w64 (by omega) (by omega)
 have hpl:([.int .i64 n.a,.int .i64 n.b,.int .i64 n.c]:List V)[k]? = some (.int .i64 (placeOf n k)):=by
  match k,hk3 with
  | 0,_=>rfl
  | 1,_=>rfl
  | 2,_=>rfl
 have hklt:(k:Int)<3:=by omega
 generalize placeOf n k=pl at hB hpl;refine AW.seq_k fun K9 hK9=>?_;refine AW.block ?_;refine AW.seq_k fun K10 hK10=>?_;refine AW.seq_k fun K hK=>AW.region (by kernel_rfl) ?_;simp -implicitDefEqProofs only[go_sem,seval,↓reduceIte];refine CallA.pure hG (by kernel_rfl) ?_;simp -implicitDefEqProofs only[go_sem,seval,↓reduceIte];refine (rPartsOf_spec G hG n.op).mono ?_;rintro _ _ rfl;simp -implicitDefEqProofs only[go_sem,seval,↓reduceIte];refine hK _ ?_;clear hK K;generalize hpo:partsOf n.op=po at hB ⊢
 by_cases hkp:k<po
 ·have e5:decide ((k:Int)≥(po:Int))=false:=by rw [decide_eq_false_iff_not];omega
  have hbs:Nat.blt k po=true:=by simpa using hkp
  rw [hbs] at hB;refine AW.condS (by simp -implicitDefEqProofs only[go_sem,seval,↓reduceIte];rfl) (fun h11=>?_) (fun h11=>?_)
  ·rw [e5] at h11;cases h11
  refine AW.skip ?_;simp -implicitDefEqProofs only[go_sem,seval,↓reduceIte];refine hK10 _ ?_;refine AW.seq_k fun K12 hK12=>?_
  by_cases hpe:pl=last
  rotate_left
  ·have e6:(pl != last)=true:=by simpa using hpe
   rw [begStep_ne hpe] at hB;refine AW.seq_k fun K hK=>AW.region (by kernel_rfl) ?_;simp -implicitDefEqProofs only[go_sem,seval,↓reduceIte,Nat.mul_one,hpl,hklt,Int.natCast_nonneg,e6];refine hK _ ?_;clear hK K;refine AW.condS (by simp -implicitDefEqProofs only[go_sem,seval,↓reduceIte];rfl) (fun h13=>?_) (fun h13=>?_)
   ·refine AW.seq_k fun K hK=>AW.region (by kernel_rfl) ?_
    simp -implicitDefEqProofs only[go_sem,seval,↓reduceIte];refine hK _ ?_;clear hK K;refine AW.ret ?_;simp -implicitDefEqProofs only[go_sem,seval,↓reduceIte];refine endK_some ?_;rw [hB]
   ·cases h13
  have e6:(pl != last)=false:=by simpa using hpe
  refine AW.seq_k fun K hK=>AW.region (by kernel_rfl) ?_;simp -implicitDefEqProofs only[go_sem,seval,↓reduceIte,Nat.mul_one,hpl,hklt,Int.natCast_nonneg,e6];refine hK _ ?_;clear hK K;refine AW.condS (by simp -implicitDefEqProofs only[go_sem,seval,↓reduceIte];rfl) (fun h13=>?_) (fun h13=>?_)
  ·cases h13
  refine AW.skip ?_;simp -implicitDefEqProofs only[go_sem,seval,↓reduceIte];refine hK12 _ ?_;refine AW.seq_k fun K hK=>AW.region (by kernel_rfl) ?_;simp -implicitDefEqProofs only[go_sem,seval,↓reduceIte];refine CallA.pure hG (by kernel_rfl) ?_;simp -implicitDefEqProofs only[go_sem,seval,↓reduceIte,recol_xns];refine (ih c.ent last (by omega) (by omega) (by omega)).mono ?_;rintro _ _ rfl;simp -implicitDefEqProofs only[go_sem,seval,↓reduceIte];refine hK _ ?_;clear hK K;have hge:=begR_ge s.l f last;have hle:=begR_le s.l f last;refine AW.seq_k fun K14 hK14=>?_
  by_cases hr0:begR s.l f last<0
  ·have e7:decide (begR s.l f last<0)=true:=by simpa using hr0
   rw [begStep_neg hpe hr0] at hB;refine AW.seq_k fun K hK=>AW.region (by kernel_rfl) ?_;simp -implicitDefEqProofs only[go_sem,seval,↓reduceIte,e7];refine hK _ ?_;clear hK K;refine AW.condS (by simp -implicitDefEqProofs only[go_sem,seval,↓reduceIte];rfl) (fun h15=>?_) (fun h15=>?_)
   ·refine AW.seq_k fun K hK=>AW.region (by kernel_rfl) ?_
    simp -implicitDefEqProofs only[go_sem,seval,↓reduceIte];refine hK _ ?_;clear hK K;refine AW.ret ?_;simp -implicitDefEqProofs only[go_sem,seval,↓reduceIte];refine endK_some ?_;rw [hB]
   ·cases h15
  have e7:decide (begR s.l f last<0)=false:=by simpa using hr0
  rw [begStep_pos hpe hr0] at hB;refine AW.seq_k fun K hK=>AW.region (by kernel_rfl) ?_;simp -implicitDefEqProofs only[go_sem,seval,↓reduceIte,e7];refine hK _ ?_;clear hK K;refine AW.condS (by simp -implicitDefEqProofs only[go_sem,seval,↓reduceIte];rfl) (fun h15=>?_) (fun h15=>?_)
  ·cases h15
  refine AW.skip ?_;simp -implicitDefEqProofs only[go_sem,seval,↓reduceIte];refine hK14 _ ?_;have hle2:=hle (by omega);generalize begR s.l f last=r at hB hge hle2 hr0 ⊢;have hwr:IntKind.i64.wrap (r-1)=r-1:=w64 (by omega) (by omega);refine AW.region (by kernel_rfl) ?_;simp -implicitDefEqProofs only[go_sem,seval,↓reduceIte,hwr];refine hK9 _ ?_;refine AW.region (by kernel_rfl) ?_;simp -implicitDefEqProofs only[go_sem,seval,↓reduceIte,hwk];refine hL6 _ ⟨(k,r-1),by show k<k+1;omega,⟨hB,by show k≤3;omega,by show -1≤r-1;omega,by show r-1≤(m:Int)-1;omega⟩,Weak.st (by simp -implicitDefEqProofs only[go_sem,seval,↓reduceIte];try rfl) (by simp -implicitDefEqProofs only[go_sem,seval,↓reduceIte];try rfl)⟩
 ·have e5:decide ((k:Int)≥(po:Int))=true:=by rw [decide_eq_true_iff];omega
  have hbs:Nat.blt k po=false:=by
   rw [Bool.eq_false_iff];simpa using hkp
  rw [hbs] at hB;refine AW.condS (by simp -implicitDefEqProofs only[go_sem,seval,↓reduceIte];rfl) (fun h11=>?_) (fun h11=>?_);rotate_left
  ·rw [e5] at h11;cases h11
  refine AW.seq_k fun K12 hK12=>?_
  by_cases hpe:pl = -1
  rotate_left
  ·have e6:(pl != -1)=true:=by simpa using hpe
   rw [bsNo hpe] at hB;refine AW.seq_k fun K hK=>AW.region (by kernel_rfl) ?_;simp -implicitDefEqProofs only[go_sem,seval,↓reduceIte,Nat.mul_one,hpl,hklt,Int.natCast_nonneg,e6];refine hK _ ?_;clear hK K;refine AW.condS (by simp -implicitDefEqProofs only[go_sem,seval,↓reduceIte];rfl) (fun h13=>?_) (fun h13=>?_)
   ·refine AW.seq_k fun K hK=>AW.region (by kernel_rfl) ?_
    simp -implicitDefEqProofs only[go_sem,seval,↓reduceIte];refine hK _ ?_;clear hK K;refine AW.ret ?_;simp -implicitDefEqProofs only[go_sem,seval,↓reduceIte];refine endK_some ?_;rw [hB]
   ·cases h13
  have e6:(pl != -1)=false:=by simpa using hpe
  rw [bsNone hpe] at hB;refine AW.seq_k fun K hK=>AW.region (by kernel_rfl) ?_;simp -implicitDefEqProofs only[go_sem,seval,↓reduceIte,Nat.mul_one,hpl,hklt,Int.natCast_nonneg,e6];refine hK _ ?_;clear hK K;refine AW.condS (by simp -implicitDefEqProofs only[go_sem,seval,↓reduceIte];rfl) (fun h13=>?_) (fun h13=>?_)
  ·cases h13
  refine AW.skip ?_;simp -implicitDefEqProofs only[go_sem,seval,↓reduceIte];refine hK12 _ ?_;refine AW.exit ?_;simp -implicitDefEqProofs only[go_sem,seval,↓reduceIte];refine hK9 _ ?_;refine AW.region (by kernel_rfl) ?_;simp -implicitDefEqProofs only[go_sem,seval,↓reduceIte,hwk];refine hL6 _ ⟨(k,last),by show k<k+1;omega,⟨hB,by show k≤3;omega,hl1,hl2⟩,Weak.st (by simp -implicitDefEqProofs only[go_sem,seval,↓reduceIte];try rfl) (by simp -implicitDefEqProofs only[go_sem,seval,↓reduceIte];try rfl)⟩
def dep0 (s:Sl XN) (G:Nat→V) (i d:Int):Prop:=∀ c,Spec Tryz.prog G 170 [encSl c 6 encXN s,.int .i64 i] hNone (fun v _=>v = .int .i64 d)
theorem rDepth_neg (G:Nat→V) (hG:GOk G) (s:Sl XN):dep0 s G (-1) 0:=by
 intro c;refine Spec.of_code' 0 30 [.tmp 4] Tryz.func170 rfl rfl rfl rfl fun X=>?_;refine AW.seq_k fun K hK=>AW.region (by kernel_rfl) ?_;simp -implicitDefEqProofs only[go_sem,seval,↓reduceIte];refine hK _ ?_;clear hK K;refine AW.seq_k fun K1 hK1=>?_;refine AW.seq_k fun K hK=>AW.region (by kernel_rfl) ?_;simp -implicitDefEqProofs only[go_sem,seval,↓reduceIte];refine hK _ ?_;clear hK K;refine AW.condS (by simp -implicitDefEqProofs only[go_sem,seval,↓reduceIte];rfl) (fun h2=>?_) (fun h2=>?_)
 ·refine AW.seq_k fun K hK=>AW.region (by kernel_rfl) ?_
  simp -implicitDefEqProofs only[go_sem,seval,↓reduceIte];refine hK _ ?_;clear hK K;refine AW.ret ?_;simp -implicitDefEqProofs only[go_sem,seval,↓reduceIte];refine endK_some ?_;rfl
 ·cases h2
theorem rDepth_step (G:Nat→V) (hG:GOk G) (s:Sl XN) (m:Nat) (n:XN) (hg:s.l[m]? = some n) (d0 d1 d2:Int) (h0:dep0 s G n.a d0) (h1:dep0 s G n.b d1) (h2:dep0 s G n.c d2) (hb:(0≤d0∧d0<1000000)∧(0≤d1∧d1<1000000)∧(0≤d2∧d2<1000000)) :
  dep0 s G m (max (max d0 d1) d2+1):=by
 intro c;refine Spec.of_code' 0 30 [.tmp 4] Tryz.func170 rfl rfl rfl rfl fun X=>?_;refine AW.seq_k fun K hK=>AW.region (by kernel_rfl) ?_;simp -implicitDefEqProofs only[go_sem,seval,↓reduceIte];refine hK _ ?_;clear hK K;refine AW.seq_k fun K1 hK1=>?_
 have e1:decide ((m:Int)<0)=false:=by rw [decide_eq_false_iff_not];omega
 refine AW.seq_k fun K hK=>AW.region (by kernel_rfl) ?_;simp -implicitDefEqProofs only[go_sem,seval,↓reduceIte,e1];refine hK _ ?_;clear hK K;refine AW.condS (by simp -implicitDefEqProofs only[go_sem,seval,↓reduceIte];rfl) (fun h3=>?_) (fun h3=>?_)
 ·cases h3
 refine AW.skip ?_;simp -implicitDefEqProofs only[go_sem,seval,↓reduceIte];refine hK1 _ ?_
 have pc:∀ i d,dep0 s G i d→PureC Tryz.prog G 170 [encSl c 6 encXN s,.int .i64 i] (.int .i64 d):=fun i d h=>⟨by kernel_rfl,by
  simp only [List.map_cons,List.map_nil,recol_xns,recol_int];refine (h c.ent).mono ?_;rintro _ _ rfl
  rfl⟩
 have hmx:(if d2 > (if d1 > d0 then d1 else d0) then d2 else (if d1 > d0 then d1 else d0))=max (max d0 d1) d2:=by
  rw [Int.max_def,Int.max_def]
  split<;>split<;>split<;>omega
 have hw:IntKind.i64.wrap (1+max (max d0 d1) d2)=max (max d0 d1) d2+1:=by rw [w64 (by omega) (by omega)];omega
 refine AW.seq_k fun K hK=>AW.regionT ⟨fun i=>if i=6 then .int .i64 d0 else if i=13 then .int .i64 d1 else if i=20 then .int .i64 d2 else .top,fun _ => .pure⟩ (by kernel_rfl) hG (by kernel_rfl) (by kernel_rfl) ?_;simp -implicitDefEqProofs only[go_sem,seval,↓reduceIte,hg,encXN_K,hmx,hw];refine ⟨pc _ _ h0,pc _ _ h1,pc _ _ h2,?_⟩;refine hK _ ?_;clear hK K;refine AW.ret ?_;simp -implicitDefEqProofs only[go_sem,seval,↓reduceIte];refine endK_some ?_;rfl
theorem depth_le:∀ x:X,x.depth≤x.size
 | .leaf .. => Nat.le_refl _
 | .un _ a=>by have:=depth_le a;simp only [X.depth,X.size];omega
 | .bin _ a b=>by have:=depth_le a;have:=depth_le b;simp only [X.depth,X.size];omega
 | .ite a b c=>by have:=depth_le a;have:=depth_le b;have:=depth_le c;simp only [X.depth,X.size];omega
theorem At.size_le {l:List XN} {x:X} {b:Nat} (h:At l x b):b+x.size≤l.length:=by
 obtain ⟨pre,post,rfl,hb⟩:=h;rw [List.length_append,List.length_append,X.row_len];omega
theorem rDepth_at (G:Nat→V) (hG:GOk G) (s:Sl XN) (hs:s.l.length<1000000):∀ (x:X) (b:Nat),At s.l x b→dep0 s G ((b:Int)+x.size-1) x.depth
 | .leaf op num name,b,h=>by
  have:=rDepth_step G hG s b _ h.get 0 0 0 (rDepth_neg G hG s) (rDepth_neg G hG s) (rDepth_neg G hG s) ⟨by decide,by decide,by decide⟩
  have e:(b:Int)+(X.leaf op num name).size-1=(b:Nat):=by simp only [X.size];omega
  rw [e];exact this
 | .un op a,b,h=>by
  have ha:=h.un;have ih:=rDepth_at G hG s hs a b ha;have hz:=At.size_le h;have hd:=depth_le a;have hp:=a.size_pos;have:=rDepth_step G hG s _ _ h.get _ 0 0 ih (rDepth_neg G hG s) (rDepth_neg G hG s) ⟨⟨by omega,by simp only [X.size] at hz;omega⟩,by decide,by decide⟩
  have e:(b:Int)+(X.un op a).size-1=((b+(X.un op a).size-1:Nat):Int):=by simp only [X.size];omega
  rw [e]
  have e2:((X.un op a).depth:Int)=max (max (a.depth:Int) 0) 0+1:=by simp only [X.depth];omega
  rw [e2];exact this
 | .bin op x y,b,h=>by
  obtain ⟨hx,hy⟩:=h.bin;have ihx:=rDepth_at G hG s hs x b hx;have ihy:=rDepth_at G hG s hs y (b+x.size) hy;have hz:=At.size_le h;have hd1:=depth_le x;have hd2:=depth_le y;have hp1:=x.size_pos;have hp2:=y.size_pos
  have e3:((b+x.size:Nat):Int)+y.size-1=(b:Int)+x.size+y.size-1:=by omega
  rw [e3] at ihy;simp only [X.size] at hz;have:=rDepth_step G hG s _ _ h.get _ _ 0 ihx ihy (rDepth_neg G hG s) ⟨⟨by omega,by omega⟩,⟨by omega,by omega⟩,by decide⟩
  have e:(b:Int)+(X.bin op x y).size-1=((b+(X.bin op x y).size-1:Nat):Int):=by simp only [X.size];omega
  rw [e]
  have e2:((X.bin op x y).depth:Int)=max (max (x.depth:Int) y.depth) 0+1:=by simp only [X.depth];omega
  rw [e2];exact this
 | .ite x y z,b,h=>by
  obtain ⟨hx,hy,hz'⟩:=h.ite;have ihx:=rDepth_at G hG s hs x b hx;have ihy:=rDepth_at G hG s hs y (b+x.size) hy;have ihz:=rDepth_at G hG s hs z (b+x.size+y.size) hz';have hz:=At.size_le h;have hd1:=depth_le x;have hd2:=depth_le y;have hd3:=depth_le z;have hp1:=x.size_pos;have hp2:=y.size_pos;have hp3:=z.size_pos
  have e3:((b+x.size:Nat):Int)+y.size-1=(b:Int)+x.size+y.size-1:=by omega
  rw [e3] at ihy
  have e4:((b+x.size+y.size:Nat):Int)+z.size-1=(b:Int)+x.size+y.size+z.size-1:=by omega
  rw [e4] at ihz;simp only [X.size] at hz;have:=rDepth_step G hG s _ _ h.get _ _ _ ihx ihy ihz ⟨⟨by omega,by omega⟩,⟨by omega,by omega⟩,⟨by omega,by omega⟩⟩
  have e:(b:Int)+(X.ite x y z).size-1=((b+(X.ite x y z).size-1:Nat):Int):=by simp only [X.size];omega
  rw [e]
  have e2:((X.ite x y z).depth:Int)=max (max (x.depth:Int) y.depth) z.depth+1:=by simp only [X.depth];omega
  rw [e2];exact this
end Go.Hs
end

section
namespace Go.Hs
open Go.Proofs
set_option maxRecDepth 10000
theorem rRight_spec (G:Nat→V) (hG:GOk G) (c:Col) (s:Sl XN) (hs:s.l.length<1000000) (hnm:∀ n∈s.l,n.name.length<100000) :
  Spec Tryz.prog G 102 [encSl c 6 encXN s] hNone (fun v _=>v = .bool (rightR s.l)):=by
 refine Spec.of_code' 0 9 [.tmp 2] Tryz.func102 rfl rfl rfl rfl fun X=>?_;have hw:IntKind.i64.wrap ((s.l.length:Int)-1)=(s.l.length:Int)-1:=w64 (by omega) (by omega);refine AW.seq_k fun K hK=>AW.region (by kernel_rfl) ?_;simp -implicitDefEqProofs only[go_sem,seval,↓reduceIte];refine hK _ ?_;clear hK K;refine AW.seq_k fun K hK=>AW.region (by kernel_rfl) ?_;simp -implicitDefEqProofs only[go_sem,seval,↓reduceIte,hw];refine CallA.pure hG (by kernel_rfl) ?_;simp -implicitDefEqProofs only[go_sem,seval,↓reduceIte,recol_xns];refine (rBegin_spec G hG s hs hnm s.l.length c.ent ((s.l.length:Int)-1) (by omega) (by omega) (by omega)).mono ?_;rintro _ _ rfl;simp -implicitDefEqProofs only[go_sem,seval,↓reduceIte];refine hK _ ?_;clear hK K;refine AW.ret ?_;simp -implicitDefEqProofs only[go_sem,seval,↓reduceIte];refine endK_some ?_;rfl
theorem rDepthN_spec (G:Nat→V) (hG:GOk G) (c:Col) (s:Sl XN) (hs:s.l.length<1000000) (hnm:∀ n∈s.l,n.name.length<100000) :
  Spec Tryz.prog G 103 [encSl c 6 encXN s] hNone (fun v _=>v = .int .i64 (depthP s.l)):=by
 refine Spec.of_code' 0 11 [.tmp 2] Tryz.func103 rfl rfl rfl rfl fun X=>?_;have hw:IntKind.i64.wrap ((s.l.length:Int)-1)=(s.l.length:Int)-1:=w64 (by omega) (by omega);refine AW.seq_k fun K hK=>AW.region (by kernel_rfl) ?_;simp -implicitDefEqProofs only[go_sem,seval,↓reduceIte];refine hK _ ?_;clear hK K;refine AW.seq_k fun K1 hK1=>?_;refine AW.seq_k fun K hK=>AW.region (by kernel_rfl) ?_;simp -implicitDefEqProofs only[go_sem,seval,↓reduceIte];refine CallA.pure hG (by kernel_rfl) ?_;simp -implicitDefEqProofs only[go_sem,seval,↓reduceIte,recol_xns];refine (rRight_spec G hG c.ent s hs hnm).mono ?_;rintro _ _ rfl;simp -implicitDefEqProofs only[go_sem,seval,↓reduceIte];refine hK _ ?_;clear hK K
 cases hr:rightR s.l with
 | false =>
  have hd:depthP s.l=0:=by
   have:=right_depth s.l;rw [hr] at this;have h2:=of_decide_eq_false this.symm;exact Classical.byContradiction h2
  refine AW.condS (by simp -implicitDefEqProofs only[go_sem,seval,↓reduceIte];rfl) (fun h6=>?_) (fun h6=>?_)
  ·refine AW.seq_k fun K hK=>AW.region (by kernel_rfl) ?_
   simp -implicitDefEqProofs only[go_sem,seval,↓reduceIte];refine hK _ ?_;clear hK K;refine AW.ret ?_;simp -implicitDefEqProofs only[go_sem,seval,↓reduceIte];refine endK_some ?_;rw [hd]
  ·cases h6
 | true =>
 refine AW.condS (by simp -implicitDefEqProofs only[go_sem,seval,↓reduceIte];rfl) (fun h6=>?_) (fun h6=>?_)
 ·cases h6
 refine AW.skip ?_;simp -implicitDefEqProofs only[go_sem,seval,↓reduceIte];refine hK1 _ ?_;obtain ⟨x,hx,hl⟩:=right_tree.1 hr;have hat:At s.l x 0:=hl ▸ At.whole x
 have hdep:depthP s.l=x.depth:=by rw [hl,depth_row hx]
 have hlen:s.l.length=x.size:=by rw [hl,Go.Hs.X.row_len]
 have hsp:=rDepth_at G hG s hs x 0 hat;rw [show ((0:Nat):Int)+x.size-1=(s.l.length:Int)-1 by omega] at hsp;refine AW.seq_k fun K hK=>AW.region (by kernel_rfl) ?_;simp -implicitDefEqProofs only[go_sem,seval,↓reduceIte,hw];refine CallA.pure hG (by kernel_rfl) ?_;simp -implicitDefEqProofs only[go_sem,seval,↓reduceIte,recol_xns];refine (hsp c.ent).mono ?_;rintro _ _ rfl;simp -implicitDefEqProofs only[go_sem,seval,↓reduceIte];refine hK _ ?_;clear hK K;refine AW.ret ?_;simp -implicitDefEqProofs only[go_sem,seval,↓reduceIte];refine endK_some ?_;rw [hdep]
def checkP (l:List XN):Int:=if depthP l=0 then 2 else if depthP l > 64 then 3 else 0
theorem xCheck_spec (G:Nat→V) (hE:GExp G) (c:Col) (s:Sl XN) (hs:s.l.length<1000000) (hnm:∀ n∈s.l,n.name.length<100000) :
  Spec Tryz.prog G 93 [.agg [encSl c 6 encXN s]] hNone (fun v _=>v = .int .i64 (checkP s.l)):=by
 have hG:=hE.ok;refine Spec.of_code' 0 12 [.tmp 2] Tryz.func93 rfl rfl rfl rfl fun X=>?_
 have hC:checkP s.l=if depthP s.l=0 then 2 else if depthP s.l > 64 then 3 else 0:=rfl
 generalize checkP s.l=res at hC ⊢;refine AW.seq_k fun K hK=>AW.region (by kernel_rfl) ?_;simp -implicitDefEqProofs only[go_sem,seval,↓reduceIte];intro g1;refine hK _ ?_;clear hK K;refine AW.seq_k fun K1 hK1=>?_;refine AW.seq_k fun K hK=>AW.region (by kernel_rfl) ?_;simp -implicitDefEqProofs only[go_sem,seval,↓reduceIte];refine CallA.pure hG (by kernel_rfl) ?_;simp -implicitDefEqProofs only[go_sem,seval,↓reduceIte,recol_xns];refine (xDepth_spec G hE c.ent s hs hnm).mono ?_;rintro _ _ rfl;simp -implicitDefEqProofs only[go_sem,seval,↓reduceIte];refine hK _ ?_;clear hK K;refine AW.block ?_;refine AW.seq_k fun K hK=>AW.region (by kernel_rfl) ?_;simp -implicitDefEqProofs only[go_sem,seval,↓reduceIte];refine hK _ ?_;clear hK K;refine AW.condS (by simp -implicitDefEqProofs only[go_sem,seval,↓reduceIte];rfl) (fun h6=>?_) (fun h6=>?_)
 ·have h6:depthP s.l=0:=by simpa using h6
  rw [if_pos h6] at hC;refine AW.seq_k fun K hK=>AW.region (by kernel_rfl) ?_;simp -implicitDefEqProofs only[go_sem,seval,↓reduceIte];refine hK _ ?_;clear hK K;refine AW.ret ?_;simp -implicitDefEqProofs only[go_sem,seval,↓reduceIte];refine endK_some ?_;rw [hC]
 have h6:¬ depthP s.l=0:=by simpa using h6
 rw [if_neg h6] at hC;refine AW.seq_k fun K hK=>AW.region (by kernel_rfl) ?_;simp -implicitDefEqProofs only[go_sem,seval,↓reduceIte];refine hK _ ?_;clear hK K;refine AW.condS (by simp -implicitDefEqProofs only[go_sem,seval,↓reduceIte];rfl) (fun h7=>?_) (fun h7=>?_)
 ·have h7:depthP s.l > 64:=by simpa using h7
  rw [if_pos h7] at hC;refine AW.seq_k fun K hK=>AW.region (by kernel_rfl) ?_;simp -implicitDefEqProofs only[go_sem,seval,↓reduceIte];refine hK _ ?_;clear hK K;refine AW.ret ?_;simp -implicitDefEqProofs only[go_sem,seval,↓reduceIte];refine endK_some ?_;rw [hC]
 ·have h7:¬ depthP s.l > 64:=by simpa using h7
  rw [if_neg h7] at hC;refine AW.skip ?_;simp -implicitDefEqProofs only[go_sem,seval,↓reduceIte];refine hK1 _ ?_;refine AW.seq_k fun K hK=>AW.region (by kernel_rfl) ?_;simp -implicitDefEqProofs only[go_sem,seval,↓reduceIte];refine hK _ ?_;clear hK K;refine AW.ret ?_;simp -implicitDefEqProofs only[go_sem,seval,↓reduceIte];refine endK_some ?_;rw [hC]
end Go.Hs
end

section
namespace Go.Hs
def NmQ (Q:List UInt8→Prop) (r:RS):Prop:=∀ n∈r.nodes,Q n.name
def NmI (Q:List UInt8→Prop) (inner:Inner):Prop:=∀ n r,NmQ Q r→NmQ Q (inner n r).2
theorem NmQ.put {Q:List UInt8→Prop} {r:RS} {n:XN} (h:NmQ Q r) (hn:Q n.name):NmQ Q (r.put n):=by
 intro m hm
 rcases List.mem_append.1 hm with h1 | h1
 ·exact h m h1
 ·rw [List.mem_singleton.1 h1];exact hn
theorem andThen_nm {Q:List UInt8→Prop} {x:Bool × RS} {k:RS→Bool × RS} (h:NmQ Q x.2) (hk:∀ r,NmQ Q r→NmQ Q (k r).2):NmQ Q (andThen x k).2:=by
 obtain ⟨b,r⟩:=x;cases b
 ·exact h
 ·exact hk r h
theorem eatP_nm {Q:List UInt8→Prop} (l:List Tk) (w:List UInt8) {r:RS} (h:NmQ Q r):NmQ Q (eatP l w r).2:=by
 unfold eatP;split<;>exact h
theorem numberP_nm {Q:List UInt8→Prop} (h0:Q []) (t:List UInt8) {r:RS} (h:NmQ Q r):NmQ Q (numberP r t).2:=by
 unfold numberP;split
 ·exact h
 ·exact NmQ.put (n:=⟨1,_,[],-1,-1,-1⟩) h h0
theorem branchesP_nm {Q:List UInt8→Prop} {l:List Tk} {inner:Inner} (h0:Q []) (hi:NmI Q inner) {r:RS} (h:NmQ Q r):NmQ Q (branchesP l inner r).2:=by
 unfold branchesP;refine andThen_nm (eatP_nm _ _ h) fun r1 h1=>andThen_nm (hi _ _ h1) fun a h2=>andThen_nm (eatP_nm _ _ h2) fun r2 h3=>andThen_nm (hi _ _ h3) fun b h4=>andThen_nm (eatP_nm _ _ h4) fun r3 h5=>andThen_nm (hi _ _ h5) fun c h6=>andThen_nm (eatP_nm _ _ h6) fun r4 h7=>?_;exact NmQ.put h7 h0
theorem aheadP_nm {Q:List UInt8→Prop} {l:List Tk} {inner:Inner} (h0:Q []) (hq:∀ i,(nextP l i).kind=2→Q (nextP l i).text) (hi:NmI Q inner) {r:RS} (h:NmQ Q r):NmQ Q (aheadP l inner r).2:=by
 unfold aheadP
 split
 ·exact numberP_nm h0 _ h
 split
 ·rename_i hk;exact NmQ.put (n:=⟨2,0,(nextP l r.i).text,-1,-1,-1⟩) h (hq _ hk)
 split
 ·exact h
 split
 ·exact andThen_nm (hi _ _ h) fun a ha=>NmQ.put ha h0
 split
 ·exact andThen_nm (hi _ _ h) fun a ha=>eatP_nm _ _ ha
 split
 ·exact branchesP_nm h0 hi h
 split
 ·exact NmQ.put (n:=⟨_,0,[],-1,-1,-1⟩) h h0
 ·exact h
theorem loopP_nm {Q:List UInt8→Prop} {l:List Tk} {inner:Inner} (h0:Q []) (hi:NmI Q inner) (n:Int):∀ (m:Nat) (r:RS),NmQ Q r→NmQ Q (loopP l inner n m r).2
 | 0,r,h=>h
 | m+1,r,h=>by
  rw [loopP]
  split
  ·exact h
  ·split
   ·exact h
   ·exact andThen_nm (hi _ r.adv h) fun a ha=>loopP_nm h0 hi n m (a.put _) (NmQ.put ha h0)
theorem climbP_nm {Q:List UInt8→Prop} (l:List Tk) (h0:Q []) (hq:∀ i,(nextP l i).kind=2→Q (nextP l i).text):∀ f,NmI Q (climbP l f)
 | 0=>fun _ _ h=>h
 | f+1=>fun n r h=>by
  rw [climbP];exact andThen_nm (aheadP_nm h0 hq (climbP_nm l h0 hq f) h) fun a ha=>loopP_nm h0 (climbP_nm l h0 hq f) n _ a ha
end Go.Hs
end

section
namespace Go.Hs
def fromP (l:List Tk):List XN × Int × Int:=if (climbP l (l.length+1) 1 ⟨0,[],0⟩).1=false then ([],(climbP l (l.length+1) 1 ⟨0,[],0⟩).2.i,(climbP l (l.length+1) 1 ⟨0,[],0⟩).2.e)
 else if depthP (climbP l (l.length+1) 1 ⟨0,[],0⟩).2.nodes > 64 then ([],0,3) else ((climbP l (l.length+1) 1 ⟨0,[],0⟩).2.nodes,(climbP l (l.length+1) 1 ⟨0,[],0⟩).2.i,0)
theorem fromP_bnd {l:List Tk}:0≤(fromP l).2.1∧(fromP l).2.1≤(l.length:Nat):=by
 have hok:=((climbP_bal l (l.length+1) 1 ⟨0,[],0⟩).ok ⟨Nat.zero_le _,Nat.le_refl _⟩).1;unfold fromP
 split
 ·exact ⟨Int.natCast_nonneg _,Int.ofNat_le.2 hok⟩
 ·split
  ·exact ⟨Int.le_refl _,Int.natCast_nonneg _⟩
  ·exact ⟨Int.natCast_nonneg _,Int.ofNat_le.2 hok⟩
end Go.Hs
end

section
namespace Go.Hs
open Go.Proofs
set_option maxRecDepth 10000
theorem RdS.callN {NO:Nat} {tl:List V} {G:Nat→V} (hG:GOk G) {f:FuncId} {args args':List V} {sl:Sl Tk} {g:Nat} {r r':RS} {v:V} (h:RdS NO tl G f args' sl g r v r') {H:Heap} {K:V→Heap→Prop}
  (hen:enterable Tryz.prog f=true) (htl:∀ F:Col→Col,tl.map (V.recol F)=tl) (hargs:args.map (V.recol Col.ent)=args') (hv:v.recol Col.bk=v) (hr:r.nodes=[])
  (cs:List V) (h8:H 8 = .cells .new g 0 cs) (hcs:V.recolL Col.ent cs=(encSl .any 3 encTk sl :: .int .i64 r.i :: .nils :: .int .i64 r.e::tl)) (hN:H NO = .dead)
  (hk:∀ gx',K v (sets H [(8,.cells .new g 0 (encSl .any 3 encTk sl :: .int .i64 r'.i::grown NO gx' 6 r'.nodes :: .int .i64 r'.e::tl)),(NO,grownO gx' encXN r'.nodes)])) :
  CallA Tryz.prog G f (.ptr 8 g 0::args) H K:=by
 refine CallA.handN hG [(8,rdO NO tl sl g 0 r),(NO,ndO 0 r.nodes)] hen ?_ ?_ ?_
 ·intro p hp
  simp only [List.mem_cons,List.not_mem_nil,or_false] at hp
  rcases hp with rfl | rfl
  ·simp only [h8,AObj.toAny,hcs,rdO_K,hr];rfl
  ·simp only [hN,AObj.toAny,hr];rfl
 ·intro p hp c g' fz cs' ho
  simp only [List.mem_cons,List.not_mem_nil,or_false] at hp
  rcases hp with rfl | rfl
  ·simp only [h8,AObj.cells.injEq] at ho;exact ho.1.symm
  ·simp only [hN] at ho;cases ho
 ·have ha:(V.ptr 8 g 0::args).map (V.recol Col.ent) = .ptr 8 g 0::args':=by rw [List.map_cons,recol_ptr,hargs]
  rw [ha];refine (h 0).mono ?_;rintro _ H' ⟨rfl,gx',q8,qN⟩
  have b8:(rdO NO tl sl g gx' r').backNew = .cells .new g 0 (encSl .any 3 encTk sl :: .int .i64 r'.i::grown NO gx' 6 r'.nodes :: .int .i64 r'.e::tl):=by
   simp only [rdO_K,AObj.backNew,V.recolL_eq,List.map_cons,recol_tks,recol_int,recol_grown,htl];rfl
  have bN:(ndO gx' r'.nodes).backNew=grownO gx' encXN r'.nodes:=by
   unfold ndO
   cases hn:r'.nodes with
   | nil=>rfl
   | cons x t =>
    rw [grownC_ne _ _ _ (by simp),grownO_ne _ _ (by simp)];simp only [AObj.backNew,V.recolL_eq];rw [← flat_recol,List.map_map];have he:(x::t).map (V.recol Col.bk ∘ encXN)=(x::t).map encXN:=List.map_congr_left fun y _=>recol_xn _ y
    first | done | rw [he]
  simp only [List.map_cons,List.map_nil,q8,qN,b8,bN,hv];exact hk gx'
def encXs (c:Col) (l:List XN):V:=encSl c 6 encXN (grownS l)
def encFr (c:Col) (p:List XN × Int × Int):V := .tuple [.agg [encXs c p.1],.int .i64 p.2.1,.int .i64 p.2.2]
theorem climb_names {l:List Tk} (hT:TkOk l):∀ n∈(climbP l (l.length+1) 1 ⟨0,[],0⟩).2.nodes,n.name.length<100000 :=
 climbP_nm (Q:=fun s=>s.length<100000) l (Nat.zero_lt_succ _) (fun i _=>nextP_len hT i) _ _ _ (fun n hn=>by cases hn)
theorem xFrom_spec (G:Nat→V) (hE:GExp G) (c:Col) (sl:Sl Tk) (hT:TkOk sl.l):Spec Tryz.prog G 226 [encSl c 3 encTk sl] hNone (fun v _=>v=encFr .new (fromP sl.l)):=by
 have hG:=hE.ok;have hTl:=hT.len;refine Spec.of_code' 0 44 [.cell 2 53,.tmp 3,.tmp 4] Tryz.func226 rfl rfl rfl rfl fun X=>?_
 have hP:fromP sl.l=if (climbP sl.l (sl.l.length+1) 1 ⟨0,[],0⟩).1=false then (([]:List XN),((climbP sl.l (sl.l.length+1) 1 ⟨0,[],0⟩).2.i:Int),(climbP sl.l (sl.l.length+1) 1 ⟨0,[],0⟩).2.e)
  else if depthP (climbP sl.l (sl.l.length+1) 1 ⟨0,[],0⟩).2.nodes > 64 then ([],0,3) else ((climbP sl.l (sl.l.length+1) 1 ⟨0,[],0⟩).2.nodes,((climbP sl.l (sl.l.length+1) 1 ⟨0,[],0⟩).2.i:Int),(0:Int)):=rfl
 have hr0:RSok sl.l ⟨0,[],0⟩:=⟨Nat.zero_le _,Nat.le_refl _⟩;have hcl:=fun g=>xClimb_spec G hE sl hT g (sl.l.length+1) 1 ⟨0,[],0⟩ (by decide) (by decide) (Nat.lt_succ_self _) hr0;have hnm2:=climb_names hT;have hok:=(climbP_bal sl.l (sl.l.length+1) 1 ⟨0,[],0⟩);generalize fromP sl.l=res at hP ⊢;generalize climbP sl.l (sl.l.length+1) 1 ⟨0,[],0⟩=y at hP hcl hok hnm2;obtain ⟨b,r⟩:=y;simp only at hP hcl hok hnm2;refine AW.seq_k fun K hK=>AW.region (by kernel_rfl) ?_;simp -implicitDefEqProofs only[go_sem,seval,↓reduceIte];intro g2;refine hK _ ?_;clear hK K;refine AW.seq_k fun K hK=>AW.region (by kernel_rfl) ?_;simp -implicitDefEqProofs only[go_sem,seval,↓reduceIte];intro g8;refine hK _ ?_;clear hK K;refine AW.seq_k fun K1 hK1=>?_;refine AW.block ?_;refine AW.weak (Weak.stF (fun _=>false) (l:=[(5,.ptr 8 g8 0),(2,.ptr 2 g2 0)]) (m:=[(2,.cells .new g2 0 [.nils]),(8,.cells .new g8 0 [encSl .any 3 encTk sl,.int .i64 0,.nils,.int .i64 0,.func (.func 256) [] []])]) ?_ ?_) ?_
 ·simp -implicitDefEqProofs only[go_sem,seval,↓reduceIte]
  exact ⟨Fz.same _,Fz.same _⟩
 ·simp only [allFzO_cons,allFzO_nil,and_true]
  exact ⟨FzO.keep rfl (by simp -implicitDefEqProofs only[go_sem,seval,↓reduceIte]),FzO.of (c := .new) (fz:=0) (cs:=[encSl c 3 encTk sl,.int .i64 0,.nils,.int .i64 0,.func (.func 256) [] []]) rfl (by simp -implicitDefEqProofs only[go_sem,seval,↓reduceIte];try rfl) ⟨Fz.any (recol_tks _ _ _),Fz.same _,Fz.same _,Fz.same _,Fz.same _,trivial⟩⟩
 refine AW.seq_k fun K hK=>AW.region (by kernel_rfl) ?_;simp -implicitDefEqProofs only[go_sem,seval,↓reduceIte];refine RdS.callN hG (hcl g8) (by kernel_rfl) (fun F=>rfl) rfl rfl rfl _ (by simp -implicitDefEqProofs only[go_sem,seval,↓reduceIte];rfl) (by simp only [V.recolL_eq,List.map_cons,List.map_nil,recol_tks];rfl) (by simp -implicitDefEqProofs only[go_sem,seval,↓reduceIte]) fun gx=>?_;simp -implicitDefEqProofs only[go_sem,seval,↓reduceIte,sets];refine hK _ ?_;clear hK K
 cases b with
 | false =>
  refine AW.condS (by simp -implicitDefEqProofs only[go_sem,seval,↓reduceIte];rfl) (fun h9=>?_) (fun h9=>?_);rotate_left
  ·cases h9
  refine AW.weak (Weak.stF (fun o=>o==8) (l:=[(5,.view .new (.agg [encSl .any 3 encTk sl,.int .i64 r.i,grown 1031 gx 6 r.nodes,.int .i64 r.e,.func (.func 256) [] []])),(2,.ptr 2 g2 0)]) (m:=[(2,.cells .new g2 0 [.nils])]) ?_ ?_) ?_
  ·simp -implicitDefEqProofs only[go_sem,seval,↓reduceIte]
   exact ⟨Fz.ptr (v := .agg [encSl .any 3 encTk sl,.int .i64 r.i,grown 1031 gx 6 r.nodes,.int .i64 r.e,.func (.func 256) [] []]) (c := .new) (fz:=0) rfl (by simp -implicitDefEqProofs only[go_sem,seval,↓reduceIte];try rfl),Fz.same _⟩
  ·simp only [allFzO_cons,allFzO_nil,and_true]
   exact FzO.keep rfl (by simp -implicitDefEqProofs only[go_sem,seval,↓reduceIte])
  refine AW.seq_k fun K2 hK2=>?_;refine AW.regionT ⟨fun _ => .top,fun i=>if i=4 then .lend else if i=8 then .lend else .pure⟩ (by kernel_rfl) hG (by kernel_rfl) (by kernel_rfl) ?_;simp -implicitDefEqProofs only[go_sem,seval,↓reduceIte];refine hK2 _ ?_;refine AW.ret ?_;simp -implicitDefEqProofs only[go_sem,seval,↓reduceIte];refine endK_some ?_;rw [hP];rfl
 | true =>
 refine AW.condS (by simp -implicitDefEqProofs only[go_sem,seval,↓reduceIte];rfl) (fun h9=>?_) (fun h9=>?_)
 ·cases h9
 refine AW.weak (Weak.stF (fun o=>o==1031) (l:=[(5,.ptr 8 g8 0),(2,.ptr 2 g2 0)]) (m:=[(2,.cells .new g2 0 [.nils]),(8,.cells .new g8 0 [encSl .any 3 encTk sl,.int .i64 r.i,encXs .new r.nodes,.int .i64 r.e,.func (.func 256) [] []])]) ?_ ?_) ?_
 ·simp -implicitDefEqProofs only[go_sem,seval,↓reduceIte]
  exact ⟨Fz.same _,Fz.same _⟩
 ·simp only [allFzO_cons,allFzO_nil,and_true]
  exact ⟨FzO.keep rfl (by simp -implicitDefEqProofs only[go_sem,seval,↓reduceIte]),FzO.of (c := .new) (fz:=0) (cs:=[encSl .any 3 encTk sl,.int .i64 r.i,grown 1031 gx 6 r.nodes,.int .i64 r.e,.func (.func 256) [] []]) rfl (by simp -implicitDefEqProofs only[go_sem,seval,↓reduceIte];try rfl) ⟨Fz.same _,Fz.same _,Fz.grown rfl (by simp -implicitDefEqProofs only[go_sem,seval,↓reduceIte];try rfl) encXN_cells,Fz.same _,Fz.same _,trivial⟩⟩
 have hrl:r.nodes.length<1000000:=by have:=(hok.ok hr0);have h1:=this.1;have h2:=this.2;omega
 rw [if_neg (by simp)] at hP;refine AW.seq_k fun K hK=>AW.region (by kernel_rfl) ?_;simp -implicitDefEqProofs only[go_sem,seval,↓reduceIte,encXs];refine CallA.pure hG (by kernel_rfl) ?_;simp -implicitDefEqProofs only[go_sem,seval,↓reduceIte,recol_xns];refine (xDepth_spec G hE Col.new.ent (grownS r.nodes) (by rw [grownS_l];exact hrl) (by rw [grownS_l];exact hnm2)).mono ?_;rintro _ _ rfl;simp -implicitDefEqProofs only[go_sem,seval,↓reduceIte];refine hK _ ?_;clear hK K;refine AW.condS (by simp -implicitDefEqProofs only[go_sem,seval,↓reduceIte];rfl) (fun h26=>?_) (fun h26=>?_)
 ·have h26:depthP r.nodes > 64:=by simpa using h26
  rw [if_pos h26] at hP;refine AW.seq_k fun K hK=>AW.region (by kernel_rfl) ?_;simp -implicitDefEqProofs only[go_sem,seval,↓reduceIte];refine hK _ ?_;clear hK K;refine AW.ret ?_;simp -implicitDefEqProofs only[go_sem,seval,↓reduceIte];refine endK_some ?_;rw [hP];rfl
 have h26:¬ depthP r.nodes > 64:=by simpa using h26
 rw [if_neg h26] at hP;refine AW.skip ?_;simp -implicitDefEqProofs only[go_sem,seval,↓reduceIte];refine hK1 _ ?_;refine AW.weak (Weak.stF (fun o=>o==8) (l:=[(5,.view .new (.agg [encSl .any 3 encTk sl,.int .i64 r.i,encXs .new r.nodes,.int .i64 r.e,.func (.func 256) [] []])),(2,.ptr 2 g2 0)]) (m:=[(2,.cells .new g2 0 [.nils])]) ?_ ?_) ?_
 ·simp -implicitDefEqProofs only[go_sem,seval,↓reduceIte]
  exact ⟨Fz.ptr (v := .agg [encSl .any 3 encTk sl,.int .i64 r.i,encXs .new r.nodes,.int .i64 r.e,.func (.func 256) [] []]) (c := .new) (fz:=0) rfl (by simp -implicitDefEqProofs only[go_sem,seval,↓reduceIte];try rfl),Fz.same _⟩
 ·simp only [allFzO_cons,allFzO_nil,and_true]
  exact FzO.keep rfl (by simp -implicitDefEqProofs only[go_sem,seval,↓reduceIte])
 refine AW.seq_k fun K2 hK2=>?_;refine AW.regionT ⟨fun _ => .top,fun i=>if i=3 then .lend else if i=8 then .lend else .pure⟩ (by kernel_rfl) hG (by kernel_rfl) (by kernel_rfl) ?_;simp -implicitDefEqProofs only[go_sem,seval,↓reduceIte,encXs];refine hK2 _ ?_;refine AW.ret ?_;simp -implicitDefEqProofs only[go_sem,seval,↓reduceIte];refine endK_some ?_;rw [hP];rfl
end Go.Hs
end

section
namespace Go.Hs
open Go.Proofs
set_option maxRecDepth 10000
theorem toksF_text:∀ (f:Nat) (s:List UInt8) (i:Nat) (acc:List Tk),(∀ t∈acc,t.text.length≤s.length)→∀ t∈(toksF f s i acc).1,t.text.length≤s.length
 | 0,s,i,acc,h=>by rw [toksF];exact h
 | f+1,s,i,acc,h=>by
  rw [toksF]
  split
  ·split
   ·intro t ht;cases ht
   ·refine toksF_text f s _ _ ?_
    intro t ht
    rcases List.mem_append.1 ht with h1 | h1
    ·exact h t h1
    ·rw [List.mem_singleton.1 h1]
     show ((s.drop i).take _).length≤s.length
     rw [List.length_take,List.length_drop];omega
  ·exact h
theorem toks_ok {s:List UInt8} (hs:s.length<100000):TkOk (toksP s).1:=by
 unfold toksP
 split
 ·exact ⟨Nat.zero_lt_succ _,fun t ht=>by cases ht⟩
 refine ⟨?_,?_⟩
 ·have:=toksF_len (s.length+1) s (blk s) []
  have h0:([]:List Tk).length=0:=rfl;omega
 ·intro t ht
  have:=toksF_text (s.length+1) s (blk s) [] (fun t ht=>by cases ht) t ht;omega
end Go.Hs
end

section
namespace Go.Hs
open Go.Proofs
set_option maxRecDepth 10000
def encRr (c:Col) (p:List XN × Int × Int):V := .tuple [encXs c p.1,.int .i64 p.2.1,.int .i64 p.2.2]
theorem rFrom_spec (G:Nat→V) (hG:GOk G) (c:Col) (sl:Sl Tk) (hT:TkOk sl.l):Spec Tryz.prog G 85 [encSl c 3 encTk sl] hNone (fun v _=>v=encRr .new (fromP sl.l)):=by
 have hTl:=hT.len;refine Spec.of_code' 0 34 [.tmp 2,.tmp 3,.tmp 4] Tryz.func85 rfl rfl rfl rfl fun X=>?_
 have hP:fromP sl.l=if (climbP sl.l (sl.l.length+1) 1 ⟨0,[],0⟩).1=false then (([]:List XN),((climbP sl.l (sl.l.length+1) 1 ⟨0,[],0⟩).2.i:Int),(climbP sl.l (sl.l.length+1) 1 ⟨0,[],0⟩).2.e)
  else if depthP (climbP sl.l (sl.l.length+1) 1 ⟨0,[],0⟩).2.nodes > 64 then ([],0,3) else ((climbP sl.l (sl.l.length+1) 1 ⟨0,[],0⟩).2.nodes,((climbP sl.l (sl.l.length+1) 1 ⟨0,[],0⟩).2.i:Int),(0:Int)):=rfl
 have hr0:RSok sl.l ⟨0,[],0⟩:=⟨Nat.zero_le _,Nat.le_refl _⟩;have hcl:=fun g=>(rLevel_spec G hG sl hT g (sl.l.length+1) ⟨0,[],0⟩ (Nat.lt_succ_self _) hr0).1 1 (by decide) (by decide);have hnm2:=climb_names hT;have hok:=(climbP_bal sl.l (sl.l.length+1) 1 ⟨0,[],0⟩);generalize fromP sl.l=res at hP ⊢;generalize climbP sl.l (sl.l.length+1) 1 ⟨0,[],0⟩=y at hP hcl hok hnm2;obtain ⟨b,r⟩:=y;simp only at hP hcl hok hnm2
 have hrl:r.nodes.length<1000000:=by have:=(hok.ok hr0);have h1:=this.1;have h2:=this.2;omega
 refine AW.seq_k fun K hK=>AW.region (by kernel_rfl) ?_;simp -implicitDefEqProofs only[go_sem,seval,↓reduceIte];refine hK _ ?_;clear hK K;refine AW.seq_k fun K hK=>AW.region (by kernel_rfl) ?_;simp -implicitDefEqProofs only[go_sem,seval,↓reduceIte];intro g8;refine hK _ ?_;clear hK K;refine AW.weak (Weak.stF (fun _=>false) (l:=[(5,.ptr 8 g8 0)]) (m:=[(8,.cells .new g8 0 [encSl .any 3 encTk sl,.int .i64 0,.nils,.int .i64 0])]) ?_ ?_) ?_
 ·simp -implicitDefEqProofs only[go_sem,seval,↓reduceIte]
  exact Fz.same _
 ·simp only [allFzO_cons,allFzO_nil,and_true]
  exact FzO.of (c := .new) (fz:=0) (cs:=[encSl c 3 encTk sl,.int .i64 0,.nils,.int .i64 0]) rfl (by simp -implicitDefEqProofs only[go_sem,seval,↓reduceIte];try rfl) ⟨Fz.any (recol_tks _ _ _),Fz.same _,Fz.same _,Fz.same _,trivial⟩
 refine AW.seq_k fun K1 hK1=>?_;refine AW.seq_k fun K hK=>AW.region (by kernel_rfl) ?_;simp -implicitDefEqProofs only[go_sem,seval,↓reduceIte];refine RdS.callN hG (hcl g8) (by kernel_rfl) (fun F=>rfl) rfl rfl rfl _ (by simp -implicitDefEqProofs only[go_sem,seval,↓reduceIte];rfl) (by simp only [V.recolL_eq,List.map_cons,List.map_nil,recol_tks];rfl) (by simp -implicitDefEqProofs only[go_sem,seval,↓reduceIte]) fun gx=>?_;simp -implicitDefEqProofs only[go_sem,seval,↓reduceIte,sets];refine hK _ ?_;clear hK K
 cases b with
 | false =>
  refine AW.condS (by simp -implicitDefEqProofs only[go_sem,seval,↓reduceIte];rfl) (fun h9=>?_) (fun h9=>?_);rotate_left
  ·cases h9
  refine AW.weak (Weak.stF (fun o=>o==8) (l:=[(5,.view .new (.agg [encSl .any 3 encTk sl,.int .i64 r.i,grown 1012 gx 6 r.nodes,.int .i64 r.e]))]) (m:=[]) ?_ trivial) ?_
  ·simp -implicitDefEqProofs only[go_sem,seval,↓reduceIte]
   exact Fz.ptr (v := .agg [encSl .any 3 encTk sl,.int .i64 r.i,grown 1012 gx 6 r.nodes,.int .i64 r.e]) (c := .new) (fz:=0) rfl (by simp -implicitDefEqProofs only[go_sem,seval,↓reduceIte];try rfl)
  refine AW.seq_k fun K hK=>AW.regionT ⟨fun _ => .top,fun _ => .pure⟩ (by kernel_rfl) hG (by kernel_rfl) (by kernel_rfl) ?_;simp -implicitDefEqProofs only[go_sem,seval,↓reduceIte];refine hK _ ?_;clear hK K;refine AW.ret ?_;simp -implicitDefEqProofs only[go_sem,seval,↓reduceIte];refine endK_some ?_;rw [hP];rfl
 | true =>
 refine AW.condS (by simp -implicitDefEqProofs only[go_sem,seval,↓reduceIte];rfl) (fun h9=>?_) (fun h9=>?_)
 ·cases h9
 refine AW.skip ?_;simp -implicitDefEqProofs only[go_sem,seval,↓reduceIte];refine hK1 _ ?_;refine AW.weak (Weak.stF (fun o=>o==1012) (l:=[(5,.ptr 8 g8 0)]) (m:=[(8,.cells .new g8 0 [encSl .any 3 encTk sl,.int .i64 r.i,encXs .new r.nodes,.int .i64 r.e])]) ?_ ?_) ?_
 ·simp -implicitDefEqProofs only[go_sem,seval,↓reduceIte]
  exact Fz.same _
 ·simp only [allFzO_cons,allFzO_nil,and_true]
  exact FzO.of (c := .new) (fz:=0) (cs:=[encSl .any 3 encTk sl,.int .i64 r.i,grown 1012 gx 6 r.nodes,.int .i64 r.e]) rfl (by simp -implicitDefEqProofs only[go_sem,seval,↓reduceIte];try rfl) ⟨Fz.same _,Fz.same _,Fz.grown rfl (by simp -implicitDefEqProofs only[go_sem,seval,↓reduceIte];try rfl) encXN_cells,Fz.same _,trivial⟩
 rw [if_neg (by simp)] at hP;refine AW.seq_k fun K2 hK2=>?_;refine AW.seq_k fun K hK=>AW.region (by kernel_rfl) ?_;simp -implicitDefEqProofs only[go_sem,seval,↓reduceIte,encXs];refine CallA.pure hG (by kernel_rfl) ?_;simp -implicitDefEqProofs only[go_sem,seval,↓reduceIte,recol_xns];refine (rDepthN_spec G hG _ (grownS r.nodes) (by rw [grownS_l];exact hrl) (by rw [grownS_l];exact hnm2)).mono ?_;rintro _ _ rfl;rw [grownS_l];simp -implicitDefEqProofs only[go_sem,seval,↓reduceIte];refine hK _ ?_;clear hK K;refine AW.condS (by simp -implicitDefEqProofs only[go_sem,seval,↓reduceIte];rfl) (fun h26=>?_) (fun h26=>?_)
 ·have h26:depthP r.nodes > 64:=by simpa using h26
  rw [if_pos h26] at hP;refine AW.seq_k fun K hK=>AW.region (by kernel_rfl) ?_;simp -implicitDefEqProofs only[go_sem,seval,↓reduceIte];refine hK _ ?_;clear hK K;refine AW.ret ?_;simp -implicitDefEqProofs only[go_sem,seval,↓reduceIte];refine endK_some ?_;rw [hP];rfl
 have h26:¬ depthP r.nodes > 64:=by simpa using h26
 rw [if_neg h26] at hP;refine AW.skip ?_;simp -implicitDefEqProofs only[go_sem,seval,↓reduceIte];refine hK2 _ ?_;refine AW.weak (Weak.stF (fun o=>o==8) (l:=[(5,.view .new (.agg [encSl .any 3 encTk sl,.int .i64 r.i,encXs .new r.nodes,.int .i64 r.e]))]) (m:=[]) ?_ trivial) ?_
 ·simp -implicitDefEqProofs only[go_sem,seval,↓reduceIte]
  exact Fz.ptr (v := .agg [encSl .any 3 encTk sl,.int .i64 r.i,encXs .new r.nodes,.int .i64 r.e]) (c := .new) (fz:=0) rfl (by simp -implicitDefEqProofs only[go_sem,seval,↓reduceIte];try rfl)
 refine AW.seq_k fun K hK=>AW.regionT ⟨fun _ => .top,fun _ => .pure⟩ (by kernel_rfl) hG (by kernel_rfl) (by kernel_rfl) ?_;simp -implicitDefEqProofs only[go_sem,seval,↓reduceIte,encXs];refine hK _ ?_;clear hK K;refine AW.ret ?_;simp -implicitDefEqProofs only[go_sem,seval,↓reduceIte];refine endK_some ?_;rw [hP];rfl
end Go.Hs
end

section
namespace Go.Hs
theorem fromP_bad {l:List Tk} (h:(fromP l).2.2≠0):(fromP l).1=[]:=by
 unfold fromP at h ⊢
 split
 ·rfl
 ·split
  ·rfl
  ·rename_i h1 h2
   rw [if_neg h1,if_neg h2] at h;exact absurd rfl h
structure ASt where
 kind:Int
 name:List UInt8
 x:List XN
 deriving DecidableEq,Inhabited
def emitW:List UInt8:=[101,109,105,116]
def txtP (l:List Tk) (i:Nat):List UInt8:=match l[i]? with | some t=>t.text | none=>[]
def nameP (l:List Tk) (i:Nat):Bool:=match l[i]? with | some t=>t.kind==2 | none=>false
theorem txtP_some {l:List Tk} {i:Nat} {t:Tk} (h:l[i]? = some t):txtP l i=t.text:=by unfold txtP;rw [h]
theorem txtP_none {l:List Tk} {i:Nat} (h:l.length≤i):txtP l i=[]:=by unfold txtP;rw [List.getElem?_eq_none h]
theorem nameP_some {l:List Tk} {i:Nat} {t:Tk} (h:l[i]? = some t):nameP l i=(t.kind==2):=by unfold nameP;rw [h]
theorem nameP_none {l:List Tk} {i:Nat} (h:l.length≤i):nameP l i=false:=by unfold nameP;rw [List.getElem?_eq_none h]
def takeP (l:List Tk):List (List UInt8)→Nat→Bool × Nat
 | [],i=>(true,i)
 | w::r,i=>if txtP l i=w then takeP l r (i+1) else (false,i)
def shutS (l:List Tk) (s:ASt) (ws:List (List UInt8)) (i:Nat):ASt × Int × Int :=
 ((s,((takeP l ws i).2:Int),if (takeP l ws i).1=true then 0 else 110))
def exprS (l:List Tk) (k:Int) (nm:List UInt8) (ws:List (List UInt8)) (i:Nat):ASt × Int × Int :=
 if (fromP (l.drop i)).2.2≠0 then (⟨k,nm,[]⟩,(i:Int)+(fromP (l.drop i)).2.1,(fromP (l.drop i)).2.2)
 else shutS l ⟨k,nm,(fromP (l.drop i)).1⟩ ws (i+(fromP (l.drop i)).2.1.toNat)
def stmtQ (l:List Tk) (k:Int) (w:List UInt8) (ws:List (List UInt8)) (i:Nat):ASt × Int × Int :=
 if nameP l i=false then (⟨k,[],[]⟩,(i:Int),110)
 else if txtP l (i+1)≠w then (⟨k,txtP l i,[]⟩,((i+1:Nat):Int),110)
 else if k=2∧txtP l (i+2)=[41] then shutS l ⟨k,txtP l i,[]⟩ ws (i+2)
 else exprS l k (txtP l i) ws (i+2)
def stmtP (l:List Tk) (i:Nat):ASt × Int × Int :=
 if txtP l i=emitW then stmtQ l 2 [40] [[41],[59]] (i+1) else stmtQ l 1 [58,61] [[59]] i
theorem takeP_ge {l:List Tk}:∀ (ws:List (List UInt8)) (i:Nat),i≤(takeP l ws i).2
 | [],i=>Nat.le_refl _
 | w::r,i=>by
  rw [takeP]
  split
  ·exact Nat.le_trans (Nat.le_succ i) (takeP_ge r (i+1))
  ·exact Nat.le_refl _
theorem txtP_lt {l:List Tk} {i:Nat} (h:txtP l i≠[]):i<l.length:=by
 refine Classical.byContradiction fun h2=>h (txtP_none (by omega))
theorem takeP_ok {l:List Tk}:∀ (ws:List (List UInt8)) (i:Nat),(∀ w∈ws,w≠[])→(takeP l ws i).1=true→(takeP l ws i).2=i+ws.length∧(ws≠[]→(takeP l ws i).2≤l.length)
 | [],i,_,_=>⟨rfl,fun h=>absurd rfl h⟩
 | w::r,i,hw,h=>by
  rw [takeP] at h ⊢
  split at h
  ·rename_i h1
   rw [if_pos h1];obtain ⟨h2,h3⟩:=takeP_ok r (i+1) (fun x hx=>hw x (List.mem_cons_of_mem _ hx)) h;refine ⟨by rw [h2,List.length_cons];omega,fun _=>?_⟩;have h4:=txtP_lt (l:=l) (i:=i) (by rw [h1];exact hw w (List.mem_cons_self ..))
   cases r with
   | nil=>rw [h2];exact h4
   | cons a b=>exact h3 (by simp)
  ·cases h
structure StB (l:List Tk) (i:Nat) (r:ASt × Int × Int):Prop where
 ge:(i:Int)≤r.2.1
 ok:r.2.2=0→(i:Int)<r.2.1∧r.2.1≤l.length
theorem shutS_b {l:List Tk} {s:ASt} {ws:List (List UInt8)} {i j:Nat} (hw:∀ w∈ws,w≠[]) (hn:ws≠[]) (hij:i≤j):StB l i (shutS l s ws j):=by
 have h1:=takeP_ge (l:=l) ws j;refine ⟨by show (i:Int)≤((takeP l ws j).2:Int);omega,fun h=>?_⟩
 have ht:(takeP l ws j).1=true:=by
  refine Classical.byContradiction fun h2=>?_;have h:(if (takeP l ws j).1=true then (0:Int) else 110)=0:=h;rw [if_neg h2] at h;cases h
 obtain ⟨h3,h4⟩:=takeP_ok ws j hw ht;have h5:=h4 hn;have h6:0<ws.length:=List.length_pos_iff.2 hn
 show (i:Int)<((takeP l ws j).2:Int)∧((takeP l ws j).2:Int)≤l.length
 omega
theorem exprS_b {l:List Tk} {k:Int} {nm:List UInt8} {ws:List (List UInt8)} {i j:Nat} (hw:∀ w∈ws,w≠[]) (hn:ws≠[]) (hij:i≤j):StB l i (exprS l k nm ws j):=by
 unfold exprS;have hb:=(fromP_bnd (l:=l.drop j)).1
 split
 ·rename_i h
  exact ⟨by show (i:Int)≤(j:Int)+(fromP (l.drop j)).2.1;omega,fun h2=>absurd h2 h⟩
 ·exact shutS_b hw hn (by omega)
theorem stmtQ_b {l:List Tk} {k:Int} {w:List UInt8} {ws:List (List UInt8)} {i j:Nat} (hw:∀ w∈ws,w≠[]) (hn:ws≠[]) (hij:i≤j):StB l i (stmtQ l k w ws j):=by
 unfold stmtQ
 split
 ·exact ⟨by show (i:Int)≤(j:Int);omega,fun h=>by cases h⟩
 split
 ·exact ⟨by show (i:Int)≤((j+1:Nat):Int);omega,fun h=>by cases h⟩
 split
 ·exact shutS_b hw hn (by omega)
 ·exact exprS_b hw hn (by omega)
theorem stmtP_b (l:List Tk) (i:Nat):StB l i (stmtP l i):=by
 unfold stmtP
 split
 ·exact stmtQ_b (by decide) (by decide) (by omega)
 ·exact stmtQ_b (by decide) (by decide) (Nat.le_refl _)
def placeP (l:List Tk) (n:Nat) (i:Int):Int:=if i<l.length then (l.getD i.toNat ⟨0,[],0⟩).pos else n
def bodyF (l:List Tk) (n:Nat):Nat→Nat→List ASt→List ASt × Int × Int
 | 0,_,acc=>(acc,0,0)
 | f+1,i,acc =>
  if l.length≤i then (acc,0,0)
  else if acc.length=512 then ([],placeP l n i,3)
  else if (stmtP l i).2.2≠0 then ([],placeP l n (stmtP l i).2.1,(stmtP l i).2.2)
  else bodyF l n f (stmtP l i).2.1.toNat (acc++[(stmtP l i).1])
def bodyP (s:List UInt8):List ASt × Int × Int :=
 if (toksP s).2.2≠0 then ([],(toksP s).2.1,(toksP s).2.2) else bodyF (toksP s).1 s.length ((toksP s).1.length+1) 0 []
end Go.Hs
end

section
namespace Go.Hs
open Go.Proofs
set_option maxRecDepth 10000
theorem aText_spec (G:Nat→V) (hG:GOk G) (c:Col) (s:Sl Tk) (i:Nat) :
  Spec Tryz.prog G 83 [encSl c 3 encTk s,.int .i64 i] hNone (fun v _=>v = .str (txtP s.l i)):=by
 refine Spec.of_code' 0 14 [.tmp 4] Tryz.func83 rfl rfl rfl rfl fun X=>?_;refine AW.seq_k fun K hK=>AW.region (by kernel_rfl) ?_;simp -implicitDefEqProofs only[go_sem,seval,↓reduceIte];refine hK _ ?_;clear hK K;refine AW.seq_k fun K1 hK1=>?_
 by_cases hi:i<s.l.length
 ·have h1:decide ((i:Int)<s.l.length)=true:=by rw [decide_eq_true_iff];omega
  have hg:=List.getElem?_eq_getElem hi;generalize s.l[i]=t at hg;rw [txtP_some hg];refine AW.seq_k fun K hK=>AW.region (by kernel_rfl) ?_;simp -implicitDefEqProofs only[go_sem,seval,↓reduceIte,h1];refine hK _ ?_;clear hK K;refine AW.condS (by simp -implicitDefEqProofs only[go_sem,seval,↓reduceIte];rfl) (fun h8=>?_) (fun h8=>?_)
  ·refine AW.seq_k fun K hK=>AW.region (by kernel_rfl) ?_
   simp -implicitDefEqProofs only[go_sem,seval,↓reduceIte,hg,encTk_K];refine hK _ ?_;clear hK K;refine AW.ret ?_;simp -implicitDefEqProofs only[go_sem,seval,↓reduceIte];refine endK_some ?_;rfl
  ·cases h8
 ·have h1:decide ((i:Int)<s.l.length)=false:=by rw [decide_eq_false_iff_not];omega
  refine AW.seq_k fun K hK=>AW.region (by kernel_rfl) ?_;simp -implicitDefEqProofs only[go_sem,seval,↓reduceIte,h1];refine hK _ ?_;clear hK K;refine AW.condS (by simp -implicitDefEqProofs only[go_sem,seval,↓reduceIte];rfl) (fun h8=>?_) (fun h8=>?_)
  ·cases h8
  refine AW.skip ?_;simp -implicitDefEqProofs only[go_sem,seval,↓reduceIte];refine hK1 _ ?_;refine AW.seq_k fun K hK=>AW.region (by kernel_rfl) ?_;simp -implicitDefEqProofs only[go_sem,seval,↓reduceIte];refine hK _ ?_;clear hK K;refine AW.ret ?_;simp -implicitDefEqProofs only[go_sem,seval,↓reduceIte];refine endK_some ?_;rw [txtP_none (by omega)]
theorem aIsName_spec (G:Nat→V) (hG:GOk G) (c:Col) (s:Sl Tk) (i:Nat) :
  Spec Tryz.prog G 84 [encSl c 3 encTk s,.int .i64 i] hNone (fun v _=>v = .bool (nameP s.l i)):=by
 refine Spec.of_code' 0 17 [.tmp 4] Tryz.func84 rfl rfl rfl rfl fun X=>?_;refine AW.seq_k fun K hK=>AW.region (by kernel_rfl) ?_;simp -implicitDefEqProofs only[go_sem,seval,↓reduceIte];refine hK _ ?_;clear hK K
 by_cases hi:i<s.l.length
 ·have h1:decide ((i:Int)<s.l.length)=true:=by rw [decide_eq_true_iff];omega
  have hg:=List.getElem?_eq_getElem hi;generalize s.l[i]=t at hg;rw [nameP_some hg];refine AW.seq_k fun K hK=>AW.region (by kernel_rfl) ?_;simp -implicitDefEqProofs only[go_sem,seval,↓reduceIte,h1,hg,encTk_K];refine hK _ ?_;clear hK K;refine AW.ret ?_;simp -implicitDefEqProofs only[go_sem,seval,↓reduceIte];refine endK_some ?_;rfl
 ·have h1:decide ((i:Int)<s.l.length)=false:=by rw [decide_eq_false_iff_not];omega
  rw [nameP_none (by omega)];refine AW.seq_k fun K hK=>AW.region (by kernel_rfl) ?_;simp -implicitDefEqProofs only[go_sem,seval,↓reduceIte,h1];refine hK _ ?_;clear hK K;refine AW.ret ?_;simp -implicitDefEqProofs only[go_sem,seval,↓reduceIte];refine endK_some ?_;rfl
def encAS (c:Col) (s:ASt):V := .agg [.int .u8 s.kind,.str s.name,encSl c 6 encXN (grownS s.x)]
theorem encAS_K (c:Col) (s:ASt):encAS c s = .agg [.int .u8 s.kind,.str s.name,encSl c 6 encXN (grownS s.x)]:=rfl
def encSR (r:ASt × Int × Int):V := .tuple [encAS .new r.1,.int .i64 r.2.1,.int .i64 r.2.2]
theorem aStmt_spec (G:Nat→V) (hG:GOk G) (c:Col) (sl:Sl Tk) (hT:TkOk sl.l) (i:Nat) (hi:i≤sl.l.length) :
  Spec Tryz.prog G 39 [encSl c 3 encTk sl,.int .i64 i] hNone (fun v _=>v=encSR (stmtP sl.l i)):=by
 have hP:stmtP sl.l i=if txtP sl.l i=emitW then stmtQ sl.l 2 [40] [[41],[59]] (i+1) else stmtQ sl.l 1 [58,61] [[59]] i:=rfl
 generalize stmtP sl.l i=res at hP ⊢;have hTl:=hT.len;refine Spec.of_code' 0 98 [.cell 4 98,.tmp 5,.tmp 6] Tryz.func39 rfl rfl rfl rfl fun X=>?_;refine AW.seq_k fun K hK=>AW.region (by kernel_rfl) ?_;simp -implicitDefEqProofs only[go_sem,seval,↓reduceIte];intro g4;refine hK _ ?_;clear hK K;refine AW.seq_k fun K hK=>AW.region (by kernel_rfl) ?_;simp -implicitDefEqProofs only[go_sem,seval,↓reduceIte];intro g7;refine hK _ ?_;clear hK K;refine AW.seq_k fun K hK=>AW.region (by kernel_rfl) ?_;simp -implicitDefEqProofs only[go_sem,seval,↓reduceIte];intro g15;refine hK _ ?_;clear hK K;refine AW.seq_k fun K hK=>AW.region (by kernel_rfl) ?_;simp -implicitDefEqProofs only[go_sem,seval,↓reduceIte];intro g16;refine hK _ ?_;clear hK K
 refine AW.seqJ (fun (x:(Nat × Int) × List UInt8 × List (List UInt8))=>st [(0,encSl c 3 encTk sl),(1,.int .i64 x.1.1),(4,.ptr 4 g4 0),(7,.ptr 7 g7 0),(8,encSl .new 1 V.str (.mk false [x.2.1])),(9,encSl .new 1 V.str (.mk false x.2.2))] [(4,.cells .new g4 0 [.int .u8 0,.str [],.nils]),(7,.cells .new g7 0 [.int .u8 x.1.2,.str [],.nils])])
  (fun x=>x.1.1≤sl.l.length+1∧(x.1.2=1∨x.1.2=2)∧x.2.2.length≤2∧x.2.1≠[]∧res=stmtQ sl.l x.1.2 x.2.1 x.2.2 x.1.1) (fun K1 hK1=>?_) ?_
 ·refine AW.seq_k fun K hK=>AW.region (by kernel_rfl) ?_
  simp -implicitDefEqProofs only[go_sem,seval,↓reduceIte];refine CallA.pure hG (by kernel_rfl) ?_;simp -implicitDefEqProofs only[go_sem,seval,↓reduceIte,recol_tks];refine (aText_spec G hG _ sl i).mono ?_;rintro _ _ rfl
  by_cases he:txtP sl.l i=emitW
  ·rw [if_pos he] at hP
   rw [he];unfold emitW;have q1:(([101,109,105,116]:List UInt8)==[101,109,105,116])=true:=rfl;simp -implicitDefEqProofs only[go_sem,seval,↓reduceIte,q1];refine hK _ ?_;clear hK K;refine AW.condS (by simp -implicitDefEqProofs only[go_sem,seval,↓reduceIte];rfl) (fun h20=>?_) (fun h20=>?_);rotate_left
   ·cases h20
   refine AW.seq_k fun K hK=>AW.region (by kernel_rfl) ?_;simp -implicitDefEqProofs only[go_sem,seval,↓reduceIte];refine hK _ ?_;clear hK K;refine AW.seq_k fun K hK=>AW.region (by kernel_rfl) ?_;simp -implicitDefEqProofs only[go_sem,seval,↓reduceIte];intro g22;refine hK _ ?_;clear hK K;refine AW.seq_k fun K hK=>AW.region (by kernel_rfl) ?_;simp -implicitDefEqProofs only[go_sem,seval,↓reduceIte];intro g23;refine hK _ ?_;clear hK K
   have hw:IntKind.i64.wrap ((i:Int)+1)=((i+1:Nat):Int):=by rw [w64 (by omega) (by omega)];omega
   refine AW.region (by kernel_rfl) ?_;simp -implicitDefEqProofs only[go_sem,seval,↓reduceIte,hw];refine hK1 _ ((i+1,2),[40],[[41],[59]]) ⟨by show i+1≤_;omega,.inr rfl,by show (2:Nat)≤2;decide,by show ([40]:List UInt8)≠[];decide,hP⟩ (Weak.stF (fun o=>o==22 || o==23) ?_ ?_)
   ·simp -implicitDefEqProofs only[go_sem,seval,↓reduceIte]
    exact ⟨Fz.same _,Fz.same _,Fz.same _,Fz.same _,Fz.sl (f:=V.str) (l:=[[40]]) (m:=1) (g:=g22) (fz:=0) (c := .new) rfl (by simp -implicitDefEqProofs only[go_sem,seval,↓reduceIte];try rfl) (fun _=>rfl),Fz.sl (f:=V.str) (l:=[[41],[59]]) (m:=1) (g:=g23) (fz:=0) (c := .new) rfl (by simp -implicitDefEqProofs only[go_sem,seval,↓reduceIte];try rfl) (fun _=>rfl)⟩
   ·simp only [allFzO_cons,allFzO_nil,and_true]
    exact ⟨FzO.keep rfl (by simp -implicitDefEqProofs only[go_sem,seval,↓reduceIte];try rfl),FzO.keep rfl (by simp -implicitDefEqProofs only[go_sem,seval,↓reduceIte];try rfl)⟩
  ·rw [if_neg he] at hP
   have q1:(txtP sl.l i==[101,109,105,116])=false:=by rw [beq_eq_false_iff_ne];exact he
   simp -implicitDefEqProofs only[go_sem,seval,↓reduceIte,q1];refine hK _ ?_;clear hK K;refine AW.condS (by simp -implicitDefEqProofs only[go_sem,seval,↓reduceIte];rfl) (fun h20=>?_) (fun h20=>?_)
   ·cases h20
   refine AW.skip ?_;simp -implicitDefEqProofs only[go_sem,seval,↓reduceIte];refine hK1 _ ((i,1),[58,61],[[59]]) ⟨by show i≤_;omega,.inl rfl,by show (1:Nat)≤2;decide,by show ([58,61]:List UInt8)≠[];decide,hP⟩ (Weak.stF (fun o=>o==15 || o==16) ?_ ?_)
   ·simp -implicitDefEqProofs only[go_sem,seval,↓reduceIte]
    exact ⟨Fz.same _,Fz.same _,Fz.same _,Fz.same _,Fz.sl (f:=V.str) (l:=[[58,61]]) (m:=1) (g:=g15) (fz:=0) (c := .new) rfl (by simp -implicitDefEqProofs only[go_sem,seval,↓reduceIte];try rfl) (fun _=>rfl),Fz.sl (f:=V.str) (l:=[[59]]) (m:=1) (g:=g16) (fz:=0) (c := .new) rfl (by simp -implicitDefEqProofs only[go_sem,seval,↓reduceIte];try rfl) (fun _=>rfl)⟩
   ·simp only [allFzO_cons,allFzO_nil,and_true]
    exact ⟨FzO.keep rfl (by simp -implicitDefEqProofs only[go_sem,seval,↓reduceIte];try rfl),FzO.keep rfl (by simp -implicitDefEqProofs only[go_sem,seval,↓reduceIte];try rfl)⟩
 clear hP;rintro ⟨⟨j,k⟩,w,ws⟩ ⟨hj,hk,hws,hwne,hP⟩;simp only at hj hk hws hwne hP;have hl1:(Sl.mk false [w]).l=[w]:=rfl;refine AW.seq_k fun K2 hK2=>?_;refine AW.seq_k fun K hK=>AW.region (by kernel_rfl) ?_;simp -implicitDefEqProofs only[go_sem,seval,↓reduceIte];refine CallA.pure hG (by kernel_rfl) ?_;simp -implicitDefEqProofs only[go_sem,seval,↓reduceIte,recol_tks];refine (aIsName_spec G hG _ sl j).mono ?_;rintro _ _ rfl;unfold stmtQ at hP
 cases hn:nameP sl.l j with
 | false =>
  rw [if_pos hn] at hP;simp -implicitDefEqProofs only[go_sem,seval,↓reduceIte];refine hK _ ?_;clear hK K;refine AW.condS (by simp -implicitDefEqProofs only[go_sem,seval,↓reduceIte];rfl) (fun h29=>?_) (fun h29=>?_);rotate_left
  ·cases h29
  refine AW.seq_k fun K hK=>AW.region (by kernel_rfl) ?_;simp -implicitDefEqProofs only[go_sem,seval,↓reduceIte];refine hK _ ?_;clear hK K;refine AW.ret ?_;simp -implicitDefEqProofs only[go_sem,seval,↓reduceIte];refine endK_some ?_;rw [hP];rfl
 | true =>
 rw [if_neg (by rw [hn];decide)] at hP
 have hjl:j<sl.l.length:=by
  refine Classical.byContradiction fun h=>?_;rw [nameP_none (by omega)] at hn;cases hn
 have hg:=List.getElem?_eq_getElem hjl;generalize sl.l[j]=t at hg;rw [txtP_some hg] at hP;simp -implicitDefEqProofs only[go_sem,seval,↓reduceIte];refine hK _ ?_;clear hK K;refine AW.condS (by simp -implicitDefEqProofs only[go_sem,seval,↓reduceIte];rfl) (fun h29=>?_) (fun h29=>?_)
 ·cases h29
 refine AW.skip ?_;simp -implicitDefEqProofs only[go_sem,seval,↓reduceIte];refine hK2 _ ?_
 have hw:IntKind.i64.wrap ((j:Int)+1)=((j+1:Nat):Int):=by rw [w64 (by omega) (by omega)];omega
 have hw2:IntKind.i64.wrap (((j+1:Nat):Int)+1)=((j+2:Nat):Int):=by rw [w64 (by omega) (by omega)];omega
 refine AW.seq_k fun K hK=>AW.region (by kernel_rfl) ?_;simp -implicitDefEqProofs only[go_sem,seval,↓reduceIte,hg,encTk_K];refine hK _ ?_;clear hK K;refine AW.seq_k fun K hK=>AW.region (by kernel_rfl) ?_;simp -implicitDefEqProofs only[go_sem,seval,↓reduceIte,hw];refine hK _ ?_;clear hK K
 have p1:PureC Tryz.prog G 83 [encSl c 3 encTk sl,.int .i64 ((j+1:Nat):Int)] (.str (txtP sl.l (j+1))):=⟨by kernel_rfl,by
  simp -implicitDefEqProofs only[go_sem,seval,↓reduceIte,recol_tks];refine (aText_spec G hG _ sl (j+1)).mono ?_;rintro _ _ rfl
  rfl⟩
 refine AW.seq_k fun K3 hK3=>?_;refine AW.seq_k fun K hK=>AW.regionT ⟨fun i=>if i=2 then .str (txtP sl.l (j+1)) else .top,fun _ => .pure⟩ (by kernel_rfl) hG (by kernel_rfl) (by kernel_rfl) ?_;simp -implicitDefEqProofs only[go_sem,seval,↓reduceIte,hl1,List.getElem?_cons_zero];refine ⟨p1,?_⟩;refine hK _ ?_;clear hK K
 by_cases hw1:txtP sl.l (j+1)=w
 rotate_left
 ·rw [if_pos hw1] at hP
  have q1:(txtP sl.l (j+1)==w)=false:=by simpa using hw1
  rw [q1];refine AW.condS (by simp -implicitDefEqProofs only[go_sem,seval,↓reduceIte];rfl) (fun h46=>?_) (fun h46=>?_);rotate_left
  ·cases h46
  refine AW.seq_k fun K hK=>AW.region (by kernel_rfl) ?_;simp -implicitDefEqProofs only[go_sem,seval,↓reduceIte];refine hK _ ?_;clear hK K;refine AW.ret ?_;simp -implicitDefEqProofs only[go_sem,seval,↓reduceIte];refine endK_some ?_;rw [hP];rfl
 rw [if_neg (by simpa using hw1)] at hP
 have q1:(txtP sl.l (j+1)==w)=true:=by simpa using hw1
 rw [q1];clear p1;refine AW.condS (by simp -implicitDefEqProofs only[go_sem,seval,↓reduceIte];rfl) (fun h46=>?_) (fun h46=>?_)
 ·cases h46
 refine AW.skip ?_;simp -implicitDefEqProofs only[go_sem,seval,↓reduceIte];refine hK3 _ ?_
 have hjl1:j+1<sl.l.length:=by
  refine Classical.byContradiction fun h=>?_;rw [txtP_none (by omega)] at hw1;exact hwne hw1.symm
 refine AW.seq_k fun K hK=>AW.region (by kernel_rfl) ?_;simp -implicitDefEqProofs only[go_sem,seval,↓reduceIte,hw2];refine hK _ ?_;clear hK K
 refine AW.seqJ (fun (x:Nat × List XN)=>st [(0,encSl c 3 encTk sl),(1,.int .i64 x.1),(4,.ptr 4 g4 0),(7,.ptr 7 g7 0),(9,encSl .new 1 V.str (.mk false ws))] [(4,.cells .new g4 0 [.int .u8 0,.str [],.nils]),(7,.cells .new g7 0 [.int .u8 k,.str t.text,encSl .new 6 encXN (grownS x.2)])])
  (fun x=>x.1≤sl.l.length+2∧res=shutS sl.l ⟨k,t.text,x.2⟩ ws x.1) (fun K4 hK4=>?_) ?_
 ·refine AW.seqJ (fun (b:Bool)=>st [(0,encSl c 3 encTk sl),(1,.int .i64 ((j+2:Nat):Int)),(4,.ptr 4 g4 0),(7,.ptr 7 g7 0),(9,encSl .new 1 V.str (.mk false ws)),(59,.bool b)] [(4,.cells .new g4 0 [.int .u8 0,.str [],.nils]),(7,.cells .new g7 0 [.int .u8 k,.str t.text,.nils])])
   (fun b=>b=true ↔ ¬ (k=2∧txtP sl.l (j+2)=[41])) (fun K5 hK5=>?_) ?_
  ·rcases hk with rfl | rfl
   ·refine AW.region (by kernel_rfl) ?_
    have q2:((1:Int)==1)=true:=rfl;simp -implicitDefEqProofs only[go_sem,seval,↓reduceIte,q2];exact hK5 _ true ⟨fun _ h=>absurd h.1 (by decide),fun _=>rfl⟩ (Weak.st (by simp -implicitDefEqProofs only[go_sem,seval,↓reduceIte];try rfl) (by simp -implicitDefEqProofs only[go_sem,seval,↓reduceIte];try rfl))
   ·refine AW.region (by kernel_rfl) ?_
    have q2:((2:Int)==1)=false:=rfl;simp -implicitDefEqProofs only[go_sem,seval,↓reduceIte,q2];refine CallA.pure hG (by kernel_rfl) ?_;simp -implicitDefEqProofs only[go_sem,seval,↓reduceIte,recol_tks];refine (aText_spec G hG _ sl (j+2)).mono ?_;rintro _ _ rfl;simp -implicitDefEqProofs only[go_sem,seval,↓reduceIte];refine hK5 _ (!(txtP sl.l (j+2)==[41])) ⟨fun h h2=>?_,fun h=>?_⟩ (Weak.st (by simp -implicitDefEqProofs only[go_sem,seval,↓reduceIte];try rfl) (by simp -implicitDefEqProofs only[go_sem,seval,↓reduceIte];try rfl))
    ·rw [h2.2] at h;cases h
    ·have:¬ txtP sl.l (j+2)=[41]:=fun h3=>h ⟨rfl,h3⟩
     simpa using this
  intro b hb
  cases b with
  | false =>
   have hq:k=2∧txtP sl.l (j+2)=[41]:=Classical.byContradiction fun h=>by have:=hb.2 h;cases this
   rw [if_pos hq] at hP;refine AW.condS (by simp -implicitDefEqProofs only[go_sem,seval,↓reduceIte];rfl) (fun h59=>?_) (fun h59=>?_)
   ·cases h59
   refine AW.skip ?_;simp -implicitDefEqProofs only[go_sem,seval,↓reduceIte];exact hK4 _ (j+2,[]) ⟨by show j+2≤_;omega,hP⟩ (Weak.st (by simp -implicitDefEqProofs only[go_sem,seval,↓reduceIte];try rfl) (by simp -implicitDefEqProofs only[go_sem,seval,↓reduceIte];try rfl))
  | true =>
  have hq:=hb.1 rfl;rw [if_neg hq] at hP;unfold exprS at hP;refine AW.condS (by simp -implicitDefEqProofs only[go_sem,seval,↓reduceIte];rfl) (fun h59=>?_) (fun h59=>?_);rotate_left
  ·cases h59
  have hj2:j+2≤sl.l.length:=hjl1
  have hsub:(sl.sub (j+2) sl.l.length).l=sl.l.drop (j+2):=by rw [Sl.sub_l];exact List.take_of_length_le (by rw [List.length_drop];omega)
  have hfr:=fun c=>rFrom_spec G hG c (sl.sub (j+2) sl.l.length) (by rw [hsub];exact ⟨by rw [List.length_drop];omega,fun t ht=>hT.text t (List.mem_of_mem_drop ht)⟩);have hbd:=fromP_bnd (l:=sl.l.drop (j+2));rw [hsub] at hfr;rw [List.length_drop] at hbd;generalize fromP (sl.l.drop (j+2))=p at hP hfr hbd;obtain ⟨xs,n,e⟩:=p;simp only at hP hbd
  have hw3:IntKind.i64.wrap (((j+2:Nat):Int)+n)=((j+2+n.toNat:Nat):Int):=by rw [w64 (by omega) (by omega)];omega
  have hll:sl.l.length≤sl.l.length:=Nat.le_refl _;refine AW.seq_k fun K hK=>AW.region (by kernel_rfl) ?_;simp -implicitDefEqProofs only[go_sem,seval,↓reduceIte,hj2,hll,and_self];refine CallA.pure hG (by kernel_rfl) ?_;simp -implicitDefEqProofs only[go_sem,seval,↓reduceIte,recol_tks];refine (hfr _).mono ?_;rintro _ _ rfl;simp -implicitDefEqProofs only[go_sem,seval,↓reduceIte,encRr,encXs,recol_xns];refine hK _ ?_;clear hK K;refine AW.seq_k fun K hK=>AW.region (by kernel_rfl) ?_;simp -implicitDefEqProofs only[go_sem,seval,↓reduceIte,hw3];refine hK _ ?_;clear hK K;refine AW.seq_k fun K6 hK6=>?_
  by_cases he:e=0
  rotate_left
  ·rw [if_pos he] at hP
   have q2:(e==0)=false:=by simpa using he
   refine AW.seq_k fun K hK=>AW.region (by kernel_rfl) ?_;simp -implicitDefEqProofs only[go_sem,seval,↓reduceIte,bne,q2];refine hK _ ?_;clear hK K;refine AW.condS (by simp -implicitDefEqProofs only[go_sem,seval,↓reduceIte];rfl) (fun h72=>?_) (fun h72=>?_);rotate_left
   ·cases h72
   refine AW.seq_k fun K hK=>AW.region (by kernel_rfl) ?_;simp -implicitDefEqProofs only[go_sem,seval,↓reduceIte];refine hK _ ?_;clear hK K;refine AW.ret ?_;simp -implicitDefEqProofs only[go_sem,seval,↓reduceIte];refine endK_some ?_;rw [hP,show ((j+2:Nat):Int)+n=((j+2+n.toNat:Nat):Int) by omega];rfl
  rw [if_neg (by simpa using he)] at hP
  have q2:(e==0)=true:=by simpa using he
  refine AW.seq_k fun K hK=>AW.region (by kernel_rfl) ?_;simp -implicitDefEqProofs only[go_sem,seval,↓reduceIte,bne,q2];refine hK _ ?_;clear hK K;refine AW.condS (by simp -implicitDefEqProofs only[go_sem,seval,↓reduceIte];rfl) (fun h72=>?_) (fun h72=>?_)
  ·cases h72
  refine AW.skip ?_;simp -implicitDefEqProofs only[go_sem,seval,↓reduceIte];refine hK6 _ ?_;refine AW.region (by kernel_rfl) ?_;simp -implicitDefEqProofs only[go_sem,seval,↓reduceIte];exact hK4 _ (j+2+n.toNat,xs) ⟨by show j+2+n.toNat≤_;omega,hP⟩ (Weak.st (by simp -implicitDefEqProofs only[go_sem,seval,↓reduceIte];try rfl) (by simp -implicitDefEqProofs only[go_sem,seval,↓reduceIte];try rfl))
 rintro ⟨i2,xs⟩ ⟨hi2,hP⟩;simp only at hi2 hP;unfold shutS at hP;refine AW.seq_k fun K5 hK5=>?_;refine AW.seq_k fun K hK=>AW.region (by kernel_rfl) ?_;simp -implicitDefEqProofs only[go_sem,seval,↓reduceIte];refine hK _ ?_;clear hK K;refine AW.block ?_
 refine AW.for ws.length (fun m (_:Unit)=>st [(0,encSl c 3 encTk sl),(1,.int .i64 ((i2+m:Nat):Int)),(4,.ptr 4 g4 0),(7,.ptr 7 g7 0),(9,encSl .new 1 V.str (.mk false ws)),(13,.int .i64 m)] [(4,.cells .new g4 0 [.int .u8 0,.str [],.nils]),(7,.cells .new g7 0 [.int .u8 k,.str t.text,encSl .new 6 encXN (grownS xs)])])
  (fun m _=>takeP sl.l ws i2=takeP sl.l (ws.drop m) (i2+m)) 0 () (Nat.zero_le _) rfl (Weak.st (by simp -implicitDefEqProofs only[go_sem,seval,↓reduceIte];try rfl) (by simp -implicitDefEqProofs only[go_sem,seval,↓reduceIte];try rfl)) ?_
 intro m _ hm hR L7 hL7;refine AW.seq_k fun K8 hK8=>?_;have hwl:(Sl.mk false ws).l=ws:=rfl;refine AW.seq_k fun K hK=>AW.region (by kernel_rfl) ?_;simp -implicitDefEqProofs only[go_sem,seval,↓reduceIte,hwl];refine hK _ ?_;clear hK K;refine AW.condS (by simp -implicitDefEqProofs only[go_sem,seval,↓reduceIte];rfl) (fun h81=>?_) (fun h81=>?_);rotate_left
 ·have hm2:m=ws.length:=by have h81:decide ((m:Int)<ws.length)=false:=h81;simp at h81;omega
  rw [List.drop_eq_nil_of_le (by omega)] at hR;refine AW.exit ?_;simp -implicitDefEqProofs only[go_sem,seval,↓reduceIte];refine hK5 _ ?_;refine AW.seq_k fun K hK=>AW.region (by kernel_rfl) ?_;simp -implicitDefEqProofs only[go_sem,seval,↓reduceIte];refine hK _ ?_;clear hK K;refine AW.ret ?_;simp -implicitDefEqProofs only[go_sem,seval,↓reduceIte];refine endK_some ?_;rw [hP,hR]
  show _=encSR (_,((i2+m:Nat):Int),if true=true then 0 else 110)
  rfl
 have hm1:m<ws.length:=by have h81:decide ((m:Int)<ws.length)=true:=h81;simp at h81;omega
 have hgm:ws[m]? = some ws[m]:=List.getElem?_eq_getElem hm1;have hdr:ws.drop m=ws[m]::ws.drop (m+1):=List.drop_eq_getElem_cons hm1;generalize ws[m]=w2 at hgm hdr;rw [hdr,takeP] at hR;refine AW.skip ?_;simp -implicitDefEqProofs only[go_sem,seval,↓reduceIte];refine hK8 _ ?_
 have p2:PureC Tryz.prog G 83 [encSl c 3 encTk sl,.int .i64 ((i2+m:Nat):Int)] (.str (txtP sl.l (i2+m))):=⟨by kernel_rfl,by
  simp -implicitDefEqProofs only[go_sem,seval,↓reduceIte,recol_tks];refine (aText_spec G hG _ sl (i2+m)).mono ?_;rintro _ _ rfl
  rfl⟩
 refine AW.seq_k fun K9 hK9=>?_;refine AW.block ?_;refine AW.seq_k fun K10 hK10=>?_;refine AW.seq_k fun K hK=>AW.regionT ⟨fun i=>if i=2 then .str (txtP sl.l (i2+m)) else .top,fun _ => .pure⟩ (by kernel_rfl) hG (by kernel_rfl) (by kernel_rfl) ?_;simp -implicitDefEqProofs only[go_sem,seval,↓reduceIte,hwl,hgm];refine ⟨p2,?_⟩;refine hK _ ?_;clear hK K;clear p2
 by_cases hw4:txtP sl.l (i2+m)=w2
 rotate_left
 ·rw [if_neg hw4] at hR
  have q2:(txtP sl.l (i2+m)==w2)=false:=by simpa using hw4
  rw [q2];refine AW.condS (by simp -implicitDefEqProofs only[go_sem,seval,↓reduceIte];rfl) (fun h91=>?_) (fun h91=>?_);rotate_left
  ·cases h91
  refine AW.seq_k fun K hK=>AW.region (by kernel_rfl) ?_;simp -implicitDefEqProofs only[go_sem,seval,↓reduceIte];refine hK _ ?_;clear hK K;refine AW.ret ?_;simp -implicitDefEqProofs only[go_sem,seval,↓reduceIte];refine endK_some ?_;rw [hP,hR];rfl
 rw [if_pos hw4] at hR
 have q2:(txtP sl.l (i2+m)==w2)=true:=by simpa using hw4
 rw [q2];refine AW.condS (by simp -implicitDefEqProofs only[go_sem,seval,↓reduceIte];rfl) (fun h91=>?_) (fun h91=>?_)
 ·cases h91
 refine AW.skip ?_;simp -implicitDefEqProofs only[go_sem,seval,↓reduceIte];refine hK10 _ ?_
 have hw5:IntKind.i64.wrap (((i2+m:Nat):Int)+1)=((i2+(m+1):Nat):Int):=by rw [w64 (by omega) (by omega)];omega
 have hw6:IntKind.i64.wrap ((m:Int)+1)=((m+1:Nat):Int):=by rw [w64 (by omega) (by omega)];omega
 refine AW.region (by kernel_rfl) ?_;simp -implicitDefEqProofs only[go_sem,seval,↓reduceIte,hw5];refine hK9 _ ?_;refine AW.region (by kernel_rfl) ?_;simp -implicitDefEqProofs only[go_sem,seval,↓reduceIte,hw6];exact hL7 _ ⟨hm1,(),hR,Weak.st (by simp -implicitDefEqProofs only[go_sem,seval,↓reduceIte];try rfl) (by simp -implicitDefEqProofs only[go_sem,seval,↓reduceIte];try rfl)⟩
end Go.Hs
end

section
namespace Go.Proofs
open Go.Shelf
def Tryz.laysGR_ren:Go.Shelf.Ren:=⟨fun | 4=>232 | n=>n,fun | 22=>36 | 25=>9 | 3=>3 | 4=>4 | 9=>9 | 20=>20 | 0=>0 | n=>n,fun | n=>n⟩
theorem Tryz.laysGR:Go.Proofs.Lays8.n4 Tryz.prog Tryz.laysGR_ren:={
 mixed:=by kernel_rfl
 f4:=⟨Tryz.f232.name,by decide,Tryz.func232.trans (congrArg some (by kernel_rfl))⟩
 t0:=Tryz.underlying0
 a0:=Tryz.isAgg0
 z0:=Tryz.sizeOf0
 v0:=Tryz.zeroValue0
 t3:=Tryz.underlying3
 a3:=Tryz.isAgg3
 z3:=Tryz.sizeOf3
 v3:=Tryz.zeroValue3
 t4:=Tryz.underlying4
 a4:=Tryz.isAgg4
 z4:=Tryz.sizeOf4
 v4:=Tryz.zeroValue4
 t9:=Tryz.underlying9
 a9:=Tryz.isAgg9
 z9:=Tryz.sizeOf9
 v9:=Tryz.zeroValue9
 t20:=Tryz.underlying20
 a20:=Tryz.isAgg20
 z20:=Tryz.sizeOf20
 v20:=Tryz.zeroValue20
 t22:=Tryz.underlying36
 a22:=Tryz.isAgg36
 z22:=Tryz.sizeOf36
 v22:=Tryz.zeroValue36 }
end Go.Proofs
end

section
namespace Go.Hs
open Go.Proofs
set_option maxRecDepth 10000
theorem zc_size (z:Array Value) (n:Nat) (h:z.size=1):(Builtin.zeroCells z n).size=n:=by
 simp [Builtin.zeroCells,h]
theorem grow_call {G:Nat→V} (hG:GOk G) (o n:Nat) (hn:n≤1000000000) {H:Heap} {K:V→Heap→Prop} (h0:n=0→K .nils H) (h1:n≠0→∀ g,K (.msl o g 0 0 1) (upd H o (.cells .new g 0 []))) :
  CallA Tryz.prog G 232 [.nils,.int .i64 n] H K:=by
 refine ⟨by kernel_rfl,fun X cargs hI _ hA=>?_⟩;obtain ⟨x,y,rfl,hx,hy⟩:=hA.two;cases hx;cases hy
 by_cases hz:n=0
 ·subst hz
  refine (show Calls Tryz.prog 232 _ _ _ from Any8.slices_Grow_room Tryz.laysGR none 0 0 0 X.w (by omega) (by omega) (by omega) (by omega)).mono ?_;rintro e w' ⟨rfl,rfl⟩;exact ⟨_,.nils,H,X,rfl,rfl,Goes.refl hI,.nils,h0 rfl⟩
 ·obtain ⟨i0,hi0,hb,hs,z,hz0,hzs⟩:∃ i0,Tryz.prog.info? 9=some i0∧i0.bytes=16∧i0.size=1∧∃ z,i0.zero=some z∧z.cells.size=1:=by
   have hb:bytesV Tryz.prog 9=some 16:=by kernel_rfl
   have hz:szOf Tryz.prog 9=some 1:=by kernel_rfl
   have h0:((Tryz.prog.info? 9).bind fun i=>i.zero.map fun z=>z.cells.size)=some 1:=by kernel_rfl
   unfold bytesV at hb;unfold szOf at hz
   cases hi:Tryz.prog.info? 9 with
   | none=>rw [hi] at hb;cases hb
   | some i0 =>
    rw [hi] at hb hz h0;simp only [Option.map_some,Option.some.injEq,Option.bind_some] at hb hz h0
    cases hz0:i0.zero with
    | none=>rw [hz0] at h0;cases h0
    | some z =>
     rw [hz0] at h0;simp only [Option.map_some,Option.some.injEq] at h0;exact ⟨i0,rfl,hb,hz,z,hz0,h0⟩
  refine (show Calls Tryz.prog 232 _ _ _ from Any8.slices_Grow_grow Tryz.laysGR i0 z hi0 hz0 (by omega) none 0 0 n [] X.w (by omega) (by omega) (by rw [hb];omega) (by omega) (by simp) (fun _=>rfl) (fun a ha=>by cases ha)).mono ?_;rintro e w' ⟨rfl,rfl⟩;have hge:=grownCap_ge X.w (0+n) 0 9
  obtain ⟨v,H',Y,e1,e2,e3,e4⟩:=append_new hI o (E:=1) (need:=0) (cap:=grownCap X.w (0+n) 0 9) (xs:=[]) (cs:=[]) ⟨rfl,fun _ h=>by simp at h,fun i h=>by simp at h⟩ rfl (Nat.zero_le _) 9
   (Builtin.zeroCells z.cells (0+n-0)++Builtin.zeroCells z.cells (grownCap X.w (0+n) 0 9-(0+n))) (by rw [Array.size_append,zc_size _ _ hzs,zc_size _ _ hzs];omega) .new (.inl rfl) 0 (h1 hz)
  refine ⟨_,v,H',Y,rfl,?_,e2,e3,e4⟩;rw [e1];simp;rfl
theorem flat_strW (l:List (List UInt8)):flat (l.map V.str)=l.map V.str:=by
 induction l with
 | nil=>rfl
 | cons x r ih=>unfold flat at ih ⊢;rw [List.map_cons,List.flatMap_cons,ih];rfl
def encSS (c c1:Col) (s:Sl (Sl (List UInt8))):V:=encSl c 1 (fun t=>encSl c1 1 V.str t) s
def catL (l:List (Sl (List UInt8))):List (List UInt8):=l.flatMap Sl.l
theorem catL_take {l:List (Sl (List UInt8))} {k:Nat} {t:Sl (List UInt8)} (h:l[k]? = some t):catL (l.take (k+1))=catL (l.take k)++t.l:=by
 unfold catL;rw [List.take_add_one,h,List.flatMap_append];simp
theorem catL_len {l:List (Sl (List UInt8))} {k:Nat}:(catL (l.take k)).length≤(catL l).length:=by
 unfold catL
 conv=>rhs;rw [← List.take_append_drop k l,List.flatMap_append,List.length_append]
 omega
theorem sConcat_spec (G:Nat→V) (hG:GOk G) (c c1:Col) (s:Sl (Sl (List UInt8))) (hs:s.l.length<1000000) (hl:(catL s.l).length<1000000) (hne:(catL s.l).length≠0) :
  Spec Tryz.prog G 161 [encSS c c1 s] hNone (fun v _=>v=encSl .new 1 V.str (.mk false (catL s.l))):=by
 refine Spec.of_code' 0 36 [.tmp 2] Tryz.func161 rfl rfl rfl rfl fun X=>?_;unfold encSS;refine AW.seq_k fun K hK=>AW.region (by kernel_rfl) ?_;simp -implicitDefEqProofs only[go_sem,seval,↓reduceIte];refine hK _ ?_;clear hK K;refine AW.seq_k fun K hK=>AW.region (by kernel_rfl) ?_;simp -implicitDefEqProofs only[go_sem,seval,↓reduceIte];refine hK _ ?_;clear hK K;refine AW.seq_k fun K1 hK1=>?_;refine AW.seq_k fun K hK=>AW.region (by kernel_rfl) ?_;simp -implicitDefEqProofs only[go_sem,seval,↓reduceIte];refine hK _ ?_;clear hK K;refine AW.block ?_
 refine AW.for s.l.length (fun k (_:Unit)=>st [(0,encSl c 1 (fun t=>encSl c1 1 V.str t) s),(3,.int .i64 (catL (s.l.take k)).length),(9,encSl c 1 (fun t=>encSl c1 1 V.str t) s),(10,.int .i64 s.l.length),(11,.int .i64 k)] [])
  (fun _ _=>True) 0 () (Nat.zero_le _) trivial (Weak.st (by simp -implicitDefEqProofs only[go_sem,seval,↓reduceIte];try rfl) (by simp -implicitDefEqProofs only[go_sem,seval,↓reduceIte];try rfl)) ?_
 intro k _ hk _ L2 hL2;refine AW.seq_k fun K hK=>AW.region (by kernel_rfl) ?_;simp -implicitDefEqProofs only[go_sem,seval,↓reduceIte];refine hK _ ?_;clear hK K;refine AW.seq_k fun K3 hK3=>?_;refine AW.condS (by simp -implicitDefEqProofs only[go_sem,seval,↓reduceIte];rfl) (fun h12=>?_) (fun h12=>?_)
 ·have hk1:k<s.l.length:=by simpa using h12
  have hg:=List.getElem?_eq_getElem hk1;have htk:=catL_take hg;have hle:=catL_len (l:=s.l) (k:=k+1);generalize s.l[k]=t at hg htk;refine AW.skip ?_;simp -implicitDefEqProofs only[go_sem,seval,↓reduceIte];refine hK3 _ ?_;refine AW.seq_k fun K4 hK4=>?_;refine AW.block ?_
  have hlen:(catL (s.l.take (k+1))).length=(catL (s.l.take k)).length+t.l.length:=by rw [htk,List.length_append]
  have hw:IntKind.i64.wrap (((catL (s.l.take k)).length:Int)+(t.l.length:Int))=(((catL (s.l.take k)).length+t.l.length:Nat):Int):=by rw [w64 (by omega) (by omega)];omega
  have hnn:decide ((((catL (s.l.take k)).length+t.l.length:Nat):Int)<0)=false:=by rw [decide_eq_false_iff_not];omega
  refine AW.seq_k fun K hK=>AW.region (by kernel_rfl) ?_;simp -implicitDefEqProofs only[go_sem,seval,↓reduceIte,hg];refine hK _ ?_;clear hK K;refine AW.seq_k fun K hK=>AW.region (by kernel_rfl) ?_;simp -implicitDefEqProofs only[go_sem,seval,↓reduceIte,hw];refine hK _ ?_;clear hK K;refine AW.seq_k fun K hK=>AW.region (by kernel_rfl) ?_;simp -implicitDefEqProofs only[go_sem,seval,↓reduceIte,hnn];refine hK _ ?_;clear hK K;refine AW.condS (by simp -implicitDefEqProofs only[go_sem,seval,↓reduceIte];rfl) (fun h20=>?_) (fun h20=>?_)
  ·cases h20
  refine AW.skip ?_;simp -implicitDefEqProofs only[go_sem,seval,↓reduceIte];refine hK4 _ ?_;refine AW.region (by kernel_rfl) ?_;simp -implicitDefEqProofs only[go_sem,seval,↓reduceIte];refine hL2 _ ⟨hk1,(),trivial,Weak.st (by rw [hlen];simp -implicitDefEqProofs only[go_sem,seval,↓reduceIte];exact congrArg _ (w64 (by omega) (by omega))) (by simp -implicitDefEqProofs only[go_sem,seval,↓reduceIte];try rfl)⟩
 ·have hk1:k=s.l.length:=by simp at h12;omega
  refine AW.exit ?_;simp -implicitDefEqProofs only[go_sem,seval,↓reduceIte];refine hK1 _ ?_;rw [hk1,List.take_length];refine AW.seq_k fun K hK=>AW.region (by kernel_rfl) ?_;simp -implicitDefEqProofs only[go_sem,seval,↓reduceIte];refine grow_call hG 1024 (catL s.l).length (by omega) (fun h=>absurd h hne) fun _ g24=>?_;simp -implicitDefEqProofs only[go_sem,seval,↓reduceIte];refine hK _ ?_;clear hK K;refine AW.seq_k fun K5 hK5=>?_;refine AW.seq_k fun K hK=>AW.region (by kernel_rfl) ?_;simp -implicitDefEqProofs only[go_sem,seval,↓reduceIte];refine hK _ ?_;clear hK K;refine AW.block ?_
  refine AW.for s.l.length (fun k (g:Nat)=>st [(0,encSl c 1 (fun t=>encSl c1 1 V.str t) s),(6,.msl 1024 g 0 (catL (s.l.take k)).length 1),(25,encSl c 1 (fun t=>encSl c1 1 V.str t) s),(26,.int .i64 s.l.length),(27,.int .i64 k)] [(1024,.cells .new g 0 (flat ((catL (s.l.take k)).map V.str)))])
   (fun _ _=>True) 0 g24 (Nat.zero_le _) trivial (Weak.st (by simp -implicitDefEqProofs only[go_sem,seval,↓reduceIte];try rfl) (by simp -implicitDefEqProofs only[go_sem,seval,↓reduceIte];try rfl)) ?_
  intro k g hk _ L6 hL6;refine AW.seq_k fun K hK=>AW.region (by kernel_rfl) ?_;simp -implicitDefEqProofs only[go_sem,seval,↓reduceIte];refine hK _ ?_;clear hK K;refine AW.seq_k fun K7 hK7=>?_;refine AW.condS (by simp -implicitDefEqProofs only[go_sem,seval,↓reduceIte];rfl) (fun h28=>?_) (fun h28=>?_)
  ·have hk1:k<s.l.length:=by simpa using h28
   have hg:=List.getElem?_eq_getElem hk1;have htk:=catL_take hg;have hle:=catL_len (l:=s.l) (k:=k+1);generalize s.l[k]=t at hg htk
   have hlen:(catL (s.l.take (k+1))).length=(catL (s.l.take k)).length+t.l.length:=by rw [htk,List.length_append]
   refine AW.skip ?_;simp -implicitDefEqProofs only[go_sem,seval,↓reduceIte];refine hK7 _ ?_;refine AW.seq_k fun K8 hK8=>?_;refine AW.block ?_;refine AW.seq_k fun K hK=>AW.region (by kernel_rfl) ?_;simp -implicitDefEqProofs only[go_sem,seval,↓reduceIte,hg];refine hK _ ?_;clear hK K;refine AW.region (by kernel_rfl) ?_;simp -implicitDefEqProofs only[go_sem,seval,↓reduceIte]
   have hfl:∀ l:List (List UInt8),(flat (l.map V.str)).length=l.length:=fun l=>by rw [flat_strW,List.length_map]
   have hcl:List.take ((catL (s.l.take k)).length * 1) (flat ((catL (s.l.take k)).map V.str))++flat (t.l.map V.str)=flat ((catL (s.l.take (k+1))).map V.str):=by
    rw [htk,List.map_append,flat_app,Nat.mul_one,List.take_of_length_le (by rw [hfl];omega)]
   refine ⟨roomOk_of (by omega) (by omega),by rw [hfl];omega,by omega,fun g2=>?_⟩;rw [hcl,← hlen];refine hK8 _ ?_;refine AW.region (by kernel_rfl) ?_;simp -implicitDefEqProofs only[go_sem,seval,↓reduceIte];refine hL6 _ ⟨hk1,g2,trivial,Weak.st (by simp -implicitDefEqProofs only[go_sem,seval,↓reduceIte];exact congrArg _ (w64 (by omega) (by omega))) (by simp -implicitDefEqProofs only[go_sem,seval,↓reduceIte];try rfl)⟩
  ·have hk1:k=s.l.length:=by simp at h28;omega
   refine AW.exit ?_;simp -implicitDefEqProofs only[go_sem,seval,↓reduceIte];refine hK5 _ ?_;rw [hk1,List.take_length];refine AW.weak (Weak.stF (fun o=>o==1024) (l:=[(6,encSl .new 1 V.str (.mk false (catL s.l)))]) (m:=[]) ?_ trivial) ?_
   ·simp -implicitDefEqProofs only[go_sem,seval,↓reduceIte]
    exact Fz.sl (f:=V.str) (l:=catL s.l) (m:=1) (g:=g) (fz:=0) (c := .new) rfl (by simp -implicitDefEqProofs only[go_sem,seval,↓reduceIte];try rfl) (fun _=>rfl)
   refine AW.seq_k fun K hK=>AW.region (by kernel_rfl) ?_;simp -implicitDefEqProofs only[go_sem,seval,↓reduceIte];refine hK _ ?_;clear hK K;refine AW.ret ?_;simp -implicitDefEqProofs only[go_sem,seval,↓reduceIte];refine endK_some ?_;rfl
end Go.Hs
end

section
namespace Go.Hs
def stopB (c:UInt8):Bool:=c==32 || c==10
theorem stop_not {c:UInt8} (h:stopB c=true):isDig c=false∧isAl c=false∧isBl c=true∧c≠45:=by
 simp only [stopB,Bool.or_eq_true,beq_iff_eq] at h
 rcases h with rfl | rfl<;>decide
theorem runL_app {p:UInt8→Bool} {c:UInt8} (h:p c=false) (r:List UInt8):∀ u:List UInt8,runL p (u++c::r)=runL p u
 | []=>by simp [runL,h]
 | a::u=>by
  rw [List.cons_append,runL_cons,runL_cons,runL_app h r u]
theorem take_app {u r:List UInt8} {k:Nat} (h:k≤u.length):(u++r).take k=u.take k:=by
 rw [List.take_append_of_le_length h]
theorem hasPre_app {c:UInt8} (h:c≠45) (r:List UInt8) {u:List UInt8} (hu:u≠[]):hasPre [45,45] (u++c::r)=hasPre [45,45] u:=by
 match u with
 | []=>exact absurd rfl hu
 | [a] =>
  have:(45==c)=false:=by rw [beq_eq_false_iff_ne];exact fun q=>h q.symm
  simp [hasPre,List.isPrefixOf,this]
 | a::b::u=>simp [hasPre,List.isPrefixOf]
theorem sg2_stop {c:UInt8} (h:stopB c=true) (a:UInt8):sg2.contains [a,c]=false:=by
 simp only [stopB,Bool.or_eq_true,beq_iff_eq] at h
 rcases h with rfl | rfl<;>simp [sg2]
theorem sgnN_app {c:UInt8} (h:stopB c=true) (r:List UInt8) {u:List UInt8} (hu:u≠[]):sgnN (u++c::r)=sgnN u:=by
 match u with
 | []=>exact absurd rfl hu
 | [a] =>
  rw [List.cons_append,List.nil_append,sgnN_two,sg2_stop h,sgnN_one,contains_split,sg2_len (by simp)];simp
 | a::b::u=>rw [List.cons_append,List.cons_append,sgnN_two,sgnN_two]
theorem first_app {c:UInt8} (h:stopB c=true) (r:List UInt8) {u:List UInt8} (hu:u≠[]):firstP (u++c::r)=firstP u:=by
 obtain ⟨h1,h2,h3,h4⟩:=stop_not h;have hpre:=hasPre_app h4 r hu;have hd:=runL_app h1 r u;have ha:=runL_app h2 r u;have hs:=sgnN_app h r hu
 cases u with
 | nil=>exact absurd rfl hu
 | cons a u =>
  rw [List.cons_append] at hpre hd ha hs ⊢
  rcases al_cases a with q | ⟨_,q⟩ | ⟨q,_,_⟩
  ·rw [first_dig q,first_dig q,hd]
  ·rw [first_lt q,first_lt q,ha]
   have:=take_app (u:=a::u) (r:=c::r) (runL_le isAl (a::u));rw [List.cons_append] at this;rw [this]
  ·by_cases hp:hasPre [45,45] (a::u)=true
   ·rw [hp] at hpre
    rw [firstP_cons,firstP_cons,if_pos hpre,if_pos hp]
   ·have hp:hasPre [45,45] (a::u)=false:=by simpa using hp
    rw [hp] at hpre;rw [first_no q hpre,first_no q hp,hs]
theorem isP_first {w:List UInt8} (h:isP w≠0):firstP w=(w.length,isP w)∧0<w.length∧w.length≤64:=by
 unfold isP at h ⊢
 split at h
 ·exact absurd rfl h
 ·rename_i q
  rw [if_neg q];simp only [not_or,Decidable.not_not,Nat.not_lt] at q;refine ⟨Prod.ext q.1 rfl,?_,by omega⟩
  cases w with
  | nil=>exact absurd rfl h
  | cons=>simp
end Go.Hs
end

section
namespace Go.Hs
theorem blk_app (r:List UInt8):∀ (k:Nat) (s:List UInt8),s.length≤k→blk (s++10::r)=if blk s=s.length then s.length+1+blk r else blk s
 | _,[],_=>by
  rw [List.nil_append,blk_bl (by decide),blk_nil];simp;omega
 | k+1,c::t,h=>by
  simp only [List.length_cons] at h;rw [List.cons_append]
  by_cases hb:isBl c=true
  ·rw [blk_bl hb,blk_bl hb,blk_app r k t (by omega),List.length_cons]
   split
   ·rename_i q
    rw [if_pos (by omega)];omega
   ·rename_i q
    rw [if_neg (by omega)]
  have hb:isBl c=false:=by simpa using hb
  have hpa:=hasPre_app (c:=10) (by decide) r (u:=c::t) (by simp);rw [List.cons_append] at hpa
  by_cases hp:hasPre [45,45] (c::t)=true
  ·have hr:=runL_app (p:=noNl) (c:=10) (by decide) r (c::t)
   rw [List.cons_append] at hr;rw [blk_rem (by rw [hpa];exact hp),blk_rem hp,hr];have hle:=runL_le noNl (c::t);have h2:=(noNl_pre hp).1;generalize hm:runL noNl (c::t)=m at hle h2
   have hd:(c::(t++10::r)).drop m=(c::t).drop m++10::r:=by
    rw [← List.cons_append,List.drop_append_of_le_length hle]
   have hl:((c::t).drop m).length=(c::t).length-m:=List.length_drop;simp only [List.length_cons] at hl hle;rw [hd,blk_app r k _ (by omega),hl,List.length_cons]
   split
   ·rename_i q
    rw [if_pos (by omega)];omega
   ·rename_i q
    rw [if_neg (by omega)]
  ·have hp:hasPre [45,45] (c::t)=false:=by simpa using hp
   rw [blk_no hb (by rw [hpa];exact hp),blk_no hb hp,List.length_cons,if_neg (by omega)]
 | 0,c::t,h=>by simp at h
inductive Lx:List UInt8→List (List UInt8)→Prop where
 | nil {s:List UInt8}:blk s=s.length→Lx s []
 | cons {s:List UInt8} {ws:List (List UInt8)} {k:Nat}:blk s<s.length→(firstP (s.drop (blk s))).1=k→0<k→k≤64→Lx ((s.drop (blk s)).drop k) ws→Lx s ((s.drop (blk s)).take k::ws)
theorem first_is {s:List UInt8} (hb:blk s<s.length) {k:Nat} (hk:(firstP (s.drop (blk s))).1=k) (h0:0<k) (h64:k≤64) :
  isP ((s.drop (blk s)).take k)=(firstP (s.drop (blk s))).2∧(firstP (s.drop (blk s))).2≠0:=by
 have hc:=blk_clear s;generalize s.drop (blk s)=u at hk hc ⊢
 have hp:hasPre [45,45] u=false:=by
  cases u with
  | nil=>rfl
  | cons c r=>exact (hc c r rfl).2
 obtain ⟨q1,q2⟩:=first_kind hp (by omega);rw [hk] at q1;refine ⟨?_,q2⟩;rw [isP_whole,if_neg (by rw [List.length_take];omega),q1]
theorem toks_lx {S:List UInt8}:∀ (f i:Nat) (acc l:List Tk),S.length<f+i→i≤S.length→toksF f S (i+blk (S.drop i)) acc=(l,0,0)→∃ l2,l=acc++l2∧Lx (S.drop i) (l2.map wdOf)
 | 0,i,acc,l,hf,hi,_=>by omega
 | f+1,i,acc,l,hf,hi,h=>by
  have hbl:=blk_le (S.drop i);rw [List.length_drop] at hbl
  by_cases hb:blk (S.drop i)<(S.drop i).length
  ·have hb':=hb
   rw [List.length_drop] at hb'
   have hdd:S.drop (i+blk (S.drop i))=(S.drop i).drop (blk (S.drop i)):=by rw [List.drop_drop]
   by_cases hk:(firstP (S.drop (i+blk (S.drop i)))).1=0∨(firstP (S.drop (i+blk (S.drop i)))).1 > 64
   ·rw [toksF_bad (by omega) (by omega) hk] at h
    have:=congrArg (fun x=>x.2.2) h;simp at this
   ·rw [toksF,if_pos (by omega),if_neg hk] at h
    rw [hdd] at h hk;simp only [not_or,Nat.not_lt] at hk;have hle:=firstP_le ((S.drop i).drop (blk (S.drop i)));rw [List.length_drop,List.length_drop] at hle;obtain ⟨p1,p2⟩:=first_is hb rfl (by omega) (by omega);obtain ⟨l2,e1,e2⟩:=toks_lx f (i+blk (S.drop i)+(firstP ((S.drop i).drop (blk (S.drop i)))).1) _ l (by omega) (by omega) h;refine ⟨_::l2,by rw [e1,List.append_assoc];rfl,?_⟩;rw [List.map_cons]
    have hw:∀ p,wdOf ⟨(firstP ((S.drop i).drop (blk (S.drop i)))).2,((S.drop i).drop (blk (S.drop i))).take (firstP ((S.drop i).drop (blk (S.drop i)))).1,p⟩=((S.drop i).drop (blk (S.drop i))).take (firstP ((S.drop i).drop (blk (S.drop i)))).1:=by
     intro p;unfold wdOf;simp only;rw [p1,if_pos rfl]
    rw [hw];refine .cons hb rfl (by omega) (by omega) ?_;rw [← List.drop_drop,hdd] at e2;exact e2
  ·rw [List.length_drop] at hb
   rw [toksF_end (by omega)] at h;have hl:acc=l:=congrArg Prod.fst h;refine ⟨[],by rw [hl,List.append_nil],.nil ?_⟩;rw [List.length_drop];omega
theorem toksP_lx {s:List UInt8} {l:List Tk} (h:toksP s=(l,0,0)):Lx s (l.map wdOf):=by
 unfold toksP at h
 split at h
 ·have:=congrArg (fun x=>x.2.2) h
  simp at this
 ·have h2:toksF (s.length+1) s (0+blk (s.drop 0)) []=(l,0,0):=by simpa using h
  obtain ⟨l2,e1,e2⟩:=toks_lx _ 0 [] l (by omega) (Nat.zero_le _) h2;rw [e1,List.nil_append];simpa using e2
end Go.Hs
end

section
namespace Go.Hs.PutLaw
open Go Go.Hs
def chr (d:Nat):UInt8:=UInt8.ofNat (48+d)
def chars (l:List Nat):List UInt8:=(l.map chr).reverse
theorem decDigits_dg (u:Nat) (h:0<u):Lib.decDigits u=chars (dg u):=by
 induction u using Nat.strongRecOn with
 | _ u ih =>
  rw [Lib.decDigits,dg_pos h]
  by_cases h1:u<10
  ·rw [dif_pos h1,show u / 10=0 by omega,dg_zero,Nat.mod_eq_of_lt h1]
   rfl
  ·rw [dif_neg h1,ih (u / 10) (by omega) (by omega)]
   simp [chars,chr]
theorem putR_dg (n:Int):putR n=if n=0 then [48] else if n<0 then 45::chars (dg n.natAbs) else chars (dg n.natAbs):=by
 unfold putR Lib.itoa
 by_cases h0:n=0
 ·subst h0
  simp;rw [Lib.decDigits];simp
 ·rw [if_neg h0]
  by_cases h1:n<0
  ·rw [if_pos h1,if_pos h1,decDigits_dg _ (by omega)]
  ·rw [if_neg h1,if_neg h1,show n.toNat=n.natAbs by omega,decDigits_dg _ (by omega)]
theorem chr_nat {d:Nat} (h:d<10):(chr d).toNat=48+d:=by
 unfold chr;rw [UInt8.toNat_ofNat'];omega
theorem dval_chr {d:Nat} (h:d<10):dval (chr d)=d:=by
 unfold dval;rw [chr_nat h];omega
theorem isDig_chr {d:Nat} (h:d<10):isDig (chr d)=true:=by
 unfold isDig;rw [chr_nat h];simp;omega
theorem map_dval {l:List Nat} (h:Dig l):(chars l).reverse.map dval=l:=by
 unfold chars;rw [List.reverse_reverse,List.map_map];have:∀ d∈l,(dval ∘ chr) d=d:=fun d hd=>dval_chr (h d hd);rw [List.map_congr_left this];simp
theorem all_chars {l:List Nat} (h:Dig l):(chars l).all isDig=true:=by
 rw [List.all_eq_true];intro c hc;unfold chars at hc;obtain ⟨d,hd,rfl⟩:=List.mem_map.1 (List.mem_reverse.1 hc);exact isDig_chr (h d hd)
theorem head_chars (l:List Nat):(chars l).head? = l.getLast?.map chr:=by
 unfold chars;rw [List.head?_reverse,List.getLast?_map]
theorem head_ne {m:Nat} (h:0<m):(chars (dg m)).head? ≠ some 48∧(chars (dg m)).head? ≠ some 45∧chars (dg m)≠[]:=by
 have hne:dg m≠[]:=by rw [Ne,dg_ne];omega
 obtain ⟨d,hd⟩:∃ d,(dg m).getLast? = some d:=⟨_,List.getLast?_eq_some_getLast hne⟩;have h0:=dg_last m d hd;have h9:d<10:=dig_dg m d (List.mem_of_getLast? hd);rw [head_chars,hd];refine ⟨fun e=>?_,fun e=>?_,fun e=>?_⟩
 ·have:=Option.some.inj e
  have:=congrArg UInt8.toNat this;rw [chr_nat h9] at this;have h48:(48:UInt8).toNat=48:=rfl;omega
 ·have:=Option.some.inj e
  have:=congrArg UInt8.toNat this;rw [chr_nat h9] at this;have h45:(45:UInt8).toNat=45:=rfl;omega
 ·have e2:=head_chars (dg m)
  rw [e,hd] at e2;cases e2
theorem parse_put {a:Int} (ha : -9223372036854775808≤a∧a≤9223372036854775807):parseR (putR a)=(a,0):=by
 rw [putR_dg]
 by_cases h0:a=0
 ·rw [if_pos h0,h0];rfl
 ·rw [if_neg h0]
  have hm:0<a.natAbs:=by omega
  obtain ⟨h1,h2,h3⟩:=head_ne hm
  have hv:val ((chars (dg a.natAbs)).reverse.map dval)=a.natAbs:=by rw [map_dval (dig_dg _),val_dg]
  have hall:=all_chars (dig_dg a.natAbs)
  by_cases hn:a<0
  ·rw [if_pos hn]
   unfold parseR;simp only [List.head?_cons,List.drop_succ_cons,List.drop_zero,show ((some (45:UInt8))==some 45)=true from rfl,if_true];rw [if_neg (by simp only [hall,h1,h3,Bool.true_eq_false,false_and,or_self,not_false_eq_true]),hv];rw [told_ok (by omega)];exact Prod.ext (by show -((a.natAbs:Nat):Int)=a;omega) rfl
  ·rw [if_neg hn]
   unfold parseR
   have hb:((chars (dg a.natAbs)).head? == some 45)=false:=by simpa using h2
   simp only [hb,Bool.false_eq_true,if_false];rw [if_neg (by simp only [hall,h1,h3,Bool.true_eq_false,false_and,or_self,not_false_eq_true]),hv];rw [told_ok (by omega)];exact Prod.ext (by show ((a.natAbs:Nat):Int)=a;omega) rfl
end Go.Hs.PutLaw
end

section
namespace Go.Hs
open PutLaw
def parW (b:Bool) (ts:List (List UInt8)):List (List UInt8):=if b then [40]::(ts++[[41]]) else ts
def X.W:X→Int→List (List UInt8)
 | .leaf op num name,_=>[if op=1 then putR num else if op=2 then name else sgT op.toNat]
 | .un op a,k=>parW (9<k) (sgT op.toNat::a.W 9)
 | .bin op a b,k=>parW (lvl op.toNat<k) (a.W (lvl op.toNat)++sgT op.toNat::b.W (lvl op.toNat+1))
 | .ite a b c,_=>wIf::(a.W 0++wThen::(b.W 0++wElse::(c.W 0++[wEndif])))
def X.fit:X→Prop
 | .leaf _ num _=>num≤9223372036854775807
 | .un _ a=>a.fit
 | .bin _ a b=>a.fit∧b.fit
 | .ite a b c=>a.fit∧b.fit∧c.fit
theorem fit_of:∀ (x:X) (k:Int),(∀ n∈x.row k,n.num≤9223372036854775807)→x.fit
 | .leaf op num name,k,h=>h ⟨op,num,name,-1,-1,-1⟩ (by simp [X.row])
 | .un op a,k,h=>fit_of a k fun n hn=>h n (by simp [X.row,hn])
 | .bin op a b,k,h=>⟨fit_of a k fun n hn=>h n (by simp [X.row,hn]),fit_of b (k+a.size) fun n hn=>h n (by simp [X.row,hn])⟩
 | .ite a b c,k,h=>⟨fit_of a k fun n hn=>h n (by simp [X.row,hn]),fit_of b (k+a.size) fun n hn=>h n (by simp [X.row,hn]),fit_of c (k+a.size+b.size) fun n hn=>h n (by simp [X.row,hn])⟩
theorem put_digits {n:Int} (h0:0≤n) (h1:n≤9223372036854775807):(putR n).all isDig=true∧putR n≠[]∧(putR n).length≤19∧trim0 (putR n)=putR n:=by
 rw [putR_dg]
 by_cases hz:n=0
 ·subst hz;decide +kernel
 rw [if_neg hz,if_neg (by omega)]
 have hp:0<n.natAbs:=by omega
 have hd:=dig_dg n.natAbs;obtain ⟨q1,q2,q3⟩:=head_ne hp;refine ⟨all_chars hd,q3,?_,?_⟩
 ·have:=dg_len (n:=n.natAbs) (k:=19) (by omega)
  have hl:(chars (dg n.natAbs)).length=(dg n.natAbs).length:=by simp [chars]
  omega
 ·unfold trim0
  have:(chars (dg n.natAbs)).dropWhile (· == 48)=chars (dg n.natAbs):=by
   cases hc:chars (dg n.natAbs) with
   | nil=>rfl
   | cons c r =>
    rw [hc] at q1
    have:(c==48)=false:=by rw [beq_eq_false_iff_ne];intro q;exact q1 (by rw [q];rfl)
    rw [List.dropWhile_cons,this];rfl
  rw [this,if_neg q3]
theorem isP_digits {t:List UInt8} (h:t.all isDig=true) (hne:t≠[]) (hl:t.length≤64):isP t=1:=by
 rw [isP_whole,if_neg (by omega)]
 cases t with
 | nil=>exact absurd rfl hne
 | cons c r =>
  rw [List.all_cons,Bool.and_eq_true] at h;rw [whole_dg h.1,if_pos (by rw [List.all_cons,h.1,h.2];rfl)]
theorem lvl_of {op:Int} (h:7≤op∧op≤21):1≤lvl op.toNat∧lvl op.toNat≤8∧ofI (sgT op.toNat) 2=some op.toNat∧isP (sgT op.toNat)≠0:=lvl_rng _ (by omega) (by omega)
theorem Gr.parW {n:Int} {ts:List (List UInt8)} {x:X} {b:Bool} (h:Gr (if b then 1 else n) ts x):Gr n (parW b ts) x:=by
 cases b
 ·exact h
 ·exact .par h
theorem leaf_cases {op num:Int} {name:List UInt8} (h:(X.leaf op num name).ok=true):(op=1∧0≤num∧name=[])∨(op=2∧num=0∧isP name=2)∨(op=3∧num=0∧name=[])∨(op=4∧num=0∧name=[]):=by
 simp only [X.ok,Bool.and_eq_true,decide_eq_true_eq] at h;obtain ⟨h1,h2⟩:=h;unfold wellP at h1
 split at h1
 ·cases h1
 rename_i h0;simp only [not_or,Int.not_lt] at h0
 split at h1
 ·simp only [Bool.and_eq_true,beq_iff_eq] at h1
  rename_i q;exact .inr (.inl ⟨q,h1⟩)
 ·rename_i q
  simp only [Bool.and_eq_true,beq_iff_eq,Bool.or_eq_true] at h1 q h0
  rcases h1.2 with q1 | q1
  ·exact .inl ⟨q1,h0.2.2,h1.1⟩
  ·by_cases o1:op=1
   ·exact .inl ⟨o1,h0.2.2,h1.1⟩
   ·by_cases o3:op=3
    ·exact .inr (.inr (.inl ⟨o3,q1,h1.1⟩))
    ·exact .inr (.inr (.inr ⟨by omega,q1,h1.1⟩))
theorem W_gr:∀ (x:X),x.ok=true→x.fit→∀ k:Int,k≤9→Gr (max k 1) (x.W k) x
 | .leaf op num name,h,hf,k,hk=>by
  rcases leaf_cases h with ⟨rfl,h1,rfl⟩ | ⟨rfl,rfl,h1⟩ | ⟨rfl,rfl,rfl⟩ | ⟨rfl,rfl,rfl⟩
  ·obtain ⟨p1,p2,p3,p4⟩:=put_digits h1 hf
   simp only [X.W,if_pos];exact .num (isP_digits p1 p2 (by omega)) (by rw [p4];exact parse_put ⟨by omega,hf⟩)
  ·simp only [X.W]
   exact .name h1
  ·exact .tr
  ·exact .fa
 | .un op a,h,hf,k,hk=>by
  simp only [X.ok,Bool.and_eq_true,decide_eq_true_eq] at h;have ih:=W_gr a h.2 hf 9 (Int.le_refl _)
  have:op=5∨op=6:=by omega
  have hb:decide (9<k)=false:=by rw [decide_eq_false_iff_not];omega
  rw [X.W,hb]
  rcases this with rfl | rfl
  ·exact .neg (by omega) ih
  ·exact .not (by omega) ih
 | .bin op a b,h,hf,k,hk=>by
  simp only [X.ok,Bool.and_eq_true,decide_eq_true_eq] at h;obtain ⟨l1,l2,_,_⟩:=lvl_of ⟨h.1.1.1,h.1.1.2⟩;have ha:=W_gr a h.1.2 hf.1 (lvl op.toNat) (by omega);have hb:=W_gr b h.2 hf.2 (lvl op.toNat+1) (by omega);rw [Int.max_eq_left (by omega)] at ha hb
  have ho:((op.toNat:Nat):Int)=op:=by omega
  rw [X.W];refine Gr.parW ?_;have:=Gr.bin (n:=lvl op.toNat) (op:=op.toNat) (by omega) (by omega) (Int.le_refl _) ha hb;rw [ho] at this;refine this.mono ?_
  by_cases q:lvl op.toNat<k
  ·rw [decide_eq_true q];exact l1
  ·rw [decide_eq_false q];simp only [Bool.false_eq_true,if_false];omega
 | .ite a b c,h,hf,k,hk=>by
  simp only [X.ok,Bool.and_eq_true] at h;exact .ite (W_gr a h.1.1 hf.1 0 (by decide)) (W_gr b h.1.2 hf.2.1 0 (by decide)) (W_gr c h.2 hf.2.2 0 (by decide))
def joinW:List (List UInt8)→List UInt8
 | []=>[]
 | [w]=>w
 | w::r=>w++32::joinW r
theorem words_ok:∀ (x:X),x.ok=true→x.fit→∀ k:Int,∀ w∈x.W k,isP w≠0
 | .leaf op num name,h,hf,k=>by
  intro w hw;simp only [X.W,List.mem_singleton] at hw;subst hw
  rcases leaf_cases h with ⟨rfl,h1,rfl⟩ | ⟨rfl,rfl,h1⟩ | ⟨rfl,rfl,rfl⟩ | ⟨rfl,rfl,rfl⟩
  ·obtain ⟨p1,p2,p3,p4⟩:=put_digits h1 hf
   rw [if_pos rfl,isP_digits p1 p2 (by omega)];decide
  ·rw [if_neg (by decide),if_pos rfl,h1];decide
  ·decide +kernel
  ·decide +kernel
 | .un op a,h,hf,k=>by
  simp only [X.ok,Bool.and_eq_true,decide_eq_true_eq] at h;have ih:=words_ok a h.2 hf 9
  have ho:isP (sgT op.toNat)≠0:=by
   have:op=5∨op=6:=by omega
   rcases this with rfl | rfl<;>decide +kernel
  intro w hw;rw [X.W] at hw;unfold parW at hw
  split at hw
  ·simp only [List.mem_cons,List.mem_append,List.not_mem_nil,or_false] at hw
   rcases hw with rfl | (rfl | hw) | rfl
   ·decide +kernel
   ·exact ho
   ·exact ih w hw
   ·decide +kernel
  ·simp only [List.mem_cons] at hw
   rcases hw with rfl | hw
   ·exact ho
   ·exact ih w hw
 | .bin op a b,h,hf,k=>by
  simp only [X.ok,Bool.and_eq_true,decide_eq_true_eq] at h;have ih1:=words_ok a h.1.2 hf.1 (lvl op.toNat);have ih2:=words_ok b h.2 hf.2 (lvl op.toNat+1);have ho:=(lvl_of ⟨h.1.1.1,h.1.1.2⟩).2.2.2;intro w hw;rw [X.W] at hw;unfold parW at hw
  split at hw
  ·simp only [List.mem_cons,List.mem_append,List.not_mem_nil,or_false] at hw
   rcases hw with rfl | (hw | rfl | hw) | rfl
   ·decide +kernel
   ·exact ih1 w hw
   ·exact ho
   ·exact ih2 w hw
   ·decide +kernel
  ·simp only [List.mem_cons,List.mem_append] at hw
   rcases hw with hw | rfl | hw
   ·exact ih1 w hw
   ·exact ho
   ·exact ih2 w hw
 | .ite a b c,h,hf,k=>by
  simp only [X.ok,Bool.and_eq_true] at h;have ih1:=words_ok a h.1.1 hf.1 0;have ih2:=words_ok b h.1.2 hf.2.1 0;have ih3:=words_ok c h.2 hf.2.2 0;intro w hw;simp only [X.W,List.mem_cons,List.mem_append,List.not_mem_nil,or_false] at hw
  rcases hw with rfl | hw | rfl | hw | rfl | hw | rfl
  ·decide +kernel
  ·exact ih1 w hw
  ·decide +kernel
  ·exact ih2 w hw
  ·decide +kernel
  ·exact ih3 w hw
  ·decide +kernel
theorem row_inj:∀ (x y:X) (k:Int),x.ok=true→y.ok=true→x.row k=y.row k→x=y:=by
 have last:∀ {a b:List XN} {m n:XN},a++[m]=b++[n]→a=b∧m=n:=by
  intro a b m n h;obtain ⟨q1,q2⟩:=List.append_inj' h rfl;exact ⟨q1,by simpa using q2⟩
 have body:∀ (x:X) (k:Int),∃ b,x.row k=b++[x.top k]:=fun x k=>by obtain ⟨b,h,_⟩:=x.row_top k;exact ⟨b,h⟩
 have opr:∀ (x:X) (k:Int),x.ok=true→match x with
   | .leaf op _ _=>1≤op∧op≤4
   | .un op _=>5≤op∧op≤6
   | .bin op _ _=>7≤op∧op≤21
   | .ite .. => True:=by
  intro x k h
  cases x with
  | leaf op num name=>rcases leaf_cases h with ⟨h,_⟩ | ⟨h,_⟩ | ⟨h,_⟩ | ⟨h,_⟩<;>(show 1≤op∧op≤4;omega)
  | un op a=>simp only [X.ok,Bool.and_eq_true,decide_eq_true_eq] at h;exact h.1
  | bin op a b=>simp only [X.ok,Bool.and_eq_true,decide_eq_true_eq] at h;exact h.1.1
  | ite=>trivial
 intro x
 induction x with
 | leaf op num name =>
  intro y k hx hy h;have o1:=opr _ k hx;have o2:=opr y k hy;obtain ⟨b,hb⟩:=body y k;rw [hb] at h;obtain ⟨_,ht⟩:=last (a:=[]) h
  cases y with
  | leaf op' num' name'=>simp only [X.top,XN.mk.injEq] at ht;obtain ⟨rfl,rfl,rfl,_⟩:=ht;rfl
  | un op' a'=>simp only [X.top,XN.mk.injEq] at ht o1 o2;omega
  | bin op' a' b'=>simp only [X.top,XN.mk.injEq] at ht o1 o2;omega
  | ite a' b' c'=>simp only [X.top,XN.mk.injEq] at ht o1 o2;omega
 | un op a iha =>
  intro y k hx hy h;have o1:=opr _ k hx;have o2:=opr y k hy
  cases y with
  | leaf op' num' name' =>
   have ht:=(last (b:=[]) h).2;simp only [XN.mk.injEq] at ht o1 o2;omega
  | un op' a' =>
   obtain ⟨hr,ht⟩:=last h;simp only [XN.mk.injEq] at ht;simp only [X.ok,Bool.and_eq_true] at hx hy;rw [iha a' k hx.2 hy.2 hr,ht.1]
  | bin op' a' b' =>
   have ht:=(last h).2;simp only [XN.mk.injEq] at ht o1 o2;omega
  | ite a' b' c' =>
   have ht:=(last h).2;simp only [XN.mk.injEq] at ht o1 o2;omega
 | bin op a b iha ihb =>
  intro y k hx hy h;have o1:=opr _ k hx;have o2:=opr y k hy
  cases y with
  | leaf op' num' name' =>
   have ht:=(last (b:=[]) h).2;simp only [XN.mk.injEq] at ht o1 o2;omega
  | un op' a' =>
   have ht:=(last h).2;simp only [XN.mk.injEq] at ht o1 o2;omega
  | bin op' a' b' =>
   obtain ⟨hr,ht⟩:=last h;simp only [XN.mk.injEq] at ht;simp only [X.ok,Bool.and_eq_true] at hx hy
   have hs:a.size=a'.size:=by omega
   obtain ⟨q1,q2⟩:=List.append_inj hr (by rw [X.row_len,X.row_len];exact hs);rw [← hs] at q2;rw [iha a' k hx.1.2 hy.1.2 q1,ihb b' _ hx.2 hy.2 q2,ht.1]
  | ite a' b' c' =>
   have ht:=(last h).2;simp only [XN.mk.injEq] at ht o1 o2;omega
 | ite a b c iha ihb ihc =>
  intro y k hx hy h;have o2:=opr y k hy
  cases y with
  | leaf op' num' name' =>
   have ht:=(last (b:=[]) h).2;simp only [XN.mk.injEq] at ht o2;omega
  | un op' a' =>
   have ht:=(last h).2;simp only [XN.mk.injEq] at ht o2;omega
  | bin op' a' b' =>
   have ht:=(last h).2;simp only [XN.mk.injEq] at ht o2;omega
  | ite a' b' c' =>
   obtain ⟨hr,ht⟩:=last h;simp only [XN.mk.injEq] at ht;simp only [X.ok,Bool.and_eq_true] at hx hy
   have hs:a.size=a'.size:=by omega
   have hs2:b.size=b'.size:=by omega
   obtain ⟨q1,q2⟩:=List.append_inj hr (by rw [List.length_append,List.length_append,X.row_len,X.row_len,X.row_len,X.row_len];omega);obtain ⟨q3,q4⟩:=List.append_inj q1 (by rw [X.row_len,X.row_len];exact hs);rw [← hs] at q4 q2;rw [← hs2] at q2;rw [iha a' k hx.1.1 hy.1.1 q3,ihb b' _ hx.1.2 hy.1.2 q4,ihc c' _ hx.2 hy.2 q2]
end Go.Hs
end

section
namespace Go.Hs
open Go.Proofs
set_option maxRecDepth 10000
theorem Fz.rowL {F:Nat→Bool} {H:Heap} {o g fz n:Nat} {c:Col} {cs ls:List V} (hF:F o=true) (hH:H o = .cells c g fz cs) (hn:cs.length=n) (hfl:flat ls=ls) (h1:∀ v∈ls,v.cells.length=1) (h:FzL F H cs ls):Fz F H (.msl o g 0 n 1) (.slice c false 1 ls):=by
 obtain ⟨hl,hr⟩:=h.get;refine Cv.msl (col:=id) o g 0 n 1 c fz cs ls hF hH (by omega) h1 (by omega) fun i k1 k2=>?_
 have e:(flat ls)[i]=ls[i]'(by rw [hfl] at k2;exact k2):=by simp only [hfl]
 rw [e];have:=hr i (by omega) (by rw [hfl] at k2;exact k2);simp only [Nat.zero_add];exact this
theorem flat_encs (c:Col) (l:List (Sl (List UInt8))):flat (l.map fun t=>encSl c 1 V.str t)=l.map fun t=>encSl c 1 V.str t:=by
 induction l with
 | nil=>rfl
 | cons x r ih=>unfold flat at ih ⊢;rw [List.map_cons,List.flatMap_cons,ih,cells_enc];rfl
theorem recol_encSS (g:Col→Col) (c c1:Col) (s:Sl (Sl (List UInt8))):(encSS c c1 s).recol g=encSS (g c) (g c1) s :=
 recol_enc g c 1 (fun t=>recol_enc g c1 1 (fun _=>rfl) t) s
theorem tabC_part (op:Nat) (h:op<23):partC true 3 tabC (op * 3)=some (encSg (tabL.getD op ⟨[],0,0⟩)):=by
 have hl:tabC.length=69:=tabC_len;have e0:=tabC_get op h 0 (by decide);have e1:=tabC_get op h 1 (by decide);have e2:=tabC_get op h 2 (by decide)
 have:(tabC.drop (op * 3)).take 3=(encSg (tabL.getD op ⟨[],0,0⟩)).cells:=by
  refine List.ext_getElem? fun i=>?_;rw [List.getElem?_take]
  by_cases hi:i<3
  ·rw [if_pos hi,List.getElem?_drop]
   match i,hi with
   | 0,_=>exact e0
   | 1,_=>exact e1
   | 2,_=>exact e2
  ·rw [if_neg hi]
   exact (List.getElem?_eq_none (by rw [encSg_cells];omega)).symm
 unfold partC;rw [this];simp [hl,encSg_K,V.cells];omega
theorem tab_parts (op:Nat) (h:op<23) (h0:1≤op):(tabL.getD op ⟨[],0,0⟩).parts=(partsOf op:Nat)∧(tabL.getD op ⟨[],0,0⟩).level=lvl op∧(tabL.getD op ⟨[],0,0⟩).text=sgT op:=by
 have:((List.range 23).all fun op=>decide (op=0∨(tabL.getD op ⟨[],0,0⟩).parts=(partsOf op:Nat)))=true:=by decide +kernel
 have:=List.all_eq_true.1 this op (List.mem_range.2 h);simp only [decide_eq_true_eq] at this;exact ⟨this.resolve_left (by omega),rfl,rfl⟩
def X.body:X→List (List UInt8)
 | .leaf op num name=>[if op=1 then putR num else if op=2 then name else sgT op.toNat]
 | .un op a=>sgT op.toNat::a.W 9
 | .bin op a b=>a.W (lvl op.toNat)++sgT op.toNat::b.W (lvl op.toNat+1)
 | .ite a b c=>wIf::(a.W 0++wThen::(b.W 0++wElse::(c.W 0++[wEndif])))
theorem lvl_leaf {op:Int} (h:op=1∨op=2∨op=3∨op=4):lvl op.toNat=10:=by
 rcases h with rfl | rfl | rfl | rfl<;>rfl
theorem W_body {x:X} (h:x.ok=true) {k:Int} (hk:k≤9) (b:Int):x.W k=parW (decide (lvl (x.top b).op.toNat<k)) x.body:=by
 cases x with
 | leaf op num name =>
  have:op=1∨op=2∨op=3∨op=4:=by rcases leaf_cases h with ⟨h,_⟩ | ⟨h,_⟩ | ⟨h,_⟩ | ⟨h,_⟩<;>omega
  have hl:=lvl_leaf this;rw [decide_eq_false (by show ¬ lvl op.toNat<k;omega)];rfl
 | un op a =>
  simp only [X.ok,Bool.and_eq_true,decide_eq_true_eq] at h
  have:lvl op.toNat=9:=by
   have:op=5∨op=6:=by omega
   rcases this with rfl | rfl<;>rfl
  show parW (decide (9<k)) _=parW (decide (lvl op.toNat<k)) _
  rw [this];rfl
 | bin op a b=>rfl
 | ite a b c =>
  have:lvl 22=10:=rfl;rw [decide_eq_false (by show ¬ lvl (22:Int).toNat<k;show ¬ lvl 22<k;omega)];rfl
theorem top_op {x:X} (h:x.ok=true) (b:Int):1≤(x.top b).op∧(x.top b).op≤22:=by
 cases x with
 | leaf op num name=>rcases leaf_cases h with ⟨h,_⟩ | ⟨h,_⟩ | ⟨h,_⟩ | ⟨h,_⟩<;>(show 1≤op∧op≤22;omega)
 | un op a=>simp only [X.ok,Bool.and_eq_true,decide_eq_true_eq] at h;show 1≤op∧op≤22;omega
 | bin op a b=>simp only [X.ok,Bool.and_eq_true,decide_eq_true_eq] at h;show 1≤op∧op≤22;omega
 | ite=>show (1:Int)≤22∧(22:Int)≤22;omega
end Go.Hs
end
