/- Part 48 of the proof of a statement of seat YtohdjmgdaaipaaaGreatDoor: HsHActL4 HsHExpLaid HsHExpLaidG HsHExpArgs HsHActArgs HsHSeatF. -/
import Derived.Test.YtohdjmgdaaipaaaGreatDoorPart46
import Derived.Test.YtohdjmgdaaipaaaGreatDoorPart47
import Derived.Test.YtohdjmgdaaipaaaGreatDoorPart42
import Derived.Test.YtohdjmgdaaipaaaGreatDoorPart29
import Derived.Test.YtohdjmgdaaipaaaGreatDoorPart31
import Derived.Test.YtohdjmgdaaipaaaGreatDoorRows
import Derived.ProofKit
import Derived.OpenShut
import Derived.LaidLaws
import Derived.Stop.LaidErr
import Derived.Lib.LaidTab
import Derived.Handed
import Derived.ChangeMaps5
import Derived.Test.YtohdjmgdaaipaaaGreatDoorPart40
import Derived.Test.YtohdjmgdaaipaaaGreatDoorCards
set_option linter.unusedSimpArgs false
set_option linter.unusedVariables false
section
namespace Go.Hs
open Go.Proofs
set_option maxRecDepth 10000
theorem flat_am (c:Col) (l:List ASt):flat ((amS l).l.map (encAM c))=flat (l.map (encAS c)):=by
 rw [amS_l,List.map_map];rfl
theorem srcCells_am (H:Heap) (c:Col) (l:List ASt):srcCells H 3 (encSl c 3 (encAM c) (amS l))=some (l.length,flat (l.map (encAS c))):=by
 rw [← flat_am]
 have hl:l.length=(amS l).l.length:=by rw [amS_l,List.length_map]
 rw [hl]
 cases amS l with
 | nil=>rfl
 | mk b m=>simp [encSl,srcCells,Sl.l]
theorem srcCells_strJ (H:Heap) (c:Col) (s:Sl (List UInt8)):srcCells H 1 (encSl c 1 V.str s)=some (s.l.length,flat (s.l.map V.str)):=by
 cases s with
 | nil=>rfl
 | mk b l=>simp [encSl,srcCells,Sl.l]
theorem types_ok {b:List ASt} {vars events:List (List UInt8)} (h:checkA b=0):((typesA b vars events).2==0)=b.all (stT vars events):=by
 unfold typesA
 rw [if_neg (by rw [h];decide),Bool.eq_iff_iff,beq_iff_eq]
 exact typesF_all b 0
theorem all_more {b:List ASt} {vars events more:List (List UInt8)} (hb:∀ s∈b,s.x=[]∨∃ x:X,x.ok=true∧x.depth≤64∧x.fit∧s.x=x.row 0) (h:b.all (stT vars events)=true):b.all (stT (more++vars) (more++events))=true:=by
 rw [List.all_eq_true] at h ⊢
 exact fun s hs=>stT_more (hb s hs) (h s hs)
theorem bodyP_right {s:List UInt8} (h:(bodyP s).2.2=0):∀ t∈(bodyP s).1,t.x=[]∨∃ x:X,x.ok=true∧x.depth≤64∧x.fit∧t.x=x.row 0:=by
 obtain ⟨l,b,_,g,_,e⟩:=bodyP_inv h
 rw [e]
 exact fun t ht=>(g.right t ht).2
theorem lActJoins (G:Nat→V) (hE:GExp G) (a b:List UInt8) (vars events more:Sl (List UInt8)) (hv:vars.l.length≤9223372036854775807) (hev:events.l.length≤9223372036854775807) (hmo:more.l.length≤9223372036854775807) (c2 c3 c4:Col) :
  Spec Tryz.prog G 4 [.str a,.str b,encSl c2 1 V.str vars,encSl c3 1 V.str events,encSl c4 1 V.str more] hNone (fun v _=>v = .bool true):=by
 have hG:=hE.ok
 refine Spec.of_code' 0 164 [.tmp 10] Tryz.func4 rfl rfl rfl rfl fun X0=>?_
 refine AW.seq_k fun K hK=>AW.region (by kernel_rfl) ?_
 simp -implicitDefEqProofs only[go_sem,seval,↓reduceIte]
 refine hK _ ?_
 clear hK K
 refine AW.seq_k fun K1 hK1=>?_
 by_cases hla:a.length > 300
 ·have q1:decide (((a.length:Nat):Int) > 300)=true:=by rw [decide_eq_true_iff];omega
  refine AW.seq_k fun K hK=>AW.region (by kernel_rfl) ?_
  simp -implicitDefEqProofs only[go_sem,seval,↓reduceIte,q1]
  refine hK _ ?_
  clear hK K
  refine AW.condS (by simp -implicitDefEqProofs only[go_sem,seval,↓reduceIte];rfl) (fun h53=>?_) (fun h53=>?_)
  rotate_left
  ·cases h53
  refine AW.seq_k fun K hK=>AW.region (by kernel_rfl) ?_
  simp -implicitDefEqProofs only[go_sem,seval,↓reduceIte]
  refine CallA.pure hG (by kernel_rfl) ?_
  simp -implicitDefEqProofs only[go_sem,seval,↓reduceIte,List.map_nil]
  refine (wWorks11_spec G hE).mono ?_
  rintro _ _ rfl
  simp -implicitDefEqProofs only[go_sem,seval,↓reduceIte]
  refine hK _ ?_
  clear hK K
  refine AW.ret ?_
  simp -implicitDefEqProofs only[go_sem,seval,↓reduceIte]
  refine endK_some ?_
  rfl
 have q1:decide (((a.length:Nat):Int) > 300)=false:=by rw [decide_eq_false_iff_not];omega
 by_cases hlb:b.length > 300
 ·have q2:decide (((b.length:Nat):Int) > 300)=true:=by rw [decide_eq_true_iff];omega
  refine AW.seq_k fun K hK=>AW.region (by kernel_rfl) ?_
  simp -implicitDefEqProofs only[go_sem,seval,↓reduceIte,q1,q2]
  refine hK _ ?_
  clear hK K
  refine AW.condS (by simp -implicitDefEqProofs only[go_sem,seval,↓reduceIte];rfl) (fun h53=>?_) (fun h53=>?_)
  rotate_left
  ·cases h53
  refine AW.seq_k fun K hK=>AW.region (by kernel_rfl) ?_
  simp -implicitDefEqProofs only[go_sem,seval,↓reduceIte]
  refine CallA.pure hG (by kernel_rfl) ?_
  simp -implicitDefEqProofs only[go_sem,seval,↓reduceIte,List.map_nil]
  refine (wWorks11_spec G hE).mono ?_
  rintro _ _ rfl
  simp -implicitDefEqProofs only[go_sem,seval,↓reduceIte]
  refine hK _ ?_
  clear hK K
  refine AW.ret ?_
  simp -implicitDefEqProofs only[go_sem,seval,↓reduceIte]
  refine endK_some ?_
  rfl
 have q2:decide (((b.length:Nat):Int) > 300)=false:=by rw [decide_eq_false_iff_not];omega
 refine AW.seq_k fun K hK=>AW.region (by kernel_rfl) ?_
 simp -implicitDefEqProofs only[go_sem,seval,↓reduceIte,q1,q2]
 refine CallA.pure hG (by kernel_rfl) ?_
 simp -implicitDefEqProofs only[go_sem,seval,↓reduceIte]
 refine (wNames11_spec G hG _ vars hv).mono ?_
 rintro _ _ rfl
 cases q3:fewN vars.l with
 | false =>
  simp -implicitDefEqProofs only[go_sem,seval,↓reduceIte,q3]
  refine hK _ ?_
  clear hK K
  refine AW.condS (by simp -implicitDefEqProofs only[go_sem,seval,↓reduceIte];rfl) (fun h53=>?_) (fun h53=>?_)
  rotate_left
  ·cases h53
  refine AW.seq_k fun K hK=>AW.region (by kernel_rfl) ?_
  simp -implicitDefEqProofs only[go_sem,seval,↓reduceIte]
  refine CallA.pure hG (by kernel_rfl) ?_
  simp -implicitDefEqProofs only[go_sem,seval,↓reduceIte,List.map_nil]
  refine (wWorks11_spec G hE).mono ?_
  rintro _ _ rfl
  simp -implicitDefEqProofs only[go_sem,seval,↓reduceIte]
  refine hK _ ?_
  clear hK K
  refine AW.ret ?_
  simp -implicitDefEqProofs only[go_sem,seval,↓reduceIte]
  refine endK_some ?_
  rfl
 | true =>
 simp -implicitDefEqProofs only[go_sem,seval,↓reduceIte,q3]
 refine CallA.pure hG (by kernel_rfl) ?_
 simp -implicitDefEqProofs only[go_sem,seval,↓reduceIte]
 refine (wNames11_spec G hG _ events hev).mono ?_
 rintro _ _ rfl
 cases q4:fewN events.l with
 | false =>
  simp -implicitDefEqProofs only[go_sem,seval,↓reduceIte,q4]
  refine hK _ ?_
  clear hK K
  refine AW.condS (by simp -implicitDefEqProofs only[go_sem,seval,↓reduceIte];rfl) (fun h53=>?_) (fun h53=>?_)
  rotate_left
  ·cases h53
  refine AW.seq_k fun K hK=>AW.region (by kernel_rfl) ?_
  simp -implicitDefEqProofs only[go_sem,seval,↓reduceIte]
  refine CallA.pure hG (by kernel_rfl) ?_
  simp -implicitDefEqProofs only[go_sem,seval,↓reduceIte,List.map_nil]
  refine (wWorks11_spec G hE).mono ?_
  rintro _ _ rfl
  simp -implicitDefEqProofs only[go_sem,seval,↓reduceIte]
  refine hK _ ?_
  clear hK K
  refine AW.ret ?_
  simp -implicitDefEqProofs only[go_sem,seval,↓reduceIte]
  refine endK_some ?_
  rfl
 | true =>
 simp -implicitDefEqProofs only[go_sem,seval,↓reduceIte,q4]
 refine CallA.pure hG (by kernel_rfl) ?_
 simp -implicitDefEqProofs only[go_sem,seval,↓reduceIte]
 refine (wNames11_spec G hG _ more hmo).mono ?_
 rintro _ _ rfl
 cases q5:fewN more.l with
 | false =>
  simp -implicitDefEqProofs only[go_sem,seval,↓reduceIte,q5]
  refine hK _ ?_
  clear hK K
  refine AW.condS (by simp -implicitDefEqProofs only[go_sem,seval,↓reduceIte];rfl) (fun h53=>?_) (fun h53=>?_)
  rotate_left
  ·cases h53
  refine AW.seq_k fun K hK=>AW.region (by kernel_rfl) ?_
  simp -implicitDefEqProofs only[go_sem,seval,↓reduceIte]
  refine CallA.pure hG (by kernel_rfl) ?_
  simp -implicitDefEqProofs only[go_sem,seval,↓reduceIte,List.map_nil]
  refine (wWorks11_spec G hE).mono ?_
  rintro _ _ rfl
  simp -implicitDefEqProofs only[go_sem,seval,↓reduceIte]
  refine hK _ ?_
  clear hK K
  refine AW.ret ?_
  simp -implicitDefEqProofs only[go_sem,seval,↓reduceIte]
  refine endK_some ?_
  rfl
 | true =>
 simp -implicitDefEqProofs only[go_sem,seval,↓reduceIte,q5]
 refine hK _ ?_
 clear hK K
 refine AW.condS (by simp -implicitDefEqProofs only[go_sem,seval,↓reduceIte];rfl) (fun h53=>?_) (fun h53=>?_)
 ·cases h53
 refine AW.skip ?_
 simp -implicitDefEqProofs only[go_sem,seval,↓reduceIte]
 refine hK1 _ ?_
 have hvl:=(fewN_bnd q3).1
 have hel:=(fewN_bnd q4).1
 have hml:=(fewN_bnd q5).1
 clear q1 q2 q3 q4 q5 hv hev hmo
 have hbX:=bodyP_bok (s:=a) (by omega)
 have hbY:=bodyP_bok (s:=b) (by omega)
 have hjn:=fun ha hb=>body_join (a:=a) (b:=b) ha hb (by omega)
 have hrX := @bodyP_right a
 have hrY := @bodyP_right b
 have hcX := @bodyP_check a
 have hcY := @bodyP_check b
 have hpX:bodyP a=bodyP a:=rfl
 have hbZ:=bodyP_bok (s:=a++10::b) (by simp only [List.length_append,List.length_cons];omega)
 have hcZ := @bodyP_check (a++10::b)
 generalize hxe:bodyP a=px at hbX hjn hrX hcX
 generalize hye:bodyP b=py at hbY hjn hrY hcY
 obtain ⟨xl,xw,xe⟩:=px
 obtain ⟨yl,yw,ye⟩:=py
 simp only at hbX hbY hjn hrX hrY hcX hcY
 refine AW.seq_k fun K hK=>AW.region (by kernel_rfl) ?_
 simp -implicitDefEqProofs only[go_sem,seval,↓reduceIte,hxe]
 refine CallA.pure hG (by kernel_rfl) ?_
 simp -implicitDefEqProofs only[go_sem,seval,↓reduceIte]
 refine (bParse_spec G hE a (by omega)).mono ?_
 rintro _ _ rfl
 rw [hxe]
 simp -implicitDefEqProofs only[go_sem,seval,↓reduceIte,encBP,encABs,encABs_am,recol_ams]
 intro g11
 refine hK _ ?_
 clear hK K
 refine AW.seq_k fun K hK=>AW.region (by kernel_rfl) ?_
 simp -implicitDefEqProofs only[go_sem,seval,↓reduceIte,hye]
 refine CallA.pure hG (by kernel_rfl) ?_
 simp -implicitDefEqProofs only[go_sem,seval,↓reduceIte]
 refine (bParse_spec G hE b (by omega)).mono ?_
 rintro _ _ rfl
 rw [hye]
 simp -implicitDefEqProofs only[go_sem,seval,↓reduceIte,encBP,encABs,encABs_am,recol_ams]
 intro g14
 refine hK _ ?_
 clear hK K
 refine AW.seq_k fun K2 hK2=>?_
 by_cases hx0:xe=0
 rotate_left
 ·have q:(xe==0)=false:=by simpa using hx0
  refine AW.seq_k fun K hK=>AW.region (by kernel_rfl) ?_
  simp -implicitDefEqProofs only[go_sem,seval,↓reduceIte,bne,q]
  refine hK _ ?_
  clear hK K
  refine AW.condS (by simp -implicitDefEqProofs only[go_sem,seval,↓reduceIte];rfl) (fun h72=>?_) (fun h72=>?_)
  rotate_left
  ·cases h72
  refine AW.seq_k fun K hK=>AW.region (by kernel_rfl) ?_
  simp -implicitDefEqProofs only[go_sem,seval,↓reduceIte]
  refine CallA.pure hG (by kernel_rfl) ?_
  simp -implicitDefEqProofs only[go_sem,seval,↓reduceIte,List.map_nil]
  refine (wWorks11_spec G hE).mono ?_
  rintro _ _ rfl
  simp -implicitDefEqProofs only[go_sem,seval,↓reduceIte]
  refine hK _ ?_
  clear hK K
  refine AW.ret ?_
  simp -implicitDefEqProofs only[go_sem,seval,↓reduceIte]
  refine endK_some ?_
  rfl
 by_cases hy0:ye=0
 rotate_left
 ·have q:(xe==0)=true:=by simpa using hx0
  have q':(ye==0)=false:=by simpa using hy0
  refine AW.seq_k fun K hK=>AW.region (by kernel_rfl) ?_
  simp -implicitDefEqProofs only[go_sem,seval,↓reduceIte,bne,q,q']
  refine hK _ ?_
  clear hK K
  refine AW.condS (by simp -implicitDefEqProofs only[go_sem,seval,↓reduceIte];rfl) (fun h72=>?_) (fun h72=>?_)
  rotate_left
  ·cases h72
  refine AW.seq_k fun K hK=>AW.region (by kernel_rfl) ?_
  simp -implicitDefEqProofs only[go_sem,seval,↓reduceIte]
  refine CallA.pure hG (by kernel_rfl) ?_
  simp -implicitDefEqProofs only[go_sem,seval,↓reduceIte,List.map_nil]
  refine (wWorks11_spec G hE).mono ?_
  rintro _ _ rfl
  simp -implicitDefEqProofs only[go_sem,seval,↓reduceIte]
  refine hK _ ?_
  clear hK K
  refine AW.ret ?_
  simp -implicitDefEqProofs only[go_sem,seval,↓reduceIte]
  refine endK_some ?_
  rfl
 have qx:(xe==0)=true:=by simpa using hx0
 have qy:(ye==0)=true:=by simpa using hy0
 refine AW.seq_k fun K hK=>AW.region (by kernel_rfl) ?_
 simp -implicitDefEqProofs only[go_sem,seval,↓reduceIte,bne,qx,qy]
 refine hK _ ?_
 clear hK K
 refine AW.condS (by simp -implicitDefEqProofs only[go_sem,seval,↓reduceIte];rfl) (fun h72=>?_) (fun h72=>?_)
 ·cases h72
 refine AW.skip ?_
 simp -implicitDefEqProofs only[go_sem,seval,↓reduceIte]
 refine hK2 _ ?_
 have hz:=hjn hx0 hy0
 rw [hz] at hbZ hcZ
 simp only at hbZ hcZ
 have hcZ:=hcZ trivial
 have hcX:=hcX hx0
 have hcY:=hcY hy0
 have hrX:=hrX hx0
 have hrY:=hrY hy0
 refine AW.weak (Weak.stF (fun _=>false) (l:=[(0,.str a),(1,.str b),(2,encSl c2 1 V.str vars),(3,encSl c3 1 V.str events),(4,encSl c4 1 V.str more),(11,.ptr 11 g11 0),(14,.ptr 14 g14 0)])
  (m:=[(11,.cells .new g11 0 [encSl .new 3 (encAM .new) (amS xl)]),(14,.cells .new g14 0 [encSl .new 3 (encAM .new) (amS yl)])]) ?_ ?_) ?_
 ·simp -implicitDefEqProofs only[go_sem,seval,↓reduceIte]
  repeat' apply And.intro
  all_goals exact Fz.same _
 ·simp only [allFzO_cons,allFzO_nil,and_true]
  exact ⟨FzO.keep rfl (by simp -implicitDefEqProofs only[go_sem,seval,↓reduceIte];try rfl),FzO.keep rfl (by simp -implicitDefEqProofs only[go_sem,seval,↓reduceIte];try rfl)⟩
 have t1:¬ (((a.length+1:Nat):Int) > IntKind.i64.max):=lenOk2 (by omega)
 have t2:¬ ((((a++[10]).length+b.length:Nat):Int) > IntKind.i64.max):=lenOk2 (by rw [List.length_append];simp only [List.length_cons,List.length_nil];omega)
 have hab:a++[10]++b=a++10::b:=by simp
 refine AW.seq_k fun K hK=>AW.region (by kernel_rfl) ?_
 simp -implicitDefEqProofs only[go_sem,seval,↓reduceIte,t1,t2]
 refine CallA.pure hG (by kernel_rfl) ?_
 simp -implicitDefEqProofs only[go_sem,seval,↓reduceIte]
 refine (bParse_spec G hE (a++[10]++b) (by simp only [List.length_append,List.length_cons,List.length_nil];omega)).mono ?_
 rintro _ _ rfl
 rw [hab,hz]
 simp -implicitDefEqProofs only[go_sem,seval,↓reduceIte,encBP,encABs,encABs_am,recol_ams]
 intro g17
 refine hK _ ?_
 clear hK K
 refine AW.seq_k fun K3 hK3=>?_
 have hlx:(amS xl).l.length=xl.length:=by rw [amS_l,List.length_map]
 have hly:(amS yl).l.length=yl.length:=by rw [amS_l,List.length_map]
 have hlz:(amS (xl++yl)).l.length=xl.length+yl.length:=by rw [amS_l,List.length_map,List.length_append]
 have hxk:=hbX.k
 have hyk:=hbY.k
 have qlen:(((amS (xl++yl)).l.length:Int)==IntKind.i64.wrap (((amS xl).l.length:Int)+((amS yl).l.length:Int)))=true:=by
  rw [beq_iff_eq,hlx,hly,hlz,w64 (by omega) (by omega)];omega
 refine AW.seq_k fun K hK=>AW.region (by kernel_rfl) ?_
 simp -implicitDefEqProofs only[go_sem,seval,↓reduceIte,bne,qlen]
 refine hK _ ?_
 clear hK K
 refine AW.condS (by simp -implicitDefEqProofs only[go_sem,seval,↓reduceIte];rfl) (fun h97=>?_) (fun h97=>?_)
 ·cases h97
 refine AW.skip ?_
 simp -implicitDefEqProofs only[go_sem,seval,↓reduceIte]
 refine hK3 _ ?_
 have hxx:∀ y∈(amS xl).l,y.x.l.length<1000000:=fun y hy=>(hbX.amb y hy).l
 have hyx:∀ y∈(amS yl).l,y.x.l.length<1000000:=fun y hy=>(hbY.amb y hy).l
 have hzx:∀ y∈(amS (xl++yl)).l,y.x.l.length<1000000:=fun y hy=>(hbZ.amb y hy).l
 refine AW.seqJ (fun (_:Unit)=>st [(2,encSl c2 1 V.str vars),(3,encSl c3 1 V.str events),(4,encSl c4 1 V.str more),(11,.ptr 11 g11 0),(14,.ptr 14 g14 0),(17,.ptr 17 g17 0),(20,encSl .new 3 (encAM .new) (amS (xl++yl)))]
  [(11,.cells .new g11 0 [encSl .new 3 (encAM .new) (amS xl)]),(14,.cells .new g14 0 [encSl .new 3 (encAM .new) (amS yl)]),(17,.cells .new g17 0 [encSl .new 3 (encAM .new) (amS (xl++yl))])]) (fun _=>True) (fun K4 hK4=>?_) ?_
 ·refine AW.regionO [0,2,1,3,4,5] [(29,.ptr 14 g14 0,.agg [encSl .new 3 (encAM .new) (amS yl)])] ⟨fun i=>if i=2 then .agg [encSl .new 3 (encAM .new) (amS yl)] else if i=3 then encSl .new 3 (encAM .new) (amS yl) else .top,fun i=>if i=1 then .any else if i=2 then .keep else .pure⟩ (by kernel_rfl) hG (by kernel_rfl) (by kernel_rfl) (by kernel_rfl) (by kernel_rfl) ?_
  simp -implicitDefEqProofs only[go_sem,seval,↓reduceIte,List.getElem?_cons_zero,List.getElem?_cons_succ]
  refine CallA.inl [(7061,.dead)] (by kernel_rfl) ?_ ?_
  ·intro p hp
   rw [List.mem_singleton] at hp
   subst hp
   simp -implicitDefEqProofs only[go_sem,seval,↓reduceIte]
  refine (wRef11N_spec G hG _ _ (amS xl) hbX.len hxx).mono ?_
  rintro _ H' ⟨g61,rfl,q⟩
  rw [amS_v] at q ⊢
  simp only [List.map_cons,List.map_nil,q]
  simp -implicitDefEqProofs only[go_sem,seval,↓reduceIte,sets,srcCells_am]
  refine ⟨⟨by kernel_rfl,?_⟩,?_⟩
  ·simp -implicitDefEqProofs only[go_sem,seval,↓reduceIte,recol_ams,List.map_cons,List.map_nil]
   exact (wRef11_spec G hG _ _ (amS yl) hbY.len hyx).mono fun v _ e=>by rw [e,amS_v,ref_bk]
  refine app_grown2 (f:=encAS .new) (l:=xl) (l2:=yl) (o:=7061) (g:=g61) (encAS_cells _) rfl rfl rfl (by simp -implicitDefEqProofs only[go_sem,seval,↓reduceIte];try rfl) (roomOk_of (by omega) (by omega)) fun o2 g2 ho2=>?_
  have ho2:o2=7061∨o2=102:=ho2
  rcases ho2 with rfl | rfl
  ·simp -implicitDefEqProofs only[go_sem,seval,↓reduceIte]
   refine hK4 _ () trivial (Weak.stF (fun o=>o==7061) ?_ ?_)
   ·simp -implicitDefEqProofs only[go_sem,seval,↓reduceIte]
    refine ⟨Fz.same _,Fz.same _,Fz.same _,Fz.same _,Fz.same _,Fz.same _,?_⟩
    rw [← encABs_am .new (xl++yl)]
    exact Fz.grown rfl (by simp -implicitDefEqProofs only[go_sem,seval,↓reduceIte];try rfl) (encAS_cells _)
   ·simp only [allFzO_cons,allFzO_nil,and_true]
    exact ⟨FzO.keep rfl (by simp -implicitDefEqProofs only[go_sem,seval,↓reduceIte];try rfl),FzO.keep rfl (by simp -implicitDefEqProofs only[go_sem,seval,↓reduceIte];try rfl),FzO.keep rfl (by simp -implicitDefEqProofs only[go_sem,seval,↓reduceIte];try rfl)⟩
  ·simp -implicitDefEqProofs only[go_sem,seval,↓reduceIte]
   refine hK4 _ () trivial (Weak.stF (fun o=>o==102) ?_ ?_)
   ·simp -implicitDefEqProofs only[go_sem,seval,↓reduceIte]
    refine ⟨Fz.same _,Fz.same _,Fz.same _,Fz.same _,Fz.same _,Fz.same _,?_⟩
    rw [← encABs_am .new (xl++yl)]
    exact Fz.grown rfl (by simp -implicitDefEqProofs only[go_sem,seval,↓reduceIte];try rfl) (encAS_cells _)
   ·simp only [allFzO_cons,allFzO_nil,and_true]
    exact ⟨FzO.keep rfl (by simp -implicitDefEqProofs only[go_sem,seval,↓reduceIte];try rfl),FzO.keep rfl (by simp -implicitDefEqProofs only[go_sem,seval,↓reduceIte];try rfl),FzO.keep rfl (by simp -implicitDefEqProofs only[go_sem,seval,↓reduceIte];try rfl)⟩
 intro _ _
 refine AW.seq_k fun K5 hK5=>?_
 refine AW.seq_k fun K hK=>AW.region (by kernel_rfl) ?_
 simp -implicitDefEqProofs only[go_sem,seval,↓reduceIte]
 refine CallA.pure hG (by kernel_rfl) ?_
 simp -implicitDefEqProofs only[go_sem,seval,↓reduceIte,recol_ams]
 refine (wRef11_spec G hG _ _ (amS (xl++yl)) hbZ.len hzx).mono ?_
 rintro _ _ rfl
 rw [amS_v,ref_bk]
 refine CallA.pure hG (by kernel_rfl) ?_
 simp -implicitDefEqProofs only[go_sem,seval,↓reduceIte,recol_ams]
 refine (aSame_spec G hG _ _ _ _ (amS (xl++yl)) (amS (xl++yl)) hbZ.len hzx).mono ?_
 rintro _ _ rfl
 have ezz:((amS (xl++yl)).l.map AM.v==(amS (xl++yl)).l.map AM.v)=true:=by simp
 rw [ezz]
 simp -implicitDefEqProofs only[go_sem,seval,↓reduceIte]
 refine hK _ ?_
 clear hK K
 refine AW.condS (by simp -implicitDefEqProofs only[go_sem,seval,↓reduceIte];rfl) (fun h107=>?_) (fun h107=>?_)
 ·cases h107
 refine AW.skip ?_
 simp -implicitDefEqProofs only[go_sem,seval,↓reduceIte]
 refine hK5 _ ?_
 have tz:=types_ok (vars:=vars.l) (events:=events.l) hcZ
 have tx:=types_ok (vars:=vars.l) (events:=events.l) hcX
 have ty:=types_ok (vars:=vars.l) (events:=events.l) hcY
 have tm:=types_ok (vars:=more.l++vars.l) (events:=more.l++events.l) hcZ
 have hmore:=all_more (b:=xl++yl) (vars:=vars.l) (events:=events.l) (more:=more.l) (fun t ht=>by
  rcases List.mem_append.1 ht with ht | ht
  ·exact hrX t ht
  ·exact hrY t ht)
 rw [List.all_append] at tz hmore
 generalize hA:xl.all (stT vars.l events.l)=A at tz tx hmore
 generalize hB:yl.all (stT vars.l events.l)=B at tz ty hmore
 generalize hzt:typesA (xl++yl) vars.l events.l=rz at tz
 generalize hxt:typesA xl vars.l events.l=rx at tx
 generalize hyt:typesA yl vars.l events.l=ry at ty
 obtain ⟨zn,ze⟩:=rz
 obtain ⟨xn,xe2⟩:=rx
 obtain ⟨yn,ye2⟩:=ry
 simp only at tz tx ty
 refine AW.seq_k fun K hK=>AW.region (by kernel_rfl) ?_
 simp -implicitDefEqProofs only[go_sem,seval,↓reduceIte]
 refine CallA.pure hG (by kernel_rfl) ?_
 simp -implicitDefEqProofs only[go_sem,seval,↓reduceIte,recol_ams]
 refine (bTypes_spec G hE _ _ _ _ (amS (xl++yl)) vars events hbZ.len hbZ.amb (by omega) (by omega)).mono ?_
 rintro _ _ rfl
 rw [amS_v,hzt]
 simp -implicitDefEqProofs only[go_sem,seval,↓reduceIte,encTy]
 refine hK _ ?_
 clear hK K
 refine AW.seq_k fun K hK=>AW.region (by kernel_rfl) ?_
 simp -implicitDefEqProofs only[go_sem,seval,↓reduceIte]
 refine CallA.pure hG (by kernel_rfl) ?_
 simp -implicitDefEqProofs only[go_sem,seval,↓reduceIte,recol_ams]
 refine (bTypes_spec G hE _ _ _ _ (amS xl) vars events hbX.len hbX.amb (by omega) (by omega)).mono ?_
 rintro _ _ rfl
 rw [amS_v,hxt]
 simp -implicitDefEqProofs only[go_sem,seval,↓reduceIte,encTy]
 refine hK _ ?_
 clear hK K
 refine AW.seq_k fun K hK=>AW.region (by kernel_rfl) ?_
 simp -implicitDefEqProofs only[go_sem,seval,↓reduceIte]
 refine CallA.pure hG (by kernel_rfl) ?_
 simp -implicitDefEqProofs only[go_sem,seval,↓reduceIte,recol_ams]
 refine (bTypes_spec G hE _ _ _ _ (amS yl) vars events hbY.len hbY.amb (by omega) (by omega)).mono ?_
 rintro _ _ rfl
 rw [amS_v,hyt]
 simp -implicitDefEqProofs only[go_sem,seval,↓reduceIte,encTy]
 refine hK _ ?_
 clear hK K
 refine AW.seqJ (fun (_:Unit)=>st [(2,encSl c2 1 V.str vars),(3,encSl c3 1 V.str events),(4,encSl c4 1 V.str more),(17,.ptr 17 g17 0),(22,.int .i64 ze)] [(17,.cells .new g17 0 [encSl .new 3 (encAM .new) (amS (xl++yl))])]) (fun _=>True) (fun K7 hK7=>?_) ?_
 ·cases A with
  | false =>
   have tz:(ze==0)=false:=tz
   refine AW.seq_k fun K hK=>AW.region (by kernel_rfl) ?_
   simp -implicitDefEqProofs only[go_sem,seval,↓reduceIte,tz,tx,ty]
   refine hK _ ?_
   clear hK K
   refine AW.condS (by simp -implicitDefEqProofs only[go_sem,seval,↓reduceIte];rfl) (fun h137=>?_) (fun h137=>?_)
   ·cases h137
   refine AW.skip ?_
   simp -implicitDefEqProofs only[go_sem,seval,↓reduceIte]
   exact hK7 _ () trivial (Weak.st (by simp -implicitDefEqProofs only[go_sem,seval,↓reduceIte];try rfl) (by simp -implicitDefEqProofs only[go_sem,seval,↓reduceIte];try rfl))
  | true =>
  cases B with
  | false =>
   have tz:(ze==0)=false:=tz
   refine AW.seq_k fun K hK=>AW.region (by kernel_rfl) ?_
   simp -implicitDefEqProofs only[go_sem,seval,↓reduceIte,tz,tx,ty]
   refine hK _ ?_
   clear hK K
   refine AW.condS (by simp -implicitDefEqProofs only[go_sem,seval,↓reduceIte];rfl) (fun h137=>?_) (fun h137=>?_)
   ·cases h137
   refine AW.skip ?_
   simp -implicitDefEqProofs only[go_sem,seval,↓reduceIte]
   exact hK7 _ () trivial (Weak.st (by simp -implicitDefEqProofs only[go_sem,seval,↓reduceIte];try rfl) (by simp -implicitDefEqProofs only[go_sem,seval,↓reduceIte];try rfl))
  | true =>
   have tz:(ze==0)=true:=tz
   refine AW.seq_k fun K hK=>AW.region (by kernel_rfl) ?_
   simp -implicitDefEqProofs only[go_sem,seval,↓reduceIte,tz,tx,ty]
   refine hK _ ?_
   clear hK K
   refine AW.condS (by simp -implicitDefEqProofs only[go_sem,seval,↓reduceIte];rfl) (fun h137=>?_) (fun h137=>?_)
   ·cases h137
   refine AW.skip ?_
   simp -implicitDefEqProofs only[go_sem,seval,↓reduceIte]
   exact hK7 _ () trivial (Weak.st (by simp -implicitDefEqProofs only[go_sem,seval,↓reduceIte];try rfl) (by simp -implicitDefEqProofs only[go_sem,seval,↓reduceIte];try rfl))
 intro _ _
 have hF:∀ o2:Nat,(o2=140∨o2=142∨o2=145∨o2=147)→o2≠17:=by intro o2 h;omega
 refine AW.seq_k fun K hK=>AW.region (by kernel_rfl) ?_
 simp -implicitDefEqProofs only[go_sem,seval,↓reduceIte]
 refine hK _ ?_
 clear hK K
 refine AW.seqJ (fun (N:Sl (List UInt8))=>st [(3,encSl c3 1 V.str events),(4,encSl c4 1 V.str more),(17,.ptr 17 g17 0),(22,.int .i64 ze),(27,encSl .new 1 V.str N),(28,.nils)] [(17,.cells .new g17 0 [encSl .new 3 (encAM .new) (amS (xl++yl))])]) (fun N=>N.l=more.l++vars.l) (fun K8 hK8=>?_) ?_
 ·refine AW.region (by kernel_rfl) ?_
  simp -implicitDefEqProofs only[go_sem,seval,↓reduceIte,srcCells_strJ]
  refine app_grown (f:=V.str) (l:=([]:List (List UInt8))) (l2:=more.l) (g:=0) (fun _=>rfl) rfl rfl rfl (by simp -implicitDefEqProofs only[go_sem,seval,↓reduceIte];try rfl) (roomOk_of (by omega) (by simp;omega)) fun ga=>?_
  rw [List.nil_append]
  simp -implicitDefEqProofs only[go_sem,seval,↓reduceIte,srcCells_strJ]
  refine app_grown2 (f:=V.str) (l:=more.l) (l2:=vars.l) (o:=140) (g:=ga) (fun _=>rfl) rfl rfl rfl (by simp -implicitDefEqProofs only[go_sem,seval,↓reduceIte];try rfl) (roomOk_of (by omega) (by omega)) fun o2 gb ho2=>?_
  have ho2:o2=140∨o2=142:=ho2
  have hne:=hF o2 (by omega)
  simp -implicitDefEqProofs only[go_sem,seval,↓reduceIte]
  refine hK8 _ (grownS (more.l++vars.l)) (grownS_l _) (Weak.stF (fun o=>decide (o2=o)) ?_ ?_)
  ·simp -implicitDefEqProofs only[go_sem,seval,↓reduceIte]
   refine ⟨Fz.same _,Fz.same _,Fz.same _,Fz.same _,?_,Fz.same _⟩
   exact Fz.grown (by simp) (by simp -implicitDefEqProofs only[go_sem,seval,↓reduceIte];try rfl) (fun _=>rfl)
  ·simp only [allFzO_cons,allFzO_nil,and_true]
   exact FzO.keep (by simpa using hne) (by simp -implicitDefEqProofs only[go_sem,seval,↓reduceIte,hne,hne.symm];try rfl)
 intro N1 hN1
 refine AW.seqJ (fun (N:Sl (List UInt8))=>st [(17,.ptr 17 g17 0),(22,.int .i64 ze),(27,encSl .new 1 V.str N1),(28,encSl .new 1 V.str N)] [(17,.cells .new g17 0 [encSl .new 3 (encAM .new) (amS (xl++yl))])]) (fun N=>N.l=more.l++events.l) (fun K8 hK8=>?_) ?_
 ·refine AW.region (by kernel_rfl) ?_
  simp -implicitDefEqProofs only[go_sem,seval,↓reduceIte,srcCells_strJ]
  refine app_grown (f:=V.str) (l:=([]:List (List UInt8))) (l2:=more.l) (g:=0) (fun _=>rfl) rfl rfl rfl (by simp -implicitDefEqProofs only[go_sem,seval,↓reduceIte];try rfl) (roomOk_of (by omega) (by simp;omega)) fun ga=>?_
  rw [List.nil_append]
  simp -implicitDefEqProofs only[go_sem,seval,↓reduceIte,srcCells_strJ]
  refine app_grown2 (f:=V.str) (l:=more.l) (l2:=events.l) (o:=145) (g:=ga) (fun _=>rfl) rfl rfl rfl (by simp -implicitDefEqProofs only[go_sem,seval,↓reduceIte];try rfl) (roomOk_of (by omega) (by omega)) fun o2 gb ho2=>?_
  have ho2:o2=145∨o2=147:=ho2
  have hne:=hF o2 (by omega)
  simp -implicitDefEqProofs only[go_sem,seval,↓reduceIte]
  refine hK8 _ (grownS (more.l++events.l)) (grownS_l _) (Weak.stF (fun o=>decide (o2=o)) ?_ ?_)
  ·simp -implicitDefEqProofs only[go_sem,seval,↓reduceIte]
   refine ⟨Fz.same _,Fz.same _,Fz.same _,?_⟩
   exact Fz.grown (by simp) (by simp -implicitDefEqProofs only[go_sem,seval,↓reduceIte];try rfl) (fun _=>rfl)
  ·simp only [allFzO_cons,allFzO_nil,and_true]
   exact FzO.keep (by simpa using hne) (by simp -implicitDefEqProofs only[go_sem,seval,↓reduceIte,hne,hne.symm];try rfl)
 intro N2 hN2
 rw [← hN1,← hN2] at tm hmore
 have hN1l:N1.l.length<100000:=by rw [hN1,List.length_append];omega
 have hN2l:N2.l.length<100000:=by rw [hN2,List.length_append];omega
 generalize hmt:typesA (xl++yl) N1.l N2.l=rm at tm
 obtain ⟨mn,me⟩:=rm
 simp only at tm
 refine AW.seq_k fun K hK=>AW.region (by kernel_rfl) ?_
 simp -implicitDefEqProofs only[go_sem,seval,↓reduceIte]
 refine CallA.pure hG (by kernel_rfl) ?_
 simp -implicitDefEqProofs only[go_sem,seval,↓reduceIte,recol_ams]
 refine (bTypes_spec G hE _ _ _ _ (amS (xl++yl)) N1 N2 hbZ.len hbZ.amb (by omega) (by omega)).mono ?_
 rintro _ _ rfl
 rw [amS_v,hmt]
 simp -implicitDefEqProofs only[go_sem,seval,↓reduceIte,encTy]
 refine hK _ ?_
 clear hK K
 cases qz:(ze==0) with
 | false =>
  refine AW.seq_k fun K hK=>AW.region (by kernel_rfl) ?_
  simp -implicitDefEqProofs only[go_sem,seval,↓reduceIte,bne,qz]
  refine CallA.pure hG (by kernel_rfl) ?_
  simp -implicitDefEqProofs only[go_sem,seval,↓reduceIte,List.map_nil]
  refine (wWorks11_spec G hE).mono ?_
  rintro _ _ rfl
  simp -implicitDefEqProofs only[go_sem,seval,↓reduceIte]
  refine hK _ ?_
  clear hK K
  refine AW.ret ?_
  simp -implicitDefEqProofs only[go_sem,seval,↓reduceIte]
  refine endK_some ?_
  rfl
 | true =>
  have qm:(me==0)=true:=by rw [tm];exact hmore (by rw [← tz,qz])
  refine AW.seq_k fun K hK=>AW.region (by kernel_rfl) ?_
  simp -implicitDefEqProofs only[go_sem,seval,↓reduceIte,bne,qz,qm]
  refine CallA.pure hG (by kernel_rfl) ?_
  simp -implicitDefEqProofs only[go_sem,seval,↓reduceIte,List.map_nil]
  refine (wWorks11_spec G hE).mono ?_
  rintro _ _ rfl
  simp -implicitDefEqProofs only[go_sem,seval,↓reduceIte]
  refine hK _ ?_
  clear hK K
  refine AW.ret ?_
  simp -implicitDefEqProofs only[go_sem,seval,↓reduceIte]
  refine endK_some ?_
  rfl
end Go.Hs
end

section
namespace Go.Proofs.YtohdjmgdaaipaaaGreatDoor
open Go.RowKit Go.Hs
set_option maxRecDepth 100000
def laidAll:List (String × DataW Unit):=[("math/bits.deBruijn32tab",Rows.laid_math_bits_deBruijn32tab),("math/bits.deBruijn64tab",Rows.laid_math_bits_deBruijn64tab),("internal/strconv.uint64pow10",Rows.laid_internal_strconv_uint64pow10),("unicode/utf8.acceptRanges",Rows.laid_unicode_utf8_acceptRanges),("strconv.ErrRange",Rows.laid_strconv_ErrRange),("strconv.ErrSyntax",Rows.laid_strconv_ErrSyntax),("hopscotch/lex.signs",Rows.laid_hopscotch_lex_signs),("unicode/utf8.first",Rows.laid_unicode_utf8_first)]
noncomputable def low:Nat:=(World.holding Tryz.prog default ⟨#[],#[],[]⟩).heap.size
def b32:List Int:=[0,1,28,2,29,14,24,3,30,22,20,15,25,17,4,8,31,27,13,23,21,19,16,7,26,12,18,6,11,5,10,9]
def b64:List Int:=0::1::56::2::57::49::28::3::61::58::42::50::38::29::17::4::62::47::59::36::45::43::51::22::53::39::33::30::24::18::12::5::63::55::48::27::60::41::37::16::46::35::44::21::52::32::23::11::54::26::40::15::34::20::31::10::25::14::19::9::13::8::7::6::[]
def acR:List Int:=[128,191,160,191,128,159,144,191,128,143]++List.replicate 22 0
def errR:ByteArray:={ data := #[118,97,108,117,101,32,111,117,116,32,111,102,32,114,97,110,103,101] }
def errS:ByteArray:={ data := #[105,110,118,97,108,105,100,32,115,121,110,116,97,120] }
def withCells (cs:Array Value):Obj→Obj
 | .cells _ t frozen => .cells cs t frozen
 | o=>o
noncomputable def laidWorld (os:Os):World :=
 let w0:=World.holding Tryz.prog os ⟨#[.cells #[.string errR] 375,.cells #[.string errS] 375],#[],[]⟩
 { w0 with heap:=(((((((w0.heap.modify 3 (withCells #[.iface 373 (.pointer (some ⟨low,0,none⟩))])).modify 8 (withCells #[.iface 373 (.pointer (some ⟨low+1,0,none⟩))])).modify 2
   (withCells (Lib.pow10Tab.map (Value.int .u64)).toArray)).modify 4 (withCells (b32.map (Value.int .u8)).toArray)).modify 5 (withCells (b64.map (Value.int .u8)).toArray)).modify 7 (withCells (acR.map (Value.int .u8)).toArray)).modify
   0 (withCells (signsL.map fun s=>Value.string ⟨s.toArray⟩).toArray)).modify 6 (withCells (Pinned.utf8FirstZ.map fun (n:Nat)=>Value.int .u8 (n:Int)).toArray) }
theorem laidWorld_met (os:Os) (args:Array Value):laidMet Tryz.prog laidAll ((laidWorld os).forCall (fun _ _=>0) ⟨#[],args,[]⟩).memory :=
 laidMet_of_run' 8 (by kernel_rfl) (by kernel_rfl)
end Go.Proofs.YtohdjmgdaaipaaaGreatDoor
end

section
namespace Go.Proofs.YtohdjmgdaaipaaaGreatDoor
open Go.RowKit Go.Hs
set_option maxRecDepth 100000
theorem laidMet_tail {P:Program} {W:World} {x:String × DataW Unit} {r:List (String × DataW Unit)} (h:laidMet P (x::r) W):laidMet P r W:=by
 obtain ⟨n,d⟩:=x
 obtain ⟨ps,⟨g0,t0,cs0,f0,p0,q0,hg0,ht0,hv0,hd0,hq,e0⟩,hnd,hrows⟩:=h
 subst e0
 exact ⟨q0,hq,(List.nodup_append.1 hnd).2.1,fun b off hm=>hrows b off (List.mem_append.2 (.inr hm))⟩
noncomputable def gE (m:Int):Nat→V:=fun g=>if g=3 then .view .old (.iface 373 (.view .old (.agg []))) else if g=2 then .view .old (.agg (Lib.pow10Tab.map (V.int .u64)))
 else if g=0 then .view .old (.agg (signsL.map V.str)) else if g=1 then .view .old (.int .i64 m) else .top
theorem recolL_ints (f:Col→Col):∀ l:List Int,V.recolL f (l.map (V.int .u64))=l.map (V.int .u64)
 | []=>rfl
 | x::r=>by simp only [List.map_cons,V.recolL];rw [recolL_ints f r];rfl
theorem recolL_strs (f:Col→Col):∀ l:List (List UInt8),V.recolL f (l.map V.str)=l.map V.str
 | []=>rfl
 | x::r=>by simp only [List.map_cons,V.recolL];rw [recolL_strs f r];rfl
theorem gE_ok (m:Int):GExp (gE m) where
 ok:=fun g=>by
  unfold gE
  split
  ·exact ⟨rfl,.view _ _ fun x hx=>by simp [V.cells] at hx;subst hx;exact .iface _ _ (.view _ _ fun x hx=>by simp [V.cells] at hx)⟩
  ·split
   ·refine ⟨by simp only [V.recol,Col.ent,recolL_ints],.view _ _ fun x hx=>?_⟩
    obtain ⟨n,_,rfl⟩:=List.mem_map.1 hx
    exact .int _ _
   ·split
    ·refine ⟨by simp only [V.recol,Col.ent,recolL_strs],.view _ _ fun x hx=>?_⟩
     obtain ⟨n,_,rfl⟩:=List.mem_map.1 hx
     exact .str _
    ·split
     ·exact ⟨rfl,.view _ _ fun x hx=>by simp [V.cells] at hx;subst hx;exact .int _ _⟩
     ·exact ⟨rfl,.top⟩
 er:=⟨_,_,_,rfl⟩
 tab:=⟨_,rfl⟩
 sg:=⟨_,rfl⟩
 ml:=⟨_,m,rfl⟩
theorem gER:Tryz.prog.globalNamed "strconv.ErrRange" = some 3:=by kernel_rfl
theorem gERType:(Tryz.prog.globals[3]?).map (·.type)=some 177:=by kernel_rfl
theorem cells111:Tryz.prog.cellsOf 375=1:=by kernel_rfl
theorem cells9:Tryz.prog.cellsOf 9=1:=by kernel_rfl
theorem star : "*" ++ "errors.errorString" = "*errors.errorString" := by decide
theorem row109 (u:TypeId) (h:Tryz.prog.typeName? 3 u=some "*errors.errorString"):u=373 :=
 typeName_ptr_named (nm := "errors.errorString") (by rw [star];kernel_rfl) (by kernel_rfl) (by decide) u (by rw [star];exact h)
theorem gTab:Tryz.prog.globalNamed "internal/strconv.uint64pow10" = some 2:=by kernel_rfl
theorem gTabType:∃ t n,(Tryz.prog.globals[2]?).map (·.type)=some t∧Tryz.prog.underlying t=some (.array n 303)∧Tryz.prog.cellsOf t=n∧n=20:=by
 refine ⟨(((Tryz.prog.globals[2]?).map (·.type)).getD 0),20,by kernel_rfl,by kernel_rfl,by kernel_rfl,rfl⟩
theorem laid_tab {W:World} (h:laidMet Tryz.prog laidAll W):Lib.TabIs Tryz.prog W "internal/strconv.uint64pow10" .u64 Lib.pow10Tab:=by
 obtain ⟨t,n,h1,h2,h3,rfl⟩:=gTabType
 have e:(Rows.laid_internal_strconv_uint64pow10:DataW Unit)=Lib.tabData .u64 Lib.pow10Tab:=by rfl
 have h4:=laidMet_tail (laidMet_tail h)
 rw [e] at h4
 exact Lib.tabIs_of_head gTab h1 h2 Tryz.underlying303 (by kernel_rfl) h3 h4
theorem laid_err {W:World} (h:laidMet Tryz.prog laidAll W):∃ b off,W.cell? ⟨3,0,none⟩=some (.iface 373 (.pointer (some ⟨b,off,none⟩))):=by
 obtain ⟨a,s,h1,h2,_,_⟩:=laid_sentinel (laidMet_tail (laidMet_tail (laidMet_tail (laidMet_tail h)))) gER gERType Tryz.underlying177 row109 Tryz.underlying373 Tryz.underlying375 rfl rfl Tryz.underlying9 cells111 cells9
 have h0:=World.var?_cell gER h1 0
 have hs:=World.cell?_spot h2
 obtain ⟨b,off,sp⟩:=a
 have hs:sp=none:=hs
 subst hs
 exact ⟨b,off,by simpa using h0⟩
def strData {H:Type} (zs:List (List UInt8)):DataW H := .agg (zs.map fun z => .lit (.string z))
theorem cells_of_strs {H:Type} {enc:TypeId × Value→H} {P:Program} {w:World} {base:Nat} {sp:Nat→Bool} {held:Bool} {fuel:Nat} {t e:TypeId} {n:Nat} {cs:List Value} {zs:List (List UInt8)} {p:List MemPlace}
  (ht:P.underlying t=some (.array n e)) (he:P.underlying e=some .string) (hce:P.cellsOf e=1) (hct:P.cellsOf t=n)
  (h:DataW.trod enc P w base sp held fuel t cs=some (strData zs,p)):cs.length=zs.length∧∀ i (hi:i<zs.length),∃ s:ByteArray,cs[i]? = some (.string s)∧s.data.toList=zs[i]:=by
 cases fuel with
 | zero=>simp [DataW.trod] at h
 | succ fuel =>
  simp only [DataW.trod,ht,hce,hct,Nat.mul_one] at h
  split at h
  ·rename_i hl
   obtain ⟨xs,hm,hx⟩:=Option.map_eq_some_iff.1 h
   have hxs:xs.map (·.1)=zs.map fun z=>(DataW.lit (.string z):DataW H):=by
    have:=congrArg Prod.fst hx
    simpa [strData] using this
   have hxl:xs.length=n:=by simpa using Lib.mapM_length hm
   have hzl:zs.length=n:=by
    have:=congrArg List.length hxs
    simp at this
    omega
   refine ⟨by omega,fun i hi=>?_⟩
   have hin:i<n:=by omega
   obtain ⟨b,hb,hf⟩:=Lib.mapM_at hm i i (by simp [hin])
   obtain ⟨z,hc,rfl,_⟩:=DataW.trod_string he hf
   have h1:cs[i]? = some (.string z):=by
    have:=congrArg (·[0]?) hc
    simpa [List.getElem?_take,List.getElem?_drop] using this
   have h2:(xs.map (·.1))[i]? = some (DataW.lit (.string z.data.toList):DataW H):=by simp [hb]
   rw [hxs,List.getElem?_map,List.getElem?_eq_getElem hi] at h2
   refine ⟨z,h1,?_⟩
   have h3:(DataW.lit (.string zs[i]):DataW H) = .lit (.string z.data.toList):=Option.some.inj h2
   injection h3 with h3
   injection h3 with h3
   exact h3.symm
  ·cases h
theorem gSg:Tryz.prog.globalNamed "hopscotch/lex.signs" = some 0:=by kernel_rfl
theorem gSgType:(Tryz.prog.globals[0]?).map (·.type)=some 206:=by kernel_rfl
theorem laid_signs {W:World} (h:laidMet Tryz.prog laidAll W):∃ cs:Array Value,W.var? Tryz.prog "hopscotch/lex.signs" = some cs∧cs.size=14∧∀ i (hi:i<signsL.length),∃ s:ByteArray,cs[i]? = some (.string s)∧s.data.toList=signsL[i]:=by
 have e:(Rows.laid_hopscotch_lex_signs:DataW Unit)=strData signsL:=by rfl
 have h4:=laidMet_tail (laidMet_tail (laidMet_tail (laidMet_tail (laidMet_tail (laidMet_tail h)))))
 rw [e] at h4
 obtain ⟨ps,⟨g',t',cs,fuel,p,q,hg',ht',hvar,hd,_,_⟩,_⟩:=h4
 obtain rfl:=Option.some.inj (gSg.symm.trans hg')
 obtain rfl:=Option.some.inj (gSgType.symm.trans ht')
 obtain ⟨h1,h2⟩:=cells_of_strs Tryz.underlying206 Tryz.underlying9 cells9 (by kernel_rfl) hd
 refine ⟨_,hvar,(by simpa using h1:cs.size=signsL.length).trans rfl,fun i hi=>?_⟩
 obtain ⟨s,h3,h4⟩:=h2 i hi
 exact ⟨s,by simpa using h3,h4⟩
theorem maxlen_of {W:World} (h:W.ShapedOpen Tryz.prog):∃ m,W.cell? ⟨1,0,none⟩=some (.int .i64 m):=by
 obtain ⟨cs,hh,hs,hr⟩:=h.1 1 #[.int .i64 0] 3 (of_decide_eq_true (by kernel_rfl)) (by kernel_rfl)
 obtain ⟨ts,hts,_,hall⟩:=hr (by kernel_rfl)
 rw [show Tryz.prog.cellTypes Tryz.prog.depth 3=some [3] by kernel_rfl] at hts
 cases hts
 have h1:0<cs.size:=by rw [hs];decide
 obtain ⟨u,hu',hok⟩:=hall 0 cs[0] (by simp [h1])
 have:u=3:=by simpa using hu'.symm
 subst this
 have hcell:W.cell? ⟨1,0,none⟩=some cs[0]:=by simp [World.cell?,hh,h1]
 rw [hcell]
 unfold Cell.ok at hok
 rw [Tryz.underlying3] at hok
 cases hv:cs[0]<;>rw [hv] at hok<;>first | (obtain ⟨rfl,_⟩:=hok;exact ⟨_,rfl⟩) | simp at hok
theorem laid_G {W:World} (h:laidMet Tryz.prog laidAll W) (hS:W.ShapedOpen Tryz.prog):∃ m,∀ g,RelG (Cx.ofW W) g (gE m g):=by
 obtain ⟨m,hml⟩:=maxlen_of hS
 refine ⟨m,fun g=>?_⟩
 unfold gE
 split
 ·rename_i hg
  subst hg
  obtain ⟨b,off,h1⟩:=laid_err h
  refine ⟨?_,trivial⟩
  refine .view .old _ 3 0 (fun _ => .iface 373 (.pointer (some ⟨b,off,none⟩))) (fun i hi=>?_) (fun i hi=>?_)
  ·have:i=0:=by simpa [V.cells] using hi
   subst this
   refine ⟨by show (W.cell? _).isSome=true;rw [h1];rfl,World.block_lt_of_cell? _ _ h1,h1,rfl⟩
  ·have:i=0:=by simpa [V.cells] using hi
   subst this
   exact .iface _ _ _ (.view .old _ b off (fun _ => .nilIface) (fun i hi=>by simp [V.cells] at hi) (fun i hi=>by simp [V.cells] at hi))
 ·split
  ·rename_i hg
   subst hg
   have ht:=laid_tab h
   have hc:∀ i (hi:i<Lib.pow10Tab.length),W.cell? ⟨2,i,none⟩=some (.int .u64 (Lib.pow10Tab.getD i 0)):=fun i hi=>ht.cell gTab i hi
   have hlen:Lib.pow10Tab.length=20:=Lib.pow10Tab_length
   have hlt:2<W.heap.size:=World.block_lt_of_cell? _ _ (hc 0 (by omega))
   have hv:W.var? Tryz.prog "internal/strconv.uint64pow10" = some (Lib.pow10Tab.map fun z=>Value.int .u64 z).toArray:=ht
   refine ⟨?_,?_⟩
   ·refine .view .old _ 2 0 (fun i => .int .u64 (Lib.pow10Tab.getD i 0)) (fun i hi=>?_) (fun i hi=>?_)
    ·have hi:i<Lib.pow10Tab.length:=by simpa [V.cells] using hi
     rw [Nat.zero_add]
     exact ⟨by show (W.cell? _).isSome=true;rw [hc i hi];rfl,hlt,hc i hi,rfl⟩
    ·have hi':i<Lib.pow10Tab.length:=by simpa [V.cells] using hi
     have key:∀ v,v=V.int .u64 (Lib.pow10Tab.getD i 0)→Rel (Cx.ofW W) (Value.int .u64 (Lib.pow10Tab.getD i 0)) v:=fun v e=>by rw [e];exact .int _ _
     exact key _ (by simp [V.cells,List.getD,hi'])
   ·refine ⟨hlt,?_⟩
    unfold World.var? at hv
    rw [gTab] at hv
    have hv:(match W.heap[2]? with | some (Obj.cells cs _ _)=>some cs | _=>none)=some (Lib.pow10Tab.map fun z=>Value.int .u64 z).toArray:=hv
    split at hv
    ·rename_i cs t fr hh
     cases hv
     exact ⟨_,t,fr,hh,by simp⟩
    ·cases hv
  ·split
   ·rename_i hg
    subst hg
    obtain ⟨cs,hv,hsz,hcs⟩:=laid_signs h
    have h0:=fun i=>World.var?_cell gSg hv i
    have hc:∀ i (hi:i<signsL.length),∃ s:ByteArray,W.cell? ⟨0,i,none⟩=some (.string s)∧s.data.toList=signsL[i]:=fun i hi=>by
     obtain ⟨s,h1,h2⟩:=hcs i hi
     exact ⟨s,by rw [h0 i];exact h1,h2⟩
    have hlt:0<W.heap.size:=by
     obtain ⟨s,h1,_⟩:=hc 0 (by decide)
     exact World.block_lt_of_cell? _ _ h1
    refine ⟨?_,?_⟩
    ·refine .view .old _ 0 0 (fun i=>(cs[i]?).getD undef) (fun i hi=>?_) (fun i hi=>?_)
     ·have hi:i<signsL.length:=by simpa [V.cells] using hi
      obtain ⟨s,h1,_⟩:=hcs i hi
      rw [Nat.zero_add,h1]
      have h2:W.cell? ⟨0,i,none⟩=some (.string s):=by rw [h0 i];exact h1
      exact ⟨by show (W.cell? _).isSome=true;rw [h2];rfl,hlt,h2,rfl⟩
     ·have hi':i<signsL.length:=by simpa [V.cells] using hi
      obtain ⟨s,h1,h2⟩:=hcs i hi'
      rw [h1]
      have key:∀ v,v=V.str signsL[i]→Rel (Cx.ofW W) (Value.string s) v:=fun v e=>by rw [e];exact .str _ _ h2
      exact key _ (by simp [V.cells])
    ·refine ⟨hlt,?_⟩
     unfold World.var? at hv
     rw [gSg] at hv
     have hv:(match W.heap[0]? with | some (Obj.cells cs _ _)=>some cs | _=>none)=some cs:=hv
     split at hv
     ·rename_i cs' t fr hh
      cases hv
      exact ⟨_,t,fr,hh,by rw [hsz];rfl⟩
     ·cases hv
   ·split
    ·rename_i hg
     subst hg
     refine ⟨?_,trivial⟩
     refine .view .old _ 1 0 (fun _ => .int .i64 m) (fun i hi=>?_) (fun i hi=>?_)
     ·have:i=0:=by simpa [V.cells] using hi
      subst this
      refine ⟨by show (W.cell? _).isSome=true;rw [hml];rfl,World.block_lt_of_cell? _ _ hml,hml,rfl⟩
     ·have:i=0:=by simpa [V.cells] using hi
      subst this
      exact .int _ _
    ·exact ⟨.top _,trivial⟩
end Go.Proofs.YtohdjmgdaaipaaaGreatDoor
end

section
namespace Go.Proofs.YtohdjmgdaaipaaaGreatDoor
open Go.RowKit Go.Hs Go.ChangeShapes Go.WideShapes Go.ChangeAt
open Go.ChangeMaps (open_string shut_string)
set_option maxRecDepth 100000
theorem reads_str (W:World):Reads Tryz.prog W 9 1 (fun s:List UInt8=>[V.str s]):=by
 refine ⟨by kernel_rfl,fun _=>rfl,fun enc held fuel cs x h=>?_⟩
 obtain ⟨s,rfl,_,_⟩:=DataW.trod_string Tryz.underlying9 h
 exact ⟨s.data.toList,RelC.cons rfl (.str _ _ rfl) RelC.nil⟩
theorem reads_strs (W:World):Reads Tryz.prog W 36 1 (fun s:Sl (List UInt8)=>[encSl .any 1 V.str s]) :=
 Reads.slice Tryz.underlying36 (by kernel_rfl) (by decide) (reads_str W)
variable {W:World} {H:Type} {enc:TypeId × Value→H} {b0:Nat} {v:Value} {d:DataW H} {ps:List MemPlace}
theorem argS (hv:Value.okWide Tryz.prog W .any b0 9 v) (h:DataW.Trod enc Tryz.prog W 0 (fun _=>true) true 9 v d ps):∃ x:List UInt8,Rel (Cx.ofW W) v (.str x):=by
 obtain ⟨s,rfl,_,_,_⟩:=open_string Tryz.underlying9 hv h
 exact ⟨_,.str s _ rfl⟩
theorem argL (hv:Value.okWide Tryz.prog W .any b0 36 v) (h:DataW.Trod enc Tryz.prog W 0 (fun _=>true) true 36 v d ps):∃ x:Sl (List UInt8),Rel (Cx.ofW W) v (encSl .old 1 V.str x):=by
 obtain ⟨fuel,h⟩:=h
 obtain ⟨x,hx⟩:=(reads_strs W).2.2 enc true fuel _ _ h
 have key:Rel (Cx.ofW W) v (encSl .any 1 V.str x):=by
  unfold Value.okWide at hv
  rw [Tryz.underlying36] at hv
  have hc:v.cells = #[v]:=by
   unfold Cell.okWide Cell.ok at hv
   rw [Tryz.underlying36] at hv
   cases v<;>first | rfl | (simp at hv)
  rw [hc] at hx
  exact hx.rel 0 (by simp) (by simp)
 have h2:=key.ofW_old
 refine ⟨x,?_⟩
 simpa only [go_sem,List.map_cons,List.map_nil] using h2
theorem own:ownKnob Tryz.prog.godebug=none:=by kernel_rfl
theorem laidOut:laidOutB Tryz.prog=true:=by kernel_rfl
theorem lift_shaped {a:Assume} {C:Checked} {os:Os} {f:FuncId} {fn:Func} {H:Type} {enc:TypeId × Value→H} {s:ChangeSpec} {conds:List PathCond} {apart fresh handsOn again:Bool} {X:World→Array Value→Prop}
  (hX:∀ (w w':World) (args:Array Value),w.heap=w'.heap→X w args→X w' args)
  (ownk:ownKnob C.prog.godebug=none) (started:os.Started) (noInit:C.prog.inits.idxOf? f=none) (hfn:C.prog.funcs[f]? = some fn)
  (witness:∃ (w:World) (tape:Tape) (i:Input),w.os=os∧(w.forCall tape i).Shaped C.prog∧i.vars=[]∧Input.okWide C.prog (w.forCall tape i) .any w.heap.size f i ∧
   ((s.pre enc C.prog fn conds apart (w.forCall tape i).memory i.args∧X (w.forCall tape i).memory i.args)∧sizedMet enc C.prog fn (OpenSpec.ofChange s) apart (w.forCall tape i).memory i.args)∧a.holds C.prog (lone (Frame.enter C.prog f i.args .normal) [] (w.forCall tape i)))
  (contract:∀ (W:World) (base:Nat) (args:Array Value) (ds gs:List (DataW H)) (before:List MemPlace),W.ShapedOpen C.prog →
   (∀ (j:Nat) t v,fn.params[j]? = some t→args[j]? = some v→Value.okWide C.prog W .any base t v) →
   DataW.Whole enc C.prog fn.params.toList s.vars apart W args.toList ds gs before→X W args →
   Calls C.prog f args W fun e W'=>∃ v,e = .returned v∧s.post enc C.prog fn apart fresh handsOn again W args v W') :
  ReturnsInHanded a C os f .any (fun w args=>(s.pre enc C.prog fn conds apart w args∧X w args)∧sizedMet enc C.prog fn (OpenSpec.ofChange s) apart w args) (s.post enc C.prog fn apart fresh handsOn again):=by
 refine returnsInHanded_of_calls ownk started noInit witness ?_
 intro w tape i _ hsh _ hok hpre _
 obtain ⟨_,_,_,fn',hfn',_,_,_,_,hval⟩:=hok
 have e:fn'=fn:=Option.some.inj (hfn'.symm.trans hfn)
 subst e
 obtain ⟨⟨⟨ds,gs,before,hw,_⟩,hx⟩,_⟩:=hpre
 have hw':=DataW.Whole.of_heap (w':=w.forCall tape i) (by rfl) hw
 refine (contract (w.forCall tape i) w.heap.size i.args ds gs before hsh hval hw' (hX _ _ _ (by rfl) hx)).mono fun e W' ⟨v,he,hp⟩=>?_
 subst he
 exact ChangeSpec.post_blind hp
end Go.Proofs.YtohdjmgdaaipaaaGreatDoor
end

section
namespace Go.Proofs.YtohdjmgdaaipaaaGreatDoor
open Go.RowKit Go.Hs Go.ChangeShapes Go.WideShapes Go.ChangeAt
set_option maxRecDepth 100000
variable {W:World} {H:Type} {enc:TypeId × Value→H} {b0:Nat} {v:Value} {d:DataW H} {ps:List MemPlace}
theorem argM (hv:Value.okWide Tryz.prog W .any b0 36 v) (h:DataW.Trod enc Tryz.prog W 0 (fun _=>true) true 36 v d ps):∃ x:Sl (List UInt8),x.l.length≤9223372036854775807∧Rel (Cx.ofW W) v (encSl .old 1 V.str x):=by
 obtain ⟨x,hx⟩:=argL hv h
 refine ⟨x,?_,hx⟩
 unfold Value.okWide at hv
 rw [Tryz.underlying36] at hv
 unfold Cell.okWide Cell.ok at hv
 rw [Tryz.underlying36] at hv
 have hle:IntKind.i64.max=9223372036854775807:=rfl
 cases x with
 | nil=>exact Nat.zero_le _
 | mk b l =>
  simp only [encSl] at hx
  generalize hls:l.map V.str=ls at hx
  have hll:l.length=ls.length:=by rw [← hls,List.length_map]
  show l.length≤_
  cases hx with
  | slice0=>rw [hll];exact Nat.zero_le _
  | slice _ _ _ _ b off cap f hcap _ _ _ _ =>
   simp only at hv
   obtain ⟨_,h2,_⟩:=hv
   rw [hle] at h2
   omega
end Go.Proofs.YtohdjmgdaaipaaaGreatDoor
end

section
namespace Go.Proofs.YtohdjmgdaaipaaaGreatDoor
open Go.RowKit Go.Hs Go.ChangeShapes Go.WideShapes Go.ChangeAt
set_option maxRecDepth 100000
set_option maxHeartbeats 4000000
theorem sfMaps:mapsRowed Tryz.prog=true:=by kernel_rfl
theorem sfStops:(Tryz.prog.stops==[])=true:=by kernel_rfl
theorem sfKnobs:(Tryz.prog.stopKnobs==[])=true:=by kernel_rfl
theorem sfKeys:(Rows.actParseRow.plainKeys==Tryz.prog.plainKeys)=true:=by kernel_rfl
theorem sfHeard:Tryz.prog.stopsHeard=true:=by kernel_rfl
theorem sfEnter:Tryz.prog.mayEnter=true:=by kernel_rfl
theorem sfLifted:(Rows.actParseRow.lifted==Tryz.prog.liftsFinal)=true:=by kernel_rfl
theorem sfMake:(Tryz.prog.make==some Rows.actParseRow.make)=true:=by kernel_rfl
end Go.Proofs.YtohdjmgdaaipaaaGreatDoor
end
