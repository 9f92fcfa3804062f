/- Part 48 of the proof of a statement of seat YtohdjmgdaaipaaaGreatDoor: HsHActL4. -/
import Derived.Test.YtohdjmgdaaipaaaGreatDoorPart46
import Derived.Test.YtohdjmgdaaipaaaGreatDoorPart47
set_option linter.unusedSimpArgs false
set_option linter.unusedVariables false
section
namespace Go.Hs
open Go.Proofs
set_option maxRecDepth 10000
theorem flat_am (c:Col) (l:List ASt):flat ((amS l).l.map (encAM c))=flat (l.map (encAS c)):=by
 rw [amS_l,List.map_map];rfl
theorem srcCells_am (H:Heap) (c:Col) (l:List ASt):srcCells H 3 (encSl c 3 (encAM c) (amS l))=some (l.length,flat (l.map (encAS c))):=by
 rw [← flat_am]
 have hl:l.length=(amS l).l.length:=by rw [amS_l,List.length_map]
 rw [hl]
 cases amS l with
 | nil=>rfl
 | mk b m=>simp [encSl,srcCells,Sl.l]
theorem srcCells_strJ (H:Heap) (c:Col) (s:Sl (List UInt8)):srcCells H 1 (encSl c 1 V.str s)=some (s.l.length,flat (s.l.map V.str)):=by
 cases s with
 | nil=>rfl
 | mk b l=>simp [encSl,srcCells,Sl.l]
theorem types_ok {b:List ASt} {vars events:List (List UInt8)} (h:checkA b=0):((typesA b vars events).2==0)=b.all (stT vars events):=by
 unfold typesA
 rw [if_neg (by rw [h];decide),Bool.eq_iff_iff,beq_iff_eq]
 exact typesF_all b 0
theorem all_more {b:List ASt} {vars events more:List (List UInt8)} (hb:∀ s∈b,s.x=[]∨∃ x:X,x.ok=true∧x.depth≤64∧x.fit∧s.x=x.row 0) (h:b.all (stT vars events)=true):b.all (stT (more++vars) (more++events))=true:=by
 rw [List.all_eq_true] at h ⊢
 exact fun s hs=>stT_more (hb s hs) (h s hs)
theorem bodyP_right {s:List UInt8} (h:(bodyP s).2.2=0):∀ t∈(bodyP s).1,t.x=[]∨∃ x:X,x.ok=true∧x.depth≤64∧x.fit∧t.x=x.row 0:=by
 obtain ⟨l,b,_,g,_,e⟩:=bodyP_inv h
 rw [e]
 exact fun t ht=>(g.right t ht).2
theorem lActJoins (G:Nat→V) (hE:GExp G) (a b:List UInt8) (vars events more:Sl (List UInt8)) (hv:vars.l.length≤9223372036854775807) (hev:events.l.length≤9223372036854775807) (hmo:more.l.length≤9223372036854775807) (c2 c3 c4:Col) :
  Spec Tryz.prog G 4 [.str a,.str b,encSl c2 1 V.str vars,encSl c3 1 V.str events,encSl c4 1 V.str more] hNone (fun v _=>v = .bool true):=by
 have hG:=hE.ok
 refine Spec.of_code' 0 164 [.tmp 10] Tryz.func4 rfl rfl rfl rfl fun X0=>?_
 refine AW.seq_k fun K hK=>AW.region (by kernel_rfl) ?_
 simp -implicitDefEqProofs only[go_sem,seval,↓reduceIte]
 refine hK _ ?_
 clear hK K
 refine AW.seq_k fun K1 hK1=>?_
 by_cases hla:a.length > 300
 ·have q1:decide (((a.length:Nat):Int) > 300)=true:=by rw [decide_eq_true_iff];omega
  refine AW.seq_k fun K hK=>AW.region (by kernel_rfl) ?_
  simp -implicitDefEqProofs only[go_sem,seval,↓reduceIte,q1]
  refine hK _ ?_
  clear hK K
  refine AW.condS (by simp -implicitDefEqProofs only[go_sem,seval,↓reduceIte];rfl) (fun h53=>?_) (fun h53=>?_)
  rotate_left
  ·cases h53
  refine AW.seq_k fun K hK=>AW.region (by kernel_rfl) ?_
  simp -implicitDefEqProofs only[go_sem,seval,↓reduceIte]
  refine CallA.pure hG (by kernel_rfl) ?_
  simp -implicitDefEqProofs only[go_sem,seval,↓reduceIte,List.map_nil]
  refine (wWorks11_spec G hE).mono ?_
  rintro _ _ rfl
  simp -implicitDefEqProofs only[go_sem,seval,↓reduceIte]
  refine hK _ ?_
  clear hK K
  refine AW.ret ?_
  simp -implicitDefEqProofs only[go_sem,seval,↓reduceIte]
  refine endK_some ?_
  rfl
 have q1:decide (((a.length:Nat):Int) > 300)=false:=by rw [decide_eq_false_iff_not];omega
 by_cases hlb:b.length > 300
 ·have q2:decide (((b.length:Nat):Int) > 300)=true:=by rw [decide_eq_true_iff];omega
  refine AW.seq_k fun K hK=>AW.region (by kernel_rfl) ?_
  simp -implicitDefEqProofs only[go_sem,seval,↓reduceIte,q1,q2]
  refine hK _ ?_
  clear hK K
  refine AW.condS (by simp -implicitDefEqProofs only[go_sem,seval,↓reduceIte];rfl) (fun h53=>?_) (fun h53=>?_)
  rotate_left
  ·cases h53
  refine AW.seq_k fun K hK=>AW.region (by kernel_rfl) ?_
  simp -implicitDefEqProofs only[go_sem,seval,↓reduceIte]
  refine CallA.pure hG (by kernel_rfl) ?_
  simp -implicitDefEqProofs only[go_sem,seval,↓reduceIte,List.map_nil]
  refine (wWorks11_spec G hE).mono ?_
  rintro _ _ rfl
  simp -implicitDefEqProofs only[go_sem,seval,↓reduceIte]
  refine hK _ ?_
  clear hK K
  refine AW.ret ?_
  simp -implicitDefEqProofs only[go_sem,seval,↓reduceIte]
  refine endK_some ?_
  rfl
 have q2:decide (((b.length:Nat):Int) > 300)=false:=by rw [decide_eq_false_iff_not];omega
 refine AW.seq_k fun K hK=>AW.region (by kernel_rfl) ?_
 simp -implicitDefEqProofs only[go_sem,seval,↓reduceIte,q1,q2]
 refine CallA.pure hG (by kernel_rfl) ?_
 simp -implicitDefEqProofs only[go_sem,seval,↓reduceIte]
 refine (wNames11_spec G hG _ vars hv).mono ?_
 rintro _ _ rfl
 cases q3:fewN vars.l with
 | false =>
  simp -implicitDefEqProofs only[go_sem,seval,↓reduceIte,q3]
  refine hK _ ?_
  clear hK K
  refine AW.condS (by simp -implicitDefEqProofs only[go_sem,seval,↓reduceIte];rfl) (fun h53=>?_) (fun h53=>?_)
  rotate_left
  ·cases h53
  refine AW.seq_k fun K hK=>AW.region (by kernel_rfl) ?_
  simp -implicitDefEqProofs only[go_sem,seval,↓reduceIte]
  refine CallA.pure hG (by kernel_rfl) ?_
  simp -implicitDefEqProofs only[go_sem,seval,↓reduceIte,List.map_nil]
  refine (wWorks11_spec G hE).mono ?_
  rintro _ _ rfl
  simp -implicitDefEqProofs only[go_sem,seval,↓reduceIte]
  refine hK _ ?_
  clear hK K
  refine AW.ret ?_
  simp -implicitDefEqProofs only[go_sem,seval,↓reduceIte]
  refine endK_some ?_
  rfl
 | true =>
 simp -implicitDefEqProofs only[go_sem,seval,↓reduceIte,q3]
 refine CallA.pure hG (by kernel_rfl) ?_
 simp -implicitDefEqProofs only[go_sem,seval,↓reduceIte]
 refine (wNames11_spec G hG _ events hev).mono ?_
 rintro _ _ rfl
 cases q4:fewN events.l with
 | false =>
  simp -implicitDefEqProofs only[go_sem,seval,↓reduceIte,q4]
  refine hK _ ?_
  clear hK K
  refine AW.condS (by simp -implicitDefEqProofs only[go_sem,seval,↓reduceIte];rfl) (fun h53=>?_) (fun h53=>?_)
  rotate_left
  ·cases h53
  refine AW.seq_k fun K hK=>AW.region (by kernel_rfl) ?_
  simp -implicitDefEqProofs only[go_sem,seval,↓reduceIte]
  refine CallA.pure hG (by kernel_rfl) ?_
  simp -implicitDefEqProofs only[go_sem,seval,↓reduceIte,List.map_nil]
  refine (wWorks11_spec G hE).mono ?_
  rintro _ _ rfl
  simp -implicitDefEqProofs only[go_sem,seval,↓reduceIte]
  refine hK _ ?_
  clear hK K
  refine AW.ret ?_
  simp -implicitDefEqProofs only[go_sem,seval,↓reduceIte]
  refine endK_some ?_
  rfl
 | true =>
 simp -implicitDefEqProofs only[go_sem,seval,↓reduceIte,q4]
 refine CallA.pure hG (by kernel_rfl) ?_
 simp -implicitDefEqProofs only[go_sem,seval,↓reduceIte]
 refine (wNames11_spec G hG _ more hmo).mono ?_
 rintro _ _ rfl
 cases q5:fewN more.l with
 | false =>
  simp -implicitDefEqProofs only[go_sem,seval,↓reduceIte,q5]
  refine hK _ ?_
  clear hK K
  refine AW.condS (by simp -implicitDefEqProofs only[go_sem,seval,↓reduceIte];rfl) (fun h53=>?_) (fun h53=>?_)
  rotate_left
  ·cases h53
  refine AW.seq_k fun K hK=>AW.region (by kernel_rfl) ?_
  simp -implicitDefEqProofs only[go_sem,seval,↓reduceIte]
  refine CallA.pure hG (by kernel_rfl) ?_
  simp -implicitDefEqProofs only[go_sem,seval,↓reduceIte,List.map_nil]
  refine (wWorks11_spec G hE).mono ?_
  rintro _ _ rfl
  simp -implicitDefEqProofs only[go_sem,seval,↓reduceIte]
  refine hK _ ?_
  clear hK K
  refine AW.ret ?_
  simp -implicitDefEqProofs only[go_sem,seval,↓reduceIte]
  refine endK_some ?_
  rfl
 | true =>
 simp -implicitDefEqProofs only[go_sem,seval,↓reduceIte,q5]
 refine hK _ ?_
 clear hK K
 refine AW.condS (by simp -implicitDefEqProofs only[go_sem,seval,↓reduceIte];rfl) (fun h53=>?_) (fun h53=>?_)
 ·cases h53
 refine AW.skip ?_
 simp -implicitDefEqProofs only[go_sem,seval,↓reduceIte]
 refine hK1 _ ?_
 have hvl:=(fewN_bnd q3).1
 have hel:=(fewN_bnd q4).1
 have hml:=(fewN_bnd q5).1
 clear q1 q2 q3 q4 q5 hv hev hmo
 have hbX:=bodyP_bok (s:=a) (by omega)
 have hbY:=bodyP_bok (s:=b) (by omega)
 have hjn:=fun ha hb=>body_join (a:=a) (b:=b) ha hb (by omega)
 have hrX := @bodyP_right a
 have hrY := @bodyP_right b
 have hcX := @bodyP_check a
 have hcY := @bodyP_check b
 have hpX:bodyP a=bodyP a:=rfl
 have hbZ:=bodyP_bok (s:=a++10::b) (by simp only [List.length_append,List.length_cons];omega)
 have hcZ := @bodyP_check (a++10::b)
 generalize hxe:bodyP a=px at hbX hjn hrX hcX
 generalize hye:bodyP b=py at hbY hjn hrY hcY
 obtain ⟨xl,xw,xe⟩:=px
 obtain ⟨yl,yw,ye⟩:=py
 simp only at hbX hbY hjn hrX hrY hcX hcY
 refine AW.seq_k fun K hK=>AW.region (by kernel_rfl) ?_
 simp -implicitDefEqProofs only[go_sem,seval,↓reduceIte,hxe]
 refine CallA.pure hG (by kernel_rfl) ?_
 simp -implicitDefEqProofs only[go_sem,seval,↓reduceIte]
 refine (bParse_spec G hE a (by omega)).mono ?_
 rintro _ _ rfl
 rw [hxe]
 simp -implicitDefEqProofs only[go_sem,seval,↓reduceIte,encBP,encABs,encABs_am,recol_ams]
 intro g11
 refine hK _ ?_
 clear hK K
 refine AW.seq_k fun K hK=>AW.region (by kernel_rfl) ?_
 simp -implicitDefEqProofs only[go_sem,seval,↓reduceIte,hye]
 refine CallA.pure hG (by kernel_rfl) ?_
 simp -implicitDefEqProofs only[go_sem,seval,↓reduceIte]
 refine (bParse_spec G hE b (by omega)).mono ?_
 rintro _ _ rfl
 rw [hye]
 simp -implicitDefEqProofs only[go_sem,seval,↓reduceIte,encBP,encABs,encABs_am,recol_ams]
 intro g14
 refine hK _ ?_
 clear hK K
 refine AW.seq_k fun K2 hK2=>?_
 by_cases hx0:xe=0
 rotate_left
 ·have q:(xe==0)=false:=by simpa using hx0
  refine AW.seq_k fun K hK=>AW.region (by kernel_rfl) ?_
  simp -implicitDefEqProofs only[go_sem,seval,↓reduceIte,bne,q]
  refine hK _ ?_
  clear hK K
  refine AW.condS (by simp -implicitDefEqProofs only[go_sem,seval,↓reduceIte];rfl) (fun h72=>?_) (fun h72=>?_)
  rotate_left
  ·cases h72
  refine AW.seq_k fun K hK=>AW.region (by kernel_rfl) ?_
  simp -implicitDefEqProofs only[go_sem,seval,↓reduceIte]
  refine CallA.pure hG (by kernel_rfl) ?_
  simp -implicitDefEqProofs only[go_sem,seval,↓reduceIte,List.map_nil]
  refine (wWorks11_spec G hE).mono ?_
  rintro _ _ rfl
  simp -implicitDefEqProofs only[go_sem,seval,↓reduceIte]
  refine hK _ ?_
  clear hK K
  refine AW.ret ?_
  simp -implicitDefEqProofs only[go_sem,seval,↓reduceIte]
  refine endK_some ?_
  rfl
 by_cases hy0:ye=0
 rotate_left
 ·have q:(xe==0)=true:=by simpa using hx0
  have q':(ye==0)=false:=by simpa using hy0
  refine AW.seq_k fun K hK=>AW.region (by kernel_rfl) ?_
  simp -implicitDefEqProofs only[go_sem,seval,↓reduceIte,bne,q,q']
  refine hK _ ?_
  clear hK K
  refine AW.condS (by simp -implicitDefEqProofs only[go_sem,seval,↓reduceIte];rfl) (fun h72=>?_) (fun h72=>?_)
  rotate_left
  ·cases h72
  refine AW.seq_k fun K hK=>AW.region (by kernel_rfl) ?_
  simp -implicitDefEqProofs only[go_sem,seval,↓reduceIte]
  refine CallA.pure hG (by kernel_rfl) ?_
  simp -implicitDefEqProofs only[go_sem,seval,↓reduceIte,List.map_nil]
  refine (wWorks11_spec G hE).mono ?_
  rintro _ _ rfl
  simp -implicitDefEqProofs only[go_sem,seval,↓reduceIte]
  refine hK _ ?_
  clear hK K
  refine AW.ret ?_
  simp -implicitDefEqProofs only[go_sem,seval,↓reduceIte]
  refine endK_some ?_
  rfl
 have qx:(xe==0)=true:=by simpa using hx0
 have qy:(ye==0)=true:=by simpa using hy0
 refine AW.seq_k fun K hK=>AW.region (by kernel_rfl) ?_
 simp -implicitDefEqProofs only[go_sem,seval,↓reduceIte,bne,qx,qy]
 refine hK _ ?_
 clear hK K
 refine AW.condS (by simp -implicitDefEqProofs only[go_sem,seval,↓reduceIte];rfl) (fun h72=>?_) (fun h72=>?_)
 ·cases h72
 refine AW.skip ?_
 simp -implicitDefEqProofs only[go_sem,seval,↓reduceIte]
 refine hK2 _ ?_
 have hz:=hjn hx0 hy0
 rw [hz] at hbZ hcZ
 simp only at hbZ hcZ
 have hcZ:=hcZ trivial
 have hcX:=hcX hx0
 have hcY:=hcY hy0
 have hrX:=hrX hx0
 have hrY:=hrY hy0
 refine AW.weak (Weak.stF (fun _=>false) (l:=[(0,.str a),(1,.str b),(2,encSl c2 1 V.str vars),(3,encSl c3 1 V.str events),(4,encSl c4 1 V.str more),(11,.ptr 11 g11 0),(14,.ptr 14 g14 0)])
  (m:=[(11,.cells .new g11 0 [encSl .new 3 (encAM .new) (amS xl)]),(14,.cells .new g14 0 [encSl .new 3 (encAM .new) (amS yl)])]) ?_ ?_) ?_
 ·simp -implicitDefEqProofs only[go_sem,seval,↓reduceIte]
  repeat' apply And.intro
  all_goals exact Fz.same _
 ·simp only [allFzO_cons,allFzO_nil,and_true]
  exact ⟨FzO.keep rfl (by simp -implicitDefEqProofs only[go_sem,seval,↓reduceIte];try rfl),FzO.keep rfl (by simp -implicitDefEqProofs only[go_sem,seval,↓reduceIte];try rfl)⟩
 have t1:¬ (((a.length+1:Nat):Int) > IntKind.i64.max):=lenOk2 (by omega)
 have t2:¬ ((((a++[10]).length+b.length:Nat):Int) > IntKind.i64.max):=lenOk2 (by rw [List.length_append];simp only [List.length_cons,List.length_nil];omega)
 have hab:a++[10]++b=a++10::b:=by simp
 refine AW.seq_k fun K hK=>AW.region (by kernel_rfl) ?_
 simp -implicitDefEqProofs only[go_sem,seval,↓reduceIte,t1,t2]
 refine CallA.pure hG (by kernel_rfl) ?_
 simp -implicitDefEqProofs only[go_sem,seval,↓reduceIte]
 refine (bParse_spec G hE (a++[10]++b) (by simp only [List.length_append,List.length_cons,List.length_nil];omega)).mono ?_
 rintro _ _ rfl
 rw [hab,hz]
 simp -implicitDefEqProofs only[go_sem,seval,↓reduceIte,encBP,encABs,encABs_am,recol_ams]
 intro g17
 refine hK _ ?_
 clear hK K
 refine AW.seq_k fun K3 hK3=>?_
 have hlx:(amS xl).l.length=xl.length:=by rw [amS_l,List.length_map]
 have hly:(amS yl).l.length=yl.length:=by rw [amS_l,List.length_map]
 have hlz:(amS (xl++yl)).l.length=xl.length+yl.length:=by rw [amS_l,List.length_map,List.length_append]
 have hxk:=hbX.k
 have hyk:=hbY.k
 have qlen:(((amS (xl++yl)).l.length:Int)==IntKind.i64.wrap (((amS xl).l.length:Int)+((amS yl).l.length:Int)))=true:=by
  rw [beq_iff_eq,hlx,hly,hlz,w64 (by omega) (by omega)];omega
 refine AW.seq_k fun K hK=>AW.region (by kernel_rfl) ?_
 simp -implicitDefEqProofs only[go_sem,seval,↓reduceIte,bne,qlen]
 refine hK _ ?_
 clear hK K
 refine AW.condS (by simp -implicitDefEqProofs only[go_sem,seval,↓reduceIte];rfl) (fun h97=>?_) (fun h97=>?_)
 ·cases h97
 refine AW.skip ?_
 simp -implicitDefEqProofs only[go_sem,seval,↓reduceIte]
 refine hK3 _ ?_
 have hxx:∀ y∈(amS xl).l,y.x.l.length<1000000:=fun y hy=>(hbX.amb y hy).l
 have hyx:∀ y∈(amS yl).l,y.x.l.length<1000000:=fun y hy=>(hbY.amb y hy).l
 have hzx:∀ y∈(amS (xl++yl)).l,y.x.l.length<1000000:=fun y hy=>(hbZ.amb y hy).l
 refine AW.seqJ (fun (_:Unit)=>st [(2,encSl c2 1 V.str vars),(3,encSl c3 1 V.str events),(4,encSl c4 1 V.str more),(11,.ptr 11 g11 0),(14,.ptr 14 g14 0),(17,.ptr 17 g17 0),(20,encSl .new 3 (encAM .new) (amS (xl++yl)))]
  [(11,.cells .new g11 0 [encSl .new 3 (encAM .new) (amS xl)]),(14,.cells .new g14 0 [encSl .new 3 (encAM .new) (amS yl)]),(17,.cells .new g17 0 [encSl .new 3 (encAM .new) (amS (xl++yl))])]) (fun _=>True) (fun K4 hK4=>?_) ?_
 ·refine AW.regionO [0,2,1,3,4,5] [(29,.ptr 14 g14 0,.agg [encSl .new 3 (encAM .new) (amS yl)])] ⟨fun i=>if i=2 then .agg [encSl .new 3 (encAM .new) (amS yl)] else if i=3 then encSl .new 3 (encAM .new) (amS yl) else .top,fun i=>if i=1 then .any else if i=2 then .keep else .pure⟩ (by kernel_rfl) hG (by kernel_rfl) (by kernel_rfl) (by kernel_rfl) (by kernel_rfl) ?_
  simp -implicitDefEqProofs only[go_sem,seval,↓reduceIte,List.getElem?_cons_zero,List.getElem?_cons_succ]
  refine CallA.inl [(7061,.dead)] (by kernel_rfl) ?_ ?_
  ·intro p hp
   rw [List.mem_singleton] at hp
   subst hp
   simp -implicitDefEqProofs only[go_sem,seval,↓reduceIte]
  refine (wRef11N_spec G hG _ _ (amS xl) hbX.len hxx).mono ?_
  rintro _ H' ⟨g61,rfl,q⟩
  rw [amS_v] at q ⊢
  simp only [List.map_cons,List.map_nil,q]
  simp -implicitDefEqProofs only[go_sem,seval,↓reduceIte,sets,srcCells_am]
  refine ⟨⟨by kernel_rfl,?_⟩,?_⟩
  ·simp -implicitDefEqProofs only[go_sem,seval,↓reduceIte,recol_ams,List.map_cons,List.map_nil]
   exact (wRef11_spec G hG _ _ (amS yl) hbY.len hyx).mono fun v _ e=>by rw [e,amS_v,ref_bk]
  refine app_grown2 (f:=encAS .new) (l:=xl) (l2:=yl) (o:=7061) (g:=g61) (encAS_cells _) rfl rfl rfl (by simp -implicitDefEqProofs only[go_sem,seval,↓reduceIte];try rfl) (roomOk_of (by omega) (by omega)) fun o2 g2 ho2=>?_
  have ho2:o2=7061∨o2=102:=ho2
  rcases ho2 with rfl | rfl
  ·simp -implicitDefEqProofs only[go_sem,seval,↓reduceIte]
   refine hK4 _ () trivial (Weak.stF (fun o=>o==7061) ?_ ?_)
   ·simp -implicitDefEqProofs only[go_sem,seval,↓reduceIte]
    refine ⟨Fz.same _,Fz.same _,Fz.same _,Fz.same _,Fz.same _,Fz.same _,?_⟩
    rw [← encABs_am .new (xl++yl)]
    exact Fz.grown rfl (by simp -implicitDefEqProofs only[go_sem,seval,↓reduceIte];try rfl) (encAS_cells _)
   ·simp only [allFzO_cons,allFzO_nil,and_true]
    exact ⟨FzO.keep rfl (by simp -implicitDefEqProofs only[go_sem,seval,↓reduceIte];try rfl),FzO.keep rfl (by simp -implicitDefEqProofs only[go_sem,seval,↓reduceIte];try rfl),FzO.keep rfl (by simp -implicitDefEqProofs only[go_sem,seval,↓reduceIte];try rfl)⟩
  ·simp -implicitDefEqProofs only[go_sem,seval,↓reduceIte]
   refine hK4 _ () trivial (Weak.stF (fun o=>o==102) ?_ ?_)
   ·simp -implicitDefEqProofs only[go_sem,seval,↓reduceIte]
    refine ⟨Fz.same _,Fz.same _,Fz.same _,Fz.same _,Fz.same _,Fz.same _,?_⟩
    rw [← encABs_am .new (xl++yl)]
    exact Fz.grown rfl (by simp -implicitDefEqProofs only[go_sem,seval,↓reduceIte];try rfl) (encAS_cells _)
   ·simp only [allFzO_cons,allFzO_nil,and_true]
    exact ⟨FzO.keep rfl (by simp -implicitDefEqProofs only[go_sem,seval,↓reduceIte];try rfl),FzO.keep rfl (by simp -implicitDefEqProofs only[go_sem,seval,↓reduceIte];try rfl),FzO.keep rfl (by simp -implicitDefEqProofs only[go_sem,seval,↓reduceIte];try rfl)⟩
 intro _ _
 refine AW.seq_k fun K5 hK5=>?_
 refine AW.seq_k fun K hK=>AW.region (by kernel_rfl) ?_
 simp -implicitDefEqProofs only[go_sem,seval,↓reduceIte]
 refine CallA.pure hG (by kernel_rfl) ?_
 simp -implicitDefEqProofs only[go_sem,seval,↓reduceIte,recol_ams]
 refine (wRef11_spec G hG _ _ (amS (xl++yl)) hbZ.len hzx).mono ?_
 rintro _ _ rfl
 rw [amS_v,ref_bk]
 refine CallA.pure hG (by kernel_rfl) ?_
 simp -implicitDefEqProofs only[go_sem,seval,↓reduceIte,recol_ams]
 refine (aSame_spec G hG _ _ _ _ (amS (xl++yl)) (amS (xl++yl)) hbZ.len hzx).mono ?_
 rintro _ _ rfl
 have ezz:((amS (xl++yl)).l.map AM.v==(amS (xl++yl)).l.map AM.v)=true:=by simp
 rw [ezz]
 simp -implicitDefEqProofs only[go_sem,seval,↓reduceIte]
 refine hK _ ?_
 clear hK K
 refine AW.condS (by simp -implicitDefEqProofs only[go_sem,seval,↓reduceIte];rfl) (fun h107=>?_) (fun h107=>?_)
 ·cases h107
 refine AW.skip ?_
 simp -implicitDefEqProofs only[go_sem,seval,↓reduceIte]
 refine hK5 _ ?_
 have tz:=types_ok (vars:=vars.l) (events:=events.l) hcZ
 have tx:=types_ok (vars:=vars.l) (events:=events.l) hcX
 have ty:=types_ok (vars:=vars.l) (events:=events.l) hcY
 have tm:=types_ok (vars:=more.l++vars.l) (events:=more.l++events.l) hcZ
 have hmore:=all_more (b:=xl++yl) (vars:=vars.l) (events:=events.l) (more:=more.l) (fun t ht=>by
  rcases List.mem_append.1 ht with ht | ht
  ·exact hrX t ht
  ·exact hrY t ht)
 rw [List.all_append] at tz hmore
 generalize hA:xl.all (stT vars.l events.l)=A at tz tx hmore
 generalize hB:yl.all (stT vars.l events.l)=B at tz ty hmore
 generalize hzt:typesA (xl++yl) vars.l events.l=rz at tz
 generalize hxt:typesA xl vars.l events.l=rx at tx
 generalize hyt:typesA yl vars.l events.l=ry at ty
 obtain ⟨zn,ze⟩:=rz
 obtain ⟨xn,xe2⟩:=rx
 obtain ⟨yn,ye2⟩:=ry
 simp only at tz tx ty
 refine AW.seq_k fun K hK=>AW.region (by kernel_rfl) ?_
 simp -implicitDefEqProofs only[go_sem,seval,↓reduceIte]
 refine CallA.pure hG (by kernel_rfl) ?_
 simp -implicitDefEqProofs only[go_sem,seval,↓reduceIte,recol_ams]
 refine (bTypes_spec G hE _ _ _ _ (amS (xl++yl)) vars events hbZ.len hbZ.amb (by omega) (by omega)).mono ?_
 rintro _ _ rfl
 rw [amS_v,hzt]
 simp -implicitDefEqProofs only[go_sem,seval,↓reduceIte,encTy]
 refine hK _ ?_
 clear hK K
 refine AW.seq_k fun K hK=>AW.region (by kernel_rfl) ?_
 simp -implicitDefEqProofs only[go_sem,seval,↓reduceIte]
 refine CallA.pure hG (by kernel_rfl) ?_
 simp -implicitDefEqProofs only[go_sem,seval,↓reduceIte,recol_ams]
 refine (bTypes_spec G hE _ _ _ _ (amS xl) vars events hbX.len hbX.amb (by omega) (by omega)).mono ?_
 rintro _ _ rfl
 rw [amS_v,hxt]
 simp -implicitDefEqProofs only[go_sem,seval,↓reduceIte,encTy]
 refine hK _ ?_
 clear hK K
 refine AW.seq_k fun K hK=>AW.region (by kernel_rfl) ?_
 simp -implicitDefEqProofs only[go_sem,seval,↓reduceIte]
 refine CallA.pure hG (by kernel_rfl) ?_
 simp -implicitDefEqProofs only[go_sem,seval,↓reduceIte,recol_ams]
 refine (bTypes_spec G hE _ _ _ _ (amS yl) vars events hbY.len hbY.amb (by omega) (by omega)).mono ?_
 rintro _ _ rfl
 rw [amS_v,hyt]
 simp -implicitDefEqProofs only[go_sem,seval,↓reduceIte,encTy]
 refine hK _ ?_
 clear hK K
 refine AW.seqJ (fun (_:Unit)=>st [(2,encSl c2 1 V.str vars),(3,encSl c3 1 V.str events),(4,encSl c4 1 V.str more),(17,.ptr 17 g17 0),(22,.int .i64 ze)] [(17,.cells .new g17 0 [encSl .new 3 (encAM .new) (amS (xl++yl))])]) (fun _=>True) (fun K7 hK7=>?_) ?_
 ·cases A with
  | false =>
   have tz:(ze==0)=false:=tz
   refine AW.seq_k fun K hK=>AW.region (by kernel_rfl) ?_
   simp -implicitDefEqProofs only[go_sem,seval,↓reduceIte,tz,tx,ty]
   refine hK _ ?_
   clear hK K
   refine AW.condS (by simp -implicitDefEqProofs only[go_sem,seval,↓reduceIte];rfl) (fun h137=>?_) (fun h137=>?_)
   ·cases h137
   refine AW.skip ?_
   simp -implicitDefEqProofs only[go_sem,seval,↓reduceIte]
   exact hK7 _ () trivial (Weak.st (by simp -implicitDefEqProofs only[go_sem,seval,↓reduceIte];try rfl) (by simp -implicitDefEqProofs only[go_sem,seval,↓reduceIte];try rfl))
  | true =>
  cases B with
  | false =>
   have tz:(ze==0)=false:=tz
   refine AW.seq_k fun K hK=>AW.region (by kernel_rfl) ?_
   simp -implicitDefEqProofs only[go_sem,seval,↓reduceIte,tz,tx,ty]
   refine hK _ ?_
   clear hK K
   refine AW.condS (by simp -implicitDefEqProofs only[go_sem,seval,↓reduceIte];rfl) (fun h137=>?_) (fun h137=>?_)
   ·cases h137
   refine AW.skip ?_
   simp -implicitDefEqProofs only[go_sem,seval,↓reduceIte]
   exact hK7 _ () trivial (Weak.st (by simp -implicitDefEqProofs only[go_sem,seval,↓reduceIte];try rfl) (by simp -implicitDefEqProofs only[go_sem,seval,↓reduceIte];try rfl))
  | true =>
   have tz:(ze==0)=true:=tz
   refine AW.seq_k fun K hK=>AW.region (by kernel_rfl) ?_
   simp -implicitDefEqProofs only[go_sem,seval,↓reduceIte,tz,tx,ty]
   refine hK _ ?_
   clear hK K
   refine AW.condS (by simp -implicitDefEqProofs only[go_sem,seval,↓reduceIte];rfl) (fun h137=>?_) (fun h137=>?_)
   ·cases h137
   refine AW.skip ?_
   simp -implicitDefEqProofs only[go_sem,seval,↓reduceIte]
   exact hK7 _ () trivial (Weak.st (by simp -implicitDefEqProofs only[go_sem,seval,↓reduceIte];try rfl) (by simp -implicitDefEqProofs only[go_sem,seval,↓reduceIte];try rfl))
 intro _ _
 have hF:∀ o2:Nat,(o2=140∨o2=142∨o2=145∨o2=147)→o2≠17:=by intro o2 h;omega
 refine AW.seq_k fun K hK=>AW.region (by kernel_rfl) ?_
 simp -implicitDefEqProofs only[go_sem,seval,↓reduceIte]
 refine hK _ ?_
 clear hK K
 refine AW.seqJ (fun (N:Sl (List UInt8))=>st [(3,encSl c3 1 V.str events),(4,encSl c4 1 V.str more),(17,.ptr 17 g17 0),(22,.int .i64 ze),(27,encSl .new 1 V.str N),(28,.nils)] [(17,.cells .new g17 0 [encSl .new 3 (encAM .new) (amS (xl++yl))])]) (fun N=>N.l=more.l++vars.l) (fun K8 hK8=>?_) ?_
 ·refine AW.region (by kernel_rfl) ?_
  simp -implicitDefEqProofs only[go_sem,seval,↓reduceIte,srcCells_strJ]
  refine app_grown (f:=V.str) (l:=([]:List (List UInt8))) (l2:=more.l) (g:=0) (fun _=>rfl) rfl rfl rfl (by simp -implicitDefEqProofs only[go_sem,seval,↓reduceIte];try rfl) (roomOk_of (by omega) (by simp;omega)) fun ga=>?_
  rw [List.nil_append]
  simp -implicitDefEqProofs only[go_sem,seval,↓reduceIte,srcCells_strJ]
  refine app_grown2 (f:=V.str) (l:=more.l) (l2:=vars.l) (o:=140) (g:=ga) (fun _=>rfl) rfl rfl rfl (by simp -implicitDefEqProofs only[go_sem,seval,↓reduceIte];try rfl) (roomOk_of (by omega) (by omega)) fun o2 gb ho2=>?_
  have ho2:o2=140∨o2=142:=ho2
  have hne:=hF o2 (by omega)
  simp -implicitDefEqProofs only[go_sem,seval,↓reduceIte]
  refine hK8 _ (grownS (more.l++vars.l)) (grownS_l _) (Weak.stF (fun o=>decide (o2=o)) ?_ ?_)
  ·simp -implicitDefEqProofs only[go_sem,seval,↓reduceIte]
   refine ⟨Fz.same _,Fz.same _,Fz.same _,Fz.same _,?_,Fz.same _⟩
   exact Fz.grown (by simp) (by simp -implicitDefEqProofs only[go_sem,seval,↓reduceIte];try rfl) (fun _=>rfl)
  ·simp only [allFzO_cons,allFzO_nil,and_true]
   exact FzO.keep (by simpa using hne) (by simp -implicitDefEqProofs only[go_sem,seval,↓reduceIte,hne,hne.symm];try rfl)
 intro N1 hN1
 refine AW.seqJ (fun (N:Sl (List UInt8))=>st [(17,.ptr 17 g17 0),(22,.int .i64 ze),(27,encSl .new 1 V.str N1),(28,encSl .new 1 V.str N)] [(17,.cells .new g17 0 [encSl .new 3 (encAM .new) (amS (xl++yl))])]) (fun N=>N.l=more.l++events.l) (fun K8 hK8=>?_) ?_
 ·refine AW.region (by kernel_rfl) ?_
  simp -implicitDefEqProofs only[go_sem,seval,↓reduceIte,srcCells_strJ]
  refine app_grown (f:=V.str) (l:=([]:List (List UInt8))) (l2:=more.l) (g:=0) (fun _=>rfl) rfl rfl rfl (by simp -implicitDefEqProofs only[go_sem,seval,↓reduceIte];try rfl) (roomOk_of (by omega) (by simp;omega)) fun ga=>?_
  rw [List.nil_append]
  simp -implicitDefEqProofs only[go_sem,seval,↓reduceIte,srcCells_strJ]
  refine app_grown2 (f:=V.str) (l:=more.l) (l2:=events.l) (o:=145) (g:=ga) (fun _=>rfl) rfl rfl rfl (by simp -implicitDefEqProofs only[go_sem,seval,↓reduceIte];try rfl) (roomOk_of (by omega) (by omega)) fun o2 gb ho2=>?_
  have ho2:o2=145∨o2=147:=ho2
  have hne:=hF o2 (by omega)
  simp -implicitDefEqProofs only[go_sem,seval,↓reduceIte]
  refine hK8 _ (grownS (more.l++events.l)) (grownS_l _) (Weak.stF (fun o=>decide (o2=o)) ?_ ?_)
  ·simp -implicitDefEqProofs only[go_sem,seval,↓reduceIte]
   refine ⟨Fz.same _,Fz.same _,Fz.same _,?_⟩
   exact Fz.grown (by simp) (by simp -implicitDefEqProofs only[go_sem,seval,↓reduceIte];try rfl) (fun _=>rfl)
  ·simp only [allFzO_cons,allFzO_nil,and_true]
   exact FzO.keep (by simpa using hne) (by simp -implicitDefEqProofs only[go_sem,seval,↓reduceIte,hne,hne.symm];try rfl)
 intro N2 hN2
 rw [← hN1,← hN2] at tm hmore
 have hN1l:N1.l.length<100000:=by rw [hN1,List.length_append];omega
 have hN2l:N2.l.length<100000:=by rw [hN2,List.length_append];omega
 generalize hmt:typesA (xl++yl) N1.l N2.l=rm at tm
 obtain ⟨mn,me⟩:=rm
 simp only at tm
 refine AW.seq_k fun K hK=>AW.region (by kernel_rfl) ?_
 simp -implicitDefEqProofs only[go_sem,seval,↓reduceIte]
 refine CallA.pure hG (by kernel_rfl) ?_
 simp -implicitDefEqProofs only[go_sem,seval,↓reduceIte,recol_ams]
 refine (bTypes_spec G hE _ _ _ _ (amS (xl++yl)) N1 N2 hbZ.len hbZ.amb (by omega) (by omega)).mono ?_
 rintro _ _ rfl
 rw [amS_v,hmt]
 simp -implicitDefEqProofs only[go_sem,seval,↓reduceIte,encTy]
 refine hK _ ?_
 clear hK K
 cases qz:(ze==0) with
 | false =>
  refine AW.seq_k fun K hK=>AW.region (by kernel_rfl) ?_
  simp -implicitDefEqProofs only[go_sem,seval,↓reduceIte,bne,qz]
  refine CallA.pure hG (by kernel_rfl) ?_
  simp -implicitDefEqProofs only[go_sem,seval,↓reduceIte,List.map_nil]
  refine (wWorks11_spec G hE).mono ?_
  rintro _ _ rfl
  simp -implicitDefEqProofs only[go_sem,seval,↓reduceIte]
  refine hK _ ?_
  clear hK K
  refine AW.ret ?_
  simp -implicitDefEqProofs only[go_sem,seval,↓reduceIte]
  refine endK_some ?_
  rfl
 | true =>
  have qm:(me==0)=true:=by rw [tm];exact hmore (by rw [← tz,qz])
  refine AW.seq_k fun K hK=>AW.region (by kernel_rfl) ?_
  simp -implicitDefEqProofs only[go_sem,seval,↓reduceIte,bne,qz,qm]
  refine CallA.pure hG (by kernel_rfl) ?_
  simp -implicitDefEqProofs only[go_sem,seval,↓reduceIte,List.map_nil]
  refine (wWorks11_spec G hE).mono ?_
  rintro _ _ rfl
  simp -implicitDefEqProofs only[go_sem,seval,↓reduceIte]
  refine hK _ ?_
  clear hK K
  refine AW.ret ?_
  simp -implicitDefEqProofs only[go_sem,seval,↓reduceIte]
  refine endK_some ?_
  rfl
end Go.Hs
end
