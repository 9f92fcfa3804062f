/- Part 41 of the proof of a statement of seat YtpoiceejhcpnaaaGreatDoor: HsETypK2 HsETypKinds HsETypOf HsETypW HsETypRK HsETypRK2 HsETypL. -/
import Derived.Test.YtpoiceejhcpnaaaGreatDoorPart39
import Derived.Test.YtpoiceejhcpnaaaGreatDoorPart40
set_option linter.unusedSimpArgs false
set_option linter.unusedVariables false
section
namespace Go.Hs
open Go.Proofs
set_option maxRecDepth 10000
def eq3 (a b c a' b' c':Int):Bool:=decide (a=a'∧b=b'∧c=c')
theorem eqCs_3 (a b c a' b' c':Int):eqCs [.int .u8 a,.int .u8 b,.int .u8 c] [.int .u8 a',.int .u8 b',.int .u8 c']=some (eq3 a b c a' b' c'):=by
 unfold eq3
 simp only [eqCs,eqC,if_true]
 by_cases h1:a=a'
 ·by_cases h2:b=b'
  ·by_cases h3:c=c'
   ·simp [h1,h2,h3]
   ·have:(c==c')=false:=by simpa using h3
    simp [h1,h2,h3,this]
  ·have:(b==b')=false:=by simpa using h2
   simp [h1,this,h2]
 ·have:(a==a')=false:=by simpa using h1
  simp [this,h1]
def knC (v:V):List V:=ruleC++[v]
theorem knC_len (v:V):(knC v).length=93:=by rw [knC,List.length_append];rfl
theorem knC_names (v:V):(knC v)[92]? = some v:=by
 rw [knC,List.getElem?_append_right (by decide)];rfl
theorem ruleC_len:ruleC.length=92:=rfl
theorem knC_take (v:V):(knC v).take 92=ruleC:=by rw [knC,List.take_append_of_le_length (Nat.le_refl 92)];rfl
theorem ruleC_recol (f:Col→Col):ruleC.map (V.recol f)=ruleC:=rfl
theorem knC_recol (f:Col→Col) (v:V):(knC v).map (V.recol f)=knC (v.recol f):=by
 rw [knC,List.map_append,ruleC_recol];rfl
theorem tKind_spec (G:Nat→V) (hG:GOk G) (c1 c2:Col) (names:Sl (List UInt8)) (hnl:names.l.length<1000000) (n:XN) (ks:Sl Int) (hn:PlOk ks.l.length n) (hkl:ks.l.length<1000000) (hks:∀ y∈ks.l,y=1∨y=2) :
  Spec Tryz.prog G 51 [.agg (knC (encSl c1 1 V.str names)),encXN n,encSl c2 1 (V.int .u8) ks] hNone (fun v _=>v = .int .u8 (kindN names.l n ks.l)):=by
 refine Spec.of_code' 0 71 [.tmp 6] Tryz.func51 rfl rfl rfl rfl fun X=>?_
 have hP:kindN names.l n ks.l=kd n.op (names.l.contains n.name) (plc ks.l n.a) (plc ks.l n.b) (plc ks.l n.c):=rfl
 generalize kindN names.l n ks.l=res at hP ⊢
 simp only [encXN_K]
 refine AW.seq_k fun K hK=>AW.region (by kernel_rfl) ?_
 simp -implicitDefEqProofs only[go_sem,seval,↓reduceIte,knC_len]
 intro g3 g4 g5
 refine hK _ ?_
 clear hK K
 refine AW.seqJ (fun (_:Unit)=>st [(3,.ptr 3 g3 0),(4,.ptr 4 g4 0),(5,.ptr 5 g5 0)] [(3,.cells .new g3 0 (knC (encSl c1 1 V.str names))),(4,.cells .new g4 0 [.int .u8 n.op,.int .i64 n.num,.str n.name,.int .i64 n.a,.int .i64 n.b,.int .i64 n.c]),(5,.cells .new g5 0 [encSl c2 1 (V.int .u8) ks])])
  (fun _=>n.op=2→names.l.contains n.name=true) (fun K1 hK1=>?_) ?_
 ·by_cases ho:n.op=2
  ·have e1:(n.op==2)=true:=by simpa using ho
   refine AW.seq_k fun K hK=>AW.region (by kernel_rfl) ?_
   simp -implicitDefEqProofs only[go_sem,seval,↓reduceIte,e1,knC_names]
   refine CallA.pure hG (by kernel_rfl) ?_
   simp -implicitDefEqProofs only[go_sem,seval,↓reduceIte]
   refine (sContains_spec G hG _ n.name names hnl).mono ?_
   rintro _ _ rfl
   simp -implicitDefEqProofs only[go_sem,seval,↓reduceIte]
   refine hK _ ?_
   clear hK K
   cases hc:names.l.contains n.name with
   | true =>
    refine AW.condS (by simp -implicitDefEqProofs only[go_sem,seval,↓reduceIte];rfl) (fun h21=>?_) (fun h21=>?_)
    ·cases h21
    refine AW.skip ?_
    simp -implicitDefEqProofs only[go_sem,seval,↓reduceIte]
    exact hK1 _ () (fun _=>hc) (Weak.st (by simp -implicitDefEqProofs only[go_sem,seval,↓reduceIte]) (by simp -implicitDefEqProofs only[go_sem,seval,↓reduceIte]))
   | false =>
    refine AW.condS (by simp -implicitDefEqProofs only[go_sem,seval,↓reduceIte];rfl) (fun h21=>?_) (fun h21=>?_)
    ·refine AW.seq_k fun K hK=>AW.region (by kernel_rfl) ?_
     simp -implicitDefEqProofs only[go_sem,seval,↓reduceIte]
     refine hK _ ?_
     clear hK K
     refine AW.ret ?_
     simp -implicitDefEqProofs only[go_sem,seval,↓reduceIte]
     refine endK_some ?_
     rw [hP,hc,ho];rfl
    ·cases h21
  ·have e1:(n.op==2)=false:=by simpa using ho
   refine AW.seq_k fun K hK=>AW.region (by kernel_rfl) ?_
   simp -implicitDefEqProofs only[go_sem,seval,↓reduceIte,e1]
   refine hK _ ?_
   clear hK K
   refine AW.condS (by simp -implicitDefEqProofs only[go_sem,seval,↓reduceIte];rfl) (fun h21=>?_) (fun h21=>?_)
   ·cases h21
   refine AW.skip ?_
   simp -implicitDefEqProofs only[go_sem,seval,↓reduceIte]
   exact hK1 _ () (fun h=>absurd h ho) (Weak.st (by simp -implicitDefEqProofs only[go_sem,seval,↓reduceIte]) (by simp -implicitDefEqProofs only[go_sem,seval,↓reduceIte]))
 rintro _ hnm
 refine AW.seq_k fun K hK=>AW.region (by kernel_rfl) ?_
 simp -implicitDefEqProofs only[go_sem,seval,↓reduceIte]
 refine hK _ ?_
 clear hK K
 refine AW.weak (Weak.stF (fun o=>o==3 || o==4 || o==5) (l:=[(3,.view .new (.agg (knC (encSl c1 1 V.str names)))),(4,.view .new (.agg [.int .u8 n.op,.int .i64 n.num,.str n.name,.int .i64 n.a,.int .i64 n.b,.int .i64 n.c])),(7,.func (.func 68) [] [.view .new (encSl c2 1 (V.int .u8) ks)])]) (m:=[]) ?_ trivial) ?_
 ·simp -implicitDefEqProofs only[go_sem,seval,↓reduceIte]
  refine ⟨?_,?_,?_⟩
  ·exact Fz.ptr (v := .agg (knC (encSl c1 1 V.str names))) (c := .new) (fz:=0) rfl (by simp -implicitDefEqProofs only[go_sem,seval,↓reduceIte];try rfl)
  ·exact Fz.ptr (v := .agg [.int .u8 n.op,.int .i64 n.num,.str n.name,.int .i64 n.a,.int .i64 n.b,.int .i64 n.c]) (c := .new) (fz:=0) rfl (by simp -implicitDefEqProofs only[go_sem,seval,↓reduceIte];try rfl)
  ·exact Fz.func ⟨Fz.ptr (v:=encSl c2 1 (V.int .u8) ks) (c := .new) (fz:=0) rfl (by simp -implicitDefEqProofs only[go_sem,seval,↓reduceIte];try rfl),trivial⟩
 have pc:∀ i:Int,(i<0∨0≤i∧i<ks.l.length)→PureC Tryz.prog G 68 [.int .i64 i,.view .new (encSl c2 1 (V.int .u8) ks)] (.int .u8 (plc ks.l i)):=fun i h=>⟨by kernel_rfl,by
  simp -implicitDefEqProofs only[go_sem,seval,↓reduceIte]
  refine (tAt_spec G hG _ ks hkl i h).mono ?_
  rintro _ _ rfl
  rfl⟩
 obtain ⟨hw,ha1,hb1,hc1,ha0,hb0,hc0⟩:=hn
 have hra:n.a<0∨0≤n.a∧n.a<ks.l.length:=by
  by_cases h:0<partsOf n.op
  ·exact .inr (ha1 h)
  ·exact .inl (by rw [ha0 h];decide)
 have hrb:n.b<0∨0≤n.b∧n.b<ks.l.length:=by
  by_cases h:1<partsOf n.op
  ·exact .inr (hb1 h)
  ·exact .inl (by rw [hb0 h];decide)
 have hrc:n.c<0∨0≤n.c∧n.c<ks.l.length:=by
  by_cases h:2<partsOf n.op
  ·exact .inr (hc1 h)
  ·exact .inl (by rw [hc0 h];decide)
 have hor:=well_range hw
 obtain ⟨op,hop⟩:∃ op:Nat,n.op=op:=⟨n.op.toNat,by omega⟩
 have hop1:op<23:=by omega
 have hop2:n.op<23:=by omega
 have hop0:0≤n.op:=by omega
 have hopn:n.op.toNat=op:=by omega
 have hru:=ruleC_get op hop1
 have hrl:op * 4+4≤92:=by omega
 refine AW.seq_k fun K hK=>AW.regionT ⟨fun i=>if i=8 then .int .u8 (plc ks.l n.a) else if i=12 then .int .u8 (plc ks.l n.b) else if i=16 then .int .u8 (plc ks.l n.c) else .top,fun i=>if i=1 then .lend else if i=4 then .lend else if i=7 then .lend else if i=11 then .lend else if i=15 then .lend else .pure⟩ (by kernel_rfl) hG (by kernel_rfl) (by kernel_rfl) ?_
 simp -implicitDefEqProofs only[go_sem,seval,↓reduceIte,knC_take,knC_len,show (92:Nat)≤93 from by decide,ruleC_len,hru,hop2,hop0,hopn,hrl]
 refine ⟨pc _ hra,pc _ hrb,pc _ hrc,?_⟩
 intro g8 g9
 refine hK _ ?_
 clear hK K
 have hpl:∀ i:Int,(0≤i∧i<ks.l.length)→plc ks.l i=1∨plc ks.l i=2:=by
  intro i hi
  unfold plc
  rw [if_neg (by omega)]
  obtain ⟨m,rfl⟩:∃ m:Nat,i=m:=⟨i.toNat,by omega⟩
  rw [Int.toNat_natCast,List.getD_eq_getElem?_getD,List.getElem?_eq_getElem (by omega)]
  exact hks _ (List.getElem_mem _)
 have hva:0<partsOf n.op→plc ks.l n.a=1∨plc ks.l n.a=2:=fun h=>hpl _ (ha1 h)
 have hvb:1<partsOf n.op→plc ks.l n.b=1∨plc ks.l n.b=2:=fun h=>hpl _ (hb1 h)
 have hvc:2<partsOf n.op→plc ks.l n.c=1∨plc ks.l n.c=2:=fun h=>hpl _ (hc1 h)
 have hza:¬ 0<partsOf n.op→plc ks.l n.a=0:=fun h=>by rw [ha0 h];rfl
 have hzb:¬ 1<partsOf n.op→plc ks.l n.b=0:=fun h=>by rw [hb0 h];rfl
 have hzc:¬ 2<partsOf n.op→plc ks.l n.c=0:=fun h=>by rw [hc0 h];rfl
 generalize plc ks.l n.a=a at hP hva hza ⊢
 generalize plc ks.l n.b=b at hP hvb hzb ⊢
 generalize plc ks.l n.c=c at hP hvc hzc ⊢
 refine AW.seq_k fun K hK=>AW.region (by kernel_rfl) ?_
 simp -implicitDefEqProofs only[go_sem,seval,↓reduceIte]
 refine hK _ ?_
 clear hK K
 by_cases q16:op=16∨op=17
 ·have eA:ruleA op=3:=by rcases q16 with rfl | rfl<;>rfl
  have eB:ruleB op=3:=by rcases q16 with rfl | rfl<;>rfl
  have eD:ruleD op=0:=by rcases q16 with rfl | rfl<;>rfl
  have eI:ruleI op=2:=by rcases q16 with rfl | rfl<;>rfl
  rw [eA,eB,eD,eI]
  have hpo:partsOf n.op=2:=by rw [hop];rcases q16 with rfl | rfl<;>rfl
  rw [hpo] at hva hvb hzc
  replace hva:=hva (by decide)
  replace hvb:=hvb (by decide)
  replace hzc:=hzc (by decide)
  refine AW.seq_k fun K2 hK2=>?_
  refine AW.seq_k fun K hK=>AW.region (by kernel_rfl) ?_
  simp -implicitDefEqProofs only[go_sem,seval,↓reduceIte]
  refine hK _ ?_
  clear hK K
  refine AW.condS (by simp -implicitDefEqProofs only[go_sem,seval,↓reduceIte];rfl) (fun h46=>?_) (fun h46=>?_)
  rotate_left
  ·cases h46
  refine AW.region (by kernel_rfl) ?_
  simp -implicitDefEqProofs only[go_sem,seval,↓reduceIte]
  refine hK2 _ ?_
  refine AW.seq_k fun K3 hK3=>?_
  refine AW.seq_k fun K hK=>AW.region (by kernel_rfl) ?_
  simp -implicitDefEqProofs only[go_sem,seval,↓reduceIte]
  refine hK _ ?_
  clear hK K
  refine AW.condS (by simp -implicitDefEqProofs only[go_sem,seval,↓reduceIte];rfl) (fun h56=>?_) (fun h56=>?_)
  ·cases h56
  refine AW.skip ?_
  simp -implicitDefEqProofs only[go_sem,seval,↓reduceIte]
  refine hK3 _ ?_
  refine AW.seq_k fun K4 hK4=>?_
  refine AW.seq_k fun K=>?_
  intro hK
  refine AW.regionAt 3 (by kernel_rfl) rfl rfl ?_
  simp -implicitDefEqProofs only[go_sem,seval,↓reduceIte,List.take_succ_cons,List.take_zero]
  refine ⟨_,Gives.aggEq (.inr rfl) (by kernel_rfl) (by kernel_rfl) (by kernel_rfl) (by simp -implicitDefEqProofs only[go_sem,seval,↓reduceIte];try rfl) (by simp -implicitDefEqProofs only[go_sem,seval,↓reduceIte];try rfl) (by kernel_rfl) (eqCs_3 _ _ _ _ _ _),?_⟩
  simp -implicitDefEqProofs only[go_sem,seval,↓reduceIte,List.drop_succ_cons,List.drop_zero]
  refine hK _ ?_
  clear hK K
  have hP2:res=if eq3 a b c b b 0=true then 2 else 0:=by
   rw [hP,hop,hzc]
   rcases q16 with rfl | rfl<;>rcases hva with rfl | rfl<;>rcases hvb with rfl | rfl<;>rfl
  generalize eq3 a b c b b 0=z at hP2 ⊢
  cases z with
  | true =>
   refine AW.condS (by simp -implicitDefEqProofs only[go_sem,seval,↓reduceIte];rfl) (fun h68=>?_) (fun h68=>?_)
   ·cases h68
   refine AW.skip ?_
   simp -implicitDefEqProofs only[go_sem,seval,↓reduceIte]
   refine hK4 _ ?_
   refine AW.seq_k fun K hK=>AW.region (by kernel_rfl) ?_
   simp -implicitDefEqProofs only[go_sem,seval,↓reduceIte]
   refine hK _ ?_
   clear hK K
   refine AW.ret ?_
   simp -implicitDefEqProofs only[go_sem,seval,↓reduceIte]
   refine endK_some ?_
   rw [hP2];rfl
  | false =>
   refine AW.condS (by simp -implicitDefEqProofs only[go_sem,seval,↓reduceIte];rfl) (fun h68=>?_) (fun h68=>?_)
   ·refine AW.seq_k fun K hK=>AW.region (by kernel_rfl) ?_
    simp -implicitDefEqProofs only[go_sem,seval,↓reduceIte]
    refine hK _ ?_
    clear hK K
    refine AW.ret ?_
    simp -implicitDefEqProofs only[go_sem,seval,↓reduceIte]
    refine endK_some ?_
    rw [hP2];rfl
   ·cases h68
 by_cases q22:op=22
 ·subst q22
  have eA:ruleA 22=2:=rfl
  have eB:ruleB 22=3:=rfl
  have eD:ruleD 22=3:=rfl
  have eI:ruleI 22=3:=rfl
  rw [eA,eB,eD,eI]
  have hpo:partsOf n.op=3:=by rw [hop];rfl
  rw [hpo] at hva hvb hvc
  replace hva:=hva (by decide)
  replace hvb:=hvb (by decide)
  replace hvc:=hvc (by decide)
  refine AW.seq_k fun K2 hK2=>?_
  refine AW.seq_k fun K hK=>AW.region (by kernel_rfl) ?_
  simp -implicitDefEqProofs only[go_sem,seval,↓reduceIte]
  refine hK _ ?_
  clear hK K
  refine AW.condS (by simp -implicitDefEqProofs only[go_sem,seval,↓reduceIte];rfl) (fun h46=>?_) (fun h46=>?_)
  ·cases h46
  refine AW.skip ?_
  simp -implicitDefEqProofs only[go_sem,seval,↓reduceIte]
  refine hK2 _ ?_
  refine AW.seq_k fun K3 hK3=>?_
  refine AW.seq_k fun K hK=>AW.region (by kernel_rfl) ?_
  simp -implicitDefEqProofs only[go_sem,seval,↓reduceIte]
  refine hK _ ?_
  clear hK K
  refine AW.condS (by simp -implicitDefEqProofs only[go_sem,seval,↓reduceIte];rfl) (fun h56=>?_) (fun h56=>?_)
  rotate_left
  ·cases h56
  refine AW.region (by kernel_rfl) ?_
  simp -implicitDefEqProofs only[go_sem,seval,↓reduceIte]
  refine hK3 _ ?_
  refine AW.seq_k fun K4 hK4=>?_
  refine AW.seq_k fun K=>?_
  intro hK
  refine AW.regionAt 3 (by kernel_rfl) rfl rfl ?_
  simp -implicitDefEqProofs only[go_sem,seval,↓reduceIte,List.take_succ_cons,List.take_zero]
  refine ⟨_,Gives.aggEq (.inr rfl) (by kernel_rfl) (by kernel_rfl) (by kernel_rfl) (by simp -implicitDefEqProofs only[go_sem,seval,↓reduceIte];try rfl) (by simp -implicitDefEqProofs only[go_sem,seval,↓reduceIte];try rfl) (by kernel_rfl) (eqCs_3 _ _ _ _ _ _),?_⟩
  simp -implicitDefEqProofs only[go_sem,seval,↓reduceIte,List.drop_succ_cons,List.drop_zero]
  refine hK _ ?_
  clear hK K
  have hP2:res=if eq3 a b c 2 b b=true then b else 0:=by
   rw [hP,hop]
   rcases hva with rfl | rfl<;>rcases hvb with rfl | rfl<;>rcases hvc with rfl | rfl<;>rfl
  generalize eq3 a b c 2 b b=z at hP2 ⊢
  cases z with
  | true =>
   refine AW.condS (by simp -implicitDefEqProofs only[go_sem,seval,↓reduceIte];rfl) (fun h68=>?_) (fun h68=>?_)
   ·cases h68
   refine AW.skip ?_
   simp -implicitDefEqProofs only[go_sem,seval,↓reduceIte]
   refine hK4 _ ?_
   refine AW.seq_k fun K hK=>AW.region (by kernel_rfl) ?_
   simp -implicitDefEqProofs only[go_sem,seval,↓reduceIte]
   refine hK _ ?_
   clear hK K
   refine AW.ret ?_
   simp -implicitDefEqProofs only[go_sem,seval,↓reduceIte]
   refine endK_some ?_
   rw [hP2];rfl
  | false =>
   refine AW.condS (by simp -implicitDefEqProofs only[go_sem,seval,↓reduceIte];rfl) (fun h68=>?_) (fun h68=>?_)
   ·refine AW.seq_k fun K hK=>AW.region (by kernel_rfl) ?_
    simp -implicitDefEqProofs only[go_sem,seval,↓reduceIte]
    refine hK _ ?_
    clear hK K
    refine AW.ret ?_
    simp -implicitDefEqProofs only[go_sem,seval,↓reduceIte]
    refine endK_some ?_
    rw [hP2];rfl
   ·cases h68
 have nA:(ruleA op==3)=false:=by unfold ruleA;rw [if_neg q16];split;rfl;split;rfl;rfl
 have nD:(ruleD op==3)=false:=by unfold ruleD;rw [if_neg q22];rfl
 refine AW.seq_k fun K2 hK2=>?_
 refine AW.seq_k fun K hK=>AW.region (by kernel_rfl) ?_
 simp -implicitDefEqProofs only[go_sem,seval,↓reduceIte,nA]
 refine hK _ ?_
 clear hK K
 refine AW.condS (by simp -implicitDefEqProofs only[go_sem,seval,↓reduceIte];rfl) (fun h46=>?_) (fun h46=>?_)
 ·cases h46
 refine AW.skip ?_
 simp -implicitDefEqProofs only[go_sem,seval,↓reduceIte]
 refine hK2 _ ?_
 refine AW.seq_k fun K3 hK3=>?_
 refine AW.seq_k fun K hK=>AW.region (by kernel_rfl) ?_
 simp -implicitDefEqProofs only[go_sem,seval,↓reduceIte,nD]
 refine hK _ ?_
 clear hK K
 refine AW.condS (by simp -implicitDefEqProofs only[go_sem,seval,↓reduceIte];rfl) (fun h56=>?_) (fun h56=>?_)
 ·cases h56
 refine AW.skip ?_
 simp -implicitDefEqProofs only[go_sem,seval,↓reduceIte]
 refine hK3 _ ?_
 refine AW.seq_k fun K4 hK4=>?_
 refine AW.seq_k fun K=>?_
 intro hK
 refine AW.regionAt 3 (by kernel_rfl) rfl rfl ?_
 simp -implicitDefEqProofs only[go_sem,seval,↓reduceIte,List.take_succ_cons,List.take_zero]
 refine ⟨_,Gives.aggEq (.inr rfl) (by kernel_rfl) (by kernel_rfl) (by kernel_rfl) (by simp -implicitDefEqProofs only[go_sem,seval,↓reduceIte];try rfl) (by simp -implicitDefEqProofs only[go_sem,seval,↓reduceIte];try rfl) (by kernel_rfl) (eqCs_3 _ _ _ _ _ _),?_⟩
 simp -implicitDefEqProofs only[go_sem,seval,↓reduceIte,List.drop_succ_cons,List.drop_zero]
 refine hK _ ?_
 clear hK K
 have hP2:res=if eq3 a b c (ruleA op) (ruleB op) (ruleD op)=true then ruleI op else 0:=by
  have hcs:op=1∨op=2∨op=3∨op=4∨op=5∨op=6∨op=7∨op=8∨op=9∨op=10∨op=11∨op=12∨op=13∨op=14∨op=15∨op=18∨op=19∨op=20∨op=21:=by omega
  rcases hcs with rfl | rfl | rfl | rfl | rfl | rfl | rfl | rfl | rfl | rfl | rfl | rfl | rfl | rfl | rfl | rfl | rfl | rfl | rfl
  ·have hpo:partsOf n.op=0:=by rw [hop];rfl
   rw [hpo] at hva hvb hza hzb hzc
   rw [hP,hop,hza (by decide),hzb (by decide),hzc (by decide)]
   rfl
  ·have hpo:partsOf n.op=0:=by rw [hop];rfl
   rw [hpo] at hva hvb hza hzb hzc
   rw [hP,hop,hza (by decide),hzb (by decide),hzc (by decide)]
   rw [hnm (by rw [hop];rfl)]
   rfl
  ·have hpo:partsOf n.op=0:=by rw [hop];rfl
   rw [hpo] at hva hvb hza hzb hzc
   rw [hP,hop,hza (by decide),hzb (by decide),hzc (by decide)]
   rfl
  ·have hpo:partsOf n.op=0:=by rw [hop];rfl
   rw [hpo] at hva hvb hza hzb hzc
   rw [hP,hop,hza (by decide),hzb (by decide),hzc (by decide)]
   rfl
  ·have hpo:partsOf n.op=1:=by rw [hop];rfl
   rw [hpo] at hva hvb hza hzb hzc
   rw [hP,hop,hzb (by decide),hzc (by decide)]
   rcases hva (by decide) with rfl | rfl<;>rfl
  ·have hpo:partsOf n.op=1:=by rw [hop];rfl
   rw [hpo] at hva hvb hza hzb hzc
   rw [hP,hop,hzb (by decide),hzc (by decide)]
   rcases hva (by decide) with rfl | rfl<;>rfl
  ·have hpo:partsOf n.op=2:=by rw [hop];rfl
   rw [hpo] at hva hvb hza hzb hzc
   rw [hP,hop,hzc (by decide)]
   rcases hva (by decide) with rfl | rfl<;>rcases hvb (by decide) with rfl | rfl<;>rfl
  ·have hpo:partsOf n.op=2:=by rw [hop];rfl
   rw [hpo] at hva hvb hza hzb hzc
   rw [hP,hop,hzc (by decide)]
   rcases hva (by decide) with rfl | rfl<;>rcases hvb (by decide) with rfl | rfl<;>rfl
  ·have hpo:partsOf n.op=2:=by rw [hop];rfl
   rw [hpo] at hva hvb hza hzb hzc
   rw [hP,hop,hzc (by decide)]
   rcases hva (by decide) with rfl | rfl<;>rcases hvb (by decide) with rfl | rfl<;>rfl
  ·have hpo:partsOf n.op=2:=by rw [hop];rfl
   rw [hpo] at hva hvb hza hzb hzc
   rw [hP,hop,hzc (by decide)]
   rcases hva (by decide) with rfl | rfl<;>rcases hvb (by decide) with rfl | rfl<;>rfl
  ·have hpo:partsOf n.op=2:=by rw [hop];rfl
   rw [hpo] at hva hvb hza hzb hzc
   rw [hP,hop,hzc (by decide)]
   rcases hva (by decide) with rfl | rfl<;>rcases hvb (by decide) with rfl | rfl<;>rfl
  ·have hpo:partsOf n.op=2:=by rw [hop];rfl
   rw [hpo] at hva hvb hza hzb hzc
   rw [hP,hop,hzc (by decide)]
   rcases hva (by decide) with rfl | rfl<;>rcases hvb (by decide) with rfl | rfl<;>rfl
  ·have hpo:partsOf n.op=2:=by rw [hop];rfl
   rw [hpo] at hva hvb hza hzb hzc
   rw [hP,hop,hzc (by decide)]
   rcases hva (by decide) with rfl | rfl<;>rcases hvb (by decide) with rfl | rfl<;>rfl
  ·have hpo:partsOf n.op=2:=by rw [hop];rfl
   rw [hpo] at hva hvb hza hzb hzc
   rw [hP,hop,hzc (by decide)]
   rcases hva (by decide) with rfl | rfl<;>rcases hvb (by decide) with rfl | rfl<;>rfl
  ·have hpo:partsOf n.op=2:=by rw [hop];rfl
   rw [hpo] at hva hvb hza hzb hzc
   rw [hP,hop,hzc (by decide)]
   rcases hva (by decide) with rfl | rfl<;>rcases hvb (by decide) with rfl | rfl<;>rfl
  ·have hpo:partsOf n.op=2:=by rw [hop];rfl
   rw [hpo] at hva hvb hza hzb hzc
   rw [hP,hop,hzc (by decide)]
   rcases hva (by decide) with rfl | rfl<;>rcases hvb (by decide) with rfl | rfl<;>rfl
  ·have hpo:partsOf n.op=2:=by rw [hop];rfl
   rw [hpo] at hva hvb hza hzb hzc
   rw [hP,hop,hzc (by decide)]
   rcases hva (by decide) with rfl | rfl<;>rcases hvb (by decide) with rfl | rfl<;>rfl
  ·have hpo:partsOf n.op=2:=by rw [hop];rfl
   rw [hpo] at hva hvb hza hzb hzc
   rw [hP,hop,hzc (by decide)]
   rcases hva (by decide) with rfl | rfl<;>rcases hvb (by decide) with rfl | rfl<;>rfl
  ·have hpo:partsOf n.op=2:=by rw [hop];rfl
   rw [hpo] at hva hvb hza hzb hzc
   rw [hP,hop,hzc (by decide)]
   rcases hva (by decide) with rfl | rfl<;>rcases hvb (by decide) with rfl | rfl<;>rfl
 generalize eq3 a b c (ruleA op) (ruleB op) (ruleD op)=z at hP2 ⊢
 cases z with
 | true =>
  refine AW.condS (by simp -implicitDefEqProofs only[go_sem,seval,↓reduceIte];rfl) (fun h68=>?_) (fun h68=>?_)
  ·cases h68
  refine AW.skip ?_
  simp -implicitDefEqProofs only[go_sem,seval,↓reduceIte]
  refine hK4 _ ?_
  refine AW.seq_k fun K hK=>AW.region (by kernel_rfl) ?_
  simp -implicitDefEqProofs only[go_sem,seval,↓reduceIte]
  refine hK _ ?_
  clear hK K
  refine AW.ret ?_
  simp -implicitDefEqProofs only[go_sem,seval,↓reduceIte]
  refine endK_some ?_
  rw [hP2];rfl
 | false =>
  refine AW.condS (by simp -implicitDefEqProofs only[go_sem,seval,↓reduceIte];rfl) (fun h68=>?_) (fun h68=>?_)
  ·refine AW.seq_k fun K hK=>AW.region (by kernel_rfl) ?_
   simp -implicitDefEqProofs only[go_sem,seval,↓reduceIte]
   refine hK _ ?_
   clear hK K
   refine AW.ret ?_
   simp -implicitDefEqProofs only[go_sem,seval,↓reduceIte]
   refine endK_some ?_
   rw [hP2];rfl
  ·cases h68
end Go.Hs
end

section
namespace Go.Hs
open Go.Proofs
set_option maxRecDepth 10000
def kindsP (names:List (List UInt8)) (l:List XN):List Int × Int × Int:=if checkP l≠0 then ([],0,checkP l) else goN names l 0 []
def encKs (c:Col) (l:List Int):V:=encSl c 1 (V.int .u8) (grownS l)
def encKr (c:Col) (p:List Int × Int × Int):V := .tuple [encKs c p.1,.int .i64 p.2.1,.int .i64 p.2.2]
theorem kd_range' {op:Int} {nm:Bool} {a b c:Int} (hb:b=0∨b=1∨b=2) (h:kd op nm a b c≠0):kd op nm a b c=1∨kd op nm a b c=2:=by
 have:=kd_range (op:=op) (nm:=nm) (a:=a) (c:=c) (b:=b) (by omega)
 omega
theorem plc_range {ks:List Int} (h:∀ y∈ks,y=1∨y=2) (i:Int):plc ks i=0∨plc ks i=1∨plc ks i=2:=by
 unfold plc
 split
 ·exact .inl rfl
 ·rw [List.getD_eq_getElem?_getD]
  cases hg:ks[i.toNat]? with
  | none=>exact .inl rfl
  | some y=>exact .inr (h y (List.mem_of_getElem? hg))
theorem goN_drop {names:List (List UInt8)} {l:List XN} {k:Nat} {n:XN} (h:l[k]? = some n) (ks:List Int):goN names (l.drop k) k ks=if kindN names n ks=0 then ([],(k:Int),90) else goN names (l.drop (k+1)) (k+1:Nat) (ks++[kindN names n ks]):=by
 obtain ⟨h1,h2⟩:=List.getElem?_eq_some_iff.1 h
 rw [List.drop_eq_getElem_cons h1,h2];rfl
theorem Im.knC {v:V} (h:v.Im):(V.agg (knC v)).Im:=by
 refine .agg _ fun x hx=>?_
 rcases List.mem_append.1 hx with h1 | h1
 ·have:∀ l:List V,(l.all fun v=>match v with | .int _ _=>true | _=>false)=true→∀ x∈l,x.Im:=by
   intro l hl x hx
   have:=List.all_eq_true.1 hl x hx
   cases x<;>first | exact .int _ _ | cases this
  exact this ruleC rfl x h1
 ·rw [List.mem_singleton.1 h1];exact h
theorem Im.xn (n:XN):(encXN n).Im:=by
 refine .agg _ fun x hx=>?_
 simp only [List.mem_cons,List.not_mem_nil,or_false] at hx
 rcases hx with rfl | rfl | rfl | rfl | rfl | rfl<;>first | exact .int _ _ | exact .str _
theorem Im.strs (c:Col) (s:Sl (List UInt8)):(encSl c 1 V.str s).Im:=Im.enc (fun x y hy=>by simp [V.cells] at hy;subst hy;exact .str _) s
theorem buildKn (x:V) (hx:x.cells=[x]) (hs:x.solid=true):buildV Tryz.prog 88 [(0,.agg ruleC),(1,x)]=some (.agg (knC x)):=by
 rw [buildV_K (tbl:=[(0,92),(92,1)]) (z:=List.replicate 92 (.int .u8 0)++[.nils]) (by kernel_rfl) (by kernel_rfl)]
 have e1:Hs.setAt (List.replicate 92 (.int .u8 0)++[.nils]) 0 ruleC=ruleC++[.nils]:=by
  rw [setAt_eq _ _ _ (by decide)];rfl
 have e2:Hs.setAt (ruleC++[.nils]) 92 [x]=knC x:=by
  show (ruleC++[V.nils]).set 92 x=ruleC++[x]
  rw [List.set_append_right _ _ (by decide)];rfl
 have l1:(List.replicate 92 (V.int .u8 0)++[V.nils]).length=93:=rfl
 have l2:(ruleC++[V.nils]).length=93:=rfl
 have c1:(V.agg ruleC).cells=ruleC:=rfl
 have s1:(V.agg ruleC).solid=true:=rfl
 have t0:tblP [(0,92),(92,1)] 0=some (0,92):=rfl
 have t1:tblP [(0,92),(92,1)] 1=some (92,1):=rfl
 simp only [fillV,t0,t1,c1,s1,hx,hs,l1,ruleC_len,e1,l2,e2,List.length_singleton,true_and,Nat.zero_add]
 rfl
theorem enc_solid {α : Type} (c:Col) (m:Nat) (f : α → V) (s:Sl α):(encSl c m f s).solid=true:=by cases s<;>rfl
theorem enc_cells {α : Type} (c:Col) (m:Nat) (f : α → V) (s:Sl α):(encSl c m f s).cells=[encSl c m f s]:=by cases s<;>rfl
theorem setAt_kn (l:List V) (v:V) (h:l.length=93):Hs.setAt l 0 (knC v)=knC v:=setAt_all (by rw [h,knC_len])
theorem cells_u8 (x:Int):(V.int .u8 x).cells.length=1:=rfl
theorem tKinds_spec (G:Nat→V) (hE:GExp G) (c c1:Col) (s:Sl XN) (names:Sl (List UInt8)) (hs:s.l.length<1000000) (hnm:∀ n∈s.l,n.name.length<100000) (hnl:names.l.length<1000000) :
  Spec Tryz.prog G 18 [.agg [encSl c 6 encXN s],encSl c1 1 V.str names] hNone (fun v _=>v=encKr .new (kindsP names.l s.l)):=by
 have hG:=hE.ok
 refine Spec.of_code' 0 40 [.tmp 4,.tmp 5,.tmp 6] Tryz.func18 rfl rfl rfl rfl fun X=>?_
 have hP:kindsP names.l s.l=if checkP s.l≠0 then ([],0,checkP s.l) else goN names.l s.l 0 []:=rfl
 generalize kindsP names.l s.l=res at hP ⊢
 refine AW.seq_k fun K hK=>AW.region (by kernel_rfl) ?_
 simp -implicitDefEqProofs only[go_sem,seval,↓reduceIte]
 intro g2
 refine hK _ ?_
 clear hK K
 refine AW.seq_k fun K1 hK1=>?_
 refine AW.seq_k fun K hK=>AW.region (by kernel_rfl) ?_
 simp -implicitDefEqProofs only[go_sem,seval,↓reduceIte]
 refine CallA.pure hG (by kernel_rfl) ?_
 simp -implicitDefEqProofs only[go_sem,seval,↓reduceIte,recol_xns]
 refine (xCheck_spec G hE _ s hs hnm).mono ?_
 rintro _ _ rfl
 simp -implicitDefEqProofs only[go_sem,seval,↓reduceIte]
 refine hK _ ?_
 clear hK K
 refine AW.seq_k fun K hK=>AW.region (by kernel_rfl) ?_
 simp -implicitDefEqProofs only[go_sem,seval,↓reduceIte]
 refine hK _ ?_
 clear hK K
 by_cases hc:checkP s.l=0
 rotate_left
 ·have q1:(checkP s.l != 0)=true:=by simpa using hc
  rw [if_pos hc] at hP
  refine AW.condS (by simp -implicitDefEqProofs only[go_sem,seval,↓reduceIte];rfl) (fun h14=>?_) (fun h14=>?_)
  ·refine AW.seq_k fun K hK=>AW.region (by kernel_rfl) ?_
   simp -implicitDefEqProofs only[go_sem,seval,↓reduceIte]
   refine hK _ ?_
   clear hK K
   refine AW.ret ?_
   simp -implicitDefEqProofs only[go_sem,seval,↓reduceIte]
   refine endK_some ?_
   rw [hP];rfl
  ·rw [q1] at h14;cases h14
 have q1:(checkP s.l != 0)=false:=by simpa using hc
 rw [if_neg (by simpa using hc)] at hP
 refine AW.condS (by simp -implicitDefEqProofs only[go_sem,seval,↓reduceIte];rfl) (fun h14=>?_) (fun h14=>?_)
 ·rw [q1] at h14;cases h14
 refine AW.skip ?_
 simp -implicitDefEqProofs only[go_sem,seval,↓reduceIte]
 refine hK1 _ ?_
 have hdep:depthP s.l≠0:=by
  intro h
  rw [checkP,if_pos h] at hc
  cases hc
 refine AW.seq_k fun K hK=>AW.region (by kernel_rfl) ?_
 simp -implicitDefEqProofs only[go_sem,seval,↓reduceIte]
 refine CallA.pure hG (by kernel_rfl) ?_
 simp -implicitDefEqProofs only[go_sem,seval,↓reduceIte,List.map_nil]
 refine (tRules_spec G hG).mono ?_
 rintro _ _ rfl
 have hrr:(V.agg ruleC).recol Col.bk = .agg ruleC:=rfl
 have hrl:(V.agg ruleC).cells=ruleC:=rfl
 simp -implicitDefEqProofs only[go_sem,seval,↓reduceIte,hrr,ruleC_len,buildKn (encSl c1 1 V.str names) (enc_cells ..) (enc_solid ..)]
 intro g7
 simp -implicitDefEqProofs only[go_sem,seval,↓reduceIte,knC_len,cells_agg]
 rw [setAt_kn _ _ ?hl]
 case hl=>rfl
 refine hK _ ?_
 clear hK K
 refine AW.seq_k fun K2 hK2=>?_
 refine AW.seq_k fun K hK=>AW.region (by kernel_rfl) ?_
 simp -implicitDefEqProofs only[go_sem,seval,↓reduceIte]
 refine hK _ ?_
 clear hK K
 refine AW.block ?_
 refine AW.for s.l.length (fun k (x:Nat × List Int)=>st [(4,grown 37 x.1 1 x.2),(7,.ptr 7 g7 0),(20,encSl c 6 encXN s),(21,.int .i64 s.l.length),(22,.int .i64 k)] [(7,.cells .new g7 0 (knC (encSl c1 1 V.str names))),(37,grownO x.1 (V.int .u8) x.2)])
  (fun k x=>res=goN names.l (s.l.drop k) k x.2∧x.2.length=k∧∀ y∈x.2,y=1∨y=2) 0 (0,[]) (Nat.zero_le _) ⟨hP,rfl,fun y hy=>by cases hy⟩
  (Weak.st (by simp -implicitDefEqProofs only[go_sem,seval,↓reduceIte];try rfl) (by simp -implicitDefEqProofs only[go_sem,seval,↓reduceIte];try rfl)) ?_
 rintro k ⟨gx,ks⟩ hk ⟨hR,hkl,hkr⟩ L3 hL3
 replace hR:res=goN names.l (s.l.drop k) k ks:=hR
 replace hkl:ks.length=k:=hkl
 replace hkr:∀ y∈ks,y=1∨y=2:=hkr
 refine AW.seq_k fun K hK=>AW.region (by kernel_rfl) ?_
 simp -implicitDefEqProofs only[go_sem,seval,↓reduceIte]
 refine hK _ ?_
 clear hK K
 refine AW.seq_k fun K4 hK4=>?_
 refine AW.condS (by simp -implicitDefEqProofs only[go_sem,seval,↓reduceIte];rfl) (fun h23=>?_) (fun h23=>?_)
 ·have hk1:k<s.l.length:=by simpa using h23
  have hg:=List.getElem?_eq_getElem hk1
  generalize s.l[k]=n at hg
  rw [goN_drop hg] at hR
  have hpl:PlOk ks.length n:=hkl ▸ plOk_get hdep hg
  refine AW.skip ?_
  simp -implicitDefEqProofs only[go_sem,seval,↓reduceIte]
  refine hK4 _ ?_
  refine AW.seq_k fun K5 hK5=>?_
  refine AW.block ?_
  refine AW.seq_k fun K hK=>AW.region (by kernel_rfl) ?_
  simp -implicitDefEqProofs only[go_sem,seval,↓reduceIte,hg,encXN_K]
  intro g9
  refine hK _ ?_
  clear hK K
  refine AW.seq_k fun K hK=>AW.region (by kernel_rfl) ?_
  simp -implicitDefEqProofs only[go_sem,seval,↓reduceIte,knC_len]
  rw [← encXN_K]
  refine CallA.bor hG [.agg (knC (encSl c1.ent 1 V.str names)),encXN n,encSl .old 1 (V.int .u8) (grownS ks)] (by kernel_rfl) ⟨?_,?_,?_,trivial⟩ ?_
  ·refine Rd.im (Im.knC (Im.strs _ _)) ?_
   show (V.agg (knC _)).recol _=_
   rw [recol_agg,knC_recol];simp -implicitDefEqProofs only[go_sem,seval,↓reduceIte]
  ·exact Rd.im (Im.xn n) (recol_xn _ _)
  ·exact Rd.grown (g:=gx) (f:=V.int .u8) (f':=V.int .u8) (by simp -implicitDefEqProofs only[go_sem,seval,↓reduceIte];try rfl) cells_u8 (fun x y hy=>by simp [V.cells] at hy;subst hy;exact .int _ _) (fun _=>rfl)
  refine (tKind_spec G hG _ _ names hnl n (grownS ks) (by rw [grownS_l];exact hpl) (by rw [grownS_l];omega) (by rw [grownS_l];exact hkr)).mono ?_
  rintro _ _ rfl
  refine ⟨.int _ _,?_⟩
  rw [grownS_l]
  have hkd:=fun h=>kd_range' (op:=n.op) (nm:=names.l.contains n.name) (a:=plc ks n.a) (c:=plc ks n.c) (plc_range hkr n.b) h
  have hkn:kindN names.l n ks=kd n.op (names.l.contains n.name) (plc ks n.a) (plc ks n.b) (plc ks n.c):=rfl
  rw [← hkn] at hkd
  generalize kindN names.l n ks=v at hR hkd ⊢
  simp -implicitDefEqProofs only[go_sem,seval,↓reduceIte]
  refine hK _ ?_
  clear hK K
  refine AW.seq_k fun K6 hK6=>?_
  refine AW.seq_k fun K hK=>AW.region (by kernel_rfl) ?_
  simp -implicitDefEqProofs only[go_sem,seval,↓reduceIte]
  refine hK _ ?_
  clear hK K
  by_cases hv:v=0
  ·have q2:(v==0)=true:=by simpa using hv
   rw [if_pos hv] at hR
   refine AW.condS (by simp -implicitDefEqProofs only[go_sem,seval,↓reduceIte];rfl) (fun h32=>?_) (fun h32=>?_)
   ·refine AW.seq_k fun K hK=>AW.region (by kernel_rfl) ?_
    simp -implicitDefEqProofs only[go_sem,seval,↓reduceIte]
    refine hK _ ?_
    clear hK K
    refine AW.ret ?_
    simp -implicitDefEqProofs only[go_sem,seval,↓reduceIte]
    refine endK_some ?_
    rw [hR];rfl
   ·rw [q2] at h32;cases h32
  have q2:(v==0)=false:=by simpa using hv
  rw [if_neg hv] at hR
  refine AW.condS (by simp -implicitDefEqProofs only[go_sem,seval,↓reduceIte];rfl) (fun h32=>?_) (fun h32=>?_)
  ·rw [q2] at h32;cases h32
  refine AW.skip ?_
  simp -implicitDefEqProofs only[go_sem,seval,↓reduceIte]
  refine hK6 _ ?_
  refine AW.region (by kernel_rfl) ?_
  simp -implicitDefEqProofs only[go_sem,seval,↓reduceIte]
  intro g36
  refine app_grown (f:=V.int .u8) (l:=ks) (l2:=[v]) (g:=gx) cells_u8 rfl rfl rfl (by simp -implicitDefEqProofs only[go_sem,seval,↓reduceIte];try rfl) (roomOk_of (by omega) (by simp;omega)) fun g2=>?_
  simp -implicitDefEqProofs only[go_sem,seval,↓reduceIte]
  refine hK5 _ ?_
  refine AW.region (by kernel_rfl) ?_
  simp -implicitDefEqProofs only[go_sem,seval,↓reduceIte]
  refine hL3 _ ⟨hk1,(g2,ks++[v]),⟨hR,by rw [List.length_append,hkl];rfl,?_⟩,Weak.st (by simp -implicitDefEqProofs only[go_sem,seval,↓reduceIte];exact congrArg _ (w64 (by omega) (by omega))) (by simp -implicitDefEqProofs only[go_sem,seval,↓reduceIte];try rfl)⟩
  intro y hy
  rcases List.mem_append.1 hy with h | h
  ·exact hkr y h
  ·rw [List.mem_singleton.1 h];exact hkd hv
 ·have hk1:k=s.l.length:=by simp at h23;omega
  refine AW.exit ?_
  simp -implicitDefEqProofs only[go_sem,seval,↓reduceIte]
  refine hK2 _ ?_
  rw [hk1,List.drop_length] at hR
  refine AW.weak (Weak.stF (fun o=>o==37) (l:=[(4,encKs .new ks)]) (m:=[]) ?_ trivial) ?_
  ·simp -implicitDefEqProofs only[go_sem,seval,↓reduceIte]
   exact Fz.grown rfl rfl cells_u8
  refine AW.seq_k fun K hK=>AW.region (by kernel_rfl) ?_
  simp -implicitDefEqProofs only[go_sem,seval,↓reduceIte]
  refine hK _ ?_
  clear hK K
  refine AW.ret ?_
  simp -implicitDefEqProofs only[go_sem,seval,↓reduceIte]
  refine endK_some ?_
  rw [hR];rfl
end Go.Hs
end

section
namespace Go.Hs
open Go.Proofs
set_option maxRecDepth 10000
theorem goN_len {names:List (List UInt8)}:∀ (l:List XN) (i:Int) (acc:List Int),(goN names l i acc).2.2=0→(goN names l i acc).1.length=acc.length+l.length
 | [],i,acc,_=>rfl
 | n::r,i,acc,h=>by
  rw [goN] at h ⊢
  split
  ·rename_i h1
   rw [if_pos h1] at h
   cases h
  ·rename_i h1
   rw [if_neg h1] at h
   have:=goN_len r (i+1) (acc++[kindN names n acc]) h
   rw [this];simp;omega
theorem kindsP_len {names:List (List UInt8)} {l:List XN} (h:(kindsP names l).2.2=0):(kindsP names l).1.length=l.length∧0<l.length:=by
 unfold kindsP at h ⊢
 by_cases hc:checkP l=0
 ·rw [if_neg (by simpa using hc)] at h ⊢
  refine ⟨by have:=goN_len l 0 [] h;simpa using this,?_⟩
  cases l with
  | nil=>exact absurd hc (by decide)
  | cons=>simp
 ·rw [if_pos hc] at h
  exact absurd h hc
def ofTP (names:List (List UInt8)) (l:List XN):Int × Int × Int:=if (kindsP names l).2.2≠0 then (0,(kindsP names l).2.1,(kindsP names l).2.2) else ((kindsP names l).1.getD ((kindsP names l).1.length-1) 0,0,0)
def encO3 (p:Int × Int × Int):V := .tuple [.int .u8 p.1,.int .i64 p.2.1,.int .i64 p.2.2]
theorem recol_ks (g:Col→Col) (c:Col) (s:Sl Int):(encSl c 1 (V.int .u8) s).recol g=encSl (g c) 1 (V.int .u8) s:=recol_enc g c 1 (fun _=>rfl) s
theorem tOf_spec (G:Nat→V) (hE:GExp G) (c c1:Col) (s:Sl XN) (names:Sl (List UInt8)) (hs:s.l.length<1000000) (hnm:∀ n∈s.l,n.name.length<100000) (hnl:names.l.length<1000000) :
  Spec Tryz.prog G 20 [.agg [encSl c 6 encXN s],encSl c1 1 V.str names] hNone (fun v _=>v=encO3 (ofTP names.l s.l)):=by
 have hG:=hE.ok
 refine Spec.of_code' 0 25 [.tmp 4,.tmp 5,.tmp 6] Tryz.func20 rfl rfl rfl rfl fun X=>?_
 have hP:ofTP names.l s.l=if (kindsP names.l s.l).2.2≠0 then (0,(kindsP names.l s.l).2.1,(kindsP names.l s.l).2.2) else ((kindsP names.l s.l).1.getD ((kindsP names.l s.l).1.length-1) 0,0,0):=rfl
 have hKi:=fun c c1=>tKinds_spec G hE c c1 s names hs hnm hnl
 have hL:=kindsP_len (names:=names.l) (l:=s.l)
 generalize ofTP names.l s.l=res at hP ⊢
 generalize kindsP names.l s.l=p at hP hKi hL
 obtain ⟨ks,i,e⟩:=p
 simp only at hP hL
 refine AW.seq_k fun K hK=>AW.region (by kernel_rfl) ?_
 simp -implicitDefEqProofs only[go_sem,seval,↓reduceIte]
 intro g2
 refine hK _ ?_
 clear hK K
 refine AW.seq_k fun K hK=>AW.region (by kernel_rfl) ?_
 simp -implicitDefEqProofs only[go_sem,seval,↓reduceIte]
 refine CallA.pure hG (by kernel_rfl) ?_
 simp -implicitDefEqProofs only[go_sem,seval,↓reduceIte,recol_xns]
 refine (hKi _ _).mono ?_
 rintro _ _ rfl
 simp -implicitDefEqProofs only[go_sem,seval,↓reduceIte,encKr,encKs,recol_ks]
 refine hK _ ?_
 clear hK K
 refine AW.seq_k fun K1 hK1=>?_
 refine AW.seq_k fun K hK=>AW.region (by kernel_rfl) ?_
 simp -implicitDefEqProofs only[go_sem,seval,↓reduceIte]
 refine hK _ ?_
 clear hK K
 by_cases he:e=0
 rotate_left
 ·have q1:(e != 0)=true:=by simpa using he
  rw [if_pos he] at hP
  refine AW.condS (by simp -implicitDefEqProofs only[go_sem,seval,↓reduceIte];rfl) (fun h16=>?_) (fun h16=>?_)
  ·refine AW.seq_k fun K hK=>AW.region (by kernel_rfl) ?_
   simp -implicitDefEqProofs only[go_sem,seval,↓reduceIte]
   refine hK _ ?_
   clear hK K
   refine AW.ret ?_
   simp -implicitDefEqProofs only[go_sem,seval,↓reduceIte]
   refine endK_some ?_
   rw [hP];rfl
  ·rw [q1] at h16;cases h16
 have q1:(e != 0)=false:=by simpa using he
 rw [if_neg (by simpa using he)] at hP
 obtain ⟨hl1,hl2⟩:=hL he
 refine AW.condS (by simp -implicitDefEqProofs only[go_sem,seval,↓reduceIte];rfl) (fun h16=>?_) (fun h16=>?_)
 ·rw [q1] at h16;cases h16
 refine AW.skip ?_
 simp -implicitDefEqProofs only[go_sem,seval,↓reduceIte]
 refine hK1 _ ?_
 obtain ⟨m,hm⟩:∃ m:Nat,ks.length=m+1:=⟨ks.length-1,by omega⟩
 have hw:IntKind.i64.wrap ((ks.length:Int)-1)=(m:Int):=by rw [w64 (by omega) (by omega)];omega
 obtain ⟨v,hv⟩:∃ v,ks[m]? = some v:=⟨_,List.getElem?_eq_getElem (by omega)⟩
 have hgd:ks.getD (ks.length-1) 0=v:=by rw [show ks.length-1=m by omega,List.getD_eq_getElem?_getD,hv];rfl
 rw [hgd] at hP
 refine AW.seq_k fun K hK=>AW.region (by kernel_rfl) ?_
 simp -implicitDefEqProofs only[go_sem,seval,↓reduceIte,hw,hv]
 refine hK _ ?_
 clear hK K
 refine AW.ret ?_
 simp -implicitDefEqProofs only[go_sem,seval,↓reduceIte]
 refine endK_some ?_
 rw [hP];rfl
def tr1:XN:=⟨3,0,[],-1,-1,-1⟩
def guardP (s:List UInt8) (names:List (List UInt8)):List XN × Int × Int :=
 if (toksP s).2.2=0∧(toksP s).1.length=0 then ([tr1],0,0)
 else if (exprP s).2.2≠0 then ([],(exprP s).2.1,(exprP s).2.2)
 else if (ofTP names (exprP s).1).2.2≠0∨(ofTP names (exprP s).1).1≠2 then ([],0,90) else ((exprP s).1,0,0)
theorem exprP_bnd {s:List UInt8} (hs:s.length<100000):(exprP s).1.length<100000∧∀ n∈(exprP s).1,n.name.length<100000:=by
 have hT:=toks_ok hs
 have hnm:=climb_names hT
 have hok:=((climbP_bal (toksP s).1 ((toksP s).1.length+1) 1 ⟨0,[],0⟩).ok ⟨Nat.zero_le _,Nat.le_refl _⟩)
 have hfr:(fromP (toksP s).1).1.length<100000∧∀ n∈(fromP (toksP s).1).1,n.name.length<100000:=by
  unfold fromP
  split
  ·exact ⟨Nat.zero_lt_succ _,fun n hn=>by cases hn⟩
  ·split
   ·exact ⟨Nat.zero_lt_succ _,fun n hn=>by cases hn⟩
   ·have:=hok.1;have:=hok.2;have:=hT.len
    exact ⟨by show (climbP _ _ _ _).2.nodes.length<_;omega,hnm⟩
 unfold exprP
 split
 ·exact ⟨Nat.zero_lt_succ _,fun n hn=>by cases hn⟩
 split
 ·exact ⟨Nat.zero_lt_succ _,fun n hn=>by cases hn⟩
 split
 ·exact hfr
 ·exact ⟨Nat.zero_lt_succ _,fun n hn=>by cases hn⟩
theorem tGuard_spec (G:Nat→V) (hE:GExp G) (c1:Col) (s:List UInt8) (names:Sl (List UInt8)) (hs:s.length<100000) (hnl:names.l.length<1000000) :
  Spec Tryz.prog G 23 [.str s,encSl c1 1 V.str names] hNone (fun v _=>v=encFr .new (guardP s names.l)):=by
 have hG:=hE.ok
 refine Spec.of_code' 0 55 [.cell 4 24,.tmp 5,.tmp 6] Tryz.func23 rfl rfl rfl rfl fun X=>?_
 have hP:guardP s names.l=if (toksP s).2.2=0∧(toksP s).1.length=0 then ([tr1],0,0)
  else if (exprP s).2.2≠0 then ([],(exprP s).2.1,(exprP s).2.2)
  else if (ofTP names.l (exprP s).1).2.2≠0∨(ofTP names.l (exprP s).1).1≠2 then ([],0,90) else ((exprP s).1,0,0):=rfl
 generalize guardP s names.l=res at hP ⊢
 have hl:=lTokens_spec G hE s hs
 have hx:=xParse_spec G hE s hs
 have hb:=exprP_bnd hs
 have ho:=fun c c1=>tOf_spec G hE c c1 (grownS (exprP s).1) names (by rw [grownS_l];omega) (by rw [grownS_l];exact hb.2) hnl
 simp only [grownS_l] at ho
 generalize toksP s=t at hP hl
 generalize exprP s=p at hP hx ho
 obtain ⟨l,at0,e0⟩:=t
 obtain ⟨ns,i,e⟩:=p
 simp only at hP ho
 generalize ofTP names.l ns=o at hP ho
 obtain ⟨k,j,e2⟩:=o
 simp only at hP
 refine AW.seq_k fun K hK=>AW.region (by kernel_rfl) ?_
 simp -implicitDefEqProofs only[go_sem,seval,↓reduceIte]
 intro g4
 refine hK _ ?_
 clear hK K
 refine AW.seqJ (fun (_:Unit)=>st [(0,.str s),(1,encSl c1 1 V.str names),(4,.ptr 4 g4 0)] [(4,.cells .new g4 0 [.nils])]) (fun _=>¬ (e0=0∧l.length=0)) (fun K1 hK1=>?_) ?_
 ·refine AW.seq_k fun K hK=>AW.region (by kernel_rfl) ?_
  simp -implicitDefEqProofs only[go_sem,seval,↓reduceIte]
  refine CallA.pure hG (by kernel_rfl) ?_
  simp -implicitDefEqProofs only[go_sem,seval,↓reduceIte]
  refine hl.mono ?_
  rintro _ _ rfl
  simp -implicitDefEqProofs only[go_sem,seval,↓reduceIte,encTok,encTks,recol_tks]
  refine hK _ ?_
  clear hK K
  by_cases h01:e0=0
  rotate_left
  ·have q1:(e0==0)=false:=by simpa using h01
   refine AW.seq_k fun K hK=>AW.region (by kernel_rfl) ?_
   simp -implicitDefEqProofs only[go_sem,seval,↓reduceIte,q1]
   refine hK _ ?_
   clear hK K
   refine AW.condS (by simp -implicitDefEqProofs only[go_sem,seval,↓reduceIte];rfl) (fun h25=>?_) (fun h25=>?_)
   ·cases h25
   refine AW.skip ?_
   simp -implicitDefEqProofs only[go_sem,seval,↓reduceIte]
   exact hK1 _ () (fun h=>h01 h.1) (Weak.st (by simp -implicitDefEqProofs only[go_sem,seval,↓reduceIte]) (by simp -implicitDefEqProofs only[go_sem,seval,↓reduceIte]))
  have q1:(e0==0)=true:=by simpa using h01
  by_cases h02:l.length=0
  ·rw [if_pos ⟨h01,h02⟩] at hP
   have q2:(((l.length:Nat):Int)==0)=true:=by simp [h02]
   refine AW.seq_k fun K hK=>AW.region (by kernel_rfl) ?_
   simp -implicitDefEqProofs only[go_sem,seval,↓reduceIte,q1,q2]
   refine hK _ ?_
   clear hK K
   refine AW.condS (by simp -implicitDefEqProofs only[go_sem,seval,↓reduceIte];rfl) (fun h25=>?_) (fun h25=>?_)
   ·refine AW.seq_k fun K hK=>AW.region (by kernel_rfl) ?_
    simp -implicitDefEqProofs only[go_sem,seval,↓reduceIte]
    intro g27
    refine hK _ ?_
    clear hK K
    refine AW.weak (Weak.stF (fun o=>o==27) (l:=[(4,.ptr 4 g4 0),(5,.int .i64 0),(6,.int .i64 0)]) (m:=[(4,.cells .new g4 0 [encXs .new [tr1]])]) ?_ ?_) ?_
    ·simp -implicitDefEqProofs only[go_sem,seval,↓reduceIte]
     first | exact ⟨Fz.same _,Fz.same _,Fz.same _⟩ | exact ⟨Fz.same _,Fz.same _⟩
    ·simp only [allFzO_cons,allFzO_nil,and_true]
     exact FzO.of (c := .new) (fz:=0) (cs:=[.msl 27 g27 0 1 6]) rfl (by simp -implicitDefEqProofs only[go_sem,seval,↓reduceIte];try rfl) ⟨Fz.sl (f:=encXN) (l:=[tr1]) (m:=6) (g:=g27) (fz:=0) (c := .new) rfl (by simp -implicitDefEqProofs only[go_sem,seval,↓reduceIte];try rfl) encXN_cells,trivial⟩
    refine AW.ret ?_
    simp -implicitDefEqProofs only[go_sem,seval,↓reduceIte]
    refine endK_some ?_
    rw [hP];rfl
   ·cases h25
  have q2:(((l.length:Nat):Int)==0)=false:=by rw [beq_eq_false_iff_ne];omega
  refine AW.seq_k fun K hK=>AW.region (by kernel_rfl) ?_
  simp -implicitDefEqProofs only[go_sem,seval,↓reduceIte,q1,q2]
  refine hK _ ?_
  clear hK K
  refine AW.condS (by simp -implicitDefEqProofs only[go_sem,seval,↓reduceIte];rfl) (fun h25=>?_) (fun h25=>?_)
  ·cases h25
  refine AW.skip ?_
  simp -implicitDefEqProofs only[go_sem,seval,↓reduceIte]
  exact hK1 _ () (fun h=>h02 h.2) (Weak.st (by simp -implicitDefEqProofs only[go_sem,seval,↓reduceIte]) (by simp -implicitDefEqProofs only[go_sem,seval,↓reduceIte]))
 rintro _ h0
 rw [if_neg h0] at hP
 refine AW.seq_k fun K hK=>AW.region (by kernel_rfl) ?_
 simp -implicitDefEqProofs only[go_sem,seval,↓reduceIte]
 refine CallA.pure hG (by kernel_rfl) ?_
 simp -implicitDefEqProofs only[go_sem,seval,↓reduceIte]
 refine hx.mono ?_
 rintro _ _ rfl
 simp -implicitDefEqProofs only[go_sem,seval,↓reduceIte,encFr,encXs,recol_xns]
 refine hK _ ?_
 clear hK K
 refine AW.seq_k fun K2 hK2=>?_
 refine AW.seq_k fun K hK=>AW.region (by kernel_rfl) ?_
 simp -implicitDefEqProofs only[go_sem,seval,↓reduceIte]
 refine hK _ ?_
 clear hK K
 by_cases he:e=0
 rotate_left
 ·have q1:(e != 0)=true:=by simpa using he
  rw [if_pos he] at hP
  refine AW.condS (by simp -implicitDefEqProofs only[go_sem,seval,↓reduceIte];rfl) (fun h36=>?_) (fun h36=>?_)
  ·refine AW.seq_k fun K hK=>AW.region (by kernel_rfl) ?_
   simp -implicitDefEqProofs only[go_sem,seval,↓reduceIte]
   refine hK _ ?_
   clear hK K
   refine AW.ret ?_
   simp -implicitDefEqProofs only[go_sem,seval,↓reduceIte]
   refine endK_some ?_
   rw [hP];rfl
  ·rw [q1] at h36;cases h36
 have q1:(e != 0)=false:=by simpa using he
 rw [if_neg (by simpa using he)] at hP
 refine AW.condS (by simp -implicitDefEqProofs only[go_sem,seval,↓reduceIte];rfl) (fun h36=>?_) (fun h36=>?_)
 ·rw [q1] at h36;cases h36
 refine AW.skip ?_
 simp -implicitDefEqProofs only[go_sem,seval,↓reduceIte]
 refine hK2 _ ?_
 refine AW.seq_k fun K3 hK3=>?_
 refine AW.seq_k fun K hK=>AW.region (by kernel_rfl) ?_
 simp -implicitDefEqProofs only[go_sem,seval,↓reduceIte]
 refine CallA.pure hG (by kernel_rfl) ?_
 simp -implicitDefEqProofs only[go_sem,seval,↓reduceIte,recol_xns]
 refine (ho _ _).mono ?_
 rintro _ _ rfl
 simp -implicitDefEqProofs only[go_sem,seval,↓reduceIte,encO3]
 refine hK _ ?_
 clear hK K
 by_cases h2:e2=0
 rotate_left
 ·have q2:(e2 != 0)=true:=by simpa using h2
  rw [if_pos (.inl h2)] at hP
  refine AW.seq_k fun K hK=>AW.region (by kernel_rfl) ?_
  simp -implicitDefEqProofs only[go_sem,seval,↓reduceIte,q2]
  refine hK _ ?_
  clear hK K
  refine AW.condS (by simp -implicitDefEqProofs only[go_sem,seval,↓reduceIte];rfl) (fun h52=>?_) (fun h52=>?_)
  ·refine AW.seq_k fun K hK=>AW.region (by kernel_rfl) ?_
   simp -implicitDefEqProofs only[go_sem,seval,↓reduceIte]
   refine hK _ ?_
   clear hK K
   refine AW.ret ?_
   simp -implicitDefEqProofs only[go_sem,seval,↓reduceIte]
   refine endK_some ?_
   rw [hP];rfl
  ·cases h52
 have q2:(e2 != 0)=false:=by simpa using h2
 by_cases hk:k=2
 rotate_left
 ·have q3:(k != 2)=true:=by simpa using hk
  rw [if_pos (.inr hk)] at hP
  refine AW.seq_k fun K hK=>AW.region (by kernel_rfl) ?_
  simp -implicitDefEqProofs only[go_sem,seval,↓reduceIte,q2,q3]
  refine hK _ ?_
  clear hK K
  refine AW.condS (by simp -implicitDefEqProofs only[go_sem,seval,↓reduceIte];rfl) (fun h52=>?_) (fun h52=>?_)
  ·refine AW.seq_k fun K hK=>AW.region (by kernel_rfl) ?_
   simp -implicitDefEqProofs only[go_sem,seval,↓reduceIte]
   refine hK _ ?_
   clear hK K
   refine AW.ret ?_
   simp -implicitDefEqProofs only[go_sem,seval,↓reduceIte]
   refine endK_some ?_
   rw [hP];rfl
  ·cases h52
 have q3:(k != 2)=false:=by simpa using hk
 rw [if_neg (by rintro (h | h);exact h h2;exact h hk)] at hP
 refine AW.seq_k fun K hK=>AW.region (by kernel_rfl) ?_
 simp -implicitDefEqProofs only[go_sem,seval,↓reduceIte,q2,q3]
 refine hK _ ?_
 clear hK K
 refine AW.condS (by simp -implicitDefEqProofs only[go_sem,seval,↓reduceIte];rfl) (fun h52=>?_) (fun h52=>?_)
 ·cases h52
 refine AW.skip ?_
 simp -implicitDefEqProofs only[go_sem,seval,↓reduceIte]
 refine hK3 _ ?_
 refine AW.seq_k fun K hK=>AW.region (by kernel_rfl) ?_
 simp -implicitDefEqProofs only[go_sem,seval,↓reduceIte]
 refine hK _ ?_
 clear hK K
 refine AW.ret ?_
 simp -implicitDefEqProofs only[go_sem,seval,↓reduceIte]
 refine endK_some ?_
 rw [hP];rfl
end Go.Hs
end

section
namespace Go.Hs
open Go.Proofs
set_option maxRecDepth 10000
def fewT (l:List XN) (names:List (List UInt8)):Bool:=if l.length > 60∨names.length > 20 then false else names.all (fun n=>decide (n.length≤100)) && l.all (fun n=>decide (n.name.length≤100))
theorem fewT_true {l:List XN} {names:List (List UInt8)} (h:fewT l names=true):l.length≤60∧names.length≤20∧(∀ n∈names,n.length≤100)∧∀ n∈l,n.name.length≤100:=by
 unfold fewT at h
 split at h
 ·cases h
 ·rename_i h0
  simp only [not_or] at h0
  simp only [Bool.and_eq_true,List.all_eq_true,decide_eq_true_eq] at h
  exact ⟨by omega,by omega,h.1,h.2⟩
theorem all_take_succ {α : Type} (p : α → Bool) {l:List α} {k:Nat} {x : α} (h:l[k]? = some x) (ht:(l.take k).all p=true) (hx:p x=true):(l.take (k+1)).all p=true:=by
 rw [List.take_add_one,h,List.all_append,ht];simp [hx]
theorem all_false {α : Type} (p : α → Bool) {l:List α} {k:Nat} {x : α} (h:l[k]? = some x) (hx:p x=false):l.all p=false:=by
 rw [← Bool.not_eq_true,List.all_eq_true]
 intro ha
 rw [ha x (List.mem_of_getElem? h)] at hx
 cases hx
theorem wFew_spec (G:Nat→V) (hG:GOk G) (c c1:Col) (s:Sl XN) (names:Sl (List UInt8)) :
  Spec Tryz.prog G 14 [.agg [encSl c 6 encXN s],encSl c1 1 V.str names] hNone (fun v _=>v = .bool (fewT s.l names.l)):=by
 refine Spec.of_code' 0 43 [.tmp 4] Tryz.func14 rfl rfl rfl rfl fun X=>?_
 have hP:fewT s.l names.l=if s.l.length > 60∨names.l.length > 20 then false else names.l.all (fun n=>decide (n.length≤100)) && s.l.all (fun n=>decide (n.name.length≤100)):=rfl
 generalize fewT s.l names.l=res at hP ⊢
 refine AW.seq_k fun K hK=>AW.region (by kernel_rfl) ?_
 simp -implicitDefEqProofs only[go_sem,seval,↓reduceIte]
 intro g2
 refine hK _ ?_
 clear hK K
 refine AW.seq_k fun K1 hK1=>?_
 by_cases h1:s.l.length > 60
 ·have q1:decide (((s.l.length:Nat):Int) > 60)=true:=by rw [decide_eq_true_iff];omega
  rw [if_pos (.inl h1)] at hP
  refine AW.seq_k fun K hK=>AW.region (by kernel_rfl) ?_
  simp -implicitDefEqProofs only[go_sem,seval,↓reduceIte,q1]
  refine hK _ ?_
  clear hK K
  refine AW.condS (by simp -implicitDefEqProofs only[go_sem,seval,↓reduceIte];rfl) (fun h15=>?_) (fun h15=>?_)
  ·refine AW.seq_k fun K hK=>AW.region (by kernel_rfl) ?_
   simp -implicitDefEqProofs only[go_sem,seval,↓reduceIte]
   refine hK _ ?_
   clear hK K
   refine AW.ret ?_
   simp -implicitDefEqProofs only[go_sem,seval,↓reduceIte]
   refine endK_some ?_
   rw [hP]
  ·cases h15
 have q1:decide (((s.l.length:Nat):Int) > 60)=false:=by rw [decide_eq_false_iff_not];omega
 by_cases h2:names.l.length > 20
 ·have q2:decide (((names.l.length:Nat):Int) > 20)=true:=by rw [decide_eq_true_iff];omega
  rw [if_pos (.inr h2)] at hP
  refine AW.seq_k fun K hK=>AW.region (by kernel_rfl) ?_
  simp -implicitDefEqProofs only[go_sem,seval,↓reduceIte,q1,q2]
  refine hK _ ?_
  clear hK K
  refine AW.condS (by simp -implicitDefEqProofs only[go_sem,seval,↓reduceIte];rfl) (fun h15=>?_) (fun h15=>?_)
  ·refine AW.seq_k fun K hK=>AW.region (by kernel_rfl) ?_
   simp -implicitDefEqProofs only[go_sem,seval,↓reduceIte]
   refine hK _ ?_
   clear hK K
   refine AW.ret ?_
   simp -implicitDefEqProofs only[go_sem,seval,↓reduceIte]
   refine endK_some ?_
   rw [hP]
  ·cases h15
 have q2:decide (((names.l.length:Nat):Int) > 20)=false:=by rw [decide_eq_false_iff_not];omega
 rw [if_neg (by rintro (h | h);exact h1 h;exact h2 h)] at hP
 refine AW.seq_k fun K hK=>AW.region (by kernel_rfl) ?_
 simp -implicitDefEqProofs only[go_sem,seval,↓reduceIte,q1,q2]
 refine hK _ ?_
 clear hK K
 refine AW.condS (by simp -implicitDefEqProofs only[go_sem,seval,↓reduceIte];rfl) (fun h15=>?_) (fun h15=>?_)
 ·cases h15
 refine AW.skip ?_
 simp -implicitDefEqProofs only[go_sem,seval,↓reduceIte]
 refine hK1 _ ?_
 refine AW.seq_k fun K2 hK2=>?_
 refine AW.seq_k fun K hK=>AW.region (by kernel_rfl) ?_
 simp -implicitDefEqProofs only[go_sem,seval,↓reduceIte]
 refine hK _ ?_
 clear hK K
 refine AW.block ?_
 refine AW.for names.l.length (fun k (_:Unit)=>st [(1,encSl c1 1 V.str names),(2,.ptr 2 g2 0),(5,.int .i64 k)] [(2,.cells .new g2 0 [encSl c 6 encXN s])]) (fun k _=>(names.l.take k).all (fun n=>decide (n.length≤100))=true) 0 () (Nat.zero_le _) rfl
  (Weak.st (by simp -implicitDefEqProofs only[go_sem,seval,↓reduceIte];try rfl) (by simp -implicitDefEqProofs only[go_sem,seval,↓reduceIte])) ?_
 intro k _ hk hR L3 hL3
 refine AW.seq_k fun K4 hK4=>?_
 refine AW.seq_k fun K hK=>AW.region (by kernel_rfl) ?_
 simp -implicitDefEqProofs only[go_sem,seval,↓reduceIte]
 refine hK _ ?_
 clear hK K
 refine AW.condS (by simp -implicitDefEqProofs only[go_sem,seval,↓reduceIte];rfl) (fun h19=>?_) (fun h19=>?_)
 ·have hk1:k<names.l.length:=by simpa using h19
  have hg:=List.getElem?_eq_getElem hk1
  generalize names.l[k]=x at hg
  refine AW.skip ?_
  simp -implicitDefEqProofs only[go_sem,seval,↓reduceIte]
  refine hK4 _ ?_
  refine AW.seq_k fun K5 hK5=>?_
  refine AW.block ?_
  refine AW.seq_k fun K hK=>AW.region (by kernel_rfl) ?_
  simp -implicitDefEqProofs only[go_sem,seval,↓reduceIte,hg]
  refine hK _ ?_
  clear hK K
  by_cases hx:x.length > 100
  ·have q3:decide (((x.length:Nat):Int) > 100)=true:=by rw [decide_eq_true_iff];omega
   rw [all_false _ hg (by simpa using hx),Bool.false_and] at hP
   refine AW.condS (by simp -implicitDefEqProofs only[go_sem,seval,↓reduceIte];rfl) (fun h27=>?_) (fun h27=>?_)
   ·refine AW.seq_k fun K hK=>AW.region (by kernel_rfl) ?_
    simp -implicitDefEqProofs only[go_sem,seval,↓reduceIte]
    refine hK _ ?_
    clear hK K
    refine AW.ret ?_
    simp -implicitDefEqProofs only[go_sem,seval,↓reduceIte]
    refine endK_some ?_
    rw [hP]
   ·rw [q3] at h27;cases h27
  have q3:decide (((x.length:Nat):Int) > 100)=false:=by rw [decide_eq_false_iff_not];omega
  refine AW.condS (by simp -implicitDefEqProofs only[go_sem,seval,↓reduceIte];rfl) (fun h27=>?_) (fun h27=>?_)
  ·rw [q3] at h27;cases h27
  refine AW.skip ?_
  simp -implicitDefEqProofs only[go_sem,seval,↓reduceIte]
  refine hK5 _ ?_
  refine AW.region (by kernel_rfl) ?_
  simp -implicitDefEqProofs only[go_sem,seval,↓reduceIte]
  exact hL3 _ ⟨hk1,(),all_take_succ _ hg hR (by simpa using hx),Weak.st (by simp -implicitDefEqProofs only[go_sem,seval,↓reduceIte];exact congrArg _ (w64 (by omega) (by omega))) (by simp -implicitDefEqProofs only[go_sem,seval,↓reduceIte])⟩
 have hk1:k=names.l.length:=by simp at h19;omega
 refine AW.exit ?_
 simp -implicitDefEqProofs only[go_sem,seval,↓reduceIte]
 refine hK2 _ ?_
 rw [hk1,List.take_length] at hR
 rw [hR,Bool.true_and] at hP
 clear hL3 hR hK4 h19 hk
 refine AW.seq_k fun K6 hK6=>?_
 refine AW.seq_k fun K hK=>AW.region (by kernel_rfl) ?_
 simp -implicitDefEqProofs only[go_sem,seval,↓reduceIte]
 refine hK _ ?_
 clear hK K
 refine AW.block ?_
 refine AW.for s.l.length (fun k (_:Unit)=>st [(2,.ptr 2 g2 0),(6,.int .i64 k)] [(2,.cells .new g2 0 [encSl c 6 encXN s])]) (fun k _=>(s.l.take k).all (fun n=>decide (n.name.length≤100))=true) 0 () (Nat.zero_le _) rfl
  (Weak.st (by simp -implicitDefEqProofs only[go_sem,seval,↓reduceIte];try rfl) (by simp -implicitDefEqProofs only[go_sem,seval,↓reduceIte])) ?_
 clear hk1
 intro k _ hk hR L3 hL3
 refine AW.seq_k fun K4 hK4=>?_
 refine AW.seq_k fun K hK=>AW.region (by kernel_rfl) ?_
 simp -implicitDefEqProofs only[go_sem,seval,↓reduceIte]
 refine hK _ ?_
 clear hK K
 refine AW.condS (by simp -implicitDefEqProofs only[go_sem,seval,↓reduceIte];rfl) (fun h32=>?_) (fun h32=>?_)
 ·have hk1:k<s.l.length:=by simpa using h32
  have hg:=List.getElem?_eq_getElem hk1
  generalize s.l[k]=x at hg
  refine AW.skip ?_
  simp -implicitDefEqProofs only[go_sem,seval,↓reduceIte]
  refine hK4 _ ?_
  refine AW.seq_k fun K5 hK5=>?_
  refine AW.block ?_
  refine AW.seq_k fun K hK=>AW.region (by kernel_rfl) ?_
  simp -implicitDefEqProofs only[go_sem,seval,↓reduceIte,hg,encXN_K]
  refine hK _ ?_
  clear hK K
  by_cases hx:x.name.length > 100
  ·have q3:decide (((x.name.length:Nat):Int) > 100)=true:=by rw [decide_eq_true_iff];omega
   rw [all_false _ hg (by simpa using hx)] at hP
   refine AW.condS (by simp -implicitDefEqProofs only[go_sem,seval,↓reduceIte];rfl) (fun h42=>?_) (fun h42=>?_)
   ·refine AW.seq_k fun K hK=>AW.region (by kernel_rfl) ?_
    simp -implicitDefEqProofs only[go_sem,seval,↓reduceIte]
    refine hK _ ?_
    clear hK K
    refine AW.ret ?_
    simp -implicitDefEqProofs only[go_sem,seval,↓reduceIte]
    refine endK_some ?_
    rw [hP]
   ·rw [q3] at h42;cases h42
  have q3:decide (((x.name.length:Nat):Int) > 100)=false:=by rw [decide_eq_false_iff_not];omega
  refine AW.condS (by simp -implicitDefEqProofs only[go_sem,seval,↓reduceIte];rfl) (fun h42=>?_) (fun h42=>?_)
  ·rw [q3] at h42;cases h42
  refine AW.skip ?_
  simp -implicitDefEqProofs only[go_sem,seval,↓reduceIte]
  refine hK5 _ ?_
  refine AW.region (by kernel_rfl) ?_
  simp -implicitDefEqProofs only[go_sem,seval,↓reduceIte]
  exact hL3 _ ⟨hk1,(),all_take_succ _ hg hR (by simpa using hx),Weak.st (by simp -implicitDefEqProofs only[go_sem,seval,↓reduceIte];exact congrArg _ (w64 (by omega) (by omega))) (by simp -implicitDefEqProofs only[go_sem,seval,↓reduceIte])⟩
 have hk1:k=s.l.length:=by simp at h32;omega
 refine AW.exit ?_
 simp -implicitDefEqProofs only[go_sem,seval,↓reduceIte]
 refine hK6 _ ?_
 rw [hk1,List.take_length] at hR
 rw [hR] at hP
 refine AW.seq_k fun K hK=>AW.region (by kernel_rfl) ?_
 simp -implicitDefEqProofs only[go_sem,seval,↓reduceIte]
 refine hK _ ?_
 clear hK K
 refine AW.ret ?_
 simp -implicitDefEqProofs only[go_sem,seval,↓reduceIte]
 refine endK_some ?_
 rw [hP]
def ofS (s:List UInt8) (names:List (List UInt8)):Int × Int × Int:=if (exprP s).2.2≠0 then (0,-1,(exprP s).2.2) else ofTP names (exprP s).1
theorem wOf_spec (G:Nat→V) (hE:GExp G) (c1:Col) (s:List UInt8) (names:Sl (List UInt8)) (hs:s.length<100000) (hnl:names.l.length<1000000) :
  Spec Tryz.prog G 48 [.str s,encSl c1 1 V.str names] hNone (fun v _=>v=encO3 (ofS s names.l)):=by
 have hG:=hE.ok
 refine Spec.of_code' 0 25 [.tmp 4,.tmp 5,.tmp 6] Tryz.func48 rfl rfl rfl rfl fun X=>?_
 have hP:ofS s names.l=if (exprP s).2.2≠0 then (0,-1,(exprP s).2.2) else ofTP names.l (exprP s).1:=rfl
 generalize ofS s names.l=res at hP ⊢
 have hx:=xParse_spec G hE s hs
 have hb:=exprP_bnd hs
 have ho:=fun c c1=>tOf_spec G hE c c1 (grownS (exprP s).1) names (by rw [grownS_l];omega) (by rw [grownS_l];exact hb.2) hnl
 simp only [grownS_l] at ho
 generalize exprP s=p at hP hx ho
 obtain ⟨ns,i,e⟩:=p
 simp only at hP ho
 refine AW.seq_k fun K hK=>AW.region (by kernel_rfl) ?_
 simp -implicitDefEqProofs only[go_sem,seval,↓reduceIte]
 refine hK _ ?_
 clear hK K
 refine AW.seq_k fun K hK=>AW.region (by kernel_rfl) ?_
 simp -implicitDefEqProofs only[go_sem,seval,↓reduceIte]
 refine CallA.pure hG (by kernel_rfl) ?_
 simp -implicitDefEqProofs only[go_sem,seval,↓reduceIte]
 refine hx.mono ?_
 rintro _ _ rfl
 simp -implicitDefEqProofs only[go_sem,seval,↓reduceIte,encFr,encXs,recol_xns]
 intro g7
 refine hK _ ?_
 clear hK K
 refine AW.seq_k fun K2 hK2=>?_
 refine AW.seq_k fun K hK=>AW.region (by kernel_rfl) ?_
 simp -implicitDefEqProofs only[go_sem,seval,↓reduceIte]
 refine hK _ ?_
 clear hK K
 by_cases he:e=0
 rotate_left
 ·have q1:(e != 0)=true:=by simpa using he
  rw [if_pos he] at hP
  refine AW.condS (by simp -implicitDefEqProofs only[go_sem,seval,↓reduceIte];rfl) (fun h17=>?_) (fun h17=>?_)
  ·refine AW.seq_k fun K hK=>AW.region (by kernel_rfl) ?_
   simp -implicitDefEqProofs only[go_sem,seval,↓reduceIte]
   refine hK _ ?_
   clear hK K
   refine AW.ret ?_
   simp -implicitDefEqProofs only[go_sem,seval,↓reduceIte]
   refine endK_some ?_
   rw [hP];rfl
  ·rw [q1] at h17;cases h17
 have q1:(e != 0)=false:=by simpa using he
 rw [if_neg (by simpa using he)] at hP
 refine AW.condS (by simp -implicitDefEqProofs only[go_sem,seval,↓reduceIte];rfl) (fun h17=>?_) (fun h17=>?_)
 ·rw [q1] at h17;cases h17
 refine AW.skip ?_
 simp -implicitDefEqProofs only[go_sem,seval,↓reduceIte]
 refine hK2 _ ?_
 refine AW.seq_k fun K hK=>AW.region (by kernel_rfl) ?_
 simp -implicitDefEqProofs only[go_sem,seval,↓reduceIte]
 refine CallA.pure hG (by kernel_rfl) ?_
 simp -implicitDefEqProofs only[go_sem,seval,↓reduceIte,recol_xns]
 refine (ho _ _).mono ?_
 rintro _ _ rfl
 simp -implicitDefEqProofs only[go_sem,seval,↓reduceIte,encO3]
 refine hK _ ?_
 clear hK K
 refine AW.ret ?_
 simp -implicitDefEqProofs only[go_sem,seval,↓reduceIte]
 refine endK_some ?_
 rw [hP];rfl
theorem wWorks_spec (G:Nat→V) (hE:GExp G):Spec Tryz.prog G 15 [] hNone (fun v _=>v = .bool true):=by
 have hG:=hE.ok
 refine Spec.of_code' 0 139 [.tmp 0] Tryz.func15 rfl rfl rfl rfl fun X=>?_
 have flO:∀ p,(encO3 p).Fl:=fun p => .tuple _ fun x hx=>by
  simp only [List.mem_cons,List.not_mem_nil,or_false] at hx
  rcases hx with rfl | rfl | rfl<;>exact .int _ _
 refine AW.seq_k fun K hK=>AW.region (by kernel_rfl) ?_
 simp -implicitDefEqProofs only[go_sem,seval,↓reduceIte]
 refine hK _ ?_
 clear hK K
 refine AW.seq_k fun K hK=>AW.region (by kernel_rfl) ?_
 simp -implicitDefEqProofs only[go_sem,seval,↓reduceIte]
 intro g26
 refine CallA.bor hG [.str [120,32,43,32,49],encSl .old 1 V.str (.mk false [[120]])] (by kernel_rfl) ⟨Rd.im (.str _) rfl,Rd.msl (off:=0) (n:=1) (l:=[[120]]) (f:=V.str) (f':=V.str) (g:=g26) (fz:=0) (c := .new) (by simp -implicitDefEqProofs only[go_sem,seval,↓reduceIte];rfl) (fun _=>rfl) (fun x y hy=>by simp [V.cells] at hy;subst hy;exact .str _) (fun _=>rfl) (by decide),trivial⟩ ?_
 refine (wOf_spec G hE .old [120,32,43,32,49] (.mk false [[120]]) (by decide) (by decide)).mono ?_
 rintro _ _ rfl
 rw [show ofS [120,32,43,32,49] (Sl.mk false [[120]]).l=(1,0,0) from by decide +kernel]
 refine ⟨?_,?_⟩
 ·exact flO _
 simp -implicitDefEqProofs only[go_sem,seval,↓reduceIte,encO3]
 refine hK _ ?_
 clear hK K
 refine AW.seq_k fun K hK=>AW.region (by kernel_rfl) ?_
 simp -implicitDefEqProofs only[go_sem,seval,↓reduceIte]
 intro g32
 refine CallA.bor hG [.str [120,32,60,32,49],encSl .old 1 V.str (.mk false [[120]])] (by kernel_rfl) ⟨Rd.im (.str _) rfl,Rd.msl (off:=0) (n:=1) (l:=[[120]]) (f:=V.str) (f':=V.str) (g:=g32) (fz:=0) (c := .new) (by simp -implicitDefEqProofs only[go_sem,seval,↓reduceIte];rfl) (fun _=>rfl) (fun x y hy=>by simp [V.cells] at hy;subst hy;exact .str _) (fun _=>rfl) (by decide),trivial⟩ ?_
 refine (wOf_spec G hE .old [120,32,60,32,49] (.mk false [[120]]) (by decide) (by decide)).mono ?_
 rintro _ _ rfl
 rw [show ofS [120,32,60,32,49] (Sl.mk false [[120]]).l=(2,0,0) from by decide +kernel]
 refine ⟨?_,?_⟩
 ·exact flO _
 simp -implicitDefEqProofs only[go_sem,seval,↓reduceIte,encO3]
 refine hK _ ?_
 clear hK K
 refine AW.seq_k fun K hK=>AW.region (by kernel_rfl) ?_
 simp -implicitDefEqProofs only[go_sem,seval,↓reduceIte]
 intro g38
 refine CallA.bor hG [.str [105,102,32,116,114,117,101,32,116,104,101,110,32,120,32,101,108,115,101,32,49,32,101,110,100,105,102],encSl .old 1 V.str (.mk false [[120]])] (by kernel_rfl) ⟨Rd.im (.str _) rfl,Rd.msl (off:=0) (n:=1) (l:=[[120]]) (f:=V.str) (f':=V.str) (g:=g38) (fz:=0) (c := .new) (by simp -implicitDefEqProofs only[go_sem,seval,↓reduceIte];rfl) (fun _=>rfl) (fun x y hy=>by simp [V.cells] at hy;subst hy;exact .str _) (fun _=>rfl) (by decide),trivial⟩ ?_
 refine (wOf_spec G hE .old [105,102,32,116,114,117,101,32,116,104,101,110,32,120,32,101,108,115,101,32,49,32,101,110,100,105,102] (.mk false [[120]]) (by decide) (by decide)).mono ?_
 rintro _ _ rfl
 rw [show ofS [105,102,32,116,114,117,101,32,116,104,101,110,32,120,32,101,108,115,101,32,49,32,101,110,100,105,102] (Sl.mk false [[120]]).l=(1,0,0) from by decide +kernel]
 refine ⟨?_,?_⟩
 ·exact flO _
 simp -implicitDefEqProofs only[go_sem,seval,↓reduceIte,encO3]
 refine hK _ ?_
 clear hK K
 refine AW.seq_k fun K hK=>AW.region (by kernel_rfl) ?_
 simp -implicitDefEqProofs only[go_sem,seval,↓reduceIte]
 intro g44
 refine CallA.bor hG [.str [120,32,43,32,116,114,117,101],encSl .old 1 V.str (.mk false [[120]])] (by kernel_rfl) ⟨Rd.im (.str _) rfl,Rd.msl (off:=0) (n:=1) (l:=[[120]]) (f:=V.str) (f':=V.str) (g:=g44) (fz:=0) (c := .new) (by simp -implicitDefEqProofs only[go_sem,seval,↓reduceIte];rfl) (fun _=>rfl) (fun x y hy=>by simp [V.cells] at hy;subst hy;exact .str _) (fun _=>rfl) (by decide),trivial⟩ ?_
 refine (wOf_spec G hE .old [120,32,43,32,116,114,117,101] (.mk false [[120]]) (by decide) (by decide)).mono ?_
 rintro _ _ rfl
 rw [show ofS [120,32,43,32,116,114,117,101] (Sl.mk false [[120]]).l=(0,2,90) from by decide +kernel]
 refine ⟨?_,?_⟩
 ·exact flO _
 simp -implicitDefEqProofs only[go_sem,seval,↓reduceIte,encO3]
 refine hK _ ?_
 clear hK K
 refine AW.seq_k fun K hK=>AW.region (by kernel_rfl) ?_
 simp -implicitDefEqProofs only[go_sem,seval,↓reduceIte]
 intro g50
 refine CallA.bor hG [.str [121],encSl .old 1 V.str (.mk false [[120]])] (by kernel_rfl) ⟨Rd.im (.str _) rfl,Rd.msl (off:=0) (n:=1) (l:=[[120]]) (f:=V.str) (f':=V.str) (g:=g50) (fz:=0) (c := .new) (by simp -implicitDefEqProofs only[go_sem,seval,↓reduceIte];rfl) (fun _=>rfl) (fun x y hy=>by simp [V.cells] at hy;subst hy;exact .str _) (fun _=>rfl) (by decide),trivial⟩ ?_
 refine (wOf_spec G hE .old [121] (.mk false [[120]]) (by decide) (by decide)).mono ?_
 rintro _ _ rfl
 rw [show ofS [121] (Sl.mk false [[120]]).l=(0,0,90) from by decide +kernel]
 refine ⟨?_,?_⟩
 ·exact flO _
 simp -implicitDefEqProofs only[go_sem,seval,↓reduceIte,encO3]
 refine hK _ ?_
 clear hK K
 refine AW.seq_k fun K hK=>AW.region (by kernel_rfl) ?_
 simp -implicitDefEqProofs only[go_sem,seval,↓reduceIte]
 refine CallA.pure hG (by kernel_rfl) ?_
 simp -implicitDefEqProofs only[go_sem,seval,↓reduceIte]
 refine (tGuard_spec G hE .old [] (.nil) (by decide) (by decide)).mono ?_
 rintro _ _ rfl
 rw [show guardP [] (Sl.nil:Sl (List UInt8)).l=([tr1],0,0) from by decide +kernel]
 simp -implicitDefEqProofs only[go_sem,seval,↓reduceIte,encFr,encXs,recol_xns]
 intro g16
 refine hK _ ?_
 clear hK K
 refine AW.seq_k fun K hK=>AW.region (by kernel_rfl) ?_
 simp -implicitDefEqProofs only[go_sem,seval,↓reduceIte]
 intro g61
 refine CallA.bor hG [.str [120,32,43,32,49],encSl .old 1 V.str (.mk false [[120]])] (by kernel_rfl) ⟨Rd.im (.str _) rfl,Rd.msl (off:=0) (n:=1) (l:=[[120]]) (f:=V.str) (f':=V.str) (g:=g61) (fz:=0) (c := .new) (by simp -implicitDefEqProofs only[go_sem,seval,↓reduceIte];rfl) (fun _=>rfl) (fun x y hy=>by simp [V.cells] at hy;subst hy;exact .str _) (fun _=>rfl) (by decide),trivial⟩ ?_
 refine (tGuard_spec G hE .old [120,32,43,32,49] (.mk false [[120]]) (by decide) (by decide)).mono ?_
 rintro _ _ rfl
 rw [show guardP [120,32,43,32,49] (Sl.mk false [[120]]).l=([],0,90) from by decide +kernel]
 refine ⟨?_,?_⟩
 ·refine .tuple _ fun x hx=>?_
  simp only [List.mem_cons,List.not_mem_nil,or_false] at hx
  rcases hx with rfl | rfl | rfl
  ·exact .agg _ fun x hx=>by rw [List.mem_singleton.1 hx];exact .nils
  ·exact .int _ _
  ·exact .int _ _
 simp -implicitDefEqProofs only[go_sem,seval,↓reduceIte,encFr,encXs,recol_xns]
 intro g19
 refine hK _ ?_
 clear hK K
 refine AW.seq_k fun K hK=>AW.region (by kernel_rfl) ?_
 simp -implicitDefEqProofs only[go_sem,seval,↓reduceIte]
 refine CallA.pure hG (by kernel_rfl) ?_
 simp -implicitDefEqProofs only[go_sem,seval,↓reduceIte]
 refine (tGuard_spec G hE .old [120,32,61,32] (.nil) (by decide) (by decide)).mono ?_
 rintro _ _ rfl
 rw [show guardP [120,32,61,32] (Sl.nil:Sl (List UInt8)).l=([],4,80) from by decide +kernel]
 simp -implicitDefEqProofs only[go_sem,seval,↓reduceIte,encFr,encXs,recol_xns]
 intro g22
 refine hK _ ?_
 clear hK K
 have g1:(grownS [tr1]).l[0]? = some tr1:=rfl
 have l1:(((grownS [tr1]).l.length:Nat):Int)=1:=rfl
 have l2:0<(grownS [tr1]).l.length:=by decide
 have e1:encXN tr1 = .agg [.int .u8 3,.int .i64 0,.str [],.int .i64 (-1),.int .i64 (-1),.int .i64 (-1)]:=rfl
 have ta:∀ l:List Oper,l.toArray=(⟨l⟩:Array Oper):=fun l=>rfl
 simp -implicitDefEqProofs only [ta,List.append_eq,List.cons_append,List.nil_append]
 refine AW.seq_k fun K hK=>AW.region (by kernel_rfl) ?_
 simp -implicitDefEqProofs only[go_sem,seval,↓reduceIte,g1,e1,l1,l2]
 refine hK _ ?_
 clear hK K
 refine AW.ret ?_
 simp -implicitDefEqProofs only[go_sem,seval,↓reduceIte]
 refine endK_some ?_
 rfl
end Go.Hs
end

section
namespace Go.Hs
open Go.Proofs
set_option maxRecDepth 10000
theorem kd_1 {op:Int} {nm:Bool} {a b c:Int} (h:op=1):kd op nm a b c=1:=by unfold kd;rw [if_pos (.inl h)]
theorem kd_2 {op:Int} {nm:Bool} {a b c v:Int} (h1:op≠1) (h2:op≠2) (h:(if op=3∨op=4 then 2
 else if op=5∧a=1∨7≤op∧op≤11∧a=1∧b=1 then 1
 else if 12≤op∧op≤15∧a=1∧b=1∨(op=16∨op=17)∧a=b∧a≠0 then 2
 else if op=6∧a=2∨18≤op∧op≤21∧a=2∧b=2 then 2
 else if op=22∧a=2∧b=c then b else 0:Int)=v):kd op nm a b c=v:=by
 unfold kd
 rw [if_neg (by rintro (h | h);exact h1 h;exact h2 h.1)]
 exact h
def kn0 (s:Sl XN) (names:Sl (List UInt8)) (G:Nat→V) (i d:Int):Prop:=∀ c c1,Spec Tryz.prog G 49 [encSl c 6 encXN s,.int .i64 i,encSl c1 1 V.str names] hNone (fun v _=>v = .int .i64 d)
set_option maxHeartbeats 4000000 in
theorem rKind_step (G:Nat→V) (hG:GOk G) (s:Sl XN) (names:Sl (List UInt8)) (hnl:names.l.length<1000000) (m:Nat) (n:XN) (hg:s.l[m]? = some n) (hop:1≤n.op∧n.op≤22) (a b c:Int)
  (ha:n.a<0∧a=0∨0≤n.a∧kn0 s names G n.a a) (hb:n.b<0∧b=0∨0≤n.b∧kn0 s names G n.b b) (hc:n.c<0∧c=0∨0≤n.c∧kn0 s names G n.c c) :
  kn0 s names G m (kd n.op (names.l.contains n.name) a b c):=by
 intro c0 c1
 refine Spec.of_code' 0 153 [.tmp 6] Tryz.func49 rfl rfl rfl rfl fun X=>?_
 have hm:m<s.l.length:=(List.getElem?_eq_some_iff.1 hg).1
 have hP:kd n.op (names.l.contains n.name) a b c=kd n.op (names.l.contains n.name) a b c:=rfl
 generalize hres:kd n.op (names.l.contains n.name) a b c=res
 rw [hres] at hP
 replace hP:=hP.symm.trans hP
 clear hP
 have hP:res=kd n.op (names.l.contains n.name) a b c:=hres.symm
 clear hres
 refine AW.seq_k fun K hK=>AW.region (by kernel_rfl) ?_
 simp -implicitDefEqProofs only[go_sem,seval,↓reduceIte]
 refine hK _ ?_
 clear hK K
 refine AW.seq_k fun K hK=>AW.region (by kernel_rfl) ?_
 simp -implicitDefEqProofs only[go_sem,seval,↓reduceIte,hg,hm,encXN_K]
 intro g7
 refine hK _ ?_
 clear hK K
 refine AW.seq_k fun K hK=>AW.region (by kernel_rfl) ?_
 simp -implicitDefEqProofs only[go_sem,seval,↓reduceIte]
 refine hK _ ?_
 clear hK K
 refine AW.seqJ (fun (_:Unit)=>st [(0,encSl c0 6 encXN s),(2,encSl c1 1 V.str names),(7,.ptr 7 g7 0),(8,.int .i64 a),(9,.int .i64 0),(10,.int .i64 0)] [(7,.cells .new g7 0 [.int .u8 n.op,.int .i64 n.num,.str n.name,.int .i64 n.a,.int .i64 n.b,.int .i64 n.c])]) (fun _=>True) (fun K1 hK1=>?_) ?_
 ·refine AW.seq_k fun K hK=>AW.region (by kernel_rfl) ?_
  simp -implicitDefEqProofs only[go_sem,seval,↓reduceIte]
  refine hK _ ?_
  clear hK K
  rcases ha with ⟨h1,h2⟩ | ⟨h1,h2⟩
  ·have q1:decide (n.a≥0)=false:=by rw [decide_eq_false_iff_not];omega
   refine AW.condS (by simp -implicitDefEqProofs only[go_sem,seval,↓reduceIte];rfl) (fun h18=>?_) (fun h18=>?_)
   ·rw [q1] at h18;cases h18
   refine AW.skip ?_
   simp -implicitDefEqProofs only[go_sem,seval,↓reduceIte]
   exact hK1 _ () trivial (Weak.st (by simp -implicitDefEqProofs only[go_sem,seval,↓reduceIte];rw [h2]) (by simp -implicitDefEqProofs only[go_sem,seval,↓reduceIte];try rfl))
  ·have q1:decide (n.a≥0)=true:=by rw [decide_eq_true_iff];omega
   refine AW.condS (by simp -implicitDefEqProofs only[go_sem,seval,↓reduceIte];rfl) (fun h18=>?_) (fun h18=>?_)
   rotate_left
   ·rw [q1] at h18;cases h18
   refine AW.region (by kernel_rfl) ?_
   simp -implicitDefEqProofs only[go_sem,seval,↓reduceIte]
   refine CallA.pure hG (by kernel_rfl) ?_
   simp -implicitDefEqProofs only[go_sem,seval,↓reduceIte,recol_xns]
   refine (h2 _ _).mono ?_
   rintro _ _ rfl
   simp -implicitDefEqProofs only[go_sem,seval,↓reduceIte]
   exact hK1 _ () trivial (Weak.st (by simp -implicitDefEqProofs only[go_sem,seval,↓reduceIte];try rfl) (by simp -implicitDefEqProofs only[go_sem,seval,↓reduceIte];try rfl))
 intro _ _
 refine AW.seqJ (fun (_:Unit)=>st [(0,encSl c0 6 encXN s),(2,encSl c1 1 V.str names),(7,.ptr 7 g7 0),(8,.int .i64 a),(9,.int .i64 b),(10,.int .i64 0)] [(7,.cells .new g7 0 [.int .u8 n.op,.int .i64 n.num,.str n.name,.int .i64 n.a,.int .i64 n.b,.int .i64 n.c])]) (fun _=>True) (fun K1 hK1=>?_) ?_
 ·refine AW.seq_k fun K hK=>AW.region (by kernel_rfl) ?_
  simp -implicitDefEqProofs only[go_sem,seval,↓reduceIte]
  refine hK _ ?_
  clear hK K
  rcases hb with ⟨h1,h2⟩ | ⟨h1,h2⟩
  ·have q1:decide (n.b≥0)=false:=by rw [decide_eq_false_iff_not];omega
   refine AW.condS (by simp -implicitDefEqProofs only[go_sem,seval,↓reduceIte];rfl) (fun h26=>?_) (fun h26=>?_)
   ·rw [q1] at h26;cases h26
   refine AW.skip ?_
   simp -implicitDefEqProofs only[go_sem,seval,↓reduceIte]
   exact hK1 _ () trivial (Weak.st (by simp -implicitDefEqProofs only[go_sem,seval,↓reduceIte];rw [h2]) (by simp -implicitDefEqProofs only[go_sem,seval,↓reduceIte];try rfl))
  ·have q1:decide (n.b≥0)=true:=by rw [decide_eq_true_iff];omega
   refine AW.condS (by simp -implicitDefEqProofs only[go_sem,seval,↓reduceIte];rfl) (fun h26=>?_) (fun h26=>?_)
   rotate_left
   ·rw [q1] at h26;cases h26
   refine AW.region (by kernel_rfl) ?_
   simp -implicitDefEqProofs only[go_sem,seval,↓reduceIte]
   refine CallA.pure hG (by kernel_rfl) ?_
   simp -implicitDefEqProofs only[go_sem,seval,↓reduceIte,recol_xns]
   refine (h2 _ _).mono ?_
   rintro _ _ rfl
   simp -implicitDefEqProofs only[go_sem,seval,↓reduceIte]
   exact hK1 _ () trivial (Weak.st (by simp -implicitDefEqProofs only[go_sem,seval,↓reduceIte];try rfl) (by simp -implicitDefEqProofs only[go_sem,seval,↓reduceIte];try rfl))
 intro _ _
 refine AW.seqJ (fun (_:Unit)=>st [(0,encSl c0 6 encXN s),(2,encSl c1 1 V.str names),(7,.ptr 7 g7 0),(8,.int .i64 a),(9,.int .i64 b),(10,.int .i64 c)] [(7,.cells .new g7 0 [.int .u8 n.op,.int .i64 n.num,.str n.name,.int .i64 n.a,.int .i64 n.b,.int .i64 n.c])]) (fun _=>True) (fun K1 hK1=>?_) ?_
 ·refine AW.seq_k fun K hK=>AW.region (by kernel_rfl) ?_
  simp -implicitDefEqProofs only[go_sem,seval,↓reduceIte]
  refine hK _ ?_
  clear hK K
  rcases hc with ⟨h1,h2⟩ | ⟨h1,h2⟩
  ·have q1:decide (n.c≥0)=false:=by rw [decide_eq_false_iff_not];omega
   refine AW.condS (by simp -implicitDefEqProofs only[go_sem,seval,↓reduceIte];rfl) (fun h34=>?_) (fun h34=>?_)
   ·rw [q1] at h34;cases h34
   refine AW.skip ?_
   simp -implicitDefEqProofs only[go_sem,seval,↓reduceIte]
   exact hK1 _ () trivial (Weak.st (by simp -implicitDefEqProofs only[go_sem,seval,↓reduceIte];rw [h2]) (by simp -implicitDefEqProofs only[go_sem,seval,↓reduceIte];try rfl))
  ·have q1:decide (n.c≥0)=true:=by rw [decide_eq_true_iff];omega
   refine AW.condS (by simp -implicitDefEqProofs only[go_sem,seval,↓reduceIte];rfl) (fun h34=>?_) (fun h34=>?_)
   rotate_left
   ·rw [q1] at h34;cases h34
   refine AW.region (by kernel_rfl) ?_
   simp -implicitDefEqProofs only[go_sem,seval,↓reduceIte]
   refine CallA.pure hG (by kernel_rfl) ?_
   simp -implicitDefEqProofs only[go_sem,seval,↓reduceIte,recol_xns]
   refine (h2 _ _).mono ?_
   rintro _ _ rfl
   simp -implicitDefEqProofs only[go_sem,seval,↓reduceIte]
   exact hK1 _ () trivial (Weak.st (by simp -implicitDefEqProofs only[go_sem,seval,↓reduceIte];try rfl) (by simp -implicitDefEqProofs only[go_sem,seval,↓reduceIte];try rfl))
 intro _ _
 clear ha hb hc hg hm
 obtain ⟨op,num,name,na,nb,nc⟩:=n
 simp only at hop hP
 refine AW.seq_k fun K hK=>AW.region (by kernel_rfl) ?_
 simp -implicitDefEqProofs only[go_sem,seval,↓reduceIte]
 refine hK _ ?_
 clear hK K
 refine AW.seq_k fun KB hKB=>?_
 refine AW.block ?_
 by_cases hc2:op=2
 ·subst hc2
  refine AW.seq_k fun K hK=>AW.region (by kernel_rfl) ?_
  simp -implicitDefEqProofs only[go_sem,seval,↓reduceIte]
  refine CallA.pure hG (by kernel_rfl) ?_
  simp -implicitDefEqProofs only[go_sem,seval,↓reduceIte]
  refine (r9Among_spec G hG _ name names hnl).mono ?_
  rintro _ _ rfl
  simp -implicitDefEqProofs only[go_sem,seval,↓reduceIte]
  refine hK _ ?_
  clear hK K
  cases hcn:names.l.contains name with
  | true =>
   refine AW.condS (by simp -implicitDefEqProofs only[go_sem,seval,↓reduceIte];rfl) (fun h42=>?_) (fun h42=>?_)
   rotate_left
   ·cases h42
   refine AW.seq_k fun K hK=>AW.region (by kernel_rfl) ?_
   simp -implicitDefEqProofs only[go_sem,seval,↓reduceIte]
   refine hK _ ?_
   clear hK K
   refine AW.ret ?_
   simp -implicitDefEqProofs only[go_sem,seval,↓reduceIte]
   refine endK_some ?_
   rw [hP,hcn];rfl
  | false =>
   have hkd:res=0:=by rw [hP,hcn];rfl
   refine AW.condS (by simp -implicitDefEqProofs only[go_sem,seval,↓reduceIte];rfl) (fun h42=>?_) (fun h42=>?_)
   ·cases h42
   refine AW.seq_k fun K hK=>AW.region (by kernel_rfl) ?_
   simp -implicitDefEqProofs only[go_sem,seval,↓reduceIte]
   refine hK _ ?_
   clear hK K
   refine AW.condS (by simp -implicitDefEqProofs only[go_sem,seval,↓reduceIte];rfl) (fun h55=>?_) (fun h55=>?_)
   ·cases h55
   refine AW.seq_k fun K hK=>AW.region (by kernel_rfl) ?_
   simp -implicitDefEqProofs only[go_sem,seval,↓reduceIte]
   refine hK _ ?_
   clear hK K
   refine AW.condS (by simp -implicitDefEqProofs only[go_sem,seval,↓reduceIte];rfl) (fun h62=>?_) (fun h62=>?_)
   ·cases h62
   refine AW.seq_k fun K hK=>AW.region (by kernel_rfl) ?_
   simp -implicitDefEqProofs only[go_sem,seval,↓reduceIte]
   refine hK _ ?_
   clear hK K
   refine AW.condS (by simp -implicitDefEqProofs only[go_sem,seval,↓reduceIte];rfl) (fun h85=>?_) (fun h85=>?_)
   ·cases h85
   refine AW.seq_k fun K hK=>AW.region (by kernel_rfl) ?_
   simp -implicitDefEqProofs only[go_sem,seval,↓reduceIte]
   refine hK _ ?_
   clear hK K
   refine AW.condS (by simp -implicitDefEqProofs only[go_sem,seval,↓reduceIte];rfl) (fun h117=>?_) (fun h117=>?_)
   ·cases h117
   refine AW.seq_k fun K hK=>AW.region (by kernel_rfl) ?_
   simp -implicitDefEqProofs only[go_sem,seval,↓reduceIte]
   refine hK _ ?_
   clear hK K
   refine AW.condS (by simp -implicitDefEqProofs only[go_sem,seval,↓reduceIte];rfl) (fun h140=>?_) (fun h140=>?_)
   ·cases h140
   refine AW.skip ?_
   simp -implicitDefEqProofs only[go_sem,seval,↓reduceIte]
   refine hKB _ ?_
   refine AW.seq_k fun K hK=>AW.region (by kernel_rfl) ?_
   simp -implicitDefEqProofs only[go_sem,seval,↓reduceIte]
   refine hK _ ?_
   clear hK K
   refine AW.ret ?_
   simp -implicitDefEqProofs only[go_sem,seval,↓reduceIte]
   refine endK_some ?_
   rw [hkd]
 by_cases hc1:op=1
 ·have f0:(op==1)=true:=by rw [beq_iff_eq];omega
  have f1:(op==2)=false:=by rw [beq_eq_false_iff_ne];omega
  have f2:(op==3)=false:=by rw [beq_eq_false_iff_ne];omega
  have f3:(op==4)=false:=by rw [beq_eq_false_iff_ne];omega
  have f4:(op==5)=false:=by rw [beq_eq_false_iff_ne];omega
  have f5:(op==6)=false:=by rw [beq_eq_false_iff_ne];omega
  have f6:(op==16)=false:=by rw [beq_eq_false_iff_ne];omega
  have f7:(op==17)=false:=by rw [beq_eq_false_iff_ne];omega
  have f8:(op==22)=false:=by rw [beq_eq_false_iff_ne];omega
  have f9:decide (op≥7)=false:=by rw [decide_eq_false_iff_not];omega
  have f10:decide (op≥12)=false:=by rw [decide_eq_false_iff_not];omega
  have f11:decide (op≥18)=false:=by rw [decide_eq_false_iff_not];omega
  have f12:decide (op≤11)=true:=by rw [decide_eq_true_iff];omega
  have f13:decide (op≤15)=true:=by rw [decide_eq_true_iff];omega
  have f14:decide (op≤21)=true:=by rw [decide_eq_true_iff];omega
  have hkd:res=1:=by
   rw [hP];exact kd_1 (by omega)
  refine AW.seq_k fun K hK=>AW.region (by kernel_rfl) ?_
  simp -implicitDefEqProofs only[go_sem,seval,↓reduceIte,f0,f1,f2,f3,f4,f5,f6,f7,f8,f9,f10,f11,f12,f13,f14]
  refine hK _ ?_
  clear hK K
  refine AW.condS (by simp -implicitDefEqProofs only[go_sem,seval,↓reduceIte];rfl) (fun h42=>?_) (fun h42=>?_)
  rotate_left
  ·cases h42
  refine AW.seq_k fun K hK=>AW.region (by kernel_rfl) ?_
  simp -implicitDefEqProofs only[go_sem,seval,↓reduceIte]
  refine hK _ ?_
  clear hK K
  refine AW.ret ?_
  simp -implicitDefEqProofs only[go_sem,seval,↓reduceIte]
  refine endK_some ?_
  rw [hkd]
 by_cases hc3:op=3
 ·have f0:(op==1)=false:=by rw [beq_eq_false_iff_ne];omega
  have f1:(op==2)=false:=by rw [beq_eq_false_iff_ne];omega
  have f2:(op==3)=true:=by rw [beq_iff_eq];omega
  have f3:(op==4)=false:=by rw [beq_eq_false_iff_ne];omega
  have f4:(op==5)=false:=by rw [beq_eq_false_iff_ne];omega
  have f5:(op==6)=false:=by rw [beq_eq_false_iff_ne];omega
  have f6:(op==16)=false:=by rw [beq_eq_false_iff_ne];omega
  have f7:(op==17)=false:=by rw [beq_eq_false_iff_ne];omega
  have f8:(op==22)=false:=by rw [beq_eq_false_iff_ne];omega
  have f9:decide (op≥7)=false:=by rw [decide_eq_false_iff_not];omega
  have f10:decide (op≥12)=false:=by rw [decide_eq_false_iff_not];omega
  have f11:decide (op≥18)=false:=by rw [decide_eq_false_iff_not];omega
  have f12:decide (op≤11)=true:=by rw [decide_eq_true_iff];omega
  have f13:decide (op≤15)=true:=by rw [decide_eq_true_iff];omega
  have f14:decide (op≤21)=true:=by rw [decide_eq_true_iff];omega
  have hkd:res=2:=by
   rw [hP];exact kd_2 (by omega) (by omega) (by repeat' split<;>omega)
  refine AW.seq_k fun K hK=>AW.region (by kernel_rfl) ?_
  simp -implicitDefEqProofs only[go_sem,seval,↓reduceIte,f0,f1,f2,f3,f4,f5,f6,f7,f8,f9,f10,f11,f12,f13,f14]
  refine hK _ ?_
  clear hK K
  refine AW.condS (by simp -implicitDefEqProofs only[go_sem,seval,↓reduceIte];rfl) (fun h42=>?_) (fun h42=>?_)
  ·cases h42
  refine AW.seq_k fun K hK=>AW.region (by kernel_rfl) ?_
  simp -implicitDefEqProofs only[go_sem,seval,↓reduceIte,f0,f1,f2,f3,f4,f5,f6,f7,f8,f9,f10,f11,f12,f13,f14]
  refine hK _ ?_
  clear hK K
  refine AW.condS (by simp -implicitDefEqProofs only[go_sem,seval,↓reduceIte];rfl) (fun h55=>?_) (fun h55=>?_)
  rotate_left
  ·cases h55
  refine AW.seq_k fun K hK=>AW.region (by kernel_rfl) ?_
  simp -implicitDefEqProofs only[go_sem,seval,↓reduceIte]
  refine hK _ ?_
  clear hK K
  refine AW.ret ?_
  simp -implicitDefEqProofs only[go_sem,seval,↓reduceIte]
  refine endK_some ?_
  rw [hkd]
 by_cases hc4:op=4
 ·have f0:(op==1)=false:=by rw [beq_eq_false_iff_ne];omega
  have f1:(op==2)=false:=by rw [beq_eq_false_iff_ne];omega
  have f2:(op==3)=false:=by rw [beq_eq_false_iff_ne];omega
  have f3:(op==4)=true:=by rw [beq_iff_eq];omega
  have f4:(op==5)=false:=by rw [beq_eq_false_iff_ne];omega
  have f5:(op==6)=false:=by rw [beq_eq_false_iff_ne];omega
  have f6:(op==16)=false:=by rw [beq_eq_false_iff_ne];omega
  have f7:(op==17)=false:=by rw [beq_eq_false_iff_ne];omega
  have f8:(op==22)=false:=by rw [beq_eq_false_iff_ne];omega
  have f9:decide (op≥7)=false:=by rw [decide_eq_false_iff_not];omega
  have f10:decide (op≥12)=false:=by rw [decide_eq_false_iff_not];omega
  have f11:decide (op≥18)=false:=by rw [decide_eq_false_iff_not];omega
  have f12:decide (op≤11)=true:=by rw [decide_eq_true_iff];omega
  have f13:decide (op≤15)=true:=by rw [decide_eq_true_iff];omega
  have f14:decide (op≤21)=true:=by rw [decide_eq_true_iff];omega
  have hkd:res=2:=by
   rw [hP];exact kd_2 (by omega) (by omega) (by repeat' split<;>omega)
  refine AW.seq_k fun K hK=>AW.region (by kernel_rfl) ?_
  simp -implicitDefEqProofs only[go_sem,seval,↓reduceIte,f0,f1,f2,f3,f4,f5,f6,f7,f8,f9,f10,f11,f12,f13,f14]
  refine hK _ ?_
  clear hK K
  refine AW.condS (by simp -implicitDefEqProofs only[go_sem,seval,↓reduceIte];rfl) (fun h42=>?_) (fun h42=>?_)
  ·cases h42
  refine AW.seq_k fun K hK=>AW.region (by kernel_rfl) ?_
  simp -implicitDefEqProofs only[go_sem,seval,↓reduceIte,f0,f1,f2,f3,f4,f5,f6,f7,f8,f9,f10,f11,f12,f13,f14]
  refine hK _ ?_
  clear hK K
  refine AW.condS (by simp -implicitDefEqProofs only[go_sem,seval,↓reduceIte];rfl) (fun h55=>?_) (fun h55=>?_)
  rotate_left
  ·cases h55
  refine AW.seq_k fun K hK=>AW.region (by kernel_rfl) ?_
  simp -implicitDefEqProofs only[go_sem,seval,↓reduceIte]
  refine hK _ ?_
  clear hK K
  refine AW.ret ?_
  simp -implicitDefEqProofs only[go_sem,seval,↓reduceIte]
  refine endK_some ?_
  rw [hkd]
 by_cases hc5:op=5
 ·have f0:(op==1)=false:=by rw [beq_eq_false_iff_ne];omega
  have f1:(op==2)=false:=by rw [beq_eq_false_iff_ne];omega
  have f2:(op==3)=false:=by rw [beq_eq_false_iff_ne];omega
  have f3:(op==4)=false:=by rw [beq_eq_false_iff_ne];omega
  have f4:(op==5)=true:=by rw [beq_iff_eq];omega
  have f5:(op==6)=false:=by rw [beq_eq_false_iff_ne];omega
  have f6:(op==16)=false:=by rw [beq_eq_false_iff_ne];omega
  have f7:(op==17)=false:=by rw [beq_eq_false_iff_ne];omega
  have f8:(op==22)=false:=by rw [beq_eq_false_iff_ne];omega
  have f9:decide (op≥7)=false:=by rw [decide_eq_false_iff_not];omega
  have f10:decide (op≥12)=false:=by rw [decide_eq_false_iff_not];omega
  have f11:decide (op≥18)=false:=by rw [decide_eq_false_iff_not];omega
  have f12:decide (op≤11)=true:=by rw [decide_eq_true_iff];omega
  have f13:decide (op≤15)=true:=by rw [decide_eq_true_iff];omega
  have f14:decide (op≤21)=true:=by rw [decide_eq_true_iff];omega
  by_cases hs0:a=1
  ·have s0:(a==1)=true:=by simpa using hs0
   have hkd:res=1:=by
    rw [hP];exact kd_2 (by omega) (by omega) (by repeat' split<;>omega)
   refine AW.seq_k fun K hK=>AW.region (by kernel_rfl) ?_
   simp -implicitDefEqProofs only[go_sem,seval,↓reduceIte,f0,f1,f2,f3,f4,f5,f6,f7,f8,f9,f10,f11,f12,f13,f14,s0]
   refine hK _ ?_
   clear hK K
   refine AW.condS (by simp -implicitDefEqProofs only[go_sem,seval,↓reduceIte];rfl) (fun h42=>?_) (fun h42=>?_)
   ·cases h42
   refine AW.seq_k fun K hK=>AW.region (by kernel_rfl) ?_
   simp -implicitDefEqProofs only[go_sem,seval,↓reduceIte,f0,f1,f2,f3,f4,f5,f6,f7,f8,f9,f10,f11,f12,f13,f14,s0]
   refine hK _ ?_
   clear hK K
   refine AW.condS (by simp -implicitDefEqProofs only[go_sem,seval,↓reduceIte];rfl) (fun h55=>?_) (fun h55=>?_)
   ·cases h55
   refine AW.seq_k fun K hK=>AW.region (by kernel_rfl) ?_
   simp -implicitDefEqProofs only[go_sem,seval,↓reduceIte,f0,f1,f2,f3,f4,f5,f6,f7,f8,f9,f10,f11,f12,f13,f14,s0]
   refine hK _ ?_
   clear hK K
   refine AW.condS (by simp -implicitDefEqProofs only[go_sem,seval,↓reduceIte];rfl) (fun h62=>?_) (fun h62=>?_)
   rotate_left
   ·cases h62
   refine AW.seq_k fun K hK=>AW.region (by kernel_rfl) ?_
   simp -implicitDefEqProofs only[go_sem,seval,↓reduceIte]
   refine hK _ ?_
   clear hK K
   refine AW.ret ?_
   simp -implicitDefEqProofs only[go_sem,seval,↓reduceIte]
   refine endK_some ?_
   rw [hkd]
  by_cases hs1:¬ a=1
  ·have s0:(a==1)=false:=by simpa using hs1
   have hkd:res=0:=by
    rw [hP];exact kd_2 (by omega) (by omega) (by repeat' split<;>omega)
   refine AW.seq_k fun K hK=>AW.region (by kernel_rfl) ?_
   simp -implicitDefEqProofs only[go_sem,seval,↓reduceIte,f0,f1,f2,f3,f4,f5,f6,f7,f8,f9,f10,f11,f12,f13,f14,s0]
   refine hK _ ?_
   clear hK K
   refine AW.condS (by simp -implicitDefEqProofs only[go_sem,seval,↓reduceIte];rfl) (fun h42=>?_) (fun h42=>?_)
   ·cases h42
   refine AW.seq_k fun K hK=>AW.region (by kernel_rfl) ?_
   simp -implicitDefEqProofs only[go_sem,seval,↓reduceIte,f0,f1,f2,f3,f4,f5,f6,f7,f8,f9,f10,f11,f12,f13,f14,s0]
   refine hK _ ?_
   clear hK K
   refine AW.condS (by simp -implicitDefEqProofs only[go_sem,seval,↓reduceIte];rfl) (fun h55=>?_) (fun h55=>?_)
   ·cases h55
   refine AW.seq_k fun K hK=>AW.region (by kernel_rfl) ?_
   simp -implicitDefEqProofs only[go_sem,seval,↓reduceIte,f0,f1,f2,f3,f4,f5,f6,f7,f8,f9,f10,f11,f12,f13,f14,s0]
   refine hK _ ?_
   clear hK K
   refine AW.condS (by simp -implicitDefEqProofs only[go_sem,seval,↓reduceIte];rfl) (fun h62=>?_) (fun h62=>?_)
   ·cases h62
   refine AW.seq_k fun K hK=>AW.region (by kernel_rfl) ?_
   simp -implicitDefEqProofs only[go_sem,seval,↓reduceIte,f0,f1,f2,f3,f4,f5,f6,f7,f8,f9,f10,f11,f12,f13,f14,s0]
   refine hK _ ?_
   clear hK K
   refine AW.condS (by simp -implicitDefEqProofs only[go_sem,seval,↓reduceIte];rfl) (fun h85=>?_) (fun h85=>?_)
   ·cases h85
   refine AW.seq_k fun K hK=>AW.region (by kernel_rfl) ?_
   simp -implicitDefEqProofs only[go_sem,seval,↓reduceIte,f0,f1,f2,f3,f4,f5,f6,f7,f8,f9,f10,f11,f12,f13,f14,s0]
   refine hK _ ?_
   clear hK K
   refine AW.condS (by simp -implicitDefEqProofs only[go_sem,seval,↓reduceIte];rfl) (fun h117=>?_) (fun h117=>?_)
   ·cases h117
   refine AW.seq_k fun K hK=>AW.region (by kernel_rfl) ?_
   simp -implicitDefEqProofs only[go_sem,seval,↓reduceIte,f0,f1,f2,f3,f4,f5,f6,f7,f8,f9,f10,f11,f12,f13,f14,s0]
   refine hK _ ?_
   clear hK K
   refine AW.condS (by simp -implicitDefEqProofs only[go_sem,seval,↓reduceIte];rfl) (fun h140=>?_) (fun h140=>?_)
   ·cases h140
   refine AW.skip ?_
   simp -implicitDefEqProofs only[go_sem,seval,↓reduceIte]
   refine hKB _ ?_
   refine AW.seq_k fun K hK=>AW.region (by kernel_rfl) ?_
   simp -implicitDefEqProofs only[go_sem,seval,↓reduceIte]
   refine hK _ ?_
   clear hK K
   refine AW.ret ?_
   simp -implicitDefEqProofs only[go_sem,seval,↓reduceIte]
   refine endK_some ?_
   rw [hkd]
  exfalso;omega
 by_cases hc6:op=6
 ·have f0:(op==1)=false:=by rw [beq_eq_false_iff_ne];omega
  have f1:(op==2)=false:=by rw [beq_eq_false_iff_ne];omega
  have f2:(op==3)=false:=by rw [beq_eq_false_iff_ne];omega
  have f3:(op==4)=false:=by rw [beq_eq_false_iff_ne];omega
  have f4:(op==5)=false:=by rw [beq_eq_false_iff_ne];omega
  have f5:(op==6)=true:=by rw [beq_iff_eq];omega
  have f6:(op==16)=false:=by rw [beq_eq_false_iff_ne];omega
  have f7:(op==17)=false:=by rw [beq_eq_false_iff_ne];omega
  have f8:(op==22)=false:=by rw [beq_eq_false_iff_ne];omega
  have f9:decide (op≥7)=false:=by rw [decide_eq_false_iff_not];omega
  have f10:decide (op≥12)=false:=by rw [decide_eq_false_iff_not];omega
  have f11:decide (op≥18)=false:=by rw [decide_eq_false_iff_not];omega
  have f12:decide (op≤11)=true:=by rw [decide_eq_true_iff];omega
  have f13:decide (op≤15)=true:=by rw [decide_eq_true_iff];omega
  have f14:decide (op≤21)=true:=by rw [decide_eq_true_iff];omega
  by_cases hs0:a=2
  ·have s0:(a==2)=true:=by simpa using hs0
   have hkd:res=2:=by
    rw [hP];exact kd_2 (by omega) (by omega) (by repeat' split<;>omega)
   refine AW.seq_k fun K hK=>AW.region (by kernel_rfl) ?_
   simp -implicitDefEqProofs only[go_sem,seval,↓reduceIte,f0,f1,f2,f3,f4,f5,f6,f7,f8,f9,f10,f11,f12,f13,f14,s0]
   refine hK _ ?_
   clear hK K
   refine AW.condS (by simp -implicitDefEqProofs only[go_sem,seval,↓reduceIte];rfl) (fun h42=>?_) (fun h42=>?_)
   ·cases h42
   refine AW.seq_k fun K hK=>AW.region (by kernel_rfl) ?_
   simp -implicitDefEqProofs only[go_sem,seval,↓reduceIte,f0,f1,f2,f3,f4,f5,f6,f7,f8,f9,f10,f11,f12,f13,f14,s0]
   refine hK _ ?_
   clear hK K
   refine AW.condS (by simp -implicitDefEqProofs only[go_sem,seval,↓reduceIte];rfl) (fun h55=>?_) (fun h55=>?_)
   ·cases h55
   refine AW.seq_k fun K hK=>AW.region (by kernel_rfl) ?_
   simp -implicitDefEqProofs only[go_sem,seval,↓reduceIte,f0,f1,f2,f3,f4,f5,f6,f7,f8,f9,f10,f11,f12,f13,f14,s0]
   refine hK _ ?_
   clear hK K
   refine AW.condS (by simp -implicitDefEqProofs only[go_sem,seval,↓reduceIte];rfl) (fun h62=>?_) (fun h62=>?_)
   ·cases h62
   refine AW.seq_k fun K hK=>AW.region (by kernel_rfl) ?_
   simp -implicitDefEqProofs only[go_sem,seval,↓reduceIte,f0,f1,f2,f3,f4,f5,f6,f7,f8,f9,f10,f11,f12,f13,f14,s0]
   refine hK _ ?_
   clear hK K
   refine AW.condS (by simp -implicitDefEqProofs only[go_sem,seval,↓reduceIte];rfl) (fun h85=>?_) (fun h85=>?_)
   ·cases h85
   refine AW.seq_k fun K hK=>AW.region (by kernel_rfl) ?_
   simp -implicitDefEqProofs only[go_sem,seval,↓reduceIte,f0,f1,f2,f3,f4,f5,f6,f7,f8,f9,f10,f11,f12,f13,f14,s0]
   refine hK _ ?_
   clear hK K
   refine AW.condS (by simp -implicitDefEqProofs only[go_sem,seval,↓reduceIte];rfl) (fun h117=>?_) (fun h117=>?_)
   rotate_left
   ·cases h117
   refine AW.seq_k fun K hK=>AW.region (by kernel_rfl) ?_
   simp -implicitDefEqProofs only[go_sem,seval,↓reduceIte]
   refine hK _ ?_
   clear hK K
   refine AW.ret ?_
   simp -implicitDefEqProofs only[go_sem,seval,↓reduceIte]
   refine endK_some ?_
   rw [hkd]
  by_cases hs1:¬ a=2
  ·have s0:(a==2)=false:=by simpa using hs1
   have hkd:res=0:=by
    rw [hP];exact kd_2 (by omega) (by omega) (by repeat' split<;>omega)
   refine AW.seq_k fun K hK=>AW.region (by kernel_rfl) ?_
   simp -implicitDefEqProofs only[go_sem,seval,↓reduceIte,f0,f1,f2,f3,f4,f5,f6,f7,f8,f9,f10,f11,f12,f13,f14,s0]
   refine hK _ ?_
   clear hK K
   refine AW.condS (by simp -implicitDefEqProofs only[go_sem,seval,↓reduceIte];rfl) (fun h42=>?_) (fun h42=>?_)
   ·cases h42
   refine AW.seq_k fun K hK=>AW.region (by kernel_rfl) ?_
   simp -implicitDefEqProofs only[go_sem,seval,↓reduceIte,f0,f1,f2,f3,f4,f5,f6,f7,f8,f9,f10,f11,f12,f13,f14,s0]
   refine hK _ ?_
   clear hK K
   refine AW.condS (by simp -implicitDefEqProofs only[go_sem,seval,↓reduceIte];rfl) (fun h55=>?_) (fun h55=>?_)
   ·cases h55
   refine AW.seq_k fun K hK=>AW.region (by kernel_rfl) ?_
   simp -implicitDefEqProofs only[go_sem,seval,↓reduceIte,f0,f1,f2,f3,f4,f5,f6,f7,f8,f9,f10,f11,f12,f13,f14,s0]
   refine hK _ ?_
   clear hK K
   refine AW.condS (by simp -implicitDefEqProofs only[go_sem,seval,↓reduceIte];rfl) (fun h62=>?_) (fun h62=>?_)
   ·cases h62
   refine AW.seq_k fun K hK=>AW.region (by kernel_rfl) ?_
   simp -implicitDefEqProofs only[go_sem,seval,↓reduceIte,f0,f1,f2,f3,f4,f5,f6,f7,f8,f9,f10,f11,f12,f13,f14,s0]
   refine hK _ ?_
   clear hK K
   refine AW.condS (by simp -implicitDefEqProofs only[go_sem,seval,↓reduceIte];rfl) (fun h85=>?_) (fun h85=>?_)
   ·cases h85
   refine AW.seq_k fun K hK=>AW.region (by kernel_rfl) ?_
   simp -implicitDefEqProofs only[go_sem,seval,↓reduceIte,f0,f1,f2,f3,f4,f5,f6,f7,f8,f9,f10,f11,f12,f13,f14,s0]
   refine hK _ ?_
   clear hK K
   refine AW.condS (by simp -implicitDefEqProofs only[go_sem,seval,↓reduceIte];rfl) (fun h117=>?_) (fun h117=>?_)
   ·cases h117
   refine AW.seq_k fun K hK=>AW.region (by kernel_rfl) ?_
   simp -implicitDefEqProofs only[go_sem,seval,↓reduceIte,f0,f1,f2,f3,f4,f5,f6,f7,f8,f9,f10,f11,f12,f13,f14,s0]
   refine hK _ ?_
   clear hK K
   refine AW.condS (by simp -implicitDefEqProofs only[go_sem,seval,↓reduceIte];rfl) (fun h140=>?_) (fun h140=>?_)
   ·cases h140
   refine AW.skip ?_
   simp -implicitDefEqProofs only[go_sem,seval,↓reduceIte]
   refine hKB _ ?_
   refine AW.seq_k fun K hK=>AW.region (by kernel_rfl) ?_
   simp -implicitDefEqProofs only[go_sem,seval,↓reduceIte]
   refine hK _ ?_
   clear hK K
   refine AW.ret ?_
   simp -implicitDefEqProofs only[go_sem,seval,↓reduceIte]
   refine endK_some ?_
   rw [hkd]
  exfalso;omega
 by_cases hc7:7≤op∧op≤11
 ·have f0:(op==1)=false:=by rw [beq_eq_false_iff_ne];omega
  have f1:(op==2)=false:=by rw [beq_eq_false_iff_ne];omega
  have f2:(op==3)=false:=by rw [beq_eq_false_iff_ne];omega
  have f3:(op==4)=false:=by rw [beq_eq_false_iff_ne];omega
  have f4:(op==5)=false:=by rw [beq_eq_false_iff_ne];omega
  have f5:(op==6)=false:=by rw [beq_eq_false_iff_ne];omega
  have f6:(op==16)=false:=by rw [beq_eq_false_iff_ne];omega
  have f7:(op==17)=false:=by rw [beq_eq_false_iff_ne];omega
  have f8:(op==22)=false:=by rw [beq_eq_false_iff_ne];omega
  have f9:decide (op≥7)=true:=by rw [decide_eq_true_iff];omega
  have f10:decide (op≥12)=false:=by rw [decide_eq_false_iff_not];omega
  have f11:decide (op≥18)=false:=by rw [decide_eq_false_iff_not];omega
  have f12:decide (op≤11)=true:=by rw [decide_eq_true_iff];omega
  have f13:decide (op≤15)=true:=by rw [decide_eq_true_iff];omega
  have f14:decide (op≤21)=true:=by rw [decide_eq_true_iff];omega
  by_cases hs0:a=1∧b=1
  ·have s0:(a==1)=true:=by simpa using hs0.1
   have s1:(b==1)=true:=by simpa using hs0.2
   have hkd:res=1:=by
    rw [hP];exact kd_2 (by omega) (by omega) (by repeat' split<;>omega)
   refine AW.seq_k fun K hK=>AW.region (by kernel_rfl) ?_
   simp -implicitDefEqProofs only[go_sem,seval,↓reduceIte,f0,f1,f2,f3,f4,f5,f6,f7,f8,f9,f10,f11,f12,f13,f14,s0,s1]
   refine hK _ ?_
   clear hK K
   refine AW.condS (by simp -implicitDefEqProofs only[go_sem,seval,↓reduceIte];rfl) (fun h42=>?_) (fun h42=>?_)
   ·cases h42
   refine AW.seq_k fun K hK=>AW.region (by kernel_rfl) ?_
   simp -implicitDefEqProofs only[go_sem,seval,↓reduceIte,f0,f1,f2,f3,f4,f5,f6,f7,f8,f9,f10,f11,f12,f13,f14,s0,s1]
   refine hK _ ?_
   clear hK K
   refine AW.condS (by simp -implicitDefEqProofs only[go_sem,seval,↓reduceIte];rfl) (fun h55=>?_) (fun h55=>?_)
   ·cases h55
   refine AW.seq_k fun K hK=>AW.region (by kernel_rfl) ?_
   simp -implicitDefEqProofs only[go_sem,seval,↓reduceIte,f0,f1,f2,f3,f4,f5,f6,f7,f8,f9,f10,f11,f12,f13,f14,s0,s1]
   refine hK _ ?_
   clear hK K
   refine AW.condS (by simp -implicitDefEqProofs only[go_sem,seval,↓reduceIte];rfl) (fun h62=>?_) (fun h62=>?_)
   rotate_left
   ·cases h62
   refine AW.seq_k fun K hK=>AW.region (by kernel_rfl) ?_
   simp -implicitDefEqProofs only[go_sem,seval,↓reduceIte]
   refine hK _ ?_
   clear hK K
   refine AW.ret ?_
   simp -implicitDefEqProofs only[go_sem,seval,↓reduceIte]
   refine endK_some ?_
   rw [hkd]
  by_cases hs1:a=1∧¬ b=1
  ·have s0:(a==1)=true:=by simpa using hs1.1
   have s1:(b==1)=false:=by simpa using hs1.2
   have hkd:res=0:=by
    rw [hP];exact kd_2 (by omega) (by omega) (by repeat' split<;>omega)
   refine AW.seq_k fun K hK=>AW.region (by kernel_rfl) ?_
   simp -implicitDefEqProofs only[go_sem,seval,↓reduceIte,f0,f1,f2,f3,f4,f5,f6,f7,f8,f9,f10,f11,f12,f13,f14,s0,s1]
   refine hK _ ?_
   clear hK K
   refine AW.condS (by simp -implicitDefEqProofs only[go_sem,seval,↓reduceIte];rfl) (fun h42=>?_) (fun h42=>?_)
   ·cases h42
   refine AW.seq_k fun K hK=>AW.region (by kernel_rfl) ?_
   simp -implicitDefEqProofs only[go_sem,seval,↓reduceIte,f0,f1,f2,f3,f4,f5,f6,f7,f8,f9,f10,f11,f12,f13,f14,s0,s1]
   refine hK _ ?_
   clear hK K
   refine AW.condS (by simp -implicitDefEqProofs only[go_sem,seval,↓reduceIte];rfl) (fun h55=>?_) (fun h55=>?_)
   ·cases h55
   refine AW.seq_k fun K hK=>AW.region (by kernel_rfl) ?_
   simp -implicitDefEqProofs only[go_sem,seval,↓reduceIte,f0,f1,f2,f3,f4,f5,f6,f7,f8,f9,f10,f11,f12,f13,f14,s0,s1]
   refine hK _ ?_
   clear hK K
   refine AW.condS (by simp -implicitDefEqProofs only[go_sem,seval,↓reduceIte];rfl) (fun h62=>?_) (fun h62=>?_)
   ·cases h62
   refine AW.seq_k fun K hK=>AW.region (by kernel_rfl) ?_
   simp -implicitDefEqProofs only[go_sem,seval,↓reduceIte,f0,f1,f2,f3,f4,f5,f6,f7,f8,f9,f10,f11,f12,f13,f14,s0,s1]
   refine hK _ ?_
   clear hK K
   refine AW.condS (by simp -implicitDefEqProofs only[go_sem,seval,↓reduceIte];rfl) (fun h85=>?_) (fun h85=>?_)
   ·cases h85
   refine AW.seq_k fun K hK=>AW.region (by kernel_rfl) ?_
   simp -implicitDefEqProofs only[go_sem,seval,↓reduceIte,f0,f1,f2,f3,f4,f5,f6,f7,f8,f9,f10,f11,f12,f13,f14,s0,s1]
   refine hK _ ?_
   clear hK K
   refine AW.condS (by simp -implicitDefEqProofs only[go_sem,seval,↓reduceIte];rfl) (fun h117=>?_) (fun h117=>?_)
   ·cases h117
   refine AW.seq_k fun K hK=>AW.region (by kernel_rfl) ?_
   simp -implicitDefEqProofs only[go_sem,seval,↓reduceIte,f0,f1,f2,f3,f4,f5,f6,f7,f8,f9,f10,f11,f12,f13,f14,s0,s1]
   refine hK _ ?_
   clear hK K
   refine AW.condS (by simp -implicitDefEqProofs only[go_sem,seval,↓reduceIte];rfl) (fun h140=>?_) (fun h140=>?_)
   ·cases h140
   refine AW.skip ?_
   simp -implicitDefEqProofs only[go_sem,seval,↓reduceIte]
   refine hKB _ ?_
   refine AW.seq_k fun K hK=>AW.region (by kernel_rfl) ?_
   simp -implicitDefEqProofs only[go_sem,seval,↓reduceIte]
   refine hK _ ?_
   clear hK K
   refine AW.ret ?_
   simp -implicitDefEqProofs only[go_sem,seval,↓reduceIte]
   refine endK_some ?_
   rw [hkd]
  by_cases hs2:¬ a=1
  ·have s0:(a==1)=false:=by simpa using hs2
   have hkd:res=0:=by
    rw [hP];exact kd_2 (by omega) (by omega) (by repeat' split<;>omega)
   refine AW.seq_k fun K hK=>AW.region (by kernel_rfl) ?_
   simp -implicitDefEqProofs only[go_sem,seval,↓reduceIte,f0,f1,f2,f3,f4,f5,f6,f7,f8,f9,f10,f11,f12,f13,f14,s0]
   refine hK _ ?_
   clear hK K
   refine AW.condS (by simp -implicitDefEqProofs only[go_sem,seval,↓reduceIte];rfl) (fun h42=>?_) (fun h42=>?_)
   ·cases h42
   refine AW.seq_k fun K hK=>AW.region (by kernel_rfl) ?_
   simp -implicitDefEqProofs only[go_sem,seval,↓reduceIte,f0,f1,f2,f3,f4,f5,f6,f7,f8,f9,f10,f11,f12,f13,f14,s0]
   refine hK _ ?_
   clear hK K
   refine AW.condS (by simp -implicitDefEqProofs only[go_sem,seval,↓reduceIte];rfl) (fun h55=>?_) (fun h55=>?_)
   ·cases h55
   refine AW.seq_k fun K hK=>AW.region (by kernel_rfl) ?_
   simp -implicitDefEqProofs only[go_sem,seval,↓reduceIte,f0,f1,f2,f3,f4,f5,f6,f7,f8,f9,f10,f11,f12,f13,f14,s0]
   refine hK _ ?_
   clear hK K
   refine AW.condS (by simp -implicitDefEqProofs only[go_sem,seval,↓reduceIte];rfl) (fun h62=>?_) (fun h62=>?_)
   ·cases h62
   refine AW.seq_k fun K hK=>AW.region (by kernel_rfl) ?_
   simp -implicitDefEqProofs only[go_sem,seval,↓reduceIte,f0,f1,f2,f3,f4,f5,f6,f7,f8,f9,f10,f11,f12,f13,f14,s0]
   refine hK _ ?_
   clear hK K
   refine AW.condS (by simp -implicitDefEqProofs only[go_sem,seval,↓reduceIte];rfl) (fun h85=>?_) (fun h85=>?_)
   ·cases h85
   refine AW.seq_k fun K hK=>AW.region (by kernel_rfl) ?_
   simp -implicitDefEqProofs only[go_sem,seval,↓reduceIte,f0,f1,f2,f3,f4,f5,f6,f7,f8,f9,f10,f11,f12,f13,f14,s0]
   refine hK _ ?_
   clear hK K
   refine AW.condS (by simp -implicitDefEqProofs only[go_sem,seval,↓reduceIte];rfl) (fun h117=>?_) (fun h117=>?_)
   ·cases h117
   refine AW.seq_k fun K hK=>AW.region (by kernel_rfl) ?_
   simp -implicitDefEqProofs only[go_sem,seval,↓reduceIte,f0,f1,f2,f3,f4,f5,f6,f7,f8,f9,f10,f11,f12,f13,f14,s0]
   refine hK _ ?_
   clear hK K
   refine AW.condS (by simp -implicitDefEqProofs only[go_sem,seval,↓reduceIte];rfl) (fun h140=>?_) (fun h140=>?_)
   ·cases h140
   refine AW.skip ?_
   simp -implicitDefEqProofs only[go_sem,seval,↓reduceIte]
   refine hKB _ ?_
   refine AW.seq_k fun K hK=>AW.region (by kernel_rfl) ?_
   simp -implicitDefEqProofs only[go_sem,seval,↓reduceIte]
   refine hK _ ?_
   clear hK K
   refine AW.ret ?_
   simp -implicitDefEqProofs only[go_sem,seval,↓reduceIte]
   refine endK_some ?_
   rw [hkd]
  exfalso;omega
 by_cases hc12:12≤op∧op≤15
 ·have f0:(op==1)=false:=by rw [beq_eq_false_iff_ne];omega
  have f1:(op==2)=false:=by rw [beq_eq_false_iff_ne];omega
  have f2:(op==3)=false:=by rw [beq_eq_false_iff_ne];omega
  have f3:(op==4)=false:=by rw [beq_eq_false_iff_ne];omega
  have f4:(op==5)=false:=by rw [beq_eq_false_iff_ne];omega
  have f5:(op==6)=false:=by rw [beq_eq_false_iff_ne];omega
  have f6:(op==16)=false:=by rw [beq_eq_false_iff_ne];omega
  have f7:(op==17)=false:=by rw [beq_eq_false_iff_ne];omega
  have f8:(op==22)=false:=by rw [beq_eq_false_iff_ne];omega
  have f9:decide (op≥7)=true:=by rw [decide_eq_true_iff];omega
  have f10:decide (op≥12)=true:=by rw [decide_eq_true_iff];omega
  have f11:decide (op≥18)=false:=by rw [decide_eq_false_iff_not];omega
  have f12:decide (op≤11)=false:=by rw [decide_eq_false_iff_not];omega
  have f13:decide (op≤15)=true:=by rw [decide_eq_true_iff];omega
  have f14:decide (op≤21)=true:=by rw [decide_eq_true_iff];omega
  by_cases hs0:a=1∧b=1
  ·have s0:(a==1)=true:=by simpa using hs0.1
   have s1:(b==1)=true:=by simpa using hs0.2
   have hkd:res=2:=by
    rw [hP];exact kd_2 (by omega) (by omega) (by repeat' split<;>omega)
   refine AW.seq_k fun K hK=>AW.region (by kernel_rfl) ?_
   simp -implicitDefEqProofs only[go_sem,seval,↓reduceIte,f0,f1,f2,f3,f4,f5,f6,f7,f8,f9,f10,f11,f12,f13,f14,s0,s1]
   refine hK _ ?_
   clear hK K
   refine AW.condS (by simp -implicitDefEqProofs only[go_sem,seval,↓reduceIte];rfl) (fun h42=>?_) (fun h42=>?_)
   ·cases h42
   refine AW.seq_k fun K hK=>AW.region (by kernel_rfl) ?_
   simp -implicitDefEqProofs only[go_sem,seval,↓reduceIte,f0,f1,f2,f3,f4,f5,f6,f7,f8,f9,f10,f11,f12,f13,f14,s0,s1]
   refine hK _ ?_
   clear hK K
   refine AW.condS (by simp -implicitDefEqProofs only[go_sem,seval,↓reduceIte];rfl) (fun h55=>?_) (fun h55=>?_)
   ·cases h55
   refine AW.seq_k fun K hK=>AW.region (by kernel_rfl) ?_
   simp -implicitDefEqProofs only[go_sem,seval,↓reduceIte,f0,f1,f2,f3,f4,f5,f6,f7,f8,f9,f10,f11,f12,f13,f14,s0,s1]
   refine hK _ ?_
   clear hK K
   refine AW.condS (by simp -implicitDefEqProofs only[go_sem,seval,↓reduceIte];rfl) (fun h62=>?_) (fun h62=>?_)
   ·cases h62
   refine AW.seq_k fun K hK=>AW.region (by kernel_rfl) ?_
   simp -implicitDefEqProofs only[go_sem,seval,↓reduceIte,f0,f1,f2,f3,f4,f5,f6,f7,f8,f9,f10,f11,f12,f13,f14,s0,s1]
   refine hK _ ?_
   clear hK K
   refine AW.condS (by simp -implicitDefEqProofs only[go_sem,seval,↓reduceIte];rfl) (fun h85=>?_) (fun h85=>?_)
   rotate_left
   ·cases h85
   refine AW.seq_k fun K hK=>AW.region (by kernel_rfl) ?_
   simp -implicitDefEqProofs only[go_sem,seval,↓reduceIte]
   refine hK _ ?_
   clear hK K
   refine AW.ret ?_
   simp -implicitDefEqProofs only[go_sem,seval,↓reduceIte]
   refine endK_some ?_
   rw [hkd]
  by_cases hs1:a=1∧¬ b=1
  ·have s0:(a==1)=true:=by simpa using hs1.1
   have s1:(b==1)=false:=by simpa using hs1.2
   have hkd:res=0:=by
    rw [hP];exact kd_2 (by omega) (by omega) (by repeat' split<;>omega)
   refine AW.seq_k fun K hK=>AW.region (by kernel_rfl) ?_
   simp -implicitDefEqProofs only[go_sem,seval,↓reduceIte,f0,f1,f2,f3,f4,f5,f6,f7,f8,f9,f10,f11,f12,f13,f14,s0,s1]
   refine hK _ ?_
   clear hK K
   refine AW.condS (by simp -implicitDefEqProofs only[go_sem,seval,↓reduceIte];rfl) (fun h42=>?_) (fun h42=>?_)
   ·cases h42
   refine AW.seq_k fun K hK=>AW.region (by kernel_rfl) ?_
   simp -implicitDefEqProofs only[go_sem,seval,↓reduceIte,f0,f1,f2,f3,f4,f5,f6,f7,f8,f9,f10,f11,f12,f13,f14,s0,s1]
   refine hK _ ?_
   clear hK K
   refine AW.condS (by simp -implicitDefEqProofs only[go_sem,seval,↓reduceIte];rfl) (fun h55=>?_) (fun h55=>?_)
   ·cases h55
   refine AW.seq_k fun K hK=>AW.region (by kernel_rfl) ?_
   simp -implicitDefEqProofs only[go_sem,seval,↓reduceIte,f0,f1,f2,f3,f4,f5,f6,f7,f8,f9,f10,f11,f12,f13,f14,s0,s1]
   refine hK _ ?_
   clear hK K
   refine AW.condS (by simp -implicitDefEqProofs only[go_sem,seval,↓reduceIte];rfl) (fun h62=>?_) (fun h62=>?_)
   ·cases h62
   refine AW.seq_k fun K hK=>AW.region (by kernel_rfl) ?_
   simp -implicitDefEqProofs only[go_sem,seval,↓reduceIte,f0,f1,f2,f3,f4,f5,f6,f7,f8,f9,f10,f11,f12,f13,f14,s0,s1]
   refine hK _ ?_
   clear hK K
   refine AW.condS (by simp -implicitDefEqProofs only[go_sem,seval,↓reduceIte];rfl) (fun h85=>?_) (fun h85=>?_)
   ·cases h85
   refine AW.seq_k fun K hK=>AW.region (by kernel_rfl) ?_
   simp -implicitDefEqProofs only[go_sem,seval,↓reduceIte,f0,f1,f2,f3,f4,f5,f6,f7,f8,f9,f10,f11,f12,f13,f14,s0,s1]
   refine hK _ ?_
   clear hK K
   refine AW.condS (by simp -implicitDefEqProofs only[go_sem,seval,↓reduceIte];rfl) (fun h117=>?_) (fun h117=>?_)
   ·cases h117
   refine AW.seq_k fun K hK=>AW.region (by kernel_rfl) ?_
   simp -implicitDefEqProofs only[go_sem,seval,↓reduceIte,f0,f1,f2,f3,f4,f5,f6,f7,f8,f9,f10,f11,f12,f13,f14,s0,s1]
   refine hK _ ?_
   clear hK K
   refine AW.condS (by simp -implicitDefEqProofs only[go_sem,seval,↓reduceIte];rfl) (fun h140=>?_) (fun h140=>?_)
   ·cases h140
   refine AW.skip ?_
   simp -implicitDefEqProofs only[go_sem,seval,↓reduceIte]
   refine hKB _ ?_
   refine AW.seq_k fun K hK=>AW.region (by kernel_rfl) ?_
   simp -implicitDefEqProofs only[go_sem,seval,↓reduceIte]
   refine hK _ ?_
   clear hK K
   refine AW.ret ?_
   simp -implicitDefEqProofs only[go_sem,seval,↓reduceIte]
   refine endK_some ?_
   rw [hkd]
  by_cases hs2:¬ a=1
  ·have s0:(a==1)=false:=by simpa using hs2
   have hkd:res=0:=by
    rw [hP];exact kd_2 (by omega) (by omega) (by repeat' split<;>omega)
   refine AW.seq_k fun K hK=>AW.region (by kernel_rfl) ?_
   simp -implicitDefEqProofs only[go_sem,seval,↓reduceIte,f0,f1,f2,f3,f4,f5,f6,f7,f8,f9,f10,f11,f12,f13,f14,s0]
   refine hK _ ?_
   clear hK K
   refine AW.condS (by simp -implicitDefEqProofs only[go_sem,seval,↓reduceIte];rfl) (fun h42=>?_) (fun h42=>?_)
   ·cases h42
   refine AW.seq_k fun K hK=>AW.region (by kernel_rfl) ?_
   simp -implicitDefEqProofs only[go_sem,seval,↓reduceIte,f0,f1,f2,f3,f4,f5,f6,f7,f8,f9,f10,f11,f12,f13,f14,s0]
   refine hK _ ?_
   clear hK K
   refine AW.condS (by simp -implicitDefEqProofs only[go_sem,seval,↓reduceIte];rfl) (fun h55=>?_) (fun h55=>?_)
   ·cases h55
   refine AW.seq_k fun K hK=>AW.region (by kernel_rfl) ?_
   simp -implicitDefEqProofs only[go_sem,seval,↓reduceIte,f0,f1,f2,f3,f4,f5,f6,f7,f8,f9,f10,f11,f12,f13,f14,s0]
   refine hK _ ?_
   clear hK K
   refine AW.condS (by simp -implicitDefEqProofs only[go_sem,seval,↓reduceIte];rfl) (fun h62=>?_) (fun h62=>?_)
   ·cases h62
   refine AW.seq_k fun K hK=>AW.region (by kernel_rfl) ?_
   simp -implicitDefEqProofs only[go_sem,seval,↓reduceIte,f0,f1,f2,f3,f4,f5,f6,f7,f8,f9,f10,f11,f12,f13,f14,s0]
   refine hK _ ?_
   clear hK K
   refine AW.condS (by simp -implicitDefEqProofs only[go_sem,seval,↓reduceIte];rfl) (fun h85=>?_) (fun h85=>?_)
   ·cases h85
   refine AW.seq_k fun K hK=>AW.region (by kernel_rfl) ?_
   simp -implicitDefEqProofs only[go_sem,seval,↓reduceIte,f0,f1,f2,f3,f4,f5,f6,f7,f8,f9,f10,f11,f12,f13,f14,s0]
   refine hK _ ?_
   clear hK K
   refine AW.condS (by simp -implicitDefEqProofs only[go_sem,seval,↓reduceIte];rfl) (fun h117=>?_) (fun h117=>?_)
   ·cases h117
   refine AW.seq_k fun K hK=>AW.region (by kernel_rfl) ?_
   simp -implicitDefEqProofs only[go_sem,seval,↓reduceIte,f0,f1,f2,f3,f4,f5,f6,f7,f8,f9,f10,f11,f12,f13,f14,s0]
   refine hK _ ?_
   clear hK K
   refine AW.condS (by simp -implicitDefEqProofs only[go_sem,seval,↓reduceIte];rfl) (fun h140=>?_) (fun h140=>?_)
   ·cases h140
   refine AW.skip ?_
   simp -implicitDefEqProofs only[go_sem,seval,↓reduceIte]
   refine hKB _ ?_
   refine AW.seq_k fun K hK=>AW.region (by kernel_rfl) ?_
   simp -implicitDefEqProofs only[go_sem,seval,↓reduceIte]
   refine hK _ ?_
   clear hK K
   refine AW.ret ?_
   simp -implicitDefEqProofs only[go_sem,seval,↓reduceIte]
   refine endK_some ?_
   rw [hkd]
  exfalso;omega
 by_cases hc16:op=16
 ·have f0:(op==1)=false:=by rw [beq_eq_false_iff_ne];omega
  have f1:(op==2)=false:=by rw [beq_eq_false_iff_ne];omega
  have f2:(op==3)=false:=by rw [beq_eq_false_iff_ne];omega
  have f3:(op==4)=false:=by rw [beq_eq_false_iff_ne];omega
  have f4:(op==5)=false:=by rw [beq_eq_false_iff_ne];omega
  have f5:(op==6)=false:=by rw [beq_eq_false_iff_ne];omega
  have f6:(op==16)=true:=by rw [beq_iff_eq];omega
  have f7:(op==17)=false:=by rw [beq_eq_false_iff_ne];omega
  have f8:(op==22)=false:=by rw [beq_eq_false_iff_ne];omega
  have f9:decide (op≥7)=true:=by rw [decide_eq_true_iff];omega
  have f10:decide (op≥12)=true:=by rw [decide_eq_true_iff];omega
  have f11:decide (op≥18)=false:=by rw [decide_eq_false_iff_not];omega
  have f12:decide (op≤11)=false:=by rw [decide_eq_false_iff_not];omega
  have f13:decide (op≤15)=false:=by rw [decide_eq_false_iff_not];omega
  have f14:decide (op≤21)=true:=by rw [decide_eq_true_iff];omega
  by_cases hs0:a=b∧¬ a=0
  ·have s0:(a==b)=true:=by simpa using hs0.1
   have s1:(a != 0)=true:=by simpa using hs0.2
   have hkd:res=2:=by
    rw [hP];exact kd_2 (by omega) (by omega) (by repeat' split<;>omega)
   refine AW.seq_k fun K hK=>AW.region (by kernel_rfl) ?_
   simp -implicitDefEqProofs only[go_sem,seval,↓reduceIte,f0,f1,f2,f3,f4,f5,f6,f7,f8,f9,f10,f11,f12,f13,f14,s0,s1]
   refine hK _ ?_
   clear hK K
   refine AW.condS (by simp -implicitDefEqProofs only[go_sem,seval,↓reduceIte];rfl) (fun h42=>?_) (fun h42=>?_)
   ·cases h42
   refine AW.seq_k fun K hK=>AW.region (by kernel_rfl) ?_
   simp -implicitDefEqProofs only[go_sem,seval,↓reduceIte,f0,f1,f2,f3,f4,f5,f6,f7,f8,f9,f10,f11,f12,f13,f14,s0,s1]
   refine hK _ ?_
   clear hK K
   refine AW.condS (by simp -implicitDefEqProofs only[go_sem,seval,↓reduceIte];rfl) (fun h55=>?_) (fun h55=>?_)
   ·cases h55
   refine AW.seq_k fun K hK=>AW.region (by kernel_rfl) ?_
   simp -implicitDefEqProofs only[go_sem,seval,↓reduceIte,f0,f1,f2,f3,f4,f5,f6,f7,f8,f9,f10,f11,f12,f13,f14,s0,s1]
   refine hK _ ?_
   clear hK K
   refine AW.condS (by simp -implicitDefEqProofs only[go_sem,seval,↓reduceIte];rfl) (fun h62=>?_) (fun h62=>?_)
   ·cases h62
   refine AW.seq_k fun K hK=>AW.region (by kernel_rfl) ?_
   simp -implicitDefEqProofs only[go_sem,seval,↓reduceIte,f0,f1,f2,f3,f4,f5,f6,f7,f8,f9,f10,f11,f12,f13,f14,s0,s1]
   refine hK _ ?_
   clear hK K
   refine AW.condS (by simp -implicitDefEqProofs only[go_sem,seval,↓reduceIte];rfl) (fun h85=>?_) (fun h85=>?_)
   rotate_left
   ·cases h85
   refine AW.seq_k fun K hK=>AW.region (by kernel_rfl) ?_
   simp -implicitDefEqProofs only[go_sem,seval,↓reduceIte]
   refine hK _ ?_
   clear hK K
   refine AW.ret ?_
   simp -implicitDefEqProofs only[go_sem,seval,↓reduceIte]
   refine endK_some ?_
   rw [hkd]
  by_cases hs1:a=b∧a=0
  ·have s0:(a==b)=true:=by simpa using hs1.1
   have s1:(a != 0)=false:=by simpa using hs1.2
   have hkd:res=0:=by
    rw [hP];exact kd_2 (by omega) (by omega) (by repeat' split<;>omega)
   refine AW.seq_k fun K hK=>AW.region (by kernel_rfl) ?_
   simp -implicitDefEqProofs only[go_sem,seval,↓reduceIte,f0,f1,f2,f3,f4,f5,f6,f7,f8,f9,f10,f11,f12,f13,f14,s0,s1]
   refine hK _ ?_
   clear hK K
   refine AW.condS (by simp -implicitDefEqProofs only[go_sem,seval,↓reduceIte];rfl) (fun h42=>?_) (fun h42=>?_)
   ·cases h42
   refine AW.seq_k fun K hK=>AW.region (by kernel_rfl) ?_
   simp -implicitDefEqProofs only[go_sem,seval,↓reduceIte,f0,f1,f2,f3,f4,f5,f6,f7,f8,f9,f10,f11,f12,f13,f14,s0,s1]
   refine hK _ ?_
   clear hK K
   refine AW.condS (by simp -implicitDefEqProofs only[go_sem,seval,↓reduceIte];rfl) (fun h55=>?_) (fun h55=>?_)
   ·cases h55
   refine AW.seq_k fun K hK=>AW.region (by kernel_rfl) ?_
   simp -implicitDefEqProofs only[go_sem,seval,↓reduceIte,f0,f1,f2,f3,f4,f5,f6,f7,f8,f9,f10,f11,f12,f13,f14,s0,s1]
   refine hK _ ?_
   clear hK K
   refine AW.condS (by simp -implicitDefEqProofs only[go_sem,seval,↓reduceIte];rfl) (fun h62=>?_) (fun h62=>?_)
   ·cases h62
   refine AW.seq_k fun K hK=>AW.region (by kernel_rfl) ?_
   simp -implicitDefEqProofs only[go_sem,seval,↓reduceIte,f0,f1,f2,f3,f4,f5,f6,f7,f8,f9,f10,f11,f12,f13,f14,s0,s1]
   refine hK _ ?_
   clear hK K
   refine AW.condS (by simp -implicitDefEqProofs only[go_sem,seval,↓reduceIte];rfl) (fun h85=>?_) (fun h85=>?_)
   ·cases h85
   refine AW.seq_k fun K hK=>AW.region (by kernel_rfl) ?_
   simp -implicitDefEqProofs only[go_sem,seval,↓reduceIte,f0,f1,f2,f3,f4,f5,f6,f7,f8,f9,f10,f11,f12,f13,f14,s0,s1]
   refine hK _ ?_
   clear hK K
   refine AW.condS (by simp -implicitDefEqProofs only[go_sem,seval,↓reduceIte];rfl) (fun h117=>?_) (fun h117=>?_)
   ·cases h117
   refine AW.seq_k fun K hK=>AW.region (by kernel_rfl) ?_
   simp -implicitDefEqProofs only[go_sem,seval,↓reduceIte,f0,f1,f2,f3,f4,f5,f6,f7,f8,f9,f10,f11,f12,f13,f14,s0,s1]
   refine hK _ ?_
   clear hK K
   refine AW.condS (by simp -implicitDefEqProofs only[go_sem,seval,↓reduceIte];rfl) (fun h140=>?_) (fun h140=>?_)
   ·cases h140
   refine AW.skip ?_
   simp -implicitDefEqProofs only[go_sem,seval,↓reduceIte]
   refine hKB _ ?_
   refine AW.seq_k fun K hK=>AW.region (by kernel_rfl) ?_
   simp -implicitDefEqProofs only[go_sem,seval,↓reduceIte]
   refine hK _ ?_
   clear hK K
   refine AW.ret ?_
   simp -implicitDefEqProofs only[go_sem,seval,↓reduceIte]
   refine endK_some ?_
   rw [hkd]
  by_cases hs2:¬ a=b
  ·have s0:(a==b)=false:=by simpa using hs2
   have hkd:res=0:=by
    rw [hP];exact kd_2 (by omega) (by omega) (by repeat' split<;>omega)
   refine AW.seq_k fun K hK=>AW.region (by kernel_rfl) ?_
   simp -implicitDefEqProofs only[go_sem,seval,↓reduceIte,f0,f1,f2,f3,f4,f5,f6,f7,f8,f9,f10,f11,f12,f13,f14,s0]
   refine hK _ ?_
   clear hK K
   refine AW.condS (by simp -implicitDefEqProofs only[go_sem,seval,↓reduceIte];rfl) (fun h42=>?_) (fun h42=>?_)
   ·cases h42
   refine AW.seq_k fun K hK=>AW.region (by kernel_rfl) ?_
   simp -implicitDefEqProofs only[go_sem,seval,↓reduceIte,f0,f1,f2,f3,f4,f5,f6,f7,f8,f9,f10,f11,f12,f13,f14,s0]
   refine hK _ ?_
   clear hK K
   refine AW.condS (by simp -implicitDefEqProofs only[go_sem,seval,↓reduceIte];rfl) (fun h55=>?_) (fun h55=>?_)
   ·cases h55
   refine AW.seq_k fun K hK=>AW.region (by kernel_rfl) ?_
   simp -implicitDefEqProofs only[go_sem,seval,↓reduceIte,f0,f1,f2,f3,f4,f5,f6,f7,f8,f9,f10,f11,f12,f13,f14,s0]
   refine hK _ ?_
   clear hK K
   refine AW.condS (by simp -implicitDefEqProofs only[go_sem,seval,↓reduceIte];rfl) (fun h62=>?_) (fun h62=>?_)
   ·cases h62
   refine AW.seq_k fun K hK=>AW.region (by kernel_rfl) ?_
   simp -implicitDefEqProofs only[go_sem,seval,↓reduceIte,f0,f1,f2,f3,f4,f5,f6,f7,f8,f9,f10,f11,f12,f13,f14,s0]
   refine hK _ ?_
   clear hK K
   refine AW.condS (by simp -implicitDefEqProofs only[go_sem,seval,↓reduceIte];rfl) (fun h85=>?_) (fun h85=>?_)
   ·cases h85
   refine AW.seq_k fun K hK=>AW.region (by kernel_rfl) ?_
   simp -implicitDefEqProofs only[go_sem,seval,↓reduceIte,f0,f1,f2,f3,f4,f5,f6,f7,f8,f9,f10,f11,f12,f13,f14,s0]
   refine hK _ ?_
   clear hK K
   refine AW.condS (by simp -implicitDefEqProofs only[go_sem,seval,↓reduceIte];rfl) (fun h117=>?_) (fun h117=>?_)
   ·cases h117
   refine AW.seq_k fun K hK=>AW.region (by kernel_rfl) ?_
   simp -implicitDefEqProofs only[go_sem,seval,↓reduceIte,f0,f1,f2,f3,f4,f5,f6,f7,f8,f9,f10,f11,f12,f13,f14,s0]
   refine hK _ ?_
   clear hK K
   refine AW.condS (by simp -implicitDefEqProofs only[go_sem,seval,↓reduceIte];rfl) (fun h140=>?_) (fun h140=>?_)
   ·cases h140
   refine AW.skip ?_
   simp -implicitDefEqProofs only[go_sem,seval,↓reduceIte]
   refine hKB _ ?_
   refine AW.seq_k fun K hK=>AW.region (by kernel_rfl) ?_
   simp -implicitDefEqProofs only[go_sem,seval,↓reduceIte]
   refine hK _ ?_
   clear hK K
   refine AW.ret ?_
   simp -implicitDefEqProofs only[go_sem,seval,↓reduceIte]
   refine endK_some ?_
   rw [hkd]
  exfalso;omega
 by_cases hc17:op=17
 ·have f0:(op==1)=false:=by rw [beq_eq_false_iff_ne];omega
  have f1:(op==2)=false:=by rw [beq_eq_false_iff_ne];omega
  have f2:(op==3)=false:=by rw [beq_eq_false_iff_ne];omega
  have f3:(op==4)=false:=by rw [beq_eq_false_iff_ne];omega
  have f4:(op==5)=false:=by rw [beq_eq_false_iff_ne];omega
  have f5:(op==6)=false:=by rw [beq_eq_false_iff_ne];omega
  have f6:(op==16)=false:=by rw [beq_eq_false_iff_ne];omega
  have f7:(op==17)=true:=by rw [beq_iff_eq];omega
  have f8:(op==22)=false:=by rw [beq_eq_false_iff_ne];omega
  have f9:decide (op≥7)=true:=by rw [decide_eq_true_iff];omega
  have f10:decide (op≥12)=true:=by rw [decide_eq_true_iff];omega
  have f11:decide (op≥18)=false:=by rw [decide_eq_false_iff_not];omega
  have f12:decide (op≤11)=false:=by rw [decide_eq_false_iff_not];omega
  have f13:decide (op≤15)=false:=by rw [decide_eq_false_iff_not];omega
  have f14:decide (op≤21)=true:=by rw [decide_eq_true_iff];omega
  by_cases hs0:a=b∧¬ a=0
  ·have s0:(a==b)=true:=by simpa using hs0.1
   have s1:(a != 0)=true:=by simpa using hs0.2
   have hkd:res=2:=by
    rw [hP];exact kd_2 (by omega) (by omega) (by repeat' split<;>omega)
   refine AW.seq_k fun K hK=>AW.region (by kernel_rfl) ?_
   simp -implicitDefEqProofs only[go_sem,seval,↓reduceIte,f0,f1,f2,f3,f4,f5,f6,f7,f8,f9,f10,f11,f12,f13,f14,s0,s1]
   refine hK _ ?_
   clear hK K
   refine AW.condS (by simp -implicitDefEqProofs only[go_sem,seval,↓reduceIte];rfl) (fun h42=>?_) (fun h42=>?_)
   ·cases h42
   refine AW.seq_k fun K hK=>AW.region (by kernel_rfl) ?_
   simp -implicitDefEqProofs only[go_sem,seval,↓reduceIte,f0,f1,f2,f3,f4,f5,f6,f7,f8,f9,f10,f11,f12,f13,f14,s0,s1]
   refine hK _ ?_
   clear hK K
   refine AW.condS (by simp -implicitDefEqProofs only[go_sem,seval,↓reduceIte];rfl) (fun h55=>?_) (fun h55=>?_)
   ·cases h55
   refine AW.seq_k fun K hK=>AW.region (by kernel_rfl) ?_
   simp -implicitDefEqProofs only[go_sem,seval,↓reduceIte,f0,f1,f2,f3,f4,f5,f6,f7,f8,f9,f10,f11,f12,f13,f14,s0,s1]
   refine hK _ ?_
   clear hK K
   refine AW.condS (by simp -implicitDefEqProofs only[go_sem,seval,↓reduceIte];rfl) (fun h62=>?_) (fun h62=>?_)
   ·cases h62
   refine AW.seq_k fun K hK=>AW.region (by kernel_rfl) ?_
   simp -implicitDefEqProofs only[go_sem,seval,↓reduceIte,f0,f1,f2,f3,f4,f5,f6,f7,f8,f9,f10,f11,f12,f13,f14,s0,s1]
   refine hK _ ?_
   clear hK K
   refine AW.condS (by simp -implicitDefEqProofs only[go_sem,seval,↓reduceIte];rfl) (fun h85=>?_) (fun h85=>?_)
   rotate_left
   ·cases h85
   refine AW.seq_k fun K hK=>AW.region (by kernel_rfl) ?_
   simp -implicitDefEqProofs only[go_sem,seval,↓reduceIte]
   refine hK _ ?_
   clear hK K
   refine AW.ret ?_
   simp -implicitDefEqProofs only[go_sem,seval,↓reduceIte]
   refine endK_some ?_
   rw [hkd]
  by_cases hs1:a=b∧a=0
  ·have s0:(a==b)=true:=by simpa using hs1.1
   have s1:(a != 0)=false:=by simpa using hs1.2
   have hkd:res=0:=by
    rw [hP];exact kd_2 (by omega) (by omega) (by repeat' split<;>omega)
   refine AW.seq_k fun K hK=>AW.region (by kernel_rfl) ?_
   simp -implicitDefEqProofs only[go_sem,seval,↓reduceIte,f0,f1,f2,f3,f4,f5,f6,f7,f8,f9,f10,f11,f12,f13,f14,s0,s1]
   refine hK _ ?_
   clear hK K
   refine AW.condS (by simp -implicitDefEqProofs only[go_sem,seval,↓reduceIte];rfl) (fun h42=>?_) (fun h42=>?_)
   ·cases h42
   refine AW.seq_k fun K hK=>AW.region (by kernel_rfl) ?_
   simp -implicitDefEqProofs only[go_sem,seval,↓reduceIte,f0,f1,f2,f3,f4,f5,f6,f7,f8,f9,f10,f11,f12,f13,f14,s0,s1]
   refine hK _ ?_
   clear hK K
   refine AW.condS (by simp -implicitDefEqProofs only[go_sem,seval,↓reduceIte];rfl) (fun h55=>?_) (fun h55=>?_)
   ·cases h55
   refine AW.seq_k fun K hK=>AW.region (by kernel_rfl) ?_
   simp -implicitDefEqProofs only[go_sem,seval,↓reduceIte,f0,f1,f2,f3,f4,f5,f6,f7,f8,f9,f10,f11,f12,f13,f14,s0,s1]
   refine hK _ ?_
   clear hK K
   refine AW.condS (by simp -implicitDefEqProofs only[go_sem,seval,↓reduceIte];rfl) (fun h62=>?_) (fun h62=>?_)
   ·cases h62
   refine AW.seq_k fun K hK=>AW.region (by kernel_rfl) ?_
   simp -implicitDefEqProofs only[go_sem,seval,↓reduceIte,f0,f1,f2,f3,f4,f5,f6,f7,f8,f9,f10,f11,f12,f13,f14,s0,s1]
   refine hK _ ?_
   clear hK K
   refine AW.condS (by simp -implicitDefEqProofs only[go_sem,seval,↓reduceIte];rfl) (fun h85=>?_) (fun h85=>?_)
   ·cases h85
   refine AW.seq_k fun K hK=>AW.region (by kernel_rfl) ?_
   simp -implicitDefEqProofs only[go_sem,seval,↓reduceIte,f0,f1,f2,f3,f4,f5,f6,f7,f8,f9,f10,f11,f12,f13,f14,s0,s1]
   refine hK _ ?_
   clear hK K
   refine AW.condS (by simp -implicitDefEqProofs only[go_sem,seval,↓reduceIte];rfl) (fun h117=>?_) (fun h117=>?_)
   ·cases h117
   refine AW.seq_k fun K hK=>AW.region (by kernel_rfl) ?_
   simp -implicitDefEqProofs only[go_sem,seval,↓reduceIte,f0,f1,f2,f3,f4,f5,f6,f7,f8,f9,f10,f11,f12,f13,f14,s0,s1]
   refine hK _ ?_
   clear hK K
   refine AW.condS (by simp -implicitDefEqProofs only[go_sem,seval,↓reduceIte];rfl) (fun h140=>?_) (fun h140=>?_)
   ·cases h140
   refine AW.skip ?_
   simp -implicitDefEqProofs only[go_sem,seval,↓reduceIte]
   refine hKB _ ?_
   refine AW.seq_k fun K hK=>AW.region (by kernel_rfl) ?_
   simp -implicitDefEqProofs only[go_sem,seval,↓reduceIte]
   refine hK _ ?_
   clear hK K
   refine AW.ret ?_
   simp -implicitDefEqProofs only[go_sem,seval,↓reduceIte]
   refine endK_some ?_
   rw [hkd]
  by_cases hs2:¬ a=b
  ·have s0:(a==b)=false:=by simpa using hs2
   have hkd:res=0:=by
    rw [hP];exact kd_2 (by omega) (by omega) (by repeat' split<;>omega)
   refine AW.seq_k fun K hK=>AW.region (by kernel_rfl) ?_
   simp -implicitDefEqProofs only[go_sem,seval,↓reduceIte,f0,f1,f2,f3,f4,f5,f6,f7,f8,f9,f10,f11,f12,f13,f14,s0]
   refine hK _ ?_
   clear hK K
   refine AW.condS (by simp -implicitDefEqProofs only[go_sem,seval,↓reduceIte];rfl) (fun h42=>?_) (fun h42=>?_)
   ·cases h42
   refine AW.seq_k fun K hK=>AW.region (by kernel_rfl) ?_
   simp -implicitDefEqProofs only[go_sem,seval,↓reduceIte,f0,f1,f2,f3,f4,f5,f6,f7,f8,f9,f10,f11,f12,f13,f14,s0]
   refine hK _ ?_
   clear hK K
   refine AW.condS (by simp -implicitDefEqProofs only[go_sem,seval,↓reduceIte];rfl) (fun h55=>?_) (fun h55=>?_)
   ·cases h55
   refine AW.seq_k fun K hK=>AW.region (by kernel_rfl) ?_
   simp -implicitDefEqProofs only[go_sem,seval,↓reduceIte,f0,f1,f2,f3,f4,f5,f6,f7,f8,f9,f10,f11,f12,f13,f14,s0]
   refine hK _ ?_
   clear hK K
   refine AW.condS (by simp -implicitDefEqProofs only[go_sem,seval,↓reduceIte];rfl) (fun h62=>?_) (fun h62=>?_)
   ·cases h62
   refine AW.seq_k fun K hK=>AW.region (by kernel_rfl) ?_
   simp -implicitDefEqProofs only[go_sem,seval,↓reduceIte,f0,f1,f2,f3,f4,f5,f6,f7,f8,f9,f10,f11,f12,f13,f14,s0]
   refine hK _ ?_
   clear hK K
   refine AW.condS (by simp -implicitDefEqProofs only[go_sem,seval,↓reduceIte];rfl) (fun h85=>?_) (fun h85=>?_)
   ·cases h85
   refine AW.seq_k fun K hK=>AW.region (by kernel_rfl) ?_
   simp -implicitDefEqProofs only[go_sem,seval,↓reduceIte,f0,f1,f2,f3,f4,f5,f6,f7,f8,f9,f10,f11,f12,f13,f14,s0]
   refine hK _ ?_
   clear hK K
   refine AW.condS (by simp -implicitDefEqProofs only[go_sem,seval,↓reduceIte];rfl) (fun h117=>?_) (fun h117=>?_)
   ·cases h117
   refine AW.seq_k fun K hK=>AW.region (by kernel_rfl) ?_
   simp -implicitDefEqProofs only[go_sem,seval,↓reduceIte,f0,f1,f2,f3,f4,f5,f6,f7,f8,f9,f10,f11,f12,f13,f14,s0]
   refine hK _ ?_
   clear hK K
   refine AW.condS (by simp -implicitDefEqProofs only[go_sem,seval,↓reduceIte];rfl) (fun h140=>?_) (fun h140=>?_)
   ·cases h140
   refine AW.skip ?_
   simp -implicitDefEqProofs only[go_sem,seval,↓reduceIte]
   refine hKB _ ?_
   refine AW.seq_k fun K hK=>AW.region (by kernel_rfl) ?_
   simp -implicitDefEqProofs only[go_sem,seval,↓reduceIte]
   refine hK _ ?_
   clear hK K
   refine AW.ret ?_
   simp -implicitDefEqProofs only[go_sem,seval,↓reduceIte]
   refine endK_some ?_
   rw [hkd]
  exfalso;omega
 by_cases hc18:18≤op∧op≤21
 ·have f0:(op==1)=false:=by rw [beq_eq_false_iff_ne];omega
  have f1:(op==2)=false:=by rw [beq_eq_false_iff_ne];omega
  have f2:(op==3)=false:=by rw [beq_eq_false_iff_ne];omega
  have f3:(op==4)=false:=by rw [beq_eq_false_iff_ne];omega
  have f4:(op==5)=false:=by rw [beq_eq_false_iff_ne];omega
  have f5:(op==6)=false:=by rw [beq_eq_false_iff_ne];omega
  have f6:(op==16)=false:=by rw [beq_eq_false_iff_ne];omega
  have f7:(op==17)=false:=by rw [beq_eq_false_iff_ne];omega
  have f8:(op==22)=false:=by rw [beq_eq_false_iff_ne];omega
  have f9:decide (op≥7)=true:=by rw [decide_eq_true_iff];omega
  have f10:decide (op≥12)=true:=by rw [decide_eq_true_iff];omega
  have f11:decide (op≥18)=true:=by rw [decide_eq_true_iff];omega
  have f12:decide (op≤11)=false:=by rw [decide_eq_false_iff_not];omega
  have f13:decide (op≤15)=false:=by rw [decide_eq_false_iff_not];omega
  have f14:decide (op≤21)=true:=by rw [decide_eq_true_iff];omega
  by_cases hs0:a=2∧b=2
  ·have s0:(a==2)=true:=by simpa using hs0.1
   have s1:(b==2)=true:=by simpa using hs0.2
   have hkd:res=2:=by
    rw [hP];exact kd_2 (by omega) (by omega) (by repeat' split<;>omega)
   refine AW.seq_k fun K hK=>AW.region (by kernel_rfl) ?_
   simp -implicitDefEqProofs only[go_sem,seval,↓reduceIte,f0,f1,f2,f3,f4,f5,f6,f7,f8,f9,f10,f11,f12,f13,f14,s0,s1]
   refine hK _ ?_
   clear hK K
   refine AW.condS (by simp -implicitDefEqProofs only[go_sem,seval,↓reduceIte];rfl) (fun h42=>?_) (fun h42=>?_)
   ·cases h42
   refine AW.seq_k fun K hK=>AW.region (by kernel_rfl) ?_
   simp -implicitDefEqProofs only[go_sem,seval,↓reduceIte,f0,f1,f2,f3,f4,f5,f6,f7,f8,f9,f10,f11,f12,f13,f14,s0,s1]
   refine hK _ ?_
   clear hK K
   refine AW.condS (by simp -implicitDefEqProofs only[go_sem,seval,↓reduceIte];rfl) (fun h55=>?_) (fun h55=>?_)
   ·cases h55
   refine AW.seq_k fun K hK=>AW.region (by kernel_rfl) ?_
   simp -implicitDefEqProofs only[go_sem,seval,↓reduceIte,f0,f1,f2,f3,f4,f5,f6,f7,f8,f9,f10,f11,f12,f13,f14,s0,s1]
   refine hK _ ?_
   clear hK K
   refine AW.condS (by simp -implicitDefEqProofs only[go_sem,seval,↓reduceIte];rfl) (fun h62=>?_) (fun h62=>?_)
   ·cases h62
   refine AW.seq_k fun K hK=>AW.region (by kernel_rfl) ?_
   simp -implicitDefEqProofs only[go_sem,seval,↓reduceIte,f0,f1,f2,f3,f4,f5,f6,f7,f8,f9,f10,f11,f12,f13,f14,s0,s1]
   refine hK _ ?_
   clear hK K
   refine AW.condS (by simp -implicitDefEqProofs only[go_sem,seval,↓reduceIte];rfl) (fun h85=>?_) (fun h85=>?_)
   ·cases h85
   refine AW.seq_k fun K hK=>AW.region (by kernel_rfl) ?_
   simp -implicitDefEqProofs only[go_sem,seval,↓reduceIte,f0,f1,f2,f3,f4,f5,f6,f7,f8,f9,f10,f11,f12,f13,f14,s0,s1]
   refine hK _ ?_
   clear hK K
   refine AW.condS (by simp -implicitDefEqProofs only[go_sem,seval,↓reduceIte];rfl) (fun h117=>?_) (fun h117=>?_)
   rotate_left
   ·cases h117
   refine AW.seq_k fun K hK=>AW.region (by kernel_rfl) ?_
   simp -implicitDefEqProofs only[go_sem,seval,↓reduceIte]
   refine hK _ ?_
   clear hK K
   refine AW.ret ?_
   simp -implicitDefEqProofs only[go_sem,seval,↓reduceIte]
   refine endK_some ?_
   rw [hkd]
  by_cases hs1:a=2∧¬ b=2
  ·have s0:(a==2)=true:=by simpa using hs1.1
   have s1:(b==2)=false:=by simpa using hs1.2
   have hkd:res=0:=by
    rw [hP];exact kd_2 (by omega) (by omega) (by repeat' split<;>omega)
   refine AW.seq_k fun K hK=>AW.region (by kernel_rfl) ?_
   simp -implicitDefEqProofs only[go_sem,seval,↓reduceIte,f0,f1,f2,f3,f4,f5,f6,f7,f8,f9,f10,f11,f12,f13,f14,s0,s1]
   refine hK _ ?_
   clear hK K
   refine AW.condS (by simp -implicitDefEqProofs only[go_sem,seval,↓reduceIte];rfl) (fun h42=>?_) (fun h42=>?_)
   ·cases h42
   refine AW.seq_k fun K hK=>AW.region (by kernel_rfl) ?_
   simp -implicitDefEqProofs only[go_sem,seval,↓reduceIte,f0,f1,f2,f3,f4,f5,f6,f7,f8,f9,f10,f11,f12,f13,f14,s0,s1]
   refine hK _ ?_
   clear hK K
   refine AW.condS (by simp -implicitDefEqProofs only[go_sem,seval,↓reduceIte];rfl) (fun h55=>?_) (fun h55=>?_)
   ·cases h55
   refine AW.seq_k fun K hK=>AW.region (by kernel_rfl) ?_
   simp -implicitDefEqProofs only[go_sem,seval,↓reduceIte,f0,f1,f2,f3,f4,f5,f6,f7,f8,f9,f10,f11,f12,f13,f14,s0,s1]
   refine hK _ ?_
   clear hK K
   refine AW.condS (by simp -implicitDefEqProofs only[go_sem,seval,↓reduceIte];rfl) (fun h62=>?_) (fun h62=>?_)
   ·cases h62
   refine AW.seq_k fun K hK=>AW.region (by kernel_rfl) ?_
   simp -implicitDefEqProofs only[go_sem,seval,↓reduceIte,f0,f1,f2,f3,f4,f5,f6,f7,f8,f9,f10,f11,f12,f13,f14,s0,s1]
   refine hK _ ?_
   clear hK K
   refine AW.condS (by simp -implicitDefEqProofs only[go_sem,seval,↓reduceIte];rfl) (fun h85=>?_) (fun h85=>?_)
   ·cases h85
   refine AW.seq_k fun K hK=>AW.region (by kernel_rfl) ?_
   simp -implicitDefEqProofs only[go_sem,seval,↓reduceIte,f0,f1,f2,f3,f4,f5,f6,f7,f8,f9,f10,f11,f12,f13,f14,s0,s1]
   refine hK _ ?_
   clear hK K
   refine AW.condS (by simp -implicitDefEqProofs only[go_sem,seval,↓reduceIte];rfl) (fun h117=>?_) (fun h117=>?_)
   ·cases h117
   refine AW.seq_k fun K hK=>AW.region (by kernel_rfl) ?_
   simp -implicitDefEqProofs only[go_sem,seval,↓reduceIte,f0,f1,f2,f3,f4,f5,f6,f7,f8,f9,f10,f11,f12,f13,f14,s0,s1]
   refine hK _ ?_
   clear hK K
   refine AW.condS (by simp -implicitDefEqProofs only[go_sem,seval,↓reduceIte];rfl) (fun h140=>?_) (fun h140=>?_)
   ·cases h140
   refine AW.skip ?_
   simp -implicitDefEqProofs only[go_sem,seval,↓reduceIte]
   refine hKB _ ?_
   refine AW.seq_k fun K hK=>AW.region (by kernel_rfl) ?_
   simp -implicitDefEqProofs only[go_sem,seval,↓reduceIte]
   refine hK _ ?_
   clear hK K
   refine AW.ret ?_
   simp -implicitDefEqProofs only[go_sem,seval,↓reduceIte]
   refine endK_some ?_
   rw [hkd]
  by_cases hs2:¬ a=2
  ·have s0:(a==2)=false:=by simpa using hs2
   have hkd:res=0:=by
    rw [hP];exact kd_2 (by omega) (by omega) (by repeat' split<;>omega)
   refine AW.seq_k fun K hK=>AW.region (by kernel_rfl) ?_
   simp -implicitDefEqProofs only[go_sem,seval,↓reduceIte,f0,f1,f2,f3,f4,f5,f6,f7,f8,f9,f10,f11,f12,f13,f14,s0]
   refine hK _ ?_
   clear hK K
   refine AW.condS (by simp -implicitDefEqProofs only[go_sem,seval,↓reduceIte];rfl) (fun h42=>?_) (fun h42=>?_)
   ·cases h42
   refine AW.seq_k fun K hK=>AW.region (by kernel_rfl) ?_
   simp -implicitDefEqProofs only[go_sem,seval,↓reduceIte,f0,f1,f2,f3,f4,f5,f6,f7,f8,f9,f10,f11,f12,f13,f14,s0]
   refine hK _ ?_
   clear hK K
   refine AW.condS (by simp -implicitDefEqProofs only[go_sem,seval,↓reduceIte];rfl) (fun h55=>?_) (fun h55=>?_)
   ·cases h55
   refine AW.seq_k fun K hK=>AW.region (by kernel_rfl) ?_
   simp -implicitDefEqProofs only[go_sem,seval,↓reduceIte,f0,f1,f2,f3,f4,f5,f6,f7,f8,f9,f10,f11,f12,f13,f14,s0]
   refine hK _ ?_
   clear hK K
   refine AW.condS (by simp -implicitDefEqProofs only[go_sem,seval,↓reduceIte];rfl) (fun h62=>?_) (fun h62=>?_)
   ·cases h62
   refine AW.seq_k fun K hK=>AW.region (by kernel_rfl) ?_
   simp -implicitDefEqProofs only[go_sem,seval,↓reduceIte,f0,f1,f2,f3,f4,f5,f6,f7,f8,f9,f10,f11,f12,f13,f14,s0]
   refine hK _ ?_
   clear hK K
   refine AW.condS (by simp -implicitDefEqProofs only[go_sem,seval,↓reduceIte];rfl) (fun h85=>?_) (fun h85=>?_)
   ·cases h85
   refine AW.seq_k fun K hK=>AW.region (by kernel_rfl) ?_
   simp -implicitDefEqProofs only[go_sem,seval,↓reduceIte,f0,f1,f2,f3,f4,f5,f6,f7,f8,f9,f10,f11,f12,f13,f14,s0]
   refine hK _ ?_
   clear hK K
   refine AW.condS (by simp -implicitDefEqProofs only[go_sem,seval,↓reduceIte];rfl) (fun h117=>?_) (fun h117=>?_)
   ·cases h117
   refine AW.seq_k fun K hK=>AW.region (by kernel_rfl) ?_
   simp -implicitDefEqProofs only[go_sem,seval,↓reduceIte,f0,f1,f2,f3,f4,f5,f6,f7,f8,f9,f10,f11,f12,f13,f14,s0]
   refine hK _ ?_
   clear hK K
   refine AW.condS (by simp -implicitDefEqProofs only[go_sem,seval,↓reduceIte];rfl) (fun h140=>?_) (fun h140=>?_)
   ·cases h140
   refine AW.skip ?_
   simp -implicitDefEqProofs only[go_sem,seval,↓reduceIte]
   refine hKB _ ?_
   refine AW.seq_k fun K hK=>AW.region (by kernel_rfl) ?_
   simp -implicitDefEqProofs only[go_sem,seval,↓reduceIte]
   refine hK _ ?_
   clear hK K
   refine AW.ret ?_
   simp -implicitDefEqProofs only[go_sem,seval,↓reduceIte]
   refine endK_some ?_
   rw [hkd]
  exfalso;omega
 by_cases hc22:op=22
 ·have f0:(op==1)=false:=by rw [beq_eq_false_iff_ne];omega
  have f1:(op==2)=false:=by rw [beq_eq_false_iff_ne];omega
  have f2:(op==3)=false:=by rw [beq_eq_false_iff_ne];omega
  have f3:(op==4)=false:=by rw [beq_eq_false_iff_ne];omega
  have f4:(op==5)=false:=by rw [beq_eq_false_iff_ne];omega
  have f5:(op==6)=false:=by rw [beq_eq_false_iff_ne];omega
  have f6:(op==16)=false:=by rw [beq_eq_false_iff_ne];omega
  have f7:(op==17)=false:=by rw [beq_eq_false_iff_ne];omega
  have f8:(op==22)=true:=by rw [beq_iff_eq];omega
  have f9:decide (op≥7)=true:=by rw [decide_eq_true_iff];omega
  have f10:decide (op≥12)=true:=by rw [decide_eq_true_iff];omega
  have f11:decide (op≥18)=true:=by rw [decide_eq_true_iff];omega
  have f12:decide (op≤11)=false:=by rw [decide_eq_false_iff_not];omega
  have f13:decide (op≤15)=false:=by rw [decide_eq_false_iff_not];omega
  have f14:decide (op≤21)=false:=by rw [decide_eq_false_iff_not];omega
  by_cases hs0:a=2∧b=c
  ·have s0:(a==2)=true:=by simpa using hs0.1
   have s1:(b==c)=true:=by simpa using hs0.2
   have hkd:res=b:=by
    rw [hP];exact kd_2 (by omega) (by omega) (by repeat' split<;>omega)
   refine AW.seq_k fun K hK=>AW.region (by kernel_rfl) ?_
   simp -implicitDefEqProofs only[go_sem,seval,↓reduceIte,f0,f1,f2,f3,f4,f5,f6,f7,f8,f9,f10,f11,f12,f13,f14,s0,s1]
   refine hK _ ?_
   clear hK K
   refine AW.condS (by simp -implicitDefEqProofs only[go_sem,seval,↓reduceIte];rfl) (fun h42=>?_) (fun h42=>?_)
   ·cases h42
   refine AW.seq_k fun K hK=>AW.region (by kernel_rfl) ?_
   simp -implicitDefEqProofs only[go_sem,seval,↓reduceIte,f0,f1,f2,f3,f4,f5,f6,f7,f8,f9,f10,f11,f12,f13,f14,s0,s1]
   refine hK _ ?_
   clear hK K
   refine AW.condS (by simp -implicitDefEqProofs only[go_sem,seval,↓reduceIte];rfl) (fun h55=>?_) (fun h55=>?_)
   ·cases h55
   refine AW.seq_k fun K hK=>AW.region (by kernel_rfl) ?_
   simp -implicitDefEqProofs only[go_sem,seval,↓reduceIte,f0,f1,f2,f3,f4,f5,f6,f7,f8,f9,f10,f11,f12,f13,f14,s0,s1]
   refine hK _ ?_
   clear hK K
   refine AW.condS (by simp -implicitDefEqProofs only[go_sem,seval,↓reduceIte];rfl) (fun h62=>?_) (fun h62=>?_)
   ·cases h62
   refine AW.seq_k fun K hK=>AW.region (by kernel_rfl) ?_
   simp -implicitDefEqProofs only[go_sem,seval,↓reduceIte,f0,f1,f2,f3,f4,f5,f6,f7,f8,f9,f10,f11,f12,f13,f14,s0,s1]
   refine hK _ ?_
   clear hK K
   refine AW.condS (by simp -implicitDefEqProofs only[go_sem,seval,↓reduceIte];rfl) (fun h85=>?_) (fun h85=>?_)
   ·cases h85
   refine AW.seq_k fun K hK=>AW.region (by kernel_rfl) ?_
   simp -implicitDefEqProofs only[go_sem,seval,↓reduceIte,f0,f1,f2,f3,f4,f5,f6,f7,f8,f9,f10,f11,f12,f13,f14,s0,s1]
   refine hK _ ?_
   clear hK K
   refine AW.condS (by simp -implicitDefEqProofs only[go_sem,seval,↓reduceIte];rfl) (fun h117=>?_) (fun h117=>?_)
   ·cases h117
   refine AW.seq_k fun K hK=>AW.region (by kernel_rfl) ?_
   simp -implicitDefEqProofs only[go_sem,seval,↓reduceIte,f0,f1,f2,f3,f4,f5,f6,f7,f8,f9,f10,f11,f12,f13,f14,s0,s1]
   refine hK _ ?_
   clear hK K
   refine AW.condS (by simp -implicitDefEqProofs only[go_sem,seval,↓reduceIte];rfl) (fun h140=>?_) (fun h140=>?_)
   rotate_left
   ·cases h140
   refine AW.seq_k fun K hK=>AW.region (by kernel_rfl) ?_
   simp -implicitDefEqProofs only[go_sem,seval,↓reduceIte]
   refine hK _ ?_
   clear hK K
   refine AW.ret ?_
   simp -implicitDefEqProofs only[go_sem,seval,↓reduceIte]
   refine endK_some ?_
   rw [hkd]
  by_cases hs1:a=2∧¬ b=c
  ·have s0:(a==2)=true:=by simpa using hs1.1
   have s1:(b==c)=false:=by simpa using hs1.2
   have hkd:res=0:=by
    rw [hP];exact kd_2 (by omega) (by omega) (by repeat' split<;>omega)
   refine AW.seq_k fun K hK=>AW.region (by kernel_rfl) ?_
   simp -implicitDefEqProofs only[go_sem,seval,↓reduceIte,f0,f1,f2,f3,f4,f5,f6,f7,f8,f9,f10,f11,f12,f13,f14,s0,s1]
   refine hK _ ?_
   clear hK K
   refine AW.condS (by simp -implicitDefEqProofs only[go_sem,seval,↓reduceIte];rfl) (fun h42=>?_) (fun h42=>?_)
   ·cases h42
   refine AW.seq_k fun K hK=>AW.region (by kernel_rfl) ?_
   simp -implicitDefEqProofs only[go_sem,seval,↓reduceIte,f0,f1,f2,f3,f4,f5,f6,f7,f8,f9,f10,f11,f12,f13,f14,s0,s1]
   refine hK _ ?_
   clear hK K
   refine AW.condS (by simp -implicitDefEqProofs only[go_sem,seval,↓reduceIte];rfl) (fun h55=>?_) (fun h55=>?_)
   ·cases h55
   refine AW.seq_k fun K hK=>AW.region (by kernel_rfl) ?_
   simp -implicitDefEqProofs only[go_sem,seval,↓reduceIte,f0,f1,f2,f3,f4,f5,f6,f7,f8,f9,f10,f11,f12,f13,f14,s0,s1]
   refine hK _ ?_
   clear hK K
   refine AW.condS (by simp -implicitDefEqProofs only[go_sem,seval,↓reduceIte];rfl) (fun h62=>?_) (fun h62=>?_)
   ·cases h62
   refine AW.seq_k fun K hK=>AW.region (by kernel_rfl) ?_
   simp -implicitDefEqProofs only[go_sem,seval,↓reduceIte,f0,f1,f2,f3,f4,f5,f6,f7,f8,f9,f10,f11,f12,f13,f14,s0,s1]
   refine hK _ ?_
   clear hK K
   refine AW.condS (by simp -implicitDefEqProofs only[go_sem,seval,↓reduceIte];rfl) (fun h85=>?_) (fun h85=>?_)
   ·cases h85
   refine AW.seq_k fun K hK=>AW.region (by kernel_rfl) ?_
   simp -implicitDefEqProofs only[go_sem,seval,↓reduceIte,f0,f1,f2,f3,f4,f5,f6,f7,f8,f9,f10,f11,f12,f13,f14,s0,s1]
   refine hK _ ?_
   clear hK K
   refine AW.condS (by simp -implicitDefEqProofs only[go_sem,seval,↓reduceIte];rfl) (fun h117=>?_) (fun h117=>?_)
   ·cases h117
   refine AW.seq_k fun K hK=>AW.region (by kernel_rfl) ?_
   simp -implicitDefEqProofs only[go_sem,seval,↓reduceIte,f0,f1,f2,f3,f4,f5,f6,f7,f8,f9,f10,f11,f12,f13,f14,s0,s1]
   refine hK _ ?_
   clear hK K
   refine AW.condS (by simp -implicitDefEqProofs only[go_sem,seval,↓reduceIte];rfl) (fun h140=>?_) (fun h140=>?_)
   ·cases h140
   refine AW.skip ?_
   simp -implicitDefEqProofs only[go_sem,seval,↓reduceIte]
   refine hKB _ ?_
   refine AW.seq_k fun K hK=>AW.region (by kernel_rfl) ?_
   simp -implicitDefEqProofs only[go_sem,seval,↓reduceIte]
   refine hK _ ?_
   clear hK K
   refine AW.ret ?_
   simp -implicitDefEqProofs only[go_sem,seval,↓reduceIte]
   refine endK_some ?_
   rw [hkd]
  by_cases hs2:¬ a=2
  ·have s0:(a==2)=false:=by simpa using hs2
   have hkd:res=0:=by
    rw [hP];exact kd_2 (by omega) (by omega) (by repeat' split<;>omega)
   refine AW.seq_k fun K hK=>AW.region (by kernel_rfl) ?_
   simp -implicitDefEqProofs only[go_sem,seval,↓reduceIte,f0,f1,f2,f3,f4,f5,f6,f7,f8,f9,f10,f11,f12,f13,f14,s0]
   refine hK _ ?_
   clear hK K
   refine AW.condS (by simp -implicitDefEqProofs only[go_sem,seval,↓reduceIte];rfl) (fun h42=>?_) (fun h42=>?_)
   ·cases h42
   refine AW.seq_k fun K hK=>AW.region (by kernel_rfl) ?_
   simp -implicitDefEqProofs only[go_sem,seval,↓reduceIte,f0,f1,f2,f3,f4,f5,f6,f7,f8,f9,f10,f11,f12,f13,f14,s0]
   refine hK _ ?_
   clear hK K
   refine AW.condS (by simp -implicitDefEqProofs only[go_sem,seval,↓reduceIte];rfl) (fun h55=>?_) (fun h55=>?_)
   ·cases h55
   refine AW.seq_k fun K hK=>AW.region (by kernel_rfl) ?_
   simp -implicitDefEqProofs only[go_sem,seval,↓reduceIte,f0,f1,f2,f3,f4,f5,f6,f7,f8,f9,f10,f11,f12,f13,f14,s0]
   refine hK _ ?_
   clear hK K
   refine AW.condS (by simp -implicitDefEqProofs only[go_sem,seval,↓reduceIte];rfl) (fun h62=>?_) (fun h62=>?_)
   ·cases h62
   refine AW.seq_k fun K hK=>AW.region (by kernel_rfl) ?_
   simp -implicitDefEqProofs only[go_sem,seval,↓reduceIte,f0,f1,f2,f3,f4,f5,f6,f7,f8,f9,f10,f11,f12,f13,f14,s0]
   refine hK _ ?_
   clear hK K
   refine AW.condS (by simp -implicitDefEqProofs only[go_sem,seval,↓reduceIte];rfl) (fun h85=>?_) (fun h85=>?_)
   ·cases h85
   refine AW.seq_k fun K hK=>AW.region (by kernel_rfl) ?_
   simp -implicitDefEqProofs only[go_sem,seval,↓reduceIte,f0,f1,f2,f3,f4,f5,f6,f7,f8,f9,f10,f11,f12,f13,f14,s0]
   refine hK _ ?_
   clear hK K
   refine AW.condS (by simp -implicitDefEqProofs only[go_sem,seval,↓reduceIte];rfl) (fun h117=>?_) (fun h117=>?_)
   ·cases h117
   refine AW.seq_k fun K hK=>AW.region (by kernel_rfl) ?_
   simp -implicitDefEqProofs only[go_sem,seval,↓reduceIte,f0,f1,f2,f3,f4,f5,f6,f7,f8,f9,f10,f11,f12,f13,f14,s0]
   refine hK _ ?_
   clear hK K
   refine AW.condS (by simp -implicitDefEqProofs only[go_sem,seval,↓reduceIte];rfl) (fun h140=>?_) (fun h140=>?_)
   ·cases h140
   refine AW.skip ?_
   simp -implicitDefEqProofs only[go_sem,seval,↓reduceIte]
   refine hKB _ ?_
   refine AW.seq_k fun K hK=>AW.region (by kernel_rfl) ?_
   simp -implicitDefEqProofs only[go_sem,seval,↓reduceIte]
   refine hK _ ?_
   clear hK K
   refine AW.ret ?_
   simp -implicitDefEqProofs only[go_sem,seval,↓reduceIte]
   refine endK_some ?_
   rw [hkd]
  exfalso;omega
 exfalso;omega
end Go.Hs
end

section
namespace Go.Hs
open Go.Proofs
set_option maxRecDepth 10000
theorem rKind_at (G:Nat→V) (hG:GOk G) (s:Sl XN) (names:Sl (List UInt8)) (hnl:names.l.length<1000000):∀ (x:X) (b:Nat),At s.l x b→x.ok=true→kn0 s names G ((b:Int)+x.size-1) (kindX names.l x)
 | .leaf op num name,b,h,ho=>by
  simp only [X.ok,Bool.and_eq_true,decide_eq_true_eq] at ho
  have hr:=well_range ho.1
  have:=rKind_step G hG s names hnl b _ h.get hr 0 0 0 (.inl ⟨by show (-1:Int)<0;decide,rfl⟩) (.inl ⟨by show (-1:Int)<0;decide,rfl⟩) (.inl ⟨by show (-1:Int)<0;decide,rfl⟩)
  have e:(b:Int)+(X.leaf op num name).size-1=(b:Nat):=by simp only [X.size];omega
  rw [e];exact this
 | .un op a,b,h,ho=>by
  simp only [X.ok,Bool.and_eq_true,decide_eq_true_eq] at ho
  have ih:=rKind_at G hG s names hnl a b h.un ho.2
  have hp:=a.size_pos
  have:=rKind_step G hG s names hnl _ _ h.get (by show 1≤op∧op≤22;omega) _ 0 0 (.inr ⟨by show (0:Int)≤(b:Int)+a.size-1;omega,ih⟩) (.inl ⟨by show (-1:Int)<0;decide,rfl⟩) (.inl ⟨by show (-1:Int)<0;decide,rfl⟩)
  have e:(b:Int)+(X.un op a).size-1=((b+(X.un op a).size-1:Nat):Int):=by simp only [X.size];omega
  rw [e];exact this
 | .bin op x y,b,h,ho=>by
  simp only [X.ok,Bool.and_eq_true,decide_eq_true_eq] at ho
  obtain ⟨hx,hy⟩:=h.bin
  have ihx:=rKind_at G hG s names hnl x b hx ho.1.2
  have ihy:=rKind_at G hG s names hnl y (b+x.size) hy ho.2
  have hp1:=x.size_pos
  have hp2:=y.size_pos
  rw [show ((b+x.size:Nat):Int)+y.size-1=(b:Int)+x.size+y.size-1 by omega] at ihy
  have:=rKind_step G hG s names hnl _ _ h.get (by show 1≤op∧op≤22;omega) _ _ 0 (.inr ⟨by show (0:Int)≤(b:Int)+x.size-1;omega,ihx⟩) (.inr ⟨by show (0:Int)≤(b:Int)+x.size+y.size-1;omega,ihy⟩) (.inl ⟨by show (-1:Int)<0;decide,rfl⟩)
  have e:(b:Int)+(X.bin op x y).size-1=((b+(X.bin op x y).size-1:Nat):Int):=by simp only [X.size];omega
  rw [e];exact this
 | .ite x y z,b,h,ho=>by
  simp only [X.ok,Bool.and_eq_true] at ho
  obtain ⟨hx,hy,hz⟩:=h.ite
  have ihx:=rKind_at G hG s names hnl x b hx ho.1.1
  have ihy:=rKind_at G hG s names hnl y (b+x.size) hy ho.1.2
  have ihz:=rKind_at G hG s names hnl z (b+x.size+y.size) hz ho.2
  have hp1:=x.size_pos
  have hp2:=y.size_pos
  have hp3:=z.size_pos
  rw [show ((b+x.size:Nat):Int)+y.size-1=(b:Int)+x.size+y.size-1 by omega] at ihy
  rw [show ((b+x.size+y.size:Nat):Int)+z.size-1=(b:Int)+x.size+y.size+z.size-1 by omega] at ihz
  have:=rKind_step G hG s names hnl _ _ h.get (by show 1≤(22:Int)∧(22:Int)≤22;decide) _ _ _ (.inr ⟨by show (0:Int)≤(b:Int)+x.size-1;omega,ihx⟩) (.inr ⟨by show (0:Int)≤(b:Int)+x.size+y.size-1;omega,ihy⟩) (.inr ⟨by show (0:Int)≤(b:Int)+x.size+y.size+z.size-1;omega,ihz⟩)
  have e:(b:Int)+(X.ite x y z).size-1=((b+(X.ite x y z).size-1:Nat):Int):=by simp only [X.size];omega
  rw [e];exact this
theorem goX_drop {names:List (List UInt8)} {l:List X} {k:Nat} {y:X} (h:l[k]? = some y) (ks:List Int):goX names (l.drop k) k ks=if kindX names y=0 then ([],(k:Int),90) else goX names (l.drop (k+1)) (k+1:Nat) (ks++[kindX names y]):=by
 obtain ⟨h1,h2⟩:=List.getElem?_eq_some_iff.1 h
 rw [List.drop_eq_getElem_cons h1,h2];rfl
theorem r9Kinds_spec (G:Nat→V) (hG:GOk G) (c c1:Col) (s:Sl XN) (names:Sl (List UInt8)) (hs:s.l.length<1000000) (hnm:∀ n∈s.l,n.name.length<100000) (hnl:names.l.length<1000000) :
  Spec Tryz.prog G 16 [encSl c 6 encXN s,encSl c1 1 V.str names] hNone (fun v _=>v=encKr .new (kindsP names.l s.l)):=by
 refine Spec.of_code' 0 35 [.tmp 4,.tmp 5,.tmp 6] Tryz.func16 rfl rfl rfl rfl fun X=>?_
 have hP:kindsP names.l s.l=if checkP s.l≠0 then ([],0,checkP s.l) else goN names.l s.l 0 []:=rfl
 generalize kindsP names.l s.l=res at hP ⊢
 refine AW.seq_k fun K hK=>AW.region (by kernel_rfl) ?_
 simp -implicitDefEqProofs only[go_sem,seval,↓reduceIte]
 refine hK _ ?_
 clear hK K
 refine AW.seq_k fun K hK=>AW.region (by kernel_rfl) ?_
 simp -implicitDefEqProofs only[go_sem,seval,↓reduceIte]
 refine CallA.pure hG (by kernel_rfl) ?_
 simp -implicitDefEqProofs only[go_sem,seval,↓reduceIte,recol_xns]
 refine (rCheck_spec G hG _ s hs hnm).mono ?_
 rintro _ _ rfl
 simp -implicitDefEqProofs only[go_sem,seval,↓reduceIte]
 refine hK _ ?_
 clear hK K
 refine AW.seq_k fun K1 hK1=>?_
 refine AW.seq_k fun K hK=>AW.region (by kernel_rfl) ?_
 simp -implicitDefEqProofs only[go_sem,seval,↓reduceIte]
 refine hK _ ?_
 clear hK K
 by_cases hc:checkP s.l=0
 rotate_left
 ·have q1:(checkP s.l != 0)=true:=by simpa using hc
  rw [if_pos hc] at hP
  refine AW.condS (by simp -implicitDefEqProofs only[go_sem,seval,↓reduceIte];rfl) (fun h14=>?_) (fun h14=>?_)
  ·refine AW.seq_k fun K hK=>AW.region (by kernel_rfl) ?_
   simp -implicitDefEqProofs only[go_sem,seval,↓reduceIte]
   refine hK _ ?_
   clear hK K
   refine AW.ret ?_
   simp -implicitDefEqProofs only[go_sem,seval,↓reduceIte]
   refine endK_some ?_
   rw [hP];rfl
  ·rw [q1] at h14;cases h14
 have q1:(checkP s.l != 0)=false:=by simpa using hc
 rw [if_neg (by simpa using hc)] at hP
 refine AW.condS (by simp -implicitDefEqProofs only[go_sem,seval,↓reduceIte];rfl) (fun h14=>?_) (fun h14=>?_)
 ·rw [q1] at h14;cases h14
 refine AW.skip ?_
 simp -implicitDefEqProofs only[go_sem,seval,↓reduceIte]
 refine hK1 _ ?_
 have hdep:depthP s.l≠0:=by
  intro h
  rw [checkP,if_pos h] at hc
  cases hc
 obtain ⟨x,hx,hl⟩:=depth_none hdep
 have hat:At s.l x 0:=hl ▸ At.whole x
 have hlen:s.l.length=x.size:=by rw [hl,Go.Hs.X.row_len]
 have hsl:=subs_len x
 have hP2:res=goX names.l (subs x) 0 []:=by
  have:=goN_goX (names:=names.l) x x.size 0 (by omega)
  simp only [List.drop_zero,List.take_zero,List.map_nil] at this
  rw [hP,hl];exact this
 clear hP
 refine AW.seq_k fun K hK=>AW.region (by kernel_rfl) ?_
 simp -implicitDefEqProofs only[go_sem,seval,↓reduceIte]
 refine hK _ ?_
 clear hK K
 refine AW.seq_k fun K2 hK2=>?_
 refine AW.seq_k fun K hK=>AW.region (by kernel_rfl) ?_
 simp -implicitDefEqProofs only[go_sem,seval,↓reduceIte]
 refine hK _ ?_
 clear hK K
 refine AW.block ?_
 refine AW.for s.l.length (fun k (y:Nat × List Int)=>st [(0,encSl c 6 encXN s),(1,encSl c1 1 V.str names),(8,grown 33 y.1 1 y.2),(9,.int .i64 k)] [(33,grownO y.1 (V.int .u8) y.2)])
  (fun k y=>res=goX names.l ((subs x).drop k) k y.2∧y.2.length=k) 0 (0,[]) (Nat.zero_le _) ⟨hP2,rfl⟩
  (Weak.st (by simp -implicitDefEqProofs only[go_sem,seval,↓reduceIte];try rfl) (by simp -implicitDefEqProofs only[go_sem,seval,↓reduceIte];try rfl)) ?_
 rintro k ⟨gx,ks⟩ hk ⟨hR,hkl⟩ L3 hL3
 replace hR:res=goX names.l ((subs x).drop k) k ks:=hR
 replace hkl:ks.length=k:=hkl
 refine AW.seq_k fun K4 hK4=>?_
 refine AW.seq_k fun K hK=>AW.region (by kernel_rfl) ?_
 simp -implicitDefEqProofs only[go_sem,seval,↓reduceIte]
 refine hK _ ?_
 clear hK K
 refine AW.condS (by simp -implicitDefEqProofs only[go_sem,seval,↓reduceIte];rfl) (fun h19=>?_) (fun h19=>?_)
 ·have hk1:k<s.l.length:=by simpa using h19
  obtain ⟨y,b,h1,h2,h3,h4⟩:=sub_at x k (by omega)
  rw [goX_drop h3] at hR
  have hky:=kindX_range names.l y
  have hsp:=rKind_at G hG s names hnl y b (by have:=h1.at hat;rw [Nat.zero_add] at this;exact this) (h1.ok hx)
  rw [show (b:Int)+y.size-1=(k:Int) by omega] at hsp
  refine AW.skip ?_
  simp -implicitDefEqProofs only[go_sem,seval,↓reduceIte]
  refine hK4 _ ?_
  refine AW.seq_k fun K5 hK5=>?_
  refine AW.block ?_
  refine AW.seq_k fun K hK=>AW.region (by kernel_rfl) ?_
  simp -implicitDefEqProofs only[go_sem,seval,↓reduceIte]
  refine CallA.pure hG (by kernel_rfl) ?_
  simp -implicitDefEqProofs only[go_sem,seval,↓reduceIte,recol_xns]
  refine (hsp _ _).mono ?_
  rintro _ _ rfl
  generalize kindX names.l y=v at hR hky ⊢
  simp -implicitDefEqProofs only[go_sem,seval,↓reduceIte]
  refine hK _ ?_
  clear hK K
  refine AW.seq_k fun K6 hK6=>?_
  refine AW.seq_k fun K hK=>AW.region (by kernel_rfl) ?_
  simp -implicitDefEqProofs only[go_sem,seval,↓reduceIte]
  refine hK _ ?_
  clear hK K
  by_cases hv:v=0
  ·have q2:(v==0)=true:=by simpa using hv
   rw [if_pos hv] at hR
   refine AW.condS (by simp -implicitDefEqProofs only[go_sem,seval,↓reduceIte];rfl) (fun h27=>?_) (fun h27=>?_)
   ·refine AW.seq_k fun K hK=>AW.region (by kernel_rfl) ?_
    simp -implicitDefEqProofs only[go_sem,seval,↓reduceIte]
    refine hK _ ?_
    clear hK K
    refine AW.ret ?_
    simp -implicitDefEqProofs only[go_sem,seval,↓reduceIte]
    refine endK_some ?_
    rw [hR];rfl
   ·rw [q2] at h27;cases h27
  have q2:(v==0)=false:=by simpa using hv
  rw [if_neg hv] at hR
  have hw:IntKind.u8.wrap v=v:=by
   have:v=1∨v=2:=by omega
   rcases this with rfl | rfl<;>rfl
  refine AW.condS (by simp -implicitDefEqProofs only[go_sem,seval,↓reduceIte];rfl) (fun h27=>?_) (fun h27=>?_)
  ·rw [q2] at h27;cases h27
  refine AW.skip ?_
  simp -implicitDefEqProofs only[go_sem,seval,↓reduceIte]
  refine hK6 _ ?_
  refine AW.region (by kernel_rfl) ?_
  simp -implicitDefEqProofs only[go_sem,seval,↓reduceIte,hw]
  intro g32
  refine app_grown (f:=V.int .u8) (l:=ks) (l2:=[v]) (g:=gx) cells_u8 rfl rfl rfl (by simp -implicitDefEqProofs only[go_sem,seval,↓reduceIte];try rfl) (roomOk_of (by omega) (by simp;omega)) fun g2=>?_
  simp -implicitDefEqProofs only[go_sem,seval,↓reduceIte]
  refine hK5 _ ?_
  refine AW.region (by kernel_rfl) ?_
  simp -implicitDefEqProofs only[go_sem,seval,↓reduceIte]
  refine hL3 _ ⟨hk1,(g2,ks++[v]),⟨hR,by show (ks++[v]).length=k+1;rw [List.length_append,hkl];rfl⟩,Weak.st (by simp -implicitDefEqProofs only[go_sem,seval,↓reduceIte];exact congrArg _ (w64 (by omega) (by omega))) (by simp -implicitDefEqProofs only[go_sem,seval,↓reduceIte];try rfl)⟩
 ·have hk1:k=s.l.length:=by simp at h19;omega
  refine AW.exit ?_
  simp -implicitDefEqProofs only[go_sem,seval,↓reduceIte]
  refine hK2 _ ?_
  rw [List.drop_of_length_le (by omega)] at hR
  refine AW.weak (Weak.stF (fun o=>o==33) (l:=[(8,encKs .new ks)]) (m:=[]) ?_ trivial) ?_
  ·simp -implicitDefEqProofs only[go_sem,seval,↓reduceIte]
   exact Fz.grown rfl rfl cells_u8
  refine AW.seq_k fun K hK=>AW.region (by kernel_rfl) ?_
  simp -implicitDefEqProofs only[go_sem,seval,↓reduceIte]
  refine hK _ ?_
  clear hK K
  refine AW.ret ?_
  simp -implicitDefEqProofs only[go_sem,seval,↓reduceIte]
  refine endK_some ?_
  rw [hR];rfl
theorem r9Of_spec (G:Nat→V) (hG:GOk G) (c c1:Col) (s:Sl XN) (names:Sl (List UInt8)) (hs:s.l.length<1000000) (hnm:∀ n∈s.l,n.name.length<100000) (hnl:names.l.length<1000000) :
  Spec Tryz.prog G 21 [encSl c 6 encXN s,encSl c1 1 V.str names] hNone (fun v _=>v=encO3 (ofTP names.l s.l)):=by
 refine Spec.of_code' 0 27 [.tmp 4,.tmp 5,.tmp 6] Tryz.func21 rfl rfl rfl rfl fun X=>?_
 have hP:ofTP names.l s.l=if (kindsP names.l s.l).2.2≠0 then (0,(kindsP names.l s.l).2.1,(kindsP names.l s.l).2.2) else ((kindsP names.l s.l).1.getD ((kindsP names.l s.l).1.length-1) 0,0,0):=rfl
 have hKi:=fun c c1=>r9Kinds_spec G hG c c1 s names hs hnm hnl
 have hL:=kindsP_len (names:=names.l) (l:=s.l)
 generalize ofTP names.l s.l=res at hP ⊢
 generalize kindsP names.l s.l=p at hP hKi hL
 obtain ⟨ks,i,e⟩:=p
 simp only at hP hL
 refine AW.seq_k fun K hK=>AW.region (by kernel_rfl) ?_
 simp -implicitDefEqProofs only[go_sem,seval,↓reduceIte]
 refine hK _ ?_
 clear hK K
 refine AW.seq_k fun K hK=>AW.region (by kernel_rfl) ?_
 simp -implicitDefEqProofs only[go_sem,seval,↓reduceIte]
 refine CallA.pure hG (by kernel_rfl) ?_
 simp -implicitDefEqProofs only[go_sem,seval,↓reduceIte,recol_xns]
 refine (hKi _ _).mono ?_
 rintro _ _ rfl
 simp -implicitDefEqProofs only[go_sem,seval,↓reduceIte,encKr,encKs,recol_ks]
 refine hK _ ?_
 clear hK K
 refine AW.seq_k fun K1 hK1=>?_
 refine AW.seq_k fun K hK=>AW.region (by kernel_rfl) ?_
 simp -implicitDefEqProofs only[go_sem,seval,↓reduceIte]
 refine hK _ ?_
 clear hK K
 by_cases he:e=0
 rotate_left
 ·have q1:(e != 0)=true:=by simpa using he
  rw [if_pos he] at hP
  refine AW.condS (by simp -implicitDefEqProofs only[go_sem,seval,↓reduceIte];rfl) (fun h18=>?_) (fun h18=>?_)
  ·refine AW.seq_k fun K hK=>AW.region (by kernel_rfl) ?_
   simp -implicitDefEqProofs only[go_sem,seval,↓reduceIte]
   refine hK _ ?_
   clear hK K
   refine AW.ret ?_
   simp -implicitDefEqProofs only[go_sem,seval,↓reduceIte]
   refine endK_some ?_
   rw [hP];rfl
  ·rw [q1] at h18;cases h18
 have q1:(e != 0)=false:=by simpa using he
 rw [if_neg (by simpa using he)] at hP
 obtain ⟨hl1,hl2⟩:=hL he
 refine AW.condS (by simp -implicitDefEqProofs only[go_sem,seval,↓reduceIte];rfl) (fun h18=>?_) (fun h18=>?_)
 ·rw [q1] at h18;cases h18
 refine AW.skip ?_
 simp -implicitDefEqProofs only[go_sem,seval,↓reduceIte]
 refine hK1 _ ?_
 obtain ⟨m,hm⟩:∃ m:Nat,ks.length=m+1:=⟨ks.length-1,by omega⟩
 have hw:IntKind.i64.wrap ((ks.length:Int)-1)=(m:Int):=by rw [w64 (by omega) (by omega)];omega
 obtain ⟨v,hv⟩:∃ v,ks[m]? = some v:=⟨_,List.getElem?_eq_getElem (by omega)⟩
 have hgd:ks.getD (ks.length-1) 0=v:=by rw [show ks.length-1=m by omega,List.getD_eq_getElem?_getD,hv];rfl
 rw [hgd] at hP
 refine AW.seq_k fun K hK=>AW.region (by kernel_rfl) ?_
 simp -implicitDefEqProofs only[go_sem,seval,↓reduceIte,hw,hv]
 refine hK _ ?_
 clear hK K
 refine AW.ret ?_
 simp -implicitDefEqProofs only[go_sem,seval,↓reduceIte]
 refine endK_some ?_
 rw [hP];rfl
end Go.Hs
end

section
namespace Go.Hs
open Go.Proofs
set_option maxRecDepth 10000
theorem wRef_spec (G:Nat→V) (hG:GOk G) (c:Col) (s:Sl XN) (hs:s.l.length<1000000) :
  Spec Tryz.prog G 17 [.agg [encSl c 6 encXN s]] hNone (fun v _=>v=encXs .new s.l):=by
 refine Spec.of_code' 0 35 [.tmp 2] Tryz.func17 rfl rfl rfl rfl fun X=>?_
 refine AW.seq_k fun K hK=>AW.region (by kernel_rfl) ?_
 simp -implicitDefEqProofs only[go_sem,seval,↓reduceIte]
 intro g1
 refine hK _ ?_
 clear hK K
 refine AW.seq_k fun K hK=>AW.region (by kernel_rfl) ?_
 simp -implicitDefEqProofs only[go_sem,seval,↓reduceIte]
 refine hK _ ?_
 clear hK K
 refine AW.seq_k fun K2 hK2=>?_
 refine AW.seq_k fun K hK=>AW.region (by kernel_rfl) ?_
 simp -implicitDefEqProofs only[go_sem,seval,↓reduceIte]
 refine hK _ ?_
 clear hK K
 refine AW.block ?_
 refine AW.for s.l.length (fun k (gx:Nat)=>st [(1,.ptr 1 g1 0),(3,grown 33 gx 6 (s.l.take k)),(4,.int .i64 k)] [(1,.cells .new g1 0 [encSl c 6 encXN s]),(33,grownO gx encXN (s.l.take k))])
  (fun k _=>True) 0 0 (Nat.zero_le _) trivial
  (Weak.st (by simp -implicitDefEqProofs only[go_sem,seval,↓reduceIte];try rfl) (by simp -implicitDefEqProofs only[go_sem,seval,↓reduceIte];try rfl)) ?_
 intro k gx hk _ L3 hL3
 refine AW.seq_k fun K4 hK4=>?_
 refine AW.seq_k fun K hK=>AW.region (by kernel_rfl) ?_
 simp -implicitDefEqProofs only[go_sem,seval,↓reduceIte]
 refine hK _ ?_
 clear hK K
 refine AW.condS (by simp -implicitDefEqProofs only[go_sem,seval,↓reduceIte];rfl) (fun h10=>?_) (fun h10=>?_)
 ·have hk1:k<s.l.length:=by simpa using h10
  have hg:=List.getElem?_eq_getElem hk1
  have htk:s.l.take (k+1)=s.l.take k++[s.l[k]]:=by rw [List.take_succ_eq_append_getElem hk1]
  have hlt:(s.l.take k).length=k:=by rw [List.length_take];omega
  generalize s.l[k]=n at hg htk
  generalize s.l.take k=ns at htk hlt ⊢
  refine AW.skip ?_
  simp -implicitDefEqProofs only[go_sem,seval,↓reduceIte]
  refine hK4 _ ?_
  refine AW.seq_k fun K5 hK5=>?_
  refine AW.block ?_
  refine AW.seq_k fun K hK=>AW.region (by kernel_rfl) ?_
  simp -implicitDefEqProofs only[go_sem,seval,↓reduceIte,hg,encXN_K]
  intro g5
  refine hK _ ?_
  clear hK K
  refine AW.region (by kernel_rfl) ?_
  simp -implicitDefEqProofs only[go_sem,seval,↓reduceIte]
  intro g32
  refine app_grown (f:=encXN) (l:=ns) (l2:=[n]) (g:=gx) encXN_cells rfl rfl rfl (by simp -implicitDefEqProofs only[go_sem,seval,↓reduceIte];try rfl) (roomOk_of (by omega) (by simp;omega)) fun g2=>?_
  simp -implicitDefEqProofs only[go_sem,seval,↓reduceIte]
  refine hK5 _ ?_
  refine AW.region (by kernel_rfl) ?_
  simp -implicitDefEqProofs only[go_sem,seval,↓reduceIte]
  refine hL3 _ ⟨hk1,g2,trivial,Weak.st (by simp -implicitDefEqProofs only[go_sem,seval,↓reduceIte];exact ⟨by rw [htk],congrArg _ (w64 (by omega) (by omega))⟩) (by simp -implicitDefEqProofs only[go_sem,seval,↓reduceIte];rw [htk];try rfl)⟩
 ·have hk1:k=s.l.length:=by simp at h10;omega
  refine AW.exit ?_
  simp -implicitDefEqProofs only[go_sem,seval,↓reduceIte]
  refine hK2 _ ?_
  rw [hk1,List.take_length]
  refine AW.weak (Weak.stF (fun o=>o==33) (l:=[(3,encXs .new s.l)]) (m:=[]) ?_ trivial) ?_
  ·simp -implicitDefEqProofs only[go_sem,seval,↓reduceIte]
   exact Fz.grown rfl rfl encXN_cells
  refine AW.seq_k fun K hK=>AW.region (by kernel_rfl) ?_
  simp -implicitDefEqProofs only[go_sem,seval,↓reduceIte]
  refine hK _ ?_
  clear hK K
  refine AW.ret ?_
  simp -implicitDefEqProofs only[go_sem,seval,↓reduceIte]
  refine endK_some ?_
  rfl
theorem wKinds_spec (G:Nat→V) (hG:GOk G) (c c1:Col) (s t:Sl Int) (hs:s.l.length<1000000) :
  Spec Tryz.prog G 19 [encSl c 1 (V.int .u8) s,encSl c1 1 (V.int .u8) t] hNone (fun v _=>v = .bool (s.l==t.l)):=by
 refine Spec.of_code' 0 26 [.tmp 4] Tryz.func19 rfl rfl rfl rfl fun X=>?_
 refine AW.seq_k fun K hK=>AW.region (by kernel_rfl) ?_
 simp -implicitDefEqProofs only[go_sem,seval,↓reduceIte]
 refine hK _ ?_
 clear hK K
 refine AW.seq_k fun K1 hK1=>?_
 refine AW.seq_k fun K hK=>AW.region (by kernel_rfl) ?_
 simp -implicitDefEqProofs only[go_sem,seval,↓reduceIte]
 refine hK _ ?_
 clear hK K
 by_cases hl:s.l.length=t.l.length
 rotate_left
 ·have q1:(((s.l.length:Nat):Int) != ((t.l.length:Nat):Int))=true:=by simp;omega
  have hne:(s.l==t.l)=false:=by rw [beq_eq_false_iff_ne];exact fun h=>hl (by rw [h])
  refine AW.condS (by simp -implicitDefEqProofs only[go_sem,seval,↓reduceIte];rfl) (fun h10=>?_) (fun h10=>?_)
  ·refine AW.seq_k fun K hK=>AW.region (by kernel_rfl) ?_
   simp -implicitDefEqProofs only[go_sem,seval,↓reduceIte]
   refine hK _ ?_
   clear hK K
   refine AW.ret ?_
   simp -implicitDefEqProofs only[go_sem,seval,↓reduceIte]
   refine endK_some ?_
   rw [hne]
  ·rw [q1] at h10;cases h10
 have q1:(((s.l.length:Nat):Int) != ((t.l.length:Nat):Int))=false:=by simp;omega
 refine AW.condS (by simp -implicitDefEqProofs only[go_sem,seval,↓reduceIte];rfl) (fun h10=>?_) (fun h10=>?_)
 ·rw [q1] at h10;cases h10
 refine AW.skip ?_
 simp -implicitDefEqProofs only[go_sem,seval,↓reduceIte]
 refine hK1 _ ?_
 refine AW.seq_k fun K2 hK2=>?_
 refine AW.seq_k fun K hK=>AW.region (by kernel_rfl) ?_
 simp -implicitDefEqProofs only[go_sem,seval,↓reduceIte]
 refine hK _ ?_
 clear hK K
 refine AW.block ?_
 refine AW.for s.l.length (fun k (_:Unit)=>st [(0,encSl c 1 (V.int .u8) s),(1,encSl c1 1 (V.int .u8) t),(5,.int .i64 k)] []) (fun k _=>s.l.take k=t.l.take k) 0 () (Nat.zero_le _) rfl
  (Weak.st (by simp -implicitDefEqProofs only[go_sem,seval,↓reduceIte];try rfl) (by simp -implicitDefEqProofs only[go_sem,seval,↓reduceIte])) ?_
 intro k _ hk hR L3 hL3
 refine AW.seq_k fun K4 hK4=>?_
 refine AW.seq_k fun K hK=>AW.region (by kernel_rfl) ?_
 simp -implicitDefEqProofs only[go_sem,seval,↓reduceIte]
 refine hK _ ?_
 clear hK K
 refine AW.condS (by simp -implicitDefEqProofs only[go_sem,seval,↓reduceIte];rfl) (fun h14=>?_) (fun h14=>?_)
 ·have hk1:k<s.l.length:=by simpa using h14
  have hk2:k<t.l.length:=by omega
  have hg:=List.getElem?_eq_getElem hk1
  have hg2:=List.getElem?_eq_getElem hk2
  have htk:s.l.take (k+1)=s.l.take k++[s.l[k]]:=by rw [List.take_succ_eq_append_getElem hk1]
  have htk2:t.l.take (k+1)=t.l.take k++[t.l[k]]:=by rw [List.take_succ_eq_append_getElem hk2]
  generalize s.l[k]=x at hg htk
  generalize t.l[k]=y at hg2 htk2
  refine AW.skip ?_
  simp -implicitDefEqProofs only[go_sem,seval,↓reduceIte]
  refine hK4 _ ?_
  refine AW.seq_k fun K5 hK5=>?_
  refine AW.block ?_
  refine AW.seq_k fun K hK=>AW.regionT ⟨fun _ => .top,fun _ => .pure⟩ (by kernel_rfl) hG (by kernel_rfl) (by kernel_rfl) ?_
  simp -implicitDefEqProofs only[go_sem,seval,↓reduceIte,hg,hg2]
  refine hK _ ?_
  clear hK K
  by_cases hxy:x=y
  rotate_left
  ·have q2:(x != y)=true:=by simpa using hxy
   have hne:(s.l==t.l)=false:=by
    rw [beq_eq_false_iff_ne]
    intro h
    rw [h,hg2] at hg
    exact hxy (Option.some.inj hg).symm
   refine AW.condS (by simp -implicitDefEqProofs only[go_sem,seval,↓reduceIte];rfl) (fun h25=>?_) (fun h25=>?_)
   ·refine AW.seq_k fun K hK=>AW.region (by kernel_rfl) ?_
    simp -implicitDefEqProofs only[go_sem,seval,↓reduceIte]
    refine hK _ ?_
    clear hK K
    refine AW.ret ?_
    simp -implicitDefEqProofs only[go_sem,seval,↓reduceIte]
    refine endK_some ?_
    rw [hne]
   ·rw [q2] at h25;cases h25
  have q2:(x != y)=false:=by simpa using hxy
  refine AW.condS (by simp -implicitDefEqProofs only[go_sem,seval,↓reduceIte];rfl) (fun h25=>?_) (fun h25=>?_)
  ·rw [q2] at h25;cases h25
  refine AW.skip ?_
  simp -implicitDefEqProofs only[go_sem,seval,↓reduceIte]
  refine hK5 _ ?_
  refine AW.region (by kernel_rfl) ?_
  simp -implicitDefEqProofs only[go_sem,seval,↓reduceIte]
  exact hL3 _ ⟨hk1,(),by rw [htk,htk2,hR,hxy],Weak.st (by simp -implicitDefEqProofs only[go_sem,seval,↓reduceIte];exact congrArg _ (w64 (by omega) (by omega))) (by simp -implicitDefEqProofs only[go_sem,seval,↓reduceIte])⟩
 ·have hk1:k=s.l.length:=by simp at h14;omega
  refine AW.exit ?_
  simp -implicitDefEqProofs only[go_sem,seval,↓reduceIte]
  refine hK2 _ ?_
  rw [hk1,List.take_length,hl,List.take_length] at hR
  refine AW.seq_k fun K hK=>AW.region (by kernel_rfl) ?_
  simp -implicitDefEqProofs only[go_sem,seval,↓reduceIte]
  refine hK _ ?_
  clear hK K
  refine AW.ret ?_
  simp -implicitDefEqProofs only[go_sem,seval,↓reduceIte]
  refine endK_some ?_
  rw [hR];simp
end Go.Hs
end
