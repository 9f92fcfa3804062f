/- Part 43 of the proof of a statement of seat YtohdjmgdaaipaaaGreatDoor: HsHTypK2 HsHTypKinds HsHTypOf HsHTypW HsHTypRK HsHTypRK2 HsTypLaw2 HsHTypL2 HsTypLaw3 HsActBk HsHActTy HsHActPr HsHActR2 HsHActC. -/
import Derived.Test.YtohdjmgdaaipaaaGreatDoorPart41
import Derived.Test.YtohdjmgdaaipaaaGreatDoorPart42
import Derived.Test.YtohdjmgdaaipaaaGreatDoorPart29
import Derived.Test.YtohdjmgdaaipaaaGreatDoorPart31
import Derived.Test.YtohdjmgdaaipaaaGreatDoorPart40
import Derived.Test.YtohdjmgdaaipaaaGreatDoorPart37
set_option linter.unusedSimpArgs false
set_option linter.unusedVariables false
section
namespace Go.Hs
open Go.Proofs
set_option maxRecDepth 10000
def eq3 (a b c a' b' c':Int):Bool:=decide (a=a'∧b=b'∧c=c')
theorem eqCs_3 (a b c a' b' c':Int):eqCs [.int .u8 a,.int .u8 b,.int .u8 c] [.int .u8 a',.int .u8 b',.int .u8 c']=some (eq3 a b c a' b' c'):=by
 unfold eq3;simp only [eqCs,eqC,if_true]
 by_cases h1:a=a'
 ·by_cases h2:b=b'
  ·by_cases h3:c=c'
   ·simp [h1,h2,h3]
   ·have:(c==c')=false:=by simpa using h3
    simp [h1,h2,h3,this]
  ·have:(b==b')=false:=by simpa using h2
   simp [h1,this,h2]
 ·have:(a==a')=false:=by simpa using h1
  simp [this,h1]
def knC (v:V):List V:=ruleC++[v]
theorem knC_len (v:V):(knC v).length=93:=by rw [knC,List.length_append];rfl
theorem knC_names (v:V):(knC v)[92]? = some v:=by
 rw [knC,List.getElem?_append_right (by decide)];rfl
theorem ruleC_len:ruleC.length=92:=rfl
theorem knC_take (v:V):(knC v).take 92=ruleC:=by rw [knC,List.take_append_of_le_length (Nat.le_refl 92)];rfl
theorem ruleC_recol (f:Col→Col):ruleC.map (V.recol f)=ruleC:=rfl
theorem knC_recol (f:Col→Col) (v:V):(knC v).map (V.recol f)=knC (v.recol f):=by
 rw [knC,List.map_append,ruleC_recol];rfl
theorem tKind_spec (G:Nat→V) (hG:GOk G) (c1 c2:Col) (names:Sl (List UInt8)) (hnl:names.l.length<1000000) (n:XN) (ks:Sl Int) (hn:PlOk ks.l.length n) (hkl:ks.l.length<1000000) (hks:∀ y∈ks.l,y=1∨y=2) :
  Spec Tryz.prog G 157 [.agg (knC (encSl c1 1 V.str names)),encXN n,encSl c2 1 (V.int .u8) ks] hNone (fun v _=>v = .int .u8 (kindN names.l n ks.l)):=by
 refine Spec.of_code' 0 71 [.tmp 6] Tryz.func157 rfl rfl rfl rfl fun X=>?_;have hP:kindN names.l n ks.l=kd n.op (names.l.contains n.name) (plc ks.l n.a) (plc ks.l n.b) (plc ks.l n.c):=rfl;generalize kindN names.l n ks.l=res at hP ⊢;simp only [encXN_K];refine AW.seq_k fun K hK=>AW.region (by kernel_rfl) ?_;simp -implicitDefEqProofs only[go_sem,seval,↓reduceIte,knC_len];intro g3 g4 g5;refine hK _ ?_;clear hK K
 refine AW.seqJ (fun (_:Unit)=>st [(3,.ptr 3 g3 0),(4,.ptr 4 g4 0),(5,.ptr 5 g5 0)] [(3,.cells .new g3 0 (knC (encSl c1 1 V.str names))),(4,.cells .new g4 0 [.int .u8 n.op,.int .i64 n.num,.str n.name,.int .i64 n.a,.int .i64 n.b,.int .i64 n.c]),(5,.cells .new g5 0 [encSl c2 1 (V.int .u8) ks])])
  (fun _=>n.op=2→names.l.contains n.name=true) (fun K1 hK1=>?_) ?_
 ·by_cases ho:n.op=2
  ·have e1:(n.op==2)=true:=by simpa using ho
   refine AW.seq_k fun K hK=>AW.region (by kernel_rfl) ?_;simp -implicitDefEqProofs only[go_sem,seval,↓reduceIte,e1,knC_names];refine CallA.pure hG (by kernel_rfl) ?_;simp -implicitDefEqProofs only[go_sem,seval,↓reduceIte];refine (sContains_spec G hG _ n.name names hnl).mono ?_;rintro _ _ rfl;simp -implicitDefEqProofs only[go_sem,seval,↓reduceIte];refine hK _ ?_;clear hK K
   cases hc:names.l.contains n.name with
   | true =>
    refine AW.condS (by simp -implicitDefEqProofs only[go_sem,seval,↓reduceIte];rfl) (fun h21=>?_) (fun h21=>?_)
    ·cases h21
    refine AW.skip ?_;simp -implicitDefEqProofs only[go_sem,seval,↓reduceIte];exact hK1 _ () (fun _=>hc) (Weak.st (by simp -implicitDefEqProofs only[go_sem,seval,↓reduceIte]) (by simp -implicitDefEqProofs only[go_sem,seval,↓reduceIte]))
   | false =>
    refine AW.condS (by simp -implicitDefEqProofs only[go_sem,seval,↓reduceIte];rfl) (fun h21=>?_) (fun h21=>?_)
    ·refine AW.seq_k fun K hK=>AW.region (by kernel_rfl) ?_
     simp -implicitDefEqProofs only[go_sem,seval,↓reduceIte];refine hK _ ?_;clear hK K;refine AW.ret ?_;simp -implicitDefEqProofs only[go_sem,seval,↓reduceIte];refine endK_some ?_;rw [hP,hc,ho];rfl
    ·cases h21
  ·have e1:(n.op==2)=false:=by simpa using ho
   refine AW.seq_k fun K hK=>AW.region (by kernel_rfl) ?_;simp -implicitDefEqProofs only[go_sem,seval,↓reduceIte,e1];refine hK _ ?_;clear hK K;refine AW.condS (by simp -implicitDefEqProofs only[go_sem,seval,↓reduceIte];rfl) (fun h21=>?_) (fun h21=>?_)
   ·cases h21
   refine AW.skip ?_;simp -implicitDefEqProofs only[go_sem,seval,↓reduceIte];exact hK1 _ () (fun h=>absurd h ho) (Weak.st (by simp -implicitDefEqProofs only[go_sem,seval,↓reduceIte]) (by simp -implicitDefEqProofs only[go_sem,seval,↓reduceIte]))
 rintro _ hnm;refine AW.seq_k fun K hK=>AW.region (by kernel_rfl) ?_;simp -implicitDefEqProofs only[go_sem,seval,↓reduceIte];refine hK _ ?_;clear hK K;refine AW.weak (Weak.stF (fun o=>o==3 || o==4 || o==5) (l:=[(3,.view .new (.agg (knC (encSl c1 1 V.str names)))),(4,.view .new (.agg [.int .u8 n.op,.int .i64 n.num,.str n.name,.int .i64 n.a,.int .i64 n.b,.int .i64 n.c])),(7,.func (.func 228) [] [.view .new (encSl c2 1 (V.int .u8) ks)])]) (m:=[]) ?_ trivial) ?_
 ·simp -implicitDefEqProofs only[go_sem,seval,↓reduceIte]
  refine ⟨?_,?_,?_⟩
  ·exact Fz.ptr (v := .agg (knC (encSl c1 1 V.str names))) (c := .new) (fz:=0) rfl (by simp -implicitDefEqProofs only[go_sem,seval,↓reduceIte];try rfl)
  ·exact Fz.ptr (v := .agg [.int .u8 n.op,.int .i64 n.num,.str n.name,.int .i64 n.a,.int .i64 n.b,.int .i64 n.c]) (c := .new) (fz:=0) rfl (by simp -implicitDefEqProofs only[go_sem,seval,↓reduceIte];try rfl)
  ·exact Fz.func ⟨Fz.ptr (v:=encSl c2 1 (V.int .u8) ks) (c := .new) (fz:=0) rfl (by simp -implicitDefEqProofs only[go_sem,seval,↓reduceIte];try rfl),trivial⟩
 have pc:∀ i:Int,(i<0∨0≤i∧i<ks.l.length)→PureC Tryz.prog G 228 [.int .i64 i,.view .new (encSl c2 1 (V.int .u8) ks)] (.int .u8 (plc ks.l i)):=fun i h=>⟨by kernel_rfl,by
  simp -implicitDefEqProofs only[go_sem,seval,↓reduceIte];refine (tAt_spec G hG _ ks hkl i h).mono ?_;rintro _ _ rfl
  rfl⟩
 obtain ⟨hw,ha1,hb1,hc1,ha0,hb0,hc0⟩:=hn
 have hra:n.a<0∨0≤n.a∧n.a<ks.l.length:=by
  by_cases h:0<partsOf n.op
  ·exact .inr (ha1 h)
  ·exact .inl (by rw [ha0 h];decide)
 have hrb:n.b<0∨0≤n.b∧n.b<ks.l.length:=by
  by_cases h:1<partsOf n.op
  ·exact .inr (hb1 h)
  ·exact .inl (by rw [hb0 h];decide)
 have hrc:n.c<0∨0≤n.c∧n.c<ks.l.length:=by
  by_cases h:2<partsOf n.op
  ·exact .inr (hc1 h)
  ·exact .inl (by rw [hc0 h];decide)
 have hor:=well_range hw;obtain ⟨op,hop⟩:∃ op:Nat,n.op=op:=⟨n.op.toNat,by omega⟩
 have hop1:op<23:=by omega
 have hop2:n.op<23:=by omega
 have hop0:0≤n.op:=by omega
 have hopn:n.op.toNat=op:=by omega
 have hru:=ruleC_get op hop1
 have hrl:op * 4+4≤92:=by omega
 refine AW.seq_k fun K hK=>AW.regionT ⟨fun i=>if i=8 then .int .u8 (plc ks.l n.a) else if i=12 then .int .u8 (plc ks.l n.b) else if i=16 then .int .u8 (plc ks.l n.c) else .top,fun i=>if i=1 then .lend else if i=4 then .lend else if i=7 then .lend else if i=11 then .lend else if i=15 then .lend else .pure⟩ (by kernel_rfl) hG (by kernel_rfl) (by kernel_rfl) ?_;simp -implicitDefEqProofs only[go_sem,seval,↓reduceIte,knC_take,knC_len,show (92:Nat)≤93 from by decide,ruleC_len,hru,hop2,hop0,hopn,hrl];refine ⟨pc _ hra,pc _ hrb,pc _ hrc,?_⟩;intro g8 g9;refine hK _ ?_;clear hK K
 have hpl:∀ i:Int,(0≤i∧i<ks.l.length)→plc ks.l i=1∨plc ks.l i=2:=by
  intro i hi;unfold plc;rw [if_neg (by omega)];obtain ⟨m,rfl⟩:∃ m:Nat,i=m:=⟨i.toNat,by omega⟩;rw [Int.toNat_natCast,List.getD_eq_getElem?_getD,List.getElem?_eq_getElem (by omega)];exact hks _ (List.getElem_mem _)
 have hva:0<partsOf n.op→plc ks.l n.a=1∨plc ks.l n.a=2:=fun h=>hpl _ (ha1 h);have hvb:1<partsOf n.op→plc ks.l n.b=1∨plc ks.l n.b=2:=fun h=>hpl _ (hb1 h);have hvc:2<partsOf n.op→plc ks.l n.c=1∨plc ks.l n.c=2:=fun h=>hpl _ (hc1 h)
 have hza:¬ 0<partsOf n.op→plc ks.l n.a=0:=fun h=>by rw [ha0 h];rfl
 have hzb:¬ 1<partsOf n.op→plc ks.l n.b=0:=fun h=>by rw [hb0 h];rfl
 have hzc:¬ 2<partsOf n.op→plc ks.l n.c=0:=fun h=>by rw [hc0 h];rfl
 generalize plc ks.l n.a=a at hP hva hza ⊢;generalize plc ks.l n.b=b at hP hvb hzb ⊢;generalize plc ks.l n.c=c at hP hvc hzc ⊢;refine AW.seq_k fun K hK=>AW.region (by kernel_rfl) ?_;simp -implicitDefEqProofs only[go_sem,seval,↓reduceIte];refine hK _ ?_;clear hK K
 by_cases q16:op=16∨op=17
 ·have eA:ruleA op=3:=by rcases q16 with rfl | rfl<;>rfl
  have eB:ruleB op=3:=by rcases q16 with rfl | rfl<;>rfl
  have eD:ruleD op=0:=by rcases q16 with rfl | rfl<;>rfl
  have eI:ruleI op=2:=by rcases q16 with rfl | rfl<;>rfl
  rw [eA,eB,eD,eI]
  have hpo:partsOf n.op=2:=by rw [hop];rcases q16 with rfl | rfl<;>rfl
  rw [hpo] at hva hvb hzc
  replace hva:=hva (by decide)
  replace hvb:=hvb (by decide)
  replace hzc:=hzc (by decide)
  refine AW.seq_k fun K2 hK2=>?_;refine AW.seq_k fun K hK=>AW.region (by kernel_rfl) ?_;simp -implicitDefEqProofs only[go_sem,seval,↓reduceIte];refine hK _ ?_;clear hK K;refine AW.condS (by simp -implicitDefEqProofs only[go_sem,seval,↓reduceIte];rfl) (fun h46=>?_) (fun h46=>?_);rotate_left
  ·cases h46
  refine AW.region (by kernel_rfl) ?_;simp -implicitDefEqProofs only[go_sem,seval,↓reduceIte];refine hK2 _ ?_;refine AW.seq_k fun K3 hK3=>?_;refine AW.seq_k fun K hK=>AW.region (by kernel_rfl) ?_;simp -implicitDefEqProofs only[go_sem,seval,↓reduceIte];refine hK _ ?_;clear hK K;refine AW.condS (by simp -implicitDefEqProofs only[go_sem,seval,↓reduceIte];rfl) (fun h56=>?_) (fun h56=>?_)
  ·cases h56
  refine AW.skip ?_;simp -implicitDefEqProofs only[go_sem,seval,↓reduceIte];refine hK3 _ ?_;refine AW.seq_k fun K4 hK4=>?_;refine AW.seq_k fun K=>?_;intro hK;refine AW.regionAt 3 (by kernel_rfl) rfl rfl ?_;simp -implicitDefEqProofs only[go_sem,seval,↓reduceIte,List.take_succ_cons,List.take_zero];refine ⟨_,Gives.aggEq (.inr rfl) (by kernel_rfl) (by kernel_rfl) (by kernel_rfl) (by simp -implicitDefEqProofs only[go_sem,seval,↓reduceIte];try rfl) (by simp -implicitDefEqProofs only[go_sem,seval,↓reduceIte];try rfl) (by kernel_rfl) (eqCs_3 _ _ _ _ _ _),?_⟩;simp -implicitDefEqProofs only[go_sem,seval,↓reduceIte,List.drop_succ_cons,List.drop_zero];refine hK _ ?_;clear hK K
  have hP2:res=if eq3 a b c b b 0=true then 2 else 0:=by
   rw [hP,hop,hzc]
   rcases q16 with rfl | rfl<;>rcases hva with rfl | rfl<;>rcases hvb with rfl | rfl<;>rfl
  generalize eq3 a b c b b 0=z at hP2 ⊢
  cases z with
  | true =>
   refine AW.condS (by simp -implicitDefEqProofs only[go_sem,seval,↓reduceIte];rfl) (fun h68=>?_) (fun h68=>?_)
   ·cases h68
   refine AW.skip ?_;simp -implicitDefEqProofs only[go_sem,seval,↓reduceIte];refine hK4 _ ?_;refine AW.seq_k fun K hK=>AW.region (by kernel_rfl) ?_;simp -implicitDefEqProofs only[go_sem,seval,↓reduceIte];refine hK _ ?_;clear hK K;refine AW.ret ?_;simp -implicitDefEqProofs only[go_sem,seval,↓reduceIte];refine endK_some ?_;rw [hP2];rfl
  | false =>
   refine AW.condS (by simp -implicitDefEqProofs only[go_sem,seval,↓reduceIte];rfl) (fun h68=>?_) (fun h68=>?_)
   ·refine AW.seq_k fun K hK=>AW.region (by kernel_rfl) ?_
    simp -implicitDefEqProofs only[go_sem,seval,↓reduceIte];refine hK _ ?_;clear hK K;refine AW.ret ?_;simp -implicitDefEqProofs only[go_sem,seval,↓reduceIte];refine endK_some ?_;rw [hP2];rfl
   ·cases h68
 by_cases q22:op=22
 ·subst q22
  have eA:ruleA 22=2:=rfl;have eB:ruleB 22=3:=rfl;have eD:ruleD 22=3:=rfl;have eI:ruleI 22=3:=rfl;rw [eA,eB,eD,eI]
  have hpo:partsOf n.op=3:=by rw [hop];rfl
  rw [hpo] at hva hvb hvc
  replace hva:=hva (by decide)
  replace hvb:=hvb (by decide)
  replace hvc:=hvc (by decide)
  refine AW.seq_k fun K2 hK2=>?_;refine AW.seq_k fun K hK=>AW.region (by kernel_rfl) ?_;simp -implicitDefEqProofs only[go_sem,seval,↓reduceIte];refine hK _ ?_;clear hK K;refine AW.condS (by simp -implicitDefEqProofs only[go_sem,seval,↓reduceIte];rfl) (fun h46=>?_) (fun h46=>?_)
  ·cases h46
  refine AW.skip ?_;simp -implicitDefEqProofs only[go_sem,seval,↓reduceIte];refine hK2 _ ?_;refine AW.seq_k fun K3 hK3=>?_;refine AW.seq_k fun K hK=>AW.region (by kernel_rfl) ?_;simp -implicitDefEqProofs only[go_sem,seval,↓reduceIte];refine hK _ ?_;clear hK K;refine AW.condS (by simp -implicitDefEqProofs only[go_sem,seval,↓reduceIte];rfl) (fun h56=>?_) (fun h56=>?_);rotate_left
  ·cases h56
  refine AW.region (by kernel_rfl) ?_;simp -implicitDefEqProofs only[go_sem,seval,↓reduceIte];refine hK3 _ ?_;refine AW.seq_k fun K4 hK4=>?_;refine AW.seq_k fun K=>?_;intro hK;refine AW.regionAt 3 (by kernel_rfl) rfl rfl ?_;simp -implicitDefEqProofs only[go_sem,seval,↓reduceIte,List.take_succ_cons,List.take_zero];refine ⟨_,Gives.aggEq (.inr rfl) (by kernel_rfl) (by kernel_rfl) (by kernel_rfl) (by simp -implicitDefEqProofs only[go_sem,seval,↓reduceIte];try rfl) (by simp -implicitDefEqProofs only[go_sem,seval,↓reduceIte];try rfl) (by kernel_rfl) (eqCs_3 _ _ _ _ _ _),?_⟩;simp -implicitDefEqProofs only[go_sem,seval,↓reduceIte,List.drop_succ_cons,List.drop_zero];refine hK _ ?_;clear hK K
  have hP2:res=if eq3 a b c 2 b b=true then b else 0:=by
   rw [hP,hop]
   rcases hva with rfl | rfl<;>rcases hvb with rfl | rfl<;>rcases hvc with rfl | rfl<;>rfl
  generalize eq3 a b c 2 b b=z at hP2 ⊢
  cases z with
  | true =>
   refine AW.condS (by simp -implicitDefEqProofs only[go_sem,seval,↓reduceIte];rfl) (fun h68=>?_) (fun h68=>?_)
   ·cases h68
   refine AW.skip ?_;simp -implicitDefEqProofs only[go_sem,seval,↓reduceIte];refine hK4 _ ?_;refine AW.seq_k fun K hK=>AW.region (by kernel_rfl) ?_;simp -implicitDefEqProofs only[go_sem,seval,↓reduceIte];refine hK _ ?_;clear hK K;refine AW.ret ?_;simp -implicitDefEqProofs only[go_sem,seval,↓reduceIte];refine endK_some ?_;rw [hP2];rfl
  | false =>
   refine AW.condS (by simp -implicitDefEqProofs only[go_sem,seval,↓reduceIte];rfl) (fun h68=>?_) (fun h68=>?_)
   ·refine AW.seq_k fun K hK=>AW.region (by kernel_rfl) ?_
    simp -implicitDefEqProofs only[go_sem,seval,↓reduceIte];refine hK _ ?_;clear hK K;refine AW.ret ?_;simp -implicitDefEqProofs only[go_sem,seval,↓reduceIte];refine endK_some ?_;rw [hP2];rfl
   ·cases h68
 have nA:(ruleA op==3)=false:=by unfold ruleA;rw [if_neg q16];split;rfl;split;rfl;rfl
 have nD:(ruleD op==3)=false:=by unfold ruleD;rw [if_neg q22];rfl
 refine AW.seq_k fun K2 hK2=>?_;refine AW.seq_k fun K hK=>AW.region (by kernel_rfl) ?_;simp -implicitDefEqProofs only[go_sem,seval,↓reduceIte,nA];refine hK _ ?_;clear hK K;refine AW.condS (by simp -implicitDefEqProofs only[go_sem,seval,↓reduceIte];rfl) (fun h46=>?_) (fun h46=>?_)
 ·cases h46
 refine AW.skip ?_;simp -implicitDefEqProofs only[go_sem,seval,↓reduceIte];refine hK2 _ ?_;refine AW.seq_k fun K3 hK3=>?_;refine AW.seq_k fun K hK=>AW.region (by kernel_rfl) ?_;simp -implicitDefEqProofs only[go_sem,seval,↓reduceIte,nD];refine hK _ ?_;clear hK K;refine AW.condS (by simp -implicitDefEqProofs only[go_sem,seval,↓reduceIte];rfl) (fun h56=>?_) (fun h56=>?_)
 ·cases h56
 refine AW.skip ?_;simp -implicitDefEqProofs only[go_sem,seval,↓reduceIte];refine hK3 _ ?_;refine AW.seq_k fun K4 hK4=>?_;refine AW.seq_k fun K=>?_;intro hK;refine AW.regionAt 3 (by kernel_rfl) rfl rfl ?_;simp -implicitDefEqProofs only[go_sem,seval,↓reduceIte,List.take_succ_cons,List.take_zero];refine ⟨_,Gives.aggEq (.inr rfl) (by kernel_rfl) (by kernel_rfl) (by kernel_rfl) (by simp -implicitDefEqProofs only[go_sem,seval,↓reduceIte];try rfl) (by simp -implicitDefEqProofs only[go_sem,seval,↓reduceIte];try rfl) (by kernel_rfl) (eqCs_3 _ _ _ _ _ _),?_⟩;simp -implicitDefEqProofs only[go_sem,seval,↓reduceIte,List.drop_succ_cons,List.drop_zero];refine hK _ ?_;clear hK K
 have hP2:res=if eq3 a b c (ruleA op) (ruleB op) (ruleD op)=true then ruleI op else 0:=by
  have hcs:op=1∨op=2∨op=3∨op=4∨op=5∨op=6∨op=7∨op=8∨op=9∨op=10∨op=11∨op=12∨op=13∨op=14∨op=15∨op=18∨op=19∨op=20∨op=21:=by omega
  rcases hcs with rfl | rfl | rfl | rfl | rfl | rfl | rfl | rfl | rfl | rfl | rfl | rfl | rfl | rfl | rfl | rfl | rfl | rfl | rfl
  ·have hpo:partsOf n.op=0:=by rw [hop];rfl
   rw [hpo] at hva hvb hza hzb hzc;rw [hP,hop,hza (by decide),hzb (by decide),hzc (by decide)];rfl
  ·have hpo:partsOf n.op=0:=by rw [hop];rfl
   rw [hpo] at hva hvb hza hzb hzc;rw [hP,hop,hza (by decide),hzb (by decide),hzc (by decide)];rw [hnm (by rw [hop];rfl)];rfl
  ·have hpo:partsOf n.op=0:=by rw [hop];rfl
   rw [hpo] at hva hvb hza hzb hzc;rw [hP,hop,hza (by decide),hzb (by decide),hzc (by decide)];rfl
  ·have hpo:partsOf n.op=0:=by rw [hop];rfl
   rw [hpo] at hva hvb hza hzb hzc;rw [hP,hop,hza (by decide),hzb (by decide),hzc (by decide)];rfl
  ·have hpo:partsOf n.op=1:=by rw [hop];rfl
   rw [hpo] at hva hvb hza hzb hzc;rw [hP,hop,hzb (by decide),hzc (by decide)]
   rcases hva (by decide) with rfl | rfl<;>rfl
  ·have hpo:partsOf n.op=1:=by rw [hop];rfl
   rw [hpo] at hva hvb hza hzb hzc;rw [hP,hop,hzb (by decide),hzc (by decide)]
   rcases hva (by decide) with rfl | rfl<;>rfl
  ·have hpo:partsOf n.op=2:=by rw [hop];rfl
   rw [hpo] at hva hvb hza hzb hzc;rw [hP,hop,hzc (by decide)]
   rcases hva (by decide) with rfl | rfl<;>rcases hvb (by decide) with rfl | rfl<;>rfl
  ·have hpo:partsOf n.op=2:=by rw [hop];rfl
   rw [hpo] at hva hvb hza hzb hzc;rw [hP,hop,hzc (by decide)]
   rcases hva (by decide) with rfl | rfl<;>rcases hvb (by decide) with rfl | rfl<;>rfl
  ·have hpo:partsOf n.op=2:=by rw [hop];rfl
   rw [hpo] at hva hvb hza hzb hzc;rw [hP,hop,hzc (by decide)]
   rcases hva (by decide) with rfl | rfl<;>rcases hvb (by decide) with rfl | rfl<;>rfl
  ·have hpo:partsOf n.op=2:=by rw [hop];rfl
   rw [hpo] at hva hvb hza hzb hzc;rw [hP,hop,hzc (by decide)]
   rcases hva (by decide) with rfl | rfl<;>rcases hvb (by decide) with rfl | rfl<;>rfl
  ·have hpo:partsOf n.op=2:=by rw [hop];rfl
   rw [hpo] at hva hvb hza hzb hzc;rw [hP,hop,hzc (by decide)]
   rcases hva (by decide) with rfl | rfl<;>rcases hvb (by decide) with rfl | rfl<;>rfl
  ·have hpo:partsOf n.op=2:=by rw [hop];rfl
   rw [hpo] at hva hvb hza hzb hzc;rw [hP,hop,hzc (by decide)]
   rcases hva (by decide) with rfl | rfl<;>rcases hvb (by decide) with rfl | rfl<;>rfl
  ·have hpo:partsOf n.op=2:=by rw [hop];rfl
   rw [hpo] at hva hvb hza hzb hzc;rw [hP,hop,hzc (by decide)]
   rcases hva (by decide) with rfl | rfl<;>rcases hvb (by decide) with rfl | rfl<;>rfl
  ·have hpo:partsOf n.op=2:=by rw [hop];rfl
   rw [hpo] at hva hvb hza hzb hzc;rw [hP,hop,hzc (by decide)]
   rcases hva (by decide) with rfl | rfl<;>rcases hvb (by decide) with rfl | rfl<;>rfl
  ·have hpo:partsOf n.op=2:=by rw [hop];rfl
   rw [hpo] at hva hvb hza hzb hzc;rw [hP,hop,hzc (by decide)]
   rcases hva (by decide) with rfl | rfl<;>rcases hvb (by decide) with rfl | rfl<;>rfl
  ·have hpo:partsOf n.op=2:=by rw [hop];rfl
   rw [hpo] at hva hvb hza hzb hzc;rw [hP,hop,hzc (by decide)]
   rcases hva (by decide) with rfl | rfl<;>rcases hvb (by decide) with rfl | rfl<;>rfl
  ·have hpo:partsOf n.op=2:=by rw [hop];rfl
   rw [hpo] at hva hvb hza hzb hzc;rw [hP,hop,hzc (by decide)]
   rcases hva (by decide) with rfl | rfl<;>rcases hvb (by decide) with rfl | rfl<;>rfl
  ·have hpo:partsOf n.op=2:=by rw [hop];rfl
   rw [hpo] at hva hvb hza hzb hzc;rw [hP,hop,hzc (by decide)]
   rcases hva (by decide) with rfl | rfl<;>rcases hvb (by decide) with rfl | rfl<;>rfl
  ·have hpo:partsOf n.op=2:=by rw [hop];rfl
   rw [hpo] at hva hvb hza hzb hzc;rw [hP,hop,hzc (by decide)]
   rcases hva (by decide) with rfl | rfl<;>rcases hvb (by decide) with rfl | rfl<;>rfl
 generalize eq3 a b c (ruleA op) (ruleB op) (ruleD op)=z at hP2 ⊢
 cases z with
 | true =>
  refine AW.condS (by simp -implicitDefEqProofs only[go_sem,seval,↓reduceIte];rfl) (fun h68=>?_) (fun h68=>?_)
  ·cases h68
  refine AW.skip ?_;simp -implicitDefEqProofs only[go_sem,seval,↓reduceIte];refine hK4 _ ?_;refine AW.seq_k fun K hK=>AW.region (by kernel_rfl) ?_;simp -implicitDefEqProofs only[go_sem,seval,↓reduceIte];refine hK _ ?_;clear hK K;refine AW.ret ?_;simp -implicitDefEqProofs only[go_sem,seval,↓reduceIte];refine endK_some ?_;rw [hP2];rfl
 | false =>
  refine AW.condS (by simp -implicitDefEqProofs only[go_sem,seval,↓reduceIte];rfl) (fun h68=>?_) (fun h68=>?_)
  ·refine AW.seq_k fun K hK=>AW.region (by kernel_rfl) ?_
   simp -implicitDefEqProofs only[go_sem,seval,↓reduceIte];refine hK _ ?_;clear hK K;refine AW.ret ?_;simp -implicitDefEqProofs only[go_sem,seval,↓reduceIte];refine endK_some ?_;rw [hP2];rfl
  ·cases h68
end Go.Hs
end

section
namespace Go.Hs
open Go.Proofs
set_option maxRecDepth 10000
def kindsP (names:List (List UInt8)) (l:List XN):List Int × Int × Int:=if checkP l≠0 then ([],0,checkP l) else goN names l 0 []
def encKs (c:Col) (l:List Int):V:=encSl c 1 (V.int .u8) (grownS l)
def encKr (c:Col) (p:List Int × Int × Int):V := .tuple [encKs c p.1,.int .i64 p.2.1,.int .i64 p.2.2]
theorem kd_range' {op:Int} {nm:Bool} {a b c:Int} (hb:b=0∨b=1∨b=2) (h:kd op nm a b c≠0):kd op nm a b c=1∨kd op nm a b c=2:=by
 have:=kd_range (op:=op) (nm:=nm) (a:=a) (c:=c) (b:=b) (by omega);omega
theorem plc_range {ks:List Int} (h:∀ y∈ks,y=1∨y=2) (i:Int):plc ks i=0∨plc ks i=1∨plc ks i=2:=by
 unfold plc
 split
 ·exact .inl rfl
 ·rw [List.getD_eq_getElem?_getD]
  cases hg:ks[i.toNat]? with
  | none=>exact .inl rfl
  | some y=>exact .inr (h y (List.mem_of_getElem? hg))
theorem goN_drop {names:List (List UInt8)} {l:List XN} {k:Nat} {n:XN} (h:l[k]? = some n) (ks:List Int):goN names (l.drop k) k ks=if kindN names n ks=0 then ([],(k:Int),90) else goN names (l.drop (k+1)) (k+1:Nat) (ks++[kindN names n ks]):=by
 obtain ⟨h1,h2⟩:=List.getElem?_eq_some_iff.1 h;rw [List.drop_eq_getElem_cons h1,h2];rfl
theorem Im.knC {v:V} (h:v.Im):(V.agg (knC v)).Im:=by
 refine .agg _ fun x hx=>?_
 rcases List.mem_append.1 hx with h1 | h1
 ·have:∀ l:List V,(l.all fun v=>match v with | .int _ _=>true | _=>false)=true→∀ x∈l,x.Im:=by
   intro l hl x hx;have:=List.all_eq_true.1 hl x hx
   cases x<;>first | exact .int _ _ | cases this
  exact this ruleC rfl x h1
 ·rw [List.mem_singleton.1 h1];exact h
theorem Im.xn (n:XN):(encXN n).Im:=by
 refine .agg _ fun x hx=>?_;simp only [List.mem_cons,List.not_mem_nil,or_false] at hx
 rcases hx with rfl | rfl | rfl | rfl | rfl | rfl<;>first | exact .int _ _ | exact .str _
theorem Im.strs (c:Col) (s:Sl (List UInt8)):(encSl c 1 V.str s).Im:=Im.enc (fun x y hy=>by simp [V.cells] at hy;subst hy;exact .str _) s
theorem buildKn (x:V) (hx:x.cells=[x]) (hs:x.solid=true):buildV Tryz.prog 220 [(0,.agg ruleC),(1,x)]=some (.agg (knC x)):=by
 rw [buildV_K (tbl:=[(0,92),(92,1)]) (z:=List.replicate 92 (.int .u8 0)++[.nils]) (by kernel_rfl) (by kernel_rfl)]
 have e1:Hs.setAt (List.replicate 92 (.int .u8 0)++[.nils]) 0 ruleC=ruleC++[.nils]:=by
  rw [setAt_eq _ _ _ (by decide)];rfl
 have e2:Hs.setAt (ruleC++[.nils]) 92 [x]=knC x:=by
  show (ruleC++[V.nils]).set 92 x=ruleC++[x]
  rw [List.set_append_right _ _ (by decide)];rfl
 have l1:(List.replicate 92 (V.int .u8 0)++[V.nils]).length=93:=rfl;have l2:(ruleC++[V.nils]).length=93:=rfl;have c1:(V.agg ruleC).cells=ruleC:=rfl;have s1:(V.agg ruleC).solid=true:=rfl;have t0:tblP [(0,92),(92,1)] 0=some (0,92):=rfl;have t1:tblP [(0,92),(92,1)] 1=some (92,1):=rfl;simp only [fillV,t0,t1,c1,s1,hx,hs,l1,ruleC_len,e1,l2,e2,List.length_singleton,true_and,Nat.zero_add];rfl
theorem enc_solid {α : Type} (c:Col) (m:Nat) (f : α → V) (s:Sl α):(encSl c m f s).solid=true:=by cases s<;>rfl
theorem enc_cells {α : Type} (c:Col) (m:Nat) (f : α → V) (s:Sl α):(encSl c m f s).cells=[encSl c m f s]:=by cases s<;>rfl
theorem setAt_kn (l:List V) (v:V) (h:l.length=93):Hs.setAt l 0 (knC v)=knC v:=setAt_all (by rw [h,knC_len])
theorem cells_u8 (x:Int):(V.int .u8 x).cells.length=1:=rfl
theorem tKinds_spec (G:Nat→V) (hE:GExp G) (c c1:Col) (s:Sl XN) (names:Sl (List UInt8)) (hs:s.l.length<1000000) (hnm:∀ n∈s.l,n.name.length<100000) (hnl:names.l.length<1000000) :
  Spec Tryz.prog G 91 [.agg [encSl c 6 encXN s],encSl c1 1 V.str names] hNone (fun v _=>v=encKr .new (kindsP names.l s.l)):=by
 have hG:=hE.ok;refine Spec.of_code' 0 40 [.tmp 4,.tmp 5,.tmp 6] Tryz.func91 rfl rfl rfl rfl fun X=>?_
 have hP:kindsP names.l s.l=if checkP s.l≠0 then ([],0,checkP s.l) else goN names.l s.l 0 []:=rfl
 generalize kindsP names.l s.l=res at hP ⊢;refine AW.seq_k fun K hK=>AW.region (by kernel_rfl) ?_;simp -implicitDefEqProofs only[go_sem,seval,↓reduceIte];intro g2;refine hK _ ?_;clear hK K;refine AW.seq_k fun K1 hK1=>?_;refine AW.seq_k fun K hK=>AW.region (by kernel_rfl) ?_;simp -implicitDefEqProofs only[go_sem,seval,↓reduceIte];refine CallA.pure hG (by kernel_rfl) ?_;simp -implicitDefEqProofs only[go_sem,seval,↓reduceIte,recol_xns];refine (xCheck_spec G hE _ s hs hnm).mono ?_;rintro _ _ rfl;simp -implicitDefEqProofs only[go_sem,seval,↓reduceIte];refine hK _ ?_;clear hK K;refine AW.seq_k fun K hK=>AW.region (by kernel_rfl) ?_;simp -implicitDefEqProofs only[go_sem,seval,↓reduceIte];refine hK _ ?_;clear hK K
 by_cases hc:checkP s.l=0
 rotate_left
 ·have q1:(checkP s.l != 0)=true:=by simpa using hc
  rw [if_pos hc] at hP;refine AW.condS (by simp -implicitDefEqProofs only[go_sem,seval,↓reduceIte];rfl) (fun h14=>?_) (fun h14=>?_)
  ·refine AW.seq_k fun K hK=>AW.region (by kernel_rfl) ?_
   simp -implicitDefEqProofs only[go_sem,seval,↓reduceIte];refine hK _ ?_;clear hK K;refine AW.ret ?_;simp -implicitDefEqProofs only[go_sem,seval,↓reduceIte];refine endK_some ?_;rw [hP];rfl
  ·rw [q1] at h14;cases h14
 have q1:(checkP s.l != 0)=false:=by simpa using hc
 rw [if_neg (by simpa using hc)] at hP;refine AW.condS (by simp -implicitDefEqProofs only[go_sem,seval,↓reduceIte];rfl) (fun h14=>?_) (fun h14=>?_)
 ·rw [q1] at h14;cases h14
 refine AW.skip ?_;simp -implicitDefEqProofs only[go_sem,seval,↓reduceIte];refine hK1 _ ?_
 have hdep:depthP s.l≠0:=by
  intro h;rw [checkP,if_pos h] at hc;cases hc
 refine AW.seq_k fun K hK=>AW.region (by kernel_rfl) ?_;simp -implicitDefEqProofs only[go_sem,seval,↓reduceIte];refine CallA.pure hG (by kernel_rfl) ?_;simp -implicitDefEqProofs only[go_sem,seval,↓reduceIte,List.map_nil];refine (tRules_spec G hG).mono ?_;rintro _ _ rfl;have hrr:(V.agg ruleC).recol Col.bk = .agg ruleC:=rfl;have hrl:(V.agg ruleC).cells=ruleC:=rfl;simp -implicitDefEqProofs only[go_sem,seval,↓reduceIte,hrr,ruleC_len,buildKn (encSl c1 1 V.str names) (enc_cells ..) (enc_solid ..)];intro g7;simp -implicitDefEqProofs only[go_sem,seval,↓reduceIte,knC_len,cells_agg];rw [setAt_kn _ _ ?hl]
 case hl=>rfl
 refine hK _ ?_;clear hK K;refine AW.seq_k fun K2 hK2=>?_;refine AW.seq_k fun K hK=>AW.region (by kernel_rfl) ?_;simp -implicitDefEqProofs only[go_sem,seval,↓reduceIte];refine hK _ ?_;clear hK K;refine AW.block ?_
 refine AW.for s.l.length (fun k (x:Nat × List Int)=>st [(4,grown 37 x.1 1 x.2),(7,.ptr 7 g7 0),(20,encSl c 6 encXN s),(21,.int .i64 s.l.length),(22,.int .i64 k)] [(7,.cells .new g7 0 (knC (encSl c1 1 V.str names))),(37,grownO x.1 (V.int .u8) x.2)])
  (fun k x=>res=goN names.l (s.l.drop k) k x.2∧x.2.length=k∧∀ y∈x.2,y=1∨y=2) 0 (0,[]) (Nat.zero_le _) ⟨hP,rfl,fun y hy=>by cases hy⟩
  (Weak.st (by simp -implicitDefEqProofs only[go_sem,seval,↓reduceIte];try rfl) (by simp -implicitDefEqProofs only[go_sem,seval,↓reduceIte];try rfl)) ?_
 rintro k ⟨gx,ks⟩ hk ⟨hR,hkl,hkr⟩ L3 hL3
 replace hR:res=goN names.l (s.l.drop k) k ks:=hR
 replace hkl:ks.length=k:=hkl
 replace hkr:∀ y∈ks,y=1∨y=2:=hkr
 refine AW.seq_k fun K hK=>AW.region (by kernel_rfl) ?_;simp -implicitDefEqProofs only[go_sem,seval,↓reduceIte];refine hK _ ?_;clear hK K;refine AW.seq_k fun K4 hK4=>?_;refine AW.condS (by simp -implicitDefEqProofs only[go_sem,seval,↓reduceIte];rfl) (fun h23=>?_) (fun h23=>?_)
 ·have hk1:k<s.l.length:=by simpa using h23
  have hg:=List.getElem?_eq_getElem hk1;generalize s.l[k]=n at hg;rw [goN_drop hg] at hR;have hpl:PlOk ks.length n:=hkl ▸ plOk_get hdep hg;refine AW.skip ?_;simp -implicitDefEqProofs only[go_sem,seval,↓reduceIte];refine hK4 _ ?_;refine AW.seq_k fun K5 hK5=>?_;refine AW.block ?_;refine AW.seq_k fun K hK=>AW.region (by kernel_rfl) ?_;simp -implicitDefEqProofs only[go_sem,seval,↓reduceIte,hg,encXN_K];intro g9;refine hK _ ?_;clear hK K;refine AW.seq_k fun K hK=>AW.region (by kernel_rfl) ?_;simp -implicitDefEqProofs only[go_sem,seval,↓reduceIte,knC_len];rw [← encXN_K];refine CallA.bor hG [.agg (knC (encSl c1.ent 1 V.str names)),encXN n,encSl .old 1 (V.int .u8) (grownS ks)] (by kernel_rfl) ⟨?_,?_,?_,trivial⟩ ?_
  ·refine Rd.im (Im.knC (Im.strs _ _)) ?_
   show (V.agg (knC _)).recol _=_
   rw [recol_agg,knC_recol];simp -implicitDefEqProofs only[go_sem,seval,↓reduceIte]
  ·exact Rd.im (Im.xn n) (recol_xn _ _)
  ·exact Rd.grown (g:=gx) (f:=V.int .u8) (f':=V.int .u8) (by simp -implicitDefEqProofs only[go_sem,seval,↓reduceIte];try rfl) cells_u8 (fun x y hy=>by simp [V.cells] at hy;subst hy;exact .int _ _) (fun _=>rfl)
  refine (tKind_spec G hG _ _ names hnl n (grownS ks) (by rw [grownS_l];exact hpl) (by rw [grownS_l];omega) (by rw [grownS_l];exact hkr)).mono ?_;rintro _ _ rfl;refine ⟨.int _ _,?_⟩;rw [grownS_l];have hkd:=fun h=>kd_range' (op:=n.op) (nm:=names.l.contains n.name) (a:=plc ks n.a) (c:=plc ks n.c) (plc_range hkr n.b) h;have hkn:kindN names.l n ks=kd n.op (names.l.contains n.name) (plc ks n.a) (plc ks n.b) (plc ks n.c):=rfl;rw [← hkn] at hkd;generalize kindN names.l n ks=v at hR hkd ⊢;simp -implicitDefEqProofs only[go_sem,seval,↓reduceIte];refine hK _ ?_;clear hK K;refine AW.seq_k fun K6 hK6=>?_;refine AW.seq_k fun K hK=>AW.region (by kernel_rfl) ?_;simp -implicitDefEqProofs only[go_sem,seval,↓reduceIte];refine hK _ ?_;clear hK K
  by_cases hv:v=0
  ·have q2:(v==0)=true:=by simpa using hv
   rw [if_pos hv] at hR;refine AW.condS (by simp -implicitDefEqProofs only[go_sem,seval,↓reduceIte];rfl) (fun h32=>?_) (fun h32=>?_)
   ·refine AW.seq_k fun K hK=>AW.region (by kernel_rfl) ?_
    simp -implicitDefEqProofs only[go_sem,seval,↓reduceIte];refine hK _ ?_;clear hK K;refine AW.ret ?_;simp -implicitDefEqProofs only[go_sem,seval,↓reduceIte];refine endK_some ?_;rw [hR];rfl
   ·rw [q2] at h32;cases h32
  have q2:(v==0)=false:=by simpa using hv
  rw [if_neg hv] at hR;refine AW.condS (by simp -implicitDefEqProofs only[go_sem,seval,↓reduceIte];rfl) (fun h32=>?_) (fun h32=>?_)
  ·rw [q2] at h32;cases h32
  refine AW.skip ?_;simp -implicitDefEqProofs only[go_sem,seval,↓reduceIte];refine hK6 _ ?_;refine AW.region (by kernel_rfl) ?_;simp -implicitDefEqProofs only[go_sem,seval,↓reduceIte];intro g36;refine app_grown (f:=V.int .u8) (l:=ks) (l2:=[v]) (g:=gx) cells_u8 rfl rfl rfl (by simp -implicitDefEqProofs only[go_sem,seval,↓reduceIte];try rfl) (roomOk_of (by omega) (by simp;omega)) fun g2=>?_;simp -implicitDefEqProofs only[go_sem,seval,↓reduceIte];refine hK5 _ ?_;refine AW.region (by kernel_rfl) ?_;simp -implicitDefEqProofs only[go_sem,seval,↓reduceIte];refine hL3 _ ⟨hk1,(g2,ks++[v]),⟨hR,by rw [List.length_append,hkl];rfl,?_⟩,Weak.st (by simp -implicitDefEqProofs only[go_sem,seval,↓reduceIte];exact congrArg _ (w64 (by omega) (by omega))) (by simp -implicitDefEqProofs only[go_sem,seval,↓reduceIte];try rfl)⟩;intro y hy
  rcases List.mem_append.1 hy with h | h
  ·exact hkr y h
  ·rw [List.mem_singleton.1 h];exact hkd hv
 ·have hk1:k=s.l.length:=by simp at h23;omega
  refine AW.exit ?_;simp -implicitDefEqProofs only[go_sem,seval,↓reduceIte];refine hK2 _ ?_;rw [hk1,List.drop_length] at hR;refine AW.weak (Weak.stF (fun o=>o==37) (l:=[(4,encKs .new ks)]) (m:=[]) ?_ trivial) ?_
  ·simp -implicitDefEqProofs only[go_sem,seval,↓reduceIte]
   exact Fz.grown rfl rfl cells_u8
  refine AW.seq_k fun K hK=>AW.region (by kernel_rfl) ?_;simp -implicitDefEqProofs only[go_sem,seval,↓reduceIte];refine hK _ ?_;clear hK K;refine AW.ret ?_;simp -implicitDefEqProofs only[go_sem,seval,↓reduceIte];refine endK_some ?_;rw [hR];rfl
end Go.Hs
end

section
namespace Go.Hs
open Go.Proofs
set_option maxRecDepth 10000
theorem goN_len {names:List (List UInt8)}:∀ (l:List XN) (i:Int) (acc:List Int),(goN names l i acc).2.2=0→(goN names l i acc).1.length=acc.length+l.length
 | [],i,acc,_=>rfl
 | n::r,i,acc,h=>by
  rw [goN] at h ⊢
  split
  ·rename_i h1
   rw [if_pos h1] at h;cases h
  ·rename_i h1
   rw [if_neg h1] at h;have:=goN_len r (i+1) (acc++[kindN names n acc]) h;rw [this];simp;omega
theorem kindsP_len {names:List (List UInt8)} {l:List XN} (h:(kindsP names l).2.2=0):(kindsP names l).1.length=l.length∧0<l.length:=by
 unfold kindsP at h ⊢
 by_cases hc:checkP l=0
 ·rw [if_neg (by simpa using hc)] at h ⊢
  refine ⟨by have:=goN_len l 0 [] h;simpa using this,?_⟩
  cases l with
  | nil=>exact absurd hc (by decide)
  | cons=>simp
 ·rw [if_pos hc] at h
  exact absurd h hc
def ofTP (names:List (List UInt8)) (l:List XN):Int × Int × Int:=if (kindsP names l).2.2≠0 then (0,(kindsP names l).2.1,(kindsP names l).2.2) else ((kindsP names l).1.getD ((kindsP names l).1.length-1) 0,0,0)
def encO3 (p:Int × Int × Int):V := .tuple [.int .u8 p.1,.int .i64 p.2.1,.int .i64 p.2.2]
theorem recol_ks (g:Col→Col) (c:Col) (s:Sl Int):(encSl c 1 (V.int .u8) s).recol g=encSl (g c) 1 (V.int .u8) s:=recol_enc g c 1 (fun _=>rfl) s
theorem tOf_spec (G:Nat→V) (hE:GExp G) (c c1:Col) (s:Sl XN) (names:Sl (List UInt8)) (hs:s.l.length<1000000) (hnm:∀ n∈s.l,n.name.length<100000) (hnl:names.l.length<1000000) :
  Spec Tryz.prog G 43 [.agg [encSl c 6 encXN s],encSl c1 1 V.str names] hNone (fun v _=>v=encO3 (ofTP names.l s.l)):=by
 have hG:=hE.ok;refine Spec.of_code' 0 25 [.tmp 4,.tmp 5,.tmp 6] Tryz.func43 rfl rfl rfl rfl fun X=>?_
 have hP:ofTP names.l s.l=if (kindsP names.l s.l).2.2≠0 then (0,(kindsP names.l s.l).2.1,(kindsP names.l s.l).2.2) else ((kindsP names.l s.l).1.getD ((kindsP names.l s.l).1.length-1) 0,0,0):=rfl
 have hKi:=fun c c1=>tKinds_spec G hE c c1 s names hs hnm hnl;have hL:=kindsP_len (names:=names.l) (l:=s.l);generalize ofTP names.l s.l=res at hP ⊢;generalize kindsP names.l s.l=p at hP hKi hL;obtain ⟨ks,i,e⟩:=p;simp only at hP hL;refine AW.seq_k fun K hK=>AW.region (by kernel_rfl) ?_;simp -implicitDefEqProofs only[go_sem,seval,↓reduceIte];intro g2;refine hK _ ?_;clear hK K;refine AW.seq_k fun K hK=>AW.region (by kernel_rfl) ?_;simp -implicitDefEqProofs only[go_sem,seval,↓reduceIte];refine CallA.pure hG (by kernel_rfl) ?_;simp -implicitDefEqProofs only[go_sem,seval,↓reduceIte,recol_xns];refine (hKi _ _).mono ?_;rintro _ _ rfl;simp -implicitDefEqProofs only[go_sem,seval,↓reduceIte,encKr,encKs,recol_ks];refine hK _ ?_;clear hK K;refine AW.seq_k fun K1 hK1=>?_;refine AW.seq_k fun K hK=>AW.region (by kernel_rfl) ?_;simp -implicitDefEqProofs only[go_sem,seval,↓reduceIte];refine hK _ ?_;clear hK K
 by_cases he:e=0
 rotate_left
 ·have q1:(e != 0)=true:=by simpa using he
  rw [if_pos he] at hP;refine AW.condS (by simp -implicitDefEqProofs only[go_sem,seval,↓reduceIte];rfl) (fun h16=>?_) (fun h16=>?_)
  ·refine AW.seq_k fun K hK=>AW.region (by kernel_rfl) ?_
   simp -implicitDefEqProofs only[go_sem,seval,↓reduceIte];refine hK _ ?_;clear hK K;refine AW.ret ?_;simp -implicitDefEqProofs only[go_sem,seval,↓reduceIte];refine endK_some ?_;rw [hP];rfl
  ·rw [q1] at h16;cases h16
 have q1:(e != 0)=false:=by simpa using he
 rw [if_neg (by simpa using he)] at hP;obtain ⟨hl1,hl2⟩:=hL he;refine AW.condS (by simp -implicitDefEqProofs only[go_sem,seval,↓reduceIte];rfl) (fun h16=>?_) (fun h16=>?_)
 ·rw [q1] at h16;cases h16
 refine AW.skip ?_;simp -implicitDefEqProofs only[go_sem,seval,↓reduceIte];refine hK1 _ ?_;obtain ⟨m,hm⟩:∃ m:Nat,ks.length=m+1:=⟨ks.length-1,by omega⟩
 have hw:IntKind.i64.wrap ((ks.length:Int)-1)=(m:Int):=by rw [w64 (by omega) (by omega)];omega
 obtain ⟨v,hv⟩:∃ v,ks[m]? = some v:=⟨_,List.getElem?_eq_getElem (by omega)⟩
 have hgd:ks.getD (ks.length-1) 0=v:=by rw [show ks.length-1=m by omega,List.getD_eq_getElem?_getD,hv];rfl
 rw [hgd] at hP;refine AW.seq_k fun K hK=>AW.region (by kernel_rfl) ?_;simp -implicitDefEqProofs only[go_sem,seval,↓reduceIte,hw,hv];refine hK _ ?_;clear hK K;refine AW.ret ?_;simp -implicitDefEqProofs only[go_sem,seval,↓reduceIte];refine endK_some ?_;rw [hP];rfl
end Go.Hs
end

section
namespace Go.Hs
open Go.Proofs
set_option maxRecDepth 10000
theorem all_take_succ {α : Type} (p : α → Bool) {l:List α} {k:Nat} {x : α} (h:l[k]? = some x) (ht:(l.take k).all p=true) (hx:p x=true):(l.take (k+1)).all p=true:=by
 rw [List.take_add_one,h,List.all_append,ht];simp [hx]
theorem all_false {α : Type} (p : α → Bool) {l:List α} {k:Nat} {x : α} (h:l[k]? = some x) (hx:p x=false):l.all p=false:=by
 rw [← Bool.not_eq_true,List.all_eq_true];intro ha;rw [ha x (List.mem_of_getElem? h)] at hx;cases hx
end Go.Hs
end

section
namespace Go.Hs
open Go.Proofs
set_option maxRecDepth 10000
theorem kd_1 {op:Int} {nm:Bool} {a b c:Int} (h:op=1):kd op nm a b c=1:=by unfold kd;rw [if_pos (.inl h)]
theorem kd_2 {op:Int} {nm:Bool} {a b c v:Int} (h1:op≠1) (h2:op≠2) (h:(if op=3∨op=4 then 2
 else if op=5∧a=1∨7≤op∧op≤11∧a=1∧b=1 then 1
 else if 12≤op∧op≤15∧a=1∧b=1∨(op=16∨op=17)∧a=b∧a≠0 then 2
 else if op=6∧a=2∨18≤op∧op≤21∧a=2∧b=2 then 2
 else if op=22∧a=2∧b=c then b else 0:Int)=v):kd op nm a b c=v:=by
 unfold kd;rw [if_neg (by rintro (h | h);exact h1 h;exact h2 h.1)];exact h
def kn0 (s:Sl XN) (names:Sl (List UInt8)) (G:Nat→V) (i d:Int):Prop:=∀ c c1,Spec Tryz.prog G 168 [encSl c 6 encXN s,.int .i64 i,encSl c1 1 V.str names] hNone (fun v _=>v = .int .i64 d)
set_option maxHeartbeats 4000000 in
theorem rKind_step (G:Nat→V) (hG:GOk G) (s:Sl XN) (names:Sl (List UInt8)) (hnl:names.l.length<1000000) (m:Nat) (n:XN) (hg:s.l[m]? = some n) (hop:1≤n.op∧n.op≤22) (a b c:Int)
  (ha:n.a<0∧a=0∨0≤n.a∧kn0 s names G n.a a) (hb:n.b<0∧b=0∨0≤n.b∧kn0 s names G n.b b) (hc:n.c<0∧c=0∨0≤n.c∧kn0 s names G n.c c) :
  kn0 s names G m (kd n.op (names.l.contains n.name) a b c):=by
 intro c0 c1;refine Spec.of_code' 0 153 [.tmp 6] Tryz.func168 rfl rfl rfl rfl fun X=>?_;have hm:m<s.l.length:=(List.getElem?_eq_some_iff.1 hg).1;have hP:kd n.op (names.l.contains n.name) a b c=kd n.op (names.l.contains n.name) a b c:=rfl;generalize hres:kd n.op (names.l.contains n.name) a b c=res;rw [hres] at hP
 replace hP:=hP.symm.trans hP
 clear hP;have hP:res=kd n.op (names.l.contains n.name) a b c:=hres.symm;clear hres;refine AW.seq_k fun K hK=>AW.region (by kernel_rfl) ?_;simp -implicitDefEqProofs only[go_sem,seval,↓reduceIte];refine hK _ ?_;clear hK K;refine AW.seq_k fun K hK=>AW.region (by kernel_rfl) ?_;simp -implicitDefEqProofs only[go_sem,seval,↓reduceIte,hg,hm,encXN_K];intro g7;refine hK _ ?_;clear hK K;refine AW.seq_k fun K hK=>AW.region (by kernel_rfl) ?_;simp -implicitDefEqProofs only[go_sem,seval,↓reduceIte];refine hK _ ?_;clear hK K;refine AW.seqJ (fun (_:Unit)=>st [(0,encSl c0 6 encXN s),(2,encSl c1 1 V.str names),(7,.ptr 7 g7 0),(8,.int .i64 a),(9,.int .i64 0),(10,.int .i64 0)] [(7,.cells .new g7 0 [.int .u8 n.op,.int .i64 n.num,.str n.name,.int .i64 n.a,.int .i64 n.b,.int .i64 n.c])]) (fun _=>True) (fun K1 hK1=>?_) ?_
 ·refine AW.seq_k fun K hK=>AW.region (by kernel_rfl) ?_
  simp -implicitDefEqProofs only[go_sem,seval,↓reduceIte];refine hK _ ?_;clear hK K
  rcases ha with ⟨h1,h2⟩ | ⟨h1,h2⟩
  ·have q1:decide (n.a≥0)=false:=by rw [decide_eq_false_iff_not];omega
   refine AW.condS (by simp -implicitDefEqProofs only[go_sem,seval,↓reduceIte];rfl) (fun h18=>?_) (fun h18=>?_)
   ·rw [q1] at h18;cases h18
   refine AW.skip ?_;simp -implicitDefEqProofs only[go_sem,seval,↓reduceIte];exact hK1 _ () trivial (Weak.st (by simp -implicitDefEqProofs only[go_sem,seval,↓reduceIte];rw [h2]) (by simp -implicitDefEqProofs only[go_sem,seval,↓reduceIte];try rfl))
  ·have q1:decide (n.a≥0)=true:=by rw [decide_eq_true_iff];omega
   refine AW.condS (by simp -implicitDefEqProofs only[go_sem,seval,↓reduceIte];rfl) (fun h18=>?_) (fun h18=>?_);rotate_left
   ·rw [q1] at h18;cases h18
   refine AW.region (by kernel_rfl) ?_;simp -implicitDefEqProofs only[go_sem,seval,↓reduceIte];refine CallA.pure hG (by kernel_rfl) ?_;simp -implicitDefEqProofs only[go_sem,seval,↓reduceIte,recol_xns];refine (h2 _ _).mono ?_;rintro _ _ rfl;simp -implicitDefEqProofs only[go_sem,seval,↓reduceIte];exact hK1 _ () trivial (Weak.st (by simp -implicitDefEqProofs only[go_sem,seval,↓reduceIte];try rfl) (by simp -implicitDefEqProofs only[go_sem,seval,↓reduceIte];try rfl))
 intro _ _;refine AW.seqJ (fun (_:Unit)=>st [(0,encSl c0 6 encXN s),(2,encSl c1 1 V.str names),(7,.ptr 7 g7 0),(8,.int .i64 a),(9,.int .i64 b),(10,.int .i64 0)] [(7,.cells .new g7 0 [.int .u8 n.op,.int .i64 n.num,.str n.name,.int .i64 n.a,.int .i64 n.b,.int .i64 n.c])]) (fun _=>True) (fun K1 hK1=>?_) ?_
 ·refine AW.seq_k fun K hK=>AW.region (by kernel_rfl) ?_
  simp -implicitDefEqProofs only[go_sem,seval,↓reduceIte];refine hK _ ?_;clear hK K
  rcases hb with ⟨h1,h2⟩ | ⟨h1,h2⟩
  ·have q1:decide (n.b≥0)=false:=by rw [decide_eq_false_iff_not];omega
   refine AW.condS (by simp -implicitDefEqProofs only[go_sem,seval,↓reduceIte];rfl) (fun h26=>?_) (fun h26=>?_)
   ·rw [q1] at h26;cases h26
   refine AW.skip ?_;simp -implicitDefEqProofs only[go_sem,seval,↓reduceIte];exact hK1 _ () trivial (Weak.st (by simp -implicitDefEqProofs only[go_sem,seval,↓reduceIte];rw [h2]) (by simp -implicitDefEqProofs only[go_sem,seval,↓reduceIte];try rfl))
  ·have q1:decide (n.b≥0)=true:=by rw [decide_eq_true_iff];omega
   refine AW.condS (by simp -implicitDefEqProofs only[go_sem,seval,↓reduceIte];rfl) (fun h26=>?_) (fun h26=>?_);rotate_left
   ·rw [q1] at h26;cases h26
   refine AW.region (by kernel_rfl) ?_;simp -implicitDefEqProofs only[go_sem,seval,↓reduceIte];refine CallA.pure hG (by kernel_rfl) ?_;simp -implicitDefEqProofs only[go_sem,seval,↓reduceIte,recol_xns];refine (h2 _ _).mono ?_;rintro _ _ rfl;simp -implicitDefEqProofs only[go_sem,seval,↓reduceIte];exact hK1 _ () trivial (Weak.st (by simp -implicitDefEqProofs only[go_sem,seval,↓reduceIte];try rfl) (by simp -implicitDefEqProofs only[go_sem,seval,↓reduceIte];try rfl))
 intro _ _;refine AW.seqJ (fun (_:Unit)=>st [(0,encSl c0 6 encXN s),(2,encSl c1 1 V.str names),(7,.ptr 7 g7 0),(8,.int .i64 a),(9,.int .i64 b),(10,.int .i64 c)] [(7,.cells .new g7 0 [.int .u8 n.op,.int .i64 n.num,.str n.name,.int .i64 n.a,.int .i64 n.b,.int .i64 n.c])]) (fun _=>True) (fun K1 hK1=>?_) ?_
 ·refine AW.seq_k fun K hK=>AW.region (by kernel_rfl) ?_
  simp -implicitDefEqProofs only[go_sem,seval,↓reduceIte];refine hK _ ?_;clear hK K
  rcases hc with ⟨h1,h2⟩ | ⟨h1,h2⟩
  ·have q1:decide (n.c≥0)=false:=by rw [decide_eq_false_iff_not];omega
   refine AW.condS (by simp -implicitDefEqProofs only[go_sem,seval,↓reduceIte];rfl) (fun h34=>?_) (fun h34=>?_)
   ·rw [q1] at h34;cases h34
   refine AW.skip ?_;simp -implicitDefEqProofs only[go_sem,seval,↓reduceIte];exact hK1 _ () trivial (Weak.st (by simp -implicitDefEqProofs only[go_sem,seval,↓reduceIte];rw [h2]) (by simp -implicitDefEqProofs only[go_sem,seval,↓reduceIte];try rfl))
  ·have q1:decide (n.c≥0)=true:=by rw [decide_eq_true_iff];omega
   refine AW.condS (by simp -implicitDefEqProofs only[go_sem,seval,↓reduceIte];rfl) (fun h34=>?_) (fun h34=>?_);rotate_left
   ·rw [q1] at h34;cases h34
   refine AW.region (by kernel_rfl) ?_;simp -implicitDefEqProofs only[go_sem,seval,↓reduceIte];refine CallA.pure hG (by kernel_rfl) ?_;simp -implicitDefEqProofs only[go_sem,seval,↓reduceIte,recol_xns];refine (h2 _ _).mono ?_;rintro _ _ rfl;simp -implicitDefEqProofs only[go_sem,seval,↓reduceIte];exact hK1 _ () trivial (Weak.st (by simp -implicitDefEqProofs only[go_sem,seval,↓reduceIte];try rfl) (by simp -implicitDefEqProofs only[go_sem,seval,↓reduceIte];try rfl))
 intro _ _;clear ha hb hc hg hm;obtain ⟨op,num,name,na,nb,nc⟩:=n;simp only at hop hP;refine AW.seq_k fun K hK=>AW.region (by kernel_rfl) ?_;simp -implicitDefEqProofs only[go_sem,seval,↓reduceIte];refine hK _ ?_;clear hK K;refine AW.seq_k fun KB hKB=>?_;refine AW.block ?_
 by_cases hc2:op=2
 ·subst hc2
  refine AW.seq_k fun K hK=>AW.region (by kernel_rfl) ?_;simp -implicitDefEqProofs only[go_sem,seval,↓reduceIte];refine CallA.pure hG (by kernel_rfl) ?_;simp -implicitDefEqProofs only[go_sem,seval,↓reduceIte];refine (r9Among_spec G hG _ name names hnl).mono ?_;rintro _ _ rfl;simp -implicitDefEqProofs only[go_sem,seval,↓reduceIte];refine hK _ ?_;clear hK K
  cases hcn:names.l.contains name with
  | true =>
   refine AW.condS (by simp -implicitDefEqProofs only[go_sem,seval,↓reduceIte];rfl) (fun h42=>?_) (fun h42=>?_);rotate_left
   ·cases h42
   refine AW.seq_k fun K hK=>AW.region (by kernel_rfl) ?_;simp -implicitDefEqProofs only[go_sem,seval,↓reduceIte];refine hK _ ?_;clear hK K;refine AW.ret ?_;simp -implicitDefEqProofs only[go_sem,seval,↓reduceIte];refine endK_some ?_;rw [hP,hcn];rfl
  | false =>
   have hkd:res=0:=by rw [hP,hcn];rfl
   refine AW.condS (by simp -implicitDefEqProofs only[go_sem,seval,↓reduceIte];rfl) (fun h42=>?_) (fun h42=>?_)
   ·cases h42
   refine AW.seq_k fun K hK=>AW.region (by kernel_rfl) ?_;simp -implicitDefEqProofs only[go_sem,seval,↓reduceIte];refine hK _ ?_;clear hK K;refine AW.condS (by simp -implicitDefEqProofs only[go_sem,seval,↓reduceIte];rfl) (fun h55=>?_) (fun h55=>?_)
   ·cases h55
   refine AW.seq_k fun K hK=>AW.region (by kernel_rfl) ?_;simp -implicitDefEqProofs only[go_sem,seval,↓reduceIte];refine hK _ ?_;clear hK K;refine AW.condS (by simp -implicitDefEqProofs only[go_sem,seval,↓reduceIte];rfl) (fun h62=>?_) (fun h62=>?_)
   ·cases h62
   refine AW.seq_k fun K hK=>AW.region (by kernel_rfl) ?_;simp -implicitDefEqProofs only[go_sem,seval,↓reduceIte];refine hK _ ?_;clear hK K;refine AW.condS (by simp -implicitDefEqProofs only[go_sem,seval,↓reduceIte];rfl) (fun h85=>?_) (fun h85=>?_)
   ·cases h85
   refine AW.seq_k fun K hK=>AW.region (by kernel_rfl) ?_;simp -implicitDefEqProofs only[go_sem,seval,↓reduceIte];refine hK _ ?_;clear hK K;refine AW.condS (by simp -implicitDefEqProofs only[go_sem,seval,↓reduceIte];rfl) (fun h117=>?_) (fun h117=>?_)
   ·cases h117
   refine AW.seq_k fun K hK=>AW.region (by kernel_rfl) ?_;simp -implicitDefEqProofs only[go_sem,seval,↓reduceIte];refine hK _ ?_;clear hK K;refine AW.condS (by simp -implicitDefEqProofs only[go_sem,seval,↓reduceIte];rfl) (fun h140=>?_) (fun h140=>?_)
   ·cases h140
   refine AW.skip ?_;simp -implicitDefEqProofs only[go_sem,seval,↓reduceIte];refine hKB _ ?_;refine AW.seq_k fun K hK=>AW.region (by kernel_rfl) ?_;simp -implicitDefEqProofs only[go_sem,seval,↓reduceIte];refine hK _ ?_;clear hK K;refine AW.ret ?_;simp -implicitDefEqProofs only[go_sem,seval,↓reduceIte];refine endK_some ?_;rw [hkd]
 by_cases hc1:op=1
 ·have f0:(op==1)=true:=by rw [beq_iff_eq];omega
  have f1:(op==2)=false:=by rw [beq_eq_false_iff_ne];omega
  have f2:(op==3)=false:=by rw [beq_eq_false_iff_ne];omega
  have f3:(op==4)=false:=by rw [beq_eq_false_iff_ne];omega
  have f4:(op==5)=false:=by rw [beq_eq_false_iff_ne];omega
  have f5:(op==6)=false:=by rw [beq_eq_false_iff_ne];omega
  have f6:(op==16)=false:=by rw [beq_eq_false_iff_ne];omega
  have f7:(op==17)=false:=by rw [beq_eq_false_iff_ne];omega
  have f8:(op==22)=false:=by rw [beq_eq_false_iff_ne];omega
  have f9:decide (op≥7)=false:=by rw [decide_eq_false_iff_not];omega
  have f10:decide (op≥12)=false:=by rw [decide_eq_false_iff_not];omega
  have f11:decide (op≥18)=false:=by rw [decide_eq_false_iff_not];omega
  have f12:decide (op≤11)=true:=by rw [decide_eq_true_iff];omega
  have f13:decide (op≤15)=true:=by rw [decide_eq_true_iff];omega
  have f14:decide (op≤21)=true:=by rw [decide_eq_true_iff];omega
  have hkd:res=1:=by
   rw [hP];exact kd_1 (by omega)
  refine AW.seq_k fun K hK=>AW.region (by kernel_rfl) ?_;simp -implicitDefEqProofs only[go_sem,seval,↓reduceIte,f0,f1,f2,f3,f4,f5,f6,f7,f8,f9,f10,f11,f12,f13,f14];refine hK _ ?_;clear hK K;refine AW.condS (by simp -implicitDefEqProofs only[go_sem,seval,↓reduceIte];rfl) (fun h42=>?_) (fun h42=>?_);rotate_left
  ·cases h42
  refine AW.seq_k fun K hK=>AW.region (by kernel_rfl) ?_;simp -implicitDefEqProofs only[go_sem,seval,↓reduceIte];refine hK _ ?_;clear hK K;refine AW.ret ?_;simp -implicitDefEqProofs only[go_sem,seval,↓reduceIte];refine endK_some ?_;rw [hkd]
 by_cases hc3:op=3
 ·have f0:(op==1)=false:=by rw [beq_eq_false_iff_ne];omega
  have f1:(op==2)=false:=by rw [beq_eq_false_iff_ne];omega
  have f2:(op==3)=true:=by rw [beq_iff_eq];omega
  have f3:(op==4)=false:=by rw [beq_eq_false_iff_ne];omega
  have f4:(op==5)=false:=by rw [beq_eq_false_iff_ne];omega
  have f5:(op==6)=false:=by rw [beq_eq_false_iff_ne];omega
  have f6:(op==16)=false:=by rw [beq_eq_false_iff_ne];omega
  have f7:(op==17)=false:=by rw [beq_eq_false_iff_ne];omega
  have f8:(op==22)=false:=by rw [beq_eq_false_iff_ne];omega
  have f9:decide (op≥7)=false:=by rw [decide_eq_false_iff_not];omega
  have f10:decide (op≥12)=false:=by rw [decide_eq_false_iff_not];omega
  have f11:decide (op≥18)=false:=by rw [decide_eq_false_iff_not];omega
  have f12:decide (op≤11)=true:=by rw [decide_eq_true_iff];omega
  have f13:decide (op≤15)=true:=by rw [decide_eq_true_iff];omega
  have f14:decide (op≤21)=true:=by rw [decide_eq_true_iff];omega
  have hkd:res=2:=by
   rw [hP];exact kd_2 (by omega) (by omega) (by repeat' split<;>omega)
  refine AW.seq_k fun K hK=>AW.region (by kernel_rfl) ?_;simp -implicitDefEqProofs only[go_sem,seval,↓reduceIte,f0,f1,f2,f3,f4,f5,f6,f7,f8,f9,f10,f11,f12,f13,f14];refine hK _ ?_;clear hK K;refine AW.condS (by simp -implicitDefEqProofs only[go_sem,seval,↓reduceIte];rfl) (fun h42=>?_) (fun h42=>?_)
  ·cases h42
  refine AW.seq_k fun K hK=>AW.region (by kernel_rfl) ?_;simp -implicitDefEqProofs only[go_sem,seval,↓reduceIte,f0,f1,f2,f3,f4,f5,f6,f7,f8,f9,f10,f11,f12,f13,f14];refine hK _ ?_;clear hK K;refine AW.condS (by simp -implicitDefEqProofs only[go_sem,seval,↓reduceIte];rfl) (fun h55=>?_) (fun h55=>?_);rotate_left
  ·cases h55
  refine AW.seq_k fun K hK=>AW.region (by kernel_rfl) ?_;simp -implicitDefEqProofs only[go_sem,seval,↓reduceIte];refine hK _ ?_;clear hK K;refine AW.ret ?_;simp -implicitDefEqProofs only[go_sem,seval,↓reduceIte];refine endK_some ?_;rw [hkd]
 by_cases hc4:op=4
 ·have f0:(op==1)=false:=by rw [beq_eq_false_iff_ne];omega
  have f1:(op==2)=false:=by rw [beq_eq_false_iff_ne];omega
  have f2:(op==3)=false:=by rw [beq_eq_false_iff_ne];omega
  have f3:(op==4)=true:=by rw [beq_iff_eq];omega
  have f4:(op==5)=false:=by rw [beq_eq_false_iff_ne];omega
  have f5:(op==6)=false:=by rw [beq_eq_false_iff_ne];omega
  have f6:(op==16)=false:=by rw [beq_eq_false_iff_ne];omega
  have f7:(op==17)=false:=by rw [beq_eq_false_iff_ne];omega
  have f8:(op==22)=false:=by rw [beq_eq_false_iff_ne];omega
  have f9:decide (op≥7)=false:=by rw [decide_eq_false_iff_not];omega
  have f10:decide (op≥12)=false:=by rw [decide_eq_false_iff_not];omega
  have f11:decide (op≥18)=false:=by rw [decide_eq_false_iff_not];omega
  have f12:decide (op≤11)=true:=by rw [decide_eq_true_iff];omega
  have f13:decide (op≤15)=true:=by rw [decide_eq_true_iff];omega
  have f14:decide (op≤21)=true:=by rw [decide_eq_true_iff];omega
  have hkd:res=2:=by
   rw [hP];exact kd_2 (by omega) (by omega) (by repeat' split<;>omega)
  refine AW.seq_k fun K hK=>AW.region (by kernel_rfl) ?_;simp -implicitDefEqProofs only[go_sem,seval,↓reduceIte,f0,f1,f2,f3,f4,f5,f6,f7,f8,f9,f10,f11,f12,f13,f14];refine hK _ ?_;clear hK K;refine AW.condS (by simp -implicitDefEqProofs only[go_sem,seval,↓reduceIte];rfl) (fun h42=>?_) (fun h42=>?_)
  ·cases h42
  refine AW.seq_k fun K hK=>AW.region (by kernel_rfl) ?_;simp -implicitDefEqProofs only[go_sem,seval,↓reduceIte,f0,f1,f2,f3,f4,f5,f6,f7,f8,f9,f10,f11,f12,f13,f14];refine hK _ ?_;clear hK K;refine AW.condS (by simp -implicitDefEqProofs only[go_sem,seval,↓reduceIte];rfl) (fun h55=>?_) (fun h55=>?_);rotate_left
  ·cases h55
  refine AW.seq_k fun K hK=>AW.region (by kernel_rfl) ?_;simp -implicitDefEqProofs only[go_sem,seval,↓reduceIte];refine hK _ ?_;clear hK K;refine AW.ret ?_;simp -implicitDefEqProofs only[go_sem,seval,↓reduceIte];refine endK_some ?_;rw [hkd]
 by_cases hc5:op=5
 ·have f0:(op==1)=false:=by rw [beq_eq_false_iff_ne];omega
  have f1:(op==2)=false:=by rw [beq_eq_false_iff_ne];omega
  have f2:(op==3)=false:=by rw [beq_eq_false_iff_ne];omega
  have f3:(op==4)=false:=by rw [beq_eq_false_iff_ne];omega
  have f4:(op==5)=true:=by rw [beq_iff_eq];omega
  have f5:(op==6)=false:=by rw [beq_eq_false_iff_ne];omega
  have f6:(op==16)=false:=by rw [beq_eq_false_iff_ne];omega
  have f7:(op==17)=false:=by rw [beq_eq_false_iff_ne];omega
  have f8:(op==22)=false:=by rw [beq_eq_false_iff_ne];omega
  have f9:decide (op≥7)=false:=by rw [decide_eq_false_iff_not];omega
  have f10:decide (op≥12)=false:=by rw [decide_eq_false_iff_not];omega
  have f11:decide (op≥18)=false:=by rw [decide_eq_false_iff_not];omega
  have f12:decide (op≤11)=true:=by rw [decide_eq_true_iff];omega
  have f13:decide (op≤15)=true:=by rw [decide_eq_true_iff];omega
  have f14:decide (op≤21)=true:=by rw [decide_eq_true_iff];omega
  by_cases hs0:a=1
  ·have s0:(a==1)=true:=by simpa using hs0
   have hkd:res=1:=by
    rw [hP];exact kd_2 (by omega) (by omega) (by repeat' split<;>omega)
   refine AW.seq_k fun K hK=>AW.region (by kernel_rfl) ?_;simp -implicitDefEqProofs only[go_sem,seval,↓reduceIte,f0,f1,f2,f3,f4,f5,f6,f7,f8,f9,f10,f11,f12,f13,f14,s0];refine hK _ ?_;clear hK K;refine AW.condS (by simp -implicitDefEqProofs only[go_sem,seval,↓reduceIte];rfl) (fun h42=>?_) (fun h42=>?_)
   ·cases h42
   refine AW.seq_k fun K hK=>AW.region (by kernel_rfl) ?_;simp -implicitDefEqProofs only[go_sem,seval,↓reduceIte,f0,f1,f2,f3,f4,f5,f6,f7,f8,f9,f10,f11,f12,f13,f14,s0];refine hK _ ?_;clear hK K;refine AW.condS (by simp -implicitDefEqProofs only[go_sem,seval,↓reduceIte];rfl) (fun h55=>?_) (fun h55=>?_)
   ·cases h55
   refine AW.seq_k fun K hK=>AW.region (by kernel_rfl) ?_;simp -implicitDefEqProofs only[go_sem,seval,↓reduceIte,f0,f1,f2,f3,f4,f5,f6,f7,f8,f9,f10,f11,f12,f13,f14,s0];refine hK _ ?_;clear hK K;refine AW.condS (by simp -implicitDefEqProofs only[go_sem,seval,↓reduceIte];rfl) (fun h62=>?_) (fun h62=>?_);rotate_left
   ·cases h62
   refine AW.seq_k fun K hK=>AW.region (by kernel_rfl) ?_;simp -implicitDefEqProofs only[go_sem,seval,↓reduceIte];refine hK _ ?_;clear hK K;refine AW.ret ?_;simp -implicitDefEqProofs only[go_sem,seval,↓reduceIte];refine endK_some ?_;rw [hkd]
  by_cases hs1:¬ a=1
  ·have s0:(a==1)=false:=by simpa using hs1
   have hkd:res=0:=by
    rw [hP];exact kd_2 (by omega) (by omega) (by repeat' split<;>omega)
   refine AW.seq_k fun K hK=>AW.region (by kernel_rfl) ?_;simp -implicitDefEqProofs only[go_sem,seval,↓reduceIte,f0,f1,f2,f3,f4,f5,f6,f7,f8,f9,f10,f11,f12,f13,f14,s0];refine hK _ ?_;clear hK K;refine AW.condS (by simp -implicitDefEqProofs only[go_sem,seval,↓reduceIte];rfl) (fun h42=>?_) (fun h42=>?_)
   ·cases h42
   refine AW.seq_k fun K hK=>AW.region (by kernel_rfl) ?_;simp -implicitDefEqProofs only[go_sem,seval,↓reduceIte,f0,f1,f2,f3,f4,f5,f6,f7,f8,f9,f10,f11,f12,f13,f14,s0];refine hK _ ?_;clear hK K;refine AW.condS (by simp -implicitDefEqProofs only[go_sem,seval,↓reduceIte];rfl) (fun h55=>?_) (fun h55=>?_)
   ·cases h55
   refine AW.seq_k fun K hK=>AW.region (by kernel_rfl) ?_;simp -implicitDefEqProofs only[go_sem,seval,↓reduceIte,f0,f1,f2,f3,f4,f5,f6,f7,f8,f9,f10,f11,f12,f13,f14,s0];refine hK _ ?_;clear hK K;refine AW.condS (by simp -implicitDefEqProofs only[go_sem,seval,↓reduceIte];rfl) (fun h62=>?_) (fun h62=>?_)
   ·cases h62
   refine AW.seq_k fun K hK=>AW.region (by kernel_rfl) ?_;simp -implicitDefEqProofs only[go_sem,seval,↓reduceIte,f0,f1,f2,f3,f4,f5,f6,f7,f8,f9,f10,f11,f12,f13,f14,s0];refine hK _ ?_;clear hK K;refine AW.condS (by simp -implicitDefEqProofs only[go_sem,seval,↓reduceIte];rfl) (fun h85=>?_) (fun h85=>?_)
   ·cases h85
   refine AW.seq_k fun K hK=>AW.region (by kernel_rfl) ?_;simp -implicitDefEqProofs only[go_sem,seval,↓reduceIte,f0,f1,f2,f3,f4,f5,f6,f7,f8,f9,f10,f11,f12,f13,f14,s0];refine hK _ ?_;clear hK K;refine AW.condS (by simp -implicitDefEqProofs only[go_sem,seval,↓reduceIte];rfl) (fun h117=>?_) (fun h117=>?_)
   ·cases h117
   refine AW.seq_k fun K hK=>AW.region (by kernel_rfl) ?_;simp -implicitDefEqProofs only[go_sem,seval,↓reduceIte,f0,f1,f2,f3,f4,f5,f6,f7,f8,f9,f10,f11,f12,f13,f14,s0];refine hK _ ?_;clear hK K;refine AW.condS (by simp -implicitDefEqProofs only[go_sem,seval,↓reduceIte];rfl) (fun h140=>?_) (fun h140=>?_)
   ·cases h140
   refine AW.skip ?_;simp -implicitDefEqProofs only[go_sem,seval,↓reduceIte];refine hKB _ ?_;refine AW.seq_k fun K hK=>AW.region (by kernel_rfl) ?_;simp -implicitDefEqProofs only[go_sem,seval,↓reduceIte];refine hK _ ?_;clear hK K;refine AW.ret ?_;simp -implicitDefEqProofs only[go_sem,seval,↓reduceIte];refine endK_some ?_;rw [hkd]
  exfalso;omega
 by_cases hc6:op=6
 ·have f0:(op==1)=false:=by rw [beq_eq_false_iff_ne];omega
  have f1:(op==2)=false:=by rw [beq_eq_false_iff_ne];omega
  have f2:(op==3)=false:=by rw [beq_eq_false_iff_ne];omega
  have f3:(op==4)=false:=by rw [beq_eq_false_iff_ne];omega
  have f4:(op==5)=false:=by rw [beq_eq_false_iff_ne];omega
  have f5:(op==6)=true:=by rw [beq_iff_eq];omega
  have f6:(op==16)=false:=by rw [beq_eq_false_iff_ne];omega
  have f7:(op==17)=false:=by rw [beq_eq_false_iff_ne];omega
  have f8:(op==22)=false:=by rw [beq_eq_false_iff_ne];omega
  have f9:decide (op≥7)=false:=by rw [decide_eq_false_iff_not];omega
  have f10:decide (op≥12)=false:=by rw [decide_eq_false_iff_not];omega
  have f11:decide (op≥18)=false:=by rw [decide_eq_false_iff_not];omega
  have f12:decide (op≤11)=true:=by rw [decide_eq_true_iff];omega
  have f13:decide (op≤15)=true:=by rw [decide_eq_true_iff];omega
  have f14:decide (op≤21)=true:=by rw [decide_eq_true_iff];omega
  by_cases hs0:a=2
  ·have s0:(a==2)=true:=by simpa using hs0
   have hkd:res=2:=by
    rw [hP];exact kd_2 (by omega) (by omega) (by repeat' split<;>omega)
   refine AW.seq_k fun K hK=>AW.region (by kernel_rfl) ?_;simp -implicitDefEqProofs only[go_sem,seval,↓reduceIte,f0,f1,f2,f3,f4,f5,f6,f7,f8,f9,f10,f11,f12,f13,f14,s0];refine hK _ ?_;clear hK K;refine AW.condS (by simp -implicitDefEqProofs only[go_sem,seval,↓reduceIte];rfl) (fun h42=>?_) (fun h42=>?_)
   ·cases h42
   refine AW.seq_k fun K hK=>AW.region (by kernel_rfl) ?_;simp -implicitDefEqProofs only[go_sem,seval,↓reduceIte,f0,f1,f2,f3,f4,f5,f6,f7,f8,f9,f10,f11,f12,f13,f14,s0];refine hK _ ?_;clear hK K;refine AW.condS (by simp -implicitDefEqProofs only[go_sem,seval,↓reduceIte];rfl) (fun h55=>?_) (fun h55=>?_)
   ·cases h55
   refine AW.seq_k fun K hK=>AW.region (by kernel_rfl) ?_;simp -implicitDefEqProofs only[go_sem,seval,↓reduceIte,f0,f1,f2,f3,f4,f5,f6,f7,f8,f9,f10,f11,f12,f13,f14,s0];refine hK _ ?_;clear hK K;refine AW.condS (by simp -implicitDefEqProofs only[go_sem,seval,↓reduceIte];rfl) (fun h62=>?_) (fun h62=>?_)
   ·cases h62
   refine AW.seq_k fun K hK=>AW.region (by kernel_rfl) ?_;simp -implicitDefEqProofs only[go_sem,seval,↓reduceIte,f0,f1,f2,f3,f4,f5,f6,f7,f8,f9,f10,f11,f12,f13,f14,s0];refine hK _ ?_;clear hK K;refine AW.condS (by simp -implicitDefEqProofs only[go_sem,seval,↓reduceIte];rfl) (fun h85=>?_) (fun h85=>?_)
   ·cases h85
   refine AW.seq_k fun K hK=>AW.region (by kernel_rfl) ?_;simp -implicitDefEqProofs only[go_sem,seval,↓reduceIte,f0,f1,f2,f3,f4,f5,f6,f7,f8,f9,f10,f11,f12,f13,f14,s0];refine hK _ ?_;clear hK K;refine AW.condS (by simp -implicitDefEqProofs only[go_sem,seval,↓reduceIte];rfl) (fun h117=>?_) (fun h117=>?_);rotate_left
   ·cases h117
   refine AW.seq_k fun K hK=>AW.region (by kernel_rfl) ?_;simp -implicitDefEqProofs only[go_sem,seval,↓reduceIte];refine hK _ ?_;clear hK K;refine AW.ret ?_;simp -implicitDefEqProofs only[go_sem,seval,↓reduceIte];refine endK_some ?_;rw [hkd]
  by_cases hs1:¬ a=2
  ·have s0:(a==2)=false:=by simpa using hs1
   have hkd:res=0:=by
    rw [hP];exact kd_2 (by omega) (by omega) (by repeat' split<;>omega)
   refine AW.seq_k fun K hK=>AW.region (by kernel_rfl) ?_;simp -implicitDefEqProofs only[go_sem,seval,↓reduceIte,f0,f1,f2,f3,f4,f5,f6,f7,f8,f9,f10,f11,f12,f13,f14,s0];refine hK _ ?_;clear hK K;refine AW.condS (by simp -implicitDefEqProofs only[go_sem,seval,↓reduceIte];rfl) (fun h42=>?_) (fun h42=>?_)
   ·cases h42
   refine AW.seq_k fun K hK=>AW.region (by kernel_rfl) ?_;simp -implicitDefEqProofs only[go_sem,seval,↓reduceIte,f0,f1,f2,f3,f4,f5,f6,f7,f8,f9,f10,f11,f12,f13,f14,s0];refine hK _ ?_;clear hK K;refine AW.condS (by simp -implicitDefEqProofs only[go_sem,seval,↓reduceIte];rfl) (fun h55=>?_) (fun h55=>?_)
   ·cases h55
   refine AW.seq_k fun K hK=>AW.region (by kernel_rfl) ?_;simp -implicitDefEqProofs only[go_sem,seval,↓reduceIte,f0,f1,f2,f3,f4,f5,f6,f7,f8,f9,f10,f11,f12,f13,f14,s0];refine hK _ ?_;clear hK K;refine AW.condS (by simp -implicitDefEqProofs only[go_sem,seval,↓reduceIte];rfl) (fun h62=>?_) (fun h62=>?_)
   ·cases h62
   refine AW.seq_k fun K hK=>AW.region (by kernel_rfl) ?_;simp -implicitDefEqProofs only[go_sem,seval,↓reduceIte,f0,f1,f2,f3,f4,f5,f6,f7,f8,f9,f10,f11,f12,f13,f14,s0];refine hK _ ?_;clear hK K;refine AW.condS (by simp -implicitDefEqProofs only[go_sem,seval,↓reduceIte];rfl) (fun h85=>?_) (fun h85=>?_)
   ·cases h85
   refine AW.seq_k fun K hK=>AW.region (by kernel_rfl) ?_;simp -implicitDefEqProofs only[go_sem,seval,↓reduceIte,f0,f1,f2,f3,f4,f5,f6,f7,f8,f9,f10,f11,f12,f13,f14,s0];refine hK _ ?_;clear hK K;refine AW.condS (by simp -implicitDefEqProofs only[go_sem,seval,↓reduceIte];rfl) (fun h117=>?_) (fun h117=>?_)
   ·cases h117
   refine AW.seq_k fun K hK=>AW.region (by kernel_rfl) ?_;simp -implicitDefEqProofs only[go_sem,seval,↓reduceIte,f0,f1,f2,f3,f4,f5,f6,f7,f8,f9,f10,f11,f12,f13,f14,s0];refine hK _ ?_;clear hK K;refine AW.condS (by simp -implicitDefEqProofs only[go_sem,seval,↓reduceIte];rfl) (fun h140=>?_) (fun h140=>?_)
   ·cases h140
   refine AW.skip ?_;simp -implicitDefEqProofs only[go_sem,seval,↓reduceIte];refine hKB _ ?_;refine AW.seq_k fun K hK=>AW.region (by kernel_rfl) ?_;simp -implicitDefEqProofs only[go_sem,seval,↓reduceIte];refine hK _ ?_;clear hK K;refine AW.ret ?_;simp -implicitDefEqProofs only[go_sem,seval,↓reduceIte];refine endK_some ?_;rw [hkd]
  exfalso;omega
 by_cases hc7:7≤op∧op≤11
 ·have f0:(op==1)=false:=by rw [beq_eq_false_iff_ne];omega
  have f1:(op==2)=false:=by rw [beq_eq_false_iff_ne];omega
  have f2:(op==3)=false:=by rw [beq_eq_false_iff_ne];omega
  have f3:(op==4)=false:=by rw [beq_eq_false_iff_ne];omega
  have f4:(op==5)=false:=by rw [beq_eq_false_iff_ne];omega
  have f5:(op==6)=false:=by rw [beq_eq_false_iff_ne];omega
  have f6:(op==16)=false:=by rw [beq_eq_false_iff_ne];omega
  have f7:(op==17)=false:=by rw [beq_eq_false_iff_ne];omega
  have f8:(op==22)=false:=by rw [beq_eq_false_iff_ne];omega
  have f9:decide (op≥7)=true:=by rw [decide_eq_true_iff];omega
  have f10:decide (op≥12)=false:=by rw [decide_eq_false_iff_not];omega
  have f11:decide (op≥18)=false:=by rw [decide_eq_false_iff_not];omega
  have f12:decide (op≤11)=true:=by rw [decide_eq_true_iff];omega
  have f13:decide (op≤15)=true:=by rw [decide_eq_true_iff];omega
  have f14:decide (op≤21)=true:=by rw [decide_eq_true_iff];omega
  by_cases hs0:a=1∧b=1
  ·have s0:(a==1)=true:=by simpa using hs0.1
   have s1:(b==1)=true:=by simpa using hs0.2
   have hkd:res=1:=by
    rw [hP];exact kd_2 (by omega) (by omega) (by repeat' split<;>omega)
   refine AW.seq_k fun K hK=>AW.region (by kernel_rfl) ?_;simp -implicitDefEqProofs only[go_sem,seval,↓reduceIte,f0,f1,f2,f3,f4,f5,f6,f7,f8,f9,f10,f11,f12,f13,f14,s0,s1];refine hK _ ?_;clear hK K;refine AW.condS (by simp -implicitDefEqProofs only[go_sem,seval,↓reduceIte];rfl) (fun h42=>?_) (fun h42=>?_)
   ·cases h42
   refine AW.seq_k fun K hK=>AW.region (by kernel_rfl) ?_;simp -implicitDefEqProofs only[go_sem,seval,↓reduceIte,f0,f1,f2,f3,f4,f5,f6,f7,f8,f9,f10,f11,f12,f13,f14,s0,s1];refine hK _ ?_;clear hK K;refine AW.condS (by simp -implicitDefEqProofs only[go_sem,seval,↓reduceIte];rfl) (fun h55=>?_) (fun h55=>?_)
   ·cases h55
   refine AW.seq_k fun K hK=>AW.region (by kernel_rfl) ?_;simp -implicitDefEqProofs only[go_sem,seval,↓reduceIte,f0,f1,f2,f3,f4,f5,f6,f7,f8,f9,f10,f11,f12,f13,f14,s0,s1];refine hK _ ?_;clear hK K;refine AW.condS (by simp -implicitDefEqProofs only[go_sem,seval,↓reduceIte];rfl) (fun h62=>?_) (fun h62=>?_);rotate_left
   ·cases h62
   refine AW.seq_k fun K hK=>AW.region (by kernel_rfl) ?_;simp -implicitDefEqProofs only[go_sem,seval,↓reduceIte];refine hK _ ?_;clear hK K;refine AW.ret ?_;simp -implicitDefEqProofs only[go_sem,seval,↓reduceIte];refine endK_some ?_;rw [hkd]
  by_cases hs1:a=1∧¬ b=1
  ·have s0:(a==1)=true:=by simpa using hs1.1
   have s1:(b==1)=false:=by simpa using hs1.2
   have hkd:res=0:=by
    rw [hP];exact kd_2 (by omega) (by omega) (by repeat' split<;>omega)
   refine AW.seq_k fun K hK=>AW.region (by kernel_rfl) ?_;simp -implicitDefEqProofs only[go_sem,seval,↓reduceIte,f0,f1,f2,f3,f4,f5,f6,f7,f8,f9,f10,f11,f12,f13,f14,s0,s1];refine hK _ ?_;clear hK K;refine AW.condS (by simp -implicitDefEqProofs only[go_sem,seval,↓reduceIte];rfl) (fun h42=>?_) (fun h42=>?_)
   ·cases h42
   refine AW.seq_k fun K hK=>AW.region (by kernel_rfl) ?_;simp -implicitDefEqProofs only[go_sem,seval,↓reduceIte,f0,f1,f2,f3,f4,f5,f6,f7,f8,f9,f10,f11,f12,f13,f14,s0,s1];refine hK _ ?_;clear hK K;refine AW.condS (by simp -implicitDefEqProofs only[go_sem,seval,↓reduceIte];rfl) (fun h55=>?_) (fun h55=>?_)
   ·cases h55
   refine AW.seq_k fun K hK=>AW.region (by kernel_rfl) ?_;simp -implicitDefEqProofs only[go_sem,seval,↓reduceIte,f0,f1,f2,f3,f4,f5,f6,f7,f8,f9,f10,f11,f12,f13,f14,s0,s1];refine hK _ ?_;clear hK K;refine AW.condS (by simp -implicitDefEqProofs only[go_sem,seval,↓reduceIte];rfl) (fun h62=>?_) (fun h62=>?_)
   ·cases h62
   refine AW.seq_k fun K hK=>AW.region (by kernel_rfl) ?_;simp -implicitDefEqProofs only[go_sem,seval,↓reduceIte,f0,f1,f2,f3,f4,f5,f6,f7,f8,f9,f10,f11,f12,f13,f14,s0,s1];refine hK _ ?_;clear hK K;refine AW.condS (by simp -implicitDefEqProofs only[go_sem,seval,↓reduceIte];rfl) (fun h85=>?_) (fun h85=>?_)
   ·cases h85
   refine AW.seq_k fun K hK=>AW.region (by kernel_rfl) ?_;simp -implicitDefEqProofs only[go_sem,seval,↓reduceIte,f0,f1,f2,f3,f4,f5,f6,f7,f8,f9,f10,f11,f12,f13,f14,s0,s1];refine hK _ ?_;clear hK K;refine AW.condS (by simp -implicitDefEqProofs only[go_sem,seval,↓reduceIte];rfl) (fun h117=>?_) (fun h117=>?_)
   ·cases h117
   refine AW.seq_k fun K hK=>AW.region (by kernel_rfl) ?_;simp -implicitDefEqProofs only[go_sem,seval,↓reduceIte,f0,f1,f2,f3,f4,f5,f6,f7,f8,f9,f10,f11,f12,f13,f14,s0,s1];refine hK _ ?_;clear hK K;refine AW.condS (by simp -implicitDefEqProofs only[go_sem,seval,↓reduceIte];rfl) (fun h140=>?_) (fun h140=>?_)
   ·cases h140
   refine AW.skip ?_;simp -implicitDefEqProofs only[go_sem,seval,↓reduceIte];refine hKB _ ?_;refine AW.seq_k fun K hK=>AW.region (by kernel_rfl) ?_;simp -implicitDefEqProofs only[go_sem,seval,↓reduceIte];refine hK _ ?_;clear hK K;refine AW.ret ?_;simp -implicitDefEqProofs only[go_sem,seval,↓reduceIte];refine endK_some ?_;rw [hkd]
  by_cases hs2:¬ a=1
  ·have s0:(a==1)=false:=by simpa using hs2
   have hkd:res=0:=by
    rw [hP];exact kd_2 (by omega) (by omega) (by repeat' split<;>omega)
   refine AW.seq_k fun K hK=>AW.region (by kernel_rfl) ?_;simp -implicitDefEqProofs only[go_sem,seval,↓reduceIte,f0,f1,f2,f3,f4,f5,f6,f7,f8,f9,f10,f11,f12,f13,f14,s0];refine hK _ ?_;clear hK K;refine AW.condS (by simp -implicitDefEqProofs only[go_sem,seval,↓reduceIte];rfl) (fun h42=>?_) (fun h42=>?_)
   ·cases h42
   refine AW.seq_k fun K hK=>AW.region (by kernel_rfl) ?_;simp -implicitDefEqProofs only[go_sem,seval,↓reduceIte,f0,f1,f2,f3,f4,f5,f6,f7,f8,f9,f10,f11,f12,f13,f14,s0];refine hK _ ?_;clear hK K;refine AW.condS (by simp -implicitDefEqProofs only[go_sem,seval,↓reduceIte];rfl) (fun h55=>?_) (fun h55=>?_)
   ·cases h55
   refine AW.seq_k fun K hK=>AW.region (by kernel_rfl) ?_;simp -implicitDefEqProofs only[go_sem,seval,↓reduceIte,f0,f1,f2,f3,f4,f5,f6,f7,f8,f9,f10,f11,f12,f13,f14,s0];refine hK _ ?_;clear hK K;refine AW.condS (by simp -implicitDefEqProofs only[go_sem,seval,↓reduceIte];rfl) (fun h62=>?_) (fun h62=>?_)
   ·cases h62
   refine AW.seq_k fun K hK=>AW.region (by kernel_rfl) ?_;simp -implicitDefEqProofs only[go_sem,seval,↓reduceIte,f0,f1,f2,f3,f4,f5,f6,f7,f8,f9,f10,f11,f12,f13,f14,s0];refine hK _ ?_;clear hK K;refine AW.condS (by simp -implicitDefEqProofs only[go_sem,seval,↓reduceIte];rfl) (fun h85=>?_) (fun h85=>?_)
   ·cases h85
   refine AW.seq_k fun K hK=>AW.region (by kernel_rfl) ?_;simp -implicitDefEqProofs only[go_sem,seval,↓reduceIte,f0,f1,f2,f3,f4,f5,f6,f7,f8,f9,f10,f11,f12,f13,f14,s0];refine hK _ ?_;clear hK K;refine AW.condS (by simp -implicitDefEqProofs only[go_sem,seval,↓reduceIte];rfl) (fun h117=>?_) (fun h117=>?_)
   ·cases h117
   refine AW.seq_k fun K hK=>AW.region (by kernel_rfl) ?_;simp -implicitDefEqProofs only[go_sem,seval,↓reduceIte,f0,f1,f2,f3,f4,f5,f6,f7,f8,f9,f10,f11,f12,f13,f14,s0];refine hK _ ?_;clear hK K;refine AW.condS (by simp -implicitDefEqProofs only[go_sem,seval,↓reduceIte];rfl) (fun h140=>?_) (fun h140=>?_)
   ·cases h140
   refine AW.skip ?_;simp -implicitDefEqProofs only[go_sem,seval,↓reduceIte];refine hKB _ ?_;refine AW.seq_k fun K hK=>AW.region (by kernel_rfl) ?_;simp -implicitDefEqProofs only[go_sem,seval,↓reduceIte];refine hK _ ?_;clear hK K;refine AW.ret ?_;simp -implicitDefEqProofs only[go_sem,seval,↓reduceIte];refine endK_some ?_;rw [hkd]
  exfalso;omega
 by_cases hc12:12≤op∧op≤15
 ·have f0:(op==1)=false:=by rw [beq_eq_false_iff_ne];omega
  have f1:(op==2)=false:=by rw [beq_eq_false_iff_ne];omega
  have f2:(op==3)=false:=by rw [beq_eq_false_iff_ne];omega
  have f3:(op==4)=false:=by rw [beq_eq_false_iff_ne];omega
  have f4:(op==5)=false:=by rw [beq_eq_false_iff_ne];omega
  have f5:(op==6)=false:=by rw [beq_eq_false_iff_ne];omega
  have f6:(op==16)=false:=by rw [beq_eq_false_iff_ne];omega
  have f7:(op==17)=false:=by rw [beq_eq_false_iff_ne];omega
  have f8:(op==22)=false:=by rw [beq_eq_false_iff_ne];omega
  have f9:decide (op≥7)=true:=by rw [decide_eq_true_iff];omega
  have f10:decide (op≥12)=true:=by rw [decide_eq_true_iff];omega
  have f11:decide (op≥18)=false:=by rw [decide_eq_false_iff_not];omega
  have f12:decide (op≤11)=false:=by rw [decide_eq_false_iff_not];omega
  have f13:decide (op≤15)=true:=by rw [decide_eq_true_iff];omega
  have f14:decide (op≤21)=true:=by rw [decide_eq_true_iff];omega
  by_cases hs0:a=1∧b=1
  ·have s0:(a==1)=true:=by simpa using hs0.1
   have s1:(b==1)=true:=by simpa using hs0.2
   have hkd:res=2:=by
    rw [hP];exact kd_2 (by omega) (by omega) (by repeat' split<;>omega)
   refine AW.seq_k fun K hK=>AW.region (by kernel_rfl) ?_;simp -implicitDefEqProofs only[go_sem,seval,↓reduceIte,f0,f1,f2,f3,f4,f5,f6,f7,f8,f9,f10,f11,f12,f13,f14,s0,s1];refine hK _ ?_;clear hK K;refine AW.condS (by simp -implicitDefEqProofs only[go_sem,seval,↓reduceIte];rfl) (fun h42=>?_) (fun h42=>?_)
   ·cases h42
   refine AW.seq_k fun K hK=>AW.region (by kernel_rfl) ?_;simp -implicitDefEqProofs only[go_sem,seval,↓reduceIte,f0,f1,f2,f3,f4,f5,f6,f7,f8,f9,f10,f11,f12,f13,f14,s0,s1];refine hK _ ?_;clear hK K;refine AW.condS (by simp -implicitDefEqProofs only[go_sem,seval,↓reduceIte];rfl) (fun h55=>?_) (fun h55=>?_)
   ·cases h55
   refine AW.seq_k fun K hK=>AW.region (by kernel_rfl) ?_;simp -implicitDefEqProofs only[go_sem,seval,↓reduceIte,f0,f1,f2,f3,f4,f5,f6,f7,f8,f9,f10,f11,f12,f13,f14,s0,s1];refine hK _ ?_;clear hK K;refine AW.condS (by simp -implicitDefEqProofs only[go_sem,seval,↓reduceIte];rfl) (fun h62=>?_) (fun h62=>?_)
   ·cases h62
   refine AW.seq_k fun K hK=>AW.region (by kernel_rfl) ?_;simp -implicitDefEqProofs only[go_sem,seval,↓reduceIte,f0,f1,f2,f3,f4,f5,f6,f7,f8,f9,f10,f11,f12,f13,f14,s0,s1];refine hK _ ?_;clear hK K;refine AW.condS (by simp -implicitDefEqProofs only[go_sem,seval,↓reduceIte];rfl) (fun h85=>?_) (fun h85=>?_);rotate_left
   ·cases h85
   refine AW.seq_k fun K hK=>AW.region (by kernel_rfl) ?_;simp -implicitDefEqProofs only[go_sem,seval,↓reduceIte];refine hK _ ?_;clear hK K;refine AW.ret ?_;simp -implicitDefEqProofs only[go_sem,seval,↓reduceIte];refine endK_some ?_;rw [hkd]
  by_cases hs1:a=1∧¬ b=1
  ·have s0:(a==1)=true:=by simpa using hs1.1
   have s1:(b==1)=false:=by simpa using hs1.2
   have hkd:res=0:=by
    rw [hP];exact kd_2 (by omega) (by omega) (by repeat' split<;>omega)
   refine AW.seq_k fun K hK=>AW.region (by kernel_rfl) ?_;simp -implicitDefEqProofs only[go_sem,seval,↓reduceIte,f0,f1,f2,f3,f4,f5,f6,f7,f8,f9,f10,f11,f12,f13,f14,s0,s1];refine hK _ ?_;clear hK K;refine AW.condS (by simp -implicitDefEqProofs only[go_sem,seval,↓reduceIte];rfl) (fun h42=>?_) (fun h42=>?_)
   ·cases h42
   refine AW.seq_k fun K hK=>AW.region (by kernel_rfl) ?_;simp -implicitDefEqProofs only[go_sem,seval,↓reduceIte,f0,f1,f2,f3,f4,f5,f6,f7,f8,f9,f10,f11,f12,f13,f14,s0,s1];refine hK _ ?_;clear hK K;refine AW.condS (by simp -implicitDefEqProofs only[go_sem,seval,↓reduceIte];rfl) (fun h55=>?_) (fun h55=>?_)
   ·cases h55
   refine AW.seq_k fun K hK=>AW.region (by kernel_rfl) ?_;simp -implicitDefEqProofs only[go_sem,seval,↓reduceIte,f0,f1,f2,f3,f4,f5,f6,f7,f8,f9,f10,f11,f12,f13,f14,s0,s1];refine hK _ ?_;clear hK K;refine AW.condS (by simp -implicitDefEqProofs only[go_sem,seval,↓reduceIte];rfl) (fun h62=>?_) (fun h62=>?_)
   ·cases h62
   refine AW.seq_k fun K hK=>AW.region (by kernel_rfl) ?_;simp -implicitDefEqProofs only[go_sem,seval,↓reduceIte,f0,f1,f2,f3,f4,f5,f6,f7,f8,f9,f10,f11,f12,f13,f14,s0,s1];refine hK _ ?_;clear hK K;refine AW.condS (by simp -implicitDefEqProofs only[go_sem,seval,↓reduceIte];rfl) (fun h85=>?_) (fun h85=>?_)
   ·cases h85
   refine AW.seq_k fun K hK=>AW.region (by kernel_rfl) ?_;simp -implicitDefEqProofs only[go_sem,seval,↓reduceIte,f0,f1,f2,f3,f4,f5,f6,f7,f8,f9,f10,f11,f12,f13,f14,s0,s1];refine hK _ ?_;clear hK K;refine AW.condS (by simp -implicitDefEqProofs only[go_sem,seval,↓reduceIte];rfl) (fun h117=>?_) (fun h117=>?_)
   ·cases h117
   refine AW.seq_k fun K hK=>AW.region (by kernel_rfl) ?_;simp -implicitDefEqProofs only[go_sem,seval,↓reduceIte,f0,f1,f2,f3,f4,f5,f6,f7,f8,f9,f10,f11,f12,f13,f14,s0,s1];refine hK _ ?_;clear hK K;refine AW.condS (by simp -implicitDefEqProofs only[go_sem,seval,↓reduceIte];rfl) (fun h140=>?_) (fun h140=>?_)
   ·cases h140
   refine AW.skip ?_;simp -implicitDefEqProofs only[go_sem,seval,↓reduceIte];refine hKB _ ?_;refine AW.seq_k fun K hK=>AW.region (by kernel_rfl) ?_;simp -implicitDefEqProofs only[go_sem,seval,↓reduceIte];refine hK _ ?_;clear hK K;refine AW.ret ?_;simp -implicitDefEqProofs only[go_sem,seval,↓reduceIte];refine endK_some ?_;rw [hkd]
  by_cases hs2:¬ a=1
  ·have s0:(a==1)=false:=by simpa using hs2
   have hkd:res=0:=by
    rw [hP];exact kd_2 (by omega) (by omega) (by repeat' split<;>omega)
   refine AW.seq_k fun K hK=>AW.region (by kernel_rfl) ?_;simp -implicitDefEqProofs only[go_sem,seval,↓reduceIte,f0,f1,f2,f3,f4,f5,f6,f7,f8,f9,f10,f11,f12,f13,f14,s0];refine hK _ ?_;clear hK K;refine AW.condS (by simp -implicitDefEqProofs only[go_sem,seval,↓reduceIte];rfl) (fun h42=>?_) (fun h42=>?_)
   ·cases h42
   refine AW.seq_k fun K hK=>AW.region (by kernel_rfl) ?_;simp -implicitDefEqProofs only[go_sem,seval,↓reduceIte,f0,f1,f2,f3,f4,f5,f6,f7,f8,f9,f10,f11,f12,f13,f14,s0];refine hK _ ?_;clear hK K;refine AW.condS (by simp -implicitDefEqProofs only[go_sem,seval,↓reduceIte];rfl) (fun h55=>?_) (fun h55=>?_)
   ·cases h55
   refine AW.seq_k fun K hK=>AW.region (by kernel_rfl) ?_;simp -implicitDefEqProofs only[go_sem,seval,↓reduceIte,f0,f1,f2,f3,f4,f5,f6,f7,f8,f9,f10,f11,f12,f13,f14,s0];refine hK _ ?_;clear hK K;refine AW.condS (by simp -implicitDefEqProofs only[go_sem,seval,↓reduceIte];rfl) (fun h62=>?_) (fun h62=>?_)
   ·cases h62
   refine AW.seq_k fun K hK=>AW.region (by kernel_rfl) ?_;simp -implicitDefEqProofs only[go_sem,seval,↓reduceIte,f0,f1,f2,f3,f4,f5,f6,f7,f8,f9,f10,f11,f12,f13,f14,s0];refine hK _ ?_;clear hK K;refine AW.condS (by simp -implicitDefEqProofs only[go_sem,seval,↓reduceIte];rfl) (fun h85=>?_) (fun h85=>?_)
   ·cases h85
   refine AW.seq_k fun K hK=>AW.region (by kernel_rfl) ?_;simp -implicitDefEqProofs only[go_sem,seval,↓reduceIte,f0,f1,f2,f3,f4,f5,f6,f7,f8,f9,f10,f11,f12,f13,f14,s0];refine hK _ ?_;clear hK K;refine AW.condS (by simp -implicitDefEqProofs only[go_sem,seval,↓reduceIte];rfl) (fun h117=>?_) (fun h117=>?_)
   ·cases h117
   refine AW.seq_k fun K hK=>AW.region (by kernel_rfl) ?_;simp -implicitDefEqProofs only[go_sem,seval,↓reduceIte,f0,f1,f2,f3,f4,f5,f6,f7,f8,f9,f10,f11,f12,f13,f14,s0];refine hK _ ?_;clear hK K;refine AW.condS (by simp -implicitDefEqProofs only[go_sem,seval,↓reduceIte];rfl) (fun h140=>?_) (fun h140=>?_)
   ·cases h140
   refine AW.skip ?_;simp -implicitDefEqProofs only[go_sem,seval,↓reduceIte];refine hKB _ ?_;refine AW.seq_k fun K hK=>AW.region (by kernel_rfl) ?_;simp -implicitDefEqProofs only[go_sem,seval,↓reduceIte];refine hK _ ?_;clear hK K;refine AW.ret ?_;simp -implicitDefEqProofs only[go_sem,seval,↓reduceIte];refine endK_some ?_;rw [hkd]
  exfalso;omega
 by_cases hc16:op=16
 ·have f0:(op==1)=false:=by rw [beq_eq_false_iff_ne];omega
  have f1:(op==2)=false:=by rw [beq_eq_false_iff_ne];omega
  have f2:(op==3)=false:=by rw [beq_eq_false_iff_ne];omega
  have f3:(op==4)=false:=by rw [beq_eq_false_iff_ne];omega
  have f4:(op==5)=false:=by rw [beq_eq_false_iff_ne];omega
  have f5:(op==6)=false:=by rw [beq_eq_false_iff_ne];omega
  have f6:(op==16)=true:=by rw [beq_iff_eq];omega
  have f7:(op==17)=false:=by rw [beq_eq_false_iff_ne];omega
  have f8:(op==22)=false:=by rw [beq_eq_false_iff_ne];omega
  have f9:decide (op≥7)=true:=by rw [decide_eq_true_iff];omega
  have f10:decide (op≥12)=true:=by rw [decide_eq_true_iff];omega
  have f11:decide (op≥18)=false:=by rw [decide_eq_false_iff_not];omega
  have f12:decide (op≤11)=false:=by rw [decide_eq_false_iff_not];omega
  have f13:decide (op≤15)=false:=by rw [decide_eq_false_iff_not];omega
  have f14:decide (op≤21)=true:=by rw [decide_eq_true_iff];omega
  by_cases hs0:a=b∧¬ a=0
  ·have s0:(a==b)=true:=by simpa using hs0.1
   have s1:(a != 0)=true:=by simpa using hs0.2
   have hkd:res=2:=by
    rw [hP];exact kd_2 (by omega) (by omega) (by repeat' split<;>omega)
   refine AW.seq_k fun K hK=>AW.region (by kernel_rfl) ?_;simp -implicitDefEqProofs only[go_sem,seval,↓reduceIte,f0,f1,f2,f3,f4,f5,f6,f7,f8,f9,f10,f11,f12,f13,f14,s0,s1];refine hK _ ?_;clear hK K;refine AW.condS (by simp -implicitDefEqProofs only[go_sem,seval,↓reduceIte];rfl) (fun h42=>?_) (fun h42=>?_)
   ·cases h42
   refine AW.seq_k fun K hK=>AW.region (by kernel_rfl) ?_;simp -implicitDefEqProofs only[go_sem,seval,↓reduceIte,f0,f1,f2,f3,f4,f5,f6,f7,f8,f9,f10,f11,f12,f13,f14,s0,s1];refine hK _ ?_;clear hK K;refine AW.condS (by simp -implicitDefEqProofs only[go_sem,seval,↓reduceIte];rfl) (fun h55=>?_) (fun h55=>?_)
   ·cases h55
   refine AW.seq_k fun K hK=>AW.region (by kernel_rfl) ?_;simp -implicitDefEqProofs only[go_sem,seval,↓reduceIte,f0,f1,f2,f3,f4,f5,f6,f7,f8,f9,f10,f11,f12,f13,f14,s0,s1];refine hK _ ?_;clear hK K;refine AW.condS (by simp -implicitDefEqProofs only[go_sem,seval,↓reduceIte];rfl) (fun h62=>?_) (fun h62=>?_)
   ·cases h62
   refine AW.seq_k fun K hK=>AW.region (by kernel_rfl) ?_;simp -implicitDefEqProofs only[go_sem,seval,↓reduceIte,f0,f1,f2,f3,f4,f5,f6,f7,f8,f9,f10,f11,f12,f13,f14,s0,s1];refine hK _ ?_;clear hK K;refine AW.condS (by simp -implicitDefEqProofs only[go_sem,seval,↓reduceIte];rfl) (fun h85=>?_) (fun h85=>?_);rotate_left
   ·cases h85
   refine AW.seq_k fun K hK=>AW.region (by kernel_rfl) ?_;simp -implicitDefEqProofs only[go_sem,seval,↓reduceIte];refine hK _ ?_;clear hK K;refine AW.ret ?_;simp -implicitDefEqProofs only[go_sem,seval,↓reduceIte];refine endK_some ?_;rw [hkd]
  by_cases hs1:a=b∧a=0
  ·have s0:(a==b)=true:=by simpa using hs1.1
   have s1:(a != 0)=false:=by simpa using hs1.2
   have hkd:res=0:=by
    rw [hP];exact kd_2 (by omega) (by omega) (by repeat' split<;>omega)
   refine AW.seq_k fun K hK=>AW.region (by kernel_rfl) ?_;simp -implicitDefEqProofs only[go_sem,seval,↓reduceIte,f0,f1,f2,f3,f4,f5,f6,f7,f8,f9,f10,f11,f12,f13,f14,s0,s1];refine hK _ ?_;clear hK K;refine AW.condS (by simp -implicitDefEqProofs only[go_sem,seval,↓reduceIte];rfl) (fun h42=>?_) (fun h42=>?_)
   ·cases h42
   refine AW.seq_k fun K hK=>AW.region (by kernel_rfl) ?_;simp -implicitDefEqProofs only[go_sem,seval,↓reduceIte,f0,f1,f2,f3,f4,f5,f6,f7,f8,f9,f10,f11,f12,f13,f14,s0,s1];refine hK _ ?_;clear hK K;refine AW.condS (by simp -implicitDefEqProofs only[go_sem,seval,↓reduceIte];rfl) (fun h55=>?_) (fun h55=>?_)
   ·cases h55
   refine AW.seq_k fun K hK=>AW.region (by kernel_rfl) ?_;simp -implicitDefEqProofs only[go_sem,seval,↓reduceIte,f0,f1,f2,f3,f4,f5,f6,f7,f8,f9,f10,f11,f12,f13,f14,s0,s1];refine hK _ ?_;clear hK K;refine AW.condS (by simp -implicitDefEqProofs only[go_sem,seval,↓reduceIte];rfl) (fun h62=>?_) (fun h62=>?_)
   ·cases h62
   refine AW.seq_k fun K hK=>AW.region (by kernel_rfl) ?_;simp -implicitDefEqProofs only[go_sem,seval,↓reduceIte,f0,f1,f2,f3,f4,f5,f6,f7,f8,f9,f10,f11,f12,f13,f14,s0,s1];refine hK _ ?_;clear hK K;refine AW.condS (by simp -implicitDefEqProofs only[go_sem,seval,↓reduceIte];rfl) (fun h85=>?_) (fun h85=>?_)
   ·cases h85
   refine AW.seq_k fun K hK=>AW.region (by kernel_rfl) ?_;simp -implicitDefEqProofs only[go_sem,seval,↓reduceIte,f0,f1,f2,f3,f4,f5,f6,f7,f8,f9,f10,f11,f12,f13,f14,s0,s1];refine hK _ ?_;clear hK K;refine AW.condS (by simp -implicitDefEqProofs only[go_sem,seval,↓reduceIte];rfl) (fun h117=>?_) (fun h117=>?_)
   ·cases h117
   refine AW.seq_k fun K hK=>AW.region (by kernel_rfl) ?_;simp -implicitDefEqProofs only[go_sem,seval,↓reduceIte,f0,f1,f2,f3,f4,f5,f6,f7,f8,f9,f10,f11,f12,f13,f14,s0,s1];refine hK _ ?_;clear hK K;refine AW.condS (by simp -implicitDefEqProofs only[go_sem,seval,↓reduceIte];rfl) (fun h140=>?_) (fun h140=>?_)
   ·cases h140
   refine AW.skip ?_;simp -implicitDefEqProofs only[go_sem,seval,↓reduceIte];refine hKB _ ?_;refine AW.seq_k fun K hK=>AW.region (by kernel_rfl) ?_;simp -implicitDefEqProofs only[go_sem,seval,↓reduceIte];refine hK _ ?_;clear hK K;refine AW.ret ?_;simp -implicitDefEqProofs only[go_sem,seval,↓reduceIte];refine endK_some ?_;rw [hkd]
  by_cases hs2:¬ a=b
  ·have s0:(a==b)=false:=by simpa using hs2
   have hkd:res=0:=by
    rw [hP];exact kd_2 (by omega) (by omega) (by repeat' split<;>omega)
   refine AW.seq_k fun K hK=>AW.region (by kernel_rfl) ?_;simp -implicitDefEqProofs only[go_sem,seval,↓reduceIte,f0,f1,f2,f3,f4,f5,f6,f7,f8,f9,f10,f11,f12,f13,f14,s0];refine hK _ ?_;clear hK K;refine AW.condS (by simp -implicitDefEqProofs only[go_sem,seval,↓reduceIte];rfl) (fun h42=>?_) (fun h42=>?_)
   ·cases h42
   refine AW.seq_k fun K hK=>AW.region (by kernel_rfl) ?_;simp -implicitDefEqProofs only[go_sem,seval,↓reduceIte,f0,f1,f2,f3,f4,f5,f6,f7,f8,f9,f10,f11,f12,f13,f14,s0];refine hK _ ?_;clear hK K;refine AW.condS (by simp -implicitDefEqProofs only[go_sem,seval,↓reduceIte];rfl) (fun h55=>?_) (fun h55=>?_)
   ·cases h55
   refine AW.seq_k fun K hK=>AW.region (by kernel_rfl) ?_;simp -implicitDefEqProofs only[go_sem,seval,↓reduceIte,f0,f1,f2,f3,f4,f5,f6,f7,f8,f9,f10,f11,f12,f13,f14,s0];refine hK _ ?_;clear hK K;refine AW.condS (by simp -implicitDefEqProofs only[go_sem,seval,↓reduceIte];rfl) (fun h62=>?_) (fun h62=>?_)
   ·cases h62
   refine AW.seq_k fun K hK=>AW.region (by kernel_rfl) ?_;simp -implicitDefEqProofs only[go_sem,seval,↓reduceIte,f0,f1,f2,f3,f4,f5,f6,f7,f8,f9,f10,f11,f12,f13,f14,s0];refine hK _ ?_;clear hK K;refine AW.condS (by simp -implicitDefEqProofs only[go_sem,seval,↓reduceIte];rfl) (fun h85=>?_) (fun h85=>?_)
   ·cases h85
   refine AW.seq_k fun K hK=>AW.region (by kernel_rfl) ?_;simp -implicitDefEqProofs only[go_sem,seval,↓reduceIte,f0,f1,f2,f3,f4,f5,f6,f7,f8,f9,f10,f11,f12,f13,f14,s0];refine hK _ ?_;clear hK K;refine AW.condS (by simp -implicitDefEqProofs only[go_sem,seval,↓reduceIte];rfl) (fun h117=>?_) (fun h117=>?_)
   ·cases h117
   refine AW.seq_k fun K hK=>AW.region (by kernel_rfl) ?_;simp -implicitDefEqProofs only[go_sem,seval,↓reduceIte,f0,f1,f2,f3,f4,f5,f6,f7,f8,f9,f10,f11,f12,f13,f14,s0];refine hK _ ?_;clear hK K;refine AW.condS (by simp -implicitDefEqProofs only[go_sem,seval,↓reduceIte];rfl) (fun h140=>?_) (fun h140=>?_)
   ·cases h140
   refine AW.skip ?_;simp -implicitDefEqProofs only[go_sem,seval,↓reduceIte];refine hKB _ ?_;refine AW.seq_k fun K hK=>AW.region (by kernel_rfl) ?_;simp -implicitDefEqProofs only[go_sem,seval,↓reduceIte];refine hK _ ?_;clear hK K;refine AW.ret ?_;simp -implicitDefEqProofs only[go_sem,seval,↓reduceIte];refine endK_some ?_;rw [hkd]
  exfalso;omega
 by_cases hc17:op=17
 ·have f0:(op==1)=false:=by rw [beq_eq_false_iff_ne];omega
  have f1:(op==2)=false:=by rw [beq_eq_false_iff_ne];omega
  have f2:(op==3)=false:=by rw [beq_eq_false_iff_ne];omega
  have f3:(op==4)=false:=by rw [beq_eq_false_iff_ne];omega
  have f4:(op==5)=false:=by rw [beq_eq_false_iff_ne];omega
  have f5:(op==6)=false:=by rw [beq_eq_false_iff_ne];omega
  have f6:(op==16)=false:=by rw [beq_eq_false_iff_ne];omega
  have f7:(op==17)=true:=by rw [beq_iff_eq];omega
  have f8:(op==22)=false:=by rw [beq_eq_false_iff_ne];omega
  have f9:decide (op≥7)=true:=by rw [decide_eq_true_iff];omega
  have f10:decide (op≥12)=true:=by rw [decide_eq_true_iff];omega
  have f11:decide (op≥18)=false:=by rw [decide_eq_false_iff_not];omega
  have f12:decide (op≤11)=false:=by rw [decide_eq_false_iff_not];omega
  have f13:decide (op≤15)=false:=by rw [decide_eq_false_iff_not];omega
  have f14:decide (op≤21)=true:=by rw [decide_eq_true_iff];omega
  by_cases hs0:a=b∧¬ a=0
  ·have s0:(a==b)=true:=by simpa using hs0.1
   have s1:(a != 0)=true:=by simpa using hs0.2
   have hkd:res=2:=by
    rw [hP];exact kd_2 (by omega) (by omega) (by repeat' split<;>omega)
   refine AW.seq_k fun K hK=>AW.region (by kernel_rfl) ?_;simp -implicitDefEqProofs only[go_sem,seval,↓reduceIte,f0,f1,f2,f3,f4,f5,f6,f7,f8,f9,f10,f11,f12,f13,f14,s0,s1];refine hK _ ?_;clear hK K;refine AW.condS (by simp -implicitDefEqProofs only[go_sem,seval,↓reduceIte];rfl) (fun h42=>?_) (fun h42=>?_)
   ·cases h42
   refine AW.seq_k fun K hK=>AW.region (by kernel_rfl) ?_;simp -implicitDefEqProofs only[go_sem,seval,↓reduceIte,f0,f1,f2,f3,f4,f5,f6,f7,f8,f9,f10,f11,f12,f13,f14,s0,s1];refine hK _ ?_;clear hK K;refine AW.condS (by simp -implicitDefEqProofs only[go_sem,seval,↓reduceIte];rfl) (fun h55=>?_) (fun h55=>?_)
   ·cases h55
   refine AW.seq_k fun K hK=>AW.region (by kernel_rfl) ?_;simp -implicitDefEqProofs only[go_sem,seval,↓reduceIte,f0,f1,f2,f3,f4,f5,f6,f7,f8,f9,f10,f11,f12,f13,f14,s0,s1];refine hK _ ?_;clear hK K;refine AW.condS (by simp -implicitDefEqProofs only[go_sem,seval,↓reduceIte];rfl) (fun h62=>?_) (fun h62=>?_)
   ·cases h62
   refine AW.seq_k fun K hK=>AW.region (by kernel_rfl) ?_;simp -implicitDefEqProofs only[go_sem,seval,↓reduceIte,f0,f1,f2,f3,f4,f5,f6,f7,f8,f9,f10,f11,f12,f13,f14,s0,s1];refine hK _ ?_;clear hK K;refine AW.condS (by simp -implicitDefEqProofs only[go_sem,seval,↓reduceIte];rfl) (fun h85=>?_) (fun h85=>?_);rotate_left
   ·cases h85
   refine AW.seq_k fun K hK=>AW.region (by kernel_rfl) ?_;simp -implicitDefEqProofs only[go_sem,seval,↓reduceIte];refine hK _ ?_;clear hK K;refine AW.ret ?_;simp -implicitDefEqProofs only[go_sem,seval,↓reduceIte];refine endK_some ?_;rw [hkd]
  by_cases hs1:a=b∧a=0
  ·have s0:(a==b)=true:=by simpa using hs1.1
   have s1:(a != 0)=false:=by simpa using hs1.2
   have hkd:res=0:=by
    rw [hP];exact kd_2 (by omega) (by omega) (by repeat' split<;>omega)
   refine AW.seq_k fun K hK=>AW.region (by kernel_rfl) ?_;simp -implicitDefEqProofs only[go_sem,seval,↓reduceIte,f0,f1,f2,f3,f4,f5,f6,f7,f8,f9,f10,f11,f12,f13,f14,s0,s1];refine hK _ ?_;clear hK K;refine AW.condS (by simp -implicitDefEqProofs only[go_sem,seval,↓reduceIte];rfl) (fun h42=>?_) (fun h42=>?_)
   ·cases h42
   refine AW.seq_k fun K hK=>AW.region (by kernel_rfl) ?_;simp -implicitDefEqProofs only[go_sem,seval,↓reduceIte,f0,f1,f2,f3,f4,f5,f6,f7,f8,f9,f10,f11,f12,f13,f14,s0,s1];refine hK _ ?_;clear hK K;refine AW.condS (by simp -implicitDefEqProofs only[go_sem,seval,↓reduceIte];rfl) (fun h55=>?_) (fun h55=>?_)
   ·cases h55
   refine AW.seq_k fun K hK=>AW.region (by kernel_rfl) ?_;simp -implicitDefEqProofs only[go_sem,seval,↓reduceIte,f0,f1,f2,f3,f4,f5,f6,f7,f8,f9,f10,f11,f12,f13,f14,s0,s1];refine hK _ ?_;clear hK K;refine AW.condS (by simp -implicitDefEqProofs only[go_sem,seval,↓reduceIte];rfl) (fun h62=>?_) (fun h62=>?_)
   ·cases h62
   refine AW.seq_k fun K hK=>AW.region (by kernel_rfl) ?_;simp -implicitDefEqProofs only[go_sem,seval,↓reduceIte,f0,f1,f2,f3,f4,f5,f6,f7,f8,f9,f10,f11,f12,f13,f14,s0,s1];refine hK _ ?_;clear hK K;refine AW.condS (by simp -implicitDefEqProofs only[go_sem,seval,↓reduceIte];rfl) (fun h85=>?_) (fun h85=>?_)
   ·cases h85
   refine AW.seq_k fun K hK=>AW.region (by kernel_rfl) ?_;simp -implicitDefEqProofs only[go_sem,seval,↓reduceIte,f0,f1,f2,f3,f4,f5,f6,f7,f8,f9,f10,f11,f12,f13,f14,s0,s1];refine hK _ ?_;clear hK K;refine AW.condS (by simp -implicitDefEqProofs only[go_sem,seval,↓reduceIte];rfl) (fun h117=>?_) (fun h117=>?_)
   ·cases h117
   refine AW.seq_k fun K hK=>AW.region (by kernel_rfl) ?_;simp -implicitDefEqProofs only[go_sem,seval,↓reduceIte,f0,f1,f2,f3,f4,f5,f6,f7,f8,f9,f10,f11,f12,f13,f14,s0,s1];refine hK _ ?_;clear hK K;refine AW.condS (by simp -implicitDefEqProofs only[go_sem,seval,↓reduceIte];rfl) (fun h140=>?_) (fun h140=>?_)
   ·cases h140
   refine AW.skip ?_;simp -implicitDefEqProofs only[go_sem,seval,↓reduceIte];refine hKB _ ?_;refine AW.seq_k fun K hK=>AW.region (by kernel_rfl) ?_;simp -implicitDefEqProofs only[go_sem,seval,↓reduceIte];refine hK _ ?_;clear hK K;refine AW.ret ?_;simp -implicitDefEqProofs only[go_sem,seval,↓reduceIte];refine endK_some ?_;rw [hkd]
  by_cases hs2:¬ a=b
  ·have s0:(a==b)=false:=by simpa using hs2
   have hkd:res=0:=by
    rw [hP];exact kd_2 (by omega) (by omega) (by repeat' split<;>omega)
   refine AW.seq_k fun K hK=>AW.region (by kernel_rfl) ?_;simp -implicitDefEqProofs only[go_sem,seval,↓reduceIte,f0,f1,f2,f3,f4,f5,f6,f7,f8,f9,f10,f11,f12,f13,f14,s0];refine hK _ ?_;clear hK K;refine AW.condS (by simp -implicitDefEqProofs only[go_sem,seval,↓reduceIte];rfl) (fun h42=>?_) (fun h42=>?_)
   ·cases h42
   refine AW.seq_k fun K hK=>AW.region (by kernel_rfl) ?_;simp -implicitDefEqProofs only[go_sem,seval,↓reduceIte,f0,f1,f2,f3,f4,f5,f6,f7,f8,f9,f10,f11,f12,f13,f14,s0];refine hK _ ?_;clear hK K;refine AW.condS (by simp -implicitDefEqProofs only[go_sem,seval,↓reduceIte];rfl) (fun h55=>?_) (fun h55=>?_)
   ·cases h55
   refine AW.seq_k fun K hK=>AW.region (by kernel_rfl) ?_;simp -implicitDefEqProofs only[go_sem,seval,↓reduceIte,f0,f1,f2,f3,f4,f5,f6,f7,f8,f9,f10,f11,f12,f13,f14,s0];refine hK _ ?_;clear hK K;refine AW.condS (by simp -implicitDefEqProofs only[go_sem,seval,↓reduceIte];rfl) (fun h62=>?_) (fun h62=>?_)
   ·cases h62
   refine AW.seq_k fun K hK=>AW.region (by kernel_rfl) ?_;simp -implicitDefEqProofs only[go_sem,seval,↓reduceIte,f0,f1,f2,f3,f4,f5,f6,f7,f8,f9,f10,f11,f12,f13,f14,s0];refine hK _ ?_;clear hK K;refine AW.condS (by simp -implicitDefEqProofs only[go_sem,seval,↓reduceIte];rfl) (fun h85=>?_) (fun h85=>?_)
   ·cases h85
   refine AW.seq_k fun K hK=>AW.region (by kernel_rfl) ?_;simp -implicitDefEqProofs only[go_sem,seval,↓reduceIte,f0,f1,f2,f3,f4,f5,f6,f7,f8,f9,f10,f11,f12,f13,f14,s0];refine hK _ ?_;clear hK K;refine AW.condS (by simp -implicitDefEqProofs only[go_sem,seval,↓reduceIte];rfl) (fun h117=>?_) (fun h117=>?_)
   ·cases h117
   refine AW.seq_k fun K hK=>AW.region (by kernel_rfl) ?_;simp -implicitDefEqProofs only[go_sem,seval,↓reduceIte,f0,f1,f2,f3,f4,f5,f6,f7,f8,f9,f10,f11,f12,f13,f14,s0];refine hK _ ?_;clear hK K;refine AW.condS (by simp -implicitDefEqProofs only[go_sem,seval,↓reduceIte];rfl) (fun h140=>?_) (fun h140=>?_)
   ·cases h140
   refine AW.skip ?_;simp -implicitDefEqProofs only[go_sem,seval,↓reduceIte];refine hKB _ ?_;refine AW.seq_k fun K hK=>AW.region (by kernel_rfl) ?_;simp -implicitDefEqProofs only[go_sem,seval,↓reduceIte];refine hK _ ?_;clear hK K;refine AW.ret ?_;simp -implicitDefEqProofs only[go_sem,seval,↓reduceIte];refine endK_some ?_;rw [hkd]
  exfalso;omega
 by_cases hc18:18≤op∧op≤21
 ·have f0:(op==1)=false:=by rw [beq_eq_false_iff_ne];omega
  have f1:(op==2)=false:=by rw [beq_eq_false_iff_ne];omega
  have f2:(op==3)=false:=by rw [beq_eq_false_iff_ne];omega
  have f3:(op==4)=false:=by rw [beq_eq_false_iff_ne];omega
  have f4:(op==5)=false:=by rw [beq_eq_false_iff_ne];omega
  have f5:(op==6)=false:=by rw [beq_eq_false_iff_ne];omega
  have f6:(op==16)=false:=by rw [beq_eq_false_iff_ne];omega
  have f7:(op==17)=false:=by rw [beq_eq_false_iff_ne];omega
  have f8:(op==22)=false:=by rw [beq_eq_false_iff_ne];omega
  have f9:decide (op≥7)=true:=by rw [decide_eq_true_iff];omega
  have f10:decide (op≥12)=true:=by rw [decide_eq_true_iff];omega
  have f11:decide (op≥18)=true:=by rw [decide_eq_true_iff];omega
  have f12:decide (op≤11)=false:=by rw [decide_eq_false_iff_not];omega
  have f13:decide (op≤15)=false:=by rw [decide_eq_false_iff_not];omega
  have f14:decide (op≤21)=true:=by rw [decide_eq_true_iff];omega
  by_cases hs0:a=2∧b=2
  ·have s0:(a==2)=true:=by simpa using hs0.1
   have s1:(b==2)=true:=by simpa using hs0.2
   have hkd:res=2:=by
    rw [hP];exact kd_2 (by omega) (by omega) (by repeat' split<;>omega)
   refine AW.seq_k fun K hK=>AW.region (by kernel_rfl) ?_;simp -implicitDefEqProofs only[go_sem,seval,↓reduceIte,f0,f1,f2,f3,f4,f5,f6,f7,f8,f9,f10,f11,f12,f13,f14,s0,s1];refine hK _ ?_;clear hK K;refine AW.condS (by simp -implicitDefEqProofs only[go_sem,seval,↓reduceIte];rfl) (fun h42=>?_) (fun h42=>?_)
   ·cases h42
   refine AW.seq_k fun K hK=>AW.region (by kernel_rfl) ?_;simp -implicitDefEqProofs only[go_sem,seval,↓reduceIte,f0,f1,f2,f3,f4,f5,f6,f7,f8,f9,f10,f11,f12,f13,f14,s0,s1];refine hK _ ?_;clear hK K;refine AW.condS (by simp -implicitDefEqProofs only[go_sem,seval,↓reduceIte];rfl) (fun h55=>?_) (fun h55=>?_)
   ·cases h55
   refine AW.seq_k fun K hK=>AW.region (by kernel_rfl) ?_;simp -implicitDefEqProofs only[go_sem,seval,↓reduceIte,f0,f1,f2,f3,f4,f5,f6,f7,f8,f9,f10,f11,f12,f13,f14,s0,s1];refine hK _ ?_;clear hK K;refine AW.condS (by simp -implicitDefEqProofs only[go_sem,seval,↓reduceIte];rfl) (fun h62=>?_) (fun h62=>?_)
   ·cases h62
   refine AW.seq_k fun K hK=>AW.region (by kernel_rfl) ?_;simp -implicitDefEqProofs only[go_sem,seval,↓reduceIte,f0,f1,f2,f3,f4,f5,f6,f7,f8,f9,f10,f11,f12,f13,f14,s0,s1];refine hK _ ?_;clear hK K;refine AW.condS (by simp -implicitDefEqProofs only[go_sem,seval,↓reduceIte];rfl) (fun h85=>?_) (fun h85=>?_)
   ·cases h85
   refine AW.seq_k fun K hK=>AW.region (by kernel_rfl) ?_;simp -implicitDefEqProofs only[go_sem,seval,↓reduceIte,f0,f1,f2,f3,f4,f5,f6,f7,f8,f9,f10,f11,f12,f13,f14,s0,s1];refine hK _ ?_;clear hK K;refine AW.condS (by simp -implicitDefEqProofs only[go_sem,seval,↓reduceIte];rfl) (fun h117=>?_) (fun h117=>?_);rotate_left
   ·cases h117
   refine AW.seq_k fun K hK=>AW.region (by kernel_rfl) ?_;simp -implicitDefEqProofs only[go_sem,seval,↓reduceIte];refine hK _ ?_;clear hK K;refine AW.ret ?_;simp -implicitDefEqProofs only[go_sem,seval,↓reduceIte];refine endK_some ?_;rw [hkd]
  by_cases hs1:a=2∧¬ b=2
  ·have s0:(a==2)=true:=by simpa using hs1.1
   have s1:(b==2)=false:=by simpa using hs1.2
   have hkd:res=0:=by
    rw [hP];exact kd_2 (by omega) (by omega) (by repeat' split<;>omega)
   refine AW.seq_k fun K hK=>AW.region (by kernel_rfl) ?_;simp -implicitDefEqProofs only[go_sem,seval,↓reduceIte,f0,f1,f2,f3,f4,f5,f6,f7,f8,f9,f10,f11,f12,f13,f14,s0,s1];refine hK _ ?_;clear hK K;refine AW.condS (by simp -implicitDefEqProofs only[go_sem,seval,↓reduceIte];rfl) (fun h42=>?_) (fun h42=>?_)
   ·cases h42
   refine AW.seq_k fun K hK=>AW.region (by kernel_rfl) ?_;simp -implicitDefEqProofs only[go_sem,seval,↓reduceIte,f0,f1,f2,f3,f4,f5,f6,f7,f8,f9,f10,f11,f12,f13,f14,s0,s1];refine hK _ ?_;clear hK K;refine AW.condS (by simp -implicitDefEqProofs only[go_sem,seval,↓reduceIte];rfl) (fun h55=>?_) (fun h55=>?_)
   ·cases h55
   refine AW.seq_k fun K hK=>AW.region (by kernel_rfl) ?_;simp -implicitDefEqProofs only[go_sem,seval,↓reduceIte,f0,f1,f2,f3,f4,f5,f6,f7,f8,f9,f10,f11,f12,f13,f14,s0,s1];refine hK _ ?_;clear hK K;refine AW.condS (by simp -implicitDefEqProofs only[go_sem,seval,↓reduceIte];rfl) (fun h62=>?_) (fun h62=>?_)
   ·cases h62
   refine AW.seq_k fun K hK=>AW.region (by kernel_rfl) ?_;simp -implicitDefEqProofs only[go_sem,seval,↓reduceIte,f0,f1,f2,f3,f4,f5,f6,f7,f8,f9,f10,f11,f12,f13,f14,s0,s1];refine hK _ ?_;clear hK K;refine AW.condS (by simp -implicitDefEqProofs only[go_sem,seval,↓reduceIte];rfl) (fun h85=>?_) (fun h85=>?_)
   ·cases h85
   refine AW.seq_k fun K hK=>AW.region (by kernel_rfl) ?_;simp -implicitDefEqProofs only[go_sem,seval,↓reduceIte,f0,f1,f2,f3,f4,f5,f6,f7,f8,f9,f10,f11,f12,f13,f14,s0,s1];refine hK _ ?_;clear hK K;refine AW.condS (by simp -implicitDefEqProofs only[go_sem,seval,↓reduceIte];rfl) (fun h117=>?_) (fun h117=>?_)
   ·cases h117
   refine AW.seq_k fun K hK=>AW.region (by kernel_rfl) ?_;simp -implicitDefEqProofs only[go_sem,seval,↓reduceIte,f0,f1,f2,f3,f4,f5,f6,f7,f8,f9,f10,f11,f12,f13,f14,s0,s1];refine hK _ ?_;clear hK K;refine AW.condS (by simp -implicitDefEqProofs only[go_sem,seval,↓reduceIte];rfl) (fun h140=>?_) (fun h140=>?_)
   ·cases h140
   refine AW.skip ?_;simp -implicitDefEqProofs only[go_sem,seval,↓reduceIte];refine hKB _ ?_;refine AW.seq_k fun K hK=>AW.region (by kernel_rfl) ?_;simp -implicitDefEqProofs only[go_sem,seval,↓reduceIte];refine hK _ ?_;clear hK K;refine AW.ret ?_;simp -implicitDefEqProofs only[go_sem,seval,↓reduceIte];refine endK_some ?_;rw [hkd]
  by_cases hs2:¬ a=2
  ·have s0:(a==2)=false:=by simpa using hs2
   have hkd:res=0:=by
    rw [hP];exact kd_2 (by omega) (by omega) (by repeat' split<;>omega)
   refine AW.seq_k fun K hK=>AW.region (by kernel_rfl) ?_;simp -implicitDefEqProofs only[go_sem,seval,↓reduceIte,f0,f1,f2,f3,f4,f5,f6,f7,f8,f9,f10,f11,f12,f13,f14,s0];refine hK _ ?_;clear hK K;refine AW.condS (by simp -implicitDefEqProofs only[go_sem,seval,↓reduceIte];rfl) (fun h42=>?_) (fun h42=>?_)
   ·cases h42
   refine AW.seq_k fun K hK=>AW.region (by kernel_rfl) ?_;simp -implicitDefEqProofs only[go_sem,seval,↓reduceIte,f0,f1,f2,f3,f4,f5,f6,f7,f8,f9,f10,f11,f12,f13,f14,s0];refine hK _ ?_;clear hK K;refine AW.condS (by simp -implicitDefEqProofs only[go_sem,seval,↓reduceIte];rfl) (fun h55=>?_) (fun h55=>?_)
   ·cases h55
   refine AW.seq_k fun K hK=>AW.region (by kernel_rfl) ?_;simp -implicitDefEqProofs only[go_sem,seval,↓reduceIte,f0,f1,f2,f3,f4,f5,f6,f7,f8,f9,f10,f11,f12,f13,f14,s0];refine hK _ ?_;clear hK K;refine AW.condS (by simp -implicitDefEqProofs only[go_sem,seval,↓reduceIte];rfl) (fun h62=>?_) (fun h62=>?_)
   ·cases h62
   refine AW.seq_k fun K hK=>AW.region (by kernel_rfl) ?_;simp -implicitDefEqProofs only[go_sem,seval,↓reduceIte,f0,f1,f2,f3,f4,f5,f6,f7,f8,f9,f10,f11,f12,f13,f14,s0];refine hK _ ?_;clear hK K;refine AW.condS (by simp -implicitDefEqProofs only[go_sem,seval,↓reduceIte];rfl) (fun h85=>?_) (fun h85=>?_)
   ·cases h85
   refine AW.seq_k fun K hK=>AW.region (by kernel_rfl) ?_;simp -implicitDefEqProofs only[go_sem,seval,↓reduceIte,f0,f1,f2,f3,f4,f5,f6,f7,f8,f9,f10,f11,f12,f13,f14,s0];refine hK _ ?_;clear hK K;refine AW.condS (by simp -implicitDefEqProofs only[go_sem,seval,↓reduceIte];rfl) (fun h117=>?_) (fun h117=>?_)
   ·cases h117
   refine AW.seq_k fun K hK=>AW.region (by kernel_rfl) ?_;simp -implicitDefEqProofs only[go_sem,seval,↓reduceIte,f0,f1,f2,f3,f4,f5,f6,f7,f8,f9,f10,f11,f12,f13,f14,s0];refine hK _ ?_;clear hK K;refine AW.condS (by simp -implicitDefEqProofs only[go_sem,seval,↓reduceIte];rfl) (fun h140=>?_) (fun h140=>?_)
   ·cases h140
   refine AW.skip ?_;simp -implicitDefEqProofs only[go_sem,seval,↓reduceIte];refine hKB _ ?_;refine AW.seq_k fun K hK=>AW.region (by kernel_rfl) ?_;simp -implicitDefEqProofs only[go_sem,seval,↓reduceIte];refine hK _ ?_;clear hK K;refine AW.ret ?_;simp -implicitDefEqProofs only[go_sem,seval,↓reduceIte];refine endK_some ?_;rw [hkd]
  exfalso;omega
 by_cases hc22:op=22
 ·have f0:(op==1)=false:=by rw [beq_eq_false_iff_ne];omega
  have f1:(op==2)=false:=by rw [beq_eq_false_iff_ne];omega
  have f2:(op==3)=false:=by rw [beq_eq_false_iff_ne];omega
  have f3:(op==4)=false:=by rw [beq_eq_false_iff_ne];omega
  have f4:(op==5)=false:=by rw [beq_eq_false_iff_ne];omega
  have f5:(op==6)=false:=by rw [beq_eq_false_iff_ne];omega
  have f6:(op==16)=false:=by rw [beq_eq_false_iff_ne];omega
  have f7:(op==17)=false:=by rw [beq_eq_false_iff_ne];omega
  have f8:(op==22)=true:=by rw [beq_iff_eq];omega
  have f9:decide (op≥7)=true:=by rw [decide_eq_true_iff];omega
  have f10:decide (op≥12)=true:=by rw [decide_eq_true_iff];omega
  have f11:decide (op≥18)=true:=by rw [decide_eq_true_iff];omega
  have f12:decide (op≤11)=false:=by rw [decide_eq_false_iff_not];omega
  have f13:decide (op≤15)=false:=by rw [decide_eq_false_iff_not];omega
  have f14:decide (op≤21)=false:=by rw [decide_eq_false_iff_not];omega
  by_cases hs0:a=2∧b=c
  ·have s0:(a==2)=true:=by simpa using hs0.1
   have s1:(b==c)=true:=by simpa using hs0.2
   have hkd:res=b:=by
    rw [hP];exact kd_2 (by omega) (by omega) (by repeat' split<;>omega)
   refine AW.seq_k fun K hK=>AW.region (by kernel_rfl) ?_;simp -implicitDefEqProofs only[go_sem,seval,↓reduceIte,f0,f1,f2,f3,f4,f5,f6,f7,f8,f9,f10,f11,f12,f13,f14,s0,s1];refine hK _ ?_;clear hK K;refine AW.condS (by simp -implicitDefEqProofs only[go_sem,seval,↓reduceIte];rfl) (fun h42=>?_) (fun h42=>?_)
   ·cases h42
   refine AW.seq_k fun K hK=>AW.region (by kernel_rfl) ?_;simp -implicitDefEqProofs only[go_sem,seval,↓reduceIte,f0,f1,f2,f3,f4,f5,f6,f7,f8,f9,f10,f11,f12,f13,f14,s0,s1];refine hK _ ?_;clear hK K;refine AW.condS (by simp -implicitDefEqProofs only[go_sem,seval,↓reduceIte];rfl) (fun h55=>?_) (fun h55=>?_)
   ·cases h55
   refine AW.seq_k fun K hK=>AW.region (by kernel_rfl) ?_;simp -implicitDefEqProofs only[go_sem,seval,↓reduceIte,f0,f1,f2,f3,f4,f5,f6,f7,f8,f9,f10,f11,f12,f13,f14,s0,s1];refine hK _ ?_;clear hK K;refine AW.condS (by simp -implicitDefEqProofs only[go_sem,seval,↓reduceIte];rfl) (fun h62=>?_) (fun h62=>?_)
   ·cases h62
   refine AW.seq_k fun K hK=>AW.region (by kernel_rfl) ?_;simp -implicitDefEqProofs only[go_sem,seval,↓reduceIte,f0,f1,f2,f3,f4,f5,f6,f7,f8,f9,f10,f11,f12,f13,f14,s0,s1];refine hK _ ?_;clear hK K;refine AW.condS (by simp -implicitDefEqProofs only[go_sem,seval,↓reduceIte];rfl) (fun h85=>?_) (fun h85=>?_)
   ·cases h85
   refine AW.seq_k fun K hK=>AW.region (by kernel_rfl) ?_;simp -implicitDefEqProofs only[go_sem,seval,↓reduceIte,f0,f1,f2,f3,f4,f5,f6,f7,f8,f9,f10,f11,f12,f13,f14,s0,s1];refine hK _ ?_;clear hK K;refine AW.condS (by simp -implicitDefEqProofs only[go_sem,seval,↓reduceIte];rfl) (fun h117=>?_) (fun h117=>?_)
   ·cases h117
   refine AW.seq_k fun K hK=>AW.region (by kernel_rfl) ?_;simp -implicitDefEqProofs only[go_sem,seval,↓reduceIte,f0,f1,f2,f3,f4,f5,f6,f7,f8,f9,f10,f11,f12,f13,f14,s0,s1];refine hK _ ?_;clear hK K;refine AW.condS (by simp -implicitDefEqProofs only[go_sem,seval,↓reduceIte];rfl) (fun h140=>?_) (fun h140=>?_);rotate_left
   ·cases h140
   refine AW.seq_k fun K hK=>AW.region (by kernel_rfl) ?_;simp -implicitDefEqProofs only[go_sem,seval,↓reduceIte];refine hK _ ?_;clear hK K;refine AW.ret ?_;simp -implicitDefEqProofs only[go_sem,seval,↓reduceIte];refine endK_some ?_;rw [hkd]
  by_cases hs1:a=2∧¬ b=c
  ·have s0:(a==2)=true:=by simpa using hs1.1
   have s1:(b==c)=false:=by simpa using hs1.2
   have hkd:res=0:=by
    rw [hP];exact kd_2 (by omega) (by omega) (by repeat' split<;>omega)
   refine AW.seq_k fun K hK=>AW.region (by kernel_rfl) ?_;simp -implicitDefEqProofs only[go_sem,seval,↓reduceIte,f0,f1,f2,f3,f4,f5,f6,f7,f8,f9,f10,f11,f12,f13,f14,s0,s1];refine hK _ ?_;clear hK K;refine AW.condS (by simp -implicitDefEqProofs only[go_sem,seval,↓reduceIte];rfl) (fun h42=>?_) (fun h42=>?_)
   ·cases h42
   refine AW.seq_k fun K hK=>AW.region (by kernel_rfl) ?_;simp -implicitDefEqProofs only[go_sem,seval,↓reduceIte,f0,f1,f2,f3,f4,f5,f6,f7,f8,f9,f10,f11,f12,f13,f14,s0,s1];refine hK _ ?_;clear hK K;refine AW.condS (by simp -implicitDefEqProofs only[go_sem,seval,↓reduceIte];rfl) (fun h55=>?_) (fun h55=>?_)
   ·cases h55
   refine AW.seq_k fun K hK=>AW.region (by kernel_rfl) ?_;simp -implicitDefEqProofs only[go_sem,seval,↓reduceIte,f0,f1,f2,f3,f4,f5,f6,f7,f8,f9,f10,f11,f12,f13,f14,s0,s1];refine hK _ ?_;clear hK K;refine AW.condS (by simp -implicitDefEqProofs only[go_sem,seval,↓reduceIte];rfl) (fun h62=>?_) (fun h62=>?_)
   ·cases h62
   refine AW.seq_k fun K hK=>AW.region (by kernel_rfl) ?_;simp -implicitDefEqProofs only[go_sem,seval,↓reduceIte,f0,f1,f2,f3,f4,f5,f6,f7,f8,f9,f10,f11,f12,f13,f14,s0,s1];refine hK _ ?_;clear hK K;refine AW.condS (by simp -implicitDefEqProofs only[go_sem,seval,↓reduceIte];rfl) (fun h85=>?_) (fun h85=>?_)
   ·cases h85
   refine AW.seq_k fun K hK=>AW.region (by kernel_rfl) ?_;simp -implicitDefEqProofs only[go_sem,seval,↓reduceIte,f0,f1,f2,f3,f4,f5,f6,f7,f8,f9,f10,f11,f12,f13,f14,s0,s1];refine hK _ ?_;clear hK K;refine AW.condS (by simp -implicitDefEqProofs only[go_sem,seval,↓reduceIte];rfl) (fun h117=>?_) (fun h117=>?_)
   ·cases h117
   refine AW.seq_k fun K hK=>AW.region (by kernel_rfl) ?_;simp -implicitDefEqProofs only[go_sem,seval,↓reduceIte,f0,f1,f2,f3,f4,f5,f6,f7,f8,f9,f10,f11,f12,f13,f14,s0,s1];refine hK _ ?_;clear hK K;refine AW.condS (by simp -implicitDefEqProofs only[go_sem,seval,↓reduceIte];rfl) (fun h140=>?_) (fun h140=>?_)
   ·cases h140
   refine AW.skip ?_;simp -implicitDefEqProofs only[go_sem,seval,↓reduceIte];refine hKB _ ?_;refine AW.seq_k fun K hK=>AW.region (by kernel_rfl) ?_;simp -implicitDefEqProofs only[go_sem,seval,↓reduceIte];refine hK _ ?_;clear hK K;refine AW.ret ?_;simp -implicitDefEqProofs only[go_sem,seval,↓reduceIte];refine endK_some ?_;rw [hkd]
  by_cases hs2:¬ a=2
  ·have s0:(a==2)=false:=by simpa using hs2
   have hkd:res=0:=by
    rw [hP];exact kd_2 (by omega) (by omega) (by repeat' split<;>omega)
   refine AW.seq_k fun K hK=>AW.region (by kernel_rfl) ?_;simp -implicitDefEqProofs only[go_sem,seval,↓reduceIte,f0,f1,f2,f3,f4,f5,f6,f7,f8,f9,f10,f11,f12,f13,f14,s0];refine hK _ ?_;clear hK K;refine AW.condS (by simp -implicitDefEqProofs only[go_sem,seval,↓reduceIte];rfl) (fun h42=>?_) (fun h42=>?_)
   ·cases h42
   refine AW.seq_k fun K hK=>AW.region (by kernel_rfl) ?_;simp -implicitDefEqProofs only[go_sem,seval,↓reduceIte,f0,f1,f2,f3,f4,f5,f6,f7,f8,f9,f10,f11,f12,f13,f14,s0];refine hK _ ?_;clear hK K;refine AW.condS (by simp -implicitDefEqProofs only[go_sem,seval,↓reduceIte];rfl) (fun h55=>?_) (fun h55=>?_)
   ·cases h55
   refine AW.seq_k fun K hK=>AW.region (by kernel_rfl) ?_;simp -implicitDefEqProofs only[go_sem,seval,↓reduceIte,f0,f1,f2,f3,f4,f5,f6,f7,f8,f9,f10,f11,f12,f13,f14,s0];refine hK _ ?_;clear hK K;refine AW.condS (by simp -implicitDefEqProofs only[go_sem,seval,↓reduceIte];rfl) (fun h62=>?_) (fun h62=>?_)
   ·cases h62
   refine AW.seq_k fun K hK=>AW.region (by kernel_rfl) ?_;simp -implicitDefEqProofs only[go_sem,seval,↓reduceIte,f0,f1,f2,f3,f4,f5,f6,f7,f8,f9,f10,f11,f12,f13,f14,s0];refine hK _ ?_;clear hK K;refine AW.condS (by simp -implicitDefEqProofs only[go_sem,seval,↓reduceIte];rfl) (fun h85=>?_) (fun h85=>?_)
   ·cases h85
   refine AW.seq_k fun K hK=>AW.region (by kernel_rfl) ?_;simp -implicitDefEqProofs only[go_sem,seval,↓reduceIte,f0,f1,f2,f3,f4,f5,f6,f7,f8,f9,f10,f11,f12,f13,f14,s0];refine hK _ ?_;clear hK K;refine AW.condS (by simp -implicitDefEqProofs only[go_sem,seval,↓reduceIte];rfl) (fun h117=>?_) (fun h117=>?_)
   ·cases h117
   refine AW.seq_k fun K hK=>AW.region (by kernel_rfl) ?_;simp -implicitDefEqProofs only[go_sem,seval,↓reduceIte,f0,f1,f2,f3,f4,f5,f6,f7,f8,f9,f10,f11,f12,f13,f14,s0];refine hK _ ?_;clear hK K;refine AW.condS (by simp -implicitDefEqProofs only[go_sem,seval,↓reduceIte];rfl) (fun h140=>?_) (fun h140=>?_)
   ·cases h140
   refine AW.skip ?_;simp -implicitDefEqProofs only[go_sem,seval,↓reduceIte];refine hKB _ ?_;refine AW.seq_k fun K hK=>AW.region (by kernel_rfl) ?_;simp -implicitDefEqProofs only[go_sem,seval,↓reduceIte];refine hK _ ?_;clear hK K;refine AW.ret ?_;simp -implicitDefEqProofs only[go_sem,seval,↓reduceIte];refine endK_some ?_;rw [hkd]
  exfalso;omega
 exfalso;omega
end Go.Hs
end

section
namespace Go.Hs
open Go.Proofs
set_option maxRecDepth 10000
theorem rKind_at (G:Nat→V) (hG:GOk G) (s:Sl XN) (names:Sl (List UInt8)) (hnl:names.l.length<1000000):∀ (x:X) (b:Nat),At s.l x b→x.ok=true→kn0 s names G ((b:Int)+x.size-1) (kindX names.l x)
 | .leaf op num name,b,h,ho=>by
  simp only [X.ok,Bool.and_eq_true,decide_eq_true_eq] at ho;have hr:=well_range ho.1;have:=rKind_step G hG s names hnl b _ h.get hr 0 0 0 (.inl ⟨by show (-1:Int)<0;decide,rfl⟩) (.inl ⟨by show (-1:Int)<0;decide,rfl⟩) (.inl ⟨by show (-1:Int)<0;decide,rfl⟩)
  have e:(b:Int)+(X.leaf op num name).size-1=(b:Nat):=by simp only [X.size];omega
  rw [e];exact this
 | .un op a,b,h,ho=>by
  simp only [X.ok,Bool.and_eq_true,decide_eq_true_eq] at ho;have ih:=rKind_at G hG s names hnl a b h.un ho.2;have hp:=a.size_pos;have:=rKind_step G hG s names hnl _ _ h.get (by show 1≤op∧op≤22;omega) _ 0 0 (.inr ⟨by show (0:Int)≤(b:Int)+a.size-1;omega,ih⟩) (.inl ⟨by show (-1:Int)<0;decide,rfl⟩) (.inl ⟨by show (-1:Int)<0;decide,rfl⟩)
  have e:(b:Int)+(X.un op a).size-1=((b+(X.un op a).size-1:Nat):Int):=by simp only [X.size];omega
  rw [e];exact this
 | .bin op x y,b,h,ho=>by
  simp only [X.ok,Bool.and_eq_true,decide_eq_true_eq] at ho;obtain ⟨hx,hy⟩:=h.bin;have ihx:=rKind_at G hG s names hnl x b hx ho.1.2;have ihy:=rKind_at G hG s names hnl y (b+x.size) hy ho.2;have hp1:=x.size_pos;have hp2:=y.size_pos;rw [show ((b+x.size:Nat):Int)+y.size-1=(b:Int)+x.size+y.size-1 by omega] at ihy;have:=rKind_step G hG s names hnl _ _ h.get (by show 1≤op∧op≤22;omega) _ _ 0 (.inr ⟨by show (0:Int)≤(b:Int)+x.size-1;omega,ihx⟩) (.inr ⟨by show (0:Int)≤(b:Int)+x.size+y.size-1;omega,ihy⟩) (.inl ⟨by show (-1:Int)<0;decide,rfl⟩)
  have e:(b:Int)+(X.bin op x y).size-1=((b+(X.bin op x y).size-1:Nat):Int):=by simp only [X.size];omega
  rw [e];exact this
 | .ite x y z,b,h,ho=>by
  simp only [X.ok,Bool.and_eq_true] at ho;obtain ⟨hx,hy,hz⟩:=h.ite;have ihx:=rKind_at G hG s names hnl x b hx ho.1.1;have ihy:=rKind_at G hG s names hnl y (b+x.size) hy ho.1.2;have ihz:=rKind_at G hG s names hnl z (b+x.size+y.size) hz ho.2;have hp1:=x.size_pos;have hp2:=y.size_pos;have hp3:=z.size_pos;rw [show ((b+x.size:Nat):Int)+y.size-1=(b:Int)+x.size+y.size-1 by omega] at ihy;rw [show ((b+x.size+y.size:Nat):Int)+z.size-1=(b:Int)+x.size+y.size+z.size-1 by omega] at ihz;have:=rKind_step G hG s names hnl _ _ h.get (by show 1≤(22:Int)∧(22:Int)≤22;decide) _ _ _ (.inr ⟨by show (0:Int)≤(b:Int)+x.size-1;omega,ihx⟩) (.inr ⟨by show (0:Int)≤(b:Int)+x.size+y.size-1;omega,ihy⟩) (.inr ⟨by show (0:Int)≤(b:Int)+x.size+y.size+z.size-1;omega,ihz⟩)
  have e:(b:Int)+(X.ite x y z).size-1=((b+(X.ite x y z).size-1:Nat):Int):=by simp only [X.size];omega
  rw [e];exact this
theorem goX_drop {names:List (List UInt8)} {l:List X} {k:Nat} {y:X} (h:l[k]? = some y) (ks:List Int):goX names (l.drop k) k ks=if kindX names y=0 then ([],(k:Int),90) else goX names (l.drop (k+1)) (k+1:Nat) (ks++[kindX names y]):=by
 obtain ⟨h1,h2⟩:=List.getElem?_eq_some_iff.1 h;rw [List.drop_eq_getElem_cons h1,h2];rfl
theorem r9Kinds_spec (G:Nat→V) (hG:GOk G) (c c1:Col) (s:Sl XN) (names:Sl (List UInt8)) (hs:s.l.length<1000000) (hnm:∀ n∈s.l,n.name.length<100000) (hnl:names.l.length<1000000) :
  Spec Tryz.prog G 99 [encSl c 6 encXN s,encSl c1 1 V.str names] hNone (fun v _=>v=encKr .new (kindsP names.l s.l)):=by
 refine Spec.of_code' 0 35 [.tmp 4,.tmp 5,.tmp 6] Tryz.func99 rfl rfl rfl rfl fun X=>?_
 have hP:kindsP names.l s.l=if checkP s.l≠0 then ([],0,checkP s.l) else goN names.l s.l 0 []:=rfl
 generalize kindsP names.l s.l=res at hP ⊢;refine AW.seq_k fun K hK=>AW.region (by kernel_rfl) ?_;simp -implicitDefEqProofs only[go_sem,seval,↓reduceIte];refine hK _ ?_;clear hK K;refine AW.seq_k fun K hK=>AW.region (by kernel_rfl) ?_;simp -implicitDefEqProofs only[go_sem,seval,↓reduceIte];refine CallA.pure hG (by kernel_rfl) ?_;simp -implicitDefEqProofs only[go_sem,seval,↓reduceIte,recol_xns];refine (rCheck_spec G hG _ s hs hnm).mono ?_;rintro _ _ rfl;simp -implicitDefEqProofs only[go_sem,seval,↓reduceIte];refine hK _ ?_;clear hK K;refine AW.seq_k fun K1 hK1=>?_;refine AW.seq_k fun K hK=>AW.region (by kernel_rfl) ?_;simp -implicitDefEqProofs only[go_sem,seval,↓reduceIte];refine hK _ ?_;clear hK K
 by_cases hc:checkP s.l=0
 rotate_left
 ·have q1:(checkP s.l != 0)=true:=by simpa using hc
  rw [if_pos hc] at hP;refine AW.condS (by simp -implicitDefEqProofs only[go_sem,seval,↓reduceIte];rfl) (fun h14=>?_) (fun h14=>?_)
  ·refine AW.seq_k fun K hK=>AW.region (by kernel_rfl) ?_
   simp -implicitDefEqProofs only[go_sem,seval,↓reduceIte];refine hK _ ?_;clear hK K;refine AW.ret ?_;simp -implicitDefEqProofs only[go_sem,seval,↓reduceIte];refine endK_some ?_;rw [hP];rfl
  ·rw [q1] at h14;cases h14
 have q1:(checkP s.l != 0)=false:=by simpa using hc
 rw [if_neg (by simpa using hc)] at hP;refine AW.condS (by simp -implicitDefEqProofs only[go_sem,seval,↓reduceIte];rfl) (fun h14=>?_) (fun h14=>?_)
 ·rw [q1] at h14;cases h14
 refine AW.skip ?_;simp -implicitDefEqProofs only[go_sem,seval,↓reduceIte];refine hK1 _ ?_
 have hdep:depthP s.l≠0:=by
  intro h;rw [checkP,if_pos h] at hc;cases hc
 obtain ⟨x,hx,hl⟩:=depth_none hdep;have hat:At s.l x 0:=hl ▸ At.whole x
 have hlen:s.l.length=x.size:=by rw [hl,Go.Hs.X.row_len]
 have hsl:=subs_len x
 have hP2:res=goX names.l (subs x) 0 []:=by
  have:=goN_goX (names:=names.l) x x.size 0 (by omega);simp only [List.drop_zero,List.take_zero,List.map_nil] at this;rw [hP,hl];exact this
 clear hP;refine AW.seq_k fun K hK=>AW.region (by kernel_rfl) ?_;simp -implicitDefEqProofs only[go_sem,seval,↓reduceIte];refine hK _ ?_;clear hK K;refine AW.seq_k fun K2 hK2=>?_;refine AW.seq_k fun K hK=>AW.region (by kernel_rfl) ?_;simp -implicitDefEqProofs only[go_sem,seval,↓reduceIte];refine hK _ ?_;clear hK K;refine AW.block ?_
 refine AW.for s.l.length (fun k (y:Nat × List Int)=>st [(0,encSl c 6 encXN s),(1,encSl c1 1 V.str names),(8,grown 33 y.1 1 y.2),(9,.int .i64 k)] [(33,grownO y.1 (V.int .u8) y.2)])
  (fun k y=>res=goX names.l ((subs x).drop k) k y.2∧y.2.length=k) 0 (0,[]) (Nat.zero_le _) ⟨hP2,rfl⟩
  (Weak.st (by simp -implicitDefEqProofs only[go_sem,seval,↓reduceIte];try rfl) (by simp -implicitDefEqProofs only[go_sem,seval,↓reduceIte];try rfl)) ?_
 rintro k ⟨gx,ks⟩ hk ⟨hR,hkl⟩ L3 hL3
 replace hR:res=goX names.l ((subs x).drop k) k ks:=hR
 replace hkl:ks.length=k:=hkl
 refine AW.seq_k fun K4 hK4=>?_;refine AW.seq_k fun K hK=>AW.region (by kernel_rfl) ?_;simp -implicitDefEqProofs only[go_sem,seval,↓reduceIte];refine hK _ ?_;clear hK K;refine AW.condS (by simp -implicitDefEqProofs only[go_sem,seval,↓reduceIte];rfl) (fun h19=>?_) (fun h19=>?_)
 ·have hk1:k<s.l.length:=by simpa using h19
  obtain ⟨y,b,h1,h2,h3,h4⟩:=sub_at x k (by omega);rw [goX_drop h3] at hR;have hky:=kindX_range names.l y;have hsp:=rKind_at G hG s names hnl y b (by have:=h1.at hat;rw [Nat.zero_add] at this;exact this) (h1.ok hx);rw [show (b:Int)+y.size-1=(k:Int) by omega] at hsp;refine AW.skip ?_;simp -implicitDefEqProofs only[go_sem,seval,↓reduceIte];refine hK4 _ ?_;refine AW.seq_k fun K5 hK5=>?_;refine AW.block ?_;refine AW.seq_k fun K hK=>AW.region (by kernel_rfl) ?_;simp -implicitDefEqProofs only[go_sem,seval,↓reduceIte];refine CallA.pure hG (by kernel_rfl) ?_;simp -implicitDefEqProofs only[go_sem,seval,↓reduceIte,recol_xns];refine (hsp _ _).mono ?_;rintro _ _ rfl;generalize kindX names.l y=v at hR hky ⊢;simp -implicitDefEqProofs only[go_sem,seval,↓reduceIte];refine hK _ ?_;clear hK K;refine AW.seq_k fun K6 hK6=>?_;refine AW.seq_k fun K hK=>AW.region (by kernel_rfl) ?_;simp -implicitDefEqProofs only[go_sem,seval,↓reduceIte];refine hK _ ?_;clear hK K
  by_cases hv:v=0
  ·have q2:(v==0)=true:=by simpa using hv
   rw [if_pos hv] at hR;refine AW.condS (by simp -implicitDefEqProofs only[go_sem,seval,↓reduceIte];rfl) (fun h27=>?_) (fun h27=>?_)
   ·refine AW.seq_k fun K hK=>AW.region (by kernel_rfl) ?_
    simp -implicitDefEqProofs only[go_sem,seval,↓reduceIte];refine hK _ ?_;clear hK K;refine AW.ret ?_;simp -implicitDefEqProofs only[go_sem,seval,↓reduceIte];refine endK_some ?_;rw [hR];rfl
   ·rw [q2] at h27;cases h27
  have q2:(v==0)=false:=by simpa using hv
  rw [if_neg hv] at hR
  have hw:IntKind.u8.wrap v=v:=by
   have:v=1∨v=2:=by omega
   rcases this with rfl | rfl<;>rfl
  refine AW.condS (by simp -implicitDefEqProofs only[go_sem,seval,↓reduceIte];rfl) (fun h27=>?_) (fun h27=>?_)
  ·rw [q2] at h27;cases h27
  refine AW.skip ?_;simp -implicitDefEqProofs only[go_sem,seval,↓reduceIte];refine hK6 _ ?_;refine AW.region (by kernel_rfl) ?_;simp -implicitDefEqProofs only[go_sem,seval,↓reduceIte,hw];intro g32;refine app_grown (f:=V.int .u8) (l:=ks) (l2:=[v]) (g:=gx) cells_u8 rfl rfl rfl (by simp -implicitDefEqProofs only[go_sem,seval,↓reduceIte];try rfl) (roomOk_of (by omega) (by simp;omega)) fun g2=>?_;simp -implicitDefEqProofs only[go_sem,seval,↓reduceIte];refine hK5 _ ?_;refine AW.region (by kernel_rfl) ?_;simp -implicitDefEqProofs only[go_sem,seval,↓reduceIte];refine hL3 _ ⟨hk1,(g2,ks++[v]),⟨hR,by show (ks++[v]).length=k+1;rw [List.length_append,hkl];rfl⟩,Weak.st (by simp -implicitDefEqProofs only[go_sem,seval,↓reduceIte];exact congrArg _ (w64 (by omega) (by omega))) (by simp -implicitDefEqProofs only[go_sem,seval,↓reduceIte];try rfl)⟩
 ·have hk1:k=s.l.length:=by simp at h19;omega
  refine AW.exit ?_;simp -implicitDefEqProofs only[go_sem,seval,↓reduceIte];refine hK2 _ ?_;rw [List.drop_of_length_le (by omega)] at hR;refine AW.weak (Weak.stF (fun o=>o==33) (l:=[(8,encKs .new ks)]) (m:=[]) ?_ trivial) ?_
  ·simp -implicitDefEqProofs only[go_sem,seval,↓reduceIte]
   exact Fz.grown rfl rfl cells_u8
  refine AW.seq_k fun K hK=>AW.region (by kernel_rfl) ?_;simp -implicitDefEqProofs only[go_sem,seval,↓reduceIte];refine hK _ ?_;clear hK K;refine AW.ret ?_;simp -implicitDefEqProofs only[go_sem,seval,↓reduceIte];refine endK_some ?_;rw [hR];rfl
theorem r9Of_spec (G:Nat→V) (hG:GOk G) (c c1:Col) (s:Sl XN) (names:Sl (List UInt8)) (hs:s.l.length<1000000) (hnm:∀ n∈s.l,n.name.length<100000) (hnl:names.l.length<1000000) :
  Spec Tryz.prog G 49 [encSl c 6 encXN s,encSl c1 1 V.str names] hNone (fun v _=>v=encO3 (ofTP names.l s.l)):=by
 refine Spec.of_code' 0 27 [.tmp 4,.tmp 5,.tmp 6] Tryz.func49 rfl rfl rfl rfl fun X=>?_
 have hP:ofTP names.l s.l=if (kindsP names.l s.l).2.2≠0 then (0,(kindsP names.l s.l).2.1,(kindsP names.l s.l).2.2) else ((kindsP names.l s.l).1.getD ((kindsP names.l s.l).1.length-1) 0,0,0):=rfl
 have hKi:=fun c c1=>r9Kinds_spec G hG c c1 s names hs hnm hnl;have hL:=kindsP_len (names:=names.l) (l:=s.l);generalize ofTP names.l s.l=res at hP ⊢;generalize kindsP names.l s.l=p at hP hKi hL;obtain ⟨ks,i,e⟩:=p;simp only at hP hL;refine AW.seq_k fun K hK=>AW.region (by kernel_rfl) ?_;simp -implicitDefEqProofs only[go_sem,seval,↓reduceIte];refine hK _ ?_;clear hK K;refine AW.seq_k fun K hK=>AW.region (by kernel_rfl) ?_;simp -implicitDefEqProofs only[go_sem,seval,↓reduceIte];refine CallA.pure hG (by kernel_rfl) ?_;simp -implicitDefEqProofs only[go_sem,seval,↓reduceIte,recol_xns];refine (hKi _ _).mono ?_;rintro _ _ rfl;simp -implicitDefEqProofs only[go_sem,seval,↓reduceIte,encKr,encKs,recol_ks];refine hK _ ?_;clear hK K;refine AW.seq_k fun K1 hK1=>?_;refine AW.seq_k fun K hK=>AW.region (by kernel_rfl) ?_;simp -implicitDefEqProofs only[go_sem,seval,↓reduceIte];refine hK _ ?_;clear hK K
 by_cases he:e=0
 rotate_left
 ·have q1:(e != 0)=true:=by simpa using he
  rw [if_pos he] at hP;refine AW.condS (by simp -implicitDefEqProofs only[go_sem,seval,↓reduceIte];rfl) (fun h18=>?_) (fun h18=>?_)
  ·refine AW.seq_k fun K hK=>AW.region (by kernel_rfl) ?_
   simp -implicitDefEqProofs only[go_sem,seval,↓reduceIte];refine hK _ ?_;clear hK K;refine AW.ret ?_;simp -implicitDefEqProofs only[go_sem,seval,↓reduceIte];refine endK_some ?_;rw [hP];rfl
  ·rw [q1] at h18;cases h18
 have q1:(e != 0)=false:=by simpa using he
 rw [if_neg (by simpa using he)] at hP;obtain ⟨hl1,hl2⟩:=hL he;refine AW.condS (by simp -implicitDefEqProofs only[go_sem,seval,↓reduceIte];rfl) (fun h18=>?_) (fun h18=>?_)
 ·rw [q1] at h18;cases h18
 refine AW.skip ?_;simp -implicitDefEqProofs only[go_sem,seval,↓reduceIte];refine hK1 _ ?_;obtain ⟨m,hm⟩:∃ m:Nat,ks.length=m+1:=⟨ks.length-1,by omega⟩
 have hw:IntKind.i64.wrap ((ks.length:Int)-1)=(m:Int):=by rw [w64 (by omega) (by omega)];omega
 obtain ⟨v,hv⟩:∃ v,ks[m]? = some v:=⟨_,List.getElem?_eq_getElem (by omega)⟩
 have hgd:ks.getD (ks.length-1) 0=v:=by rw [show ks.length-1=m by omega,List.getD_eq_getElem?_getD,hv];rfl
 rw [hgd] at hP;refine AW.seq_k fun K hK=>AW.region (by kernel_rfl) ?_;simp -implicitDefEqProofs only[go_sem,seval,↓reduceIte,hw,hv];refine hK _ ?_;clear hK K;refine AW.ret ?_;simp -implicitDefEqProofs only[go_sem,seval,↓reduceIte];refine endK_some ?_;rw [hP];rfl
end Go.Hs
end

section
namespace Go.Hs
theorem mem_subs {x y:X} (h:y∈subs x):∃ b,Sub x y b:=by
 obtain ⟨i,hi,e⟩:=List.mem_iff_getElem.1 h;obtain ⟨z,b,h1,h2,h3,h4⟩:=sub_at x i (by rw [← subs_len];exact hi);rw [List.getElem?_eq_getElem hi,e] at h3;cases h3;exact ⟨b,h1⟩
theorem Sub.mem {x y:X} {b:Nat} (h:Sub x y b):y∈subs x:=List.mem_of_getElem? h.get
def shiftN (b:Int) (n:XN):XN:={ n with a:=max (-1) (n.a-b),b:=max (-1) (n.b-b),c:=max (-1) (n.c-b) }
theorem row_shift:∀ (y:X) (b c:Int),0≤b→0≤c→(y.row (b+c)).map (shiftN b)=y.row c
 | .leaf op num name,b,c,hb,hc=>by
  have:max (-1) (-1-b)=(-1:Int):=by omega
  simp only [X.row,List.map_cons,List.map_nil,shiftN,this]
 | .un op a,b,c,hb,hc=>by
  have e1:max (-1) (-1-b)=(-1:Int):=by omega
  have hp:=a.size_pos
  have e2:max (-1) (b+c+a.size-1-b)=c+a.size-1:=by omega
  simp only [X.row,List.map_append,List.map_cons,List.map_nil,shiftN,e1,e2,row_shift a b c hb hc]
 | .bin op x y,b,c,hb,hc=>by
  have e1:max (-1) (-1-b)=(-1:Int):=by omega
  have hp:=x.size_pos;have hp2:=y.size_pos
  have e2:max (-1) (b+c+x.size-1-b)=c+x.size-1:=by omega
  have e3:max (-1) (b+c+x.size+y.size-1-b)=c+x.size+y.size-1:=by omega
  have i2:=row_shift y b (c+x.size) hb (by omega);rw [← Int.add_assoc] at i2;simp only [X.row,List.map_append,List.map_cons,List.map_nil,shiftN,e1,e2,e3,row_shift x b c hb hc,i2]
 | .ite x y z,b,c,hb,hc=>by
  have hp:=x.size_pos;have hp2:=y.size_pos;have hp3:=z.size_pos
  have e2:max (-1) (b+c+x.size-1-b)=c+x.size-1:=by omega
  have e3:max (-1) (b+c+x.size+y.size-1-b)=c+x.size+y.size-1:=by omega
  have e4:max (-1) (b+c+x.size+y.size+z.size-1-b)=c+x.size+y.size+z.size-1:=by omega
  have i2:=row_shift y b (c+x.size) hb (by omega);rw [← Int.add_assoc] at i2;have i3:=row_shift z b (c+x.size+y.size) hb (by omega);rw [← Int.add_assoc,← Int.add_assoc] at i3;simp only [X.row,List.map_append,List.map_cons,List.map_nil,shiftN,e2,e3,e4,row_shift x b c hb hc,i2,i3]
theorem Sub.shift {x y:X} {b:Nat} (h:Sub x y b):(((x.row 0).drop b).take y.size).map (shiftN b)=y.row 0:=by
 obtain ⟨pre,post,e,hb⟩:=h.at (At.whole x);rw [Nat.zero_add] at hb e;have hl:(y.row ((b:Nat):Int)).length=y.size:=y.row_len _
 have ht:((x.row 0).drop b).take y.size=y.row (b:Nat):=by
  rw [e,List.append_assoc,← hb,List.drop_left,← hl,hb,List.take_left]
 rw [ht];have:=row_shift y b 0 (by omega) (by omega);rw [Int.add_zero] at this;exact this
end Go.Hs
end

section
namespace Go.Hs
open Go.Proofs
set_option maxRecDepth 10000
theorem checkP_row {x:X} (h:x.ok=true):checkP (x.row 0)=if x.depth > 64 then 3 else 0:=by
 have hd:=depth_row h;have hp:=x.depth_pos;unfold checkP;rw [hd,if_neg (by omega)]
 by_cases h2:x.depth > 64
 ·rw [if_pos (by omega),if_pos h2]
 ·rw [if_neg (by omega),if_neg h2]
end Go.Hs
end

section
namespace Go.Hs
def NmIn (x:X) (t:List UInt8):Prop:=∃ num,X.leaf 2 num t∈subs x
theorem NmIn.sub {x y:X} {b:Nat} (h:Sub x y b) {t:List UInt8} (ht:NmIn y t):NmIn x t:=by
 obtain ⟨n,q⟩:=ht;obtain ⟨c,hc⟩:=mem_subs q;exact ⟨n,(h.trans hc).mem⟩
end Go.Hs
end

section
namespace Go.Hs
inductive GB:List (List UInt8)→List ASt→Prop where
 | nil:GB [] []
 | asg {nm:List UInt8} {ts r:List (List UInt8)} {x:X} {b:List ASt}:isP nm=2→Gr 1 ts x→x.depth≤64→GB r b→GB (nm::[58,61]::(ts++[59]::r)) (⟨1,nm,x.row 0⟩::b)
 | bare {nm:List UInt8} {r:List (List UInt8)} {b:List ASt}:isP nm=2→GB r b→GB (emitW::nm::[40]::[41]::[59]::r) (⟨2,nm,[]⟩::b)
 | emit {nm:List UInt8} {ts r:List (List UInt8)} {x:X} {b:List ASt}:isP nm=2→Gr 1 ts x→x.depth≤64→GB r b→GB (emitW::nm::[40]::(ts++[41]::[59]::r)) (⟨2,nm,x.row 0⟩::b)
theorem GB.app {ws vs:List (List UInt8)} {a b:List ASt} (h:GB ws a) (h2:GB vs b):GB (ws++vs) (a++b):=by
 induction h with
 | nil=>exact h2
 | asg n g d _ ih=>simpa using GB.asg n g d ih
 | bare n _ ih=>exact GB.bare n ih
 | emit n g d _ ih=>simpa using GB.emit n g d ih
theorem GB.len {ws:List (List UInt8)} {a:List ASt} (h:GB ws a):4 * a.length≤ws.length:=by
 induction h with
 | nil=>exact Nat.le_refl _
 | asg n g d _ ih=>have:=g.pos;simp only [List.length_cons,List.length_append];omega
 | bare n _ ih=>simp only [List.length_cons];omega
 | emit n g d _ ih=>simp only [List.length_cons,List.length_append];omega
def Wds (l:List Tk):Prop:=∀ t∈l,(isP t.text:Int)=t.kind∧isP t.text≠0
theorem toksF_wds {s:List UInt8}:∀ (f i:Nat) (acc:List Tk),Wds acc→Wds (toksF f s (i+blk (s.drop i)) acc).1
 | 0,_,acc,h=>h
 | f+1,i,acc,h=>by
  rw [toksF]
  split
  ·split
   ·intro t ht;cases ht
   ·rename_i h1 h2
    have hdd:s.drop (i+blk (s.drop i))=(s.drop i).drop (blk (s.drop i)):=by rw [List.drop_drop]
    rw [hdd] at h2 ⊢;refine toksF_wds f _ _ ?_;intro t ht;rw [List.mem_append,List.mem_singleton] at ht
    rcases ht with ht | rfl
    ·exact h t ht
    ·obtain ⟨p1,p2⟩:=first_is (s:=s.drop i) (by rw [List.length_drop];omega) rfl (by omega) (by omega)
     exact ⟨by show ((isP _:Nat):Int)=_;rw [p1],by show isP _≠0;rw [p1];exact p2⟩
  ·exact h
theorem toks_wds (s:List UInt8):Wds (toksP s).1:=by
 unfold toksP
 split
 ·intro t ht;cases ht
 ·have:=toksF_wds (s:=s) (s.length+1) 0 [] (fun t ht=>by cases ht)
  simpa using this
theorem Wds.wd {l:List Tk} (h:Wds l) {i:Nat} (hi:i<l.length):(l.map wdOf)[i]? = some (txtP l i):=by
 have hg:=List.getElem?_eq_getElem hi;rw [List.getElem?_map,hg,txtP_some hg];have:=(h _ (List.getElem_mem hi)).1
 show some (wdOf l[i])=_
 unfold wdOf;rw [if_pos this]
theorem Wds.drop {l:List Tk} (h:Wds l) {i:Nat} (hi:i<l.length):(l.map wdOf).drop i=txtP l i::(l.map wdOf).drop (i+1):=by
 have hg:=h.wd hi;obtain ⟨q1,q2⟩:=List.getElem?_eq_some_iff.1 hg;rw [List.drop_eq_getElem_cons q1,q2]
theorem Wds.name {l:List Tk} (h:Wds l) {i:Nat} (hn:nameP l i=true):i<l.length∧isP (txtP l i)=2:=by
 have hi:i<l.length:=by
  refine Classical.byContradiction fun h2=>?_;rw [nameP_none (by omega)] at hn;cases hn
 have hg:=List.getElem?_eq_getElem hi;rw [nameP_some hg] at hn;have:=(h _ (List.getElem_mem hi)).1
 have hk:(l[i]).kind=2:=by simpa using hn
 rw [txtP_some hg];exact ⟨hi,by omega⟩
theorem at_word {l:List Tk} {i:Nat} {w:List UInt8} {r:List (List UInt8)} (h:(l.map wdOf).drop i=w::r) (hw:w≠[]) :
  i<l.length∧txtP l i=w∧nameP l i=(isP w==2)∧(l.map wdOf).drop (i+1)=r:=by
 have hi:i<l.length:=by
  refine Classical.byContradiction fun h2=>?_;rw [List.drop_of_length_le (by rw [List.length_map];omega)] at h;cases h
 have hg:=List.getElem?_eq_getElem hi
 have hw0:(l.map wdOf)[i]? = some w:=by
  have:=congrArg List.head? h;rwa [List.head?_drop] at this
 rw [List.getElem?_map,hg] at hw0
 have hw1:wdOf l[i]=w:=by simpa using hw0
 unfold wdOf at hw1
 split at hw1
 ·rename_i hk
  rw [txtP_some hg,nameP_some hg];refine ⟨hi,hw1,?_,?_⟩
  ·rw [← hk,hw1,Bool.eq_iff_iff]
   simp only [beq_iff_eq];omega
  ·rw [← List.drop_drop,h];rfl
 ·exact absurd hw1.symm hw
theorem from_pre {l:List Tk} {ts r:List (List UInt8)} {w:List UInt8} {x:X} (hl:l.map wdOf=ts++w::r) (h:Gr 1 ts x) (hd:x.depth≤64) (hw:ofI w 2=none):fromP l=(x.row 0,(ts.length:Int),0):=by
 have hs:Seg l 0 ts:=⟨[],w::r,by simpa using hl,rfl⟩;have hs2:Seg l (0+ts.length) (w::r):=⟨ts,[],by simpa using hl,by simp⟩;have hend:Ends l 1 (0+ts.length):=ends_word 1 hs2.head.1 hw
 have hc:climbP l (l.length+1) 1 ⟨0,[],0⟩=(true,⟨ts.length,x.row 0,0⟩):=by
  rw [climbP,h.climb 1 l.length (l.length+1) ⟨0,[],0⟩ hs (Int.le_refl _) (by decide) (Nat.le_refl _) (by show _<l.length+1+0;omega) (fun op ho=>by have:=hend op ho;omega)];rw [loop_stop hend]
  show (true,RS.mk _ _ _)=_
  rw [Nat.zero_add];rfl
 unfold fromP;rw [hc,depth_row h.ok];simp only [Bool.true_eq_false,if_false];rw [if_neg (by omega)]
theorem from_inv {l:List Tk} (h:(fromP l).2.2=0):∃ ts x,Gr 1 ts x∧x.depth≤64∧(∃ r,l.map wdOf=ts++r)∧fromP l=(x.row 0,(ts.length:Int),0):=by
 have hF:fromP l=if (climbP l (l.length+1) 1 ⟨0,[],0⟩).1=false then (([]:List XN),((climbP l (l.length+1) 1 ⟨0,[],0⟩).2.i:Int),(climbP l (l.length+1) 1 ⟨0,[],0⟩).2.e)
  else if depthP (climbP l (l.length+1) 1 ⟨0,[],0⟩).2.nodes > 64 then ([],0,3) else ((climbP l (l.length+1) 1 ⟨0,[],0⟩).2.nodes,((climbP l (l.length+1) 1 ⟨0,[],0⟩).2.i:Int),(0:Int)):=rfl
 by_cases hb:(climbP l (l.length+1) 1 ⟨0,[],0⟩).1=true
 ·obtain ⟨ts,x,g,sg,e⟩:=climb_inv _ 1 ⟨0,[],0⟩ (by decide) (by decide) hb
  rw [hb] at hF;simp only [Bool.true_eq_false,if_false] at hF;have hok:=g.ok
  have hn:(climbP l (l.length+1) 1 ⟨0,[],0⟩).2.nodes=x.row 0:=by rw [e];simp [after]
  rw [hn,depth_row hok] at hF
  by_cases hdp:(x.depth:Int) > 64
  ·rw [if_pos hdp] at hF
   rw [hF] at h;cases h
  rw [if_neg hdp] at hF
  have hi:(climbP l (l.length+1) 1 ⟨0,[],0⟩).2.i=ts.length:=by rw [e];show 0+ts.length=_;omega
  rw [hi] at hF;obtain ⟨pre,post,e1,e2⟩:=sg;have hp:pre=[]:=List.length_eq_zero_iff.1 e2;rw [hp] at e1;exact ⟨ts,x,g,by omega,⟨post,by simpa using e1⟩,hF⟩
 ·have hb:(climbP l (l.length+1) 1 ⟨0,[],0⟩).1=false:=by simpa using hb
  rw [if_pos hb] at hF
  exfalso
  have he:=climb_err (l.length+1) 1 ⟨0,[],0⟩ (by show l.length<l.length+1+0;omega) (Nat.zero_le _) hb;rw [hF] at h;exact he h
theorem name_ne {w:List UInt8} (h:isP w=2):w≠[]∧w≠emitW:=by
 refine ⟨?_,?_⟩
 ·rintro rfl;revert h;decide +kernel
 ·rintro rfl;revert h;decide +kernel
theorem shut_none:ofI [59] 2=none∧ofI [41] 2=none:=by decide +kernel
theorem map_drop {l:List Tk} (i:Nat):(l.drop i).map wdOf=(l.map wdOf).drop i:=List.map_drop ..
theorem gr_head {n:Int} {ts:List (List UInt8)} {x:X} (h:Gr n ts x):∃ u us,ts=u::us∧u≠[41]∧u≠[]:=by
 induction h with
 | num h1 _=>exact ⟨_,_,rfl,by rintro rfl;revert h1;decide +kernel,by rintro rfl;revert h1;decide +kernel⟩
 | name h1=>exact ⟨_,_,rfl,by rintro rfl;revert h1;decide +kernel,by rintro rfl;revert h1;decide +kernel⟩
 | tr=>exact ⟨_,_,rfl,by decide,by decide⟩
 | fa=>exact ⟨_,_,rfl,by decide,by decide⟩
 | neg _ _=>exact ⟨_,_,rfl,by decide,by decide⟩
 | not _ _=>exact ⟨_,_,rfl,by decide,by decide⟩
 | par _=>exact ⟨_,_,rfl,by decide,by decide⟩
 | bin _ _ _ _ _ ih _ =>
  obtain ⟨u,us,rfl,h1,h2⟩:=ih;exact ⟨u,_,rfl,h1,h2⟩
 | ite _ _ _=>exact ⟨_,_,rfl,by decide,by decide⟩
theorem GB.body {ws:List (List UInt8)} {b:List ASt} (h:GB ws b):∀ (l:List Tk) (n f i:Nat) (acc:List ASt),(l.map wdOf).drop i=ws→i≤l.length→l.length<f+i→acc.length+b.length≤512 →
  bodyF l n f i acc=(acc++b,0,0):=by
 have step:∀ {l:List Tk} {n f i j:Nat} {acc b:List ASt} {s:ASt},i<l.length→acc.length+(b.length+1)≤512→stmtP l i=(s,(j:Int),0)→bodyF l n f j (acc++[s])=(acc++s::b,0,0) →
   bodyF l n (f+1) i acc=(acc++s::b,0,0):=by
  intro l n f i j acc b s hi ha hs hb;rw [bodyF,if_neg (by omega),if_neg (by omega),hs];simp only [ne_eq,not_true_eq_false,if_false,Int.toNat_natCast];exact hb
 have hshut:∀ {l:List Tk} {j:Nat} {w:List UInt8} {ws:List (List UInt8)},txtP l j=w→takeP l (w::ws) j=takeP l ws (j+1):=by
  intro l j w ws h;rw [takeP,if_pos h]
 induction h with
 | nil =>
  intro l n f i acc hd hi hf ha
  have:l.length≤i:=by
   have:=congrArg List.length hd;rw [List.length_drop,List.length_map] at this;simp only [List.length_nil] at this;omega
  obtain ⟨f,rfl⟩:∃ m,f=m+1:=⟨f-1,by omega⟩;rw [bodyF,if_pos this,List.append_nil]
 | @asg nm ts r x b hn g hdp _ ih =>
  intro l n f i acc hd hi hf ha;obtain ⟨e1,e2⟩:=name_ne hn;obtain ⟨i1,t1,n1,d1⟩:=at_word hd e1;obtain ⟨i2,t2,_,d2⟩:=at_word d1 (by decide);have hfr:fromP (l.drop (i+2))=(x.row 0,(ts.length:Int),0):=from_pre (by rw [map_drop];exact d2) g hdp shut_none.1
  have d3:(l.map wdOf).drop (i+2+ts.length)=[59]::r:=by rw [← List.drop_drop,show (l.map wdOf).drop (i+2)=_ from d2,List.drop_left]
  obtain ⟨i3,t3,_,d4⟩:=at_word d3 (by decide);obtain ⟨f,rfl⟩:∃ m,f=m+1:=⟨f-1,by omega⟩;simp only [List.length_cons] at ha;refine step (j:=i+2+ts.length+1) i1 ha ?_ ?_
  ·unfold stmtP stmtQ exprS shutS
   have q:takeP l [[59]] (i+2+ts.length)=(true,i+2+ts.length+1):=by rw [hshut t3];rfl
   rw [if_neg (by rw [t1];exact e2),n1,hn,t1,t2,hfr];simp only [Int.toNat_natCast,q];simp
  ·have:=ih l n f (i+2+ts.length+1) (acc++[⟨1,nm,x.row 0⟩]) d4 (by omega) (by omega) (by rw [List.length_append];simp only [List.length_cons,List.length_nil];omega)
   rw [this,List.append_assoc];rfl
 | @bare nm r b hn _ ih =>
  intro l n f i acc hd hi hf ha;obtain ⟨e1,e2⟩:=name_ne hn;obtain ⟨i0,t0,_,d0⟩:=at_word hd (by decide);obtain ⟨i1,t1,n1,d1⟩:=at_word d0 e1;obtain ⟨i2,t2,_,d2⟩:=at_word d1 (by decide);obtain ⟨i3,t3,_,d3⟩:=at_word d2 (by decide);obtain ⟨i4,t4,_,d4⟩:=at_word d3 (by decide);obtain ⟨f,rfl⟩:∃ m,f=m+1:=⟨f-1,by omega⟩;simp only [List.length_cons] at ha;refine step (j:=i+1+1+1+1+1) i0 ha ?_ ?_
  ·unfold stmtP stmtQ shutS
   have q:takeP l [[41],[59]] (i+1+2)=(true,i+1+2+1+1):=by
    have t3:txtP l (i+1+2)=[41]:=t3;have t4:txtP l (i+1+2+1)=[59]:=t4;rw [hshut t3,hshut t4];rfl
   have t3:txtP l (i+1+2)=[41]:=t3;rw [if_pos t0,n1,hn,t1,t2,t3];simp only [q];simp;omega
  ·have:=ih l n f (i+1+1+1+1+1) (acc++[⟨2,nm,[]⟩]) d4 (by omega) (by omega) (by rw [List.length_append];simp only [List.length_cons,List.length_nil];omega)
   rw [this,List.append_assoc];rfl
 | @emit nm ts r x b hn g hdp _ ih =>
  intro l n f i acc hd hi hf ha;obtain ⟨e1,e2⟩:=name_ne hn;obtain ⟨i0,t0,_,d0⟩:=at_word hd (by decide);obtain ⟨i1,t1,n1,d1⟩:=at_word d0 e1;obtain ⟨i2,t2,_,d2⟩:=at_word d1 (by decide);have hfr:fromP (l.drop (i+1+2))=(x.row 0,(ts.length:Int),0):=from_pre (by rw [map_drop];exact d2) g hdp shut_none.2
  have d3:(l.map wdOf).drop (i+1+2+ts.length)=[41]::[59]::r:=by rw [← List.drop_drop,show (l.map wdOf).drop (i+1+2)=_ from d2,List.drop_left]
  obtain ⟨i3,t3,_,d4⟩:=at_word d3 (by decide);obtain ⟨i4,t4,_,d5⟩:=at_word d4 (by decide)
  have hn41:txtP l (i+1+2)≠[41]:=by
   intro hq
   have hz:∃ u us,ts=u::us∧u≠[41]∧u≠[]:=by
    clear hfr d3 i3 t3 d4 i4 t4 d5 ih hd d0 d1 d2;exact gr_head g
   obtain ⟨u,us,rfl,hu,hu0⟩:=hz;obtain ⟨_,tq,_,_⟩:=at_word (w:=u) (r:=us++[41]::[59]::r) (show (l.map wdOf).drop (i+1+2)=_ from d2) hu0;exact hu (tq.symm.trans hq)
  obtain ⟨f,rfl⟩:∃ m,f=m+1:=⟨f-1,by omega⟩;simp only [List.length_cons] at ha;refine step (j:=i+1+2+ts.length+1+1) i0 ha ?_ ?_
  ·unfold stmtP stmtQ exprS shutS
   have q:takeP l [[41],[59]] (i+1+2+ts.length)=(true,i+1+2+ts.length+1+1):=by rw [hshut t3,hshut t4];rfl
   rw [if_pos t0,n1,hn,t1,t2,hfr];simp only [Int.toNat_natCast,q];simp [hn41]
  ·have:=ih l n f (i+1+2+ts.length+1+1) (acc++[⟨2,nm,x.row 0⟩]) d5 (by omega) (by omega) (by rw [List.length_append];simp only [List.length_cons,List.length_nil];omega)
   rw [this,List.append_assoc];rfl
theorem take_inv {l:List Tk} {w:List UInt8} {ws:List (List UInt8)} {j:Nat} (h:(takeP l (w::ws) j).1=true):txtP l j=w∧takeP l (w::ws) j=takeP l ws (j+1):=by
 rw [takeP] at h ⊢
 split at h
 ·rename_i q;rw [if_pos q];exact ⟨q,rfl⟩
 ·cases h
theorem shut_inv {l:List Tk} {s:ASt} {ws:List (List UInt8)} {j:Nat} (h:(shutS l s ws j).2.2=0):(takeP l ws j).1=true∧shutS l s ws j=(s,((takeP l ws j).2:Int),0):=by
 unfold shutS at h ⊢
 by_cases q:(takeP l ws j).1=true
 ·rw [if_pos q];exact ⟨q,rfl⟩
 ·simp only [q] at h;cases h
theorem stmt_inv {l:List Tk} (hW:Wds l) {i:Nat} (h:(stmtP l i).2.2=0):∃ (s:ASt) (j:Nat),stmtP l i=(s,(j:Int),0)∧i<j∧j≤l.length∧∀ b,GB ((l.map wdOf).drop j) b→GB ((l.map wdOf).drop i) (s::b):=by
 unfold stmtP at h ⊢
 have expr:∀ {k:Int} {nm:List UInt8} {ws:List (List UInt8)} {p:Nat},(exprS l k nm ws p).2.2=0→∃ ts x,Gr 1 ts x∧x.depth≤64∧(l.map wdOf).drop p=ts++(l.map wdOf).drop (p+ts.length) ∧
   (takeP l ws (p+ts.length)).1=true∧exprS l k nm ws p=(⟨k,nm,x.row 0⟩,((takeP l ws (p+ts.length)).2:Int),0):=by
  intro k nm ws p hq;unfold exprS at hq ⊢
  by_cases h0:(fromP (l.drop p)).2.2=0
  ·rw [if_neg (by simpa using h0)] at hq ⊢
   obtain ⟨ts,x,g,hd,⟨r,hr⟩,e⟩:=from_inv h0;rw [e] at hq ⊢;simp only [Int.toNat_natCast] at hq ⊢;obtain ⟨q1,q2⟩:=shut_inv hq;refine ⟨ts,x,g,hd,?_,q1,q2⟩;rw [map_drop] at hr;rw [← List.drop_drop,hr,List.drop_left]
  ·rw [if_pos h0] at hq;exact absurd hq h0
 by_cases h1:txtP l i=emitW
 ·rw [if_pos h1] at h ⊢
  have hi:i<l.length:=txtP_lt (by rw [h1];decide);have d0:=hW.drop hi;rw [h1] at d0
  have hq:stmtQ l 2 [40] [[41],[59]] (i+1)=if nameP l (i+1)=false then (⟨2,[],[]⟩,((i+1:Nat):Int),110)
   else if txtP l (i+1+1)≠[40] then (⟨2,txtP l (i+1),[]⟩,((i+1+1:Nat):Int),110)
   else if (2:Int)=2∧txtP l (i+1+2)=[41] then shutS l ⟨2,txtP l (i+1),[]⟩ [[41],[59]] (i+1+2)
   else exprS l 2 (txtP l (i+1)) [[41],[59]] (i+1+2):=rfl
  rw [hq] at h ⊢
  by_cases h2:nameP l (i+1)=true
  rotate_left
  ·rw [if_pos (by simpa using h2)] at h;cases h
  rw [if_neg (by rw [h2];decide)] at h ⊢;obtain ⟨i1,n1⟩:=hW.name h2;have d1:=hW.drop i1
  by_cases h3:txtP l (i+1+1)=[40]
  rotate_left
  ·rw [if_pos h3] at h;cases h
  rw [if_neg (by rw [h3];simp)] at h ⊢;have i2:i+1+1<l.length:=txtP_lt (by rw [h3];decide);have d2:=hW.drop i2;rw [h3] at d2
  by_cases h4:txtP l (i+1+2)=[41]
  ·rw [if_pos ⟨rfl,h4⟩] at h ⊢
   obtain ⟨q1,q2⟩:=shut_inv h;obtain ⟨t3,q3⟩:=take_inv q1;rw [q3] at q1;obtain ⟨t4,q4⟩:=take_inv q1;have i3:i+1+2<l.length:=txtP_lt (by rw [t3];decide);have i4:i+1+2+1<l.length:=txtP_lt (by rw [t4];decide);have d3:=hW.drop i3;have d4:=hW.drop i4;rw [t3] at d3;rw [t4] at d4;refine ⟨⟨2,txtP l (i+1),[]⟩,i+1+2+1+1,by rw [q2,q3,q4];rfl,by omega,by omega,fun b hb=>?_⟩;rw [d0,d1,d2,show (l.map wdOf).drop (i+1+1+1)=_ from d3,d4];exact .bare n1 hb
  ·rw [if_neg (fun hh=>h4 hh.2)] at h ⊢
   obtain ⟨ts,x,g,hd,hdr,q1,q2⟩:=expr h;obtain ⟨t3,q3⟩:=take_inv q1;rw [q3] at q1;obtain ⟨t4,q4⟩:=take_inv q1;have i3:i+1+2+ts.length<l.length:=txtP_lt (by rw [t3];decide);have i4:i+1+2+ts.length+1<l.length:=txtP_lt (by rw [t4];decide);have d3:=hW.drop i3;have d4:=hW.drop i4;rw [t3] at d3;rw [t4] at d4;refine ⟨⟨2,txtP l (i+1),x.row 0⟩,i+1+2+ts.length+1+1,by rw [q2,q3,q4];rfl,by omega,by omega,fun b hb=>?_⟩;rw [d0,d1,d2,show (l.map wdOf).drop (i+1+1+1)=_ from hdr,d3,d4];exact .emit n1 g hd hb
 ·rw [if_neg h1] at h ⊢
  have hq:stmtQ l 1 [58,61] [[59]] i=if nameP l i=false then (⟨1,[],[]⟩,(i:Int),110)
   else if txtP l (i+1)≠[58,61] then (⟨1,txtP l i,[]⟩,((i+1:Nat):Int),110)
   else if (1:Int)=2∧txtP l (i+2)=[41] then shutS l ⟨1,txtP l i,[]⟩ [[59]] (i+2)
   else exprS l 1 (txtP l i) [[59]] (i+2):=rfl
  rw [hq] at h ⊢
  by_cases h2:nameP l i=true
  rotate_left
  ·rw [if_pos (by simpa using h2)] at h;cases h
  rw [if_neg (by rw [h2];decide)] at h ⊢;obtain ⟨i1,n1⟩:=hW.name h2;have d1:=hW.drop i1
  by_cases h3:txtP l (i+1)=[58,61]
  rotate_left
  ·rw [if_pos h3] at h;cases h
  rw [if_neg (by rw [h3];simp),if_neg (fun hh=>absurd hh.1 (by decide))] at h ⊢;have i2:i+1<l.length:=txtP_lt (by rw [h3];decide);have d2:=hW.drop i2;rw [h3] at d2;obtain ⟨ts,x,g,hd,hdr,q1,q2⟩:=expr h;obtain ⟨t3,q3⟩:=take_inv q1;have i3:i+2+ts.length<l.length:=txtP_lt (by rw [t3];decide);have d3:=hW.drop i3;rw [t3] at d3;refine ⟨⟨1,txtP l i,x.row 0⟩,i+2+ts.length+1,by rw [q2,q3];rfl,by omega,by omega,fun b hb=>?_⟩;rw [d1,d2,show (l.map wdOf).drop (i+1+1)=_ from hdr,d3];exact .asg n1 g hd hb
theorem body_inv {l:List Tk} (hW:Wds l) (n:Nat):∀ (f i:Nat) (acc:List ASt),l.length<f+i→i≤l.length→acc.length≤512→(bodyF l n f i acc).2.2=0 →
  ∃ b,bodyF l n f i acc=(acc++b,0,0)∧GB ((l.map wdOf).drop i) b∧acc.length+b.length≤512
 | 0,i,acc,h1,h2,_,_=>by omega
 | f+1,i,acc,h1,h2,h3,h=>by
  rw [bodyF] at h ⊢
  by_cases q:l.length≤i
  ·rw [if_pos q] at h ⊢
   refine ⟨[],by rw [List.append_nil],?_,by simpa using h3⟩;rw [List.drop_of_length_le (by rw [List.length_map];exact q)];exact .nil
  rw [if_neg q] at h ⊢
  by_cases q2:acc.length=512
  ·rw [if_pos q2] at h;cases h
  rw [if_neg q2] at h ⊢
  by_cases q3:(stmtP l i).2.2=0
  rotate_left
  ·rw [if_pos q3] at h;exact absurd h q3
  rw [if_neg (by simpa using q3)] at h ⊢;obtain ⟨s,j,e,hj,hjl,hg⟩:=stmt_inv hW q3;rw [e] at h ⊢;simp only [Int.toNat_natCast] at h ⊢;obtain ⟨b,e2,g,hl⟩:=body_inv hW n f j (acc++[s]) (by omega) hjl (by rw [List.length_append];simp only [List.length_cons,List.length_nil];omega) h;refine ⟨s::b,by rw [e2,List.append_assoc];rfl,hg b g,?_⟩;rw [List.length_append] at hl;simp only [List.length_cons,List.length_nil] at hl ⊢;omega
theorem toksP_ok {s:List UInt8} (h:(toksP s).2.2=0):toksP s=((toksP s).1,0,0):=by
 unfold toksP at h ⊢
 split at h
 ·cases h
 ·rename_i q
  rw [if_neg q]
  have key:∀ (f i:Nat) (acc:List Tk),(toksF f s i acc).2.2=0→toksF f s i acc=((toksF f s i acc).1,0,0):=by
   intro f
   induction f with
   | zero=>intro i acc _;rfl
   | succ f ih =>
    intro i acc hh;rw [toksF] at hh ⊢
    split
    ·rename_i q1
     rw [if_pos q1] at hh
     split
     ·rename_i q2
      rw [if_pos q2] at hh;cases hh
     ·rename_i q2
      rw [if_neg q2] at hh;exact ih _ _ hh
    ·rfl
  exact key _ _ _ h
theorem bodyP_inv {s:List UInt8} (h:(bodyP s).2.2=0):∃ l b,toksP s=(l,0,0)∧GB (l.map wdOf) b∧b.length≤512∧bodyP s=(b,0,0):=by
 have hP:bodyP s=if (toksP s).2.2≠0 then (([]:List ASt),(toksP s).2.1,(toksP s).2.2) else bodyF (toksP s).1 s.length ((toksP s).1.length+1) 0 []:=rfl
 by_cases h0:(toksP s).2.2=0
 rotate_left
 ·rw [hP,if_pos h0] at h;exact absurd h h0
 rw [hP,if_neg (by simpa using h0)] at h ⊢;obtain ⟨b,e,g,hl⟩:=body_inv (toks_wds s) s.length ((toksP s).1.length+1) 0 [] (by omega) (Nat.zero_le _) (Nat.zero_le _) h;exact ⟨(toksP s).1,b,toksP_ok h0,g,by simpa using hl,by rw [e];rfl⟩
theorem Lx.join {s t:List UInt8} {ws vs:List (List UInt8)} (h:Lx s ws) (h2:Lx t vs):Lx (s++10::t) (ws++vs):=by
 induction h with
 | @nil s hb =>
  have hb2:blk (s++10::t)=s.length+1+blk t:=by
   rw [blk_app t s.length s (Nat.le_refl _),if_pos hb]
  have hd:(s++10::t).drop (s.length+1+blk t)=t.drop (blk t):=by
   rw [Nat.add_assoc,← List.drop_drop,List.drop_left,Nat.add_comm];rfl
  cases h2 with
  | nil q=>exact .nil (by rw [hb2,q,List.length_append,List.length_cons];omega)
  | @cons _ ws k q1 q2 q3 q4 q5 =>
   have:=Lx.cons (s:=s++10::t) (ws:=ws) (k:=k) (by rw [hb2,List.length_append,List.length_cons];omega) (by rw [hb2,hd];exact q2) q3 q4 (by rw [hb2,hd];exact q5);rw [hb2,hd] at this;exact this
 | @cons s ws k hb hk h0 h64 _ ih =>
  have hb2:blk (s++10::t)=blk s:=by rw [blk_app t s.length s (Nat.le_refl _),if_neg (by omega)]
  have hd:(s++10::t).drop (blk s)=s.drop (blk s)++10::t:=List.drop_append_of_le_length (by omega)
  have hne:s.drop (blk s)≠[]:=by
   intro q;have:=congrArg List.length q;rw [List.length_drop] at this;simp at this;omega
  have hf:(firstP (s.drop (blk s)++10::t)).1=k:=by rw [first_app (by decide) _ hne,hk]
  have hle:=firstP_le (s.drop (blk s));rw [hk] at hle
  have:=Lx.cons (s:=s++10::t) (ws:=ws++vs) (k:=k) (by rw [hb2,List.length_append];omega) (by rw [hb2,hd];exact hf) h0 h64 (by
   rw [hb2,hd,List.drop_append_of_le_length hle];exact ih)
  rw [hb2,hd,List.take_append_of_le_length hle] at this;exact this
end Go.Hs
end

section
namespace Go.Hs
theorem goN_congr {N M:List (List UInt8)} (h:∀ t,N.contains t=M.contains t):∀ (l:List XN) (i:Int) (acc:List Int),goN N l i acc=goN M l i acc
 | [],_,_=>rfl
 | n::r,i,acc=>by
  have:kindN N n acc=kindN M n acc:=by unfold kindN;rw [h]
  rw [goN,goN,this]
  split
  ·rfl
  ·exact goN_congr h r _ _
theorem ofTP_congr {N M:List (List UInt8)} (h:∀ t,N.contains t=M.contains t) (l:List XN):ofTP N l=ofTP M l:=by
 have:kindsP N l=kindsP M l:=by
  unfold kindsP
  split
  ·rfl
  ·exact goN_congr h _ _ _
 unfold ofTP;rw [this]
theorem swap_contains (a:List UInt8) (l:List (List UInt8)) (t:List UInt8):([a]++l).contains t=(l++[a]).contains t:=by
 rw [Bool.eq_iff_iff];simp only [List.contains_eq_mem,decide_eq_true_eq,List.mem_append,List.mem_singleton];exact or_comm
def argW:List UInt8:=[97,114,103]
def exprT (names:List (List UInt8)) (x:List XN):Bool:=x.isEmpty || (ofTP names x).1==1
def stT (vars events:List (List UInt8)) (s:ASt):Bool:=(if s.kind=2 then events.contains s.name else vars.contains s.name) && exprT (vars++[argW]) s.x
def typesF (vars events:List (List UInt8)):List ASt→Int→Int × Int
 | [],_=>(0,0)
 | s::r,i=>if stT vars events s=true then typesF vars events r (i+1) else (i,90)
def typesA (b:List ASt) (vars events:List (List UInt8)):Int × Int:=if checkA b≠0 then (0,2) else typesF vars events b 0
theorem typesF_drop {vars events:List (List UInt8)} {b:List ASt} {k:Nat} {s:ASt} (h:b[k]? = some s):typesF vars events (b.drop k) k=if stT vars events s=true then typesF vars events (b.drop (k+1)) (k+1:Nat) else ((k:Int),90):=by
 obtain ⟨q1,q2⟩:=List.getElem?_eq_some_iff.1 h;rw [List.drop_eq_getElem_cons q1,q2,typesF];rfl
theorem GB.right {ws:List (List UInt8)} {b:List ASt} (h:GB ws b):∀ s∈b,stOk s=true∧(s.x=[]∨∃ x:X,x.ok=true∧x.depth≤64∧x.fit∧s.x=x.row 0):=by
 have hx:∀ {ts:List (List UInt8)} {x:X},Gr 1 ts x→x.depth≤64→checkP (x.row 0)=0:=by
  intro ts x g hd;rw [checkP_row g.ok,if_neg (by omega)]
 induction h with
 | nil=>intro s hs;cases hs
 | asg n g d _ ih =>
  intro s hs
  rcases List.mem_cons.1 hs with rfl | hs
  ·exact ⟨by simp [stOk,n,hx g d],.inr ⟨_,g.ok,d,g.fit,rfl⟩⟩
  ·exact ih s hs
 | bare n _ ih =>
  intro s hs
  rcases List.mem_cons.1 hs with rfl | hs
  ·exact ⟨by simp [stOk,n],.inl rfl⟩
  ·exact ih s hs
 | emit n g d _ ih =>
  intro s hs
  rcases List.mem_cons.1 hs with rfl | hs
  ·exact ⟨by simp [stOk,n,hx g d],.inr ⟨_,g.ok,d,g.fit,rfl⟩⟩
  ·exact ih s hs
end Go.Hs
end

section
namespace Go.Hs
theorem joinW_flat:∀ L:List (List (List UInt8)),(∀ ws∈L,ws≠[])→joinW (L.map joinW)=joinW L.flatten
 | [],_=>rfl
 | [a],_=>by simp [joinW]
 | a::b::r,h=>by
  have hb:(b::r).flatten≠[]:=by
   have:=h b (by simp);simp only [List.flatten_cons,ne_eq,List.append_eq_nil_iff,not_and];exact fun q=>absurd q this
  have ih:=joinW_flat (b::r) fun ws hw=>h ws (List.mem_cons_of_mem _ hw);rw [List.map_cons,joinW_cons _ (by simp),ih,List.flatten_cons (l:=a),joinW_app (h a (by simp)) hb]
theorem prP_row {x:X} (h:x.ok=true) (hc:checkP (x.row 0)=0):prP (x.row 0)=(joinW (x.W 0),0):=by
 unfold prP;rw [dif_pos hc];have hs:=Classical.choose_spec (checkP_ok hc);generalize Classical.choose (checkP_ok hc)=y at hs ⊢;rw [row_inj _ _ 0 h hs.1 hs.2.1]
theorem st_words {s:ASt} (h:stOk s=true) (hn:∀ n∈s.x,n.num≤9223372036854775807):∃ ws:List (List UInt8),ws≠[]∧sT s=joinW ws∧(∀ w∈ws,isP w≠0)∧(∀ r b,GB r b→GB (ws++r) (s::b)) ∧
  (joinW ws).length≤66 * s.x.length+78:=by
 obtain ⟨k,nm,xs⟩:=s;simp only at hn;simp only [stOk,Bool.and_eq_true,Bool.or_eq_true,beq_iff_eq] at h;obtain ⟨⟨hk,hnm⟩,hx⟩:=h;have hnl:=(isP_first (w:=nm) (by omega)).2.2
 have hnz:isP nm≠0:=by omega
 by_cases h0:xs=[]
 ·have hk2:k=2:=by
   rcases hx with ⟨q,_⟩ | q
   ·exact q
   ·rw [h0] at q;exact absurd q (by decide)
  subst hk2 h0;refine ⟨[emitW,nm,[40],[41],[59]],by simp,?_,?_,fun r b hg=>GB.bare hnm hg,?_⟩
  ·simp [sT,xsT,joinW,emitW]
  ·intro w hw
   simp only [List.mem_cons,List.not_mem_nil,or_false] at hw
   rcases hw with rfl | rfl | rfl | rfl | rfl
   ·decide +kernel
   ·exact hnz
   ·decide +kernel
   ·decide +kernel
   ·decide +kernel
  ·simp [joinW,emitW];omega
 ·have hc:checkP xs=0:=by
   rcases hx with ⟨_,q⟩ | q
   ·exact absurd (List.isEmpty_iff.1 q) h0
   ·exact q
  obtain ⟨x,hxo,rfl,hd⟩:=checkP_ok hc;have hf:=fit_of x 0 hn;have hpr:=prP_row hxo hc;have hW:=Gr.mono (W_gr x hxo hf 0 (by decide)) (m:=1) (by decide);have hwok:=words_ok x hxo hf 0;have hpl:=print_len hxo hf
  have hxs:xsT (x.row 0)=joinW (x.W 0)++[32]:=by
   unfold xsT;rw [if_neg h0,hpr]
  have hWne:=W_ne x 0;rw [X.row_len]
  rcases hk with rfl | rfl
  ·have hj:joinW (nm::[58,61]::(x.W 0++[[59]]))=nm++32::58::61::32::(joinW (x.W 0)++[32,59]):=by
    rw [joinW_cons _ (by simp),joinW_cons _ (by simp),joinW_app hWne (by simp)];simp [joinW]
   refine ⟨nm::[58,61]::(x.W 0++[[59]]),by simp,?_,?_,fun r b hg=>?_,?_⟩
   ·rw [hj]
    simp [sT,hxs]
   ·intro w hw
    simp only [List.mem_cons,List.mem_append,List.not_mem_nil,or_false] at hw
    rcases hw with rfl | rfl | hw | rfl
    ·exact hnz
    ·decide +kernel
    ·exact hwok w hw
    ·decide +kernel
   ·have:=GB.asg hnm hW hd hg
    simpa using this
   ·rw [hj]
    simp only [List.length_append,List.length_cons,List.length_nil];omega
  ·have hj:joinW (emitW::nm::[40]::(x.W 0++[[41],[59]]))=[101,109,105,116,32]++nm++[32,40,32]++(joinW (x.W 0)++[32,41,32,59]):=by
    rw [joinW_cons _ (by simp),joinW_cons _ (by simp),joinW_cons _ (by simp),joinW_app hWne (by simp)];simp [joinW,emitW]
   refine ⟨emitW::nm::[40]::(x.W 0++[[41],[59]]),by simp,?_,?_,fun r b hg=>?_,?_⟩
   ·rw [hj]
    simp [sT,hxs]
   ·intro w hw
    simp only [List.mem_cons,List.mem_append,List.not_mem_nil,or_false] at hw
    rcases hw with rfl | rfl | rfl | hw | rfl | rfl
    ·decide +kernel
    ·exact hnz
    ·decide +kernel
    ·exact hwok w hw
    ·decide +kernel
    ·decide +kernel
   ·have:=GB.emit hnm hW hd hg
    simpa using this
   ·rw [hj]
    simp only [List.length_append,List.length_cons,List.length_nil];omega
def costA (b:List ASt):Nat:=(b.map fun s=>66 * s.x.length+79).sum
theorem body_words:∀ {b:List ASt},(∀ s∈b,stOk s=true∧∀ n∈s.x,n.num≤9223372036854775807)→∃ L:List (List (List UInt8)),b.map sT=L.map joinW∧(∀ ws∈L,ws≠[])∧(∀ w∈L.flatten,isP w≠0)∧GB L.flatten b ∧
  ((b.map sT).map fun w=>w.length+1).sum≤costA b
 | [],_=>⟨[],rfl,(fun ws h=>by cases h),(fun w h=>by cases h),GB.nil,Nat.le_refl _⟩
 | s::r,h=>by
  obtain ⟨L,e,hne,hok,g,hl⟩:=body_words (b:=r) fun s hs=>h s (List.mem_cons_of_mem _ hs);obtain ⟨ws,w1,w2,w3,w4,w5⟩:=st_words (h s (by simp)).1 (h s (by simp)).2;refine ⟨ws::L,by rw [List.map_cons,List.map_cons,e,w2],?_,?_,w4 _ _ g,?_⟩
  ·intro v hv
   rcases List.mem_cons.1 hv with rfl | hv
   ·exact w1
   ·exact hne v hv
  ·intro w hw
   rw [List.flatten_cons,List.mem_append] at hw
   rcases hw with hw | hw
   ·exact w3 w hw
   ·exact hok w hw
  ·simp only [List.map_cons,List.sum_cons,costA] at hl ⊢
   rw [w2];omega
theorem checkA_ok {b:List ASt} (h:checkA b=0):b.length≤512∧∀ s∈b,stOk s=true:=by
 unfold checkA at h
 split at h
 ·cases h
 ·split at h
  ·rename_i h1 h2
   rw [List.all_eq_true] at h2;exact ⟨by omega,h2⟩
  ·cases h
theorem printA_len {b:List ASt} (h:checkA b=0) (hn:∀ s∈b,∀ n∈s.x,n.num≤9223372036854775807):(joinW (b.map sT)).length≤costA b:=by
 obtain ⟨_,hst⟩:=checkA_ok h;obtain ⟨L,_,_,_,_,hl⟩:=body_words fun s hs=>⟨hst s hs,hn s hs⟩;exact Nat.le_trans (joinW_len _) hl
theorem GB.cost {ws:List (List UInt8)} {b:List ASt} (h:GB ws b):costA b≤66 * ws.length:=by
 induction h with
 | nil=>exact Nat.le_refl _
 | asg n g d _ ih =>
  have hs:=g.size;simp only [costA,List.map_cons,List.sum_cons,X.row_len,List.length_cons,List.length_append] at ih ⊢;omega
 | bare n _ ih =>
  simp only [costA,List.map_cons,List.sum_cons,List.length_cons,List.length_nil] at ih ⊢;omega
 | emit n g d _ ih =>
  have hs:=g.size;simp only [costA,List.map_cons,List.sum_cons,X.row_len,List.length_cons,List.length_append] at ih ⊢;omega
theorem fit_nums:∀ (x:X) (k:Int),x.ok=true→x.fit→∀ n∈x.row k,n.num≤9223372036854775807
 | .leaf op num name,k,_,h=>by
  intro n hn;simp only [X.row,List.mem_singleton] at hn;subst hn;exact h
 | .un op a,k,ho,h=>by
  intro n hn;simp only [X.ok,Bool.and_eq_true] at ho;simp only [X.row,List.mem_append,List.mem_singleton] at hn
  rcases hn with hn | rfl
  ·exact fit_nums a k ho.2 h n hn
  ·show (0:Int)≤_;decide
 | .bin op a b,k,ho,h=>by
  intro n hn;simp only [X.ok,Bool.and_eq_true] at ho;simp only [X.row,List.mem_append,List.mem_singleton] at hn
  rcases hn with (hn | hn) | rfl
  ·exact fit_nums a k ho.1.2 h.1 n hn
  ·exact fit_nums b _ ho.2 h.2 n hn
  ·show (0:Int)≤_;decide
 | .ite a b c,k,ho,h=>by
  intro n hn;simp only [X.ok,Bool.and_eq_true] at ho;simp only [X.row,List.mem_append,List.mem_singleton] at hn
  rcases hn with ((hn | hn) | hn) | rfl
  ·exact fit_nums a k ho.1.1 h.1 n hn
  ·exact fit_nums b _ ho.1.2 h.2.1 n hn
  ·exact fit_nums c _ ho.2 h.2.2 n hn
  ·show (0:Int)≤_;decide
theorem GB.nums {ws:List (List UInt8)} {b:List ASt} (h:GB ws b):∀ s∈b,∀ n∈s.x,n.num≤9223372036854775807:=by
 intro s hs n hn;obtain ⟨_,h2⟩:=h.right s hs
 rcases h2 with h2 | ⟨x,hx,_,hf,h2⟩
 ·rw [h2] at hn;cases hn
 ·rw [h2] at hn;exact fit_nums x 0 hx hf n hn
end Go.Hs
end

section
namespace Go.Hs
open Go.Proofs
set_option maxRecDepth 10000
theorem encAS_cells (c:Col) (s:ASt):(encAS c s).cells.length=3:=rfl
def encABs (c:Col) (l:List ASt):V:=encSl c 3 (encAS c) (grownS l)
theorem place_lt {l:List Tk} {n i:Nat} {t:Tk} (h:l[i]? = some t):placeP l n (i:Int)=t.pos:=by
 have hi:i<l.length:=by
  refine Classical.byContradiction fun h2=>?_;rw [List.getElem?_eq_none (by omega)] at h;cases h
 unfold placeP;rw [if_pos (by omega),Int.toNat_natCast,List.getD_eq_getElem?_getD,h];rfl
end Go.Hs
end

section
namespace Go.Hs
open Go.Proofs
set_option maxRecDepth 10000
structure CU where
 i:Nat
 e:Int
def cuO (sl:Sl Tk) (g:Nat) (st:V) (r:CU):AObj := .cells .any g 0 [encSl .any 3 encTk sl,.int .i64 r.i,.int .i64 r.e,st]
theorem cuO_K (sl:Sl Tk) (g:Nat) (st:V) (r:CU):cuO sl g st r = .cells .any g 0 [encSl .any 3 encTk sl,.int .i64 r.i,.int .i64 r.e,st]:=rfl
def CuS (G:Nat→V) (f:FuncId) (args:List V) (sl:Sl Tk) (g:Nat) (r:CU) (v:V) (r':CU):Prop :=
 ∀ st:V,(∀ F:Col→Col,st.recol F=st)→Spec Tryz.prog G f (.ptr 21 g 0::args) (sets hNone [(21,cuO sl g st r)]) (fun v0 H'=>v0=v∧H' 21=cuO sl g st r')
theorem CuS.call {G:Nat→V} (hG:GOk G) {f:FuncId} {args args':List V} {sl:Sl Tk} {g:Nat} {r r':CU} {v st:V} (h:CuS G f args' sl g r v r') {H:Heap} {K:V→Heap→Prop}
  (hst:∀ F:Col→Col,st.recol F=st) (hen:enterable Tryz.prog f=true) (hargs:args.map (V.recol Col.ent)=args') {v':V} (hv:v.recol Col.bk=v')
  (h8:H 21=cuO sl g st r) (hk:K v' (sets H [(21,cuO sl g st r')])) :
  CallA Tryz.prog G f (.ptr 21 g 0::args) H K:=by
 have e8:∀ (F:Col→Col) r,F .any = .any→(cuO sl g st r).recol F=cuO sl g st r:=by
  intro F r hF;simp only [cuO_K,recol_cells,List.map_cons,List.map_nil,recol_tks,recol_int,hF,hst]
 refine CallA.hand hG [(21,cuO sl g st r)] hen ?_ ?_
 ·intro p hp
  rw [List.mem_singleton] at hp;subst hp;rw [h8,e8 _ _ rfl]
 ·have ha:(V.ptr 21 g 0::args).map (V.recol Col.ent) = .ptr 21 g 0::args':=by rw [List.map_cons,recol_ptr,hargs]
  rw [ha];refine (h st hst).mono ?_;rintro _ H' ⟨rfl,q8⟩;simp only [List.map_cons,List.map_nil,q8,e8 _ _ bk_any,hv];exact hk
theorem cComes_spec (G:Nat→V) (hG:GOk G) (sl:Sl Tk) (g:Nat) (r:CU) (w:List UInt8):CuS G 89 [.str w] sl g r (.bool (decide (r.i<sl.l.length) && txtP sl.l r.i==w)) r:=by
 intro st hst;refine Spec.of_code' 1000 30 [.tmp 4] Tryz.func89 rfl rfl rfl rfl fun X=>?_;simp only [sets,cuO_K];refine AW.seq_k fun K hK=>AW.region (by kernel_rfl) ?_;simp -implicitDefEqProofs only[go_sem,seval,↓reduceIte];refine hK _ ?_;clear hK K
 by_cases hi:r.i<sl.l.length
 ·have h1:decide ((r.i:Int)<sl.l.length)=true:=by rw [decide_eq_true_iff];omega
  have hg:=List.getElem?_eq_getElem hi;generalize sl.l[r.i]=t at hg;rw [txtP_some hg,decide_eq_true hi,Bool.true_and];refine AW.seq_k fun K hK=>AW.regionT ⟨fun _ => .top,fun _ => .pure⟩ (by kernel_rfl) hG (by kernel_rfl) (by kernel_rfl) ?_;simp -implicitDefEqProofs only[go_sem,seval,↓reduceIte,h1,hg,encTk_K];refine hK _ ?_;clear hK K;refine AW.ret ?_;simp -implicitDefEqProofs only[go_sem,seval,↓reduceIte];refine endK_some ?_;exact ⟨rfl,by simp -implicitDefEqProofs only[go_sem,seval,↓reduceIte]⟩
 ·have h1:decide ((r.i:Int)<sl.l.length)=false:=by rw [decide_eq_false_iff_not];omega
  rw [decide_eq_false hi,Bool.false_and];refine AW.seq_k fun K hK=>AW.regionT ⟨fun _ => .top,fun _ => .pure⟩ (by kernel_rfl) hG (by kernel_rfl) (by kernel_rfl) ?_;simp -implicitDefEqProofs only[go_sem,seval,↓reduceIte,h1];refine hK _ ?_;clear hK K;refine AW.ret ?_;simp -implicitDefEqProofs only[go_sem,seval,↓reduceIte];refine endK_some ?_;exact ⟨rfl,by simp -implicitDefEqProofs only[go_sem,seval,↓reduceIte]⟩
theorem cLeft_spec (G:Nat→V) (hG:GOk G) (sl:Sl Tk) (g:Nat) (r:CU) (hi:r.i≤sl.l.length):CuS G 227 [] sl g r (encSl .any 3 encTk (sl.sub r.i sl.l.length)) r:=by
 intro st hst;refine Spec.of_code' 1000 12 [.tmp 2] Tryz.func227 rfl rfl rfl rfl fun X=>?_;simp only [sets,cuO_K];refine AW.seq_k fun K hK=>AW.region (by kernel_rfl) ?_;simp -implicitDefEqProofs only[go_sem,seval,↓reduceIte];refine hK _ ?_;clear hK K;have hll:sl.l.length≤sl.l.length:=Nat.le_refl _;refine AW.seq_k fun K hK=>AW.regionT ⟨fun _ => .top,fun _ => .pure⟩ (by kernel_rfl) hG (by kernel_rfl) (by kernel_rfl) ?_;simp -implicitDefEqProofs only[go_sem,seval,↓reduceIte,hi,hll,and_self];refine hK _ ?_;clear hK K;refine AW.ret ?_;simp -implicitDefEqProofs only[go_sem,seval,↓reduceIte];refine endK_some ?_;exact ⟨rfl,by simp -implicitDefEqProofs only[go_sem,seval,↓reduceIte]⟩
theorem cName_spec (G:Nat→V) (hG:GOk G) (sl:Sl Tk) (hsl:sl.l.length<1000000) (g:Nat) (r:CU) (hi:r.i≤sl.l.length):CuS G 153 [] sl g r (.tuple [.str (if nameP sl.l r.i=true then txtP sl.l r.i else []),.bool (nameP sl.l r.i)])
  (if nameP sl.l r.i=true then ⟨r.i+1,r.e⟩ else ⟨r.i,110⟩):=by
 intro st hst;refine Spec.of_code' 1000 50 [.tmp 2,.tmp 3] Tryz.func153 rfl rfl rfl rfl fun X=>?_;simp only [sets,cuO_K];refine AW.seq_k fun K hK=>AW.region (by kernel_rfl) ?_;simp -implicitDefEqProofs only[go_sem,seval,↓reduceIte];refine hK _ ?_;clear hK K;refine AW.seq_k fun K1 hK1=>?_
 by_cases hil:r.i=sl.l.length
 ·have h1:((r.i:Int)==sl.l.length)=true:=by rw [beq_iff_eq];omega
  refine AW.seq_k fun K hK=>AW.regionT ⟨fun _ => .top,fun _ => .pure⟩ (by kernel_rfl) hG (by kernel_rfl) (by kernel_rfl) ?_;simp -implicitDefEqProofs only[go_sem,seval,↓reduceIte,h1];refine hK _ ?_;clear hK K;refine AW.condS (by simp -implicitDefEqProofs only[go_sem,seval,↓reduceIte];rfl) (fun h27=>?_) (fun h27=>?_);rotate_left
  ·cases h27
  refine AW.seq_k fun K hK=>AW.region (by kernel_rfl) ?_;simp -implicitDefEqProofs only[go_sem,seval,↓reduceIte];refine hK _ ?_;clear hK K;refine AW.seq_k fun K hK=>AW.region (by kernel_rfl) ?_;simp -implicitDefEqProofs only[go_sem,seval,↓reduceIte];refine hK _ ?_;clear hK K;refine AW.ret ?_;simp -implicitDefEqProofs only[go_sem,seval,↓reduceIte];refine endK_some ?_;rw [nameP_none (by omega)];exact ⟨rfl,by simp -implicitDefEqProofs only[go_sem,seval,↓reduceIte];try rfl⟩
 have h1:((r.i:Int)==sl.l.length)=false:=by rw [beq_eq_false_iff_ne];omega
 have hilt:r.i<sl.l.length:=by omega
 have hg:=List.getElem?_eq_getElem hilt;generalize sl.l[r.i]=t at hg
 cases hk:(t.kind==2) with
 | false =>
  refine AW.seq_k fun K hK=>AW.regionT ⟨fun _ => .top,fun _ => .pure⟩ (by kernel_rfl) hG (by kernel_rfl) (by kernel_rfl) ?_;simp -implicitDefEqProofs only[go_sem,seval,↓reduceIte,h1,hg,encTk_K,bne,hk];refine hK _ ?_;clear hK K;refine AW.condS (by simp -implicitDefEqProofs only[go_sem,seval,↓reduceIte];rfl) (fun h27=>?_) (fun h27=>?_);rotate_left
  ·cases h27
  refine AW.seq_k fun K hK=>AW.region (by kernel_rfl) ?_;simp -implicitDefEqProofs only[go_sem,seval,↓reduceIte];refine hK _ ?_;clear hK K;refine AW.seq_k fun K hK=>AW.region (by kernel_rfl) ?_;simp -implicitDefEqProofs only[go_sem,seval,↓reduceIte];refine hK _ ?_;clear hK K;refine AW.ret ?_;simp -implicitDefEqProofs only[go_sem,seval,↓reduceIte];refine endK_some ?_;rw [nameP_some hg,hk];exact ⟨rfl,by simp -implicitDefEqProofs only[go_sem,seval,↓reduceIte];try rfl⟩
 | true =>
  refine AW.seq_k fun K hK=>AW.regionT ⟨fun _ => .top,fun _ => .pure⟩ (by kernel_rfl) hG (by kernel_rfl) (by kernel_rfl) ?_;simp -implicitDefEqProofs only[go_sem,seval,↓reduceIte,h1,hg,encTk_K,bne,hk];refine hK _ ?_;clear hK K;refine AW.condS (by simp -implicitDefEqProofs only[go_sem,seval,↓reduceIte];rfl) (fun h27=>?_) (fun h27=>?_)
  ·cases h27
  refine AW.skip ?_;simp -implicitDefEqProofs only[go_sem,seval,↓reduceIte];refine hK1 _ ?_
  have hw:IntKind.i64.wrap ((r.i:Int)+1)=((r.i+1:Nat):Int):=by rw [w64 (by omega) (by omega)];omega
  have hw2:IntKind.i64.wrap (((r.i+1:Nat):Int)-1)=(r.i:Int):=by rw [w64 (by omega) (by omega)];omega
  refine AW.seq_k fun K hK=>AW.region (by kernel_rfl) ?_;simp -implicitDefEqProofs only[go_sem,seval,↓reduceIte,hw];refine hK _ ?_;clear hK K;refine AW.seq_k fun K hK=>AW.regionT ⟨fun _ => .top,fun _ => .pure⟩ (by kernel_rfl) hG (by kernel_rfl) (by kernel_rfl) ?_;simp -implicitDefEqProofs only[go_sem,seval,↓reduceIte,hw2,hg,encTk_K];refine hK _ ?_;clear hK K;refine AW.ret ?_;simp -implicitDefEqProofs only[go_sem,seval,↓reduceIte];refine endK_some ?_;rw [nameP_some hg,hk,txtP_some hg];exact ⟨rfl,by simp -implicitDefEqProofs only[go_sem,seval,↓reduceIte];try rfl⟩
theorem cTake_spec (G:Nat→V) (hG:GOk G) (sl:Sl Tk) (hsl:sl.l.length<1000000) (g:Nat) (r:CU) (hi:r.i≤sl.l.length) (c:Col) (ws:List (List UInt8)) (hws:ws.length<1000) (hwn:∀ w∈ws,w≠[]) (b:Bool) :
  CuS G 154 [encSl c 1 V.str (.mk b ws)] sl g r (.bool (takeP sl.l ws r.i).1) ⟨(takeP sl.l ws r.i).2,if (takeP sl.l ws r.i).1=true then r.e else 110⟩:=by
 intro st hst;refine Spec.of_code' 1000 28 [.tmp 4] Tryz.func154 rfl rfl rfl rfl fun X=>?_;generalize hP:takeP sl.l ws r.i=res;simp only [sets,cuO_K];have hwl:(Sl.mk b ws).l=ws:=rfl;refine AW.seq_k fun K hK=>AW.region (by kernel_rfl) ?_;simp -implicitDefEqProofs only[go_sem,seval,↓reduceIte];refine hK _ ?_;clear hK K;refine AW.seq_k fun K1 hK1=>?_;refine AW.seq_k fun K hK=>AW.region (by kernel_rfl) ?_;simp -implicitDefEqProofs only[go_sem,seval,↓reduceIte,hwl];refine hK _ ?_;clear hK K;refine AW.block ?_
 refine AW.for ws.length (fun m (_:Unit)=>Go.Hs.st [(0,.ptr 21 g 0),(7,encSl c 1 V.str (.mk b ws)),(8,.int .i64 ws.length),(9,.int .i64 m)] [(21,cuO sl g st ⟨r.i+m,r.e⟩)])
  (fun m _=>res=takeP sl.l (ws.drop m) (r.i+m)∧r.i+m≤sl.l.length) 0 () (Nat.zero_le _) ⟨hP.symm,hi⟩ (Weak.st (by simp -implicitDefEqProofs only[go_sem,seval,↓reduceIte];try rfl) (by simp -implicitDefEqProofs only[go_sem,seval,↓reduceIte];try rfl)) ?_
 rintro m _ hm ⟨hR,hmi⟩ L2 hL2;refine AW.seq_k fun K hK=>AW.region (by kernel_rfl) ?_;simp -implicitDefEqProofs only[go_sem,seval,↓reduceIte];refine hK _ ?_;clear hK K;refine AW.seq_k fun K3 hK3=>?_;refine AW.condS (by simp -implicitDefEqProofs only[go_sem,seval,↓reduceIte];rfl) (fun h10=>?_) (fun h10=>?_);rotate_left
 ·have hm2:m=ws.length:=by have h10:decide ((m:Int)<ws.length)=false:=h10;simp at h10;omega
  rw [List.drop_eq_nil_of_le (by omega)] at hR;refine AW.exit ?_;simp -implicitDefEqProofs only[go_sem,seval,↓reduceIte];refine hK1 _ ?_;refine AW.seq_k fun K hK=>AW.region (by kernel_rfl) ?_;simp -implicitDefEqProofs only[go_sem,seval,↓reduceIte];refine hK _ ?_;clear hK K;refine AW.ret ?_;simp -implicitDefEqProofs only[go_sem,seval,↓reduceIte];refine endK_some ?_;rw [hR];exact ⟨rfl,by simp -implicitDefEqProofs only[go_sem,seval,↓reduceIte];try rfl⟩
 have hm1:m<ws.length:=by have h10:decide ((m:Int)<ws.length)=true:=h10;simp at h10;omega
 have hgm:ws[m]? = some ws[m]:=List.getElem?_eq_getElem hm1;have hdr:ws.drop m=ws[m]::ws.drop (m+1):=List.drop_eq_getElem_cons hm1;have hwm:=hwn _ (List.getElem_mem hm1);generalize ws[m]=w2 at hgm hdr hwm;rw [hdr,takeP] at hR;refine AW.skip ?_;simp -implicitDefEqProofs only[go_sem,seval,↓reduceIte];refine hK3 _ ?_;refine AW.seq_k fun K4 hK4=>?_;refine AW.block ?_;refine AW.seq_k fun K hK=>AW.region (by kernel_rfl) ?_;simp -implicitDefEqProofs only[go_sem,seval,↓reduceIte,hwl,hgm];refine hK _ ?_;clear hK K;refine AW.seq_k fun K5 hK5=>?_;refine AW.seq_k fun K hK=>AW.region (by kernel_rfl) ?_;simp -implicitDefEqProofs only[go_sem,seval,↓reduceIte];refine CuS.call hG (cComes_spec G hG sl g ⟨r.i+m,r.e⟩ w2) hst (by kernel_rfl) (by first | rfl | (simp -implicitDefEqProofs only[go_sem,seval,↓reduceIte,List.map_cons,List.map_nil];try rfl)) rfl (by first | rfl | (simp -implicitDefEqProofs only[go_sem,seval,↓reduceIte];try rfl)) ?_;simp -implicitDefEqProofs only[go_sem,seval,↓reduceIte,sets];refine hK _ ?_;clear hK K
 have hcond:(decide (r.i+m<sl.l.length) && txtP sl.l (r.i+m)==w2)=(txtP sl.l (r.i+m)==w2):=by
  by_cases h:r.i+m<sl.l.length
  ·rw [decide_eq_true h,Bool.true_and]
  ·rw [decide_eq_false h,Bool.false_and,txtP_none (by omega)]
   symm
   rw [beq_eq_false_iff_ne];exact fun h=>hwm h.symm
 rw [hcond]
 by_cases hw4:txtP sl.l (r.i+m)=w2
 rotate_left
 ·rw [if_neg hw4] at hR
  have q2:(txtP sl.l (r.i+m)==w2)=false:=by simpa using hw4
  rw [q2];refine AW.condS (by simp -implicitDefEqProofs only[go_sem,seval,↓reduceIte];rfl) (fun h16=>?_) (fun h16=>?_);rotate_left
  ·cases h16
  refine AW.seq_k fun K hK=>AW.region (by kernel_rfl) ?_;simp -implicitDefEqProofs only[go_sem,seval,↓reduceIte,cuO_K];refine hK _ ?_;clear hK K;refine AW.seq_k fun K hK=>AW.region (by kernel_rfl) ?_;simp -implicitDefEqProofs only[go_sem,seval,↓reduceIte];refine hK _ ?_;clear hK K;refine AW.ret ?_;simp -implicitDefEqProofs only[go_sem,seval,↓reduceIte];refine endK_some ?_;rw [hR];exact ⟨rfl,by simp -implicitDefEqProofs only[go_sem,seval,↓reduceIte];try rfl⟩
 have hlt:r.i+m<sl.l.length:=txtP_lt (by rw [hw4];exact hwm);rw [if_pos hw4] at hR
 have q2:(txtP sl.l (r.i+m)==w2)=true:=by simpa using hw4
 rw [q2];refine AW.condS (by simp -implicitDefEqProofs only[go_sem,seval,↓reduceIte];rfl) (fun h16=>?_) (fun h16=>?_)
 ·cases h16
 refine AW.skip ?_;simp -implicitDefEqProofs only[go_sem,seval,↓reduceIte];refine hK5 _ ?_
 have hw5:IntKind.i64.wrap (((r.i+m:Nat):Int)+1)=((r.i+(m+1):Nat):Int):=by rw [w64 (by omega) (by omega)];omega
 have hw6:IntKind.i64.wrap ((m:Int)+1)=((m+1:Nat):Int):=by rw [w64 (by omega) (by omega)];omega
 refine AW.region (by kernel_rfl) ?_;simp -implicitDefEqProofs only[go_sem,seval,↓reduceIte,cuO_K,hw5];refine hK4 _ ?_;refine AW.region (by kernel_rfl) ?_;simp -implicitDefEqProofs only[go_sem,seval,↓reduceIte,hw6];exact hL2 _ ⟨hm1,(),⟨hR,by omega⟩,Weak.st (by simp -implicitDefEqProofs only[go_sem,seval,↓reduceIte];try rfl) (by simp -implicitDefEqProofs only[go_sem,seval,↓reduceIte];try rfl)⟩
theorem cExpr_spec (G:Nat→V) (hE:GExp G) (sl:Sl Tk) (hT:TkOk sl.l) (g:Nat) (r:CU) (hi:r.i≤sl.l.length) :
  CuS G 155 [] sl g r (.tuple [.agg [encXs .new (fromP (sl.l.drop r.i)).1],.bool ((fromP (sl.l.drop r.i)).2.2==0)]) ⟨r.i+(fromP (sl.l.drop r.i)).2.1.toNat,(fromP (sl.l.drop r.i)).2.2⟩:=by
 have hG:=hE.ok;intro st hst;refine Spec.of_code' 1000 29 [.cell 2 53,.tmp 3] Tryz.func155 rfl rfl rfl rfl fun X=>?_;have hTl:=hT.len
 have hsub:(sl.sub r.i sl.l.length).l=sl.l.drop r.i:=by rw [Sl.sub_l];exact List.take_of_length_le (by rw [List.length_drop];omega)
 have hfr:=fun c=>xFrom_spec G hE c (sl.sub r.i sl.l.length) (by rw [hsub];exact ⟨by rw [List.length_drop];omega,fun t ht=>hT.text t (List.mem_of_mem_drop ht)⟩);have hbd:=fromP_bnd (l:=sl.l.drop r.i);rw [hsub] at hfr;rw [List.length_drop] at hbd;generalize fromP (sl.l.drop r.i)=p at hfr hbd;obtain ⟨xs,n,e⟩:=p;simp only at hbd
 have hw3:IntKind.i64.wrap ((r.i:Int)+n)=((r.i+n.toNat:Nat):Int):=by rw [w64 (by omega) (by omega)];omega
 simp only [sets,cuO_K];refine AW.seq_k fun K hK=>AW.region (by kernel_rfl) ?_;simp -implicitDefEqProofs only[go_sem,seval,↓reduceIte];intro g2;refine hK _ ?_;clear hK K;refine AW.seq_k fun K hK=>AW.region (by kernel_rfl) ?_;simp -implicitDefEqProofs only[go_sem,seval,↓reduceIte];refine CuS.call hG (cLeft_spec G hG sl g r hi) hst (by kernel_rfl) rfl rfl (by first | rfl | (simp -implicitDefEqProofs only[go_sem,seval,↓reduceIte];try rfl)) ?_;simp -implicitDefEqProofs only[go_sem,seval,↓reduceIte,sets,recol_tks];refine CallA.pure hG (by kernel_rfl) ?_;simp -implicitDefEqProofs only[go_sem,seval,↓reduceIte,recol_tks];refine (hfr _).mono ?_;rintro _ _ rfl;simp -implicitDefEqProofs only[go_sem,seval,↓reduceIte,encFr,encXs,recol_xns];intro g4;refine hK _ ?_;clear hK K;refine AW.seq_k fun K hK=>AW.region (by kernel_rfl) ?_;simp -implicitDefEqProofs only[go_sem,seval,↓reduceIte,cuO_K,hw3];refine hK _ ?_;clear hK K;refine AW.seq_k fun K hK=>AW.region (by kernel_rfl) ?_;simp -implicitDefEqProofs only[go_sem,seval,↓reduceIte];refine hK _ ?_;clear hK K;refine AW.seq_k fun K hK=>AW.region (by kernel_rfl) ?_;simp -implicitDefEqProofs only[go_sem,seval,↓reduceIte];refine hK _ ?_;clear hK K;refine AW.ret ?_;simp -implicitDefEqProofs only[go_sem,seval,↓reduceIte];refine endK_some ?_;exact ⟨rfl,by simp -implicitDefEqProofs only[go_sem,seval,↓reduceIte];try rfl⟩
end Go.Hs
end
