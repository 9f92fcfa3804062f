/- Part 46 of the proof of a statement of seat YtnjcehngoajnnaaGreatDoor: HsGTypK2 HsGTypKinds HsGTypOf HsEvPl HsGEvG HsGEvH HsGEvTy HsGEvI HsGEvJ HsGEvL HsGEvKn HsGExpLaid HsGExpLaidG HsGExpArgs HsGSeatF HsGExpArgs2 HsGEvArgs. -/
import Derived.Test.YtnjcehngoajnnaaGreatDoorPart44
import Derived.Test.YtnjcehngoajnnaaGreatDoorPart45
import Derived.Test.YtnjcehngoajnnaaGreatDoorPart43
import Derived.Test.YtnjcehngoajnnaaGreatDoorRows
import Derived.ProofKit
import Derived.OpenShut
import Derived.LaidLaws
import Derived.Stop.LaidErr
import Derived.Lib.LaidTab
import Derived.Handed
import Derived.ChangeMaps5
import Derived.Test.YtnjcehngoajnnaaGreatDoorCards
set_option linter.unusedSimpArgs false
set_option linter.unusedVariables false
section
namespace Go.Hs
open Go.Proofs
set_option maxRecDepth 10000
def eq3 (a b c a' b' c':Int):Bool:=decide (a=a'∧b=b'∧c=c')
theorem Zj2 (a b c a' b' c':Int):Ziv [.int .u8 a,.int .u8 b,.int .u8 c] [.int .u8 a',.int .u8 b',.int .u8 c']=some (eq3 a b c a' b' c'):=by
 unfold eq3;simp only [Ziv,eqC,if_true]
 by_cases h1:a=a'
 ·by_cases h2:b=b'
  ·by_cases h3:c=c'
   ·simp [h1,h2,h3]
   ·have:(c==c')=false:=by simpa using h3
    simp [h1,h2,h3,this]
  ·have:(b==b')=false:=by simpa using h2
   simp [h1,this,h2]
 ·have:(a==a')=false:=by simpa using h1
  simp [this,h1]
def knC (v:V):List V:=ruleC++[v]
theorem Zvm (v:V):(knC v).length=93:=by rw [knC,List.length_append]<;>rfl
theorem Z21 (v:V):(knC v)[92]? = some v:=by
 rw [knC,List.getElem?_append_right (by decide)]<;>rfl
theorem Z6l:ruleC.length=92:=rfl
theorem Z94 (v:V):(knC v).take 92=ruleC:=by rw [knC,List.take_append_of_le_length (Nat.le_refl 92)]<;>rfl
theorem Zvu (f:Col→Col):ruleC.map (V.recol f)=ruleC:=rfl
theorem Z11 (f:Col→Col) (v:V):(knC v).map (V.recol f)=knC (v.recol f):=by
 rw [knC,List.map_append,Zvu]<;>rfl
theorem Zxx (G:Nat→V) (hG:GOk G) (c1 c2:Col) (names:Sl (List UInt8)) (hnl:names.l.length<1000000) (n:XN) (ks:Sl Int) (hn:PlOk ks.l.length n) (hkl:ks.l.length<1000000) (hks:∀ y∈ks.l,y=1∨y=2) :
  Spec Tryz.prog G 80 [.agg (knC (Zb c1 1 V.str names)),Zw n,Zb c2 1 (V.int .u8) ks] Zu (fun v _=>v = .int .u8 (Zlj names.l n ks.l)):=by
 refine Zo 0 71 [.tmp 6] Tryz.func80 fun X=>?_;have hP:Zlj names.l n ks.l=kd n.op (names.l.contains n.name) (plc ks.l n.a) (plc ks.l n.b) (plc ks.l n.c):=rfl;generalize Zlj names.l n ks.l=res at hP ⊢;simp only [Zj];refine Zi fun K hK=>AW.region (by kernel_rfl) ?_;refine Zsf @Zvm ?_;intro g3 g4 g5;refine hK _ ?_
 try clear hK K
 refine Zyb (fun (_:Unit)=>st [(3,.ptr 3 g3 0),(4,.ptr 4 g4 0),(5,.ptr 5 g5 0)] [(3,.cells .new g3 0 (knC (Zb c1 1 V.str names))),(4,.cells .new g4 0 [.int .u8 n.op,.int .i64 n.num,.str n.name,.int .i64 n.a,.int .i64 n.b,.int .i64 n.c]),(5,.cells .new g5 0 [Zb c2 1 (V.int .u8) ks])])
  (fun _=>n.op=2→names.l.contains n.name=true) (fun K1 hK1=>?_) ?_
 ·by_cases ho:n.op=2
  ·have e1:(n.op==2)=true:=by simpa using ho
   refine Zi fun K hK=>AW.region (by kernel_rfl) ?_;refine Zsf (zi e1 @Z21) ?_;refine Zc hG ?_ (s:=(Z4n G hG _ n.name names hnl));refine hK _ ?_
   try clear hK K
   cases hc:names.l.contains n.name with
   | true =>
    refine Z0 ?_;exact hK1 _ () (fun _=>hc) (Zg zp zp)
   | false =>
    refine Zd rfl (fun h21=>?_) (fun h21=>?_)
    ·refine Zi fun K hK=>AW.region (by kernel_rfl) ?_
     refine Zs ?_;refine hK _ ?_
     try clear hK K
     refine Z ?_
     rw [hP,hc,ho]<;>rfl
    ·cases h21
  ·have e1:(n.op==2)=false:=by simpa using ho
   refine Zi fun K hK=>AW.region (by kernel_rfl) ?_;refine Zsf e1 ?_;refine hK _ ?_
   try clear hK K
   refine Z0 ?_;exact hK1 _ () (fun h=>absurd h ho) (Zg zp zp)
 rintro _ hnm;refine Zi fun K hK=>AW.region (by kernel_rfl) ?_;refine Zs ?_;refine hK _ ?_
 try clear hK K
 refine AW.weak (Z7 (fun o=>o==3 || o==4 || o==5) (l:=[(3,.view .new (.agg (knC (Zb c1 1 V.str names)))),(4,.view .new (.agg [.int .u8 n.op,.int .i64 n.num,.str n.name,.int .i64 n.a,.int .i64 n.b,.int .i64 n.c])),(7,.func (.func 119) [] [.view .new (Zb c2 1 (V.int .u8) ks)])]) (m:=[]) ?_ trivial) ?_
 ·refine Zs ?_
  refine ⟨?_,?_,?_⟩
  ·exact Fz.ptr (v := .agg (knC (Zb c1 1 V.str names))) (c := .new) (fz:=0) rfl zp
  ·exact Fz.ptr (v := .agg [.int .u8 n.op,.int .i64 n.num,.str n.name,.int .i64 n.a,.int .i64 n.b,.int .i64 n.c]) (c := .new) (fz:=0) rfl zp
  ·exact Fz.func ⟨Fz.ptr (v:=Zb c2 1 (V.int .u8) ks) (c := .new) (fz:=0) rfl zp,trivial⟩
 have pc:∀ i:Int,(i<0∨0≤i∧i<ks.l.length)→Zng Tryz.prog G 119 [.int .i64 i,.view .new (Zb c2 1 (V.int .u8) ks)] (.int .u8 (plc ks.l i)):=fun i h=>⟨by kernel_rfl,by
  refine Zs ?_;refine (Z43 G hG _ ks hkl i h).mono ?_;rintro _ _ rfl
  rfl⟩
 obtain ⟨hw,ha1,hb1,hc1,ha0,hb0,hc0⟩:=hn
 have hra:n.a<0∨0≤n.a∧n.a<ks.l.length:=by
  by_cases h:0<Zt n.op
  ·exact .inr (ha1 h)
  ·exact .inl (by rw [ha0 h];decide)
 have hrb:n.b<0∨0≤n.b∧n.b<ks.l.length:=by
  by_cases h:1<Zt n.op
  ·exact .inr (hb1 h)
  ·exact .inl (by rw [hb0 h];decide)
 have hrc:n.c<0∨0≤n.c∧n.c<ks.l.length:=by
  by_cases h:2<Zt n.op
  ·exact .inr (hc1 h)
  ·exact .inl (by rw [hc0 h];decide)
 have hor:=Zxd hw;obtain ⟨op,hop⟩:∃ op:Nat,n.op=op:=⟨n.op.toNat,by omega⟩
 have hop1:op<23:=by omega
 have hop2:n.op<23:=by omega
 have hop0:0≤n.op:=by omega
 have hopn:n.op.toNat=op:=by omega
 have hru:=Z10 op hop1
 have hrl:op * 4+4≤92:=by omega
 refine Zi fun K hK=>Zx ⟨fun i=>if i=8 then .int .u8 (plc ks.l n.a) else if i=12 then .int .u8 (plc ks.l n.b) else if i=16 then .int .u8 (plc ks.l n.c) else .top,fun i=>if i=1 then .lend else if i=4 then .lend else if i=7 then .lend else if i=11 then .lend else if i=15 then .lend else .pure⟩ (by kernel_rfl) hG (by kernel_rfl) (by kernel_rfl) ?_;simp -implicitDefEqProofs only[go_sem,seval,↓reduceIte,Z94,Zvm,show (92:Nat)≤93 from by decide,Z6l,hru,hop2,hop0,hopn,hrl];refine ⟨pc _ hra,pc _ hrb,pc _ hrc,?_⟩;intro g8 g9;refine hK _ ?_
 try clear hK K
 have hpl:∀ i:Int,(0≤i∧i<ks.l.length)→plc ks.l i=1∨plc ks.l i=2:=by
  intro i hi;unfold plc;rw [if_neg (by omega)];obtain ⟨m,rfl⟩:∃ m:Nat,i=m:=⟨i.toNat,by omega⟩;rw [Int.toNat_natCast,List.getD_eq_getElem?_getD,List.getElem?_eq_getElem (by omega)];exact hks _ (List.getElem_mem _)
 have hva:0<Zt n.op→plc ks.l n.a=1∨plc ks.l n.a=2:=fun h=>hpl _ (ha1 h);have hvb:1<Zt n.op→plc ks.l n.b=1∨plc ks.l n.b=2:=fun h=>hpl _ (hb1 h);have hvc:2<Zt n.op→plc ks.l n.c=1∨plc ks.l n.c=2:=fun h=>hpl _ (hc1 h)
 have hza:¬ 0<Zt n.op→plc ks.l n.a=0:=fun h=>by rw [ha0 h]<;>rfl
 have hzb:¬ 1<Zt n.op→plc ks.l n.b=0:=fun h=>by rw [hb0 h]<;>rfl
 have hzc:¬ 2<Zt n.op→plc ks.l n.c=0:=fun h=>by rw [hc0 h]<;>rfl
 generalize plc ks.l n.a=a at hP hva hza ⊢;generalize plc ks.l n.b=b at hP hvb hzb ⊢;generalize plc ks.l n.c=c at hP hvc hzc ⊢;refine Zi fun K hK=>AW.region (by kernel_rfl) ?_;refine Zs ?_;refine hK _ ?_
 try clear hK K
 by_cases q16:op=16∨op=17
 ·have eA:Zwu op=3:=by rcases q16 with rfl | rfl<;>rfl
  have eB:Z20 op=3:=by rcases q16 with rfl | rfl<;>rfl
  have eD:Zuu op=0:=by rcases q16 with rfl | rfl<;>rfl
  have eI:Za4 op=2:=by rcases q16 with rfl | rfl<;>rfl
  rw [eA,eB,eD,eI]
  have hpo:Zt n.op=2:=by rw [hop];rcases q16 with rfl | rfl<;>rfl
  rw [hpo] at hva hvb hzc
  replace hva:=hva (by decide)
  replace hvb:=hvb (by decide)
  replace hzc:=hzc (by decide)
  refine Zv ?_;refine Zi fun K hK=>AW.region (by kernel_rfl) ?_;refine Zs ?_;refine hK _ ?_
  try clear hK K
  refine Z1 ?_;refine Zv ?_;refine Zi fun K hK=>AW.region (by kernel_rfl) ?_;refine Zs ?_;refine hK _ ?_
  try clear hK K
  refine Z0 ?_;refine Zv ?_;refine Zi fun K=>?_;intro hK;refine Z6e 3 (by kernel_rfl) rfl rfl ?_;simp -implicitDefEqProofs only[go_sem,seval,↓reduceIte,List.take_succ_cons,List.take_zero];refine ⟨_,Zxi (.inr rfl) (by kernel_rfl) (by kernel_rfl) (by kernel_rfl) zp zp (by kernel_rfl) (Zj2 _ _ _ _ _ _),?_⟩;simp -implicitDefEqProofs only[go_sem,seval,↓reduceIte,List.drop_succ_cons,List.drop_zero];refine hK _ ?_
  try clear hK K
  have hP2:res=if eq3 a b c b b 0=true then 2 else 0:=by
   rw [hP,hop,hzc]
   rcases q16 with rfl | rfl<;>rcases hva with rfl | rfl<;>rcases hvb with rfl | rfl<;>rfl
  generalize eq3 a b c b b 0=z at hP2 ⊢
  cases z with
  | true =>
   refine Z0 ?_;refine Zi fun K hK=>AW.region (by kernel_rfl) ?_;refine Zs ?_;refine hK _ ?_
   try clear hK K
   refine Z ?_
   rw [hP2]<;>rfl
  | false =>
   refine Zd rfl (fun h68=>?_) (fun h68=>?_)
   ·refine Zi fun K hK=>AW.region (by kernel_rfl) ?_
    refine Zs ?_;refine hK _ ?_
    try clear hK K
    refine Z ?_
    rw [hP2]<;>rfl
   ·cases h68
 by_cases q22:op=22
 ·subst q22
  have eA:Zwu 22=2:=rfl;have eB:Z20 22=3:=rfl;have eD:Zuu 22=3:=rfl;have eI:Za4 22=3:=rfl;rw [eA,eB,eD,eI]
  have hpo:Zt n.op=3:=by rw [hop]<;>rfl
  rw [hpo] at hva hvb hvc
  replace hva:=hva (by decide)
  replace hvb:=hvb (by decide)
  replace hvc:=hvc (by decide)
  refine Zv ?_;refine Zi fun K hK=>AW.region (by kernel_rfl) ?_;refine Zs ?_;refine hK _ ?_
  try clear hK K
  refine Z0 ?_;refine Zv ?_;refine Zi fun K hK=>AW.region (by kernel_rfl) ?_;refine Zs ?_;refine hK _ ?_
  try clear hK K
  refine Z1 ?_;refine Zv ?_;refine Zi fun K=>?_;intro hK;refine Z6e 3 (by kernel_rfl) rfl rfl ?_;simp -implicitDefEqProofs only[go_sem,seval,↓reduceIte,List.take_succ_cons,List.take_zero];refine ⟨_,Zxi (.inr rfl) (by kernel_rfl) (by kernel_rfl) (by kernel_rfl) zp zp (by kernel_rfl) (Zj2 _ _ _ _ _ _),?_⟩;simp -implicitDefEqProofs only[go_sem,seval,↓reduceIte,List.drop_succ_cons,List.drop_zero];refine hK _ ?_
  try clear hK K
  have hP2:res=if eq3 a b c 2 b b=true then b else 0:=by
   rw [hP,hop]
   rcases hva with rfl | rfl<;>rcases hvb with rfl | rfl<;>rcases hvc with rfl | rfl<;>rfl
  generalize eq3 a b c 2 b b=z at hP2 ⊢
  cases z with
  | true =>
   refine Z0 ?_;refine Zi fun K hK=>AW.region (by kernel_rfl) ?_;refine Zs ?_;refine hK _ ?_
   try clear hK K
   refine Z ?_
   rw [hP2]<;>rfl
  | false =>
   refine Zd rfl (fun h68=>?_) (fun h68=>?_)
   ·refine Zi fun K hK=>AW.region (by kernel_rfl) ?_
    refine Zs ?_;refine hK _ ?_
    try clear hK K
    refine Z ?_
    rw [hP2]<;>rfl
   ·cases h68
 have nA:(Zwu op==3)=false:=by unfold Zwu;rw [if_neg q16];split;rfl;split;rfl;rfl
 have nD:(Zuu op==3)=false:=by unfold Zuu;rw [if_neg q22]<;>rfl
 refine Zv ?_;refine Zi fun K hK=>AW.region (by kernel_rfl) ?_;refine Zsf nA ?_;refine hK _ ?_
 try clear hK K
 refine Z0 ?_;refine Zv ?_;refine Zi fun K hK=>AW.region (by kernel_rfl) ?_;refine Zsf nD ?_;refine hK _ ?_
 try clear hK K
 refine Z0 ?_;refine Zv ?_;refine Zi fun K=>?_;intro hK;refine Z6e 3 (by kernel_rfl) rfl rfl ?_;simp -implicitDefEqProofs only[go_sem,seval,↓reduceIte,List.take_succ_cons,List.take_zero];refine ⟨_,Zxi (.inr rfl) (by kernel_rfl) (by kernel_rfl) (by kernel_rfl) zp zp (by kernel_rfl) (Zj2 _ _ _ _ _ _),?_⟩;simp -implicitDefEqProofs only[go_sem,seval,↓reduceIte,List.drop_succ_cons,List.drop_zero];refine hK _ ?_
 try clear hK K
 have hP2:res=if eq3 a b c (Zwu op) (Z20 op) (Zuu op)=true then Za4 op else 0:=by
  have hcs:op=1∨op=2∨op=3∨op=4∨op=5∨op=6∨op=7∨op=8∨op=9∨op=10∨op=11∨op=12∨op=13∨op=14∨op=15∨op=18∨op=19∨op=20∨op=21:=by omega
  rcases hcs with rfl | rfl | rfl | rfl | rfl | rfl | rfl | rfl | rfl | rfl | rfl | rfl | rfl | rfl | rfl | rfl | rfl | rfl | rfl
  ·have hpo:Zt n.op=0:=by rw [hop]<;>rfl
   rw [hpo] at hva hvb hza hzb hzc;rw [hP,hop,hza (by decide),hzb (by decide),hzc (by decide)]
   try rfl
  ·have hpo:Zt n.op=0:=by rw [hop]<;>rfl
   rw [hpo] at hva hvb hza hzb hzc;rw [hP,hop,hza (by decide),hzb (by decide),hzc (by decide)];rw [hnm (by rw [hop]<;>rfl)]
   try rfl
  ·have hpo:Zt n.op=0:=by rw [hop]<;>rfl
   rw [hpo] at hva hvb hza hzb hzc;rw [hP,hop,hza (by decide),hzb (by decide),hzc (by decide)]
   try rfl
  ·have hpo:Zt n.op=0:=by rw [hop]<;>rfl
   rw [hpo] at hva hvb hza hzb hzc;rw [hP,hop,hza (by decide),hzb (by decide),hzc (by decide)]
   try rfl
  ·have hpo:Zt n.op=1:=by rw [hop]<;>rfl
   rw [hpo] at hva hvb hza hzb hzc;rw [hP,hop,hzb (by decide),hzc (by decide)]
   rcases hva (by decide) with rfl | rfl<;>rfl
  ·have hpo:Zt n.op=1:=by rw [hop]<;>rfl
   rw [hpo] at hva hvb hza hzb hzc;rw [hP,hop,hzb (by decide),hzc (by decide)]
   rcases hva (by decide) with rfl | rfl<;>rfl
  ·have hpo:Zt n.op=2:=by rw [hop]<;>rfl
   rw [hpo] at hva hvb hza hzb hzc;rw [hP,hop,hzc (by decide)]
   rcases hva (by decide) with rfl | rfl<;>rcases hvb (by decide) with rfl | rfl<;>rfl
  ·have hpo:Zt n.op=2:=by rw [hop]<;>rfl
   rw [hpo] at hva hvb hza hzb hzc;rw [hP,hop,hzc (by decide)]
   rcases hva (by decide) with rfl | rfl<;>rcases hvb (by decide) with rfl | rfl<;>rfl
  ·have hpo:Zt n.op=2:=by rw [hop]<;>rfl
   rw [hpo] at hva hvb hza hzb hzc;rw [hP,hop,hzc (by decide)]
   rcases hva (by decide) with rfl | rfl<;>rcases hvb (by decide) with rfl | rfl<;>rfl
  ·have hpo:Zt n.op=2:=by rw [hop]<;>rfl
   rw [hpo] at hva hvb hza hzb hzc;rw [hP,hop,hzc (by decide)]
   rcases hva (by decide) with rfl | rfl<;>rcases hvb (by decide) with rfl | rfl<;>rfl
  ·have hpo:Zt n.op=2:=by rw [hop]<;>rfl
   rw [hpo] at hva hvb hza hzb hzc;rw [hP,hop,hzc (by decide)]
   rcases hva (by decide) with rfl | rfl<;>rcases hvb (by decide) with rfl | rfl<;>rfl
  ·have hpo:Zt n.op=2:=by rw [hop]<;>rfl
   rw [hpo] at hva hvb hza hzb hzc;rw [hP,hop,hzc (by decide)]
   rcases hva (by decide) with rfl | rfl<;>rcases hvb (by decide) with rfl | rfl<;>rfl
  ·have hpo:Zt n.op=2:=by rw [hop]<;>rfl
   rw [hpo] at hva hvb hza hzb hzc;rw [hP,hop,hzc (by decide)]
   rcases hva (by decide) with rfl | rfl<;>rcases hvb (by decide) with rfl | rfl<;>rfl
  ·have hpo:Zt n.op=2:=by rw [hop]<;>rfl
   rw [hpo] at hva hvb hza hzb hzc;rw [hP,hop,hzc (by decide)]
   rcases hva (by decide) with rfl | rfl<;>rcases hvb (by decide) with rfl | rfl<;>rfl
  ·have hpo:Zt n.op=2:=by rw [hop]<;>rfl
   rw [hpo] at hva hvb hza hzb hzc;rw [hP,hop,hzc (by decide)]
   rcases hva (by decide) with rfl | rfl<;>rcases hvb (by decide) with rfl | rfl<;>rfl
  ·have hpo:Zt n.op=2:=by rw [hop]<;>rfl
   rw [hpo] at hva hvb hza hzb hzc;rw [hP,hop,hzc (by decide)]
   rcases hva (by decide) with rfl | rfl<;>rcases hvb (by decide) with rfl | rfl<;>rfl
  ·have hpo:Zt n.op=2:=by rw [hop]<;>rfl
   rw [hpo] at hva hvb hza hzb hzc;rw [hP,hop,hzc (by decide)]
   rcases hva (by decide) with rfl | rfl<;>rcases hvb (by decide) with rfl | rfl<;>rfl
  ·have hpo:Zt n.op=2:=by rw [hop]<;>rfl
   rw [hpo] at hva hvb hza hzb hzc;rw [hP,hop,hzc (by decide)]
   rcases hva (by decide) with rfl | rfl<;>rcases hvb (by decide) with rfl | rfl<;>rfl
  ·have hpo:Zt n.op=2:=by rw [hop]<;>rfl
   rw [hpo] at hva hvb hza hzb hzc;rw [hP,hop,hzc (by decide)]
   rcases hva (by decide) with rfl | rfl<;>rcases hvb (by decide) with rfl | rfl<;>rfl
 generalize eq3 a b c (Zwu op) (Z20 op) (Zuu op)=z at hP2 ⊢
 cases z with
 | true =>
  refine Z0 ?_;refine Zi fun K hK=>AW.region (by kernel_rfl) ?_;refine Zs ?_;refine hK _ ?_
  try clear hK K
  refine Z ?_
  rw [hP2]<;>rfl
 | false =>
  refine Zd rfl (fun h68=>?_) (fun h68=>?_)
  ·refine Zi fun K hK=>AW.region (by kernel_rfl) ?_
   refine Zs ?_;refine hK _ ?_
   try clear hK K
   refine Z ?_
   rw [hP2]<;>rfl
  ·cases h68
end Go.Hs
end

section
namespace Go.Hs
open Go.Proofs
set_option maxRecDepth 10000
def Zic (names:List (List UInt8)) (l:List XN):List Int × Int × Int:=if Zaa l≠0 then ([],0,Zaa l) else goN names l 0 []
def encKs (c:Col) (l:List Int):V:=Zb c 1 (V.int .u8) (Znb l)
def encKr (c:Col) (p:List Int × Int × Int):V := .tuple [encKs c p.1,.int .i64 p.2.1,.int .i64 p.2.2]
theorem Z41 {op:Int} {nm:Bool} {a b c:Int} (hb:b=0∨b=1∨b=2) (h:kd op nm a b c≠0):kd op nm a b c=1∨kd op nm a b c=2:=by
 have:=Zmj (op:=op) (nm:=nm) (a:=a) (c:=c) (b:=b) (by omega);omega
theorem Z90 {ks:List Int} (h:∀ y∈ks,y=1∨y=2) (i:Int):plc ks i=0∨plc ks i=1∨plc ks i=2:=by
 unfold plc
 split
 ·exact .inl rfl
 ·rw [List.getD_eq_getElem?_getD]
  cases hg:ks[i.toNat]? with
  | none=>exact .inl rfl
  | some y=>exact .inr (h y (List.mem_of_getElem? hg))
theorem Ze5 {names:List (List UInt8)} {l:List XN} {k:Nat} {n:XN} (h:l[k]? = some n) (ks:List Int):goN names (l.drop k) k ks=if Zlj names n ks=0 then ([],(k:Int),90) else goN names (l.drop (k+1)) (k+1:Nat) (ks++[Zlj names n ks]):=by
 obtain ⟨h1,h2⟩:=List.getElem?_eq_some_iff.1 h
 rw [List.drop_eq_getElem_cons h1,h2]<;>rfl
theorem Im.knC {v:V} (h:v.Im):(V.agg (knC v)).Im:=by
 refine .agg _ fun x hx=>?_
 rcases List.mem_append.1 hx with h1 | h1
 ·have:∀ l:List V,(l.all fun v=>match v with | .int _ _=>true | _=>false)=true→∀ x∈l,x.Im:=by
   intro l hl x hx;have:=List.all_eq_true.1 hl x hx
   cases x<;>first | exact .int _ _ | cases this
  exact this ruleC rfl x h1
 ·rw [List.mem_singleton.1 h1];exact h
theorem Im.xn (n:XN):(Zw n).Im:=by
 refine .agg _ fun x hx=>?_;simp only [List.mem_cons,List.not_mem_nil,or_false] at hx
 rcases hx with rfl | rfl | rfl | rfl | rfl | rfl<;>first | exact .int _ _ | exact .str _
theorem Im.strs (c:Col) (s:Sl (List UInt8)):(Zb c 1 V.str s).Im:=Zb3 (fun x y hy=>by simp [V.cells] at hy;subst hy;exact .str _) s
theorem buildKn (x:V) (hx:x.cells=[x]) (hs:x.solid=true):Zsb Tryz.prog 179 [(0,.agg ruleC),(1,x)]=some (.agg (knC x)):=by
 rw [Zob (tbl:=[(0,92),(92,1)]) (z:=List.replicate 92 (.int .u8 0)++[.nils]) (by kernel_rfl) (by kernel_rfl)]
 have e1:Hs.setAt (List.replicate 92 (.int .u8 0)++[.nils]) 0 ruleC=ruleC++[.nils]:=by
  rw [Zop _ _ _ (by decide)]<;>rfl
 have e2:Hs.setAt (ruleC++[.nils]) 92 [x]=knC x:=by
  show (ruleC++[V.nils]).set 92 x=ruleC++[x]
  rw [List.set_append_right _ _ (by decide)]<;>rfl
 have l1:(List.replicate 92 (V.int .u8 0)++[V.nils]).length=93:=rfl;have l2:(ruleC++[V.nils]).length=93:=rfl;have c1:(V.agg ruleC).cells=ruleC:=rfl;have s1:(V.agg ruleC).solid=true:=rfl;have t0:Zdl [(0,92),(92,1)] 0=some (0,92):=rfl;have t1:Zdl [(0,92),(92,1)] 1=some (92,1):=rfl;simp only [Zwb,t0,t1,c1,s1,hx,hs,l1,Z6l,e1,l2,e2,List.length_singleton,true_and,Nat.zero_add];rfl
theorem Zm2 {α : Type} (c:Col) (m:Nat) (f : α → V) (s:Sl α):(Zb c m f s).solid=true:=by cases s<;>rfl
theorem Zn2 {α : Type} (c:Col) (m:Nat) (f : α → V) (s:Sl α):(Zb c m f s).cells=[Zb c m f s]:=by cases s<;>rfl
theorem Z93 (l:List V) (v:V) (h:l.length=93):Hs.setAt l 0 (knC v)=knC v:=Z5r (by rw [h,Zvm])
theorem Zaq (x:Int):(V.int .u8 x).cells.length=1:=rfl
theorem Zmu (G:Nat→V) (hE:GExp G) (c c1:Col) (s:Sl XN) (names:Sl (List UInt8)) (hs:s.l.length<1000000) (hnm:∀ n∈s.l,n.name.length<100000) (hnl:names.l.length<1000000) :
  Spec Tryz.prog G 51 [.agg [Zb c 6 Zw s],Zb c1 1 V.str names] Zu (fun v _=>v=encKr .new (Zic names.l s.l)):=by
 have hG:=hE.ok;refine Zo 0 40 [.tmp 4,.tmp 5,.tmp 6] Tryz.func51 fun X=>?_
 have hP:Zic names.l s.l=if Zaa s.l≠0 then ([],0,Zaa s.l) else goN names.l s.l 0 []:=rfl
 generalize Zic names.l s.l=res at hP ⊢;refine Z1 ?_;intro g2;refine Z1 ?_;refine Zcf @Za hG ?_ (s:=(Zwl G hE _ s hs hnm));refine Z1 ?_
 by_cases hc:Zaa s.l=0
 rotate_left
 ·have q1:(Zaa s.l != 0)=true:=by simpa using hc
  rw [if_pos hc] at hP;refine Zd rfl (fun h14=>?_) (fun h14=>?_)
  ·refine Z ?_
   rw [hP]<;>rfl
  ·rw [q1] at h14;cases h14
 have q1:(Zaa s.l != 0)=false:=by simpa using hc
 rw [if_neg (by simpa using hc)] at hP;refine Zd rfl (fun h14=>?_) (fun h14=>?_)
 ·rw [q1] at h14;cases h14
 refine Z0 ?_
 have hdep:Zia s.l≠0:=by
  intro h;rw [Zaa,if_pos h] at hc;cases hc
 refine Z1 ?_;refine Zn hG ?_ (s:=(Zlu G hG));have hrr:(V.agg ruleC).recol Col.bk = .agg ruleC:=rfl;have hrl:(V.agg ruleC).cells=ruleC:=rfl;simp -implicitDefEqProofs only[go_sem,seval,↓reduceIte,hrr,Z6l,buildKn (Zb c1 1 V.str names) (Zn2 ..) (Zm2 ..)];intro g7;refine Zsf (zi @Zvm @Zt2) ?_;rw [Z93 _ _ ?hl]
 case hl=>rfl
 refine Z1 ?_;refine AW.block ?_
 refine Z0a s.l.length (fun k (x:Nat × List Int)=>st [(4,grown 37 x.1 1 x.2),(7,.ptr 7 g7 0),(20,Zb c 6 Zw s),(21,.int .i64 s.l.length),(22,.int .i64 k)] [(7,.cells .new g7 0 (knC (Zb c1 1 V.str names))),(37,Zfb x.1 (V.int .u8) x.2)])
  (fun k x=>res=goN names.l (s.l.drop k) k x.2∧x.2.length=k∧∀ y∈x.2,y=1∨y=2) 0 (0,[]) (Nat.zero_le _) ⟨hP,rfl,fun y hy=>by cases hy⟩
  (Zg zp zp) ?_
 rintro k ⟨gx,ks⟩ hk ⟨hR,hkl,hkr⟩ L3 hL3
 replace hR:res=goN names.l (s.l.drop k) k ks:=hR
 replace hkl:ks.length=k:=hkl
 replace hkr:∀ y∈ks,y=1∨y=2:=hkr
 refine Z1 ?_;refine Zv ?_;refine Zd rfl (fun h23=>?_) (fun h23=>?_)
 ·have hk1:k<s.l.length:=by simpa using h23
  have hg:=List.getElem?_eq_getElem hk1;generalize s.l[k]=n at hg;rw [Ze5 hg] at hR;have hpl:PlOk ks.length n:=hkl ▸ Zl4 hdep hg;refine Z1f (zi hg @Zj) ?_;intro g9;refine Z1f @Zvm ?_;rw [← Zj];refine Z5e hG [.agg (knC (Zb c1.ent 1 V.str names)),Zw n,Zb .old 1 (V.int .u8) (Znb ks)] (by kernel_rfl) ⟨?_,?_,?_,trivial⟩ ?_
  ·refine Zew (Im.knC (Im.strs _ _)) ?_
   show (V.agg (knC _)).recol _=_
   rw [Zbj,Z11];simp -implicitDefEqProofs only[go_sem,seval,↓reduceIte]
  ·exact Zew (Im.xn n) (Zih _ _)
  ·exact Zy5 (g:=gx) (f:=V.int .u8) (f':=V.int .u8) zp Zaq (fun x y hy=>by simp [V.cells] at hy;subst hy;exact .int _ _) (fun _=>rfl)
  refine (Zxx G hG _ _ names hnl n (Znb ks) (by rw [Zma];exact hpl) (by rw [Zma];omega) (by rw [Zma];exact hkr)).mono ?_;rintro _ _ rfl;refine ⟨.int _ _,?_⟩;rw [Zma];have hkd:=fun h=>Z41 (op:=n.op) (nm:=names.l.contains n.name) (a:=plc ks n.a) (c:=plc ks n.c) (Z90 hkr n.b) h;have hkn:Zlj names.l n ks=kd n.op (names.l.contains n.name) (plc ks n.a) (plc ks n.b) (plc ks n.c):=rfl;rw [← hkn] at hkd;generalize Zlj names.l n ks=v at hR hkd ⊢;refine Zs ?_;refine Z1 ?_
  by_cases hv:v=0
  ·have q2:(v==0)=true:=by simpa using hv
   rw [if_pos hv] at hR;refine Zd rfl (fun h32=>?_) (fun h32=>?_)
   ·refine Z ?_
    rw [hR]<;>rfl
   ·rw [q2] at h32;cases h32
  have q2:(v==0)=false:=by simpa using hv
  rw [if_neg hv] at hR;refine Zd rfl (fun h32=>?_) (fun h32=>?_)
  ·rw [q2] at h32;cases h32
  refine Z1 ?_;intro g36;refine Zlc (f:=V.int .u8) (l:=ks) (l2:=[v]) (g:=gx) Zaq rfl rfl rfl zp (Zab (by omega) (by simp;omega)) fun g2=>?_;refine Zs ?_;refine Z1 ?_;refine hL3 _ ⟨hk1,(g2,ks++[v]),⟨hR,by rw [List.length_append,hkl]<;>rfl,?_⟩,Zg zw zp⟩;intro y hy
  rcases List.mem_append.1 hy with h | h
  ·exact hkr y h
  ·rw [List.mem_singleton.1 h];exact hkd hv
 ·have hk1:k=s.l.length:=by simp at h23;omega
  refine Z0 ?_;rw [hk1,List.drop_length] at hR;refine AW.weak (Z7 (fun o=>o==37) (l:=[(4,encKs .new ks)]) (m:=[]) ?_ trivial) ?_
  ·refine Zs ?_
   exact Zpd rfl rfl Zaq
  refine Z ?_
  rw [hR]<;>rfl
end Go.Hs
end

section
namespace Go.Hs
open Go.Proofs
set_option maxRecDepth 10000
theorem Z61 {names:List (List UInt8)}:∀ (l:List XN) (i:Int) (acc:List Int),(goN names l i acc).2.2=0→(goN names l i acc).1.length=acc.length+l.length
 | [],i,acc,_=>rfl
 | n::r,i,acc,h=>by
  rw [goN] at h ⊢
  split
  ·rename_i h1
   rw [if_pos h1] at h;cases h
  ·rename_i h1
   rw [if_neg h1] at h;have:=Z61 r (i+1) (acc++[Zlj names n acc]) h;rw [this];simp;omega
theorem Z3y {names:List (List UInt8)} {l:List XN} (h:(Zic names l).2.2=0):(Zic names l).1.length=l.length∧0<l.length:=by
 unfold Zic at h ⊢
 by_cases hc:Zaa l=0
 ·rw [if_neg (by simpa using hc)] at h ⊢
  refine ⟨by have:=Z61 l 0 [] h;simpa using this,?_⟩
  cases l with
  | nil=>exact absurd hc (by decide)
  | cons=>simp
 ·rw [if_pos hc] at h
  exact absurd h hc
def Zr4 (names:List (List UInt8)) (l:List XN):Int × Int × Int:=if (Zic names l).2.2≠0 then (0,(Zic names l).2.1,(Zic names l).2.2) else ((Zic names l).1.getD ((Zic names l).1.length-1) 0,0,0)
def encO3 (p:Int × Int × Int):V := .tuple [.int .u8 p.1,.int .i64 p.2.1,.int .i64 p.2.2]
theorem Zd4 (g:Col→Col) (c:Col) (s:Sl Int):(Zb c 1 (V.int .u8) s).recol g=Zb (g c) 1 (V.int .u8) s:=Zue g c 1 (fun _=>rfl) s
theorem Z33 (G:Nat→V) (hE:GExp G) (c c1:Col) (s:Sl XN) (names:Sl (List UInt8)) (hs:s.l.length<1000000) (hnm:∀ n∈s.l,n.name.length<100000) (hnl:names.l.length<1000000) :
  Spec Tryz.prog G 26 [.agg [Zb c 6 Zw s],Zb c1 1 V.str names] Zu (fun v _=>v=encO3 (Zr4 names.l s.l)):=by
 have hG:=hE.ok;refine Zo 0 25 [.tmp 4,.tmp 5,.tmp 6] Tryz.func26 fun X=>?_
 have hP:Zr4 names.l s.l=if (Zic names.l s.l).2.2≠0 then (0,(Zic names.l s.l).2.1,(Zic names.l s.l).2.2) else ((Zic names.l s.l).1.getD ((Zic names.l s.l).1.length-1) 0,0,0):=rfl
 have hKi:=fun c c1=>Zmu G hE c c1 s names hs hnm hnl;have hL:=Z3y (names:=names.l) (l:=s.l);generalize Zr4 names.l s.l=res at hP ⊢;generalize Zic names.l s.l=p at hP hKi hL;obtain ⟨ks,i,e⟩:=p;simp only at hP hL;refine Z1 ?_;intro g2;refine Z1 ?_;refine Znf @Za hG ?_ (s:=(hKi _ _));simp -implicitDefEqProofs only[go_sem,seval,↓reduceIte,encKr,encKs,Zd4];refine Z1 ?_
 by_cases he:e=0
 rotate_left
 ·have q1:(e != 0)=true:=by simpa using he
  rw [if_pos he] at hP;refine Zd rfl (fun h16=>?_) (fun h16=>?_)
  ·refine Z ?_
   rw [hP]<;>rfl
  ·rw [q1] at h16;cases h16
 have q1:(e != 0)=false:=by simpa using he
 rw [if_neg (by simpa using he)] at hP;obtain ⟨hl1,hl2⟩:=hL he;refine Zd rfl (fun h16=>?_) (fun h16=>?_)
 ·rw [q1] at h16;cases h16
 refine Z0 ?_;obtain ⟨m,hm⟩:∃ m:Nat,ks.length=m+1:=⟨ks.length-1,by omega⟩
 have hw:IntKind.i64.wrap ((ks.length:Int)-1)=(m:Int):=by rw [w64 (by omega) (by omega)];omega
 obtain ⟨v,hv⟩:∃ v,ks[m]? = some v:=⟨_,List.getElem?_eq_getElem (by omega)⟩
 have hgd:ks.getD (ks.length-1) 0=v:=by rw [show ks.length-1=m by omega,List.getD_eq_getElem?_getD,hv]<;>rfl
 rw [hgd] at hP;refine Zf (zi hw hv) ?_
 rw [hP]<;>rfl
theorem Zg2 {s:List UInt8} (hs:s.length<100000):(Zni s).1.length<100000∧∀ n∈(Zni s).1,n.name.length<100000:=by
 have hT:=Zl0 hs;have hnm:=Zan hT;have hok:=((Z1d (Z1b s).1 ((Z1b s).1.length+1) 1 ⟨0,[],0⟩).ok ⟨Nat.zero_le _,Nat.le_refl _⟩)
 have hfr:(Zjd (Z1b s).1).1.length<100000∧∀ n∈(Zjd (Z1b s).1).1,n.name.length<100000:=by
  unfold Zjd
  split
  ·exact ⟨Nat.zero_lt_succ _,fun n hn=>by cases hn⟩
  ·split
   ·exact ⟨Nat.zero_lt_succ _,fun n hn=>by cases hn⟩
   ·have:=hok.1;have:=hok.2;have:=hT.len
    exact ⟨by show (Zba _ _ _ _).2.nodes.length<_;omega,hnm⟩
 unfold Zni
 split
 ·exact ⟨Nat.zero_lt_succ _,fun n hn=>by cases hn⟩
 split
 ·exact ⟨Nat.zero_lt_succ _,fun n hn=>by cases hn⟩
 split
 ·exact hfr
 ·exact ⟨Nat.zero_lt_succ _,fun n hn=>by cases hn⟩
end Go.Hs
end

section
namespace Go.Hs
theorem Z91 {l:List Tk} (h:(Zjd l).2.2=0):∃ ts x,Gr 1 ts x∧x.depth≤64∧(∃ r,l.map Zw3=ts++r)∧Zjd l=(x.row 0,(ts.length:Int),0):=by
 have hF:Zjd l=if (Zba l (l.length+1) 1 ⟨0,[],0⟩).1=false then (([]:List XN),((Zba l (l.length+1) 1 ⟨0,[],0⟩).2.i:Int),(Zba l (l.length+1) 1 ⟨0,[],0⟩).2.e)
  else if Zia (Zba l (l.length+1) 1 ⟨0,[],0⟩).2.nodes > 64 then ([],0,3) else ((Zba l (l.length+1) 1 ⟨0,[],0⟩).2.nodes,((Zba l (l.length+1) 1 ⟨0,[],0⟩).2.i:Int),(0:Int)):=rfl
 by_cases hb:(Zba l (l.length+1) 1 ⟨0,[],0⟩).1=true
 ·obtain ⟨ts,x,g,sg,e⟩:=Z7s _ 1 ⟨0,[],0⟩ (by decide) (by decide) hb
  rw [hb] at hF;simp only [Bool.true_eq_false,if_false] at hF;have hok:=g.ok
  have hn:(Zba l (l.length+1) 1 ⟨0,[],0⟩).2.nodes=x.row 0:=by rw [e];simp [after]
  rw [hn,Z8g hok] at hF
  by_cases hdp:(x.depth:Int) > 64
  ·rw [if_pos hdp] at hF
   rw [hF] at h;cases h
  rw [if_neg hdp] at hF
  have hi:(Zba l (l.length+1) 1 ⟨0,[],0⟩).2.i=ts.length:=by rw [e];show 0+ts.length=_;omega
  rw [hi] at hF;obtain ⟨pre,post,e1,e2⟩:=sg;have hp:pre=[]:=List.length_eq_zero_iff.1 e2;rw [hp] at e1;exact ⟨ts,x,g,by omega,⟨post,by simpa using e1⟩,hF⟩
 ·have hb:(Zba l (l.length+1) 1 ⟨0,[],0⟩).1=false:=by simpa using hb
  rw [if_pos hb] at hF
  exfalso
  have he:=Z8s (l.length+1) 1 ⟨0,[],0⟩ (by show l.length<l.length+1+0;omega) (Nat.zero_le _) hb;rw [hF] at h;exact he h
theorem numV (op num:Int) (name:List UInt8) (a b c:Int) (h:0≤num∧num≤9223372036854775807):Z0b (XN.mk op num name a b c).num=true:=by
 show decide (_≤num∧num≤_)=true
 rw [decide_eq_true_iff];omega
theorem Z6f:∀ (x:X) (k:Int),x.ok=true→x.fit→∀ n∈x.row k,Z0b n.num=true
 | .leaf op num name,k,ho,h=>by
  intro n hn;rw [X.row,List.mem_singleton] at hn;simp only [X.ok,Bool.and_eq_true] at ho;subst hn;exact numV _ _ _ _ _ _ ⟨Za0 ho.1,h⟩
 | .un op a,k,ho,h=>by
  intro n hn;simp only [X.ok,Bool.and_eq_true] at ho;rw [X.row,List.mem_append,List.mem_singleton] at hn
  rcases hn with q | q
  ·exact Z6f a k ho.2 h n q
  ·rw [q];exact numV _ _ _ _ _ _ (by decide)
 | .bin op a b,k,ho,h=>by
  intro n hn;simp only [X.ok,Bool.and_eq_true] at ho;rw [X.row,List.mem_append,List.mem_append,List.mem_singleton] at hn
  rcases hn with (q | q) | q
  ·exact Z6f a k ho.1.2 h.1 n q
  ·exact Z6f b _ ho.2 h.2 n q
  ·rw [q];exact numV _ _ _ _ _ _ (by decide)
 | .ite a b c,k,ho,h=>by
  intro n hn;simp only [X.ok,Bool.and_eq_true] at ho;rw [X.row,List.mem_append,List.mem_append,List.mem_append,List.mem_singleton] at hn
  rcases hn with ((q | q) | q) | q
  ·exact Z6f a k ho.1.1 h.1 n q
  ·exact Z6f b _ ho.1.2 h.2.1 n q
  ·exact Z6f c _ ho.2 h.2.2 n q
  ·rw [q];exact numV _ _ _ _ _ _ (by decide)
theorem Zik {s:List UInt8}:∀ n∈(Zni s).1,Z0b n.num=true:=by
 intro n hn;unfold Zni at hn
 split at hn
 ·cases hn
 split at hn
 ·cases hn
 split at hn
 ·rename_i h
  obtain ⟨ts,x,g,_,_,e⟩:=Z91 h.1;rw [e] at hn;exact Z6f x 0 g.ok g.fit n hn
 ·cases hn
end Go.Hs
end

section
namespace Go.Hs
open Go.Proofs
set_option maxRecDepth 10000
set_option maxHeartbeats 1000000
def Z2z (n:Int):X := .leaf 1 n []
def exX:List (List UInt8 × X × EV):=[
 ([55,32,100,105,118,32,50,32,45,32,120],.bin 11 (.bin 8 (Z2z 7) (Z2z 2)) (.leaf 2 0 [120]),.num (-2)),
 ([49,32,60,32,50,32,97,110,100,32,120,32,61,32,53],.bin 18 (.bin 12 (Z2z 1) (Z2z 2)) (.bin 16 (.leaf 2 0 [120]) (Z2z 5)),.tru true),
 ([102,97,108,115,101,32,97,110,100,32,121],.bin 18 (.leaf 4 0 []) (.leaf 2 0 [121]),.tru false),
 ([116,114,117,101,32,111,114,32,49,32,100,105,118,32,48,32,61,32,49],.bin 19 (.leaf 3 0 []) (.bin 16 (.bin 8 (Z2z 1) (Z2z 0)) (Z2z 1)),.tru true),
 ([49,32,100,105,118,32,48],.bin 8 (Z2z 1) (Z2z 0),.err 61),
 ([49,32,43,32,116,114,117,101],.bin 10 (Z2z 1) (.leaf 3 0 []),.err 90),
 ([121],.leaf 2 0 [121],.err 90),
 ([105,102,32,116,114,117,101,32,116,104,101,110,32,49,32,101,108,115,101,32,102,97,108,115,101,32,101,110,100,105,102],.ite (.leaf 3 0 []) (Z2z 1) (.leaf 4 0 []),.num 1)]
def exE:List (List UInt8 × Int):=[([120],5)]
def exT:List (List UInt8):=exX.map (·.1)
def exW:List EV:=exX.map (·.2.2)
def exR:List Int:=exX.map (·.2.2.er)
def Zn6 (w:List UInt8 × X × EV):Bool:=decide (w.1.length<1000) && decide ((Zni w.1).1=w.2.1.row 0) && decide ((Zni w.1).2.2=0) && w.2.1.ok && decide (Zaa (w.2.1.row 0)=0) && decide (evX exE w.2.1=w.2.2)
theorem ex_good:exX.all Zn6=true:=by decide +kernel
theorem ex_at {k:Nat} {w:List UInt8 × X × EV} (h:exX[k]? = some w):w.1.length<1000∧(Zni w.1).1=w.2.1.row 0∧(Zni w.1).2.2=0∧w.2.1.ok=true∧Zaa (w.2.1.row 0)=0∧evX exE w.2.1=w.2.2:=by
 have:=List.all_eq_true.1 ex_good w (List.mem_of_getElem? h);simp only [Zn6,Bool.and_eq_true,decide_eq_true_eq] at this;obtain ⟨⟨⟨⟨⟨h1,h2⟩,h3⟩,h4⟩,h5⟩,h6⟩:=this;exact ⟨h1,h2,h3,h4,h5,h6⟩
theorem Z5 (G:Nat→V) (hE:GExp G):Spec Tryz.prog G 14 [] Zu (fun v _=>v = .bool true):=by
 have hG:=hE.ok;refine Zo 0 63 [.tmp 0] Tryz.func14 fun X=>?_;refine Z1 ?_;refine Z1 ?_;intro g12;refine Z1 ?_;intro g13;refine Z1 ?_;intro g22;refine Z1 ?_;intro g23;refine AW.weak (Z7 (fun _=>true) (l:=[(1,Zb .new 2 Zea (.mk false exE)),(2,Zb .new 1 V.str (.mk false exT)),(3,Zb .new 3 Zka (.mk false exW)),(4,Zb .new 1 (V.int .i64) (.mk false exR))]) (m:=[]) ?_ trivial) ?_
 ·refine Zs ?_
  refine ⟨?_,?_,?_,?_⟩
  ·exact Zog (f:=Zea) (l:=exE) (m:=2) (fz:=0) (c := .new) (g:=g12) rfl zp (fun _=>rfl)
  ·exact Zog (f:=V.str) (l:=exT) (m:=1) (fz:=0) (c := .new) (g:=g13) rfl zp (fun _=>rfl)
  ·exact Zog (f:=Zka) (l:=exW) (m:=3) (fz:=0) (c := .new) (g:=g22) rfl zp (fun _=>rfl)
  ·exact Zog (f:=V.int .i64) (l:=exR) (m:=1) (fz:=0) (c := .new) (g:=g23) rfl zp (fun _=>rfl)
 refine Zi fun K2 hK2=>?_;refine Z ?_
 refine Z0a 8 (fun k (_:Unit)=>st [(1,Zb .new 2 Zea (.mk false exE)),(2,Zb .new 1 V.str (.mk false exT)),(3,Zb .new 3 Zka (.mk false exW)),(4,Zb .new 1 (V.int .i64) (.mk false exR)),(5,.int .i64 k)] []) (fun k _=>True) 0 () (Nat.zero_le _) trivial
  (Zg zp zp) ?_
 intro k _ hk _ L3 hL3
 by_cases hk1:k<8
 ·have hkx:k<exX.length:=hk1
  have hg:=List.getElem?_eq_getElem hkx
  have g1:exT[k]? = some exX[k].1:=by rw [exT,List.getElem?_map,hg]<;>rfl
  have g2:exW[k]? = some exX[k].2.2:=by rw [exW,List.getElem?_map,hg]<;>rfl
  have g3:exR[k]? = some exX[k].2.2.er:=by rw [exR,List.getElem?_map,hg]<;>rfl
  obtain ⟨w1,w2,w3,w4,w5,w6⟩:=ex_at hg;have hb:=Zg2 (s:=exX[k].1) (by omega);have hnu:=Zik (s:=exX[k].1);have hP:=Zqe G hE exX[k].1 (by omega);generalize exX[k]=w at *;obtain ⟨t,x,r⟩:=w;simp only at g1 g2 g3 w1 w2 w3 w4 w5 w6 hb hnu hP;generalize Zni t=pr at *;obtain ⟨ns,n1,n2⟩:=pr;simp only at w2 w3 hb hnu;subst w2 w3;have l1:exT.length=8:=rfl;have l2:exW.length=8:=rfl;have l3:exR.length=8:=rfl
  have hlt:decide ((k:Int)<8)=true:=by simp;omega
  have hk8:(k:Int)<8:=by omega
  have hEv:=fun c c2=>Zbe G hE c c2 (Znb (x.row 0)) (.mk false exE) ⟨by rw [Zma];omega,by rw [Zma];exact hb.2,by rw [Zma];exact hnu,by decide,by decide⟩
  have hL:evL (Sl.mk false exE).l (Znb (x.row 0)).l=r:=by rw [Zma,Zkd w4 w5];exact w6
  rw [hL] at hEv;refine Zf (zi l1 (zi hlt (zi g1 (zi @Int.natCast_nonneg hk8)))) ?_;refine Zn hG ?_ (s:=hP);simp -implicitDefEqProofs only[go_sem,seval,↓reduceIte,Z3s,Ztd];intro g6;refine Z ?_;refine Znf (zi @Za (zi @Ze @Zj)) hG ?_ (s:=(hEv _ _));simp -implicitDefEqProofs only[go_sem,seval,↓reduceIte,Zpa,Zka];intro g9;refine AW.weak (Z7 (fun o=>o==6 || o==9) (l:=[(1,Zb .new 2 Zea (.mk false exE)),(2,Zb .new 1 V.str (.mk false exT)),(3,Zb .new 3 Zka (.mk false exW)),(4,Zb .new 1 (V.int .i64) (.mk false exR)),(5,.int .i64 k),(8,.int .i64 0),(9,.view .new (.agg [.int .u8 r.kind,.int .i64 r.nm,.bool r.tr])),(10,.int .i64 r.er)]) (m:=[]) ?_ trivial) ?_
  ·refine Zs ?_
   refine ⟨Zl _,Zl _,Zl _,Zl _,Zl _,Zl _,?_,Zl _⟩;exact Fz.ptr (v := .agg [.int .u8 r.kind,.int .i64 r.nm,.bool r.tr]) (c := .new) (fz:=0) rfl zp
  have e1:Zka r = .agg [.int .u8 r.kind,.int .i64 r.nm,.bool r.tr]:=rfl
  have hk2:k<exW.length:=by omega
  have hk3:k<exR.length:=by omega
  refine Z ?_;refine Zx ⟨fun _ => .top,fun i=>if i=3 then .lend else .pure⟩ (by kernel_rfl) hG (by kernel_rfl) (by kernel_rfl) ?_;refine Zsf (zi g2 (zi g3 (zi e1 (zi l2 (zi l3 (zi @Int.natCast_nonneg (zi hk8 (zi @Bool.and_self (zi @Bool.not_true @Bool.not_false))))))))) ?_;have w7:IntKind.i64.wrap ((k:Int)+1)=(k:Int)+1:=w64 (by omega) (by omega);refine Zf w7 ?_;exact hL3 _ ⟨hk1,(),trivial,Zg zp zp⟩
 have hke:k=8:=by omega
 subst hke;have l1:exT.length=8:=rfl;refine Zf l1 ?_;refine hK2 _ ?_;exact Zr
end Go.Hs
end

section
namespace Go.Hs
open Go.Proofs
set_option maxRecDepth 10000
set_option maxHeartbeats 1000000
theorem Z6h (G:Nat→V) (hE:GExp G) (c c2:Col) (s:Sl XN) (env:Sl (List UInt8 × Int)) (hnum:∀ n∈s.l,Z0b n.num=true) (hf:∀ p∈env.l,Z0b p.2=true) :
  Spec Tryz.prog G 4 [.agg [Zb c 6 Zw s],Zb c2 2 Zea env] Zu (fun v _=>v = .bool true):=by
 have hG:=hE.ok;refine Zo 0 111 [.tmp 4] Tryz.func4 fun X=>?_;refine Z1 ?_;intro g2;refine Z ?_;refine CallA.pure hG (by kernel_rfl) ?_;refine Zsf (zi @Za @Ze) ?_;refine (Zqg G hG c.ent c2.ent s env).mono ?_;rintro _ _ ⟨b,rfl,hb⟩;refine Zs ?_;cases b
 ·refine Z ?_
  refine Znf (zi @Za @Ze) hG ?_ (s:=(Z5 G hE));simp -implicitDefEqProofs only[go_sem,seval,↓reduceIte,List.map_nil];exact Zr
 obtain ⟨f1,f2,f3,f4⟩:=hb rfl
 try clear hb
 have hI:EvIn s env:=⟨by omega,fun n hn=>by have:=f3 n hn;omega,hnum,by omega,hf⟩;have hI2:EvIn (Znb s.l) (Znb env.l):=⟨by rw [Zma];omega,fun n hn=>by rw [Zma] at hn;have:=f3 n hn;omega,by rw [Zma];exact hnum,by rw [Zma];omega,by rw [Zma];exact hf⟩;have e1:=fun c c2=>Zbe G hE c c2 s env hI;have e2:=fun c c2=>Z7u G hE c c2 s env hI;have e3:=fun c c2=>Zfp G hE c c2 s env hI;have r1:=fun c c2=>eval10 G hG c c2 _ _ hI2;have r2:=fun c c2=>num10 G hG c c2 _ _ hI2;have r3:=fun c c2=>tru10 G hG c c2 _ _ hI2;simp only [Zma] at r1 r2 r3;generalize evL env.l s.l=r at *;refine Z ?_;refine Znf (zi @Za @Ze) hG ?_ (s:=(Zb0 G hG _ s hI.hs));simp -implicitDefEqProofs only[go_sem,seval,↓reduceIte,Ztd];refine Znf (zi @Za @Ze) hG ?_ (s:=(Zgu G hG _ env hI.hv));simp -implicitDefEqProofs only[go_sem,seval,↓reduceIte,Ztd];refine Z ?_;refine Znf (zi @Za @Ze) hG ?_ (s:=(e1 _ _));simp -implicitDefEqProofs only[go_sem,seval,↓reduceIte,Zpa,Zka];intro g7;refine Z ?_;refine Znf (zi @Za @Ze) hG ?_ (s:=(r1 _ _));simp -implicitDefEqProofs only[go_sem,seval,↓reduceIte,Zpa,Zka];intro g9;refine Z ?_;refine Znf (zi @Za @Ze) hG ?_ (s:=(e2 _ _));simp -implicitDefEqProofs only[go_sem,seval,↓reduceIte,Z5p];refine Z ?_;refine Znf (zi @Za @Ze) hG ?_ (s:=(r2 _ _));simp -implicitDefEqProofs only[go_sem,seval,↓reduceIte,Z5p];refine Z ?_;refine Znf (zi @Za @Ze) hG ?_ (s:=(e3 _ _))
 simp -implicitDefEqProofs only[go_sem,seval,↓reduceIte,Zxh];refine Z ?_;refine Znf (zi @Za @Ze) hG ?_ (s:=(r3 _ _));simp -implicitDefEqProofs only[go_sem,seval,↓reduceIte,Zxh]
 repeat first
  | (refine Z4 (by kernel_rfl) ?_;simp -implicitDefEqProofs only[go_sem,seval,↓reduceIte,beq_self_eq_true])
  | (refine AW.region (by kernel_rfl) ?_;simp -implicitDefEqProofs only[go_sem,seval,↓reduceIte,beq_self_eq_true])
  | refine Zv ?_
  | refine AW.block ?_
  | refine Zfa rfl ?_
  | refine Z8 rfl ?_
  | (refine AW.skip ?_;simp -implicitDefEqProofs only[go_sem,seval,↓reduceIte,beq_self_eq_true])
  | (refine AW.exit ?_;simp -implicitDefEqProofs only[go_sem,seval,↓reduceIte,beq_self_eq_true])
  | (refine AW.ret ?_;simp -implicitDefEqProofs only[go_sem,seval,↓reduceIte,beq_self_eq_true];refine Zk ?_)
 refine Znf (zi @Za @Ze) hG ?_ (s:=(Z5 G hE));simp -implicitDefEqProofs only[go_sem,seval,↓reduceIte,List.map_nil];exact Zr
theorem Z9h (G:Nat→V) (hE:GExp G) (c2:Col) (t:List UInt8) (env:Sl (List UInt8 × Int)) (hf:∀ p∈env.l,Z0b p.2=true) :
  Spec Tryz.prog G 5 [.str t,Zb c2 2 Zea env] Zu (fun v _=>v = .bool true):=by
 have hG:=hE.ok;refine Zo 0 28 [.tmp 4] Tryz.func5 fun X=>?_
 by_cases hl:t.length > 300
 ·have q:decide (((t.length:Nat):Int) > 300)=true:=zT
  refine Zf q ?_;refine Znf (zi @Za @Ze) hG ?_ (s:=(Z5 G hE));simp -implicitDefEqProofs only[go_sem,seval,↓reduceIte,List.map_nil];exact Zr
 have q:decide (((t.length:Nat):Int) > 300)=false:=zF;refine Zf q ?_;refine Zn hG ?_ (s:=(Zqe G hE t (by omega)));have hn:=Zik (s:=t);generalize Zni t=p at hn ⊢;obtain ⟨ns,n1,n2⟩:=p;simp only at hn;simp -implicitDefEqProofs only[go_sem,seval,↓reduceIte,Z3s,Ztd,Za];intro g5
 by_cases h2:n2=0
 ·subst h2
  have hn2:∀ n∈(Znb ns).l,Z0b n.num=true:=by rw [Zma];exact hn
  refine Z ?_;refine Znf (zi @Za @Ze) hG ?_ (s:=(Z6h G hE _ _ (Znb ns) env hn2 hf));simp -implicitDefEqProofs only[go_sem,seval,↓reduceIte,List.map_nil];exact Zr
 ·have h2b:(n2 != 0)=true:=by simpa using h2
  refine Zf h2b ?_;refine Znf (zi @Za @Ze) hG ?_ (s:=(Z5 G hE));simp -implicitDefEqProofs only[go_sem,seval,↓reduceIte,List.map_nil];exact Zr
end Go.Hs
end

section
namespace Go.Hs
open Go.Proofs
set_option maxRecDepth 10000
theorem Z2y {names:List (List UInt8)} {x:X} (h:x.ok=true) (hc:Zaa (x.row 0)=0):Zic names (x.row 0)=goX names (Zcc x) 0 []:=by
 unfold Zic;rw [if_neg (by simpa using hc)];have:=Z71 (names:=names) x x.size 0 (by omega);simp only [List.drop_zero,List.take_zero,List.map_nil] at this;exact this
theorem Zfv {names:List (List UInt8)} {l:List XN} (h:(Zic names l).2.2=0):∃ x:X,x.ok=true∧l=x.row 0∧Zaa (x.row 0)=0∧(∀ y∈Zcc x,Zmb names y≠0)∧Zic names l=((Zcc x).map (Zmb names),0,0):=by
 have hc:Zaa l=0:=by
  unfold Zic at h
  by_cases hc:Zaa l=0
  ·exact hc
  ·rw [if_pos hc] at h;exact absurd h hc
 have hdep:Zia l≠0:=by
  intro hd;rw [Zaa,if_pos hd] at hc;cases hc
 obtain ⟨x,hx,rfl⟩:=Zmk hdep;rw [Z2y hx hc] at h ⊢;obtain ⟨h1,h2⟩:=Zl6 _ _ _ h;exact ⟨x,hx,rfl,hc,h1,h2⟩
theorem Z03 (x:X):x∈Zcc x:=(Sub.refl x).mem
theorem Zq4 {N:List (List UInt8)} {l:List XN} (h:(Zr4 N l).2.2=0):∃ x:X,x.ok=true∧l=x.row 0∧Zaa (x.row 0)=0∧(∀ y∈Zcc x,Zmb N y≠0)∧(Zr4 N l).1=Zmb N x:=by
 unfold Zr4 at h ⊢
 by_cases hk:(Zic N l).2.2=0
 ·rw [if_neg (by simpa using hk)]
  obtain ⟨x,hx,hl,hc,hs,he⟩:=Zfv hk;refine ⟨x,hx,hl,hc,hs,?_⟩;rw [he]
  show ((Zcc x).map (Zmb N)).getD (((Zcc x).map (Zmb N)).length-1) 0=_
  rw [List.length_map,Zdb,List.getD_eq_getElem?_getD,List.getElem?_map,Zsw]
  try rfl
 ·rw [if_pos hk] at h
  exact absurd h hk
theorem Zg5 {env:List (List UInt8 × Int)} {l:List XN} (h:(Zr4 (env.map (·.1)) l).2.2=0):((evL env l).kind=(Zr4 (env.map (·.1)) l).1∧(evL env l).kind≠0)∨evL env l = .err 60∨evL env l = .err 61:=by
 obtain ⟨x,hx,rfl,hc,hs,hk⟩:=Zq4 h;rw [hk,Zkd hx hc]
 rcases ev_kind hx hs with h | h
 ·exact .inl ⟨h,by rw [h];exact hs x (Z03 x)⟩
 ·exact .inr h
theorem Zi5 {env:List (List UInt8 × Int)} {l:List XN} {s:List UInt8} {v:Int} (h:∀ n∈l,n.op=2→n.name≠s):evL ((s,v)::env) l=evL env l:=by
 by_cases hc:Zaa l=0
 ·obtain ⟨x,hx,rfl⟩:=Zsc hc
  rw [Zkd hx hc,Zkd hx hc];refine Zfx fun t ⟨num,ht⟩=>Zxy fun he=>?_;obtain ⟨b,hb⟩:=Zyp ht;exact h _ (List.mem_of_getElem? hb.top) rfl he.symm
 ·rw [Zoi hc,Zoi hc]
end Go.Hs
end

section
namespace Go.Hs
open Go.Proofs
set_option maxRecDepth 10000
set_option maxHeartbeats 1000000
theorem Z2r (H:Heap) (c:Col) (s:Sl (List UInt8 × Int)):Z4a H 2 (Zb c 2 Zea s)=some (s.l.length,flat (s.l.map Zea)):=by
 cases s with
 | nil=>rfl
 | mk b l =>
  have key:∀ l:List (List UInt8 × Int),(l.map Zea).flatMap V.cells=flat (l.map Zea):=fun l=>rfl
  have hm:∀ x∈l.map Zea,x.cells.length=2:=by intro x hx;obtain ⟨p,_,rfl⟩:=List.mem_map.1 hx;rfl
  simp [Zb,Z4a,Sl.l]
theorem Z8h (G:Nat→V) (hE:GExp G) (c c2:Col) (s:Sl XN) (env:Sl (List UInt8 × Int)) (nm:List UInt8) (n:Int) (hnum:∀ n∈s.l,Z0b n.num=true) (hf:∀ p∈env.l,Z0b p.2=true) (hn:Z0b n=true) :
  Spec Tryz.prog G 6 [.agg [Zb c 6 Zw s],Zb c2 2 Zea env,.str nm,.int .i64 n] Zu (fun v _=>v = .bool true):=by
 have hG:=hE.ok;refine Zo 0 170 [.tmp 8] Tryz.func6 fun X=>?_;refine Z1 ?_;intro g4;refine Zi fun K1 hK1=>?_;refine Z ?_;refine CallA.pure hG (by kernel_rfl) ?_;refine Zsf (zi @Za @Ze) ?_;refine (Zqg G hG c.ent c2.ent s env).mono ?_;rintro _ _ ⟨b,rfl,hb⟩;cases b
 ·refine Zsf (zi @Bool.not_true @Bool.not_false) ?_
  refine Z ?_;refine Znf (zi @Za @Ze) hG ?_ (s:=(Z5 G hE));simp -implicitDefEqProofs only[go_sem,seval,↓reduceIte,List.map_nil];exact Zr
 obtain ⟨f1,f2,f3,f4⟩:=hb rfl
 try clear hb
 by_cases h70:nm.length > 70
 ·have q:decide (((nm.length:Nat):Int) > 70)=true:=zT
  refine Zsf (zi @Bool.not_true (zi @Bool.not_false q)) ?_;refine Zf q ?_;refine Znf (zi @Za @Ze) hG ?_ (s:=(Z5 G hE));simp -implicitDefEqProofs only[go_sem,seval,↓reduceIte,List.map_nil];exact Zr
 have q:decide (((nm.length:Nat):Int) > 70)=false:=zF;refine Zsf (zi @Bool.not_true (zi @Bool.not_false q)) ?_;refine Zf q ?_;refine hK1 _ ?_
 try clear hK1 K1
 have hI:EvIn s env:=⟨by omega,fun n hn=>by have:=f3 n hn;omega,hnum,by omega,hf⟩;refine AW.weak (Zg (l:=[(1,Zb c2 2 Zea env),(2,.str nm),(3,.int .i64 n),(4,.ptr 4 g4 0)]) (m:=[(4,.cells .new g4 0 [Zb c 6 Zw s])]) zp zp) ?_;refine Z1 ?_;refine Zi fun K2 hK2=>?_;refine Z ?_
 refine Z0a env.l.length (fun k (gx:Nat)=>st [(1,Zb c2 2 Zea env),(2,.str nm),(3,.int .i64 n),(4,.ptr 4 g4 0),(9,grown 43 gx 1 ((env.l.take k).map (·.1))),(10,.int .i64 k)] [(4,.cells .new g4 0 [Zb c 6 Zw s]),(43,Zfb gx V.str ((env.l.take k).map (·.1)))])
  (fun k _=>True) 0 0 (Nat.zero_le _) trivial
  (Zg zp zp) ?_
 intro k gx hk _ L3 hL3
 by_cases hk1:k<env.l.length
 ·have hlt:decide ((k:Int)<(env.l.length:Int))=true:=by simpa using hk1
  have hg:=List.getElem?_eq_getElem hk1
  have htk:(env.l.take (k+1)).map (·.1)=(env.l.take k).map (·.1)++[env.l[k].1]:=by rw [List.take_succ_eq_append_getElem hk1,List.map_append]<;>rfl
  have hll:((env.l.take k).map (·.1)).length=k:=by rw [List.length_map,List.length_take];omega
  generalize env.l[k]=p at hg htk;generalize (env.l.take k).map (·.1)=ns at htk hll ⊢;have w1:IntKind.i64.wrap ((k:Int)+1)=(k:Int)+1:=w64 (by omega) (by omega);refine Zf (zi hlt (zi hg (zi @Z5g (zi hk1 (zi @Int.natCast_nonneg @Int.ofNat_lt))))) ?_;intro g42;refine Zlc (f:=V.str) (l:=ns) (l2:=[p.1]) (g:=gx) (fun _=>rfl) rfl rfl rfl zp (Zab (by omega) (by simp;omega)) fun g2=>?_;refine Zs ?_;refine Zf w1 ?_;refine hL3 _ ⟨hk1,g2,trivial,Zg (by simp -implicitDefEqProofs only[go_sem,seval,↓reduceIte];rw [htk];exact ⟨rfl,rfl⟩) (by simp -implicitDefEqProofs only[go_sem,seval,↓reduceIte];rw [htk];try rfl)⟩
 have hke:k=env.l.length:=by omega
 subst hke
 have hlt:decide ((env.l.length:Int)<(env.l.length:Int))=false:=by simp
 refine Zf hlt ?_;refine hK2 _ ?_;rw [List.take_length]
 try clear hK2 hL3 K2 L3 hlt hk
 refine AW.weak (Z7 (fun o=>o==43) (l:=[(1,Zb c2 2 Zea env),(2,.str nm),(3,.int .i64 n),(4,.ptr 4 g4 0),(9,Zb .new 1 V.str (Znb (env.l.map (·.1))))]) (m:=[(4,.cells .new g4 0 [Zb c 6 Zw s])]) ?_ ?_) ?_
 ·refine Zs ?_
  exact ⟨Zl _,Zl _,Zl _,Zl _,Zpd rfl zp (fun _=>rfl)⟩
 ·simp only [Zy,Z2,and_true]
  exact FzO.keep rfl zp
 have hT:=Zg5 (env:=env.l) (l:=s.l);have hO:=fun c c1=>Z33 G hE c c1 s (Znb (env.l.map (·.1))) hI.hs hI.hnm (by rw [Zma,List.length_map];omega);simp only [Zma] at hO;have hE0:=fun c c2=>Zbe G hE c c2 s env hI;have hne:=Zh2 hI;generalize Zr4 (env.l.map (·.1)) s.l=t at hT hO;obtain ⟨tk,ta,te⟩:=t;simp only at hT;refine Z ?_;refine Znf (zi @Za @Ze) hG ?_ (s:=(hO _ _));simp -implicitDefEqProofs only[go_sem,seval,↓reduceIte,encO3];refine Z ?_;refine Znf (zi @Za @Ze) hG ?_ (s:=(hE0 _ _));simp -implicitDefEqProofs only[go_sem,seval,↓reduceIte,Zpa,Zka];intro g14;generalize hr:evL env.l s.l=r at hT hne;refine Zyb (fun (_:Unit)=>st [(1,Zb c2 2 Zea env),(2,.str nm),(3,.int .i64 n),(4,.ptr 4 g4 0),(14,.ptr 14 g14 0),(15,.int .i64 r.er)] [(4,.cells .new g4 0 [Zb c 6 Zw s]),(14,.cells .new g14 0 [.int .u8 r.kind,.int .i64 r.nm,.bool r.tr])]) (fun _=>True) (fun K1 hK1=>?_) ?_
 ·cases r with
  | err e =>
   have he:=hne e rfl
   have e0:(e==0)=false:=by simpa using he
   have e1:(e != 0)=true:=by simpa using he
   by_cases ht:te=0
   ·subst ht
    have h6:e=60∨e=61:=by
     rcases hT rfl with h | h | h
     ·exact absurd rfl h.2
     ·cases h;exact .inl rfl
     ·cases h;exact .inr rfl
    rcases h6 with rfl | rfl
    ·repeat first
      | (refine Z4 (by kernel_rfl) ?_;simp -implicitDefEqProofs only[go_sem,seval,↓reduceIte,EV.er,EV.nm,EV.kind,EV.tr])
      | (refine AW.region (by kernel_rfl) ?_;simp -implicitDefEqProofs only[go_sem,seval,↓reduceIte,EV.er,EV.nm,EV.kind,EV.tr])
      | refine Zv ?_
      | refine AW.block ?_
      | refine Zfa rfl ?_
      | refine Z8 rfl ?_
      | (refine AW.skip ?_;simp -implicitDefEqProofs only[go_sem,seval,↓reduceIte,EV.er,EV.nm,EV.kind,EV.tr])
      | (refine AW.exit ?_;simp -implicitDefEqProofs only[go_sem,seval,↓reduceIte,EV.er,EV.nm,EV.kind,EV.tr])
      | (refine AW.ret ?_;simp -implicitDefEqProofs only[go_sem,seval,↓reduceIte,EV.er,EV.nm,EV.kind,EV.tr];refine Zk ?_)
     exact hK1 _ () trivial (Zg (by simp -implicitDefEqProofs only[go_sem,seval,↓reduceIte,EV.er,EV.nm,EV.kind,EV.tr];try rfl) (by simp -implicitDefEqProofs only[go_sem,seval,↓reduceIte,EV.er,EV.nm,EV.kind,EV.tr];try rfl))
    ·repeat first
      | (refine Z4 (by kernel_rfl) ?_;simp -implicitDefEqProofs only[go_sem,seval,↓reduceIte,EV.er,EV.nm,EV.kind,EV.tr])
      | (refine AW.region (by kernel_rfl) ?_;simp -implicitDefEqProofs only[go_sem,seval,↓reduceIte,EV.er,EV.nm,EV.kind,EV.tr])
      | refine Zv ?_
      | refine AW.block ?_
      | refine Zfa rfl ?_
      | refine Z8 rfl ?_
      | (refine AW.skip ?_;simp -implicitDefEqProofs only[go_sem,seval,↓reduceIte,EV.er,EV.nm,EV.kind,EV.tr])
      | (refine AW.exit ?_;simp -implicitDefEqProofs only[go_sem,seval,↓reduceIte,EV.er,EV.nm,EV.kind,EV.tr])
      | (refine AW.ret ?_;simp -implicitDefEqProofs only[go_sem,seval,↓reduceIte,EV.er,EV.nm,EV.kind,EV.tr];refine Zk ?_)
     exact hK1 _ () trivial (Zg (by simp -implicitDefEqProofs only[go_sem,seval,↓reduceIte,EV.er,EV.nm,EV.kind,EV.tr];try rfl) (by simp -implicitDefEqProofs only[go_sem,seval,↓reduceIte,EV.er,EV.nm,EV.kind,EV.tr];try rfl))
   ·have t0:(te==0)=false:=by simpa using ht
    repeat first
     | (refine Z4 (by kernel_rfl) ?_;simp -implicitDefEqProofs only[go_sem,seval,↓reduceIte,EV.er,EV.nm,EV.kind,EV.tr,t0])
     | (refine AW.region (by kernel_rfl) ?_;simp -implicitDefEqProofs only[go_sem,seval,↓reduceIte,EV.er,EV.nm,EV.kind,EV.tr,t0])
     | refine Zv ?_
     | refine AW.block ?_
     | refine Zfa rfl ?_
     | refine Z8 rfl ?_
     | (refine AW.skip ?_;simp -implicitDefEqProofs only[go_sem,seval,↓reduceIte,EV.er,EV.nm,EV.kind,EV.tr,t0])
     | (refine AW.exit ?_;simp -implicitDefEqProofs only[go_sem,seval,↓reduceIte,EV.er,EV.nm,EV.kind,EV.tr,t0])
     | (refine AW.ret ?_;simp -implicitDefEqProofs only[go_sem,seval,↓reduceIte,EV.er,EV.nm,EV.kind,EV.tr,t0];refine Zk ?_)
    exact hK1 _ () trivial (Zg (by simp -implicitDefEqProofs only[go_sem,seval,↓reduceIte,EV.er,EV.nm,EV.kind,EV.tr];try rfl) (by simp -implicitDefEqProofs only[go_sem,seval,↓reduceIte,EV.er,EV.nm,EV.kind,EV.tr];try rfl))
  | num v =>
   by_cases ht:te=0
   ·subst ht
    have hk:tk=1:=by
     rcases hT rfl with h | h | h
     ·exact h.1.symm
     ·cases h
     ·cases h
    subst hk
    repeat first
     | (refine Z4 (by kernel_rfl) ?_;simp -implicitDefEqProofs only[go_sem,seval,↓reduceIte,EV.er,EV.nm,EV.kind,EV.tr])
     | (refine AW.region (by kernel_rfl) ?_;simp -implicitDefEqProofs only[go_sem,seval,↓reduceIte,EV.er,EV.nm,EV.kind,EV.tr])
     | refine Zv ?_
     | refine AW.block ?_
     | refine Zfa rfl ?_
     | refine Z8 rfl ?_
     | (refine AW.skip ?_;simp -implicitDefEqProofs only[go_sem,seval,↓reduceIte,EV.er,EV.nm,EV.kind,EV.tr])
     | (refine AW.exit ?_;simp -implicitDefEqProofs only[go_sem,seval,↓reduceIte,EV.er,EV.nm,EV.kind,EV.tr])
     | (refine AW.ret ?_;simp -implicitDefEqProofs only[go_sem,seval,↓reduceIte,EV.er,EV.nm,EV.kind,EV.tr];refine Zk ?_)
    exact hK1 _ () trivial (Zg (by simp -implicitDefEqProofs only[go_sem,seval,↓reduceIte,EV.er,EV.nm,EV.kind,EV.tr];try rfl) (by simp -implicitDefEqProofs only[go_sem,seval,↓reduceIte,EV.er,EV.nm,EV.kind,EV.tr];try rfl))
   ·have t0:(te==0)=false:=by simpa using ht
    repeat first
     | (refine Z4 (by kernel_rfl) ?_;simp -implicitDefEqProofs only[go_sem,seval,↓reduceIte,EV.er,EV.nm,EV.kind,EV.tr,t0])
     | (refine AW.region (by kernel_rfl) ?_;simp -implicitDefEqProofs only[go_sem,seval,↓reduceIte,EV.er,EV.nm,EV.kind,EV.tr,t0])
     | refine Zv ?_
     | refine AW.block ?_
     | refine Zfa rfl ?_
     | refine Z8 rfl ?_
     | (refine AW.skip ?_;simp -implicitDefEqProofs only[go_sem,seval,↓reduceIte,EV.er,EV.nm,EV.kind,EV.tr,t0])
     | (refine AW.exit ?_;simp -implicitDefEqProofs only[go_sem,seval,↓reduceIte,EV.er,EV.nm,EV.kind,EV.tr,t0])
     | (refine AW.ret ?_;simp -implicitDefEqProofs only[go_sem,seval,↓reduceIte,EV.er,EV.nm,EV.kind,EV.tr,t0];refine Zk ?_)
    exact hK1 _ () trivial (Zg (by simp -implicitDefEqProofs only[go_sem,seval,↓reduceIte,EV.er,EV.nm,EV.kind,EV.tr];try rfl) (by simp -implicitDefEqProofs only[go_sem,seval,↓reduceIte,EV.er,EV.nm,EV.kind,EV.tr];try rfl))
  | tru v =>
   by_cases ht:te=0
   ·subst ht
    have hk:tk=2:=by
     rcases hT rfl with h | h | h
     ·exact h.1.symm
     ·cases h
     ·cases h
    subst hk
    repeat first
     | (refine Z4 (by kernel_rfl) ?_;simp -implicitDefEqProofs only[go_sem,seval,↓reduceIte,EV.er,EV.nm,EV.kind,EV.tr])
     | (refine AW.region (by kernel_rfl) ?_;simp -implicitDefEqProofs only[go_sem,seval,↓reduceIte,EV.er,EV.nm,EV.kind,EV.tr])
     | refine Zv ?_
     | refine AW.block ?_
     | refine Zfa rfl ?_
     | refine Z8 rfl ?_
     | (refine AW.skip ?_;simp -implicitDefEqProofs only[go_sem,seval,↓reduceIte,EV.er,EV.nm,EV.kind,EV.tr])
     | (refine AW.exit ?_;simp -implicitDefEqProofs only[go_sem,seval,↓reduceIte,EV.er,EV.nm,EV.kind,EV.tr])
     | (refine AW.ret ?_;simp -implicitDefEqProofs only[go_sem,seval,↓reduceIte,EV.er,EV.nm,EV.kind,EV.tr];refine Zk ?_)
    exact hK1 _ () trivial (Zg (by simp -implicitDefEqProofs only[go_sem,seval,↓reduceIte,EV.er,EV.nm,EV.kind,EV.tr];try rfl) (by simp -implicitDefEqProofs only[go_sem,seval,↓reduceIte,EV.er,EV.nm,EV.kind,EV.tr];try rfl))
   ·have t0:(te==0)=false:=by simpa using ht
    repeat first
     | (refine Z4 (by kernel_rfl) ?_;simp -implicitDefEqProofs only[go_sem,seval,↓reduceIte,EV.er,EV.nm,EV.kind,EV.tr,t0])
     | (refine AW.region (by kernel_rfl) ?_;simp -implicitDefEqProofs only[go_sem,seval,↓reduceIte,EV.er,EV.nm,EV.kind,EV.tr,t0])
     | refine Zv ?_
     | refine AW.block ?_
     | refine Zfa rfl ?_
     | refine Z8 rfl ?_
     | (refine AW.skip ?_;simp -implicitDefEqProofs only[go_sem,seval,↓reduceIte,EV.er,EV.nm,EV.kind,EV.tr,t0])
     | (refine AW.exit ?_;simp -implicitDefEqProofs only[go_sem,seval,↓reduceIte,EV.er,EV.nm,EV.kind,EV.tr,t0])
     | (refine AW.ret ?_;simp -implicitDefEqProofs only[go_sem,seval,↓reduceIte,EV.er,EV.nm,EV.kind,EV.tr,t0];refine Zk ?_)
    exact hK1 _ () trivial (Zg (by simp -implicitDefEqProofs only[go_sem,seval,↓reduceIte,EV.er,EV.nm,EV.kind,EV.tr];try rfl) (by simp -implicitDefEqProofs only[go_sem,seval,↓reduceIte,EV.er,EV.nm,EV.kind,EV.tr];try rfl))
 rintro _ -;refine Zyb (fun (_:Unit)=>st [(1,Zb c2 2 Zea env),(2,.str nm),(3,.int .i64 n),(4,.ptr 4 g4 0),(14,.ptr 14 g14 0),(15,.int .i64 r.er)] [(4,.cells .new g4 0 [Zb c 6 Zw s]),(14,.cells .new g14 0 [.int .u8 r.kind,.int .i64 r.nm,.bool r.tr])]) (fun _=>True) (fun K1 hK1=>?_) ?_
 ·cases r with
  | err e =>
   have he:=hne e rfl
   have e0:(e==0)=false:=by simpa using he
   have e1:(e != 0)=true:=by simpa using he
   repeat first
    | (refine Z4 (by kernel_rfl) ?_;simp -implicitDefEqProofs only[go_sem,seval,↓reduceIte,EV.er,EV.nm,EV.kind,EV.tr,e0,e1])
    | (refine AW.region (by kernel_rfl) ?_;simp -implicitDefEqProofs only[go_sem,seval,↓reduceIte,EV.er,EV.nm,EV.kind,EV.tr,e0,e1])
    | refine Zv ?_
    | refine AW.block ?_
    | refine Zfa rfl ?_
    | refine Z8 rfl ?_
    | (refine AW.skip ?_;simp -implicitDefEqProofs only[go_sem,seval,↓reduceIte,EV.er,EV.nm,EV.kind,EV.tr,e0,e1])
    | (refine AW.exit ?_;simp -implicitDefEqProofs only[go_sem,seval,↓reduceIte,EV.er,EV.nm,EV.kind,EV.tr,e0,e1])
    | (refine AW.ret ?_;simp -implicitDefEqProofs only[go_sem,seval,↓reduceIte,EV.er,EV.nm,EV.kind,EV.tr,e0,e1];refine Zk ?_)
   exact hK1 _ () trivial (Zg (by simp -implicitDefEqProofs only[go_sem,seval,↓reduceIte,EV.er,EV.nm,EV.kind,EV.tr];try rfl) (by simp -implicitDefEqProofs only[go_sem,seval,↓reduceIte,EV.er,EV.nm,EV.kind,EV.tr];try rfl))
  | num v =>
   repeat first
    | (refine Z4 (by kernel_rfl) ?_;simp -implicitDefEqProofs only[go_sem,seval,↓reduceIte,EV.er,EV.nm,EV.kind,EV.tr])
    | (refine AW.region (by kernel_rfl) ?_;simp -implicitDefEqProofs only[go_sem,seval,↓reduceIte,EV.er,EV.nm,EV.kind,EV.tr])
    | refine Zv ?_
    | refine AW.block ?_
    | refine Zfa rfl ?_
    | refine Z8 rfl ?_
    | (refine AW.skip ?_;simp -implicitDefEqProofs only[go_sem,seval,↓reduceIte,EV.er,EV.nm,EV.kind,EV.tr])
    | (refine AW.exit ?_;simp -implicitDefEqProofs only[go_sem,seval,↓reduceIte,EV.er,EV.nm,EV.kind,EV.tr])
    | (refine AW.ret ?_;simp -implicitDefEqProofs only[go_sem,seval,↓reduceIte,EV.er,EV.nm,EV.kind,EV.tr];refine Zk ?_)
   exact hK1 _ () trivial (Zg (by simp -implicitDefEqProofs only[go_sem,seval,↓reduceIte,EV.er,EV.nm,EV.kind,EV.tr];try rfl) (by simp -implicitDefEqProofs only[go_sem,seval,↓reduceIte,EV.er,EV.nm,EV.kind,EV.tr];try rfl))
  | tru v =>
   repeat first
    | (refine Z4 (by kernel_rfl) ?_;simp -implicitDefEqProofs only[go_sem,seval,↓reduceIte,EV.er,EV.nm,EV.kind,EV.tr])
    | (refine AW.region (by kernel_rfl) ?_;simp -implicitDefEqProofs only[go_sem,seval,↓reduceIte,EV.er,EV.nm,EV.kind,EV.tr])
    | refine Zv ?_
    | refine AW.block ?_
    | refine Zfa rfl ?_
    | refine Z8 rfl ?_
    | (refine AW.skip ?_;simp -implicitDefEqProofs only[go_sem,seval,↓reduceIte,EV.er,EV.nm,EV.kind,EV.tr])
    | (refine AW.exit ?_;simp -implicitDefEqProofs only[go_sem,seval,↓reduceIte,EV.er,EV.nm,EV.kind,EV.tr])
    | (refine AW.ret ?_;simp -implicitDefEqProofs only[go_sem,seval,↓reduceIte,EV.er,EV.nm,EV.kind,EV.tr];refine Zk ?_)
   exact hK1 _ () trivial (Zg (by simp -implicitDefEqProofs only[go_sem,seval,↓reduceIte,EV.er,EV.nm,EV.kind,EV.tr];try rfl) (by simp -implicitDefEqProofs only[go_sem,seval,↓reduceIte,EV.er,EV.nm,EV.kind,EV.tr];try rfl))
 rintro _ -
 try clear hT hO
 refine Zi fun K2 hK2=>?_;refine Z ?_
 refine Z0a s.l.length (fun k (_:Unit)=>st [(1,Zb c2 2 Zea env),(2,.str nm),(3,.int .i64 n),(4,.ptr 4 g4 0),(14,.ptr 14 g14 0),(15,.int .i64 r.er),(16,.int .i64 k)] [(4,.cells .new g4 0 [Zb c 6 Zw s]),(14,.cells .new g14 0 [.int .u8 r.kind,.int .i64 r.nm,.bool r.tr])]) (fun k _=>∀ n∈s.l.take k,n.op=2→n.name≠nm) 0 () (Nat.zero_le _) (fun n h=>by cases h)
  (Zg zp zp) ?_
 intro k _ hk hR L3 hL3
 by_cases hk1:k<s.l.length
 ·have hlt:decide ((k:Int)<(s.l.length:Int))=true:=by simpa using hk1
  have hg:=List.getElem?_eq_getElem hk1
  have htk:s.l.take (k+1)=s.l.take k++[s.l[k]]:=by rw [List.take_succ_eq_append_getElem hk1]
  generalize s.l[k]=x at hg htk;have w1:IntKind.i64.wrap ((k:Int)+1)=(k:Int)+1:=w64 (by omega) (by omega)
  have go:¬ (x.op=2∧x.name=nm)→∀ n∈s.l.take (k+1),n.op=2→n.name≠nm:=by
   intro h n' hn';rw [htk,List.mem_append] at hn'
   rcases hn' with hn' | hn'
   ·exact hR n' hn'
   ·rw [List.mem_singleton] at hn'
    subst hn';exact fun h1 h2=>h ⟨h1,h2⟩
  by_cases h2:x.op=2
  ·have h2b:(x.op==2)=true:=by simpa using h2
   by_cases h3:x.name=nm
   ·have h3b:(x.name==nm)=true:=by simpa using h3
    refine Zf (zi hlt (zi hg (zi @Zj (zi hk1 (zi @Int.natCast_nonneg (zi @Int.ofNat_lt (zi h2b h3b))))))) ?_;refine Znf (zi @Za @Ze) hG ?_ (s:=(Z5 G hE));simp -implicitDefEqProofs only[go_sem,seval,↓reduceIte,List.map_nil];exact Zr
   ·have h3b:(x.name==nm)=false:=by simpa using h3
    refine Zf (zi hlt (zi hg (zi @Zj (zi hk1 (zi @Int.natCast_nonneg (zi @Int.ofNat_lt (zi h2b (zi h3b w1)))))))) ?_;exact hL3 _ ⟨hk1,(),go fun h=>h3 h.2,Zg zp zp⟩
  ·have h2b:(x.op==2)=false:=by simpa using h2
   refine Zf (zi hlt (zi hg (zi @Zj (zi hk1 (zi @Int.natCast_nonneg (zi @Int.ofNat_lt (zi h2b w1))))))) ?_;exact hL3 _ ⟨hk1,(),go fun h=>h2 h.1,Zg zp zp⟩
 have hke:k=s.l.length:=by omega
 subst hke
 have hlt:decide ((s.l.length:Int)<(s.l.length:Int))=false:=by simp
 rw [List.take_length] at hR;refine Zf hlt ?_;refine hK2 _ ?_
 try clear hK2 hL3 K2 L3 hlt hk
 have hI3:EvIn s (Znb ((nm,n)::env.l)):=⟨hI.hs,hI.hnm,hnum,by rw [Zma,List.length_cons];omega,by
  rw [Zma];intro p hp
  rcases List.mem_cons.1 hp with rfl | hp
  ·exact hn
  ·exact hf p hp⟩
 have hE1:=fun c c2=>Zbe G hE c c2 s _ hI3;simp only [Zma,Zi5 hR,hr] at hE1;refine Z1 ?_;intro ga;refine Z1f @Z2r ?_;refine ⟨Zab (by omega) (by omega),fun gb=>?_⟩;rw [Nat.add_comm 1 env.l.length];refine AW.weak (Z7 (fun o=>o==149) (l:=[(4,.ptr 4 g4 0),(14,.ptr 14 g14 0),(15,.int .i64 r.er),(17,Zb .new 2 Zea (Znb ((nm,n)::env.l)))]) (m:=[(4,.cells .new g4 0 [Zb c 6 Zw s]),(14,.cells .new g14 0 [.int .u8 r.kind,.int .i64 r.nm,.bool r.tr])]) ?_ ?_) ?_
 ·refine Zs ?_
  refine ⟨Zl _,Zl _,Zl _,?_⟩;exact Zog (f:=Zea) (l:=(nm,n)::env.l) (m:=2) (fz:=0) (c := .new) (g:=gb) rfl zp (fun _=>rfl)
 ·simp only [Zy,Z2,and_true]
  exact ⟨FzO.keep rfl zp,FzO.keep rfl zp⟩
 refine Z ?_;refine Znf (zi @Za @Ze) hG ?_ (s:=(hE1 _ _));simp -implicitDefEqProofs only[go_sem,seval,↓reduceIte,Zpa,Zka];intro g18;refine Zf @Bool.and_self ?_;refine Znf (zi @Za @Ze) hG ?_ (s:=(Z5 G hE));simp -implicitDefEqProofs only[go_sem,seval,↓reduceIte,List.map_nil];exact Zr
end Go.Hs
end

section
namespace Go.Hs
open Go.Proofs
set_option maxRecDepth 10000
set_option maxHeartbeats 1000000
def shN (d:Int) (n:XN):XN:=⟨n.op,n.num,n.name,if n.a≥0 then n.a+d else n.a,if n.b≥0 then n.b+d else n.b,if n.c≥0 then n.c+d else n.c⟩
theorem Zyk:∀ (x:X) (k d:Int),0≤k→(x.row k).map (shN d)=x.row (k+d)
 | .leaf op num name,k,d,_=>by simp [X.row,shN]
 | .un op a,k,d,hk=>by
  have:=a.size_pos
  have e1:(if (k+a.size-1:Int)≥0 then k+a.size-1+d else k+a.size-1)=k+d+a.size-1:=by rw [if_pos (by omega)];omega
  simp only [X.row,List.map_append,List.map_cons,List.map_nil,Zyk a k d hk,shN,e1];rfl
 | .bin op a b,k,d,hk=>by
  have:=a.size_pos;have:=b.size_pos
  have e1:(if (k+a.size-1:Int)≥0 then k+a.size-1+d else k+a.size-1)=k+d+a.size-1:=by rw [if_pos (by omega)];omega
  have e2:(if (k+a.size+b.size-1:Int)≥0 then k+a.size+b.size-1+d else k+a.size+b.size-1)=k+d+a.size+b.size-1:=by rw [if_pos (by omega)];omega
  simp only [X.row,List.map_append,List.map_cons,List.map_nil,Zyk a k d hk,Zyk b (k+a.size) d (by omega),shN,e1,e2,show k+a.size+d=k+d+a.size by omega];rfl
 | .ite a b c,k,d,hk=>by
  have:=a.size_pos;have:=b.size_pos;have:=c.size_pos
  have e1:(if (k+a.size-1:Int)≥0 then k+a.size-1+d else k+a.size-1)=k+d+a.size-1:=by rw [if_pos (by omega)];omega
  have e2:(if (k+a.size+b.size-1:Int)≥0 then k+a.size+b.size-1+d else k+a.size+b.size-1)=k+d+a.size+b.size-1:=by rw [if_pos (by omega)];omega
  have e3:(if (k+a.size+b.size+c.size-1:Int)≥0 then k+a.size+b.size+c.size-1+d else k+a.size+b.size+c.size-1)=k+d+a.size+b.size+c.size-1:=by rw [if_pos (by omega)];omega
  simp only [X.row,List.map_append,List.map_cons,List.map_nil,Zyk a k d hk,Zyk b (k+a.size) d (by omega),Zyk c (k+a.size+b.size) d (by omega),shN,e1,e2,e3,show k+a.size+d=k+d+a.size by omega,show k+a.size+b.size+d=k+d+a.size+b.size by omega]
def InB (m:Int) (n:XN):Prop:=(-1≤n.a∧n.a≤m)∧(-1≤n.b∧n.b≤m)∧(-1≤n.c∧n.c≤m)
theorem Zei:∀ (x:X) (k m:Int),0≤k→k+x.size≤m→∀ n∈x.row k,InB m n
 | .leaf op num name,k,m,hk,hm=>by
  intro n hn;rw [X.row,List.mem_singleton] at hn;subst hn
  have:(0:Int)≤((X.leaf op num name).size:Nat):=by omega
  simp only [InB];omega
 | .un op a,k,m,hk,hm=>by
  intro n hn;simp only [X.size] at hm;have:=a.size_pos;rw [X.row,List.mem_append,List.mem_singleton] at hn
  rcases hn with hn | hn
  ·exact Zei a k m hk (by omega) n hn
  ·subst hn;simp only [InB];omega
 | .bin op a b,k,m,hk,hm=>by
  intro n hn;simp only [X.size] at hm;have:=a.size_pos;have:=b.size_pos;rw [X.row,List.mem_append,List.mem_append,List.mem_singleton] at hn
  rcases hn with (hn | hn) | hn
  ·exact Zei a k m hk (by omega) n hn
  ·exact Zei b _ m (by omega) (by omega) n hn
  ·subst hn;simp only [InB];omega
 | .ite a b c,k,m,hk,hm=>by
  intro n hn;simp only [X.size] at hm;have:=a.size_pos;have:=b.size_pos;have:=c.size_pos;rw [X.row,List.mem_append,List.mem_append,List.mem_append,List.mem_singleton] at hn
  rcases hn with ((hn | hn) | hn) | hn
  ·exact Zei a k m hk (by omega) n hn
  ·exact Zei b _ m (by omega) (by omega) n hn
  ·exact Zei c _ m (by omega) (by omega) n hn
  ·subst hn;simp only [InB];omega
def Zyf (c:Col) (s:Sl XN):V := .agg [Zb c 6 Zw s]
theorem Z4g (c:Col) (s:Sl XN):Zyf c s = .agg [Zb c 6 Zw s]:=rfl
@[go_sem] theorem recol_exs (f:Col→Col) (c1 c:Col) (s:Sl (Sl XN)):(Zb c1 1 (Zyf c) s).recol f=Zb (f c1) 1 (Zyf (f c)) s:=Zue f c1 1 (fun x=>by simp only [Zyf,V.recol,Zqa,Za]) s
def plJ (xs:List X) (i j:Nat):Int:=if j<i then (Zub (xs.take (j+1)):Int)-1 else -1
theorem Zus (G:Nat→V) (hG:GOk G) (op:Int) (s:Sl (Sl XN)) (xs:List X) (hs:s.l.map Sl.l=xs.map fun x=>x.row 0) (h3:xs.length≤3) (hz:Zub xs<100000) :
  Spec Tryz.prog G 18 [.int .u8 op,Zb .old 1 (Zyf .old) s] Zu (fun v _=>v = .agg [Ztd .new (Z8f 0 xs++[⟨op,0,[],plJ xs xs.length 0,plJ xs xs.length 1,plJ xs xs.length 2⟩])]):=by
 have hl:s.l.length=xs.length:=by have:=congrArg List.length hs;simpa using this
 refine Z0j 0 93 [.cell 4 24] Tryz.func18 rfl rfl rfl rfl fun X0=>?_;refine Zi fun K hK=>AW.region (by kernel_rfl) ?_;simp -implicitDefEqProofs only[go_sem,seval,↓reduceIte];intro g4;refine hK _ ?_;clear hK K;refine Zi fun K hK=>AW.region (by kernel_rfl) ?_;simp -implicitDefEqProofs only[go_sem,seval,↓reduceIte];intro g5;refine hK _ ?_;clear hK K;refine Zi fun K hK=>AW.region (by kernel_rfl) ?_;simp -implicitDefEqProofs only[go_sem,seval,↓reduceIte];intro g11;refine hK _ ?_;clear hK K;refine Zi fun K1 hK1=>?_
 repeat first
  | (refine Z4 (by kernel_rfl) ?_;simp -implicitDefEqProofs only[go_sem,seval,↓reduceIte])
  | (refine AW.region (by kernel_rfl) ?_;simp -implicitDefEqProofs only[go_sem,seval,↓reduceIte])
  | refine Zv ?_
  | refine AW.block ?_
  | refine Zfa rfl ?_
  | refine Z8 rfl ?_
  | (refine AW.skip ?_;simp -implicitDefEqProofs only[go_sem,seval,↓reduceIte])
  | (refine AW.exit ?_;simp -implicitDefEqProofs only[go_sem,seval,↓reduceIte])
  | (refine AW.ret ?_;simp -implicitDefEqProofs only[go_sem,seval,↓reduceIte];refine Zk ?_)
 refine Z0a s.l.length (fun i (gx:Nat)=>st [(0,.int .u8 op),(1,Zb .old 1 (Zyf .old) s),(4,.ptr 4 g4 0),(5,.ptr 5 g5 0),(6,.msl 11 g11 0 3 1),(7,.int .i64 i)] [(4,.cells .new g4 0 [.nils]),(5,.cells .new g5 0 [grown 67 gx 6 (Z8f 0 (xs.take i))]),(11,.cells .new g11 0 [.int .i64 (plJ xs i 0),.int .i64 (plJ xs i 1),.int .i64 (plJ xs i 2)]),(67,Zfb gx Zw (Z8f 0 (xs.take i)))])
  (fun _ _=>True) 0 0 (Nat.zero_le _) trivial
  (Zg (by simp -implicitDefEqProofs only[go_sem,seval,↓reduceIte];try rfl) (by simp -implicitDefEqProofs only[go_sem,seval,↓reduceIte];first | rfl | exact ⟨rfl,rfl⟩ | exact ⟨rfl,rfl,rfl⟩)) ?_
 intro i gx hi _ L hL
 by_cases hi1:i<s.l.length
 ·have hlt:decide ((i:Int)<(s.l.length:Int))=true:=by simpa using hi1
  have hxi:i<xs.length:=by omega
  have hgi:=List.getElem?_eq_getElem hi1;have hgx:=List.getElem?_eq_getElem hxi
  have hrow:s.l[i].l=xs[i].row 0:=by
   have:=congrArg (fun l=>l[i]?) hs;simp only [List.getElem?_map,hgi,hgx,Option.map_some] at this;exact Option.some.inj this
  have htk:xs.take (i+1)=xs.take i++[xs[i]]:=by rw [List.take_succ_eq_append_getElem hxi]
  have hzz:Zub (xs.take (i+1))≤Zub xs:=by
   have:=Z6i (xs.take (i+1)) (xs.drop (i+1));rw [List.take_append_drop] at this;omega
  rw [htk,Z6i] at hzz;generalize s.l[i]=r at hgi hrow;generalize hxe:xs[i]=x at hgx hrow htk hzz
  have hx1:Zub [x]=x.size:=by simp [Zub]
  have hbl:(Z8f 0 (xs.take i)).length=Zub (xs.take i):=Z7f _ _
  have hrl:r.l.length=x.size:=by rw [hrow,X.row_len]
  refine Zi fun K2 hK2=>?_;refine Z4 (by kernel_rfl) ?_;simp -implicitDefEqProofs only[go_sem,seval,↓reduceIte,hlt];refine Zfa rfl ?_;refine AW.skip ?_;simp -implicitDefEqProofs only[go_sem,seval,↓reduceIte];refine hK2 _ ?_;refine Zi fun K3 hK3=>?_;refine AW.block ?_;refine Z4 (by kernel_rfl) ?_;simp -implicitDefEqProofs only[go_sem,seval,↓reduceIte];rw [hbl];generalize hby:Zub (xs.take i)=y at hbl hzz;generalize hA:Z8f 0 (xs.take i)=acc at hbl
  have hrow2:Z8f 0 (xs.take (i+1))=acc++r.l.map (shN y):=by
   rw [htk,Zkl,hA,hby,hrow,Zyk _ _ _ (Int.le_refl 0)];simp [Z8f]
  have hbn:∀ n∈r.l,InB x.size n:=by rw [hrow];exact Zei x 0 _ (Int.le_refl 0) (by omega)
  refine Zi fun K4 hK4=>?_
  repeat first
   | (refine Z4 (by kernel_rfl) ?_;simp -implicitDefEqProofs only[go_sem,seval,↓reduceIte])
   | (refine AW.region (by kernel_rfl) ?_;simp -implicitDefEqProofs only[go_sem,seval,↓reduceIte])
   | refine Zv ?_
   | refine AW.block ?_
   | refine Zfa rfl ?_
   | refine Z8 rfl ?_
   | (refine AW.skip ?_;simp -implicitDefEqProofs only[go_sem,seval,↓reduceIte])
   | (refine AW.exit ?_;simp -implicitDefEqProofs only[go_sem,seval,↓reduceIte])
   | (refine AW.ret ?_;simp -implicitDefEqProofs only[go_sem,seval,↓reduceIte];refine Zk ?_)
  refine Z0a r.l.length (fun k (gy:Nat)=>st [(0,.int .u8 op),(1,Zb .old 1 (Zyf .old) s),(4,.ptr 4 g4 0),(5,.ptr 5 g5 0),(6,.msl 11 g11 0 3 1),(7,.int .i64 i),(8,.int .i64 y),(9,.int .i64 k)] [(4,.cells .new g4 0 [.nils]),(5,.cells .new g5 0 [grown 67 gy 6 (acc++(r.l.take k).map (shN y))]),(11,.cells .new g11 0 [.int .i64 (plJ xs i 0),.int .i64 (plJ xs i 1),.int .i64 (plJ xs i 2)]),(67,Zfb gy Zw (acc++(r.l.take k).map (shN y)))])
   (fun _ _=>True) 0 gx (Nat.zero_le _) trivial
   (Zg (by simp -implicitDefEqProofs only[go_sem,seval,↓reduceIte];try rfl) (by simp -implicitDefEqProofs only[go_sem,seval,↓reduceIte,List.take_zero,List.map_nil,List.append_nil];try rfl)) ?_
  intro k gy hk _ L5 hL5
  by_cases hk1:k<r.l.length
  ·have hlt2:decide ((k:Int)<(r.l.length:Int))=true:=by simpa using hk1
   have hgn:=List.getElem?_eq_getElem hk1;have hmem:=hbn _ (List.getElem_mem hk1)
   have htn:(r.l.take (k+1)).map (shN y)=(r.l.take k).map (shN y)++[shN y r.l[k]]:=by rw [List.take_succ_eq_append_getElem hk1,List.map_append];rfl
   have hll:((r.l.take k).map (shN y)).length=k:=by rw [List.length_map,List.length_take];omega
   generalize r.l[k]=n at hgn hmem htn;obtain ⟨nop,num,name,na,nb,nc⟩:=n;obtain ⟨⟨a1,a2⟩,⟨b1,b2⟩,c1,c2⟩:=hmem;simp only at a1 a2 b1 b2 c1 c2;generalize (r.l.take k).map (shN y)=ns at htn hll ⊢;have w1:IntKind.i64.wrap ((k:Int)+1)=(k:Int)+1:=w64 (by omega) (by omega);have wa:IntKind.i64.wrap (na+(y:Int))=na+y:=w64 (by omega) (by omega);have wb:IntKind.i64.wrap (nb+(y:Int))=nb+y:=w64 (by omega) (by omega);have wc:IntKind.i64.wrap (nc+(y:Int))=nc+y:=w64 (by omega) (by omega);have hgi2:=hgi;refine Zi fun K6 hK6=>?_;refine Z4 (by kernel_rfl) ?_;simp -implicitDefEqProofs only[go_sem,seval,↓reduceIte,hk1,hgi,hi1,Int.natCast_nonneg,Int.ofNat_lt,Z4g];refine Zfa rfl ?_;refine AW.skip ?_;simp -implicitDefEqProofs only[go_sem,seval,↓reduceIte];refine hK6 _ ?_;refine Zi fun K7 hK7=>?_;refine AW.block ?_;refine Z4 (by kernel_rfl) ?_;simp -implicitDefEqProofs only[go_sem,seval,↓reduceIte,hgi,hi1,hgn,hk1,Int.natCast_nonneg,Int.ofNat_lt,Z4g,Zj];intro g10;refine AW.weak (Zg (l:=[(0,.int .u8 op),(1,Zb .old 1 (Zyf .old) s),(4,.ptr 4 g4 0),(5,.ptr 5 g5 0),(6,.msl 11 g11 0 3 1),(7,.int .i64 i),(8,.int .i64 y),(9,.int .i64 k),(10,.ptr 10 g10 0)]) (m:=[(4,.cells .new g4 0 [.nils]),(5,.cells .new g5 0 [grown 67 gy 6 (acc++ns)]),(11,.cells .new g11 0 [.int .i64 (plJ xs i 0),.int .i64 (plJ xs i 1),.int .i64 (plJ xs i 2)]),(67,Zfb gy Zw (acc++ns)),(10,.cells .new g10 0 [.int .u8 nop,.int .i64 num,.str name,.int .i64 na,.int .i64 nb,.int .i64 nc])]) (by simp -implicitDefEqProofs only[go_sem,seval,↓reduceIte];try rfl) (by simp -implicitDefEqProofs only[go_sem,seval,↓reduceIte];try rfl)) ?_
   refine Zyb (fun (_:Unit)=>st [(0,.int .u8 op),(1,Zb .old 1 (Zyf .old) s),(4,.ptr 4 g4 0),(5,.ptr 5 g5 0),(6,.msl 11 g11 0 3 1),(7,.int .i64 i),(8,.int .i64 y),(9,.int .i64 k),(10,.ptr 10 g10 0)] [(4,.cells .new g4 0 [.nils]),(5,.cells .new g5 0 [grown 67 gy 6 (acc++ns)]),(11,.cells .new g11 0 [.int .i64 (plJ xs i 0),.int .i64 (plJ xs i 1),.int .i64 (plJ xs i 2)]),(67,Zfb gy Zw (acc++ns)),(10,.cells .new g10 0 [.int .u8 nop,.int .i64 num,.str name,.int .i64 (if na≥0 then na+y else na),.int .i64 (nb),.int .i64 (nc)])]) (fun _=>True) (fun K8 hK8=>?_) ?_
   ·by_cases h:na≥0
    ·have hd:decide (na≥0)=true:=by simpa using h
     rw [if_pos h] at hK8
     repeat first
      | (refine Z4 (by kernel_rfl) ?_;simp -implicitDefEqProofs only[go_sem,seval,↓reduceIte,hd,wa])
      | (refine AW.region (by kernel_rfl) ?_;simp -implicitDefEqProofs only[go_sem,seval,↓reduceIte,hd,wa])
      | refine Zv ?_
      | refine AW.block ?_
      | refine Zfa rfl ?_
      | refine Z8 rfl ?_
      | (refine AW.skip ?_;simp -implicitDefEqProofs only[go_sem,seval,↓reduceIte,hd,wa])
      | (refine AW.exit ?_;simp -implicitDefEqProofs only[go_sem,seval,↓reduceIte,hd,wa])
      | (refine AW.ret ?_;simp -implicitDefEqProofs only[go_sem,seval,↓reduceIte,hd,wa];refine Zk ?_)
     exact hK8 _ () trivial (Zg (by simp -implicitDefEqProofs only[go_sem,seval,↓reduceIte];try rfl) (by simp -implicitDefEqProofs only[go_sem,seval,↓reduceIte];try rfl))
    ·have hd:decide (na≥0)=false:=by simpa using h
     rw [if_neg h] at hK8
     repeat first
      | (refine Z4 (by kernel_rfl) ?_;simp -implicitDefEqProofs only[go_sem,seval,↓reduceIte,hd])
      | (refine AW.region (by kernel_rfl) ?_;simp -implicitDefEqProofs only[go_sem,seval,↓reduceIte,hd])
      | refine Zv ?_
      | refine AW.block ?_
      | refine Zfa rfl ?_
      | refine Z8 rfl ?_
      | (refine AW.skip ?_;simp -implicitDefEqProofs only[go_sem,seval,↓reduceIte,hd])
      | (refine AW.exit ?_;simp -implicitDefEqProofs only[go_sem,seval,↓reduceIte,hd])
      | (refine AW.ret ?_;simp -implicitDefEqProofs only[go_sem,seval,↓reduceIte,hd];refine Zk ?_)
     exact hK8 _ () trivial (Zg (by simp -implicitDefEqProofs only[go_sem,seval,↓reduceIte];try rfl) (by simp -implicitDefEqProofs only[go_sem,seval,↓reduceIte];try rfl))
   rintro _ -;generalize hma:(if na≥0 then na+(y:Int) else na)=ma;refine Zyb (fun (_:Unit)=>st [(0,.int .u8 op),(1,Zb .old 1 (Zyf .old) s),(4,.ptr 4 g4 0),(5,.ptr 5 g5 0),(6,.msl 11 g11 0 3 1),(7,.int .i64 i),(8,.int .i64 y),(9,.int .i64 k),(10,.ptr 10 g10 0)] [(4,.cells .new g4 0 [.nils]),(5,.cells .new g5 0 [grown 67 gy 6 (acc++ns)]),(11,.cells .new g11 0 [.int .i64 (plJ xs i 0),.int .i64 (plJ xs i 1),.int .i64 (plJ xs i 2)]),(67,Zfb gy Zw (acc++ns)),(10,.cells .new g10 0 [.int .u8 nop,.int .i64 num,.str name,.int .i64 (ma),.int .i64 (if nb≥0 then nb+y else nb),.int .i64 (nc)])]) (fun _=>True) (fun K8 hK8=>?_) ?_
   ·by_cases h:nb≥0
    ·have hd:decide (nb≥0)=true:=by simpa using h
     rw [if_pos h] at hK8
     repeat first
      | (refine Z4 (by kernel_rfl) ?_;simp -implicitDefEqProofs only[go_sem,seval,↓reduceIte,hd,wb])
      | (refine AW.region (by kernel_rfl) ?_;simp -implicitDefEqProofs only[go_sem,seval,↓reduceIte,hd,wb])
      | refine Zv ?_
      | refine AW.block ?_
      | refine Zfa rfl ?_
      | refine Z8 rfl ?_
      | (refine AW.skip ?_;simp -implicitDefEqProofs only[go_sem,seval,↓reduceIte,hd,wb])
      | (refine AW.exit ?_;simp -implicitDefEqProofs only[go_sem,seval,↓reduceIte,hd,wb])
      | (refine AW.ret ?_;simp -implicitDefEqProofs only[go_sem,seval,↓reduceIte,hd,wb];refine Zk ?_)
     exact hK8 _ () trivial (Zg (by simp -implicitDefEqProofs only[go_sem,seval,↓reduceIte];try rfl) (by simp -implicitDefEqProofs only[go_sem,seval,↓reduceIte];try rfl))
    ·have hd:decide (nb≥0)=false:=by simpa using h
     rw [if_neg h] at hK8
     repeat first
      | (refine Z4 (by kernel_rfl) ?_;simp -implicitDefEqProofs only[go_sem,seval,↓reduceIte,hd])
      | (refine AW.region (by kernel_rfl) ?_;simp -implicitDefEqProofs only[go_sem,seval,↓reduceIte,hd])
      | refine Zv ?_
      | refine AW.block ?_
      | refine Zfa rfl ?_
      | refine Z8 rfl ?_
      | (refine AW.skip ?_;simp -implicitDefEqProofs only[go_sem,seval,↓reduceIte,hd])
      | (refine AW.exit ?_;simp -implicitDefEqProofs only[go_sem,seval,↓reduceIte,hd])
      | (refine AW.ret ?_;simp -implicitDefEqProofs only[go_sem,seval,↓reduceIte,hd];refine Zk ?_)
     exact hK8 _ () trivial (Zg (by simp -implicitDefEqProofs only[go_sem,seval,↓reduceIte];try rfl) (by simp -implicitDefEqProofs only[go_sem,seval,↓reduceIte];try rfl))
   rintro _ -;generalize hmb:(if nb≥0 then nb+(y:Int) else nb)=mb;refine Zyb (fun (_:Unit)=>st [(0,.int .u8 op),(1,Zb .old 1 (Zyf .old) s),(4,.ptr 4 g4 0),(5,.ptr 5 g5 0),(6,.msl 11 g11 0 3 1),(7,.int .i64 i),(8,.int .i64 y),(9,.int .i64 k),(10,.ptr 10 g10 0)] [(4,.cells .new g4 0 [.nils]),(5,.cells .new g5 0 [grown 67 gy 6 (acc++ns)]),(11,.cells .new g11 0 [.int .i64 (plJ xs i 0),.int .i64 (plJ xs i 1),.int .i64 (plJ xs i 2)]),(67,Zfb gy Zw (acc++ns)),(10,.cells .new g10 0 [.int .u8 nop,.int .i64 num,.str name,.int .i64 (ma),.int .i64 (mb),.int .i64 (if nc≥0 then nc+y else nc)])]) (fun _=>True) (fun K8 hK8=>?_) ?_
   ·by_cases h:nc≥0
    ·have hd:decide (nc≥0)=true:=by simpa using h
     rw [if_pos h] at hK8
     repeat first
      | (refine Z4 (by kernel_rfl) ?_;simp -implicitDefEqProofs only[go_sem,seval,↓reduceIte,hd,wc])
      | (refine AW.region (by kernel_rfl) ?_;simp -implicitDefEqProofs only[go_sem,seval,↓reduceIte,hd,wc])
      | refine Zv ?_
      | refine AW.block ?_
      | refine Zfa rfl ?_
      | refine Z8 rfl ?_
      | (refine AW.skip ?_;simp -implicitDefEqProofs only[go_sem,seval,↓reduceIte,hd,wc])
      | (refine AW.exit ?_;simp -implicitDefEqProofs only[go_sem,seval,↓reduceIte,hd,wc])
      | (refine AW.ret ?_;simp -implicitDefEqProofs only[go_sem,seval,↓reduceIte,hd,wc];refine Zk ?_)
     exact hK8 _ () trivial (Zg (by simp -implicitDefEqProofs only[go_sem,seval,↓reduceIte];try rfl) (by simp -implicitDefEqProofs only[go_sem,seval,↓reduceIte];try rfl))
    ·have hd:decide (nc≥0)=false:=by simpa using h
     rw [if_neg h] at hK8
     repeat first
      | (refine Z4 (by kernel_rfl) ?_;simp -implicitDefEqProofs only[go_sem,seval,↓reduceIte,hd])
      | (refine AW.region (by kernel_rfl) ?_;simp -implicitDefEqProofs only[go_sem,seval,↓reduceIte,hd])
      | refine Zv ?_
      | refine AW.block ?_
      | refine Zfa rfl ?_
      | refine Z8 rfl ?_
      | (refine AW.skip ?_;simp -implicitDefEqProofs only[go_sem,seval,↓reduceIte,hd])
      | (refine AW.exit ?_;simp -implicitDefEqProofs only[go_sem,seval,↓reduceIte,hd])
      | (refine AW.ret ?_;simp -implicitDefEqProofs only[go_sem,seval,↓reduceIte,hd];refine Zk ?_)
     exact hK8 _ () trivial (Zg (by simp -implicitDefEqProofs only[go_sem,seval,↓reduceIte];try rfl) (by simp -implicitDefEqProofs only[go_sem,seval,↓reduceIte];try rfl))
   rintro _ -;generalize hmc:(if nc≥0 then nc+(y:Int) else nc)=mc
   have hsh:shN y ⟨nop,num,name,na,nb,nc⟩=⟨nop,num,name,ma,mb,mc⟩:=by simp only [shN,hma,hmb,hmc]
   rw [hsh] at htn
   repeat first
    | (refine Z4 (by kernel_rfl) ?_;simp -implicitDefEqProofs only[go_sem,seval,↓reduceIte])
    | (refine AW.region (by kernel_rfl) ?_;simp -implicitDefEqProofs only[go_sem,seval,↓reduceIte])
    | refine Zv ?_
    | refine AW.block ?_
    | refine Zfa rfl ?_
    | refine Z8 rfl ?_
    | (refine AW.skip ?_;simp -implicitDefEqProofs only[go_sem,seval,↓reduceIte])
    | (refine AW.exit ?_;simp -implicitDefEqProofs only[go_sem,seval,↓reduceIte])
    | (refine AW.ret ?_;simp -implicitDefEqProofs only[go_sem,seval,↓reduceIte];refine Zk ?_)
   intro g66;refine Zlc (f:=Zw) (l:=acc++ns) (l2:=[⟨nop,num,name,ma,mb,mc⟩]) (g:=gy) Zkc rfl rfl rfl (by simp -implicitDefEqProofs only[go_sem,seval,↓reduceIte];try rfl) (Zab (by omega) (by simp;omega)) fun g2=>?_;rw [List.append_assoc,← htn];simp -implicitDefEqProofs only[go_sem,seval,↓reduceIte];refine hK7 _ ?_
   repeat first
    | (refine Z4 (by kernel_rfl) ?_;simp -implicitDefEqProofs only[go_sem,seval,↓reduceIte,w1])
    | (refine AW.region (by kernel_rfl) ?_;simp -implicitDefEqProofs only[go_sem,seval,↓reduceIte,w1])
    | refine Zv ?_
    | refine AW.block ?_
    | refine Zfa rfl ?_
    | refine Z8 rfl ?_
    | (refine AW.skip ?_;simp -implicitDefEqProofs only[go_sem,seval,↓reduceIte,w1])
    | (refine AW.exit ?_;simp -implicitDefEqProofs only[go_sem,seval,↓reduceIte,w1])
    | (refine AW.ret ?_;simp -implicitDefEqProofs only[go_sem,seval,↓reduceIte,w1];refine Zk ?_)
   exact hL5 _ ⟨hk1,g2,trivial,Zg (by simp -implicitDefEqProofs only[go_sem,seval,↓reduceIte];try rfl) (by simp -implicitDefEqProofs only[go_sem,seval,↓reduceIte];try rfl)⟩
  have hke:k=r.l.length:=by omega
  subst hke;refine Zi fun K6 hK6=>?_;refine Z4 (by kernel_rfl) ?_;simp -implicitDefEqProofs only[go_sem,seval,↓reduceIte,hgi,hi1,Int.natCast_nonneg,Int.ofNat_lt,Z4g,Nat.lt_irrefl];refine Z8 rfl ?_;refine AW.exit ?_;simp -implicitDefEqProofs only[go_sem,seval,↓reduceIte];refine hK4 _ ?_;rw [List.take_length,← hrow2];have hL2:(Z8f 0 (xs.take (i+1))).length=Zub (xs.take (i+1)):=Z7f _ _
  have hSz:Zub (xs.take (i+1))=y+x.size:=by rw [htk,Z6i,hby,hx1]
  have hw:IntKind.i64.wrap (((Zub (xs.take (i+1)):Nat):Int)-1)=((Zub (xs.take (i+1)):Nat):Int)-1:=w64 (by omega) (by omega);have w1:IntKind.i64.wrap ((i:Int)+1)=(i:Int)+1:=w64 (by omega) (by omega);have z0:((0:Nat):Int)=0:=rfl;have z1:((1:Nat):Int)=1:=rfl;have z2:((2:Nat):Int)=2:=rfl;refine AW.weak (Zg (l:=[(0,.int .u8 op),(1,Zb .old 1 (Zyf .old) s),(4,.ptr 4 g4 0),(5,.ptr 5 g5 0),(6,.msl 11 g11 0 3 1),(7,.int .i64 i)]) (m:=[(4,.cells .new g4 0 [.nils]),(5,.cells .new g5 0 [grown 67 gy 6 (Z8f 0 (xs.take (i+1)))]),(11,.cells .new g11 0 [.int .i64 (plJ xs i 0),.int .i64 (plJ xs i 1),.int .i64 (plJ xs i 2)]),(67,Zfb gy Zw (Z8f 0 (xs.take (i+1))))]) (by simp -implicitDefEqProofs only[go_sem,seval,↓reduceIte];try rfl) (by simp -implicitDefEqProofs only[go_sem,seval,↓reduceIte];try rfl)) ?_;clear hL5 hK4 hK6 hrow2
  obtain rfl | rfl | rfl:i=0∨i=1∨i=2:=by omega
  ·repeat first
    | (refine Z4 (by kernel_rfl) ?_;simp -implicitDefEqProofs only[go_sem,seval,↓reduceIte,hL2,hw,z0])
    | (refine AW.region (by kernel_rfl) ?_;simp -implicitDefEqProofs only[go_sem,seval,↓reduceIte,hL2,hw,z0])
    | refine Zv ?_
    | refine AW.block ?_
    | refine Zfa rfl ?_
    | refine Z8 rfl ?_
    | (refine AW.skip ?_;simp -implicitDefEqProofs only[go_sem,seval,↓reduceIte,hL2,hw,z0])
    | (refine AW.exit ?_;simp -implicitDefEqProofs only[go_sem,seval,↓reduceIte,hL2,hw,z0])
    | (refine AW.ret ?_;simp -implicitDefEqProofs only[go_sem,seval,↓reduceIte,hL2,hw,z0];refine Zk ?_)
   refine hK3 _ ?_
   repeat first
    | (refine Z4 (by kernel_rfl) ?_;simp -implicitDefEqProofs only[go_sem,seval,↓reduceIte,w1])
    | (refine AW.region (by kernel_rfl) ?_;simp -implicitDefEqProofs only[go_sem,seval,↓reduceIte,w1])
    | refine Zv ?_
    | refine AW.block ?_
    | refine Zfa rfl ?_
    | refine Z8 rfl ?_
    | (refine AW.skip ?_;simp -implicitDefEqProofs only[go_sem,seval,↓reduceIte,w1])
    | (refine AW.exit ?_;simp -implicitDefEqProofs only[go_sem,seval,↓reduceIte,w1])
    | (refine AW.ret ?_;simp -implicitDefEqProofs only[go_sem,seval,↓reduceIte,w1];refine Zk ?_)
   exact hL _ ⟨hi1,gy,trivial,Zg (by simp -implicitDefEqProofs only[go_sem,seval,↓reduceIte];exact congrArg (V.int .i64) (by decide)) (by simp -implicitDefEqProofs only[go_sem,seval,↓reduceIte];try rfl)⟩
  ·repeat first
    | (refine Z4 (by kernel_rfl) ?_;simp -implicitDefEqProofs only[go_sem,seval,↓reduceIte,hL2,hw,z1])
    | (refine AW.region (by kernel_rfl) ?_;simp -implicitDefEqProofs only[go_sem,seval,↓reduceIte,hL2,hw,z1])
    | refine Zv ?_
    | refine AW.block ?_
    | refine Zfa rfl ?_
    | refine Z8 rfl ?_
    | (refine AW.skip ?_;simp -implicitDefEqProofs only[go_sem,seval,↓reduceIte,hL2,hw,z1])
    | (refine AW.exit ?_;simp -implicitDefEqProofs only[go_sem,seval,↓reduceIte,hL2,hw,z1])
    | (refine AW.ret ?_;simp -implicitDefEqProofs only[go_sem,seval,↓reduceIte,hL2,hw,z1];refine Zk ?_)
   refine hK3 _ ?_
   repeat first
    | (refine Z4 (by kernel_rfl) ?_;simp -implicitDefEqProofs only[go_sem,seval,↓reduceIte,w1])
    | (refine AW.region (by kernel_rfl) ?_;simp -implicitDefEqProofs only[go_sem,seval,↓reduceIte,w1])
    | refine Zv ?_
    | refine AW.block ?_
    | refine Zfa rfl ?_
    | refine Z8 rfl ?_
    | (refine AW.skip ?_;simp -implicitDefEqProofs only[go_sem,seval,↓reduceIte,w1])
    | (refine AW.exit ?_;simp -implicitDefEqProofs only[go_sem,seval,↓reduceIte,w1])
    | (refine AW.ret ?_;simp -implicitDefEqProofs only[go_sem,seval,↓reduceIte,w1];refine Zk ?_)
   exact hL _ ⟨hi1,gy,trivial,Zg (by simp -implicitDefEqProofs only[go_sem,seval,↓reduceIte];exact congrArg (V.int .i64) (by decide)) (by simp -implicitDefEqProofs only[go_sem,seval,↓reduceIte];try rfl)⟩
  ·repeat first
    | (refine Z4 (by kernel_rfl) ?_;simp -implicitDefEqProofs only[go_sem,seval,↓reduceIte,hL2,hw,z2])
    | (refine AW.region (by kernel_rfl) ?_;simp -implicitDefEqProofs only[go_sem,seval,↓reduceIte,hL2,hw,z2])
    | refine Zv ?_
    | refine AW.block ?_
    | refine Zfa rfl ?_
    | refine Z8 rfl ?_
    | (refine AW.skip ?_;simp -implicitDefEqProofs only[go_sem,seval,↓reduceIte,hL2,hw,z2])
    | (refine AW.exit ?_;simp -implicitDefEqProofs only[go_sem,seval,↓reduceIte,hL2,hw,z2])
    | (refine AW.ret ?_;simp -implicitDefEqProofs only[go_sem,seval,↓reduceIte,hL2,hw,z2];refine Zk ?_)
   refine hK3 _ ?_
   repeat first
    | (refine Z4 (by kernel_rfl) ?_;simp -implicitDefEqProofs only[go_sem,seval,↓reduceIte,w1])
    | (refine AW.region (by kernel_rfl) ?_;simp -implicitDefEqProofs only[go_sem,seval,↓reduceIte,w1])
    | refine Zv ?_
    | refine AW.block ?_
    | refine Zfa rfl ?_
    | refine Z8 rfl ?_
    | (refine AW.skip ?_;simp -implicitDefEqProofs only[go_sem,seval,↓reduceIte,w1])
    | (refine AW.exit ?_;simp -implicitDefEqProofs only[go_sem,seval,↓reduceIte,w1])
    | (refine AW.ret ?_;simp -implicitDefEqProofs only[go_sem,seval,↓reduceIte,w1];refine Zk ?_)
   exact hL _ ⟨hi1,gy,trivial,Zg (by simp -implicitDefEqProofs only[go_sem,seval,↓reduceIte];exact congrArg (V.int .i64) (by decide)) (by simp -implicitDefEqProofs only[go_sem,seval,↓reduceIte];try rfl)⟩
 obtain rfl:i=xs.length:=by omega
 have hlt:decide ((xs.length:Int)<(s.l.length:Int))=false:=by rw [hl];simp
 refine Zi fun K6 hK6=>?_;refine Z4 (by kernel_rfl) ?_;simp -implicitDefEqProofs only[go_sem,seval,↓reduceIte,hlt];refine Z8 rfl ?_;refine AW.exit ?_;simp -implicitDefEqProofs only[go_sem,seval,↓reduceIte];refine hK1 _ ?_;rw [List.take_length];have hrl:(Z8f 0 xs).length=Zub xs:=Z7f _ _;generalize hp0:plJ xs xs.length 0=p0;generalize hp1:plJ xs xs.length 1=p1;generalize hp2:plJ xs xs.length 2=p2;generalize Z8f 0 xs=acc at hrl ⊢;clear hL hK6 hK1;refine AW.weak (Z7 (fun o=>o==11) (l:=[(0,.int .u8 op),(4,.ptr 4 g4 0),(5,.ptr 5 g5 0),(6,Zb .new 1 (V.int .i64) (.mk false [p0,p1,p2]))]) (m:=[(4,.cells .new g4 0 [.nils]),(5,.cells .new g5 0 [grown 67 gx 6 acc]),(67,Zfb gx Zw acc)]) ?_ ?_) ?_
 ·simp -implicitDefEqProofs only[go_sem,seval,↓reduceIte]
  refine ⟨Zl _,Zl _,Zl _,?_⟩;exact Zog (f:=V.int .i64) (l:=[p0,p1,p2]) (m:=1) (fz:=0) (c := .new) (g:=g11) rfl (by simp -implicitDefEqProofs only[go_sem,seval,↓reduceIte];rfl) (fun _=>rfl)
 ·simp only [Zy,Z2,and_true]
  exact ⟨FzO.keep rfl (by simp -implicitDefEqProofs only[go_sem,seval,↓reduceIte];try rfl),FzO.keep rfl (by simp -implicitDefEqProofs only[go_sem,seval,↓reduceIte];try rfl),FzO.keep rfl (by simp -implicitDefEqProofs only[go_sem,seval,↓reduceIte];try rfl)⟩
 have q0:([p0,p1,p2]:List Int)[0]? = some p0:=rfl;have q1:([p0,p1,p2]:List Int)[1]? = some p1:=rfl;have q2:([p0,p1,p2]:List Int)[2]? = some p2:=rfl;refine Zi fun K hK=>Zx ⟨fun _ => .top,fun _ => .pure⟩ (by kernel_rfl) hG (by kernel_rfl) (by kernel_rfl) ?_;simp -implicitDefEqProofs only[go_sem,seval,↓reduceIte,q0,q1,q2];intro g89;refine Zkz (f:=Zw) (l:=acc) (l2:=[⟨op,0,[],p0,p1,p2⟩]) (o:=67) (g:=gx) Zkc rfl rfl rfl (by simp -implicitDefEqProofs only[go_sem,seval,↓reduceIte];try rfl) (Zab (by omega) (by simp;omega)) fun o2 gb ho2=>?_
 have ho2:o2=67∨o2=90:=by
  rcases ho2 with h | h
  ·exact .inl h
  ·exact .inr (h.trans (Nat.zero_add 90))
 have hne4:o2≠4:=by omega
 have hne5:o2≠5:=by omega
 have hne67:(67:Nat)=o2∨(67:Nat)≠o2:=by omega
 generalize hLe:acc++[⟨op,0,[],p0,p1,p2⟩]=L;simp -implicitDefEqProofs only[go_sem,seval,↓reduceIte,hne4,hne5,hne4.symm,hne5.symm];refine hK _ ?_;clear hK K
 have hF4:(decide (o2=4))=false:=by simpa using hne4
 have hF5:(decide (o2=5))=false:=by simpa using hne5
 refine AW.weak (Z7 (fun o=>decide (o2=o)) (l:=[(4,.ptr 4 g4 0),(5,.ptr 5 g5 0)]) (m:=[(4,.cells .new g4 0 [.nils]),(5,.cells .new g5 0 [Ztd .new L])]) ?_ ?_) ?_
 ·simp -implicitDefEqProofs only[go_sem,seval,↓reduceIte]
  exact ⟨Zl _,Zl _⟩
 ·simp only [Zy,Z2,and_true]
  refine ⟨FzO.keep hF4 (by simp -implicitDefEqProofs only[go_sem,seval,↓reduceIte,hne4,hne4.symm];try rfl),?_⟩;refine Zqx (cs:=[grown o2 gb 6 L]) hF5 (by simp -implicitDefEqProofs only[go_sem,seval,↓reduceIte,hne5,hne5.symm];try rfl) ⟨?_,trivial⟩;exact Zpd (by simp) (by simp -implicitDefEqProofs only[go_sem,seval,↓reduceIte];exact if_neg hne5) Zkc
 repeat first
  | (refine Z4 (by kernel_rfl) ?_;simp -implicitDefEqProofs only[go_sem,seval,↓reduceIte,Ztd])
  | (refine AW.region (by kernel_rfl) ?_;simp -implicitDefEqProofs only[go_sem,seval,↓reduceIte,Ztd])
  | refine Zv ?_
  | refine AW.block ?_
  | refine Zfa rfl ?_
  | refine Z8 rfl ?_
  | (refine AW.skip ?_;simp -implicitDefEqProofs only[go_sem,seval,↓reduceIte,Ztd])
  | (refine AW.exit ?_;simp -implicitDefEqProofs only[go_sem,seval,↓reduceIte,Ztd])
  | (refine AW.ret ?_;simp -implicitDefEqProofs only[go_sem,seval,↓reduceIte,Ztd];refine Zk ?_)
 rw [hLe]
end Go.Hs
end

section
namespace Go.Hs
open Go.Proofs
set_option maxRecDepth 10000
set_option maxHeartbeats 1000000
theorem Zb4 (a b:X) (op:Int):Z8f 0 [a,b]++[⟨op,0,[],plJ [a,b] [a,b].length 0,plJ [a,b] [a,b].length 1,plJ [a,b] [a,b].length 2⟩]=(X.bin op a b).row 0:=by
 have e0:plJ [a,b] 2 0=0+a.size-1:=by simp [plJ,Zub]
 have e1:plJ [a,b] 2 1=0+a.size+b.size-1:=by simp [plJ,Zub]
 have e2:plJ [a,b] 2 2 = -1:=rfl
 show Z8f 0 [a,b]++[⟨op,0,[],plJ [a,b] 2 0,plJ [a,b] 2 1,plJ [a,b] 2 2⟩]=_
 rw [e0,e1,e2];simp [Z8f,X.row]
theorem Z5x (a b c:X):Z8f 0 [a,b,c]++[⟨22,0,[],plJ [a,b,c] [a,b,c].length 0,plJ [a,b,c] [a,b,c].length 1,plJ [a,b,c] [a,b,c].length 2⟩]=(X.ite a b c).row 0:=by
 have e0:plJ [a,b,c] 3 0=0+a.size-1:=by simp [plJ,Zub]
 have e1:plJ [a,b,c] 3 1=0+a.size+b.size-1:=by simp [plJ,Zub]
 have e2:plJ [a,b,c] 3 2=0+a.size+b.size+c.size-1:=by simp [plJ,Zub];omega
 show Z8f 0 [a,b,c]++[⟨22,0,[],plJ [a,b,c] 3 0,plJ [a,b,c] 3 1,plJ [a,b,c] 3 2⟩]=_
 rw [e0,e1,e2];simp [Z8f,X.row]
theorem Z4f {l:List XN} (h:Zia l≥1) (h2:Zia l<64):∃ x:X,x.ok=true∧l=x.row 0∧x.depth<64∧Zaa (x.row 0)=0:=by
 have hc:Zaa l=0:=by
  unfold Zaa;rw [if_neg (by omega),if_neg (by omega)]
 obtain ⟨x,hx,rfl⟩:=Zsc hc;rw [Z8g hx] at h2;exact ⟨x,hx,rfl,by omega,hc⟩
theorem Zix {x:X} (hx:x.ok=true) (hd:x.depth≤64):Zaa (x.row 0)=0:=by
 have:=x.depth_pos;unfold Zaa;rw [Z8g hx,if_neg (by omega),if_neg (by omega)]
theorem row_any {P:XN→Prop} (hP:∀ n d,P n→P (shN d n)) {x:X} (h:∀ n∈x.row 0,P n) (k:Int):∀ n∈x.row k,P n:=by
 intro n hn;rw [← Int.zero_add k,← Zyk x 0 k (Int.le_refl 0)] at hn;obtain ⟨m,hm,rfl⟩:=List.mem_map.1 hn;exact hP m k (h m hm)
def PN (n:XN):Prop:=n.name.length<100000∧Z0b n.num=true
theorem pn_sh (n:XN) (d:Int) (h:PN n):PN (shN d n):=h
theorem pn_of {s:Sl XN} {env:Sl (List UInt8 × Int)} (h:EvIn s env) {x:X} (hx:s.l=x.row 0):∀ k,∀ n∈x.row k,PN n :=
 fun k=>row_any pn_sh (fun n hn=>⟨h.hnm n (hx ▸ hn),h.hnum n (hx ▸ hn)⟩) k
theorem Zgx {x:X} {env:Sl (List UInt8 × Int)} (h:∀ n∈x.row 0,PN n) (hz:x.size<1000000) (hv:env.l.length<1000000) (hf:∀ p∈env.l,Z0b p.2=true):EvIn (Znb (x.row 0)) env :=
 ⟨by rw [Zma,X.row_len];exact hz,by rw [Zma];exact fun n hn=>(h n hn).1,by rw [Zma];exact fun n hn=>(h n hn).2,hv,hf⟩
theorem pn_bin {xa xb:X} {op:Int} (ha:∀ k,∀ n∈xa.row k,PN n) (hb:∀ k,∀ n∈xb.row k,PN n):∀ n∈(X.bin op xa xb).row 0,PN n:=by
 intro n hn;rw [X.row,List.mem_append,List.mem_append,List.mem_singleton] at hn
 rcases hn with (hn | hn) | rfl
 ·exact ha _ n hn
 ·exact hb _ n hn
 ·exact ⟨show (0:Nat)<100000 by decide,show Z0b 0=true by decide⟩
theorem pn_ite {xa xb xc:X} (ha:∀ k,∀ n∈xa.row k,PN n) (hb:∀ k,∀ n∈xb.row k,PN n) (hc:∀ k,∀ n∈xc.row k,PN n):∀ n∈(X.ite xa xb xc).row 0,PN n:=by
 intro n hn;rw [X.row,List.mem_append,List.mem_append,List.mem_append,List.mem_singleton] at hn
 rcases hn with ((hn | hn) | hn) | rfl
 ·exact ha _ n hn
 ·exact hb _ n hn
 ·exact hc _ n hn
 ·exact ⟨show (0:Nat)<100000 by decide,show Z0b 0=true by decide⟩
def Z7o (s:Sl XN):Prop:=Zia s.l≥1∧Zia s.l<64
theorem Zci (G:Nat→V) (hE:GExp G) (a b c:Sl XN) (env:Sl (List UInt8 × Int)) (na:∀ n∈a.l,Z0b n.num=true) (nb:∀ n∈b.l,Z0b n.num=true) (nc:∀ n∈c.l,Z0b n.num=true) (hf:∀ p∈env.l,Z0b p.2=true) :
  Spec Tryz.prog G 3 [.agg [Zb .old 6 Zw a],.agg [Zb .old 6 Zw b],.agg [Zb .old 6 Zw c],Zb .old 2 Zea env] Zu (fun v _=>v = .bool true):=by
 have hG:=hE.ok;refine Zo 0 185 [.tmp 8] Tryz.func3 fun X0=>?_;refine Z1 ?_;intro g4 g5 g6;refine Zi fun K1 hK1=>?_;refine Z ?_;refine CallA.pure hG (by kernel_rfl) ?_;refine Zsf (zi @Za @Ze) ?_;refine (Zqg G hG _ _ a env).mono ?_;rintro _ _ ⟨b1,rfl,hb1⟩;cases b1
 ·refine Zsf (zi @Bool.not_true @Bool.not_false) ?_
  refine Z ?_;refine Znf (zi @Za @Ze) hG ?_ (s:=(Z5 G hE));simp -implicitDefEqProofs only[go_sem,seval,↓reduceIte,List.map_nil];exact Zr
 have fa:=hb1 rfl
 try clear hb1
 refine Zsf (zi @Bool.not_true @Bool.not_false) ?_;refine CallA.pure hG (by kernel_rfl) ?_;refine Zsf (zi @Za @Ze) ?_;refine (Zqg G hG _ _ b env).mono ?_;rintro _ _ ⟨b1,rfl,hb1⟩;cases b1
 ·refine Zsf (zi @Bool.not_true @Bool.not_false) ?_
  refine Z ?_;refine Znf (zi @Za @Ze) hG ?_ (s:=(Z5 G hE));simp -implicitDefEqProofs only[go_sem,seval,↓reduceIte,List.map_nil];exact Zr
 have fb:=hb1 rfl
 try clear hb1
 refine Zsf (zi @Bool.not_true @Bool.not_false) ?_;refine CallA.pure hG (by kernel_rfl) ?_;refine Zsf (zi @Za @Ze) ?_;refine (Zqg G hG _ _ c env).mono ?_;rintro _ _ ⟨b1,rfl,hb1⟩;cases b1
 ·refine Zsf (zi @Bool.not_true @Bool.not_false) ?_
  refine Z ?_;refine Znf (zi @Za @Ze) hG ?_ (s:=(Z5 G hE));simp -implicitDefEqProofs only[go_sem,seval,↓reduceIte,List.map_nil];exact Zr
 have fc:=hb1 rfl
 try clear hb1
 refine Zsf (zi @Bool.not_true @Bool.not_false) ?_;have ws:IntKind.i64.wrap ((a.l.length:Int)+b.l.length)=(a.l.length:Int)+b.l.length:=w64 (by have:=fa.1;omega) (by have:=fa.1;have:=fb.1;omega);have ws2:IntKind.i64.wrap ((a.l.length:Int)+b.l.length+c.l.length)=(a.l.length:Int)+b.l.length+c.l.length:=w64 (by omega) (by have:=fa.1;have:=fb.1;have:=fc.1;omega);have hIa:EvIn a env:=⟨by have:=fa.1;omega,fun n hn=>by have:=fa.2.2.1 n hn;omega,na,by have:=fa.2.1;omega,hf⟩;have hIb:EvIn b env:=⟨by have:=fb.1;omega,fun n hn=>by have:=fb.2.2.1 n hn;omega,nb,by have:=fa.2.1;omega,hf⟩;have hIc:EvIn c env:=⟨by have:=fc.1;omega,fun n hn=>by have:=fc.2.2.1 n hn;omega,nc,by have:=fa.2.1;omega,hf⟩
 by_cases hsum:(a.l.length:Int)+b.l.length+c.l.length > 180
 ·have hd:decide ((a.l.length:Int)+b.l.length+c.l.length > 180)=true:=by simpa using hsum
  refine Zsf (zi ws (zi ws2 hd)) ?_;refine Z ?_;refine Znf (zi @Za @Ze) hG ?_ (s:=(Z5 G hE));simp -implicitDefEqProofs only[go_sem,seval,↓reduceIte,List.map_nil];exact Zr
 have hd:decide ((a.l.length:Int)+b.l.length+c.l.length > 180)=false:=by simpa using hsum
 refine Zsf (zi ws (zi ws2 hd)) ?_;refine Z ?_;refine hK1 _ ?_
 try clear hK1 K1 ws ws2 hd
 refine AW.weak (Zg (l:=[(3,Zb .old 2 Zea env),(4,.ptr 4 g4 0),(5,.ptr 5 g5 0),(6,.ptr 6 g6 0)]) (m:=[(4,.cells .new g4 0 [Zb .old 6 Zw a]),(5,.cells .new g5 0 [Zb .old 6 Zw b]),(6,.cells .new g6 0 [Zb .old 6 Zw c])]) zp zp) ?_;refine Z1 ?_;intro g58;refine AW.weak (Z7 (fun o=>o==58) (l:=[(3,Zb .old 2 Zea env),(4,.ptr 4 g4 0),(5,.ptr 5 g5 0),(6,.ptr 6 g6 0),(9,Zb .new 1 (Zyf .old) (.mk false [a,b,c]))]) (m:=[(4,.cells .new g4 0 [Zb .old 6 Zw a]),(5,.cells .new g5 0 [Zb .old 6 Zw b]),(6,.cells .new g6 0 [Zb .old 6 Zw c])]) ?_ ?_) ?_
 ·refine Zs ?_
  refine ⟨Zl _,Zl _,Zl _,Zl _,?_⟩;exact Zog (f:=Zyf .old) (l:=[a,b,c]) (m:=1) (fz:=0) (c := .new) (g:=g58) rfl zp (fun _=>rfl)
 ·simp only [Zy,Z2,and_true]
  exact ⟨FzO.keep rfl zp,FzO.keep rfl zp,FzO.keep rfl zp⟩
 have g0:([a,b,c]:List (Sl XN))[0]? = some a:=rfl;have g1:([a,b,c]:List (Sl XN))[1]? = some b:=rfl;have g2:([a,b,c]:List (Sl XN))[2]? = some c:=rfl;refine Zyb (fun (_:Unit)=>st [(3,Zb .old 2 Zea env),(4,.ptr 4 g4 0),(5,.ptr 5 g5 0),(6,.ptr 6 g6 0),(9,Zb .new 1 (Zyf .old) (.mk false [a,b,c]))] [(4,.cells .new g4 0 [Zb .old 6 Zw a]),(5,.cells .new g5 0 [Zb .old 6 Zw b]),(6,.cells .new g6 0 [Zb .old 6 Zw c])]) (fun _=>Z7o a∧Z7o b∧Z7o c) (fun K2 hK2=>?_) ?_
 ·refine Z ?_
  refine Z0a 3 (fun i (_:Unit)=>st [(3,Zb .old 2 Zea env),(4,.ptr 4 g4 0),(5,.ptr 5 g5 0),(6,.ptr 6 g6 0),(9,Zb .new 1 (Zyf .old) (.mk false [a,b,c])),(10,.int .i64 i)] [(4,.cells .new g4 0 [Zb .old 6 Zw a]),(5,.cells .new g5 0 [Zb .old 6 Zw b]),(6,.cells .new g6 0 [Zb .old 6 Zw c])]) (fun i _=>(0<i→Z7o a)∧(1<i→Z7o b)∧(2<i→Z7o c)) 0 () (Nat.zero_le _) ⟨fun h=>absurd h (by decide),fun h=>absurd h (by decide),fun h=>absurd h (by decide)⟩
   (Zg zp zp) ?_
  intro i _ hi hR L hL
  obtain rfl | rfl | rfl | rfl:i=0∨i=1∨i=2∨i=3:=by omega
  ·have z:((0:Nat):Int)=0:=rfl
   rw [z];refine Zf (zi g0 @Z4g) ?_;refine Znf (zi @Za @Ze) hG ?_ (s:=(Zre G hE _ a hIa.hs hIa.hnm));simp -implicitDefEqProofs only[go_sem,seval,↓reduceIte,List.map_nil]
   by_cases hlo:Zia a.l≥1
   rotate_left
   ·have hd:decide (Zia a.l<1)=true:=by simp;omega
    refine Zf hd ?_;refine Znf (zi @Za @Ze) hG ?_ (s:=(Z5 G hE));simp -implicitDefEqProofs only[go_sem,seval,↓reduceIte,List.map_nil];exact Zr
   have hd:decide (Zia a.l<1)=false:=by simp;omega
   by_cases hhi:Zia a.l<64
   rotate_left
   ·have hd2:decide (Zia a.l≥64)=true:=by simp;omega
    refine Zf (zi hd hd2) ?_;refine Znf (zi @Za @Ze) hG ?_ (s:=(Z5 G hE));simp -implicitDefEqProofs only[go_sem,seval,↓reduceIte,List.map_nil];exact Zr
   have hd2:decide (Zia a.l≥64)=false:=by simp;omega
   refine Zf (zi hd hd2) ?_;refine hL _ ⟨by decide,(),?_,Zg (by simp -implicitDefEqProofs only[go_sem,seval,↓reduceIte];first | rfl | exact congrArg (V.int .i64) (by decide)) zp⟩;exact ⟨fun _=>⟨hlo,hhi⟩,fun h=>absurd h (by decide),fun h=>absurd h (by decide)⟩
  ·have z:((1:Nat):Int)=1:=rfl
   rw [z];refine Zf (zi g1 @Z4g) ?_;refine Znf (zi @Za @Ze) hG ?_ (s:=(Zre G hE _ b hIb.hs hIb.hnm));simp -implicitDefEqProofs only[go_sem,seval,↓reduceIte,List.map_nil]
   by_cases hlo:Zia b.l≥1
   rotate_left
   ·have hd:decide (Zia b.l<1)=true:=by simp;omega
    refine Zf hd ?_;refine Znf (zi @Za @Ze) hG ?_ (s:=(Z5 G hE));simp -implicitDefEqProofs only[go_sem,seval,↓reduceIte,List.map_nil];exact Zr
   have hd:decide (Zia b.l<1)=false:=by simp;omega
   by_cases hhi:Zia b.l<64
   rotate_left
   ·have hd2:decide (Zia b.l≥64)=true:=by simp;omega
    refine Zf (zi hd hd2) ?_;refine Znf (zi @Za @Ze) hG ?_ (s:=(Z5 G hE));simp -implicitDefEqProofs only[go_sem,seval,↓reduceIte,List.map_nil];exact Zr
   have hd2:decide (Zia b.l≥64)=false:=by simp;omega
   refine Zf (zi hd hd2) ?_;refine hL _ ⟨by decide,(),?_,Zg (by simp -implicitDefEqProofs only[go_sem,seval,↓reduceIte];first | rfl | exact congrArg (V.int .i64) (by decide)) zp⟩;exact ⟨fun _=>hR.1 (by decide),fun _=>⟨hlo,hhi⟩,fun h=>absurd h (by decide)⟩
  ·have z:((2:Nat):Int)=2:=rfl
   rw [z];refine Zf (zi g2 @Z4g) ?_;refine Znf (zi @Za @Ze) hG ?_ (s:=(Zre G hE _ c hIc.hs hIc.hnm));simp -implicitDefEqProofs only[go_sem,seval,↓reduceIte,List.map_nil]
   by_cases hlo:Zia c.l≥1
   rotate_left
   ·have hd:decide (Zia c.l<1)=true:=by simp;omega
    refine Zf hd ?_;refine Znf (zi @Za @Ze) hG ?_ (s:=(Z5 G hE));simp -implicitDefEqProofs only[go_sem,seval,↓reduceIte,List.map_nil];exact Zr
   have hd:decide (Zia c.l<1)=false:=by simp;omega
   by_cases hhi:Zia c.l<64
   rotate_left
   ·have hd2:decide (Zia c.l≥64)=true:=by simp;omega
    refine Zf (zi hd hd2) ?_;refine Znf (zi @Za @Ze) hG ?_ (s:=(Z5 G hE));simp -implicitDefEqProofs only[go_sem,seval,↓reduceIte,List.map_nil];exact Zr
   have hd2:decide (Zia c.l≥64)=false:=by simp;omega
   refine Zf (zi hd hd2) ?_;refine hL _ ⟨by decide,(),?_,Zg (by simp -implicitDefEqProofs only[go_sem,seval,↓reduceIte];first | rfl | exact congrArg (V.int .i64) (by decide)) zp⟩;exact ⟨fun _=>hR.1 (by decide),fun _=>hR.2.1 (by decide),fun _=>⟨hlo,hhi⟩⟩
  ·have z:((3:Nat):Int)=3:=rfl
   rw [z];refine Z ?_;exact hK2 _ () ⟨hR.1 (by decide),hR.2.1 (by decide),hR.2.2 (by decide)⟩ (Zg zp zp)
 rintro _ ⟨pa,pb,pc⟩;obtain ⟨xa,oka,ra,da,ca⟩:=Z4f pa.1 pa.2;obtain ⟨xb,okb,rb,db,cb⟩:=Z4f pb.1 pb.2;obtain ⟨xc,okc,rc,dc,cc⟩:=Z4f pc.1 pc.2
 have za:xa.size≤200:=by have:=fa.1;rwa [ra,X.row_len] at this
 have zb:xb.size≤200:=by have:=fb.1;rwa [rb,X.row_len] at this
 have zc:xc.size≤200:=by have:=fc.1;rwa [rc,X.row_len] at this
 have wA:evL env.l a.l=evX env.l xa:=by rw [ra,Zkd oka ca]
 have wB:evL env.l b.l=evX env.l xb:=by rw [rb,Zkd okb cb]
 have wC:evL env.l c.l=evX env.l xc:=by rw [rc,Zkd okc cc]
 have ok3:(X.ite xa xb xc).ok=true:=by simp only [X.ok,oka,okb,okc];rfl
 have d3:(X.ite xa xb xc).depth≤64:=by simp only [X.depth];omega
 have w3:evL env.l ((X.ite xa xb xc).row 0)=(evX env.l xa).onB fun t=>if t=true then evX env.l xb else evX env.l xc:=by rw [Zkd ok3 (Zix ok3 d3)]<;>rfl
 have ok2:∀ op:Int,18≤op∧op≤21→(X.bin op xa xb).ok=true:=fun op h=>by simp only [X.ok,oka,okb];simp;omega
 have w2:∀ op:Int,18≤op∧op≤21→evL env.l ((X.bin op xa xb).row 0)=Zge op (evX env.l xa) (evX env.l xb):=fun op h=>by
  have d2:(X.bin op xa xb).depth≤64:=by simp only [X.depth];omega
  rw [Zkd (ok2 op h) (Zix (ok2 op h) d2)]
  show Zud op _ _=_
  unfold Zud;rw [if_neg (by omega),if_neg (by omega),if_neg (by omega)]
 have pA:=pn_of hIa ra;have pB:=pn_of hIb rb;have pC:=pn_of hIc rc;have E3:=fun c c2=>Zbe G hE c c2 _ _ (Zgx (env:=env) (pn_ite pA pB pC) (by simp only [X.size];omega) hIa.hv hf);have E2:=fun (op:Int) c c2=>Zbe G hE c c2 _ _ (Zgx (env:=env) (pn_bin (op:=op) pA pB) (by simp only [X.size];omega) hIa.hv hf);have J3:=Zus G hG 22 (.mk false [a,b,c]) [xa,xb,xc] (by simp [Sl.l];exact ⟨ra,rb,rc⟩) (Nat.le_refl 3) (by simp [Zub];omega);have J2:=fun (op:Int) (q:Bool)=>Zus G hG op (.mk q [a,b]) [xa,xb] (by simp [Sl.l];exact ⟨ra,rb⟩) (by simp) (by simp [Zub];omega);rw [Z5x] at J3;simp only [Zb4] at J2;simp only [Zma,w3] at E3;simp only [Zma] at E2;have Ea:=Zfp G hE .old .old a env hIa;have Eb:=Zbe G hE .old .old b env hIb;have Eb2:=Zfp G hE .old .old b env hIb;have Ec:=Zbe G hE .old .old c env hIc;rw [wA] at Ea;rw [wB] at Eb Eb2;rw [wC] at Ec;have neA:=Zh2 hIa;have neB:=Zh2 hIb;rw [wA] at neA;rw [wB] at neB;generalize evX env.l xa=A at *;generalize evX env.l xb=B at *;generalize evX env.l xc=C at *
 try clear pA pB pC fa fb fc pa pb pc
 refine Zi fun K2 hK2=>?_;refine Z1 ?_;refine Znf (zi @Za @Ze) hG ?_ (s:=(Ea));simp -implicitDefEqProofs only[go_sem,seval,↓reduceIte,Zxh];refine hK2 _ ?_
 try clear hK2 K2
 refine Zi fun K2 hK2=>?_
 by_cases hAe:∃ e,A.need 2 = .err e
 ·obtain ⟨e,he⟩:=hAe
  have h0:(e != 0)=true:=by
   cases A with
   | err e'=>cases he;simpa using neA e rfl
   | tru t=>cases he
   | num t=>cases he;rfl
  rw [he]
  repeat first
   | (refine Z4 (by kernel_rfl) ?_;simp -implicitDefEqProofs only[go_sem,seval,↓reduceIte,h0,EV.er,EV.tr])
   | (refine AW.region (by kernel_rfl) ?_;simp -implicitDefEqProofs only[go_sem,seval,↓reduceIte,h0,EV.er,EV.tr])
   | refine Zv ?_
   | refine AW.block ?_
   | refine Zfa rfl ?_
   | refine Z8 rfl ?_
   | (refine AW.skip ?_;simp -implicitDefEqProofs only[go_sem,seval,↓reduceIte,h0,EV.er,EV.tr])
   | (refine AW.exit ?_;simp -implicitDefEqProofs only[go_sem,seval,↓reduceIte,h0,EV.er,EV.tr])
   | (refine AW.ret ?_;simp -implicitDefEqProofs only[go_sem,seval,↓reduceIte,h0,EV.er,EV.tr];refine Zk ?_)
  refine Znf (zi @Za @Ze) hG ?_ (s:=(Z5 G hE));simp -implicitDefEqProofs only[go_sem,seval,↓reduceIte,List.map_nil];exact Zr
 obtain ⟨t,rfl⟩:=Zkb fun e he=>hAe ⟨e,he⟩;rw [Zxa]
 repeat first
  | (refine Z4 (by kernel_rfl) ?_;simp -implicitDefEqProofs only[go_sem,seval,↓reduceIte,EV.er,EV.tr])
  | (refine AW.region (by kernel_rfl) ?_;simp -implicitDefEqProofs only[go_sem,seval,↓reduceIte,EV.er,EV.tr])
  | refine Zv ?_
  | refine AW.block ?_
  | refine Zfa rfl ?_
  | refine Z8 rfl ?_
  | (refine AW.skip ?_;simp -implicitDefEqProofs only[go_sem,seval,↓reduceIte,EV.er,EV.tr])
  | (refine AW.exit ?_;simp -implicitDefEqProofs only[go_sem,seval,↓reduceIte,EV.er,EV.tr])
  | (refine AW.ret ?_;simp -implicitDefEqProofs only[go_sem,seval,↓reduceIte,EV.er,EV.tr];refine Zk ?_)
 refine hK2 _ ?_
 try clear hK2 K2
 refine AW.weak (Zg (l:=[(3,Zb .old 2 Zea env),(4,.ptr 4 g4 0),(5,.ptr 5 g5 0),(6,.ptr 6 g6 0),(9,Zb .new 1 (Zyf .old) (.mk false [a,b,c])),(12,.bool t)]) (m:=[(4,.cells .new g4 0 [Zb .old 6 Zw a]),(5,.cells .new g5 0 [Zb .old 6 Zw b]),(6,.cells .new g6 0 [Zb .old 6 Zw c])]) zp zp) ?_
 have hon:(EV.tru t).onB (fun t=>if t=true then B else C)=if t=true then B else C:=rfl
 rw [hon] at E3
 try clear hon
 generalize hW:(if t=true then B else C)=W at E3;refine Zi fun K2 hK2=>?_;refine Z1 ?_;refine Znf (zi @Za @Ze) hG ?_ (s:=(J3));simp -implicitDefEqProofs only[go_sem,seval,↓reduceIte,Ztd];refine Znf (zi @Za @Ze) hG ?_ (s:=(E3 _ _));simp -implicitDefEqProofs only[go_sem,seval,↓reduceIte,Zpa,Zka];intro g14;refine hK2 _ ?_
 try clear hK2 K2
 refine Zi fun K2 hK2=>?_;refine Z1f (zi g2 @Z4g) ?_;refine Znf (zi @Za @Ze) hG ?_ (s:=(Ec));simp -implicitDefEqProofs only[go_sem,seval,↓reduceIte,Zpa,Zka];intro g16;refine hK2 _ ?_
 try clear hK2 K2
 refine Zyb (fun (_:Unit)=>st [(3,Zb .old 2 Zea env),(4,.ptr 4 g4 0),(5,.ptr 5 g5 0),(6,.ptr 6 g6 0),(9,Zb .new 1 (Zyf .old) (.mk false [a,b,c])),(12,.bool t),(14,.ptr 14 g14 0),(15,.int .i64 W.er),(16,.ptr 16 g16 0),(17,.int .i64 W.er)] [(4,.cells .new g4 0 [Zb .old 6 Zw a]),(5,.cells .new g5 0 [Zb .old 6 Zw b]),(6,.cells .new g6 0 [Zb .old 6 Zw c]),(14,.cells .new g14 0 [.int .u8 W.kind,.int .i64 W.nm,.bool W.tr]),(16,.cells .new g16 0 [.int .u8 W.kind,.int .i64 W.nm,.bool W.tr])]) (fun _=>True) (fun K2 hK2=>?_) ?_
 ·cases t
  ·replace hW:C=W:=hW
   subst hW;refine Z ?_;exact hK2 _ () trivial (Zg zp zp)
  ·replace hW:B=W:=hW
   subst hW;refine Zf (zi g1 @Z4g) ?_;refine Znf (zi @Za @Ze) hG ?_ (s:=(Eb));simp -implicitDefEqProofs only[go_sem,seval,↓reduceIte,Zpa,Zka];exact hK2 _ () trivial (Zg zp zp)
 rintro _ -;refine Zi fun K2 hK2=>?_;refine Zf (zi @Bool.and_self (zi @Bool.not_true @Bool.not_false)) ?_;refine hK2 _ ?_
 try clear hK2 K2
 refine Zi fun K2 hK2=>?_;refine Z1 ?_;refine Znf (zi @Za @Ze) hG ?_ (s:=(Eb2));simp -implicitDefEqProofs only[go_sem,seval,↓reduceIte,Zxh];refine hK2 _ ?_
 try clear hK2 K2
 refine AW.weak (Zg (l:=[(3,Zb .old 2 Zea env),(4,.ptr 4 g4 0),(5,.ptr 5 g5 0),(6,.ptr 6 g6 0),(9,Zb .new 1 (Zyf .old) (.mk false [a,b,c])),(12,.bool t),(18,.bool (B.need 2).tr),(19,.int .i64 (B.need 2).er)]) (m:=[(4,.cells .new g4 0 [Zb .old 6 Zw a]),(5,.cells .new g5 0 [Zb .old 6 Zw b]),(6,.cells .new g6 0 [Zb .old 6 Zw c])]) zp zp) ?_
 have hX:∀ op t,Zge op (.tru t) B=if op=18∧t=false then .tru false else if op=19∧t=true∨op=21∧t=false then .tru true else B.onB fun b => .tru (if op=20 then t != b else b):=fun _ _=>rfl
 have hEr:∀ e,B.need 2 = .err e→(e != 0)=true:=by
  intro e he
  cases B with
  | err e'=>cases he;simpa using neB e rfl
  | tru u=>cases he
  | num u=>cases he;rfl
 try clear Ea Eb Ec Eb2 E3 J3 hAe
 refine Zi fun K2 hK2=>?_;refine Z ?_
 refine Z0a 4 (fun k (_:Unit)=>st [(3,Zb .old 2 Zea env),(4,.ptr 4 g4 0),(5,.ptr 5 g5 0),(6,.ptr 6 g6 0),(9,Zb .new 1 (Zyf .old) (.mk false [a,b,c])),(12,.bool t),(18,.bool (B.need 2).tr),(19,.int .i64 (B.need 2).er),(20,.int .u8 (18+(k:Int)))] [(4,.cells .new g4 0 [Zb .old 6 Zw a]),(5,.cells .new g5 0 [Zb .old 6 Zw b]),(6,.cells .new g6 0 [Zb .old 6 Zw c])]) (fun _ _=>True) 0 () (Nat.zero_le _) trivial
  (Zg zp zp) ?_
 intro k _ hk _ L hL
 obtain rfl | rfl | rfl | rfl | rfl:k=0∨k=1∨k=2∨k=3∨k=4:=by omega
 ·have z:((18:Int)+((0:Nat):Int))=18:=rfl
  rw [z];have e2:=E2 18;simp only [w2 18 (by decide)] at e2;refine Zi fun K5 hK5=>?_;refine Z ?_;refine hK5 _ ?_
  try clear hK5 K5
  refine Zi fun K5 hK5=>?_;refine AW.block ?_;refine Zi fun K6 hK6=>?_;refine Z1 ?_;refine Znf (zi @Za @Ze) hG ?_ (s:=(J2 18 _));simp -implicitDefEqProofs only[go_sem,seval,↓reduceIte,Ztd];refine Znf (zi @Za @Ze) hG ?_ (s:=(e2 _ _));simp -implicitDefEqProofs only[go_sem,seval,↓reduceIte,Zpa,Zka];intro g21;refine hK6 _ ?_
  try clear hK6 K6 e2
  cases t
  ·have hl:Zge 18 (.tru false) B = .tru false:=rfl
   rw [hl]
   repeat first
    | (refine Z4 (by kernel_rfl) ?_;simp -implicitDefEqProofs only[go_sem,seval,↓reduceIte,EV.kind,EV.nm,EV.tr,EV.er])
    | (refine AW.region (by kernel_rfl) ?_;simp -implicitDefEqProofs only[go_sem,seval,↓reduceIte,EV.kind,EV.nm,EV.tr,EV.er])
    | refine Zv ?_
    | refine AW.block ?_
    | refine Zfa rfl ?_
    | refine Z8 rfl ?_
    | (refine AW.skip ?_;simp -implicitDefEqProofs only[go_sem,seval,↓reduceIte,EV.kind,EV.nm,EV.tr,EV.er])
    | (refine AW.exit ?_;simp -implicitDefEqProofs only[go_sem,seval,↓reduceIte,EV.kind,EV.nm,EV.tr,EV.er])
    | (refine AW.ret ?_;simp -implicitDefEqProofs only[go_sem,seval,↓reduceIte,EV.kind,EV.nm,EV.tr,EV.er];refine Zk ?_)
   intro g23;refine Z ?_;refine hK5 _ ?_;refine Z ?_;refine hL _ ⟨by decide,(),trivial,Zg (by simp -implicitDefEqProofs only[go_sem,seval,↓reduceIte];exact ⟨rfl,rfl,congrArg (V.int .u8) (by decide)⟩) zp⟩
  ·have hl:Zge 18 (.tru true) B=B.onB fun b => .tru (if (18:Int)=20 then true != b else b):=by rw [hX,if_neg (by decide),if_neg (by decide)]
   rw [hl]
   try clear hl
   by_cases hBe:∃ e,B.need 2 = .err e
   ·obtain ⟨e,he⟩:=hBe
    have h0:=hEr e he;rw [Z6a _ he];rw [he] at hL ⊢
    repeat first
     | (refine Z4 (by kernel_rfl) ?_;simp -implicitDefEqProofs only[go_sem,seval,↓reduceIte,EV.kind,EV.nm,EV.tr,EV.er,h0])
     | (refine AW.region (by kernel_rfl) ?_;simp -implicitDefEqProofs only[go_sem,seval,↓reduceIte,EV.kind,EV.nm,EV.tr,EV.er,h0])
     | refine Zv ?_
     | refine AW.block ?_
     | refine Zfa rfl ?_
     | refine Z8 rfl ?_
     | (refine AW.skip ?_;simp -implicitDefEqProofs only[go_sem,seval,↓reduceIte,EV.kind,EV.nm,EV.tr,EV.er,h0])
     | (refine AW.exit ?_;simp -implicitDefEqProofs only[go_sem,seval,↓reduceIte,EV.kind,EV.nm,EV.tr,EV.er,h0])
     | (refine AW.ret ?_;simp -implicitDefEqProofs only[go_sem,seval,↓reduceIte,EV.kind,EV.nm,EV.tr,EV.er,h0];refine Zk ?_)
    intro g23
    repeat first
     | (refine Z4 (by kernel_rfl) ?_;simp -implicitDefEqProofs only[go_sem,seval,↓reduceIte,EV.kind,EV.nm,EV.tr,EV.er,h0])
     | (refine AW.region (by kernel_rfl) ?_;simp -implicitDefEqProofs only[go_sem,seval,↓reduceIte,EV.kind,EV.nm,EV.tr,EV.er,h0])
     | refine Zv ?_
     | refine AW.block ?_
     | refine Zfa rfl ?_
     | refine Z8 rfl ?_
     | (refine AW.skip ?_;simp -implicitDefEqProofs only[go_sem,seval,↓reduceIte,EV.kind,EV.nm,EV.tr,EV.er,h0])
     | (refine AW.exit ?_;simp -implicitDefEqProofs only[go_sem,seval,↓reduceIte,EV.kind,EV.nm,EV.tr,EV.er,h0])
     | (refine AW.ret ?_;simp -implicitDefEqProofs only[go_sem,seval,↓reduceIte,EV.kind,EV.nm,EV.tr,EV.er,h0];refine Zk ?_)
    refine hK5 _ ?_;refine Z ?_;refine hL _ ⟨by decide,(),trivial,Zg (by simp -implicitDefEqProofs only[go_sem,seval,↓reduceIte];exact ⟨rfl,rfl,congrArg (V.int .u8) (by decide)⟩) zp⟩
   obtain ⟨u,rfl⟩:=Zkb fun e he=>hBe ⟨e,he⟩;rw [Zxa] at hL ⊢
   repeat first
    | (refine Z4 (by kernel_rfl) ?_;simp -implicitDefEqProofs only[go_sem,seval,↓reduceIte,EV.kind,EV.nm,EV.tr,EV.er,EV.onB])
    | (refine AW.region (by kernel_rfl) ?_;simp -implicitDefEqProofs only[go_sem,seval,↓reduceIte,EV.kind,EV.nm,EV.tr,EV.er,EV.onB])
    | refine Zv ?_
    | refine AW.block ?_
    | refine Zfa rfl ?_
    | refine Z8 rfl ?_
    | (refine AW.skip ?_;simp -implicitDefEqProofs only[go_sem,seval,↓reduceIte,EV.kind,EV.nm,EV.tr,EV.er,EV.onB])
    | (refine AW.exit ?_;simp -implicitDefEqProofs only[go_sem,seval,↓reduceIte,EV.kind,EV.nm,EV.tr,EV.er,EV.onB])
    | (refine AW.ret ?_;simp -implicitDefEqProofs only[go_sem,seval,↓reduceIte,EV.kind,EV.nm,EV.tr,EV.er,EV.onB];refine Zk ?_)
   intro g23
   repeat first
    | (refine Z4 (by kernel_rfl) ?_;simp -implicitDefEqProofs only[go_sem,seval,↓reduceIte,EV.kind,EV.nm,EV.tr,EV.er,EV.onB])
    | (refine AW.region (by kernel_rfl) ?_;simp -implicitDefEqProofs only[go_sem,seval,↓reduceIte,EV.kind,EV.nm,EV.tr,EV.er,EV.onB])
    | refine Zv ?_
    | refine AW.block ?_
    | refine Zfa rfl ?_
    | refine Z8 rfl ?_
    | (refine AW.skip ?_;simp -implicitDefEqProofs only[go_sem,seval,↓reduceIte,EV.kind,EV.nm,EV.tr,EV.er,EV.onB])
    | (refine AW.exit ?_;simp -implicitDefEqProofs only[go_sem,seval,↓reduceIte,EV.kind,EV.nm,EV.tr,EV.er,EV.onB])
    | (refine AW.ret ?_;simp -implicitDefEqProofs only[go_sem,seval,↓reduceIte,EV.kind,EV.nm,EV.tr,EV.er,EV.onB];refine Zk ?_)
   refine hK5 _ ?_;refine Z ?_;refine hL _ ⟨by decide,(),trivial,Zg (by simp -implicitDefEqProofs only[go_sem,seval,↓reduceIte];exact ⟨rfl,rfl,congrArg (V.int .u8) (by decide)⟩) zp⟩
 ·have z:((18:Int)+((1:Nat):Int))=19:=rfl
  rw [z];have e2:=E2 19;simp only [w2 19 (by decide)] at e2;refine Zi fun K5 hK5=>?_;refine Z ?_;refine hK5 _ ?_
  try clear hK5 K5
  refine Zi fun K5 hK5=>?_;refine AW.block ?_;refine Zi fun K6 hK6=>?_;refine Z1 ?_;refine Znf (zi @Za @Ze) hG ?_ (s:=(J2 19 _));simp -implicitDefEqProofs only[go_sem,seval,↓reduceIte,Ztd];refine Znf (zi @Za @Ze) hG ?_ (s:=(e2 _ _));simp -implicitDefEqProofs only[go_sem,seval,↓reduceIte,Zpa,Zka];intro g21;refine hK6 _ ?_
  try clear hK6 K6 e2
  cases t
  ·have hl:Zge 19 (.tru false) B=B.onB fun b => .tru (if (19:Int)=20 then false != b else b):=by rw [hX,if_neg (by decide),if_neg (by decide)]
   rw [hl]
   try clear hl
   by_cases hBe:∃ e,B.need 2 = .err e
   ·obtain ⟨e,he⟩:=hBe
    have h0:=hEr e he;rw [Z6a _ he];rw [he] at hL ⊢
    repeat first
     | (refine Z4 (by kernel_rfl) ?_;simp -implicitDefEqProofs only[go_sem,seval,↓reduceIte,EV.kind,EV.nm,EV.tr,EV.er,h0])
     | (refine AW.region (by kernel_rfl) ?_;simp -implicitDefEqProofs only[go_sem,seval,↓reduceIte,EV.kind,EV.nm,EV.tr,EV.er,h0])
     | refine Zv ?_
     | refine AW.block ?_
     | refine Zfa rfl ?_
     | refine Z8 rfl ?_
     | (refine AW.skip ?_;simp -implicitDefEqProofs only[go_sem,seval,↓reduceIte,EV.kind,EV.nm,EV.tr,EV.er,h0])
     | (refine AW.exit ?_;simp -implicitDefEqProofs only[go_sem,seval,↓reduceIte,EV.kind,EV.nm,EV.tr,EV.er,h0])
     | (refine AW.ret ?_;simp -implicitDefEqProofs only[go_sem,seval,↓reduceIte,EV.kind,EV.nm,EV.tr,EV.er,h0];refine Zk ?_)
    intro g23
    repeat first
     | (refine Z4 (by kernel_rfl) ?_;simp -implicitDefEqProofs only[go_sem,seval,↓reduceIte,EV.kind,EV.nm,EV.tr,EV.er,h0])
     | (refine AW.region (by kernel_rfl) ?_;simp -implicitDefEqProofs only[go_sem,seval,↓reduceIte,EV.kind,EV.nm,EV.tr,EV.er,h0])
     | refine Zv ?_
     | refine AW.block ?_
     | refine Zfa rfl ?_
     | refine Z8 rfl ?_
     | (refine AW.skip ?_;simp -implicitDefEqProofs only[go_sem,seval,↓reduceIte,EV.kind,EV.nm,EV.tr,EV.er,h0])
     | (refine AW.exit ?_;simp -implicitDefEqProofs only[go_sem,seval,↓reduceIte,EV.kind,EV.nm,EV.tr,EV.er,h0])
     | (refine AW.ret ?_;simp -implicitDefEqProofs only[go_sem,seval,↓reduceIte,EV.kind,EV.nm,EV.tr,EV.er,h0];refine Zk ?_)
    refine hK5 _ ?_;refine Z ?_;refine hL _ ⟨by decide,(),trivial,Zg (by simp -implicitDefEqProofs only[go_sem,seval,↓reduceIte];exact ⟨rfl,rfl,congrArg (V.int .u8) (by decide)⟩) zp⟩
   obtain ⟨u,rfl⟩:=Zkb fun e he=>hBe ⟨e,he⟩;rw [Zxa] at hL ⊢
   repeat first
    | (refine Z4 (by kernel_rfl) ?_;simp -implicitDefEqProofs only[go_sem,seval,↓reduceIte,EV.kind,EV.nm,EV.tr,EV.er,EV.onB])
    | (refine AW.region (by kernel_rfl) ?_;simp -implicitDefEqProofs only[go_sem,seval,↓reduceIte,EV.kind,EV.nm,EV.tr,EV.er,EV.onB])
    | refine Zv ?_
    | refine AW.block ?_
    | refine Zfa rfl ?_
    | refine Z8 rfl ?_
    | (refine AW.skip ?_;simp -implicitDefEqProofs only[go_sem,seval,↓reduceIte,EV.kind,EV.nm,EV.tr,EV.er,EV.onB])
    | (refine AW.exit ?_;simp -implicitDefEqProofs only[go_sem,seval,↓reduceIte,EV.kind,EV.nm,EV.tr,EV.er,EV.onB])
    | (refine AW.ret ?_;simp -implicitDefEqProofs only[go_sem,seval,↓reduceIte,EV.kind,EV.nm,EV.tr,EV.er,EV.onB];refine Zk ?_)
   intro g23
   repeat first
    | (refine Z4 (by kernel_rfl) ?_;simp -implicitDefEqProofs only[go_sem,seval,↓reduceIte,EV.kind,EV.nm,EV.tr,EV.er,EV.onB])
    | (refine AW.region (by kernel_rfl) ?_;simp -implicitDefEqProofs only[go_sem,seval,↓reduceIte,EV.kind,EV.nm,EV.tr,EV.er,EV.onB])
    | refine Zv ?_
    | refine AW.block ?_
    | refine Zfa rfl ?_
    | refine Z8 rfl ?_
    | (refine AW.skip ?_;simp -implicitDefEqProofs only[go_sem,seval,↓reduceIte,EV.kind,EV.nm,EV.tr,EV.er,EV.onB])
    | (refine AW.exit ?_;simp -implicitDefEqProofs only[go_sem,seval,↓reduceIte,EV.kind,EV.nm,EV.tr,EV.er,EV.onB])
    | (refine AW.ret ?_;simp -implicitDefEqProofs only[go_sem,seval,↓reduceIte,EV.kind,EV.nm,EV.tr,EV.er,EV.onB];refine Zk ?_)
   refine hK5 _ ?_;refine Z ?_;refine hL _ ⟨by decide,(),trivial,Zg (by simp -implicitDefEqProofs only[go_sem,seval,↓reduceIte];exact ⟨rfl,rfl,congrArg (V.int .u8) (by decide)⟩) zp⟩
  ·have hl:Zge 19 (.tru true) B = .tru true:=rfl
   rw [hl]
   repeat first
    | (refine Z4 (by kernel_rfl) ?_;simp -implicitDefEqProofs only[go_sem,seval,↓reduceIte,EV.kind,EV.nm,EV.tr,EV.er])
    | (refine AW.region (by kernel_rfl) ?_;simp -implicitDefEqProofs only[go_sem,seval,↓reduceIte,EV.kind,EV.nm,EV.tr,EV.er])
    | refine Zv ?_
    | refine AW.block ?_
    | refine Zfa rfl ?_
    | refine Z8 rfl ?_
    | (refine AW.skip ?_;simp -implicitDefEqProofs only[go_sem,seval,↓reduceIte,EV.kind,EV.nm,EV.tr,EV.er])
    | (refine AW.exit ?_;simp -implicitDefEqProofs only[go_sem,seval,↓reduceIte,EV.kind,EV.nm,EV.tr,EV.er])
    | (refine AW.ret ?_;simp -implicitDefEqProofs only[go_sem,seval,↓reduceIte,EV.kind,EV.nm,EV.tr,EV.er];refine Zk ?_)
   intro g23;refine Z ?_;refine hK5 _ ?_;refine Z ?_;refine hL _ ⟨by decide,(),trivial,Zg (by simp -implicitDefEqProofs only[go_sem,seval,↓reduceIte];exact ⟨rfl,rfl,congrArg (V.int .u8) (by decide)⟩) zp⟩
 ·have z:((18:Int)+((2:Nat):Int))=20:=rfl
  rw [z];have e2:=E2 20;simp only [w2 20 (by decide)] at e2;refine Zi fun K5 hK5=>?_;refine Z ?_;refine hK5 _ ?_
  try clear hK5 K5
  refine Zi fun K5 hK5=>?_;refine AW.block ?_;refine Zi fun K6 hK6=>?_;refine Z1 ?_;refine Znf (zi @Za @Ze) hG ?_ (s:=(J2 20 _));simp -implicitDefEqProofs only[go_sem,seval,↓reduceIte,Ztd];refine Znf (zi @Za @Ze) hG ?_ (s:=(e2 _ _));simp -implicitDefEqProofs only[go_sem,seval,↓reduceIte,Zpa,Zka];intro g21;refine hK6 _ ?_
  try clear hK6 K6 e2
  cases t
  ·have hl:Zge 20 (.tru false) B=B.onB fun b => .tru (if (20:Int)=20 then false != b else b):=by rw [hX,if_neg (by decide),if_neg (by decide)]
   rw [hl]
   try clear hl
   by_cases hBe:∃ e,B.need 2 = .err e
   ·obtain ⟨e,he⟩:=hBe
    have h0:=hEr e he;rw [Z6a _ he];rw [he] at hL ⊢
    repeat first
     | (refine Z4 (by kernel_rfl) ?_;simp -implicitDefEqProofs only[go_sem,seval,↓reduceIte,EV.kind,EV.nm,EV.tr,EV.er,h0])
     | (refine AW.region (by kernel_rfl) ?_;simp -implicitDefEqProofs only[go_sem,seval,↓reduceIte,EV.kind,EV.nm,EV.tr,EV.er,h0])
     | refine Zv ?_
     | refine AW.block ?_
     | refine Zfa rfl ?_
     | refine Z8 rfl ?_
     | (refine AW.skip ?_;simp -implicitDefEqProofs only[go_sem,seval,↓reduceIte,EV.kind,EV.nm,EV.tr,EV.er,h0])
     | (refine AW.exit ?_;simp -implicitDefEqProofs only[go_sem,seval,↓reduceIte,EV.kind,EV.nm,EV.tr,EV.er,h0])
     | (refine AW.ret ?_;simp -implicitDefEqProofs only[go_sem,seval,↓reduceIte,EV.kind,EV.nm,EV.tr,EV.er,h0];refine Zk ?_)
    intro g23
    repeat first
     | (refine Z4 (by kernel_rfl) ?_;simp -implicitDefEqProofs only[go_sem,seval,↓reduceIte,EV.kind,EV.nm,EV.tr,EV.er,h0])
     | (refine AW.region (by kernel_rfl) ?_;simp -implicitDefEqProofs only[go_sem,seval,↓reduceIte,EV.kind,EV.nm,EV.tr,EV.er,h0])
     | refine Zv ?_
     | refine AW.block ?_
     | refine Zfa rfl ?_
     | refine Z8 rfl ?_
     | (refine AW.skip ?_;simp -implicitDefEqProofs only[go_sem,seval,↓reduceIte,EV.kind,EV.nm,EV.tr,EV.er,h0])
     | (refine AW.exit ?_;simp -implicitDefEqProofs only[go_sem,seval,↓reduceIte,EV.kind,EV.nm,EV.tr,EV.er,h0])
     | (refine AW.ret ?_;simp -implicitDefEqProofs only[go_sem,seval,↓reduceIte,EV.kind,EV.nm,EV.tr,EV.er,h0];refine Zk ?_)
    refine hK5 _ ?_;refine Z ?_;refine hL _ ⟨by decide,(),trivial,Zg (by simp -implicitDefEqProofs only[go_sem,seval,↓reduceIte];exact ⟨rfl,rfl,congrArg (V.int .u8) (by decide)⟩) zp⟩
   obtain ⟨u,rfl⟩:=Zkb fun e he=>hBe ⟨e,he⟩;rw [Zxa] at hL ⊢
   repeat first
    | (refine Z4 (by kernel_rfl) ?_;simp -implicitDefEqProofs only[go_sem,seval,↓reduceIte,EV.kind,EV.nm,EV.tr,EV.er,EV.onB])
    | (refine AW.region (by kernel_rfl) ?_;simp -implicitDefEqProofs only[go_sem,seval,↓reduceIte,EV.kind,EV.nm,EV.tr,EV.er,EV.onB])
    | refine Zv ?_
    | refine AW.block ?_
    | refine Zfa rfl ?_
    | refine Z8 rfl ?_
    | (refine AW.skip ?_;simp -implicitDefEqProofs only[go_sem,seval,↓reduceIte,EV.kind,EV.nm,EV.tr,EV.er,EV.onB])
    | (refine AW.exit ?_;simp -implicitDefEqProofs only[go_sem,seval,↓reduceIte,EV.kind,EV.nm,EV.tr,EV.er,EV.onB])
    | (refine AW.ret ?_;simp -implicitDefEqProofs only[go_sem,seval,↓reduceIte,EV.kind,EV.nm,EV.tr,EV.er,EV.onB];refine Zk ?_)
   intro g23
   repeat first
    | (refine Z4 (by kernel_rfl) ?_;simp -implicitDefEqProofs only[go_sem,seval,↓reduceIte,EV.kind,EV.nm,EV.tr,EV.er,EV.onB])
    | (refine AW.region (by kernel_rfl) ?_;simp -implicitDefEqProofs only[go_sem,seval,↓reduceIte,EV.kind,EV.nm,EV.tr,EV.er,EV.onB])
    | refine Zv ?_
    | refine AW.block ?_
    | refine Zfa rfl ?_
    | refine Z8 rfl ?_
    | (refine AW.skip ?_;simp -implicitDefEqProofs only[go_sem,seval,↓reduceIte,EV.kind,EV.nm,EV.tr,EV.er,EV.onB])
    | (refine AW.exit ?_;simp -implicitDefEqProofs only[go_sem,seval,↓reduceIte,EV.kind,EV.nm,EV.tr,EV.er,EV.onB])
    | (refine AW.ret ?_;simp -implicitDefEqProofs only[go_sem,seval,↓reduceIte,EV.kind,EV.nm,EV.tr,EV.er,EV.onB];refine Zk ?_)
   refine hK5 _ ?_;refine Z ?_;refine hL _ ⟨by decide,(),trivial,Zg (by simp -implicitDefEqProofs only[go_sem,seval,↓reduceIte];exact ⟨rfl,rfl,congrArg (V.int .u8) (by decide)⟩) zp⟩
  ·have hl:Zge 20 (.tru true) B=B.onB fun b => .tru (if (20:Int)=20 then true != b else b):=by rw [hX,if_neg (by decide),if_neg (by decide)]
   rw [hl]
   try clear hl
   by_cases hBe:∃ e,B.need 2 = .err e
   ·obtain ⟨e,he⟩:=hBe
    have h0:=hEr e he;rw [Z6a _ he];rw [he] at hL ⊢
    repeat first
     | (refine Z4 (by kernel_rfl) ?_;simp -implicitDefEqProofs only[go_sem,seval,↓reduceIte,EV.kind,EV.nm,EV.tr,EV.er,h0])
     | (refine AW.region (by kernel_rfl) ?_;simp -implicitDefEqProofs only[go_sem,seval,↓reduceIte,EV.kind,EV.nm,EV.tr,EV.er,h0])
     | refine Zv ?_
     | refine AW.block ?_
     | refine Zfa rfl ?_
     | refine Z8 rfl ?_
     | (refine AW.skip ?_;simp -implicitDefEqProofs only[go_sem,seval,↓reduceIte,EV.kind,EV.nm,EV.tr,EV.er,h0])
     | (refine AW.exit ?_;simp -implicitDefEqProofs only[go_sem,seval,↓reduceIte,EV.kind,EV.nm,EV.tr,EV.er,h0])
     | (refine AW.ret ?_;simp -implicitDefEqProofs only[go_sem,seval,↓reduceIte,EV.kind,EV.nm,EV.tr,EV.er,h0];refine Zk ?_)
    intro g23
    repeat first
     | (refine Z4 (by kernel_rfl) ?_;simp -implicitDefEqProofs only[go_sem,seval,↓reduceIte,EV.kind,EV.nm,EV.tr,EV.er,h0])
     | (refine AW.region (by kernel_rfl) ?_;simp -implicitDefEqProofs only[go_sem,seval,↓reduceIte,EV.kind,EV.nm,EV.tr,EV.er,h0])
     | refine Zv ?_
     | refine AW.block ?_
     | refine Zfa rfl ?_
     | refine Z8 rfl ?_
     | (refine AW.skip ?_;simp -implicitDefEqProofs only[go_sem,seval,↓reduceIte,EV.kind,EV.nm,EV.tr,EV.er,h0])
     | (refine AW.exit ?_;simp -implicitDefEqProofs only[go_sem,seval,↓reduceIte,EV.kind,EV.nm,EV.tr,EV.er,h0])
     | (refine AW.ret ?_;simp -implicitDefEqProofs only[go_sem,seval,↓reduceIte,EV.kind,EV.nm,EV.tr,EV.er,h0];refine Zk ?_)
    refine hK5 _ ?_;refine Z ?_;refine hL _ ⟨by decide,(),trivial,Zg (by simp -implicitDefEqProofs only[go_sem,seval,↓reduceIte];exact ⟨rfl,rfl,congrArg (V.int .u8) (by decide)⟩) zp⟩
   obtain ⟨u,rfl⟩:=Zkb fun e he=>hBe ⟨e,he⟩;rw [Zxa] at hL ⊢
   repeat first
    | (refine Z4 (by kernel_rfl) ?_;simp -implicitDefEqProofs only[go_sem,seval,↓reduceIte,EV.kind,EV.nm,EV.tr,EV.er,EV.onB])
    | (refine AW.region (by kernel_rfl) ?_;simp -implicitDefEqProofs only[go_sem,seval,↓reduceIte,EV.kind,EV.nm,EV.tr,EV.er,EV.onB])
    | refine Zv ?_
    | refine AW.block ?_
    | refine Zfa rfl ?_
    | refine Z8 rfl ?_
    | (refine AW.skip ?_;simp -implicitDefEqProofs only[go_sem,seval,↓reduceIte,EV.kind,EV.nm,EV.tr,EV.er,EV.onB])
    | (refine AW.exit ?_;simp -implicitDefEqProofs only[go_sem,seval,↓reduceIte,EV.kind,EV.nm,EV.tr,EV.er,EV.onB])
    | (refine AW.ret ?_;simp -implicitDefEqProofs only[go_sem,seval,↓reduceIte,EV.kind,EV.nm,EV.tr,EV.er,EV.onB];refine Zk ?_)
   intro g23
   repeat first
    | (refine Z4 (by kernel_rfl) ?_;simp -implicitDefEqProofs only[go_sem,seval,↓reduceIte,EV.kind,EV.nm,EV.tr,EV.er,EV.onB])
    | (refine AW.region (by kernel_rfl) ?_;simp -implicitDefEqProofs only[go_sem,seval,↓reduceIte,EV.kind,EV.nm,EV.tr,EV.er,EV.onB])
    | refine Zv ?_
    | refine AW.block ?_
    | refine Zfa rfl ?_
    | refine Z8 rfl ?_
    | (refine AW.skip ?_;simp -implicitDefEqProofs only[go_sem,seval,↓reduceIte,EV.kind,EV.nm,EV.tr,EV.er,EV.onB])
    | (refine AW.exit ?_;simp -implicitDefEqProofs only[go_sem,seval,↓reduceIte,EV.kind,EV.nm,EV.tr,EV.er,EV.onB])
    | (refine AW.ret ?_;simp -implicitDefEqProofs only[go_sem,seval,↓reduceIte,EV.kind,EV.nm,EV.tr,EV.er,EV.onB];refine Zk ?_)
   refine hK5 _ ?_;refine Z ?_;refine hL _ ⟨by decide,(),trivial,Zg (by simp -implicitDefEqProofs only[go_sem,seval,↓reduceIte];exact ⟨rfl,rfl,congrArg (V.int .u8) (by decide)⟩) zp⟩
 ·have z:((18:Int)+((3:Nat):Int))=21:=rfl
  rw [z];have e2:=E2 21;simp only [w2 21 (by decide)] at e2;refine Zi fun K5 hK5=>?_;refine Z ?_;refine hK5 _ ?_
  try clear hK5 K5
  refine Zi fun K5 hK5=>?_;refine AW.block ?_;refine Zi fun K6 hK6=>?_;refine Z1 ?_;refine Znf (zi @Za @Ze) hG ?_ (s:=(J2 21 _));simp -implicitDefEqProofs only[go_sem,seval,↓reduceIte,Ztd];refine Znf (zi @Za @Ze) hG ?_ (s:=(e2 _ _));simp -implicitDefEqProofs only[go_sem,seval,↓reduceIte,Zpa,Zka];intro g21;refine hK6 _ ?_
  try clear hK6 K6 e2
  cases t
  ·have hl:Zge 21 (.tru false) B = .tru true:=rfl
   rw [hl]
   repeat first
    | (refine Z4 (by kernel_rfl) ?_;simp -implicitDefEqProofs only[go_sem,seval,↓reduceIte,EV.kind,EV.nm,EV.tr,EV.er])
    | (refine AW.region (by kernel_rfl) ?_;simp -implicitDefEqProofs only[go_sem,seval,↓reduceIte,EV.kind,EV.nm,EV.tr,EV.er])
    | refine Zv ?_
    | refine AW.block ?_
    | refine Zfa rfl ?_
    | refine Z8 rfl ?_
    | (refine AW.skip ?_;simp -implicitDefEqProofs only[go_sem,seval,↓reduceIte,EV.kind,EV.nm,EV.tr,EV.er])
    | (refine AW.exit ?_;simp -implicitDefEqProofs only[go_sem,seval,↓reduceIte,EV.kind,EV.nm,EV.tr,EV.er])
    | (refine AW.ret ?_;simp -implicitDefEqProofs only[go_sem,seval,↓reduceIte,EV.kind,EV.nm,EV.tr,EV.er];refine Zk ?_)
   intro g23;refine Z ?_;refine hK5 _ ?_;refine Z ?_;refine hL _ ⟨by decide,(),trivial,Zg (by simp -implicitDefEqProofs only[go_sem,seval,↓reduceIte];exact ⟨rfl,rfl,congrArg (V.int .u8) (by decide)⟩) zp⟩
  ·have hl:Zge 21 (.tru true) B=B.onB fun b => .tru (if (21:Int)=20 then true != b else b):=by rw [hX,if_neg (by decide),if_neg (by decide)]
   rw [hl]
   try clear hl
   by_cases hBe:∃ e,B.need 2 = .err e
   ·obtain ⟨e,he⟩:=hBe
    have h0:=hEr e he;rw [Z6a _ he];rw [he] at hL ⊢
    repeat first
     | (refine Z4 (by kernel_rfl) ?_;simp -implicitDefEqProofs only[go_sem,seval,↓reduceIte,EV.kind,EV.nm,EV.tr,EV.er,h0])
     | (refine AW.region (by kernel_rfl) ?_;simp -implicitDefEqProofs only[go_sem,seval,↓reduceIte,EV.kind,EV.nm,EV.tr,EV.er,h0])
     | refine Zv ?_
     | refine AW.block ?_
     | refine Zfa rfl ?_
     | refine Z8 rfl ?_
     | (refine AW.skip ?_;simp -implicitDefEqProofs only[go_sem,seval,↓reduceIte,EV.kind,EV.nm,EV.tr,EV.er,h0])
     | (refine AW.exit ?_;simp -implicitDefEqProofs only[go_sem,seval,↓reduceIte,EV.kind,EV.nm,EV.tr,EV.er,h0])
     | (refine AW.ret ?_;simp -implicitDefEqProofs only[go_sem,seval,↓reduceIte,EV.kind,EV.nm,EV.tr,EV.er,h0];refine Zk ?_)
    intro g23
    repeat first
     | (refine Z4 (by kernel_rfl) ?_;simp -implicitDefEqProofs only[go_sem,seval,↓reduceIte,EV.kind,EV.nm,EV.tr,EV.er,h0])
     | (refine AW.region (by kernel_rfl) ?_;simp -implicitDefEqProofs only[go_sem,seval,↓reduceIte,EV.kind,EV.nm,EV.tr,EV.er,h0])
     | refine Zv ?_
     | refine AW.block ?_
     | refine Zfa rfl ?_
     | refine Z8 rfl ?_
     | (refine AW.skip ?_;simp -implicitDefEqProofs only[go_sem,seval,↓reduceIte,EV.kind,EV.nm,EV.tr,EV.er,h0])
     | (refine AW.exit ?_;simp -implicitDefEqProofs only[go_sem,seval,↓reduceIte,EV.kind,EV.nm,EV.tr,EV.er,h0])
     | (refine AW.ret ?_;simp -implicitDefEqProofs only[go_sem,seval,↓reduceIte,EV.kind,EV.nm,EV.tr,EV.er,h0];refine Zk ?_)
    refine hK5 _ ?_;refine Z ?_;refine hL _ ⟨by decide,(),trivial,Zg (by simp -implicitDefEqProofs only[go_sem,seval,↓reduceIte];exact ⟨rfl,rfl,congrArg (V.int .u8) (by decide)⟩) zp⟩
   obtain ⟨u,rfl⟩:=Zkb fun e he=>hBe ⟨e,he⟩;rw [Zxa] at hL ⊢
   repeat first
    | (refine Z4 (by kernel_rfl) ?_;simp -implicitDefEqProofs only[go_sem,seval,↓reduceIte,EV.kind,EV.nm,EV.tr,EV.er,EV.onB])
    | (refine AW.region (by kernel_rfl) ?_;simp -implicitDefEqProofs only[go_sem,seval,↓reduceIte,EV.kind,EV.nm,EV.tr,EV.er,EV.onB])
    | refine Zv ?_
    | refine AW.block ?_
    | refine Zfa rfl ?_
    | refine Z8 rfl ?_
    | (refine AW.skip ?_;simp -implicitDefEqProofs only[go_sem,seval,↓reduceIte,EV.kind,EV.nm,EV.tr,EV.er,EV.onB])
    | (refine AW.exit ?_;simp -implicitDefEqProofs only[go_sem,seval,↓reduceIte,EV.kind,EV.nm,EV.tr,EV.er,EV.onB])
    | (refine AW.ret ?_;simp -implicitDefEqProofs only[go_sem,seval,↓reduceIte,EV.kind,EV.nm,EV.tr,EV.er,EV.onB];refine Zk ?_)
   intro g23
   repeat first
    | (refine Z4 (by kernel_rfl) ?_;simp -implicitDefEqProofs only[go_sem,seval,↓reduceIte,EV.kind,EV.nm,EV.tr,EV.er,EV.onB])
    | (refine AW.region (by kernel_rfl) ?_;simp -implicitDefEqProofs only[go_sem,seval,↓reduceIte,EV.kind,EV.nm,EV.tr,EV.er,EV.onB])
    | refine Zv ?_
    | refine AW.block ?_
    | refine Zfa rfl ?_
    | refine Z8 rfl ?_
    | (refine AW.skip ?_;simp -implicitDefEqProofs only[go_sem,seval,↓reduceIte,EV.kind,EV.nm,EV.tr,EV.er,EV.onB])
    | (refine AW.exit ?_;simp -implicitDefEqProofs only[go_sem,seval,↓reduceIte,EV.kind,EV.nm,EV.tr,EV.er,EV.onB])
    | (refine AW.ret ?_;simp -implicitDefEqProofs only[go_sem,seval,↓reduceIte,EV.kind,EV.nm,EV.tr,EV.er,EV.onB];refine Zk ?_)
   refine hK5 _ ?_;refine Z ?_;refine hL _ ⟨by decide,(),trivial,Zg (by simp -implicitDefEqProofs only[go_sem,seval,↓reduceIte];exact ⟨rfl,rfl,congrArg (V.int .u8) (by decide)⟩) zp⟩
 ·have z:((18:Int)+((4:Nat):Int))=22:=rfl
  rw [z];refine Z ?_;refine hK2 _ ?_;refine Z ?_;refine Znf (zi @Za @Ze) hG ?_ (s:=(Z5 G hE));simp -implicitDefEqProofs only[go_sem,seval,↓reduceIte,List.map_nil];exact Zr
end Go.Hs
end

section
namespace Go.Hs
open Go.Proofs
set_option maxRecDepth 10000
set_option maxHeartbeats 1000000
def knP:List (List UInt8):=[[48],[51],[120],[121],[122],[119],[116,114,117,101],[102,97,108,115,101],[49,32,100,105,118,32,48],[122,32,43,32,49]]
def knO:List (List UInt8):=[[42],[100,105,118],[109,111,100],[43],[45],[60],[60,61],[62],[62,61],[61],[60,62],[97,110,100],[111,114],[120,111,114],[105,109,112,108,105,101,115]]
def knE:List (List UInt8 × Int):=[([120],5),([121],-9223372036854775808),([120],7),([122],9223372036854775807)]
theorem Zwh {n:Nat} (h:n<100000):¬ ((n:Int) > IntKind.i64.max):=by
 show ¬ ((n:Int) > 9223372036854775807)
 omega
theorem Zum:∀ p∈knP,p.length<100:=by decide
theorem knO_len:∀ p∈knO,p.length<100:=by decide
theorem Zff:∀ p∈(Sl.mk false knE).l,Z0b p.2=true:=by decide
theorem Zgo (G:Nat→V) (hE:GExp G) (t:List UInt8):Zng Tryz.prog G 5 [.str t,Zb .old 2 Zea (.mk false knE)] (.bool true):=⟨by kernel_rfl,(Z9h G hE .old t (.mk false knE) Zff).mono fun v _ hv=>by subst hv;rfl⟩
theorem nP (t:List UInt8):∀ n∈(Znb (Zni t).1).l,Z0b n.num=true:=by rw [Zma];exact Zik
theorem Rd.xsK {H:Heap} {o g n:Nat} {l:List XN} (hH:H o = .cells .new g 0 (flat (l.map Zw))) (hn:n≤l.length):Rd H (.agg [.msl o g 0 n 6]) (.agg [Zb .old 6 Zw (.mk false (l.take n))]):=by
 refine Cv.agg _ _ rfl fun i h1 h2=>?_
 have h0:i=0:=by simp only [List.length_cons,List.length_nil] at h1;omega
 subst h0
 have:=Rd.msl (H:=H) (o:=o) (g:=g) (fz:=0) (c := .new) (off:=0) (n:=n) (m:=6) (f:=Zw) (f':=Zw) (l:=l) hH Zkc (fun n y hy=>by
  have:=Im.xn n
  cases this with
  | agg _ h=>exact h y hy) (fun _=>rfl) (by omega)
 rw [Nat.zero_mul,List.drop_zero] at this;exact this
theorem Im.bis (c:Col) (s:Sl (List UInt8 × Int)):(Zb c 2 Zea s).Im:=Zb3 (fun x y hy=>by
 simp [Zea,V.cells] at hy
 rcases hy with rfl | rfl
 ·exact .str _
 ·exact .int _ _) s
theorem Zev (G:Nat→V) (hE:GExp G):Spec Tryz.prog G 7 [] Zu (fun v _=>v = .bool true):=by
 have hG:=hE.ok;refine Zo 0 179 [.tmp 0] Tryz.func7 fun X0=>?_;have lP:knP.length=10:=rfl;have lO:knO.length=15:=rfl;refine Z1 ?_;refine Z1 ?_;intro g22;refine Z1 ?_;intro g23;refine AW.weak (Z7 (fun _=>true) (l:=[(1,Zb .new 2 Zea (.mk false knE)),(2,Zb .new 1 V.str (.mk false knP))]) (m:=[]) ?_ trivial) ?_
 ·refine Zs ?_
  refine ⟨?_,?_⟩
  ·exact Zog (f:=Zea) (l:=knE) (m:=2) (fz:=0) (c := .new) (g:=g22) rfl zp (fun _=>rfl)
  ·exact Zog (f:=V.str) (l:=knP) (m:=1) (fz:=0) (c := .new) (g:=g23) rfl zp (fun _=>rfl)
 refine Zyb (fun (_:Unit)=>st [(1,Zb .new 2 Zea (.mk false knE)),(2,Zb .new 1 V.str (.mk false knP))] []) (fun _=>True) (fun K1 hK1=>?_) ?_
 ·refine Z ?_
  intro g24;refine AW.weak (Z7 (fun _=>true) (l:=[(1,Zb .new 2 Zea (.mk false knE)),(2,Zb .new 1 V.str (.mk false knP)),(24,Zb .new 1 V.str (.mk false knO)),(25,.int .i64 15),(26,.int .i64 0)]) (m:=[]) ?_ trivial) ?_
  ·refine Zs ?_
   refine ⟨Zl _,Zl _,?_,Zl _,Zl _⟩;exact Zog (f:=V.str) (l:=knO) (m:=1) (fz:=0) (c := .new) (g:=g24) rfl zp (fun _=>rfl)
  refine AW.block ?_
  refine Z0a 15 (fun j (_:Unit)=>st [(1,Zb .new 2 Zea (.mk false knE)),(2,Zb .new 1 V.str (.mk false knP)),(24,Zb .new 1 V.str (.mk false knO)),(25,.int .i64 15),(26,.int .i64 j)] []) (fun _ _=>True) 0 () (Nat.zero_le _) trivial
   (Zg zp zp) ?_
  intro j _ hj _ L hL
  by_cases hj1:j<15
  rotate_left
  ·have hje:j=15:=by omega
   subst hje;have z:((15:Nat):Int)=15:=rfl;rw [z];refine Z ?_
   try exact hK1 _ () trivial (Zg zp zp)
  have hlt:decide ((j:Int)<15)=true:=by simp;omega
  have hg:=List.getElem?_eq_getElem (l:=knO) (i:=j) hj1;have hol:=knO_len _ (List.getElem_mem (l:=knO) hj1);generalize knO[j]=o at hg hol;have wj:IntKind.i64.wrap ((j:Int)+1)=(j:Int)+1:=w64 (by omega) (by omega)
  have hj15:(j:Int)<15:=by omega
  refine Zf (zi hlt (zi hg (zi lO (zi @Int.natCast_nonneg hj15)))) ?_
  refine Z0a 10 (fun i (_:Unit)=>st [(1,Zb .new 2 Zea (.mk false knE)),(2,Zb .new 1 V.str (.mk false knP)),(24,Zb .new 1 V.str (.mk false knO)),(25,.int .i64 15),(26,.int .i64 j),(4,.str o),(5,.int .i64 i)] []) (fun _ _=>True) 0 () (Nat.zero_le _) trivial
   (Zg zp zp) ?_
  intro i _ hi _ L2 hL2
  by_cases hi1:i<10
  rotate_left
  ·have hie:i=10:=by omega
   subst hie;have z:((10:Nat):Int)=10:=rfl;rw [z];refine Zf (zi lP wj) ?_;exact hL _ ⟨hj1,(),trivial,Zg zp zp⟩
  have hlti:decide ((i:Int)<10)=true:=by simp;omega
  have hgi:=List.getElem?_eq_getElem (l:=knP) (i:=i) hi1;have hpl:=Zum _ (List.getElem_mem (l:=knP) hi1);generalize knP[i]=p at hgi hpl;have wi:IntKind.i64.wrap ((i:Int)+1)=(i:Int)+1:=w64 (by omega) (by omega)
  have hi10:(i:Int)<10:=by omega
  refine Zf (zi hlti lP) ?_
  refine Z0a 10 (fun k (_:Unit)=>st [(1,Zb .new 2 Zea (.mk false knE)),(2,Zb .new 1 V.str (.mk false knP)),(24,Zb .new 1 V.str (.mk false knO)),(25,.int .i64 15),(26,.int .i64 j),(4,.str o),(5,.int .i64 i),(6,.int .i64 k)] []) (fun _ _=>True) 0 () (Nat.zero_le _) trivial
   (Zg zp zp) ?_
  intro k _ hk _ L3 hL3
  by_cases hk1:k<10
  rotate_left
  ·have hke:k=10:=by omega
   subst hke;have z:((10:Nat):Int)=10:=rfl;rw [z];refine Zf (zi lP wi) ?_;exact hL2 _ ⟨hi1,(),trivial,Zg zp zp⟩
  have hltk:decide ((k:Int)<10)=true:=by simp;omega
  have hgk:=List.getElem?_eq_getElem (l:=knP) (i:=k) hk1;have hql:=Zum _ (List.getElem_mem (l:=knP) hk1);generalize knP[k]=q at hgk hql;have n1:¬ (((1+p.length:Nat):Int) > IntKind.i64.max):=Zwh (by omega);have n2:¬ (((p.length+1+2:Nat):Int) > IntKind.i64.max):=Zwh (by omega);have n3:¬ ((((p++[41,32]).length+1+o.length:Nat):Int) > IntKind.i64.max):=Zwh (by simp only [List.length_append,List.length_cons,List.length_nil];omega);have n4:¬ ((((p++[41,32]++o).length+1+2:Nat):Int) > IntKind.i64.max):=Zwh (by simp only [List.length_append,List.length_cons,List.length_nil];omega);have n5:¬ ((((p++[41,32]++o++[32,40]).length+1+q.length:Nat):Int) > IntKind.i64.max):=Zwh (by simp only [List.length_append,List.length_cons,List.length_nil];omega);have n6:¬ ((((p++[41,32]++o++[32,40]++q).length+1+1:Nat):Int) > IntKind.i64.max):=Zwh (by simp only [List.length_append,List.length_cons,List.length_nil];omega);have wk:IntKind.i64.wrap ((k:Int)+1)=(k:Int)+1:=w64 (by omega) (by omega)
  have hk10:(k:Int)<10:=by omega
  refine Zf (zi hltk lP) ?_;refine Zx ⟨fun i=>if i=16 then .bool true else .top,fun _ => .pure⟩ (by kernel_rfl) hG (by kernel_rfl) (by kernel_rfl) ?_;refine Zsf (zi hgi (zi hgk (zi lP (zi @Int.natCast_nonneg (zi hi10 (zi hk10 (zi @Ze (zi @Bool.not_true (zi n1 (zi n2 (zi n3 (zi n4 (zi n5 n6))))))))))))) ?_;refine ⟨Zgo G hE _,?_⟩;refine Zf wk ?_;exact hL3 _ ⟨hk1,(),trivial,Zg zp zp⟩
 rintro _ -;refine Zyb (fun (_:Unit)=>st [(1,Zb .new 2 Zea (.mk false knE)),(2,Zb .new 1 V.str (.mk false knP))] []) (fun _=>True) (fun K1 hK1=>?_) ?_
 ·refine Z ?_
  refine Z0a 10 (fun i (_:Unit)=>st [(1,Zb .new 2 Zea (.mk false knE)),(2,Zb .new 1 V.str (.mk false knP)),(7,.int .i64 i)] []) (fun _ _=>True) 0 () (Nat.zero_le _) trivial
   (Zg zp zp) ?_
  intro i _ hi _ L2 hL2
  by_cases hi1:i<10
  rotate_left
  ·have hie:i=10:=by omega
   subst hie;have z:((10:Nat):Int)=10:=rfl;rw [z];refine Zf lP ?_;exact hK1 _ () trivial (Zg zp zp)
  have hlti:decide ((i:Int)<10)=true:=by simp;omega
  have hgi:=List.getElem?_eq_getElem (l:=knP) (i:=i) hi1;have hpl:=Zum _ (List.getElem_mem (l:=knP) hi1);generalize knP[i]=p at hgi hpl;have wi:IntKind.i64.wrap ((i:Int)+1)=(i:Int)+1:=w64 (by omega) (by omega)
  have hi10:(i:Int)<10:=by omega
  have m1:¬ (((3+p.length:Nat):Int) > IntKind.i64.max):=Zwh (by omega);have m2:¬ (((p.length+1+1+1+1:Nat):Int) > IntKind.i64.max):=Zwh (by omega);have m3:¬ (((5+p.length:Nat):Int) > IntKind.i64.max):=Zwh (by omega);have m4:¬ (((p.length+1+1+1+1+1+1:Nat):Int) > IntKind.i64.max):=Zwh (by omega);refine Zf (zi hlti (zi lP (zi hgi (zi @Int.natCast_nonneg (zi hi10 (zi m1 (zi m2 (zi m3 m4)))))))) ?_;refine Znf (zi @Za @Ze) hG ?_ (s:=(Z9h G hE .old _ (.mk false knE) Zff));refine Zsf (zi @Bool.not_true (zi @Bool.not_false (zi hgi (zi lP (zi @Int.natCast_nonneg (zi hi10 (zi m1 (zi m2 (zi m3 m4))))))))) ?_;refine Znf (zi @Za @Ze) hG ?_ (s:=(Z9h G hE .old _ (.mk false knE) Zff));refine Zsf (zi @Bool.not_true @Bool.not_false) ?_;refine Zf lP ?_
  refine Z0a 10 (fun k (_:Unit)=>st [(1,Zb .new 2 Zea (.mk false knE)),(2,Zb .new 1 V.str (.mk false knP)),(7,.int .i64 i),(8,.int .i64 k)] []) (fun _ _=>True) 0 () (Nat.zero_le _) trivial
   (Zg zp zp) ?_
  intro k _ hk _ L3 hL3
  by_cases hk1:k<10
  rotate_left
  ·have hke:k=10:=by omega
   subst hke;have z:((10:Nat):Int)=10:=rfl;rw [z];refine Zf (zi lP wi) ?_;exact hL2 _ ⟨hi1,(),trivial,Zg zp zp⟩
  have hltk:decide ((k:Int)<10)=true:=by simp;omega
  have hgk:=List.getElem?_eq_getElem (l:=knP) (i:=k) hk1;have hql:=Zum _ (List.getElem_mem (l:=knP) hk1);obtain ⟨r,hr⟩:∃ r:Nat,r=9-k:=⟨_,rfl⟩
  have hr1:r<knP.length:=by rw [lP];omega
  have hgr:=List.getElem?_eq_getElem (l:=knP) (i:=r) hr1;have hul:=Zum _ (List.getElem_mem (l:=knP) hr1);generalize knP[k]=q at hgk hql;generalize knP[r]=u at hgr hul;have wk:IntKind.i64.wrap ((k:Int)+1)=(k:Int)+1:=w64 (by omega) (by omega)
  have w9:IntKind.i64.wrap 9=9:=by decide
  have wr:IntKind.i64.wrap (9-(k:Int))=(r:Int):=by rw [w64 (by omega) (by omega)];omega
  have hk10:(k:Int)<10:=by omega
  have hr10:(r:Int)<10:=by omega
  have c1:¬ (((3+p.length:Nat):Int) > IntKind.i64.max):=Zwh (by omega);have c2:¬ (((p.length+1+1+1+6:Nat):Int) > IntKind.i64.max):=Zwh (by omega);have c3:¬ ((((p++[32,116,104,101,110,32]).length+1+1+1+q.length:Nat):Int) > IntKind.i64.max):=Zwh (by simp only [List.length_append,List.length_cons,List.length_nil];omega);have c4:¬ ((((p++[32,116,104,101,110,32]++q).length+1+1+1+6:Nat):Int) > IntKind.i64.max):=Zwh (by simp only [List.length_append,List.length_cons,List.length_nil];omega);have c5:¬ ((((p++[32,116,104,101,110,32]++q++[32,101,108,115,101,32]).length+1+1+1+u.length:Nat):Int) > IntKind.i64.max):=Zwh (by simp only [List.length_append,List.length_cons,List.length_nil];omega);have c6:¬ ((((p++[32,116,104,101,110,32]++q++[32,101,108,115,101,32]++u).length+1+1+1+6:Nat):Int) > IntKind.i64.max):=Zwh (by simp only [List.length_append,List.length_cons,List.length_nil];omega);refine Zf (zi hltk lP) ?_;refine Zx ⟨fun i=>if i=23 then .bool true else .top,fun _ => .pure⟩ (by kernel_rfl) hG (by kernel_rfl) (by kernel_rfl) ?_;refine Zsf (zi hgi (zi hgk (zi hgr (zi lP (zi @Int.natCast_nonneg (zi hi10 (zi hk10 (zi hr10 (zi @Ze (zi @Bool.not_true (zi w9 (zi wr (zi c1 (zi c2 (zi c3 (zi c4 (zi c5 c6))))))))))))))))) ?_;refine ⟨Zgo G hE _,?_⟩;refine Zf (zi hgi (zi lP (zi @Int.natCast_nonneg hi10))) ?_;refine Zn hG ?_ (s:=(Zqe G hE p (by first | omega | decide)));simp -implicitDefEqProofs only[go_sem,seval,↓reduceIte,Z3s,Ztd];intro g9;refine Zf (zi hgk (zi lP (zi @Int.natCast_nonneg hk10))) ?_
  refine Zn hG ?_ (s:=(Zqe G hE q (by first | omega | decide)));simp -implicitDefEqProofs only[go_sem,seval,↓reduceIte,Z3s,Ztd];intro g12;refine Z ?_;refine Zn hG ?_ (s:=(Zqe G hE [120,32,61,32,53] (by first | omega | decide)));simp -implicitDefEqProofs only[go_sem,seval,↓reduceIte,Z3s,Ztd];intro g15;refine Z ?_;refine Znf (zi @Za @Ze) hG ?_ (s:=(Zci G hE _ _ _ (.mk false knE) (nP _) (nP _) (nP _) Zff));refine Zsf (zi @Bool.not_true @Bool.not_false) ?_;refine Znf (zi @Za @Ze) hG ?_ (s:=(Zci G hE _ _ _ (.mk false knE) (nP _) (nP _) (nP _) Zff));refine Zsf (zi @Bool.not_true @Bool.not_false) ?_;refine Znf (zi @Za @Ze) hG ?_ (s:=(Z8h G hE .old .old _ (.mk false knE) [113] 1 (nP _) Zff (by decide)));refine Zsf (zi @Bool.not_true @Bool.not_false) ?_;refine Znf (zi @Za @Ze) hG ?_ (s:=(Z8h G hE .old .old _ (.mk false knE) [120] 1 (nP _) Zff (by decide)));refine Zsf (zi @Bool.not_true @Bool.not_false) ?_;refine Zf wk ?_;exact hL3 _ ⟨hk1,(),trivial,Zg zp zp⟩
 rintro _ -
 have hz:∀ n∈(Sl.nil:Sl XN).l,Z0b n.num=true:=fun n hn=>by cases hn
 have hz2:∀ n∈(Sl.nil:Sl (List UInt8 × Int)).l,Z0b n.2=true:=fun n hn=>by cases hn
 refine Z ?_;refine Znf (zi @Za @Ze) hG ?_ (s:=(Z6h G hE .old .old .nil .nil hz hz2));refine Zsf (zi @Bool.not_true @Bool.not_false) ?_;intro g171;refine Z5e hG [.agg [Zb .old 6 Zw (.mk false [⟨9,0,[],0,0,0⟩])],Zb .old 2 Zea (.mk false knE)] (by kernel_rfl) ⟨Rd.xsK (n:=1) (l:=[⟨9,0,[],0,0,0⟩]) zp (by decide),Zew (Im.bis _ _) (Ze _ _ _),trivial⟩ ?_;refine (Z6h G hE .old .old (.mk false [⟨9,0,[],0,0,0⟩]) (.mk false knE) (by decide) Zff).mono ?_;rintro _ _ rfl;refine ⟨.bool _,?_⟩;refine Zsf (zi @Bool.not_true @Bool.not_false) ?_;refine Znf (zi @Za @Ze) hG ?_ (s:=(Z5 G hE));simp -implicitDefEqProofs only[go_sem,seval,↓reduceIte,List.map_nil];exact Zr
end Go.Hs
end

section
namespace Go.Proofs.YtnjcehngoajnnaaGreatDoor
open Go.RowKit Go.Hs
set_option maxRecDepth 100000
def Zid:List (String × DataW Unit):=[("math/bits.deBruijn32tab",Rows.laid_math_bits_deBruijn32tab),("math/bits.deBruijn64tab",Rows.laid_math_bits_deBruijn64tab),("internal/strconv.uint64pow10",Rows.laid_internal_strconv_uint64pow10),("unicode/utf8.acceptRanges",Rows.laid_unicode_utf8_acceptRanges),("strconv.ErrRange",Rows.laid_strconv_ErrRange),("strconv.ErrSyntax",Rows.laid_strconv_ErrSyntax),("hopscotch/lex.signs",Rows.laid_hopscotch_lex_signs),("unicode/utf8.first",Rows.laid_unicode_utf8_first)]
noncomputable def low:Nat:=(World.holding Tryz.prog default ⟨#[],#[],[]⟩).heap.size
def b32:List Int:=[0,1,28,2,29,14,24,3,30,22,20,15,25,17,4,8,31,27,13,23,21,19,16,7,26,12,18,6,11,5,10,9]
def b64:List Int:=0::1::56::2::57::49::28::3::61::58::42::50::38::29::17::4::62::47::59::36::45::43::51::22::53::39::33::30::24::18::12::5::63::55::48::27::60::41::37::16::46::35::44::21::52::32::23::11::54::26::40::15::34::20::31::10::25::14::19::9::13::8::7::6::[]
def acR:List Int:=[128,191,160,191,128,159,144,191,128,143]++List.replicate 22 0
def errR:ByteArray:={ data := #[118,97,108,117,101,32,111,117,116,32,111,102,32,114,97,110,103,101] }
def errS:ByteArray:={ data := #[105,110,118,97,108,105,100,32,115,121,110,116,97,120] }
def Z6d (cs:Array Value):Obj→Obj
 | .cells _ t frozen => .cells cs t frozen
 | o=>o
noncomputable def laidWorld (os:Os):World :=
 let w0:=World.holding Tryz.prog os ⟨#[.cells #[.string errR] 328,.cells #[.string errS] 328],#[],[]⟩
 { w0 with heap:=(((((((w0.heap.modify 2 (Z6d #[.iface 326 (.pointer (some ⟨low,0,none⟩))])).modify 5 (Z6d #[.iface 326 (.pointer (some ⟨low+1,0,none⟩))])).modify 6
   (Z6d (Lib.pow10Tab.map (Value.int .u64)).toArray)).modify 7 (Z6d (b32.map (Value.int .u8)).toArray)).modify 8 (Z6d (b64.map (Value.int .u8)).toArray)).modify 4 (Z6d (acR.map (Value.int .u8)).toArray)).modify
   0 (Z6d (signsL.map fun s=>Value.string ⟨s.toArray⟩).toArray)).modify 3 (Z6d (Pinned.utf8FirstZ.map fun (n:Nat)=>Value.int .u8 (n:Int)).toArray) }
theorem Zbg (os:Os) (args:Array Value):laidMet Tryz.prog Zid ((laidWorld os).forCall (fun _ _=>0) ⟨#[],args,[]⟩).memory :=
 laidMet_of_run' 8 (by kernel_rfl) (by kernel_rfl)
end Go.Proofs.YtnjcehngoajnnaaGreatDoor
end

section
namespace Go.Proofs.YtnjcehngoajnnaaGreatDoor
open Go.RowKit Go.Hs
set_option maxRecDepth 100000
theorem Z2a {P:Program} {W:World} {x:String × DataW Unit} {r:List (String × DataW Unit)} (h:laidMet P (x::r) W):laidMet P r W:=by
 obtain ⟨n,d⟩:=x;obtain ⟨ps,⟨g0,t0,cs0,f0,p0,q0,hg0,ht0,hv0,hd0,hq,e0⟩,hnd,hrows⟩:=h;subst e0;exact ⟨q0,hq,(List.nodup_append.1 hnd).2.1,fun b off hm=>hrows b off (List.mem_append.2 (.inr hm))⟩
noncomputable def gE (m:Int):Nat→V:=fun g=>if g=2 then .view .old (.iface 326 (.view .old (.agg []))) else if g=6 then .view .old (.agg (Lib.pow10Tab.map (V.int .u64)))
 else if g=0 then .view .old (.agg (signsL.map V.str)) else if g=1 then .view .old (.int .i64 m) else .top
theorem Zdm (f:Col→Col):∀ l:List Int,Zqa f (l.map (V.int .u64))=l.map (V.int .u64)
 | []=>rfl
 | x::r=>by simp only [List.map_cons,Zqa];rw [Zdm f r]<;>rfl
theorem Zcm (f:Col→Col):∀ l:List (List UInt8),Zqa f (l.map V.str)=l.map V.str
 | []=>rfl
 | x::r=>by simp only [List.map_cons,Zqa];rw [Zcm f r]<;>rfl
theorem gE_ok (m:Int):GExp (gE m) where
 ok:=fun g=>by
  unfold gE
  split
  ·exact ⟨rfl,.view _ _ fun x hx=>by simp [V.cells] at hx;subst hx;exact .iface _ _ (.view _ _ fun x hx=>by simp [V.cells] at hx)⟩
  ·split
   ·refine ⟨by simp only [V.recol,Col.ent,Zdm],.view _ _ fun x hx=>?_⟩
    obtain ⟨n,_,rfl⟩:=List.mem_map.1 hx;exact .int _ _
   ·split
    ·refine ⟨by simp only [V.recol,Col.ent,Zcm],.view _ _ fun x hx=>?_⟩
     obtain ⟨n,_,rfl⟩:=List.mem_map.1 hx;exact .str _
    ·split
     ·exact ⟨rfl,.view _ _ fun x hx=>by simp [V.cells] at hx;subst hx;exact .int _ _⟩
     ·exact ⟨rfl,.top⟩
 er:=⟨_,_,_,rfl⟩
 tab:=⟨_,rfl⟩
 sg:=⟨_,rfl⟩
 ml:=⟨_,m,rfl⟩
theorem gER:Tryz.prog.globalNamed "strconv.ErrRange" = some 2:=by kernel_rfl
theorem gERType:(Tryz.prog.globals[2]?).map (·.type)=some 279:=by kernel_rfl
theorem Zq5:Tryz.prog.cellsOf 328=1:=by kernel_rfl
theorem Zs6:Tryz.prog.cellsOf 9=1:=by kernel_rfl
theorem star : "*" ++ "errors.errorString" = "*errors.errorString" := by decide
theorem row109 (u:TypeId) (h:Tryz.prog.typeName? 3 u=some "*errors.errorString"):u=326 :=
 typeName_ptr_named (nm := "errors.errorString") (by rw [star];kernel_rfl) (by kernel_rfl) (by decide) u (by rw [star];exact h)
theorem gTab:Tryz.prog.globalNamed "internal/strconv.uint64pow10" = some 6:=by kernel_rfl
theorem Zf5:∃ t n,(Tryz.prog.globals[6]?).map (·.type)=some t∧Tryz.prog.underlying t=some (.array n 262)∧Tryz.prog.cellsOf t=n∧n=20:=by
 refine ⟨(((Tryz.prog.globals[6]?).map (·.type)).getD 0),20,by kernel_rfl,by kernel_rfl,by kernel_rfl,rfl⟩
theorem Z44 {W:World} (h:laidMet Tryz.prog Zid W):Lib.TabIs Tryz.prog W "internal/strconv.uint64pow10" .u64 Lib.pow10Tab:=by
 obtain ⟨t,n,h1,h2,h3,rfl⟩:=Zf5
 have e:(Rows.laid_internal_strconv_uint64pow10:DataW Unit)=Lib.tabData .u64 Lib.pow10Tab:=by rfl
 have h4:=Z2a (Z2a h);rw [e] at h4;exact Lib.tabIs_of_head gTab h1 h2 Tryz.underlying262 (by kernel_rfl) h3 h4
theorem Z54 {W:World} (h:laidMet Tryz.prog Zid W):∃ b off,W.cell? ⟨2,0,none⟩=some (.iface 326 (.pointer (some ⟨b,off,none⟩))):=by
 obtain ⟨a,s,h1,h2,_,_⟩:=laid_sentinel (Z2a (Z2a (Z2a (Z2a h)))) gER gERType Tryz.underlying279 row109 Tryz.underlying326 Tryz.underlying328 rfl rfl Tryz.underlying9 Zq5 Zs6;have h0:=World.var?_cell gER h1 0;have hs:=World.cell?_spot h2;obtain ⟨b,off,sp⟩:=a;have hs:sp=none:=hs;subst hs;exact ⟨b,off,by simpa using h0⟩
def Znu {H:Type} (zs:List (List UInt8)):DataW H := .agg (zs.map fun z => .lit (.string z))
theorem Zbq {H:Type} {enc:TypeId × Value→H} {P:Program} {w:World} {base:Nat} {sp:Nat→Bool} {held:Bool} {fuel:Nat} {t e:TypeId} {n:Nat} {cs:List Value} {zs:List (List UInt8)} {p:List MemPlace}
  (ht:P.underlying t=some (.array n e)) (he:P.underlying e=some .string) (hce:P.cellsOf e=1) (hct:P.cellsOf t=n)
  (h:DataW.trod enc P w base sp held fuel t cs=some (Znu zs,p)):cs.length=zs.length∧∀ i (hi:i<zs.length),∃ s:ByteArray,cs[i]? = some (.string s)∧s.data.toList=zs[i]:=by
 cases fuel with
 | zero=>simp [DataW.trod] at h
 | succ fuel =>
  simp only [DataW.trod,ht,hce,hct,Nat.mul_one] at h
  split at h
  ·rename_i hl
   obtain ⟨xs,hm,hx⟩:=Option.map_eq_some_iff.1 h
   have hxs:xs.map (·.1)=zs.map fun z=>(DataW.lit (.string z):DataW H):=by
    have:=congrArg Prod.fst hx;simpa [Znu] using this
   have hxl:xs.length=n:=by simpa using Lib.mapM_length hm
   have hzl:zs.length=n:=by
    have:=congrArg List.length hxs;simp at this;omega
   refine ⟨by omega,fun i hi=>?_⟩
   have hin:i<n:=by omega
   obtain ⟨b,hb,hf⟩:=Lib.mapM_at hm i i (by simp [hin]);obtain ⟨z,hc,rfl,_⟩:=DataW.trod_string he hf
   have h1:cs[i]? = some (.string z):=by
    have:=congrArg (·[0]?) hc;simpa [List.getElem?_take,List.getElem?_drop] using this
   have h2:(xs.map (·.1))[i]? = some (DataW.lit (.string z.data.toList):DataW H):=by simp [hb]
   rw [hxs,List.getElem?_map,List.getElem?_eq_getElem hi] at h2;refine ⟨z,h1,?_⟩;have h3:(DataW.lit (.string zs[i]):DataW H) = .lit (.string z.data.toList):=Option.some.inj h2
   injection h3 with h3
   injection h3 with h3
   exact h3.symm
  ·cases h
theorem gSg:Tryz.prog.globalNamed "hopscotch/lex.signs" = some 0:=by kernel_rfl
theorem gSgType:(Tryz.prog.globals[0]?).map (·.type)=some 212:=by kernel_rfl
theorem Z0y {W:World} (h:laidMet Tryz.prog Zid W):∃ cs:Array Value,W.var? Tryz.prog "hopscotch/lex.signs" = some cs∧cs.size=14∧∀ i (hi:i<signsL.length),∃ s:ByteArray,cs[i]? = some (.string s)∧s.data.toList=signsL[i]:=by
 have e:(Rows.laid_hopscotch_lex_signs:DataW Unit)=Znu signsL:=by rfl
 have h4:=Z2a (Z2a (Z2a (Z2a (Z2a (Z2a h)))));rw [e] at h4;obtain ⟨ps,⟨g',t',cs,fuel,p,q,hg',ht',hvar,hd,_,_⟩,_⟩:=h4;obtain rfl:=Option.some.inj (gSg.symm.trans hg');obtain rfl:=Option.some.inj (gSgType.symm.trans ht');obtain ⟨h1,h2⟩:=Zbq Tryz.underlying212 Tryz.underlying9 Zs6 (by kernel_rfl) hd;refine ⟨_,hvar,(by simpa using h1:cs.size=signsL.length).trans rfl,fun i hi=>?_⟩;obtain ⟨s,h3,h4⟩:=h2 i hi;exact ⟨s,by simpa using h3,h4⟩
theorem Zt1 {W:World} (h:W.ShapedOpen Tryz.prog):∃ m,W.cell? ⟨1,0,none⟩=some (.int .i64 m):=by
 obtain ⟨cs,hh,hs,hr⟩:=h.1 1 #[.int .i64 0] 3 (of_decide_eq_true (by kernel_rfl)) (by kernel_rfl);obtain ⟨ts,hts,_,hall⟩:=hr (by kernel_rfl);rw [show Tryz.prog.cellTypes Tryz.prog.depth 3=some [3] by kernel_rfl] at hts;cases hts
 have h1:0<cs.size:=by rw [hs];decide
 obtain ⟨u,hu',hok⟩:=hall 0 cs[0] (by simp [h1])
 have:u=3:=by simpa using hu'.symm
 subst this
 have hcell:W.cell? ⟨1,0,none⟩=some cs[0]:=by simp [World.cell?,hh,h1]
 rw [hcell];unfold Cell.ok at hok;rw [Tryz.underlying3] at hok
 cases hv:cs[0]<;>rw [hv] at hok<;>first | (obtain ⟨rfl,_⟩:=hok;exact ⟨_,rfl⟩) | simp at hok
theorem Zy1 {W:World} (h:laidMet Tryz.prog Zid W) (hS:W.ShapedOpen Tryz.prog):∃ m,∀ g,RelG (Ztb W) g (gE m g):=by
 obtain ⟨m,hml⟩:=Zt1 hS;refine ⟨m,fun g=>?_⟩;unfold gE
 split
 ·rename_i hg
  subst hg;obtain ⟨b,off,h1⟩:=Z54 h;refine ⟨?_,trivial⟩;refine .view .old _ 2 0 (fun _ => .iface 326 (.pointer (some ⟨b,off,none⟩))) (fun i hi=>?_) (fun i hi=>?_)
  ·have:i=0:=by simpa [V.cells] using hi
   subst this;refine ⟨by show (W.cell? _).isSome=true;rw [h1]<;>rfl,World.block_lt_of_cell? _ _ h1,h1,rfl⟩
  ·have:i=0:=by simpa [V.cells] using hi
   subst this;exact .iface _ _ _ (.view .old _ b off (fun _ => .nilIface) (fun i hi=>by simp [V.cells] at hi) (fun i hi=>by simp [V.cells] at hi))
 ·split
  ·rename_i hg
   subst hg;have ht:=Z44 h;have hc:∀ i (hi:i<Lib.pow10Tab.length),W.cell? ⟨6,i,none⟩=some (.int .u64 (Lib.pow10Tab.getD i 0)):=fun i hi=>ht.cell gTab i hi;have hlen:Lib.pow10Tab.length=20:=Lib.pow10Tab_length;have hlt:6<W.heap.size:=World.block_lt_of_cell? _ _ (hc 0 (by omega))
   have hv:W.var? Tryz.prog "internal/strconv.uint64pow10" = some (Lib.pow10Tab.map fun z=>Value.int .u64 z).toArray:=ht
   refine ⟨?_,?_⟩
   ·refine .view .old _ 6 0 (fun i => .int .u64 (Lib.pow10Tab.getD i 0)) (fun i hi=>?_) (fun i hi=>?_)
    ·have hi:i<Lib.pow10Tab.length:=by simpa [V.cells] using hi
     rw [Nat.zero_add];exact ⟨by show (W.cell? _).isSome=true;rw [hc i hi]<;>rfl,hlt,hc i hi,rfl⟩
    ·have hi':i<Lib.pow10Tab.length:=by simpa [V.cells] using hi
     have key:∀ v,v=V.int .u64 (Lib.pow10Tab.getD i 0)→Rel (Ztb W) (Value.int .u64 (Lib.pow10Tab.getD i 0)) v:=fun v e=>by rw [e];exact .int _ _
     exact key _ (by simp [V.cells,List.getD,hi'])
   ·refine ⟨hlt,?_⟩
    unfold World.var? at hv;rw [gTab] at hv;have hv:(match W.heap[6]? with | some (Obj.cells cs _ _)=>some cs | _=>none)=some (Lib.pow10Tab.map fun z=>Value.int .u64 z).toArray:=hv
    split at hv
    ·rename_i cs t fr hh
     cases hv;exact ⟨_,t,fr,hh,by simp⟩
    ·cases hv
  ·split
   ·rename_i hg
    subst hg;obtain ⟨cs,hv,hsz,hcs⟩:=Z0y h;have h0:=fun i=>World.var?_cell gSg hv i
    have hc:∀ i (hi:i<signsL.length),∃ s:ByteArray,W.cell? ⟨0,i,none⟩=some (.string s)∧s.data.toList=signsL[i]:=fun i hi=>by
     obtain ⟨s,h1,h2⟩:=hcs i hi;exact ⟨s,by rw [h0 i];exact h1,h2⟩
    have hlt:0<W.heap.size:=by
     obtain ⟨s,h1,_⟩:=hc 0 (by decide);exact World.block_lt_of_cell? _ _ h1
    refine ⟨?_,?_⟩
    ·refine .view .old _ 0 0 (fun i=>(cs[i]?).getD undef) (fun i hi=>?_) (fun i hi=>?_)
     ·have hi:i<signsL.length:=by simpa [V.cells] using hi
      obtain ⟨s,h1,_⟩:=hcs i hi;rw [Nat.zero_add,h1]
      have h2:W.cell? ⟨0,i,none⟩=some (.string s):=by rw [h0 i];exact h1
      exact ⟨by show (W.cell? _).isSome=true;rw [h2]<;>rfl,hlt,h2,rfl⟩
     ·have hi':i<signsL.length:=by simpa [V.cells] using hi
      obtain ⟨s,h1,h2⟩:=hcs i hi';rw [h1]
      have key:∀ v,v=V.str signsL[i]→Rel (Ztb W) (Value.string s) v:=fun v e=>by rw [e];exact .str _ _ h2
      exact key _ (by simp [V.cells])
    ·refine ⟨hlt,?_⟩
     unfold World.var? at hv;rw [gSg] at hv;have hv:(match W.heap[0]? with | some (Obj.cells cs _ _)=>some cs | _=>none)=some cs:=hv
     split at hv
     ·rename_i cs' t fr hh
      cases hv;exact ⟨_,t,fr,hh,by rw [hsz]<;>rfl⟩
     ·cases hv
   ·split
    ·rename_i hg
     subst hg;refine ⟨?_,trivial⟩;refine .view .old _ 1 0 (fun _ => .int .i64 m) (fun i hi=>?_) (fun i hi=>?_)
     ·have:i=0:=by simpa [V.cells] using hi
      subst this;refine ⟨by show (W.cell? _).isSome=true;rw [hml]<;>rfl,World.block_lt_of_cell? _ _ hml,hml,rfl⟩
     ·have:i=0:=by simpa [V.cells] using hi
      subst this;exact .int _ _
    ·exact ⟨.top _,trivial⟩
end Go.Proofs.YtnjcehngoajnnaaGreatDoor
end

section
namespace Go.Proofs.YtnjcehngoajnnaaGreatDoor
open Go.RowKit Go.Hs Go.ChangeShapes Go.WideShapes Go.ChangeAt
open Go.ChangeMaps (open_string shut_string)
set_option maxRecDepth 100000
theorem Zcs (W:World):Reads Tryz.prog W 9 1 (fun s:List UInt8=>[V.str s]):=by
 refine ⟨by kernel_rfl,fun _=>rfl,fun enc held fuel cs x h=>?_⟩;obtain ⟨s,rfl,_,_⟩:=DataW.trod_string Tryz.underlying9 h;exact ⟨s.data.toList,Zde rfl (.str _ _ rfl) RelC.nil⟩
theorem Zwm {k:IntKind} {n:Int} (h:(Lit.int k n).wf=true):InK k n:=by
 simpa [Lit.wf,InK] using h
variable {W:World} {H:Type} {enc:TypeId × Value→H} {b0:Nat} {v:Value} {d:DataW H} {ps:List MemPlace}
theorem argS (hv:Value.okWide Tryz.prog W .any b0 9 v) (h:DataW.Trod enc Tryz.prog W 0 (fun _=>true) true 9 v d ps):∃ x:List UInt8,Rel (Ztb W) v (.str x):=by
 obtain ⟨s,rfl,_,_,_⟩:=open_string Tryz.underlying9 hv h;exact ⟨_,.str s _ rfl⟩
theorem own:ownKnob Tryz.prog.godebug=none:=by kernel_rfl
theorem Zye:laidOutB Tryz.prog=true:=by kernel_rfl
theorem Zii {a:Assume} {C:Checked} {os:Os} {f:FuncId} {fn:Func} {H:Type} {enc:TypeId × Value→H} {s:ChangeSpec} {conds:List PathCond} {apart fresh handsOn again:Bool} {X:World→Array Value→Prop}
  (hX:∀ (w w':World) (args:Array Value),w.heap=w'.heap→X w args→X w' args)
  (ownk:ownKnob C.prog.godebug=none) (started:os.Started) (noInit:C.prog.inits.idxOf? f=none) (hfn:C.prog.funcs[f]? = some fn)
  (witness:∃ (w:World) (tape:Tape) (i:Input),w.os=os∧(w.forCall tape i).Shaped C.prog∧i.vars=[]∧Input.okWide C.prog (w.forCall tape i) .any w.heap.size f i ∧
   ((s.pre enc C.prog fn conds apart (w.forCall tape i).memory i.args∧X (w.forCall tape i).memory i.args)∧sizedMet enc C.prog fn (OpenSpec.ofChange s) apart (w.forCall tape i).memory i.args)∧a.holds C.prog (lone (Frame.enter C.prog f i.args .normal) [] (w.forCall tape i)))
  (contract:∀ (W:World) (base:Nat) (args:Array Value) (ds gs:List (DataW H)) (before:List MemPlace),W.ShapedOpen C.prog →
   (∀ (j:Nat) t v,fn.params[j]? = some t→args[j]? = some v→Value.okWide C.prog W .any base t v) →
   DataW.Whole enc C.prog fn.params.toList s.vars apart W args.toList ds gs before→X W args →
   Calls C.prog f args W fun e W'=>∃ v,e = .returned v∧s.post enc C.prog fn apart fresh handsOn again W args v W') :
  ReturnsInHanded a C os f .any (fun w args=>(s.pre enc C.prog fn conds apart w args∧X w args)∧sizedMet enc C.prog fn (OpenSpec.ofChange s) apart w args) (s.post enc C.prog fn apart fresh handsOn again):=by
 refine returnsInHanded_of_calls ownk started noInit witness ?_;intro w tape i _ hsh _ hok hpre _;obtain ⟨_,_,_,fn',hfn',_,_,_,_,hval⟩:=hok;have e:fn'=fn:=Option.some.inj (hfn'.symm.trans hfn);subst e;obtain ⟨⟨⟨ds,gs,before,hw,_⟩,hx⟩,_⟩:=hpre;have hw':=DataW.Whole.of_heap (w':=w.forCall tape i) (by rfl) hw;refine (contract (w.forCall tape i) w.heap.size i.args ds gs before hsh hval hw' (hX _ _ _ (by rfl) hx)).mono fun e W' ⟨v,he,hp⟩=>?_;subst he;exact ChangeSpec.post_blind hp
end Go.Proofs.YtnjcehngoajnnaaGreatDoor
end

section
namespace Go.Proofs.YtnjcehngoajnnaaGreatDoor
open Go.RowKit Go.Hs Go.ChangeShapes Go.WideShapes Go.ChangeAt
set_option maxRecDepth 100000
set_option maxHeartbeats 4000000
theorem Zv0:mapsRowed Tryz.prog=true:=by kernel_rfl
theorem Zpu:(Tryz.prog.stops==[])=true:=by kernel_rfl
theorem Zqu:(Tryz.prog.stopKnobs==[])=true:=by kernel_rfl
theorem Zx0:(Rows.evalTextsRow.plainKeys==Tryz.prog.plainKeys)=true:=by kernel_rfl
theorem Zru:Tryz.prog.stopsHeard=true:=by kernel_rfl
theorem Zsu:Tryz.prog.mayEnter=true:=by kernel_rfl
theorem Zkp:(Rows.evalTextsRow.lifted==Tryz.prog.liftsFinal)=true:=by kernel_rfl
theorem Zw0:(Tryz.prog.make==some Rows.evalTextsRow.make)=true:=by kernel_rfl
end Go.Proofs.YtnjcehngoajnnaaGreatDoor
end

section
namespace Go.Proofs.YtnjcehngoajnnaaGreatDoor
open Go.RowKit Go.Hs Go.ChangeShapes Go.WideShapes Go.ChangeAt
set_option maxRecDepth 100000
abbrev XNb:={ n:XN // InK .i64 n.num }
theorem Z50 (W:World):Reads Tryz.prog W 59 6 (fun n:XNb=>(Zw n.1).cells):=by
 refine ⟨by kernel_rfl,fun _=>rfl,fun enc held fuel cs x h=>?_⟩;obtain ⟨xs,n,_,_,hl,hlen,hf⟩:=DataW.trod_struct Tryz.underlying59 h
 have e43:Tryz.prog.cellsOf 59=6:=by kernel_rfl
 rw [e43] at hl;have hx:xs.length=6:=hlen
 have rI:Reads Tryz.prog W 2 1 (fun n:{ n:Int // InK .i64 n }=>[V.int .i64 n.1]):=by
  refine ⟨by kernel_rfl,fun _=>rfl,fun enc held fuel cs x h=>?_⟩;obtain ⟨n,rfl,_,hw⟩:=DataW.trod_int Tryz.underlying2 h;exact ⟨⟨n,Zwm hw⟩,Zde rfl (.int _ _) RelC.nil⟩
 obtain ⟨op,h0⟩:=Reads.field (Reads.int (W:=W) Tryz.underlying5 (by kernel_rfl)) (i:=0) (hf 0 _ rfl) (by omega);obtain ⟨num,h1⟩:=Reads.field rI (i:=1) (hf 1 _ rfl) (by omega);obtain ⟨name,h2⟩:=Reads.field (Zcs W) (i:=2) (hf 2 _ rfl) (by omega);obtain ⟨a,h3⟩:=Reads.field (Reads.int (W:=W) Tryz.underlying3 (by kernel_rfl)) (i:=3) (hf 3 _ rfl) (by omega);obtain ⟨b,h4⟩:=Reads.field (Reads.int (W:=W) Tryz.underlying3 (by kernel_rfl)) (i:=4) (hf 4 _ rfl) (by omega);obtain ⟨c,h5⟩:=Reads.field (Reads.int (W:=W) Tryz.underlying3 (by kernel_rfl)) (i:=5) (hf 5 _ rfl) (by omega)
 match cs,hl with
 | [c0,c1,c2,c3,c4,c5],_=>exact ⟨⟨⟨op,num.1,name,a,b,c⟩,num.2⟩,h0.append (h1.append (h2.append (h3.append (h4.append h5))))⟩
theorem Zay (W:World):Reads Tryz.prog W 22 1 (fun s:Sl XNb=>[Zb .any 6 (fun n:XNb=>Zw n.1) s]) :=
 Reads.slice Tryz.underlying22 (by kernel_rfl) (by decide) (Z50 W)
theorem Zxu (W:World):Reads Tryz.prog W 24 1 (fun s:Sl XNb=>(V.agg [Zb .any 6 (fun n:XNb=>Zw n.1) s]).cells):=by
 refine ⟨by kernel_rfl,fun _=>rfl,fun enc held fuel cs x h=>?_⟩;obtain ⟨xs,n,_,_,hl,hlen,hf⟩:=DataW.trod_struct Tryz.underlying24 h
 have e24:Tryz.prog.cellsOf 24=1:=by kernel_rfl
 rw [e24] at hl;have hx:xs.length=1:=hlen;obtain ⟨s,h0⟩:=Reads.field (Zay W) (i:=0) (hf 0 _ rfl) (by omega)
 match cs,hl with
 | [c0],_=>exact ⟨s,h0⟩
def unX:Sl XNb→Sl XN
 | .nil => .nil
 | .mk b l => .mk b (l.map (·.1))
theorem unX_in (s:Sl XNb):∀ n∈(unX s).l,InK .i64 n.num:=by
 cases s with
 | nil=>intro x hx;cases hx
 | mk b l =>
  intro x hx;obtain ⟨y,_,rfl⟩:=List.mem_map.1 hx;exact y.2
theorem unX_enc (c:Col) (s:Sl XNb):Zb c 6 (fun n:XNb=>Zw n.1) s=Zb c 6 Zw (unX s):=by
 cases s with
 | nil=>rfl
 | mk b l=>simp only [Zb,unX,List.map_map];rfl
variable {W:World} {H:Type} {enc:TypeId × Value→H} {b0:Nat} {v:Value} {d:DataW H} {ps:List MemPlace}
theorem argE (hv:Value.okWide Tryz.prog W .any b0 24 v) (h:DataW.Trod enc Tryz.prog W 0 (fun _=>true) true 24 v d ps):∃ x:Sl XN,(∀ n∈x.l,InK .i64 n.num)∧Rel (Ztb W) v (.agg [Zb .old 6 Zw x]):=by
 obtain ⟨fuel,h⟩:=h;obtain ⟨x,hx⟩:=(Zxu W).2.2 enc true fuel _ _ h
 have key:Rel (Ztb W) v (.agg [Zb .any 6 Zw (unX x)]):=by
  rw [← unX_enc];unfold Value.okWide at hv;rw [Tryz.underlying24] at hv;obtain ⟨cs,rfl,_,_⟩:=hv;have hx':RelC (Ztb W) (Value.agg cs).cells.toList [Zb .any 6 (fun n:XNb=>Zw n.1) x]:=hx;exact Zdw hx'
 have h2:=key.ofW_old;refine ⟨unX x,unX_in x,?_⟩;simpa only [go_sem,Za,List.map_cons,List.map_nil] using h2
end Go.Proofs.YtnjcehngoajnnaaGreatDoor
end

section
namespace Go.Proofs.YtnjcehngoajnnaaGreatDoor
open Go.RowKit Go.Hs Go.ChangeShapes Go.WideShapes Go.ChangeAt
set_option maxRecDepth 100000
theorem Z2p {n:Int} (h:InK .i64 n):Z0b n=true:=decide_eq_true h
abbrev BIb:={ p:List UInt8 × Int // InK .i64 p.2 }
theorem Z60 (W:World):Reads Tryz.prog W 55 2 (fun p:BIb=>(Zea p.1).cells):=by
 refine ⟨by kernel_rfl,fun _=>rfl,fun enc held fuel cs x h=>?_⟩;obtain ⟨xs,n,_,_,hl,hlen,hf⟩:=DataW.trod_struct Tryz.underlying55 h
 have e43:Tryz.prog.cellsOf 55=2:=by kernel_rfl
 rw [e43] at hl;have hx:xs.length=2:=hlen
 have rI:Reads Tryz.prog W 2 1 (fun n:{ n:Int // InK .i64 n }=>[V.int .i64 n.1]):=by
  refine ⟨by kernel_rfl,fun _=>rfl,fun enc held fuel cs x h=>?_⟩;obtain ⟨n,rfl,_,hw⟩:=DataW.trod_int Tryz.underlying2 h;exact ⟨⟨n,Zwm hw⟩,Zde rfl (.int _ _) RelC.nil⟩
 obtain ⟨name,h0⟩:=Reads.field (Zcs W) (i:=0) (hf 0 _ rfl) (by omega);obtain ⟨num,h1⟩:=Reads.field rI (i:=1) (hf 1 _ rfl) (by omega)
 match cs,hl with
 | [c0,c1],_=>exact ⟨⟨(name,num.1),num.2⟩,h0.append h1⟩
theorem Zby (W:World):Reads Tryz.prog W 25 1 (fun s:Sl BIb=>[Zb .any 2 (fun p:BIb=>Zea p.1) s]) :=
 Reads.slice Tryz.underlying25 (by kernel_rfl) (by decide) (Z60 W)
def unB:Sl BIb→Sl (List UInt8 × Int)
 | .nil => .nil
 | .mk b l => .mk b (l.map (·.1))
theorem unB_in (s:Sl BIb):∀ n∈(unB s).l,Z0b n.2=true:=by
 cases s with
 | nil=>intro x hx;cases hx
 | mk b l =>
  intro x hx;obtain ⟨y,_,rfl⟩:=List.mem_map.1 hx;exact Z2p y.2
theorem unB_enc (c:Col) (s:Sl BIb):Zb c 2 (fun p:BIb=>Zea p.1) s=Zb c 2 Zea (unB s):=by
 cases s with
 | nil=>rfl
 | mk b l=>simp only [Zb,unB,List.map_map];rfl
variable {W:World} {H:Type} {enc:TypeId × Value→H} {b0:Nat} {v:Value} {d:DataW H} {ps:List MemPlace}
theorem argN (hv:Value.okWide Tryz.prog W .any b0 25 v) (h:DataW.Trod enc Tryz.prog W 0 (fun _=>true) true 25 v d ps):∃ x:Sl (List UInt8 × Int),(∀ p∈x.l,Z0b p.2=true)∧Rel (Ztb W) v (Zb .old 2 Zea x):=by
 obtain ⟨fuel,h⟩:=h;obtain ⟨x,hx⟩:=(Zby W).2.2 enc true fuel _ _ h
 have key:Rel (Ztb W) v (Zb .any 2 Zea (unB x)):=by
  rw [← unB_enc];unfold Value.okWide at hv;rw [Tryz.underlying25] at hv
  have hc:v.cells = #[v]:=by
   unfold Cell.okWide Cell.ok at hv;rw [Tryz.underlying25] at hv
   cases v<;>first | rfl | (simp at hv)
  rw [hc] at hx;exact hx.rel 0 (by simp) (by simp)
 have h2:=key.ofW_old;refine ⟨unB x,unB_in x,?_⟩;simpa only [go_sem,Ze,List.map_cons,List.map_nil] using h2
theorem argJ (hv:Value.okWide Tryz.prog W .any b0 2 v) (h:DataW.Trod enc Tryz.prog W 0 (fun _=>true) true 2 v d ps):∃ x:Int,Z0b x=true∧Rel (Ztb W) v (.int .i64 x):=by
 obtain ⟨n,rfl,_,_,hw⟩:=open_int Tryz.underlying2 hv h;exact ⟨n,Z2p (Zwm hw),.int _ _⟩
theorem Ztl {x:Sl XN} (h:∀ n∈x.l,InK .i64 n.num):∀ n∈x.l,Z0b n.num=true:=fun n hn=>Z2p (h n hn)
end Go.Proofs.YtnjcehngoajnnaaGreatDoor
end
