/- Part 41 of a proof; no condition. -/
import Derived.Test.YtnjcehngoajnnaaGreatDoorPart39
import Derived.Test.YtnjcehngoajnnaaGreatDoorPart40
set_option linter.unusedSimpArgs false
set_option linter.unusedVariables false
section
namespace Go.Hs
open Go.Proofs
set_option maxRecDepth 10000
def eq3 (a b c a' b' c':Int):Bool:=decide (a=a'∧b=b'∧c=c')
theorem Z89 (a b c a' b' c':Int):Z2w [.int .u8 a,.int .u8 b,.int .u8 c] [.int .u8 a',.int .u8 b',.int .u8 c']=some (eq3 a b c a' b' c'):=by
 unfold eq3;simp only [Z2w,eqC,if_true]
 by_cases h1:a=a'
 ·by_cases h2:b=b'
  ·by_cases h3:c=c'
   ·simp [h1,h2,h3]
   ·have:(c==c')=false:=by simpa using h3
    simp [h1,h2,h3,this]
  ·have:(b==b')=false:=by simpa using h2
   simp [h1,this,h2]
 ·have:(a==a')=false:=by simpa using h1
  simp [this,h1]
def knC (v:V):List V:=ruleC++[v]
theorem Z9p (v:V):(knC v).length=93:=by rw [knC,List.length_append]<;>rfl
theorem Zv9 (v:V):(knC v)[92]? = some v:=by
 rw [knC,List.getElem?_append_right (by decide)]<;>rfl
theorem Zhp:ruleC.length=92:=rfl
theorem Zkda (v:V):(knC v).take 92=ruleC:=by rw [knC,List.take_append_of_le_length (Nat.le_refl 92)]<;>rfl
theorem Zh1 (f:Col→Col):ruleC.map (V.recol f)=ruleC:=rfl
theorem Zu9 (f:Col→Col) (v:V):(knC v).map (V.recol f)=knC (v.recol f):=by
 rw [knC,List.map_append,Zh1]<;>rfl
theorem Z44 (G:Nat→V) (hG:GOk G) (c1 c2:Col) (names:Sl (List UInt8)) (hnl:names.l.length<1000000) (n:XN) (ks:Sl Int) (hn:PlOk ks.l.length n) (hkl:ks.l.length<1000000) (hks:∀ y∈ks.l,y=1∨y=2) :
  Spec Tryz.prog G 80 [.agg (knC (Za c1 1 V.str names)),Z8 n,Za c2 1 (V.int .u8) ks] Zm (fun v _=>v = .int .u8 (Z7l names.l n ks.l)):=by
 refine Zo 0 71 [.tmp 6] Tryz.func80 fun X=>?_;have hP:Z7l names.l n ks.l=kd n.op (names.l.contains n.name) (plc ks.l n.a) (plc ks.l n.b) (plc ks.l n.c):=rfl;generalize Z7l names.l n ks.l=res at hP ⊢;simp only [Zp];refine Zx fun K hK=>AW.region zk ?_;refine Zsf @Z9p ?_;intro g3 g4 g5;refine hK _ ?_
 try clear hK K
 refine Zha (fun (_:Unit)=>st [(3,.ptr 3 g3 0),(4,.ptr 4 g4 0),(5,.ptr 5 g5 0)] [(3,.cells .new g3 0 (knC (Za c1 1 V.str names))),(4,.cells .new g4 0 [.int .u8 n.op,.int .i64 n.num,.str n.name,.int .i64 n.a,.int .i64 n.b,.int .i64 n.c]),(5,.cells .new g5 0 [Za c2 1 (V.int .u8) ks])])
  (fun _=>n.op=2→names.l.contains n.name=true) (fun K1 hK1=>?_) ?_
 ·by_cases ho:n.op=2
  ·have e1:(n.op==2)=true:=by simpa using ho
   refine Zx fun K hK=>AW.region zk ?_;refine Zsf (zi e1 @Zv9) ?_;refine Zc hG ?_ (s:=(Zbk G hG _ n.name names hnl));refine hK _ ?_
   try clear hK K
   cases hc:names.l.contains n.name with
   | true =>
    refine Z0 ?_;exact hK1 _ () (fun _=>hc) (Zb zp zp)
   | false =>
    refine Ze rfl (fun h21=>?_) (fun h21=>?_)
    ·refine Zx fun K hK=>AW.region zk ?_
     refine Zs ?_;refine hK _ ?_
     try clear hK K
     refine Z ?_
     rw [hP,hc,ho]<;>rfl
    ·cases h21
  ·have e1:(n.op==2)=false:=by simpa using ho
   refine Zx fun K hK=>AW.region zk ?_;refine Zsf e1 ?_;refine hK _ ?_
   try clear hK K
   refine Z0 ?_;exact hK1 _ () (fun h=>absurd h ho) (Zb zp zp)
 rintro _ hnm;refine Zx fun K hK=>AW.region zk ?_;refine Zs ?_;refine hK _ ?_
 try clear hK K
 refine AW.weak (Zz (fun o=>o==3 || o==4 || o==5) (l:=[(3,.view .new (.agg (knC (Za c1 1 V.str names)))),(4,.view .new (.agg [.int .u8 n.op,.int .i64 n.num,.str n.name,.int .i64 n.a,.int .i64 n.b,.int .i64 n.c])),(7,.func (.func 119) [] [.view .new (Za c2 1 (V.int .u8) ks)])]) (m:=[]) ?_ trivial) ?_
 ·refine Zs ?_
  refine ⟨?_,?_,?_⟩
  ·exact Fz.ptr (v := .agg (knC (Za c1 1 V.str names))) (c := .new) (fz:=0) rfl zp
  ·exact Fz.ptr (v := .agg [.int .u8 n.op,.int .i64 n.num,.str n.name,.int .i64 n.a,.int .i64 n.b,.int .i64 n.c]) (c := .new) (fz:=0) rfl zp
  ·exact Fz.func ⟨Fz.ptr (v:=Za c2 1 (V.int .u8) ks) (c := .new) (fz:=0) rfl zp,trivial⟩
 have pc:∀ i:Int,(i<0∨0≤i∧i<ks.l.length)→Z5g Tryz.prog G 119 [.int .i64 i,.view .new (Za c2 1 (V.int .u8) ks)] (.int .u8 (plc ks.l i)):=fun i h=>⟨by kernel_rfl,by
  refine Zs ?_;refine (Z8ba G hG _ ks hkl i h).mono ?_;rintro _ _ rfl
  rfl⟩
 obtain ⟨hw,ha1,hb1,hc1,ha0,hb0,hc0⟩:=hn
 have hra:n.a<0∨0≤n.a∧n.a<ks.l.length:=by
  by_cases h:0<Zw n.op
  ·exact .inr (ha1 h)
  ·exact .inl (by rw [ha0 h];decide)
 have hrb:n.b<0∨0≤n.b∧n.b<ks.l.length:=by
  by_cases h:1<Zw n.op
  ·exact .inr (hb1 h)
  ·exact .inl (by rw [hb0 h];decide)
 have hrc:n.c<0∨0≤n.c∧n.c<ks.l.length:=by
  by_cases h:2<Zw n.op
  ·exact .inr (hc1 h)
  ·exact .inl (by rw [hc0 h];decide)
 have hor:=Zke hw;obtain ⟨op,hop⟩:∃ op:Nat,n.op=op:=⟨n.op.toNat,by omega⟩
 have hop1:op<23:=by omega
 have hop2:n.op<23:=by omega
 have hop0:0≤n.op:=by omega
 have hopn:n.op.toNat=op:=by omega
 have hru:=Zi8 op hop1
 have hrl:op * 4+4≤92:=by omega
 refine Zx fun K hK=>Zy ⟨fun i=>if i=8 then .int .u8 (plc ks.l n.a) else if i=12 then .int .u8 (plc ks.l n.b) else if i=16 then .int .u8 (plc ks.l n.c) else .top,fun i=>if i=1 then .lend else if i=4 then .lend else if i=7 then .lend else if i=11 then .lend else if i=15 then .lend else .pure⟩ zk hG zk zk ?_;simp -implicitDefEqProofs only[go_sem,seval,Zkda,Z9p,show (92:Nat)≤93 from by decide,Zhp,hru,hop2,hop0,hopn,hrl];refine ⟨pc _ hra,pc _ hrb,pc _ hrc,?_⟩;intro g8 g9;refine hK _ ?_
 try clear hK K
 have hpl:∀ i:Int,(0≤i∧i<ks.l.length)→plc ks.l i=1∨plc ks.l i=2:=by
  intro i hi;unfold plc;rw [if_neg (by omega)];obtain ⟨m,rfl⟩:∃ m:Nat,i=m:=⟨i.toNat,by omega⟩;rw [Int.toNat_natCast,List.getD_eq_getElem?_getD,List.getElem?_eq_getElem (by omega)];exact hks _ (List.getElem_mem _)
 have hva:0<Zw n.op→plc ks.l n.a=1∨plc ks.l n.a=2:=fun h=>hpl _ (ha1 h);have hvb:1<Zw n.op→plc ks.l n.b=1∨plc ks.l n.b=2:=fun h=>hpl _ (hb1 h);have hvc:2<Zw n.op→plc ks.l n.c=1∨plc ks.l n.c=2:=fun h=>hpl _ (hc1 h)
 have hza:¬ 0<Zw n.op→plc ks.l n.a=0:=fun h=>by rw [ha0 h]<;>rfl
 have hzb:¬ 1<Zw n.op→plc ks.l n.b=0:=fun h=>by rw [hb0 h]<;>rfl
 have hzc:¬ 2<Zw n.op→plc ks.l n.c=0:=fun h=>by rw [hc0 h]<;>rfl
 generalize plc ks.l n.a=a at hP hva hza ⊢;generalize plc ks.l n.b=b at hP hvb hzb ⊢;generalize plc ks.l n.c=c at hP hvc hzc ⊢;refine Zx fun K hK=>AW.region zk ?_;refine Zs ?_;refine hK _ ?_
 try clear hK K
 by_cases q16:op=16∨op=17
 ·have eA:Zi1 op=3:=by rcases q16 with rfl | rfl<;>rfl
  have eB:Zj8 op=3:=by rcases q16 with rfl | rfl<;>rfl
  have eD:Zg1 op=0:=by rcases q16 with rfl | rfl<;>rfl
  have eI:Zkca op=2:=by rcases q16 with rfl | rfl<;>rfl
  rw [eA,eB,eD,eI]
  have hpo:Zw n.op=2:=by rw [hop];rcases q16 with rfl | rfl<;>rfl
  rw [hpo] at hva hvb hzc
  replace hva:=hva (by decide)
  replace hvb:=hvb (by decide)
  replace hzc:=hzc (by decide)
  refine Z5 ?_;refine Zx fun K hK=>AW.region zk ?_;refine Zs ?_;refine hK _ ?_
  try clear hK K
  refine Z1 ?_;refine Z5 ?_;refine Zx fun K hK=>AW.region zk ?_;refine Zs ?_;refine hK _ ?_
  try clear hK K
  refine Z0 ?_;refine Z5 ?_;refine Zx fun K=>?_;intro hK;refine Zkg 3 zk rfl rfl ?_;simp -implicitDefEqProofs only[go_sem,seval,List.take_succ_cons,List.take_zero];refine ⟨_,Zcl (.inr rfl) zk zk zk zp zp zk (Z89 _ _ _ _ _ _),?_⟩;simp -implicitDefEqProofs only[go_sem,seval,List.drop_succ_cons,List.drop_zero];refine hK _ ?_
  try clear hK K
  have hP2:res=if eq3 a b c b b 0=true then 2 else 0:=by
   rw [hP,hop,hzc]
   rcases q16 with rfl | rfl<;>rcases hva with rfl | rfl<;>rcases hvb with rfl | rfl<;>rfl
  generalize eq3 a b c b b 0=z at hP2 ⊢
  cases z with
  | true =>
   refine Z0 ?_;refine Zx fun K hK=>AW.region zk ?_;refine Zs ?_;refine hK _ ?_
   try clear hK K
   refine Z ?_
   rw [hP2]<;>rfl
  | false =>
   refine Ze rfl (fun h68=>?_) (fun h68=>?_)
   ·refine Zx fun K hK=>AW.region zk ?_
    refine Zs ?_;refine hK _ ?_
    try clear hK K
    refine Z ?_
    rw [hP2]<;>rfl
   ·cases h68
 by_cases q22:op=22
 ·subst q22
  have eA:Zi1 22=2:=rfl;have eB:Zj8 22=3:=rfl;have eD:Zg1 22=3:=rfl;have eI:Zkca 22=3:=rfl;rw [eA,eB,eD,eI]
  have hpo:Zw n.op=3:=by rw [hop]<;>rfl
  rw [hpo] at hva hvb hvc
  replace hva:=hva (by decide)
  replace hvb:=hvb (by decide)
  replace hvc:=hvc (by decide)
  refine Z5 ?_;refine Zx fun K hK=>AW.region zk ?_;refine Zs ?_;refine hK _ ?_
  try clear hK K
  refine Z0 ?_;refine Z5 ?_;refine Zx fun K hK=>AW.region zk ?_;refine Zs ?_;refine hK _ ?_
  try clear hK K
  refine Z1 ?_;refine Z5 ?_;refine Zx fun K=>?_;intro hK;refine Zkg 3 zk rfl rfl ?_;simp -implicitDefEqProofs only[go_sem,seval,List.take_succ_cons,List.take_zero];refine ⟨_,Zcl (.inr rfl) zk zk zk zp zp zk (Z89 _ _ _ _ _ _),?_⟩;simp -implicitDefEqProofs only[go_sem,seval,List.drop_succ_cons,List.drop_zero];refine hK _ ?_
  try clear hK K
  have hP2:res=if eq3 a b c 2 b b=true then b else 0:=by
   rw [hP,hop]
   rcases hva with rfl | rfl<;>rcases hvb with rfl | rfl<;>rcases hvc with rfl | rfl<;>rfl
  generalize eq3 a b c 2 b b=z at hP2 ⊢
  cases z with
  | true =>
   refine Z0 ?_;refine Zx fun K hK=>AW.region zk ?_;refine Zs ?_;refine hK _ ?_
   try clear hK K
   refine Z ?_
   rw [hP2]<;>rfl
  | false =>
   refine Ze rfl (fun h68=>?_) (fun h68=>?_)
   ·refine Zx fun K hK=>AW.region zk ?_
    refine Zs ?_;refine hK _ ?_
    try clear hK K
    refine Z ?_
    rw [hP2]<;>rfl
   ·cases h68
 have nA:(Zi1 op==3)=false:=by unfold Zi1;rw [if_neg q16];split;rfl;split;rfl;rfl
 have nD:(Zg1 op==3)=false:=by unfold Zg1;rw [if_neg q22]<;>rfl
 refine Z5 ?_;refine Zx fun K hK=>AW.region zk ?_;refine Zsf nA ?_;refine hK _ ?_
 try clear hK K
 refine Z0 ?_;refine Z5 ?_;refine Zx fun K hK=>AW.region zk ?_;refine Zsf nD ?_;refine hK _ ?_
 try clear hK K
 refine Z0 ?_;refine Z5 ?_;refine Zx fun K=>?_;intro hK;refine Zkg 3 zk rfl rfl ?_;simp -implicitDefEqProofs only[go_sem,seval,List.take_succ_cons,List.take_zero];refine ⟨_,Zcl (.inr rfl) zk zk zk zp zp zk (Z89 _ _ _ _ _ _),?_⟩;simp -implicitDefEqProofs only[go_sem,seval,List.drop_succ_cons,List.drop_zero];refine hK _ ?_
 try clear hK K
 have hP2:res=if eq3 a b c (Zi1 op) (Zj8 op) (Zg1 op)=true then Zkca op else 0:=by
  have hcs:op=1∨op=2∨op=3∨op=4∨op=5∨op=6∨op=7∨op=8∨op=9∨op=10∨op=11∨op=12∨op=13∨op=14∨op=15∨op=18∨op=19∨op=20∨op=21:=by omega
  rcases hcs with rfl | rfl | rfl | rfl | rfl | rfl | rfl | rfl | rfl | rfl | rfl | rfl | rfl | rfl | rfl | rfl | rfl | rfl | rfl
  ·have hpo:Zw n.op=0:=by rw [hop]<;>rfl
   rw [hpo] at hva hvb hza hzb hzc;rw [hP,hop,hza (by decide),hzb (by decide),hzc (by decide)]
   try rfl
  ·have hpo:Zw n.op=0:=by rw [hop]<;>rfl
   rw [hpo] at hva hvb hza hzb hzc;rw [hP,hop,hza (by decide),hzb (by decide),hzc (by decide)];rw [hnm (by rw [hop]<;>rfl)]
   try rfl
  ·have hpo:Zw n.op=0:=by rw [hop]<;>rfl
   rw [hpo] at hva hvb hza hzb hzc;rw [hP,hop,hza (by decide),hzb (by decide),hzc (by decide)]
   try rfl
  ·have hpo:Zw n.op=0:=by rw [hop]<;>rfl
   rw [hpo] at hva hvb hza hzb hzc;rw [hP,hop,hza (by decide),hzb (by decide),hzc (by decide)]
   try rfl
  ·have hpo:Zw n.op=1:=by rw [hop]<;>rfl
   rw [hpo] at hva hvb hza hzb hzc;rw [hP,hop,hzb (by decide),hzc (by decide)]
   rcases hva (by decide) with rfl | rfl<;>rfl
  ·have hpo:Zw n.op=1:=by rw [hop]<;>rfl
   rw [hpo] at hva hvb hza hzb hzc;rw [hP,hop,hzb (by decide),hzc (by decide)]
   rcases hva (by decide) with rfl | rfl<;>rfl
  ·have hpo:Zw n.op=2:=by rw [hop]<;>rfl
   rw [hpo] at hva hvb hza hzb hzc;rw [hP,hop,hzc (by decide)]
   rcases hva (by decide) with rfl | rfl<;>rcases hvb (by decide) with rfl | rfl<;>rfl
  ·have hpo:Zw n.op=2:=by rw [hop]<;>rfl
   rw [hpo] at hva hvb hza hzb hzc;rw [hP,hop,hzc (by decide)]
   rcases hva (by decide) with rfl | rfl<;>rcases hvb (by decide) with rfl | rfl<;>rfl
  ·have hpo:Zw n.op=2:=by rw [hop]<;>rfl
   rw [hpo] at hva hvb hza hzb hzc;rw [hP,hop,hzc (by decide)]
   rcases hva (by decide) with rfl | rfl<;>rcases hvb (by decide) with rfl | rfl<;>rfl
  ·have hpo:Zw n.op=2:=by rw [hop]<;>rfl
   rw [hpo] at hva hvb hza hzb hzc;rw [hP,hop,hzc (by decide)]
   rcases hva (by decide) with rfl | rfl<;>rcases hvb (by decide) with rfl | rfl<;>rfl
  ·have hpo:Zw n.op=2:=by rw [hop]<;>rfl
   rw [hpo] at hva hvb hza hzb hzc;rw [hP,hop,hzc (by decide)]
   rcases hva (by decide) with rfl | rfl<;>rcases hvb (by decide) with rfl | rfl<;>rfl
  ·have hpo:Zw n.op=2:=by rw [hop]<;>rfl
   rw [hpo] at hva hvb hza hzb hzc;rw [hP,hop,hzc (by decide)]
   rcases hva (by decide) with rfl | rfl<;>rcases hvb (by decide) with rfl | rfl<;>rfl
  ·have hpo:Zw n.op=2:=by rw [hop]<;>rfl
   rw [hpo] at hva hvb hza hzb hzc;rw [hP,hop,hzc (by decide)]
   rcases hva (by decide) with rfl | rfl<;>rcases hvb (by decide) with rfl | rfl<;>rfl
  ·have hpo:Zw n.op=2:=by rw [hop]<;>rfl
   rw [hpo] at hva hvb hza hzb hzc;rw [hP,hop,hzc (by decide)]
   rcases hva (by decide) with rfl | rfl<;>rcases hvb (by decide) with rfl | rfl<;>rfl
  ·have hpo:Zw n.op=2:=by rw [hop]<;>rfl
   rw [hpo] at hva hvb hza hzb hzc;rw [hP,hop,hzc (by decide)]
   rcases hva (by decide) with rfl | rfl<;>rcases hvb (by decide) with rfl | rfl<;>rfl
  ·have hpo:Zw n.op=2:=by rw [hop]<;>rfl
   rw [hpo] at hva hvb hza hzb hzc;rw [hP,hop,hzc (by decide)]
   rcases hva (by decide) with rfl | rfl<;>rcases hvb (by decide) with rfl | rfl<;>rfl
  ·have hpo:Zw n.op=2:=by rw [hop]<;>rfl
   rw [hpo] at hva hvb hza hzb hzc;rw [hP,hop,hzc (by decide)]
   rcases hva (by decide) with rfl | rfl<;>rcases hvb (by decide) with rfl | rfl<;>rfl
  ·have hpo:Zw n.op=2:=by rw [hop]<;>rfl
   rw [hpo] at hva hvb hza hzb hzc;rw [hP,hop,hzc (by decide)]
   rcases hva (by decide) with rfl | rfl<;>rcases hvb (by decide) with rfl | rfl<;>rfl
  ·have hpo:Zw n.op=2:=by rw [hop]<;>rfl
   rw [hpo] at hva hvb hza hzb hzc;rw [hP,hop,hzc (by decide)]
   rcases hva (by decide) with rfl | rfl<;>rcases hvb (by decide) with rfl | rfl<;>rfl
 generalize eq3 a b c (Zi1 op) (Zj8 op) (Zg1 op)=z at hP2 ⊢
 cases z with
 | true =>
  refine Z0 ?_;refine Zx fun K hK=>AW.region zk ?_;refine Zs ?_;refine hK _ ?_
  try clear hK K
  refine Z ?_
  rw [hP2]<;>rfl
 | false =>
  refine Ze rfl (fun h68=>?_) (fun h68=>?_)
  ·refine Zx fun K hK=>AW.region zk ?_
   refine Zs ?_;refine hK _ ?_
   try clear hK K
   refine Z ?_
   rw [hP2]<;>rfl
  ·cases h68
def Zdd (names:List (List UInt8)) (l:List XN):List Int × Int × Int:=if Zra l≠0 then ([],0,Zra l) else goN names l 0 []
def encKs (c:Col) (l:List Int):V:=Za c 1 (V.int .u8) (Zv l)
def encKr (c:Col) (p:List Int × Int × Int):V := .tuple [encKs c p.1,.int .i64 p.2.1,.int .i64 p.2.2]
theorem Zx9 {op:Int} {nm:Bool} {a b c:Int} (hb:b=0∨b=1∨b=2) (h:kd op nm a b c≠0):kd op nm a b c=1∨kd op nm a b c=2:=by
 have:=Z8l (op:=op) (nm:=nm) (a:=a) (c:=c) (b:=b) (by omega);omega
theorem Zr8 {ks:List Int} (h:∀ y∈ks,y=1∨y=2) (i:Int):plc ks i=0∨plc ks i=1∨plc ks i=2:=by
 unfold plc
 split
 ·exact .inl rfl
 ·rw [List.getD_eq_getElem?_getD]
  cases hg:ks[i.toNat]? with
  | none=>exact .inl rfl
  | some y=>exact .inr (h y (List.mem_of_getElem? hg))
theorem Zpda {names:List (List UInt8)} {l:List XN} {k:Nat} {n:XN} (h:l[k]? = some n) (ks:List Int):goN names (l.drop k) k ks=if Z7l names n ks=0 then ([],(k:Int),90) else goN names (l.drop (k+1)) (k+1:Nat) (ks++[Z7l names n ks]):=by
 obtain ⟨h1,h2⟩:=List.getElem?_eq_some_iff.1 h
 rw [List.drop_eq_getElem_cons h1,h2]<;>rfl
theorem Im.knC {v:V} (h:v.Im):(V.agg (knC v)).Im:=by
 refine .agg _ fun x hx=>?_
 rcases List.mem_append.1 hx with h1 | h1
 ·have:∀ l:List V,(l.all fun v=>match v with | .int _ _=>true | _=>false)=true→∀ x∈l,x.Im:=by
   intro l hl x hx;have:=List.all_eq_true.1 hl x hx
   cases x<;>first | exact .int _ _ | cases this
  exact this ruleC rfl x h1
 ·rw [List.mem_singleton.1 h1];exact h
theorem Im.xn (n:XN):(Z8 n).Im:=by
 refine .agg _ fun x hx=>?_;simp only [List.mem_cons,List.not_mem_nil,or_false] at hx
 rcases hx with rfl | rfl | rfl | rfl | rfl | rfl<;>first | exact .int _ _ | exact .str _
theorem Im.strs (c:Col) (s:Sl (List UInt8)):(Za c 1 V.str s).Im:=Zet (fun x y hy=>by simp [V.cells] at hy;subst hy;exact .str _) s
theorem buildKn (x:V) (hx:x.cells=[x]) (hs:x.solid=true):Z8a Tryz.prog 179 [(0,.agg ruleC),(1,x)]=some (.agg (knC x)):=by
 rw [Zva (tbl:=[(0,92),(92,1)]) (z:=List.replicate 92 (.int .u8 0)++[.nils]) zk zk]
 have e1:Hs.setAt (List.replicate 92 (.int .u8 0)++[.nils]) 0 ruleC=ruleC++[.nils]:=by
  rw [Zut _ _ _ (by decide)]<;>rfl
 have e2:Hs.setAt (ruleC++[.nils]) 92 [x]=knC x:=by
  show (ruleC++[V.nils]).set 92 x=ruleC++[x]
  rw [List.set_append_right _ _ (by decide)]<;>rfl
 have l1:(List.replicate 92 (V.int .u8 0)++[V.nils]).length=93:=rfl;have l2:(ruleC++[V.nils]).length=93:=rfl;have c1:(V.agg ruleC).cells=ruleC:=rfl;have s1:(V.agg ruleC).solid=true:=rfl;have t0:Zwh [(0,92),(92,1)] 0=some (0,92):=rfl;have t1:Zwh [(0,92),(92,1)] 1=some (92,1):=rfl;simp only [Zkb,t0,t1,c1,s1,hx,hs,l1,Zhp,e1,l2,e2,List.length_singleton,true_and,Nat.zero_add];rfl
theorem Zbaa {α : Type} (c:Col) (m:Nat) (f : α → V) (s:Sl α):(Za c m f s).solid=true:=by cases s<;>rfl
theorem Zcaa {α : Type} (c:Col) (m:Nat) (f : α → V) (s:Sl α):(Za c m f s).cells=[Za c m f s]:=by cases s<;>rfl
theorem Zica (l:List V) (v:V) (h:l.length=93):Hs.setAt l 0 (knC v)=knC v:=Zpx (by rw [h,Z9p])
theorem Zou (x:Int):(V.int .u8 x).cells.length=1:=rfl
theorem Z90 (G:Nat→V) (hE:GExp G) (c c1:Col) (s:Sl XN) (names:Sl (List UInt8)) (hs:s.l.length<1000000) (hnm:∀ n∈s.l,n.name.length<100000) (hnl:names.l.length<1000000) :
  Spec Tryz.prog G 51 [.agg [Za c 6 Z8 s],Za c1 1 V.str names] Zm (fun v _=>v=encKr .new (Zdd names.l s.l)):=by
 have hG:=hE.ok;refine Zo 0 40 [.tmp 4,.tmp 5,.tmp 6] Tryz.func51 fun X=>?_
 have hP:Zdd names.l s.l=if Zra s.l≠0 then ([],0,Zra s.l) else goN names.l s.l 0 []:=rfl
 generalize Zdd names.l s.l=res at hP ⊢;refine Z1 ?_;intro g2;refine Z1 ?_;refine Zcf @Zk hG ?_ (s:=(Zoh G hE _ s hs hnm));refine Z1 ?_
 by_cases hc:Zra s.l=0
 rotate_left
 ·have q1:(Zra s.l != 0)=true:=by simpa using hc
  rw [if_pos hc] at hP;refine Ze rfl (fun h14=>?_) (fun h14=>?_)
  ·refine Z ?_
   rw [hP]<;>rfl
  ·rw [q1] at h14;cases h14
 have q1:(Zra s.l != 0)=false:=by simpa using hc
 rw [if_neg (by simpa using hc)] at hP;refine Ze rfl (fun h14=>?_) (fun h14=>?_)
 ·rw [q1] at h14;cases h14
 refine Z0 ?_
 have hdep:Znb s.l≠0:=by
  intro h;rw [Zra,if_pos h] at hc;cases hc
 refine Z1 ?_;refine Zn hG ?_ (s:=(Z80 G hG));have hrr:(V.agg ruleC).recol Col.bk = .agg ruleC:=rfl;have hrl:(V.agg ruleC).cells=ruleC:=rfl;simp -implicitDefEqProofs only[go_sem,seval,hrr,Zhp,buildKn (Za c1 1 V.str names) (Zcaa ..) (Zbaa ..)];intro g7;refine Zsf (zi @Z9p @Zmaa) ?_;rw [Zica _ _ ?hl]
 case hl=>rfl
 refine Z1 ?_;refine AW.block ?_
 refine Zwa s.l.length (fun k (x:Nat × List Int)=>st [(4,grown 37 x.1 1 x.2),(7,.ptr 7 g7 0),(20,Za c 6 Z8 s),(21,.int .i64 s.l.length),(22,.int .i64 k)] [(7,.cells .new g7 0 (knC (Za c1 1 V.str names))),(37,Zua x.1 (V.int .u8) x.2)])
  (fun k x=>res=goN names.l (s.l.drop k) k x.2∧x.2.length=k∧∀ y∈x.2,y=1∨y=2) 0 (0,[]) (Nat.zero_le _) ⟨hP,rfl,fun y hy=>by cases hy⟩
  (Zb zp zp) ?_
 rintro k ⟨gx,ks⟩ hk ⟨hR,hkl,hkr⟩ L3 hL3
 replace hR:res=goN names.l (s.l.drop k) k ks:=hR
 replace hkl:ks.length=k:=hkl
 replace hkr:∀ y∈ks,y=1∨y=2:=hkr
 refine Z1 ?_;refine Z5 ?_;refine Ze rfl (fun h23=>?_) (fun h23=>?_)
 ·have hk1:k<s.l.length:=by simpa using h23
  have hg:=List.getElem?_eq_getElem hk1;generalize s.l[k]=n at hg;rw [Zpda hg] at hR;have hpl:PlOk ks.length n:=hkl ▸ Zuca hdep hg;refine Z1f (zi hg @Zp) ?_;intro g9;refine Z1f @Z9p ?_;rw [← Zp];refine Ztc hG [.agg (knC (Za c1.ent 1 V.str names)),Z8 n,Za .old 1 (V.int .u8) (Zv ks)] zk ⟨?_,?_,?_,trivial⟩ ?_
  ·refine Z7e (Im.knC (Im.strs _ _)) ?_
   show (V.agg (knC _)).recol _=_
   rw [Zmi,Zu9];simp -implicitDefEqProofs only[go_sem,seval]
  ·exact Z7e (Im.xn n) (Zhj _ _)
  ·exact Zpm (g:=gx) (f:=V.int .u8) (f':=V.int .u8) zp Zou (fun x y hy=>by simp [V.cells] at hy;subst hy;exact .int _ _) (fun _=>rfl)
  refine (Z44 G hG _ _ names hnl n (Zv ks) (by rw [Zea];exact hpl) (by rw [Zea];omega) (by rw [Zea];exact hkr)).mono ?_;rintro _ _ rfl;refine ⟨.int _ _,?_⟩;rw [Zea];have hkd:=fun h=>Zx9 (op:=n.op) (nm:=names.l.contains n.name) (a:=plc ks n.a) (c:=plc ks n.c) (Zr8 hkr n.b) h;have hkn:Z7l names.l n ks=kd n.op (names.l.contains n.name) (plc ks n.a) (plc ks n.b) (plc ks n.c):=rfl;rw [← hkn] at hkd;generalize Z7l names.l n ks=v at hR hkd ⊢;refine Zs ?_;refine Z1 ?_
  by_cases hv:v=0
  ·have q2:(v==0)=true:=by simpa using hv
   rw [if_pos hv] at hR;refine Ze rfl (fun h32=>?_) (fun h32=>?_)
   ·refine Z ?_
    rw [hR]<;>rfl
   ·rw [q2] at h32;cases h32
  have q2:(v==0)=false:=by simpa using hv
  rw [if_neg hv] at hR;refine Ze rfl (fun h32=>?_) (fun h32=>?_)
  ·rw [q2] at h32;cases h32
  refine Z1 ?_;intro g36;refine Zza (f:=V.int .u8) (l:=ks) (l2:=[v]) (g:=gx) Zou rfl rfl rfl zp (Zca (by omega) (by simp;omega)) fun g2=>?_;refine Zs ?_;refine Z1 ?_;refine hL3 _ ⟨hk1,(g2,ks++[v]),⟨hR,by rw [List.length_append,hkl]<;>rfl,?_⟩,Zb zw zp⟩;intro y hy
  rcases List.mem_append.1 hy with h | h
  ·exact hkr y h
  ·rw [List.mem_singleton.1 h];exact hkd hv
 ·have hk1:k=s.l.length:=by simp at h23;omega
  refine Z0 ?_;rw [hk1,List.drop_length] at hR;refine AW.weak (Zz (fun o=>o==37) (l:=[(4,encKs .new ks)]) (m:=[]) ?_ trivial) ?_
  ·refine Zs ?_
   exact Z1a rfl rfl Zou
  refine Z ?_
  rw [hR]<;>rfl
theorem Z19 {names:List (List UInt8)}:∀ (l:List XN) (i:Int) (acc:List Int),(goN names l i acc).2.2=0→(goN names l i acc).1.length=acc.length+l.length
 | [],i,acc,_=>rfl
 | n::r,i,acc,h=>by
  rw [goN] at h ⊢
  split
  ·rename_i h1
   rw [if_pos h1] at h;cases h
  ·rename_i h1
   rw [if_neg h1] at h;have:=Z19 r (i+1) (acc++[Z7l names n acc]) h;rw [this];simp;omega
theorem Zb6 {names:List (List UInt8)} {l:List XN} (h:(Zdd names l).2.2=0):(Zdd names l).1.length=l.length∧0<l.length:=by
 unfold Zdd at h ⊢
 by_cases hc:Zra l=0
 ·rw [if_neg (by simpa using hc)] at h ⊢
  refine ⟨by have:=Z19 l 0 [] h;simpa using this,?_⟩
  cases l with
  | nil=>exact absurd hc (by decide)
  | cons=>simp
 ·rw [if_pos hc] at h
  exact absurd h hc
def Z1w (names:List (List UInt8)) (l:List XN):Int × Int × Int:=if (Zdd names l).2.2≠0 then (0,(Zdd names l).2.1,(Zdd names l).2.2) else ((Zdd names l).1.getD ((Zdd names l).1.length-1) 0,0,0)
def encO3 (p:Int × Int × Int):V := .tuple [.int .u8 p.1,.int .i64 p.2.1,.int .i64 p.2.2]
theorem Zmca (g:Col→Col) (c:Col) (s:Sl Int):(Za c 1 (V.int .u8) s).recol g=Za (g c) 1 (V.int .u8) s:=Z6f g c 1 (fun _=>rfl) s
theorem Z7ba (G:Nat→V) (hE:GExp G) (c c1:Col) (s:Sl XN) (names:Sl (List UInt8)) (hs:s.l.length<1000000) (hnm:∀ n∈s.l,n.name.length<100000) (hnl:names.l.length<1000000) :
  Spec Tryz.prog G 26 [.agg [Za c 6 Z8 s],Za c1 1 V.str names] Zm (fun v _=>v=encO3 (Z1w names.l s.l)):=by
 have hG:=hE.ok;refine Zo 0 25 [.tmp 4,.tmp 5,.tmp 6] Tryz.func26 fun X=>?_
 have hP:Z1w names.l s.l=if (Zdd names.l s.l).2.2≠0 then (0,(Zdd names.l s.l).2.1,(Zdd names.l s.l).2.2) else ((Zdd names.l s.l).1.getD ((Zdd names.l s.l).1.length-1) 0,0,0):=rfl
 have hKi:=fun c c1=>Z90 G hE c c1 s names hs hnm hnl;have hL:=Zb6 (names:=names.l) (l:=s.l);generalize Z1w names.l s.l=res at hP ⊢;generalize Zdd names.l s.l=p at hP hKi hL;obtain ⟨ks,i,e⟩:=p;simp only at hP hL;refine Z1 ?_;intro g2;refine Z1 ?_;refine Znf @Zk hG ?_ (s:=(hKi _ _));refine Zsf (zi @encKr.eq_1 (zi @encKs.eq_1 @Zmca)) ?_;refine Z1 ?_
 by_cases he:e=0
 rotate_left
 ·have q1:(e != 0)=true:=by simpa using he
  rw [if_pos he] at hP;refine Ze rfl (fun h16=>?_) (fun h16=>?_)
  ·refine Z ?_
   rw [hP]<;>rfl
  ·rw [q1] at h16;cases h16
 have q1:(e != 0)=false:=by simpa using he
 rw [if_neg (by simpa using he)] at hP;obtain ⟨hl1,hl2⟩:=hL he;refine Ze rfl (fun h16=>?_) (fun h16=>?_)
 ·rw [q1] at h16;cases h16
 refine Z0 ?_;obtain ⟨m,hm⟩:∃ m:Nat,ks.length=m+1:=⟨ks.length-1,by omega⟩
 have hw:IntKind.i64.wrap ((ks.length:Int)-1)=(m:Int):=by rw [w64 (by omega) (by omega)];omega
 obtain ⟨v,hv⟩:∃ v,ks[m]? = some v:=⟨_,List.getElem?_eq_getElem (by omega)⟩
 have hgd:ks.getD (ks.length-1) 0=v:=by rw [show ks.length-1=m by omega,List.getD_eq_getElem?_getD,hv]<;>rfl
 rw [hgd] at hP;refine Zf (zi hw hv) ?_
 rw [hP]<;>rfl
structure AM where
 kind:Int
 name:List UInt8
 x:Sl XN
def AM.v (s:AM):ASt:=⟨s.kind,s.name,s.x.l⟩
def Zda (c:Col) (s:AM):V := .agg [.int .u8 s.kind,.str s.name,Za c 6 Z8 s.x]
theorem Z7a (c:Col) (s:AM):Zda c s = .agg [.int .u8 s.kind,.str s.name,Za c 6 Z8 s.x]:=rfl
theorem Za2 (c:Col) (s:AM):(Zda c s).cells.length=3:=rfl
theorem Zce (f:Col→Col) (c:Col) (s:AM):(Zda c s).recol f=Zda (f c) s:=by simp only [Z7a,Zmi,List.map_cons,List.map_nil,Zze,Zli,Zk]
@[go_sem] theorem Zmp (g:Col→Col) (c c1:Col) (s:Sl AM):(Za c 3 (Zda c1) s).recol g=Za (g c) 3 (Zda (g c1)) s:=Z6f g c 3 (Zce g c1) s
def Z6j (s:ASt):Bool:=(s.kind==1 || s.kind==2) && isP s.name==2 && ((s.kind==2 && s.x.isEmpty) || Zra s.x==0)
def Z3a (l:List ASt):Int:=if l.length > 512 then 2 else if l.all Z6j=true then 0 else 2
structure AmOk (l:List AM):Prop where
 len:l.length<1000000
 row:∀ a∈l,a.name.length<100000∧a.x.l.length<1000000∧∀ n∈a.x.l,n.name.length<100000
theorem Z8da {l:List AM} {k:Nat} {a:AM} (h:l[k]? = some a) (h1:(l.take k).all (fun a=>Z6j a.v)=true) (h2:Z6j a.v=true):(l.take (k+1)).all (fun a=>Z6j a.v)=true:=by
 rw [List.take_add_one,h,List.all_append,h1];simpa using h2
theorem all_bad {l:List AM} {k:Nat} {a:AM} (h:l[k]? = some a) (h2:Z6j a.v=false):(l.map AM.v).all Z6j=false:=by
 rw [Bool.eq_false_iff];intro h3;rw [List.all_eq_true] at h3;have:=h3 a.v (List.mem_map_of_mem (List.mem_of_getElem? h));rw [h2] at this;cases this
theorem Zq2 (G:Nat→V) (hG:GOk G) (c c1:Col) (s:Sl AM) (hA:AmOk s.l) :
  Spec Tryz.prog G 52 [Za c 3 (Zda c1) s] Zm (fun v _=>v = .int .i64 (Z3a (s.l.map AM.v))):=by
 have hs:=hA.len;refine Zo 0 47 [.tmp 2] Tryz.func52 fun X=>?_
 have hP:Z3a (s.l.map AM.v)=if s.l.length > 512 then 2 else if (s.l.map AM.v).all Z6j=true then 0 else 2:=by unfold Z3a;rw [List.length_map]
 generalize Z3a (s.l.map AM.v)=res at hP ⊢;refine Z1 ?_;refine Z5 ?_
 by_cases hl:s.l.length > 512
 ·rw [if_pos hl] at hP
  have q1:decide ((s.l.length:Int) > 512)=true:=zT;refine Zf q1 ?_;rw [hP]
 rw [if_neg hl] at hP;have q1:decide ((s.l.length:Int) > 512)=false:=zF;refine Z1f q1 ?_;refine Z1 ?_;refine AW.block ?_
 refine Zwa s.l.length (fun k (_:Unit)=>st [(0,Za c 3 (Zda c1) s),(3,.int .i64 k)] []) (fun k _=>(s.l.take k).all (fun a=>Z6j a.v)=true) 0 () (Nat.zero_le _) rfl
  (Zb zp zp) ?_
 intro k _ hk hR L3 hL3;refine Z1 ?_;refine Ze rfl (fun h11=>?_) (fun h11=>?_);rotate_left
 ·have hk1:k=s.l.length:=by have:=zN h11;omega
  refine Z0 ?_;rw [hk1,List.take_length] at hR;rw [if_pos (by rw [List.all_map];exact hR)] at hP;refine Z ?_;rw [hP]
 have hk1:k<s.l.length:=zL h11;have hg:=List.getElem?_eq_getElem hk1;obtain ⟨r1,r2,r3⟩:=hA.row _ (List.getElem_mem hk1);generalize s.l[k]=a at hg r1 r2 r3;have hbad:=fun h=>if_neg (c:=((s.l.map AM.v).all Z6j=true)) (by rw [all_bad hg h];decide) ▸ hP;refine Z0 ?_;refine Zha (fun (_:Unit)=>st [(0,Za c 3 (Zda c1) s),(3,.int .i64 k)] []) (fun _=>Z6j a.v=true) (fun K5 hK5=>?_) ?_;rotate_left
 ·intro _ hab
  refine Z1 ?_;exact hL3 _ ⟨hk1,(),Z8da hg hR hab,Zb zw zp⟩
 refine Z1f (zi hg @Z7a) ?_;intro g4;refine Zha (fun (_:Unit)=>st [(0,Za c 3 (Zda c1) s),(3,.int .i64 k),(4,.ptr 4 g4 0)] [(4,.cells .new g4 0 [.int .u8 a.kind,.str a.name,Za c1 6 Z8 a.x])]) (fun _=>(a.kind=1∨a.kind=2)∧isP a.name=2) (fun K6 hK6=>?_) ?_
 ·by_cases hk12:a.kind=1∨a.kind=2
  rotate_left
  ·have q2:(a.kind==1)=false:=by rw [beq_eq_false_iff_ne];exact fun h=>hk12 (.inl h)
   have q3:(a.kind==2)=false:=by rw [beq_eq_false_iff_ne];exact fun h=>hk12 (.inr h)
   refine Z5c zk ?_;simp -implicitDefEqProofs only[go_sem,seval,bne,q2,q3];refine Z ?_;rw [hbad (by unfold Z6j AM.v;rw [show ((a.kind==1)=false) from q2,show ((a.kind==2)=false) from q3]<;>rfl)]
  by_cases hi:isP a.name=2
  rotate_left
  ·have q4:((isP a.name:Int)==2)=false:=by rw [beq_eq_false_iff_ne];omega
   have q5:(isP a.name==2)=false:=by simpa using hi
   rcases hk12 with e1 | e1
   ·have q2:(a.kind==1)=true:=by simpa using e1
    refine Z5c zk ?_;simp -implicitDefEqProofs only[go_sem,seval,bne,q2];refine Zn hG ?_ (s:=(Zlj G hG a.name (by omega)));simp -implicitDefEqProofs only[go_sem,seval,bne,q4];refine Z ?_;rw [hbad (by unfold Z6j AM.v;simp only [q5,Bool.and_false,Bool.false_and])]
   ·have q2:(a.kind==1)=false:=by rw [beq_eq_false_iff_ne];omega
    have q3:(a.kind==2)=true:=by simpa using e1
    refine Z5c zk ?_;simp -implicitDefEqProofs only[go_sem,seval,bne,q2,q3];refine Zn hG ?_ (s:=(Zlj G hG a.name (by omega)));simp -implicitDefEqProofs only[go_sem,seval,bne,q4];refine Z ?_;rw [hbad (by unfold Z6j AM.v;simp only [q5,Bool.and_false,Bool.false_and])]
  have q4:((isP a.name:Int)==2)=true:=by rw [beq_iff_eq];omega
  rcases hk12 with e1 | e1
  ·have q2:(a.kind==1)=true:=by simpa using e1
   refine Z5c zk ?_;simp -implicitDefEqProofs only[go_sem,seval,bne,q2];refine Zn hG ?_ (s:=(Zlj G hG a.name (by omega)));simp -implicitDefEqProofs only[go_sem,seval,bne,q4];refine Z0 ?_;exact hK6 _ () ⟨.inl e1,hi⟩ (Zb zp zp)
  ·have q2:(a.kind==1)=false:=by rw [beq_eq_false_iff_ne];omega
   have q3:(a.kind==2)=true:=by simpa using e1
   refine Z5c zk ?_;simp -implicitDefEqProofs only[go_sem,seval,bne,q2,q3];refine Zn hG ?_ (s:=(Zlj G hG a.name (by omega)));simp -implicitDefEqProofs only[go_sem,seval,bne,q4];refine Z0 ?_;exact hK6 _ () ⟨.inr e1,hi⟩ (Zb zp zp)
 rintro _ ⟨hk12,hi⟩
 have q5:(isP a.name==2)=true:=by simpa using hi
 have q6:(a.kind==1 || a.kind==2)=true:=by simpa using hk12
 have hst:Z6j a.v=((a.kind==2 && a.x.l.isEmpty) || Zra a.x.l==0):=by
  unfold Z6j AM.v;simp only [q5,q6,Bool.true_and]
 by_cases hbare:a.kind=2∧a.x.l.length=0
 ·have q2:(a.kind==1)=false:=by rw [beq_eq_false_iff_ne];omega
  have q3:(a.kind==2)=true:=by simpa using hbare.1
  have q7:decide ((a.x.l.length:Int) > 0)=false:=zF;refine Z1f (zi q2 q7) ?_;refine Z0 ?_;exact hK5 _ () (by rw [hst,q3,List.isEmpty_iff_length_eq_zero.2 hbare.2]<;>rfl) (Zb zp zp)
 have hst2:Z6j a.v=(Zra a.x.l==0):=by
  rw [hst]
  have:(a.kind==2 && a.x.l.isEmpty)=false:=by
   rw [Bool.eq_false_iff];intro h;rw [Bool.and_eq_true] at h;exact hbare ⟨by simpa using h.1,List.isEmpty_iff_length_eq_zero.1 h.2⟩
  rw [this,Bool.false_or]
 have hck:=fun c=>Zrk G hG c a.x r2 r3;generalize Zra a.x.l=ck at hst2 hck;refine Zha (fun (b:Bool)=>st [(0,Za c 3 (Zda c1) s),(3,.int .i64 k),(46,.bool b)] []) (fun b=>b = !(ck==0)) (fun K7 hK7=>?_) ?_
 ·refine AW.region zk ?_
  by_cases e1:a.kind=1
  ·have q2:(a.kind==1)=true:=by simpa using e1
   simp -implicitDefEqProofs only[go_sem,seval,q2,bne];refine Znf @Zk hG ?_ (s:=(hck _));simp -implicitDefEqProofs only[go_sem,seval,q2,bne];exact hK7 _ _ rfl (Zb zp zp)
  ·have q2:(a.kind==1)=false:=by simpa using e1
   have q7:decide ((a.x.l.length:Int) > 0)=true:=zT;simp -implicitDefEqProofs only[go_sem,seval,q2,q7,bne];refine Znf @Zk hG ?_ (s:=(hck _));simp -implicitDefEqProofs only[go_sem,seval,q2,q7,bne];exact hK7 _ _ rfl (Zb zp zp)
 rintro b rfl
 cases hck0:(ck==0) with
 | false =>
  refine Z ?_;rw [hbad (by rw [hst2,hck0])]
 | true =>
  refine Z0 ?_;exact hK5 _ () (by rw [hst2,hck0]) (Zb zp zp)
theorem Zn2 (G:Nat→V) (hE:GExp G) (c:Col) (a:AM) (r1:a.name.length<100000) (r2:a.x.l.length<1000000) (r3:∀ n∈a.x.l,n.name.length<100000) :
  Spec Tryz.prog G 60 [Zda c a] Zm (fun v _=>v = .bool (Z6j a.v)):=by
 have hG:=hE.ok;refine Zo 0 37 [.tmp 2] Tryz.func60 fun X=>?_;have hst:Z6j a.v=((a.kind==1 || a.kind==2) && isP a.name==2 && ((a.kind==2 && a.x.l.isEmpty) || Zra a.x.l==0)):=rfl;generalize Z6j a.v=res at hst ⊢
 have hem:a.x.l.isEmpty=((a.x.l.length:Int)==0):=by
  rw [Bool.eq_iff_iff,List.isEmpty_iff_length_eq_zero,beq_iff_eq];omega
 have hip:(isP a.name==2)=((isP a.name:Int)==2):=by
  rw [Bool.eq_iff_iff,beq_iff_eq,beq_iff_eq];omega
 rw [hem,hip] at hst;simp only [Z7a];refine Z1 ?_;intro g1;refine Zha (fun (_:Unit)=>st [(1,.ptr 1 g1 0),(3,.bool (a.kind==2 && ((a.x.l.length:Int)==0)))] [(1,.cells .new g1 0 [.int .u8 a.kind,.str a.name,Za c 6 Z8 a.x])]) (fun _=>True) (fun K1 hK1=>?_) ?_
 ·refine AW.region zk ?_
  cases q3:(a.kind==2) with
  | false =>
   rw [q3] at hK1;refine Zsf q3 ?_;exact hK1 _ () trivial (Zb zp zp)
  | true =>
   rw [q3] at hK1;refine Zsf q3 ?_;exact hK1 _ () trivial (Zb zp zp)
 intro _ _;refine Zha (fun (_:Unit)=>st [(2,.bool res)] []) (fun _=>True) (fun K2 hK2=>?_) ?_;rotate_left
 ·intro _ _
  exact Zr
 refine AW.region zk ?_
 cases q2:(a.kind==1) with
 | true =>
  have q3:(a.kind==2)=false:=by
   rw [beq_iff_eq] at q2;rw [beq_eq_false_iff_ne,q2];decide
  rw [q3];refine Zsf q2 ?_;refine Zn hG ?_ (s:=(Zqo G hE a.name (by omega)))
  cases q4:((isP a.name:Int)==2) with
  | false =>
   refine Zsf q4 ?_;refine hK2 _ () trivial (Zb (by rw [hst,q2,q3,q4];simp -implicitDefEqProofs only[go_sem,seval];try rfl) zp)
  | true =>
   refine Zsf q4 ?_;refine Zcf @Zk hG ?_ (s:=(Zoh G hE _ a.x r2 r3));refine hK2 _ () trivial (Zb (by rw [hst,q2,q3,q4];simp -implicitDefEqProofs only[go_sem,seval];try rfl) zp)
 | false =>
 cases q3:(a.kind==2) with
 | false =>
  refine Zsf (zi q2 q3) ?_;refine hK2 _ () trivial (Zb (by rw [hst,q2,q3];simp -implicitDefEqProofs only[go_sem,seval];try rfl) zp)
 | true =>
 refine Zsf (zi q2 q3) ?_;refine Zn hG ?_ (s:=(Zqo G hE a.name (by omega)))
 cases q4:((isP a.name:Int)==2) with
 | false =>
  refine Zsf q4 ?_;refine hK2 _ () trivial (Zb (by rw [hst,q2,q3,q4];simp -implicitDefEqProofs only[go_sem,seval];try rfl) zp)
 | true =>
 cases q5:((a.x.l.length:Int)==0) with
 | true =>
  refine Zsf (zi q4 q5) ?_;refine hK2 _ () trivial (Zb (by rw [hst,q2,q3,q4,q5];simp -implicitDefEqProofs only[go_sem,seval];try rfl) zp)
 | false =>
  refine Zsf (zi q4 q5) ?_;refine Zcf @Zk hG ?_ (s:=(Zoh G hE _ a.x r2 r3));refine hK2 _ () trivial (Zb (by rw [hst,q2,q3,q4,q5];simp -implicitDefEqProofs only[go_sem,seval];try rfl) zp)
structure AmB (a:AM):Prop where
 n:a.name.length<100000
 l:a.x.l.length<1000000
 x:∀ n∈a.x.l,n.name.length<100000
theorem Zaz (G:Nat→V) (hE:GExp G) (c:Col) (a:AM) (hb:AmB a) :
  Spec Tryz.prog G 59 [Zda c a] Zm (fun v _=>v = .bool (!Z6j a.v)):=by
 have hG:=hE.ok;refine Zo 0 6 [.tmp 2] Tryz.func59 fun X=>?_;simp only [Z7a];refine Z1 ?_;intro g1;refine Z1 ?_;refine CallA.pure hG zk ?_;simp only [List.map_cons,List.map_nil,← Z7a,Zce];refine (Zn2 G hE _ a hb.n hb.l hb.x).mono ?_;rintro _ _ rfl;refine Zs ?_;exact Zr
theorem Zp2 (G:Nat→V) (hE:GExp G) (c c1:Col) (s:Sl AM) (hs:s.l.length<1000000) (hb:∀ a∈s.l,AmB a) :
  Spec Tryz.prog G 87 [Za c 3 (Zda c1) s,.func (.func 59) [] []] Zm (fun v _=>v = .int .i64 (Znr (fun a:AM => !Z6j a.v) s.l)):=by
 have hG:=hE.ok;refine Zo 0 19 [.tmp 4] Tryz.func87 fun X=>?_;refine Z1 ?_;refine Z1 ?_;refine AW.block ?_
 refine Zwa s.l.length (fun k (_:Unit)=>st [(0,Za c 3 (Zda c1) s),(1,.func (.func 59) [] []),(7,.int .i64 s.l.length),(8,.int .i64 k)] []) (fun k _=>∀ y∈s.l.take k,(!Z6j y.v)=false) 0 () (Nat.zero_le _) (by simp)
  (Zb zp zp) ?_
 intro k _ hk hR L2 hL2;refine Z1 ?_;refine Z5 ?_;refine Ze rfl (fun h4=>?_) (fun h4=>?_)
 ·have hk1:k<s.l.length:=by simpa using h4
  have hg:=List.getElem?_eq_getElem hk1;have hbx:=hb _ (List.getElem_mem hk1);generalize s.l[k]=x at hg hbx;refine Z1 ?_;refine Z1f (zi hg @Z7a) ?_;refine CallA.pure hG zk ?_;simp only [List.map_cons,List.map_nil,← Z7a,Zce];refine (Zaz G hE _ x hbx).mono ?_;rintro _ _ rfl;refine Zs ?_;refine Ze rfl (fun h6=>?_) (fun h6=>?_)
  ·refine Z ?_
   rw [Zui (p:=fun a:AM => !Z6j a.v) hg hR h6]
  ·refine Z1 ?_
   refine hL2 _ ⟨hk1,(),Zjl hg hR h6,Zb zw zp⟩
 ·have hk1:k=s.l.length:=by simp at h4;omega
  refine Z ?_;rw [hk1,List.take_length] at hR;rw [Zvi (p:=fun a:AM => !Z6j a.v) hR]
theorem idxP_ge {α : Type} (p : α → Bool) (l:List α):decide (Znr p l≥0)=l.any p:=by
 unfold Znr
 cases h:l.findIdx? p with
 | none =>
  rw [List.findIdx?_eq_none_iff] at h
  have:l.any p=false:=by rw [List.any_eq_false];intro x hx;simp [h x hx]
  rw [this]<;>rfl
 | some i =>
  have:l.any p=true:=by
   rw [List.any_eq_true];obtain ⟨hi,hp,_⟩:=List.findIdx?_eq_some_iff_getElem.1 h;exact ⟨_,List.getElem_mem hi,hp⟩
  rw [this,decide_eq_true_iff];exact Int.natCast_nonneg _
theorem Z4r (G:Nat→V) (hE:GExp G) (c c1:Col) (s:Sl AM) (hs:s.l.length<1000000) (hb:∀ a∈s.l,AmB a) :
  Spec Tryz.prog G 58 [Za c 3 (Zda c1) s,.func (.func 59) [] []] Zm (fun v _=>v = .bool (s.l.any (fun a:AM => !Z6j a.v))):=by
 have hG:=hE.ok;refine Zo 0 9 [.tmp 4] Tryz.func58 fun X=>?_;refine Z1 ?_;refine Z1 ?_;refine Zcf @Zmp hG ?_ (s:=(Zp2 G hE _ _ s hs hb));refine Z ?_;rw [idxP_ge]
theorem Z6k (G:Nat→V) (hE:GExp G) (c c1:Col) (s:Sl AM) (hs:s.l.length<1000000) (hb:∀ a∈s.l,AmB a) :
  Spec Tryz.prog G 36 [.agg [Za c 3 (Zda c1) s]] Zm (fun v _=>v = .int .i64 (Z3a (s.l.map AM.v))):=by
 have hG:=hE.ok;refine Zo 0 12 [.tmp 2] Tryz.func36 fun X=>?_
 have hP:Z3a (s.l.map AM.v)=if s.l.length > 512 then 2 else if (s.l.map AM.v).all Z6j=true then 0 else 2:=by unfold Z3a;rw [List.length_map]
 generalize Z3a (s.l.map AM.v)=res at hP ⊢
 have hall:s.l.any (fun a:AM => !Z6j a.v) = !(s.l.map AM.v).all Z6j:=by
  rw [List.all_map,List.not_all_eq_any_not]<;>rfl
 refine Z1 ?_;intro g1;refine Z5 ?_
 by_cases hl:s.l.length > 512
 ·rw [if_pos hl] at hP
  have q1:decide ((s.l.length:Int) > 512)=true:=zT;refine Zf q1 ?_;rw [hP]
 rw [if_neg hl] at hP;have q1:decide ((s.l.length:Int) > 512)=false:=zF;refine Z1f q1 ?_;refine Znf @Zmp hG ?_ (s:=(Z4r G hE _ _ s hs hb));refine Zsf q1 ?_;rw [hall]
 cases hok:(s.l.map AM.v).all Z6j with
 | true =>
  rw [if_pos hok] at hP;refine Z ?_;rw [hP]
 | false =>
  rw [if_neg (by rw [hok];decide)] at hP;refine Z ?_;rw [hP]
end Go.Hs
end
