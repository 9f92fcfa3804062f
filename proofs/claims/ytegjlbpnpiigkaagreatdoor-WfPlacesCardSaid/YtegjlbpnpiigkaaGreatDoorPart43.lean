/- Part 43 of a proof; no condition. -/
import Derived.Test.YtegjlbpnpiigkaaGreatDoorPart42
import Derived.Test.YtegjlbpnpiigkaaGreatDoorPart41
set_option linter.unusedSimpArgs false
set_option linter.unusedVariables false
section
namespace Go.Hs
open Go.Proofs
set_option maxRecDepth 10000
def eq3 (a b c a' b' c':Int):Bool:=decide (a=a'∧b=b'∧c=c')
theorem Zi4 (a b c a' b' c':Int):Zn1 [.int .u8 a,.int .u8 b,.int .u8 c] [.int .u8 a',.int .u8 b',.int .u8 c']=some (eq3 a b c a' b' c'):=by
 unfold eq3;simp only [Zn1,eqC,if_true]
 by_cases h1:a=a'
 ·by_cases h2:b=b'
  ·by_cases h3:c=c'
   ·simp [h1,h2,h3]
   ·have:(c==c')=false:=by simpa using h3
    simp [h1,h2,h3,this]
  ·have:(b==b')=false:=by simpa using h2
   simp [h1,this,h2]
 ·have:(a==a')=false:=by simpa using h1
  simp [this,h1]
def knC (v:V):List V:=ruleC++[v]
theorem Zko (v:V):(knC v).length=93:=by rw [knC,List.length_append]<;>rfl
theorem Zq3 (v:V):(knC v)[92]? = some v:=by
 rw [knC,List.getElem?_append_right (by decide)]<;>rfl
theorem Ztn:ruleC.length=92:=rfl
theorem Zf7 (v:V):(knC v).take 92=ruleC:=by rw [knC,List.take_append_of_le_length (Nat.le_refl 92)]<;>rfl
theorem Z3v (f:Col→Col):ruleC.map (V.recol f)=ruleC:=rfl
theorem Zp3 (f:Col→Col) (v:V):(knC v).map (V.recol f)=knC (v.recol f):=by
 rw [knC,List.map_append,Z3v]<;>rfl
theorem Znz (G:Nat→V) (hG:GOk G) (c1 c2:Col) (names:Sl (List UInt8)) (hnl:names.l.length<1000000) (n:XN) (ks:Sl Int) (hn:PlOk ks.l.length n) (hkl:ks.l.length<1000000) (hks:∀ y∈ks.l,y=1∨y=2) :
  Spec Tryz.prog G 283 [.agg (knC (Zb c1 1 V.str names)),Zva n,Zb c2 1 (V.int .u8) ks] Zl (fun v _=>v = .int .u8 (Z6f names.l n ks.l)):=by
 refine Zo 0 71 [.tmp 6] Tryz.func283 fun X=>?_;have hP:Z6f names.l n ks.l=kd n.op (names.l.contains n.name) (plc ks.l n.a) (plc ks.l n.b) (plc ks.l n.c):=rfl;generalize Z6f names.l n ks.l=res at hP ⊢;simp only [Z4a];refine Z7 fun K hK=>AW.region zk ?_;refine Zsf @Zko ?_;intro g3 g4 g5;refine hK _ ?_
 try clear hK K
 refine Zia (fun (_:Unit)=>st [(3,.ptr 3 g3 0),(4,.ptr 4 g4 0),(5,.ptr 5 g5 0)] [(3,.cells .new g3 0 (knC (Zb c1 1 V.str names))),(4,.cells .new g4 0 [.int .u8 n.op,.int .i64 n.num,.str n.name,.int .i64 n.a,.int .i64 n.b,.int .i64 n.c]),(5,.cells .new g5 0 [Zb c2 1 (V.int .u8) ks])])
  (fun _=>n.op=2→names.l.contains n.name=true) (fun K1 hK1=>?_) ?_
 ·by_cases ho:n.op=2
  ·have e1:(n.op==2)=true:=by simpa using ho
   refine Z7 fun K hK=>AW.region zk ?_;refine Zsf (zi e1 @Zq3) ?_;refine Zc hG ?_ (s:=(Z6c G hG _ n.name names hnl));refine hK _ ?_
   try clear hK K
   cases hc:names.l.contains n.name with
   | true =>
    refine Z0 ?_;exact hK1 _ () (fun _=>hc) (Za zp zp)
   | false =>
    refine Zi rfl (fun h21=>?_) (fun h21=>?_)
    ·refine Z7 fun K hK=>AW.region zk ?_
     refine Zs ?_;refine hK _ ?_
     try clear hK K
     refine Z ?_
     rw [hP,hc,ho]<;>rfl
    ·cases h21
  ·have e1:(n.op==2)=false:=by simpa using ho
   refine Z7 fun K hK=>AW.region zk ?_;refine Zsf e1 ?_;refine hK _ ?_
   try clear hK K
   refine Z0 ?_;exact hK1 _ () (fun h=>absurd h ho) (Za zp zp)
 rintro _ hnm;refine Z7 fun K hK=>AW.region zk ?_;refine Zs ?_;refine hK _ ?_
 try clear hK K
 refine AW.weak (Zv (fun o=>o==3 || o==4 || o==5) (l:=[(3,.view .new (.agg (knC (Zb c1 1 V.str names)))),(4,.view .new (.agg [.int .u8 n.op,.int .i64 n.num,.str n.name,.int .i64 n.a,.int .i64 n.b,.int .i64 n.c])),(7,.func (.func 304) [] [.view .new (Zb c2 1 (V.int .u8) ks)])]) (m:=[]) ?_ trivial) ?_
 ·refine Zs ?_
  refine ⟨?_,?_,?_⟩
  ·exact Fz.ptr (v := .agg (knC (Zb c1 1 V.str names))) (c := .new) (fz:=0) rfl zp
  ·exact Fz.ptr (v := .agg [.int .u8 n.op,.int .i64 n.num,.str n.name,.int .i64 n.a,.int .i64 n.b,.int .i64 n.c]) (c := .new) (fz:=0) rfl zp
  ·exact Fz.func ⟨Fz.ptr (v:=Zb c2 1 (V.int .u8) ks) (c := .new) (fz:=0) rfl zp,trivial⟩
 have pc:∀ i:Int,(i<0∨0≤i∧i<ks.l.length)→Zep Tryz.prog G 304 [.int .i64 i,.view .new (Zb c2 1 (V.int .u8) ks)] (.int .u8 (plc ks.l i)):=fun i h=>⟨by kernel_rfl,by
  refine Zs ?_;refine (Z25 G hG _ ks hkl i h).mono ?_;rintro _ _ rfl
  rfl⟩
 obtain ⟨hw,ha1,hb1,hc1,ha0,hb0,hc0⟩:=hn
 have hra:n.a<0∨0≤n.a∧n.a<ks.l.length:=by
  by_cases h:0<Zy n.op
  ·exact .inr (ha1 h)
  ·exact .inl (by rw [ha0 h];decide)
 have hrb:n.b<0∨0≤n.b∧n.b<ks.l.length:=by
  by_cases h:1<Zy n.op
  ·exact .inr (hb1 h)
  ·exact .inl (by rw [hb0 h];decide)
 have hrc:n.c<0∨0≤n.c∧n.c<ks.l.length:=by
  by_cases h:2<Zy n.op
  ·exact .inr (hc1 h)
  ·exact .inl (by rw [hc0 h];decide)
 have hor:=Zag hw;obtain ⟨op,hop⟩:∃ op:Nat,n.op=op:=⟨n.op.toNat,by omega⟩
 have hop1:op<23:=by omega
 have hop2:n.op<23:=by omega
 have hop0:0≤n.op:=by omega
 have hopn:n.op.toNat=op:=by omega
 have hru:=Zl2 op hop1
 have hrl:op * 4+4≤92:=by omega
 refine Z7 fun K hK=>Zw ⟨fun i=>if i=8 then .int .u8 (plc ks.l n.a) else if i=12 then .int .u8 (plc ks.l n.b) else if i=16 then .int .u8 (plc ks.l n.c) else .top,fun i=>if i=1 then .lend else if i=4 then .lend else if i=7 then .lend else if i=11 then .lend else if i=15 then .lend else .pure⟩ zk hG zk zk ?_;simp -implicitDefEqProofs only[go_sem,seval,Zf7,Zko,show (92:Nat)≤93 from by decide,Ztn,hru,hop2,hop0,hopn,hrl];refine ⟨pc _ hra,pc _ hrb,pc _ hrc,?_⟩;intro g8 g9;refine hK _ ?_
 try clear hK K
 have hpl:∀ i:Int,(0≤i∧i<ks.l.length)→plc ks.l i=1∨plc ks.l i=2:=by
  intro i hi;unfold plc;rw [if_neg (by omega)];obtain ⟨m,rfl⟩:∃ m:Nat,i=m:=⟨i.toNat,by omega⟩;rw [Int.toNat_natCast,List.getD_eq_getElem?_getD,List.getElem?_eq_getElem (by omega)];exact hks _ (List.getElem_mem _)
 have hva:0<Zy n.op→plc ks.l n.a=1∨plc ks.l n.a=2:=fun h=>hpl _ (ha1 h);have hvb:1<Zy n.op→plc ks.l n.b=1∨plc ks.l n.b=2:=fun h=>hpl _ (hb1 h);have hvc:2<Zy n.op→plc ks.l n.c=1∨plc ks.l n.c=2:=fun h=>hpl _ (hc1 h)
 have hza:¬ 0<Zy n.op→plc ks.l n.a=0:=fun h=>by rw [ha0 h]<;>rfl
 have hzb:¬ 1<Zy n.op→plc ks.l n.b=0:=fun h=>by rw [hb0 h]<;>rfl
 have hzc:¬ 2<Zy n.op→plc ks.l n.c=0:=fun h=>by rw [hc0 h]<;>rfl
 generalize plc ks.l n.a=a at hP hva hza ⊢;generalize plc ks.l n.b=b at hP hvb hzb ⊢;generalize plc ks.l n.c=c at hP hvc hzc ⊢;refine Z7 fun K hK=>AW.region zk ?_;refine Zs ?_;refine hK _ ?_
 try clear hK K
 by_cases q16:op=16∨op=17
 ·have eA:Z4v op=3:=by rcases q16 with rfl | rfl<;>rfl
  have eB:Zm2 op=3:=by rcases q16 with rfl | rfl<;>rfl
  have eD:Z2v op=0:=by rcases q16 with rfl | rfl<;>rfl
  have eI:Zg6 op=2:=by rcases q16 with rfl | rfl<;>rfl
  rw [eA,eB,eD,eI]
  have hpo:Zy n.op=2:=by rw [hop];rcases q16 with rfl | rfl<;>rfl
  rw [hpo] at hva hvb hzc
  replace hva:=hva (by decide)
  replace hvb:=hvb (by decide)
  replace hzc:=hzc (by decide)
  refine Z5 ?_;refine Z7 fun K hK=>AW.region zk ?_;refine Zs ?_;refine hK _ ?_
  try clear hK K
  refine Z1 ?_;refine Z5 ?_;refine Z7 fun K hK=>AW.region zk ?_;refine Zs ?_;refine hK _ ?_
  try clear hK K
  refine Z0 ?_;refine Z5 ?_;refine Z7 fun K=>?_;intro hK;refine Zqf 3 zk rfl rfl ?_;simp -implicitDefEqProofs only[go_sem,seval,List.take_succ_cons,List.take_zero];refine ⟨_,Zoj (.inr rfl) zk zk zk zp zp zk (Zi4 _ _ _ _ _ _),?_⟩;simp -implicitDefEqProofs only[go_sem,seval,List.drop_succ_cons,List.drop_zero];refine hK _ ?_
  try clear hK K
  have hP2:res=if eq3 a b c b b 0=true then 2 else 0:=by
   rw [hP,hop,hzc]
   rcases q16 with rfl | rfl<;>rcases hva with rfl | rfl<;>rcases hvb with rfl | rfl<;>rfl
  generalize eq3 a b c b b 0=z at hP2 ⊢
  cases z with
  | true =>
   refine Z0 ?_;refine Z7 fun K hK=>AW.region zk ?_;refine Zs ?_;refine hK _ ?_
   try clear hK K
   refine Z ?_
   rw [hP2]<;>rfl
  | false =>
   refine Zi rfl (fun h68=>?_) (fun h68=>?_)
   ·refine Z7 fun K hK=>AW.region zk ?_
    refine Zs ?_;refine hK _ ?_
    try clear hK K
    refine Z ?_
    rw [hP2]<;>rfl
   ·cases h68
 by_cases q22:op=22
 ·subst q22
  have eA:Z4v 22=2:=rfl;have eB:Zm2 22=3:=rfl;have eD:Z2v 22=3:=rfl;have eI:Zg6 22=3:=rfl;rw [eA,eB,eD,eI]
  have hpo:Zy n.op=3:=by rw [hop]<;>rfl
  rw [hpo] at hva hvb hvc
  replace hva:=hva (by decide)
  replace hvb:=hvb (by decide)
  replace hvc:=hvc (by decide)
  refine Z5 ?_;refine Z7 fun K hK=>AW.region zk ?_;refine Zs ?_;refine hK _ ?_
  try clear hK K
  refine Z0 ?_;refine Z5 ?_;refine Z7 fun K hK=>AW.region zk ?_;refine Zs ?_;refine hK _ ?_
  try clear hK K
  refine Z1 ?_;refine Z5 ?_;refine Z7 fun K=>?_;intro hK;refine Zqf 3 zk rfl rfl ?_;simp -implicitDefEqProofs only[go_sem,seval,List.take_succ_cons,List.take_zero];refine ⟨_,Zoj (.inr rfl) zk zk zk zp zp zk (Zi4 _ _ _ _ _ _),?_⟩;simp -implicitDefEqProofs only[go_sem,seval,List.drop_succ_cons,List.drop_zero];refine hK _ ?_
  try clear hK K
  have hP2:res=if eq3 a b c 2 b b=true then b else 0:=by
   rw [hP,hop]
   rcases hva with rfl | rfl<;>rcases hvb with rfl | rfl<;>rcases hvc with rfl | rfl<;>rfl
  generalize eq3 a b c 2 b b=z at hP2 ⊢
  cases z with
  | true =>
   refine Z0 ?_;refine Z7 fun K hK=>AW.region zk ?_;refine Zs ?_;refine hK _ ?_
   try clear hK K
   refine Z ?_
   rw [hP2]<;>rfl
  | false =>
   refine Zi rfl (fun h68=>?_) (fun h68=>?_)
   ·refine Z7 fun K hK=>AW.region zk ?_
    refine Zs ?_;refine hK _ ?_
    try clear hK K
    refine Z ?_
    rw [hP2]<;>rfl
   ·cases h68
 have nA:(Z4v op==3)=false:=by unfold Z4v;rw [if_neg q16];split;rfl;split;rfl;rfl
 have nD:(Z2v op==3)=false:=by unfold Z2v;rw [if_neg q22]<;>rfl
 refine Z5 ?_;refine Z7 fun K hK=>AW.region zk ?_;refine Zsf nA ?_;refine hK _ ?_
 try clear hK K
 refine Z0 ?_;refine Z5 ?_;refine Z7 fun K hK=>AW.region zk ?_;refine Zsf nD ?_;refine hK _ ?_
 try clear hK K
 refine Z0 ?_;refine Z5 ?_;refine Z7 fun K=>?_;intro hK;refine Zqf 3 zk rfl rfl ?_;simp -implicitDefEqProofs only[go_sem,seval,List.take_succ_cons,List.take_zero];refine ⟨_,Zoj (.inr rfl) zk zk zk zp zp zk (Zi4 _ _ _ _ _ _),?_⟩;simp -implicitDefEqProofs only[go_sem,seval,List.drop_succ_cons,List.drop_zero];refine hK _ ?_
 try clear hK K
 have hP2:res=if eq3 a b c (Z4v op) (Zm2 op) (Z2v op)=true then Zg6 op else 0:=by
  have hcs:op=1∨op=2∨op=3∨op=4∨op=5∨op=6∨op=7∨op=8∨op=9∨op=10∨op=11∨op=12∨op=13∨op=14∨op=15∨op=18∨op=19∨op=20∨op=21:=by omega
  rcases hcs with rfl | rfl | rfl | rfl | rfl | rfl | rfl | rfl | rfl | rfl | rfl | rfl | rfl | rfl | rfl | rfl | rfl | rfl | rfl
  ·have hpo:Zy n.op=0:=by rw [hop]<;>rfl
   rw [hpo] at hva hvb hza hzb hzc;rw [hP,hop,hza (by decide),hzb (by decide),hzc (by decide)]
   try rfl
  ·have hpo:Zy n.op=0:=by rw [hop]<;>rfl
   rw [hpo] at hva hvb hza hzb hzc;rw [hP,hop,hza (by decide),hzb (by decide),hzc (by decide)];rw [hnm (by rw [hop]<;>rfl)]
   try rfl
  ·have hpo:Zy n.op=0:=by rw [hop]<;>rfl
   rw [hpo] at hva hvb hza hzb hzc;rw [hP,hop,hza (by decide),hzb (by decide),hzc (by decide)]
   try rfl
  ·have hpo:Zy n.op=0:=by rw [hop]<;>rfl
   rw [hpo] at hva hvb hza hzb hzc;rw [hP,hop,hza (by decide),hzb (by decide),hzc (by decide)]
   try rfl
  ·have hpo:Zy n.op=1:=by rw [hop]<;>rfl
   rw [hpo] at hva hvb hza hzb hzc;rw [hP,hop,hzb (by decide),hzc (by decide)]
   rcases hva (by decide) with rfl | rfl<;>rfl
  ·have hpo:Zy n.op=1:=by rw [hop]<;>rfl
   rw [hpo] at hva hvb hza hzb hzc;rw [hP,hop,hzb (by decide),hzc (by decide)]
   rcases hva (by decide) with rfl | rfl<;>rfl
  ·have hpo:Zy n.op=2:=by rw [hop]<;>rfl
   rw [hpo] at hva hvb hza hzb hzc;rw [hP,hop,hzc (by decide)]
   rcases hva (by decide) with rfl | rfl<;>rcases hvb (by decide) with rfl | rfl<;>rfl
  ·have hpo:Zy n.op=2:=by rw [hop]<;>rfl
   rw [hpo] at hva hvb hza hzb hzc;rw [hP,hop,hzc (by decide)]
   rcases hva (by decide) with rfl | rfl<;>rcases hvb (by decide) with rfl | rfl<;>rfl
  ·have hpo:Zy n.op=2:=by rw [hop]<;>rfl
   rw [hpo] at hva hvb hza hzb hzc;rw [hP,hop,hzc (by decide)]
   rcases hva (by decide) with rfl | rfl<;>rcases hvb (by decide) with rfl | rfl<;>rfl
  ·have hpo:Zy n.op=2:=by rw [hop]<;>rfl
   rw [hpo] at hva hvb hza hzb hzc;rw [hP,hop,hzc (by decide)]
   rcases hva (by decide) with rfl | rfl<;>rcases hvb (by decide) with rfl | rfl<;>rfl
  ·have hpo:Zy n.op=2:=by rw [hop]<;>rfl
   rw [hpo] at hva hvb hza hzb hzc;rw [hP,hop,hzc (by decide)]
   rcases hva (by decide) with rfl | rfl<;>rcases hvb (by decide) with rfl | rfl<;>rfl
  ·have hpo:Zy n.op=2:=by rw [hop]<;>rfl
   rw [hpo] at hva hvb hza hzb hzc;rw [hP,hop,hzc (by decide)]
   rcases hva (by decide) with rfl | rfl<;>rcases hvb (by decide) with rfl | rfl<;>rfl
  ·have hpo:Zy n.op=2:=by rw [hop]<;>rfl
   rw [hpo] at hva hvb hza hzb hzc;rw [hP,hop,hzc (by decide)]
   rcases hva (by decide) with rfl | rfl<;>rcases hvb (by decide) with rfl | rfl<;>rfl
  ·have hpo:Zy n.op=2:=by rw [hop]<;>rfl
   rw [hpo] at hva hvb hza hzb hzc;rw [hP,hop,hzc (by decide)]
   rcases hva (by decide) with rfl | rfl<;>rcases hvb (by decide) with rfl | rfl<;>rfl
  ·have hpo:Zy n.op=2:=by rw [hop]<;>rfl
   rw [hpo] at hva hvb hza hzb hzc;rw [hP,hop,hzc (by decide)]
   rcases hva (by decide) with rfl | rfl<;>rcases hvb (by decide) with rfl | rfl<;>rfl
  ·have hpo:Zy n.op=2:=by rw [hop]<;>rfl
   rw [hpo] at hva hvb hza hzb hzc;rw [hP,hop,hzc (by decide)]
   rcases hva (by decide) with rfl | rfl<;>rcases hvb (by decide) with rfl | rfl<;>rfl
  ·have hpo:Zy n.op=2:=by rw [hop]<;>rfl
   rw [hpo] at hva hvb hza hzb hzc;rw [hP,hop,hzc (by decide)]
   rcases hva (by decide) with rfl | rfl<;>rcases hvb (by decide) with rfl | rfl<;>rfl
  ·have hpo:Zy n.op=2:=by rw [hop]<;>rfl
   rw [hpo] at hva hvb hza hzb hzc;rw [hP,hop,hzc (by decide)]
   rcases hva (by decide) with rfl | rfl<;>rcases hvb (by decide) with rfl | rfl<;>rfl
  ·have hpo:Zy n.op=2:=by rw [hop]<;>rfl
   rw [hpo] at hva hvb hza hzb hzc;rw [hP,hop,hzc (by decide)]
   rcases hva (by decide) with rfl | rfl<;>rcases hvb (by decide) with rfl | rfl<;>rfl
 generalize eq3 a b c (Z4v op) (Zm2 op) (Z2v op)=z at hP2 ⊢
 cases z with
 | true =>
  refine Z0 ?_;refine Z7 fun K hK=>AW.region zk ?_;refine Zs ?_;refine hK _ ?_
  try clear hK K
  refine Z ?_
  rw [hP2]<;>rfl
 | false =>
  refine Zi rfl (fun h68=>?_) (fun h68=>?_)
  ·refine Z7 fun K hK=>AW.region zk ?_
   refine Zs ?_;refine hK _ ?_
   try clear hK K
   refine Z ?_
   rw [hP2]<;>rfl
  ·cases h68
def Zpb (names:List (List UInt8)) (l:List XN):List Int × Int × Int:=if Zec l≠0 then ([],0,Zec l) else goN names l 0 []
def encKs (c:Col) (l:List Int):V:=Zb c 1 (V.int .u8) (Zm l)
def encKr (c:Col) (p:List Int × Int × Int):V := .tuple [encKs c p.1,.int .i64 p.2.1,.int .i64 p.2.2]
theorem Zt3 {op:Int} {nm:Bool} {a b c:Int} (hb:b=0∨b=1∨b=2) (h:kd op nm a b c≠0):kd op nm a b c=1∨kd op nm a b c=2:=by
 have:=Zhk (op:=op) (nm:=nm) (a:=a) (c:=c) (b:=b) (by omega);omega
theorem Zy2 {ks:List Int} (h:∀ y∈ks,y=1∨y=2) (i:Int):plc ks i=0∨plc ks i=1∨plc ks i=2:=by
 unfold plc
 split
 ·exact .inl rfl
 ·rw [List.getD_eq_getElem?_getD]
  cases hg:ks[i.toNat]? with
  | none=>exact .inl rfl
  | some y=>exact .inr (h y (List.mem_of_getElem? hg))
theorem Zk7 {names:List (List UInt8)} {l:List XN} {k:Nat} {n:XN} (h:l[k]? = some n) (ks:List Int):goN names (l.drop k) k ks=if Z6f names n ks=0 then ([],(k:Int),90) else goN names (l.drop (k+1)) (k+1:Nat) (ks++[Z6f names n ks]):=by
 obtain ⟨h1,h2⟩:=List.getElem?_eq_some_iff.1 h
 rw [List.drop_eq_getElem_cons h1,h2]<;>rfl
theorem Im.knC {v:V} (h:v.Im):(V.agg (knC v)).Im:=by
 refine .agg _ fun x hx=>?_
 rcases List.mem_append.1 hx with h1 | h1
 ·have:∀ l:List V,(l.all fun v=>match v with | .int _ _=>true | _=>false)=true→∀ x∈l,x.Im:=by
   intro l hl x hx;have:=List.all_eq_true.1 hl x hx
   cases x<;>first | exact .int _ _ | cases this
  exact this ruleC rfl x h1
 ·rw [List.mem_singleton.1 h1];exact h
theorem Im.xn (n:XN):(Zva n).Im:=by
 refine .agg _ fun x hx=>?_;simp only [List.mem_cons,List.not_mem_nil,or_false] at hx
 rcases hx with rfl | rfl | rfl | rfl | rfl | rfl<;>first | exact .int _ _ | exact .str _
theorem Im.strs (c:Col) (s:Sl (List UInt8)):(Zb c 1 V.str s).Im:=Z3c (fun x y hy=>by simp [V.cells] at hy;subst hy;exact .str _) s
theorem buildKn (x:V) (hx:x.cells=[x]) (hs:x.solid=true):Z3f Tryz.prog 319 [(0,.agg ruleC),(1,x)]=some (.agg (knC x)):=by
 rw [Z6y (tbl:=[(0,92),(92,1)]) (z:=List.replicate 92 (.int .u8 0)++[.nils]) zk zk]
 have e1:Hs.setAt (List.replicate 92 (.int .u8 0)++[.nils]) 0 ruleC=ruleC++[.nils]:=by
  rw [Zhr _ _ _ (by decide)]<;>rfl
 have e2:Hs.setAt (ruleC++[.nils]) 92 [x]=knC x:=by
  show (ruleC++[V.nils]).set 92 x=ruleC++[x]
  rw [List.set_append_right _ _ (by decide)]<;>rfl
 have l1:(List.replicate 92 (V.int .u8 0)++[V.nils]).length=93:=rfl;have l2:(ruleC++[V.nils]).length=93:=rfl;have c1:(V.agg ruleC).cells=ruleC:=rfl;have s1:(V.agg ruleC).solid=true:=rfl;have t0:Zz5 [(0,92),(92,1)] 0=some (0,92):=rfl;have t1:Zz5 [(0,92),(92,1)] 1=some (92,1):=rfl;simp only [Zwd,t0,t1,c1,s1,hx,hs,l1,Ztn,e1,l2,e2,List.length_singleton,true_and,Nat.zero_add];rfl
theorem Zk4 {α : Type} (c:Col) (m:Nat) (f : α → V) (s:Sl α):(Zb c m f s).solid=true:=by cases s<;>rfl
theorem Zl4 {α : Type} (c:Col) (m:Nat) (f : α → V) (s:Sl α):(Zb c m f s).cells=[Zb c m f s]:=by cases s<;>rfl
theorem Ze6 (l:List V) (v:V) (h:l.length=93):Hs.setAt l 0 (knC v)=knC v:=Zft (by rw [h,Zko])
theorem Zqk (x:Int):(V.int .u8 x).cells.length=1:=rfl
theorem Zuv (G:Nat→V) (hE:GExp G) (c c1:Col) (s:Sl XN) (names:Sl (List UInt8)) (hs:s.l.length<1000000) (hnm:∀ n∈s.l,n.name.length<100000) (hnl:names.l.length<1000000) :
  Spec Tryz.prog G 258 [.agg [Zb c 6 Zva s],Zb c1 1 V.str names] Zl (fun v _=>v=encKr .new (Zpb names.l s.l)):=by
 have hG:=hE.ok;refine Zo 0 40 [.tmp 4,.tmp 5,.tmp 6] Tryz.func258 fun X=>?_
 have hP:Zpb names.l s.l=if Zec s.l≠0 then ([],0,Zec s.l) else goN names.l s.l 0 []:=rfl
 generalize Zpb names.l s.l=res at hP ⊢;refine Z1 ?_;intro g2;refine Z1 ?_;refine Zcf @Zfa hG ?_ (s:=(Z1i G hE _ s hs hnm));refine Z1 ?_
 by_cases hc:Zec s.l=0
 rotate_left
 ·have q1:(Zec s.l != 0)=true:=by simpa using hc
  rw [if_pos hc] at hP;refine Zi rfl (fun h14=>?_) (fun h14=>?_)
  ·refine Z ?_
   rw [hP]<;>rfl
  ·rw [q1] at h14;cases h14
 have q1:(Zec s.l != 0)=false:=by simpa using hc
 rw [if_neg (by simpa using hc)] at hP;refine Zi rfl (fun h14=>?_) (fun h14=>?_)
 ·rw [q1] at h14;cases h14
 refine Z0 ?_
 have hdep:Zgb s.l≠0:=by
  intro h;rw [Zec,if_pos h] at hc;cases hc
 refine Z1 ?_;refine Zn hG ?_ (s:=(Ztv G hG));have hrr:(V.agg ruleC).recol Col.bk = .agg ruleC:=rfl;have hrl:(V.agg ruleC).cells=ruleC:=rfl;simp -implicitDefEqProofs only[go_sem,seval,hrr,Ztn,buildKn (Zb c1 1 V.str names) (Zl4 ..) (Zk4 ..)];intro g7;refine Zsf (zi @Zko @Zv4) ?_;rw [Ze6 _ _ ?hl]
 case hl=>rfl
 refine Z1 ?_;refine AW.block ?_
 refine Zda s.l.length (fun k (x:Nat × List Int)=>st [(4,grown 37 x.1 1 x.2),(7,.ptr 7 g7 0),(20,Zb c 6 Zva s),(21,.int .i64 s.l.length),(22,.int .i64 k)] [(7,.cells .new g7 0 (knC (Zb c1 1 V.str names))),(37,Zxa x.1 (V.int .u8) x.2)])
  (fun k x=>res=goN names.l (s.l.drop k) k x.2∧x.2.length=k∧∀ y∈x.2,y=1∨y=2) 0 (0,[]) (Nat.zero_le _) ⟨hP,rfl,fun y hy=>by cases hy⟩
  (Za zp zp) ?_
 rintro k ⟨gx,ks⟩ hk ⟨hR,hkl,hkr⟩ L3 hL3
 replace hR:res=goN names.l (s.l.drop k) k ks:=hR
 replace hkl:ks.length=k:=hkl
 replace hkr:∀ y∈ks,y=1∨y=2:=hkr
 refine Z1 ?_;refine Z5 ?_;refine Zi rfl (fun h23=>?_) (fun h23=>?_)
 ·have hk1:k<s.l.length:=by simpa using h23
  have hg:=List.getElem?_eq_getElem hk1;generalize s.l[k]=n at hg;rw [Zk7 hg] at hR;have hpl:PlOk ks.length n:=hkl ▸ Zs6 hdep hg;refine Z1f (zi hg @Z4a) ?_;intro g9;refine Z1f @Zko ?_;rw [← Z4a];refine Zta hG [.agg (knC (Zb c1.ent 1 V.str names)),Zva n,Zb .old 1 (V.int .u8) (Zm ks)] zk ⟨?_,?_,?_,trivial⟩ ?_
  ·refine Z3a (Im.knC (Im.strs _ _)) ?_
   show (V.agg (knC _)).recol _=_
   rw [Zkc,Zp3];simp -implicitDefEqProofs only[go_sem,seval]
  ·exact Z3a (Im.xn n) (Z3h _ _)
  ·exact Zis (g:=gx) (f:=V.int .u8) (f':=V.int .u8) zp Zqk (fun x y hy=>by simp [V.cells] at hy;subst hy;exact .int _ _) (fun _=>rfl)
  refine (Znz G hG _ _ names hnl n (Zm ks) (by rw [Zp];exact hpl) (by rw [Zp];omega) (by rw [Zp];exact hkr)).mono ?_;rintro _ _ rfl;refine ⟨.int _ _,?_⟩;rw [Zp];have hkd:=fun h=>Zt3 (op:=n.op) (nm:=names.l.contains n.name) (a:=plc ks n.a) (c:=plc ks n.c) (Zy2 hkr n.b) h;have hkn:Z6f names.l n ks=kd n.op (names.l.contains n.name) (plc ks n.a) (plc ks n.b) (plc ks n.c):=rfl;rw [← hkn] at hkd;generalize Z6f names.l n ks=v at hR hkd ⊢;refine Zs ?_;refine Z1 ?_
  by_cases hv:v=0
  ·have q2:(v==0)=true:=by simpa using hv
   rw [if_pos hv] at hR;refine Zi rfl (fun h32=>?_) (fun h32=>?_)
   ·refine Z ?_
    rw [hR]<;>rfl
   ·rw [q2] at h32;cases h32
  have q2:(v==0)=false:=by simpa using hv
  rw [if_neg hv] at hR;refine Zi rfl (fun h32=>?_) (fun h32=>?_)
  ·rw [q2] at h32;cases h32
  refine Z1 ?_;intro g36;refine Zma (f:=V.int .u8) (l:=ks) (l2:=[v]) (g:=gx) Zqk rfl rfl rfl zp (Zaa (by omega) (by simp;omega)) fun g2=>?_;refine Zs ?_;refine Z1 ?_;refine hL3 _ ⟨hk1,(g2,ks++[v]),⟨hR,by rw [List.length_append,hkl]<;>rfl,?_⟩,Za zw zp⟩;intro y hy
  rcases List.mem_append.1 hy with h | h
  ·exact hkr y h
  ·rw [List.mem_singleton.1 h];exact hkd hv
 ·have hk1:k=s.l.length:=by simp at h23;omega
  refine Z0 ?_;rw [hk1,List.drop_length] at hR;refine AW.weak (Zv (fun o=>o==37) (l:=[(4,encKs .new ks)]) (m:=[]) ?_ trivial) ?_
  ·refine Zs ?_
   exact Z0a rfl rfl Zqk
  refine Z ?_
  rw [hR]<;>rfl
theorem Z53 {names:List (List UInt8)}:∀ (l:List XN) (i:Int) (acc:List Int),(goN names l i acc).2.2=0→(goN names l i acc).1.length=acc.length+l.length
 | [],i,acc,_=>rfl
 | n::r,i,acc,h=>by
  rw [goN] at h ⊢
  split
  ·rename_i h1
   rw [if_pos h1] at h;cases h
  ·rename_i h1
   rw [if_neg h1] at h;have:=Z53 r (i+1) (acc++[Z6f names n acc]) h;rw [this];simp;omega
theorem Zoq {names:List (List UInt8)} {l:List XN} (h:(Zpb names l).2.2=0):(Zpb names l).1.length=l.length∧0<l.length:=by
 unfold Zpb at h ⊢
 by_cases hc:Zec l=0
 ·rw [if_neg (by simpa using hc)] at h ⊢
  refine ⟨by have:=Z53 l 0 [] h;simpa using this,?_⟩
  cases l with
  | nil=>exact absurd hc (by decide)
  | cons=>simp
 ·rw [if_pos hc] at h
  exact absurd h hc
def Zmi (names:List (List UInt8)) (l:List XN):Int × Int × Int:=if (Zpb names l).2.2≠0 then (0,(Zpb names l).2.1,(Zpb names l).2.2) else ((Zpb names l).1.getD ((Zpb names l).1.length-1) 0,0,0)
def encO3 (p:Int × Int × Int):V := .tuple [.int .u8 p.1,.int .i64 p.2.1,.int .i64 p.2.2]
theorem Zgy (g:Col→Col) (c:Col) (s:Sl Int):(Zb c 1 (V.int .u8) s).recol g=Zb (g c) 1 (V.int .u8) s:=Z7c g c 1 (fun _=>rfl) s
theorem Z7x (G:Nat→V) (hE:GExp G) (c c1:Col) (s:Sl XN) (names:Sl (List UInt8)) (hs:s.l.length<1000000) (hnm:∀ n∈s.l,n.name.length<100000) (hnl:names.l.length<1000000) :
  Spec Tryz.prog G 217 [.agg [Zb c 6 Zva s],Zb c1 1 V.str names] Zl (fun v _=>v=encO3 (Zmi names.l s.l)):=by
 have hG:=hE.ok;refine Zo 0 25 [.tmp 4,.tmp 5,.tmp 6] Tryz.func217 fun X=>?_
 have hP:Zmi names.l s.l=if (Zpb names.l s.l).2.2≠0 then (0,(Zpb names.l s.l).2.1,(Zpb names.l s.l).2.2) else ((Zpb names.l s.l).1.getD ((Zpb names.l s.l).1.length-1) 0,0,0):=rfl
 have hKi:=fun c c1=>Zuv G hE c c1 s names hs hnm hnl;have hL:=Zoq (names:=names.l) (l:=s.l);generalize Zmi names.l s.l=res at hP ⊢;generalize Zpb names.l s.l=p at hP hKi hL;obtain ⟨ks,i,e⟩:=p;simp only at hP hL;refine Z1 ?_;intro g2;refine Z1 ?_;refine Znf @Zfa hG ?_ (s:=(hKi _ _));refine Zsf (zi @encKr.eq_1 (zi @encKs.eq_1 @Zgy)) ?_;refine Z1 ?_
 by_cases he:e=0
 rotate_left
 ·have q1:(e != 0)=true:=by simpa using he
  rw [if_pos he] at hP;refine Zi rfl (fun h16=>?_) (fun h16=>?_)
  ·refine Z ?_
   rw [hP]<;>rfl
  ·rw [q1] at h16;cases h16
 have q1:(e != 0)=false:=by simpa using he
 rw [if_neg (by simpa using he)] at hP;obtain ⟨hl1,hl2⟩:=hL he;refine Zi rfl (fun h16=>?_) (fun h16=>?_)
 ·rw [q1] at h16;cases h16
 refine Z0 ?_;obtain ⟨m,hm⟩:∃ m:Nat,ks.length=m+1:=⟨ks.length-1,by omega⟩
 have hw:IntKind.i64.wrap ((ks.length:Int)-1)=(m:Int):=by rw [w64 (by omega) (by omega)];omega
 obtain ⟨v,hv⟩:∃ v,ks[m]? = some v:=⟨_,List.getElem?_eq_getElem (by omega)⟩
 have hgd:ks.getD (ks.length-1) 0=v:=by rw [show ks.length-1=m by omega,List.getD_eq_getElem?_getD,hv]<;>rfl
 rw [hgd] at hP;refine Zf (zi hw hv) ?_
 rw [hP]<;>rfl
def tr1:XN:=⟨3,0,[],-1,-1,-1⟩
def Zme (s:List UInt8) (names:List (List UInt8)):List XN × Int × Int :=
 if (Zka s).2.2=0∧(Zka s).1.length=0 then ([tr1],0,0)
 else if (Zed s).2.2≠0 then ([],(Zed s).2.1,(Zed s).2.2)
 else if (Zmi names (Zed s).1).2.2≠0∨(Zmi names (Zed s).1).1≠2 then ([],0,90) else ((Zed s).1,0,0)
theorem Ziu {s:List UInt8} (hs:s.length<100000):(Zed s).1.length<100000∧∀ n∈(Zed s).1,n.name.length<100000:=by
 have hT:=Z7k hs;have hnm:=Z3g hT;have hok:=((Z3b (Zka s).1 ((Zka s).1.length+1) 1 ⟨0,[],0⟩).ok ⟨Nat.zero_le _,Nat.le_refl _⟩)
 have hfr:(Z5a (Zka s).1).1.length<100000∧∀ n∈(Z5a (Zka s).1).1,n.name.length<100000:=by
  unfold Z5a
  split
  ·exact ⟨Nat.zero_lt_succ _,fun n hn=>by cases hn⟩
  ·split
   ·exact ⟨Nat.zero_lt_succ _,fun n hn=>by cases hn⟩
   ·have:=hok.1;have:=hok.2;have:=hT.len
    exact ⟨by show (Z8 _ _ _ _).2.nodes.length<_;omega,hnm⟩
 unfold Zed
 split
 ·exact ⟨Nat.zero_lt_succ _,fun n hn=>by cases hn⟩
 split
 ·exact ⟨Nat.zero_lt_succ _,fun n hn=>by cases hn⟩
 split
 ·exact hfr
 ·exact ⟨Nat.zero_lt_succ _,fun n hn=>by cases hn⟩
theorem Zvv (G:Nat→V) (hE:GExp G) (c1:Col) (s:List UInt8) (names:Sl (List UInt8)) (hs:s.length<100000) (hnl:names.l.length<1000000) :
  Spec Tryz.prog G 171 [.str s,Zb c1 1 V.str names] Zl (fun v _=>v=encFr .new (Zme s names.l)):=by
 have hG:=hE.ok;refine Zo 0 55 [.cell 4 197,.tmp 5,.tmp 6] Tryz.func171 fun X=>?_
 have hP:Zme s names.l=if (Zka s).2.2=0∧(Zka s).1.length=0 then ([tr1],0,0)
  else if (Zed s).2.2≠0 then ([],(Zed s).2.1,(Zed s).2.2)
  else if (Zmi names.l (Zed s).1).2.2≠0∨(Zmi names.l (Zed s).1).1≠2 then ([],0,90) else ((Zed s).1,0,0):=rfl
 generalize Zme s names.l=res at hP ⊢;have hl:=Zfe G hE s hs;have hx:=Zhv G hE s hs;have hb:=Ziu hs;have ho:=fun c c1=>Z7x G hE c c1 (Zm (Zed s).1) names (by rw [Zp];omega) (by rw [Zp];exact hb.2) hnl;simp only [Zp] at ho;generalize Zka s=t at hP hl;generalize Zed s=p at hP hx ho;obtain ⟨l,at0,e0⟩:=t;obtain ⟨ns,i,e⟩:=p;simp only at hP ho;generalize Zmi names.l ns=o at hP ho;obtain ⟨k,j,e2⟩:=o;simp only at hP;refine Z1 ?_;intro g4;refine Zia (fun (_:Unit)=>st [(0,.str s),(1,Zb c1 1 V.str names),(4,.ptr 4 g4 0)] [(4,.cells .new g4 0 [.nils])]) (fun _=>¬ (e0=0∧l.length=0)) (fun K1 hK1=>?_) ?_
 ·refine Z1 ?_
  refine Zn hG ?_ (s:=hl);refine Zsf (zi @encTok.eq_1 (zi @encTks.eq_1 @Zsa)) ?_
  by_cases h01:e0=0
  rotate_left
  ·have q1:(e0==0)=false:=by simpa using h01
   refine Z1f q1 ?_;refine Z0 ?_;exact hK1 _ () (fun h=>h01 h.1) (Za zp zp)
  have q1:(e0==0)=true:=by simpa using h01
  by_cases h02:l.length=0
  ·rw [if_pos ⟨h01,h02⟩] at hP
   have q2:(((l.length:Nat):Int)==0)=true:=by simp [h02]
   refine Z1f (zi q1 q2) ?_;refine Zi rfl (fun h25=>?_) (fun h25=>?_)
   ·refine Z1 ?_
    intro g27;refine AW.weak (Zv (fun o=>o==27) (l:=[(4,.ptr 4 g4 0),(5,.int .i64 0),(6,.int .i64 0)]) (m:=[(4,.cells .new g4 0 [encXs .new [tr1]])]) ?_ ?_) ?_
    ·refine Zs ?_
     first | exact ⟨Zd _,Zd _,Zd _⟩ | exact ⟨Zd _,Zd _⟩
    ·simp only [Zx,Zz,and_true]
     exact FzO.of (c := .new) (fz:=0) (cs:=[.msl 27 g27 0 1 6]) rfl zp ⟨Zxd (f:=Zva) (l:=[tr1]) (m:=6) (g:=g27) (fz:=0) (c := .new) rfl zp Z6d,trivial⟩
    refine Z ?_
    rw [hP]<;>rfl
   ·cases h25
  have q2:(((l.length:Nat):Int)==0)=false:=by rw [beq_eq_false_iff_ne];omega
  refine Z1f (zi q1 q2) ?_;refine Z0 ?_;exact hK1 _ () (fun h=>h02 h.2) (Za zp zp)
 rintro _ h0;rw [if_neg h0] at hP;refine Z1 ?_;refine Zn hG ?_ (s:=hx);refine Zsf (zi @encFr.eq_1 (zi @encXs.eq_1 @Zfa)) ?_;refine Z1 ?_
 by_cases he:e=0
 rotate_left
 ·have q1:(e != 0)=true:=by simpa using he
  rw [if_pos he] at hP;refine Zi rfl (fun h36=>?_) (fun h36=>?_)
  ·refine Z ?_
   rw [hP]<;>rfl
  ·rw [q1] at h36;cases h36
 have q1:(e != 0)=false:=by simpa using he
 rw [if_neg (by simpa using he)] at hP;refine Zi rfl (fun h36=>?_) (fun h36=>?_)
 ·rw [q1] at h36;cases h36
 refine Z1 ?_;refine Znf @Zfa hG ?_ (s:=(ho _ _));refine Zsf @encO3.eq_1 ?_
 by_cases h2:e2=0
 rotate_left
 ·have q2:(e2 != 0)=true:=by simpa using h2
  rw [if_pos (.inl h2)] at hP;refine Z1f q2 ?_;refine Zi rfl (fun h52=>?_) (fun h52=>?_)
  ·refine Z ?_
   rw [hP]<;>rfl
  ·cases h52
 have q2:(e2 != 0)=false:=by simpa using h2
 by_cases hk:k=2
 rotate_left
 ·have q3:(k != 2)=true:=by simpa using hk
  rw [if_pos (.inr hk)] at hP;refine Z1f (zi q2 q3) ?_;refine Zi rfl (fun h52=>?_) (fun h52=>?_)
  ·refine Z ?_
   rw [hP]<;>rfl
  ·cases h52
 have q3:(k != 2)=false:=by simpa using hk
 rw [if_neg (by rintro (h | h);exact h h2;exact h hk)] at hP;refine Zf (zi q2 q3) ?_
 rw [hP]<;>rfl
structure AM where
 kind:Int
 name:List UInt8
 x:Sl XN
def AM.v (s:AM):ASt:=⟨s.kind,s.name,s.x.l⟩
def Zod (c:Col) (s:AM):V := .agg [.int .u8 s.kind,.str s.name,Zb c 6 Zva s.x]
theorem Zfd (c:Col) (s:AM):Zod c s = .agg [.int .u8 s.kind,.str s.name,Zb c 6 Zva s.x]:=rfl
theorem Zmr (f:Col→Col) (c:Col) (s:AM):(Zod c s).recol f=Zod (f c) s:=by simp only [Zfd,Zkc,List.map_cons,List.map_nil,Zjc,Zwc,Zfa]
@[go_sem] theorem Z6j (g:Col→Col) (c c1:Col) (s:Sl AM):(Zb c 3 (Zod c1) s).recol g=Zb (g c) 3 (Zod (g c1)) s:=Z7c g c 3 (Zmr g c1) s
def Zri (s:ASt):Bool:=(s.kind==1 || s.kind==2) && isP s.name==2 && ((s.kind==2 && s.x.isEmpty) || Zec s.x==0)
def Zyd (l:List ASt):Int:=if l.length > 512 then 2 else if l.all Zri=true then 0 else 2
structure AmOk (l:List AM):Prop where
 len:l.length<1000000
 row:∀ a∈l,a.name.length<100000∧a.x.l.length<1000000∧∀ n∈a.x.l,n.name.length<100000
theorem Zy7 {l:List AM} {k:Nat} {a:AM} (h:l[k]? = some a) (h1:(l.take k).all (fun a=>Zri a.v)=true) (h2:Zri a.v=true):(l.take (k+1)).all (fun a=>Zri a.v)=true:=by
 rw [List.take_add_one,h,List.all_append,h1];simpa using h2
theorem all_bad {l:List AM} {k:Nat} {a:AM} (h:l[k]? = some a) (h2:Zri a.v=false):(l.map AM.v).all Zri=false:=by
 rw [Bool.eq_false_iff];intro h3;rw [List.all_eq_true] at h3;have:=h3 a.v (List.mem_map_of_mem (List.mem_of_getElem? h));rw [h2] at this;cases this
theorem Zix (G:Nat→V) (hG:GOk G) (c c1:Col) (s:Sl AM) (hA:AmOk s.l) :
  Spec Tryz.prog G 243 [Zb c 3 (Zod c1) s] Zl (fun v _=>v = .int .i64 (Zyd (s.l.map AM.v))):=by
 have hs:=hA.len;refine Zo 0 47 [.tmp 2] Tryz.func243 fun X=>?_
 have hP:Zyd (s.l.map AM.v)=if s.l.length > 512 then 2 else if (s.l.map AM.v).all Zri=true then 0 else 2:=by unfold Zyd;rw [List.length_map]
 generalize Zyd (s.l.map AM.v)=res at hP ⊢;refine Z1 ?_;refine Z5 ?_
 by_cases hl:s.l.length > 512
 ·rw [if_pos hl] at hP
  have q1:decide ((s.l.length:Int) > 512)=true:=zT;refine Zf q1 ?_;rw [hP]
 rw [if_neg hl] at hP;have q1:decide ((s.l.length:Int) > 512)=false:=zF;refine Z1f q1 ?_;refine Z1 ?_;refine AW.block ?_
 refine Zda s.l.length (fun k (_:Unit)=>st [(0,Zb c 3 (Zod c1) s),(3,.int .i64 k)] []) (fun k _=>(s.l.take k).all (fun a=>Zri a.v)=true) 0 () (Nat.zero_le _) rfl
  (Za zp zp) ?_
 intro k _ hk hR L3 hL3;refine Z1 ?_;refine Zi rfl (fun h11=>?_) (fun h11=>?_);rotate_left
 ·have hk1:k=s.l.length:=by have:=zN h11;omega
  refine Z0 ?_;rw [hk1,List.take_length] at hR;rw [if_pos (by rw [List.all_map];exact hR)] at hP;refine Z ?_;rw [hP]
 have hk1:k<s.l.length:=zL h11;have hg:=List.getElem?_eq_getElem hk1;obtain ⟨r1,r2,r3⟩:=hA.row _ (List.getElem_mem hk1);generalize s.l[k]=a at hg r1 r2 r3;have hbad:=fun h=>if_neg (c:=((s.l.map AM.v).all Zri=true)) (by rw [all_bad hg h];decide) ▸ hP;refine Z0 ?_;refine Zia (fun (_:Unit)=>st [(0,Zb c 3 (Zod c1) s),(3,.int .i64 k)] []) (fun _=>Zri a.v=true) (fun K5 hK5=>?_) ?_;rotate_left
 ·intro _ hab
  refine Z1 ?_;exact hL3 _ ⟨hk1,(),Zy7 hg hR hab,Za zw zp⟩
 refine Z1f (zi hg @Zfd) ?_;intro g4;refine Zia (fun (_:Unit)=>st [(0,Zb c 3 (Zod c1) s),(3,.int .i64 k),(4,.ptr 4 g4 0)] [(4,.cells .new g4 0 [.int .u8 a.kind,.str a.name,Zb c1 6 Zva a.x])]) (fun _=>(a.kind=1∨a.kind=2)∧isP a.name=2) (fun K6 hK6=>?_) ?_
 ·by_cases hk12:a.kind=1∨a.kind=2
  rotate_left
  ·have q2:(a.kind==1)=false:=by rw [beq_eq_false_iff_ne];exact fun h=>hk12 (.inl h)
   have q3:(a.kind==2)=false:=by rw [beq_eq_false_iff_ne];exact fun h=>hk12 (.inr h)
   refine Zdc zk ?_;simp -implicitDefEqProofs only[go_sem,seval,bne,q2,q3];refine Z ?_;rw [hbad (by unfold Zri AM.v;rw [show ((a.kind==1)=false) from q2,show ((a.kind==2)=false) from q3]<;>rfl)]
  by_cases hi:isP a.name=2
  rotate_left
  ·have q4:((isP a.name:Int)==2)=false:=by rw [beq_eq_false_iff_ne];omega
   have q5:(isP a.name==2)=false:=by simpa using hi
   rcases hk12 with e1 | e1
   ·have q2:(a.kind==1)=true:=by simpa using e1
    refine Zdc zk ?_;simp -implicitDefEqProofs only[go_sem,seval,bne,q2];refine Zn hG ?_ (s:=(Zqg G hG a.name (by omega)));simp -implicitDefEqProofs only[go_sem,seval,bne,q4];refine Z ?_;rw [hbad (by unfold Zri AM.v;simp only [q5,Bool.and_false,Bool.false_and])]
   ·have q2:(a.kind==1)=false:=by rw [beq_eq_false_iff_ne];omega
    have q3:(a.kind==2)=true:=by simpa using e1
    refine Zdc zk ?_;simp -implicitDefEqProofs only[go_sem,seval,bne,q2,q3];refine Zn hG ?_ (s:=(Zqg G hG a.name (by omega)));simp -implicitDefEqProofs only[go_sem,seval,bne,q4];refine Z ?_;rw [hbad (by unfold Zri AM.v;simp only [q5,Bool.and_false,Bool.false_and])]
  have q4:((isP a.name:Int)==2)=true:=by rw [beq_iff_eq];omega
  rcases hk12 with e1 | e1
  ·have q2:(a.kind==1)=true:=by simpa using e1
   refine Zdc zk ?_;simp -implicitDefEqProofs only[go_sem,seval,bne,q2];refine Zn hG ?_ (s:=(Zqg G hG a.name (by omega)));simp -implicitDefEqProofs only[go_sem,seval,bne,q4];refine Z0 ?_;exact hK6 _ () ⟨.inl e1,hi⟩ (Za zp zp)
  ·have q2:(a.kind==1)=false:=by rw [beq_eq_false_iff_ne];omega
   have q3:(a.kind==2)=true:=by simpa using e1
   refine Zdc zk ?_;simp -implicitDefEqProofs only[go_sem,seval,bne,q2,q3];refine Zn hG ?_ (s:=(Zqg G hG a.name (by omega)));simp -implicitDefEqProofs only[go_sem,seval,bne,q4];refine Z0 ?_;exact hK6 _ () ⟨.inr e1,hi⟩ (Za zp zp)
 rintro _ ⟨hk12,hi⟩
 have q5:(isP a.name==2)=true:=by simpa using hi
 have q6:(a.kind==1 || a.kind==2)=true:=by simpa using hk12
 have hst:Zri a.v=((a.kind==2 && a.x.l.isEmpty) || Zec a.x.l==0):=by
  unfold Zri AM.v;simp only [q5,q6,Bool.true_and]
 by_cases hbare:a.kind=2∧a.x.l.length=0
 ·have q2:(a.kind==1)=false:=by rw [beq_eq_false_iff_ne];omega
  have q3:(a.kind==2)=true:=by simpa using hbare.1
  have q7:decide ((a.x.l.length:Int) > 0)=false:=zF;refine Z1f (zi q2 q7) ?_;refine Z0 ?_;exact hK5 _ () (by rw [hst,q3,List.isEmpty_iff_length_eq_zero.2 hbare.2]<;>rfl) (Za zp zp)
 have hst2:Zri a.v=(Zec a.x.l==0):=by
  rw [hst]
  have:(a.kind==2 && a.x.l.isEmpty)=false:=by
   rw [Bool.eq_false_iff];intro h;rw [Bool.and_eq_true] at h;exact hbare ⟨by simpa using h.1,List.isEmpty_iff_length_eq_zero.1 h.2⟩
  rw [this,Bool.false_or]
 have hck:=fun c=>Z5n G hG c a.x r2 r3;generalize Zec a.x.l=ck at hst2 hck;refine Zia (fun (b:Bool)=>st [(0,Zb c 3 (Zod c1) s),(3,.int .i64 k),(46,.bool b)] []) (fun b=>b = !(ck==0)) (fun K7 hK7=>?_) ?_
 ·refine AW.region zk ?_
  by_cases e1:a.kind=1
  ·have q2:(a.kind==1)=true:=by simpa using e1
   simp -implicitDefEqProofs only[go_sem,seval,q2,bne];refine Znf @Zfa hG ?_ (s:=(hck _));simp -implicitDefEqProofs only[go_sem,seval,q2,bne];exact hK7 _ _ rfl (Za zp zp)
  ·have q2:(a.kind==1)=false:=by simpa using e1
   have q7:decide ((a.x.l.length:Int) > 0)=true:=zT;simp -implicitDefEqProofs only[go_sem,seval,q2,q7,bne];refine Znf @Zfa hG ?_ (s:=(hck _));simp -implicitDefEqProofs only[go_sem,seval,q2,q7,bne];exact hK7 _ _ rfl (Za zp zp)
 rintro b rfl
 cases hck0:(ck==0) with
 | false =>
  refine Z ?_;rw [hbad (by rw [hst2,hck0])]
 | true =>
  refine Z0 ?_;exact hK5 _ () (by rw [hst2,hck0]) (Za zp zp)
theorem Zfx (G:Nat→V) (hE:GExp G) (c:Col) (a:AM) (r1:a.name.length<100000) (r2:a.x.l.length<1000000) (r3:∀ n∈a.x.l,n.name.length<100000) :
  Spec Tryz.prog G 289 [Zod c a] Zl (fun v _=>v = .bool (Zri a.v)):=by
 have hG:=hE.ok;refine Zo 0 37 [.tmp 2] Tryz.func289 fun X=>?_;have hst:Zri a.v=((a.kind==1 || a.kind==2) && isP a.name==2 && ((a.kind==2 && a.x.l.isEmpty) || Zec a.x.l==0)):=rfl;generalize Zri a.v=res at hst ⊢
 have hem:a.x.l.isEmpty=((a.x.l.length:Int)==0):=by
  rw [Bool.eq_iff_iff,List.isEmpty_iff_length_eq_zero,beq_iff_eq];omega
 have hip:(isP a.name==2)=((isP a.name:Int)==2):=by
  rw [Bool.eq_iff_iff,beq_iff_eq,beq_iff_eq];omega
 rw [hem,hip] at hst;simp only [Zfd];refine Z1 ?_;intro g1;refine Zia (fun (_:Unit)=>st [(1,.ptr 1 g1 0),(3,.bool (a.kind==2 && ((a.x.l.length:Int)==0)))] [(1,.cells .new g1 0 [.int .u8 a.kind,.str a.name,Zb c 6 Zva a.x])]) (fun _=>True) (fun K1 hK1=>?_) ?_
 ·refine AW.region zk ?_
  cases q3:(a.kind==2) with
  | false =>
   rw [q3] at hK1;refine Zsf q3 ?_;exact hK1 _ () trivial (Za zp zp)
  | true =>
   rw [q3] at hK1;refine Zsf q3 ?_;exact hK1 _ () trivial (Za zp zp)
 intro _ _;refine Zia (fun (_:Unit)=>st [(2,.bool res)] []) (fun _=>True) (fun K2 hK2=>?_) ?_;rotate_left
 ·intro _ _
  exact Zr
 refine AW.region zk ?_
 cases q2:(a.kind==1) with
 | true =>
  have q3:(a.kind==2)=false:=by
   rw [beq_iff_eq] at q2;rw [beq_eq_false_iff_ne,q2];decide
  rw [q3];refine Zsf q2 ?_;refine Zn hG ?_ (s:=(Zyf G hE a.name (by omega)))
  cases q4:((isP a.name:Int)==2) with
  | false =>
   refine Zsf q4 ?_;refine hK2 _ () trivial (Za (by rw [hst,q2,q3,q4];simp -implicitDefEqProofs only[go_sem,seval];try rfl) zp)
  | true =>
   refine Zsf q4 ?_;refine Zcf @Zfa hG ?_ (s:=(Z1i G hE _ a.x r2 r3));refine hK2 _ () trivial (Za (by rw [hst,q2,q3,q4];simp -implicitDefEqProofs only[go_sem,seval];try rfl) zp)
 | false =>
 cases q3:(a.kind==2) with
 | false =>
  refine Zsf (zi q2 q3) ?_;refine hK2 _ () trivial (Za (by rw [hst,q2,q3];simp -implicitDefEqProofs only[go_sem,seval];try rfl) zp)
 | true =>
 refine Zsf (zi q2 q3) ?_;refine Zn hG ?_ (s:=(Zyf G hE a.name (by omega)))
 cases q4:((isP a.name:Int)==2) with
 | false =>
  refine Zsf q4 ?_;refine hK2 _ () trivial (Za (by rw [hst,q2,q3,q4];simp -implicitDefEqProofs only[go_sem,seval];try rfl) zp)
 | true =>
 cases q5:((a.x.l.length:Int)==0) with
 | true =>
  refine Zsf (zi q4 q5) ?_;refine hK2 _ () trivial (Za (by rw [hst,q2,q3,q4,q5];simp -implicitDefEqProofs only[go_sem,seval];try rfl) zp)
 | false =>
  refine Zsf (zi q4 q5) ?_;refine Zcf @Zfa hG ?_ (s:=(Z1i G hE _ a.x r2 r3));refine hK2 _ () trivial (Za (by rw [hst,q2,q3,q4,q5];simp -implicitDefEqProofs only[go_sem,seval];try rfl) zp)
structure AmB (a:AM):Prop where
 n:a.name.length<100000
 l:a.x.l.length<1000000
 x:∀ n∈a.x.l,n.name.length<100000
theorem Z3u (G:Nat→V) (hE:GExp G) (c:Col) (a:AM) (hb:AmB a) :
  Spec Tryz.prog G 288 [Zod c a] Zl (fun v _=>v = .bool (!Zri a.v)):=by
 have hG:=hE.ok;refine Zo 0 6 [.tmp 2] Tryz.func288 fun X=>?_;simp only [Zfd];refine Z1 ?_;intro g1;refine Z1 ?_;refine CallA.pure hG zk ?_;simp only [List.map_cons,List.map_nil,← Zfd,Zmr];refine (Zfx G hE _ a hb.n hb.l hb.x).mono ?_;rintro _ _ rfl;refine Zs ?_;exact Zr
theorem Zhx (G:Nat→V) (hE:GExp G) (c c1:Col) (s:Sl AM) (hs:s.l.length<1000000) (hb:∀ a∈s.l,AmB a) :
  Spec Tryz.prog G 308 [Zb c 3 (Zod c1) s,.func (.func 288) [] []] Zl (fun v _=>v = .int .i64 (Zps (fun a:AM => !Zri a.v) s.l)):=by
 have hG:=hE.ok;refine Zo 0 19 [.tmp 4] Tryz.func308 fun X=>?_;refine Z1 ?_;refine Z1 ?_;refine AW.block ?_
 refine Zda s.l.length (fun k (_:Unit)=>st [(0,Zb c 3 (Zod c1) s),(1,.func (.func 288) [] []),(7,.int .i64 s.l.length),(8,.int .i64 k)] []) (fun k _=>∀ y∈s.l.take k,(!Zri y.v)=false) 0 () (Nat.zero_le _) (by simp)
  (Za zp zp) ?_
 intro k _ hk hR L2 hL2;refine Z1 ?_;refine Z5 ?_;refine Zi rfl (fun h4=>?_) (fun h4=>?_)
 ·have hk1:k<s.l.length:=by simpa using h4
  have hg:=List.getElem?_eq_getElem hk1;have hbx:=hb _ (List.getElem_mem hk1);generalize s.l[k]=x at hg hbx;refine Z1 ?_;refine Z1f (zi hg @Zfd) ?_;refine CallA.pure hG zk ?_;simp only [List.map_cons,List.map_nil,← Zfd,Zmr];refine (Z3u G hE _ x hbx).mono ?_;rintro _ _ rfl;refine Zs ?_;refine Zi rfl (fun h6=>?_) (fun h6=>?_)
  ·refine Z ?_
   rw [Zbf (p:=fun a:AM => !Zri a.v) hg hR h6]
  ·refine Z1 ?_
   refine hL2 _ ⟨hk1,(),Zae hg hR h6,Za zw zp⟩
 ·have hk1:k=s.l.length:=by simp at h4;omega
  refine Z ?_;rw [hk1,List.take_length] at hR;rw [Zdf (p:=fun a:AM => !Zri a.v) hR]
theorem idxP_ge {α : Type} (p : α → Bool) (l:List α):decide (Zps p l≥0)=l.any p:=by
 unfold Zps
 cases h:l.findIdx? p with
 | none =>
  rw [List.findIdx?_eq_none_iff] at h
  have:l.any p=false:=by rw [List.any_eq_false];intro x hx;simp [h x hx]
  rw [this]<;>rfl
 | some i =>
  have:l.any p=true:=by
   rw [List.any_eq_true];obtain ⟨hi,hp,_⟩:=List.findIdx?_eq_some_iff_getElem.1 h;exact ⟨_,List.getElem_mem hi,hp⟩
  rw [this,decide_eq_true_iff];exact Int.natCast_nonneg _
theorem Ztp (G:Nat→V) (hE:GExp G) (c c1:Col) (s:Sl AM) (hs:s.l.length<1000000) (hb:∀ a∈s.l,AmB a) :
  Spec Tryz.prog G 287 [Zb c 3 (Zod c1) s,.func (.func 288) [] []] Zl (fun v _=>v = .bool (s.l.any (fun a:AM => !Zri a.v))):=by
 have hG:=hE.ok;refine Zo 0 9 [.tmp 4] Tryz.func287 fun X=>?_;refine Z1 ?_;refine Z1 ?_;refine Zcf @Z6j hG ?_ (s:=(Zhx G hE _ _ s hs hb));refine Z ?_;rw [idxP_ge]
theorem Z7w (G:Nat→V) (hE:GExp G) (c c1:Col) (s:Sl AM) (hs:s.l.length<1000000) (hb:∀ a∈s.l,AmB a) :
  Spec Tryz.prog G 262 [.agg [Zb c 3 (Zod c1) s]] Zl (fun v _=>v = .int .i64 (Zyd (s.l.map AM.v))):=by
 have hG:=hE.ok;refine Zo 0 12 [.tmp 2] Tryz.func262 fun X=>?_
 have hP:Zyd (s.l.map AM.v)=if s.l.length > 512 then 2 else if (s.l.map AM.v).all Zri=true then 0 else 2:=by unfold Zyd;rw [List.length_map]
 generalize Zyd (s.l.map AM.v)=res at hP ⊢
 have hall:s.l.any (fun a:AM => !Zri a.v) = !(s.l.map AM.v).all Zri:=by
  rw [List.all_map,List.not_all_eq_any_not]<;>rfl
 refine Z1 ?_;intro g1;refine Z5 ?_
 by_cases hl:s.l.length > 512
 ·rw [if_pos hl] at hP
  have q1:decide ((s.l.length:Int) > 512)=true:=zT;refine Zf q1 ?_;rw [hP]
 rw [if_neg hl] at hP;have q1:decide ((s.l.length:Int) > 512)=false:=zF;refine Z1f q1 ?_;refine Znf @Z6j hG ?_ (s:=(Ztp G hE _ _ s hs hb));refine Zsf q1 ?_;rw [hall]
 cases hok:(s.l.map AM.v).all Zri with
 | true =>
  rw [if_pos hok] at hP;refine Z ?_;rw [hP]
 | false =>
  rw [if_neg (by rw [hok];decide)] at hP;refine Z ?_;rw [hP]
end Go.Hs
end

section
namespace Go.Hs
inductive Lx:List UInt8→List (List UInt8)→Prop where
 | nil {s:List UInt8}:blk s=s.length→Lx s []
 | cons {s:List UInt8} {ws:List (List UInt8)} {k:Nat}:blk s<s.length→(Zya (s.drop (blk s))).1=k→0<k→k≤64→Lx ((s.drop (blk s)).drop k) ws→Lx s ((s.drop (blk s)).take k::ws)
theorem Lx.ahead {s:List UInt8} {ws:List (List UInt8)} (h:Lx s ws):Lx (40::s) ([40]::ws):=by
 have hp:Zpa [45,45] (40::s)=false:=by
  cases s<;>rfl
 have hb:blk (40::s)=0:=Zwu (by decide) hp
 have hf:(Zya (40::s)).1=1:=by
  rw [Zzg (by decide) hp]
  cases s with
  | nil=>rfl
  | cons d r =>
   rw [Z1j]
   have:sg2.contains [40,d]=false:=by simp [sg2]
   rw [this];rfl
 have:=Lx.cons (s:=40::s) (ws:=ws) (k:=1) (by rw [hb];simp) (by rw [hb];exact hf) (by decide) (by decide) (by rw [hb];exact h);rw [hb] at this;exact this
def parW (b:Bool) (ts:List (List UInt8)):List (List UInt8):=if b then [40]::(ts++[[41]]) else ts
def X.W:X→Int→List (List UInt8)
 | .leaf op num name,_=>[if op=1 then putR num else if op=2 then name else sgT op.toNat]
 | .un op a,k=>parW (9<k) (sgT op.toNat::a.W 9)
 | .bin op a b,k=>parW (lvl op.toNat<k) (a.W (lvl op.toNat)++sgT op.toNat::b.W (lvl op.toNat+1))
 | .ite a b c,_=>wIf::(a.W 0++Ztj::(b.W 0++Zuj::(c.W 0++[Z1e])))
def ErrS (x:Bool × RS):Prop:=x.1=false→x.2.e≠0
theorem ErrS.then {x:Bool × RS} {k:RS→Bool × RS} (h1:ErrS x) (h2:x.1=true→ErrS (k x.2)):ErrS (andThen x k):=by
 obtain ⟨b,r⟩:=x;cases b
 ·exact h1
 ·exact h2 rfl
theorem ErrS.ok {x:RS}:ErrS (true,x):=fun h=>by cases h
theorem Gr.size {n:Int} {ts:List (List UInt8)} {x:X} (h:Gr n ts x):x.size≤ts.length:=by
 induction h<;>simp only [X.size,List.length_cons,List.length_append,List.length_nil]<;>omega
inductive GB:List (List UInt8)→List ASt→Prop where
 | nil:GB [] []
 | asg {nm:List UInt8} {ts r:List (List UInt8)} {x:X} {b:List ASt}:isP nm=2→Gr 1 ts x→x.depth≤64→GB r b→GB (nm::[58,61]::(ts++[59]::r)) (⟨1,nm,x.row 0⟩::b)
 | bare {nm:List UInt8} {r:List (List UInt8)} {b:List ASt}:isP nm=2→GB r b→GB (Z2g::nm::[40]::[41]::[59]::r) (⟨2,nm,[]⟩::b)
 | emit {nm:List UInt8} {ts r:List (List UInt8)} {x:X} {b:List ASt}:isP nm=2→Gr 1 ts x→x.depth≤64→GB r b→GB (Z2g::nm::[40]::(ts++[41]::[59]::r)) (⟨2,nm,x.row 0⟩::b)
theorem GB.app {ws vs:List (List UInt8)} {a b:List ASt} (h:GB ws a) (h2:GB vs b):GB (ws++vs) (a++b):=by
 induction h with
 | nil=>exact h2
 | asg n g d _ ih=>simpa using GB.asg n g d ih
 | bare n _ ih=>exact GB.bare n ih
 | emit n g d _ ih=>simpa using GB.emit n g d ih
theorem GB.len {ws:List (List UInt8)} {a:List ASt} (h:GB ws a):4 * a.length≤ws.length:=by
 induction h with
 | nil=>exact Nat.le_refl _
 | asg n g d _ ih=>have:=g.pos;simp only [List.length_cons,List.length_append];omega
 | bare n _ ih=>simp only [List.length_cons];omega
 | emit n g d _ ih=>simp only [List.length_cons,List.length_append];omega
def Wds (l:List Tk):Prop:=∀ t∈l,(isP t.text:Int)=t.kind∧isP t.text≠0
theorem Wds.wd {l:List Tk} (h:Wds l) {i:Nat} (hi:i<l.length):(l.map Z3k)[i]? = some (Z5b l i):=by
 have hg:=List.getElem?_eq_getElem hi;rw [List.getElem?_map,hg,Z2e hg];have:=(h _ (List.getElem_mem hi)).1
 show some (Z3k l[i])=_
 unfold Z3k;rw [if_pos this]
theorem Wds.drop {l:List Tk} (h:Wds l) {i:Nat} (hi:i<l.length):(l.map Z3k).drop i=Z5b l i::(l.map Z3k).drop (i+1):=by
 have hg:=h.wd hi;obtain ⟨q1,q2⟩:=List.getElem?_eq_some_iff.1 hg;rw [List.drop_eq_getElem_cons q1,q2]
theorem Wds.name {l:List Tk} (h:Wds l) {i:Nat} (hn:Zni l i=true):i<l.length∧isP (Z5b l i)=2:=by
 have hi:i<l.length:=by
  refine Classical.byContradiction fun h2=>?_;rw [Zue (by omega)] at hn;cases hn
 have hg:=List.getElem?_eq_getElem hi;rw [Zfg hg] at hn;have:=(h _ (List.getElem_mem hi)).1
 have hk:(l[i]).kind=2:=by simpa using hn
 rw [Z2e hg];exact ⟨hi,by omega⟩
theorem Zrd {l:List Tk} {i:Nat} {w:List UInt8} {r:List (List UInt8)} (h:(l.map Z3k).drop i=w::r) (hw:w≠[]) :
  i<l.length∧Z5b l i=w∧Zni l i=(isP w==2)∧(l.map Z3k).drop (i+1)=r:=by
 have hi:i<l.length:=by
  refine Classical.byContradiction fun h2=>?_;rw [List.drop_of_length_le (by rw [List.length_map];omega)] at h;cases h
 have hg:=List.getElem?_eq_getElem hi
 have hw0:(l.map Z3k)[i]? = some w:=by
  have:=congrArg List.head? h;rwa [List.head?_drop] at this
 rw [List.getElem?_map,hg] at hw0
 have hw1:Z3k l[i]=w:=by simpa using hw0
 unfold Z3k at hw1
 split at hw1
 ·rename_i hk
  rw [Z2e hg,Zfg hg];refine ⟨hi,hw1,?_,?_⟩
  ·rw [← hk,hw1,Bool.eq_iff_iff]
   simp only [beq_iff_eq];omega
  ·rw [← List.drop_drop,h];rfl
 ·exact absurd hw1.symm hw
theorem Zwy {l:List Tk} {ts r:List (List UInt8)} {w:List UInt8} {x:X} (hl:l.map Z3k=ts++w::r) (h:Gr 1 ts x) (hd:x.depth≤64) (hw:ofI w 2=none):Z5a l=(x.row 0,(ts.length:Int),0):=by
 have hs:Seg l 0 ts:=⟨[],w::r,by simpa using hl,rfl⟩;have hs2:Seg l (0+ts.length) (w::r):=⟨ts,[],by simpa using hl,by simp⟩;have hend:Zp5 l 1 (0+ts.length):=Zsh 1 hs2.head.1 hw
 have hc:Z8 l (l.length+1) 1 ⟨0,[],0⟩=(true,⟨ts.length,x.row 0,0⟩):=by
  rw [Z8,h.climb 1 l.length (l.length+1) ⟨0,[],0⟩ hs (Int.le_refl _) (by decide) (Nat.le_refl _) (by show _<l.length+1+0;omega) (fun op ho=>by have:=hend op ho;omega)];rw [Z5t hend]
  show (true,RS.mk _ _ _)=_
  rw [Nat.zero_add];rfl
 unfold Z5a;rw [hc,Zuo h.ok];simp only [Bool.true_eq_false,if_false];rw [if_neg (by omega)]
theorem Zlw {w:List UInt8} (h:isP w=2):w≠[]∧w≠Z2g:=by
 refine ⟨?_,?_⟩
 ·rintro rfl;revert h;decide +kernel
 ·rintro rfl;revert h;decide +kernel
theorem Zdt:ofI [59] 2=none∧ofI [41] 2=none:=by decide +kernel
theorem map_drop {l:List Tk} (i:Nat):(l.drop i).map Z3k=(l.map Z3k).drop i:=List.map_drop ..
theorem gr_head {n:Int} {ts:List (List UInt8)} {x:X} (h:Gr n ts x):∃ u us,ts=u::us∧u≠[41]∧u≠[]:=by
 induction h with
 | num h1 _=>exact ⟨_,_,rfl,by rintro rfl;revert h1;decide +kernel,by rintro rfl;revert h1;decide +kernel⟩
 | name h1=>exact ⟨_,_,rfl,by rintro rfl;revert h1;decide +kernel,by rintro rfl;revert h1;decide +kernel⟩
 | tr=>exact ⟨_,_,rfl,by decide,by decide⟩
 | fa=>exact ⟨_,_,rfl,by decide,by decide⟩
 | neg _ _=>exact ⟨_,_,rfl,by decide,by decide⟩
 | not _ _=>exact ⟨_,_,rfl,by decide,by decide⟩
 | par _=>exact ⟨_,_,rfl,by decide,by decide⟩
 | bin _ _ _ _ _ ih _ =>
  obtain ⟨u,us,rfl,h1,h2⟩:=ih;exact ⟨u,_,rfl,h1,h2⟩
 | ite _ _ _=>exact ⟨_,_,rfl,by decide,by decide⟩
theorem GB.body {ws:List (List UInt8)} {b:List ASt} (h:GB ws b):∀ (l:List Tk) (n f i:Nat) (acc:List ASt),(l.map Z3k).drop i=ws→i≤l.length→l.length<f+i→acc.length+b.length≤512 →
  Zch l n f i acc=(acc++b,0,0):=by
 have step:∀ {l:List Tk} {n f i j:Nat} {acc b:List ASt} {s:ASt},i<l.length→acc.length+(b.length+1)≤512→Z5c l i=(s,(j:Int),0)→Zch l n f j (acc++[s])=(acc++s::b,0,0) →
   Zch l n (f+1) i acc=(acc++s::b,0,0):=by
  intro l n f i j acc b s hi ha hs hb;rw [Zch,if_neg (by omega),if_neg (by omega),hs];simp only [ne_eq,not_true_eq_false,if_false,Int.toNat_natCast];exact hb
 have hshut:∀ {l:List Tk} {j:Nat} {w:List UInt8} {ws:List (List UInt8)},Z5b l j=w→Ztc l (w::ws) j=Ztc l ws (j+1):=by
  intro l j w ws h;rw [Ztc,if_pos h]
 induction h with
 | nil =>
  intro l n f i acc hd hi hf ha
  have:l.length≤i:=by
   have:=congrArg List.length hd;rw [List.length_drop,List.length_map] at this;simp only [List.length_nil] at this;omega
  obtain ⟨f,rfl⟩:∃ m,f=m+1:=⟨f-1,by omega⟩;rw [Zch,if_pos this,List.append_nil]
 | @asg nm ts r x b hn g hdp _ ih =>
  intro l n f i acc hd hi hf ha;obtain ⟨e1,e2⟩:=Zlw hn;obtain ⟨i1,t1,n1,d1⟩:=Zrd hd e1;obtain ⟨i2,t2,_,d2⟩:=Zrd d1 (by decide);have hfr:Z5a (l.drop (i+2))=(x.row 0,(ts.length:Int),0):=Zwy (by rw [map_drop];exact d2) g hdp Zdt.1
  have d3:(l.map Z3k).drop (i+2+ts.length)=[59]::r:=by rw [← List.drop_drop,show (l.map Z3k).drop (i+2)=_ from d2,List.drop_left]
  obtain ⟨i3,t3,_,d4⟩:=Zrd d3 (by decide);obtain ⟨f,rfl⟩:∃ m,f=m+1:=⟨f-1,by omega⟩;simp only [List.length_cons] at ha;refine step (j:=i+2+ts.length+1) i1 ha ?_ ?_
  ·unfold Z5c Zzd Zoo Z0j
   have q:Ztc l [[59]] (i+2+ts.length)=(true,i+2+ts.length+1):=by rw [hshut t3];rfl
   rw [if_neg (by rw [t1];exact e2),n1,hn,t1,t2,hfr];simp only [Int.toNat_natCast,q];simp
  ·have:=ih l n f (i+2+ts.length+1) (acc++[⟨1,nm,x.row 0⟩]) d4 (by omega) (by omega) (by rw [List.length_append];simp only [List.length_cons,List.length_nil];omega)
   rw [this,List.append_assoc];rfl
 | @bare nm r b hn _ ih =>
  intro l n f i acc hd hi hf ha;obtain ⟨e1,e2⟩:=Zlw hn;obtain ⟨i0,t0,_,d0⟩:=Zrd hd (by decide);obtain ⟨i1,t1,n1,d1⟩:=Zrd d0 e1;obtain ⟨i2,t2,_,d2⟩:=Zrd d1 (by decide);obtain ⟨i3,t3,_,d3⟩:=Zrd d2 (by decide);obtain ⟨i4,t4,_,d4⟩:=Zrd d3 (by decide);obtain ⟨f,rfl⟩:∃ m,f=m+1:=⟨f-1,by omega⟩;simp only [List.length_cons] at ha;refine step (j:=i+1+1+1+1+1) i0 ha ?_ ?_
  ·unfold Z5c Zzd Z0j
   have q:Ztc l [[41],[59]] (i+1+2)=(true,i+1+2+1+1):=by
    have t3:Z5b l (i+1+2)=[41]:=t3;have t4:Z5b l (i+1+2+1)=[59]:=t4;rw [hshut t3,hshut t4];rfl
   have t3:Z5b l (i+1+2)=[41]:=t3;rw [if_pos t0,n1,hn,t1,t2,t3];simp only [q];simp;omega
  ·have:=ih l n f (i+1+1+1+1+1) (acc++[⟨2,nm,[]⟩]) d4 (by omega) (by omega) (by rw [List.length_append];simp only [List.length_cons,List.length_nil];omega)
   rw [this,List.append_assoc];rfl
 | @emit nm ts r x b hn g hdp _ ih =>
  intro l n f i acc hd hi hf ha;obtain ⟨e1,e2⟩:=Zlw hn;obtain ⟨i0,t0,_,d0⟩:=Zrd hd (by decide);obtain ⟨i1,t1,n1,d1⟩:=Zrd d0 e1;obtain ⟨i2,t2,_,d2⟩:=Zrd d1 (by decide);have hfr:Z5a (l.drop (i+1+2))=(x.row 0,(ts.length:Int),0):=Zwy (by rw [map_drop];exact d2) g hdp Zdt.2
  have d3:(l.map Z3k).drop (i+1+2+ts.length)=[41]::[59]::r:=by rw [← List.drop_drop,show (l.map Z3k).drop (i+1+2)=_ from d2,List.drop_left]
  obtain ⟨i3,t3,_,d4⟩:=Zrd d3 (by decide);obtain ⟨i4,t4,_,d5⟩:=Zrd d4 (by decide)
  have hn41:Z5b l (i+1+2)≠[41]:=by
   intro hq
   have hz:∃ u us,ts=u::us∧u≠[41]∧u≠[]:=by
    clear hfr d3 i3 t3 d4 i4 t4 d5 ih hd d0 d1 d2;exact gr_head g
   obtain ⟨u,us,rfl,hu,hu0⟩:=hz;obtain ⟨_,tq,_,_⟩:=Zrd (w:=u) (r:=us++[41]::[59]::r) (show (l.map Z3k).drop (i+1+2)=_ from d2) hu0;exact hu (tq.symm.trans hq)
  obtain ⟨f,rfl⟩:∃ m,f=m+1:=⟨f-1,by omega⟩;simp only [List.length_cons] at ha;refine step (j:=i+1+2+ts.length+1+1) i0 ha ?_ ?_
  ·unfold Z5c Zzd Zoo Z0j
   have q:Ztc l [[41],[59]] (i+1+2+ts.length)=(true,i+1+2+ts.length+1+1):=by rw [hshut t3,hshut t4];rfl
   rw [if_pos t0,n1,hn,t1,t2,hfr];simp only [Int.toNat_natCast,q];simp [hn41]
  ·have:=ih l n f (i+1+2+ts.length+1+1) (acc++[⟨2,nm,x.row 0⟩]) d5 (by omega) (by omega) (by rw [List.length_append];simp only [List.length_cons,List.length_nil];omega)
   rw [this,List.append_assoc];rfl
end Go.Hs
end

section
namespace Go.Hs
open Go.Proofs
set_option maxRecDepth 10000
theorem Zcu {N M:List (List UInt8)} (h:∀ t,N.contains t=M.contains t):∀ (l:List XN) (i:Int) (acc:List Int),goN N l i acc=goN M l i acc
 | [],_,_=>rfl
 | n::r,i,acc=>by
  have:Z6f N n acc=Z6f M n acc:=by unfold Z6f;rw [h]
  rw [goN,goN,this]
  split
  ·rfl
  ·exact Zcu h r _ _
theorem Zf0 {N M:List (List UInt8)} (h:∀ t,N.contains t=M.contains t) (l:List XN):Zmi N l=Zmi M l:=by
 have:Zpb N l=Zpb M l:=by
  unfold Zpb
  split
  ·rfl
  ·exact Zcu h _ _ _
 unfold Zmi;rw [this]
theorem Zer (a:List UInt8) (l:List (List UInt8)) (t:List UInt8):([a]++l).contains t=(l++[a]).contains t:=by
 rw [Bool.eq_iff_iff];simp only [List.contains_eq_mem,decide_eq_true_eq,List.mem_append,List.mem_singleton];exact or_comm
def Zjm:List UInt8:=[97,114,103]
def Zmk (names:List (List UInt8)) (x:List XN):Bool:=x.isEmpty || (Zmi names x).1==1
def stT (vars events:List (List UInt8)) (s:ASt):Bool:=(if s.kind=2 then events.contains s.name else vars.contains s.name) && Zmk (vars++[Zjm]) s.x
def Zpi (vars events:List (List UInt8)):List ASt→Int→Int × Int
 | [],_=>(0,0)
 | s::r,i=>if stT vars events s=true then Zpi vars events r (i+1) else (i,90)
def Zwj (b:List ASt) (vars events:List (List UInt8)):Int × Int:=if Zyd b≠0 then (0,2) else Zpi vars events b 0
theorem Zgn {vars events:List (List UInt8)} {b:List ASt} {k:Nat} {s:ASt} (h:b[k]? = some s):Zpi vars events (b.drop k) k=if stT vars events s=true then Zpi vars events (b.drop (k+1)) (k+1:Nat) else ((k:Int),90):=by
 obtain ⟨q1,q2⟩:=List.getElem?_eq_some_iff.1 h
 rw [List.drop_eq_getElem_cons q1,q2,Zpi]<;>rfl
theorem Zkf (c:Col) (s:ASt):(Z1g c s).cells.length=3:=rfl
def Z2y (c:Col) (l:List ASt):V:=Zb c 3 (Z1g c) (Zm l)
def encBR (r:List ASt × Int × Int):V := .tuple [Z2y .new r.1,.int .i64 r.2.1,.int .i64 r.2.2]
theorem Zqr {l:List Tk} {n i:Nat} {t:Tk} (h:l[i]? = some t):Z8n l n (i:Int)=t.pos:=by
 have hi:i<l.length:=by
  refine Classical.byContradiction fun h2=>?_;rw [List.getElem?_eq_none (by omega)] at h;cases h
 unfold Z8n
 rw [if_pos (by omega),Int.toNat_natCast,List.getD_eq_getElem?_getD,h]<;>rfl
theorem Zgx (G:Nat→V) (hG:GOk G) (s:List UInt8) (hs:s.length<100000):Spec Tryz.prog G 208 [.str s] Zl (fun v _=>v=encBR (Ztk s)):=by
 refine Zo 0 63 [.tmp 2,.tmp 3,.tmp 4] Tryz.func208 fun X=>?_
 have hP:Ztk s=if (Zka s).2.2≠0 then (([]:List ASt),(Zka s).2.1,(Zka s).2.2) else Zch (Zka s).1 s.length ((Zka s).1.length+1) 0 []:=rfl
 generalize Ztk s=res at hP ⊢;have hT:=Z7k hs;have hl:=Zee G hG s hs;generalize Zka s=p at hP hT hl;obtain ⟨l,at0,e0⟩:=p;simp only at hP hT;have hTl:=hT.len;refine Z1 ?_;refine Z1 ?_;refine Zn hG ?_ (s:=hl);refine Zsf (zi @encTok.eq_1 (zi @encTks.eq_1 @Zsa)) ?_;have hS:(Zm l).l=l:=Zp l;generalize Zm l=S at hS;subst hS;refine Z5 ?_
 by_cases he:e0=0
 rotate_left
 ·rw [if_pos he] at hP
  have q1:(e0==0)=false:=by simpa using he
  refine Zdc zk ?_;simp -implicitDefEqProofs only[go_sem,seval,bne,q1];refine Z ?_
  rw [hP]<;>rfl
 rw [if_neg (by simpa using he)] at hP
 have q1:(e0==0)=true:=by simpa using he
 refine Zdc zk ?_;simp -implicitDefEqProofs only[go_sem,seval,bne,q1];refine Z1 ?_;refine Z1 ?_;refine Z5 ?_;refine AW.block ?_
 refine Zlb (fun (x:(Nat × Nat) × List ASt)=>st [(0,.str s),(5,Zb .new 3 Zcb S),(8,grown 60 x.1.1 3 x.2),(9,.int .i64 x.1.2)] [(60,Zxa x.1.1 (Z1g .new) x.2)])
  (fun x=>x.1.2≤S.l.length∧x.2.length≤512∧∃ f,S.l.length<f+x.1.2∧Zch S.l s.length f x.1.2 x.2=res) (fun x=>S.l.length-x.1.2) ((0,0),[]) ⟨Nat.zero_le _,Nat.zero_le _,S.l.length+1,Nat.lt_succ_self _,hP.symm⟩
  (Za zp zp) ?_
 rintro ⟨⟨gx,i⟩,acc⟩ ⟨hi,hac,f,hf,hR⟩ L3 hL3;simp only at hi hac hf hR;refine Z5 ?_
 cases f with
 | zero=>omega
 | succ f =>
 rw [Zch] at hR;refine Z1 ?_;refine Zi rfl (fun h26=>?_) (fun h26=>?_);rotate_left
 ·have hil:S.l.length≤i:=by have:=zN h26;omega
  rw [if_pos hil] at hR;refine Z0 ?_;refine AW.weak (Zv (fun o=>o==60) (l:=[(8,Zb .new 3 (Z1g .new) (Zm acc))]) (m:=[]) ?_ trivial) ?_
  ·refine Zs ?_
   exact Z0a rfl zp (Zkf _)
  refine Z ?_
  rw [← hR]<;>rfl
 have hil:i<S.l.length:=zL h26;rw [if_neg (by omega)] at hR;have hg:=List.getElem?_eq_getElem hil;refine Z0 ?_;refine AW.block ?_;refine Z5 ?_
 by_cases h5:acc.length=512
 ·rw [if_pos h5] at hR
  generalize S.l[i]=t at hg;rw [Zqr hg] at hR
  have q2:((acc.length:Int)==512)=true:=by rw [beq_iff_eq];omega
  refine Z1f q2 ?_;refine Zpc rfl ?_;refine ZTf (zi hg @Zbb) hG ?_;refine Z ?_
  rw [← hR]<;>rfl
 rw [if_neg h5] at hR
 have q2:((acc.length:Int)==512)=false:=by rw [beq_eq_false_iff_ne];omega
 refine Z1f q2 ?_;refine Z0 ?_;have hst:=fun c=>Zh1 G hG c S hT i (by omega);have hb:=Zln S.l i;generalize Z5c S.l i=q at hR hst hb;obtain ⟨x,n,e⟩:=q;obtain ⟨hge,hok⟩:=hb;simp only at hge hok hR;obtain ⟨m,rfl⟩:=Int.eq_ofNat_of_zero_le (a:=n) (by omega);refine Z1 ?_;refine Znf @Zsa hG ?_ (s:=(hst _));refine Zsf (zi @encSR.eq_1 (zi @Zij @Zfa)) ?_;intro g10;refine Z5 ?_
 by_cases he2:e=0
 rotate_left
 ·rw [if_pos he2] at hR
  have q3:(e==0)=false:=by simpa using he2
  refine Zdc zk ?_;simp -implicitDefEqProofs only[go_sem,seval,bne,q3];refine Z1 ?_;refine Zi rfl (fun h47=>?_) (fun h47=>?_)
  ·have hml:m<S.l.length:=zL h47
   have hgm:=List.getElem?_eq_getElem hml;generalize S.l[m]=t at hgm;rw [Zqr hgm] at hR;refine ZTf (zi hgm @Zbb) hG ?_;refine Z ?_
   rw [← hR]<;>rfl
  ·have hml:¬ m<S.l.length:=by have:=zN h47;omega
   refine Z ?_;rw [← hR];unfold Z8n
   rw [if_neg (by show ¬ ((m:Int)<S.l.length);omega)]<;>rfl
 rw [if_neg (by simpa using he2)] at hR
 have q3:(e==0)=true:=by simpa using he2
 obtain ⟨h6,h7⟩:=hok he2;refine Zdc zk ?_;simp -implicitDefEqProofs only[go_sem,seval,bne,q3];refine Z1 ?_;intro g59;refine Zma (f:=Z1g .new) (l:=acc) (l2:=[x]) (g:=gx) (Zkf _) rfl rfl rfl zp (Zaa (by omega) (by simp;omega)) fun g2=>?_;refine Zs ?_;refine Z1 ?_;refine hL3 _ ⟨((g2,m),acc++[x]),?_,⟨?_,?_,f,?_,hR⟩,Za zp zp⟩
 ·show S.l.length-m<S.l.length-i
  omega
 ·show m≤_;omega
 ·show (acc++[x]).length≤_;rw [List.length_append];show acc.length+1≤_;omega
 ·show S.l.length<f+m;omega
structure CU where
 i:Nat
 e:Int
def cuO (sl:Sl Tk) (g:Nat) (st:V) (r:CU):AObj := .cells .any g 0 [Zb .any 3 Zcb sl,.int .i64 r.i,.int .i64 r.e,st]
theorem Zuh (sl:Sl Tk) (g:Nat) (st:V) (r:CU):cuO sl g st r = .cells .any g 0 [Zb .any 3 Zcb sl,.int .i64 r.i,.int .i64 r.e,st]:=rfl
def CuS (G:Nat→V) (f:FuncId) (args:List V) (sl:Sl Tk) (g:Nat) (r:CU) (v:V) (r':CU):Prop :=
 ∀ st:V,(∀ F:Col→Col,st.recol F=st)→Spec Tryz.prog G f (.ptr 21 g 0::args) (Zob Zl [(21,cuO sl g st r)]) (fun v0 H'=>v0=v∧H' 21=cuO sl g st r')
theorem CuS.call {G:Nat→V} (hG:GOk G) {f:FuncId} {args args':List V} {sl:Sl Tk} {g:Nat} {r r':CU} {v st:V} (h:CuS G f args' sl g r v r') {H:Heap} {K:V→Heap→Prop}
  (hst:∀ F:Col→Col,st.recol F=st) (hen:Zha Tryz.prog f=true) (hargs:args.map (V.recol Col.ent)=args') {v':V} (hv:v.recol Col.bk=v')
  (h8:H 21=cuO sl g st r) (hk:K v' (Zob H [(21,cuO sl g st r')])) :
  CallA Tryz.prog G f (.ptr 21 g 0::args) H K:=by
 have e8:∀ (F:Col→Col) r,F .any = .any→(cuO sl g st r).recol F=cuO sl g st r:=by
  intro F r hF;simp only [Zuh,recol_cells,List.map_cons,List.map_nil,Zsa,Zjc,hF,hst]
 refine Z5q hG [(21,cuO sl g st r)] hen ?_ ?_
 ·intro p hp
  rw [List.mem_singleton] at hp;subst hp;rw [h8,e8 _ _ rfl]
 ·have ha:(V.ptr 21 g 0::args).map (V.recol Col.ent) = .ptr 21 g 0::args':=by rw [List.map_cons,Z5j,hargs]
  rw [ha];refine (h st hst).mono ?_;rintro _ H' ⟨rfl,q8⟩;simp only [List.map_cons,List.map_nil,q8,e8 _ _ Z14,hv];exact hk
theorem Zjj (G:Nat→V) (hG:GOk G) (sl:Sl Tk) (g:Nat) (r:CU) (w:List UInt8):CuS G 285 [.str w] sl g r (.bool (decide (r.i<sl.l.length) && Z5b sl.l r.i==w)) r:=by
 intro st hst;refine Zo 1000 30 [.tmp 4] Tryz.func285 fun X=>?_;simp only [Zob,Zuh];refine Z1 ?_
 by_cases hi:r.i<sl.l.length
 ·have h1:decide ((r.i:Int)<sl.l.length)=true:=zT
  have hg:=List.getElem?_eq_getElem hi;generalize sl.l[r.i]=t at hg;rw [Z2e hg,decide_eq_true hi,Bool.true_and];refine ZTf (zi h1 (zi hg @Zbb)) hG ?_;refine Z ?_;exact ⟨rfl,zp⟩
 ·have h1:decide ((r.i:Int)<sl.l.length)=false:=zF
  rw [decide_eq_false hi,Bool.false_and];refine ZTf h1 hG ?_;refine Z ?_;exact ⟨rfl,zp⟩
theorem Zc1 (G:Nat→V) (hG:GOk G) (sl:Sl Tk) (g:Nat) (r:CU) (hi:r.i≤sl.l.length):CuS G 327 [] sl g r (Zb .any 3 Zcb (sl.sub r.i sl.l.length)) r:=by
 intro st hst;refine Zo 1000 12 [.tmp 2] Tryz.func327 fun X=>?_;simp only [Zob,Zuh];refine Z1 ?_;have hll:sl.l.length≤sl.l.length:=Nat.le_refl _
 refine Z5 <| Zw ⟨fun _ => .top,fun _ => .pure⟩ zk hG zk zk ?_
 simp -implicitDefEqProofs only[go_sem,seval,hi,hll,and_self];refine Z ?_;exact ⟨rfl,zp⟩
theorem Zxq (G:Nat→V) (hG:GOk G) (sl:Sl Tk) (hsl:sl.l.length<1000000) (g:Nat) (r:CU) (hi:r.i≤sl.l.length):CuS G 305 [] sl g r (.tuple [.str (if Zni sl.l r.i=true then Z5b sl.l r.i else []),.bool (Zni sl.l r.i)])
  (if Zni sl.l r.i=true then ⟨r.i+1,r.e⟩ else ⟨r.i,110⟩):=by
 intro st hst;refine Zo 1000 50 [.tmp 2,.tmp 3] Tryz.func305 fun X=>?_;simp only [Zob,Zuh];refine Z1 ?_;refine Z5 ?_
 by_cases hil:r.i=sl.l.length
 ·have h1:((r.i:Int)==sl.l.length)=true:=by rw [beq_iff_eq];omega
  refine ZTf h1 hG ?_;refine Z ?_;rw [Zue (by omega)];exact ⟨rfl,zp⟩
 have h1:((r.i:Int)==sl.l.length)=false:=by rw [beq_eq_false_iff_ne];omega
 have hilt:r.i<sl.l.length:=by omega
 have hg:=List.getElem?_eq_getElem hilt;generalize sl.l[r.i]=t at hg
 cases hk:(t.kind==2) with
 | false =>
  refine Z5 <| Zw ⟨fun _ => .top,fun _ => .pure⟩ zk hG zk zk ?_
  simp -implicitDefEqProofs only[go_sem,seval,h1,hg,Zbb,bne,hk];refine Z ?_;rw [Zfg hg,hk];exact ⟨rfl,zp⟩
 | true =>
  refine Z5 <| Zw ⟨fun _ => .top,fun _ => .pure⟩ zk hG zk zk ?_
  simp -implicitDefEqProofs only[go_sem,seval,h1,hg,Zbb,bne,hk];refine Z0 ?_
  have hw:IntKind.i64.wrap ((r.i:Int)+1)=((r.i+1:Nat):Int):=by rw [w64 (by omega) (by omega)];omega
  have hw2:IntKind.i64.wrap (((r.i+1:Nat):Int)-1)=(r.i:Int):=by rw [w64 (by omega) (by omega)];omega
  refine Z1f hw ?_;refine ZTf (zi hw2 (zi hg @Zbb)) hG ?_;refine Z ?_;rw [Zfg hg,hk,Z2e hg];exact ⟨rfl,zp⟩
theorem Zye (G:Nat→V) (hG:GOk G) (sl:Sl Tk) (hsl:sl.l.length<1000000) (g:Nat) (r:CU) (hi:r.i≤sl.l.length) (c:Col) (ws:List (List UInt8)) (hws:ws.length<1000) (hwn:∀ w∈ws,w≠[]) (b:Bool) :
  CuS G 306 [Zb c 1 V.str (.mk b ws)] sl g r (.bool (Ztc sl.l ws r.i).1) ⟨(Ztc sl.l ws r.i).2,if (Ztc sl.l ws r.i).1=true then r.e else 110⟩:=by
 intro st hst;refine Zo 1000 28 [.tmp 4] Tryz.func306 fun X=>?_;generalize hP:Ztc sl.l ws r.i=res;simp only [Zob,Zuh];have hwl:(Sl.mk b ws).l=ws:=rfl;refine Z1 ?_;refine Z1f hwl ?_;refine AW.block ?_
 refine Zda ws.length (fun m (_:Unit)=>Go.Hs.st [(0,.ptr 21 g 0),(7,Zb c 1 V.str (.mk b ws)),(8,.int .i64 ws.length),(9,.int .i64 m)] [(21,cuO sl g st ⟨r.i+m,r.e⟩)])
  (fun m _=>res=Ztc sl.l (ws.drop m) (r.i+m)∧r.i+m≤sl.l.length) 0 () (Nat.zero_le _) ⟨hP.symm,hi⟩ (Za zp zp) ?_
 rintro m _ hm ⟨hR,hmi⟩ L2 hL2;refine Z1 ?_;refine Z5 ?_;refine Zi rfl (fun h10=>?_) (fun h10=>?_);rotate_left
 ·have hm2:m=ws.length:=by have:=zN h10;omega
  rw [List.drop_eq_nil_of_le (by omega)] at hR;refine Z ?_;rw [hR];exact ⟨rfl,zp⟩
 have hm1:m<ws.length:=zL h10;have hgm:ws[m]? = some ws[m]:=List.getElem?_eq_getElem hm1;have hdr:ws.drop m=ws[m]::ws.drop (m+1):=List.drop_eq_getElem_cons hm1;have hwm:=hwn _ (List.getElem_mem hm1);generalize ws[m]=w2 at hgm hdr hwm;rw [hdr,Ztc] at hR;refine Z1f (zi hwl hgm) ?_;refine Z1 ?_;refine CuS.call hG (Zjj G hG sl g ⟨r.i+m,r.e⟩ w2) hst zk zm rfl zr ?_;refine Zu ?_
 have hcond:(decide (r.i+m<sl.l.length) && Z5b sl.l (r.i+m)==w2)=(Z5b sl.l (r.i+m)==w2):=by
  by_cases h:r.i+m<sl.l.length
  ·rw [decide_eq_true h,Bool.true_and]
  ·rw [decide_eq_false h,Bool.false_and,Zgh (by omega)]
   symm
   rw [beq_eq_false_iff_ne];exact fun h=>hwm h.symm
 rw [hcond]
 by_cases hw4:Z5b sl.l (r.i+m)=w2
 rotate_left
 ·rw [if_neg hw4] at hR
  have q2:(Z5b sl.l (r.i+m)==w2)=false:=by simpa using hw4
  rw [q2];refine Zf @Zuh ?_;rw [hR];exact ⟨rfl,zp⟩
 have hlt:r.i+m<sl.l.length:=Zhn (by rw [hw4];exact hwm);rw [if_pos hw4] at hR
 have q2:(Z5b sl.l (r.i+m)==w2)=true:=by simpa using hw4
 rw [q2];refine Z0 ?_
 have hw5:IntKind.i64.wrap (((r.i+m:Nat):Int)+1)=((r.i+(m+1):Nat):Int):=by rw [w64 (by omega) (by omega)];omega
 have hw6:IntKind.i64.wrap ((m:Int)+1)=((m+1:Nat):Int):=by rw [w64 (by omega) (by omega)];omega
 refine Z1f (zi @Zuh hw5) ?_;refine Z1f hw6 ?_;exact hL2 _ ⟨hm1,(),⟨hR,by omega⟩,Za zp zp⟩
theorem Zyq (G:Nat→V) (hE:GExp G) (sl:Sl Tk) (hT:TkOk sl.l) (g:Nat) (r:CU) (hi:r.i≤sl.l.length) :
  CuS G 307 [] sl g r (.tuple [.agg [encXs .new (Z5a (sl.l.drop r.i)).1],.bool ((Z5a (sl.l.drop r.i)).2.2==0)]) ⟨r.i+(Z5a (sl.l.drop r.i)).2.1.toNat,(Z5a (sl.l.drop r.i)).2.2⟩:=by
 have hG:=hE.ok;intro st hst;refine Zo 1000 29 [.cell 2 197,.tmp 3] Tryz.func307 fun X=>?_;have hTl:=hT.len
 have hsub:(sl.sub r.i sl.l.length).l=sl.l.drop r.i:=by rw [Zez];exact List.take_of_length_le (by rw [List.length_drop];omega)
 have hfr:=fun c=>Zwp G hE c (sl.sub r.i sl.l.length) (by rw [hsub];exact ⟨by rw [List.length_drop];omega,fun t ht=>hT.text t (List.mem_of_mem_drop ht)⟩);have hbd:=Zff (l:=sl.l.drop r.i);rw [hsub] at hfr;rw [List.length_drop] at hbd;generalize Z5a (sl.l.drop r.i)=p at hfr hbd;obtain ⟨xs,n,e⟩:=p;simp only at hbd
 have hw3:IntKind.i64.wrap ((r.i:Int)+n)=((r.i+n.toNat:Nat):Int):=by rw [w64 (by omega) (by omega)];omega
 simp only [Zob,Zuh];refine Z1 ?_;intro g2;refine Z1 ?_;refine CuS.call hG (Zc1 G hG sl g r hi) hst zk rfl rfl zr ?_;simp -implicitDefEqProofs only[go_sem,seval,Zob,Zsa];refine Znf @Zsa hG ?_ (s:=(hfr _));refine Zsf (zi @encFr.eq_1 (zi @encXs.eq_1 @Zfa)) ?_;intro g4;refine Zf (zi @Zuh hw3) ?_;exact ⟨rfl,zp⟩
end Go.Hs
end
