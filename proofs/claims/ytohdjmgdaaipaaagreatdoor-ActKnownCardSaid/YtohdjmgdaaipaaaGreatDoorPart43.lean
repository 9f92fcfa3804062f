/- Part 43 of the proof of a statement of seat YtohdjmgdaaipaaaGreatDoor: HsHTypK2 HsHTypKinds HsHTypOf HsHTypW HsHTypRK HsHTypRK2 HsTypLaw2 HsHTypL2 HsTypLaw3 HsHTypM HsActBk HsHActTy HsHActPr HsHActR2 HsHActC. -/
import Derived.Test.YtohdjmgdaaipaaaGreatDoorPart41
import Derived.Test.YtohdjmgdaaipaaaGreatDoorPart42
import Derived.Test.YtohdjmgdaaipaaaGreatDoorPart30
import Derived.Test.YtohdjmgdaaipaaaGreatDoorPart31
import Derived.Test.YtohdjmgdaaipaaaGreatDoorPart39
import Derived.Test.YtohdjmgdaaipaaaGreatDoorPart40
import Derived.Test.YtohdjmgdaaipaaaGreatDoorPart37
set_option linter.unusedSimpArgs false
set_option linter.unusedVariables false
section
namespace Go.Hs
open Go.Proofs
set_option maxRecDepth 10000
def eq3 (a b c a' b' c':Int):Bool:=decide (a=a'∧b=b'∧c=c')
theorem Zr7 (a b c a' b' c':Int):Zvz [.int .u8 a,.int .u8 b,.int .u8 c] [.int .u8 a',.int .u8 b',.int .u8 c']=some (eq3 a b c a' b' c'):=by
 unfold eq3;simp only [Zvz,eqC,if_true]
 by_cases h1:a=a'
 ·by_cases h2:b=b'
  ·by_cases h3:c=c'
   ·simp [h1,h2,h3]
   ·have:(c==c')=false:=by simpa using h3
    simp [h1,h2,h3,this]
  ·have:(b==b')=false:=by simpa using h2
   simp [h1,this,h2]
 ·have:(a==a')=false:=by simpa using h1
  simp [this,h1]
def knC (v:V):List V:=ruleC++[v]
theorem Z3o (v:V):(knC v).length=93:=by rw [knC,List.length_append]<;>rfl
theorem Z66 (v:V):(knC v)[92]? = some v:=by
 rw [knC,List.getElem?_append_right (by decide)]<;>rfl
theorem Zeo:ruleC.length=92:=rfl
theorem Zmaa (v:V):(knC v).take 92=ruleC:=by rw [knC,List.take_append_of_le_length (Nat.le_refl 92)]<;>rfl
theorem Z5y (f:Col→Col):ruleC.map (V.recol f)=ruleC:=rfl
theorem Z56 (f:Col→Col) (v:V):(knC v).map (V.recol f)=knC (v.recol f):=by
 rw [knC,List.map_append,Z5y]<;>rfl
theorem Z72 (G:Nat→V) (hG:GOk G) (c1 c2:Col) (names:Sl (List UInt8)) (hnl:names.l.length<1000000) (n:XN) (ks:Sl Int) (hn:PlOk ks.l.length n) (hkl:ks.l.length<1000000) (hks:∀ y∈ks.l,y=1∨y=2) :
  Spec Tryz.prog G 157 [.agg (knC (Zd c1 1 V.str names)),Zca n,Zd c2 1 (V.int .u8) ks] Zl (fun v _=>v = .int .u8 (Z0h names.l n ks.l)):=by
 refine Zo 0 71 [.tmp 6] Tryz.func157 fun X=>?_;have hP:Z0h names.l n ks.l=kd n.op (names.l.contains n.name) (plc ks.l n.a) (plc ks.l n.b) (plc ks.l n.c):=rfl;generalize Z0h names.l n ks.l=res at hP ⊢;simp only [Zt];refine Zh fun K hK=>AW.region (by kernel_rfl) ?_;refine Zsf @Z3o ?_;intro g3 g4 g5;refine hK _ ?_
 try clear hK K
 refine Z9 (fun (_:Unit)=>st [(3,.ptr 3 g3 0),(4,.ptr 4 g4 0),(5,.ptr 5 g5 0)] [(3,.cells .new g3 0 (knC (Zd c1 1 V.str names))),(4,.cells .new g4 0 [.int .u8 n.op,.int .i64 n.num,.str n.name,.int .i64 n.a,.int .i64 n.b,.int .i64 n.c]),(5,.cells .new g5 0 [Zd c2 1 (V.int .u8) ks])])
  (fun _=>n.op=2→names.l.contains n.name=true) (fun K1 hK1=>?_) ?_
 ·by_cases ho:n.op=2
  ·have e1:(n.op==2)=true:=by simpa using ho
   refine Zh fun K hK=>AW.region (by kernel_rfl) ?_;refine Zsf (zi e1 @Z66) ?_;refine Zc hG ?_ (s:=(Zdj G hG _ n.name names hnl));refine hK _ ?_
   try clear hK K
   cases hc:names.l.contains n.name with
   | true =>
    refine Z0 ?_;exact hK1 _ () (fun _=>hc) (Zb zp zp)
   | false =>
    refine Za rfl (fun h21=>?_) (fun h21=>?_)
    ·refine Zh fun K hK=>AW.region (by kernel_rfl) ?_
     refine Zs ?_;refine hK _ ?_
     try clear hK K
     refine Z ?_
     rw [hP,hc,ho]<;>rfl
    ·cases h21
  ·have e1:(n.op==2)=false:=by simpa using ho
   refine Zh fun K hK=>AW.region (by kernel_rfl) ?_;refine Zsf e1 ?_;refine hK _ ?_
   try clear hK K
   refine Z0 ?_;exact hK1 _ () (fun h=>absurd h ho) (Zb zp zp)
 rintro _ hnm;refine Zh fun K hK=>AW.region (by kernel_rfl) ?_;refine Zs ?_;refine hK _ ?_
 try clear hK K
 refine AW.weak (Z2 (fun o=>o==3 || o==4 || o==5) (l:=[(3,.view .new (.agg (knC (Zd c1 1 V.str names)))),(4,.view .new (.agg [.int .u8 n.op,.int .i64 n.num,.str n.name,.int .i64 n.a,.int .i64 n.b,.int .i64 n.c])),(7,.func (.func 228) [] [.view .new (Zd c2 1 (V.int .u8) ks)])]) (m:=[]) ?_ trivial) ?_
 ·refine Zs ?_
  refine ⟨?_,?_,?_⟩
  ·exact Fz.ptr (v := .agg (knC (Zd c1 1 V.str names))) (c := .new) (fz:=0) rfl zp
  ·exact Fz.ptr (v := .agg [.int .u8 n.op,.int .i64 n.num,.str n.name,.int .i64 n.a,.int .i64 n.b,.int .i64 n.c]) (c := .new) (fz:=0) rfl zp
  ·exact Fz.func ⟨Fz.ptr (v:=Zd c2 1 (V.int .u8) ks) (c := .new) (fz:=0) rfl zp,trivial⟩
 have pc:∀ i:Int,(i<0∨0≤i∧i<ks.l.length)→Zni Tryz.prog G 228 [.int .i64 i,.view .new (Zd c2 1 (V.int .u8) ks)] (.int .u8 (plc ks.l i)):=fun i h=>⟨by kernel_rfl,by
  refine Zs ?_;refine (Zg9 G hG _ ks hkl i h).mono ?_;rintro _ _ rfl
  rfl⟩
 obtain ⟨hw,ha1,hb1,hc1,ha0,hb0,hc0⟩:=hn
 have hra:n.a<0∨0≤n.a∧n.a<ks.l.length:=by
  by_cases h:0<Zi n.op
  ·exact .inr (ha1 h)
  ·exact .inl (by rw [ha0 h];decide)
 have hrb:n.b<0∨0≤n.b∧n.b<ks.l.length:=by
  by_cases h:1<Zi n.op
  ·exact .inr (hb1 h)
  ·exact .inl (by rw [hb0 h];decide)
 have hrc:n.c<0∨0≤n.c∧n.c<ks.l.length:=by
  by_cases h:2<Zi n.op
  ·exact .inr (hc1 h)
  ·exact .inl (by rw [hc0 h];decide)
 have hor:=Zeg hw;obtain ⟨op,hop⟩:∃ op:Nat,n.op=op:=⟨n.op.toNat,by omega⟩
 have hop1:op<23:=by omega
 have hop2:n.op<23:=by omega
 have hop0:0≤n.op:=by omega
 have hopn:n.op.toNat=op:=by omega
 have hru:=Z05 op hop1
 have hrl:op * 4+4≤92:=by omega
 refine Zh fun K hK=>Z5 ⟨fun i=>if i=8 then .int .u8 (plc ks.l n.a) else if i=12 then .int .u8 (plc ks.l n.b) else if i=16 then .int .u8 (plc ks.l n.c) else .top,fun i=>if i=1 then .lend else if i=4 then .lend else if i=7 then .lend else if i=11 then .lend else if i=15 then .lend else .pure⟩ (by kernel_rfl) hG (by kernel_rfl) (by kernel_rfl) ?_;simp -implicitDefEqProofs only[go_sem,seval,↓reduceIte,Zmaa,Z3o,show (92:Nat)≤93 from by decide,Zeo,hru,hop2,hop0,hopn,hrl];refine ⟨pc _ hra,pc _ hrb,pc _ hrc,?_⟩;intro g8 g9;refine hK _ ?_
 try clear hK K
 have hpl:∀ i:Int,(0≤i∧i<ks.l.length)→plc ks.l i=1∨plc ks.l i=2:=by
  intro i hi;unfold plc;rw [if_neg (by omega)];obtain ⟨m,rfl⟩:∃ m:Nat,i=m:=⟨i.toNat,by omega⟩;rw [Int.toNat_natCast,List.getD_eq_getElem?_getD,List.getElem?_eq_getElem (by omega)];exact hks _ (List.getElem_mem _)
 have hva:0<Zi n.op→plc ks.l n.a=1∨plc ks.l n.a=2:=fun h=>hpl _ (ha1 h);have hvb:1<Zi n.op→plc ks.l n.b=1∨plc ks.l n.b=2:=fun h=>hpl _ (hb1 h);have hvc:2<Zi n.op→plc ks.l n.c=1∨plc ks.l n.c=2:=fun h=>hpl _ (hc1 h)
 have hza:¬ 0<Zi n.op→plc ks.l n.a=0:=fun h=>by rw [ha0 h]<;>rfl
 have hzb:¬ 1<Zi n.op→plc ks.l n.b=0:=fun h=>by rw [hb0 h]<;>rfl
 have hzc:¬ 2<Zi n.op→plc ks.l n.c=0:=fun h=>by rw [hc0 h]<;>rfl
 generalize plc ks.l n.a=a at hP hva hza ⊢;generalize plc ks.l n.b=b at hP hvb hzb ⊢;generalize plc ks.l n.c=c at hP hvc hzc ⊢;refine Zh fun K hK=>AW.region (by kernel_rfl) ?_;refine Zs ?_;refine hK _ ?_
 try clear hK K
 by_cases q16:op=16∨op=17
 ·have eA:Z6y op=3:=by rcases q16 with rfl | rfl<;>rfl
  have eB:Z15 op=3:=by rcases q16 with rfl | rfl<;>rfl
  have eD:Z4y op=0:=by rcases q16 with rfl | rfl<;>rfl
  have eI:Zt9 op=2:=by rcases q16 with rfl | rfl<;>rfl
  rw [eA,eB,eD,eI]
  have hpo:Zi n.op=2:=by rw [hop];rcases q16 with rfl | rfl<;>rfl
  rw [hpo] at hva hvb hzc
  replace hva:=hva (by decide)
  replace hvb:=hvb (by decide)
  replace hzc:=hzc (by decide)
  refine Zy ?_;refine Zh fun K hK=>AW.region (by kernel_rfl) ?_;refine Zs ?_;refine hK _ ?_
  try clear hK K
  refine Z1 ?_;refine Zy ?_;refine Zh fun K hK=>AW.region (by kernel_rfl) ?_;refine Zs ?_;refine hK _ ?_
  try clear hK K
  refine Z0 ?_;refine Zy ?_;refine Zh fun K=>?_;intro hK;refine Zuf 3 (by kernel_rfl) rfl rfl ?_;simp -implicitDefEqProofs only[go_sem,seval,↓reduceIte,List.take_succ_cons,List.take_zero];refine ⟨_,Zgk (.inr rfl) (by kernel_rfl) (by kernel_rfl) (by kernel_rfl) zp zp (by kernel_rfl) (Zr7 _ _ _ _ _ _),?_⟩;simp -implicitDefEqProofs only[go_sem,seval,↓reduceIte,List.drop_succ_cons,List.drop_zero];refine hK _ ?_
  try clear hK K
  have hP2:res=if eq3 a b c b b 0=true then 2 else 0:=by
   rw [hP,hop,hzc]
   rcases q16 with rfl | rfl<;>rcases hva with rfl | rfl<;>rcases hvb with rfl | rfl<;>rfl
  generalize eq3 a b c b b 0=z at hP2 ⊢
  cases z with
  | true =>
   refine Z0 ?_;refine Zh fun K hK=>AW.region (by kernel_rfl) ?_;refine Zs ?_;refine hK _ ?_
   try clear hK K
   refine Z ?_
   rw [hP2]<;>rfl
  | false =>
   refine Za rfl (fun h68=>?_) (fun h68=>?_)
   ·refine Zh fun K hK=>AW.region (by kernel_rfl) ?_
    refine Zs ?_;refine hK _ ?_
    try clear hK K
    refine Z ?_
    rw [hP2]<;>rfl
   ·cases h68
 by_cases q22:op=22
 ·subst q22
  have eA:Z6y 22=2:=rfl;have eB:Z15 22=3:=rfl;have eD:Z4y 22=3:=rfl;have eI:Zt9 22=3:=rfl;rw [eA,eB,eD,eI]
  have hpo:Zi n.op=3:=by rw [hop]<;>rfl
  rw [hpo] at hva hvb hvc
  replace hva:=hva (by decide)
  replace hvb:=hvb (by decide)
  replace hvc:=hvc (by decide)
  refine Zy ?_;refine Zh fun K hK=>AW.region (by kernel_rfl) ?_;refine Zs ?_;refine hK _ ?_
  try clear hK K
  refine Z0 ?_;refine Zy ?_;refine Zh fun K hK=>AW.region (by kernel_rfl) ?_;refine Zs ?_;refine hK _ ?_
  try clear hK K
  refine Z1 ?_;refine Zy ?_;refine Zh fun K=>?_;intro hK;refine Zuf 3 (by kernel_rfl) rfl rfl ?_;simp -implicitDefEqProofs only[go_sem,seval,↓reduceIte,List.take_succ_cons,List.take_zero];refine ⟨_,Zgk (.inr rfl) (by kernel_rfl) (by kernel_rfl) (by kernel_rfl) zp zp (by kernel_rfl) (Zr7 _ _ _ _ _ _),?_⟩;simp -implicitDefEqProofs only[go_sem,seval,↓reduceIte,List.drop_succ_cons,List.drop_zero];refine hK _ ?_
  try clear hK K
  have hP2:res=if eq3 a b c 2 b b=true then b else 0:=by
   rw [hP,hop]
   rcases hva with rfl | rfl<;>rcases hvb with rfl | rfl<;>rcases hvc with rfl | rfl<;>rfl
  generalize eq3 a b c 2 b b=z at hP2 ⊢
  cases z with
  | true =>
   refine Z0 ?_;refine Zh fun K hK=>AW.region (by kernel_rfl) ?_;refine Zs ?_;refine hK _ ?_
   try clear hK K
   refine Z ?_
   rw [hP2]<;>rfl
  | false =>
   refine Za rfl (fun h68=>?_) (fun h68=>?_)
   ·refine Zh fun K hK=>AW.region (by kernel_rfl) ?_
    refine Zs ?_;refine hK _ ?_
    try clear hK K
    refine Z ?_
    rw [hP2]<;>rfl
   ·cases h68
 have nA:(Z6y op==3)=false:=by unfold Z6y;rw [if_neg q16];split;rfl;split;rfl;rfl
 have nD:(Z4y op==3)=false:=by unfold Z4y;rw [if_neg q22]<;>rfl
 refine Zy ?_;refine Zh fun K hK=>AW.region (by kernel_rfl) ?_;refine Zsf nA ?_;refine hK _ ?_
 try clear hK K
 refine Z0 ?_;refine Zy ?_;refine Zh fun K hK=>AW.region (by kernel_rfl) ?_;refine Zsf nD ?_;refine hK _ ?_
 try clear hK K
 refine Z0 ?_;refine Zy ?_;refine Zh fun K=>?_;intro hK;refine Zuf 3 (by kernel_rfl) rfl rfl ?_;simp -implicitDefEqProofs only[go_sem,seval,↓reduceIte,List.take_succ_cons,List.take_zero];refine ⟨_,Zgk (.inr rfl) (by kernel_rfl) (by kernel_rfl) (by kernel_rfl) zp zp (by kernel_rfl) (Zr7 _ _ _ _ _ _),?_⟩;simp -implicitDefEqProofs only[go_sem,seval,↓reduceIte,List.drop_succ_cons,List.drop_zero];refine hK _ ?_
 try clear hK K
 have hP2:res=if eq3 a b c (Z6y op) (Z15 op) (Z4y op)=true then Zt9 op else 0:=by
  have hcs:op=1∨op=2∨op=3∨op=4∨op=5∨op=6∨op=7∨op=8∨op=9∨op=10∨op=11∨op=12∨op=13∨op=14∨op=15∨op=18∨op=19∨op=20∨op=21:=by omega
  rcases hcs with rfl | rfl | rfl | rfl | rfl | rfl | rfl | rfl | rfl | rfl | rfl | rfl | rfl | rfl | rfl | rfl | rfl | rfl | rfl
  ·have hpo:Zi n.op=0:=by rw [hop]<;>rfl
   rw [hpo] at hva hvb hza hzb hzc;rw [hP,hop,hza (by decide),hzb (by decide),hzc (by decide)]
   try rfl
  ·have hpo:Zi n.op=0:=by rw [hop]<;>rfl
   rw [hpo] at hva hvb hza hzb hzc;rw [hP,hop,hza (by decide),hzb (by decide),hzc (by decide)];rw [hnm (by rw [hop]<;>rfl)]
   try rfl
  ·have hpo:Zi n.op=0:=by rw [hop]<;>rfl
   rw [hpo] at hva hvb hza hzb hzc;rw [hP,hop,hza (by decide),hzb (by decide),hzc (by decide)]
   try rfl
  ·have hpo:Zi n.op=0:=by rw [hop]<;>rfl
   rw [hpo] at hva hvb hza hzb hzc;rw [hP,hop,hza (by decide),hzb (by decide),hzc (by decide)]
   try rfl
  ·have hpo:Zi n.op=1:=by rw [hop]<;>rfl
   rw [hpo] at hva hvb hza hzb hzc;rw [hP,hop,hzb (by decide),hzc (by decide)]
   rcases hva (by decide) with rfl | rfl<;>rfl
  ·have hpo:Zi n.op=1:=by rw [hop]<;>rfl
   rw [hpo] at hva hvb hza hzb hzc;rw [hP,hop,hzb (by decide),hzc (by decide)]
   rcases hva (by decide) with rfl | rfl<;>rfl
  ·have hpo:Zi n.op=2:=by rw [hop]<;>rfl
   rw [hpo] at hva hvb hza hzb hzc;rw [hP,hop,hzc (by decide)]
   rcases hva (by decide) with rfl | rfl<;>rcases hvb (by decide) with rfl | rfl<;>rfl
  ·have hpo:Zi n.op=2:=by rw [hop]<;>rfl
   rw [hpo] at hva hvb hza hzb hzc;rw [hP,hop,hzc (by decide)]
   rcases hva (by decide) with rfl | rfl<;>rcases hvb (by decide) with rfl | rfl<;>rfl
  ·have hpo:Zi n.op=2:=by rw [hop]<;>rfl
   rw [hpo] at hva hvb hza hzb hzc;rw [hP,hop,hzc (by decide)]
   rcases hva (by decide) with rfl | rfl<;>rcases hvb (by decide) with rfl | rfl<;>rfl
  ·have hpo:Zi n.op=2:=by rw [hop]<;>rfl
   rw [hpo] at hva hvb hza hzb hzc;rw [hP,hop,hzc (by decide)]
   rcases hva (by decide) with rfl | rfl<;>rcases hvb (by decide) with rfl | rfl<;>rfl
  ·have hpo:Zi n.op=2:=by rw [hop]<;>rfl
   rw [hpo] at hva hvb hza hzb hzc;rw [hP,hop,hzc (by decide)]
   rcases hva (by decide) with rfl | rfl<;>rcases hvb (by decide) with rfl | rfl<;>rfl
  ·have hpo:Zi n.op=2:=by rw [hop]<;>rfl
   rw [hpo] at hva hvb hza hzb hzc;rw [hP,hop,hzc (by decide)]
   rcases hva (by decide) with rfl | rfl<;>rcases hvb (by decide) with rfl | rfl<;>rfl
  ·have hpo:Zi n.op=2:=by rw [hop]<;>rfl
   rw [hpo] at hva hvb hza hzb hzc;rw [hP,hop,hzc (by decide)]
   rcases hva (by decide) with rfl | rfl<;>rcases hvb (by decide) with rfl | rfl<;>rfl
  ·have hpo:Zi n.op=2:=by rw [hop]<;>rfl
   rw [hpo] at hva hvb hza hzb hzc;rw [hP,hop,hzc (by decide)]
   rcases hva (by decide) with rfl | rfl<;>rcases hvb (by decide) with rfl | rfl<;>rfl
  ·have hpo:Zi n.op=2:=by rw [hop]<;>rfl
   rw [hpo] at hva hvb hza hzb hzc;rw [hP,hop,hzc (by decide)]
   rcases hva (by decide) with rfl | rfl<;>rcases hvb (by decide) with rfl | rfl<;>rfl
  ·have hpo:Zi n.op=2:=by rw [hop]<;>rfl
   rw [hpo] at hva hvb hza hzb hzc;rw [hP,hop,hzc (by decide)]
   rcases hva (by decide) with rfl | rfl<;>rcases hvb (by decide) with rfl | rfl<;>rfl
  ·have hpo:Zi n.op=2:=by rw [hop]<;>rfl
   rw [hpo] at hva hvb hza hzb hzc;rw [hP,hop,hzc (by decide)]
   rcases hva (by decide) with rfl | rfl<;>rcases hvb (by decide) with rfl | rfl<;>rfl
  ·have hpo:Zi n.op=2:=by rw [hop]<;>rfl
   rw [hpo] at hva hvb hza hzb hzc;rw [hP,hop,hzc (by decide)]
   rcases hva (by decide) with rfl | rfl<;>rcases hvb (by decide) with rfl | rfl<;>rfl
  ·have hpo:Zi n.op=2:=by rw [hop]<;>rfl
   rw [hpo] at hva hvb hza hzb hzc;rw [hP,hop,hzc (by decide)]
   rcases hva (by decide) with rfl | rfl<;>rcases hvb (by decide) with rfl | rfl<;>rfl
 generalize eq3 a b c (Z6y op) (Z15 op) (Z4y op)=z at hP2 ⊢
 cases z with
 | true =>
  refine Z0 ?_;refine Zh fun K hK=>AW.region (by kernel_rfl) ?_;refine Zs ?_;refine hK _ ?_
  try clear hK K
  refine Z ?_
  rw [hP2]<;>rfl
 | false =>
  refine Za rfl (fun h68=>?_) (fun h68=>?_)
  ·refine Zh fun K hK=>AW.region (by kernel_rfl) ?_
   refine Zs ?_;refine hK _ ?_
   try clear hK K
   refine Z ?_
   rw [hP2]<;>rfl
  ·cases h68
end Go.Hs
end

section
namespace Go.Hs
open Go.Proofs
set_option maxRecDepth 10000
def Zlb (names:List (List UInt8)) (l:List XN):List Int × Int × Int:=if Zma l≠0 then ([],0,Zma l) else goN names l 0 []
def encKs (c:Col) (l:List Int):V:=Zd c 1 (V.int .u8) (Zea l)
def encKr (c:Col) (p:List Int × Int × Int):V := .tuple [encKs c p.1,.int .i64 p.2.1,.int .i64 p.2.2]
theorem Z86 {op:Int} {nm:Bool} {a b c:Int} (hb:b=0∨b=1∨b=2) (h:kd op nm a b c≠0):kd op nm a b c=1∨kd op nm a b c=2:=by
 have:=Z5k (op:=op) (nm:=nm) (a:=a) (c:=c) (b:=b) (by omega);omega
theorem Za6 {ks:List Int} (h:∀ y∈ks,y=1∨y=2) (i:Int):plc ks i=0∨plc ks i=1∨plc ks i=2:=by
 unfold plc
 split
 ·exact .inl rfl
 ·rw [List.getD_eq_getElem?_getD]
  cases hg:ks[i.toNat]? with
  | none=>exact .inl rfl
  | some y=>exact .inr (h y (List.mem_of_getElem? hg))
theorem Zsaa {names:List (List UInt8)} {l:List XN} {k:Nat} {n:XN} (h:l[k]? = some n) (ks:List Int):goN names (l.drop k) k ks=if Z0h names n ks=0 then ([],(k:Int),90) else goN names (l.drop (k+1)) (k+1:Nat) (ks++[Z0h names n ks]):=by
 obtain ⟨h1,h2⟩:=List.getElem?_eq_some_iff.1 h
 rw [List.drop_eq_getElem_cons h1,h2]<;>rfl
theorem Im.knC {v:V} (h:v.Im):(V.agg (knC v)).Im:=by
 refine .agg _ fun x hx=>?_
 rcases List.mem_append.1 hx with h1 | h1
 ·have:∀ l:List V,(l.all fun v=>match v with | .int _ _=>true | _=>false)=true→∀ x∈l,x.Im:=by
   intro l hl x hx;have:=List.all_eq_true.1 hl x hx
   cases x<;>first | exact .int _ _ | cases this
  exact this ruleC rfl x h1
 ·rw [List.mem_singleton.1 h1];exact h
theorem Im.xn (n:XN):(Zca n).Im:=by
 refine .agg _ fun x hx=>?_;simp only [List.mem_cons,List.not_mem_nil,or_false] at hx
 rcases hx with rfl | rfl | rfl | rfl | rfl | rfl<;>first | exact .int _ _ | exact .str _
theorem Im.strs (c:Col) (s:Sl (List UInt8)):(Zd c 1 V.str s).Im:=Ziy (fun x y hy=>by simp [V.cells] at hy;subst hy;exact .str _) s
theorem buildKn (x:V) (hx:x.cells=[x]) (hs:x.solid=true):Zec Tryz.prog 220 [(0,.agg ruleC),(1,x)]=some (.agg (knC x)):=by
 rw [Zac (tbl:=[(0,92),(92,1)]) (z:=List.replicate 92 (.int .u8 0)++[.nils]) (by kernel_rfl) (by kernel_rfl)]
 have e1:Hs.setAt (List.replicate 92 (.int .u8 0)++[.nils]) 0 ruleC=ruleC++[.nils]:=by
  rw [Zis _ _ _ (by decide)]<;>rfl
 have e2:Hs.setAt (ruleC++[.nils]) 92 [x]=knC x:=by
  show (ruleC++[V.nils]).set 92 x=ruleC++[x]
  rw [List.set_append_right _ _ (by decide)]<;>rfl
 have l1:(List.replicate 92 (V.int .u8 0)++[V.nils]).length=93:=rfl;have l2:(ruleC++[V.nils]).length=93:=rfl;have c1:(V.agg ruleC).cells=ruleC:=rfl;have s1:(V.agg ruleC).solid=true:=rfl;have t0:Zhn [(0,92),(92,1)] 0=some (0,92):=rfl;have t1:Zhn [(0,92),(92,1)] 1=some (92,1):=rfl;simp only [Zfc,t0,t1,c1,s1,hx,hs,l1,Zeo,e1,l2,e2,List.length_singleton,true_and,Nat.zero_add];rfl
theorem Zt7 {α : Type} (c:Col) (m:Nat) (f : α → V) (s:Sl α):(Zd c m f s).solid=true:=by cases s<;>rfl
theorem Zu7 {α : Type} (c:Col) (m:Nat) (f : α → V) (s:Sl α):(Zd c m f s).cells=[Zd c m f s]:=by cases s<;>rfl
theorem Zs9 (l:List V) (v:V) (h:l.length=93):Hs.setAt l 0 (knC v)=knC v:=Zzv (by rw [h,Z3o])
theorem Zfl (x:Int):(V.int .u8 x).cells.length=1:=rfl
theorem Zxy (G:Nat→V) (hE:GExp G) (c c1:Col) (s:Sl XN) (names:Sl (List UInt8)) (hs:s.l.length<1000000) (hnm:∀ n∈s.l,n.name.length<100000) (hnl:names.l.length<1000000) :
  Spec Tryz.prog G 91 [.agg [Zd c 6 Zca s],Zd c1 1 V.str names] Zl (fun v _=>v=encKr .new (Zlb names.l s.l)):=by
 have hG:=hE.ok;refine Zo 0 40 [.tmp 4,.tmp 5,.tmp 6] Tryz.func91 fun X=>?_
 have hP:Zlb names.l s.l=if Zma s.l≠0 then ([],0,Zma s.l) else goN names.l s.l 0 []:=rfl
 generalize Zlb names.l s.l=res at hP ⊢;refine Z1 ?_;intro g2;refine Z1 ?_;refine Zcf @Z4 hG ?_ (s:=(Zyg G hE _ s hs hnm));refine Z1 ?_
 by_cases hc:Zma s.l=0
 rotate_left
 ·have q1:(Zma s.l != 0)=true:=by simpa using hc
  rw [if_pos hc] at hP;refine Za rfl (fun h14=>?_) (fun h14=>?_)
  ·refine Z ?_
   rw [hP]<;>rfl
  ·rw [q1] at h14;cases h14
 have q1:(Zma s.l != 0)=false:=by simpa using hc
 rw [if_neg (by simpa using hc)] at hP;refine Za rfl (fun h14=>?_) (fun h14=>?_)
 ·rw [q1] at h14;cases h14
 refine Z0 ?_
 have hdep:Zdb s.l≠0:=by
  intro h;rw [Zma,if_pos h] at hc;cases hc
 refine Z1 ?_;refine Zn hG ?_ (s:=(Zwy G hG));have hrr:(V.agg ruleC).recol Col.bk = .agg ruleC:=rfl;have hrl:(V.agg ruleC).cells=ruleC:=rfl;simp -implicitDefEqProofs only[go_sem,seval,↓reduceIte,hrr,Zeo,buildKn (Zd c1 1 V.str names) (Zu7 ..) (Zt7 ..)];intro g7;refine Zsf (zi @Z3o @Z17) ?_;rw [Zs9 _ _ ?hl]
 case hl=>rfl
 refine Z1 ?_;refine AW.block ?_
 refine Zua s.l.length (fun k (x:Nat × List Int)=>st [(4,grown 37 x.1 1 x.2),(7,.ptr 7 g7 0),(20,Zd c 6 Zca s),(21,.int .i64 s.l.length),(22,.int .i64 k)] [(7,.cells .new g7 0 (knC (Zd c1 1 V.str names))),(37,Zjb x.1 (V.int .u8) x.2)])
  (fun k x=>res=goN names.l (s.l.drop k) k x.2∧x.2.length=k∧∀ y∈x.2,y=1∨y=2) 0 (0,[]) (Nat.zero_le _) ⟨hP,rfl,fun y hy=>by cases hy⟩
  (Zb zp zp) ?_
 rintro k ⟨gx,ks⟩ hk ⟨hR,hkl,hkr⟩ L3 hL3
 replace hR:res=goN names.l (s.l.drop k) k ks:=hR
 replace hkl:ks.length=k:=hkl
 replace hkr:∀ y∈ks,y=1∨y=2:=hkr
 refine Z1 ?_;refine Zy ?_;refine Za rfl (fun h23=>?_) (fun h23=>?_)
 ·have hk1:k<s.l.length:=by simpa using h23
  have hg:=List.getElem?_eq_getElem hk1;generalize s.l[k]=n at hg;rw [Zsaa hg] at hR;have hpl:PlOk ks.length n:=hkl ▸ Zx9 hdep hg;refine Z1f (zi hg @Zt) ?_;intro g9;refine Z1f @Z3o ?_;rw [← Zt];refine Z8c hG [.agg (knC (Zd c1.ent 1 V.str names)),Zca n,Zd .old 1 (V.int .u8) (Zea ks)] (by kernel_rfl) ⟨?_,?_,?_,trivial⟩ ?_
  ·refine Znl (Im.knC (Im.strs _ _)) ?_
   show (V.agg (knC _)).recol _=_
   rw [Zme,Z56];simp -implicitDefEqProofs only[go_sem,seval,↓reduceIte]
  ·exact Znl (Im.xn n) (Zti _ _)
  ·exact Z7aa (g:=gx) (f:=V.int .u8) (f':=V.int .u8) zp Zfl (fun x y hy=>by simp [V.cells] at hy;subst hy;exact .int _ _) (fun _=>rfl)
  refine (Z72 G hG _ _ names hnl n (Zea ks) (by rw [Zza];exact hpl) (by rw [Zza];omega) (by rw [Zza];exact hkr)).mono ?_;rintro _ _ rfl;refine ⟨.int _ _,?_⟩;rw [Zza];have hkd:=fun h=>Z86 (op:=n.op) (nm:=names.l.contains n.name) (a:=plc ks n.a) (c:=plc ks n.c) (Za6 hkr n.b) h;have hkn:Z0h names.l n ks=kd n.op (names.l.contains n.name) (plc ks n.a) (plc ks n.b) (plc ks n.c):=rfl;rw [← hkn] at hkd;generalize Z0h names.l n ks=v at hR hkd ⊢;refine Zs ?_;refine Z1 ?_
  by_cases hv:v=0
  ·have q2:(v==0)=true:=by simpa using hv
   rw [if_pos hv] at hR;refine Za rfl (fun h32=>?_) (fun h32=>?_)
   ·refine Z ?_
    rw [hR]<;>rfl
   ·rw [q2] at h32;cases h32
  have q2:(v==0)=false:=by simpa using hv
  rw [if_neg hv] at hR;refine Za rfl (fun h32=>?_) (fun h32=>?_)
  ·rw [q2] at h32;cases h32
  refine Z1 ?_;intro g36;refine Zpb (f:=V.int .u8) (l:=ks) (l2:=[v]) (g:=gx) Zfl rfl rfl rfl zp (Zda (by omega) (by simp;omega)) fun g2=>?_;refine Zs ?_;refine Z1 ?_;refine hL3 _ ⟨hk1,(g2,ks++[v]),⟨hR,by rw [List.length_append,hkl]<;>rfl,?_⟩,Zb zw zp⟩;intro y hy
  rcases List.mem_append.1 hy with h | h
  ·exact hkr y h
  ·rw [List.mem_singleton.1 h];exact hkd hv
 ·have hk1:k=s.l.length:=by simp at h23;omega
  refine Z0 ?_;rw [hk1,List.drop_length] at hR;refine AW.weak (Z2 (fun o=>o==37) (l:=[(4,encKs .new ks)]) (m:=[]) ?_ trivial) ?_
  ·refine Zs ?_
   exact Zyb rfl rfl Zfl
  refine Z ?_
  rw [hR]<;>rfl
end Go.Hs
end

section
namespace Go.Hs
open Go.Proofs
set_option maxRecDepth 10000
theorem Zf7 {names:List (List UInt8)}:∀ (l:List XN) (i:Int) (acc:List Int),(goN names l i acc).2.2=0→(goN names l i acc).1.length=acc.length+l.length
 | [],i,acc,_=>rfl
 | n::r,i,acc,h=>by
  rw [goN] at h ⊢
  split
  ·rename_i h1
   rw [if_pos h1] at h;cases h
  ·rename_i h1
   rw [if_neg h1] at h;have:=Zf7 r (i+1) (acc++[Z0h names n acc]) h;rw [this];simp;omega
theorem Zfr {names:List (List UInt8)} {l:List XN} (h:(Zlb names l).2.2=0):(Zlb names l).1.length=l.length∧0<l.length:=by
 unfold Zlb at h ⊢
 by_cases hc:Zma l=0
 ·rw [if_neg (by simpa using hc)] at h ⊢
  refine ⟨by have:=Zf7 l 0 [] h;simpa using this,?_⟩
  cases l with
  | nil=>exact absurd hc (by decide)
  | cons=>simp
 ·rw [if_pos hc] at h
  exact absurd h hc
def Z3l (names:List (List UInt8)) (l:List XN):Int × Int × Int:=if (Zlb names l).2.2≠0 then (0,(Zlb names l).2.1,(Zlb names l).2.2) else ((Zlb names l).1.getD ((Zlb names l).1.length-1) 0,0,0)
def encO3 (p:Int × Int × Int):V := .tuple [.int .u8 p.1,.int .i64 p.2.1,.int .i64 p.2.2]
theorem Zr1 (g:Col→Col) (c:Col) (s:Sl Int):(Zd c 1 (V.int .u8) s).recol g=Zd (g c) 1 (V.int .u8) s:=Z1b g c 1 (fun _=>rfl) s
theorem Zf9 (G:Nat→V) (hE:GExp G) (c c1:Col) (s:Sl XN) (names:Sl (List UInt8)) (hs:s.l.length<1000000) (hnm:∀ n∈s.l,n.name.length<100000) (hnl:names.l.length<1000000) :
  Spec Tryz.prog G 43 [.agg [Zd c 6 Zca s],Zd c1 1 V.str names] Zl (fun v _=>v=encO3 (Z3l names.l s.l)):=by
 have hG:=hE.ok;refine Zo 0 25 [.tmp 4,.tmp 5,.tmp 6] Tryz.func43 fun X=>?_
 have hP:Z3l names.l s.l=if (Zlb names.l s.l).2.2≠0 then (0,(Zlb names.l s.l).2.1,(Zlb names.l s.l).2.2) else ((Zlb names.l s.l).1.getD ((Zlb names.l s.l).1.length-1) 0,0,0):=rfl
 have hKi:=fun c c1=>Zxy G hE c c1 s names hs hnm hnl;have hL:=Zfr (names:=names.l) (l:=s.l);generalize Z3l names.l s.l=res at hP ⊢;generalize Zlb names.l s.l=p at hP hKi hL;obtain ⟨ks,i,e⟩:=p;simp only at hP hL;refine Z1 ?_;intro g2;refine Z1 ?_;refine Znf @Z4 hG ?_ (s:=(hKi _ _));refine Zsf (zi @encKr.eq_1 (zi @encKs.eq_1 @Zr1)) ?_;refine Z1 ?_
 by_cases he:e=0
 rotate_left
 ·have q1:(e != 0)=true:=by simpa using he
  rw [if_pos he] at hP;refine Za rfl (fun h16=>?_) (fun h16=>?_)
  ·refine Z ?_
   rw [hP]<;>rfl
  ·rw [q1] at h16;cases h16
 have q1:(e != 0)=false:=by simpa using he
 rw [if_neg (by simpa using he)] at hP;obtain ⟨hl1,hl2⟩:=hL he;refine Za rfl (fun h16=>?_) (fun h16=>?_)
 ·rw [q1] at h16;cases h16
 refine Z0 ?_;obtain ⟨m,hm⟩:∃ m:Nat,ks.length=m+1:=⟨ks.length-1,by omega⟩
 have hw:IntKind.i64.wrap ((ks.length:Int)-1)=(m:Int):=by rw [w64 (by omega) (by omega)];omega
 obtain ⟨v,hv⟩:∃ v,ks[m]? = some v:=⟨_,List.getElem?_eq_getElem (by omega)⟩
 have hgd:ks.getD (ks.length-1) 0=v:=by rw [show ks.length-1=m by omega,List.getD_eq_getElem?_getD,hv]<;>rfl
 rw [hgd] at hP;refine Zf (zi hw hv) ?_
 rw [hP]<;>rfl
end Go.Hs
end

section
namespace Go.Hs
open Go.Proofs
set_option maxRecDepth 10000
theorem Zjh {α : Type} (p : α → Bool) {l:List α} {k:Nat} {x : α} (h:l[k]? = some x) (ht:(l.take k).all p=true) (hx:p x=true):(l.take (k+1)).all p=true:=by
 rw [List.take_add_one,h,List.all_append,ht];simp [hx]
theorem Zhi {α : Type} (p : α → Bool) {l:List α} {k:Nat} {x : α} (h:l[k]? = some x) (hx:p x=false):l.all p=false:=by
 rw [← Bool.not_eq_true,List.all_eq_true];intro ha;rw [ha x (List.mem_of_getElem? h)] at hx;cases hx
end Go.Hs
end

section
namespace Go.Hs
open Go.Proofs
set_option maxRecDepth 10000
theorem kd_1 {op:Int} {nm:Bool} {a b c:Int} (h:op=1):kd op nm a b c=1:=by unfold kd;rw [if_pos (.inl h)]
theorem Ztn {op:Int} {nm:Bool} {a b c v:Int} (h1:op≠1) (h2:op≠2) (h:(if op=3∨op=4 then 2
 else if op=5∧a=1∨7≤op∧op≤11∧a=1∧b=1 then 1
 else if 12≤op∧op≤15∧a=1∧b=1∨(op=16∨op=17)∧a=b∧a≠0 then 2
 else if op=6∧a=2∨18≤op∧op≤21∧a=2∧b=2 then 2
 else if op=22∧a=2∧b=c then b else 0:Int)=v):kd op nm a b c=v:=by
 unfold kd;rw [if_neg (by rintro (h | h);exact h1 h;exact h2 h.1)];exact h
theorem Zc4 (i:Decidable True) : @decide True i=true:=decide_eq_true_iff.2 trivial
theorem Zd4 (i:Decidable False) : @decide False i=false:=decide_eq_false_iff_not.2 id
def kn0 (s:Sl XN) (names:Sl (List UInt8)) (G:Nat→V) (i d:Int):Prop:=∀ c c1,Spec Tryz.prog G 168 [Zd c 6 Zca s,.int .i64 i,Zd c1 1 V.str names] Zl (fun v _=>v = .int .i64 d)
set_option maxHeartbeats 4000000 in
theorem Zxi (G:Nat→V) (hG:GOk G) (s:Sl XN) (names:Sl (List UInt8)) (hnl:names.l.length<1000000) (m:Nat) (n:XN) (hg:s.l[m]? = some n) (hop:1≤n.op∧n.op≤22) (a b c:Int)
  (ha:n.a<0∧a=0∨0≤n.a∧kn0 s names G n.a a) (hb:n.b<0∧b=0∨0≤n.b∧kn0 s names G n.b b) (hc:n.c<0∧c=0∨0≤n.c∧kn0 s names G n.c c) :
  kn0 s names G m (kd n.op (names.l.contains n.name) a b c):=by
 intro c0 c1;refine Zo 0 153 [.tmp 6] Tryz.func168 fun X=>?_;have hm:m<s.l.length:=(List.getElem?_eq_some_iff.1 hg).1;have hP:kd n.op (names.l.contains n.name) a b c=kd n.op (names.l.contains n.name) a b c:=rfl;generalize hres:kd n.op (names.l.contains n.name) a b c=res;rw [hres] at hP
 replace hP:=hP.symm.trans hP
 try clear hP
 have hP:res=kd n.op (names.l.contains n.name) a b c:=hres.symm
 try clear hres
 refine Z1 ?_;refine Z1f (zi hg (zi hm @Zt)) ?_;intro g7;refine Z1 ?_;refine Z9 (fun (_:Unit)=>st [(0,Zd c0 6 Zca s),(2,Zd c1 1 V.str names),(7,.ptr 7 g7 0),(8,.int .i64 a),(9,.int .i64 0),(10,.int .i64 0)] [(7,.cells .new g7 0 [.int .u8 n.op,.int .i64 n.num,.str n.name,.int .i64 n.a,.int .i64 n.b,.int .i64 n.c])]) (fun _=>True) (fun K1 hK1=>?_) ?_
 ·refine Z1 ?_
  rcases ha with ⟨h1,h2⟩ | ⟨h1,h2⟩
  ·have q1:decide (n.a≥0)=false:=zF
   refine Za rfl (fun h18=>?_) (fun h18=>?_)
   ·rw [q1] at h18;cases h18
   refine Z0 ?_;exact hK1 _ () trivial (Zb (by simp -implicitDefEqProofs only[go_sem,seval,↓reduceIte];rw [h2]) zp)
  ·have q1:decide (n.a≥0)=true:=zT
   refine Za rfl (fun h18=>?_) (fun h18=>?_);rotate_left
   ·rw [q1] at h18;cases h18
   refine Z1 ?_;refine Zcf @Z4 hG ?_ (s:=(h2 _ _));exact hK1 _ () trivial (Zb zp zp)
 intro _ _;refine Z9 (fun (_:Unit)=>st [(0,Zd c0 6 Zca s),(2,Zd c1 1 V.str names),(7,.ptr 7 g7 0),(8,.int .i64 a),(9,.int .i64 b),(10,.int .i64 0)] [(7,.cells .new g7 0 [.int .u8 n.op,.int .i64 n.num,.str n.name,.int .i64 n.a,.int .i64 n.b,.int .i64 n.c])]) (fun _=>True) (fun K1 hK1=>?_) ?_
 ·refine Z1 ?_
  rcases hb with ⟨h1,h2⟩ | ⟨h1,h2⟩
  ·have q1:decide (n.b≥0)=false:=zF
   refine Za rfl (fun h26=>?_) (fun h26=>?_)
   ·rw [q1] at h26;cases h26
   refine Z0 ?_;exact hK1 _ () trivial (Zb (by simp -implicitDefEqProofs only[go_sem,seval,↓reduceIte];rw [h2]) zp)
  ·have q1:decide (n.b≥0)=true:=zT
   refine Za rfl (fun h26=>?_) (fun h26=>?_);rotate_left
   ·rw [q1] at h26;cases h26
   refine Z1 ?_;refine Zcf @Z4 hG ?_ (s:=(h2 _ _));exact hK1 _ () trivial (Zb zp zp)
 intro _ _;refine Z9 (fun (_:Unit)=>st [(0,Zd c0 6 Zca s),(2,Zd c1 1 V.str names),(7,.ptr 7 g7 0),(8,.int .i64 a),(9,.int .i64 b),(10,.int .i64 c)] [(7,.cells .new g7 0 [.int .u8 n.op,.int .i64 n.num,.str n.name,.int .i64 n.a,.int .i64 n.b,.int .i64 n.c])]) (fun _=>True) (fun K1 hK1=>?_) ?_
 ·refine Z1 ?_
  rcases hc with ⟨h1,h2⟩ | ⟨h1,h2⟩
  ·have q1:decide (n.c≥0)=false:=zF
   refine Za rfl (fun h34=>?_) (fun h34=>?_)
   ·rw [q1] at h34;cases h34
   refine Z0 ?_;exact hK1 _ () trivial (Zb (by simp -implicitDefEqProofs only[go_sem,seval,↓reduceIte];rw [h2]) zp)
  ·have q1:decide (n.c≥0)=true:=zT
   refine Za rfl (fun h34=>?_) (fun h34=>?_);rotate_left
   ·rw [q1] at h34;cases h34
   refine Z1 ?_;refine Zcf @Z4 hG ?_ (s:=(h2 _ _));exact hK1 _ () trivial (Zb zp zp)
 intro _ _
 try clear ha hb hc hg hm
 obtain ⟨op,num,name,na,nb,nc⟩:=n;simp only at hop hP;refine Z1 ?_;refine Zy ?_;refine AW.block ?_
 by_cases hc2:op=2
 ·subst hc2
  refine Z1 ?_;refine Zc hG ?_ (s:=(Zew G hG _ name names hnl))
  cases hcn:names.l.contains name with
  | true =>
   refine Z ?_
   rw [hP,hcn]<;>rfl
  | false =>
   have hkd:res=0:=by rw [hP,hcn]<;>rfl
   refine Z ?_;rw [hkd]
 by_cases hc1:op=1
 ·subst hc1
  have hkd:res=1:=by
   rw [hP];exact kd_1 (by omega)
  refine Z ?_;rw [hkd]
 by_cases hc3:op=3
 ·subst hc3
  have hkd:res=2:=by
   rw [hP];exact Ztn (by omega) (by omega) (by repeat' split<;>omega)
  refine Z ?_;rw [hkd]
 by_cases hc4:op=4
 ·subst hc4
  have hkd:res=2:=by
   rw [hP];exact Ztn (by omega) (by omega) (by repeat' split<;>omega)
  refine Z ?_;rw [hkd]
 by_cases hc5:op=5
 ·subst hc5
  by_cases hs0:a=1
  ·have s0:(a==1)=true:=by simpa using hs0
   have hkd:res=1:=by
    rw [hP];exact Ztn (by omega) (by omega) (by repeat' split<;>omega)
   refine Zf (zi @Zc4 (zi @Zd4 s0)) ?_;rw [hkd]
  by_cases hs1:¬ a=1
  ·have s0:(a==1)=false:=by simpa using hs1
   have hkd:res=0:=by
    rw [hP];exact Ztn (by omega) (by omega) (by repeat' split<;>omega)
   refine Zf (zi @Zc4 (zi @Zd4 s0)) ?_;rw [hkd]
  exfalso;omega
 by_cases hc6:op=6
 ·subst hc6
  by_cases hs0:a=2
  ·have s0:(a==2)=true:=by simpa using hs0
   have hkd:res=2:=by
    rw [hP];exact Ztn (by omega) (by omega) (by repeat' split<;>omega)
   refine Zf (zi @Zc4 (zi @Zd4 s0)) ?_;rw [hkd]
  by_cases hs1:¬ a=2
  ·have s0:(a==2)=false:=by simpa using hs1
   have hkd:res=0:=by
    rw [hP];exact Ztn (by omega) (by omega) (by repeat' split<;>omega)
   refine Zf (zi @Zc4 (zi @Zd4 s0)) ?_;rw [hkd]
  exfalso;omega
 by_cases hc7:7≤op∧op≤11
 ·have f0:(op==1)=false:=by rw [beq_eq_false_iff_ne];omega
  have f1:(op==2)=false:=by rw [beq_eq_false_iff_ne];omega
  have f2:(op==3)=false:=by rw [beq_eq_false_iff_ne];omega
  have f3:(op==4)=false:=by rw [beq_eq_false_iff_ne];omega
  have f4:(op==5)=false:=by rw [beq_eq_false_iff_ne];omega
  have f5:(op==6)=false:=by rw [beq_eq_false_iff_ne];omega
  have f6:(op==16)=false:=by rw [beq_eq_false_iff_ne];omega
  have f7:(op==17)=false:=by rw [beq_eq_false_iff_ne];omega
  have f8:(op==22)=false:=by rw [beq_eq_false_iff_ne];omega
  have f9:decide (op≥7)=true:=zT;have f10:decide (op≥12)=false:=zF;have f11:decide (op≥18)=false:=zF;have f12:decide (op≤11)=true:=zT;have f13:decide (op≤15)=true:=zT;have f14:decide (op≤21)=true:=zT
  by_cases hs0:a=1∧b=1
  ·have s0:(a==1)=true:=by simpa using hs0.1
   have s1:(b==1)=true:=by simpa using hs0.2
   have hkd:res=1:=by
    rw [hP];exact Ztn (by omega) (by omega) (by repeat' split<;>omega)
   refine Zf (zi f0 (zi f1 (zi f2 (zi f3 (zi f4 (zi f5 (zi f6 (zi f7 (zi f8 (zi f9 (zi f10 (zi f11 (zi f12 (zi f13 (zi f14 (zi s0 s1)))))))))))))))) ?_;rw [hkd]
  by_cases hs1:a=1∧¬ b=1
  ·have s0:(a==1)=true:=by simpa using hs1.1
   have s1:(b==1)=false:=by simpa using hs1.2
   have hkd:res=0:=by
    rw [hP];exact Ztn (by omega) (by omega) (by repeat' split<;>omega)
   refine Zf (zi f0 (zi f1 (zi f2 (zi f3 (zi f4 (zi f5 (zi f6 (zi f7 (zi f8 (zi f9 (zi f10 (zi f11 (zi f12 (zi f13 (zi f14 (zi s0 s1)))))))))))))))) ?_;rw [hkd]
  by_cases hs2:¬ a=1
  ·have s0:(a==1)=false:=by simpa using hs2
   have hkd:res=0:=by
    rw [hP];exact Ztn (by omega) (by omega) (by repeat' split<;>omega)
   refine Zf (zi f0 (zi f1 (zi f2 (zi f3 (zi f4 (zi f5 (zi f6 (zi f7 (zi f8 (zi f9 (zi f10 (zi f11 (zi f12 (zi f13 (zi f14 s0))))))))))))))) ?_;rw [hkd]
  exfalso;omega
 by_cases hc12:12≤op∧op≤15
 ·have f0:(op==1)=false:=by rw [beq_eq_false_iff_ne];omega
  have f1:(op==2)=false:=by rw [beq_eq_false_iff_ne];omega
  have f2:(op==3)=false:=by rw [beq_eq_false_iff_ne];omega
  have f3:(op==4)=false:=by rw [beq_eq_false_iff_ne];omega
  have f4:(op==5)=false:=by rw [beq_eq_false_iff_ne];omega
  have f5:(op==6)=false:=by rw [beq_eq_false_iff_ne];omega
  have f6:(op==16)=false:=by rw [beq_eq_false_iff_ne];omega
  have f7:(op==17)=false:=by rw [beq_eq_false_iff_ne];omega
  have f8:(op==22)=false:=by rw [beq_eq_false_iff_ne];omega
  have f9:decide (op≥7)=true:=zT;have f10:decide (op≥12)=true:=zT;have f11:decide (op≥18)=false:=zF;have f12:decide (op≤11)=false:=zF;have f13:decide (op≤15)=true:=zT;have f14:decide (op≤21)=true:=zT
  by_cases hs0:a=1∧b=1
  ·have s0:(a==1)=true:=by simpa using hs0.1
   have s1:(b==1)=true:=by simpa using hs0.2
   have hkd:res=2:=by
    rw [hP];exact Ztn (by omega) (by omega) (by repeat' split<;>omega)
   refine Zf (zi f0 (zi f1 (zi f2 (zi f3 (zi f4 (zi f5 (zi f6 (zi f7 (zi f8 (zi f9 (zi f10 (zi f11 (zi f12 (zi f13 (zi f14 (zi s0 s1)))))))))))))))) ?_;rw [hkd]
  by_cases hs1:a=1∧¬ b=1
  ·have s0:(a==1)=true:=by simpa using hs1.1
   have s1:(b==1)=false:=by simpa using hs1.2
   have hkd:res=0:=by
    rw [hP];exact Ztn (by omega) (by omega) (by repeat' split<;>omega)
   refine Zf (zi f0 (zi f1 (zi f2 (zi f3 (zi f4 (zi f5 (zi f6 (zi f7 (zi f8 (zi f9 (zi f10 (zi f11 (zi f12 (zi f13 (zi f14 (zi s0 s1)))))))))))))))) ?_;rw [hkd]
  by_cases hs2:¬ a=1
  ·have s0:(a==1)=false:=by simpa using hs2
   have hkd:res=0:=by
    rw [hP];exact Ztn (by omega) (by omega) (by repeat' split<;>omega)
   refine Zf (zi f0 (zi f1 (zi f2 (zi f3 (zi f4 (zi f5 (zi f6 (zi f7 (zi f8 (zi f9 (zi f10 (zi f11 (zi f12 (zi f13 (zi f14 s0))))))))))))))) ?_;rw [hkd]
  exfalso;omega
 by_cases hc16:op=16
 ·subst hc16
  by_cases hs0:a=b∧¬ a=0
  ·have s0:(a==b)=true:=by simpa using hs0.1
   have s1:(a != 0)=true:=by simpa using hs0.2
   have hkd:res=2:=by
    rw [hP];exact Ztn (by omega) (by omega) (by repeat' split<;>omega)
   refine Zf (zi @Zc4 (zi @Zd4 (zi s0 s1))) ?_;rw [hkd]
  by_cases hs1:a=b∧a=0
  ·have s0:(a==b)=true:=by simpa using hs1.1
   have s1:(a != 0)=false:=by simpa using hs1.2
   have hkd:res=0:=by
    rw [hP];exact Ztn (by omega) (by omega) (by repeat' split<;>omega)
   refine Zf (zi @Zc4 (zi @Zd4 (zi s0 s1))) ?_;rw [hkd]
  by_cases hs2:¬ a=b
  ·have s0:(a==b)=false:=by simpa using hs2
   have hkd:res=0:=by
    rw [hP];exact Ztn (by omega) (by omega) (by repeat' split<;>omega)
   refine Zf (zi @Zc4 (zi @Zd4 s0)) ?_;rw [hkd]
  exfalso;omega
 by_cases hc17:op=17
 ·subst hc17
  by_cases hs0:a=b∧¬ a=0
  ·have s0:(a==b)=true:=by simpa using hs0.1
   have s1:(a != 0)=true:=by simpa using hs0.2
   have hkd:res=2:=by
    rw [hP];exact Ztn (by omega) (by omega) (by repeat' split<;>omega)
   refine Zf (zi @Zc4 (zi @Zd4 (zi s0 s1))) ?_;rw [hkd]
  by_cases hs1:a=b∧a=0
  ·have s0:(a==b)=true:=by simpa using hs1.1
   have s1:(a != 0)=false:=by simpa using hs1.2
   have hkd:res=0:=by
    rw [hP];exact Ztn (by omega) (by omega) (by repeat' split<;>omega)
   refine Zf (zi @Zc4 (zi @Zd4 (zi s0 s1))) ?_;rw [hkd]
  by_cases hs2:¬ a=b
  ·have s0:(a==b)=false:=by simpa using hs2
   have hkd:res=0:=by
    rw [hP];exact Ztn (by omega) (by omega) (by repeat' split<;>omega)
   refine Zf (zi @Zc4 (zi @Zd4 s0)) ?_;rw [hkd]
  exfalso;omega
 by_cases hc18:18≤op∧op≤21
 ·have f0:(op==1)=false:=by rw [beq_eq_false_iff_ne];omega
  have f1:(op==2)=false:=by rw [beq_eq_false_iff_ne];omega
  have f2:(op==3)=false:=by rw [beq_eq_false_iff_ne];omega
  have f3:(op==4)=false:=by rw [beq_eq_false_iff_ne];omega
  have f4:(op==5)=false:=by rw [beq_eq_false_iff_ne];omega
  have f5:(op==6)=false:=by rw [beq_eq_false_iff_ne];omega
  have f6:(op==16)=false:=by rw [beq_eq_false_iff_ne];omega
  have f7:(op==17)=false:=by rw [beq_eq_false_iff_ne];omega
  have f8:(op==22)=false:=by rw [beq_eq_false_iff_ne];omega
  have f9:decide (op≥7)=true:=zT;have f10:decide (op≥12)=true:=zT;have f11:decide (op≥18)=true:=zT;have f12:decide (op≤11)=false:=zF;have f13:decide (op≤15)=false:=zF;have f14:decide (op≤21)=true:=zT
  by_cases hs0:a=2∧b=2
  ·have s0:(a==2)=true:=by simpa using hs0.1
   have s1:(b==2)=true:=by simpa using hs0.2
   have hkd:res=2:=by
    rw [hP];exact Ztn (by omega) (by omega) (by repeat' split<;>omega)
   refine Zf (zi f0 (zi f1 (zi f2 (zi f3 (zi f4 (zi f5 (zi f6 (zi f7 (zi f8 (zi f9 (zi f10 (zi f11 (zi f12 (zi f13 (zi f14 (zi s0 s1)))))))))))))))) ?_;rw [hkd]
  by_cases hs1:a=2∧¬ b=2
  ·have s0:(a==2)=true:=by simpa using hs1.1
   have s1:(b==2)=false:=by simpa using hs1.2
   have hkd:res=0:=by
    rw [hP];exact Ztn (by omega) (by omega) (by repeat' split<;>omega)
   refine Zf (zi f0 (zi f1 (zi f2 (zi f3 (zi f4 (zi f5 (zi f6 (zi f7 (zi f8 (zi f9 (zi f10 (zi f11 (zi f12 (zi f13 (zi f14 (zi s0 s1)))))))))))))))) ?_;rw [hkd]
  by_cases hs2:¬ a=2
  ·have s0:(a==2)=false:=by simpa using hs2
   have hkd:res=0:=by
    rw [hP];exact Ztn (by omega) (by omega) (by repeat' split<;>omega)
   refine Zf (zi f0 (zi f1 (zi f2 (zi f3 (zi f4 (zi f5 (zi f6 (zi f7 (zi f8 (zi f9 (zi f10 (zi f11 (zi f12 (zi f13 (zi f14 s0))))))))))))))) ?_;rw [hkd]
  exfalso;omega
 by_cases hc22:op=22
 ·subst hc22
  by_cases hs0:a=2∧b=c
  ·have s0:(a==2)=true:=by simpa using hs0.1
   have s1:(b==c)=true:=by simpa using hs0.2
   have hkd:res=b:=by
    rw [hP];exact Ztn (by omega) (by omega) (by repeat' split<;>omega)
   refine Zf (zi @Zc4 (zi @Zd4 (zi s0 s1))) ?_;rw [hkd]
  by_cases hs1:a=2∧¬ b=c
  ·have s0:(a==2)=true:=by simpa using hs1.1
   have s1:(b==c)=false:=by simpa using hs1.2
   have hkd:res=0:=by
    rw [hP];exact Ztn (by omega) (by omega) (by repeat' split<;>omega)
   refine Zf (zi @Zc4 (zi @Zd4 (zi s0 s1))) ?_;rw [hkd]
  by_cases hs2:¬ a=2
  ·have s0:(a==2)=false:=by simpa using hs2
   have hkd:res=0:=by
    rw [hP];exact Ztn (by omega) (by omega) (by repeat' split<;>omega)
   refine Zf (zi @Zc4 (zi @Zd4 s0)) ?_;rw [hkd]
  exfalso;omega
 exfalso;omega
end Go.Hs
end

section
namespace Go.Hs
open Go.Proofs
set_option maxRecDepth 10000
theorem Z5g (G:Nat→V) (hG:GOk G) (s:Sl XN) (names:Sl (List UInt8)) (hnl:names.l.length<1000000):∀ (x:X) (b:Nat),At s.l x b→x.ok=true→kn0 s names G ((b:Int)+x.size-1) (Zgb names.l x)
 | .leaf op num name,b,h,ho=>by
  simp only [X.ok,Bool.and_eq_true,decide_eq_true_eq] at ho;have hr:=Zeg ho.1;have:=Zxi G hG s names hnl b _ h.get hr 0 0 0 (.inl ⟨by show (-1:Int)<0;decide,rfl⟩) (.inl ⟨by show (-1:Int)<0;decide,rfl⟩) (.inl ⟨by show (-1:Int)<0;decide,rfl⟩)
  have e:(b:Int)+(X.leaf op num name).size-1=(b:Nat):=by simp only [X.size];omega
  rw [e];exact this
 | .un op a,b,h,ho=>by
  simp only [X.ok,Bool.and_eq_true,decide_eq_true_eq] at ho;have ih:=Z5g G hG s names hnl a b h.un ho.2;have hp:=a.size_pos;have:=Zxi G hG s names hnl _ _ h.get (by show 1≤op∧op≤22;omega) _ 0 0 (.inr ⟨by show (0:Int)≤(b:Int)+a.size-1;omega,ih⟩) (.inl ⟨by show (-1:Int)<0;decide,rfl⟩) (.inl ⟨by show (-1:Int)<0;decide,rfl⟩)
  have e:(b:Int)+(X.un op a).size-1=((b+(X.un op a).size-1:Nat):Int):=by simp only [X.size];omega
  rw [e];exact this
 | .bin op x y,b,h,ho=>by
  simp only [X.ok,Bool.and_eq_true,decide_eq_true_eq] at ho;obtain ⟨hx,hy⟩:=h.bin;have ihx:=Z5g G hG s names hnl x b hx ho.1.2;have ihy:=Z5g G hG s names hnl y (b+x.size) hy ho.2;have hp1:=x.size_pos;have hp2:=y.size_pos;rw [show ((b+x.size:Nat):Int)+y.size-1=(b:Int)+x.size+y.size-1 by omega] at ihy;have:=Zxi G hG s names hnl _ _ h.get (by show 1≤op∧op≤22;omega) _ _ 0 (.inr ⟨by show (0:Int)≤(b:Int)+x.size-1;omega,ihx⟩) (.inr ⟨by show (0:Int)≤(b:Int)+x.size+y.size-1;omega,ihy⟩) (.inl ⟨by show (-1:Int)<0;decide,rfl⟩)
  have e:(b:Int)+(X.bin op x y).size-1=((b+(X.bin op x y).size-1:Nat):Int):=by simp only [X.size];omega
  rw [e];exact this
 | .ite x y z,b,h,ho=>by
  simp only [X.ok,Bool.and_eq_true] at ho;obtain ⟨hx,hy,hz⟩:=h.ite;have ihx:=Z5g G hG s names hnl x b hx ho.1.1;have ihy:=Z5g G hG s names hnl y (b+x.size) hy ho.1.2;have ihz:=Z5g G hG s names hnl z (b+x.size+y.size) hz ho.2;have hp1:=x.size_pos;have hp2:=y.size_pos;have hp3:=z.size_pos;rw [show ((b+x.size:Nat):Int)+y.size-1=(b:Int)+x.size+y.size-1 by omega] at ihy;rw [show ((b+x.size+y.size:Nat):Int)+z.size-1=(b:Int)+x.size+y.size+z.size-1 by omega] at ihz;have:=Zxi G hG s names hnl _ _ h.get (by show 1≤(22:Int)∧(22:Int)≤22;decide) _ _ _ (.inr ⟨by show (0:Int)≤(b:Int)+x.size-1;omega,ihx⟩) (.inr ⟨by show (0:Int)≤(b:Int)+x.size+y.size-1;omega,ihy⟩) (.inr ⟨by show (0:Int)≤(b:Int)+x.size+y.size+z.size-1;omega,ihz⟩)
  have e:(b:Int)+(X.ite x y z).size-1=((b+(X.ite x y z).size-1:Nat):Int):=by simp only [X.size];omega
  rw [e];exact this
theorem Zraa {names:List (List UInt8)} {l:List X} {k:Nat} {y:X} (h:l[k]? = some y) (ks:List Int):goX names (l.drop k) k ks=if Zgb names y=0 then ([],(k:Int),90) else goX names (l.drop (k+1)) (k+1:Nat) (ks++[Zgb names y]):=by
 obtain ⟨h1,h2⟩:=List.getElem?_eq_some_iff.1 h
 rw [List.drop_eq_getElem_cons h1,h2]<;>rfl
theorem Zdw (G:Nat→V) (hG:GOk G) (c c1:Col) (s:Sl XN) (names:Sl (List UInt8)) (hs:s.l.length<1000000) (hnm:∀ n∈s.l,n.name.length<100000) (hnl:names.l.length<1000000) :
  Spec Tryz.prog G 99 [Zd c 6 Zca s,Zd c1 1 V.str names] Zl (fun v _=>v=encKr .new (Zlb names.l s.l)):=by
 refine Zo 0 35 [.tmp 4,.tmp 5,.tmp 6] Tryz.func99 fun X=>?_
 have hP:Zlb names.l s.l=if Zma s.l≠0 then ([],0,Zma s.l) else goN names.l s.l 0 []:=rfl
 generalize Zlb names.l s.l=res at hP ⊢;refine Z1 ?_;refine Z1 ?_;refine Zcf @Z4 hG ?_ (s:=(Zqj G hG _ s hs hnm));refine Z1 ?_
 by_cases hc:Zma s.l=0
 rotate_left
 ·have q1:(Zma s.l != 0)=true:=by simpa using hc
  rw [if_pos hc] at hP;refine Za rfl (fun h14=>?_) (fun h14=>?_)
  ·refine Z ?_
   rw [hP]<;>rfl
  ·rw [q1] at h14;cases h14
 have q1:(Zma s.l != 0)=false:=by simpa using hc
 rw [if_neg (by simpa using hc)] at hP;refine Za rfl (fun h14=>?_) (fun h14=>?_)
 ·rw [q1] at h14;cases h14
 refine Z0 ?_
 have hdep:Zdb s.l≠0:=by
  intro h;rw [Zma,if_pos h] at hc;cases hc
 obtain ⟨x,hx,hl⟩:=Zsg hdep;have hat:At s.l x 0:=hl ▸ Zlh x
 have hlen:s.l.length=x.size:=by rw [hl,Go.Hs.X.row_len]
 have hsl:=Zmb x
 have hP2:res=goX names.l (Zhe x) 0 []:=by
  have:=Ztz (names:=names.l) x x.size 0 (by omega);simp only [List.drop_zero,List.take_zero,List.map_nil] at this;rw [hP,hl];exact this
 try clear hP
 refine Z1 ?_;refine Z1 ?_;refine AW.block ?_
 refine Zua s.l.length (fun k (y:Nat × List Int)=>st [(0,Zd c 6 Zca s),(1,Zd c1 1 V.str names),(8,grown 33 y.1 1 y.2),(9,.int .i64 k)] [(33,Zjb y.1 (V.int .u8) y.2)])
  (fun k y=>res=goX names.l ((Zhe x).drop k) k y.2∧y.2.length=k) 0 (0,[]) (Nat.zero_le _) ⟨hP2,rfl⟩
  (Zb zp zp) ?_
 rintro k ⟨gx,ks⟩ hk ⟨hR,hkl⟩ L3 hL3
 replace hR:res=goX names.l ((Zhe x).drop k) k ks:=hR
 replace hkl:ks.length=k:=hkl
 refine Z1 ?_;refine Za rfl (fun h19=>?_) (fun h19=>?_)
 ·have hk1:k<s.l.length:=by simpa using h19
  obtain ⟨y,b,h1,h2,h3,h4⟩:=Zf1 x k (by omega);rw [Zraa h3] at hR;have hky:=Zxj names.l y;have hsp:=Z5g G hG s names hnl y b (by have:=h1.at hat;rw [Nat.zero_add] at this;exact this) (h1.ok hx);rw [show (b:Int)+y.size-1=(k:Int) by omega] at hsp;refine Z1 ?_;refine Znf @Z4 hG ?_ (s:=(hsp _ _));generalize Zgb names.l y=v at hR hky ⊢;refine Zs ?_;refine Z1 ?_
  by_cases hv:v=0
  ·have q2:(v==0)=true:=by simpa using hv
   rw [if_pos hv] at hR;refine Za rfl (fun h27=>?_) (fun h27=>?_)
   ·refine Z ?_
    rw [hR]<;>rfl
   ·rw [q2] at h27;cases h27
  have q2:(v==0)=false:=by simpa using hv
  rw [if_neg hv] at hR
  have hw:IntKind.u8.wrap v=v:=by
   have:v=1∨v=2:=by omega
   rcases this with rfl | rfl<;>rfl
  refine Za rfl (fun h27=>?_) (fun h27=>?_)
  ·rw [q2] at h27;cases h27
  refine Z1f hw ?_;intro g32;refine Zpb (f:=V.int .u8) (l:=ks) (l2:=[v]) (g:=gx) Zfl rfl rfl rfl zp (Zda (by omega) (by simp;omega)) fun g2=>?_;refine Zs ?_;refine Z1 ?_;refine hL3 _ ⟨hk1,(g2,ks++[v]),⟨hR,by show (ks++[v]).length=k+1;rw [List.length_append,hkl]<;>rfl⟩,Zb zw zp⟩
 ·have hk1:k=s.l.length:=by simp at h19;omega
  refine Z0 ?_;rw [List.drop_of_length_le (by omega)] at hR;refine AW.weak (Z2 (fun o=>o==33) (l:=[(8,encKs .new ks)]) (m:=[]) ?_ trivial) ?_
  ·refine Zs ?_
   exact Zyb rfl rfl Zfl
  refine Z ?_
  rw [hR]<;>rfl
theorem Z75 (G:Nat→V) (hG:GOk G) (c c1:Col) (s:Sl XN) (names:Sl (List UInt8)) (hs:s.l.length<1000000) (hnm:∀ n∈s.l,n.name.length<100000) (hnl:names.l.length<1000000) :
  Spec Tryz.prog G 49 [Zd c 6 Zca s,Zd c1 1 V.str names] Zl (fun v _=>v=encO3 (Z3l names.l s.l)):=by
 refine Zo 0 27 [.tmp 4,.tmp 5,.tmp 6] Tryz.func49 fun X=>?_
 have hP:Z3l names.l s.l=if (Zlb names.l s.l).2.2≠0 then (0,(Zlb names.l s.l).2.1,(Zlb names.l s.l).2.2) else ((Zlb names.l s.l).1.getD ((Zlb names.l s.l).1.length-1) 0,0,0):=rfl
 have hKi:=fun c c1=>Zdw G hG c c1 s names hs hnm hnl;have hL:=Zfr (names:=names.l) (l:=s.l);generalize Z3l names.l s.l=res at hP ⊢;generalize Zlb names.l s.l=p at hP hKi hL;obtain ⟨ks,i,e⟩:=p;simp only at hP hL;refine Z1 ?_;refine Z1 ?_;refine Znf @Z4 hG ?_ (s:=(hKi _ _));refine Zsf (zi @encKr.eq_1 (zi @encKs.eq_1 @Zr1)) ?_;refine Z1 ?_
 by_cases he:e=0
 rotate_left
 ·have q1:(e != 0)=true:=by simpa using he
  rw [if_pos he] at hP;refine Za rfl (fun h18=>?_) (fun h18=>?_)
  ·refine Z ?_
   rw [hP]<;>rfl
  ·rw [q1] at h18;cases h18
 have q1:(e != 0)=false:=by simpa using he
 rw [if_neg (by simpa using he)] at hP;obtain ⟨hl1,hl2⟩:=hL he;refine Za rfl (fun h18=>?_) (fun h18=>?_)
 ·rw [q1] at h18;cases h18
 refine Z0 ?_;obtain ⟨m,hm⟩:∃ m:Nat,ks.length=m+1:=⟨ks.length-1,by omega⟩
 have hw:IntKind.i64.wrap ((ks.length:Int)-1)=(m:Int):=by rw [w64 (by omega) (by omega)];omega
 obtain ⟨v,hv⟩:∃ v,ks[m]? = some v:=⟨_,List.getElem?_eq_getElem (by omega)⟩
 have hgd:ks.getD (ks.length-1) 0=v:=by rw [show ks.length-1=m by omega,List.getD_eq_getElem?_getD,hv]<;>rfl
 rw [hgd] at hP;refine Zf (zi hw hv) ?_
 rw [hP]<;>rfl
end Go.Hs
end

section
namespace Go.Hs
theorem Z1ba {names:List (List UInt8)}:∀ (l:List X) (i:Int) (acc:List Int),(goX names l i acc).2.2=0→(∀ y∈l,Zgb names y≠0)∧goX names l i acc=(acc++l.map (Zgb names),0,0)
 | [],i,acc,_=>⟨fun y hy=>(by cases hy),by simp [goX]⟩
 | y::r,i,acc,h=>by
  rw [goX] at h ⊢
  by_cases h1:Zgb names y=0
  ·rw [if_pos h1] at h;cases h
  ·rw [if_neg h1] at h ⊢
   obtain ⟨h2,h3⟩:=Z1ba r (i+1) _ h;refine ⟨fun z hz=>?_,by rw [h3];simp⟩
   cases hz with
   | head=>exact h1
   | tail _ hz=>exact h2 z hz
theorem Ze7 {names:List (List UInt8)}:∀ (l:List X) (i:Int) (acc:List Int),(∀ y∈l,Zgb names y≠0)→goX names l i acc=(acc++l.map (Zgb names),0,0)
 | [],i,acc,_=>by simp [goX]
 | y::r,i,acc,h=>by
  rw [goX,if_neg (h y (by simp)),Ze7 r _ _ fun z hz=>h z (by simp [hz])];simp
theorem Zus {x y:X} (h:y∈Zhe x):∃ b,Sub x y b:=by
 obtain ⟨i,hi,e⟩:=List.mem_iff_getElem.1 h;obtain ⟨z,b,h1,h2,h3,h4⟩:=Zf1 x i (by rw [← Zmb];exact hi);rw [List.getElem?_eq_getElem hi,e] at h3;cases h3;exact ⟨b,h1⟩
theorem Sub.mem {x y:X} {b:Nat} (h:Sub x y b):y∈Zhe x:=List.mem_of_getElem? h.get
def Zvq (b:Int) (n:XN):XN:={ n with a:=max (-1) (n.a-b),b:=max (-1) (n.b-b),c:=max (-1) (n.c-b) }
theorem Zdf:∀ (y:X) (b c:Int),0≤b→0≤c→(y.row (b+c)).map (Zvq b)=y.row c
 | .leaf op num name,b,c,hb,hc=>by
  have:max (-1) (-1-b)=(-1:Int):=by omega
  simp only [X.row,List.map_cons,List.map_nil,Zvq,this]
 | .un op a,b,c,hb,hc=>by
  have e1:max (-1) (-1-b)=(-1:Int):=by omega
  have hp:=a.size_pos
  have e2:max (-1) (b+c+a.size-1-b)=c+a.size-1:=by omega
  simp only [X.row,List.map_append,List.map_cons,List.map_nil,Zvq,e1,e2,Zdf a b c hb hc]
 | .bin op x y,b,c,hb,hc=>by
  have e1:max (-1) (-1-b)=(-1:Int):=by omega
  have hp:=x.size_pos;have hp2:=y.size_pos
  have e2:max (-1) (b+c+x.size-1-b)=c+x.size-1:=by omega
  have e3:max (-1) (b+c+x.size+y.size-1-b)=c+x.size+y.size-1:=by omega
  have i2:=Zdf y b (c+x.size) hb (by omega);rw [← Int.add_assoc] at i2;simp only [X.row,List.map_append,List.map_cons,List.map_nil,Zvq,e1,e2,e3,Zdf x b c hb hc,i2]
 | .ite x y z,b,c,hb,hc=>by
  have hp:=x.size_pos;have hp2:=y.size_pos;have hp3:=z.size_pos
  have e2:max (-1) (b+c+x.size-1-b)=c+x.size-1:=by omega
  have e3:max (-1) (b+c+x.size+y.size-1-b)=c+x.size+y.size-1:=by omega
  have e4:max (-1) (b+c+x.size+y.size+z.size-1-b)=c+x.size+y.size+z.size-1:=by omega
  have i2:=Zdf y b (c+x.size) hb (by omega);rw [← Int.add_assoc] at i2;have i3:=Zdf z b (c+x.size+y.size) hb (by omega);rw [← Int.add_assoc,← Int.add_assoc] at i3;simp only [X.row,List.map_append,List.map_cons,List.map_nil,Zvq,e2,e3,e4,Zdf x b c hb hc,i2,i3]
theorem Sub.shift {x y:X} {b:Nat} (h:Sub x y b):(((x.row 0).drop b).take y.size).map (Zvq b)=y.row 0:=by
 obtain ⟨pre,post,e,hb⟩:=h.at (Zlh x);rw [Nat.zero_add] at hb e;have hl:(y.row ((b:Nat):Int)).length=y.size:=y.row_len _
 have ht:((x.row 0).drop b).take y.size=y.row (b:Nat):=by
  rw [e,List.append_assoc,← hb,List.drop_left,← hl,hb,List.take_left]
 rw [ht];have:=Zdf y b 0 (by omega) (by omega);rw [Int.add_zero] at this;exact this
end Go.Hs
end

section
namespace Go.Hs
open Go.Proofs
set_option maxRecDepth 10000
theorem Zem {x:X} (h:x.ok=true):Zma (x.row 0)=if x.depth > 64 then 3 else 0:=by
 have hd:=Zrg h;have hp:=x.depth_pos;unfold Zma;rw [hd,if_neg (by omega)]
 by_cases h2:x.depth > 64
 ·rw [if_pos (by omega),if_pos h2]
 ·rw [if_neg (by omega),if_neg h2]
theorem Zer {names:List (List UInt8)} {x:X} (h:x.ok=true) (hc:Zma (x.row 0)=0):Zlb names (x.row 0)=goX names (Zhe x) 0 []:=by
 unfold Zlb;rw [if_neg (by simpa using hc)];have:=Ztz (names:=names) x x.size 0 (by omega);simp only [List.drop_zero,List.take_zero,List.map_nil] at this;exact this
theorem Zqz {names:List (List UInt8)} {l:List XN} (h:(Zlb names l).2.2=0):∃ x:X,x.ok=true∧l=x.row 0∧Zma (x.row 0)=0∧(∀ y∈Zhe x,Zgb names y≠0)∧Zlb names l=((Zhe x).map (Zgb names),0,0):=by
 have hc:Zma l=0:=by
  unfold Zlb at h
  by_cases hc:Zma l=0
  ·exact hc
  ·rw [if_pos hc] at h;exact absurd h hc
 have hdep:Zdb l≠0:=by
  intro hd;rw [Zma,if_pos hd] at hc;cases hc
 obtain ⟨x,hx,rfl⟩:=Zsg hdep;rw [Zer hx hc] at h ⊢;obtain ⟨h1,h2⟩:=Z1ba _ _ _ h;exact ⟨x,hx,rfl,hc,h1,h2⟩
theorem part_ok {names:List (List UInt8)} {x y:X} {b:Nat} (hx:x.ok=true) (hc:Zma (x.row 0)=0) (hk:∀ y∈Zhe x,Zgb names y≠0) (h:Sub x y b):Z3l names (y.row 0)=(Zgb names y,0,0):=by
 have hy:=h.ok hx
 have hcy:Zma (y.row 0)=0:=by
  rw [Zem hx] at hc;rw [Zem hy];have:=h.depth
  by_cases h2:x.depth > 64
  ·rw [if_pos h2] at hc;cases hc
  ·rw [if_neg (by omega)]
 have hg:Zlb names (y.row 0)=((Zhe y).map (Zgb names),0,0):=by
  rw [Zer hy hcy,Ze7 _ _ _ fun z hz=>?_]
  ·rfl
  ·obtain ⟨c,hc2⟩:=Zus hz
   exact hk z (h.trans hc2).mem
 unfold Z3l;rw [hg,if_neg (by simp)]
 have hl:((Zhe y).map (Zgb names)).length=y.size:=by rw [List.length_map,Zmb]
 show (((Zhe y).map (Zgb names)).getD (((Zhe y).map (Zgb names)).length-1) 0,(0:Int),(0:Int))=_
 rw [hl,List.getD_eq_getElem?_getD,List.getElem?_map,Ze1]<;>rfl
end Go.Hs
end

section
namespace Go.Hs
theorem Zsn {op:Int} (h:op≠2) (nm nm':Bool) (a b c:Int):kd op nm a b c=kd op nm' a b c:=by
 unfold kd;simp [h]
theorem kd_two (nm:Bool) (a b c:Int):kd 2 nm a b c=if nm=true then 1 else 0:=by
 unfold kd
 cases nm<;>simp
def NmIn (x:X) (t:List UInt8):Prop:=∃ num,X.leaf 2 num t∈Zhe x
theorem Zld {N M:List (List UInt8)}:∀ x:X,(∀ t,NmIn x t→N.contains t=M.contains t)→x.ok=true→Zgb N x=Zgb M x
 | .leaf op num name,h,_=>by
  rw [Zgb,Zgb]
  by_cases h2:op=2
  ·subst h2;rw [h name ⟨num,by simp [Zhe]⟩]
  ·exact Zsn h2 _ _ _ _ _
 | .un op a,h,hx=>by
  simp only [X.ok,Bool.and_eq_true,decide_eq_true_eq] at hx;rw [Zgb,Zgb,Zld a (fun t ⟨n,q⟩=>h t ⟨n,by simp [Zhe,q]⟩) hx.2];exact Zsn (by omega) _ _ _ _ _
 | .bin op a b,h,hx=>by
  simp only [X.ok,Bool.and_eq_true,decide_eq_true_eq] at hx;rw [Zgb,Zgb,Zld a (fun t ⟨n,q⟩=>h t ⟨n,by simp [Zhe,q]⟩) hx.1.2,Zld b (fun t ⟨n,q⟩=>h t ⟨n,by simp [Zhe,q]⟩) hx.2];exact Zsn (by omega) _ _ _ _ _
 | .ite a b c,h,hx=>by
  simp only [X.ok,Bool.and_eq_true] at hx;rw [Zgb,Zgb,Zld a (fun t ⟨n,q⟩=>h t ⟨n,by simp [Zhe,q]⟩) hx.1.1,Zld b (fun t ⟨n,q⟩=>h t ⟨n,by simp [Zhe,q]⟩) hx.1.2,Zld c (fun t ⟨n,q⟩=>h t ⟨n,by simp [Zhe,q]⟩) hx.2];exact Zsn (by decide) _ _ _ _ _
theorem NmIn.sub {x y:X} {b:Nat} (h:Sub x y b) {t:List UInt8} (ht:NmIn y t):NmIn x t:=by
 obtain ⟨n,q⟩:=ht;obtain ⟨c,hc⟩:=Zus q;exact ⟨n,(h.trans hc).mem⟩
theorem Z01 {N:List (List UInt8)} {x:X} (h:∀ y∈Zhe x,Zgb N y≠0) {t:List UInt8} (ht:NmIn x t):N.contains t=true:=by
 obtain ⟨n,q⟩:=ht;have:=h _ q;rw [Zgb,kd_two] at this
 by_cases hc:N.contains t=true
 ·exact hc
 ·rw [if_neg hc] at this;exact absurd rfl this
theorem Z23 {N M:List (List UInt8)} {x:X} (hx:x.ok=true) (h:∀ y∈Zhe x,Zgb N y≠0) (hM:∀ t,NmIn x t→M.contains t=true):∀ y∈Zhe x,Zgb M y=Zgb N y:=by
 intro y hy;obtain ⟨b,hb⟩:=Zus hy;refine Zld y (fun t ht=>?_) (hb.ok hx);rw [hM t (ht.sub hb),Z01 h (ht.sub hb)]
end Go.Hs
end

section
namespace Go.Hs
open Go.Proofs
set_option maxRecDepth 10000
theorem Zmw {N:List (List UInt8)} {x:X} (hx:x.ok=true) (hc:Zma (x.row 0)=0) (h:∀ y∈Zhe x,Zgb N y≠0):Z3l N (x.row 0)=(Zgb N x,0,0) :=
 part_ok hx hc h (.refl x)
theorem top_mem (x:X):x∈Zhe x:=(Sub.refl x).mem
theorem Zi6 {N M:List (List UInt8)} {x:X} (hx:x.ok=true) (hc:Zma (x.row 0)=0) (h:∀ y∈Zhe x,Zgb N y≠0) (hM:∀ t,NmIn x t→M.contains t=true):Z3l M (x.row 0)=(Zgb N x,0,0):=by
 have hm:=Z23 hx h hM;rw [Zmw hx hc fun y hy=>by rw [hm y hy];exact h y hy,hm x (top_mem x)]
end Go.Hs
end

section
namespace Go.Hs
inductive GB:List (List UInt8)→List ASt→Prop where
 | nil:GB [] []
 | asg {nm:List UInt8} {ts r:List (List UInt8)} {x:X} {b:List ASt}:isP nm=2→Gr 1 ts x→x.depth≤64→GB r b→GB (nm::[58,61]::(ts++[59]::r)) (⟨1,nm,x.row 0⟩::b)
 | bare {nm:List UInt8} {r:List (List UInt8)} {b:List ASt}:isP nm=2→GB r b→GB (Zmd::nm::[40]::[41]::[59]::r) (⟨2,nm,[]⟩::b)
 | emit {nm:List UInt8} {ts r:List (List UInt8)} {x:X} {b:List ASt}:isP nm=2→Gr 1 ts x→x.depth≤64→GB r b→GB (Zmd::nm::[40]::(ts++[41]::[59]::r)) (⟨2,nm,x.row 0⟩::b)
theorem GB.app {ws vs:List (List UInt8)} {a b:List ASt} (h:GB ws a) (h2:GB vs b):GB (ws++vs) (a++b):=by
 induction h with
 | nil=>exact h2
 | asg n g d _ ih=>simpa using GB.asg n g d ih
 | bare n _ ih=>exact GB.bare n ih
 | emit n g d _ ih=>simpa using GB.emit n g d ih
theorem GB.len {ws:List (List UInt8)} {a:List ASt} (h:GB ws a):4 * a.length≤ws.length:=by
 induction h with
 | nil=>exact Nat.le_refl _
 | asg n g d _ ih=>have:=g.pos;simp only [List.length_cons,List.length_append];omega
 | bare n _ ih=>simp only [List.length_cons];omega
 | emit n g d _ ih=>simp only [List.length_cons,List.length_append];omega
def Wds (l:List Tk):Prop:=∀ t∈l,(isP t.text:Int)=t.kind∧isP t.text≠0
theorem Zrv {s:List UInt8}:∀ (f i:Nat) (acc:List Tk),Wds acc→Wds (Z3b f s (i+blk (s.drop i)) acc).1
 | 0,_,acc,h=>h
 | f+1,i,acc,h=>by
  rw [Z3b]
  split
  ·split
   ·intro t ht;cases ht
   ·rename_i h1 h2
    have hdd:s.drop (i+blk (s.drop i))=(s.drop i).drop (blk (s.drop i)):=by rw [List.drop_drop]
    rw [hdd] at h2 ⊢;refine Zrv f _ _ ?_;intro t ht;rw [List.mem_append,List.mem_singleton] at ht
    rcases ht with ht | rfl
    ·exact h t ht
    ·obtain ⟨p1,p2⟩:=Z4s (s:=s.drop i) (by rw [List.length_drop];omega) rfl (by omega) (by omega)
     exact ⟨by show ((isP _:Nat):Int)=_;rw [p1],by show isP _≠0;rw [p1];exact p2⟩
  ·exact h
theorem Z78 (s:List UInt8):Wds (Zbb s).1:=by
 unfold Zbb
 split
 ·intro t ht;cases ht
 ·have:=Zrv (s:=s) (s.length+1) 0 [] (fun t ht=>by cases ht)
  simpa using this
theorem Wds.wd {l:List Tk} (h:Wds l) {i:Nat} (hi:i<l.length):(l.map Z4d)[i]? = some (Znb l i):=by
 have hg:=List.getElem?_eq_getElem hi;rw [List.getElem?_map,hg,Z9e hg];have:=(h _ (List.getElem_mem hi)).1
 show some (Z4d l[i])=_
 unfold Z4d;rw [if_pos this]
theorem Wds.drop {l:List Tk} (h:Wds l) {i:Nat} (hi:i<l.length):(l.map Z4d).drop i=Znb l i::(l.map Z4d).drop (i+1):=by
 have hg:=h.wd hi;obtain ⟨q1,q2⟩:=List.getElem?_eq_some_iff.1 hg;rw [List.drop_eq_getElem_cons q1,q2]
theorem Wds.name {l:List Tk} (h:Wds l) {i:Nat} (hn:Zng l i=true):i<l.length∧isP (Znb l i)=2:=by
 have hi:i<l.length:=by
  refine Classical.byContradiction fun h2=>?_;rw [Z2e (by omega)] at hn;cases hn
 have hg:=List.getElem?_eq_getElem hi;rw [Zmg hg] at hn;have:=(h _ (List.getElem_mem hi)).1
 have hk:(l[i]).kind=2:=by simpa using hn
 rw [Z9e hg];exact ⟨hi,by omega⟩
theorem Zsc {l:List Tk} {i:Nat} {w:List UInt8} {r:List (List UInt8)} (h:(l.map Z4d).drop i=w::r) (hw:w≠[]) :
  i<l.length∧Znb l i=w∧Zng l i=(isP w==2)∧(l.map Z4d).drop (i+1)=r:=by
 have hi:i<l.length:=by
  refine Classical.byContradiction fun h2=>?_;rw [List.drop_of_length_le (by rw [List.length_map];omega)] at h;cases h
 have hg:=List.getElem?_eq_getElem hi
 have hw0:(l.map Z4d)[i]? = some w:=by
  have:=congrArg List.head? h;rwa [List.head?_drop] at this
 rw [List.getElem?_map,hg] at hw0
 have hw1:Z4d l[i]=w:=by simpa using hw0
 unfold Z4d at hw1
 split at hw1
 ·rename_i hk
  rw [Z9e hg,Zmg hg];refine ⟨hi,hw1,?_,?_⟩
  ·rw [← hk,hw1,Bool.eq_iff_iff]
   simp only [beq_iff_eq];omega
  ·rw [← List.drop_drop,h];rfl
 ·exact absurd hw1.symm hw
theorem Zf2 {l:List Tk} {ts r:List (List UInt8)} {w:List UInt8} {x:X} (hl:l.map Z4d=ts++w::r) (h:Gr 1 ts x) (hd:x.depth≤64) (hw:ofI w 2=none):Z9c l=(x.row 0,(ts.length:Int),0):=by
 have hs:Seg l 0 ts:=⟨[],w::r,by simpa using hl,rfl⟩;have hs2:Seg l (0+ts.length) (w::r):=⟨ts,[],by simpa using hl,by simp⟩;have hend:Zm8 l 1 (0+ts.length):=Z7h 1 hs2.head.1 hw
 have hc:Zm l (l.length+1) 1 ⟨0,[],0⟩=(true,⟨ts.length,x.row 0,0⟩):=by
  rw [Zm,h.climb 1 l.length (l.length+1) ⟨0,[],0⟩ hs (Int.le_refl _) (by decide) (Nat.le_refl _) (by show _<l.length+1+0;omega) (fun op ho=>by have:=hend op ho;omega)];rw [Zrw hend]
  show (true,RS.mk _ _ _)=_
  rw [Nat.zero_add];rfl
 unfold Z9c;rw [hc,Zrg h.ok];simp only [Bool.true_eq_false,if_false];rw [if_neg (by omega)]
theorem Zuaa {l:List Tk} (h:(Z9c l).2.2=0):∃ ts x,Gr 1 ts x∧x.depth≤64∧(∃ r,l.map Z4d=ts++r)∧Z9c l=(x.row 0,(ts.length:Int),0):=by
 have hF:Z9c l=if (Zm l (l.length+1) 1 ⟨0,[],0⟩).1=false then (([]:List XN),((Zm l (l.length+1) 1 ⟨0,[],0⟩).2.i:Int),(Zm l (l.length+1) 1 ⟨0,[],0⟩).2.e)
  else if Zdb (Zm l (l.length+1) 1 ⟨0,[],0⟩).2.nodes > 64 then ([],0,3) else ((Zm l (l.length+1) 1 ⟨0,[],0⟩).2.nodes,((Zm l (l.length+1) 1 ⟨0,[],0⟩).2.i:Int),(0:Int)):=rfl
 by_cases hb:(Zm l (l.length+1) 1 ⟨0,[],0⟩).1=true
 ·obtain ⟨ts,x,g,sg,e⟩:=Zbx _ 1 ⟨0,[],0⟩ (by decide) (by decide) hb
  rw [hb] at hF;simp only [Bool.true_eq_false,if_false] at hF;have hok:=g.ok
  have hn:(Zm l (l.length+1) 1 ⟨0,[],0⟩).2.nodes=x.row 0:=by rw [e];simp [after]
  rw [hn,Zrg hok] at hF
  by_cases hdp:(x.depth:Int) > 64
  ·rw [if_pos hdp] at hF
   rw [hF] at h;cases h
  rw [if_neg hdp] at hF
  have hi:(Zm l (l.length+1) 1 ⟨0,[],0⟩).2.i=ts.length:=by rw [e];show 0+ts.length=_;omega
  rw [hi] at hF;obtain ⟨pre,post,e1,e2⟩:=sg;have hp:pre=[]:=List.length_eq_zero_iff.1 e2;rw [hp] at e1;exact ⟨ts,x,g,by omega,⟨post,by simpa using e1⟩,hF⟩
 ·have hb:(Zm l (l.length+1) 1 ⟨0,[],0⟩).1=false:=by simpa using hb
  rw [if_pos hb] at hF
  exfalso
  have he:=Zcx (l.length+1) 1 ⟨0,[],0⟩ (by show l.length<l.length+1+0;omega) (Nat.zero_le _) hb;rw [hF] at h;exact he h
theorem Zmz {w:List UInt8} (h:isP w=2):w≠[]∧w≠Zmd:=by
 refine ⟨?_,?_⟩
 ·rintro rfl;revert h;decide +kernel
 ·rintro rfl;revert h;decide +kernel
theorem Zwv:ofI [59] 2=none∧ofI [41] 2=none:=by decide +kernel
theorem map_drop {l:List Tk} (i:Nat):(l.drop i).map Z4d=(l.map Z4d).drop i:=List.map_drop ..
theorem gr_head {n:Int} {ts:List (List UInt8)} {x:X} (h:Gr n ts x):∃ u us,ts=u::us∧u≠[41]∧u≠[]:=by
 induction h with
 | num h1 _=>exact ⟨_,_,rfl,by rintro rfl;revert h1;decide +kernel,by rintro rfl;revert h1;decide +kernel⟩
 | name h1=>exact ⟨_,_,rfl,by rintro rfl;revert h1;decide +kernel,by rintro rfl;revert h1;decide +kernel⟩
 | tr=>exact ⟨_,_,rfl,by decide,by decide⟩
 | fa=>exact ⟨_,_,rfl,by decide,by decide⟩
 | neg _ _=>exact ⟨_,_,rfl,by decide,by decide⟩
 | not _ _=>exact ⟨_,_,rfl,by decide,by decide⟩
 | par _=>exact ⟨_,_,rfl,by decide,by decide⟩
 | bin _ _ _ _ _ ih _ =>
  obtain ⟨u,us,rfl,h1,h2⟩:=ih;exact ⟨u,_,rfl,h1,h2⟩
 | ite _ _ _=>exact ⟨_,_,rfl,by decide,by decide⟩
theorem GB.body {ws:List (List UInt8)} {b:List ASt} (h:GB ws b):∀ (l:List Tk) (n f i:Nat) (acc:List ASt),(l.map Z4d).drop i=ws→i≤l.length→l.length<f+i→acc.length+b.length≤512 →
  Z1d l n f i acc=(acc++b,0,0):=by
 have step:∀ {l:List Tk} {n f i j:Nat} {acc b:List ASt} {s:ASt},i<l.length→acc.length+(b.length+1)≤512→Zoc l i=(s,(j:Int),0)→Z1d l n f j (acc++[s])=(acc++s::b,0,0) →
   Z1d l n (f+1) i acc=(acc++s::b,0,0):=by
  intro l n f i j acc b s hi ha hs hb;rw [Z1d,if_neg (by omega),if_neg (by omega),hs];simp only [ne_eq,not_true_eq_false,if_false,Int.toNat_natCast];exact hb
 have hshut:∀ {l:List Tk} {j:Nat} {w:List UInt8} {ws:List (List UInt8)},Znb l j=w→Zwb l (w::ws) j=Zwb l ws (j+1):=by
  intro l j w ws h;rw [Zwb,if_pos h]
 induction h with
 | nil =>
  intro l n f i acc hd hi hf ha
  have:l.length≤i:=by
   have:=congrArg List.length hd;rw [List.length_drop,List.length_map] at this;simp only [List.length_nil] at this;omega
  obtain ⟨f,rfl⟩:∃ m,f=m+1:=⟨f-1,by omega⟩;rw [Z1d,if_pos this,List.append_nil]
 | @asg nm ts r x b hn g hdp _ ih =>
  intro l n f i acc hd hi hf ha;obtain ⟨e1,e2⟩:=Zmz hn;obtain ⟨i1,t1,n1,d1⟩:=Zsc hd e1;obtain ⟨i2,t2,_,d2⟩:=Zsc d1 (by decide);have hfr:Z9c (l.drop (i+2))=(x.row 0,(ts.length:Int),0):=Zf2 (by rw [map_drop];exact d2) g hdp Zwv.1
  have d3:(l.map Z4d).drop (i+2+ts.length)=[59]::r:=by rw [← List.drop_drop,show (l.map Z4d).drop (i+2)=_ from d2,List.drop_left]
  obtain ⟨i3,t3,_,d4⟩:=Zsc d3 (by decide);obtain ⟨f,rfl⟩:∃ m,f=m+1:=⟨f-1,by omega⟩;simp only [List.length_cons] at ha;refine step (j:=i+2+ts.length+1) i1 ha ?_ ?_
  ·unfold Zoc Z5d Z1j Z3g
   have q:Zwb l [[59]] (i+2+ts.length)=(true,i+2+ts.length+1):=by rw [hshut t3];rfl
   rw [if_neg (by rw [t1];exact e2),n1,hn,t1,t2,hfr];simp only [Int.toNat_natCast,q];simp
  ·have:=ih l n f (i+2+ts.length+1) (acc++[⟨1,nm,x.row 0⟩]) d4 (by omega) (by omega) (by rw [List.length_append];simp only [List.length_cons,List.length_nil];omega)
   rw [this,List.append_assoc];rfl
 | @bare nm r b hn _ ih =>
  intro l n f i acc hd hi hf ha;obtain ⟨e1,e2⟩:=Zmz hn;obtain ⟨i0,t0,_,d0⟩:=Zsc hd (by decide);obtain ⟨i1,t1,n1,d1⟩:=Zsc d0 e1;obtain ⟨i2,t2,_,d2⟩:=Zsc d1 (by decide);obtain ⟨i3,t3,_,d3⟩:=Zsc d2 (by decide);obtain ⟨i4,t4,_,d4⟩:=Zsc d3 (by decide);obtain ⟨f,rfl⟩:∃ m,f=m+1:=⟨f-1,by omega⟩;simp only [List.length_cons] at ha;refine step (j:=i+1+1+1+1+1) i0 ha ?_ ?_
  ·unfold Zoc Z5d Z3g
   have q:Zwb l [[41],[59]] (i+1+2)=(true,i+1+2+1+1):=by
    have t3:Znb l (i+1+2)=[41]:=t3;have t4:Znb l (i+1+2+1)=[59]:=t4;rw [hshut t3,hshut t4];rfl
   have t3:Znb l (i+1+2)=[41]:=t3;rw [if_pos t0,n1,hn,t1,t2,t3];simp only [q];simp;omega
  ·have:=ih l n f (i+1+1+1+1+1) (acc++[⟨2,nm,[]⟩]) d4 (by omega) (by omega) (by rw [List.length_append];simp only [List.length_cons,List.length_nil];omega)
   rw [this,List.append_assoc];rfl
 | @emit nm ts r x b hn g hdp _ ih =>
  intro l n f i acc hd hi hf ha;obtain ⟨e1,e2⟩:=Zmz hn;obtain ⟨i0,t0,_,d0⟩:=Zsc hd (by decide);obtain ⟨i1,t1,n1,d1⟩:=Zsc d0 e1;obtain ⟨i2,t2,_,d2⟩:=Zsc d1 (by decide);have hfr:Z9c (l.drop (i+1+2))=(x.row 0,(ts.length:Int),0):=Zf2 (by rw [map_drop];exact d2) g hdp Zwv.2
  have d3:(l.map Z4d).drop (i+1+2+ts.length)=[41]::[59]::r:=by rw [← List.drop_drop,show (l.map Z4d).drop (i+1+2)=_ from d2,List.drop_left]
  obtain ⟨i3,t3,_,d4⟩:=Zsc d3 (by decide);obtain ⟨i4,t4,_,d5⟩:=Zsc d4 (by decide)
  have hn41:Znb l (i+1+2)≠[41]:=by
   intro hq
   have hz:∃ u us,ts=u::us∧u≠[41]∧u≠[]:=by
    clear hfr d3 i3 t3 d4 i4 t4 d5 ih hd d0 d1 d2;exact gr_head g
   obtain ⟨u,us,rfl,hu,hu0⟩:=hz;obtain ⟨_,tq,_,_⟩:=Zsc (w:=u) (r:=us++[41]::[59]::r) (show (l.map Z4d).drop (i+1+2)=_ from d2) hu0;exact hu (tq.symm.trans hq)
  obtain ⟨f,rfl⟩:∃ m,f=m+1:=⟨f-1,by omega⟩;simp only [List.length_cons] at ha;refine step (j:=i+1+2+ts.length+1+1) i0 ha ?_ ?_
  ·unfold Zoc Z5d Z1j Z3g
   have q:Zwb l [[41],[59]] (i+1+2+ts.length)=(true,i+1+2+ts.length+1+1):=by rw [hshut t3,hshut t4];rfl
   rw [if_pos t0,n1,hn,t1,t2,hfr];simp only [Int.toNat_natCast,q];simp [hn41]
  ·have:=ih l n f (i+1+2+ts.length+1+1) (acc++[⟨2,nm,x.row 0⟩]) d5 (by omega) (by omega) (by rw [List.length_append];simp only [List.length_cons,List.length_nil];omega)
   rw [this,List.append_assoc];rfl
theorem Zmk {l:List Tk} {w:List UInt8} {ws:List (List UInt8)} {j:Nat} (h:(Zwb l (w::ws) j).1=true):Znb l j=w∧Zwb l (w::ws) j=Zwb l ws (j+1):=by
 rw [Zwb] at h ⊢
 split at h
 ·rename_i q;rw [if_pos q];exact ⟨q,rfl⟩
 ·cases h
theorem Zh1 {l:List Tk} {s:ASt} {ws:List (List UInt8)} {j:Nat} (h:(Z3g l s ws j).2.2=0):(Zwb l ws j).1=true∧Z3g l s ws j=(s,((Zwb l ws j).2:Int),0):=by
 unfold Z3g at h ⊢
 by_cases q:(Zwb l ws j).1=true
 ·rw [if_pos q];exact ⟨q,rfl⟩
 ·simp only [q] at h;cases h
theorem Zi9 {l:List Tk} (hW:Wds l) {i:Nat} (h:(Zoc l i).2.2=0):∃ (s:ASt) (j:Nat),Zoc l i=(s,(j:Int),0)∧i<j∧j≤l.length∧∀ b,GB ((l.map Z4d).drop j) b→GB ((l.map Z4d).drop i) (s::b):=by
 unfold Zoc at h ⊢
 have expr:∀ {k:Int} {nm:List UInt8} {ws:List (List UInt8)} {p:Nat},(Z1j l k nm ws p).2.2=0→∃ ts x,Gr 1 ts x∧x.depth≤64∧(l.map Z4d).drop p=ts++(l.map Z4d).drop (p+ts.length) ∧
   (Zwb l ws (p+ts.length)).1=true∧Z1j l k nm ws p=(⟨k,nm,x.row 0⟩,((Zwb l ws (p+ts.length)).2:Int),0):=by
  intro k nm ws p hq;unfold Z1j at hq ⊢
  by_cases h0:(Z9c (l.drop p)).2.2=0
  ·rw [if_neg (by simpa using h0)] at hq ⊢
   obtain ⟨ts,x,g,hd,⟨r,hr⟩,e⟩:=Zuaa h0;rw [e] at hq ⊢;simp only [Int.toNat_natCast] at hq ⊢;obtain ⟨q1,q2⟩:=Zh1 hq;refine ⟨ts,x,g,hd,?_,q1,q2⟩;rw [map_drop] at hr;rw [← List.drop_drop,hr,List.drop_left]
  ·rw [if_pos h0] at hq;exact absurd hq h0
 by_cases h1:Znb l i=Zmd
 ·rw [if_pos h1] at h ⊢
  have hi:i<l.length:=Z7d (by rw [h1];decide);have d0:=hW.drop hi;rw [h1] at d0
  have hq:Z5d l 2 [40] [[41],[59]] (i+1)=if Zng l (i+1)=false then (⟨2,[],[]⟩,((i+1:Nat):Int),110)
   else if Znb l (i+1+1)≠[40] then (⟨2,Znb l (i+1),[]⟩,((i+1+1:Nat):Int),110)
   else if (2:Int)=2∧Znb l (i+1+2)=[41] then Z3g l ⟨2,Znb l (i+1),[]⟩ [[41],[59]] (i+1+2)
   else Z1j l 2 (Znb l (i+1)) [[41],[59]] (i+1+2):=rfl
  rw [hq] at h ⊢
  by_cases h2:Zng l (i+1)=true
  rotate_left
  ·rw [if_pos (by simpa using h2)] at h;cases h
  rw [if_neg (by rw [h2];decide)] at h ⊢;obtain ⟨i1,n1⟩:=hW.name h2;have d1:=hW.drop i1
  by_cases h3:Znb l (i+1+1)=[40]
  rotate_left
  ·rw [if_pos h3] at h;cases h
  rw [if_neg (by rw [h3];simp)] at h ⊢;have i2:i+1+1<l.length:=Z7d (by rw [h3];decide);have d2:=hW.drop i2;rw [h3] at d2
  by_cases h4:Znb l (i+1+2)=[41]
  ·rw [if_pos ⟨rfl,h4⟩] at h ⊢
   obtain ⟨q1,q2⟩:=Zh1 h;obtain ⟨t3,q3⟩:=Zmk q1;rw [q3] at q1;obtain ⟨t4,q4⟩:=Zmk q1;have i3:i+1+2<l.length:=Z7d (by rw [t3];decide);have i4:i+1+2+1<l.length:=Z7d (by rw [t4];decide);have d3:=hW.drop i3;have d4:=hW.drop i4;rw [t3] at d3;rw [t4] at d4;refine ⟨⟨2,Znb l (i+1),[]⟩,i+1+2+1+1,by rw [q2,q3,q4];rfl,by omega,by omega,fun b hb=>?_⟩;rw [d0,d1,d2,show (l.map Z4d).drop (i+1+1+1)=_ from d3,d4];exact .bare n1 hb
  ·rw [if_neg (fun hh=>h4 hh.2)] at h ⊢
   obtain ⟨ts,x,g,hd,hdr,q1,q2⟩:=expr h;obtain ⟨t3,q3⟩:=Zmk q1;rw [q3] at q1;obtain ⟨t4,q4⟩:=Zmk q1;have i3:i+1+2+ts.length<l.length:=Z7d (by rw [t3];decide);have i4:i+1+2+ts.length+1<l.length:=Z7d (by rw [t4];decide);have d3:=hW.drop i3;have d4:=hW.drop i4;rw [t3] at d3;rw [t4] at d4;refine ⟨⟨2,Znb l (i+1),x.row 0⟩,i+1+2+ts.length+1+1,by rw [q2,q3,q4];rfl,by omega,by omega,fun b hb=>?_⟩;rw [d0,d1,d2,show (l.map Z4d).drop (i+1+1+1)=_ from hdr,d3,d4];exact .emit n1 g hd hb
 ·rw [if_neg h1] at h ⊢
  have hq:Z5d l 1 [58,61] [[59]] i=if Zng l i=false then (⟨1,[],[]⟩,(i:Int),110)
   else if Znb l (i+1)≠[58,61] then (⟨1,Znb l i,[]⟩,((i+1:Nat):Int),110)
   else if (1:Int)=2∧Znb l (i+2)=[41] then Z3g l ⟨1,Znb l i,[]⟩ [[59]] (i+2)
   else Z1j l 1 (Znb l i) [[59]] (i+2):=rfl
  rw [hq] at h ⊢
  by_cases h2:Zng l i=true
  rotate_left
  ·rw [if_pos (by simpa using h2)] at h;cases h
  rw [if_neg (by rw [h2];decide)] at h ⊢;obtain ⟨i1,n1⟩:=hW.name h2;have d1:=hW.drop i1
  by_cases h3:Znb l (i+1)=[58,61]
  rotate_left
  ·rw [if_pos h3] at h;cases h
  rw [if_neg (by rw [h3];simp),if_neg (fun hh=>absurd hh.1 (by decide))] at h ⊢;have i2:i+1<l.length:=Z7d (by rw [h3];decide);have d2:=hW.drop i2;rw [h3] at d2;obtain ⟨ts,x,g,hd,hdr,q1,q2⟩:=expr h;obtain ⟨t3,q3⟩:=Zmk q1;have i3:i+2+ts.length<l.length:=Z7d (by rw [t3];decide);have d3:=hW.drop i3;rw [t3] at d3;refine ⟨⟨1,Znb l i,x.row 0⟩,i+2+ts.length+1,by rw [q2,q3];rfl,by omega,by omega,fun b hb=>?_⟩;rw [d1,d2,show (l.map Z4d).drop (i+1+1)=_ from hdr,d3];exact .asg n1 g hd hb
theorem Zp2 {l:List Tk} (hW:Wds l) (n:Nat):∀ (f i:Nat) (acc:List ASt),l.length<f+i→i≤l.length→acc.length≤512→(Z1d l n f i acc).2.2=0 →
  ∃ b,Z1d l n f i acc=(acc++b,0,0)∧GB ((l.map Z4d).drop i) b∧acc.length+b.length≤512
 | 0,i,acc,h1,h2,_,_=>by omega
 | f+1,i,acc,h1,h2,h3,h=>by
  rw [Z1d] at h ⊢
  by_cases q:l.length≤i
  ·rw [if_pos q] at h ⊢
   refine ⟨[],by rw [List.append_nil],?_,by simpa using h3⟩;rw [List.drop_of_length_le (by rw [List.length_map];exact q)];exact .nil
  rw [if_neg q] at h ⊢
  by_cases q2:acc.length=512
  ·rw [if_pos q2] at h;cases h
  rw [if_neg q2] at h ⊢
  by_cases q3:(Zoc l i).2.2=0
  rotate_left
  ·rw [if_pos q3] at h;exact absurd h q3
  rw [if_neg (by simpa using q3)] at h ⊢;obtain ⟨s,j,e,hj,hjl,hg⟩:=Zi9 hW q3;rw [e] at h ⊢;simp only [Int.toNat_natCast] at h ⊢;obtain ⟨b,e2,g,hl⟩:=Zp2 hW n f j (acc++[s]) (by omega) hjl (by rw [List.length_append];simp only [List.length_cons,List.length_nil];omega) h;refine ⟨s::b,by rw [e2,List.append_assoc];rfl,hg b g,?_⟩;rw [List.length_append] at hl;simp only [List.length_cons,List.length_nil] at hl ⊢;omega
theorem Z98 {s:List UInt8} (h:(Zbb s).2.2=0):Zbb s=((Zbb s).1,0,0):=by
 unfold Zbb at h ⊢
 split at h
 ·cases h
 ·rename_i q
  rw [if_neg q]
  have key:∀ (f i:Nat) (acc:List Tk),(Z3b f s i acc).2.2=0→Z3b f s i acc=((Z3b f s i acc).1,0,0):=by
   intro f
   induction f with
   | zero=>intro i acc _;rfl
   | succ f ih =>
    intro i acc hh;rw [Z3b] at hh ⊢
    split
    ·rename_i q1
     rw [if_pos q1] at hh
     split
     ·rename_i q2
      rw [if_pos q2] at hh;cases hh
     ·rename_i q2
      rw [if_neg q2] at hh;exact ih _ _ hh
    ·rfl
  exact key _ _ _ h
theorem Zet {s:List UInt8} {l:List Tk} {b:List ASt} (h:Zbb s=(l,0,0)) (hg:GB (l.map Z4d) b) (hb:b.length≤512):Z0b s=(b,0,0):=by
 unfold Z0b;rw [h];simp only [ne_eq,not_true_eq_false,if_false];have:=hg.body l s.length (l.length+1) 0 [] rfl (Nat.zero_le _) (by omega) (by simpa using hb);rw [this];rfl
theorem Zdi {s:List UInt8} (h:(Z0b s).2.2=0):∃ l b,Zbb s=(l,0,0)∧GB (l.map Z4d) b∧b.length≤512∧Z0b s=(b,0,0):=by
 have hP:Z0b s=if (Zbb s).2.2≠0 then (([]:List ASt),(Zbb s).2.1,(Zbb s).2.2) else Z1d (Zbb s).1 s.length ((Zbb s).1.length+1) 0 []:=rfl
 by_cases h0:(Zbb s).2.2=0
 rotate_left
 ·rw [hP,if_pos h0] at h;exact absurd h h0
 rw [hP,if_neg (by simpa using h0)] at h ⊢;obtain ⟨b,e,g,hl⟩:=Zp2 (Z78 s) s.length ((Zbb s).1.length+1) 0 [] (by omega) (Nat.zero_le _) (Nat.zero_le _) h;exact ⟨(Zbb s).1,b,Z98 h0,g,by simpa using hl,by rw [e];rfl⟩
theorem Lx.join {s t:List UInt8} {ws vs:List (List UInt8)} (h:Lx s ws) (h2:Lx t vs):Lx (s++10::t) (ws++vs):=by
 induction h with
 | @nil s hb =>
  have hb2:blk (s++10::t)=s.length+1+blk t:=by
   rw [Zgt t s.length s (Nat.le_refl _),if_pos hb]
  have hd:(s++10::t).drop (s.length+1+blk t)=t.drop (blk t):=by
   rw [Nat.add_assoc,← List.drop_drop,List.drop_left,Nat.add_comm];rfl
  cases h2 with
  | nil q=>exact .nil (by rw [hb2,q,List.length_append,List.length_cons];omega)
  | @cons _ ws k q1 q2 q3 q4 q5 =>
   have:=Lx.cons (s:=s++10::t) (ws:=ws) (k:=k) (by rw [hb2,List.length_append,List.length_cons];omega) (by rw [hb2,hd];exact q2) q3 q4 (by rw [hb2,hd];exact q5);rw [hb2,hd] at this;exact this
 | @cons s ws k hb hk h0 h64 _ ih =>
  have hb2:blk (s++10::t)=blk s:=by rw [Zgt t s.length s (Nat.le_refl _),if_neg (by omega)]
  have hd:(s++10::t).drop (blk s)=s.drop (blk s)++10::t:=List.drop_append_of_le_length (by omega)
  have hne:s.drop (blk s)≠[]:=by
   intro q;have:=congrArg List.length q;rw [List.length_drop] at this;simp at this;omega
  have hf:(Zba (s.drop (blk s)++10::t)).1=k:=by rw [Z2w (by decide) _ hne,hk]
  have hle:=Zqg (s.drop (blk s));rw [hk] at hle
  have:=Lx.cons (s:=s++10::t) (ws:=ws++vs) (k:=k) (by rw [hb2,List.length_append];omega) (by rw [hb2,hd];exact hf) h0 h64 (by
   rw [hb2,hd,List.drop_append_of_le_length hle];exact ih)
  rw [hb2,hd,List.take_append_of_le_length hle] at this;exact this
theorem Z47 {a b:List UInt8} (ha:(Z0b a).2.2=0) (hb:(Z0b b).2.2=0) (hl:a.length+b.length≤2000) :
  Z0b (a++10::b)=((Z0b a).1++(Z0b b).1,0,0):=by
 obtain ⟨l,x,e1,g1,_,p1⟩:=Zdi ha;obtain ⟨m,y,e2,g2,_,p2⟩:=Zdi hb;have c1:=Ztl e1;have c2:=Ztl e2;have n1:=g1.len;have n2:=g2.len;rw [List.length_map] at n1 n2;obtain ⟨q,e3,e4⟩:=Zaaa ((Zas e1).join (Zas e2)) (by rw [List.length_append,List.length_cons];omega);rw [p1,p2]
 show Z0b (a++10::b)=(x++y,0,0)
 exact Zet e3 (by rw [e4];exact g1.app g2) (by rw [List.length_append];omega)
end Go.Hs
end

section
namespace Go.Hs
theorem Zyw {N M:List (List UInt8)} (h:∀ t,N.contains t=M.contains t):∀ (l:List XN) (i:Int) (acc:List Int),goN N l i acc=goN M l i acc
 | [],_,_=>rfl
 | n::r,i,acc=>by
  have:Z0h N n acc=Z0h M n acc:=by unfold Z0h;rw [h]
  rw [goN,goN,this]
  split
  ·rfl
  ·exact Zyw h r _ _
theorem Zv3 {N M:List (List UInt8)} (h:∀ t,N.contains t=M.contains t) (l:List XN):Z3l N l=Z3l M l:=by
 have:Zlb N l=Zlb M l:=by
  unfold Zlb
  split
  ·rfl
  ·exact Zyw h _ _ _
 unfold Z3l;rw [this]
theorem Zes (a:List UInt8) (l:List (List UInt8)) (t:List UInt8):([a]++l).contains t=(l++[a]).contains t:=by
 rw [Bool.eq_iff_iff];simp only [List.contains_eq_mem,decide_eq_true_eq,List.mem_append,List.mem_singleton];exact or_comm
def Zgl:List UInt8:=[97,114,103]
def Z0j (names:List (List UInt8)) (x:List XN):Bool:=x.isEmpty || (Z3l names x).1==1
def stT (vars events:List (List UInt8)) (s:ASt):Bool:=(if s.kind=2 then events.contains s.name else vars.contains s.name) && Z0j (vars++[Zgl]) s.x
def Zfg (vars events:List (List UInt8)):List ASt→Int→Int × Int
 | [],_=>(0,0)
 | s::r,i=>if stT vars events s=true then Zfg vars events r (i+1) else (i,90)
def Zxf (b:List ASt) (vars events:List (List UInt8)):Int × Int:=if Zab b≠0 then (0,2) else Zfg vars events b 0
theorem Zrq {vars events:List (List UInt8)}:∀ (b:List ASt) (i:Int),(Zfg vars events b i).2=0 ↔ b.all (stT vars events)=true
 | [],i=>by simp [Zfg]
 | s::r,i=>by
  rw [Zfg,List.all_cons]
  by_cases h:stT vars events s=true
  ·rw [if_pos h,h,Bool.true_and];exact Zrq r (i+1)
  ·rw [if_neg h]
   simp only [h,Bool.false_and]
   constructor
   ·intro q;cases q
   ·intro q;cases q
theorem Z2n {vars events:List (List UInt8)} {b:List ASt} {k:Nat} {s:ASt} (h:b[k]? = some s):Zfg vars events (b.drop k) k=if stT vars events s=true then Zfg vars events (b.drop (k+1)) (k+1:Nat) else ((k:Int),90):=by
 obtain ⟨q1,q2⟩:=List.getElem?_eq_some_iff.1 h
 rw [List.drop_eq_getElem_cons q1,q2,Zfg]<;>rfl
theorem GB.right {ws:List (List UInt8)} {b:List ASt} (h:GB ws b):∀ s∈b,Zyf s=true∧(s.x=[]∨∃ x:X,x.ok=true∧x.depth≤64∧x.fit∧s.x=x.row 0):=by
 have hx:∀ {ts:List (List UInt8)} {x:X},Gr 1 ts x→x.depth≤64→Zma (x.row 0)=0:=by
  intro ts x g hd;rw [Zem g.ok,if_neg (by omega)]
 induction h with
 | nil=>intro s hs;cases hs
 | asg n g d _ ih =>
  intro s hs
  rcases List.mem_cons.1 hs with rfl | hs
  ·exact ⟨by simp [Zyf,n,hx g d],.inr ⟨_,g.ok,d,g.fit,rfl⟩⟩
  ·exact ih s hs
 | bare n _ ih =>
  intro s hs
  rcases List.mem_cons.1 hs with rfl | hs
  ·exact ⟨by simp [Zyf,n],.inl rfl⟩
  ·exact ih s hs
 | emit n g d _ ih =>
  intro s hs
  rcases List.mem_cons.1 hs with rfl | hs
  ·exact ⟨by simp [Zyf,n,hx g d],.inr ⟨_,g.ok,d,g.fit,rfl⟩⟩
  ·exact ih s hs
theorem GB.check {ws:List (List UInt8)} {b:List ASt} (h:GB ws b) (hl:b.length≤512):Zab b=0:=by
 unfold Zab;rw [if_neg (by omega),if_pos];rw [List.all_eq_true];exact fun s hs=>(h.right s hs).1
theorem Zrf {s:List UInt8} (h:(Z0b s).2.2=0):Zab (Z0b s).1=0:=by
 obtain ⟨l,b,_,g,hl,e⟩:=Zdi h;rw [e];exact g.check hl
theorem Zk9 {vars events more:List (List UInt8)} {s:ASt} (hs:s.x=[]∨∃ x:X,x.ok=true∧x.depth≤64∧x.fit∧s.x=x.row 0) (h:stT vars events s=true):stT (more++vars) (more++events) s=true:=by
 unfold stT at h ⊢;rw [Bool.and_eq_true] at h ⊢;obtain ⟨h1,h2⟩:=h;refine ⟨?_,?_⟩
 ·split
  ·rename_i hk
   rw [if_pos hk] at h1;simp only [List.contains_eq_mem,decide_eq_true_eq] at h1 ⊢;exact List.mem_append_right _ h1
  ·rename_i hk
   rw [if_neg hk] at h1;simp only [List.contains_eq_mem,decide_eq_true_eq] at h1 ⊢;exact List.mem_append_right _ h1
 ·unfold Z0j at h2 ⊢
  rcases hs with hs | ⟨x,hx,hd,_,hs⟩
  ·rw [hs]<;>rfl
  ·rw [hs] at h2 ⊢
   rw [Bool.or_eq_true] at h2 ⊢
   rcases h2 with h2 | h2
   ·exact .inl h2
   ·right
    have hne:(Z3l (vars++[Zgl]) (x.row 0)).1≠0:=by rw [beq_iff_eq] at h2;omega
    have hk0:(Zlb (vars++[Zgl]) (x.row 0)).2.2=0:=by
     refine Classical.byContradiction fun hk=>hne ?_;unfold Z3l;rw [if_pos hk]
    obtain ⟨y,hy,e,hc,hka,_⟩:=Zqz hk0;have hxy:x=y:=Zks _ _ 0 hx hy e;subst hxy;have q1:=Zmw hx hc hka
    have q2:=Zi6 (M:=more++vars++[Zgl]) hx hc hka fun t ht=>by
     have:=Z01 hka ht;simp only [List.contains_eq_mem,decide_eq_true_eq,List.mem_append] at this ⊢
     rcases this with q | q
     ·exact .inl (.inr q)
     ·exact .inr q
    rw [q1] at h2;rw [q2];exact h2
end Go.Hs
end

section
namespace Go.Hs
theorem Zcm:∀ L:List (List (List UInt8)),(∀ ws∈L,ws≠[])→Zha (L.map Zha)=Zha L.flatten
 | [],_=>rfl
 | [a],_=>by simp [Zha]
 | a::b::r,h=>by
  have hb:(b::r).flatten≠[]:=by
   have:=h b (by simp);simp only [List.flatten_cons,ne_eq,List.append_eq_nil_iff,not_and];exact fun q=>absurd q this
  have ih:=Zcm (b::r) fun ws hw=>h ws (List.mem_cons_of_mem _ hw);rw [List.map_cons,Z5a _ (by simp),ih,List.flatten_cons (l:=a),Zcd (h a (by simp)) hb]
theorem Zps {x:X} (h:x.ok=true) (hc:Zma (x.row 0)=0):prP (x.row 0)=(Zha (x.W 0),0):=by
 unfold prP;rw [dif_pos hc];have hs:=Classical.choose_spec (Zfd hc);generalize Classical.choose (Zfd hc)=y at hs ⊢;rw [Zks _ _ 0 h hs.1 hs.2.1]
theorem Zj9 {s:ASt} (h:Zyf s=true) (hn:∀ n∈s.x,n.num≤9223372036854775807):∃ ws:List (List UInt8),ws≠[]∧sT s=Zha ws∧(∀ w∈ws,isP w≠0)∧(∀ r b,GB r b→GB (ws++r) (s::b)) ∧
  (Zha ws).length≤66 * s.x.length+78:=by
 obtain ⟨k,nm,xs⟩:=s;simp only at hn;simp only [Zyf,Bool.and_eq_true,Bool.or_eq_true,beq_iff_eq] at h;obtain ⟨⟨hk,hnm⟩,hx⟩:=h;have hnl:=(Zyd (w:=nm) (by omega)).2.2
 have hnz:isP nm≠0:=by omega
 by_cases h0:xs=[]
 ·have hk2:k=2:=by
   rcases hx with ⟨q,_⟩ | q
   ·exact q
   ·rw [h0] at q;exact absurd q (by decide)
  subst hk2 h0;refine ⟨[Zmd,nm,[40],[41],[59]],by simp,?_,?_,fun r b hg=>GB.bare hnm hg,?_⟩
  ·simp [sT,xsT,Zha,Zmd]
  ·intro w hw
   simp only [List.mem_cons,List.not_mem_nil,or_false] at hw
   rcases hw with rfl | rfl | rfl | rfl | rfl
   ·decide +kernel
   ·exact hnz
   ·decide +kernel
   ·decide +kernel
   ·decide +kernel
  ·simp [Zha,Zmd];omega
 ·have hc:Zma xs=0:=by
   rcases hx with ⟨_,q⟩ | q
   ·exact absurd (List.isEmpty_iff.1 q) h0
   ·exact q
  obtain ⟨x,hxo,rfl,hd⟩:=Zfd hc;have hf:=Z6h x 0 hn;have hpr:=Zps hxo hc;have hW:=Gr.mono (W_gr x hxo hf 0 (by decide)) (m:=1) (by decide);have hwok:=Zwf x hxo hf 0;have hpl:=Zpo hxo hf
  have hxs:xsT (x.row 0)=Zha (x.W 0)++[32]:=by
   unfold xsT;rw [if_neg h0,hpr]
  have hWne:=W_ne x 0;rw [X.row_len]
  rcases hk with rfl | rfl
  ·have hj:Zha (nm::[58,61]::(x.W 0++[[59]]))=nm++32::58::61::32::(Zha (x.W 0)++[32,59]):=by
    rw [Z5a _ (by simp),Z5a _ (by simp),Zcd hWne (by simp)];simp [Zha]
   refine ⟨nm::[58,61]::(x.W 0++[[59]]),by simp,?_,?_,fun r b hg=>?_,?_⟩
   ·rw [hj]
    simp [sT,hxs]
   ·intro w hw
    simp only [List.mem_cons,List.mem_append,List.not_mem_nil,or_false] at hw
    rcases hw with rfl | rfl | hw | rfl
    ·exact hnz
    ·decide +kernel
    ·exact hwok w hw
    ·decide +kernel
   ·have:=GB.asg hnm hW hd hg
    simpa using this
   ·rw [hj]
    simp only [List.length_append,List.length_cons,List.length_nil];omega
  ·have hj:Zha (Zmd::nm::[40]::(x.W 0++[[41],[59]]))=[101,109,105,116,32]++nm++[32,40,32]++(Zha (x.W 0)++[32,41,32,59]):=by
    rw [Z5a _ (by simp),Z5a _ (by simp),Z5a _ (by simp),Zcd hWne (by simp)];simp [Zha,Zmd]
   refine ⟨Zmd::nm::[40]::(x.W 0++[[41],[59]]),by simp,?_,?_,fun r b hg=>?_,?_⟩
   ·rw [hj]
    simp [sT,hxs]
   ·intro w hw
    simp only [List.mem_cons,List.mem_append,List.not_mem_nil,or_false] at hw
    rcases hw with rfl | rfl | rfl | hw | rfl | rfl
    ·decide +kernel
    ·exact hnz
    ·decide +kernel
    ·exact hwok w hw
    ·decide +kernel
    ·decide +kernel
   ·have:=GB.emit hnm hW hd hg
    simpa using this
   ·rw [hj]
    simp only [List.length_append,List.length_cons,List.length_nil];omega
def Z4j (b:List ASt):Nat:=(b.map fun s=>66 * s.x.length+79).sum
theorem Zgm:∀ {b:List ASt},(∀ s∈b,Zyf s=true∧∀ n∈s.x,n.num≤9223372036854775807)→∃ L:List (List (List UInt8)),b.map sT=L.map Zha∧(∀ ws∈L,ws≠[])∧(∀ w∈L.flatten,isP w≠0)∧GB L.flatten b ∧
  ((b.map sT).map fun w=>w.length+1).sum≤Z4j b
 | [],_=>⟨[],rfl,(fun ws h=>by cases h),(fun w h=>by cases h),GB.nil,Nat.le_refl _⟩
 | s::r,h=>by
  obtain ⟨L,e,hne,hok,g,hl⟩:=Zgm (b:=r) fun s hs=>h s (List.mem_cons_of_mem _ hs);obtain ⟨ws,w1,w2,w3,w4,w5⟩:=Zj9 (h s (by simp)).1 (h s (by simp)).2;refine ⟨ws::L,by rw [List.map_cons,List.map_cons,e,w2],?_,?_,w4 _ _ g,?_⟩
  ·intro v hv
   rcases List.mem_cons.1 hv with rfl | hv
   ·exact w1
   ·exact hne v hv
  ·intro w hw
   rw [List.flatten_cons,List.mem_append] at hw
   rcases hw with hw | hw
   ·exact w3 w hw
   ·exact hok w hw
  ·simp only [List.map_cons,List.sum_cons,Z4j] at hl ⊢
   rw [w2];omega
theorem Zci {b:List ASt} (h:Zab b=0):b.length≤512∧∀ s∈b,Zyf s=true:=by
 unfold Zab at h
 split at h
 ·cases h
 ·split at h
  ·rename_i h1 h2
   rw [List.all_eq_true] at h2;exact ⟨by omega,h2⟩
  ·cases h
theorem Z3q {b:List ASt} (h:Zab b=0) (hn:∀ s∈b,∀ n∈s.x,n.num≤9223372036854775807):(Zha (b.map sT)).length≤Z4j b:=by
 obtain ⟨_,hst⟩:=Zci h;obtain ⟨L,_,_,_,_,hl⟩:=Zgm fun s hs=>⟨hst s hs,hn s hs⟩;exact Nat.le_trans (Z1h _) hl
theorem Zh4 {b:List ASt} (h:Zab b=0) (hn:∀ s∈b,∀ n∈s.x,n.num≤9223372036854775807) (hc:Z4j b≤65536):printA b=(Zha (b.map sT),0)∧Z0b (Zha (b.map sT))=(b,0,0):=by
 obtain ⟨h5,hst⟩:=Zci h;obtain ⟨L,e,hne,hok,g,hl⟩:=Zgm fun s hs=>⟨hst s hs,hn s hs⟩;refine ⟨by unfold printA;rw [if_pos h],?_⟩;have hlen:=Z1h (b.map sT)
 have ej:Zha (b.map sT)=Zha L.flatten:=by rw [e,Zcm L hne]
 obtain ⟨l,e1,e2⟩:=Zj5 (Z4o L.flatten) hok (by rw [← ej];omega);rw [ej];exact Zet e1 (by rw [e2];exact g) h5
theorem GB.cost {ws:List (List UInt8)} {b:List ASt} (h:GB ws b):Z4j b≤66 * ws.length:=by
 induction h with
 | nil=>exact Nat.le_refl _
 | asg n g d _ ih =>
  have hs:=g.size;simp only [Z4j,List.map_cons,List.sum_cons,X.row_len,List.length_cons,List.length_append] at ih ⊢;omega
 | bare n _ ih =>
  simp only [Z4j,List.map_cons,List.sum_cons,List.length_cons,List.length_nil] at ih ⊢;omega
 | emit n g d _ ih =>
  have hs:=g.size;simp only [Z4j,List.map_cons,List.sum_cons,X.row_len,List.length_cons,List.length_append] at ih ⊢;omega
theorem Zch:∀ (x:X) (k:Int),x.ok=true→x.fit→∀ n∈x.row k,n.num≤9223372036854775807
 | .leaf op num name,k,_,h=>by
  intro n hn;simp only [X.row,List.mem_singleton] at hn;subst hn;exact h
 | .un op a,k,ho,h=>by
  intro n hn;simp only [X.ok,Bool.and_eq_true] at ho;simp only [X.row,List.mem_append,List.mem_singleton] at hn
  rcases hn with hn | rfl
  ·exact Zch a k ho.2 h n hn
  ·show (0:Int)≤_;decide
 | .bin op a b,k,ho,h=>by
  intro n hn;simp only [X.ok,Bool.and_eq_true] at ho;simp only [X.row,List.mem_append,List.mem_singleton] at hn
  rcases hn with (hn | hn) | rfl
  ·exact Zch a k ho.1.2 h.1 n hn
  ·exact Zch b _ ho.2 h.2 n hn
  ·show (0:Int)≤_;decide
 | .ite a b c,k,ho,h=>by
  intro n hn;simp only [X.ok,Bool.and_eq_true] at ho;simp only [X.row,List.mem_append,List.mem_singleton] at hn
  rcases hn with ((hn | hn) | hn) | rfl
  ·exact Zch a k ho.1.1 h.1 n hn
  ·exact Zch b _ ho.1.2 h.2.1 n hn
  ·exact Zch c _ ho.2 h.2.2 n hn
  ·show (0:Int)≤_;decide
theorem GB.nums {ws:List (List UInt8)} {b:List ASt} (h:GB ws b):∀ s∈b,∀ n∈s.x,n.num≤9223372036854775807:=by
 intro s hs n hn;obtain ⟨_,h2⟩:=h.right s hs
 rcases h2 with h2 | ⟨x,hx,_,hf,h2⟩
 ·rw [h2] at hn;cases hn
 ·rw [h2] at hn;exact Zch x 0 hx hf n hn
end Go.Hs
end

section
namespace Go.Hs
open Go.Proofs
set_option maxRecDepth 10000
theorem Zxa (c:Col) (s:ASt):(Zsa c s).cells.length=3:=rfl
def encABs (c:Col) (l:List ASt):V:=Zd c 3 (Zsa c) (Zea l)
def encBR (r:List ASt × Int × Int):V := .tuple [encABs .new r.1,.int .i64 r.2.1,.int .i64 r.2.2]
theorem Zqs {l:List Tk} {n i:Nat} {t:Tk} (h:l[i]? = some t):Zxk l n (i:Int)=t.pos:=by
 have hi:i<l.length:=by
  refine Classical.byContradiction fun h2=>?_;rw [List.getElem?_eq_none (by omega)] at h;cases h
 unfold Zxk
 rw [if_pos (by omega),Int.toNat_natCast,List.getD_eq_getElem?_getD,h]<;>rfl
theorem Zd0 (G:Nat→V) (hG:GOk G) (s:List UInt8) (hs:s.length<100000):Spec Tryz.prog G 13 [.str s] Zl (fun v _=>v=encBR (Z0b s)):=by
 refine Zo 0 63 [.tmp 2,.tmp 3,.tmp 4] Tryz.func13 fun X=>?_
 have hP:Z0b s=if (Zbb s).2.2≠0 then (([]:List ASt),(Zbb s).2.1,(Zbb s).2.2) else Z1d (Zbb s).1 s.length ((Zbb s).1.length+1) 0 []:=rfl
 generalize Z0b s=res at hP ⊢;have hT:=Zvy hs;have hl:=Z8v G hG s hs;generalize Zbb s=p at hP hT hl;obtain ⟨l,at0,e0⟩:=p;simp only at hP hT;have hTl:=hT.len;refine Z1 ?_;refine Z1 ?_;refine Zn hG ?_ (s:=hl);refine Zsf (zi @encTok.eq_1 (zi @encTks.eq_1 @Z2a)) ?_;have hS:(Zea l).l=l:=Zza l;generalize Zea l=S at hS;subst hS;refine Zy ?_
 by_cases he:e0=0
 rotate_left
 ·rw [if_pos he] at hP
  have q1:(e0==0)=false:=by simpa using he
  refine Zdc (by kernel_rfl) ?_;simp -implicitDefEqProofs only[go_sem,seval,↓reduceIte,bne,q1];refine Z ?_
  rw [hP]<;>rfl
 rw [if_neg (by simpa using he)] at hP
 have q1:(e0==0)=true:=by simpa using he
 refine Zdc (by kernel_rfl) ?_;simp -implicitDefEqProofs only[go_sem,seval,↓reduceIte,bne,q1];refine Z1 ?_;refine Z1 ?_;refine Zy ?_;refine AW.block ?_
 refine Zwc (fun (x:(Nat × Nat) × List ASt)=>st [(0,.str s),(5,Zd .new 3 Z8a S),(8,grown 60 x.1.1 3 x.2),(9,.int .i64 x.1.2)] [(60,Zjb x.1.1 (Zsa .new) x.2)])
  (fun x=>x.1.2≤S.l.length∧x.2.length≤512∧∃ f,S.l.length<f+x.1.2∧Z1d S.l s.length f x.1.2 x.2=res) (fun x=>S.l.length-x.1.2) ((0,0),[]) ⟨Nat.zero_le _,Nat.zero_le _,S.l.length+1,Nat.lt_succ_self _,hP.symm⟩
  (Zb zp zp) ?_
 rintro ⟨⟨gx,i⟩,acc⟩ ⟨hi,hac,f,hf,hR⟩ L3 hL3;simp only at hi hac hf hR;refine Zy ?_
 cases f with
 | zero=>omega
 | succ f =>
 rw [Z1d] at hR;refine Z1 ?_;refine Za rfl (fun h26=>?_) (fun h26=>?_);rotate_left
 ·have hil:S.l.length≤i:=by have:=zN h26;omega
  rw [if_pos hil] at hR;refine Z0 ?_;refine AW.weak (Z2 (fun o=>o==60) (l:=[(8,Zd .new 3 (Zsa .new) (Zea acc))]) (m:=[]) ?_ trivial) ?_
  ·refine Zs ?_
   exact Zyb rfl zp (Zxa _)
  refine Z ?_
  rw [← hR]<;>rfl
 have hil:i<S.l.length:=zL h26;rw [if_neg (by omega)] at hR;have hg:=List.getElem?_eq_getElem hil;refine Z0 ?_;refine AW.block ?_;refine Zy ?_
 by_cases h5:acc.length=512
 ·rw [if_pos h5] at hR
  generalize S.l[i]=t at hg;rw [Zqs hg] at hR
  have q2:((acc.length:Int)==512)=true:=by rw [beq_iff_eq];omega
  refine Z1f q2 ?_;refine Zpe rfl ?_;refine ZTf (zi hg @Zxb) hG ?_;refine Z ?_
  rw [← hR]<;>rfl
 rw [if_neg h5] at hR
 have q2:((acc.length:Int)==512)=false:=by rw [beq_eq_false_iff_ne];omega
 refine Z1f q2 ?_;refine Z0 ?_;have hst:=fun c=>Zn4 G hG c S hT i (by omega);have hb:=Z7n S.l i;generalize Zoc S.l i=q at hR hst hb;obtain ⟨x,n,e⟩:=q;obtain ⟨hge,hok⟩:=hb;simp only at hge hok hR;obtain ⟨m,rfl⟩:=Int.eq_ofNat_of_zero_le (a:=n) (by omega);refine Z1 ?_;refine Znf @Z2a hG ?_ (s:=(hst _));refine Zsf (zi @encSR.eq_1 (zi @Zcg @Z4)) ?_;intro g10;refine Zy ?_
 by_cases he2:e=0
 rotate_left
 ·rw [if_pos he2] at hR
  have q3:(e==0)=false:=by simpa using he2
  refine Zdc (by kernel_rfl) ?_;simp -implicitDefEqProofs only[go_sem,seval,↓reduceIte,bne,q3];refine Z1 ?_;refine Za rfl (fun h47=>?_) (fun h47=>?_)
  ·have hml:m<S.l.length:=zL h47
   have hgm:=List.getElem?_eq_getElem hml;generalize S.l[m]=t at hgm;rw [Zqs hgm] at hR;refine ZTf (zi hgm @Zxb) hG ?_;refine Z ?_
   rw [← hR]<;>rfl
  ·have hml:¬ m<S.l.length:=by have:=zN h47;omega
   refine Z ?_;rw [← hR];unfold Zxk
   rw [if_neg (by show ¬ ((m:Int)<S.l.length);omega)]<;>rfl
 rw [if_neg (by simpa using he2)] at hR
 have q3:(e==0)=true:=by simpa using he2
 obtain ⟨h6,h7⟩:=hok he2;refine Zdc (by kernel_rfl) ?_;simp -implicitDefEqProofs only[go_sem,seval,↓reduceIte,bne,q3];refine Z1 ?_;intro g59;refine Zpb (f:=Zsa .new) (l:=acc) (l2:=[x]) (g:=gx) (Zxa _) rfl rfl rfl zp (Zda (by omega) (by simp;omega)) fun g2=>?_;refine Zs ?_;refine Z1 ?_;refine hL3 _ ⟨((g2,m),acc++[x]),?_,⟨?_,?_,f,?_,hR⟩,Zb zp zp⟩
 ·show S.l.length-m<S.l.length-i
  omega
 ·show m≤_;omega
 ·show (acc++[x]).length≤_;rw [List.length_append];show acc.length+1≤_;omega
 ·show S.l.length<f+m;omega
end Go.Hs
end

section
namespace Go.Hs
open Go.Proofs
set_option maxRecDepth 10000
structure CU where
 i:Nat
 e:Int
def cuO (sl:Sl Tk) (g:Nat) (st:V) (r:CU):AObj := .cells .any g 0 [Zd .any 3 Z8a sl,.int .i64 r.i,.int .i64 r.e,st]
theorem Zph (sl:Sl Tk) (g:Nat) (st:V) (r:CU):cuO sl g st r = .cells .any g 0 [Zd .any 3 Z8a sl,.int .i64 r.i,.int .i64 r.e,st]:=rfl
def CuS (G:Nat→V) (f:FuncId) (args:List V) (sl:Sl Tk) (g:Nat) (r:CU) (v:V) (r':CU):Prop :=
 ∀ st:V,(∀ F:Col→Col,st.recol F=st)→Spec Tryz.prog G f (.ptr 21 g 0::args) (Zub Zl [(21,cuO sl g st r)]) (fun v0 H'=>v0=v∧H' 21=cuO sl g st r')
theorem CuS.call {G:Nat→V} (hG:GOk G) {f:FuncId} {args args':List V} {sl:Sl Tk} {g:Nat} {r r':CU} {v st:V} (h:CuS G f args' sl g r v r') {H:Heap} {K:V→Heap→Prop}
  (hst:∀ F:Col→Col,st.recol F=st) (hen:Zka Tryz.prog f=true) (hargs:args.map (V.recol Col.ent)=args') {v':V} (hv:v.recol Col.bk=v')
  (h8:H 21=cuO sl g st r) (hk:K v' (Zub H [(21,cuO sl g st r')])) :
  CallA Tryz.prog G f (.ptr 21 g 0::args) H K:=by
 have e8:∀ (F:Col→Col) r,F .any = .any→(cuO sl g st r).recol F=cuO sl g st r:=by
  intro F r hF;simp only [Zph,recol_cells,List.map_cons,List.map_nil,Z2a,Zxd,hF,hst]
 refine Zzr hG [(21,cuO sl g st r)] hen ?_ ?_
 ·intro p hp
  rw [List.mem_singleton] at hp;subst hp;rw [h8,e8 _ _ rfl]
 ·have ha:(V.ptr 21 g 0::args).map (V.recol Col.ent) = .ptr 21 g 0::args':=by rw [List.map_cons,Zuk,hargs]
  rw [ha];refine (h st hst).mono ?_;rintro _ H' ⟨rfl,q8⟩;simp only [List.map_cons,List.map_nil,q8,e8 _ _ Z87,hv];exact hk
theorem Z6j (G:Nat→V) (hG:GOk G) (sl:Sl Tk) (g:Nat) (r:CU) (w:List UInt8):CuS G 89 [.str w] sl g r (.bool (decide (r.i<sl.l.length) && Znb sl.l r.i==w)) r:=by
 intro st hst;refine Zo 1000 30 [.tmp 4] Tryz.func89 fun X=>?_;simp only [Zub,Zph];refine Z1 ?_
 by_cases hi:r.i<sl.l.length
 ·have h1:decide ((r.i:Int)<sl.l.length)=true:=zT
  have hg:=List.getElem?_eq_getElem hi;generalize sl.l[r.i]=t at hg;rw [Z9e hg,decide_eq_true hi,Bool.true_and];refine ZTf (zi h1 (zi hg @Zxb)) hG ?_;refine Z ?_;exact ⟨rfl,by simp -implicitDefEqProofs only[go_sem,seval,↓reduceIte]⟩
 ·have h1:decide ((r.i:Int)<sl.l.length)=false:=zF
  rw [decide_eq_false hi,Bool.false_and];refine ZTf h1 hG ?_;refine Z ?_;exact ⟨rfl,by simp -implicitDefEqProofs only[go_sem,seval,↓reduceIte]⟩
theorem Zf4 (G:Nat→V) (hG:GOk G) (sl:Sl Tk) (g:Nat) (r:CU) (hi:r.i≤sl.l.length):CuS G 227 [] sl g r (Zd .any 3 Z8a (sl.sub r.i sl.l.length)) r:=by
 intro st hst;refine Zo 1000 12 [.tmp 2] Tryz.func227 fun X=>?_;simp only [Zub,Zph];refine Z1 ?_;have hll:sl.l.length≤sl.l.length:=Nat.le_refl _
 refine Zy <| Z5 ⟨fun _ => .top,fun _ => .pure⟩ (by kernel_rfl) hG (by kernel_rfl) (by kernel_rfl) ?_
 simp -implicitDefEqProofs only[go_sem,seval,↓reduceIte,hi,hll,and_self];refine Z ?_;exact ⟨rfl,by simp -implicitDefEqProofs only[go_sem,seval,↓reduceIte]⟩
theorem Zrr (G:Nat→V) (hG:GOk G) (sl:Sl Tk) (hsl:sl.l.length<1000000) (g:Nat) (r:CU) (hi:r.i≤sl.l.length):CuS G 153 [] sl g r (.tuple [.str (if Zng sl.l r.i=true then Znb sl.l r.i else []),.bool (Zng sl.l r.i)])
  (if Zng sl.l r.i=true then ⟨r.i+1,r.e⟩ else ⟨r.i,110⟩):=by
 intro st hst;refine Zo 1000 50 [.tmp 2,.tmp 3] Tryz.func153 fun X=>?_;simp only [Zub,Zph];refine Z1 ?_;refine Zy ?_
 by_cases hil:r.i=sl.l.length
 ·have h1:((r.i:Int)==sl.l.length)=true:=by rw [beq_iff_eq];omega
  refine ZTf h1 hG ?_;refine Z ?_;rw [Z2e (by omega)];exact ⟨rfl,by simp -implicitDefEqProofs only[go_sem,seval,↓reduceIte];try rfl⟩
 have h1:((r.i:Int)==sl.l.length)=false:=by rw [beq_eq_false_iff_ne];omega
 have hilt:r.i<sl.l.length:=by omega
 have hg:=List.getElem?_eq_getElem hilt;generalize sl.l[r.i]=t at hg
 cases hk:(t.kind==2) with
 | false =>
  refine Zy <| Z5 ⟨fun _ => .top,fun _ => .pure⟩ (by kernel_rfl) hG (by kernel_rfl) (by kernel_rfl) ?_
  simp -implicitDefEqProofs only[go_sem,seval,↓reduceIte,h1,hg,Zxb,bne,hk];refine Z ?_;rw [Zmg hg,hk];exact ⟨rfl,by simp -implicitDefEqProofs only[go_sem,seval,↓reduceIte];try rfl⟩
 | true =>
  refine Zy <| Z5 ⟨fun _ => .top,fun _ => .pure⟩ (by kernel_rfl) hG (by kernel_rfl) (by kernel_rfl) ?_
  simp -implicitDefEqProofs only[go_sem,seval,↓reduceIte,h1,hg,Zxb,bne,hk];refine Z0 ?_
  have hw:IntKind.i64.wrap ((r.i:Int)+1)=((r.i+1:Nat):Int):=by rw [w64 (by omega) (by omega)];omega
  have hw2:IntKind.i64.wrap (((r.i+1:Nat):Int)-1)=(r.i:Int):=by rw [w64 (by omega) (by omega)];omega
  refine Z1f hw ?_;refine ZTf (zi hw2 (zi hg @Zxb)) hG ?_;refine Z ?_;rw [Zmg hg,hk,Z9e hg];exact ⟨rfl,by simp -implicitDefEqProofs only[go_sem,seval,↓reduceIte];try rfl⟩
theorem Z6e (G:Nat→V) (hG:GOk G) (sl:Sl Tk) (hsl:sl.l.length<1000000) (g:Nat) (r:CU) (hi:r.i≤sl.l.length) (c:Col) (ws:List (List UInt8)) (hws:ws.length<1000) (hwn:∀ w∈ws,w≠[]) (b:Bool) :
  CuS G 154 [Zd c 1 V.str (.mk b ws)] sl g r (.bool (Zwb sl.l ws r.i).1) ⟨(Zwb sl.l ws r.i).2,if (Zwb sl.l ws r.i).1=true then r.e else 110⟩:=by
 intro st hst;refine Zo 1000 28 [.tmp 4] Tryz.func154 fun X=>?_;generalize hP:Zwb sl.l ws r.i=res;simp only [Zub,Zph];have hwl:(Sl.mk b ws).l=ws:=rfl;refine Z1 ?_;refine Z1f hwl ?_;refine AW.block ?_
 refine Zua ws.length (fun m (_:Unit)=>Go.Hs.st [(0,.ptr 21 g 0),(7,Zd c 1 V.str (.mk b ws)),(8,.int .i64 ws.length),(9,.int .i64 m)] [(21,cuO sl g st ⟨r.i+m,r.e⟩)])
  (fun m _=>res=Zwb sl.l (ws.drop m) (r.i+m)∧r.i+m≤sl.l.length) 0 () (Nat.zero_le _) ⟨hP.symm,hi⟩ (Zb zp zp) ?_
 rintro m _ hm ⟨hR,hmi⟩ L2 hL2;refine Z1 ?_;refine Zy ?_;refine Za rfl (fun h10=>?_) (fun h10=>?_);rotate_left
 ·have hm2:m=ws.length:=by have:=zN h10;omega
  rw [List.drop_eq_nil_of_le (by omega)] at hR;refine Z ?_;rw [hR];exact ⟨rfl,by simp -implicitDefEqProofs only[go_sem,seval,↓reduceIte];try rfl⟩
 have hm1:m<ws.length:=zL h10;have hgm:ws[m]? = some ws[m]:=List.getElem?_eq_getElem hm1;have hdr:ws.drop m=ws[m]::ws.drop (m+1):=List.drop_eq_getElem_cons hm1;have hwm:=hwn _ (List.getElem_mem hm1);generalize ws[m]=w2 at hgm hdr hwm;rw [hdr,Zwb] at hR;refine Z1f (zi hwl hgm) ?_;refine Z1 ?_;refine CuS.call hG (Z6j G hG sl g ⟨r.i+m,r.e⟩ w2) hst (by kernel_rfl) zm rfl zr ?_;refine Zu ?_
 have hcond:(decide (r.i+m<sl.l.length) && Znb sl.l (r.i+m)==w2)=(Znb sl.l (r.i+m)==w2):=by
  by_cases h:r.i+m<sl.l.length
  ·rw [decide_eq_true h,Bool.true_and]
  ·rw [decide_eq_false h,Bool.false_and,Zsh (by omega)]
   symm
   rw [beq_eq_false_iff_ne];exact fun h=>hwm h.symm
 rw [hcond]
 by_cases hw4:Znb sl.l (r.i+m)=w2
 rotate_left
 ·rw [if_neg hw4] at hR
  have q2:(Znb sl.l (r.i+m)==w2)=false:=by simpa using hw4
  rw [q2];refine Zf @Zph ?_;rw [hR];exact ⟨rfl,by simp -implicitDefEqProofs only[go_sem,seval,↓reduceIte];try rfl⟩
 have hlt:r.i+m<sl.l.length:=Z7d (by rw [hw4];exact hwm);rw [if_pos hw4] at hR
 have q2:(Znb sl.l (r.i+m)==w2)=true:=by simpa using hw4
 rw [q2];refine Z0 ?_
 have hw5:IntKind.i64.wrap (((r.i+m:Nat):Int)+1)=((r.i+(m+1):Nat):Int):=by rw [w64 (by omega) (by omega)];omega
 have hw6:IntKind.i64.wrap ((m:Int)+1)=((m+1:Nat):Int):=by rw [w64 (by omega) (by omega)];omega
 refine Z1f (zi @Zph hw5) ?_;refine Z1f hw6 ?_;exact hL2 _ ⟨hm1,(),⟨hR,by omega⟩,Zb zp zp⟩
theorem Zsr (G:Nat→V) (hE:GExp G) (sl:Sl Tk) (hT:TkOk sl.l) (g:Nat) (r:CU) (hi:r.i≤sl.l.length) :
  CuS G 155 [] sl g r (.tuple [.agg [encXs .new (Z9c (sl.l.drop r.i)).1],.bool ((Z9c (sl.l.drop r.i)).2.2==0)]) ⟨r.i+(Z9c (sl.l.drop r.i)).2.1.toNat,(Z9c (sl.l.drop r.i)).2.2⟩:=by
 have hG:=hE.ok;intro st hst;refine Zo 1000 29 [.cell 2 53,.tmp 3] Tryz.func155 fun X=>?_;have hTl:=hT.len
 have hsub:(sl.sub r.i sl.l.length).l=sl.l.drop r.i:=by rw [Zx2];exact List.take_of_length_le (by rw [List.length_drop];omega)
 have hfr:=fun c=>Z32 G hE c (sl.sub r.i sl.l.length) (by rw [hsub];exact ⟨by rw [List.length_drop];omega,fun t ht=>hT.text t (List.mem_of_mem_drop ht)⟩);have hbd:=Z5h (l:=sl.l.drop r.i);rw [hsub] at hfr;rw [List.length_drop] at hbd;generalize Z9c (sl.l.drop r.i)=p at hfr hbd;obtain ⟨xs,n,e⟩:=p;simp only at hbd
 have hw3:IntKind.i64.wrap ((r.i:Int)+n)=((r.i+n.toNat:Nat):Int):=by rw [w64 (by omega) (by omega)];omega
 simp only [Zub,Zph];refine Z1 ?_;intro g2;refine Z1 ?_;refine CuS.call hG (Zf4 G hG sl g r hi) hst (by kernel_rfl) rfl rfl zr ?_;simp -implicitDefEqProofs only[go_sem,seval,↓reduceIte,Zub,Z2a];refine Znf @Z2a hG ?_ (s:=(hfr _));refine Zsf (zi @encFr.eq_1 (zi @encXs.eq_1 @Z4)) ?_;intro g4;refine Zf (zi @Zph hw3) ?_;exact ⟨rfl,by simp -implicitDefEqProofs only[go_sem,seval,↓reduceIte];try rfl⟩
end Go.Hs
end
