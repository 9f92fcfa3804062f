/- A part. No condition. -/
import Derived.Test.YtoahejkahaimnaaGreatDoorP51
import Derived.Test.YtoahejkahaimnaaGreatDoorP50
import Derived.Test.YtoahejkahaimnaaGreatDoorRows
import Derived.ProofKit
import Derived.OpenShut
import Derived.LaidLaws
import Derived.Stop.LaidErr
import Derived.Lib.LaidTab
import Derived.Handed
import Derived.ChangeMaps5
set_option linter.all false
section
namespace Go.Hs
open Go.Proofs
set_option maxHeartbeats 1000000
set_option maxRecDepth 10000
def eq3(a b c a' b' c':Int):Bool:=decide (a=a'/\b=b'/\c=c')
theorem Zpha(a b c a' b' c':Int):eqCs [.int .u8 a,.int .u8 b,.int .u8 c] [.int .u8 a',.int .u8 b',.int .u8 c']=some (eq3 a b c a' b' c'):=by
 unfold eq3;simp only[eqCs,eqC,if_true]
 by_cases h1:a=a'
 by_cases h2:b=b'
 by_cases h3:c=c'
 simp[h1,h2,h3];have:(c==c')=false:=zu h3;simp[h1,h2,h3,this];have:(b==b')=false:=zu h2;simp[h1,this,h2];have:(a==a')=false:=zu h1;simp[this,h1]
def knC(v:V):List V:=ruleC++[v]
theorem Zgo(v:V):(knC v).length=93:=by rw[knC,List.length_append]<;>rfl
theorem Zkga(v:V):(knC v)[92]?=some v:=by
 rw[knC,List.getElem?_append_right zd]<;>rfl
theorem Znn:ruleC.length=92:=rfl
theorem Ztma(v:V):(knC v).take 92=ruleC:=by rw[knC,List.take_append_of_le_length (Nat.le_refl 92)]<;>rfl
theorem Zxz(f:Col->Col):ruleC.map (V.recol f)=ruleC:=rfl
theorem Zjga(f:Col->Col)(v:V):(knC v).map (V.recol f)=knC (v.recol f):=by
 rw[knC,List.map_append,Zxz]<;>rfl
theorem Zy7(G:Nat->V)(hG:GOk G)(c1 c2:Col)(names:Sl (List UInt8))(hnl:names.l.length<1000000)(n:XN)(ks:Sl Int)(hn:PlOk ks.l.length n)(hkl:ks.l.length<1000000)(hks:∀ y∈ks.l,y=1\/y=2):
  Spec Tryz.prog G 263 [.agg (knC (Za c1 1 V.str names)),Zkb n,Za c2 1 (V.int .u8) ks] Zk (λv _=>v=.int .u8 (Zbq names.l n ks.l)):=by
 refine Zo 0 71 [.tmp 6] Tryz.func263 λX=>?_;have hP:Zbq names.l n ks.l=kd n.op (names.l.contains n.name) (plc ks.l n.a) (plc ks.l n.b) (plc ks.l n.c):=rfl;generalize Zbq names.l n ks.l=res at hP⊢;simp only[Znd];refine Zha λK hK=>AW.region zk ?_;refine Zsf @Zgo ?_;intro g3 g4 g5;refine hK _ ?_
 try clear hK K
 refine Zlc (fun(_:Unit)=>st [(3,.ptr 3 g3 0),(4,.ptr 4 g4 0),(5,.ptr 5 g5 0)] [(3,.cells .new g3 0 (knC (Za c1 1 V.str names))),(4,.cells .new g4 0 [.int .u8 n.op,.int .i64 n.num,.str n.name,.int .i64 n.a,.int .i64 n.b,.int .i64 n.c]),(5,.cells .new g5 0 [Za c2 1 (V.int .u8) ks])])
  (λ_=>n.op=2->names.l.contains n.name=true) (λK1 hK1=>?_) ?_
 by_cases ho:n.op=2
 .have e1:(n.op==2)=true:=zu ho
  refine Zha λK hK=>AW.region zk ?_;refine Zsf (zi e1 @Zkga) ?_;refine Zc hG ?_ (s:=(Z5c G hG _ n.name names hnl));refine hK _ ?_
  try clear hK K
  cases hc:names.l.contains n.name with
  |true=>
   refine Z0 ?_;exact hK1 _ () (λ_=>hc) (Weak.st zp zp)
  |false=>
   refine Zm rfl (λh21=>?_) (λh21=>?_)
   .refine Zha λK hK=>AW.region zk ?_
    refine Zs ?_;refine hK _ ?_
    try clear hK K
    refine Z ?_
    rw[hP,hc,ho]<;>rfl
   cases h21
 .have e1:(n.op==2)=false:=zu ho
  refine Zha λK hK=>AW.region zk ?_;refine Zsf e1 ?_;refine hK _ ?_
  try clear hK K
  refine Z0 ?_;exact hK1 _ () (λh=>absurd h ho) (Weak.st zp zp)
 rintro _ hnm;refine Zha λK hK=>AW.region zk ?_;refine Zs ?_;refine hK _ ?_
 try clear hK K
 refine AW.weak (Zw (λo=>o==3||o==4||o==5) (l:=[(3,.view .new (.agg (knC (Za c1 1 V.str names)))),(4,.view .new (.agg [.int .u8 n.op,.int .i64 n.num,.str n.name,.int .i64 n.a,.int .i64 n.b,.int .i64 n.c])),(7,.func (.func 283) [] [.view .new (Za c2 1 (V.int .u8) ks)])]) (m:=[]) ?_ trivial) ?_;refine Zs ?_;refine⟨?_,?_,?_⟩;exact Fz.ptr (v:=.agg (knC (Za c1 1 V.str names))) (c:=.new) (fz:=0) rfl zp;exact Fz.ptr (v:=.agg [.int .u8 n.op,.int .i64 n.num,.str n.name,.int .i64 n.a,.int .i64 n.b,.int .i64 n.c]) (c:=.new) (fz:=0) rfl zp;exact Fz.func ⟨Fz.ptr (v:=Za c2 1 (V.int .u8) ks) (c:=.new) (fz:=0) rfl zp,trivial⟩
 have pc:∀ i:Int,(i<0\/0<=i/\i<ks.l.length)->Zada Tryz.prog G 283 [.int .i64 i,.view .new (Za c2 1 (V.int .u8) ks)] (.int .u8 (plc ks.l i)):=λi h=>⟨by kernel_rfl,by
  refine Zs ?_;refine(Zmka G hG _ ks hkl i h).mono ?_;rintro _ _ rfl
  rfl⟩
 obtain⟨hw,ha1,hb1,hc1,ha0,hb0,hc0⟩:=hn
 have hra:n.a<0\/0<=n.a/\n.a<ks.l.length:=by
  by_cases h:0<Z5 n.op
  exact .inr (ha1 h);exact .inl (by rw[ha0 h];decide)
 have hrb:n.b<0\/0<=n.b/\n.b<ks.l.length:=by
  by_cases h:1<Z5 n.op
  exact .inr (hb1 h);exact .inl (by rw[hb0 h];decide)
 have hrc:n.c<0\/0<=n.c/\n.c<ks.l.length:=by
  by_cases h:2<Z5 n.op
  exact .inr (hc1 h);exact .inl (by rw[hc0 h];decide)
 have hor:=Zwk hw;obtain⟨op,hop⟩:∃ op:Nat,n.op=op:=⟨n.op.toNat,zo⟩;have hop1:op<23:=zo;have hop2:n.op<23:=zo;have hop0:0<=n.op:=zo;have hopn:n.op.toNat=op:=zo;have hru:=Zrea op hop1;have hrl:op*4+4<=92:=zo;refine Zha λK hK=>Zp ⟨λi=>if i=8 then .int .u8 (plc ks.l n.a)else if i=12 then .int .u8 (plc ks.l n.b)else if i=16 then .int .u8 (plc ks.l n.c)else .top,λi=>if i=1 then .lend else if i=4 then .lend else if i=7 then .lend else if i=11 then .lend else if i=15 then .lend else .pure⟩ zk hG zk zk ?_;simp -implicitDefEqProofs only[go_sem,seval,Ztma,Zgo,show(92:Nat)<=93 from zd,Znn,hru,hop2,hop0,hopn,hrl];refine⟨pc _ hra,pc _ hrb,pc _ hrc,?_⟩;intro g8 g9;refine hK _ ?_
 try clear hK K
 have hpl:∀ i:Int,(0<=i/\i<ks.l.length)->plc ks.l i=1\/plc ks.l i=2:=by
  intro i hi;unfold plc;rw[if_neg zo];obtain⟨m,rfl⟩:∃ m:Nat,i=m:=⟨i.toNat,zo⟩;rw[Int.toNat_natCast,List.getD_eq_getElem?_getD,List.getElem?_eq_getElem zo];exact hks _ (List.getElem_mem _)
 have hva:0<Z5 n.op->plc ks.l n.a=1\/plc ks.l n.a=2:=λh=>hpl _ (ha1 h);have hvb:1<Z5 n.op->plc ks.l n.b=1\/plc ks.l n.b=2:=λh=>hpl _ (hb1 h);have hvc:2<Z5 n.op->plc ks.l n.c=1\/plc ks.l n.c=2:=λh=>hpl _ (hc1 h)
 have hza:¬ 0<Z5 n.op->plc ks.l n.a=0:=λh=>by rw[ha0 h]<;>rfl
 have hzb:¬ 1<Z5 n.op->plc ks.l n.b=0:=λh=>by rw[hb0 h]<;>rfl
 have hzc:¬ 2<Z5 n.op->plc ks.l n.c=0:=λh=>by rw[hc0 h]<;>rfl
 generalize plc ks.l n.a=a at hP hva hza⊢;generalize plc ks.l n.b=b at hP hvb hzb⊢;generalize plc ks.l n.c=c at hP hvc hzc⊢;refine Zha λK hK=>AW.region zk ?_;refine Zs ?_;refine hK _ ?_
 try clear hK K
 by_cases q16:op=16\/op=17
 .have eA:Zyz op=3:=by rcases q16 with rfl|rfl<;>rfl
  have eB:Zsea op=3:=by rcases q16 with rfl|rfl<;>rfl
  have eD:Zwz op=0:=by rcases q16 with rfl|rfl<;>rfl
  have eI:Z5ka op=2:=by rcases q16 with rfl|rfl<;>rfl
  rw[eA,eB,eD,eI]
  have hpo:Z5 n.op=2:=by rw[hop];rcases q16 with rfl|rfl<;>rfl
  rw[hpo]at hva hvb hzc
  replace hva:=hva zd
  replace hvb:=hvb zd
  replace hzc:=hzc zd
  refine Z6 ?_;refine Zha λK hK=>AW.region zk ?_;refine Zs ?_;refine hK _ ?_
  try clear hK K
  refine Z1 ?_;refine Z6 ?_;refine Zha λK hK=>AW.region zk ?_;refine Zs ?_;refine hK _ ?_
  try clear hK K
  refine Z0 ?_;refine Z6 ?_;refine Zha λK=>?_;intro hK;refine Zhf 3 zk rfl rfl ?_;simp -implicitDefEqProofs only[go_sem,seval,List.take_succ_cons,List.take_zero];refine⟨_,Zbj (.inr rfl) zk zk zk zp zp zk (Zpha _ _ _ _ _ _),?_⟩;simp -implicitDefEqProofs only[go_sem,seval,List.drop_succ_cons,List.drop_zero];refine hK _ ?_
  try clear hK K
  have hP2:res=if eq3 a b c b b 0=true then 2 else 0:=by
   rw[hP,hop,hzc]
   rcases q16 with rfl|rfl<;>rcases hva with rfl|rfl<;>rcases hvb with rfl|rfl<;>rfl
  generalize eq3 a b c b b 0=z at hP2⊢
  cases z with
  |true=>
   refine Z0 ?_;refine Zha λK hK=>AW.region zk ?_;refine Zs ?_;refine hK _ ?_
   try clear hK K
   refine Z ?_
   rw[hP2]<;>rfl
  |false=>
   refine Zm rfl (λh68=>?_) (λh68=>?_)
   .refine Zha λK hK=>AW.region zk ?_
    refine Zs ?_;refine hK _ ?_
    try clear hK K
    refine Z ?_
    rw[hP2]<;>rfl
   cases h68
 by_cases q22:op=22
 .subst q22
  have eA:Zyz 22=2:=rfl;have eB:Zsea 22=3:=rfl;have eD:Zwz 22=3:=rfl;have eI:Z5ka 22=3:=rfl;rw[eA,eB,eD,eI]
  have hpo:Z5 n.op=3:=by rw[hop]<;>rfl
  rw[hpo]at hva hvb hvc
  replace hva:=hva zd
  replace hvb:=hvb zd
  replace hvc:=hvc zd
  refine Z6 ?_;refine Zha λK hK=>AW.region zk ?_;refine Zs ?_;refine hK _ ?_
  try clear hK K
  refine Z0 ?_;refine Z6 ?_;refine Zha λK hK=>AW.region zk ?_;refine Zs ?_;refine hK _ ?_
  try clear hK K
  refine Z1 ?_;refine Z6 ?_;refine Zha λK=>?_;intro hK;refine Zhf 3 zk rfl rfl ?_;simp -implicitDefEqProofs only[go_sem,seval,List.take_succ_cons,List.take_zero];refine⟨_,Zbj (.inr rfl) zk zk zk zp zp zk (Zpha _ _ _ _ _ _),?_⟩;simp -implicitDefEqProofs only[go_sem,seval,List.drop_succ_cons,List.drop_zero];refine hK _ ?_
  try clear hK K
  have hP2:res=if eq3 a b c 2 b b=true then b else 0:=by
   rw[hP,hop]
   rcases hva with rfl|rfl<;>rcases hvb with rfl|rfl<;>rcases hvc with rfl|rfl<;>rfl
  generalize eq3 a b c 2 b b=z at hP2⊢
  cases z with
  |true=>
   refine Z0 ?_;refine Zha λK hK=>AW.region zk ?_;refine Zs ?_;refine hK _ ?_
   try clear hK K
   refine Z ?_
   rw[hP2]<;>rfl
  |false=>
   refine Zm rfl (λh68=>?_) (λh68=>?_)
   .refine Zha λK hK=>AW.region zk ?_
    refine Zs ?_;refine hK _ ?_
    try clear hK K
    refine Z ?_
    rw[hP2]<;>rfl
   cases h68
 have nA:(Zyz op==3)=false:=by unfold Zyz;rw[if_neg q16];split;rfl;split;rfl;rfl
 have nD:(Zwz op==3)=false:=by unfold Zwz;rw[if_neg q22]<;>rfl
 refine Z6 ?_;refine Zha λK hK=>AW.region zk ?_;refine Zsf nA ?_;refine hK _ ?_
 try clear hK K
 refine Z0 ?_;refine Z6 ?_;refine Zha λK hK=>AW.region zk ?_;refine Zsf nD ?_;refine hK _ ?_
 try clear hK K
 refine Z0 ?_;refine Z6 ?_;refine Zha λK=>?_;intro hK;refine Zhf 3 zk rfl rfl ?_;simp -implicitDefEqProofs only[go_sem,seval,List.take_succ_cons,List.take_zero];refine⟨_,Zbj (.inr rfl) zk zk zk zp zp zk (Zpha _ _ _ _ _ _),?_⟩;simp -implicitDefEqProofs only[go_sem,seval,List.drop_succ_cons,List.drop_zero];refine hK _ ?_
 try clear hK K
 have hP2:res=if eq3 a b c (Zyz op) (Zsea op) (Zwz op)=true then Z5ka op else 0:=by
  have hcs:op=1\/op=2\/op=3\/op=4\/op=5\/op=6\/op=7\/op=8\/op=9\/op=10\/op=11\/op=12\/op=13\/op=14\/op=15\/op=18\/op=19\/op=20\/op=21:=zo
  rcases hcs with rfl|rfl|rfl|rfl|rfl|rfl|rfl|rfl|rfl|rfl|rfl|rfl|rfl|rfl|rfl|rfl|rfl|rfl|rfl
  .have hpo:Z5 n.op=0:=by rw[hop]<;>rfl
   rw[hpo]at hva hvb hza hzb hzc;rw[hP,hop,hza zd,hzb zd,hzc zd]
   try rfl
  .have hpo:Z5 n.op=0:=by rw[hop]<;>rfl
   rw[hpo]at hva hvb hza hzb hzc;rw[hP,hop,hza zd,hzb zd,hzc zd];rw[hnm (by rw[hop]<;>rfl)]
   try rfl
  .have hpo:Z5 n.op=0:=by rw[hop]<;>rfl
   rw[hpo]at hva hvb hza hzb hzc;rw[hP,hop,hza zd,hzb zd,hzc zd]
   try rfl
  .have hpo:Z5 n.op=0:=by rw[hop]<;>rfl
   rw[hpo]at hva hvb hza hzb hzc;rw[hP,hop,hza zd,hzb zd,hzc zd]
   try rfl
  have hpo:Z5 n.op=1:=by rw[hop]<;>rfl
  rw[hpo]at hva hvb hza hzb hzc;rw[hP,hop,hzb zd,hzc zd]
  rcases hva zd with rfl|rfl<;>rfl
  have hpo:Z5 n.op=1:=by rw[hop]<;>rfl
  rw[hpo]at hva hvb hza hzb hzc;rw[hP,hop,hzb zd,hzc zd]
  rcases hva zd with rfl|rfl<;>rfl
  have hpo:Z5 n.op=2:=by rw[hop]<;>rfl
  rw[hpo]at hva hvb hza hzb hzc;rw[hP,hop,hzc zd]
  rcases hva zd with rfl|rfl<;>rcases hvb zd with rfl|rfl<;>rfl
  have hpo:Z5 n.op=2:=by rw[hop]<;>rfl
  rw[hpo]at hva hvb hza hzb hzc;rw[hP,hop,hzc zd]
  rcases hva zd with rfl|rfl<;>rcases hvb zd with rfl|rfl<;>rfl
  have hpo:Z5 n.op=2:=by rw[hop]<;>rfl
  rw[hpo]at hva hvb hza hzb hzc;rw[hP,hop,hzc zd]
  rcases hva zd with rfl|rfl<;>rcases hvb zd with rfl|rfl<;>rfl
  have hpo:Z5 n.op=2:=by rw[hop]<;>rfl
  rw[hpo]at hva hvb hza hzb hzc;rw[hP,hop,hzc zd]
  rcases hva zd with rfl|rfl<;>rcases hvb zd with rfl|rfl<;>rfl
  have hpo:Z5 n.op=2:=by rw[hop]<;>rfl
  rw[hpo]at hva hvb hza hzb hzc;rw[hP,hop,hzc zd]
  rcases hva zd with rfl|rfl<;>rcases hvb zd with rfl|rfl<;>rfl
  have hpo:Z5 n.op=2:=by rw[hop]<;>rfl
  rw[hpo]at hva hvb hza hzb hzc;rw[hP,hop,hzc zd]
  rcases hva zd with rfl|rfl<;>rcases hvb zd with rfl|rfl<;>rfl
  have hpo:Z5 n.op=2:=by rw[hop]<;>rfl
  rw[hpo]at hva hvb hza hzb hzc;rw[hP,hop,hzc zd]
  rcases hva zd with rfl|rfl<;>rcases hvb zd with rfl|rfl<;>rfl
  have hpo:Z5 n.op=2:=by rw[hop]<;>rfl
  rw[hpo]at hva hvb hza hzb hzc;rw[hP,hop,hzc zd]
  rcases hva zd with rfl|rfl<;>rcases hvb zd with rfl|rfl<;>rfl
  have hpo:Z5 n.op=2:=by rw[hop]<;>rfl
  rw[hpo]at hva hvb hza hzb hzc;rw[hP,hop,hzc zd]
  rcases hva zd with rfl|rfl<;>rcases hvb zd with rfl|rfl<;>rfl
  have hpo:Z5 n.op=2:=by rw[hop]<;>rfl
  rw[hpo]at hva hvb hza hzb hzc;rw[hP,hop,hzc zd]
  rcases hva zd with rfl|rfl<;>rcases hvb zd with rfl|rfl<;>rfl
  have hpo:Z5 n.op=2:=by rw[hop]<;>rfl
  rw[hpo]at hva hvb hza hzb hzc;rw[hP,hop,hzc zd]
  rcases hva zd with rfl|rfl<;>rcases hvb zd with rfl|rfl<;>rfl
  have hpo:Z5 n.op=2:=by rw[hop]<;>rfl
  rw[hpo]at hva hvb hza hzb hzc;rw[hP,hop,hzc zd]
  rcases hva zd with rfl|rfl<;>rcases hvb zd with rfl|rfl<;>rfl
  have hpo:Z5 n.op=2:=by rw[hop]<;>rfl
  rw[hpo]at hva hvb hza hzb hzc;rw[hP,hop,hzc zd]
  rcases hva zd with rfl|rfl<;>rcases hvb zd with rfl|rfl<;>rfl
 generalize eq3 a b c (Zyz op) (Zsea op) (Zwz op)=z at hP2⊢
 cases z with
 |true=>
  refine Z0 ?_;refine Zha λK hK=>AW.region zk ?_;refine Zs ?_;refine hK _ ?_
  try clear hK K
  refine Z ?_
  rw[hP2]<;>rfl
 |false=>
  refine Zm rfl (λh68=>?_) (λh68=>?_)
  .refine Zha λK hK=>AW.region zk ?_
   refine Zs ?_;refine hK _ ?_
   try clear hK K
   refine Z ?_
   rw[hP2]<;>rfl
  cases h68
def Zle(names:List (List UInt8))(l:List XN):List Int×Int×Int:=if Zrf l≠0 then([],0,Zrf l)else goN names l 0 []
def encKs(c:Col)(l:List Int):V:=Za c 1 (V.int .u8) (Zb l)
def encKr(c:Col)(p:List Int×Int×Int):V:=.tuple [encKs c p.1,.int .i64 p.2.1,.int .i64 p.2.2]
theorem Zlga{op:Int}{nm:Bool}{a b c:Int}(hb:b=0\/b=1\/b=2)(h:kd op nm a b c≠0):kd op nm a b c=1\/kd op nm a b c=2:=by
 have:=Zuma (op:=op) (nm:=nm) (a:=a) (c:=c) (b:=b) zo;omega
theorem Z5ea{ks:List Int}(h:∀ y∈ks,y=1\/y=2)(i:Int):plc ks i=0\/plc ks i=1\/plc ks i=2:=by
 unfold plc
 split
 exact .inl rfl
 .rw[List.getD_eq_getElem?_getD]
  cases hg:ks[i.toNat]? with
  |none=>exact .inl rfl
  |some y=>exact .inr (h y (List.mem_of_getElem? hg))
theorem Zzma{names:List (List UInt8)}{l:List XN}{k:Nat}{n:XN}(h:l[k]?=some n)(ks:List Int):goN names (l.drop k) k ks=if Zbq names n ks=0 then([],(k:Int),90)else goN names (l.drop (k+1)) (k+1:Nat) (ks++[Zbq names n ks]):=by
 obtain⟨h1,h2⟩:=List.getElem?_eq_some_iff.1 h
 rw[List.drop_eq_getElem_cons h1,h2]<;>rfl
theorem Im.knC{v:V}(h:v.Im):(V.agg (knC v)).Im:=by
 refine .agg _ λx hx=>?_
 rcases List.mem_append.1 hx with h1|h1
 have:∀ l:List V,(l.all λv=>match v with|.int _ _=>true|_=>false)=true->∀ x∈l,x.Im:=by
  intro l hl x hx;have:=List.all_eq_true.1 hl x hx
  cases x<;>first|exact .int _ _|cases this
 exact this ruleC rfl x h1;rw[List.mem_singleton.1 h1];exact h
theorem Im.xn(n:XN):(Zkb n).Im:=by
 refine .agg _ λx hx=>?_;simp only[List.mem_cons,List.not_mem_nil,or_false]at hx
 rcases hx with rfl|rfl|rfl|rfl|rfl|rfl<;>first|exact .int _ _|exact .str _
theorem Im.strs(c:Col)(s:Sl (List UInt8)):(Za c 1 V.str s).Im:=Zud (λx y hy=>by simp[V.cells]at hy;subst hy;exact .str _) s
theorem buildKn(x:V)(hx:x.cells=[x])(hs:x.solid=true):Zff Tryz.prog 306 [(0,.agg ruleC),(1,x)]=some (.agg (knC x)):=by
 rw[Z56 (tbl:=[(0,92),(92,1)]) (z:=List.replicate 92 (.int .u8 0)++[.nils]) zk zk]
 have e1:Hs.setAt (List.replicate 92 (.int .u8 0)++[.nils]) 0 ruleC=ruleC++[.nils]:=by
  rw[Z7r _ _ _ zd]<;>rfl
 have e2:Hs.setAt (ruleC++[.nils]) 92 [x]=knC x:=by
  show(ruleC++[V.nils]).set 92 x=ruleC++[x]
  rw[List.set_append_right _ _ zd]<;>rfl
 have l1:(List.replicate 92 (V.int .u8 0)++[V.nils]).length=93:=rfl;have l2:(ruleC++[V.nils]).length=93:=rfl;have c1:(V.agg ruleC).cells=ruleC:=rfl;have s1:(V.agg ruleC).solid=true:=rfl;have t0:tblP [(0,92),(92,1)] 0=some (0,92):=rfl;have t1:tblP [(0,92),(92,1)] 1=some (92,1):=rfl;simp only[Zsd,t0,t1,c1,s1,hx,hs,l1,Znn,e1,l2,e2,List.length_singleton,true_and,Nat.zero_add];rfl
theorem Zrha{α : Type}(c:Col)(m:Nat)(f : α -> V)(s:Sl α):(Za c m f s).solid=true:=by cases s<;>rfl
theorem Zsha{α : Type}(c:Col)(m:Nat)(f : α -> V)(s:Sl α):(Za c m f s).cells=[Za c m f s]:=by cases s<;>rfl
theorem Z4ka(l:List V)(v:V)(h:l.length=93):Hs.setAt l 0 (knC v)=knC v:=Zmu (by rw[h,Zgo])
theorem Zgt(x:Int):(V.int .u8 x).cells.length=1:=rfl
theorem Zjz(G:Nat->V)(hE:GExp G)(c c1:Col)(s:Sl XN)(names:Sl (List UInt8))(hs:s.l.length<1000000)(hnm:∀ n∈s.l,n.name.length<100000)(hnl:names.l.length<1000000):
  Spec Tryz.prog G 245 [.agg [Za c 6 Zkb s],Za c1 1 V.str names] Zk (λv _=>v=encKr .new (Zle names.l s.l)):=by
 have hG:=hE.ok;refine Zo 0 40 [.tmp 4,.tmp 5,.tmp 6] Tryz.func245 λX=>?_
 have hP:Zle names.l s.l=if Zrf s.l≠0 then([],0,Zrf s.l)else goN names.l s.l 0 []:=rfl
 generalize Zle names.l s.l=res at hP⊢;refine Z1 ?_;intro g2;refine Z1 ?_;refine Zcf @Zcb hG ?_ (s:=(Zri G hE _ s hs hnm));refine Z1 ?_
 by_cases hc:Zrf s.l=0
 rotate_left;have q1:(Zrf s.l != 0)=true:=zu hc;rw[if_pos hc]at hP;refine Zm rfl (λh14=>?_) (λh14=>?_);refine Z ?_
 rw[hP]<;>rfl
 rw[q1]at h14;cases h14;have q1:(Zrf s.l != 0)=false:=zu hc;rw[if_neg (zu hc)]at hP;refine Zm rfl (λh14=>?_) (λh14=>?_);rw[q1]at h14;cases h14;refine Z0 ?_
 have hdep:Zod s.l≠0:=by
  intro h;rw[Zrf,if_pos h]at hc;cases hc
 refine Z1 ?_;refine Zn hG ?_ (s:=(Ziz G hG));have hrr:(V.agg ruleC).recol Col.bk=.agg ruleC:=rfl;have hrl:(V.agg ruleC).cells=ruleC:=rfl;simp -implicitDefEqProofs only[go_sem,seval,hrr,Znn,buildKn (Za c1 1 V.str names) (Zsha ..) (Zrha ..)];intro g7;refine Zsf (zi @Zgo @Zzv) ?_;rw[Z4ka _ _ ?hl]
 case hl=>rfl
 refine Z1 ?_;refine AW.block ?_
 refine Zaa s.l.length (λk (x:Nat×List Int)=>st [(4,grown 37 x.1 1 x.2),(7,.ptr 7 g7 0),(20,Za c 6 Zkb s),(21,.int .i64 s.l.length),(22,.int .i64 k)] [(7,.cells .new g7 0 (knC (Za c1 1 V.str names))),(37,Zca x.1 (V.int .u8) x.2)])
  (λk x=>res=goN names.l (s.l.drop k) k x.2/\x.2.length=k/\∀ y∈x.2,y=1\/y=2) 0 (0,[]) (Nat.zero_le _) ⟨hP,rfl,λy hy=>by cases hy⟩
  (Weak.st zp zp) ?_
 rintro k ⟨gx,ks⟩ hk ⟨hR,hkl,hkr⟩ L3 hL3
 replace hR:res=goN names.l (s.l.drop k) k ks:=hR
 replace hkl:ks.length=k:=hkl
 replace hkr:∀ y∈ks,y=1\/y=2:=hkr
 refine Z1 ?_;refine Z6 ?_;refine Zm rfl (λh23=>?_) (λh23=>?_);have hk1:k<s.l.length:=zu h23;have hg:=List.getElem?_eq_getElem hk1;generalize s.l[k]=n at hg;rw[Zzma hg]at hR;have hpl:PlOk ks.length n:=hkl ▸ Zrla hdep hg;refine Z1f (zi hg @Znd) ?_;intro g9;refine Z1f @Zgo ?_;rw[<- Znd];refine CallA.bor hG [.agg (knC (Za c1.ent 1 V.str names)),Zkb n,Za .old 1 (V.int .u8) (Zb ks)] zk ⟨?_,?_,?_,trivial⟩ ?_;refine Zta (Im.knC (Im.strs _ _)) ?_
 show(V.agg (knC _)).recol _=_
 rw[Z4a,Zjga];simp -implicitDefEqProofs only[go_sem,seval];exact Zta (Im.xn n) (Zrj _ _);exact Zym (g:=gx) (f:=V.int .u8) (f':=V.int .u8) zp Zgt (λx y hy=>by simp[V.cells]at hy;subst hy;exact .int _ _) (λ_=>rfl);refine(Zy7 G hG _ _ names hnl n (Zb ks) (by rw[Zl];exact hpl) (by rw[Zl];omega) (by rw[Zl];exact hkr)).mono ?_;rintro _ _ rfl;refine⟨.int _ _,?_⟩;rw[Zl];have hkd:=λh=>Zlga (op:=n.op) (nm:=names.l.contains n.name) (a:=plc ks n.a) (c:=plc ks n.c) (Z5ea hkr n.b) h;have hkn:Zbq names.l n ks=kd n.op (names.l.contains n.name) (plc ks n.a) (plc ks n.b) (plc ks n.c):=rfl;rw[<- hkn]at hkd;generalize Zbq names.l n ks=v at hR hkd⊢;refine Zs ?_;refine Z1 ?_
 by_cases hv:v=0
 have q2:(v==0)=true:=zu hv;rw[if_pos hv]at hR;refine Zm rfl (λh32=>?_) (λh32=>?_);refine Z ?_
 rw[hR]<;>rfl
 rw[q2]at h32;cases h32;have q2:(v==0)=false:=zu hv;rw[if_neg hv]at hR;refine Zm rfl (λh32=>?_) (λh32=>?_);rw[q2]at h32;cases h32;refine Z1 ?_;intro g36;refine Zhb (f:=V.int .u8) (l:=ks) (l2:=[v]) (g:=gx) Zgt rfl rfl rfl zp (Z9 zo zO) λg2=>?_;refine Zs ?_;refine Z1 ?_;refine hL3 _ ⟨hk1,(g2,ks++[v]),⟨hR,by rw[List.length_append,hkl]<;>rfl,?_⟩,Weak.st zw zp⟩;intro y hy
 rcases List.mem_append.1 hy with h|h
 exact hkr y h;rw[List.mem_singleton.1 h];exact hkd hv
 have hk1:k=s.l.length:=by simp at h23;omega
 refine Z0 ?_;rw[hk1,List.drop_length]at hR;refine AW.weak (Zw (λo=>o==37) (l:=[(4,encKs .new ks)]) (m:=[]) ?_ trivial) ?_;refine Zs ?_;exact Zkc rfl rfl Zgt;refine Z ?_
 rw[hR]<;>rfl
theorem Z1ga{names:List (List UInt8)}:∀ (l:List XN) (i:Int) (acc:List Int),(goN names l i acc).2.2=0->(goN names l i acc).1.length=acc.length+l.length
 |[],i,acc,_=>rfl
 |n::r,i,acc,h=>by
  rw[goN]at h⊢
  split
  rename_i h1;rw[if_pos h1]at h;cases h;rename_i h1;rw[if_neg h1]at h;have:=Z1ga r (i+1) (acc++[Zbq names n acc]) h;rw[this];simp;omega
theorem Z29{names:List (List UInt8)}{l:List XN}(h:(Zle names l).2.2=0):(Zle names l).1.length=l.length/\0<l.length:=by
 unfold Zle at h⊢
 by_cases hc:Zrf l=0
 .rw[if_neg (zu hc)]at h⊢
  refine⟨by have:=Z1ga l 0 [] h;simpa using this,?_⟩
  cases l with
  |nil=>exact absurd hc zd
  |cons=>simp
 rw[if_pos hc]at h;exact absurd h hc
def Za9(names:List (List UInt8))(l:List XN):Int×Int×Int:=if(Zle names l).2.2≠0 then(0,(Zle names l).2.1,(Zle names l).2.2)else((Zle names l).1.getD ((Zle names l).1.length-1) 0,0,0)
def encO3(p:Int×Int×Int):V:=.tuple [.int .u8 p.1,.int .i64 p.2.1,.int .i64 p.2.2]
theorem Zala(g:Col->Col)(c:Col)(s:Sl Int):(Za c 1 (V.int .u8) s).recol g=Za (g c) 1 (V.int .u8) s:=Zdb g c 1 (λ_=>rfl) s
theorem Zl5(G:Nat->V)(hE:GExp G)(c c1:Col)(s:Sl XN)(names:Sl (List UInt8))(hs:s.l.length<1000000)(hnm:∀ n∈s.l,n.name.length<100000)(hnl:names.l.length<1000000):
  Spec Tryz.prog G 214 [.agg [Za c 6 Zkb s],Za c1 1 V.str names] Zk (λv _=>v=encO3 (Za9 names.l s.l)):=by
 have hG:=hE.ok;refine Zo 0 25 [.tmp 4,.tmp 5,.tmp 6] Tryz.func214 λX=>?_
 have hP:Za9 names.l s.l=if(Zle names.l s.l).2.2≠0 then(0,(Zle names.l s.l).2.1,(Zle names.l s.l).2.2)else((Zle names.l s.l).1.getD ((Zle names.l s.l).1.length-1) 0,0,0):=rfl
 have hKi:=λc c1=>Zjz G hE c c1 s names hs hnm hnl;have hL:=Z29 (names:=names.l) (l:=s.l);generalize Za9 names.l s.l=res at hP⊢;generalize Zle names.l s.l=p at hP hKi hL;obtain⟨ks,i,e⟩:=p;simp only at hP hL;refine Z1 ?_;intro g2;refine Z1 ?_;refine Znf @Zcb hG ?_ (s:=(hKi _ _));refine Zsf (zi @encKr.eq_1 (zi @encKs.eq_1 @Zala)) ?_;refine Z1 ?_
 by_cases he:e=0
 rotate_left;have q1:(e != 0)=true:=zu he;rw[if_pos he]at hP;refine Zm rfl (λh16=>?_) (λh16=>?_);refine Z ?_
 rw[hP]<;>rfl
 rw[q1]at h16;cases h16;have q1:(e != 0)=false:=zu he;rw[if_neg (zu he)]at hP;obtain⟨hl1,hl2⟩:=hL he;refine Zm rfl (λh16=>?_) (λh16=>?_);rw[q1]at h16;cases h16;refine Z0 ?_;obtain⟨m,hm⟩:∃ m:Nat,ks.length=m+1:=⟨ks.length-1,zo⟩
 have hw:IntKind.i64.wrap ((ks.length:Int)-1)=(m:Int):=by rw[w64 zo zo];omega
 obtain⟨v,hv⟩:∃ v,ks[m]?=some v:=⟨_,List.getElem?_eq_getElem zo⟩
 have hgd:ks.getD (ks.length-1) 0=v:=by rw[show ks.length-1=m by omega,List.getD_eq_getElem?_getD,hv]<;>rfl
 rw[hgd]at hP;refine Zf (zi hw hv) ?_
 rw[hP]<;>rfl
def tr1:XN:=⟨3,0,[],-1,-1,-1⟩
def Zko(s:List UInt8)(names:List (List UInt8)):List XN×Int×Int:=
 if(Zra s).2.2=0/\(Zra s).1.length=0 then([tr1],0,0)
 else if(Zcg s).2.2≠0 then([],(Zcg s).2.1,(Zcg s).2.2)
 else if(Za9 names (Zcg s).1).2.2≠0\/(Za9 names (Zcg s).1).1≠2 then([],0,90)else((Zcg s).1,0,0)
theorem Zlha{s:List UInt8}(hs:s.length<100000):(Zcg s).1.length<100000/\∀ n∈(Zcg s).1,n.name.length<100000:=by
 have hT:=Z1r hs;have hnm:=Z6i hT;have hok:=((Z5d (Zra s).1 ((Zra s).1.length+1) 1 ⟨0,[],0⟩).ok ⟨Nat.zero_le _,Nat.le_refl _⟩)
 have hfr:(Zwb (Zra s).1).1.length<100000/\∀ n∈(Zwb (Zra s).1).1,n.name.length<100000:=by
  unfold Zwb
  split
  exact⟨Nat.zero_lt_succ _,λn hn=>by cases hn⟩
  split
  exact⟨Nat.zero_lt_succ _,λn hn=>by cases hn⟩;have:=hok.1;have:=hok.2;have:=hT.len;exact⟨by show(Zgb _ _ _ _).2.nodes.length<_;omega,hnm⟩
 unfold Zcg
 split
 exact⟨Nat.zero_lt_succ _,λn hn=>by cases hn⟩
 split
 exact⟨Nat.zero_lt_succ _,λn hn=>by cases hn⟩
 split
 exact hfr;exact⟨Nat.zero_lt_succ _,λn hn=>by cases hn⟩
theorem Zkz(G:Nat->V)(hE:GExp G)(c1:Col)(s:List UInt8)(names:Sl (List UInt8))(hs:s.length<100000)(hnl:names.l.length<1000000):
  Spec Tryz.prog G 176 [.str s,Za c1 1 V.str names] Zk (λv _=>v=encFr .new (Zko s names.l)):=by
 have hG:=hE.ok;refine Zo 0 55 [.cell 4 199,.tmp 5,.tmp 6] Tryz.func176 λX=>?_
 have hP:Zko s names.l=if(Zra s).2.2=0/\(Zra s).1.length=0 then([tr1],0,0)
  else if(Zcg s).2.2≠0 then([],(Zcg s).2.1,(Zcg s).2.2)
  else if(Za9 names.l (Zcg s).1).2.2≠0\/(Za9 names.l (Zcg s).1).1≠2 then([],0,90)else((Zcg s).1,0,0):=rfl
 generalize Zko s names.l=res at hP⊢;have hl:=Zke G hE s hs;have hx:=Z9y G hE s hs;have hb:=Zlha hs;have ho:=λc c1=>Zl5 G hE c c1 (Zb (Zcg s).1) names (by rw[Zl];omega) (by rw[Zl];exact hb.2) hnl;simp only[Zl]at ho;generalize Zra s=t at hP hl;generalize Zcg s=p at hP hx ho;obtain⟨l,at0,e0⟩:=t;obtain⟨ns,i,e⟩:=p;simp only at hP ho;generalize Za9 names.l ns=o at hP ho;obtain⟨k,j,e2⟩:=o;simp only at hP;refine Z1 ?_;intro g4;refine Zlc (fun(_:Unit)=>st [(0,.str s),(1,Za c1 1 V.str names),(4,.ptr 4 g4 0)] [(4,.cells .new g4 0 [.nils])]) (λ_=>¬ (e0=0/\l.length=0)) (λK1 hK1=>?_) ?_
 .refine Z1 ?_
  refine Zn hG ?_ (s:=hl);refine Zsf (zi @encTok.eq_1 (zi @encTks.eq_1 @Zmc)) ?_
  by_cases h01:e0=0
  rotate_left;have q1:(e0==0)=false:=zu h01;refine Z1f q1 ?_;refine Z0 ?_;exact hK1 _ () (λh=>h01 h.1) (Weak.st zp zp);have q1:(e0==0)=true:=zu h01
  by_cases h02:l.length=0
  rw[if_pos ⟨h01,h02⟩]at hP
  have q2:(((l.length:Nat):Int)==0)=true:=by simp[h02]
  refine Z1f (zi q1 q2) ?_;refine Zm rfl (λh25=>?_) (λh25=>?_);refine Z1 ?_;intro g27;refine AW.weak (Zw (λo=>o==27) (l:=[(4,.ptr 4 g4 0),(5,.int .i64 0),(6,.int .i64 0)]) (m:=[(4,.cells .new g4 0 [encXs .new [tr1]])]) ?_ ?_) ?_;refine Zs ?_
  first|exact⟨Fz.same _,Fz.same _,Fz.same _⟩|exact⟨Fz.same _,Fz.same _⟩
  simp only[Zv,Zy,and_true];exact FzO.of (c:=.new) (fz:=0) (cs:=[.msl 27 g27 0 1 6]) rfl zp ⟨Z2b (f:=Zkb) (l:=[tr1]) (m:=6) (g:=g27) (fz:=0) (c:=.new) rfl zp Z1i,trivial⟩;refine Z ?_
  rw[hP]<;>rfl
  cases h25
  have q2:(((l.length:Nat):Int)==0)=false:=by rw[beq_eq_false_iff_ne];omega
  refine Z1f (zi q1 q2) ?_;refine Z0 ?_;exact hK1 _ () (λh=>h02 h.2) (Weak.st zp zp)
 rintro _ h0;rw[if_neg h0]at hP;refine Z1 ?_;refine Zn hG ?_ (s:=hx);refine Zsf (zi @encFr.eq_1 (zi @encXs.eq_1 @Zcb)) ?_;refine Z1 ?_
 by_cases he:e=0
 rotate_left;have q1:(e != 0)=true:=zu he;rw[if_pos he]at hP;refine Zm rfl (λh36=>?_) (λh36=>?_);refine Z ?_
 rw[hP]<;>rfl
 rw[q1]at h36;cases h36;have q1:(e != 0)=false:=zu he;rw[if_neg (zu he)]at hP;refine Zm rfl (λh36=>?_) (λh36=>?_);rw[q1]at h36;cases h36;refine Z1 ?_;refine Znf @Zcb hG ?_ (s:=(ho _ _));refine Zsf @encO3.eq_1 ?_
 by_cases h2:e2=0
 rotate_left;have q2:(e2 != 0)=true:=zu h2;rw[if_pos (.inl h2)]at hP;refine Z1f q2 ?_;refine Zm rfl (λh52=>?_) (λh52=>?_);refine Z ?_
 rw[hP]<;>rfl
 cases h52;have q2:(e2 != 0)=false:=zu h2
 by_cases hk:k=2
 rotate_left;have q3:(k != 2)=true:=zu hk;rw[if_pos (.inr hk)]at hP;refine Z1f (zi q2 q3) ?_;refine Zm rfl (λh52=>?_) (λh52=>?_);refine Z ?_
 rw[hP]<;>rfl
 cases h52;have q3:(k != 2)=false:=zu hk;rw[if_neg (by rintro(h|h);exact h h2;exact h hk)]at hP;refine Zf (zi q2 q3) ?_
 rw[hP]<;>rfl
structure AM where
 kind:Int
 name:List UInt8
 x:Sl XN
def AM.v(s:AM):ASt:=⟨s.kind,s.name,s.x.l⟩
def Zdg(c:Col)(s:AM):V:=.agg [.int .u8 s.kind,.str s.name,Za c 6 Zkb s.x]
theorem Z5i(c:Col)(s:AM):Zdg c s=.agg [.int .u8 s.kind,.str s.name,Za c 6 Zkb s.x]:=rfl
theorem Zes(f:Col->Col)(c:Col)(s:AM):(Zdg c s).recol f=Zdg (f c) s:=by simp only[Z5i,Z4a,List.map_cons,List.map_nil,Zwa,Zuc,Zcb]
@[go_sem] theorem Zsn(g:Col->Col)(c c1:Col)(s:Sl AM):(Za c 3 (Zdg c1) s).recol g=Za (g c) 3 (Zdg (g c1)) s:=Zdb g c 3 (Zes g c1) s
def Zju(s:ASt):Bool:=(s.kind==1||s.kind==2)&&isP s.name==2&&((s.kind==2&&s.x.isEmpty)||Zrf s.x==0)
def Zwg(l:List ASt):Int:=if l.length>512 then 2 else if l.all Zju=true then 0 else 2
theorem Ze1(G:Nat->V)(hE:GExp G)(c:Col)(a:AM)(r1:a.name.length<100000)(r2:a.x.l.length<1000000)(r3:∀ n∈a.x.l,n.name.length<100000):
  Spec Tryz.prog G 269 [Zdg c a] Zk (λv _=>v=.bool (Zju a.v)):=by
 have hG:=hE.ok;refine Zo 0 37 [.tmp 2] Tryz.func269 λX=>?_;have hst:Zju a.v=((a.kind==1||a.kind==2)&&isP a.name==2&&((a.kind==2&&a.x.l.isEmpty)||Zrf a.x.l==0)):=rfl;generalize Zju a.v=res at hst⊢
 have hem:a.x.l.isEmpty=((a.x.l.length:Int)==0):=by
  rw[Bool.eq_iff_iff,List.isEmpty_iff_length_eq_zero,beq_iff_eq];omega
 have hip:(isP a.name==2)=((isP a.name:Int)==2):=by
  rw[Bool.eq_iff_iff,beq_iff_eq,beq_iff_eq];omega
 rw[hem,hip]at hst;simp only[Z5i];refine Z1 ?_;intro g1;refine Zlc (fun(_:Unit)=>st [(1,.ptr 1 g1 0),(3,.bool (a.kind==2&&((a.x.l.length:Int)==0)))] [(1,.cells .new g1 0 [.int .u8 a.kind,.str a.name,Za c 6 Zkb a.x])]) (λ_=>True) (λK1 hK1=>?_) ?_
 .refine AW.region zk ?_
  cases q3:(a.kind==2)with
  |false=>
   rw[q3]at hK1;refine Zsf q3 ?_;exact hK1 _ () trivial (Weak.st zp zp)
  |true=>
   rw[q3]at hK1;refine Zsf q3 ?_;exact hK1 _ () trivial (Weak.st zp zp)
 intro _ _;refine Zlc (fun(_:Unit)=>st [(2,.bool res)] []) (λ_=>True) (λK2 hK2=>?_) ?_;rotate_left;intro _ _;exact Zr;refine AW.region zk ?_
 cases q2:(a.kind==1)with
 |true=>
  have q3:(a.kind==2)=false:=by
   rw[beq_iff_eq]at q2;rw[beq_eq_false_iff_ne,q2];decide
  rw[q3];refine Zsf q2 ?_;refine Zn hG ?_ (s:=(Zmf G hE a.name zo))
  cases q4:((isP a.name:Int)==2)with
  |false=>
   refine Zsf q4 ?_;refine hK2 _ () trivial (Weak.st (by rw[hst,q2,q3,q4];simp -implicitDefEqProofs only[go_sem,seval];try rfl) zp)
  |true=>
   refine Zsf q4 ?_;refine Zcf @Zcb hG ?_ (s:=(Zri G hE _ a.x r2 r3));refine hK2 _ () trivial (Weak.st (by rw[hst,q2,q3,q4];simp -implicitDefEqProofs only[go_sem,seval];try rfl) zp)
 |false=>
 cases q3:(a.kind==2)with
 |false=>
  refine Zsf (zi q2 q3) ?_;refine hK2 _ () trivial (Weak.st (by rw[hst,q2,q3];simp -implicitDefEqProofs only[go_sem,seval];try rfl) zp)
 |true=>
 refine Zsf (zi q2 q3) ?_;refine Zn hG ?_ (s:=(Zmf G hE a.name zo))
 cases q4:((isP a.name:Int)==2)with
 |false=>
  refine Zsf q4 ?_;refine hK2 _ () trivial (Weak.st (by rw[hst,q2,q3,q4];simp -implicitDefEqProofs only[go_sem,seval];try rfl) zp)
 |true=>
 cases q5:((a.x.l.length:Int)==0)with
 |true=>
  refine Zsf (zi q4 q5) ?_;refine hK2 _ () trivial (Weak.st (by rw[hst,q2,q3,q4,q5];simp -implicitDefEqProofs only[go_sem,seval];try rfl) zp)
 |false=>
  refine Zsf (zi q4 q5) ?_;refine Zcf @Zcb hG ?_ (s:=(Zri G hE _ a.x r2 r3));refine hK2 _ () trivial (Weak.st (by rw[hst,q2,q3,q4,q5];simp -implicitDefEqProofs only[go_sem,seval];try rfl) zp)
structure AmB(a:AM):Prop where
 n:a.name.length<100000
 l:a.x.l.length<1000000
 x:∀ n∈a.x.l,n.name.length<100000
theorem Z6v(G:Nat->V)(hE:GExp G)(c:Col)(a:AM)(hb:AmB a):
  Spec Tryz.prog G 268 [Zdg c a] Zk (λv _=>v=.bool (!Zju a.v)):=by
 have hG:=hE.ok;refine Zo 0 6 [.tmp 2] Tryz.func268 λX=>?_;simp only[Z5i];refine Z1 ?_;intro g1;refine Z1 ?_;refine CallA.pure hG zk ?_;simp only[List.map_cons,List.map_nil,<- Z5i,Zes];refine(Ze1 G hE _ a hb.n hb.l hb.x).mono ?_;rintro _ _ rfl;refine Zs ?_;exact Zr
theorem Zf1(G:Nat->V)(hE:GExp G)(c c1:Col)(s:Sl AM)(hs:s.l.length<1000000)(hb:∀ a∈s.l,AmB a):
  Spec Tryz.prog G 287 [Za c 3 (Zdg c1) s,.func (.func 268) [] []] Zk (λv _=>v=.int .i64 (Zwp (λa:AM => !Zju a.v) s.l)):=by
 have hG:=hE.ok;refine Zo 0 19 [.tmp 4] Tryz.func287 λX=>?_;refine Z1 ?_;refine Z1 ?_;refine AW.block ?_
 refine Zaa s.l.length (λk (_:Unit)=>st [(0,Za c 3 (Zdg c1) s),(1,.func (.func 268) [] []),(7,.int .i64 s.l.length),(8,.int .i64 k)] []) (λk _=>∀ y∈s.l.take k,(!Zju y.v)=false) 0 () (Nat.zero_le _) zS
  (Weak.st zp zp) ?_
 intro k _ hk hR L2 hL2;refine Z1 ?_;refine Z6 ?_;refine Zm rfl (λh4=>?_) (λh4=>?_);have hk1:k<s.l.length:=zu h4;have hg:=List.getElem?_eq_getElem hk1;have hbx:=hb _ (List.getElem_mem hk1);generalize s.l[k]=x at hg hbx;refine Z1 ?_;refine Z1f (zi hg @Z5i) ?_;refine CallA.pure hG zk ?_;simp only[List.map_cons,List.map_nil,<- Z5i,Zes];refine(Z6v G hE _ x hbx).mono ?_;rintro _ _ rfl;refine Zs ?_;refine Zm rfl (λh6=>?_) (λh6=>?_);refine Z ?_;rw[Z6c (p:=λa:AM => !Zju a.v) hg hR h6];refine Z1 ?_;refine hL2 _ ⟨hk1,(),Z9d hg hR h6,Weak.st zw zp⟩
 have hk1:k=s.l.length:=by simp at h4;omega
 refine Z ?_;rw[hk1,List.take_length]at hR;rw[Z7c (p:=λa:AM => !Zju a.v) hR]
theorem idxP_ge{α : Type}(p : α -> Bool)(l:List α):decide (Zwp p l>=0)=l.any p:=by
 unfold Zwp
 cases h:l.findIdx? p with
 |none=>
  rw[List.findIdx?_eq_none_iff]at h
  have:l.any p=false:=by rw[List.any_eq_false];intro x hx;simp[h x hx]
  rw[this]<;>rfl
 |some i=>
  have:l.any p=true:=by
   rw[List.any_eq_true];obtain⟨hi,hp,_⟩:=List.findIdx?_eq_some_iff_getElem.1 h;exact⟨_,List.getElem_mem hi,hp⟩
  rw[this,decide_eq_true_iff];exact Int.natCast_nonneg _
theorem Zhq(G:Nat->V)(hE:GExp G)(c c1:Col)(s:Sl AM)(hs:s.l.length<1000000)(hb:∀ a∈s.l,AmB a):
  Spec Tryz.prog G 267 [Za c 3 (Zdg c1) s,.func (.func 268) [] []] Zk (λv _=>v=.bool (s.l.any (λa:AM => !Zju a.v))):=by
 have hG:=hE.ok;refine Zo 0 9 [.tmp 4] Tryz.func267 λX=>?_;refine Z1 ?_;refine Z1 ?_;refine Zcf @Zsn hG ?_ (s:=(Zf1 G hE _ _ s hs hb));refine Z ?_;rw[idxP_ge]
theorem Z50(G:Nat->V)(hE:GExp G)(c c1:Col)(s:Sl AM)(hs:s.l.length<1000000)(hb:∀ a∈s.l,AmB a):
  Spec Tryz.prog G 249 [.agg [Za c 3 (Zdg c1) s]] Zk (λv _=>v=.int .i64 (Zwg (s.l.map AM.v))):=by
 have hG:=hE.ok;refine Zo 0 12 [.tmp 2] Tryz.func249 λX=>?_
 have hP:Zwg (s.l.map AM.v)=if s.l.length>512 then 2 else if(s.l.map AM.v).all Zju=true then 0 else 2:=by unfold Zwg;rw[List.length_map]
 generalize Zwg (s.l.map AM.v)=res at hP⊢
 have hall:s.l.any (λa:AM => !Zju a.v) = !(s.l.map AM.v).all Zju:=by
  rw[List.all_map,List.not_all_eq_any_not]<;>rfl
 refine Z1 ?_;intro g1;refine Z6 ?_
 by_cases hl:s.l.length>512
 rw[if_pos hl]at hP;have q1:decide ((s.l.length:Int)>512)=true:=zT;refine Zf q1 ?_;rw[hP];rw[if_neg hl]at hP;have q1:decide ((s.l.length:Int)>512)=false:=zF;refine Z1f q1 ?_;refine Znf @Zsn hG ?_ (s:=(Zhq G hE _ _ s hs hb));refine Zsf q1 ?_;rw[hall]
 cases hok:(s.l.map AM.v).all Zju with
 |true=>
  rw[if_pos hok]at hP;refine Z ?_;rw[hP]
 |false=>
  rw[if_neg (by rw[hok];decide)]at hP;refine Z ?_;rw[hP]
def Za7:List UInt8:=[97,114,103]
def Zr0(names:List (List UInt8))(x:List XN):Bool:=x.isEmpty||(Za9 names x).1==1
def stT(vars events:List (List UInt8))(s:ASt):Bool:=(if s.kind=2 then events.contains s.name else vars.contains s.name)&&Zr0 (vars++[Za7]) s.x
def Z7m(vars events:List (List UInt8)):List ASt->Int->Int×Int
 |[],_=>(0,0)
 |s::r,i=>if stT vars events s=true then Z7m vars events r (i+1)else(i,90)
def Zdu(b:List ASt)(vars events:List (List UInt8)):Int×Int:=if Zwg b≠0 then(0,2)else Z7m vars events b 0
theorem Zgz{vars events:List (List UInt8)}{b:List ASt}{k:Nat}{s:ASt}(h:b[k]?=some s):Z7m vars events (b.drop k) k=if stT vars events s=true then Z7m vars events (b.drop (k+1)) (k+1:Nat)else((k:Int),90):=by
 obtain⟨q1,q2⟩:=List.getElem?_eq_some_iff.1 h
 rw[List.drop_eq_getElem_cons q1,q2,Z7m]<;>rfl
theorem Z3i(c:Col)(s:ASt):(Z4i c s).cells.length=3:=rfl
def Zsoa(c:Col)(l:List ASt):V:=Za c 3 (Z4i c) (Zb l)
theorem Zpla{l:List Tk}{n i:Nat}{t:Tk}(h:l[i]?=some t):Zzq l n (i:Int)=t.pos:=by
 have hi:i<l.length:=by
  refine Classical.byContradiction λh2=>?_;rw[List.getElem?_eq_none zo]at h;cases h
 unfold Zzq
 rw[if_pos zo,Int.toNat_natCast,List.getD_eq_getElem?_getD,h]<;>rfl
structure CU where
 i:Nat
 e:Int
def cuO(sl:Sl Tk)(g:Nat)(st:V)(r:CU):AObj:=.cells .any g 0 [Za .any 3 Zsc sl,.int .i64 r.i,.int .i64 r.e,st]
theorem Znh(sl:Sl Tk)(g:Nat)(st:V)(r:CU):cuO sl g st r=.cells .any g 0 [Za .any 3 Zsc sl,.int .i64 r.i,.int .i64 r.e,st]:=rfl
def CuS(G:Nat->V)(f:FuncId)(args:List V)(sl:Sl Tk)(g:Nat)(r:CU)(v:V)(r':CU):Prop:=
 ∀ st:V,(∀ F:Col->Col,st.recol F=st)->Spec Tryz.prog G f (.ptr 21 g 0::args) (Zfa Zk [(21,cuO sl g st r)]) (λv0 H'=>v0=v/\H' 21=cuO sl g st r')
theorem CuS.call{G:Nat->V}(hG:GOk G){f:FuncId}{args args':List V}{sl:Sl Tk}{g:Nat}{r r':CU}{v st:V}(h:CuS G f args' sl g r v r'){H:Heap}{K:V->Heap->Prop}
  (hst:∀ F:Col->Col,st.recol F=st) (hen:Z2 Tryz.prog f=true) (hargs:args.map (V.recol Col.ent)=args') {v':V} (hv:v.recol Col.bk=v')
  (h8:H 21=cuO sl g st r) (hk:K v' (Zfa H [(21,cuO sl g st r')])):
  CallA Tryz.prog G f (.ptr 21 g 0::args) H K:=by
 have e8:∀ (F:Col->Col) r,F .any=.any->(cuO sl g st r).recol F=cuO sl g st r:=by
  intro F r hF;simp only[Znh,recol_cells,List.map_cons,List.map_nil,Zmc,Zwa,hF,hst]
 refine CallA.hand hG [(21,cuO sl g st r)] hen ?_ ?_;intro p hp;rw[List.mem_singleton]at hp;subst hp;rw[h8,e8 _ _ rfl]
 have ha:(V.ptr 21 g 0::args).map (V.recol Col.ent)=.ptr 21 g 0::args':=by rw[List.map_cons,Zvj,hargs]
 rw[ha];refine(h st hst).mono ?_;rintro _ H' ⟨rfl,q8⟩;simp only[List.map_cons,List.map_nil,q8,e8 _ _ Z86,hv];exact hk
theorem Z7i(G:Nat->V)(hG:GOk G)(sl:Sl Tk)(g:Nat)(r:CU)(w:List UInt8):CuS G 265 [.str w] sl g r (.bool (decide (r.i<sl.l.length)&&Zld sl.l r.i==w)) r:=by
 intro st hst;refine Zo 1000 30 [.tmp 4] Tryz.func265 λX=>?_;simp only[Zfa,Znh];refine Z1 ?_
 by_cases hi:r.i<sl.l.length
 have h1:decide ((r.i:Int)<sl.l.length)=true:=zT;have hg:=List.getElem?_eq_getElem hi;generalize sl.l[r.i]=t at hg;rw[Zeu hg,decide_eq_true hi,Bool.true_and];refine ZTf (zi h1 (zi hg @Zed)) hG ?_;refine Z ?_;exact⟨rfl,zp⟩;have h1:decide ((r.i:Int)<sl.l.length)=false:=zF;rw[decide_eq_false hi,Bool.false_and];refine ZTf h1 hG ?_;refine Z ?_;exact⟨rfl,zp⟩
theorem Zvaa(G:Nat->V)(hG:GOk G)(sl:Sl Tk)(g:Nat)(r:CU)(hi:r.i<=sl.l.length):CuS G 306 [] sl g r (Za .any 3 Zsc (sl.sub r.i sl.l.length)) r:=by
 intro st hst;refine Zo 1000 12 [.tmp 2] Tryz.func306 λX=>?_;simp only[Zfa,Znh];refine Z1 ?_;have hll:sl.l.length<=sl.l.length:=Nat.le_refl _
 refine Z6<|Zp ⟨λ_=>.top,λ_=>.pure⟩ zk hG zk zk ?_
 simp -implicitDefEqProofs only[go_sem,seval,hi,hll,and_self];refine Z ?_;exact⟨rfl,zp⟩
theorem Zir(G:Nat->V)(hG:GOk G)(sl:Sl Tk)(hsl:sl.l.length<1000000)(g:Nat)(r:CU)(hi:r.i<=sl.l.length):CuS G 284 [] sl g r (.tuple [.str (if Z9l sl.l r.i=true then Zld sl.l r.i else[]),.bool (Z9l sl.l r.i)])
  (if Z9l sl.l r.i=true then⟨r.i+1,r.e⟩else⟨r.i,110⟩):=by
 intro st hst;refine Zo 1000 50 [.tmp 2,.tmp 3] Tryz.func284 λX=>?_;simp only[Zfa,Znh];refine Z1 ?_;refine Z6 ?_
 by_cases hil:r.i=sl.l.length
 have h1:((r.i:Int)==sl.l.length)=true:=by rw[beq_iff_eq];omega
 refine ZTf h1 hG ?_;refine Z ?_;rw[Z4k zo];exact⟨rfl,zp⟩
 have h1:((r.i:Int)==sl.l.length)=false:=by rw[beq_eq_false_iff_ne];omega
 have hilt:r.i<sl.l.length:=zo;have hg:=List.getElem?_eq_getElem hilt;generalize sl.l[r.i]=t at hg
 cases hk:(t.kind==2)with
 |false=>
  refine Z6<|Zp ⟨λ_=>.top,λ_=>.pure⟩ zk hG zk zk ?_
  simp -implicitDefEqProofs only[go_sem,seval,h1,hg,Zed,bne,hk];refine Z ?_;rw[Z6q hg,hk];exact⟨rfl,zp⟩
 |true=>
  refine Z6<|Zp ⟨λ_=>.top,λ_=>.pure⟩ zk hG zk zk ?_
  simp -implicitDefEqProofs only[go_sem,seval,h1,hg,Zed,bne,hk];refine Z0 ?_
  have hw:IntKind.i64.wrap ((r.i:Int)+1)=((r.i+1:Nat):Int):=by rw[w64 zo zo];omega
  have hw2:IntKind.i64.wrap (((r.i+1:Nat):Int)-1)=(r.i:Int):=by rw[w64 zo zo];omega
  refine Z1f hw ?_;refine ZTf (zi hw2 (zi hg @Zed)) hG ?_;refine Z ?_;rw[Z6q hg,hk,Zeu hg];exact⟨rfl,zp⟩
theorem Zze(G:Nat->V)(hG:GOk G)(sl:Sl Tk)(hsl:sl.l.length<1000000)(g:Nat)(r:CU)(hi:r.i<=sl.l.length)(c:Col)(ws:List (List UInt8))(hws:ws.length<1000)(hwn:∀ w∈ws,w≠[])(b:Bool):
  CuS G 285 [Za c 1 V.str (.mk b ws)] sl g r (.bool (Zvd sl.l ws r.i).1) ⟨(Zvd sl.l ws r.i).2,if(Zvd sl.l ws r.i).1=true then r.e else 110⟩:=by
 intro st hst;refine Zo 1000 28 [.tmp 4] Tryz.func285 λX=>?_;generalize hP:Zvd sl.l ws r.i=res;simp only[Zfa,Znh];have hwl:(Sl.mk b ws).l=ws:=rfl;refine Z1 ?_;refine Z1f hwl ?_;refine AW.block ?_
 refine Zaa ws.length (λm (_:Unit)=>Go.Hs.st [(0,.ptr 21 g 0),(7,Za c 1 V.str (.mk b ws)),(8,.int .i64 ws.length),(9,.int .i64 m)] [(21,cuO sl g st ⟨r.i+m,r.e⟩)])
  (λm _=>res=Zvd sl.l (ws.drop m) (r.i+m)/\r.i+m<=sl.l.length) 0 () (Nat.zero_le _) ⟨hP.symm,hi⟩ (Weak.st zp zp) ?_
 rintro m _ hm ⟨hR,hmi⟩ L2 hL2;refine Z1 ?_;refine Z6 ?_;refine Zm rfl (λh10=>?_) (λh10=>?_);rotate_left
 have hm2:m=ws.length:=by have:=zN h10;omega
 rw[List.drop_eq_nil_of_le zo]at hR;refine Z ?_;rw[hR];exact⟨rfl,zp⟩;have hm1:m<ws.length:=zL h10;have hgm:ws[m]?=some ws[m]:=List.getElem?_eq_getElem hm1;have hdr:ws.drop m=ws[m]::ws.drop (m+1):=List.drop_eq_getElem_cons hm1;have hwm:=hwn _ (List.getElem_mem hm1);generalize ws[m]=w2 at hgm hdr hwm;rw[hdr,Zvd]at hR;refine Z1f (zi hwl hgm) ?_;refine Z1 ?_;refine CuS.call hG (Z7i G hG sl g ⟨r.i+m,r.e⟩ w2) hst zk zm rfl zr ?_;refine Zu ?_
 have hcond:(decide (r.i+m<sl.l.length)&&Zld sl.l (r.i+m)==w2)=(Zld sl.l (r.i+m)==w2):=by
  by_cases h:r.i+m<sl.l.length
  rw[decide_eq_true h,Bool.true_and];rw[decide_eq_false h,Bool.false_and,Z8m zo]
  symm
  rw[beq_eq_false_iff_ne];exact λh=>hwm h.symm
 rw[hcond]
 by_cases hw4:Zld sl.l (r.i+m)=w2
 rotate_left;rw[if_neg hw4]at hR;have q2:(Zld sl.l (r.i+m)==w2)=false:=zu hw4;rw[q2];refine Zf @Znh ?_;rw[hR];exact⟨rfl,zp⟩;have hlt:r.i+m<sl.l.length:=Z9m (by rw[hw4];exact hwm);rw[if_pos hw4]at hR;have q2:(Zld sl.l (r.i+m)==w2)=true:=zu hw4;rw[q2];refine Z0 ?_
 have hw5:IntKind.i64.wrap (((r.i+m:Nat):Int)+1)=((r.i+(m+1):Nat):Int):=by rw[w64 zo zo];omega
 have hw6:IntKind.i64.wrap ((m:Int)+1)=((m+1:Nat):Int):=by rw[w64 zo zo];omega
 refine Z1f (zi @Znh hw5) ?_;refine Z1f hw6 ?_;exact hL2 _ ⟨hm1,(),⟨hR,zo⟩,Weak.st zp zp⟩
theorem Zjr(G:Nat->V)(hE:GExp G)(sl:Sl Tk)(hT:TkOk sl.l)(g:Nat)(r:CU)(hi:r.i<=sl.l.length):
  CuS G 286 [] sl g r (.tuple [.agg [encXs .new (Zwb (sl.l.drop r.i)).1],.bool ((Zwb (sl.l.drop r.i)).2.2==0)]) ⟨r.i+(Zwb (sl.l.drop r.i)).2.1.toNat,(Zwb (sl.l.drop r.i)).2.2⟩:=by
 have hG:=hE.ok;intro st hst;refine Zo 1000 29 [.cell 2 199,.tmp 3] Tryz.func286 λX=>?_;have hTl:=hT.len
 have hsub:(sl.sub r.i sl.l.length).l=sl.l.drop r.i:=by rw[Ztt];exact List.take_of_length_le (by rw[List.length_drop];omega)
 have hfr:=λc=>Zjq G hE c (sl.sub r.i sl.l.length) (by rw[hsub];exact⟨by rw[List.length_drop];omega,λt ht=>hT.text t (List.mem_of_mem_drop ht)⟩);have hbd:=Zmh (l:=sl.l.drop r.i);rw[hsub]at hfr;rw[List.length_drop]at hbd;generalize Zwb (sl.l.drop r.i)=p at hfr hbd;obtain⟨xs,n,e⟩:=p;simp only at hbd
 have hw3:IntKind.i64.wrap ((r.i:Int)+n)=((r.i+n.toNat:Nat):Int):=by rw[w64 zo zo];omega
 simp only[Zfa,Znh];refine Z1 ?_;intro g2;refine Z1 ?_;refine CuS.call hG (Zvaa G hG sl g r hi) hst zk rfl rfl zr ?_;simp -implicitDefEqProofs only[go_sem,seval,Zfa,Zmc];refine Znf @Zmc hG ?_ (s:=(hfr _));refine Zsf (zi @encFr.eq_1 (zi @encXs.eq_1 @Zcb)) ?_;intro g4;refine Zf (zi @Znh hw3) ?_;exact⟨rfl,zp⟩
theorem Z7v(G:Nat->V)(hE:GExp G)(sl:Sl Tk)(hT:TkOk sl.l)(g:Nat)(i:Nat)(hi:i<=sl.l.length):
  CuS G 264 [] sl g ⟨i,0⟩ (.tuple [Z4i .new (Z3f sl.l 1 [58,61] [[59]] i).1,.bool ((Z3f sl.l 1 [58,61] [[59]] i).2.2==0)]) ⟨(Z3f sl.l 1 [58,61] [[59]] i).2.1.toNat,(Z3f sl.l 1 [58,61] [[59]] i).2.2⟩:=by
 have hG:=hE.ok;have hTl:=hT.len;intro st hst
 have hP:Z3f sl.l 1 [58,61] [[59]] i=if Z9l sl.l i=false then(⟨1,[],[]⟩,(i:Int),110)
  else if Zld sl.l (i+1)≠[58,61]then(⟨1,Zld sl.l i,[]⟩,((i+1:Nat):Int),110)
  else if(1:Int)=2/\Zld sl.l (i+2)=[41]then Z4r sl.l ⟨1,Zld sl.l i,[]⟩ [[59]] (i+2)
  else Zuv sl.l 1 (Zld sl.l i) [[59]] (i+2):=rfl
 generalize Z3f sl.l 1 [58,61] [[59]] i=res at hP⊢;refine Zo 1000 39 [.cell 2 282,.tmp 3] Tryz.func264 λX=>?_;simp only[Zfa,Znh];refine Z1 ?_;intro g2;refine Z1 ?_;refine Z1 ?_;refine CuS.call hG (Zir G hG sl zo g ⟨i,0⟩ hi) hst zk rfl rfl zr ?_
 cases hn:Z9l sl.l i with
 |false=>
  rw[if_pos hn]at hP;have q0:(false=true)=False:=zS;simp -implicitDefEqProofs only[go_sem,seval,Zfa,q0,if_false];refine Z ?_;rw[hP];exact⟨rfl,zp⟩
 |true=>
 rw[if_neg (by rw[hn];decide)]at hP
 have hil:i<sl.l.length:=by
  refine Classical.byContradiction λh=>?_;rw[Z4k zo]at hn;cases hn
 simp -implicitDefEqProofs only[go_sem,seval,Zfa,if_true];refine Z1 ?_;intro g18;refine Z8a (λo=>o==1018) [.ptr 21 g 0,Za .new 1 V.str (.mk false [[58,61]])] [(21,cuO sl g st ⟨i+1,0⟩),(1002,.cells .new g2 0 [.int .u8 1,.str (Zld sl.l i),.nils])] ⟨Fz.same _,Z2b (f:=V.str) (l:=[[58,61]]) (m:=1) (g:=g18) (fz:=0) (c:=.new) rfl zp (λ_=>rfl),trivial⟩ (by simp only[Zv,Zy,and_true];exact⟨FzO.keep rfl zp,FzO.keep rfl zp⟩) ?_;refine CuS.call hG (Zze G hG sl zo g ⟨i+1,0⟩ hil .old [[58,61]] zd zd false) hst zk zm rfl zr ?_
 have htk:Zvd sl.l [[58,61]] (i+1)=if Zld sl.l (i+1)=[58,61]then(true,i+2)else(false,i+1):=rfl
 by_cases hw1:Zld sl.l (i+1)=[58,61]
 rotate_left;rw[if_pos hw1]at hP;rw[htk,if_neg hw1];have q0:(false=true)=False:=zS;simp -implicitDefEqProofs only[go_sem,seval,Zfa,q0,if_false];refine Z ?_;rw[hP];exact⟨rfl,zp⟩;rw[if_neg (zu hw1),if_neg (λh=>absurd h.1 zd)]at hP;rw[htk,if_pos hw1];have hi2:i+2<=sl.l.length:=Z9m (by rw[hw1];decide);simp -implicitDefEqProofs only[go_sem,seval,Zfa,if_true];refine Z2f rfl ?_;unfold Zuv at hP;have hbad:=Zjv (l:=sl.l.drop (i+2));have hbd:=Zmh (l:=sl.l.drop (i+2));have hex:=Zjr G hE sl hT g ⟨i+2,0⟩ hi2;simp only at hex;rw[List.length_drop]at hbd;generalize Zwb (sl.l.drop (i+2))=p at hP hbad hbd hex;obtain⟨xs,n,e⟩:=p;simp only at hP hbad hbd hex;refine Z1 ?_;refine CuS.call hG hex hst zk rfl (by first|rfl|(simp -implicitDefEqProofs only[go_sem,seval,encXs,Zcb];try rfl)) zr ?_;simp -implicitDefEqProofs only[go_sem,seval,Zfa,encXs];have hx0:e≠0->xs=[]:=hbad
 by_cases he:e=0
 rotate_left;rw[if_pos he]at hP;have q1:(e==0)=false:=zu he;obtain rfl:=hx0 he;rw[q1]
 refine Z6<|Z2c [(282,.ptr 1002 g2 0,.agg [.int .u8 1,.str (Zld sl.l i),.nils])] ⟨λj=>if j=0 then .agg [.int .u8 1,.str (Zld sl.l i),.nils]else .top,λj=>if j=0 then .keep else if j=7 then .any else .pure⟩ zk hG zk zk ?_
 have hgn:Za Col.new 6 Zkb (Zb [])=.nils:=rfl;refine Zsf hgn ?_;refine Z ?_;rw[hP];have hti:(((i+2:Nat):Int)+n).toNat=i+2+n.toNat:=zo;exact⟨by rw[<- q1]<;>rfl,by simp only[hti];simp -implicitDefEqProofs only[go_sem,seval];try rfl⟩
 refine Z6<|Z2c [(282,.ptr 1002 g2 0,Z4i .new ⟨1,Zld sl.l i,xs⟩)] ⟨λj=>if j=0 then Z4i .new ⟨1,Zld sl.l i,xs⟩else .top,λj=>if j=0 then .keep else if j=7 then .any else .pure⟩ zk hG zk zk ?_
 have q1:(e==0)=true:=zu he;rw[if_neg (zu he)]at hP;refine Zsf (zi q1 @Zbl) ?_;intro g35;have hi3:i+2+n.toNat<=sl.l.length:=zo;refine Z8a (λo=>o==1035) [.ptr 21 g 0,Za .new 1 V.str (.mk false [[59]])] [(21,cuO sl g st ⟨i+2+n.toNat,e⟩),(1002,.cells .new g2 0 [.int .u8 1,.str (Zld sl.l i),Za .new 6 Zkb (Zb xs)])] ⟨Fz.same _,Z2b (f:=V.str) (l:=[[59]]) (m:=1) (g:=g35) (fz:=0) (c:=.new) rfl zp (λ_=>rfl),trivial⟩ (by simp only[Zv,Zy,and_true];exact⟨FzO.keep rfl zp,FzO.keep rfl zp⟩) ?_;refine CuS.call hG (Zze G hG sl zo g ⟨i+2+n.toNat,e⟩ hi3 .old [[59]] zd zd false) hst zk zm rfl zr ?_;refine Zu ?_;refine Z ?_;rw[hP];unfold Z4r;generalize Zvd sl.l [[59]] (i+2+n.toNat)=tk;obtain⟨b,j⟩:=tk;cases b;exact⟨rfl,zp⟩;exact⟨rfl,by rw[he];simp -implicitDefEqProofs only[go_sem,seval];try rfl⟩
theorem Z7aa(G:Nat->V)(hE:GExp G)(sl:Sl Tk)(hT:TkOk sl.l)(g:Nat)(i:Nat)(hw:Zld sl.l i=Zcl):
  CuS G 266 [] sl g ⟨i,0⟩ (.tuple [Z4i .new (Z3f sl.l 2 [40] [[41],[59]] (i+1)).1,.bool ((Z3f sl.l 2 [40] [[41],[59]] (i+1)).2.2==0)]) ⟨(Z3f sl.l 2 [40] [[41],[59]] (i+1)).2.1.toNat,(Z3f sl.l 2 [40] [[41],[59]] (i+1)).2.2⟩:=by
 have hG:=hE.ok;have hTl:=hT.len;have hil:i<sl.l.length:=Z9m (by rw[hw];decide);intro st hst
 have hP:Z3f sl.l 2 [40] [[41],[59]] (i+1)=if Z9l sl.l (i+1)=false then(⟨2,[],[]⟩,((i+1:Nat):Int),110)
  else if Zld sl.l (i+2)≠[40]then(⟨2,Zld sl.l (i+1),[]⟩,((i+2:Nat):Int),110)
  else if(2:Int)=2/\Zld sl.l (i+3)=[41]then Z4r sl.l ⟨2,Zld sl.l (i+1),[]⟩ [[41],[59]] (i+3)
  else Zuv sl.l 2 (Zld sl.l (i+1)) [[41],[59]] (i+3):=rfl
 generalize Z3f sl.l 2 [40] [[41],[59]] (i+1)=res at hP⊢;refine Zo 1000 53 [.cell 2 282,.tmp 3] Tryz.func266 λX=>?_;simp only[Zfa,Znh];refine Z1 ?_;intro g2;refine Z1 ?_;refine Z1 ?_;intro g8;refine Z8a (λo=>o==1008) [.ptr 21 g 0,Za .new 1 V.str (.mk false [Zcl])] [(21,cuO sl g st ⟨i,0⟩),(1002,.cells .new g2 0 [.int .u8 2,.str [],.nils])] ⟨Fz.same _,Z2b (f:=V.str) (l:=[Zcl]) (m:=1) (g:=g8) (fz:=0) (c:=.new) rfl zp (λ_=>rfl),trivial⟩ (by simp only[Zv,Zy,and_true];exact⟨FzO.keep rfl zp,FzO.keep rfl zp⟩) ?_;refine CuS.call hG (Zze G hG sl zo g ⟨i,0⟩ (by show i<=_;omega) .old [Zcl] zd zd false) hst zk zm rfl zr ?_
 have htk:Zvd sl.l [Zcl] i=(true,i+1):=by rw[Zvd,if_pos hw]<;>rfl
 rw[htk];simp -implicitDefEqProofs only[go_sem,seval,Zfa,if_true];refine Z1 ?_;refine CuS.call hG (Zir G hG sl zo g ⟨i+1,0⟩ hil) hst zk rfl rfl zr ?_
 cases hn:Z9l sl.l (i+1)with
 |false=>
  rw[if_pos hn]at hP;have q0:(false=true)=False:=zS;simp -implicitDefEqProofs only[go_sem,seval,Zfa,q0,if_false];refine Z ?_;rw[hP];exact⟨rfl,zp⟩
 |true=>
 rw[if_neg (by rw[hn];decide)]at hP
 have hil1:i+1<sl.l.length:=by
  refine Classical.byContradiction λh=>?_;rw[Z4k zo]at hn;cases hn
 simp -implicitDefEqProofs only[go_sem,seval,Zfa,if_true];refine Z1 ?_;intro g26;refine Z8a (λo=>o==1026) [.ptr 21 g 0,Za .new 1 V.str (.mk false [[40]])] [(21,cuO sl g st ⟨i+2,0⟩),(1002,.cells .new g2 0 [.int .u8 2,.str (Zld sl.l (i+1)),.nils])] ⟨Fz.same _,Z2b (f:=V.str) (l:=[[40]]) (m:=1) (g:=g26) (fz:=0) (c:=.new) rfl zp (λ_=>rfl),trivial⟩ (by simp only[Zv,Zy,and_true];exact⟨FzO.keep rfl zp,FzO.keep rfl zp⟩) ?_;refine CuS.call hG (Zze G hG sl zo g ⟨i+2,0⟩ hil1 .old [[40]] zd zd false) hst zk zm rfl zr ?_
 have htk2:Zvd sl.l [[40]] (i+2)=if Zld sl.l (i+2)=[40]then(true,i+3)else(false,i+2):=rfl
 by_cases hw1:Zld sl.l (i+2)=[40]
 rotate_left;rw[if_pos hw1]at hP;rw[htk2,if_neg hw1];have q0:(false=true)=False:=zS;simp -implicitDefEqProofs only[go_sem,seval,Zfa,q0,if_false];refine Z ?_;rw[hP];exact⟨rfl,zp⟩;rw[if_neg (zu hw1)]at hP;rw[htk2,if_pos hw1];have hi3:i+3<=sl.l.length:=Z9m (by rw[hw1];decide);simp -implicitDefEqProofs only[go_sem,seval,Zfa,if_true];refine Z1 ?_;refine CuS.call hG (Z7i G hG sl g ⟨i+3,0⟩ [41]) hst zk rfl rfl zr ?_;refine Zu ?_
 have hcond:(decide (i+3<sl.l.length)&&Zld sl.l (i+3)==[41])=(Zld sl.l (i+3)==[41]):=by
  by_cases h:i+3<sl.l.length
  rw[decide_eq_true h,Bool.true_and]
  rw[decide_eq_false h,Bool.false_and,Z8m zo]<;>rfl
 rw[hcond]
 by_cases hw3:Zld sl.l (i+3)=[41]
 have q2:(Zld sl.l (i+3)==[41])=true:=zu hw3;rw[q2];rw[if_pos ⟨rfl,hw3⟩]at hP;refine Z0 ?_
 refine Z6<|Z2c [(282,.ptr 1002 g2 0,.agg [.int .u8 2,.str (Zld sl.l (i+1)),.nils])] ⟨λj=>if j=0 then .agg [.int .u8 2,.str (Zld sl.l (i+1)),.nils]else .top,λj=>if j=0 then .keep else if j=5 then .any else .pure⟩ zk hG zk zk ?_
 refine Zs ?_;intro g51;refine Z8a (λo=>o==1051) [.ptr 21 g 0,Za .new 1 V.str (.mk false [[41],[59]])] [(21,cuO sl g st ⟨i+3,0⟩),(1002,.cells .new g2 0 [.int .u8 2,.str (Zld sl.l (i+1)),.nils])] ⟨Fz.same _,Z2b (f:=V.str) (l:=[[41],[59]]) (m:=1) (g:=g51) (fz:=0) (c:=.new) rfl zp (λ_=>rfl),trivial⟩ (by simp only[Zv,Zy,and_true];exact⟨FzO.keep rfl zp,FzO.keep rfl zp⟩) ?_;refine CuS.call hG (Zze G hG sl zo g ⟨i+3,0⟩ hi3 .old [[41],[59]] zd zd false) hst zk zm rfl zr ?_;refine Zu ?_;refine Z ?_;rw[hP];unfold Z4r;generalize Zvd sl.l [[41],[59]] (i+3)=tk;obtain⟨b,j⟩:=tk;cases b;exact⟨rfl,zp⟩;exact⟨rfl,zp⟩;have q2:(Zld sl.l (i+3)==[41])=false:=zu hw3;rw[q2];rw[if_neg (λh=>hw3 h.2)]at hP;refine Z2f rfl ?_;unfold Zuv at hP;have hbad:=Zjv (l:=sl.l.drop (i+3));have hbd:=Zmh (l:=sl.l.drop (i+3));have hex:=Zjr G hE sl hT g ⟨i+3,0⟩ hi3;simp only at hex;rw[List.length_drop]at hbd;generalize Zwb (sl.l.drop (i+3))=p at hP hbad hbd hex;obtain⟨xs,n,e⟩:=p;simp only at hP hbad hbd hex;refine Z1 ?_;refine CuS.call hG hex hst zk rfl (by first|rfl|(simp -implicitDefEqProofs only[go_sem,seval,encXs,Zcb];try rfl)) zr ?_;simp -implicitDefEqProofs only[go_sem,seval,Zfa,encXs];have hx0:e≠0->xs=[]:=hbad
 by_cases he:e=0
 rotate_left;rw[if_pos he]at hP;have q1:(e==0)=false:=zu he;obtain rfl:=hx0 he;rw[q1];refine Z1 ?_;refine Z2f rfl ?_;have hgn:Za Col.new 6 Zkb (Zb [])=.nils:=rfl;refine Zf hgn ?_;rw[hP];have hti:(((i+3:Nat):Int)+n).toNat=i+3+n.toNat:=zo;exact⟨by rw[<- q1]<;>rfl,by simp only[hti];simp -implicitDefEqProofs only[go_sem,seval];try rfl⟩;have q1:(e==0)=true:=zu he;rw[if_neg (zu he)]at hP;rw[q1];refine Z1 ?_;refine Z0 ?_
 refine Z6<|Z2c [(282,.ptr 1002 g2 0,Z4i .new ⟨2,Zld sl.l (i+1),xs⟩)] ⟨λj=>if j=0 then Z4i .new ⟨2,Zld sl.l (i+1),xs⟩else .top,λj=>if j=0 then .keep else if j=5 then .any else .pure⟩ zk hG zk zk ?_
 refine Zsf @Zbl ?_;intro g51;have hi4:i+3+n.toNat<=sl.l.length:=zo;refine Z8a (λo=>o==1051) [.ptr 21 g 0,Za .new 1 V.str (.mk false [[41],[59]])] [(21,cuO sl g st ⟨i+3+n.toNat,e⟩),(1002,.cells .new g2 0 [.int .u8 2,.str (Zld sl.l (i+1)),Za .new 6 Zkb (Zb xs)])] ⟨Fz.same _,Z2b (f:=V.str) (l:=[[41],[59]]) (m:=1) (g:=g51) (fz:=0) (c:=.new) rfl zp (λ_=>rfl),trivial⟩ (by simp only[Zv,Zy,and_true];exact⟨FzO.keep rfl zp,FzO.keep rfl zp⟩) ?_;refine CuS.call hG (Zze G hG sl zo g ⟨i+3+n.toNat,e⟩ hi4 .old [[41],[59]] zd zd false) hst zk zm rfl zr ?_;refine Zu ?_;refine Z ?_;rw[hP];unfold Z4r;generalize Zvd sl.l [[41],[59]] (i+3+n.toNat)=tk;obtain⟨b,j⟩:=tk;cases b;exact⟨rfl,zp⟩;exact⟨rfl,by rw[he];simp -implicitDefEqProofs only[go_sem,seval];try rfl⟩
def sdO(gx:Nat)(l:List ASt):AObj:=Zca gx (Z4i .new) l
def rdS(l:List Tk)(i:Nat)(acc:List ASt):Bool×CU×List ASt:=
 if acc.length=512 then(false,⟨i,3⟩,acc)else((Zpe l i).2.2==0,⟨(Zpe l i).2.1.toNat,(Zpe l i).2.2⟩,acc++[(Zpe l i).1])
theorem Zcp(G:Nat->V)(hE:GExp G)(sl:Sl Tk)(hT:TkOk sl.l)(g:Nat)(i:Nat)(hi:i<sl.l.length)(acc:List ASt)(hac:acc.length<=512)(gx:Nat):
  InSp Tryz.prog G 248 [.ptr 21 g 0] (Zfa Zk [(21,cuO sl g (grown 1038 gx 3 acc) ⟨i,0⟩),(1038,sdO gx acc)])
   (λv H'=>v=.bool (rdS sl.l i acc).1/\∃ gx',H' 21=cuO sl g (grown 1038 gx' 3 (rdS sl.l i acc).2.2) (rdS sl.l i acc).2.1/\H' 1038=sdO gx' (rdS sl.l i acc).2.2):=by
 have hG:=hE.ok;have hTl:=hT.len
 have hP:rdS sl.l i acc=if acc.length=512 then(false,⟨i,3⟩,acc)else((Zpe sl.l i).2.2==0,⟨(Zpe sl.l i).2.1.toNat,(Zpe sl.l i).2.2⟩,acc++[(Zpe sl.l i).1]):=rfl
 generalize rdS sl.l i acc=res at hP⊢;refine Z3a 1000 42 [.tmp 2] Tryz.func248 rfl rfl rfl rfl λX=>?_;simp only[Zfa];refine Z1 ?_;refine Z1 ?_
 by_cases h5:acc.length=512
 rw[if_pos h5]at hP
 have q1:((acc.length:Int)==512)=true:=by rw[beq_iff_eq];omega
 refine Zha λK1 hK1=>?_;refine Zf (zi @Znh q1) ?_;rw[hP];exact⟨rfl,gx,zp,zp⟩;rw[if_neg h5]at hP
 have q1:((acc.length:Int)==512)=false:=by rw[beq_eq_false_iff_ne];omega
 refine Zlc (fun(_:Unit)=>st [(0,.ptr 21 g 0),(3,.func (.func (if Zld sl.l i=Zcl then 266 else 264)) [.ptr 21 g 0] [])] [(21,cuO sl g (grown 1038 gx 3 acc) ⟨i,0⟩),(1038,sdO gx acc)]) (λ_=>True) (λK1 hK1=>?_) ?_;refine Z1f (zi @Znh q1) ?_;refine Z1 ?_;refine CuS.call hG (Z7i G hG sl g ⟨i,0⟩ Zcl) (λF=>Zxd F _ _ _ _) zk rfl rfl zr ?_;rw[decide_eq_true hi,Bool.true_and];refine Zu ?_
 by_cases hw:Zld sl.l i=Zcl
 have q2:(Zld sl.l i==Zcl)=true:=zu hw;rw[q2];rw[if_pos hw]at hK1;refine Z1 ?_;exact hK1 _ () trivial (Weak.st zp zp);have q2:(Zld sl.l i==Zcl)=false:=zu hw;rw[q2];rw[if_neg hw]at hK1;refine Z0 ?_;exact hK1 _ () trivial (Weak.st zp zp);intro _ _
 have hstP:Zpe sl.l i=if Zld sl.l i=Zcl then Z3f sl.l 2 [40] [[41],[59]] (i+1)else Z3f sl.l 1 [58,61] [[59]] i:=rfl
 by_cases hw:Zld sl.l i=Zcl
 rw[if_pos hw]at hstP;rw[if_pos hw];have hsp:=Z7aa G hE sl hT g i hw;rw[<- hstP]at hsp;have hb:=(Z3r sl.l i).ge;generalize Zpe sl.l i=q at hP hsp hb;obtain⟨x,m,e⟩:=q;simp only at hP hsp hb;generalize hn:m.toNat=n at hP hsp;refine Z1 ?_;refine CuS.call hG hsp (λF=>Zxd F _ _ _ _) zk rfl (by first|rfl|(simp -implicitDefEqProofs only[go_sem,seval,Zbl,Zcb];try rfl)) zr ?_;simp -implicitDefEqProofs only[go_sem,seval,Zfa,Zbl];intro g4;refine ZTf @Znh hG ?_;intro g37;refine Zhb (f:=Z4i .new) (l:=acc) (l2:=[x]) (g:=gx) (Z3i _) rfl rfl rfl zp (Z9 zo zO) λg2=>?_;refine Zs ?_;refine Z ?_;rw[hP];exact⟨rfl,g2,zp,zp⟩;rw[if_neg hw]at hstP;rw[if_neg hw];have hsp:=Z7v G hE sl hT g i zo;rw[<- hstP]at hsp;have hb:=(Z3r sl.l i).ge;generalize Zpe sl.l i=q at hP hsp hb;obtain⟨x,m,e⟩:=q;simp only at hP hsp hb;generalize hn:m.toNat=n at hP hsp;refine Z1 ?_;refine CuS.call hG hsp (λF=>Zxd F _ _ _ _) zk rfl (by first|rfl|(simp -implicitDefEqProofs only[go_sem,seval,Zbl,Zcb];try rfl)) zr ?_;simp -implicitDefEqProofs only[go_sem,seval,Zfa,Zbl];intro g4;refine ZTf @Znh hG ?_;intro g37;refine Zhb (f:=Z4i .new) (l:=acc) (l2:=[x]) (g:=gx) (Z3i _) rfl rfl rfl zp (Z9 zo zO) λg2=>?_;refine Zs ?_;refine Z ?_;rw[hP];exact⟨rfl,g2,zp,zp⟩
@[go_sem] theorem noMp_cuO(S:Sl Tk)(g:Nat)(v:V)(r:CU):(cuO S g v r).noMp=cuO S g v r:=rfl
@[go_sem] theorem noMp_sdO(g:Nat)(l:List ASt):(sdO g l).noMp=sdO g l:=by cases l<;>rfl
theorem Zkna{l:List Tk}{n f i:Nat}{acc:List ASt}(hi:i<l.length):Zgq l n (f+1) i acc =
  if(rdS l i acc).1=false then([],Zzq l n ((rdS l i acc).2.1.i:Int),(rdS l i acc).2.1.e)else Zgq l n f (rdS l i acc).2.1.i (rdS l i acc).2.2:=by
 rw[Zgq,if_neg zo];unfold rdS
 by_cases h5:acc.length=512
 rw[if_pos h5,if_pos h5]<;>rfl
 rw[if_neg h5,if_neg h5];have hb:=(Z3r l i).ge
 by_cases he:(Zpe l i).2.2=0
 rw[if_neg (zu he),if_neg (by simp[he])];have q:((Zpe l i).2.2==0)=false:=zu he;rw[if_pos he,if_pos q];simp only[Int.toNat_of_nonneg (show 0<=(Zpe l i).2.1 by omega)]
theorem Zfla{l:List Tk}{i:Nat}{acc:List ASt}(h:(rdS l i acc).1=true):(rdS l i acc).2.1.e=0/\i<(rdS l i acc).2.1.i/\(rdS l i acc).2.1.i<=l.length/\(rdS l i acc).2.2.length=acc.length+1/\acc.length≠512:=by
 unfold rdS at h⊢
 by_cases h5:acc.length=512
 rw[if_pos h5]at h;cases h;rw[if_neg h5]at h⊢;have he:(Zpe l i).2.2=0:=zu h;obtain⟨h1,h2⟩:=(Z3r l i).ok he;refine⟨he,?_,?_,by rw[List.length_append]<;>rfl,h5⟩
 show i<(Zpe l i).2.1.toNat;omega
 show(Zpe l i).2.1.toNat<=l.length;omega
def encBP(r:List ASt×Int×Int):V:=.tuple [.agg [Zsoa .new r.1],.int .i64 r.2.1,.int .i64 r.2.2]
theorem Z40(G:Nat->V)(hE:GExp G)(s:List UInt8)(hs:s.length<100000):Spec Tryz.prog G 216 [.str s] Zk (λv _=>v=encBP (Zkt s)):=by
 have hG:=hE.ok;refine Zo 0 69 [.cell 2 246,.tmp 3,.tmp 4] Tryz.func216 λX=>?_
 have hP:Zkt s=if(Zra s).2.2≠0 then(([]:List ASt),(Zra s).2.1,(Zra s).2.2)else Zgq (Zra s).1 s.length ((Zra s).1.length+1) 0 []:=rfl
 generalize Zkt s=res at hP⊢;have hT:=Z1r hs;have hl:=Zke G hE s hs;generalize Zra s=p at hP hT hl;obtain⟨l,at0,e0⟩:=p;simp only at hP hT;have hTl:=hT.len;refine Z1 ?_;intro g2;refine Z1 ?_;refine Zn hG ?_ (s:=hl);refine Zsf (zi @encTok.eq_1 (zi @encTks.eq_1 @Zmc)) ?_;have hS:(Zb l).l=l:=Zl l;generalize Zb l=S at hS;subst hS;refine Z6 ?_
 by_cases he:e0=0
 rotate_left;rw[if_pos he]at hP;have q1:(e0==0)=false:=zu he;refine Zne zk ?_;simp -implicitDefEqProofs only[go_sem,seval,bne,q1];refine Z ?_
 rw[hP]<;>rfl
 rw[if_neg (zu he)]at hP;have q1:(e0==0)=true:=zu he;refine Zne zk ?_;simp -implicitDefEqProofs only[go_sem,seval,bne,q1];refine Z1 ?_;intro g21;refine AW.weak (Zw (λ_=>false) (l:=[(0,.str s),(2,.ptr 2 g2 0),(5,Za .new 3 Zsc S),(6,.ptr 21 g21 0)]) (m:=[(2,.cells .new g2 0 [.nils]),(21,cuO S g21 .nils ⟨0,0⟩)]) ?_ ?_) ?_;refine Zs ?_;exact⟨Fz.same _,Fz.same _,Fz.same _,Fz.same _⟩;simp only[Zv,Zy,and_true];exact⟨FzO.keep rfl zp,Zxja (c:=.new) (fz:=0) (cs:=[Za .new 3 Zsc S,.int .i64 0,.int .i64 0,.nils]) rfl zp ⟨Fz.any (zpf @Zmc),Fz.same _,Fz.same _,Fz.same _,trivial⟩⟩;refine Z6 ?_;refine AW.block ?_
 refine Zcd (fun(x:(Nat×Nat)×List ASt)=>st [(0,.str s),(2,.ptr 2 g2 0),(5,Za .new 3 Zsc S),(6,.ptr 21 g21 0)] [(2,.cells .new g2 0 [.nils]),(21,cuO S g21 (grown 1038 x.1.1 3 x.2) ⟨x.1.2,0⟩),(1038,sdO x.1.1 x.2)])
  (λx=>x.1.2<=S.l.length/\x.2.length<=512/\∃ f,S.l.length<f+x.1.2/\Zgq S.l s.length f x.1.2 x.2=res) (λx=>S.l.length-x.1.2) ((0,0),[]) ⟨Nat.zero_le _,Nat.zero_le _,S.l.length+1,Nat.lt_succ_self _,hP.symm⟩
  (Weak.st zp (by refine Zs ?_;first|rfl|exact⟨rfl,rfl⟩)) ?_
 rintro⟨⟨gx,i⟩,acc⟩ ⟨hi,hac,f,hf,hR⟩ L3 hL3;simp only at hi hac hf hR;refine Z6 ?_
 cases f with
 |zero=>omega
 |succ f=>
 refine Z1f @Znh ?_;refine Zm rfl (λh29=>?_) (λh29=>?_);rotate_left
 have hil:S.l.length<=i:=by have:=zN h29;omega
 rw[Zgq,if_pos hil]at hR;refine Z0 ?_;refine AW.weak (Zw (λo=>o==1038) (l:=[(2,.ptr 2 g2 0),(6,.ptr 21 g21 0)]) (m:=[(2,.cells .new g2 0 [.nils]),(21,.cells .any g21 0 [.top,.int .i64 i,.int .i64 0,Za .new 3 (Z4i .new) (Zb acc)])]) ?_ ?_) ?_;refine Zs ?_
 first|exact⟨Fz.same _,Fz.same _⟩|exact Fz.same _
 simp only[Zv,Zy,and_true];exact⟨FzO.keep rfl zp,FzO.of (c:=.any) (fz:=0) (cs:=[Za .any 3 Zsc S,.int .i64 i,.int .i64 0,grown 1038 gx 3 acc]) rfl zp ⟨Fz.top _,Fz.same _,Fz.same _,Zkc rfl zp (Z3i _),trivial⟩⟩;refine Z ?_
 rw[<- hR]<;>rfl
 have hil:i<S.l.length:=zL h29;rw[Zkna hil]at hR;refine Z0 ?_;refine AW.block ?_;have hst:=Zcp G hE S hT g21 i hil acc hac gx;have hrt := @Zfla S.l i acc;generalize rdS S.l i acc=q at hR hst hrt;obtain⟨b,⟨j,e⟩,acc'⟩:=q;simp only at hR hst hrt;refine Z1 ?_;refine CallA.inl [(21,cuO S g21 (grown 1038 gx 3 acc) ⟨i,0⟩),(1038,sdO gx acc)] zk ?_ ?_;intro p hp;simp only[List.mem_cons,List.not_mem_nil,or_false]at hp
 rcases hp with rfl|rfl
 .simp -implicitDefEqProofs only[go_sem,seval];try rfl
 .simp -implicitDefEqProofs only[go_sem,seval];try rfl
 refine hst.mono ?_;rintro _ H' ⟨rfl,gx',q21,q1038⟩;simp only[List.map_cons,List.map_nil,q21,q1038]
 cases b with
 |true=>
  obtain⟨rfl,hj,hjl,hal,ha5⟩:=hrt rfl;rw[if_neg zd]at hR;refine Zu ?_;refine Z0 ?_;refine hL3 _ ⟨((gx',j),acc'),?_,⟨?_,?_,f,?_,hR⟩,Weak.st zp zp⟩
  show S.l.length-j<S.l.length-i;omega
  show j<=_;omega
  show acc'.length<=_;omega
  show S.l.length<f+j;omega
 |false=>
  rw[if_pos rfl]at hR;refine Zu ?_;refine Z1f @Znh ?_;refine Zm rfl (λh40=>?_) (λh40=>?_);have hjl:j<S.l.length:=zL h40;have hgj:=List.getElem?_eq_getElem hjl;generalize S.l[j]=t at hgj;rw[Zpla hgj]at hR;refine AW.weak (Zw (λo=>o==21) (l:=[(0,.str s),(2,.ptr 2 g2 0),(5,Za .new 3 Zsc S),(6,.view .any (.agg [Za .any 3 Zsc S,.int .i64 j,.int .i64 e,grown 1038 gx' 3 acc']))]) (m:=[(2,.cells .new g2 0 [.nils])]) ?_ ?_) ?_;refine Zs ?_;exact⟨Fz.same _,Fz.same _,Fz.same _,Fz.ptr (c:=.any) (fz:=0) (v:=.agg [Za .any 3 Zsc S,.int .i64 j,.int .i64 e,grown 1038 gx' 3 acc']) rfl zp⟩;simp only[Zv,Zy,and_true];exact FzO.keep rfl zp
  refine Z6<|Zp ⟨λ_=>.top,λk=>if k=6 then .lend else if k=9 then .lend else if k=14 then .lend else .pure⟩ zk hG zk zk ?_
  refine Zsf (zi hgj @Zed) ?_;refine Z ?_
  rw[<- hR]<;>rfl
  have hjl:¬ j<S.l.length:=by have:=zN h40;omega
  refine Z0 ?_;refine AW.weak (Zw (λo=>o==21) (l:=[(0,.str s),(2,.ptr 2 g2 0),(5,Za .new 3 Zsc S),(6,.view .any (.agg [Za .any 3 Zsc S,.int .i64 j,.int .i64 e,grown 1038 gx' 3 acc']))]) (m:=[(2,.cells .new g2 0 [.nils])]) ?_ ?_) ?_;refine Zs ?_;exact⟨Fz.same _,Fz.same _,Fz.same _,Fz.ptr (c:=.any) (fz:=0) (v:=.agg [Za .any 3 Zsc S,.int .i64 j,.int .i64 e,grown 1038 gx' 3 acc']) rfl zp⟩;simp only[Zv,Zy,and_true];exact FzO.keep rfl zp
  refine Z6<|Zp ⟨λ_=>.top,λk=>if k=7 then .lend else .pure⟩ zk hG zk zk ?_
  refine Zs ?_;refine Z ?_;rw[<- hR];unfold Zzq
  rw[if_neg zo]<;>rfl
theorem Z2ha{b:List ASt}(h:Zwg b=0):b.length<=512/\∀ s∈b,Zju s=true:=by
 unfold Zwg at h
 split at h
 cases h
 split at h
 rename_i h1 h2;rw[List.all_eq_true]at h2;exact⟨zo,h2⟩;cases h
theorem Z3ha(l:List ASt):Zwg l=0\/Zwg l=2:=by
 unfold Zwg
 split
 exact .inr rfl
 split
 exact .inl rfl;exact .inr rfl
theorem Z4c(w:List UInt8):(V.str w).cells.length=1:=rfl
def encTy(r:Int×Int):V:=.tuple [.int .i64 r.1,.int .i64 r.2]
theorem Zaea{s:ASt}(h:Zju s=true):s.kind=1\/s.kind=2:=by
 simp only[Zju,Bool.and_eq_true,Bool.or_eq_true,beq_iff_eq]at h;exact h.1.1
theorem Z1o(G:Nat->V)(c:Col)(s:Sl (List UInt8))(hs:s.l.length<1000000):InSp Tryz.prog G 95 [Za c 1 V.str s] (Zfa Zk [(5005,.dead)])
  (λv H'=>(s=.nil/\v=.nils/\H' 5005=.dead)\/(∃ g,v=.msl 5005 g 0 s.l.length 1/\H' 5005=.cells .new g 0 (flat (s.l.map V.str)))):=by
 refine Z3a 5000 8 [.tmp 2] Tryz.func95 rfl rfl rfl rfl λX=>?_;simp only[Zfa]
 cases s with
 |nil=>
  refine Z1 ?_;refine Z6 ?_;simp only[Za];refine Z ?_;exact .inl (by first|rfl|exact⟨rfl,rfl,rfl⟩|exact⟨rfl,rfl⟩)
 |mk b l=>
  refine Z1 ?_;refine Z6 ?_;have hq:(Za c 1 V.str (.mk b l))=.slice c b 1 (l.map V.str):=rfl;rw[hq];refine Z1 ?_;refine Z1 ?_;have hl:l.length<1000000:=hs;intro g;refine⟨Z9 zo (by rw[List.length_map];omega),λg2=>?_⟩;refine Z ?_;exact .inr ⟨g2,by rw[List.length_map],zr⟩
theorem Z30(G:Nat->V)(hE:GExp G)(c c1 c2 c3:Col)(s:Sl AM)(vars events:Sl (List UInt8))(hs:s.l.length<1000000)(hb:∀ a∈s.l,AmB a)(hv:vars.l.length<100000)(hev:events.l.length<1000000):
  Spec Tryz.prog G 217 [.agg [Za c 3 (Zdg c1) s],Za c2 1 V.str vars,Za c3 1 V.str events] Zk (λv _=>v=encTy (Zdu (s.l.map AM.v) vars.l events.l)):=by
 have hG:=hE.ok;refine Zo 0 57 [.tmp 6,.tmp 7] Tryz.func217 λX=>?_
 have hP:Zdu (s.l.map AM.v) vars.l events.l=if Zwg (s.l.map AM.v)≠0 then(0,2)else Z7m vars.l events.l ((s.l.map AM.v).drop 0) (0:Nat):=rfl
 generalize Zdu (s.l.map AM.v) vars.l events.l=res at hP⊢;have hck:=λc=>Z50 G hE c c1.ent s hs hb;have hok := @Z2ha (s.l.map AM.v);have h02:=Z3ha (s.l.map AM.v);generalize Zwg (s.l.map AM.v)=ck at hP hck hok h02;refine Z1 ?_;intro g3;refine Z1 ?_;refine Znf @Zsn hG ?_ (s:=(hck _))
 rcases h02 with rfl|rfl
 rotate_left;refine Zs ?_;refine Z ?_
 rw[hP]<;>rfl
 refine Zs ?_;refine Z0 ?_;obtain⟨_,hall⟩:=hok rfl;rw[if_neg zd]at hP
 have hfin:∀ (NS:Sl (List UInt8)),NS.l=vars.l++[Za7]->∀ x,Za9 NS.l x=Za9 (vars.l++[Za7]) x:=λNS h x=>by rw[h]
 refine Zlc (fun(NS:Sl (List UInt8))=>st [(1,Za c2 1 V.str vars),(2,Za c3 1 V.str events),(3,.ptr 3 g3 0),(8,Za .new 1 V.str NS)] [(3,.cells .new g3 0 [Za c 3 (Zdg c1) s])]) (λNS=>NS.l=vars.l++[Za7]) (λK2 hK2=>?_) ?_;refine Z1 ?_;refine CallA.inl [(5005,.dead)] zk ?_ ?_;intro p hp;rw[List.mem_singleton]at hp;subst hp;exact zp;refine(Z1o G c2 vars zo).mono ?_;rintro _ H' (⟨rfl,rfl,q⟩|⟨g5,rfl,q⟩);simp only[List.map_cons,List.map_nil,q];refine Zu ?_;intro g18;refine⟨Z9 zo zo,λh=>absurd h zd,λ_ g19=>?_⟩;refine Zs ?_;refine hK2 _ (.mk false [Za7]) rfl (Zw (λo=>o==19) ?_ ?_);refine Zs ?_;refine⟨Fz.same _,Fz.same _,Fz.same _,?_⟩;exact Z2b (f:=V.str) (l:=[Za7]) (m:=1) (g:=g19) (fz:=0) (c:=.new) rfl zp Z4c;simp only[Zv,Zy,and_true];exact FzO.keep rfl zp;simp only[List.map_cons,List.map_nil,q];refine Zu ?_;intro g18
 have hcells:List.take (vars.l.length*1) (flat (List.map V.str vars.l))++[V.str [97,114,103]]=flat ((vars.l++[Za7]).map V.str):=by
  rw[List.take_of_length_le (by rw[Zjb Z4c];exact Nat.le_refl _),List.map_append,Zee];rfl
 have e1:vars.l.length+1=(vars.l++[Za7]).length:=by rw[List.length_append]<;>rfl
 refine⟨Z9 zo zo,by rw[Zjb Z4c];exact Nat.le_refl _,Nat.zero_le _,λg19=>?_⟩;rw[hcells];refine hK2 _ (.mk false (vars.l++[Za7])) rfl (Zw (λo=>o==5005) ?_ ?_);refine Zs ?_;refine⟨Fz.same _,Fz.same _,Fz.same _,?_⟩;rw[e1];exact Z2b (f:=V.str) (l:=vars.l++[Za7]) (m:=1) (g:=g19) (fz:=0) (c:=.new) rfl zp Z4c;simp only[Zv,Zy,and_true];exact FzO.keep rfl zp;intro NS hNl;have hcg:=hfin NS hNl;have hof:=λc c1 (x:Sl XN) (h1:x.l.length<1000000) h2=>Zl5 G hE c c1 x NS h1 h2 (by rw[hNl,List.length_append];show _+1<_;omega)
 try clear hfin
 refine Zha λK2 hK2=>?_;refine Z1 ?_;refine AW.block ?_
 refine Zaa s.l.length (λk (_:Unit)=>st [(1,Za c2 1 V.str vars),(2,Za c3 1 V.str events),(8,Za .new 1 V.str NS),(21,Za c 3 (Zdg c1) s),(22,.int .i64 s.l.length),(23,.int .i64 k)] [])
  (λk _=>Z7m vars.l events.l ((s.l.map AM.v).drop k) (k:Nat)=res) 0 () (Nat.zero_le _) hP.symm
  (Weak.st zp zp) ?_
 rintro k _ hk hR L3 hL3;refine Z1 ?_;refine Z6 ?_;refine Zm rfl (λh24=>?_) (λh24=>?_);rotate_left
 have hk1:k=s.l.length:=by have:=zN h24;omega
 refine Z0 ?_;refine hK2 _ ?_;rw[List.drop_of_length_le (by rw[List.length_map];omega)]at hR;refine Z ?_
 rw[<- hR]<;>rfl
 have hk1:k<s.l.length:=zL h24;have hg:=List.getElem?_eq_getElem hk1;have hba:=hb _ (List.getElem_mem hk1);have hsta:=hall _ (List.mem_map_of_mem (f:=AM.v) (List.getElem_mem hk1))
 have hgv:(s.l.map AM.v)[k]?=some (s.l[k]).v:=by rw[List.getElem?_map,hg]<;>rfl
 rw[Zgz hgv]at hR;generalize s.l[k]=a at hg hba hsta hR;have hkd:=Zaea hsta;have hst:stT vars.l events.l a.v=((if a.kind=2 then events.l.contains a.name else vars.l.contains a.name)&&Zr0 (vars.l++[Za7]) a.x.l):=rfl;refine Z1f (zi hg @Z5i) ?_;intro g10;refine Z1 ?_
 refine Zlc (fun(NK:Sl (List UInt8))=>st [(1,Za c2 1 V.str vars),(2,Za c3 1 V.str events),(8,Za .new 1 V.str NS),(9,.int .i64 k),(10,.ptr 10 g10 0),(11,Za (if a.kind=2 then c3 else c2) 1 V.str NK),(21,Za c 3 (Zdg c1) s),(22,.int .i64 s.l.length),(23,.int .i64 k)] [(10,.cells .new g10 0 [.int .u8 a.kind,.str a.name,Za c1 6 Zkb a.x])])
  (λNK=>NK.l.length<1000000/\NK.l.contains a.name=(if a.kind=2 then events.l.contains a.name else vars.l.contains a.name)) (λK6 hK6=>?_) ?_
 rcases hkd with hk0|hk0
 have hk0:a.kind=1:=hk0
 have q2:(a.kind==2)=false:=by rw[hk0]<;>rfl
 rw[if_neg (by rw[hk0];decide),if_neg (by rw[hk0];decide)]at hK6;refine Z1f q2 ?_;refine Z0 ?_;exact hK6 _ vars ⟨zo,rfl⟩ (Weak.st zp zp);have hk0:a.kind=2:=hk0;have q2:(a.kind==2)=true:=zu hk0;rw[if_pos hk0,if_pos hk0]at hK6;refine Z1f q2 ?_;refine Z1 ?_;exact hK6 _ events ⟨hev,rfl⟩ (Weak.st zp zp);rintro NK ⟨hNK,hNKc⟩;generalize(if a.kind=2 then c3 else c2)=cK;rw[<- hNKc]at hst;refine Z1 ?_
 refine Zlc (fun(kd0:Int)=>st [(1,Za c2 1 V.str vars),(2,Za c3 1 V.str events),(8,Za .new 1 V.str NS),(9,.int .i64 k),(10,.ptr 10 g10 0),(11,Za cK 1 V.str NK),(12,.int .u8 kd0),(21,Za c 3 (Zdg c1) s),(22,.int .i64 s.l.length),(23,.int .i64 k)] [(10,.cells .new g10 0 [.int .u8 a.kind,.str a.name,Za c1 6 Zkb a.x])])
  (λkd0=>(kd0==1)=Zr0 (vars.l++[Za7]) a.x.l) (λK7 hK7=>?_) ?_
 by_cases hx0:a.x.l.length=0
 have hxe:Zr0 (vars.l++[Za7]) a.x.l=true:=by unfold Zr0;rw[List.length_eq_zero_iff.1 hx0]<;>rfl
 have q5:decide ((a.x.l.length:Int)>0)=false:=zF;refine Z1f q5 ?_;refine Z0 ?_;exact hK7 _ 1 (by rw[hxe]<;>rfl) (Weak.st zp zp);have q5:decide ((a.x.l.length:Int)>0)=true:=zT
 have hxe:Zr0 (vars.l++[Za7]) a.x.l=((Za9 NS.l a.x.l).1==1):=by
  unfold Zr0;rw[<- hcg]
  cases hq:a.x.l with
  |nil=>rw[hq]at hx0;exact absurd rfl hx0
  |cons=>rfl
 refine Z1f q5 ?_;refine Z1 ?_;refine Znf @Zcb hG ?_ (s:=(hof _ _ a.x hba.l hba.x));generalize Za9 NS.l a.x.l=r at hxe;obtain⟨kd0,i0,e0⟩:=r;refine Zsf @encO3.eq_1 ?_;exact hK7 _ kd0 hxe.symm (Weak.st zp zp);intro kd0 hkd0
 cases q6:(kd0==1)with
 |false=>
  rw[<- hkd0,q6,Bool.and_false]at hst;rw[if_neg (by rw[hst];decide)]at hR;refine Zne zk ?_;simp -implicitDefEqProofs only[go_sem,seval,bne,q6];refine Z ?_
  rw[<- hR]<;>rfl
 |true=>
  rw[<- hkd0,q6,Bool.and_true]at hst;refine Zne zk ?_;simp -implicitDefEqProofs only[go_sem,seval,bne,q6];refine Zc hG ?_ (s:=(Z5c G hG _ a.name NK hNK))
  cases q7:NK.l.contains a.name with
  |false=>
   rw[q7]at hst;rw[if_neg (by rw[hst];decide)]at hR;refine Z ?_
   rw[<- hR]<;>rfl
  |true=>
   rw[q7]at hst;rw[if_pos hst]at hR;refine Z1 ?_;exact hL3 _ ⟨hk1,(),hR,Weak.st zw zp⟩
def toAM(s:ASt):AM:=⟨s.kind,s.name,Zb s.x⟩
theorem toAM_v(s:ASt):(toAM s).v=s:=by
 show ASt.mk s.kind s.name (Zb s.x).l=s
 rw[Zl]
def amS(l:List ASt):Sl AM:=Zb (l.map toAM)
theorem amS_l(l:List ASt):(amS l).l=l.map toAM:=Zl _
theorem amS_v(l:List ASt):(amS l).l.map AM.v=l:=by
 rw[amS_l,List.map_map];exact(List.map_congr_left λs _=>toAM_v s).trans (List.map_id _)
theorem Zuha(c:Col)(l:List ASt):Za c 3 (Z4i c) (Zb l)=Za c 3 (Zdg c) (amS l):=by
 cases l with
 |nil=>rfl
 |cons s r=>
  show V.slice c false 3 ((s::r).map (Z4i c))=V.slice c false 3 (((s::r).map toAM).map (Zdg c))
  rw[List.map_map]<;>rfl
structure SB(s:ASt):Prop where
 n:s.name.length<100000
 l:s.x.length<100000
 x:∀ n∈s.x,n.name.length<100000
structure BOk(b:List ASt):Prop where
 s:∀ s∈b,SB s
 k:b.length<=512
theorem BOk.amb{l:List ASt}(h:BOk l):∀ a∈(amS l).l,AmB a:=by
 intro a ha;rw[amS_l]at ha;obtain⟨s,hs,rfl⟩:=List.mem_map.1 ha;have:=h.s s hs;exact⟨this.n,by show(Zb s.x).l.length<_;rw[Zl];have:=this.l;omega,by show ∀ n∈(Zb s.x).l,_;rw[Zl];exact this.x⟩
theorem Z1ma{l:List Tk}(hT:TkOk l):(Zwb l).1.length<100000/\∀ n∈(Zwb l).1,n.name.length<100000:=by
 have hok:=((Z5d l (l.length+1) 1 ⟨0,[],0⟩).ok ⟨Nat.zero_le _,Nat.le_refl _⟩);unfold Zwb
 split
 exact⟨Nat.zero_lt_succ _,λn hn=>by cases hn⟩
 split
 exact⟨Nat.zero_lt_succ _,λn hn=>by cases hn⟩;have:=hok.1;have:=hok.2;have:=hT.len;exact⟨by show(Zgb _ _ _ _).2.nodes.length<_;omega,Z6i hT⟩
theorem txtP_sm{l:List Tk}(hT:TkOk l)(i:Nat):(Zld l i).length<100000:=by
 unfold Zld
 split
 rename_i t h;exact hT.text t (List.mem_of_getElem? h);exact Nat.zero_lt_succ _
theorem Zr5{k:Int}{nm:List UInt8}(h:nm.length<100000):SB ⟨k,nm,[]⟩:=⟨h,Nat.zero_lt_succ _,λn hn=>by cases hn⟩
theorem Zska{l:List Tk}(hT:TkOk l)(k:Int)(w:List UInt8)(ws:List (List UInt8))(i:Nat):SB (Z3f l k w ws i).1:=by
 have ht:=txtP_sm hT i;have hf:=Z1ma (l:=l.drop (i+2)) ⟨Nat.lt_of_le_of_lt (by rw[List.length_drop];omega) hT.len,λt h=>hT.text t (List.mem_of_mem_drop h)⟩;unfold Z3f Zuv Z4r
 split
 exact Zr5 (Nat.zero_lt_succ _)
 split
 exact Zr5 ht
 split
 exact Zr5 ht
 split
 exact Zr5 ht;exact⟨ht,hf.1,hf.2⟩
theorem Z66{l:List Tk}(hT:TkOk l){n:Nat}:∀ (f i:Nat) (acc:List ASt),BOk acc->BOk (Zgq l n f i acc).1
 |0,i,acc,h=>h
 |f+1,i,acc,h=>by
  rw[Zgq]
  split
  exact h
  split
  exact⟨λs hs=>(by cases hs),Nat.zero_le _⟩;rename_i h5
  split
  exact⟨λs hs=>(by cases hs),Nat.zero_le _⟩;refine Z66 hT f _ _ ⟨λs hs=>?_,by rw[List.length_append,List.length_singleton];have:=h.k;omega⟩
  rcases List.mem_append.1 hs with hs|hs
  exact h.s s hs;rw[List.mem_singleton.1 hs];unfold Zpe
  split<;>exact Zska hT _ _ _ _
theorem Zdia{s:List UInt8}(hs:s.length<=900):BOk (Zkt s).1:=by
 unfold Zkt
 split
 exact⟨λs hs=>(by cases hs),Nat.zero_le _⟩;exact Z66 (Z1r zo) _ _ _ ⟨λs hs=>(by cases hs),Nat.zero_le _⟩
theorem Zlq(G:Nat->V)(hE:GExp G)(s:List UInt8)(hs:s.length<100000):Spec Tryz.prog G 173 [.str s] Zk (λv _=>v=.bool (Zek s)):=by
 have hG:=hE.ok;refine Zo 0 26 [.tmp 2] Tryz.func173 λX=>?_;rw[Zek];refine Z ?_;refine Zn hG ?_ (s:=Zke G hE s hs);generalize Zra s=p;obtain⟨l,a,q⟩:=p;simp only[encTok,encTks];refine Zs ?_;cases q0:(q==0);exact Zh q0
 have e1:(((l.length:Nat):Int)==1)=(l.length==1):=by
  rw[Bool.eq_iff_iff,beq_iff_eq,beq_iff_eq];omega
 cases q1:(l.length==1);rw[q1]at e1;exact Zh (zi q0 (zi e1 (@Zl Tk l)));rw[q1]at e1;have h1:l.length=1:=zu q1;obtain⟨t,rfl⟩:∃ t,l=[t]:=List.length_eq_one_iff.1 h1;exact Zh (zi q0 Zed)
def Zub(vs ev:List (List UInt8))(s:List UInt8):Bool:=(Zkt s).2.2==0&&(Zdu (Zkt s).1 vs ev).2==0
theorem Zhl(G:Nat->V)(hE:GExp G)(b c d e:Col)(m:MdM)(ns vs:Sl (List UInt8))(s:List UInt8)(hs:s.length<=900)(hv:vs.l.length<100000)(hev:m.events.l.length<1000000):
  Spec Tryz.prog G 178 [ckV b c d e m ns vs,.str s] Zk (λw _=>w=.bool (Zub vs.l m.events.l s)):=by
 have hG:=hE.ok;refine Zo 0 32 [.tmp 4] Tryz.func178 λX=>?_;have hbk:=Zdia hs;have hT:=λc c1 c2 c3=>Z30 G hE c c1 c2 c3 (amS (Zkt s).1) vs m.events (by rw[amS_l,List.length_map];have:=hbk.k;omega) hbk.amb hv hev;rw[amS_v]at hT;have hp:=Z40 G hE s zo;rw[Zub];generalize Zkt s=p at hT hp hbk;obtain⟨l,a,q⟩:=p;simp only at hT hbk;generalize Zdu l vs.l m.events.l=t at hT;refine Z ?_;refine Zn hG ?_ (s:=hp);simp only[encBP,Zsoa,Zuha];refine Zs ?_;intro g5;refine AW.weak (Zw (λo=>o==5) (l:=[(0,ckV b c d e m ns vs),(5,.view .new (.agg [Za .new 3 (Zdg .new) (amS l)])),(7,.int .i64 q)]) (m:=[]) ?_ trivial) ?_;refine Zs ?_;exact⟨Fz.same _,Fz.ptr (v:=.agg [Za .new 3 (Zdg .new) (amS l)]) (c:=.new) (fz:=0) rfl zp,Fz.same _⟩;cases q0:(q==0);have q1:(q != 0)=true:=zu q0;exact Zq q1;have q1:(q != 0)=false:=zu q0;refine Z1f q1 ?_;refine Z0f q1 ?_;refine Z6 ?_;refine Zp ⟨λi=>if i=10 then .tuple [.int .i64 t.1,.int .i64 t.2]else .top,λ_=>.pure⟩ zk hG zk zk ?_;refine Zsf @Zxb ?_;refine⟨⟨by kernel_rfl,by refine Zs ?_;exact(hT _ _ _ _).mono (by rintro _ _ rfl;rfl)⟩,?_⟩;refine Z ?_;rw[Bool.true_and]
theorem u8Im(x:Int):∀ y∈(V.int .u8 x).cells,y.Im:=λy hy=>by
 simp only[V.cells,List.mem_cons,List.not_mem_nil,or_false]at hy;rw[hy];exact .int _ _
theorem Rd.u8{H:Heap}{o g n:Nat}{l:List Int}(h:H o=.cells .new g 0 (flat (l.map (V.int .u8))))(hn:l.length=n):Rd H (.msl o g 0 n 1) (Za .old 1 (V.int .u8) (.mk false l)):=by
 subst hn;have:=Rd.msl (l:=l) (off:=0) (n:=l.length) (m:=1) (f:=V.int .u8) (f':=V.int .u8) (g:=g) (fz:=0) (c:=.new) h (λ_=>rfl) u8Im (λ_=>rfl) zo;rw[List.drop_zero,List.take_length,Nat.zero_mul]at this;exact this
theorem Zbg(k x:Int):(Sl.mk false [k]).l.contains x=(x==k):=by
 show[k].contains x=_
 rw[List.contains_cons,List.contains_nil,Bool.or_false]
theorem Zf5(k j x:Int):(Sl.mk false [k,j]).l.contains x=(x==k||x==j):=by
 show[k,j].contains x=_
 rw[List.contains_cons,List.contains_cons,List.contains_nil,Bool.or_false]
theorem eqN(n k:Nat):(((n:Nat):Int)==((k:Nat):Int))=(n==k):=by rw[Bool.eq_iff_iff,beq_iff_eq,beq_iff_eq];omega
theorem r3_spec(G:Nat->V)(hG:GOk G)(b c d e:Col)(m:MdM)(ns vs:Sl (List UInt8))(hw:m.ways.l.length<1000000)(v:Int)(h0:0<=v)(h1:v<m.p.vertices.length):
  Spec Tryz.prog G 98 [ckV b c d e m ns vs,.int .i64 v] Zk (λw _=>w=.bool (m.p.k3 v)):=by
 refine Zo 0 17 [.tmp 4] Tryz.func98 λX=>?_;rw[PM.k3];refine Z ?_;intro g7;refine Zs ?_;refine CallA.bor hG [ckV b.ent c.ent d.ent e.ent m ns vs,.int .i64 v,Za .old 1 (V.int .u8) (.mk false [2,12])] zk ⟨Zta (Zet _ _ _ _ _ _ _) zp,Zta (.int _ _) rfl,Rd.u8 (l:=[2,12]) zp rfl,trivial⟩ ?_;refine(Ztb G hG _ _ _ _ .old m ns vs v h0 h1 (.mk false [2,12]) zd).mono ?_;rintro _ _ rfl;refine⟨.bool _,?_⟩;rw[Zf5];cases q:(m.p.kd v==2||m.p.kd v==12);refine Zs ?_;exact Zr;refine Zs ?_;refine Zc hG ?_ (s:=Zef G hG _ _ _ _ m ns vs hw v);refine Z ?_
 rw[Bool.false_or,<- eqN]<;>rfl
theorem PM.Rt.wayAt{m:PM}(h:m.Rt):∀ t∈m.ways,(0<=t.source/\t.source<m.vertices.length)/\(0<=t.target/\t.target<m.vertices.length):=by
 intro t ht;obtain⟨i,hi,rfl⟩:=List.mem_iff_getElem.1 ht;have:=h.way i hi
 have e:m.wy (i:Int)=m.ways[i]:=by
  show m.ways.getD ((i:Int)).toNat wy0=_
  rw[List.getD_eq_getElem?_getD,Int.toNat_natCast,List.getElem?_eq_getElem hi]<;>rfl
 rw[e]at this;simp only[PM.wayB,PM.inV,Bool.and_eq_true,decide_eq_true_eq]at this;exact⟨this.1.1.1.1.1.1.1.1.1.2,this.1.1.1.1.1.1.1.1.2⟩
theorem PM.Rt.outR{m:PM}(h:m.Rt)(v:Int):∀ u∈m.out v,0<=u/\u<m.vertices.length:=by
 intro u hu;obtain⟨t,ht,rfl⟩:=List.mem_map.1 hu;exact(h.wayAt t (List.mem_filter.1 ht).1).2
theorem PM.Rt.incR{m:PM}(h:m.Rt)(v:Int):∀ u∈m.inc v,0<=u/\u<m.vertices.length:=by
 intro u hu;obtain⟨t,ht,rfl⟩:=List.mem_map.1 hu;exact(h.wayAt t (List.mem_filter.1 ht).1).1
theorem Zis(m:MdM)(v:Int):(m.p.out v).length<=m.ways.l.length:=by
 rw[Zafa,List.length_map];exact List.length_filter_le _ _
theorem inc_len(m:MdM)(v:Int):(m.p.inc v).length<=m.ways.l.length:=by
 rw[Zpga,List.length_map];exact List.length_filter_le _ _
theorem gtN(n k:Nat):decide (((n:Nat):Int)>((k:Nat):Int))=decide (k<n):=decide_eq_decide.2 zo
theorem Za6{l:List Int}{k:Nat}(h:decide (k<l.length)=true):l≠[]:=by
 rintro rfl;simp at h
theorem r4_spec(G:Nat->V)(hG:GOk G)(b c d e:Col)(m:MdM)(ns vs:Sl (List UInt8))(hm:m.p.Rt)(hw:m.ways.l.length<1000000)(v:Int)(h0:0<=v)(h1:v<m.p.vertices.length):
  Spec Tryz.prog G 99 [ckV b c d e m ns vs,.int .i64 v] Zk (λw _=>w=.bool (m.p.k4 v)):=by
 refine Zo 0 31 [.tmp 4] Tryz.func99 λX=>?_;rw[PM.k4];have ho:=hm.outR v;have hl:=Zis m v;refine Z ?_;refine Zc hG ?_ (s:=Zef G hG _ _ _ _ m ns vs hw v);generalize m.p.out v=out at ho hl;refine Z ?_;intro g11;refine Zs ?_;refine CallA.bor hG [ckV b.ent c.ent d.ent e.ent m ns vs,.int .i64 v,Za .old 1 (V.int .u8) (.mk false [6])] zk ⟨Zta (Zet _ _ _ _ _ _ _) zp,Zta (.int _ _) rfl,Rd.u8 (l:=[6]) zp rfl,trivial⟩ ?_;refine(Ztb G hG _ _ _ _ .old m ns vs v h0 h1 (.mk false [6]) zd).mono ?_;rintro _ _ rfl;refine⟨.bool _,?_⟩;rw[Zbg];cases q:(m.p.kd v==6);refine Zs ?_;exact Zr;refine Zs ?_;refine Zc hG ?_ (s:=Zkk G hG _ _ _ _ m ns vs hw v);have e1:(((m.p.inc v).length:Int)==1)=((m.p.inc v).length==1):=eqN _ 1;cases q1:((m.p.inc v).length==1);rw[q1]at e1;exact Zh (zi e1 (@Zl Int (m.p.inc v)));rw[q1]at e1;have e2:decide ((out.length:Int)>1)=decide (1<out.length):=gtN _ 1;cases q2:decide (1<out.length);rw[q2]at e2;exact Zh (zi e1 (zi e2 (zi (@Zl Int (m.p.inc v)) (@Zl Int out))));rw[q2]at e2;refine Zg (zi e1 (zi e2 (zi (@Zl Int (m.p.inc v)) (@Zl Int out)))) ?_;have hp:=Zgl G hG b.ent c.ent d.ent e.ent .old m ns vs hm (Zb out) (by rw[Zl];exact Za6 q2) (by rw[Zl];omega) (by rw[Zl];exact ho);rw[Zl]at hp;refine Zc hG ?_ (s:=hp);refine Z ?_;rfl
theorem Rd.i64{H:Heap}{o g n:Nat}{l:List Int}(h:H o=.cells .new g 0 (flat (l.map (V.int .i64))))(hn:l.length=n):Rd H (.msl o g 0 n 1) (Za .old 1 (V.int .i64) (.mk false l)):=by
 subst hn;have:=Rd.msl (l:=l) (off:=0) (n:=l.length) (m:=1) (f:=V.int .i64) (f':=V.int .i64) (g:=g) (fz:=0) (c:=.new) h (λ_=>rfl) inIm (λ_=>rfl) zo;rw[List.drop_zero,List.take_length,Nat.zero_mul]at this;exact this
theorem Zjla(G:Nat->V)(hE:GExp G)(b c d e:Col)(m:MdM)(ns vs:Sl (List UInt8))(hvs:vs.l=m.p.vn)(hv:vs.l.length<100000)(hev:m.events.l.length<1000000)(t:Int)(h0:0<=t)(h1:t<m.p.ways.length)(hx:(m.p.wy t).effect.length<=900):
  Spec Tryz.prog G 107 [ckV b c d e m ns vs,.int .i64 t] Zk (λw _=>w=.bool (m.p.k12 Zub t)):=by
 have hG:=hE.ok;refine Zo 0 16 [.tmp 4] Tryz.func107 λX=>?_;obtain⟨k,x,rfl,hk,hg,hxe⟩:=MdM.wyAt h0 h1;rw[PM.k12,PM.body,hxe,<- hvs];rw[hxe]at hx;refine Zf (zi hg (zi hk (zi Z8 (zi Zxb (zi @Int.natCast_nonneg @Int.ofNat_lt))))) ?_;refine Zc hG ?_ (s:=Zhl G hE b.ent c.ent d.ent e.ent m ns vs x.effect hx hv hev);exact Zr
theorem Zila(G:Nat->V)(hE:GExp G)(b c d e:Col)(m:MdM)(ns vs:Sl (List UInt8))(hvs:vs.l=m.p.vn)(hv:vs.l.length<100000)(hev:m.events.l.length<1000000)(v:Int)(h0:0<=v)(h1:v<m.p.vertices.length)(hx:(m.p.vx v).entry.length<=900/\(m.p.vx v).exit.length<=900):
  Spec Tryz.prog G 108 [ckV b c d e m ns vs,.int .i64 v] Zk (λw _=>w=.bool (m.p.k13 Zub v)):=by
 have hG:=hE.ok;refine Zo 0 36 [.tmp 4] Tryz.func108 λX=>?_;rw[PM.k13,PM.body,PM.body,<- hvs];refine Z ?_;intro g7;refine Zs ?_;refine CallA.bor hG [ckV b.ent c.ent d.ent e.ent m ns vs,.int .i64 v,Za .old 1 (V.int .u8) (.mk false [1])] zk ⟨Zta (Zet _ _ _ _ _ _ _) zp,Zta (.int _ _) rfl,Rd.u8 (l:=[1]) zp rfl,trivial⟩ ?_;refine(Ztb G hG _ _ _ _ .old m ns vs v h0 h1 (.mk false [1]) zd).mono ?_;rintro _ _ rfl;refine⟨.bool _,?_⟩;rw[Zbg];obtain⟨k,x,rfl,hk,hg,hxe⟩:=MdM.at h0 h1;rw[hxe]at hx⊢;cases q:(m.p.kd k==1);refine Zs ?_;exact Zr;refine Zg (zi hg (zi hk (zi Zt (zi Zxb (zi @Int.natCast_nonneg @Int.ofNat_lt))))) ?_;refine Zc hG ?_ (s:=Zhl G hE b.ent c.ent d.ent e.ent m ns vs x.entry hx.1 hv hev);have ht:Zub vs.l m.p.events x.p.entry=Zub vs.l m.events.l x.entry:=rfl;have ht2:Zub vs.l m.p.events x.p.exit=Zub vs.l m.events.l x.exit:=rfl;rw[ht,ht2];cases q1:Zub vs.l m.events.l x.entry;exact Zh q1;refine Zg (zi q1 (zi hg (zi hk (zi Zt (zi Zxb (zi @Int.natCast_nonneg @Int.ofNat_lt)))))) ?_;refine Zc hG ?_ (s:=Zhl G hE b.ent c.ent d.ent e.ent m ns vs x.exit hx.2 hv hev);exact Zr
theorem Zhla(G:Nat->V)(hG:GOk G)(b c d e:Col)(m:MdM)(ns vs:Sl (List UInt8))(hm:m.p.Rt)(t:Int)(h0:0<=t)(h1:t<m.p.ways.length):
  Spec Tryz.prog G 109 [ckV b c d e m ns vs,.int .i64 t] Zk (λw _=>w=.bool (m.p.k14 t)):=by
 refine Zo 0 22 [.tmp 4] Tryz.func109 λX=>?_;obtain⟨k,x,rfl,hk,hg,hxe⟩:=MdM.wyAt h0 h1;obtain⟨⟨s0,s1⟩,t0,t1⟩:=hm.wayAt x.p (List.mem_of_getElem? (i:=k) (by show(m.ways.l.map TrM.p)[k]?=_;rw[List.getElem?_map,hg]<;>rfl));rw[PM.k14,hxe];refine Zf (zi hg (zi hk (zi Z8 (zi Zxb (zi @Int.natCast_nonneg @Int.ofNat_lt))))) ?_;intro g5;refine Zf Z8 ?_;intro g19;refine Zs ?_;refine CallA.bor hG [ckV b.ent c.ent d.ent e.ent m ns vs,Za .old 1 (V.int .i64) (.mk false [x.source,x.target])] zk ⟨Zta (Zet b c d e m ns vs) (Z3g _ _ _ _ _ _ _ _),Rd.i64 (l:=[x.source,x.target]) zp rfl,trivial⟩ ?_;refine(Zgl G hG _ _ _ _ .old m ns vs hm (.mk false [x.source,x.target]) (by intro h;cases h) (by show 2<1000000;decide) (λv hv=>?_)).mono ?_;have hv:v∈[x.source,x.target]:=hv;simp only[List.mem_cons,List.not_mem_nil,or_false]at hv
 rcases hv with rfl|rfl
 exact⟨s0,s1⟩;exact⟨t0,t1⟩;rintro _ _ rfl;refine⟨.bool _,?_⟩;refine Zs ?_;exact Zr
theorem r9_spec(G:Nat->V)(hG:GOk G)(b c d e:Col)(m:MdM)(ns vs:Sl (List UInt8))(hm:m.p.Rt)(t:Int)(h0:0<=t)(h1:t<m.p.ways.length):
  Spec Tryz.prog G 104 [ckV b c d e m ns vs,.int .i64 t] Zk (λw _=>w=.bool (m.p.k9 t)):=by
 refine Zo 0 30 [.tmp 4] Tryz.func104 λX=>?_;obtain⟨k,x,rfl,hk,hg,hxe⟩:=MdM.wyAt h0 h1;obtain⟨⟨s0,s1⟩,t0,t1⟩:=hm.wayAt x.p (List.mem_of_getElem? (i:=k) (by show(m.ways.l.map TrM.p)[k]?=_;rw[List.getElem?_map,hg]<;>rfl));rw[PM.k9,hxe];have hp:(x.p.triggers.length==0&&x.p.after==0||m.p.kd x.p.source==1)=((x.triggers.l.length==0&&x.after==0)||m.p.kd x.source==1):=rfl;rw[hp];refine Zf (zi hg (zi hk (zi Z8 (zi Zxb (zi @Int.natCast_nonneg @Int.ofNat_lt))))) ?_;intro g5;have e1:((x.triggers.l.length:Int)==0)=(x.triggers.l.length==0):=eqN _ 0;cases q1:(x.triggers.l.length==0);rw[q1]at e1;refine Zf (zi e1 Z8) ?_;intro g27;refine Zs ?_;refine CallA.bor hG [ckV b.ent c.ent d.ent e.ent m ns vs,.int .i64 x.source,Za .old 1 (V.int .u8) (.mk false [1])] zk ⟨Zta (Zet _ _ _ _ _ _ _) zp,Zta (.int _ _) rfl,Rd.u8 (l:=[1]) zp rfl,trivial⟩ ?_;refine(Ztb G hG _ _ _ _ .old m ns vs x.source s0 s1 (.mk false [1]) zd).mono ?_;rintro _ _ rfl;refine⟨.bool _,?_⟩;rw[Zbg];refine Zs ?_;exact Zr;rw[q1]at e1;cases q2:(x.after==0);refine Zf (zi e1 (zi q2 Z8)) ?_;intro g27;refine Zs ?_;refine CallA.bor hG [ckV b.ent c.ent d.ent e.ent m ns vs,.int .i64 x.source,Za .old 1 (V.int .u8) (.mk false [1])] zk ⟨Zta (Zet _ _ _ _ _ _ _) zp,Zta (.int _ _) rfl,Rd.u8 (l:=[1]) zp rfl,trivial⟩ ?_;refine(Ztb G hG _ _ _ _ .old m ns vs x.source s0 s1 (.mk false [1]) zd).mono ?_;rintro _ _ rfl;refine⟨.bool _,?_⟩;rw[Zbg];refine Zs ?_;exact Zr;exact Zq (zi e1 (zi q2 Z8))
theorem r1_spec(G:Nat->V)(hG:GOk G)(b c d e:Col)(m:MdM)(ns vs:Sl (List UInt8))(hl:m.verts.l.length<1000000)(r:Int):
  Spec Tryz.prog G 96 [ckV b c d e m ns vs,.int .i64 r] Zk (λw _=>w=.bool (m.p.k1 r)):=by
 refine Zo 0 34 [.tmp 4] Tryz.func96 λX=>?_
 have hP:m.p.k1 r=((m.verts.l.filter λx=>x.kind==3&&x.region==r).length==1):=by
  show(((m.verts.l.map VtM.p).filter _).length==1)=_
  rw[List.filter_map,List.length_map]<;>rfl
 rw[hP];simp only[Zxb];refine Z ?_
 refine Zaa m.verts.l.length (λk (_:Unit)=>st [(0,ckV b c d e m ns vs),(1,.int .i64 r),(5,.int .i64 ((m.verts.l.take k).filter λx=>x.kind==3&&x.region==r).length),(12,Za c 8 (Z5a d) m.verts),(13,.int .i64 m.verts.l.length),(14,.int .i64 k)] [])
  (λ_ _=>True) 0 () (Nat.zero_le _) trivial (Weak.st (zpf @Zxb) zp) ?_
 intro k _ hk _ L3 hL3
 by_cases hk1:k<m.verts.l.length
 have hlt:decide ((k:Int)<(m.verts.l.length:Int))=true:=zT;have hg:=List.getElem?_eq_getElem hk1
 have htk:m.verts.l.take (k+1)=m.verts.l.take k++[m.verts.l[k]]:=by rw[List.take_succ_eq_append_getElem hk1]
 have hn:((m.verts.l.take k).filter λx=>x.kind==3&&x.region==r).length<=k:=Nat.le_trans (List.length_filter_le _ _) (by rw[List.length_take];omega);generalize m.verts.l[k]=x at hg htk;rw[htk,List.filter_append,List.length_append]at hL3;generalize((m.verts.l.take k).filter λx=>x.kind==3&&x.region==r).length=n at hn hL3;have w1:IntKind.i64.wrap ((k:Int)+1)=(k:Int)+1:=w64 zo zo;have w2:IntKind.i64.wrap ((n:Int)+1)=(n:Int)+1:=w64 zo zo;have h0:(0:Int)<=(k:Int):=Int.natCast_nonneg k
 have h1:(k:Int)<m.p.vertices.length:=by rw[m.nv];omega
 have hkd:m.p.kd (k:Int)=x.kind:=by rw[PM.kd,Zwh hg]<;>rfl
 refine Zf (zi hlt (zi hg Zt)) ?_;intro g7;refine Z ?_;intro g21;refine Zs ?_;refine CallA.bor hG [ckV b.ent c.ent d.ent e.ent m ns vs,.int .i64 k,Za .old 1 (V.int .u8) (.mk false [3])] zk ⟨Zta (Zet _ _ _ _ _ _ _) zp,Zta (.int _ _) rfl,Rd.u8 (l:=[3]) zp rfl,trivial⟩ ?_;refine(Ztb G hG _ _ _ _ .old m ns vs k h0 h1 (.mk false [3]) zd).mono ?_;rintro _ _ rfl;refine⟨.bool _,?_⟩;rw[Zbg,hkd];cases q1:(x.kind==3);rw[List.filter_cons_of_neg (by simp[q1])]at hL3;simp only[List.filter_nil,List.length_nil,Nat.add_zero]at hL3;refine Zs ?_;refine Zf w1 ?_;exact hL3 _ ⟨hk1,(),trivial,Weak.st zp zp⟩;cases q2:(x.region==r);rw[List.filter_cons_of_neg (by simp[q2])]at hL3;simp only[List.filter_nil,List.length_nil,Nat.add_zero]at hL3;refine Zg (zi q2 (zi w1 Zt)) ?_;exact hL3 _ ⟨hk1,(),trivial,Weak.st zp zp⟩;rw[List.filter_cons_of_pos (by simp[q1,q2])]at hL3;simp only[List.filter_nil,List.length_cons,List.length_nil,Nat.zero_add]at hL3;refine Zg (zi q2 (zi w1 (zi w2 Zt))) ?_;exact hL3 _ ⟨hk1,(),trivial,Weak.st (by refine Zs ?_;exact⟨rfl,rfl⟩) zp⟩;have hke:k=m.verts.l.length:=zo;subst hke;rw[List.take_length];have hlt:decide ((m.verts.l.length:Int)<(m.verts.l.length:Int))=false:=zS;refine Zf hlt ?_
 rw[<- eqN]<;>rfl
theorem Zkla(G:Nat->V)(hG:GOk G)(b c d e:Col)(m:MdM)(ns vs:Sl (List UInt8))(hm:m.p.Rt)(t:Int)(h0:0<=t)(h1:t<m.p.ways.length):
  Spec Tryz.prog G 106 [ckV b c d e m ns vs,.int .i64 t] Zk (λw _=>w=.bool (m.p.k11 t)):=by
 refine Zo 0 45 [.tmp 4] Tryz.func106 λX=>?_;obtain⟨k,x,rfl,hk,hg,hxe⟩:=MdM.wyAt h0 h1;obtain⟨⟨s0,s1⟩,t0,t1⟩:=hm.wayAt x.p (List.mem_of_getElem? (i:=k) (by show(m.ways.l.map TrM.p)[k]?=_;rw[List.getElem?_map,hg]<;>rfl));rw[PM.k11,hxe]
 have hp:(if x.p.kind=3 then x.p.source==x.p.target&&m.p.kd x.p.source==1 else if x.p.kind=2 then m.p.kd x.p.source==1&&m.p.inB x.p.target x.p.source else true) =
  (if x.kind=3 then x.source==x.target&&m.p.kd x.source==1 else if x.kind=2 then m.p.kd x.source==1&&m.p.inB x.target x.source else true):=rfl
 rw[hp];refine Zf (zi hg (zi hk (zi Z8 (zi Zxb (zi @Int.natCast_nonneg @Int.ofNat_lt))))) ?_;intro g5
 by_cases hk3:x.kind=3
 rw[if_pos hk3];have q:(x.kind==3)=true:=zu hk3;cases q1:(x.source==x.target);exact Zq (zi q (zi q1 Z8));refine Zf (zi q (zi q1 Z8)) ?_;intro g27;refine Zs ?_;refine CallA.bor hG [ckV b.ent c.ent d.ent e.ent m ns vs,.int .i64 x.source,Za .old 1 (V.int .u8) (.mk false [1])] zk ⟨Zta (Zet _ _ _ _ _ _ _) zp,Zta (.int _ _) rfl,Rd.u8 (l:=[1]) zp rfl,trivial⟩ ?_;refine(Ztb G hG _ _ _ _ .old m ns vs x.source s0 s1 (.mk false [1]) zd).mono ?_;rintro _ _ rfl;refine⟨.bool _,?_⟩;rw[Zbg];refine Zs ?_;exact Zr;rw[if_neg hk3];have q:(x.kind==3)=false:=zu hk3
 by_cases hk2:x.kind=2
 rw[if_pos hk2];have q1:(x.kind==2)=true:=zu hk2;refine Zf (zi q (zi q1 Z8)) ?_;intro g35;refine Zs ?_;refine CallA.bor hG [ckV b.ent c.ent d.ent e.ent m ns vs,.int .i64 x.source,Za .old 1 (V.int .u8) (.mk false [1])] zk ⟨Zta (Zet _ _ _ _ _ _ _) zp,Zta (.int _ _) rfl,Rd.u8 (l:=[1]) zp rfl,trivial⟩ ?_;refine(Ztb G hG _ _ _ _ .old m ns vs x.source s0 s1 (.mk false [1]) zd).mono ?_;rintro _ _ rfl;refine⟨.bool _,?_⟩;rw[Zbg];cases q2:(m.p.kd x.source==1);exact Zh q2;refine Zg (zi q2 Z8) ?_;refine Zc hG ?_ (s:=Ztm G hG b.ent c.ent d.ent e.ent m ns vs hm x.target x.source t0 t1);exact Zr;rw[if_neg hk2];have q1:(x.kind==2)=false:=zu hk2;exact Zq (zi q q1)
theorem Zgla(G:Nat->V)(hG:GOk G)(b c d e:Col)(m:MdM)(ns vs:Sl (List UInt8))(hm:m.p.Rt)(t:Int)(h0:0<=t)(h1:t<m.p.ways.length):
  Spec Tryz.prog G 110 [ckV b c d e m ns vs,.int .i64 t] Zk (λw _=>w=.bool (m.p.k15 t)):=by
 refine Zo 0 65 [.tmp 4] Tryz.func110 λX=>?_;obtain⟨k,x,rfl,hk,hg,hxe⟩:=MdM.wyAt h0 h1;obtain⟨⟨s0,s1⟩,t0,t1⟩:=hm.wayAt x.p (List.mem_of_getElem? (i:=k) (by show(m.ways.l.map TrM.p)[k]?=_;rw[List.getElem?_map,hg]<;>rfl));obtain⟨i,y,hi,hik,hig,hy⟩:=MdM.at t0 t1;obtain⟨j,z,hj,hjk,hjg,hz⟩:=MdM.at s0 s1;rw[PM.k15,hxe,PM.kd,hy,hz];have hi:x.target=(i:Int):=hi;have hj:x.source=(j:Int):=hj
 have hp:(if y.p.kind=10 then !(x.p.source==y.p.of) && !m.p.inB x.p.source y.p.of else if y.p.kind=11 then m.p.inB x.p.source y.p.of && !(z.p.of==y.p.of)else true) =
  (if y.kind=10 then !(x.source==y.of) && !m.p.inB x.source y.of else if y.kind=11 then m.p.inB x.source y.of && !(z.of==y.of)else true):=rfl
 rw[hp];refine Zf (zi hg (zi hk (zi Z8 (zi Zxb (zi @Int.natCast_nonneg @Int.ofNat_lt))))) ?_;intro g5;refine ZTf (zi hi (zi hig (zi hik (zi Z8 (zi Zt (zi Zxb (zi @Int.natCast_nonneg @Int.ofNat_lt))))))) hG ?_;intro g6
 by_cases hk10:y.kind=10
 rw[if_pos hk10];have q:(y.kind==10)=true:=zu hk10;cases q1:(x.source==y.of)
 have q2:(x.source != y.of)=true:=by rw[bne,q1]<;>rfl
 refine Zf (zi q (zi q2 (zi Z8 Zt))) ?_;refine Zc hG ?_ (s:=Ztm G hG b.ent c.ent d.ent e.ent m ns vs hm x.source y.of s0 s1);exact Zr
 have q2:(x.source != y.of)=false:=by rw[bne,q1]<;>rfl
 exact Zq (zi q (zi q2 (zi Z8 Zt)));rw[if_neg hk10];have q:(y.kind==10)=false:=zu hk10
 by_cases hk11:y.kind=11
 rw[if_pos hk11];have q1:(y.kind==11)=true:=zu hk11;have hsp:=λb c d e=>Ztm G hG b c d e m ns vs hm x.source y.of s0 s1;rw[hj]at hsp⊢;refine Z1f (zi q (zi q1 hj)) ?_;refine Z1f (zi q (zi q1 hj)) ?_;refine Z1f (zi q (zi q1 hj)) ?_;refine Z0f (zi q (zi q1 hj)) ?_;generalize m.p.inB (j:Int) y.of=bb at hsp⊢;refine Z6 ?_;cases bb;refine Zp ⟨λi=>if i=5 then .bool false else .top,λ_=>.pure⟩ zk hG zk zk ?_;refine Zsf (zi hj (zi hjg (zi hjk (zi @Zt (zi @Z8 (zi @Zxb (zi @Int.natCast_nonneg @Int.ofNat_lt))))))) ?_;refine⟨⟨by kernel_rfl,by refine Zs ?_;exact(hsp _ _ _ _).mono (by rintro _ _ rfl;rfl)⟩,?_⟩;exact Zr;refine Zp ⟨λi=>if i=5 then .bool true else .top,λ_=>.pure⟩ zk hG zk zk ?_;refine Zsf (zi hj (zi hjg (zi hjk (zi @Zt (zi @Z8 (zi @Zxb (zi @Int.natCast_nonneg @Int.ofNat_lt))))))) ?_;refine⟨⟨by kernel_rfl,by refine Zs ?_;exact(hsp _ _ _ _).mono (by rintro _ _ rfl;rfl)⟩,?_⟩;exact Zr;rw[if_neg hk11];have q1:(y.kind==11)=false:=zu hk11;exact Zq (zi q q1)
theorem leN(n k:Nat):decide (((n:Nat):Int)<=((k:Nat):Int))=decide (n<=k):=decide_eq_decide.2 zo
theorem r6_spec(G:Nat->V)(hE:GExp G)(b c d e:Col)(m:MdM)(ns vs:Sl (List UInt8))(hw:m.ways.l.length<1000000)(hgl:∀ t∈m.ways.l,t.guard.length<100000)(v:Int)(h0:0<=v)(h1:v<m.p.vertices.length):
  Spec Tryz.prog G 101 [ckV b c d e m ns vs,.int .i64 v] Zk (λw _=>w=.bool (m.p.k6 v)):=by
 have hG:=hE.ok;refine Zo 0 53 [.tmp 4] Tryz.func101 λX=>?_
 have hP:m.p.elses v=(m.ways.l.filter λt=>t.source==v&&Zek t.guard).length:=by
  show((m.ways.l.map TrM.p).filter _).length=_
  rw[List.filter_map,List.length_map]<;>rfl
 rw[PM.k6,hP];simp only[Zxb];refine Z ?_
 refine Zaa m.ways.l.length (λk (_:Unit)=>st [(0,ckV b c d e m ns vs),(1,.int .i64 v),(5,.int .i64 ((m.ways.l.take k).filter λt=>t.source==v&&Zek t.guard).length),(12,Za c 8 (Z4b d) m.ways),(13,.int .i64 m.ways.l.length),(14,.int .i64 k)] [])
  (λ_ _=>True) 0 () (Nat.zero_le _) trivial (Weak.st (zpf @Zxb) zp) ?_
 intro k _ hk _ L3 hL3
 by_cases hk1:k<m.ways.l.length
 have hlt:decide ((k:Int)<(m.ways.l.length:Int))=true:=zT;have hg:=List.getElem?_eq_getElem hk1
 have htk:m.ways.l.take (k+1)=m.ways.l.take k++[m.ways.l[k]]:=by rw[List.take_succ_eq_append_getElem hk1]
 have hxl:=hgl m.ways.l[k] (List.getElem_mem hk1);have hn:((m.ways.l.take k).filter λt=>t.source==v&&Zek t.guard).length<=k:=Nat.le_trans (List.length_filter_le _ _) (by rw[List.length_take];omega);generalize m.ways.l[k]=x at hg htk hxl;rw[htk,List.filter_append,List.length_append]at hL3;generalize((m.ways.l.take k).filter λt=>t.source==v&&Zek t.guard).length=n at hn hL3;have w1:IntKind.i64.wrap ((k:Int)+1)=(k:Int)+1:=w64 zo zo;have w2:IntKind.i64.wrap ((n:Int)+1)=(n:Int)+1:=w64 zo zo;refine Zf (zi hlt (zi hg Z8)) ?_;intro g7;cases q1:(x.source==v);rw[List.filter_cons_of_neg (by simp[q1])]at hL3;simp only[List.filter_nil,List.length_nil,Nat.add_zero]at hL3;refine Zf (zi q1 (zi w1 Z8)) ?_;exact hL3 _ ⟨hk1,(),trivial,Weak.st (zpf @Zxb) zp⟩;refine Zf (zi q1 Z8) ?_;refine Zc hG ?_ (s:=Zlq G hE x.guard hxl);cases q2:Zek x.guard;rw[List.filter_cons_of_neg (by simp[q2])]at hL3;simp only[List.filter_nil,List.length_nil,Nat.add_zero]at hL3;refine Zg (zi q2 w1) ?_;exact hL3 _ ⟨hk1,(),trivial,Weak.st (zpf @Zxb) zp⟩;rw[List.filter_cons_of_pos (by simp[q1,q2])]at hL3;simp only[List.filter_nil,List.length_cons,List.length_nil,Nat.zero_add]at hL3;refine Zg (zi q2 (zi w1 w2)) ?_;exact hL3 _ ⟨hk1,(),trivial,Weak.st (by simp -implicitDefEqProofs only[go_sem,seval,Zxb];exact⟨rfl,rfl⟩) zp⟩;have hke:k=m.ways.l.length:=zo;subst hke;rw[List.take_length];have hlt:decide ((m.ways.l.length:Int)<(m.ways.l.length:Int))=false:=zS;generalize(m.ways.l.filter λt=>t.source==v&&Zek t.guard).length=n;refine Zf hlt ?_;intro g32;refine Zs ?_;refine CallA.bor hG [ckV b.ent c.ent d.ent e.ent m ns vs,.int .i64 v,Za .old 1 (V.int .u8) (.mk false [4,5])] zk ⟨Zta (Zet _ _ _ _ _ _ _) zp,Zta (.int _ _) rfl,Rd.u8 (l:=[4,5]) zp rfl,trivial⟩ ?_;refine(Ztb G hG _ _ _ _ .old m ns vs v h0 h1 (.mk false [4,5]) zd).mono ?_;rintro _ _ rfl;refine⟨.bool _,?_⟩;rw[Zf5];cases q:(m.p.kd v==4||m.p.kd v==5)
 refine Zs ?_;exact Zr;refine Zs ?_;refine Zc hG ?_ (s:=Zkk G hG _ _ _ _ m ns vs hw v);have e1:decide (((m.p.inc v).length:Int)>0)=decide (0<(m.p.inc v).length):=gtN _ 0;cases q1:decide (0<(m.p.inc v).length);rw[q1]at e1;exact Zh (zi e1 (@Zl Int (m.p.inc v)));rw[q1]at e1;refine Zg (zi e1 (@Zl Int (m.p.inc v))) ?_;refine Zc hG ?_ (s:=Zef G hG _ _ _ _ m ns vs hw v);have e2:decide (((m.p.out v).length:Int)>0)=decide (0<(m.p.out v).length):=gtN _ 0;cases q2:decide (0<(m.p.out v).length);rw[q2]at e2;exact Zh (zi e2 (@Zl Int (m.p.out v)));rw[q2]at e2;have e3:decide ((n:Int)<=1)=decide (n<=1):=leN _ 1;exact Zh (zi e2 (zi e3 (@Zl Int (m.p.out v))))
@[go_sem] theorem loadK_ck(n:Nat)(ob:AObj)(c1 b c d e:Col)(m:MdM)(ns vs:Sl (List UInt8)):Zng (some (false,n)) ob (.view c1 (ckV b c d e m ns vs))=some (ckV b c d e m ns vs):=rfl
theorem Zpfa(G:Nat->V)(hG:GOk G)(b1 b c d e:Col)(m:MdM)(ns vs:Sl (List UInt8))(v:Int)(h0:0<=v)(h1:v<m.p.vertices.length):
  Spec Tryz.prog G 172 [.int .i64 v,.view b1 (ckV b c d e m ns vs)] Zk (λw _=>w=.bool (!(m.p.kd v==1))):=by
 refine Zo 0 9 [.tmp 3] Tryz.func172 λX=>?_;refine Z ?_;intro g6;refine Zs ?_;refine CallA.bor hG [ckV b.ent c.ent d.ent e.ent m ns vs,.int .i64 v,Za .old 1 (V.int .u8) (.mk false [1])] zk ⟨Zta (Zet _ _ _ _ _ _ _) zp,Zta (.int _ _) rfl,Rd.u8 (l:=[1]) zp rfl,trivial⟩ ?_;refine(Ztb G hG _ _ _ _ .old m ns vs v h0 h1 (.mk false [1]) zd).mono ?_;rintro _ _ rfl;refine⟨.bool _,?_⟩;rw[Zbg];refine Zs ?_;exact Zr
theorem Zuga(G:Nat->V)(hG:GOk G)(c1 b1 b c d e:Col)(m:MdM)(ns vs:Sl (List UInt8))(s:Sl Int)(hs:s.l.length<1000000)(hr:∀ v∈s.l,0<=v/\v<m.p.vertices.length):
  Spec Tryz.prog G 127 [Za c1 1 (V.int .i64) s,.func (.func 172) [] [.view b1 (ckV b c d e m ns vs)]] Zk (λv _=>v=.int .i64 (Zwp (λu => !(m.p.kd u==1)) s.l)):=by
 refine Zo 0 19 [.tmp 4] Tryz.func127 λX=>?_;refine Z ?_
 refine Zaa s.l.length (λk (_:Unit)=>st [(0,Za c1 1 (V.int .i64) s),(1,.func (.func 172) [] [.view b1 (ckV b c d e m ns vs)]),(7,.int .i64 s.l.length),(8,.int .i64 k)] []) (λk _=>∀ y∈s.l.take k,(!(m.p.kd y==1))=false) 0 () (Nat.zero_le _) zS
  (Weak.st zp zp) ?_
 intro k _ hk hR L2 hL2
 by_cases hk1:k<s.l.length
 .have hlt:decide ((k:Int)<(s.l.length:Int))=true:=zT
  have hg:=List.getElem?_eq_getElem hk1;obtain⟨x0,x1⟩:=hr s.l[k] (List.getElem_mem hk1);generalize s.l[k]=x at hg x0 x1;refine Zf (zi hlt hg) ?_;refine Zc hG ?_ (s:=Zpfa G hG b1.ent b.ent c.ent d.ent e.ent m ns vs x x0 x1)
  cases h6:(!(m.p.kd x==1))with
  |true=>
   refine Z ?_;rw[Z6c (p:=λu => !(m.p.kd u==1)) hg hR h6]
  |false=>
   have w1:IntKind.i64.wrap ((k:Int)+1)=(k:Int)+1:=w64 zo zo;refine Zf w1 ?_;exact hL2 _ ⟨hk1,(),Z9d hg hR h6,Weak.st zp zp⟩
 have hke:k=s.l.length:=zo;have hlt:decide ((k:Int)<(s.l.length:Int))=false:=zF;rw[hke,List.take_length]at hR;refine Zf hlt ?_;rw[Z7c (p:=λu => !(m.p.kd u==1)) hR]
theorem Z0ha(G:Nat->V)(hG:GOk G)(c1 b1 b c d e:Col)(m:MdM)(ns vs:Sl (List UInt8))(s:Sl Int)(hs:s.l.length<1000000)(hr:∀ v∈s.l,0<=v/\v<m.p.vertices.length):
  Spec Tryz.prog G 67 [Za c1 1 (V.int .i64) s,.func (.func 172) [] [.view b1 (ckV b c d e m ns vs)]] Zk (λv _=>v=.bool (s.l.any λu => !(m.p.kd u==1))):=by
 refine Zo 0 9 [.tmp 4] Tryz.func67 λX=>?_;refine Z ?_;refine Zc hG ?_ (s:=Zuga G hG c1.ent b1.ent b.ent c.ent d.ent e.ent m ns vs s hs hr);refine Z ?_;rw[Zai]
theorem r5_spec(G:Nat->V)(hG:GOk G)(b c d e:Col)(m:MdM)(ns vs:Sl (List UInt8))(hm:m.p.Rt)(hw:m.ways.l.length<1000000)(v:Int)(h0:0<=v)(h1:v<m.p.vertices.length):
  Spec Tryz.prog G 100 [ckV b c d e m ns vs,.int .i64 v] Zk (λw _=>w=.bool (m.p.k5 v)):=by
 refine Zo 0 37 [.tmp 4] Tryz.func100 λX=>?_;rw[PM.k5];have ho:=hm.incR v;have hl:=inc_len m v;refine Z ?_;intro g2;refine AW.weak (Zw (λo=>o==2) (l:=[(1,.int .i64 v),(2,.view .new (ckV b c d e m ns vs))]) (m:=[]) ?_ trivial) ?_;refine Zs ?_;exact⟨Fz.same _,Fz.ptr (v:=ckV b c d e m ns vs) (c:=.new) (fz:=0) zp zp⟩;refine Z ?_;refine Zc hG ?_ (s:=Zkk G hG b.ent c.ent d.ent e.ent m ns vs hw v);generalize m.p.inc v=inc at ho hl;refine Z ?_;intro g11;refine Zs ?_;refine CallA.bor hG [ckV b.ent c.ent d.ent e.ent m ns vs,.int .i64 v,Za .old 1 (V.int .u8) (.mk false [7])] zk ⟨Zta (Zet _ _ _ _ _ _ _) zp,Zta (.int _ _) rfl,Rd.u8 (l:=[7]) zp rfl,trivial⟩ ?_;refine(Ztb G hG _ _ _ _ .old m ns vs v h0 h1 (.mk false [7]) zd).mono ?_;rintro _ _ rfl;refine⟨.bool _,?_⟩;rw[Zbg];cases q:(m.p.kd v==7);exact Zh q;refine Zg q ?_;refine Zc hG ?_ (s:=Zef G hG b.ent c.ent d.ent e.ent m ns vs hw v);have e1:(((m.p.out v).length:Int)==1)=((m.p.out v).length==1):=eqN _ 1;cases q1:((m.p.out v).length==1);rw[q1]at e1;exact Zh (zi e1 (@Zl Int (m.p.out v)));rw[q1]at e1;have e2:decide ((inc.length:Int)>1)=decide (1<inc.length):=gtN _ 1;cases q2:decide (1<inc.length);rw[q2]at e2;exact Zh (zi e1 (zi e2 (zi (@Zl Int (m.p.out v)) (@Zl Int inc))));rw[q2]at e2;refine Zg (zi e1 (zi e2 (zi (@Zl Int (m.p.out v)) (@Zl Int inc)))) ?_;have hc:=Z0ha G hG .old .old b.ent c.ent d.ent e.ent m ns vs (Zb inc) (by rw[Zl];omega) (by rw[Zl];exact ho);rw[Zl]at hc;refine Zc hG ?_ (s:=hc)
 have ha:(inc.all λu=>m.p.kd u==1) = !(inc.any λu => !(m.p.kd u==1)):=by
  rw[List.all_eq_not_any_not]
 rw[ha];cases q3:(inc.any λu => !(m.p.kd u==1));rotate_left;exact Zh q3;refine Zg q3 ?_;have hp:=Zgl G hG b.ent c.ent d.ent e.ent .old m ns vs hm (Zb inc) (by rw[Zl];exact Za6 q2) (by rw[Zl];omega) (by rw[Zl];exact ho);rw[Zl]at hp;refine Zc hG ?_ (s:=hp);exact Zr
theorem Zika(k j i x:Int):(Sl.mk false [k,j,i]).l.contains x=(x==k||x==j||x==i):=by
 show[k,j,i].contains x=_
 rw[List.contains_cons,List.contains_cons,List.contains_cons,List.contains_nil,Bool.or_false,Bool.or_assoc]
def Zxa(names:List (List UInt8))(s:List UInt8):Int:=(Zko s names).2.2
theorem Zlla(G:Nat->V)(hE:GExp G)(b c d e:Col)(m:MdM)(ns vs:Sl (List UInt8))(hm:m.p.Rt)(hns:ns.l=m.p.vn++[Zap])(hnl:ns.l.length<1000000)(t:Int)(h0:0<=t)(h1:t<m.p.ways.length)(hgl:(m.p.wy t).guard.length<100000):
  Spec Tryz.prog G 105 [ckV b c d e m ns vs,.int .i64 t] Zk (λw _=>w=.bool (m.p.k10 Zxa t)):=by
 have hG:=hE.ok;refine Zo 0 62 [.tmp 4] Tryz.func105 λX=>?_;obtain⟨k,x,rfl,hk,hg,hxe⟩:=MdM.wyAt h0 h1;obtain⟨⟨s0,s1⟩,t0,t1⟩:=hm.wayAt x.p (List.mem_of_getElem? (i:=k) (by show(m.ways.l.map TrM.p)[k]?=_;rw[List.getElem?_map,hg]<;>rfl));rw[hxe]at hgl;have hgl:x.guard.length<100000:=hgl;rw[PM.k10,hxe,Zxa,<- hns]
 have hp:(((m.p.kd x.p.source==4||m.p.kd x.p.source==5)&&Zek x.p.guard)||((Zko x.p.guard ns.l).2.2==0&&((Zra x.p.guard).1.length==0||m.p.kd x.p.source==1||m.p.kd x.p.source==4||m.p.kd x.p.source==5))) =
  (((m.p.kd x.source==4||m.p.kd x.source==5)&&Zek x.guard)||((Zko x.guard ns.l).2.2==0&&((Zra x.guard).1.length==0||m.p.kd x.source==1||m.p.kd x.source==4||m.p.kd x.source==5))):=rfl
 rw[hp];refine Z1 ?_;refine Z1f (zi hg (zi hk (zi Z8 (zi Zxb (zi @Int.natCast_nonneg @Int.ofNat_lt))))) ?_;intro g5;refine AW.weak (Zw (λo=>o==5) (l:=[(0,ckV b c d e m ns vs),(5,.view .new (Z4b d x))]) (m:=[]) ?_ trivial) ?_;refine Zsf @Zxb ?_;exact⟨Fz.same _,Fz.ptr (v:=Z4b d x) (c:=.new) (fz:=0) zp zp⟩;refine Zlc (fun(_:Unit)=>st [(0,ckV b c d e m ns vs),(5,.view .new (Z4b d x))] []) (λ_=>((m.p.kd x.source==4||m.p.kd x.source==5)&&Zek x.guard)=false) (λK1 hK1=>?_) ?_;refine Zf Z8 ?_;intro g23;refine Zs ?_;refine CallA.bor hG [ckV b.ent c.ent d.ent e.ent m ns vs,.int .i64 x.source,Za .old 1 (V.int .u8) (.mk false [4,5])] zk ⟨Zta (Zet _ _ _ _ _ _ _) zp,Zta (.int _ _) rfl,Rd.u8 (l:=[4,5]) zp rfl,trivial⟩ ?_;refine(Ztb G hG _ _ _ _ .old m ns vs x.source s0 s1 (.mk false [4,5]) zd).mono ?_;rintro _ _ rfl;refine⟨.bool _,?_⟩;rw[Zf5];cases q:(m.p.kd x.source==4||m.p.kd x.source==5);refine Zg q ?_;exact hK1 _ () (by rw[q]<;>rfl) (Weak.st (zpf @Z8) zp);refine Zg (zi q Z8) ?_;refine Zc hG ?_ (s:=Zlq G hE x.guard hgl);cases q1:Zek x.guard;refine Zg q1 ?_;exact hK1 _ () (by rw[q1,Bool.and_false]) (Weak.st (zpf @Z8) zp);exact Zh q1;intro _ hz;rw[hz,Bool.false_or];have hgs:=λc1=>Zkz G hE c1 x.guard ns hgl hnl;generalize Zko x.guard ns.l=p at hgs⊢;have hgs':∀ c1,Spec Tryz.prog G 176 [.str x.guard,Za c1 1 V.str ns] Zk (λv _=>v=.tuple [.agg [Za .new 6 Zkb (Zb p.1)],.int .i64 p.2.1,.int .i64 p.2.2]):=hgs;refine Z6 ?_;refine Zp ⟨λi=>if i=6 then .tuple [.agg [Za .new 6 Zkb (Zb p.1)],.int .i64 p.2.1,.int .i64 p.2.2]else .top,λ_=>.pure⟩ zk hG zk zk ?_;refine Zsf (zi @Z8 @Zxb) ?_;refine⟨⟨by kernel_rfl,by refine Zs ?_;exact(hgs' _).mono (by rintro _ _ rfl;exact zm)⟩,?_⟩;intro g6;have hT:=Zke G hE x.guard hgl;generalize Zra x.guard=T at hT⊢;obtain⟨l,a,q⟩:=T;refine Zf Z8 ?_;refine Zn hG ?_ (s:=hT);simp only[encTok,encTks];refine Zs ?_;have e1:((l.length:Int)==0)=(l.length==0):=eqN _ 0;cases q0:(p.2.2==0)
 exact Zh q0;cases q1:(l.length==0);rotate_left;rw[q1]at e1;exact Zh (zi q0 (zi e1 (@Zl Tk l)));rw[q1]at e1;refine Zg (zi q0 (zi e1 (zi (@Zl Tk l) Z8))) ?_;intro g58;refine Zs ?_;refine CallA.bor hG [ckV b.ent c.ent d.ent e.ent m ns vs,.int .i64 x.source,Za .old 1 (V.int .u8) (.mk false [1,4,5])] zk ⟨Zta (Zet _ _ _ _ _ _ _) zp,Zta (.int _ _) rfl,Rd.u8 (l:=[1,4,5]) zp rfl,trivial⟩ ?_;refine(Ztb G hG _ _ _ _ .old m ns vs x.source s0 s1 (.mk false [1,4,5]) zd).mono ?_;rintro _ _ rfl;refine⟨.bool _,?_⟩;rw[Zika];refine Zs ?_;refine Z ?_;rw[Bool.true_and,Bool.false_or]
theorem r2_spec(G:Nat->V)(hG:GOk G)(b c d e:Col)(m:MdM)(ns vs:Sl (List UInt8))(hm:m.p.Rt)(hw:m.ways.l.length<1000000)(v:Int)(h0:0<=v)(h1:v<m.p.vertices.length):
  Spec Tryz.prog G 97 [ckV b c d e m ns vs,.int .i64 v] Zk (λw _=>w=.bool (m.p.k2 v)):=by
 refine Zo 0 42 [.tmp 4] Tryz.func97 λX=>?_;rw[PM.k2];have ho:=hm.outR v;have hl:=Zis m v;refine Z ?_;refine Zc hG ?_ (s:=Zef G hG _ _ _ _ m ns vs hw v);generalize m.p.out v=out at ho hl;obtain⟨k,x,rfl,hk,hg,hx⟩:=MdM.at h0 h1;rw[hx];have hxr:x.p.region=x.region:=rfl;rw[hxr];refine Z0 ?_;refine Z6 ?_;cases q:(m.p.kd k==3);refine Zp ⟨λi=>if i=3 then .bool false else .top,λi=>if i=3 then .lend else .pure⟩ zk hG zk zk ?_;refine Zsf @Zxb ?_;intro g11;refine⟨BorC.of [ckV b.ent c.ent d.ent e.ent m ns vs,.int .i64 k,Za .old 1 (V.int .u8) (.mk false [3])] zk ⟨Zta (Zet b c d e m ns vs) (Z3g _ _ _ _ _ _ _ _),Zta (.int _ _) rfl,Rd.u8 (l:=[3]) zp rfl,trivial⟩ ((Ztb G hG _ _ _ _ .old m ns vs k h0 h1 (.mk false [3]) zd).mono ?_),?_⟩;rintro _ _ rfl;exact⟨.bool _,by rw[Zbg,q]⟩;exact Zr;cases q1:(out.length==1);have e1:((out.length:Int)==1)=false:=(eqN _ 1).trans q1;refine Zp ⟨λi=>if i=3 then .bool true else .top,λi=>if i=3 then .lend else .pure⟩ zk hG zk zk ?_;refine Zsf (zi @Zxb (zi @Zl e1)) ?_;intro g11;refine⟨BorC.of [ckV b.ent c.ent d.ent e.ent m ns vs,.int .i64 k,Za .old 1 (V.int .u8) (.mk false [3])] zk ⟨Zta (Zet b c d e m ns vs) (Z3g _ _ _ _ _ _ _ _),Zta (.int _ _) rfl,Rd.u8 (l:=[3]) zp rfl,trivial⟩ ((Ztb G hG _ _ _ _ .old m ns vs k h0 h1 (.mk false [3]) zd).mono ?_),?_⟩;rintro _ _ rfl;exact⟨.bool _,by rw[Zbg,q]⟩;exact Zr;obtain⟨w,rfl⟩:∃ w,out=[w]:=List.length_eq_one_iff.1 (zu q1);obtain⟨w0,w1⟩:=ho w (List.mem_singleton.2 rfl);have hsp:=λb c d e=>Z1l G hG b c d e m ns vs hm w x.region w0 w1;have hhd:[w].headD 0=w:=rfl;have hgw:Zb [w]=.mk false [w]:=rfl;rw[hhd];cases q2:m.p.withinB w x.region
 rw[q2]at hsp;refine Zp ⟨λi=>if i=3 then .bool true else if i=23 then .bool false else .top,λi=>if i=3 then .lend else .pure⟩ zk hG zk zk ?_;refine Zsf (zi @Zxb (zi hgw (zi hg (zi hk (zi @Zt (zi @Int.natCast_nonneg @Int.ofNat_lt)))))) ?_;intro g11;refine⟨BorC.of [ckV b.ent c.ent d.ent e.ent m ns vs,.int .i64 k,Za .old 1 (V.int .u8) (.mk false [3])] zk ⟨Zta (Zet b c d e m ns vs) (Z3g _ _ _ _ _ _ _ _),Zta (.int _ _) rfl,Rd.u8 (l:=[3]) zp rfl,trivial⟩ ((Ztb G hG _ _ _ _ .old m ns vs k h0 h1 (.mk false [3]) zd).mono ?_),⟨by kernel_rfl,by refine Zs ?_;exact(hsp _ _ _ _).mono (by rintro _ _ rfl;rfl)⟩,?_⟩;rintro _ _ rfl;exact⟨.bool _,by rw[Zbg,q]⟩;exact Zr;rw[q2]at hsp;have hin:=λb c d e=>Zkk G hG b c d e m ns vs hw k;generalize m.p.inc k=inc at hin⊢;have e3:((inc.length:Int)==0)=(inc.length==0):=eqN _ 0;refine Zp ⟨λi=>if i=3 then .bool true else if i=23 then .bool true else if i=28 then Za .new 1 (V.int .i64) (Zb inc)else .top,λi=>if i=3 then .lend else .pure⟩ zk hG zk zk ?_;refine Zsf (zi @Zxb (zi hgw (zi @Zl (zi hg (zi hk (zi @Zt (zi @Int.natCast_nonneg @Int.ofNat_lt))))))) ?_;intro g11;refine⟨BorC.of [ckV b.ent c.ent d.ent e.ent m ns vs,.int .i64 k,Za .old 1 (V.int .u8) (.mk false [3])] zk ⟨Zta (Zet b c d e m ns vs) (Z3g _ _ _ _ _ _ _ _),Zta (.int _ _) rfl,Rd.u8 (l:=[3]) zp rfl,trivial⟩ ((Ztb G hG _ _ _ _ .old m ns vs k h0 h1 (.mk false [3]) zd).mono ?_),⟨by kernel_rfl,by refine Zs ?_;exact(hsp _ _ _ _).mono (by rintro _ _ rfl;rfl)⟩,⟨by kernel_rfl,by refine Zs ?_;exact(hin _ _ _ _).mono (by rintro _ _ rfl;exact zm)⟩,?_⟩
 rintro _ _ rfl;exact⟨.bool _,by rw[Zbg,q]⟩;refine Z ?_
 first|rfl|(rw[e3]<;>rfl)
theorem r8_spec(G:Nat->V)(hG:GOk G)(b c d e:Col)(m:MdM)(ns vs:Sl (List UInt8))(hm:m.p.Rt)(hw:m.ways.l.length<1000000)(v:Int)(h0:0<=v)(h1:v<m.p.vertices.length):
  Spec Tryz.prog G 103 [ckV b c d e m ns vs,.int .i64 v] Zk (λw _=>w=.bool (m.p.k8 v)):=by
 refine Zo 0 67 [.tmp 4] Tryz.func103 λX=>?_;rw[PM.k8];have ho:=hm.outR v;have hl:=Zis m v;have hsp0:=λb c d e=>Zef G hG b c d e m ns vs hw v;have hpt:=hm.toRt5.pt h0 h1;generalize m.p.out v=out at ho hl hsp0;obtain⟨k,x,rfl,hk,hg,hx⟩:=MdM.at h0 h1;rw[PM.kd,hx];rw[hx]at hpt;refine Z1 ?_;refine Z0 ?_;refine Z6 ?_;refine Zp ⟨λi=>if i=10 then Za .new 1 (V.int .i64) (Zb out)else .top,λ_=>.pure⟩ zk hG zk zk ?_;refine Zsf (zi @Zxb (zi hg (zi hk (zi @Zt (zi @Int.natCast_nonneg @Int.ofNat_lt))))) ?_;refine⟨⟨by kernel_rfl,by refine Zs ?_;exact(hsp0 _ _ _ _).mono (by rintro _ _ rfl;exact zm)⟩,?_⟩;intro g5;refine AW.weak (Zw (λo=>o==5) (l:=[(0,ckV b c d e m ns vs),(5,.view .new (Z5a d x)),(6,Za .new 1 (V.int .i64) (Zb out))]) (m:=[]) ?_ trivial) ?_;refine Zsf @Zxb ?_;exact⟨Fz.same _,Fz.ptr (v:=Z5a d x) (c:=.new) (fz:=0) zp zp,Fz.same _⟩
 have hp:(if x.p.kind=11 then out.length==1 && !m.p.inB (out.headD 0) x.p.of else if x.p.kind=10 then Zdl [] (out.map (m.p.regU · x.p.of))&&decide (0<out.length)else true) =
  (if x.kind=11 then out.length==1 && !m.p.inB (out.headD 0) x.of else if x.kind=10 then Zdl [] (out.map (m.p.regU · x.of))&&decide (0<out.length)else true):=rfl
 rw[hp]
 by_cases hk11:x.kind=11
 rw[if_pos hk11];have q:(x.kind==11)=true:=zu hk11;refine Z1f Zt ?_;refine Z1f q ?_;refine Z0f q ?_;refine Z6 ?_;cases q1:(out.length==1);have e1:((out.length:Int)==1)=false:=(eqN _ 1).trans q1;refine ZTf (zi @Zl e1) hG ?_;exact Zr;obtain⟨w,rfl⟩:∃ w,out=[w]:=List.length_eq_one_iff.1 (zu q1);obtain⟨w0,w1⟩:=ho w (List.mem_singleton.2 rfl);have hsp:=λb c d e=>Ztm G hG b c d e m ns vs hm w x.of w0 w1;have hhd:[w].headD 0=w:=rfl;have hgw:Zb [w]=.mk false [w]:=rfl;rw[hhd];generalize m.p.inB w x.of=bb at hsp⊢;cases bb;refine Zp ⟨λi=>if i=10 then .bool false else .top,λ_=>.pure⟩ zk hG zk zk ?_;refine Zsf (zi hgw @Zt) ?_;refine⟨⟨by kernel_rfl,by refine Zs ?_;exact(hsp _ _ _ _).mono (by rintro _ _ rfl;rfl)⟩,?_⟩;exact Zr;refine Zp ⟨λi=>if i=10 then .bool true else .top,λ_=>.pure⟩ zk hG zk zk ?_;refine Zsf (zi hgw @Zt) ?_;refine⟨⟨by kernel_rfl,by refine Zs ?_;exact(hsp _ _ _ _).mono (by rintro _ _ rfl;rfl)⟩,?_⟩;exact Zr;rw[if_neg hk11];have q:(x.kind==11)=false:=zu hk11
 by_cases hk10:x.kind=10
 rotate_left;rw[if_neg hk10];have q1:(x.kind==10)=false:=zu hk10;exact Zq (zi q (zi q1 Zt));rw[if_pos hk10];have q1:(x.kind==10)=true:=zu hk10
 have hof:0<=x.of:=by
  rcases hpt with h|h
  exact h.1;exact absurd (.inl hk10) h.2.2.2
 refine Zf (zi q (zi q1 Zt)) ?_
 refine Zaa out.length (λj (g:Nat)=>st [(0,ckV b c d e m ns vs),(5,.view .new (Z5a d x)),(6,Za .new 1 (V.int .i64) (Zb out)),(7,grown 62 g 1 ((out.take j).map (m.p.regU · x.of))),(41,Za .new 1 (V.int .i64) (Zb out)),(42,.int .i64 out.length),(43,.int .i64 j)] [(62,Zca g (V.int .i64) ((out.take j).map (m.p.regU · x.of)))])
  (λj _=>Zdl [] (out.map (m.p.regU · x.of))=Zdl ((out.take j).map (m.p.regU · x.of)) ((out.drop j).map (m.p.regU · x.of))) 0 0 (Nat.zero_le _) rfl (Weak.st (zpf (zi @Zt (@Zl Int out))) zp) ?_
 intro j g hj hR L3 hL3
 by_cases hj1:j<out.length
 .have hlt:decide ((j:Int)<(out.length:Int))=true:=zT
  have hgj:=List.getElem?_eq_getElem hj1
  have htk:out.take (j+1)=out.take j++[out[j]]:=by rw[List.take_succ_eq_append_getElem hj1]
  have hdr:out.drop j=out[j]::out.drop (j+1):=List.drop_eq_getElem_cons hj1;obtain⟨y0,y1⟩:=ho out[j] (List.getElem_mem hj1)
  have hal:((out.take j).map (m.p.regU · x.of)).length<=j:=by rw[List.length_map,List.length_take];omega
  generalize out[j]=y at hgj htk hdr y0 y1;have w2:IntKind.i64.wrap ((j:Int)+1)=(j:Int)+1:=w64 zo zo;rw[hdr,List.map_cons,Zdl]at hR;rw[htk,List.map_append,List.map_cons,List.map_nil]at hL3;generalize(out.take j).map (m.p.regU · x.of)=acc at hal hR hL3
  have hgj':(Zb out).l[j]?=some y:=by rw[Zl];exact hgj
  refine Zf (zi hlt (zi hgj (zi hgj' (zi hj1 (zi (@Zl Int out) (zi Zt (zi @Int.natCast_nonneg @Int.ofNat_lt))))))) ?_;refine Zc hG ?_ (s:=Z2l G hG b.ent c.ent d.ent e.ent m ns vs hm y x.of y0 y1 hof);generalize m.p.regU y x.of=r at hR hL3
  by_cases hr0:0<=r
  rotate_left;have q2:decide (r<0)=true:=zT;rw[hR,decide_eq_false hr0];exact Zh q2;have q2:decide (r<0)=false:=zF;rw[decide_eq_true hr0,Bool.true_and]at hR;refine Zg q2 ?_;refine CallA.bor hG [Za .old 1 (V.int .i64) (Zb acc),.int .i64 r] zk ⟨Zym zp (λ_=>rfl) inIm (λ_=>rfl),Zta (.int _ _) rfl,trivial⟩ ?_;refine(Zik G hG .old r (Zb acc) (by rw[Zl];omega)).mono ?_;rintro _ _ rfl;rw[Zl];refine⟨.bool _,?_⟩;cases hc:acc.contains r;rotate_left;rw[hc]at hR;rw[hR];exact Zh hc;rw[hc,Bool.not_false,Bool.true_and]at hR;refine Zs ?_;refine Z ?_;intro g61;refine Zhb (f:=V.int .i64) (l:=acc) (l2:=[r]) (g:=g) (λ_=>rfl) rfl rfl rfl zp (Z9 zo zO) λg2=>?_;refine Zs ?_;refine Zf w2 ?_;exact hL3 _ ⟨hj1,g2,hR,Weak.st (zpf @Zt) zp⟩
 have hje:j=out.length:=zo;subst hje;rw[List.drop_length]at hR;have hlt:decide ((out.length:Int)<(out.length:Int))=false:=zS;rw[hR];have e3:decide ((out.length:Int)>0)=decide (0<out.length):=gtN _ 0;refine Zf (zi hlt (zi (@Zl Int out) e3)) ?_;rfl
theorem r7_spec(G:Nat->V)(hG:GOk G)(b c d e:Col)(m:MdM)(ns vs:Sl (List UInt8))(hm:m.p.Rt)(hw:m.ways.l.length<1000000)(hvl:m.verts.l.length<1000000)(v:Int)(h0:0<=v)(h1:v<m.p.vertices.length):
  Spec Tryz.prog G 102 [ckV b c d e m ns vs,.int .i64 v] Zk (λw _=>w=.bool (m.p.k7 v)):=by
 refine Zo 0 77 [.tmp 4] Tryz.func102 λX=>?_;have ho:=hm.outR v;have hl:=Zis m v;have hsp0:=λb c d e=>Zef G hG b c d e m ns vs hw v;rw[PM.k7];refine Z ?_;intro g12;refine Zs ?_;refine CallA.bor hG [ckV b.ent c.ent d.ent e.ent m ns vs,.int .i64 v,Za .old 1 (V.int .u8) (.mk false [8,9])] zk ⟨Zta (Zet _ _ _ _ _ _ _) zp,Zta (.int _ _) rfl,Rd.u8 (l:=[8,9]) zp rfl,trivial⟩ ?_;refine(Ztb G hG _ _ _ _ .old m ns vs v h0 h1 (.mk false [8,9]) zd).mono ?_;rintro _ _ rfl;refine⟨.bool _,?_⟩;rw[Zf5];cases q:(m.p.kd v==8||m.p.kd v==9);exact Zh q;generalize m.p.out v=out at ho hl hsp0;obtain⟨k,x,rfl,hk,hg,hx⟩:=MdM.at h0 h1
 have hP:m.p.twins k=(m.verts.l.filter λy=>y.kind==x.kind&&y.region==x.region).length:=by
  rw[PM.twins,PM.kd,hx]
  show((m.verts.l.map VtM.p).filter _).length=_
  rw[List.filter_map,List.length_map]<;>rfl
 rw[hP,hx];have hxr:x.p.region=x.region:=rfl;rw[hxr];refine Zsf q ?_;refine Z0f q ?_;refine Z6 ?_;refine Zp ⟨λi=>if i=10 then Za .new 1 (V.int .i64) (Zb out)else .top,λ_=>.pure⟩ zk hG zk zk ?_;refine Zsf (zi @Zxb (zi hg (zi hk (zi @Zt (zi @Int.natCast_nonneg @Int.ofNat_lt))))) ?_;refine⟨⟨by kernel_rfl,by refine Zs ?_;exact(hsp0 _ _ _ _).mono (by rintro _ _ rfl;exact zm)⟩,?_⟩;intro g5;refine AW.weak (Zw (λo=>o==5) (l:=[(0,ckV b c d e m ns vs),(5,.view .new (Z5a d x)),(6,Za .new 1 (V.int .i64) (Zb out))]) (m:=[]) ?_ trivial) ?_;refine Zsf @Zxb ?_;exact⟨Fz.same _,Fz.ptr (v:=Z5a d x) (c:=.new) (fz:=0) zp zp,Fz.same _⟩;refine Zf Zxb ?_
 refine Zaa m.verts.l.length (λj (_:Unit)=>st [(0,ckV b c d e m ns vs),(5,.view .new (Z5a d x)),(6,Za .new 1 (V.int .i64) (Zb out)),(7,.int .i64 ((m.verts.l.take j).filter λy=>y.kind==x.kind&&y.region==x.region).length),(30,Za c 8 (Z5a d) m.verts),(31,.int .i64 m.verts.l.length),(32,.int .i64 j)] [])
  (λ_ _=>True) 0 () (Nat.zero_le _) trivial (Weak.st (zpf (zi @Zxb @Zt)) zp) ?_
 intro j _ hj _ L3 hL3
 by_cases hj1:j<m.verts.l.length
 have hlt:decide ((j:Int)<(m.verts.l.length:Int))=true:=zT;have hgj:=List.getElem?_eq_getElem hj1
 have htk:m.verts.l.take (j+1)=m.verts.l.take j++[m.verts.l[j]]:=by rw[List.take_succ_eq_append_getElem hj1]
 have hn:((m.verts.l.take j).filter λy=>y.kind==x.kind&&y.region==x.region).length<=j:=Nat.le_trans (List.length_filter_le _ _) (by rw[List.length_take];omega);generalize m.verts.l[j]=y at hgj htk;rw[htk,List.filter_append,List.length_append]at hL3;generalize((m.verts.l.take j).filter λy=>y.kind==x.kind&&y.region==x.region).length=n at hn hL3;have w1:IntKind.i64.wrap ((j:Int)+1)=(j:Int)+1:=w64 zo zo;have w2:IntKind.i64.wrap ((n:Int)+1)=(n:Int)+1:=w64 zo zo;refine Zf (zi hlt (zi hgj Zt)) ?_;intro g9;cases q1:(y.kind==x.kind);rw[List.filter_cons_of_neg (by simp[q1])]at hL3;simp only[List.filter_nil,List.length_nil,Nat.add_zero]at hL3;refine Zf (zi q1 (zi w1 Zt)) ?_;exact hL3 _ ⟨hj1,(),trivial,Weak.st (zpf @Zt) zp⟩;cases q2:(y.region==x.region);rw[List.filter_cons_of_neg (by simp[q2])]at hL3;simp only[List.filter_nil,List.length_nil,Nat.add_zero]at hL3;refine Zf (zi q1 (zi q2 (zi w1 Zt))) ?_;exact hL3 _ ⟨hj1,(),trivial,Weak.st (zpf @Zt) zp⟩;rw[List.filter_cons_of_pos (by simp[q1,q2])]at hL3;simp only[List.filter_nil,List.length_cons,List.length_nil,Nat.zero_add]at hL3;refine Zf (zi q1 (zi q2 (zi w1 (zi w2 Zt)))) ?_;exact hL3 _ ⟨hj1,(),trivial,Weak.st (by simp -implicitDefEqProofs only[go_sem,seval,Zt];exact⟨rfl,rfl⟩) zp⟩;have hje:j=m.verts.l.length:=zo;subst hje;rw[List.take_length];have hlt:decide ((m.verts.l.length:Int)<(m.verts.l.length:Int))=false:=zS;generalize(m.verts.l.filter λy=>y.kind==x.kind&&y.region==x.region).length=n;refine Z1f hlt ?_;refine Z0f hlt ?_;refine Z6 ?_;have e1:((n:Int)==1)=(n==1):=eqN _ 1;have e2:decide ((out.length:Int)<=1)=decide (out.length<=1):=decide_eq_decide.2 zo;have e3:((out.length:Int)==0)=(out.length==0):=eqN _ 0;cases q1:(x.region==0);rotate_left
 have f1:(x.region != 0)=false:=by rw[bne,q1]<;>rfl
 refine Zp ⟨λi=>.top,λ_=>.pure⟩ zk hG zk zk ?_;refine Zsf (zi @Zt (zi @Zl f1)) ?_;exact Zr
 have f1:(x.region != 0)=true:=by rw[bne,q1]<;>rfl
 cases q2:(n==1);rw[q2]at e1;refine Zp ⟨λi=>.top,λ_=>.pure⟩ zk hG zk zk ?_;refine Zsf (zi @Zt (zi @Zl (zi f1 e1))) ?_;exact Zr;rw[q2]at e1;cases q3:decide (out.length<=1);rw[q3]at e2;refine Zp ⟨λi=>.top,λ_=>.pure⟩ zk hG zk zk ?_;refine Zsf (zi @Zt (zi @Zl (zi f1 (zi e1 e2)))) ?_;exact Zr;rw[q3]at e2;cases q4:(out.length==0);rotate_left;rw[q4]at e3;refine Zp ⟨λi=>.top,λ_=>.pure⟩ zk hG zk zk ?_;refine Zsf (zi @Zt (zi @Zl (zi f1 (zi e1 (zi e2 e3))))) ?_;exact Zr;rw[q4]at e3;have hle:out.length<=1:=zu q3;have hne:¬ out.length=0:=zu q4;obtain⟨w,rfl⟩:∃ w,out=[w]:=List.length_eq_one_iff.1 zo;obtain⟨w0,w1⟩:=ho w (List.mem_singleton.2 rfl);have hsp:=λb c d e=>Z1l G hG b c d e m ns vs hm w x.region w0 w1;have hhd:[w].headD 0=w:=rfl;have hgw:Zb [w]=.mk false [w]:=rfl;rw[hhd];generalize m.p.withinB w x.region=bb at hsp⊢;cases bb;refine Zp ⟨λi=>if i=23 then .bool false else .top,λ_=>.pure⟩ zk hG zk zk ?_;refine Zsf (zi @Zt (zi @Zl (zi f1 (zi e1 hgw)))) ?_;refine⟨⟨by kernel_rfl,by refine Zs ?_;exact(hsp _ _ _ _).mono (by rintro _ _ rfl;rfl)⟩,?_⟩;exact Zr;refine Zp ⟨λi=>if i=23 then .bool true else .top,λ_=>.pure⟩ zk hG zk zk ?_;refine Zsf (zi @Zt (zi @Zl (zi f1 (zi e1 hgw)))) ?_;refine⟨⟨by kernel_rfl,by refine Zs ?_;exact(hsp _ _ _ _).mono (by rintro _ _ rfl;rfl)⟩,?_⟩;exact Zr
theorem Z3l(G:Nat->V)(b c d e:Col)(m:MdM)(ns vs:Sl (List UInt8))(k:Nat):
  Spec Tryz.prog G 55 [ckV b c d e m ns vs,.int .i64 k] Zk (λw _=>w=.int .i64 (m.p.places k)):=by
 refine Zo 0 33 [.tmp 4] Tryz.func55 λX=>?_;rw[PM.places,m.nv,m.nw];have f := @Zxb
 by_cases h1:k=1
 rw[if_pos h1]
 have q:((k:Int)==1)=true:=by simp[h1]
 exact Zq (zi q f);rw[if_neg h1];have q:((k:Int)==1)=false:=(eqN k 1).trans (zu h1)
 by_cases h2:k<=8
 rw[if_pos (.inl h2)];have q2:decide ((k:Int)<=8)=true:=zT;exact Zq (zi q (zi q2 f));have q2:decide ((k:Int)<=8)=false:=zF
 by_cases h3:k=13
 rw[if_pos (.inr h3)]
 have q3:((k:Int)==13)=true:=by simp[h3]
 exact Zq (zi q (zi q2 (zi q3 f)));rw[if_neg (λh=>h.elim h2 h3)];have q3:((k:Int)==13)=false:=(eqN k 13).trans (zu h3);exact Zq (zi q (zi q2 (zi q3 f)))
theorem Z5fa(G:Nat->V)(hG:GOk G)(c d:Col)(m:MdM)(hv:m.vars.l.length<=600):
  Spec Tryz.prog G 53 [Z4 c d m] Zk (λw _=>w=ckV .new c d .new m (.mk false (m.p.vn++[Zap])) (Zb m.p.vn)):=by
 refine Zo 0 39 [.tmp 2] Tryz.func53 λX=>?_;have hvn:m.p.vn=m.vars.l.map (·.1):=rfl
 have hvl:m.p.vn.length<=600:=by rw[hvn,List.length_map];exact hv
 simp only[Zj];refine Z ?_;intro g1;refine Z ?_;intro g8;refine Z ?_
 refine Zaa m.vars.l.length (λk (g:Nat)=>st [(3,.ptr 8 g8 0),(10,Za c 2 Zua m.vars),(11,.int .i64 m.vars.l.length),(12,.int .i64 k)]
   [(8,.cells .new g8 0 [.str m.name,Za c 2 Zua m.vars,Za c 1 V.str m.events,Za c 2 Zua m.regions,Za c 8 (Z5a d) m.verts,Za c 8 (Z4b d) m.ways,.nils,grown 24 g 1 (m.p.vn.take k)]),(24,Zca g V.str (m.p.vn.take k))])
  (λ_ _=>True) 0 0 (Nat.zero_le _) trivial (Weak.st zp (by refine Zs ?_;exact⟨rfl,rfl⟩)) ?_
 intro k g hk _ L3 hL3
 by_cases hk1:k<m.vars.l.length
 have hlt:decide ((k:Int)<(m.vars.l.length:Int))=true:=zT;have hg:=List.getElem?_eq_getElem hk1
 have hkv:k<m.p.vn.length:=by rw[hvn,List.length_map];exact hk1
 have htk:m.p.vn.take (k+1)=m.p.vn.take k++[(m.vars.l[k]).1]:=by rw[List.take_succ_eq_append_getElem hkv];simp[hvn]
 have hlk:(m.p.vn.take k).length=k:=by rw[List.length_take];omega
 generalize m.vars.l[k]=x at hg htk;have w1:IntKind.i64.wrap ((k:Int)+1)=(k:Int)+1:=w64 zo zo;rw[htk]at hL3;generalize m.p.vn.take k=acc at hlk hL3;refine Zf (zi hlt (zi hg Z3b)) ?_;intro g5;refine ZT hG ?_;intro g23;refine Zhb (f:=V.str) (l:=acc) (l2:=[x.1]) (g:=g) Z4c rfl rfl rfl zp (Z9 zo zO) λg2=>?_;refine Zs ?_;refine Zf w1 ?_;exact hL3 _ ⟨hk1,g2,trivial,Weak.st zp zp⟩;have hke:k=m.vars.l.length:=zo;subst hke;rw[List.take_of_length_le (by rw[hvn,List.length_map];exact Nat.le_refl _)];have hlt:decide ((m.vars.l.length:Int)<(m.vars.l.length:Int))=false:=zS;generalize m.p.vn=vn at hvl⊢;refine AW.weak (Zw (λo=>o==24) (l:=[(3,.ptr 8 g8 0),(11,.int .i64 m.vars.l.length),(12,.int .i64 m.vars.l.length)]) (m:=[(8,.cells .new g8 0 [.str m.name,Za c 2 Zua m.vars,Za c 1 V.str m.events,Za c 2 Zua m.regions,Za c 8 (Z5a d) m.verts,Za c 8 (Z4b d) m.ways,.nils,Za .new 1 V.str (Zb vn)])]) ?_ ?_) ?_;refine Zs ?_;exact⟨Fz.same _,Fz.same _⟩;simp only[Zv,Zy,and_true];exact FzO.of (c:=.new) (fz:=0) (cs:=[.str m.name,Za c 2 Zua m.vars,Za c 1 V.str m.events,Za c 2 Zua m.regions,Za c 8 (Z5a d) m.verts,Za c 8 (Z4b d) m.ways,.nils,grown 24 g 1 vn]) rfl zp ⟨Fz.same _,Fz.same _,Fz.same _,Fz.same _,Fz.same _,Fz.same _,Fz.same _,Zkc rfl zp Z4c,trivial⟩;refine Zf hlt ?_;refine CallA.inl [(5005,.dead)] zk ?_ ?_;intro p hp;rw[List.mem_singleton]at hp;subst hp;exact zp;refine(Z1o G .new (Zb vn) (by rw[Zl];omega)).mono ?_;rintro _ H' (⟨hn,rfl,q⟩|⟨g5,rfl,q⟩)
 have hvn0:vn=[]:=by
  have:=congrArg Sl.l hn;rwa [Zl]at this
 subst hvn0;simp only[List.map_cons,List.map_nil,q];refine Zu ?_;intro g34;refine⟨Z9 zo zo,λh=>absurd h zd,λ_ g35=>?_⟩;refine Zs ?_;refine AW.weak (Zw (λo=>o==35) (l:=[(3,.ptr 8 g8 0)]) (m:=[(8,.cells .new g8 0 [.str m.name,Za c 2 Zua m.vars,Za c 1 V.str m.events,Za c 2 Zua m.regions,Za c 8 (Z5a d) m.verts,Za c 8 (Z4b d) m.ways,Za .new 1 V.str (.mk false [Zap]),Za .new 1 V.str (Zb [])])]) ?_ ?_) ?_;refine Zs ?_;exact Fz.same _;simp only[Zv,Zy,and_true];exact FzO.of (c:=.new) (fz:=0) (cs:=[.str m.name,Za c 2 Zua m.vars,Za c 1 V.str m.events,Za c 2 Zua m.regions,Za c 8 (Z5a d) m.verts,Za c 8 (Z4b d) m.ways,.msl 35 g35 0 ([Zap]).length 1,Za .new 1 V.str (Zb [])]) rfl zp ⟨Fz.same _,Fz.same _,Fz.same _,Fz.same _,Fz.same _,Fz.same _,Z2b (f:=V.str) (l:=[Zap]) (m:=1) (g:=g35) (fz:=0) (c:=.new) rfl zp Z4c,Fz.same _,trivial⟩;refine AW.weak (Zw (λo=>o==8) (l:=[(3,ckV .new c d .new m (.mk false [Zap]) (Zb []))]) (m:=[]) ?_ trivial) ?_;refine Zs ?_;exact Fz.ptr (v:=Zw0 c d .new m (.mk false [Zap]) (Zb [])) (c:=.new) (fz:=0) zp zp;exact Zr;simp only[List.map_cons,List.map_nil,q,Zl];refine Zu ?_;intro g34
 have hcells:List.take (vn.length*1) (flat (List.map V.str vn))++[V.str [97,114,103]]=flat ((vn++[Zap]).map V.str):=by
  rw[List.take_of_length_le (by rw[Zjb Z4c];exact Nat.le_refl _),List.map_append,Zee];rfl
 have e1:vn.length+1=(vn++[Zap]).length:=by rw[List.length_append]<;>rfl
 refine⟨Z9 zo zo,by rw[Zjb Z4c];exact Nat.le_refl _,Nat.zero_le _,λg35=>?_⟩;rw[hcells,e1];refine AW.weak (Zw (λo=>o==5005) (l:=[(3,.ptr 8 g8 0)]) (m:=[(8,.cells .new g8 0 [.str m.name,Za c 2 Zua m.vars,Za c 1 V.str m.events,Za c 2 Zua m.regions,Za c 8 (Z5a d) m.verts,Za c 8 (Z4b d) m.ways,Za .new 1 V.str (.mk false (vn++[Zap])),Za .new 1 V.str (Zb vn)])]) ?_ ?_) ?_;refine Zs ?_;exact Fz.same _;simp only[Zv,Zy,and_true];exact FzO.of (c:=.new) (fz:=0) (cs:=[.str m.name,Za c 2 Zua m.vars,Za c 1 V.str m.events,Za c 2 Zua m.regions,Za c 8 (Z5a d) m.verts,Za c 8 (Z4b d) m.ways,.msl 5005 g35 0 ((vn++[Zap])).length 1,Za .new 1 V.str (Zb vn)]) rfl zp ⟨Fz.same _,Fz.same _,Fz.same _,Fz.same _,Fz.same _,Fz.same _,Z2b (f:=V.str) (l:=(vn++[Zap])) (m:=1) (g:=g35) (fz:=0) (c:=.new) rfl zp Z4c,Fz.same _,trivial⟩;refine AW.weak (Zw (λo=>o==8) (l:=[(3,ckV .new c d .new m (.mk false (vn++[Zap])) (Zb vn))]) (m:=[]) ?_ trivial) ?_;refine Zs ?_;exact Fz.ptr (v:=Zw0 c d .new m (.mk false (vn++[Zap])) (Zb vn)) (c:=.new) (fz:=0) zp zp;exact Zr
def rF:Nat->FuncId
 |1=>96
 |2=>97
 |3=>98
 |4=>99
 |5=>100
 |6=>101
 |7=>102
 |8=>103
 |9=>104
 |10=>105
 |11=>106
 |12=>107
 |13=>108
 |14=>109
 |_=>110
def Z6f(k:Nat):V:=.func (.func (rF k)) [] []
def ruleFs:List V:=[.nilf,Z6f 1,Z6f 2,Z6f 3,Z6f 4,Z6f 5,Z6f 6,Z6f 7,Z6f 8,Z6f 9,Z6f 10,Z6f 11,Z6f 12,Z6f 13,Z6f 14,Z6f 15]
theorem Zrq{k:Nat}(h:1<=k)(h2:k<=15):ruleFs[k]?=some (Z6f k)/\Z2 Tryz.prog (rF k)=true:=by
 have hk:k=1\/k=2\/k=3\/k=4\/k=5\/k=6\/k=7\/k=8\/k=9\/k=10\/k=11\/k=12\/k=13\/k=14\/k=15:=zo
 rcases hk with rfl|rfl|rfl|rfl|rfl|rfl|rfl|rfl|rfl|rfl|rfl|rfl|rfl|rfl|rfl<;>exact⟨rfl,by kernel_rfl⟩
@[go_sem] theorem recol_rules(g:Col->Col):ruleFs.map (V.recol g)=ruleFs:=rfl
theorem Zg8(G:Nat->V):Spec Tryz.prog G 54 [] Zk (λw _=>w=.agg ruleFs):=by
 refine Zo 0 2 [.cell 0 123] Tryz.func54 λX=>?_;refine Z ?_;intro g0;exact Zr
structure MdT(m:MdM):Prop where
 ef:∀ t∈m.ways.l,t.effect.length<=900
 gu:∀ t∈m.ways.l,t.guard.length<=900
 en:∀ x∈m.verts.l,x.entry.length<=900/\x.exit.length<=900
theorem Z39(G:Nat->V)(hE:GExp G)(b c d e:Col)(m:MdM)(ns vs:Sl (List UInt8))(hb:MdB m)(hm:m.p.Rt)(ht:MdT m)(hns:ns.l=m.p.vn++[Zap])(hvs:vs.l=m.p.vn)(k:Nat)(h1:1<=k)(h2:k<=15)(t:Int)(t0:0<=t)(t1:t<m.p.places k):
  Spec Tryz.prog G (rF k) [ckV b c d e m ns vs,.int .i64 t] Zk (λw _=>w=.bool (m.p.keep Zub Zxa k t)):=by
 have hG:=hE.ok;have b1:=hb.nw;have b2:=hb.nx;have b3:=hb.ne
 have hvl:m.p.vn.length<=600:=by
  show(m.vars.l.map _).length<=_
  rw[List.length_map];exact hb.nv
 have hnl:ns.l.length<1000000:=by rw[hns,List.length_append];show _+1<_;omega
 have hsl:vs.l.length<100000:=by rw[hvs];omega
 have hway:t<m.p.ways.length->((m.p.wy t).effect.length<=900/\(m.p.wy t).guard.length<100000):=λh=>by
  obtain⟨j,x,rfl,hj,hg,hx⟩:=MdM.wyAt t0 h;rw[hx];have:=ht.gu x (List.mem_of_getElem? hg);exact⟨ht.ef x (List.mem_of_getElem? hg),by show x.guard.length<_;omega⟩
 have hver:t<m.p.vertices.length->((m.p.vx t).entry.length<=900/\(m.p.vx t).exit.length<=900):=λh=>by
  obtain⟨j,x,rfl,hj,hg,hx⟩:=MdM.at t0 h;rw[hx];exact ht.en x (List.mem_of_getElem? hg)
 have hgl:∀ t∈m.ways.l,t.guard.length<100000:=λt h=>by have:=ht.gu t h;omega
 have hk:k=1\/k=2\/k=3\/k=4\/k=5\/k=6\/k=7\/k=8\/k=9\/k=10\/k=11\/k=12\/k=13\/k=14\/k=15:=zo
 rcases hk with rfl|rfl|rfl|rfl|rfl|rfl|rfl|rfl|rfl|rfl|rfl|rfl|rfl|rfl|rfl
 exact r1_spec G hG b c d e m ns vs zo t;exact r2_spec G hG b c d e m ns vs hm zo t t0 t1;exact r3_spec G hG b c d e m ns vs zo t t0 t1;exact r4_spec G hG b c d e m ns vs hm zo t t0 t1;exact r5_spec G hG b c d e m ns vs hm zo t t0 t1;exact r6_spec G hE b c d e m ns vs zo hgl t t0 t1;exact r7_spec G hG b c d e m ns vs hm zo zo t t0 t1;exact r8_spec G hG b c d e m ns vs hm zo t t0 t1;exact r9_spec G hG b c d e m ns vs hm t t0 t1;exact Zlla G hE b c d e m ns vs hm hns hnl t t0 t1 (hway t1).2;exact Zkla G hG b c d e m ns vs hm t t0 t1;exact Zjla G hE b c d e m ns vs hvs hsl zo t t0 t1 (hway t1).1;exact Zila G hE b c d e m ns vs hvs hsl zo t t0 t1 (hver t1);exact Zhla G hG b c d e m ns vs hm t t0 t1;exact Zgla G hG b c d e m ns vs hm t t0 t1
def Zxo(p:Nat×Int):V:=.agg [.int .u8 p.1,.int .i64 p.2]
theorem encFt_K(p:Nat×Int):Zxo p=.agg [.int .u8 p.1,.int .i64 p.2]:=rfl
theorem Z3ga(p:Nat×Int):(Zxo p).cells.length=2:=rfl
theorem PM.places_le(m:PM)(k:Nat):m.places k<=m.regions.length+m.vertices.length+m.ways.length:=by
 rw[PM.places];split;omega
 split<;>omega
theorem Zraa(G:Nat->V)(hE:GExp G)(c d:Col)(m:MdM)(hb:MdB m)(ht:m.p.Rt->MdT m):
  Spec Tryz.prog G 26 [Z4 c d m] Zk (λw _=>w=.tuple [Za .new 2 Zxo (Zb (m.p.checkW Zub Zxa).1),.int .i64 (m.p.checkW Zub Zxa).2]):=by
 have hG:=hE.ok;refine Zo 0 49 [.tmp 2,.tmp 3] Tryz.func26 λX=>?_;rw[PM.checkW];have hr:=PM.right_er (m:=m.p);simp only[Zj];refine Z ?_;intro g1;refine AW.weak (Zw (λo=>o==1) (l:=[(1,.view .new (Z4 c d m)),(2,.nils),(3,.int .i64 0)]) (m:=[]) ?_ trivial) ?_;refine Zs ?_;exact⟨Fz.ptr (v:=Z4 c d m) (c:=.new) (fz:=0) zp zp,Fz.same _,Fz.same _⟩;refine Zf Zj ?_;refine Zn hG ?_ (s:=Zsq G hE c.ent d.ent m hb);have hrt:=λh=>PM.rt_of (m:=m.p) h;generalize m.p.rightP=rp at hr hrt;refine Zs ?_
 by_cases h:rp.2.2=0
 rotate_left;rw[if_pos h];have q:(rp.2.2 != 0)=true:=zu h;exact Zq q;rw[if_neg (λk=>k h)]
 have q:(rp.2.2 != 0)=false:=by simp[h]
 have hm:m.p.Rt:=hrt (hr.1 h);have hT:=ht hm;have hnv:=hb.nv;refine Zf (zi q Zj) ?_;refine Zc hG ?_ (s:=Z5fa G hG c.ent d.ent m hnv);refine Z ?_;refine Zc hG ?_ (s:=Zg8 G);refine Z ?_;have hpl:=λk=>m.p.places_le k;have b1:=hb.nr;have b2:=hb.nx;have b3:=hb.nw
 have hpl:∀ k,m.p.places k<=1800:=λk=>by
  have:=hpl k;have e1:m.p.regions.length=m.regions.l.length:=rfl;have e2:=m.nv;have e3:=m.nw;omega
 refine Zaa 16 (λr (g:Nat)=>st [(2,grown 46 g 2 (m.p.badL Zub Zxa (r-1))),(4,ckV .new c.ent.bk d.ent.bk .new m (.mk false (m.p.vn++[Zap])) (Zb m.p.vn)),(19,.agg ruleFs),(20,.int .i64 r)] [(46,Zca g Zxo (m.p.badL Zub Zxa (r-1)))])
  (λr _=>(m.p.badL Zub Zxa (r-1)).length<=1800*r) 0 0 zd (Nat.zero_le _) (Weak.st zp zp) ?_
 intro r g hr1 hR L3 hL3
 by_cases hr2:r<16
 rotate_left;obtain rfl:r=16:=zo;have hlt:decide (((16:Nat):Int)<16)=false:=rfl;have e15:m.p.badL Zub Zxa (16-1)=m.p.badL Zub Zxa 15:=rfl;rw[e15];generalize m.p.badL Zub Zxa 15=acc;refine AW.weak (Zw (λo=>o==46) (l:=[(2,Za .new 2 Zxo (Zb acc)),(20,.int .i64 (16:Nat))]) (m:=[]) ?_ trivial) ?_;refine Zs ?_;exact⟨Zkc (l:=acc) (g:=g) (f:=Zxo) rfl zp Z3ga,Fz.same _⟩;exact Zr;have hlt:decide ((r:Int)<16)=true:=zT;have w1:IntKind.i64.wrap ((r:Int)+1)=(r:Int)+1:=w64 zo zo
 have hrv:∃ f,ruleFs[r]?=some f/\(1<=r->f=Z6f r/\Z2 Tryz.prog (rF r)=true):=by
  rcases Nat.eq_zero_or_pos r with h0|h0
  subst h0;exact⟨_,rfl,λh=>absurd h zd⟩;exact⟨_,(Zrq h0 zo).1,λ_=>⟨rfl,(Zrq h0 zo).2⟩⟩
 obtain⟨fv,hfv,hfr⟩:=hrv;have hr3:(r:Int)<16:=zo;refine Zf (zi hlt (zi hfv (zi hr3 (zi @Int.natCast_nonneg Nat.mul_one)))) ?_;have hbl:∀ a,(m.p.badAt Zub Zxa r a).length<=a:=λa=>PM.badAt_len r a
 have hn:(if r=0 then 0 else m.p.places r)<=1800:=by split;exact Nat.zero_le _;exact hpl r
 have hnx:(m.p.badL Zub Zxa (r-1))++(if r=0 then[]else m.p.badAt Zub Zxa r (m.p.places r))=m.p.badL Zub Zxa r:=by
  rcases Nat.eq_zero_or_pos r with h0|h0
  subst h0;rfl;rw[if_neg zo];obtain⟨r,rfl⟩:∃ r',r=r'+1:=⟨r-1,zo⟩
  rw[PM.badL_succ]<;>rfl
 have hba:∀ a,r≠0->m.p.badAt Zub Zxa r (a+1)=m.p.badAt Zub Zxa r a++(if m.p.keep Zub Zxa r (a:Int)=true then[]else[(r,(a:Int))]):=λa _=>PM.badAt_succ r a;have hks:=λb c d e ns vs (h1:ns.l=m.p.vn++[Zap]) (h2:vs.l=m.p.vn) h3=>Z39 G hE b c d e m ns vs hb hm hT h1 h2 r h3 zo;generalize m.p.badL Zub Zxa (r-1)=acc at hR hnx
 refine Zaa (if r=0 then 0 else m.p.places r) (λa (g:Nat)=>st [(2,grown 46 g 2 (acc++if r=0 then[]else m.p.badAt Zub Zxa r a)),(4,ckV .new c.ent.bk d.ent.bk .new m (.mk false (m.p.vn++[Zap])) (Zb m.p.vn)),(5,.int .i64 r),(6,fv),(7,.int .i64 a),(19,.agg ruleFs),(20,.int .i64 r)] [(46,Zca g Zxo (acc++if r=0 then[]else m.p.badAt Zub Zxa r a))])
  (λa _=>True) 0 g (Nat.zero_le _) trivial (Weak.st ?_ ?_) ?_
 have:(acc++if r=0 then[]else m.p.badAt Zub Zxa r 0)=acc:=by
  split
  exact List.append_nil _;exact List.append_nil _
 rw[this];exact zp
 have:(acc++if r=0 then[]else m.p.badAt Zub Zxa r 0)=acc:=by
  split
  exact List.append_nil _;exact List.append_nil _
 rw[this];exact zp;intro a g ha _ L7 hL7;have hwr:IntKind.u8.wrap (r:Int)=(r:Int):=wu8R zo zo
 by_cases ha1:a<(if r=0 then 0 else m.p.places r)
 rotate_left
 .have hae:a=(if r=0 then 0 else m.p.places r):=zo
  have hend:(acc++if r=0 then[]else m.p.badAt Zub Zxa r a)=m.p.badL Zub Zxa (r+1-1):=by
   rw[Nat.add_sub_cancel,<- hnx,hae]
   split<;>rfl
  rw[hend]
  have hfin:∀ s,Weak ⟨X,Zk,49,0,G,none,[],.plain⟩ s (st [(2,grown 46 g 2 (m.p.badL Zub Zxa (r+1-1))),(4,ckV .new c.ent.bk d.ent.bk .new m (.mk false (m.p.vn++[Zap])) (Zb m.p.vn)),(19,.agg ruleFs),(20,.int .i64 (r+1:Nat))] [(46,Zca g Zxo (m.p.badL Zub Zxa (r+1-1)))])->L3 s:=λs hs=>by
   refine hL3 s ⟨hr2,g,?_,hs⟩;rw[<- hend,List.length_append]
   have e2:(if r=0 then([]:List (Nat×Int))else m.p.badAt Zub Zxa r a).length<=1800:=by
    split
    exact Nat.zero_le _;exact Nat.le_trans (hbl a) zo
   omega
  try clear hL3
  by_cases h0:r=0
  have q0:decide ((r:Int)>0)=false:=zF;refine Zf (zi q0 w1) ?_;exact hfin _ (Weak.st zp zp);have q0:decide ((r:Int)>0)=true:=zT;rw[if_neg h0]at hae;have q1:decide ((a:Int)<(m.p.places r:Int))=false:=zF;refine Zf q0 ?_;refine Zc hG ?_ (s:=Z3l G _ _ _ _ m _ _ r);refine Zg (zi q1 w1) ?_;exact hfin _ (Weak.st zp zp)
 have h0:r≠0:=λh=>by rw[if_pos h]at ha1;exact absurd ha1 (Nat.not_lt_zero _)
 rw[if_neg h0]at ha1;have hpr:=hpl r;have q0:decide ((r:Int)>0)=true:=zT;have q1:decide ((a:Int)<(m.p.places r:Int))=true:=zT;have w2:IntKind.i64.wrap ((a:Int)+1)=(a:Int)+1:=w64 zo zo;obtain⟨rfl,hen⟩:=hfr zo;simp only[if_neg h0]at hL7⊢;rw[hba a h0]at hL7;have hal:=hbl a;generalize m.p.badAt Zub Zxa r a=bl at hL7 hal⊢;refine Zf q0 ?_;refine Zc hG ?_ (s:=Z3l G _ _ _ _ m _ _ r);refine Zg (zi q1 (show Z6f r=.func (.func (rF r)) [] []from rfl)) ?_;have hsp:=λb c d e=>hks b c d e (.mk false (m.p.vn++[Zap])) (Zb m.p.vn) rfl (Zl _) zo a (Int.natCast_nonneg a) zo;refine Zc hG ?_ (e:=hen) (s:=hsp _ _ _ _);cases hk:m.p.keep Zub Zxa r (a:Int);rw[hk,if_neg zd,<- List.append_assoc]at hL7;refine Zf (zi hk hwr) ?_;intro g45;refine Zhb (f:=Zxo) (l:=acc++bl) (l2:=[(r,(a:Int))]) (g:=g) Z3ga rfl rfl rfl zp (Z9 zo (by simp only[List.length_append,List.length_cons,List.length_nil];omega)) λg2=>?_;refine Zs ?_;refine Zf w2 ?_;exact hL7 _ ⟨ha1,g2,trivial,Weak.st (zpf (show V.func (.func (rF r)) [] []=Z6f r from rfl)) zp⟩;rw[hk,if_pos rfl,List.append_nil]at hL7;refine Zf (zi hk w2) ?_;exact hL7 _ ⟨ha1,g,trivial,Weak.st (zpf (show V.func (.func (rF r)) [] []=Z6f r from rfl)) zp⟩
end Go.Hs
end

section
namespace Go.Hs
open Go.Proofs
set_option maxRecDepth 10000
set_option maxHeartbeats 4000000
@[go_sem] theorem recol_ftK(g:Col->Col)(c:Col)(s:Sl (Nat×Int)):(Za c 2 Zxo s).recol g=Za (g c) 2 Zxo s:=Zdb g c 2 (λp=>by simp only[encFt_K,Z4a,List.map_cons,List.map_nil,Zwa]) s
theorem Zt8(G:Nat->V)(v:V):Spec Tryz.prog G 29 [v,.nils] Zk (λ_ _=>True):=by
 refine Zo 0 71 [] Tryz.func29 λX=>?_;have hlt:decide (((0:Nat):Int)<((0:Nat):Int))=false:=rfl;refine Z ?_;refine Zaa 0 (λi (_:Unit)=>st [(13,.int .i64 0),(14,.int .i64 i)] []) (λ_ _=>True) 0 () (Nat.zero_le _) trivial (Weak.st zp zp) ?_;intro i _ hi _ L1 hL1;obtain rfl:i=0:=Nat.le_zero.1 hi;refine Z ?_;exact⟨_,rfl,trivial⟩
structure QOk(m:MdM)(q:StP×List Int):Prop where
 sn:q.1.sources≠[]
 s0:0<=PM.srcOf q.1/\PM.srcOf q.1<m.p.vertices.length
 f0:0<=q.1.first/\q.1.first<m.p.ways.length
 el:q.1.ends.length<100000
 er:∀ e∈q.1.ends,e.1 = -1\/(0<=e.1/\e.1<m.p.vertices.length)
 br:∀ e∈q.1.ends,∀ t∈e.2,0<=t/\t<m.p.ways.length
 bl:∀ e∈q.1.ends,e.2.length<100000
 fl:q.1.effects.length<400000
 fr:∀ t∈q.1.effects,0<=t/\t<m.p.ways.length
 rl:q.2.length<100000
 rr:∀ v∈q.2,0<=v/\v<m.p.vertices.length
theorem Znia(G:Nat->V)(hG:GOk G)(cr b1 b c d e f g:Col)(m:MdM)(x:IxM)(hx:IxP m.p x)(hw:m.p.ways.length<=600)(hwf:m.p.Wfd)(q:StP×List Int)(h:QOk m q):
  Spec Tryz.prog G 31 [Z6a cr q,.view b1 (wkV b c d e f g m x)] Zk (λw _=>w=.bool (!(m.p.rightS q.1 q.2))):=by
 refine Zo 0 8 [.tmp 3] Tryz.func31 λX=>?_;refine Zf Zna ?_;intro g2;refine Zf Zna ?_;refine Z8d [wkV b c d e f g m x,Z6a cr q] ⟨Fz.same _,Fz.same _,trivial⟩ ?_;refine Zc hG ?_ (ha:=by simp only[List.map_cons,List.map_nil,Zae,Zbe]) (s:=Zez G hG cr.ent b.ent c.ent d.ent e.ent f.ent g.ent m (x.rc Col.ent) (hx.rc Col.ent) hw hwf q h.sn h.s0.1 h.s0.2 h.f0.1 h.f0.2 h.el h.er h.br h.bl h.fl h.fr h.rl h.rr);exact Zr
theorem Zrfa(x:AObj):x.noMp.noMp=x.noMp:=by cases x<;>rfl
theorem Z8n{α : Type}(g:Nat)(f : α -> V)(l:List α):(Zca g f l).noMp=Zca g f l:=by cases l<;>rfl
def allN(w:List StP×Bool)(k:StP):List StP×Bool:=if w.1.length=4096 then(w.1,true)else(w.1++[k],w.2)
def allJ(w:List StP×Bool):Option Code:=if w.2=true then some .ret else none
theorem Zc7:∀ (xs l:List StP),l.length<=4096->(Zla (λw k=>((allJ (allN w k)).isNone,allN w k)) (l,false) xs).2=if l.length+xs.length<=4096 then(l++xs,false)else((l++xs).take 4096,true)
 |[],l,h=>by
  rw[Zla];rw[if_pos (zu h),List.append_nil]
 |k::r,l,h=>by
  rw[Zla]
  by_cases e:l.length=4096
  have e1:allN (l,false) k=(l,true):=if_pos e;rw[e1];rw[if_neg (by simp[allJ]),if_neg (by rw[List.length_cons];omega)];rw[List.take_append_of_le_length zo,List.take_of_length_le zo];have e1:allN (l,false) k=(l++[k],false):=if_neg e;rw[e1,if_pos (by rfl),Zc7 r (l++[k]) zO];simp only[List.length_append,List.length_cons,List.length_nil,List.append_assoc,List.singleton_append];rw[show l.length+(0+1)+r.length=l.length+(r.length+1) by omega]
theorem Zzga(m:PM)(g:Nat){L:List StP}(h:L≠[]):Zca g Zme L=.cells .new g 0 (lvC L (rvF m L 0)):=by
 rw[Zfb _ _ h]
 congr 1
 rw[lvC,lv,List.map_map]
 congr 1
 apply List.ext_getElem;simp;intro j h1 h2;have hj:j<L.length:=zu h1;rw[List.getElem_map,List.getElem_map,List.getElem_range]
 show Zme _=Zbf .new (L.getD j st0,rvF m L 0 j)
 rw[List.getD_eq_getElem?_getD,List.getElem?_eq_getElem hj,rvF,if_neg (Nat.not_lt_zero _)];rfl
theorem lvC_end(m:PM)(L:List StP):lvC L (rvF m L L.length)=flat ((L.map λs=>(s,m.reachL L s)).map (Z6a .new)):=by
 rw[lvC,lv,List.map_map,List.map_map]
 congr 1
 apply List.ext_getElem;simp;intro j h1 h2;have hj:j<L.length:=zu h1;rw[List.getElem_map,List.getElem_map,List.getElem_range]
 show Zbf .new (L.getD j st0,rvF m L L.length j)=Z6a .new (L[j],m.reachL L L[j])
 have e:L.getD j st0=L[j]:=by rw[List.getD_eq_getElem?_getD,List.getElem?_eq_getElem hj];rfl
 rw[rvF,if_pos hj,e];rfl
theorem Zyg(m:PM):m.withR.length=m.allL.length:=List.length_map ..
theorem qok(m:MdM)(h:m.p.Wfd):∀ q∈m.p.withR,QOk m q:=by
 intro q hq;obtain⟨s,hs,rfl⟩:=List.mem_map.1 hq;have f:=m.p.allL_ok h s hs;have hw:=h.lw;have hsr:PM.srcOf s∈s.sources:=PM.headD_mem f.so;refine⟨f.so,f.src _ hsr,f.first,?_,f.ar,f.br,λe he=>?_,?_,f.er,?_,m.p.reachL_rng m.p.allL s⟩;have:=f.el
 show s.ends.length<_
 omega;have:=f.bl e he;omega;have:=f.fl
 show s.effects.length<_
 omega
 show(m.p.reachL m.p.allL s).length<_
 rw[PM.reachL,List.length_map];have:=List.length_filter_le (fun(v:Nat)=>(m.p.reachQ m.p.allL s).contains (v:Int)) (List.range m.p.vertices.length);rw[List.length_range]at this;have:=h.lx;omega
theorem Zq6{α : Type}{p : α -> Bool}:∀ {l:List α} {n:Nat},l.findIdx? p=some n->∃ q,l[n]?=some q/\l.find? p=some q
 |[],n,h=>by cases h
 |a::r,n,h=>by
  rw[List.findIdx?_cons]at h
  by_cases e:p a=true
  rw[if_pos e]at h;cases h;exact⟨a,rfl,by rw[List.find?_cons_of_pos e]⟩
  .rw[if_neg e]at h
   cases h2:r.findIdx? p with
   |none=>rw[h2]at h;cases h
   |some k=>
    rw[h2]at h;cases h;obtain⟨q,h3,h4⟩:=Zq6 h2;exact⟨q,h3,by rw[List.find?_cons_of_neg e];exact h4⟩
theorem Znt(G:Nat->V)(hE:GExp G)(c d:Col)(m:MdM)(hb:MdB m)(ht:m.p.Rt->MdT m):
  Spec Tryz.prog G 11 [Z4 c d m] Zk (λw _=>w=.tuple [Za .new 6 (Z6a .new) (Zb (m.p.statP Zub Zxa).1),.int .i64 (m.p.statP Zub Zxa).2.1,.int .i64 (m.p.statP Zub Zxa).2.2]):=by
 have hG:=hE.ok;refine ZoM 2100 64 [.cell 2 42,.cell 3 3,.cell 4 32] Tryz.func11 λX=>?_;simp only[Zj];refine Z ?_;intro g1 g2 g3 g4;refine AW.weak (Zw (λo=>o==2101) (l:=[(1,.view .new (Z4 c d m)),(2,.ptr 2102 g2 0),(3,.ptr 2103 g3 0),(4,.ptr 2104 g4 0)]) (m:=[(2102,.cells .new g2 0 [.nils]),(2103,.cells .new g3 0 [.int .i64 0]),(2104,.cells .new g4 0 [.int .i64 0])]) ?_ ?_) ?_;simp -implicitDefEqProofs only[go_sem,seval];exact⟨Fz.ptr (v:=Z4 c d m) (c:=.new) (fz:=0) zp zp,Fz.same _,Fz.same _,Fz.same _⟩;simp only[Zv,Zy,and_true];exact⟨FzO.same rfl,FzO.same rfl,FzO.same rfl⟩;refine Zf Zj ?_;refine Zc hG ?_ (s:=Zraa G hE c.ent d.ent m hb ht);rw[PM.statP];generalize hck:m.p.checkW Zub Zxa=ck;obtain⟨fs,er⟩:=ck
 by_cases h1:er≠0
 rw[if_pos h1];have q1:(er != 0)=true:=zu h1;refine Zf q1 ?_;refine Z2c [(32,.ptr 2104 g4 0,.int .i64 er)] ⟨λ_=>.int .i64 er,λj=>if j=0 then .keep else .pure⟩ zk hG zk zk ?_;refine Zs ?_;exact Zr;rw[if_neg h1];obtain rfl:er=0:=Classical.not_not.1 h1
 by_cases h2:fs≠[]
 rw[if_pos h2]
 have q2:decide ((fs.length:Int)>0)=true:=by
  have:=List.length_pos_iff.2 h2;rw[decide_eq_true_eq];omega
 have q3:(Zb fs).l.length=fs.length:=by rw[Zl]
 exact Zq (zi q2 q3);rw[if_neg h2];obtain rfl:fs=[]:=Classical.not_not.1 h2
 have hr:m.p.rightP.2.2=0:=by
  by_cases q:m.p.rightP.2.2=0
  exact q;rw[PM.checkW,if_pos q]at hck;exact absurd (congrArg Prod.snd hck) q
 have hbd:m.p.badL Zub Zxa 15=[]:=by
  rw[PM.checkW,if_neg (by rw[hr];simp)]at hck;exact congrArg Prod.fst hck
 have rt:=PM.rt_of (PM.right_er.1 hr);have wfd:=rt.wfd hbd;have acy:=rt.acy;refine Z ?_;refine Zc hG ?_ (s:=Z7la G hE c.ent d.ent m hb acy hr);refine Zf Zj ?_;intro g31 g8;have hx:IxP m.p ((Ztk m.p).rc Col.bk):=(ixOf_p m.p).rc _;refine AW.weak (Zw (λo=>o==2131) (l:=[(1,.view .new (Z4 c d m)),(2,.ptr 2102 g2 0),(3,.ptr 2103 g3 0),(4,.ptr 2104 g4 0),(8,.ptr 2108 g8 0)]) (m:=[(2102,.cells .new g2 0 [.nils]),(2103,.cells .new g3 0 [.int .i64 0]),(2104,.cells .new g4 0 [.int .i64 0]),(2108,.cells .new g8 0 [wkV .new c d .new .new .new m ((Ztk m.p).rc Col.bk)])]) ?_ ?_) ?_;simp -implicitDefEqProofs only[go_sem,seval,Zj];exact⟨Fz.same _,Fz.same _,Fz.same _,Fz.same _,Fz.same _⟩;simp only[Zv,Zy,and_true];refine⟨FzO.keep rfl zp,FzO.keep rfl zp,FzO.keep rfl zp,FzO.of (c:=.new) (fz:=0) (cs:=[.ptr 2131 g31 0]) rfl zp ⟨?_,trivial⟩⟩;exact Fz.ptr (v:=.agg [.str m.name,Za c 2 Zua m.vars,Za c 1 V.str m.events,Za c 2 Zua m.regions,Za c 8 (Z5a d) m.verts,Za c 8 (Z4b d) m.ways,ixV .new .new .new ((Ztk m.p).rc Col.bk)]) (c:=.new) (fz:=0) (g:=g31) rfl zp;refine Zf Zj ?_
 refine Zaa m.ways.l.length (λt (w:List StP×Nat)=>st [(1,.view .new (Z4 c d m)),(2,.ptr 2102 g2 0),(3,.ptr 2103 g3 0),(4,.ptr 2104 g4 0),(8,.ptr 2108 g8 0),(34,.int .i64 m.ways.l.length),(35,.int .i64 t)] [(2102,.cells .new g2 0 [grown 3000 w.2 6 w.1]),(2103,.cells .new g3 0 [.int .i64 0]),(2104,.cells .new g4 0 [.int .i64 0]),(2108,.cells .new g8 0 [wkV .new c d .new .new .new m ((Ztk m.p).rc Col.bk)]),(3000,Zca w.2 Zme w.1)])
  (λt w=>w.1=(List.range t).flatMap (fun(i:Nat)=>m.p.beginL i)/\w.1.length<=4096) 0 ([],0) (Nat.zero_le _) ⟨rfl,zd⟩ (Weak.st (by rw[Zj];exact zp) (by simp -implicitDefEqProofs only[go_sem,seval,Znc,Z1c])) ?_
 rintro t ⟨l,g⟩ ht ⟨hl,hll⟩ L1 hL1;simp only at hl hll
 by_cases ht1:t<m.ways.l.length
 have hlt:decide ((t:Int)<(m.ways.l.length:Int))=true:=zT;refine Z1f hlt ?_;refine Z1f hlt ?_;refine Z1f hlt ?_;refine CallA.inl [(1004,.dead),(1005,.dead),(1006,.dead),(1007,.dead),(1009,.dead)] zk ?_ ((Z10 G hG .new c d .new .new .new m _ hx (by rw[m.nw];exact hb.nw) wfd t zo (by rw[m.nw];omega)).mono ?_);intro p hp;simp only[List.mem_cons,List.not_mem_nil,or_false]at hp
 rcases hp with rfl|rfl|rfl|rfl|rfl<;>rfl
 rintro w H' ⟨fid,caps,rfl,hen,hit⟩;simp -implicitDefEqProofs only[go_sem,seval,Zfa];refine AW.block ?_;refine AW.weak (Weak.st (l:=[(1,.view .new (Z4 c d m)),(2,.ptr 2102 g2 0),(3,.ptr 2103 g3 0),(4,.ptr 2104 g4 0),(8,.ptr 2108 g8 0),(34,.int .i64 m.ways.l.length),(35,.int .i64 t),(40,.func (.func fid) [] caps)]) (m:=[(2102,.cells .new g2 0 [grown 3000 g 6 l]),(2103,.cells .new g3 0 [.int .i64 0]),(2104,.cells .new g4 0 [.int .i64 0]),(2108,.cells .new g8 0 [wkV .new c d .new .new .new m ((Ztk m.p).rc Col.bk)]),(3000,Zca g Zme l),(1004,(H' 1004).noMp),(1005,(H' 1005).noMp),(1006,(H' 1006).noMp),(1007,(H' 1007).noMp),(1009,(H' 1009).noMp)]) zp zp) ?_
 refine AW.range 50 2000 5000 2952 (fun(w:List StP×Bool) (H:Heap)=>w.1.length<=4096/\∃ g,if w.2=true then H=Zfa Zk [(2102,.cells .new g2 0 [.nils]),(2103,.cells .new g3 0 [.int .i64 0]),(2104,.cells .new g4 0 [.int .i64 3])]else H=Zfa Zk [(2102,.cells .new g2 0 [grown 3000 g 6 w.1]),(2103,.cells .new g3 0 [.int .i64 0]),(2104,.cells .new g4 0 [.int .i64 0]),(2108,.cells .new g8 0 [wkV .new c d .new .new .new m ((Ztk m.p).rc Col.bk)]),(3000,Zca g Zme w.1)]) allN allJ (λ_ _=>True) (l,false) rfl hen (by exact λ_ h=>nomatch h) (λp hp=>?_) (λ_=>rfl) zd zd
  (λl' r=>hit _ (by simp -implicitDefEqProofs only[go_sem,seval,Zrfa]) (by simp -implicitDefEqProofs only[go_sem,seval,Zrfa]) (by simp -implicitDefEqProofs only[go_sem,seval,Zrfa]) (by simp -implicitDefEqProofs only[go_sem,seval,Zrfa]) (by simp -implicitDefEqProofs only[go_sem,seval,Zrfa])) (λ_ _ _=>trivial) rfl ⟨hll,g,?_⟩ (Zci rfl λ_ _ _=>trivial) ?_ ?_
 simp only[List.mem_cons,List.not_mem_nil,or_false]at hp;subst hp;exact(by decide:41<64);rw[if_neg zS];simp -implicitDefEqProofs only[go_sem,seval,Z8n];exact Zea _ _ _ rfl
 .rintro lp Y ⟨l2,b2⟩ k Hk _ hrd _ hjm ⟨hl2,g',hH⟩
  cases b2;rotate_left;cases hjm;rw[if_neg zS]at hH;simp only at hl2;generalize upd (Zia 2000 Hk) 5000 .dead=B at *;subst hH;refine Zs ?_;refine AW.region zk ?_;refine Zsf Zx6 ?_;intro g10;refine Zsf Zx6 ?_;intro Zx hXZ _;refine AW.weak (Weak.st (l:=[(1,.view .new (Z4 c d m)),(2,.ptr 2102 g2 0),(3,.ptr 2103 g3 0),(4,.ptr 2104 g4 0),(8,.ptr 2108 g8 0),(10,.ptr 2962 g10 0)]) (m:=[(2962,.cells .new g10 0 (Zbf .new (k,.nils)).cells),(2102,.cells .new g2 0 [grown 3000 g' 6 l2]),(2103,.cells .new g3 0 [.int .i64 0]),(2104,.cells .new g4 0 [.int .i64 0]),(2108,.cells .new g8 0 [wkV .new c d .new .new .new m ((Ztk m.p).rc Col.bk)]),(3000,Zca g' Zme l2)]) zp (by simp -implicitDefEqProofs only[go_sem,seval,Zxf])) ?_
  by_cases e4:l2.length=4096
  have e5:allN (l2,false) k=(l2,true):=if_pos e4
  have q5:((l2.length:Int)==4096)=true:=by rw[e4];rfl
  refine Zf q5 ?_;refine AW.weak (Weak.st (l:=[]) (m:=[(2102,.cells .new g2 0 [.nils]),(2103,.cells .new g3 0 [.int .i64 0]),(2104,.cells .new g4 0 [.int .i64 3])]) zp zp) ?_;refine AW.ret ?_;refine⟨by rw[e5];rfl,?_⟩;rw[e5];refine⟨zo,0,?_⟩;rw[if_pos rfl];refine Zs ?_;exact Zea _ _ _ rfl;have e5:allN (l2,false) k=(l2++[k],false):=if_neg e4
  have q5:((l2.length:Int)==4096)=false:=by
   rw[beq_eq_false_iff_ne];omega
  refine AW.later ?_;refine Zf (zi q5 Zxf) ?_;intro g47;refine Zhb (f:=Zme) (l:=l2) (l2:=[k]) (g:=g') (λ_=>rfl) rfl rfl rfl zp (Z9 zo zO) λg2'=>?_;refine Zs ?_;refine⟨_,Weak.st (l:=[]) (m:=[(2102,.cells .new g2 0 [grown 3000 g2' 6 (l2++[k])]),(2103,.cells .new g3 0 [.int .i64 0]),(2104,.cells .new g4 0 [.int .i64 0]),(2108,.cells .new g8 0 [wkV .new c d .new .new .new m ((Ztk m.p).rc Col.bk)]),(3000,Zca g2' Zme (l2++[k]))]) zp zp,?_⟩;refine⟨by rw[e5];rfl,?_⟩;rw[e5];refine⟨zO,g2',?_⟩;rw[if_neg zS];simp -implicitDefEqProofs only[go_sem,seval,Z8n];exact Zea _ _ _ rfl
 rintro H2 ⟨hl2,g',hH⟩ hlow hol
 have hsn:(List.range (t+1)).flatMap (fun(i:Nat)=>m.p.beginL i)=l++m.p.beginL t:=by
  rw[List.range_succ,List.flatMap_append,<- hl,List.flatMap_cons,List.flatMap_nil,List.append_nil]
 rw[Zc7 _ _ hll]at hl2 hH⊢
 by_cases h3:l.length+(m.p.beginL t).length<=4096
 rw[if_pos h3]at hl2 hH⊢;rw[if_neg zS]at hH;have w1:IntKind.i64.wrap ((t:Int)+1)=(t:Int)+1:=w64 zo (by have:=hb.nw;omega);refine Zs ?_;refine AW.weak (Weak.rng (l:=[(1,.view .new (Z4 c d m)),(2,.ptr 2102 g2 0),(3,.ptr 2103 g3 0),(4,.ptr 2104 g4 0),(8,.ptr 2108 g8 0),(34,.int .i64 m.ways.l.length),(35,.int .i64 t)]) hH zp) ?_;refine Zf w1 ?_;exact hL1 _ ⟨ht1,(l++m.p.beginL t,g'),⟨hsn.symm,hl2⟩,Weak.st zp zp⟩;rw[if_neg h3]at hl2 hH⊢;rw[if_pos rfl]at hH
 have hlen:4096<m.p.allL.length:=by
  have e1:m.p.ways.length=(t+1)+(m.p.ways.length-(t+1)):=by rw[m.nw];omega
  rw[PM.allL,e1,List.range_add,List.flatMap_append,List.length_append,hsn,List.length_append];omega
 rw[if_pos hlen];refine Zs ?_;refine AW.weak (Weak.rng (l:=[(2,.ptr 2102 g2 0),(3,.ptr 2103 g3 0),(4,.ptr 2104 g4 0)]) hH zp) ?_;exact Zr
 .have hte:t=m.ways.l.length:=zo
  have hlt:decide ((m.ways.l.length:Int)<(m.ways.l.length:Int))=false:=zF
  have hL:l=m.p.allL:=by rw[hl,hte,PM.allL,m.nw]
  clear hl;subst hL;rw[hte,if_neg (Nat.not_lt.2 hll)];refine Z1f hlt ?_;refine Z1f hlt ?_
  have hcall:∀ {H:Heap} {K:V->Heap->Prop},H 3000=Zca g Zme m.p.allL->(∀ v H',H'=upd H 3000 (if m.p.allL=[]then .dead else .cells .new g 0 (lvC m.p.allL (rvF m.p m.p.allL m.p.allL.length)))->K v H')->CallA Tryz.prog G 29 [wkV .new c d .new .new .new m ((Ztk m.p).rc Col.bk),grown 3000 g 6 m.p.allL] H K:=by
   intro H K hH hK
   by_cases hn:m.p.allL=[]
   rw[if_pos hn]at hK;rw[hn]at hH⊢;refine CallA.pure hG zk ?_;refine(show Spec Tryz.prog G 29 [_,.nils] Zk _ from ?_);exact(Zt8 G _).mono λv _ _=>hK _ _ (Zea _ _ _ hH).symm;rw[if_neg hn]at hK;rw[Z2a _ _ _ hn];rw[Zzga m.p g hn]at hH;have hst:=λs hs=>m.p.allL_ok wfd s hs
   refine CallA.inl [(3000,.cells .new g 0 (lvC m.p.allL (rvF m.p m.p.allL 0)))] zk ?_ ((Zu8 G hG .new c d .new .new .new m _ hx m.p.allL hn zo (by have:=wfd.lx;omega) (λs hs=>by have:=(hst s hs).el;have:=wfd.lw;omega) (λs hs=>by
    have:=wfd.lw
    rcases(hst s hs).sn with h|h<;>omega) (λs hs=>PM.Wfd.atok wfd s hs) g).mono ?_)
   intro p hp;simp only[List.mem_cons,List.not_mem_nil,or_false]at hp;subst hp;exact hH;intro w H' e;refine hK _ _ ?_;simp -implicitDefEqProofs only[go_sem,seval,Zfa,e]
  refine hcall (zp) λv H' hH=>?_;subst hH;refine Zs ?_;refine AW.weak (Zw (λo=>o==3000) (l:=[(1,.view .new (Z4 c d m)),(2,.ptr 2102 g2 0),(3,.ptr 2103 g3 0),(4,.ptr 2104 g4 0),(8,.ptr 2108 g8 0)]) (m:=[(2102,.cells .new g2 0 [Za .new 6 (Z6a .new) (Zb m.p.withR)]),(2103,.cells .new g3 0 [.int .i64 0]),(2104,.cells .new g4 0 [.int .i64 0]),(2108,.cells .new g8 0 [wkV .new c d .new .new .new m ((Ztk m.p).rc Col.bk)])]) ?_ ?_) ?_;simp -implicitDefEqProofs only[go_sem,seval];exact⟨Fz.same _,Fz.same _,Fz.same _,Fz.same _,Fz.same _⟩;simp only[Zv,Zy,and_true];refine⟨FzO.of (c:=.new) (fz:=0) (cs:=[grown 3000 g 6 m.p.allL]) rfl zp ⟨?_,trivial⟩,FzO.keep rfl zp,FzO.keep rfl zp,FzO.keep rfl zp⟩
  by_cases hn:m.p.allL=[]
  have:m.p.withR=[]:=by rw[PM.withR,hn];rfl
  rw[this,hn];exact Fz.same _;have hn2:m.p.withR≠[]:=λh=>hn (by have:=Zyg m.p;rw[h]at this;exact List.length_eq_zero_iff.1 this.symm)
  have e9:Za .new 6 (Z6a .new) (Zb m.p.withR)=.slice .new false 6 (m.p.withR.map (Z6a .new)):=by
   cases h:m.p.withR with
   |nil=>exact absurd h hn2
   |cons=>rfl
  rw[Z2a _ _ _ hn,e9,<- Zyg];refine Z2b (f:=Z6a .new) (l:=m.p.withR) (c:=.new) (fz:=0) rfl ?_ λ_=>rfl;rw[Z3,if_neg hn,Zyg,lvC_end];rfl;refine Z1 ?_;have hq:=qok m wfd
  have hnw:m.p.ways.length<=600:=by rw[m.nw];exact hb.nw
  have hwl:m.p.withR.length<1000000:=by rw[Zyg];omega
  refine Z1a 2108 [Za .new 6 (Z6a .new) (Zb m.p.withR),.func (.func 31) [] [.view .new (wkV .new c d .new .new .new m ((Ztk m.p).rc Col.bk))]] ⟨Fz.same _,Fz.func ⟨Fz.ptr (v:=wkV .new c d .new .new .new m ((Ztk m.p).rc Col.bk)) (c:=.new) (fz:=0) zp zp,trivial⟩,trivial⟩ ?_
  refine Zc hG ?_ (ha:=by simp only[List.map_cons,List.map_nil,Zdb Col.ent Col.new 6 (Zbe Col.ent Col.new),V.recol,Zja,Zae]) (s:=Z79 G hG Col.new.ent Col.new.ent 31 (λcaps=>∃ b1 b c d e f g x,IxP m.p x/\caps=[.view b1 (wkV b c d e f g m x)]) (by
   rintro _ ⟨b1,b,c,d,e,f,g,x,hx,rfl⟩
   exact⟨_,_,_,_,_,_,_,_,hx.rc _,by simp only[List.map_cons,List.map_nil,V.recol,Zae];rfl⟩) [.view Col.new.ent (wkV Col.new.ent c.ent d.ent Col.new.ent Col.new.ent Col.new.ent m (((Ztk m.p).rc Col.bk).rc Col.ent))] ⟨_,_,_,_,_,_,_,_,hx.rc _,rfl⟩ zk (λq => !(m.p.rightS q.1 q.2)) (Zb m.p.withR) (by rw[Zl];exact hwl) (by
   rintro q hq2 cr _ ⟨b1,b,c,d,e,f,g,x,hx,rfl⟩;rw[Zl]at hq2
   exact Znia G hG cr b1 b c d e f g m x hx hnw wfd q (hq q hq2)))
  unfold Zwp
  cases hfi:m.p.withR.findIdx? (λq => !(m.p.rightS q.1 q.2))with
  |none=>
   have hfd:m.p.withR.find? (λq => !(m.p.rightS q.1 q.2))=none:=by
    rw[List.findIdx?_eq_none_iff]at hfi
    exact List.find?_eq_none.2 λq hq=>by simpa using hfi q hq
   rw[hfd];have q8:decide ((-1:Int)>=0)=false:=rfl;refine Zg q8 ?_;rfl
  |some n=>
   obtain⟨q,hgq,hfd⟩:=Zq6 hfi;rw[hfd];have q8:decide ((n:Int)>=0)=true:=zT;have hnl:=(List.getElem?_eq_some_iff.1 hgq).1;refine Zg q8 ?_;refine Zp ⟨λ_=>.int .i64 q.1.first,λj=>if j=4 then .lend else .pure⟩ zk hG zk zk ?_;refine Zsf (zi hgq (zi hnl (zi Zna (zi @Int.natCast_nonneg @Int.ofNat_lt)))) ?_;exact Zr
end Go.Hs
end

section
namespace Go.Hs
open Go.Proofs
set_option maxRecDepth 10000
set_option maxHeartbeats 4000000
theorem Zif(G:Nat->V)(hG:GOk G)(c c1:Col)(a b:Sl Int)(h:a.l=b.l)(ha:a.l.length<=1000000):
  Spec Tryz.prog G 13 [Za c 1 (V.int .i64) a,Za c1 1 (V.int .i64) b] Zk (λv _=>v=.bool true):=by
 refine Zo 0 26 [.tmp 4] Tryz.func13 λX=>?_
 have u0:((a.l.length:Int) != (b.l.length:Int))=false:=by rw[h];simp
 refine Zf u0 ?_;refine Zaa a.l.length (λk (_:Unit)=>st [(0,Za c 1 (V.int .i64) a),(1,Za c1 1 (V.int .i64) b),(5,.int .i64 k)] []) (λ_ _=>True) 0 () (Nat.zero_le _) trivial (Weak.st zp zp) ?_;intro k _ hk _ L3 hL3
 by_cases hk1:k<a.l.length
 have hlt:decide ((k:Int)<(a.l.length:Int))=true:=zT;have hg:=List.getElem?_eq_getElem hk1;generalize a.l[k]=p at hg
 have hg2:b.l[k]?=some p:=by rw[<- h];exact hg
 have hk2:k<b.l.length:=by rw[<- h];exact hk1
 have w1:IntKind.i64.wrap ((k:Int)+1)=(k:Int)+1:=w64 zo zo;have u1:(p != p)=false:=zS;refine Z1f hlt ?_;refine ZTf (zi u1 (zi hg (zi hg2 (zi hk1 (zi hk2 (zi @Int.natCast_nonneg @Int.ofNat_lt)))))) hG ?_;refine Zf w1 ?_;exact hL3 _ ⟨hk1,(),trivial,Weak.st zp zp⟩;have hke:k=a.l.length:=zo;have hlt:decide ((k:Int)<(a.l.length:Int))=false:=zF;rw[hke]at hlt⊢;exact Zq hlt
@[go_sem] theorem recol_RSs(g:Col->Col)(c c1:Col)(s:Sl (StP×List Int)):(Za c 6 (Z6a c1) s).recol g=Za (g c) 6 (Z6a (g c1)) s:=Zdb g c 6 (Zbe g c1) s
structure RfS where
 so:Sl Int
 fi:Int
 gu:Sl Int
 ef:Sl Int
 en:Sl (Int×Sl Int)
 re:Sl Int
 tw:Bool
def Zv0(c:Col)(e:Int×Sl Int):V:=.agg [.int .i64 e.1,Za c 1 (V.int .i64) e.2]
theorem Zat(c:Col)(e:Int×Sl Int):Zv0 c e=.agg [.int .i64 e.1,Za c 1 (V.int .i64) e.2]:=rfl
def Zgaa(c:Col)(r:RfS):V:=.agg [Za c 1 (V.int .i64) r.so,.int .i64 r.fi,Za c 1 (V.int .i64) r.gu,Za c 1 (V.int .i64) r.ef,Za c 2 (Zv0 c) r.en,Za c 1 (V.int .i64) r.re,.bool r.tw]
theorem Z8s(c:Col)(r:RfS):Zgaa c r=.agg [Za c 1 (V.int .i64) r.so,.int .i64 r.fi,Za c 1 (V.int .i64) r.gu,Za c 1 (V.int .i64) r.ef,Za c 2 (Zv0 c) r.en,Za c 1 (V.int .i64) r.re,.bool r.tw]:=rfl
theorem Zdla(g:Col->Col)(c:Col)(e:Int×Sl Int):(Zv0 c e).recol g=Zv0 (g c) e:=by simp only[Zat,Z4a,List.map_cons,List.map_nil,Zwa,Z7a]
structure RfIs(q:StP×List Int)(r:RfS):Prop where
 so:q.1.sources=r.so.l
 fi:q.1.first=r.fi
 gu:q.1.guards=r.gu.l
 ef:q.1.effects=r.ef.l
 en:q.1.ends=r.en.l.map λe=>(e.1,e.2.l)
 re:q.2=r.re.l
structure RfN(q:StP×List Int):Prop where
 so:q.1.sources.length<=1000000
 gu:q.1.guards.length<=1000000
 ef:q.1.effects.length<=1000000
 en:q.1.ends.length<=1000000
 re:q.2.length<=1000000
 br:∀ e∈q.1.ends,e.2.length<=1000000
theorem Zr7(G:Nat->V)(hG:GOk G)(c c1:Col)(q:StP×List Int)(r:RfS)(h:RfIs q r)(n:RfN q):
  Spec Tryz.prog G 12 [Z6a c q,Zgaa c1 r] Zk (λv _=>v=.bool true):=by
 have sm:∀ (c c1:Col) (l:List Int) (b:Sl Int),l=b.l->l.length<=1000000->Spec Tryz.prog G 13 [Za c 1 (V.int .i64) (Zb l),Za c1 1 (V.int .i64) b] Zk (λv _=>v=.bool true):=
  λc c1 l b e hn=>Zif G hG c c1 (Zb l) b (by rw[Zl];exact e) (by rw[Zl];exact hn)
 refine Zo 0 88 [.tmp 4] Tryz.func12 λX=>?_;refine Zf (zi Zna Z8s) ?_;intro g2 g3
 have u1:(q.1.first != r.fi)=false:=by rw[h.fi];simp
 have hEs:Z0b c q.1.ends=Za c 2 (Zpf c) (Zb q.1.ends):=rfl
 have hen:q.1.ends.length=r.en.l.length:=by rw[h.en,List.length_map]
 have u2:((q.1.ends.length:Int) != (r.en.l.length:Int))=false:=by rw[hen];simp
 have f1:=zi u1 (zi u2 (zi hEs Zna));refine Zf f1 ?_;refine Zc hG ?_ (s:=sm _ _ _ _ h.so n.so);refine Zg f1 ?_;refine Zc hG ?_ (s:=sm _ _ _ _ h.gu n.gu);refine Zg f1 ?_;refine Zc hG ?_ (s:=sm _ _ _ _ h.ef n.ef);refine Zg f1 ?_;refine Zc hG ?_ (s:=sm _ _ _ _ h.re n.re)
 have e7:(Zb q.1.ends).l.length=r.en.l.length:=by rw[Zl];exact hen
 have u3:((r.en.l.length:Int) != (r.en.l.length:Int))=false:=zS;refine Zsf (zi hen (zi e7 (zi u3 u1))) ?_;refine AW.weak (Zw (λo=>o==2||o==3) (l:=[(2,.view .new (Z6a c q)),(3,.view .new (Zgaa c1 r)),(51,.bool false)]) (m:=[]) ?_ trivial) ?_;simp -implicitDefEqProofs only[go_sem,seval];exact⟨Fz.ptr (v:=Z6a c q) (c:=.new) (fz:=0) zp zp,Fz.ptr (v:=Zgaa c1 r) (c:=.new) (fz:=0) zp zp,Fz.same _⟩;refine Z ?_;refine Zaa r.en.l.length (λk (_:Unit)=>st [(2,.view .new (Z6a c q)),(3,.view .new (Zgaa c1 r)),(5,.int .i64 k)] []) (λ_ _=>True) 0 () (Nat.zero_le _) trivial (Weak.st zp zp) ?_;intro k _ hk _ L3 hL3
 by_cases hk1:k<r.en.l.length
 .have hlt:decide ((k:Int)<(r.en.l.length:Int))=true:=zT
  have hg:=List.getElem?_eq_getElem hk1;generalize r.en.l[k]=e at hg
  have hg2:q.1.ends[k]?=some (e.1,e.2.l):=by rw[h.en,List.getElem?_map,hg];rfl
  have hk2:k<q.1.ends.length:=by rw[hen];exact hk1
  have hm2:=List.mem_of_getElem? hg2;have w1:IntKind.i64.wrap ((k:Int)+1)=(k:Int)+1:=w64 zo (by have:=n.en;omega);have u4:(e.1 != e.1)=false:=zS;have f2:=zi hlt (zi e7 (zi hg (zi hg2 (zi hk1 (zi hk2 (zi u4 (zi hEs (zi Zna (zi Z8s (zi Z8c (zi Zat (zi @Int.natCast_nonneg @Int.ofNat_lt))))))))))));refine Z1f f2 ?_;refine Z0f f2 ?_
  repeat first|refine AW.block ?_|refine Z6 ?_
  refine Zp ⟨λ_=>.bool true,λ_=>.pure⟩ zk hG zk zk ?_;simp -implicitDefEqProofs only[go_sem,seval,hk1,hk2,hg,hg2,u4,hEs,Z8c,Zat,Zna,Z8s,e7,Int.ofNat_lt,Int.natCast_nonneg];refine⟨⟨by kernel_rfl,?_⟩,?_⟩;simp -implicitDefEqProofs only[go_sem,seval,List.map_cons,List.map_nil]
  exact(sm _ _ _ _ rfl (n.br _ hm2)).mono λv _ e=>by rw[e];rfl
  refine Zf w1 ?_;exact hL3 _ ⟨hk1,(),trivial,Weak.st (by simp -implicitDefEqProofs only[go_sem,seval,Zna,Z8s,hEs];rfl) zp⟩
 have hke:k=r.en.l.length:=zo;have hlt:decide ((r.en.l.length:Int)<(r.en.l.length:Int))=false:=zF;rw[hke];have e8:=e7;refine Zf (zi hlt (zi e7 (zi hEs (zi Zna hen)))) ?_;rfl
end Go.Hs
end

section
namespace Go.Hs
open Go.Proofs
set_option maxRecDepth 10000
set_option maxHeartbeats 4000000
def txR(s:List UInt8):Prop:=s.length<=140737488351232
structure MdR(m:MdM):Prop where
 nm:txR m.name
 var:m.vars.l.length<=140737488351232/\∀ p∈m.vars.l,txR p.1
 ev:m.events.l.length<=140737488351232/\∀ s∈m.events.l,txR s
 rg:m.regions.l.length<=140737488351232/\∀ p∈m.regions.l,txR p.1
 vt:m.verts.l.length<=140737488351232/\∀ x∈m.verts.l,txR x.name/\txR x.entry/\txR x.exit/\txR x.sub/\x.defers.l.length<=140737488351232/\∀ s∈x.defers.l,txR s
 wy:m.ways.l.length<=140737488351232/\∀ x∈m.ways.l,txR x.name/\txR x.guard/\txR x.effect/\x.triggers.l.length<=140737488351232/\∀ s∈x.triggers.l,txR s
def Zqc(s:List UInt8):Bool:=decide (s.length<=100)||decide (4096<s.length)
def Zgk(n most:Nat):Bool:=decide (n<=40)||(decide (most<n)&&decide (n<=600))
theorem Zoh{n most:Nat}(h:Zgk n most=true):n<=600:=by
 simp only[Zgk,Bool.or_eq_true,Bool.and_eq_true,decide_eq_true_eq]at h;omega
structure FewM(m:MdM):Prop where
 nv:m.vars.l.length<=600
 ne:m.events.l.length<=600
 nr:m.regions.l.length<=600
 nx:m.verts.l.length<=600
 nw:m.ways.l.length<=600
 vt:∀ x∈m.verts.l,Zqc x.entry=true/\Zqc x.exit=true/\x.defers.l.length<=40
 wy:∀ x∈m.ways.l,Zqc x.guard=true/\Zqc x.effect=true/\x.triggers.l.length<=40
theorem Z4e(G:Nat->V)(n most:Nat):Spec Tryz.prog G 36 [.int .i64 n,.int .i64 most] Zk (λv _=>v=.bool (Zgk n most)):=by
 refine Zo 0 16 [.tmp 4] Tryz.func36 λX=>?_;rw[Zgk];have e1:decide ((n:Int)<=40)=decide (n<=40):=decide_eq_decide.2 zo;have e2:decide ((n:Int)>(most:Int))=decide (most<n):=decide_eq_decide.2 zo;have e3:decide ((n:Int)<=600)=decide (n<=600):=decide_eq_decide.2 zo;cases q1:decide (n<=40);rw[q1]at e1;cases q2:decide (most<n);rw[q2]at e2;exact Zq (zi e1 e2);rw[q2]at e2;exact Zq (zi e1 (zi e2 e3));rw[q1]at e1;exact Zq e1
theorem Zyc(G:Nat->V)(s:List UInt8):Spec Tryz.prog G 37 [.str s] Zk (λv _=>v=.bool (Zqc s)):=by
 refine Zo 0 11 [.tmp 2] Tryz.func37 λX=>?_;rw[Zqc];have e1:decide ((s.length:Int)<=100)=decide (s.length<=100):=decide_eq_decide.2 zo;have e2:decide ((s.length:Int)>4096)=decide (4096<s.length):=decide_eq_decide.2 zo;cases q1:decide (s.length<=100);rw[q1]at e1;exact Zq (zi e1 e2);rw[q1]at e1;exact Zq e1
theorem Z6n(G:Nat->V)(hG:GOk G)(c:Col)(l:Sl (List UInt8))(hl:l.l.length<=140737488351232):
  Spec Tryz.prog G 39 [Za c 1 V.str l] Zk (λv _=>∃ b,v=.bool b/\(b=true->l.l.length<=40)):=by
 refine Zo 0 19 [.tmp 2] Tryz.func39 λX=>?_;refine Z ?_;refine Zaa l.l.length (λk (_:Unit)=>st [(0,Za c 1 V.str l),(3,.int .i64 k)] []) (λ_ _=>True) 0 () (Nat.zero_le _) trivial (Weak.st zp zp) ?_;intro k _ hk _ L3 hL3
 by_cases hk1:k<l.l.length
 have hlt:decide ((k:Int)<(l.l.length:Int))=true:=zT;have hg:=List.getElem?_eq_getElem hk1;generalize l.l[k]=x at hg;have w1:IntKind.i64.wrap ((k:Int)+1)=(k:Int)+1:=w64 zo zo;refine Zf (zi hlt (zi hg (zi hk1 (zi @Int.natCast_nonneg @Int.ofNat_lt)))) ?_;refine Zc hG ?_ (s:=Zyc G x);cases q:Zqc x;refine Zg q ?_;exact⟨_,rfl,λh=>by cases h⟩;refine Zg (zi q w1) ?_;exact hL3 _ ⟨hk1,(),trivial,Weak.st zp zp⟩;have hke:k=l.l.length:=zo;have hlt:decide ((k:Int)<(l.l.length:Int))=false:=zF;rw[hke]at hlt⊢;refine Zf hlt ?_;exact⟨_,rfl,λh=>by have:=of_decide_eq_true h;omega⟩
theorem Zzc(G:Nat->V)(hG:GOk G)(c d:Col)(m:MdM)(hr:MdR m):Spec Tryz.prog G 38 [Z4 c d m] Zk (λv _=>∃ b,v=.bool b/\(b=true->FewM m)):=by
 refine Zo 0 97 [.tmp 2] Tryz.func38 λX=>?_;have b1:=hr.var.1;have b2:=hr.ev.1;have b3:=hr.rg.1;have b4:=hr.vt.1;have b5:=hr.wy.1;simp only[Zj];refine Z ?_;intro g1;refine AW.weak (Zw (λo=>o==1) (l:=[(1,.view .new (Z4 c d m))]) (m:=[]) ?_ trivial) ?_;refine Zs ?_;exact Fz.ptr (v:=Z4 c d m) (c:=.new) (fz:=0) zp zp;have w0:IntKind.i64.wrap ((m.vars.l.length:Int)+(m.events.l.length:Int))=(m.vars.l.length:Int)+(m.events.l.length:Int):=w64 zo zo
 by_cases h0:m.vars.l.length+m.events.l.length>0
 have f0:decide ((m.vars.l.length:Int)+(m.events.l.length:Int)>0)=true:=zT;refine Zf (zi w0 (zi f0 Zj)) ?_;exact⟨_,rfl,λh=>by cases h⟩;have f0:decide ((m.vars.l.length:Int)+(m.events.l.length:Int)>0)=false:=zF
 by_cases h1:m.verts.l.length>70
 have f1:decide ((m.verts.l.length:Int)>70)=true:=zT;refine Zf (zi w0 (zi f0 (zi f1 Zj))) ?_;exact⟨_,rfl,λh=>by cases h⟩;have f1:decide ((m.verts.l.length:Int)>70)=false:=zF
 by_cases h2:m.ways.l.length>600
 have f2:decide ((m.ways.l.length:Int)>600)=true:=zT;refine Zf (zi w0 (zi f0 (zi f1 (zi f2 Zj)))) ?_;exact⟨_,rfl,λh=>by cases h⟩;have f2:decide ((m.ways.l.length:Int)>600)=false:=zF
 by_cases h3:m.regions.l.length>70
 have f3:decide ((m.regions.l.length:Int)>70)=true:=zT;refine Zf (zi w0 (zi f0 (zi f1 (zi f2 (zi f3 Zj))))) ?_;exact⟨_,rfl,λh=>by cases h⟩;have f3:decide ((m.regions.l.length:Int)>70)=false:=zF;refine Z1f (zi w0 (zi f0 (zi f1 (zi f2 (zi f3 Zj))))) ?_;refine Z0 ?_;refine Zlc (fun(_:Unit)=>st [(1,.view .new (Z4 c d m))] []) (λ_=>∀ x∈m.verts.l,Zqc x.entry=true/\Zqc x.exit=true/\x.defers.l.length<=40) (λK1 hK1=>?_) ?_
 .refine Z ?_
  refine Zaa m.verts.l.length (λk (_:Unit)=>st [(1,.view .new (Z4 c d m)),(3,.int .i64 k)] []) (λk _=>∀ x∈m.verts.l.take k,Zqc x.entry=true/\Zqc x.exit=true/\x.defers.l.length<=40) 0 () (Nat.zero_le _) zS (Weak.st (zpf Zj) zp) ?_;intro k _ hk hR L3 hL3
  by_cases hk1:k<m.verts.l.length
  rotate_left;have hke:k=m.verts.l.length:=zo;have hlt:decide ((k:Int)<(m.verts.l.length:Int))=false:=zF;rw[hke,List.take_length]at hR;refine Zf (zi hlt Zj) ?_;exact hK1 _ () hR (Weak.st (zpf Zj) zp);have hlt:decide ((k:Int)<(m.verts.l.length:Int))=true:=zT;have hg:=List.getElem?_eq_getElem hk1;obtain⟨r1,r2,r3,r4,r5,_⟩:=hr.vt.2 _ (List.getElem_mem hk1)
  have htk:m.verts.l.take (k+1)=m.verts.l.take k++[m.verts.l[k]]:=by rw[List.take_succ_eq_append_getElem hk1]
  generalize m.verts.l[k]=x at hg r1 r2 r3 r4 r5 htk;unfold txR at r1 r2 r3 r4;have w1:IntKind.i64.wrap ((k:Int)+1)=(k:Int)+1:=w64 zo zo;have e1:IntKind.i64.wrap ((x.name.length:Int)+(x.entry.length:Int))=(x.name.length:Int)+(x.entry.length:Int):=w64 zo zo;have e2:IntKind.i64.wrap ((x.name.length:Int)+(x.entry.length:Int)+(x.exit.length:Int))=(x.name.length:Int)+(x.entry.length:Int)+(x.exit.length:Int):=w64 zo zo;have e3:IntKind.i64.wrap ((x.name.length:Int)+(x.entry.length:Int)+(x.exit.length:Int)+(x.sub.length:Int))=(x.name.length:Int)+(x.entry.length:Int)+(x.exit.length:Int)+(x.sub.length:Int):=w64 zo zo;have e4:IntKind.i64.wrap ((x.name.length:Int)+(x.entry.length:Int)+(x.exit.length:Int)+(x.sub.length:Int)+(x.defers.l.length:Int))=(x.name.length:Int)+(x.entry.length:Int)+(x.exit.length:Int)+(x.sub.length:Int)+(x.defers.l.length:Int):=w64 zo zo;refine Z1f (zi hlt Zj) ?_;refine Z1f (zi hg (zi hk1 (zi Zt (zi Zj (zi @Int.natCast_nonneg @Int.ofNat_lt))))) ?_;intro g4;refine Zs ?_;have f:=zi e1 (zi e2 (zi e3 (zi e4 Zt)))
  by_cases hs:x.name.length+x.entry.length+x.exit.length+x.sub.length+x.defers.l.length>9
  have q:decide ((x.name.length:Int)+(x.entry.length:Int)+(x.exit.length:Int)+(x.sub.length:Int)+(x.defers.l.length:Int)>9)=true:=zT;refine Zf (zi q f) ?_;exact⟨_,rfl,λh=>by cases h⟩;have q:decide ((x.name.length:Int)+(x.entry.length:Int)+(x.exit.length:Int)+(x.sub.length:Int)+(x.defers.l.length:Int)>9)=false:=zF;refine Zf (zi q (zi w1 f)) ?_;refine hL3 _ ⟨hk1,(),λy hy=>?_,Weak.st (zpf Zj) zp⟩;rw[htk]at hy
  rcases List.mem_append.1 hy with hy|hy
  exact hR y hy;rw[List.mem_singleton.1 hy];exact⟨by simp only[Zqc,Bool.or_eq_true,decide_eq_true_eq];omega,by simp only[Zqc,Bool.or_eq_true,decide_eq_true_eq];omega,zo⟩
 intro _ hvt;refine Zlc (fun(_:Unit)=>st [(1,.view .new (Z4 c d m))] []) (λ_=>∀ x∈m.ways.l,Zqc x.guard=true/\Zqc x.effect=true/\x.triggers.l.length<=40) (λK1 hK1=>?_) ?_
 .refine Z ?_
  refine Zaa m.ways.l.length (λk (_:Unit)=>st [(1,.view .new (Z4 c d m)),(5,.int .i64 k)] []) (λk _=>∀ x∈m.ways.l.take k,Zqc x.guard=true/\Zqc x.effect=true/\x.triggers.l.length<=40) 0 () (Nat.zero_le _) zS (Weak.st (zpf Zj) zp) ?_;intro k _ hk hR L3 hL3
  by_cases hk1:k<m.ways.l.length
  rotate_left;have hke:k=m.ways.l.length:=zo;have hlt:decide ((k:Int)<(m.ways.l.length:Int))=false:=zF;rw[hke,List.take_length]at hR;refine Zf (zi hlt Zj) ?_;exact hK1 _ () hR (Weak.st (zpf Zj) zp);have hlt:decide ((k:Int)<(m.ways.l.length:Int))=true:=zT;have hg:=List.getElem?_eq_getElem hk1;obtain⟨r1,r2,r3,r5,_⟩:=hr.wy.2 _ (List.getElem_mem hk1)
  have htk:m.ways.l.take (k+1)=m.ways.l.take k++[m.ways.l[k]]:=by rw[List.take_succ_eq_append_getElem hk1]
  generalize m.ways.l[k]=x at hg r1 r2 r3 r5 htk;unfold txR at r1 r2 r3;have w1:IntKind.i64.wrap ((k:Int)+1)=(k:Int)+1:=w64 zo zo;have e1:IntKind.i64.wrap ((x.name.length:Int)+(x.guard.length:Int))=(x.name.length:Int)+(x.guard.length:Int):=w64 zo zo;have e2:IntKind.i64.wrap ((x.name.length:Int)+(x.guard.length:Int)+(x.effect.length:Int))=(x.name.length:Int)+(x.guard.length:Int)+(x.effect.length:Int):=w64 zo zo;have e4:IntKind.i64.wrap ((x.name.length:Int)+(x.guard.length:Int)+(x.effect.length:Int)+(x.triggers.l.length:Int))=(x.name.length:Int)+(x.guard.length:Int)+(x.effect.length:Int)+(x.triggers.l.length:Int):=w64 zo zo;refine Z1f (zi hlt Zj) ?_;refine Z1f (zi hg (zi hk1 (zi Z8 (zi Zj (zi @Int.natCast_nonneg @Int.ofNat_lt))))) ?_;intro g6;refine Zs ?_;have f:=zi e1 (zi e2 (zi e4 Z8))
  by_cases hs:x.name.length+x.guard.length+x.effect.length+x.triggers.l.length>9
  have q:decide ((x.name.length:Int)+(x.guard.length:Int)+(x.effect.length:Int)+(x.triggers.l.length:Int)>9)=true:=zT;refine Zf (zi q f) ?_;exact⟨_,rfl,λh=>by cases h⟩;have q:decide ((x.name.length:Int)+(x.guard.length:Int)+(x.effect.length:Int)+(x.triggers.l.length:Int)>9)=false:=zF;refine Zf (zi q (zi w1 f)) ?_;refine hL3 _ ⟨hk1,(),λy hy=>?_,Weak.st (zpf Zj) zp⟩;rw[htk]at hy
  rcases List.mem_append.1 hy with hy|hy
  exact hR y hy;rw[List.mem_singleton.1 hy];exact⟨by simp only[Zqc,Bool.or_eq_true,decide_eq_true_eq];omega,by simp only[Zqc,Bool.or_eq_true,decide_eq_true_eq];omega,zo⟩
 intro _ hwy;refine Zf Zj ?_;exact⟨_,rfl,λ_=>⟨zo,zo,zo,zo,zo,hvt,hwy⟩⟩
theorem Znfa(G:Nat->V)(hG:GOk G)(c d:Col)(m:MdM)(hr:MdR m):Spec Tryz.prog G 20 [Z4 c d m] Zk (λv _=>∃ b,v=.bool b/\(b=true->FewM m)):=by
 refine Zo 0 122 [.tmp 2] Tryz.func20 λX=>?_;have b4:=hr.vt.1;have b5:=hr.wy.1;simp only[Zj];refine Z ?_;intro g1;refine AW.weak (Zw (λo=>o==1) (l:=[(1,.view .new (Z4 c d m))]) (m:=[]) ?_ trivial) ?_;refine Zs ?_;exact Fz.ptr (v:=Z4 c d m) (c:=.new) (fz:=0) zp zp;refine Zf Zj ?_;refine Zc hG ?_ (s:=Z4e G _ _);cases q:Zgk m.vars.l.length 64;refine Zg (zi q Zj) ?_;refine Ze hG ?_ (s:=Zzc G hG c.ent d.ent m hr);rintro _ ⟨b,rfl,hb⟩;refine Zs ?_;refine Z ?_;exact⟨b,rfl,hb⟩;have n1:=Zoh q;refine Zg (zi q Zj) ?_;refine Zc hG ?_ (s:=Z4e G _ _);cases q:Zgk m.events.l.length 64;refine Zg (zi q Zj) ?_;refine Ze hG ?_ (s:=Zzc G hG c.ent d.ent m hr);rintro _ ⟨b,rfl,hb⟩;refine Zs ?_;refine Z ?_;exact⟨b,rfl,hb⟩;have n2:=Zoh q;refine Zg (zi q Zj) ?_;refine Zc hG ?_ (s:=Z4e G _ _);cases q:Zgk m.regions.l.length 512;refine Zg (zi q Zj) ?_;refine Ze hG ?_ (s:=Zzc G hG c.ent d.ent m hr);rintro _ ⟨b,rfl,hb⟩;refine Zs ?_;refine Z ?_;exact⟨b,rfl,hb⟩;have n3:=Zoh q;refine Zg (zi q Zj) ?_;refine Zc hG ?_ (s:=Z4e G _ _);cases q:Zgk m.verts.l.length 512;refine Zg (zi q Zj) ?_;refine Ze hG ?_ (s:=Zzc G hG c.ent d.ent m hr);rintro _ ⟨b,rfl,hb⟩;refine Zs ?_;refine Z ?_;exact⟨b,rfl,hb⟩;have n4:=Zoh q;refine Zg (zi q Zj) ?_;refine Zc hG ?_ (s:=Z4e G _ _);cases q:Zgk m.ways.l.length 512;refine Zg (zi q Zj) ?_;refine Ze hG ?_ (s:=Zzc G hG c.ent d.ent m hr);rintro _ ⟨b,rfl,hb⟩;refine Zs ?_;refine Z ?_;exact⟨b,rfl,hb⟩
 have n5:=Zoh q;refine Zg (zi q Zj) ?_;refine Zc hG ?_ (s:=Zyc G m.name);cases q:Zqc m.name;refine Zg (zi q Zj) ?_;refine Ze hG ?_ (s:=Zzc G hG c.ent d.ent m hr);rintro _ ⟨b,rfl,hb⟩;refine Zs ?_;refine Z ?_;exact⟨b,rfl,hb⟩;refine Zsf q ?_;refine Z0 ?_;refine Zlc (fun(_:Unit)=>st [(1,.view .new (Z4 c d m))] []) (λ_=>∀ x∈m.verts.l,Zqc x.entry=true/\Zqc x.exit=true/\x.defers.l.length<=40) (λK1 hK1=>?_) ?_
 .refine Z ?_
  refine Zaa m.verts.l.length (λk (_:Unit)=>st [(1,.view .new (Z4 c d m)),(3,.int .i64 k)] []) (λk _=>∀ x∈m.verts.l.take k,Zqc x.entry=true/\Zqc x.exit=true/\x.defers.l.length<=40) 0 () (Nat.zero_le _) zS (Weak.st (zpf Zj) zp) ?_;intro k _ hk hR L3 hL3
  by_cases hk1:k<m.verts.l.length
  rotate_left;have hke:k=m.verts.l.length:=zo;have hlt:decide ((k:Int)<(m.verts.l.length:Int))=false:=zF;rw[hke,List.take_length]at hR;refine Zf (zi hlt Zj) ?_;exact hK1 _ () hR (Weak.st (zpf Zj) zp);have hlt:decide ((k:Int)<(m.verts.l.length:Int))=true:=zT;have hg:=List.getElem?_eq_getElem hk1;obtain⟨_,_,_,_,r5,_⟩:=hr.vt.2 _ (List.getElem_mem hk1)
  have htk:m.verts.l.take (k+1)=m.verts.l.take k++[m.verts.l[k]]:=by rw[List.take_succ_eq_append_getElem hk1]
  generalize m.verts.l[k]=x at hg r5 htk;have w1:IntKind.i64.wrap ((k:Int)+1)=(k:Int)+1:=w64 zo zo;refine Z1f (zi hlt Zj) ?_;refine Z1f (zi hg (zi hk1 (zi Zt (zi Zj (zi @Int.natCast_nonneg @Int.ofNat_lt))))) ?_;intro g4;refine Zs ?_;refine Zf Zt ?_;refine Zc hG ?_ (s:=Zyc G x.name);cases q:Zqc x.name;refine Zg q ?_;exact⟨_,rfl,λh=>by cases h⟩;refine Zg (zi q Zt) ?_;refine Zc hG ?_ (s:=Zyc G x.entry);cases q:Zqc x.entry;refine Zg q ?_;exact⟨_,rfl,λh=>by cases h⟩;refine Zg (zi q Zt) ?_;have s2:=q
  try clear q
  refine Zc hG ?_ (s:=Zyc G x.exit);cases q:Zqc x.exit;refine Zg q ?_;exact⟨_,rfl,λh=>by cases h⟩;refine Zg (zi q Zt) ?_;have s3:=q
  try clear q
  refine Zc hG ?_ (s:=Zyc G x.sub);cases q:Zqc x.sub;refine Zg q ?_;exact⟨_,rfl,λh=>by cases h⟩;refine Zg (zi q Zt) ?_;refine Ze hG ?_ (s:=Z6n G hG _ x.defers r5);rintro _ ⟨b,rfl,hb⟩;cases b;refine Zs ?_;refine Z ?_;exact⟨_,rfl,λh=>by cases h⟩;refine Zs ?_;refine Zf w1 ?_;refine hL3 _ ⟨hk1,(),λy hy=>?_,Weak.st (zpf Zj) zp⟩;rw[htk]at hy
  rcases List.mem_append.1 hy with hy|hy
  exact hR y hy;rw[List.mem_singleton.1 hy];exact⟨s2,s3,hb rfl⟩
 intro _ hvt;refine Zlc (fun(_:Unit)=>st [(1,.view .new (Z4 c d m))] []) (λ_=>∀ x∈m.ways.l,Zqc x.guard=true/\Zqc x.effect=true/\x.triggers.l.length<=40) (λK1 hK1=>?_) ?_
 .refine Z ?_
  refine Zaa m.ways.l.length (λk (_:Unit)=>st [(1,.view .new (Z4 c d m)),(5,.int .i64 k)] []) (λk _=>∀ x∈m.ways.l.take k,Zqc x.guard=true/\Zqc x.effect=true/\x.triggers.l.length<=40) 0 () (Nat.zero_le _) zS (Weak.st (zpf Zj) zp) ?_;intro k _ hk hR L3 hL3
  by_cases hk1:k<m.ways.l.length
  rotate_left;have hke:k=m.ways.l.length:=zo;have hlt:decide ((k:Int)<(m.ways.l.length:Int))=false:=zF;rw[hke,List.take_length]at hR;refine Zf (zi hlt Zj) ?_;exact hK1 _ () hR (Weak.st (zpf Zj) zp);have hlt:decide ((k:Int)<(m.ways.l.length:Int))=true:=zT;have hg:=List.getElem?_eq_getElem hk1;obtain⟨_,_,_,r5,_⟩:=hr.wy.2 _ (List.getElem_mem hk1)
  have htk:m.ways.l.take (k+1)=m.ways.l.take k++[m.ways.l[k]]:=by rw[List.take_succ_eq_append_getElem hk1]
  generalize m.ways.l[k]=x at hg r5 htk;have w1:IntKind.i64.wrap ((k:Int)+1)=(k:Int)+1:=w64 zo zo;refine Z1f (zi hlt Zj) ?_;refine Z1f (zi hg (zi hk1 (zi Z8 (zi Zj (zi @Int.natCast_nonneg @Int.ofNat_lt))))) ?_;intro g6;refine Zs ?_;refine Zf Z8 ?_;refine Zc hG ?_ (s:=Zyc G x.name);cases q:Zqc x.name;refine Zg q ?_;exact⟨_,rfl,λh=>by cases h⟩;refine Zg (zi q Z8) ?_;refine Zc hG ?_ (s:=Zyc G x.guard);cases q:Zqc x.guard;refine Zg q ?_;exact⟨_,rfl,λh=>by cases h⟩;refine Zg (zi q Z8) ?_;have s2:=q
  try clear q
  refine Zc hG ?_ (s:=Zyc G x.effect);cases q:Zqc x.effect;refine Zg q ?_;exact⟨_,rfl,λh=>by cases h⟩;refine Zg (zi q Z8) ?_;have s3:=q
  try clear q
  refine Ze hG ?_ (s:=Z6n G hG _ x.triggers r5);rintro _ ⟨b,rfl,hb⟩;cases b;refine Zs ?_;refine Z ?_;exact⟨_,rfl,λh=>by cases h⟩;refine Zs ?_;refine Zf w1 ?_;refine hL3 _ ⟨hk1,(),λy hy=>?_,Weak.st (zpf Zj) zp⟩;rw[htk]at hy
  rcases List.mem_append.1 hy with hy|hy
  exact hR y hy;rw[List.mem_singleton.1 hy];exact⟨s2,s3,hb rfl⟩
 intro _ hwy;refine Z ?_;exact⟨_,rfl,λ_=>⟨n1,n2,n3,n4,n5,hvt,hwy⟩⟩
end Go.Hs
end

section
namespace Go.Hs
open Go.Proofs
set_option maxRecDepth 10000
set_option maxHeartbeats 4000000
def smallM:MdM:=⟨[77],.nil,.nil,.mk false [([],-1)],.mk false [⟨[],3,0,-1,[],[],.nil,[]⟩,⟨[115],1,0,-1,[],[],.nil,[]⟩],.mk false [⟨[],0,1,.nil,0,[],[],1⟩]⟩
theorem Z5n(G:Nat->V):InSp Tryz.prog G 21 [] (Zfa Zk [(7002,.dead),(7005,.dead),(7007,.dead)])
  (λv H'=>∃ g2 g5 g7,v=.agg [.str smallM.name,.nils,.nils,.msl 7002 g2 0 1 2,.msl 7005 g5 0 2 8,.msl 7007 g7 0 1 8]/\H' 7002=.cells .new g2 0 (flat (smallM.regions.l.map Zua))/\H' 7005=.cells .new g5 0 (flat (smallM.verts.l.map (Z5a .old)))/\H' 7007=.cells .new g7 0 (flat (smallM.ways.l.map (Z4b .old)))):=by
 refine Z3a 7000 9 [.cell 0 28] Tryz.func21 rfl rfl rfl rfl λX=>?_;simp only[Zfa];refine Z ?_;intro g0;refine Z ?_;intro g2 g5 g7;refine Zs ?_;refine Z ?_;exact⟨g2,g5,g7,rfl,zr,zr,zr⟩
def sOne(s:List UInt8):Sl (List UInt8):=.mk false [s]
theorem Fz.one{F:Nat->Bool}{H:Heap}{o g fz:Nat}{c:Col}{s:List UInt8}(hF:F o=true)(hH:H o=.cells c g fz [.str s]):Fz F H (.msl o g 0 1 1) (Za c 1 V.str (sOne s)):=Z2b (f:=V.str) (l:=[s]) hF hH λ_=>rfl
theorem Rd.row{α : Type}{H:Heap}{o g fz m:Nat}{c:Col}{f f' : α -> V}{l:List α}(hH:H o=.cells c g fz (flat (l.map f)))(hf:∀ x,(f x).cells.length=m)
  (hIm:∀ x,∀ y∈(f x).cells,y.Im) (hf':∀ x,(f x).recol Col.ent=f' x):Rd H (.msl o g 0 l.length m) (Za .old m f' (.mk false l)):=by
 have:=Rd.msl (l:=l) (off:=0) (n:=l.length) (o:=o) (g:=g) hH hf hIm hf' zo;rw[List.drop_zero,List.take_length,Nat.zero_mul]at this;exact this
theorem im_vr(p:List UInt8×Int):∀ y∈(Zua p).cells,y.Im:=by
 intro y hy;simp only[Z3b,V.cells,List.mem_cons,List.not_mem_nil,or_false]at hy
 rcases hy with rfl|rfl<;>first|exact .str _|exact .int _ _
theorem im_str(s:List UInt8):∀ y∈(V.str s).cells,y.Im:=by
 intro y hy;simp only[V.cells,List.mem_cons,List.not_mem_nil,or_false]at hy;rw[hy];exact .str _
theorem Zrga(c:Col)(s:Sl (List UInt8)):(Za c 1 V.str s).Im:=by
 cases s with
 |nil=>exact .nils
 |mk b l=>exact .slice _ _ _ _ (λx hx=>by obtain⟨v,hv,hx⟩:=List.mem_flatMap.1 hx;obtain⟨a,_,rfl⟩:=List.mem_map.1 hv;exact im_str a x hx)
theorem im_vt(c:Col)(x:VtM):∀ y∈(Z5a c x).cells,y.Im:=by
 intro y hy;simp only[Zt,V.cells,List.mem_cons,List.not_mem_nil,or_false]at hy
 rcases hy with rfl|rfl|rfl|rfl|rfl|rfl|rfl|rfl<;>first|exact .str _|exact .int _ _|exact Zrga _ _
theorem im_tr(c:Col)(x:TrM):∀ y∈(Z4b c x).cells,y.Im:=by
 intro y hy;simp only[Z8,V.cells,List.mem_cons,List.not_mem_nil,or_false]at hy
 rcases hy with rfl|rfl|rfl|rfl|rfl|rfl|rfl|rfl<;>first|exact .str _|exact .int _ _|exact Zrga _ _
theorem small_b:MdB smallM:=by constructor<;>decide
theorem small_t:MdT smallM:=by constructor<;>decide
theorem FewM.b{m:MdM}(f:FewM m)(r:MdR m):MdB m:=by
 have h1:=f.nv;have h2:=f.ne;have h3:=f.nr;have h4:=f.nx;have h5:=f.nw;refine⟨?_,?_,?_,?_,?_,?_,h1,h2,h3,h4,h5⟩;have:=r.nm;unfold txR at this;omega;intro p hp;have:=r.var.2 p hp;unfold txR at this;omega;intro p hp;have:=r.ev.2 p hp;unfold txR at this;omega;intro p hp;have:=r.rg.2 p hp;unfold txR at this;omega;intro x hx;obtain⟨q1,_,_,q2,_⟩:=r.vt.2 x hx;have q3:=(f.vt x hx).2.2;unfold txR at q1 q2;exact⟨zo,zo,zo⟩;intro x hx;obtain⟨q1,_⟩:=r.wy.2 x hx;have q3:=(f.wy x hx).2.2;unfold txR at q1;exact⟨zo,zo⟩
theorem Zgm{s:List UInt8}(h:Zqc s=true)(h2:s.length<=4096):s.length<=900:=by
 simp only[Zqc,Bool.or_eq_true,decide_eq_true_eq]at h;omega
theorem FewM.t{m:MdM}(f:FewM m)(r:m.p.Rt):MdT m:=by
 have wy:∀ t∈m.ways.l,t.guard.length<=4096/\t.effect.length<=4096:=λt ht=>by
  obtain⟨i,hi,rfl⟩:=List.getElem_of_mem ht;have:=r.way i (by rw[m.nw];exact hi);rw[Zqk (List.getElem?_eq_getElem hi)]at this;simp only[PM.wayB,Bool.and_eq_true,decide_eq_true_eq]at this;exact⟨this.1.2,this.2⟩
 have vt:∀ x∈m.verts.l,x.entry.length<=4096/\x.exit.length<=4096:=λt ht=>by
  obtain⟨i,hi,rfl⟩:=List.getElem_of_mem ht;have:=r.vtx i (by rw[m.nv];exact hi);rw[Zwh (List.getElem?_eq_getElem hi)]at this;simp only[PM.vertexB,Bool.and_eq_true,decide_eq_true_eq]at this;exact⟨this.1.1.2,this.1.2⟩
 exact⟨λt ht=>Zgm (f.wy t ht).2.1 (wy t ht).2,λt ht=>Zgm (f.wy t ht).1 (wy t ht).1,λx hx=>⟨Zgm (f.vt x hx).1 (vt x hx).1,Zgm (f.vt x hx).2.1 (vt x hx).2⟩⟩
theorem Zyr(G:Nat->V)(hG:GOk G)(c d:Col)(m:MdM)(hr:MdR m):Spec Tryz.prog G 7 [Z4 c d m] Zk (λv _=>∃ b,v=.bool b/\(b=true->FewM m)):=by
 refine Zo 0 23 [.tmp 2] Tryz.func7 λX=>?_;refine Zf Zj ?_;intro g1;refine Zf Zj ?_;refine Ze hG ?_ (s:=Znfa G hG c.ent d.ent m hr);rintro _ ⟨b,rfl,hb⟩
 cases b with
 |false=>
  refine Zg Zj ?_;exact⟨_,rfl,λh=>by cases h⟩
 |true=>
  cases q1:decide ((m.ways.l.length:Int)<=40);refine Zg (zi q1 Zj) ?_;exact⟨_,rfl,λh=>by cases h⟩;cases q2:decide ((m.verts.l.length:Int)<=40);refine Zg (zi q1 (zi q2 Zj)) ?_;exact⟨_,rfl,λh=>by cases h⟩;refine Zg (zi q1 (zi q2 Zj)) ?_;exact⟨_,rfl,λ_=>hb rfl⟩
end Go.Hs
end

section
namespace Go.Hs
open Go.Proofs
set_option maxRecDepth 10000
set_option maxHeartbeats 4000000
deriving instance DecidableEq for StP
def smJV:Sl VtM:=.mk false [⟨[],3,0,-1,[],[],.nil,[]⟩,⟨[115],1,0,-1,[],[],.nil,[]⟩,⟨[],5,0,-1,[],[],.nil,[]⟩,⟨[],1,0,-1,[],[],.nil,[]⟩,⟨[],1,0,-1,[],[],.nil,[]⟩]
def smJW:Sl TrM:=.mk false [⟨[],0,1,.nil,0,[],[],1⟩,⟨[],1,2,.nil,0,[],[],1⟩,⟨[],2,3,.nil,0,[],[],1⟩,⟨[],2,4,.nil,0,[],[],1⟩]
def smJ:MdM:={ smallM with verts:=smJV,ways:=smJW }
theorem smJ_b:MdB smJ:=by constructor<;>decide
theorem smJ_t:MdT smJ:=by constructor<;>decide
def smL:List (StP×List Int):=[(⟨[0],0,[0],[0],[(1,[])]⟩,[1])]
def smK:List (StP×List Int):=[(⟨[0],0,[0],[0],[(1,[])]⟩,[1]),(⟨[1],1,[1,2],[1,2],[(3,[])]⟩,[3]),(⟨[1],1,[1,3],[1,3],[(4,[])]⟩,[4])]
theorem Z97:smallM.p.statP Zub Zxa=(smL,0,0):=by decide +kernel
theorem Zzka:smJ.p.statP Zub Zxa=(smK,0,0):=by decide +kernel
theorem nw_i(s:Sl Int):V.Nw (Za .new 1 (V.int .i64) s):=Zj7 (λx y hy=>by simp[V.cells]at hy;subst hy;exact .int _ _) s
theorem nw_es(l:List (Int×List Int)):V.Nw (Z0b .new l):=Zj7 (λe y hy=>by
 rw[Z8c]at hy;simp only[V.cells,List.mem_cons,List.not_mem_nil,or_false]at hy
 rcases hy with rfl|rfl
 exact .int _ _
 exact nw_i _) _
theorem Zjoa(s:Sl (StP×List Int))(a b:Int):V.Nw (.tuple [Za .new 6 (Z6a .new) s,.int .i64 a,.int .i64 b]):=by
 refine .tuple _ λx hx=>?_;simp only[List.mem_cons,List.not_mem_nil,or_false]at hx
 rcases hx with rfl|rfl|rfl
 refine Zj7 (λq y hy=>?_) s;rw[Zna]at hy;simp only[V.cells,List.mem_cons,List.not_mem_nil,or_false]at hy
 rcases hy with rfl|rfl|rfl|rfl|rfl|rfl<;>first|exact nw_i _|exact .int _ _|exact nw_es _
 exact .int _ _;exact .int _ _
theorem im_RS(c:Col)(q:StP×List Int):(Z6a c q).Im:=by
 refine .agg _ λx hx=>?_;simp only[List.mem_cons,List.not_mem_nil,or_false]at hx
 rcases hx with rfl|rfl|rfl|rfl|rfl|rfl<;>first|exact Zzf _|exact .int _ _|exact Im.es _ _
theorem im_i:∀ (x:Int),∀ y∈(V.int .i64 x).cells,y.Im:=λx y hy=>by simp[V.cells]at hy;subst hy;exact .int _ _
theorem im_ed(c:Col):∀ (x:Int×Sl Int),∀ y∈(Zv0 c x).cells,y.Im:=λx y hy=>by
 rw[Zat]at hy;simp only[V.cells,List.mem_cons,List.not_mem_nil,or_false]at hy
 rcases hy with rfl|rfl
 exact .int _ _;exact Zzf _
theorem Zpq:flat (smallM.ways.l.map (Z4b .old))=[.str [],.int .i64 0,.int .i64 1,.nils,.int .i64 0,.str [],.str [],.int .u8 1]:=rfl
theorem Zgn:flat (smallM.verts.l.map (Z5a .old))=[.str [],.int .u8 3,.int .i64 0,.int .i64 (-1),.str [],.str [],.nils,.str [],.str [115],.int .u8 1,.int .i64 0,.int .i64 (-1),.str [],.str [],.nils,.str []]:=rfl
theorem Z7t(G:Nat->V)(hE:GExp G):Spec Tryz.prog G 8 [] Zk (λv _=>v=.bool true):=by
 have hG:=hE.ok;refine Zo 0 87 [.tmp 0] Tryz.func8 λX=>?_;refine Z ?_;refine CallA.inl [(7002,.dead),(7005,.dead),(7007,.dead)] zk (by intro p hp;simp only[List.mem_cons,List.not_mem_nil,or_false]at hp;rcases hp with rfl|rfl|rfl<;>rfl) ?_;refine(Z5n G).mono ?_;rintro _ H' ⟨g2,g5,g7,rfl,q2,q5,q7⟩;simp only[List.map_cons,List.map_nil,q2,q5,q7];simp -implicitDefEqProofs only[go_sem,seval,Zfa];refine Znl hG [Z4 .old .old smallM] zk ⟨Rd.agg ⟨Zta (.str _) rfl,Zta .nils rfl,Zta .nils rfl,Rd.row (l:=smallM.regions.l) zp Zpda im_vr (λ_=>rfl),Rd.row (l:=smallM.verts.l) zp (Zoda _) (im_vt _) (Zmm _ _),Rd.row (l:=smallM.ways.l) zp (Zyda _) (im_tr _) (Znm _ _),trivial⟩,trivial⟩ ((Znt G hE .old .old smallM small_b (λ_=>small_t)).mono ?_);rintro _ _ rfl;rw[Z97];refine⟨Zjoa _ _ _,?_⟩;refine Zs ?_;refine AW.weak (Weak.st (l:=[(1,Za .new 6 (Z6a .new) (Zb smL)),(3,.int .i64 0)]) (m:=[]) zp zp) ?_;refine Z ?_;refine CallA.inl [(7002,.dead),(7005,.dead),(7007,.dead)] zk (by intro p hp;simp only[List.mem_cons,List.not_mem_nil,or_false]at hp;rcases hp with rfl|rfl|rfl<;>rfl) ?_;refine(Z5n G).mono ?_;rintro _ H' ⟨k2,k5,k7,rfl,q2,q5,q7⟩;simp only[List.map_cons,List.map_nil,q2,q5,q7];simp -implicitDefEqProofs only[go_sem,seval,Zfa];intro g4;refine Zf (zi Zpq Zgn) ?_;intro g20;refine⟨Z9 zo zo,λn5=>?_⟩;refine Zf (zi Zpq Zgn) ?_;intro g28;refine⟨Z9 zo zo,λn7=>?_⟩;refine Z ?_;refine Znl hG [Z4 .old .old smJ] zk ⟨Rd.agg ⟨Zta (.str _) rfl,Zta .nils rfl,Zta .nils rfl,Rd.row (l:=smJ.regions.l) zp Zpda im_vr (λ_=>rfl),Rd.row (f:=Z5a .old) (l:=smJ.verts.l) zp (Zoda _) (im_vt _) (Zmm _ _),Rd.row (f:=Z4b .old) (l:=smJ.ways.l) zp (Zyda _) (im_tr _) (Znm _ _),trivial⟩,trivial⟩ ((Znt G hE .old .old smJ smJ_b (λ_=>smJ_t)).mono ?_);rintro _ _ rfl;rw[Zzka];refine⟨Zjoa _ _ _,?_⟩;refine Zs ?_;refine AW.weak (Weak.st (l:=[(1,Za .new 6 (Z6a .new) (Zb smL)),(3,.int .i64 0),(5,Za .new 6 (Z6a .new) (Zb smK)),(7,.int .i64 0)]) (m:=[]) zp zp) ?_;have l0:smL[0]?=some (⟨[0],0,[0],[0],[(1,[])]⟩,[1]):=rfl;have l1:smL.length=1:=rfl;have k0:smK.length=3:=rfl;have k1':smK[1]?=some (⟨[1],1,[1,2],[1,2],[(3,[])]⟩,[3]):=rfl;have k2':smK[2]?=some (⟨[1],1,[1,3],[1,3],[(4,[])]⟩,[4]):=rfl;have fs:=zi l0 (zi l1 (zi k0 (zi k1' (zi k2' (zi Zna (zi @Int.natCast_nonneg @Int.ofNat_lt))))));refine Zf fs ?_;intro h48 h49 h50 h52 h53
 refine CallA.bor hG [Z6a .old (⟨[0],0,[0],[0],[(1,[])]⟩,[1]),Zgaa .old ⟨.mk false [0],0,.mk false [0],.mk false [0],.mk false [(1,.nil)],.mk false [1],false⟩] zk
  ⟨Zta (im_RS .new (⟨[0],0,[0],[0],[(1,[])]⟩,[1])) (Zbe Col.ent .new (⟨[0],0,[0],[0],[(1,[])]⟩,[1])),Rd.agg ⟨Rd.row (f:=V.int .i64) (l:=[0]) zp (λ_=>rfl) im_i (λ_=>rfl),Zta (.int _ _) rfl,Rd.row (f:=V.int .i64) (l:=[0]) zp (λ_=>rfl) im_i (λ_=>rfl),Rd.row (f:=V.int .i64) (l:=[0]) zp (λ_=>rfl) im_i (λ_=>rfl),
   Rd.row (f:=Zv0 .old) (l:=[(1,.nil)]) zp (λ_=>rfl) (im_ed _) (Zdla Col.ent .old),Rd.row (f:=V.int .i64) (l:=[1]) zp (λ_=>rfl) im_i (λ_=>rfl),Zta (.bool _) rfl,trivial⟩,trivial⟩ ((Zr7 G hG .old .old _ _ ⟨rfl,rfl,rfl,rfl,rfl,rfl⟩ ?_).mono ?_)
 constructor<;>simp
 rintro _ _ rfl;refine⟨.bool _,?_⟩;refine Zf fs ?_;intro h70;refine CallA.bor hG [Za .old 1 (V.int .i64) (Zb [1,2]),Za .old 1 (V.int .i64) (.mk false [1,2])] zk ⟨Zta (Zzf (c:=.new) (Zb [1,2])) rfl,Rd.row (f:=V.int .i64) (l:=[1,2]) zp (λ_=>rfl) im_i (λ_=>rfl),trivial⟩ ((Zif G hG .old .old (Zb [1,2]) (.mk false [1,2]) rfl zd).mono ?_);rintro _ _ rfl;refine⟨.bool _,?_⟩;refine Zg fs ?_;intro h78;refine CallA.bor hG [Za .old 1 (V.int .i64) (Zb [1,3]),Za .old 1 (V.int .i64) (.mk false [1,3])] zk ⟨Zta (Zzf (c:=.new) (Zb [1,3])) rfl,Rd.row (f:=V.int .i64) (l:=[1,3]) zp (λ_=>rfl) im_i (λ_=>rfl),trivial⟩ ((Zif G hG .old .old (Zb [1,3]) (.mk false [1,3]) rfl zd).mono ?_);rintro _ _ rfl;refine⟨.bool _,?_⟩;refine Zg fs ?_
 have hfk:Zzi ((Zb smK).map (toSV .old)).l 1 ((Zb smK).map (toSV .old)).l.length=[1,2]:=by decide +kernel
 refine Zc hG ?_ (ha:=by
  simp only[List.map_cons,List.map_nil,Zwa,Zdb Col.ent Col.new 6 (Zbe Col.ent Col.new)]
  rw[Zbna]) (s:=(Ziv G hG Col.new.ent Col.new.ent ((Zb smK).map (toSV Col.new.ent)) 1 zd (by
   intro s hs;have hs:s∈smK.map (toSV Col.new.ent):=hs;simp only[smK,List.map_cons,List.map_nil,List.mem_cons,List.not_mem_nil,or_false]at hs
   rcases hs with rfl|rfl|rfl<;>decide)))
 intro h84;rw[hfk];refine CallA.bor hG [Za .old 1 (V.int .i64) (Zb [1,2]),Za .old 1 (V.int .i64) (.mk false [1,2])] zk ⟨Zta (Zzf (c:=.new) (Zb [1,2])) rfl,Rd.row (f:=V.int .i64) (l:=[1,2]) zp (λ_=>rfl) im_i (λ_=>rfl),trivial⟩ ((Zif G hG .old .old (Zb [1,2]) (.mk false [1,2]) rfl zd).mono ?_);rintro _ _ rfl;refine⟨.bool _,?_⟩;refine Zg fs ?_;rfl
end Go.Hs
end

section
namespace Go.Hs
open Go.Proofs
set_option maxRecDepth 10000
set_option maxHeartbeats 8000000
set_option pp.deepTerms true
set_option pp.maxSteps 10000000
def Z0p(n:Nat)(p:Nat->Bool):List V:=(List.range n).map λv=>V.bool (p v)
theorem Zlm(n:Nat)(p:Nat->Bool):(Z0p n p).length=n:=by rw[Z0p,List.length_map,List.length_range]
theorem Ztea{n:Nat}{p:Nat->Bool}{v:Nat}(h:v<n):(Z0p n p)[v]?=some (.bool (p v)):=by
 rw[Z0p,List.getElem?_map,List.getElem?_range h];rfl
theorem Z6ka{n:Nat}{p:Nat->Bool}{v:Nat}(h:v<n):(Z0p n p).set v (.bool true)=Z0p n λu=>p u||u==v:=by
 apply List.ext_getElem;simp[Z0p];intro j h1 h2;rw[List.getElem_set];simp only[Z0p,List.getElem_map,List.getElem_range]
 by_cases e:v=j
 subst e;simp;rw[if_neg e];have:(j==v)=false:=beq_false_of_ne (Ne.symm e);rw[this,Bool.or_false]
theorem Zuea(b:Bool):∀ n:Nat,Z7f n [.bool b]=Z0p n λ_=>b
 |0=>rfl
 |n+1=>by
  show V.bool b::Z7f n [.bool b]=_
  rw[Zuea b n,Z0p,Z0p,List.range_succ_eq_map,List.map_cons,List.map_map];rfl
theorem Zi8{n:Nat}{p q:Nat->Bool}(h:∀ v,v<n->p v=q v):Z0p n p=Z0p n q:=by
 unfold Z0p
 exact List.map_congr_left λv hv=>by rw[h v (List.mem_range.1 hv)]
theorem Z8u(G:Nat->V)(hE:GExp G)(m:MdM)(hr:MdR m):Spec Tryz.prog G 5 [Z4 .old .old m] Zk (λv _=>v=.bool true):=by
 have hG:=hE.ok;have hW:=Z7t G hE;refine Zo 0 178 [.tmp 2] Tryz.func5 λX=>?_;refine Zf Zj ?_;intro g1;refine AW.weak (Zw (λo=>o==1) (l:=[(1,.view .new (Z4 .old .old m))]) (m:=[]) ?_ trivial) ?_;simp -implicitDefEqProofs only[go_sem,seval];exact Fz.ptr (v:=Z4 .old .old m) (c:=.new) (fz:=0) zp (by rw[Zj];exact zp);refine Zf Zj ?_;refine Ze hG ?_ (s:=Zyr G hG .old .old m hr);rintro _ ⟨b,rfl,hb⟩
 cases b with
 |false=>
  refine Zg Zj ?_;refine Zc hG ?_ (s:=hW);exact Zr
 |true=>
 have hf:=hb rfl;have hB:=hf.b hr;refine Zg Zj ?_;refine Zc hG ?_ (s:=Znt G hE .old .old m hB hf.t)
 by_cases h0:(m.p.statP Zub Zxa).2.2=0
 rotate_left;have q:((m.p.statP Zub Zxa).2.2 != 0)=true:=zu h0;refine Zf q ?_;refine Zc hG ?_ (s:=hW);exact Zr;obtain⟨ok,hst⟩:=PM.statP_ok h0;rw[hst,h0];refine Z ?_;refine Zaa m.p.withR.length (λi (_:Unit)=>st [(1,.view .new (Z4 .old .old m)),(3,Za .new 6 (Z6a .new) (Zb m.p.withR)),(6,.int .i64 i)] []) (λ_ _=>True) 0 () (Nat.zero_le _) trivial (Weak.st (by simp -implicitDefEqProofs only[go_sem,seval,Zj]) zp) ?_;have hnx:=hB.nx;have hll:=ok.le;have hwl:=Zyg m.p;intro i _ hi _ L1 hL1
 by_cases hi1:i<m.p.withR.length
 have hlt:decide ((i:Int)<(m.p.withR.length:Int))=true:=zT;have hgi:=List.getElem?_eq_getElem hi1;have hmi:=List.getElem_mem hi1;generalize m.p.withR[i]=q at hgi hmi;obtain⟨s,hs,rfl⟩:=List.mem_map.1 hmi;have w1:IntKind.i64.wrap ((i:Int)+1)=(i:Int)+1:=w64 zo zo;have f1:=zi hgi (zi hi1 (zi Zna (zi Zj (zi @Int.natCast_nonneg @Int.ofNat_lt))));refine Z1f (zi hlt f1) ?_;refine Z1f (zi hlt f1) ?_;refine⟨⟨Int.le_refl _,zo,zo⟩,λg=>?_⟩;have hrng:=m.p.reachL_rng m.p.allL s;have hrise:=m.p.reachL_rise m.p.allL s
 have hRn:∀ s,(m.p.reachL m.p.allL s).length<=512:=λs=>by
  rw[PM.reachL,List.length_map];have:=List.length_filter_le (fun(v:Nat)=>(m.p.reachQ m.p.allL s).contains (v:Int)) (List.range m.p.vertices.length);rw[List.length_range]at this;have:=ok.wfd.lx;omega
 have hRl:=hRn s;have hends:=PM.reach_ends ok hs;have hclo:=λx hx=>PM.reach_closed ok hs (x:=x) hx;have hel:=(m.p.allL_ok ok.wfd s hs).el;have hlw:=ok.wfd.lw;generalize m.p.reachL m.p.allL s=R at hrng hrise hRl hends hclo hgi;rw[m.nv]at hrng;generalize hnn:m.verts.l.length=nv at hrng hnx;have f2:=zi hgi (zi hi1 (zi Zna (zi @Int.natCast_nonneg @Int.ofNat_lt)));refine Z ?_;refine Zaa R.length (λk (_:Unit)=>st [(1,.view .new (Z4 .old .old m)),(3,Za .new 6 (Z6a .new) (Zb m.p.withR)),(6,.int .i64 i),(7,.msl 37 g 0 nv 1),(8,.int .i64 k)] [(37,.cells .new g 0 (Z0p nv λv=>(R.take k).contains (v:Int)))]) (λ_ _=>True) 0 () (Nat.zero_le _) trivial (Weak.st (by simp -implicitDefEqProofs only[go_sem,seval,Zj]) ?_) ?_;simp -implicitDefEqProofs only[go_sem,seval,List.take_zero,Zuea];rfl;intro k _ hk _ L2 hL2
 by_cases hk1:k<R.length
 have hlt2:decide ((k:Int)<(R.length:Int))=true:=zT;have hgk:=List.getElem?_eq_getElem hk1;obtain⟨v0,v1⟩:=hrng _ (List.getElem_mem hk1)
 have hpr:k=0\/∃ u,0<k/\R[k-1]?=some u/\u<R[k]:=by
  by_cases hz:k=0
  exact .inl hz;refine .inr ⟨R[k-1]'zo,zo,List.getElem?_eq_getElem _,?_⟩;exact List.pairwise_iff_getElem.1 hrise (k-1) k zo hk1 zo
 have htk:R.take (k+1)=R.take k++[R[k]]:=by rw[List.take_add_one,hgk];rfl
 generalize R[k]=v at hgk v0 v1 hpr htk;obtain⟨vn,rfl⟩:∃ vn:Nat,v=(vn:Int):=⟨v.toNat,zo⟩;have hvn:vn<nv:=zo;have w2:IntKind.i64.wrap ((k:Int)+1)=(k:Int)+1:=w64 zo zo;have x1:decide ((vn:Int)<0)=false:=zF;have x2:decide ((vn:Int)>=(nv:Int))=false:=zF
 have hst2:(Z0p nv λv=>(R.take k).contains (v:Int)).set vn (.bool true)=Z0p nv λv=>(R.take (k+1)).contains (v:Int):=by
  rw[Z6ka hvn];refine Zi8 λu _=>?_;rw[htk,Bool.eq_iff_iff];simp only[Bool.or_eq_true,List.contains_iff_mem,List.mem_append,List.mem_singleton,beq_iff_eq];exact⟨λh=>h.imp_right λe=>by rw[e],λh=>h.imp_right λe=>zo⟩
 have hvn1:vn+1<=nv:=hvn;have f3:=zi x1 (zi x2 (zi @Nat.mul_one (zi @Nat.zero_le (zi hvn1 (zi hgi (zi hi1 (zi hgk (zi hk1 (zi hvn (zi Zlm (zi hst2 (zi w2 (zi Zna (zi @Int.natCast_nonneg @Int.ofNat_lt))))))))))))));refine Z1f (zi hlt2 f3) ?_;refine Z1f (zi hlt2 f3) ?_
 rcases hpr with hk0|⟨u,hk0,hu,huv⟩
 have x3:decide ((k:Int)>0)=false:=zF;refine Zf (zi x3 f3) ?_;exact hL2 _ ⟨hk1,(),trivial,Weak.st zp zp⟩;have x3:decide ((k:Int)>0)=true:=zT;have x4:decide (u>=(vn:Int))=false:=zF
 have w3:IntKind.i64.wrap ((k:Int)-1)=((k-1:Nat):Int):=by rw[w64 zo zo];omega
 have hk2:k-1<R.length:=zo;refine Zf (zi x3 (zi x4 (zi hu (zi w3 (zi hk2 f3))))) ?_;exact hL2 _ ⟨hk1,(),trivial,Weak.st zp zp⟩;have hke:k=R.length:=zo;have hlt2:decide ((R.length:Int)<(R.length:Int))=false:=zF
 have hc:∀ vn:Nat,(vn:Int)∈R->vn<nv/\(Z0p nv λv=>R.contains (v:Int))[vn]?=some (.bool true):=λvn h=>by
  have h1:=(hrng _ h).2;have h2:vn<nv:=zo;refine⟨h2,?_⟩;rw[Ztea h2,List.contains_iff_mem.2 h]
 rw[hke,List.take_length];refine Zf (zi @Nat.lt_irrefl f2) ?_;refine Zaa s.ends.length (λk (_:Unit)=>st [(1,.view .new (Z4 .old .old m)),(3,Za .new 6 (Z6a .new) (Zb m.p.withR)),(6,.int .i64 i),(7,.msl 37 g 0 nv 1),(10,.int .i64 k)] [(37,.cells .new g 0 (Z0p nv λv=>R.contains (v:Int)))]) (λ_ _=>True) 0 () (Nat.zero_le _) trivial (Weak.st zp zp) ?_;intro k _ hk _ L3 hL3;have hEs:Z0b .new s.ends=Za .new 2 (Zpf .new) (Zb s.ends):=rfl
 by_cases hk1:k<s.ends.length
 have hlt3:decide ((k:Int)<(s.ends.length:Int))=true:=zT;have hgk:=List.getElem?_eq_getElem hk1;have hin:=hends _ (List.getElem_mem hk1);generalize s.ends[k]=en at hgk hin;obtain⟨ea,eb⟩:=en;simp only at hin;obtain⟨v0,v1⟩:=hrng _ hin;obtain⟨vn,rfl⟩:∃ vn:Nat,ea=(vn:Int):=⟨ea.toNat,zo⟩;obtain⟨hvn,hcv⟩:=hc vn hin;have w2:IntKind.i64.wrap ((k:Int)+1)=(k:Int)+1:=w64 zo zo;have x1:decide ((vn:Int)<0)=false:=zF;have x2:decide ((vn:Int)>=(nv:Int))=false:=zF;have hvn1:vn+1<=nv:=hvn;have f3:=zi x1 (zi x2 (zi @Nat.mul_one (zi @Nat.zero_le (zi hvn1 (zi hgi (zi hi1 (zi hgk (zi hk1 (zi hvn (zi Zlm (zi hcv (zi w2 (zi hEs (zi Zna (zi Z8c (zi @Int.natCast_nonneg @Int.ofNat_lt))))))))))))))));refine Zf (zi hlt3 f3) ?_;exact hL3 _ ⟨hk1,(),trivial,Weak.st zp zp⟩;have hke2:k=s.ends.length:=zo;have hlt3:decide ((s.ends.length:Int)<(s.ends.length:Int))=false:=zF;rw[hke2];refine Zf (zi @Nat.lt_irrefl (zi hEs f2)) ?_;refine Zaa m.p.withR.length (λk (_:Unit)=>st [(1,.view .new (Z4 .old .old m)),(3,Za .new 6 (Z6a .new) (Zb m.p.withR)),(6,.int .i64 i),(7,.msl 37 g 0 nv 1),(12,.int .i64 k)] [(37,.cells .new g 0 (Z0p nv λv=>R.contains (v:Int)))]) (λ_ _=>True) 0 () (Nat.zero_le _) trivial (Weak.st zp zp) ?_;intro n _ hn _ L4 hL4
 by_cases hn1:n<m.p.withR.length
 have hlt4:decide ((n:Int)<(m.p.withR.length:Int))=true:=zT;have hgn:=List.getElem?_eq_getElem hn1;have hmn:=List.getElem_mem hn1;generalize m.p.withR[n]=q' at hgn hmn;obtain⟨x,hx,rfl⟩:=List.mem_map.1 hmn;have w3:IntKind.i64.wrap ((n:Int)+1)=(n:Int)+1:=w64 zo zo;have F:=m.p.allL_ok ok.wfd x hx
 have hso:x.sources[0]?=some (PM.srcOf x):=by
  rw[PM.srcOf]
  cases hh:x.sources with
  |nil=>exact absurd hh F.so
  |cons a r=>rfl
 have hsl:=List.length_pos_iff.2 F.so;obtain⟨s0,s1⟩:=F.src _ (List.mem_of_getElem? hso);have hcl:=hclo x hx;obtain⟨sn,xv,hsn,hsn1,hgs,exs⟩:=m.at s0 s1;rw[hsn]at hso hcl
 have hkk:m.p.kd (sn:Int)=xv.kind:=by rw[PM.kd,<- hsn,exs];rfl
 rw[hnn]at hsn1;have x1:decide ((sn:Int)<0)=false:=zF;have x2:decide ((sn:Int)>=(nv:Int))=false:=zF;have hsn2:sn+1<=nv:=hsn1;have hra:=Ztea (p:=λv:Nat=>R.contains (v:Int)) hsn1
 have hsn3:sn<m.verts.l.length:=by rw[hnn];exact hsn1
 have f4:=zi x1 (zi x2 (zi @Nat.mul_one (zi @Nat.zero_le (zi hsn2 (zi hgn (zi hn1 (zi hso (zi hsl (zi hra (zi hgs (zi hsn1 (zi hsn3 (zi Zlm (zi hEs (zi Zna (zi Zj (zi Zt (zi @Int.natCast_nonneg @Int.ofNat_lt))))))))))))))))));refine Z1f (zi hlt4 f4) ?_;refine Z1f (zi hlt4 f4) ?_;cases hRc:R.contains (sn:Int);refine Zf (zi hRc (zi w3 f4)) ?_;exact hL4 _ ⟨hn1,(),trivial,Weak.st (by refine Zs ?_;exact⟨rfl,rfl⟩) zp⟩
 by_cases hk4:xv.kind=4
 refine Zf (zi hRc (zi hk4 f4)) ?_;have hall:=hcl (List.contains_iff_mem.1 hRc) (by rw[hkk];exact hk4);have hR2:=hRn x;generalize m.p.reachL m.p.allL x=R2 at hgn hall hR2;refine Zaa R2.length (λk (_:Unit)=>st [(1,.view .new (Z4 .old .old m)),(3,Za .new 6 (Z6a .new) (Zb m.p.withR)),(6,.int .i64 i),(7,.msl 37 g 0 nv 1),(12,.int .i64 n),(14,.int .i64 k)] [(37,.cells .new g 0 (Z0p nv λv=>R.contains (v:Int)))]) (λ_ _=>True) 0 () (Nat.zero_le _) trivial (Weak.st (zp) zp) ?_;intro k _ hk _ L5 hL5
 by_cases hk1:k<R2.length
 have hlt5:decide ((k:Int)<(R2.length:Int))=true:=zT;have hgk:=List.getElem?_eq_getElem hk1;have hin:=hall _ (List.getElem_mem hk1);generalize R2[k]=ea at hgk hin;obtain⟨v0,v1⟩:=hrng _ hin;obtain⟨vn,rfl⟩:∃ vn:Nat,ea=(vn:Int):=⟨ea.toNat,zo⟩;obtain⟨hvn,hcv⟩:=hc vn hin;have w2:IntKind.i64.wrap ((k:Int)+1)=(k:Int)+1:=w64 zo zo;have hvn1:vn+1<=nv:=hvn;have f5:=zi @Nat.mul_one (zi @Nat.zero_le (zi hvn1 (zi hgn (zi hn1 (zi hgk (zi hk1 (zi hvn (zi Zlm (zi hcv (zi w2 (zi Zna (zi @Int.natCast_nonneg @Int.ofNat_lt))))))))))));refine Zf (zi hlt5 f5) ?_;exact hL5 _ ⟨hk1,(),trivial,Weak.st zp zp⟩;have hke5:k=R2.length:=zo;rw[hke5];refine Zf (zi @Nat.lt_irrefl (zi hgn (zi hn1 (zi w3 (zi Zna (zi @Int.natCast_nonneg @Int.ofNat_lt)))))) ?_;exact hL4 _ ⟨hn1,(),trivial,Weak.st zp zp⟩;have x3:(xv.kind != 4)=true:=zu hk4;refine Zf (zi hRc (zi x3 (zi w3 f4))) ?_;exact hL4 _ ⟨hn1,(),trivial,Weak.st (by refine Zs ?_;exact⟨rfl,rfl⟩) zp⟩;have hne:n=m.p.withR.length:=zo;have hlt4:decide ((m.p.withR.length:Int)<(m.p.withR.length:Int))=false:=zF;rw[hne];refine Zf (zi hlt4 w1) ?_;exact hL1 _ ⟨hi1,(),trivial,Weak.st zp zp⟩;have hie:i=m.p.withR.length:=zo;have hlt:decide ((m.p.withR.length:Int)<(m.p.withR.length:Int))=false:=zF;rw[hie];refine Zf hlt ?_;refine Zc hG ?_ (s:=hW);exact Zr
end Go.Hs
end

section
namespace Go.Proofs.YtoahejkahaimnaaGreatDoor
open Go.RowKit Go.Hs
set_option maxRecDepth 100000
def Zeh:List (String × DataW Unit):=[("math/bits.deBruijn32tab",Rows.laid_math_bits_deBruijn32tab),("math/bits.deBruijn64tab",Rows.laid_math_bits_deBruijn64tab),("internal/strconv.uint64pow10",Rows.laid_internal_strconv_uint64pow10),("unicode/utf8.acceptRanges",Rows.laid_unicode_utf8_acceptRanges),("strconv.ErrRange",Rows.laid_strconv_ErrRange),("strconv.ErrSyntax",Rows.laid_strconv_ErrSyntax),("hopscotch/lex.signs",Rows.laid_hopscotch_lex_signs),("unicode/utf8.first",Rows.laid_unicode_utf8_first)]
noncomputable def low:Nat:=(World.holding Tryz.prog default ⟨#[],#[],[]⟩).heap.size
def b32:List Int:=[0,1,28,2,29,14,24,3,30,22,20,15,25,17,4,8,31,27,13,23,21,19,16,7,26,12,18,6,11,5,10,9]
def b64:List Int:=0::1::56::2::57::49::28::3::61::58::42::50::38::29::17::4::62::47::59::36::45::43::51::22::53::39::33::30::24::18::12::5::63::55::48::27::60::41::37::16::46::35::44::21::52::32::23::11::54::26::40::15::34::20::31::10::25::14::19::9::13::8::7::6::[]
def acR:List Int:=[128,191,160,191,128,159,144,191,128,143]++List.replicate 22 0
def errR:ByteArray:={ data := #[118,97,108,117,101,32,111,117,116,32,111,102,32,114,97,110,103,101] }
def errS:ByteArray:={ data := #[105,110,118,97,108,105,100,32,115,121,110,116,97,120] }
def Zfe(cs:Array Value):Obj->Obj
 |.cells _ t frozen=>.cells cs t frozen
 |o=>o
noncomputable def laidWorld (os:Os):World:=
 let w0:=World.holding Tryz.prog os ⟨#[.cells #[.string errR] 412,.cells #[.string errS] 412],#[],[]⟩
 { w0 with heap:=(((((((w0.heap.modify 2 (Zfe #[.iface 410 (.pointer (some ⟨low,0,none⟩))])).modify 5 (Zfe #[.iface 410 (.pointer (some ⟨low+1,0,none⟩))])).modify 6
   (Zfe (Lib.pow10Tab.map (Value.int .u64)).toArray)).modify 7 (Zfe (b32.map (Value.int .u8)).toArray)).modify 8 (Zfe (b64.map (Value.int .u8)).toArray)).modify 4 (Zfe (acR.map (Value.int .u8)).toArray)).modify
   0 (Zfe (signsL.map λs=>Value.string ⟨s.toArray⟩).toArray)).modify 3 (Zfe (Pinned.utf8FirstZ.map fun(n:Nat)=>Value.int .u8 (n:Int)).toArray) }
theorem Z1s(os:Os)(args:Array Value):laidMet Tryz.prog Zeh ((laidWorld os).forCall (λ_ _=>0) ⟨#[],args,[]⟩).memory:=
 laidMet_of_run' 8 (by kernel_rfl) (by kernel_rfl)
end Go.Proofs.YtoahejkahaimnaaGreatDoor
end

section
namespace Go.Proofs.YtoahejkahaimnaaGreatDoor
open Go.RowKit Go.Hs
set_option maxRecDepth 100000
theorem Zza{P:Program}{W:World}{x:String×DataW Unit}{r:List (String×DataW Unit)}(h:laidMet P (x::r) W):laidMet P r W:=by
 obtain⟨n,d⟩:=x;obtain⟨ps,⟨g0,t0,cs0,f0,p0,q0,hg0,ht0,hv0,hd0,hq,e0⟩,hnd,hrows⟩:=h;subst e0;exact⟨q0,hq,(List.nodup_append.1 hnd).2.1,λb off hm=>hrows b off (List.mem_append.2 (.inr hm))⟩
noncomputable def gE (m:Int):Nat->V:=λg=>if g=2 then .view .old (.iface 410 (.view .old (.agg [])))else if g=6 then .view .old (.agg (Lib.pow10Tab.map (V.int .u64)))
 else if g=0 then .view .old (.agg (signsL.map V.str))else if g=1 then .view .old (.int .i64 m)else .top
theorem Zun(f:Col->Col):∀ l:List Int,Zja f (l.map (V.int .u64))=l.map (V.int .u64)
 |[]=>rfl
 |x::r=>by simp only[List.map_cons,Zja];rw[Zun f r]<;>rfl
theorem Ztn(f:Col->Col):∀ l:List (List UInt8),Zja f (l.map V.str)=l.map V.str
 |[]=>rfl
 |x::r=>by simp only[List.map_cons,Zja];rw[Ztn f r]<;>rfl
theorem gE_ok(m:Int):GExp (gE m) where
 ok:=λg=>by
  unfold gE
  split
  exact⟨rfl,.view _ _ λx hx=>by simp[V.cells]at hx;subst hx;exact .iface _ _ (.view _ _ λx hx=>by simp[V.cells]at hx)⟩
  split
  refine⟨by simp only[V.recol,Col.ent,Zun],.view _ _ λx hx=>?_⟩;obtain⟨n,_,rfl⟩:=List.mem_map.1 hx;exact .int _ _
  split
  refine⟨by simp only[V.recol,Col.ent,Ztn],.view _ _ λx hx=>?_⟩;obtain⟨n,_,rfl⟩:=List.mem_map.1 hx;exact .str _
  split
  exact⟨rfl,.view _ _ λx hx=>by simp[V.cells]at hx;subst hx;exact .int _ _⟩;exact⟨rfl,.top⟩
 er:=⟨_,_,_,rfl⟩
 tab:=⟨_,rfl⟩
 sg:=⟨_,rfl⟩
 ml:=⟨_,m,rfl⟩
theorem gER:Tryz.prog.globalNamed "strconv.ErrRange" = some 2:=by kernel_rfl
theorem gERType:(Tryz.prog.globals[2]?).map (·.type)=some 363:=by kernel_rfl
theorem Zjna:Tryz.prog.cellsOf 412=1:=by kernel_rfl
theorem Zuoa:Tryz.prog.cellsOf 9=1:=by kernel_rfl
theorem star : "*" ++ "errors.errorString" = "*errors.errorString" := by decide
theorem row109 (u:TypeId) (h:Tryz.prog.typeName? 3 u=some "*errors.errorString"):u=410 :=
 typeName_ptr_named (nm := "errors.errorString") (by rw [star];kernel_rfl) (by kernel_rfl) (by decide) u (by rw [star];exact h)
theorem gTab:Tryz.prog.globalNamed "internal/strconv.uint64pow10" = some 6:=by kernel_rfl
theorem Z0ma:∃ t n,(Tryz.prog.globals[6]?).map (·.type)=some t/\Tryz.prog.underlying t=some (.array n 221)/\Tryz.prog.cellsOf t=n/\n=20:=by
 refine⟨(((Tryz.prog.globals[6]?).map (·.type)).getD 0),20,by kernel_rfl,by kernel_rfl,by kernel_rfl,rfl⟩
theorem Zoma {W:World} (h:laidMet Tryz.prog Zeh W):Lib.TabIs Tryz.prog W "internal/strconv.uint64pow10" .u64 Lib.pow10Tab:=by
 obtain⟨t,n,h1,h2,h3,rfl⟩:=Z0ma
 have e:(Rows.laid_internal_strconv_uint64pow10:DataW Unit)=Lib.tabData .u64 Lib.pow10Tab:=by rfl
 have h4:=Zza (Zza h);rw[e]at h4;exact Lib.tabIs_of_head gTab h1 h2 Tryz.underlying221 (by kernel_rfl) h3 h4
theorem Zpma{W:World}(h:laidMet Tryz.prog Zeh W):∃ b off,W.cell? ⟨2,0,none⟩=some (.iface 410 (.pointer (some ⟨b,off,none⟩))):=by
 obtain⟨a,s,h1,h2,_,_⟩:=laid_sentinel (Zza (Zza (Zza (Zza h)))) gER gERType Tryz.underlying363 row109 Tryz.underlying410 Tryz.underlying412 rfl rfl Tryz.underlying9 Zjna Zuoa;have h0:=World.var?_cell gER h1 0;have hs:=World.cell?_spot h2;obtain⟨b,off,sp⟩:=a;have hs:sp=none:=hs;subst hs;exact⟨b,off,by simpa using h0⟩
def Zmz{H:Type}(zs:List (List UInt8)):DataW H:=.agg (zs.map λz=>.lit (.string z))
theorem Zht{H:Type}{enc:TypeId×Value->H}{P:Program}{w:World}{base:Nat}{sp:Nat->Bool}{held:Bool}{fuel:Nat}{t e:TypeId}{n:Nat}{cs:List Value}{zs:List (List UInt8)}{p:List MemPlace}
  (ht:P.underlying t=some (.array n e)) (he:P.underlying e=some .string) (hce:P.cellsOf e=1) (hct:P.cellsOf t=n)
  (h:DataW.trod enc P w base sp held fuel t cs=some (Zmz zs,p)):cs.length=zs.length/\∀ i (hi:i<zs.length),∃ s:ByteArray,cs[i]?=some (.string s)/\s.data.toList=zs[i]:=by
 cases fuel with
 |zero=>simp[DataW.trod]at h
 |succ fuel=>
  simp only[DataW.trod,ht,hce,hct,Nat.mul_one]at h
  split at h
  rename_i hl;obtain⟨xs,hm,hx⟩:=Option.map_eq_some_iff.1 h
  have hxs:xs.map (·.1)=zs.map λz=>(DataW.lit (.string z):DataW H):=by
   have:=congrArg Prod.fst hx;simpa[Zmz]using this
  have hxl:xs.length=n:=by simpa using Lib.mapM_length hm
  have hzl:zs.length=n:=by
   have:=congrArg List.length hxs;simp at this;omega
  refine⟨by omega,λi hi=>?_⟩
  have hin:i<n:=by omega
  obtain⟨b,hb,hf⟩:=Lib.mapM_at hm i i (by simp[hin]);obtain⟨z,hc,rfl,_⟩:=DataW.trod_string he hf
  have h1:cs[i]?=some (.string z):=by
   have:=congrArg (·[0]?) hc;simpa[List.getElem?_take,List.getElem?_drop]using this
  have h2:(xs.map (·.1))[i]?=some (DataW.lit (.string z.data.toList):DataW H):=by simp[hb]
  rw[hxs,List.getElem?_map,List.getElem?_eq_getElem hi]at h2;refine⟨z,h1,?_⟩;have h3:(DataW.lit (.string zs[i]):DataW H)=.lit (.string z.data.toList):=Option.some.inj h2
  injection h3 with h3
  injection h3 with h3
  exact h3.symm;cases h
theorem gSg:Tryz.prog.globalNamed "hopscotch/lex.signs" = some 0:=by kernel_rfl
theorem gSgType:(Tryz.prog.globals[0]?).map (·.type)=some 271:=by kernel_rfl
theorem Z09 {W:World} (h:laidMet Tryz.prog Zeh W):∃ cs:Array Value,W.var? Tryz.prog "hopscotch/lex.signs" = some cs∧cs.size=14∧∀ i (hi:i<signsL.length),∃ s:ByteArray,cs[i]? = some (.string s)∧s.data.toList=signsL[i]:=by
 have e:(Rows.laid_hopscotch_lex_signs:DataW Unit)=Zmz signsL:=by rfl
 have h4:=Zza (Zza (Zza (Zza (Zza (Zza h)))));rw[e]at h4;obtain⟨ps,⟨g',t',cs,fuel,p,q,hg',ht',hvar,hd,_,_⟩,_⟩:=h4;obtain rfl:=Option.some.inj (gSg.symm.trans hg');obtain rfl:=Option.some.inj (gSgType.symm.trans ht');obtain⟨h1,h2⟩:=Zht Tryz.underlying271 Tryz.underlying9 Zuoa (by kernel_rfl) hd;refine⟨_,hvar,(by simpa using h1:cs.size=signsL.length).trans rfl,λi hi=>?_⟩;obtain⟨s,h3,h4⟩:=h2 i hi;exact⟨s,by simpa using h3,h4⟩
theorem Zzfa{W:World}(h:W.ShapedOpen Tryz.prog):∃ m,W.cell? ⟨1,0,none⟩=some (.int .i64 m):=by
 obtain⟨cs,hh,hs,hr⟩:=h.1 1 #[.int .i64 0] 3 (of_decide_eq_true (by kernel_rfl)) (by kernel_rfl);obtain⟨ts,hts,_,hall⟩:=hr (by kernel_rfl);rw[show Tryz.prog.cellTypes Tryz.prog.depth 3=some [3] by kernel_rfl]at hts;cases hts
 have h1:0<cs.size:=by rw[hs];decide
 obtain⟨u,hu',hok⟩:=hall 0 cs[0] (by simp[h1])
 have:u=3:=by simpa using hu'.symm
 subst this
 have hcell:W.cell? ⟨1,0,none⟩=some cs[0]:=by simp[World.cell?,hh,h1]
 rw[hcell];unfold Cell.ok at hok;rw[Tryz.underlying3]at hok
 cases hv:cs[0]<;>rw[hv]at hok<;>first|(obtain⟨rfl,_⟩:=hok;exact⟨_,rfl⟩)|simp at hok
theorem laid_G{W:World}(h:laidMet Tryz.prog Zeh W)(hS:W.ShapedOpen Tryz.prog):∃ m,∀ g,RelG (Z9b W) g (gE m g):=by
 obtain⟨m,hml⟩:=Zzfa hS;refine⟨m,λg=>?_⟩;unfold gE
 split
 rename_i hg;subst hg;obtain⟨b,off,h1⟩:=Zpma h;refine⟨?_,trivial⟩;refine .view .old _ 2 0 (λ_=>.iface 410 (.pointer (some ⟨b,off,none⟩))) (λi hi=>?_) (λi hi=>?_)
 have:i=0:=by simpa[V.cells]using hi
 subst this;refine⟨by show(W.cell? _).isSome=true;rw[h1]<;>rfl,World.block_lt_of_cell? _ _ h1,h1,rfl⟩
 have:i=0:=by simpa[V.cells]using hi
 subst this;exact .iface _ _ _ (.view .old _ b off (λ_=>.nilIface) (λi hi=>by simp[V.cells]at hi) (λi hi=>by simp[V.cells]at hi))
 split
 rename_i hg;subst hg;have ht:=Zoma h;have hc:∀ i (hi:i<Lib.pow10Tab.length),W.cell? ⟨6,i,none⟩=some (.int .u64 (Lib.pow10Tab.getD i 0)):=λi hi=>ht.cell gTab i hi;have hlen:Lib.pow10Tab.length=20:=Lib.pow10Tab_length;have hlt:6<W.heap.size:=World.block_lt_of_cell? _ _ (hc 0 (by omega))
 have hv:W.var? Tryz.prog "internal/strconv.uint64pow10" = some (Lib.pow10Tab.map fun z=>Value.int .u64 z).toArray:=ht
 refine⟨?_,?_⟩;refine .view .old _ 6 0 (λi=>.int .u64 (Lib.pow10Tab.getD i 0)) (λi hi=>?_) (λi hi=>?_)
 have hi:i<Lib.pow10Tab.length:=by simpa[V.cells]using hi
 rw[Nat.zero_add];exact⟨by show(W.cell? _).isSome=true;rw[hc i hi]<;>rfl,hlt,hc i hi,rfl⟩
 have hi':i<Lib.pow10Tab.length:=by simpa[V.cells]using hi
 have key:∀ v,v=V.int .u64 (Lib.pow10Tab.getD i 0)->Rel (Z9b W) (Value.int .u64 (Lib.pow10Tab.getD i 0)) v:=λv e=>by rw[e];exact .int _ _
 exact key _ (by simp[V.cells,List.getD,hi']);refine⟨hlt,?_⟩;unfold World.var? at hv;rw[gTab]at hv;have hv:(match W.heap[6]? with|some (Obj.cells cs _ _)=>some cs|_=>none)=some (Lib.pow10Tab.map λz=>Value.int .u64 z).toArray:=hv
 split at hv
 rename_i cs t fr hh;cases hv;exact⟨_,t,fr,hh,by simp⟩;cases hv
 split
 rename_i hg;subst hg;obtain⟨cs,hv,hsz,hcs⟩:=Z09 h;have h0:=λi=>World.var?_cell gSg hv i
 have hc:∀ i (hi:i<signsL.length),∃ s:ByteArray,W.cell? ⟨0,i,none⟩=some (.string s)/\s.data.toList=signsL[i]:=λi hi=>by
  obtain⟨s,h1,h2⟩:=hcs i hi;exact⟨s,by rw[h0 i];exact h1,h2⟩
 have hlt:0<W.heap.size:=by
  obtain⟨s,h1,_⟩:=hc 0 (by decide);exact World.block_lt_of_cell? _ _ h1
 refine⟨?_,?_⟩;refine .view .old _ 0 0 (λi=>(cs[i]?).getD undef) (λi hi=>?_) (λi hi=>?_)
 have hi:i<signsL.length:=by simpa[V.cells]using hi
 obtain⟨s,h1,_⟩:=hcs i hi;rw[Nat.zero_add,h1]
 have h2:W.cell? ⟨0,i,none⟩=some (.string s):=by rw[h0 i];exact h1
 exact⟨by show(W.cell? _).isSome=true;rw[h2]<;>rfl,hlt,h2,rfl⟩
 have hi':i<signsL.length:=by simpa[V.cells]using hi
 obtain⟨s,h1,h2⟩:=hcs i hi';rw[h1]
 have key:∀ v,v=V.str signsL[i]->Rel (Z9b W) (Value.string s) v:=λv e=>by rw[e];exact .str _ _ h2
 exact key _ (by simp[V.cells]);refine⟨hlt,?_⟩;unfold World.var? at hv;rw[gSg]at hv;have hv:(match W.heap[0]? with|some (Obj.cells cs _ _)=>some cs|_=>none)=some cs:=hv
 split at hv
 rename_i cs' t fr hh;cases hv;exact⟨_,t,fr,hh,by rw[hsz]<;>rfl⟩;cases hv
 split
 rename_i hg;subst hg;refine⟨?_,trivial⟩;refine .view .old _ 1 0 (λ_=>.int .i64 m) (λi hi=>?_) (λi hi=>?_)
 have:i=0:=by simpa[V.cells]using hi
 subst this;refine⟨by show(W.cell? _).isSome=true;rw[hml]<;>rfl,World.block_lt_of_cell? _ _ hml,hml,rfl⟩
 have:i=0:=by simpa[V.cells]using hi
 subst this;exact .int _ _;exact⟨.top _,trivial⟩
end Go.Proofs.YtoahejkahaimnaaGreatDoor
end

section
namespace Go.Proofs.YtoahejkahaimnaaGreatDoor
open Go.RowKit Go.Hs Go.ChangeShapes Go.WideShapes Go.ChangeAt
open Go.ChangeMaps (open_string shut_string)
set_option maxRecDepth 100000
variable{W:World}{H:Type}{enc:TypeId×Value->H}{b0:Nat}{v:Value}{d:DataW H}{ps:List MemPlace}
theorem own:ownKnob Tryz.prog.godebug=none:=by kernel_rfl
theorem Zgga:laidOutB Tryz.prog=true:=by kernel_rfl
end Go.Proofs.YtoahejkahaimnaaGreatDoor
end

section
namespace Go.Hs
section
variable{P:Program}{W:World}
def ReadsB(P:Program)(W:World){α : Type}(t:TypeId)(m:Nat)(B : α -> Prop)(f : α -> List V):Prop:=
 P.cellsOf t=m/\(∀ a,(f a).length=m)/\∀ {H:Type} (enc:TypeId×Value->H) (held:Bool) (fuel:Nat) (cs:List Value) (x:DataW H×List MemPlace),
  DataW.trod enc P W 0 (λ_=>true) held fuel t cs=some x->(x.1.weights P t).all (· <= reachBytes)=true->∃ a,B a/\RelC (Z9b W) cs (f a)
theorem ReadsB.int{t:TypeId}{k:IntKind}(ht:P.underlying t=some (.int k))(hc:P.cellsOf t=1):ReadsB P W t 1 (InK k) (λn=>[V.int k n]):=by
 refine⟨hc,λ_=>rfl,λenc held fuel cs x h _=>?_⟩;obtain⟨n,rfl,_,hw⟩:=DataW.trod_int ht h;exact⟨n,by simpa[Lit.wf,InK]using hw,Z9c rfl (.int _ _) RelC.nil⟩
theorem ReadsB.str{t:TypeId}(ht:P.underlying t=some .string)(hc:P.cellsOf t=1):ReadsB P W t 1 (λs=>s.length<=reachBytes) (λs:List UInt8=>[V.str s]):=by
 refine⟨hc,λ_=>rfl,λenc held fuel cs x h hw=>?_⟩;obtain⟨s,rfl,rfl,_⟩:=DataW.trod_string ht h;exact⟨s.data.toList,by simpa[DataW.weights]using hw,Z9c rfl (.str _ _ rfl) RelC.nil⟩
theorem Zdz{H:Type}{e:TypeId}{l:List (DataW H)}(h:(DataW.weightsAll P e l).all (· <= reachBytes)=true){d:DataW H}(hd:d∈l):(d.weights P e).all (· <= reachBytes)=true:=by
 induction l with
 |nil=>cases hd
 |cons x r ih=>
  simp only[DataW.weightsAll,List.all_append,Bool.and_eq_true]at h
  rcases List.mem_cons.1 hd with rfl|hd
  exact h.1;exact ih h.2 hd
theorem Zql{H:Type}{ts:List TypeId}{l:List (DataW H)}(h:(DataW.weightsEach P ts l).all (· <= reachBytes)=true){j:Nat}{t:TypeId}{d:DataW H}(ht:ts[j]?=some t)(hd:l[j]?=some d):(d.weights P t).all (· <= reachBytes)=true:=by
 induction ts generalizing l j with
 |nil=>cases ht
 |cons t0 ts ih=>
  cases l with
  |nil=>cases hd
  |cons x r=>
   simp only[DataW.weightsEach,List.all_append,Bool.and_eq_true]at h
   cases j with
   |zero=>
    obtain rfl:=Option.some.inj ht;obtain rfl:=Option.some.inj hd;exact h.1
   |succ j=>exact ih h.2 ht hd
theorem ReadsB.field{α H:Type}{t:TypeId}{m:Nat}{B : α -> Prop}{f : α -> List V}(hr:ReadsB P W t m B f){enc:TypeId×Value->H}{held:Bool}{i j n:Nat}{cs:List Value}{xs:List (DataW H×List MemPlace)}{ts:List TypeId}
  (hw:(DataW.weightsEach P ts (xs.map (·.1))).all (· <= reachBytes)=true) (ht:ts[j]?=some t)
  (h:DataW.trod enc P W 0 (λ_=>true) held n t ((cs.drop i).take (P.cellsOf t))=xs[j]?) (hj:j<xs.length):∃ a,B a/\RelC (Z9b W) ((cs.drop i).take m) (f a):=by
 rw[hr.1,List.getElem?_eq_getElem hj]at h;exact hr.2.2 enc held n _ _ h (Zql hw ht (by rw[List.getElem?_map,List.getElem?_eq_getElem hj];rfl))
theorem ReadsB.slice{α : Type}{t e:TypeId}{m:Nat}{B : α -> Prop}{f : α -> V}(ht:P.underlying t=some (.slice e))(hc:P.cellsOf t=1)(hm:0<m)(hb:Nat.ble 1 (P.bytesOf e)=true)(he:ReadsB P W e m B (λa=>(f a).cells)):ReadsB P W t 1 (λs:Sl α => s.l.length<=reachBytes/\∀ a∈s.l,B a) (λs:Sl α => [Za .any m f s]):=by
 refine⟨hc,λ_=>rfl,λenc held fuel cs x h hw=>?_⟩;obtain⟨hce,hlen,hrd⟩:=he
 rcases DataW.trod_slice ht h with ⟨rfl,_⟩|⟨a,len,cap,elems,rest,n,_,rfl,hxe,_,hl,_,hel,hread,hsp,_⟩
 exact⟨.nil,⟨Nat.zero_le _,λa ha=>by cases ha⟩,Z9c rfl .nils RelC.nil⟩;obtain⟨hrl,hrest⟩:=hsp rfl;rw[hce]at hread hrest;rw[hxe]at hw;simp only[DataW.weights,ht,List.all_cons,List.all_append,Bool.and_eq_true,decide_eq_true_eq,List.length_map]at hw
 have hle:len<=reachBytes:=by
  have h1:1<=P.bytesOf e:=Nat.le_of_ble_eq_true hb;have h2:=Nat.le_trans (Nat.mul_le_mul_left (elems.length+rest.length) h1) hw.1;omega
 have hspot:0<cap->a.spot=none:=by
  intro h0
  have key:∀ j (o:Option (DataW _×List MemPlace)),j=0->(W.cells? 0 (a.add (j*m)) m).bind (DataW.trod enc P W 0 (λ_=>true) held n e)=o->o.isSome=true->a.spot=none:=by
   intro j o hj0 hj ho;subst hj0;rw[Nat.zero_mul]at hj;rw[Option.isSome_iff_exists]at ho;obtain⟨y,rfl⟩:=ho;obtain⟨cs',h1,_⟩:=Option.bind_eq_some_iff.1 hj;obtain⟨_,h2,h3⟩:=World.cells?_some h1;have h4:=h3 0 hm;rw[List.getElem?_eq_getElem zo]at h4;exact World.cell?_spot h4
  rcases Nat.eq_zero_or_pos len with h1|h1
  have h2:=hrest 0 zo;exact key _ _ zo h2 (by rw[List.getElem?_eq_getElem zo];rfl);have h2:=hread 0 h1;exact key _ _ rfl h2 (by rw[List.getElem?_eq_getElem zo];rfl)
 rcases Nat.eq_zero_or_pos cap with h0|h0
 have h1:len=0:=zo;subst h0 h1;exact⟨.mk false [],⟨Nat.zero_le _,λa ha=>by cases ha⟩,Z9c rfl (.slice0 _ _ _ a) RelC.nil⟩;have hs:=hspot h0;obtain⟨b,off,sp⟩:=a;have hs:sp=none:=hs;subst hs
 obtain⟨l,hll,hp⟩:=Zj0 (p:=λi (a : α)=>B a/\∃ cs',W.cells? 0 (Addr.add ⟨b,off,none⟩ (i*m)) m=some cs'/\RelC (Z9b W) cs' (f a).cells) len (by
  intro i hi;have h1:=hread i hi;rw[List.getElem?_eq_getElem zo]at h1;obtain⟨cs',h2,h3⟩:=Option.bind_eq_some_iff.1 h1;obtain⟨a,hB,ha⟩:=hrd enc held n cs' _ h3 (Zdz hw.2.1 (List.mem_map.2 ⟨_,List.getElem_mem _,rfl⟩))
  exact⟨a,hB,cs',h2,ha⟩)
 refine⟨.mk false l,⟨by show l.length<=_;omega,λa ha=>?_⟩,Z9c rfl ?_ RelC.nil⟩;obtain⟨i,hi,rfl⟩:=List.mem_iff_getElem.1 ha;exact(hp i _ (List.getElem?_eq_getElem hi)).1
 have hE:∀ v∈l.map f,v.cells.length=m:=by
  intro v hv;obtain⟨a,_,rfl⟩:=List.mem_map.1 hv;exact hlen a
 have hfl:=Zsb hE;rw[List.length_map]at hfl
 have cellAt:∀ i (hi:i<(flat (l.map f)).length),∃ y,W.cell? ⟨b,off+i,none⟩=some y/\y.oneCell'=true/\Rel (Z9b W) y (flat (l.map f))[i]:=by
  intro i hi
  have hi2:i<l.length*m:=by rw[<- hfl];exact hi
  have hq:i/m<l.length:=Nat.div_lt_of_lt_mul (by rw[Nat.mul_comm];exact hi2);have hr:i%m<m:=Nat.mod_lt _ hm
  have hdm:i/m*m+i%m=i:=by rw[Nat.mul_comm];exact Nat.div_add_mod i m
  obtain⟨_,cs',h1,h2⟩:=hp (i/m) _ (List.getElem?_eq_getElem hq);obtain⟨_,h3,h4⟩:=World.cells?_some h1;have h5:=h4 (i%m) hr;rw[List.getElem?_eq_getElem zo]at h5;have h6:=h2.rel (i%m) zo (by rw[hlen];exact hr);have h7:=Zpg hE (i/m) (i%m) (by rw[List.length_map];exact hq) hr;rw[hdm,List.getElem?_eq_getElem hi,List.getElem_map,List.getElem?_eq_getElem (by rw[hlen];exact hr)]at h7;have h8:=Option.some.inj h7;refine⟨_,?_,h2.one _ (List.getElem_mem _),by rw[h8];exact h6⟩;rw[<- h5,Addr.add_lit,Addr.add_lit,Nat.add_assoc,hdm]
 have:=Rel.slice (X:=Z9b W) .any false m (l.map f) b off cap (λi=>(W.cell? ⟨b,off+i,none⟩).getD undef) (by rw[List.length_map,hll];exact hl) zS hE
  (λi hi=>by
   obtain⟨y,h1,h2,_⟩:=cellAt i hi;refine⟨by show(W.cell? ⟨b,off+i,none⟩).isSome=true;rw[h1];rfl,trivial,?_,by simp only[h1,Option.getD_some];exact h2⟩
   show W.cell? ⟨b,off+i,none⟩=_
   rw[h1];rfl)
  (λi hi=>by
   obtain⟨y,h1,_,h3⟩:=cellAt i hi;simp only[h1,Option.getD_some]
   exact h3)
 rw[List.length_map,hll]at this;exact this
end
end Go.Hs
end
