/- A part. No condition. -/
import Derived.Test.YtegjlbpnpiigkaaGreatDoorP41
import Derived.Test.YtegjlbpnpiigkaaGreatDoorP40
set_option linter.all false
namespace Go.Hs
open Go.Proofs
set_option maxRecDepth 10000
def eq3(a b c a' b' c':Int):Bool:=decide (a=a'/\b=b'/\c=c')
theorem Z9ia(a b c a' b' c':Int):eqCs [.int .u8 a,.int .u8 b,.int .u8 c] [.int .u8 a',.int .u8 b',.int .u8 c']=some (eq3 a b c a' b' c'):=by
 unfold eq3;simp only[eqCs,eqC,if_true]
 by_cases h1:a=a'
 by_cases h2:b=b'
 by_cases h3:c=c'
 simp[h1,h2,h3];have:(c==c')=false:=zu h3;simp[h1,h2,h3,this];have:(b==b')=false:=zu h2;simp[h1,this,h2];have:(a==a')=false:=zu h1;simp[this,h1]
def knC(v:V):List V:=ruleC++[v]
theorem Zup(v:V):(knC v).length=93:=by rw[knC,List.length_append]<;>rfl
theorem Zgia(v:V):(knC v)[92]?=some v:=by
 rw[knC,List.getElem?_append_right zd]<;>rfl
theorem Zyo:ruleC.length=92:=rfl
theorem Z0na(v:V):(knC v).take 92=ruleC:=by rw[knC,List.take_append_of_le_length (Nat.le_refl 92)]<;>rfl
theorem Zv1(f:Col->Col):ruleC.map (V.recol f)=ruleC:=rfl
theorem Zfia(f:Col->Col)(v:V):(knC v).map (V.recol f)=knC (v.recol f):=by
 rw[knC,List.map_append,Zv1]<;>rfl
theorem Z29(G:Nat->V)(hG:GOk G)(c1 c2:Col)(names:Sl (List UInt8))(hnl:names.l.length<1000000)(n:XN)(ks:Sl Int)(hn:PlOk ks.l.length n)(hkl:ks.l.length<1000000)(hks:∀ y∈ks.l,y=1\/y=2):
  Spec Tryz.prog G 283 [.agg (knC (Zb c1 1 V.str names)),Zxa n,Zb c2 1 (V.int .u8) ks] Zk (λv _=>v=.int .u8 (Zeg names.l n ks.l)):=by
 refine Zo 0 71 [.tmp 6] Tryz.func283 λX=>?_;have hP:Zeg names.l n ks.l=kd n.op (names.l.contains n.name) (plc ks.l n.a) (plc ks.l n.b) (plc ks.l n.c):=rfl;generalize Zeg names.l n ks.l=res at hP⊢;simp only[Z5a];refine Z6 λK hK=>AW.region zk ?_;refine Zsf @Zup ?_;intro g3 g4 g5;refine hK _ ?_
 try clear hK K
 refine Zda (fun(_:Unit)=>st [(3,.ptr 3 g3 0),(4,.ptr 4 g4 0),(5,.ptr 5 g5 0)] [(3,.cells .new g3 0 (knC (Zb c1 1 V.str names))),(4,.cells .new g4 0 [.int .u8 n.op,.int .i64 n.num,.str n.name,.int .i64 n.a,.int .i64 n.b,.int .i64 n.c]),(5,.cells .new g5 0 [Zb c2 1 (V.int .u8) ks])])
  (λ_=>n.op=2->names.l.contains n.name=true) (λK1 hK1=>?_) ?_
 by_cases ho:n.op=2
 .have e1:(n.op==2)=true:=zu ho
  refine Z6 λK hK=>AW.region zk ?_;refine Zsf (zi e1 @Zgia) ?_;refine Zc hG ?_ (s:=(Zcd G hG _ n.name names hnl));refine hK _ ?_
  try clear hK K
  cases hc:names.l.contains n.name with
  |true=>
   refine Z0 ?_;exact hK1 _ () (λ_=>hc) (Za zp zp)
  |false=>
   refine Zi rfl (λh21=>?_) (λh21=>?_)
   .refine Z6 λK hK=>AW.region zk ?_
    refine Zs ?_;refine hK _ ?_
    try clear hK K
    refine Z ?_
    rw[hP,hc,ho]<;>rfl
   cases h21
 .have e1:(n.op==2)=false:=zu ho
  refine Z6 λK hK=>AW.region zk ?_;refine Zsf e1 ?_;refine hK _ ?_
  try clear hK K
  refine Z0 ?_;exact hK1 _ () (λh=>absurd h ho) (Za zp zp)
 rintro _ hnm;refine Z6 λK hK=>AW.region zk ?_;refine Zs ?_;refine hK _ ?_
 try clear hK K
 refine AW.weak (Zt (λo=>o==3||o==4||o==5) (l:=[(3,.view .new (.agg (knC (Zb c1 1 V.str names)))),(4,.view .new (.agg [.int .u8 n.op,.int .i64 n.num,.str n.name,.int .i64 n.a,.int .i64 n.b,.int .i64 n.c])),(7,.func (.func 304) [] [.view .new (Zb c2 1 (V.int .u8) ks)])]) (m:=[]) ?_ trivial) ?_;refine Zs ?_;refine⟨?_,?_,?_⟩;exact Fz.ptr (v:=.agg (knC (Zb c1 1 V.str names))) (c:=.new) (fz:=0) rfl zp;exact Fz.ptr (v:=.agg [.int .u8 n.op,.int .i64 n.num,.str n.name,.int .i64 n.a,.int .i64 n.b,.int .i64 n.c]) (c:=.new) (fz:=0) rfl zp;exact Fz.func ⟨Fz.ptr (v:=Zb c2 1 (V.int .u8) ks) (c:=.new) (fz:=0) rfl zp,trivial⟩
 have pc:∀ i:Int,(i<0\/0<=i/\i<ks.l.length)->Z7i Tryz.prog G 304 [.int .i64 i,.view .new (Zb c2 1 (V.int .u8) ks)] (.int .u8 (plc ks.l i)):=λi h=>⟨by kernel_rfl,by
  refine Zs ?_;refine(Z1la G hG _ ks hkl i h).mono ?_;rintro _ _ rfl
  rfl⟩
 obtain⟨hw,ha1,hb1,hc1,ha0,hb0,hc0⟩:=hn
 have hra:n.a<0\/0<=n.a/\n.a<ks.l.length:=by
  by_cases h:0<Zy n.op
  exact .inr (ha1 h);exact .inl (by rw[ha0 h];decide)
 have hrb:n.b<0\/0<=n.b/\n.b<ks.l.length:=by
  by_cases h:1<Zy n.op
  exact .inr (hb1 h);exact .inl (by rw[hb0 h];decide)
 have hrc:n.c<0\/0<=n.c/\n.c<ks.l.length:=by
  by_cases h:2<Zy n.op
  exact .inr (hc1 h);exact .inl (by rw[hc0 h];decide)
 have hor:=Zig hw;obtain⟨op,hop⟩:∃ op:Nat,n.op=op:=⟨n.op.toNat,zo⟩;have hop1:op<23:=zo;have hop2:n.op<23:=zo;have hop0:0<=n.op:=zo;have hopn:n.op.toNat=op:=zo;have hru:=Zsga op hop1;have hrl:op*4+4<=92:=zo;refine Z6 λK hK=>Zw ⟨λi=>if i=8 then .int .u8 (plc ks.l n.a)else if i=12 then .int .u8 (plc ks.l n.b)else if i=16 then .int .u8 (plc ks.l n.c)else .top,λi=>if i=1 then .lend else if i=4 then .lend else if i=7 then .lend else if i=11 then .lend else if i=15 then .lend else .pure⟩ zk hG zk zk ?_;simp -implicitDefEqProofs only[go_sem,seval,Z0na,Zup,show(92:Nat)<=93 from zd,Zyo,hru,hop2,hop0,hopn,hrl];refine⟨pc _ hra,pc _ hrb,pc _ hrc,?_⟩;intro g8 g9;refine hK _ ?_
 try clear hK K
 have hpl:∀ i:Int,(0<=i/\i<ks.l.length)->plc ks.l i=1\/plc ks.l i=2:=by
  intro i hi;unfold plc;rw[if_neg zo];obtain⟨m,rfl⟩:∃ m:Nat,i=m:=⟨i.toNat,zo⟩;rw[Int.toNat_natCast,List.getD_eq_getElem?_getD,List.getElem?_eq_getElem zo];exact hks _ (List.getElem_mem _)
 have hva:0<Zy n.op->plc ks.l n.a=1\/plc ks.l n.a=2:=λh=>hpl _ (ha1 h);have hvb:1<Zy n.op->plc ks.l n.b=1\/plc ks.l n.b=2:=λh=>hpl _ (hb1 h);have hvc:2<Zy n.op->plc ks.l n.c=1\/plc ks.l n.c=2:=λh=>hpl _ (hc1 h)
 have hza:¬ 0<Zy n.op->plc ks.l n.a=0:=λh=>by rw[ha0 h]<;>rfl
 have hzb:¬ 1<Zy n.op->plc ks.l n.b=0:=λh=>by rw[hb0 h]<;>rfl
 have hzc:¬ 2<Zy n.op->plc ks.l n.c=0:=λh=>by rw[hc0 h]<;>rfl
 generalize plc ks.l n.a=a at hP hva hza⊢;generalize plc ks.l n.b=b at hP hvb hzb⊢;generalize plc ks.l n.c=c at hP hvc hzc⊢;refine Z6 λK hK=>AW.region zk ?_;refine Zs ?_;refine hK _ ?_
 try clear hK K
 by_cases q16:op=16\/op=17
 .have eA:Zw1 op=3:=by rcases q16 with rfl|rfl<;>rfl
  have eB:Ztga op=3:=by rcases q16 with rfl|rfl<;>rfl
  have eD:Zu1 op=0:=by rcases q16 with rfl|rfl<;>rfl
  have eI:Zlma op=2:=by rcases q16 with rfl|rfl<;>rfl
  rw[eA,eB,eD,eI]
  have hpo:Zy n.op=2:=by rw[hop];rcases q16 with rfl|rfl<;>rfl
  rw[hpo]at hva hvb hzc
  replace hva:=hva zd
  replace hvb:=hvb zd
  replace hzc:=hzc zd
  refine Z4 ?_;refine Z6 λK hK=>AW.region zk ?_;refine Zs ?_;refine hK _ ?_
  try clear hK K
  refine Z1 ?_;refine Z4 ?_;refine Z6 λK hK=>AW.region zk ?_;refine Zs ?_;refine hK _ ?_
  try clear hK K
  refine Z0 ?_;refine Z4 ?_;refine Z6 λK=>?_;intro hK;refine Zyf 3 zk rfl rfl ?_;simp -implicitDefEqProofs only[go_sem,seval,List.take_succ_cons,List.take_zero];refine⟨_,Z5j (.inr rfl) zk zk zk zp zp zk (Z9ia _ _ _ _ _ _),?_⟩;simp -implicitDefEqProofs only[go_sem,seval,List.drop_succ_cons,List.drop_zero];refine hK _ ?_
  try clear hK K
  have hP2:res=if eq3 a b c b b 0=true then 2 else 0:=by
   rw[hP,hop,hzc]
   rcases q16 with rfl|rfl<;>rcases hva with rfl|rfl<;>rcases hvb with rfl|rfl<;>rfl
  generalize eq3 a b c b b 0=z at hP2⊢
  cases z with
  |true=>
   refine Z0 ?_;refine Z6 λK hK=>AW.region zk ?_;refine Zs ?_;refine hK _ ?_
   try clear hK K
   refine Z ?_
   rw[hP2]<;>rfl
  |false=>
   refine Zi rfl (λh68=>?_) (λh68=>?_)
   .refine Z6 λK hK=>AW.region zk ?_
    refine Zs ?_;refine hK _ ?_
    try clear hK K
    refine Z ?_
    rw[hP2]<;>rfl
   cases h68
 by_cases q22:op=22
 .subst q22
  have eA:Zw1 22=2:=rfl;have eB:Ztga 22=3:=rfl;have eD:Zu1 22=3:=rfl;have eI:Zlma 22=3:=rfl;rw[eA,eB,eD,eI]
  have hpo:Zy n.op=3:=by rw[hop]<;>rfl
  rw[hpo]at hva hvb hvc
  replace hva:=hva zd
  replace hvb:=hvb zd
  replace hvc:=hvc zd
  refine Z4 ?_;refine Z6 λK hK=>AW.region zk ?_;refine Zs ?_;refine hK _ ?_
  try clear hK K
  refine Z0 ?_;refine Z4 ?_;refine Z6 λK hK=>AW.region zk ?_;refine Zs ?_;refine hK _ ?_
  try clear hK K
  refine Z1 ?_;refine Z4 ?_;refine Z6 λK=>?_;intro hK;refine Zyf 3 zk rfl rfl ?_;simp -implicitDefEqProofs only[go_sem,seval,List.take_succ_cons,List.take_zero];refine⟨_,Z5j (.inr rfl) zk zk zk zp zp zk (Z9ia _ _ _ _ _ _),?_⟩;simp -implicitDefEqProofs only[go_sem,seval,List.drop_succ_cons,List.drop_zero];refine hK _ ?_
  try clear hK K
  have hP2:res=if eq3 a b c 2 b b=true then b else 0:=by
   rw[hP,hop]
   rcases hva with rfl|rfl<;>rcases hvb with rfl|rfl<;>rcases hvc with rfl|rfl<;>rfl
  generalize eq3 a b c 2 b b=z at hP2⊢
  cases z with
  |true=>
   refine Z0 ?_;refine Z6 λK hK=>AW.region zk ?_;refine Zs ?_;refine hK _ ?_
   try clear hK K
   refine Z ?_
   rw[hP2]<;>rfl
  |false=>
   refine Zi rfl (λh68=>?_) (λh68=>?_)
   .refine Z6 λK hK=>AW.region zk ?_
    refine Zs ?_;refine hK _ ?_
    try clear hK K
    refine Z ?_
    rw[hP2]<;>rfl
   cases h68
 have nA:(Zw1 op==3)=false:=by unfold Zw1;rw[if_neg q16];split;rfl;split;rfl;rfl
 have nD:(Zu1 op==3)=false:=by unfold Zu1;rw[if_neg q22]<;>rfl
 refine Z4 ?_;refine Z6 λK hK=>AW.region zk ?_;refine Zsf nA ?_;refine hK _ ?_
 try clear hK K
 refine Z0 ?_;refine Z4 ?_;refine Z6 λK hK=>AW.region zk ?_;refine Zsf nD ?_;refine hK _ ?_
 try clear hK K
 refine Z0 ?_;refine Z4 ?_;refine Z6 λK=>?_;intro hK;refine Zyf 3 zk rfl rfl ?_;simp -implicitDefEqProofs only[go_sem,seval,List.take_succ_cons,List.take_zero];refine⟨_,Z5j (.inr rfl) zk zk zk zp zp zk (Z9ia _ _ _ _ _ _),?_⟩;simp -implicitDefEqProofs only[go_sem,seval,List.drop_succ_cons,List.drop_zero];refine hK _ ?_
 try clear hK K
 have hP2:res=if eq3 a b c (Zw1 op) (Ztga op) (Zu1 op)=true then Zlma op else 0:=by
  have hcs:op=1\/op=2\/op=3\/op=4\/op=5\/op=6\/op=7\/op=8\/op=9\/op=10\/op=11\/op=12\/op=13\/op=14\/op=15\/op=18\/op=19\/op=20\/op=21:=zo
  rcases hcs with rfl|rfl|rfl|rfl|rfl|rfl|rfl|rfl|rfl|rfl|rfl|rfl|rfl|rfl|rfl|rfl|rfl|rfl|rfl
  .have hpo:Zy n.op=0:=by rw[hop]<;>rfl
   rw[hpo]at hva hvb hza hzb hzc;rw[hP,hop,hza zd,hzb zd,hzc zd]
   try rfl
  .have hpo:Zy n.op=0:=by rw[hop]<;>rfl
   rw[hpo]at hva hvb hza hzb hzc;rw[hP,hop,hza zd,hzb zd,hzc zd];rw[hnm (by rw[hop]<;>rfl)]
   try rfl
  .have hpo:Zy n.op=0:=by rw[hop]<;>rfl
   rw[hpo]at hva hvb hza hzb hzc;rw[hP,hop,hza zd,hzb zd,hzc zd]
   try rfl
  .have hpo:Zy n.op=0:=by rw[hop]<;>rfl
   rw[hpo]at hva hvb hza hzb hzc;rw[hP,hop,hza zd,hzb zd,hzc zd]
   try rfl
  have hpo:Zy n.op=1:=by rw[hop]<;>rfl
  rw[hpo]at hva hvb hza hzb hzc;rw[hP,hop,hzb zd,hzc zd]
  rcases hva zd with rfl|rfl<;>rfl
  have hpo:Zy n.op=1:=by rw[hop]<;>rfl
  rw[hpo]at hva hvb hza hzb hzc;rw[hP,hop,hzb zd,hzc zd]
  rcases hva zd with rfl|rfl<;>rfl
  have hpo:Zy n.op=2:=by rw[hop]<;>rfl
  rw[hpo]at hva hvb hza hzb hzc;rw[hP,hop,hzc zd]
  rcases hva zd with rfl|rfl<;>rcases hvb zd with rfl|rfl<;>rfl
  have hpo:Zy n.op=2:=by rw[hop]<;>rfl
  rw[hpo]at hva hvb hza hzb hzc;rw[hP,hop,hzc zd]
  rcases hva zd with rfl|rfl<;>rcases hvb zd with rfl|rfl<;>rfl
  have hpo:Zy n.op=2:=by rw[hop]<;>rfl
  rw[hpo]at hva hvb hza hzb hzc;rw[hP,hop,hzc zd]
  rcases hva zd with rfl|rfl<;>rcases hvb zd with rfl|rfl<;>rfl
  have hpo:Zy n.op=2:=by rw[hop]<;>rfl
  rw[hpo]at hva hvb hza hzb hzc;rw[hP,hop,hzc zd]
  rcases hva zd with rfl|rfl<;>rcases hvb zd with rfl|rfl<;>rfl
  have hpo:Zy n.op=2:=by rw[hop]<;>rfl
  rw[hpo]at hva hvb hza hzb hzc;rw[hP,hop,hzc zd]
  rcases hva zd with rfl|rfl<;>rcases hvb zd with rfl|rfl<;>rfl
  have hpo:Zy n.op=2:=by rw[hop]<;>rfl
  rw[hpo]at hva hvb hza hzb hzc;rw[hP,hop,hzc zd]
  rcases hva zd with rfl|rfl<;>rcases hvb zd with rfl|rfl<;>rfl
  have hpo:Zy n.op=2:=by rw[hop]<;>rfl
  rw[hpo]at hva hvb hza hzb hzc;rw[hP,hop,hzc zd]
  rcases hva zd with rfl|rfl<;>rcases hvb zd with rfl|rfl<;>rfl
  have hpo:Zy n.op=2:=by rw[hop]<;>rfl
  rw[hpo]at hva hvb hza hzb hzc;rw[hP,hop,hzc zd]
  rcases hva zd with rfl|rfl<;>rcases hvb zd with rfl|rfl<;>rfl
  have hpo:Zy n.op=2:=by rw[hop]<;>rfl
  rw[hpo]at hva hvb hza hzb hzc;rw[hP,hop,hzc zd]
  rcases hva zd with rfl|rfl<;>rcases hvb zd with rfl|rfl<;>rfl
  have hpo:Zy n.op=2:=by rw[hop]<;>rfl
  rw[hpo]at hva hvb hza hzb hzc;rw[hP,hop,hzc zd]
  rcases hva zd with rfl|rfl<;>rcases hvb zd with rfl|rfl<;>rfl
  have hpo:Zy n.op=2:=by rw[hop]<;>rfl
  rw[hpo]at hva hvb hza hzb hzc;rw[hP,hop,hzc zd]
  rcases hva zd with rfl|rfl<;>rcases hvb zd with rfl|rfl<;>rfl
  have hpo:Zy n.op=2:=by rw[hop]<;>rfl
  rw[hpo]at hva hvb hza hzb hzc;rw[hP,hop,hzc zd]
  rcases hva zd with rfl|rfl<;>rcases hvb zd with rfl|rfl<;>rfl
  have hpo:Zy n.op=2:=by rw[hop]<;>rfl
  rw[hpo]at hva hvb hza hzb hzc;rw[hP,hop,hzc zd]
  rcases hva zd with rfl|rfl<;>rcases hvb zd with rfl|rfl<;>rfl
 generalize eq3 a b c (Zw1 op) (Ztga op) (Zu1 op)=z at hP2⊢
 cases z with
 |true=>
  refine Z0 ?_;refine Z6 λK hK=>AW.region zk ?_;refine Zs ?_;refine hK _ ?_
  try clear hK K
  refine Z ?_
  rw[hP2]<;>rfl
 |false=>
  refine Zi rfl (λh68=>?_) (λh68=>?_)
  .refine Z6 λK hK=>AW.region zk ?_
   refine Zs ?_;refine hK _ ?_
   try clear hK K
   refine Z ?_
   rw[hP2]<;>rfl
  cases h68
def Ztb(names:List (List UInt8))(l:List XN):List Int×Int×Int:=if Zic l≠0 then([],0,Zic l)else goN names l 0 []
def encKs(c:Col)(l:List Int):V:=Zb c 1 (V.int .u8) (Zl l)
def encKr(c:Col)(p:List Int×Int×Int):V:=.tuple [encKs c p.1,.int .i64 p.2.1,.int .i64 p.2.2]
theorem Zjia{op:Int}{nm:Bool}{a b c:Int}(hb:b=0\/b=1\/b=2)(h:kd op nm a b c≠0):kd op nm a b c=1\/kd op nm a b c=2:=by
 have:=Zvk (op:=op) (nm:=nm) (a:=a) (c:=c) (b:=b) zo;omega
theorem Z7ga{ks:List Int}(h:∀ y∈ks,y=1\/y=2)(i:Int):plc ks i=0\/plc ks i=1\/plc ks i=2:=by
 unfold plc
 split
 exact .inl rfl
 .rw[List.getD_eq_getElem?_getD]
  cases hg:ks[i.toNat]? with
  |none=>exact .inl rfl
  |some y=>exact .inr (h y (List.mem_of_getElem? hg))
theorem Z6na{names:List (List UInt8)}{l:List XN}{k:Nat}{n:XN}(h:l[k]?=some n)(ks:List Int):goN names (l.drop k) k ks=if Zeg names n ks=0 then([],(k:Int),90)else goN names (l.drop (k+1)) (k+1:Nat) (ks++[Zeg names n ks]):=by
 obtain⟨h1,h2⟩:=List.getElem?_eq_some_iff.1 h
 rw[List.drop_eq_getElem_cons h1,h2]<;>rfl
theorem Im.knC{v:V}(h:v.Im):(V.agg (knC v)).Im:=by
 refine .agg _ λx hx=>?_
 rcases List.mem_append.1 hx with h1|h1
 have:∀ l:List V,(l.all λv=>match v with|.int _ _=>true|_=>false)=true->∀ x∈l,x.Im:=by
  intro l hl x hx;have:=List.all_eq_true.1 hl x hx
  cases x<;>first|exact .int _ _|cases this
 exact this ruleC rfl x h1;rw[List.mem_singleton.1 h1];exact h
theorem Im.xn(n:XN):(Zxa n).Im:=by
 refine .agg _ λx hx=>?_;simp only[List.mem_cons,List.not_mem_nil,or_false]at hx
 rcases hx with rfl|rfl|rfl|rfl|rfl|rfl<;>first|exact .int _ _|exact .str _
theorem Im.strs(c:Col)(s:Sl (List UInt8)):(Zb c 1 V.str s).Im:=Z3c (λx y hy=>by simp[V.cells]at hy;subst hy;exact .str _) s
theorem buildKn(x:V)(hx:x.cells=[x])(hs:x.solid=true):Zag Tryz.prog 319 [(0,.agg ruleC),(1,x)]=some (.agg (knC x)):=by
 rw[Zi9 (tbl:=[(0,92),(92,1)]) (z:=List.replicate 92 (.int .u8 0)++[.nils]) zk zk]
 have e1:Hs.setAt (List.replicate 92 (.int .u8 0)++[.nils]) 0 ruleC=ruleC++[.nils]:=by
  rw[Z8s _ _ _ zd]<;>rfl
 have e2:Hs.setAt (ruleC++[.nils]) 92 [x]=knC x:=by
  show(ruleC++[V.nils]).set 92 x=ruleC++[x]
  rw[List.set_append_right _ _ zd]<;>rfl
 have l1:(List.replicate 92 (V.int .u8 0)++[V.nils]).length=93:=rfl;have l2:(ruleC++[V.nils]).length=93:=rfl;have c1:(V.agg ruleC).cells=ruleC:=rfl;have s1:(V.agg ruleC).solid=true:=rfl;have t0:tblP [(0,92),(92,1)] 0=some (0,92):=rfl;have t1:tblP [(0,92),(92,1)] 1=some (92,1):=rfl;simp only[Zzd,t0,t1,c1,s1,hx,hs,l1,Zyo,e1,l2,e2,List.length_singleton,true_and,Nat.zero_add];rfl
theorem Zbja{α : Type}(c:Col)(m:Nat)(f : α -> V)(s:Sl α):(Zb c m f s).solid=true:=by cases s<;>rfl
theorem Zdja{α : Type}(c:Col)(m:Nat)(f : α -> V)(s:Sl α):(Zb c m f s).cells=[Zb c m f s]:=by cases s<;>rfl
theorem Zjma(l:List V)(v:V)(h:l.length=93):Hs.setAt l 0 (knC v)=knC v:=Zpv (by rw[h,Zup])
theorem Z4k(x:Int):(V.int .u8 x).cells.length=1:=rfl
theorem Zk1(G:Nat->V)(hE:GExp G)(c c1:Col)(s:Sl XN)(names:Sl (List UInt8))(hs:s.l.length<1000000)(hnm:∀ n∈s.l,n.name.length<100000)(hnl:names.l.length<1000000):
  Spec Tryz.prog G 258 [.agg [Zb c 6 Zxa s],Zb c1 1 V.str names] Zk (λv _=>v=encKr .new (Ztb names.l s.l)):=by
 have hG:=hE.ok;refine Zo 0 40 [.tmp 4,.tmp 5,.tmp 6] Tryz.func258 λX=>?_
 have hP:Ztb names.l s.l=if Zic s.l≠0 then([],0,Zic s.l)else goN names.l s.l 0 []:=rfl
 generalize Ztb names.l s.l=res at hP⊢;refine Z1 ?_;intro g2;refine Z1 ?_;refine Zcf @Zfa hG ?_ (s:=(Zjj G hE _ s hs hnm));refine Z1 ?_
 by_cases hc:Zic s.l=0
 rotate_left;have q1:(Zic s.l != 0)=true:=zu hc;rw[if_pos hc]at hP;refine Zi rfl (λh14=>?_) (λh14=>?_);refine Z ?_
 rw[hP]<;>rfl
 rw[q1]at h14;cases h14;have q1:(Zic s.l != 0)=false:=zu hc;rw[if_neg (zu hc)]at hP;refine Zi rfl (λh14=>?_) (λh14=>?_);rw[q1]at h14;cases h14;refine Z0 ?_
 have hdep:Zkb s.l≠0:=by
  intro h;rw[Zic,if_pos h]at hc;cases hc
 refine Z1 ?_;refine Zn hG ?_ (s:=(Zj1 G hG));have hrr:(V.agg ruleC).recol Col.bk=.agg ruleC:=rfl;have hrl:(V.agg ruleC).cells=ruleC:=rfl;simp -implicitDefEqProofs only[go_sem,seval,hrr,Zyo,buildKn (Zb c1 1 V.str names) (Zdja ..) (Zbja ..)];intro g7;refine Zsf (zi @Zup @Zdx) ?_;rw[Zjma _ _ ?hl]
 case hl=>rfl
 refine Z1 ?_;refine AW.block ?_
 refine Z9 s.l.length (λk (x:Nat×List Int)=>st [(4,grown 37 x.1 1 x.2),(7,.ptr 7 g7 0),(20,Zb c 6 Zxa s),(21,.int .i64 s.l.length),(22,.int .i64 k)] [(7,.cells .new g7 0 (knC (Zb c1 1 V.str names))),(37,Zza x.1 (V.int .u8) x.2)])
  (λk x=>res=goN names.l (s.l.drop k) k x.2/\x.2.length=k/\∀ y∈x.2,y=1\/y=2) 0 (0,[]) (Nat.zero_le _) ⟨hP,rfl,λy hy=>by cases hy⟩
  (Za zp zp) ?_
 rintro k ⟨gx,ks⟩ hk ⟨hR,hkl,hkr⟩ L3 hL3
 replace hR:res=goN names.l (s.l.drop k) k ks:=hR
 replace hkl:ks.length=k:=hkl
 replace hkr:∀ y∈ks,y=1\/y=2:=hkr
 refine Z1 ?_;refine Z4 ?_;refine Zi rfl (λh23=>?_) (λh23=>?_);have hk1:k<s.l.length:=zu h23;have hg:=List.getElem?_eq_getElem hk1;generalize s.l[k]=n at hg;rw[Z6na hg]at hR;have hpl:PlOk ks.length n:=hkl ▸ Z3ma hdep hg;refine Z1f (zi hg @Z5a) ?_;intro g9;refine Z1f @Zup ?_;rw[<- Z5a];refine Zua hG [.agg (knC (Zb c1.ent 1 V.str names)),Zxa n,Zb .old 1 (V.int .u8) (Zl ks)] zk ⟨?_,?_,?_,trivial⟩ ?_;refine Z0a (Im.knC (Im.strs _ _)) ?_
 show(V.agg (knC _)).recol _=_
 rw[Zdc,Zfia];simp -implicitDefEqProofs only[go_sem,seval];exact Z0a (Im.xn n) (Zhi _ _);exact Zpu (g:=gx) (f:=V.int .u8) (f':=V.int .u8) zp Z4k (λx y hy=>by simp[V.cells]at hy;subst hy;exact .int _ _) (λ_=>rfl);refine(Z29 G hG _ _ names hnl n (Zl ks) (by rw[Zm];exact hpl) (by rw[Zm];omega) (by rw[Zm];exact hkr)).mono ?_;rintro _ _ rfl;refine⟨.int _ _,?_⟩;rw[Zm];have hkd:=λh=>Zjia (op:=n.op) (nm:=names.l.contains n.name) (a:=plc ks n.a) (c:=plc ks n.c) (Z7ga hkr n.b) h;have hkn:Zeg names.l n ks=kd n.op (names.l.contains n.name) (plc ks n.a) (plc ks n.b) (plc ks n.c):=rfl;rw[<- hkn]at hkd;generalize Zeg names.l n ks=v at hR hkd⊢;refine Zs ?_;refine Z1 ?_
 by_cases hv:v=0
 have q2:(v==0)=true:=zu hv;rw[if_pos hv]at hR;refine Zi rfl (λh32=>?_) (λh32=>?_);refine Z ?_
 rw[hR]<;>rfl
 rw[q2]at h32;cases h32;have q2:(v==0)=false:=zu hv;rw[if_neg hv]at hR;refine Zi rfl (λh32=>?_) (λh32=>?_);rw[q2]at h32;cases h32;refine Z1 ?_;intro g36;refine Zna (f:=V.int .u8) (l:=ks) (l2:=[v]) (g:=gx) Z4k rfl rfl rfl zp (Z5 zo zO) λg2=>?_;refine Zs ?_;refine Z1 ?_;refine hL3 _ ⟨hk1,(g2,ks++[v]),⟨hR,by rw[List.length_append,hkl]<;>rfl,?_⟩,Za zw zp⟩;intro y hy
 rcases List.mem_append.1 hy with h|h
 exact hkr y h;rw[List.mem_singleton.1 h];exact hkd hv
 have hk1:k=s.l.length:=by simp at h23;omega
 refine Z0 ?_;rw[hk1,List.drop_length]at hR;refine AW.weak (Zt (λo=>o==37) (l:=[(4,encKs .new ks)]) (m:=[]) ?_ trivial) ?_;refine Zs ?_;exact Z3a rfl rfl Z4k;refine Z ?_
 rw[hR]<;>rfl
theorem Ztia{names:List (List UInt8)}:∀ (l:List XN) (i:Int) (acc:List Int),(goN names l i acc).2.2=0->(goN names l i acc).1.length=acc.length+l.length
 |[],i,acc,_=>rfl
 |n::r,i,acc,h=>by
  rw[goN]at h⊢
  split
  rename_i h1;rw[if_pos h1]at h;cases h;rename_i h1;rw[if_neg h1]at h;have:=Ztia r (i+1) (acc++[Zeg names n acc]) h;rw[this];simp;omega
theorem Zes{names:List (List UInt8)}{l:List XN}(h:(Ztb names l).2.2=0):(Ztb names l).1.length=l.length/\0<l.length:=by
 unfold Ztb at h⊢
 by_cases hc:Zic l=0
 .rw[if_neg (zu hc)]at h⊢
  refine⟨by have:=Ztia l 0 [] h;simpa using this,?_⟩
  cases l with
  |nil=>exact absurd hc zd
  |cons=>simp
 rw[if_pos hc]at h;exact absurd h hc
def Z4i(names:List (List UInt8))(l:List XN):Int×Int×Int:=if(Ztb names l).2.2≠0 then(0,(Ztb names l).2.1,(Ztb names l).2.2)else((Ztb names l).1.getD ((Ztb names l).1.length-1) 0,0,0)
def encO3(p:Int×Int×Int):V:=.tuple [.int .u8 p.1,.int .i64 p.2.1,.int .i64 p.2.2]
theorem Zp8(g:Col->Col)(c:Col)(s:Sl Int):(Zb c 1 (V.int .u8) s).recol g=Zb (g c) 1 (V.int .u8) s:=Zdd g c 1 (λ_=>rfl) s
theorem Zd8(G:Nat->V)(hE:GExp G)(c c1:Col)(s:Sl XN)(names:Sl (List UInt8))(hs:s.l.length<1000000)(hnm:∀ n∈s.l,n.name.length<100000)(hnl:names.l.length<1000000):
  Spec Tryz.prog G 217 [.agg [Zb c 6 Zxa s],Zb c1 1 V.str names] Zk (λv _=>v=encO3 (Z4i names.l s.l)):=by
 have hG:=hE.ok;refine Zo 0 25 [.tmp 4,.tmp 5,.tmp 6] Tryz.func217 λX=>?_
 have hP:Z4i names.l s.l=if(Ztb names.l s.l).2.2≠0 then(0,(Ztb names.l s.l).2.1,(Ztb names.l s.l).2.2)else((Ztb names.l s.l).1.getD ((Ztb names.l s.l).1.length-1) 0,0,0):=rfl
 have hKi:=λc c1=>Zk1 G hE c c1 s names hs hnm hnl;have hL:=Zes (names:=names.l) (l:=s.l);generalize Z4i names.l s.l=res at hP⊢;generalize Ztb names.l s.l=p at hP hKi hL;obtain⟨ks,i,e⟩:=p;simp only at hP hL;refine Z1 ?_;intro g2;refine Z1 ?_;refine Znf @Zfa hG ?_ (s:=(hKi _ _));refine Zsf (zi @encKr.eq_1 (zi @encKs.eq_1 @Zp8)) ?_;refine Z1 ?_
 by_cases he:e=0
 rotate_left;have q1:(e != 0)=true:=zu he;rw[if_pos he]at hP;refine Zi rfl (λh16=>?_) (λh16=>?_);refine Z ?_
 rw[hP]<;>rfl
 rw[q1]at h16;cases h16;have q1:(e != 0)=false:=zu he;rw[if_neg (zu he)]at hP;obtain⟨hl1,hl2⟩:=hL he;refine Zi rfl (λh16=>?_) (λh16=>?_);rw[q1]at h16;cases h16;refine Z0 ?_;obtain⟨m,hm⟩:∃ m:Nat,ks.length=m+1:=⟨ks.length-1,zo⟩
 have hw:IntKind.i64.wrap ((ks.length:Int)-1)=(m:Int):=by rw[w64 zo zo];omega
 obtain⟨v,hv⟩:∃ v,ks[m]?=some v:=⟨_,List.getElem?_eq_getElem zo⟩
 have hgd:ks.getD (ks.length-1) 0=v:=by rw[show ks.length-1=m by omega,List.getD_eq_getElem?_getD,hv]<;>rfl
 rw[hgd]at hP;refine Zf (zi hw hv) ?_
 rw[hP]<;>rfl
def tr1:XN:=⟨3,0,[],-1,-1,-1⟩
def Zte(s:List UInt8)(names:List (List UInt8)):List XN×Int×Int:=
 if(Zja s).2.2=0/\(Zja s).1.length=0 then([tr1],0,0)
 else if(Zjd s).2.2≠0 then([],(Zjd s).2.1,(Zjd s).2.2)
 else if(Z4i names (Zjd s).1).2.2≠0\/(Z4i names (Zjd s).1).1≠2 then([],0,90)else((Zjd s).1,0,0)
theorem Z1w{s:List UInt8}(hs:s.length<100000):(Zjd s).1.length<100000/\∀ n∈(Zjd s).1,n.name.length<100000:=by
 have hT:=Zml hs;have hnm:=Zch hT;have hok:=((Z4b (Zja s).1 ((Zja s).1.length+1) 1 ⟨0,[],0⟩).ok ⟨Nat.zero_le _,Nat.le_refl _⟩)
 have hfr:(Zhb (Zja s).1).1.length<100000/\∀ n∈(Zhb (Zja s).1).1,n.name.length<100000:=by
  unfold Zhb
  split
  exact⟨Nat.zero_lt_succ _,λn hn=>by cases hn⟩
  split
  exact⟨Nat.zero_lt_succ _,λn hn=>by cases hn⟩;have:=hok.1;have:=hok.2;have:=hT.len;exact⟨by show(Zga _ _ _ _).2.nodes.length<_;omega,hnm⟩
 unfold Zjd
 split
 exact⟨Nat.zero_lt_succ _,λn hn=>by cases hn⟩
 split
 exact⟨Nat.zero_lt_succ _,λn hn=>by cases hn⟩
 split
 exact hfr;exact⟨Nat.zero_lt_succ _,λn hn=>by cases hn⟩
theorem Zl1(G:Nat->V)(hE:GExp G)(c1:Col)(s:List UInt8)(names:Sl (List UInt8))(hs:s.length<100000)(hnl:names.l.length<1000000):
  Spec Tryz.prog G 171 [.str s,Zb c1 1 V.str names] Zk (λv _=>v=encFr .new (Zte s names.l)):=by
 have hG:=hE.ok;refine Zo 0 55 [.cell 4 197,.tmp 5,.tmp 6] Tryz.func171 λX=>?_
 have hP:Zte s names.l=if(Zja s).2.2=0/\(Zja s).1.length=0 then([tr1],0,0)
  else if(Zjd s).2.2≠0 then([],(Zjd s).2.1,(Zjd s).2.2)
  else if(Z4i names.l (Zjd s).1).2.2≠0\/(Z4i names.l (Zjd s).1).1≠2 then([],0,90)else((Zjd s).1,0,0):=rfl
 generalize Zte s names.l=res at hP⊢;have hl:=Zle G hE s hs;have hx:=Za1 G hE s hs;have hb:=Z1w hs;have ho:=λc c1=>Zd8 G hE c c1 (Zl (Zjd s).1) names (by rw[Zm];omega) (by rw[Zm];exact hb.2) hnl;simp only[Zm]at ho;generalize Zja s=t at hP hl;generalize Zjd s=p at hP hx ho;obtain⟨l,at0,e0⟩:=t;obtain⟨ns,i,e⟩:=p;simp only at hP ho;generalize Z4i names.l ns=o at hP ho;obtain⟨k,j,e2⟩:=o;simp only at hP;refine Z1 ?_;intro g4;refine Zda (fun(_:Unit)=>st [(0,.str s),(1,Zb c1 1 V.str names),(4,.ptr 4 g4 0)] [(4,.cells .new g4 0 [.nils])]) (λ_=>¬ (e0=0/\l.length=0)) (λK1 hK1=>?_) ?_
 .refine Z1 ?_
  refine Zn hG ?_ (s:=hl);refine Zsf (zi @encTok.eq_1 (zi @encTks.eq_1 @Zta)) ?_
  by_cases h01:e0=0
  rotate_left;have q1:(e0==0)=false:=zu h01;refine Z1f q1 ?_;refine Z0 ?_;exact hK1 _ () (λh=>h01 h.1) (Za zp zp);have q1:(e0==0)=true:=zu h01
  by_cases h02:l.length=0
  rw[if_pos ⟨h01,h02⟩]at hP
  have q2:(((l.length:Nat):Int)==0)=true:=by simp[h02]
  refine Z1f (zi q1 q2) ?_;refine Zi rfl (λh25=>?_) (λh25=>?_);refine Z1 ?_;intro g27;refine AW.weak (Zt (λo=>o==27) (l:=[(4,.ptr 4 g4 0),(5,.int .i64 0),(6,.int .i64 0)]) (m:=[(4,.cells .new g4 0 [encXs .new [tr1]])]) ?_ ?_) ?_;refine Zs ?_
  first|exact⟨Fz.same _,Fz.same _,Fz.same _⟩|exact⟨Fz.same _,Fz.same _⟩
  simp only[Zv,Zz,and_true];exact FzO.of (c:=.new) (fz:=0) (cs:=[.msl 27 g27 0 1 6]) rfl zp ⟨Z4c (f:=Zxa) (l:=[tr1]) (m:=6) (g:=g27) (fz:=0) (c:=.new) rfl zp Z9d,trivial⟩;refine Z ?_
  rw[hP]<;>rfl
  cases h25
  have q2:(((l.length:Nat):Int)==0)=false:=by rw[beq_eq_false_iff_ne];omega
  refine Z1f (zi q1 q2) ?_;refine Z0 ?_;exact hK1 _ () (λh=>h02 h.2) (Za zp zp)
 rintro _ h0;rw[if_neg h0]at hP;refine Z1 ?_;refine Zn hG ?_ (s:=hx);refine Zsf (zi @encFr.eq_1 (zi @encXs.eq_1 @Zfa)) ?_;refine Z1 ?_
 by_cases he:e=0
 rotate_left;have q1:(e != 0)=true:=zu he;rw[if_pos he]at hP;refine Zi rfl (λh36=>?_) (λh36=>?_);refine Z ?_
 rw[hP]<;>rfl
 rw[q1]at h36;cases h36;have q1:(e != 0)=false:=zu he;rw[if_neg (zu he)]at hP;refine Zi rfl (λh36=>?_) (λh36=>?_);rw[q1]at h36;cases h36;refine Z1 ?_;refine Znf @Zfa hG ?_ (s:=(ho _ _));refine Zsf @encO3.eq_1 ?_
 by_cases h2:e2=0
 rotate_left;have q2:(e2 != 0)=true:=zu h2;rw[if_pos (.inl h2)]at hP;refine Z1f q2 ?_;refine Zi rfl (λh52=>?_) (λh52=>?_);refine Z ?_
 rw[hP]<;>rfl
 cases h52;have q2:(e2 != 0)=false:=zu h2
 by_cases hk:k=2
 rotate_left;have q3:(k != 2)=true:=zu hk;rw[if_pos (.inr hk)]at hP;refine Z1f (zi q2 q3) ?_;refine Zi rfl (λh52=>?_) (λh52=>?_);refine Z ?_
 rw[hP]<;>rfl
 cases h52;have q3:(k != 2)=false:=zu hk;rw[if_neg (by rintro(h|h);exact h h2;exact h hk)]at hP;refine Zf (zi q2 q3) ?_
 rw[hP]<;>rfl
structure AM where
 kind:Int
 name:List UInt8
 x:Sl XN
def AM.v(s:AM):ASt:=⟨s.kind,s.name,s.x.l⟩
def Zud(c:Col)(s:AM):V:=.agg [.int .u8 s.kind,.str s.name,Zb c 6 Zxa s.x]
theorem Zkd(c:Col)(s:AM):Zud c s=.agg [.int .u8 s.kind,.str s.name,Zb c 6 Zxa s.x]:=rfl
theorem Zdt(f:Col->Col)(c:Col)(s:AM):(Zud c s).recol f=Zud (f c) s:=by simp only[Zkd,Zdc,List.map_cons,List.map_nil,Zcc,Zoc,Zfa]
@[go_sem] theorem Zjk(g:Col->Col)(c c1:Col)(s:Sl AM):(Zb c 3 (Zud c1) s).recol g=Zb (g c) 3 (Zud (g c1)) s:=Zdd g c 3 (Zdt g c1) s
def Zaj(s:ASt):Bool:=(s.kind==1||s.kind==2)&&isP s.name==2&&((s.kind==2&&s.x.isEmpty)||Zic s.x==0)
def Z0d(l:List ASt):Int:=if l.length>512 then 2 else if l.all Zaj=true then 0 else 2
structure AmOk(l:List AM):Prop where
 len:l.length<1000000
 row:∀ a∈l,a.name.length<100000/\a.x.l.length<1000000/\∀ n∈a.x.l,n.name.length<100000
theorem Zuoa{l:List AM}{k:Nat}{a:AM}(h:l[k]?=some a)(h1:(l.take k).all (λa=>Zaj a.v)=true)(h2:Zaj a.v=true):(l.take (k+1)).all (λa=>Zaj a.v)=true:=by
 rw[List.take_add_one,h,List.all_append,h1];simpa using h2
theorem all_bad{l:List AM}{k:Nat}{a:AM}(h:l[k]?=some a)(h2:Zaj a.v=false):(l.map AM.v).all Zaj=false:=by
 rw[Bool.eq_false_iff];intro h3;rw[List.all_eq_true]at h3;have:=h3 a.v (List.mem_map_of_mem (List.mem_of_getElem? h));rw[h2]at this;cases this
theorem Zp3(G:Nat->V)(hG:GOk G)(c c1:Col)(s:Sl AM)(hA:AmOk s.l):
  Spec Tryz.prog G 243 [Zb c 3 (Zud c1) s] Zk (λv _=>v=.int .i64 (Z0d (s.l.map AM.v))):=by
 have hs:=hA.len;refine Zo 0 47 [.tmp 2] Tryz.func243 λX=>?_
 have hP:Z0d (s.l.map AM.v)=if s.l.length>512 then 2 else if(s.l.map AM.v).all Zaj=true then 0 else 2:=by unfold Z0d;rw[List.length_map]
 generalize Z0d (s.l.map AM.v)=res at hP⊢;refine Z1 ?_;refine Z4 ?_
 by_cases hl:s.l.length>512
 rw[if_pos hl]at hP;have q1:decide ((s.l.length:Int)>512)=true:=zT;refine Zf q1 ?_;rw[hP];rw[if_neg hl]at hP;have q1:decide ((s.l.length:Int)>512)=false:=zF;refine Z1f q1 ?_;refine Z1 ?_;refine AW.block ?_
 refine Z9 s.l.length (λk (_:Unit)=>st [(0,Zb c 3 (Zud c1) s),(3,.int .i64 k)] []) (λk _=>(s.l.take k).all (λa=>Zaj a.v)=true) 0 () (Nat.zero_le _) rfl
  (Za zp zp) ?_
 intro k _ hk hR L3 hL3;refine Z1 ?_;refine Zi rfl (λh11=>?_) (λh11=>?_);rotate_left
 have hk1:k=s.l.length:=by have:=zN h11;omega
 refine Z0 ?_;rw[hk1,List.take_length]at hR;rw[if_pos (by rw[List.all_map];exact hR)]at hP;refine Z ?_;rw[hP];have hk1:k<s.l.length:=zL h11;have hg:=List.getElem?_eq_getElem hk1;obtain⟨r1,r2,r3⟩:=hA.row _ (List.getElem_mem hk1);generalize s.l[k]=a at hg r1 r2 r3;have hbad:=λh=>if_neg (c:=((s.l.map AM.v).all Zaj=true)) (by rw[all_bad hg h];decide) ▸ hP;refine Z0 ?_;refine Zda (fun(_:Unit)=>st [(0,Zb c 3 (Zud c1) s),(3,.int .i64 k)] []) (λ_=>Zaj a.v=true) (λK5 hK5=>?_) ?_;rotate_left;intro _ hab;refine Z1 ?_;exact hL3 _ ⟨hk1,(),Zuoa hg hR hab,Za zw zp⟩;refine Z1f (zi hg @Zkd) ?_;intro g4;refine Zda (fun(_:Unit)=>st [(0,Zb c 3 (Zud c1) s),(3,.int .i64 k),(4,.ptr 4 g4 0)] [(4,.cells .new g4 0 [.int .u8 a.kind,.str a.name,Zb c1 6 Zxa a.x])]) (λ_=>(a.kind=1\/a.kind=2)/\isP a.name=2) (λK6 hK6=>?_) ?_
 .by_cases hk12:a.kind=1\/a.kind=2
  rotate_left
  have q2:(a.kind==1)=false:=by rw[beq_eq_false_iff_ne];exact λh=>hk12 (.inl h)
  have q3:(a.kind==2)=false:=by rw[beq_eq_false_iff_ne];exact λh=>hk12 (.inr h)
  refine Zhc zk ?_;simp -implicitDefEqProofs only[go_sem,seval,bne,q2,q3];refine Z ?_;rw[hbad (by unfold Zaj AM.v;rw[show((a.kind==1)=false)from q2,show((a.kind==2)=false)from q3]<;>rfl)]
  by_cases hi:isP a.name=2
  rotate_left
  have q4:((isP a.name:Int)==2)=false:=by rw[beq_eq_false_iff_ne];omega
  have q5:(isP a.name==2)=false:=zu hi
  rcases hk12 with e1|e1
  have q2:(a.kind==1)=true:=zu e1;refine Zhc zk ?_;simp -implicitDefEqProofs only[go_sem,seval,bne,q2];refine Zn hG ?_ (s:=(Z0g G hG a.name zo));simp -implicitDefEqProofs only[go_sem,seval,bne,q4];refine Z ?_;rw[hbad (by unfold Zaj AM.v;simp only[q5,Bool.and_false,Bool.false_and])]
  have q2:(a.kind==1)=false:=by rw[beq_eq_false_iff_ne];omega
  have q3:(a.kind==2)=true:=zu e1;refine Zhc zk ?_;simp -implicitDefEqProofs only[go_sem,seval,bne,q2,q3];refine Zn hG ?_ (s:=(Z0g G hG a.name zo));simp -implicitDefEqProofs only[go_sem,seval,bne,q4];refine Z ?_;rw[hbad (by unfold Zaj AM.v;simp only[q5,Bool.and_false,Bool.false_and])]
  have q4:((isP a.name:Int)==2)=true:=by rw[beq_iff_eq];omega
  rcases hk12 with e1|e1
  have q2:(a.kind==1)=true:=zu e1;refine Zhc zk ?_;simp -implicitDefEqProofs only[go_sem,seval,bne,q2];refine Zn hG ?_ (s:=(Z0g G hG a.name zo));simp -implicitDefEqProofs only[go_sem,seval,bne,q4];refine Z0 ?_;exact hK6 _ () ⟨.inl e1,hi⟩ (Za zp zp)
  have q2:(a.kind==1)=false:=by rw[beq_eq_false_iff_ne];omega
  have q3:(a.kind==2)=true:=zu e1;refine Zhc zk ?_;simp -implicitDefEqProofs only[go_sem,seval,bne,q2,q3];refine Zn hG ?_ (s:=(Z0g G hG a.name zo));simp -implicitDefEqProofs only[go_sem,seval,bne,q4];refine Z0 ?_;exact hK6 _ () ⟨.inr e1,hi⟩ (Za zp zp)
 rintro _ ⟨hk12,hi⟩;have q5:(isP a.name==2)=true:=zu hi;have q6:(a.kind==1||a.kind==2)=true:=zu hk12
 have hst:Zaj a.v=((a.kind==2&&a.x.l.isEmpty)||Zic a.x.l==0):=by
  unfold Zaj AM.v;simp only[q5,q6,Bool.true_and]
 by_cases hbare:a.kind=2/\a.x.l.length=0
 have q2:(a.kind==1)=false:=by rw[beq_eq_false_iff_ne];omega
 have q3:(a.kind==2)=true:=zu hbare.1;have q7:decide ((a.x.l.length:Int)>0)=false:=zF;refine Z1f (zi q2 q7) ?_;refine Z0 ?_;exact hK5 _ () (by rw[hst,q3,List.isEmpty_iff_length_eq_zero.2 hbare.2]<;>rfl) (Za zp zp)
 have hst2:Zaj a.v=(Zic a.x.l==0):=by
  rw[hst]
  have:(a.kind==2&&a.x.l.isEmpty)=false:=by
   rw[Bool.eq_false_iff];intro h;rw[Bool.and_eq_true]at h;exact hbare ⟨zu h.1,List.isEmpty_iff_length_eq_zero.1 h.2⟩
  rw[this,Bool.false_or]
 have hck:=λc=>Z8o G hG c a.x r2 r3;generalize Zic a.x.l=ck at hst2 hck;refine Zda (fun(b:Bool)=>st [(0,Zb c 3 (Zud c1) s),(3,.int .i64 k),(46,.bool b)] []) (λb=>b = !(ck==0)) (λK7 hK7=>?_) ?_;refine AW.region zk ?_
 by_cases e1:a.kind=1
 have q2:(a.kind==1)=true:=zu e1;simp -implicitDefEqProofs only[go_sem,seval,q2,bne];refine Znf @Zfa hG ?_ (s:=(hck _));simp -implicitDefEqProofs only[go_sem,seval,q2,bne];exact hK7 _ _ rfl (Za zp zp);have q2:(a.kind==1)=false:=zu e1;have q7:decide ((a.x.l.length:Int)>0)=true:=zT;simp -implicitDefEqProofs only[go_sem,seval,q2,q7,bne];refine Znf @Zfa hG ?_ (s:=(hck _));simp -implicitDefEqProofs only[go_sem,seval,q2,q7,bne];exact hK7 _ _ rfl (Za zp zp);rintro b rfl
 cases hck0:(ck==0)with
 |false=>
  refine Z ?_;rw[hbad (by rw[hst2,hck0])]
 |true=>
  refine Z0 ?_;exact hK5 _ () (by rw[hst2,hck0]) (Za zp zp)
theorem Zm3(G:Nat->V)(hE:GExp G)(c:Col)(a:AM)(r1:a.name.length<100000)(r2:a.x.l.length<1000000)(r3:∀ n∈a.x.l,n.name.length<100000):
  Spec Tryz.prog G 289 [Zud c a] Zk (λv _=>v=.bool (Zaj a.v)):=by
 have hG:=hE.ok;refine Zo 0 37 [.tmp 2] Tryz.func289 λX=>?_;have hst:Zaj a.v=((a.kind==1||a.kind==2)&&isP a.name==2&&((a.kind==2&&a.x.l.isEmpty)||Zic a.x.l==0)):=rfl;generalize Zaj a.v=res at hst⊢
 have hem:a.x.l.isEmpty=((a.x.l.length:Int)==0):=by
  rw[Bool.eq_iff_iff,List.isEmpty_iff_length_eq_zero,beq_iff_eq];omega
 have hip:(isP a.name==2)=((isP a.name:Int)==2):=by
  rw[Bool.eq_iff_iff,beq_iff_eq,beq_iff_eq];omega
 rw[hem,hip]at hst;simp only[Zkd];refine Z1 ?_;intro g1;refine Zda (fun(_:Unit)=>st [(1,.ptr 1 g1 0),(3,.bool (a.kind==2&&((a.x.l.length:Int)==0)))] [(1,.cells .new g1 0 [.int .u8 a.kind,.str a.name,Zb c 6 Zxa a.x])]) (λ_=>True) (λK1 hK1=>?_) ?_
 .refine AW.region zk ?_
  cases q3:(a.kind==2)with
  |false=>
   rw[q3]at hK1;refine Zsf q3 ?_;exact hK1 _ () trivial (Za zp zp)
  |true=>
   rw[q3]at hK1;refine Zsf q3 ?_;exact hK1 _ () trivial (Za zp zp)
 intro _ _;refine Zda (fun(_:Unit)=>st [(2,.bool res)] []) (λ_=>True) (λK2 hK2=>?_) ?_;rotate_left;intro _ _;exact Zr;refine AW.region zk ?_
 cases q2:(a.kind==1)with
 |true=>
  have q3:(a.kind==2)=false:=by
   rw[beq_iff_eq]at q2;rw[beq_eq_false_iff_ne,q2];decide
  rw[q3];refine Zsf q2 ?_;refine Zn hG ?_ (s:=(Z7f G hE a.name zo))
  cases q4:((isP a.name:Int)==2)with
  |false=>
   refine Zsf q4 ?_;refine hK2 _ () trivial (Za (by rw[hst,q2,q3,q4];simp -implicitDefEqProofs only[go_sem,seval];try rfl) zp)
  |true=>
   refine Zsf q4 ?_;refine Zcf @Zfa hG ?_ (s:=(Zjj G hE _ a.x r2 r3));refine hK2 _ () trivial (Za (by rw[hst,q2,q3,q4];simp -implicitDefEqProofs only[go_sem,seval];try rfl) zp)
 |false=>
 cases q3:(a.kind==2)with
 |false=>
  refine Zsf (zi q2 q3) ?_;refine hK2 _ () trivial (Za (by rw[hst,q2,q3];simp -implicitDefEqProofs only[go_sem,seval];try rfl) zp)
 |true=>
 refine Zsf (zi q2 q3) ?_;refine Zn hG ?_ (s:=(Z7f G hE a.name zo))
 cases q4:((isP a.name:Int)==2)with
 |false=>
  refine Zsf q4 ?_;refine hK2 _ () trivial (Za (by rw[hst,q2,q3,q4];simp -implicitDefEqProofs only[go_sem,seval];try rfl) zp)
 |true=>
 cases q5:((a.x.l.length:Int)==0)with
 |true=>
  refine Zsf (zi q4 q5) ?_;refine hK2 _ () trivial (Za (by rw[hst,q2,q3,q4,q5];simp -implicitDefEqProofs only[go_sem,seval];try rfl) zp)
 |false=>
  refine Zsf (zi q4 q5) ?_;refine Zcf @Zfa hG ?_ (s:=(Zjj G hE _ a.x r2 r3));refine hK2 _ () trivial (Za (by rw[hst,q2,q3,q4,q5];simp -implicitDefEqProofs only[go_sem,seval];try rfl) zp)
structure AmB(a:AM):Prop where
 n:a.name.length<100000
 l:a.x.l.length<1000000
 x:∀ n∈a.x.l,n.name.length<100000
theorem Zrx(G:Nat->V)(hE:GExp G)(c:Col)(a:AM)(hb:AmB a):
  Spec Tryz.prog G 288 [Zud c a] Zk (λv _=>v=.bool (!Zaj a.v)):=by
 have hG:=hE.ok;refine Zo 0 6 [.tmp 2] Tryz.func288 λX=>?_;simp only[Zkd];refine Z1 ?_;intro g1;refine Z1 ?_;refine CallA.pure hG zk ?_;simp only[List.map_cons,List.map_nil,<- Zkd,Zdt];refine(Zm3 G hE _ a hb.n hb.l hb.x).mono ?_;rintro _ _ rfl;refine Zs ?_;exact Zr
theorem Zo3(G:Nat->V)(hE:GExp G)(c c1:Col)(s:Sl AM)(hs:s.l.length<1000000)(hb:∀ a∈s.l,AmB a):
  Spec Tryz.prog G 308 [Zb c 3 (Zud c1) s,.func (.func 288) [] []] Zk (λv _=>v=.int .i64 (Zwu (λa:AM => !Zaj a.v) s.l)):=by
 have hG:=hE.ok;refine Zo 0 19 [.tmp 4] Tryz.func308 λX=>?_;refine Z1 ?_;refine Z1 ?_;refine AW.block ?_
 refine Z9 s.l.length (λk (_:Unit)=>st [(0,Zb c 3 (Zud c1) s),(1,.func (.func 288) [] []),(7,.int .i64 s.l.length),(8,.int .i64 k)] []) (λk _=>∀ y∈s.l.take k,(!Zaj y.v)=false) 0 () (Nat.zero_le _) zS
  (Za zp zp) ?_
 intro k _ hk hR L2 hL2;refine Z1 ?_;refine Z4 ?_;refine Zi rfl (λh4=>?_) (λh4=>?_);have hk1:k<s.l.length:=zu h4;have hg:=List.getElem?_eq_getElem hk1;have hbx:=hb _ (List.getElem_mem hk1);generalize s.l[k]=x at hg hbx;refine Z1 ?_;refine Z1f (zi hg @Zkd) ?_;refine CallA.pure hG zk ?_;simp only[List.map_cons,List.map_nil,<- Zkd,Zdt];refine(Zrx G hE _ x hbx).mono ?_;rintro _ _ rfl;refine Zs ?_;refine Zi rfl (λh6=>?_) (λh6=>?_);refine Z ?_;rw[Zif (p:=λa:AM => !Zaj a.v) hg hR h6];refine Z1 ?_;refine hL2 _ ⟨hk1,(),Zce hg hR h6,Za zw zp⟩
 have hk1:k=s.l.length:=by simp at h4;omega
 refine Z ?_;rw[hk1,List.take_length]at hR;rw[Zjf (p:=λa:AM => !Zaj a.v) hR]
theorem idxP_ge{α : Type}(p : α -> Bool)(l:List α):decide (Zwu p l>=0)=l.any p:=by
 unfold Zwu
 cases h:l.findIdx? p with
 |none=>
  rw[List.findIdx?_eq_none_iff]at h
  have:l.any p=false:=by rw[List.any_eq_false];intro x hx;simp[h x hx]
  rw[this]<;>rfl
 |some i=>
  have:l.any p=true:=by
   rw[List.any_eq_true];obtain⟨hi,hp,_⟩:=List.findIdx?_eq_some_iff_getElem.1 h;exact⟨_,List.getElem_mem hi,hp⟩
  rw[this,decide_eq_true_iff];exact Int.natCast_nonneg _
theorem Zkr(G:Nat->V)(hE:GExp G)(c c1:Col)(s:Sl AM)(hs:s.l.length<1000000)(hb:∀ a∈s.l,AmB a):
  Spec Tryz.prog G 287 [Zb c 3 (Zud c1) s,.func (.func 288) [] []] Zk (λv _=>v=.bool (s.l.any (λa:AM => !Zaj a.v))):=by
 have hG:=hE.ok;refine Zo 0 9 [.tmp 4] Tryz.func287 λX=>?_;refine Z1 ?_;refine Z1 ?_;refine Zcf @Zjk hG ?_ (s:=(Zo3 G hE _ _ s hs hb));refine Z ?_;rw[idxP_ge]
theorem Zb3(G:Nat->V)(hE:GExp G)(c c1:Col)(s:Sl AM)(hs:s.l.length<1000000)(hb:∀ a∈s.l,AmB a):
  Spec Tryz.prog G 262 [.agg [Zb c 3 (Zud c1) s]] Zk (λv _=>v=.int .i64 (Z0d (s.l.map AM.v))):=by
 have hG:=hE.ok;refine Zo 0 12 [.tmp 2] Tryz.func262 λX=>?_
 have hP:Z0d (s.l.map AM.v)=if s.l.length>512 then 2 else if(s.l.map AM.v).all Zaj=true then 0 else 2:=by unfold Z0d;rw[List.length_map]
 generalize Z0d (s.l.map AM.v)=res at hP⊢
 have hall:s.l.any (λa:AM => !Zaj a.v) = !(s.l.map AM.v).all Zaj:=by
  rw[List.all_map,List.not_all_eq_any_not]<;>rfl
 refine Z1 ?_;intro g1;refine Z4 ?_
 by_cases hl:s.l.length>512
 rw[if_pos hl]at hP;have q1:decide ((s.l.length:Int)>512)=true:=zT;refine Zf q1 ?_;rw[hP];rw[if_neg hl]at hP;have q1:decide ((s.l.length:Int)>512)=false:=zF;refine Z1f q1 ?_;refine Znf @Zjk hG ?_ (s:=(Zkr G hE _ _ s hs hb));refine Zsf q1 ?_;rw[hall]
 cases hok:(s.l.map AM.v).all Zaj with
 |true=>
  rw[if_pos hok]at hP;refine Z ?_;rw[hP]
 |false=>
  rw[if_neg (by rw[hok];decide)]at hP;refine Z ?_;rw[hP]
theorem Zvw{N M:List (List UInt8)}(h:∀ t,N.contains t=M.contains t):∀ (l:List XN) (i:Int) (acc:List Int),goN N l i acc=goN M l i acc
 |[],_,_=>rfl
 |n::r,i,acc=>by
  have:Zeg N n acc=Zeg M n acc:=by unfold Zeg;rw[h]
  rw[goN,goN,this]
  split
  rfl;exact Zvw h r _ _
theorem Zjba{N M:List (List UInt8)}(h:∀ t,N.contains t=M.contains t)(l:List XN):Z4i N l=Z4i M l:=by
 have:Ztb N l=Ztb M l:=by
  unfold Ztb
  split
  rfl;exact Zvw h _ _ _
 unfold Z4i;rw[this]
theorem Z4s(a:List UInt8)(l:List (List UInt8))(t:List UInt8):([a]++l).contains t=(l++[a]).contains t:=by
 rw[Bool.eq_iff_iff];simp only[List.contains_eq_mem,decide_eq_true_eq,List.mem_append,List.mem_singleton];exact or_comm
def Z9m:List UInt8:=[97,114,103]
def Z1k(names:List (List UInt8))(x:List XN):Bool:=x.isEmpty||(Z4i names x).1==1
def stT(vars events:List (List UInt8))(s:ASt):Bool:=(if s.kind=2 then events.contains s.name else vars.contains s.name)&&Z1k (vars++[Z9m]) s.x
def Z8i(vars events:List (List UInt8)):List ASt->Int->Int×Int
 |[],_=>(0,0)
 |s::r,i=>if stT vars events s=true then Z8i vars events r (i+1)else(i,90)
def Zbk(b:List ASt)(vars events:List (List UInt8)):Int×Int:=if Z0d b≠0 then(0,2)else Z8i vars events b 0
theorem Zko{vars events:List (List UInt8)}{b:List ASt}{k:Nat}{s:ASt}(h:b[k]?=some s):Z8i vars events (b.drop k) k=if stT vars events s=true then Z8i vars events (b.drop (k+1)) (k+1:Nat)else((k:Int),90):=by
 obtain⟨q1,q2⟩:=List.getElem?_eq_some_iff.1 h
 rw[List.drop_eq_getElem_cons q1,q2,Z8i]<;>rfl
theorem Zrf(c:Col)(s:ASt):(Zbh c s).cells.length=3:=rfl
def Ze9(c:Col)(l:List ASt):V:=Zb c 3 (Zbh c) (Zl l)
def encBR(r:List ASt×Int×Int):V:=.tuple [Ze9 .new r.1,.int .i64 r.2.1,.int .i64 r.2.2]
theorem Zht{l:List Tk}{n i:Nat}{t:Tk}(h:l[i]?=some t):Zbp l n (i:Int)=t.pos:=by
 have hi:i<l.length:=by
  refine Classical.byContradiction λh2=>?_;rw[List.getElem?_eq_none zo]at h;cases h
 unfold Zbp
 rw[if_pos zo,Int.toNat_natCast,List.getD_eq_getElem?_getD,h]<;>rfl
theorem Zn3(G:Nat->V)(hG:GOk G)(s:List UInt8)(hs:s.length<100000):Spec Tryz.prog G 208 [.str s] Zk (λv _=>v=encBR (Z7k s)):=by
 refine Zo 0 63 [.tmp 2,.tmp 3,.tmp 4] Tryz.func208 λX=>?_
 have hP:Z7k s=if(Zja s).2.2≠0 then(([]:List ASt),(Zja s).2.1,(Zja s).2.2)else Zcm (Zja s).1 s.length ((Zja s).1.length+1) 0 []:=rfl
 generalize Z7k s=res at hP⊢;have hT:=Zml hs;have hl:=Zje G hG s hs;generalize Zja s=p at hP hT hl;obtain⟨l,at0,e0⟩:=p;simp only at hP hT;have hTl:=hT.len;refine Z1 ?_;refine Z1 ?_;refine Zn hG ?_ (s:=hl);refine Zsf (zi @encTok.eq_1 (zi @encTks.eq_1 @Zta)) ?_;have hS:(Zl l).l=l:=Zm l;generalize Zl l=S at hS;subst hS;refine Z4 ?_
 by_cases he:e0=0
 rotate_left;rw[if_pos he]at hP;have q1:(e0==0)=false:=zu he;refine Zhc zk ?_;simp -implicitDefEqProofs only[go_sem,seval,bne,q1];refine Z ?_
 rw[hP]<;>rfl
 rw[if_neg (zu he)]at hP;have q1:(e0==0)=true:=zu he;refine Zhc zk ?_;simp -implicitDefEqProofs only[go_sem,seval,bne,q1];refine Z1 ?_;refine Z1 ?_;refine Z4 ?_;refine AW.block ?_
 refine Zpb (fun(x:(Nat×Nat)×List ASt)=>st [(0,.str s),(5,Zb .new 3 Zeb S),(8,grown 60 x.1.1 3 x.2),(9,.int .i64 x.1.2)] [(60,Zza x.1.1 (Zbh .new) x.2)])
  (λx=>x.1.2<=S.l.length/\x.2.length<=512/\∃ f,S.l.length<f+x.1.2/\Zcm S.l s.length f x.1.2 x.2=res) (λx=>S.l.length-x.1.2) ((0,0),[]) ⟨Nat.zero_le _,Nat.zero_le _,S.l.length+1,Nat.lt_succ_self _,hP.symm⟩
  (Za zp zp) ?_
 rintro⟨⟨gx,i⟩,acc⟩ ⟨hi,hac,f,hf,hR⟩ L3 hL3;simp only at hi hac hf hR;refine Z4 ?_
 cases f with
 |zero=>omega
 |succ f=>
 rw[Zcm]at hR;refine Z1 ?_;refine Zi rfl (λh26=>?_) (λh26=>?_);rotate_left
 have hil:S.l.length<=i:=by have:=zN h26;omega
 rw[if_pos hil]at hR;refine Z0 ?_;refine AW.weak (Zt (λo=>o==60) (l:=[(8,Zb .new 3 (Zbh .new) (Zl acc))]) (m:=[]) ?_ trivial) ?_;refine Zs ?_;exact Z3a rfl zp (Zrf _);refine Z ?_
 rw[<- hR]<;>rfl
 have hil:i<S.l.length:=zL h26;rw[if_neg zo]at hR;have hg:=List.getElem?_eq_getElem hil;refine Z0 ?_;refine AW.block ?_;refine Z4 ?_
 by_cases h5:acc.length=512
 rw[if_pos h5]at hR;generalize S.l[i]=t at hg;rw[Zht hg]at hR
 have q2:((acc.length:Int)==512)=true:=by rw[beq_iff_eq];omega
 refine Z1f q2 ?_;refine Ztc rfl ?_;refine ZTf (zi hg @Zdb) hG ?_;refine Z ?_
 rw[<- hR]<;>rfl
 rw[if_neg h5]at hR
 have q2:((acc.length:Int)==512)=false:=by rw[beq_eq_false_iff_ne];omega
 refine Z1f q2 ?_;refine Z0 ?_;have hst:=λc=>Z5ca G hG c S hT i zo;have hb:=Zpo S.l i;generalize Zsd S.l i=q at hR hst hb;obtain⟨x,n,e⟩:=q;obtain⟨hge,hok⟩:=hb;simp only at hge hok hR;obtain⟨m,rfl⟩:=Int.eq_ofNat_of_zero_le (a:=n) zo;refine Z1 ?_;refine Znf @Zta hG ?_ (s:=(hst _));refine Zsf (zi @encSR.eq_1 (zi @Zzj @Zfa)) ?_;intro g10;refine Z4 ?_
 by_cases he2:e=0
 rotate_left;rw[if_pos he2]at hR;have q3:(e==0)=false:=zu he2;refine Zhc zk ?_;simp -implicitDefEqProofs only[go_sem,seval,bne,q3];refine Z1 ?_;refine Zi rfl (λh47=>?_) (λh47=>?_);have hml:m<S.l.length:=zL h47;have hgm:=List.getElem?_eq_getElem hml;generalize S.l[m]=t at hgm;rw[Zht hgm]at hR;refine ZTf (zi hgm @Zdb) hG ?_;refine Z ?_
 rw[<- hR]<;>rfl
 have hml:¬ m<S.l.length:=by have:=zN h47;omega
 refine Z ?_;rw[<- hR];unfold Zbp
 rw[if_neg (by show ¬ ((m:Int)<S.l.length);omega)]<;>rfl
 rw[if_neg (zu he2)]at hR;have q3:(e==0)=true:=zu he2;obtain⟨h6,h7⟩:=hok he2;refine Zhc zk ?_;simp -implicitDefEqProofs only[go_sem,seval,bne,q3];refine Z1 ?_;intro g59;refine Zna (f:=Zbh .new) (l:=acc) (l2:=[x]) (g:=gx) (Zrf _) rfl rfl rfl zp (Z5 zo zO) λg2=>?_;refine Zs ?_;refine Z1 ?_;refine hL3 _ ⟨((g2,m),acc++[x]),?_,⟨?_,?_,f,?_,hR⟩,Za zp zp⟩
 show S.l.length-m<S.l.length-i
 omega
 show m<=_;omega
 show(acc++[x]).length<=_;rw[List.length_append];show acc.length+1<=_;omega
 show S.l.length<f+m;omega
structure CU where
 i:Nat
 e:Int
def cuO(sl:Sl Tk)(g:Nat)(st:V)(r:CU):AObj:=.cells .any g 0 [Zb .any 3 Zeb sl,.int .i64 r.i,.int .i64 r.e,st]
theorem Z2h(sl:Sl Tk)(g:Nat)(st:V)(r:CU):cuO sl g st r=.cells .any g 0 [Zb .any 3 Zeb sl,.int .i64 r.i,.int .i64 r.e,st]:=rfl
def CuS(G:Nat->V)(f:FuncId)(args:List V)(sl:Sl Tk)(g:Nat)(r:CU)(v:V)(r':CU):Prop:=
 ∀ st:V,(∀ F:Col->Col,st.recol F=st)->Spec Tryz.prog G f (.ptr 21 g 0::args) (Zab Zk [(21,cuO sl g st r)]) (λv0 H'=>v0=v/\H' 21=cuO sl g st r')
theorem CuS.call{G:Nat->V}(hG:GOk G){f:FuncId}{args args':List V}{sl:Sl Tk}{g:Nat}{r r':CU}{v st:V}(h:CuS G f args' sl g r v r'){H:Heap}{K:V->Heap->Prop}
  (hst:∀ F:Col->Col,st.recol F=st) (hen:Zia Tryz.prog f=true) (hargs:args.map (V.recol Col.ent)=args') {v':V} (hv:v.recol Col.bk=v')
  (h8:H 21=cuO sl g st r) (hk:K v' (Zab H [(21,cuO sl g st r')])):
  CallA Tryz.prog G f (.ptr 21 g 0::args) H K:=by
 have e8:∀ (F:Col->Col) r,F .any=.any->(cuO sl g st r).recol F=cuO sl g st r:=by
  intro F r hF;simp only[Z2h,recol_cells,List.map_cons,List.map_nil,Zta,Zcc,hF,hst]
 refine CallA.hand hG [(21,cuO sl g st r)] hen ?_ ?_;intro p hp;rw[List.mem_singleton]at hp;subst hp;rw[h8,e8 _ _ rfl]
 have ha:(V.ptr 21 g 0::args).map (V.recol Col.ent)=.ptr 21 g 0::args':=by rw[List.map_cons,Zsh,hargs]
 rw[ha];refine(h st hst).mono ?_;rintro _ H' ⟨rfl,q8⟩;simp only[List.map_cons,List.map_nil,q8,e8 _ _ Zn9,hv];exact hk
theorem Z0j(G:Nat->V)(hG:GOk G)(sl:Sl Tk)(g:Nat)(r:CU)(w:List UInt8):CuS G 285 [.str w] sl g r (.bool (decide (r.i<sl.l.length)&&Zkc sl.l r.i==w)) r:=by
 intro st hst;refine Zo 1000 30 [.tmp 4] Tryz.func285 λX=>?_;simp only[Zab,Z2h];refine Z1 ?_
 by_cases hi:r.i<sl.l.length
 have h1:decide ((r.i:Int)<sl.l.length)=true:=zT;have hg:=List.getElem?_eq_getElem hi;generalize sl.l[r.i]=t at hg;rw[Zck hg,decide_eq_true hi,Bool.true_and];refine ZTf (zi h1 (zi hg @Zdb)) hG ?_;refine Z ?_;exact⟨rfl,zp⟩;have h1:decide ((r.i:Int)<sl.l.length)=false:=zF;rw[decide_eq_false hi,Bool.false_and];refine ZTf h1 hG ?_;refine Z ?_;exact⟨rfl,zp⟩
theorem Ztca(G:Nat->V)(hG:GOk G)(sl:Sl Tk)(g:Nat)(r:CU)(hi:r.i<=sl.l.length):CuS G 327 [] sl g r (Zb .any 3 Zeb (sl.sub r.i sl.l.length)) r:=by
 intro st hst;refine Zo 1000 12 [.tmp 2] Tryz.func327 λX=>?_;simp only[Zab,Z2h];refine Z1 ?_;have hll:sl.l.length<=sl.l.length:=Nat.le_refl _
 refine Z4<|Zw ⟨λ_=>.top,λ_=>.pure⟩ zk hG zk zk ?_
 simp -implicitDefEqProofs only[go_sem,seval,hi,hll,and_self];refine Z ?_;exact⟨rfl,zp⟩
theorem Zos(G:Nat->V)(hG:GOk G)(sl:Sl Tk)(hsl:sl.l.length<1000000)(g:Nat)(r:CU)(hi:r.i<=sl.l.length):CuS G 305 [] sl g r (.tuple [.str (if Zsk sl.l r.i=true then Zkc sl.l r.i else[]),.bool (Zsk sl.l r.i)])
  (if Zsk sl.l r.i=true then⟨r.i+1,r.e⟩else⟨r.i,110⟩):=by
 intro st hst;refine Zo 1000 50 [.tmp 2,.tmp 3] Tryz.func305 λX=>?_;simp only[Zab,Z2h];refine Z1 ?_;refine Z4 ?_
 by_cases hil:r.i=sl.l.length
 have h1:((r.i:Int)==sl.l.length)=true:=by rw[beq_iff_eq];omega
 refine ZTf h1 hG ?_;refine Z ?_;rw[Zqg zo];exact⟨rfl,zp⟩
 have h1:((r.i:Int)==sl.l.length)=false:=by rw[beq_eq_false_iff_ne];omega
 have hilt:r.i<sl.l.length:=zo;have hg:=List.getElem?_eq_getElem hilt;generalize sl.l[r.i]=t at hg
 cases hk:(t.kind==2)with
 |false=>
  refine Z4<|Zw ⟨λ_=>.top,λ_=>.pure⟩ zk hG zk zk ?_
  simp -implicitDefEqProofs only[go_sem,seval,h1,hg,Zdb,bne,hk];refine Z ?_;rw[Zzl hg,hk];exact⟨rfl,zp⟩
 |true=>
  refine Z4<|Zw ⟨λ_=>.top,λ_=>.pure⟩ zk hG zk zk ?_
  simp -implicitDefEqProofs only[go_sem,seval,h1,hg,Zdb,bne,hk];refine Z0 ?_
  have hw:IntKind.i64.wrap ((r.i:Int)+1)=((r.i+1:Nat):Int):=by rw[w64 zo zo];omega
  have hw2:IntKind.i64.wrap (((r.i+1:Nat):Int)-1)=(r.i:Int):=by rw[w64 zo zo];omega
  refine Z1f hw ?_;refine ZTf (zi hw2 (zi hg @Zdb)) hG ?_;refine Z ?_;rw[Zzl hg,hk,Zck hg];exact⟨rfl,zp⟩
theorem Z6e(G:Nat->V)(hG:GOk G)(sl:Sl Tk)(hsl:sl.l.length<1000000)(g:Nat)(r:CU)(hi:r.i<=sl.l.length)(c:Col)(ws:List (List UInt8))(hws:ws.length<1000)(hwn:∀ w∈ws,w≠[])(b:Bool):
  CuS G 306 [Zb c 1 V.str (.mk b ws)] sl g r (.bool (Zpd sl.l ws r.i).1) ⟨(Zpd sl.l ws r.i).2,if(Zpd sl.l ws r.i).1=true then r.e else 110⟩:=by
 intro st hst;refine Zo 1000 28 [.tmp 4] Tryz.func306 λX=>?_;generalize hP:Zpd sl.l ws r.i=res;simp only[Zab,Z2h];have hwl:(Sl.mk b ws).l=ws:=rfl;refine Z1 ?_;refine Z1f hwl ?_;refine AW.block ?_
 refine Z9 ws.length (λm (_:Unit)=>Go.Hs.st [(0,.ptr 21 g 0),(7,Zb c 1 V.str (.mk b ws)),(8,.int .i64 ws.length),(9,.int .i64 m)] [(21,cuO sl g st ⟨r.i+m,r.e⟩)])
  (λm _=>res=Zpd sl.l (ws.drop m) (r.i+m)/\r.i+m<=sl.l.length) 0 () (Nat.zero_le _) ⟨hP.symm,hi⟩ (Za zp zp) ?_
 rintro m _ hm ⟨hR,hmi⟩ L2 hL2;refine Z1 ?_;refine Z4 ?_;refine Zi rfl (λh10=>?_) (λh10=>?_);rotate_left
 have hm2:m=ws.length:=by have:=zN h10;omega
 rw[List.drop_eq_nil_of_le zo]at hR;refine Z ?_;rw[hR];exact⟨rfl,zp⟩;have hm1:m<ws.length:=zL h10;have hgm:ws[m]?=some ws[m]:=List.getElem?_eq_getElem hm1;have hdr:ws.drop m=ws[m]::ws.drop (m+1):=List.drop_eq_getElem_cons hm1;have hwm:=hwn _ (List.getElem_mem hm1);generalize ws[m]=w2 at hgm hdr hwm;rw[hdr,Zpd]at hR;refine Z1f (zi hwl hgm) ?_;refine Z1 ?_;refine CuS.call hG (Z0j G hG sl g ⟨r.i+m,r.e⟩ w2) hst zk zm rfl zr ?_;refine Zu ?_
 have hcond:(decide (r.i+m<sl.l.length)&&Zkc sl.l (r.i+m)==w2)=(Zkc sl.l (r.i+m)==w2):=by
  by_cases h:r.i+m<sl.l.length
  rw[decide_eq_true h,Bool.true_and];rw[decide_eq_false h,Bool.false_and,Zoh zo]
  symm
  rw[beq_eq_false_iff_ne];exact λh=>hwm h.symm
 rw[hcond]
 by_cases hw4:Zkc sl.l (r.i+m)=w2
 rotate_left;rw[if_neg hw4]at hR;have q2:(Zkc sl.l (r.i+m)==w2)=false:=zu hw4;rw[q2];refine Zf @Z2h ?_;rw[hR];exact⟨rfl,zp⟩;have hlt:r.i+m<sl.l.length:=Zlo (by rw[hw4];exact hwm);rw[if_pos hw4]at hR;have q2:(Zkc sl.l (r.i+m)==w2)=true:=zu hw4;rw[q2];refine Z0 ?_
 have hw5:IntKind.i64.wrap (((r.i+m:Nat):Int)+1)=((r.i+(m+1):Nat):Int):=by rw[w64 zo zo];omega
 have hw6:IntKind.i64.wrap ((m:Int)+1)=((m+1:Nat):Int):=by rw[w64 zo zo];omega
 refine Z1f (zi @Z2h hw5) ?_;refine Z1f hw6 ?_;exact hL2 _ ⟨hm1,(),⟨hR,zo⟩,Za zp zp⟩
theorem Zps(G:Nat->V)(hE:GExp G)(sl:Sl Tk)(hT:TkOk sl.l)(g:Nat)(r:CU)(hi:r.i<=sl.l.length):
  CuS G 307 [] sl g r (.tuple [.agg [encXs .new (Zhb (sl.l.drop r.i)).1],.bool ((Zhb (sl.l.drop r.i)).2.2==0)]) ⟨r.i+(Zhb (sl.l.drop r.i)).2.1.toNat,(Zhb (sl.l.drop r.i)).2.2⟩:=by
 have hG:=hE.ok;intro st hst;refine Zo 1000 29 [.cell 2 197,.tmp 3] Tryz.func307 λX=>?_;have hTl:=hT.len
 have hsub:(sl.sub r.i sl.l.length).l=sl.l.drop r.i:=by rw[Zr9];exact List.take_of_length_le (by rw[List.length_drop];omega)
 have hfr:=λc=>Znr G hE c (sl.sub r.i sl.l.length) (by rw[hsub];exact⟨by rw[List.length_drop];omega,λt ht=>hT.text t (List.mem_of_mem_drop ht)⟩);have hbd:=Zlf (l:=sl.l.drop r.i);rw[hsub]at hfr;rw[List.length_drop]at hbd;generalize Zhb (sl.l.drop r.i)=p at hfr hbd;obtain⟨xs,n,e⟩:=p;simp only at hbd
 have hw3:IntKind.i64.wrap ((r.i:Int)+n)=((r.i+n.toNat:Nat):Int):=by rw[w64 zo zo];omega
 simp only[Zab,Z2h];refine Z1 ?_;intro g2;refine Z1 ?_;refine CuS.call hG (Ztca G hG sl g r hi) hst zk rfl rfl zr ?_;simp -implicitDefEqProofs only[go_sem,seval,Zab,Zta];refine Znf @Zta hG ?_ (s:=(hfr _));refine Zsf (zi @encFr.eq_1 (zi @encXs.eq_1 @Zfa)) ?_;intro g4;refine Zf (zi @Z2h hw3) ?_;exact⟨rfl,zp⟩
end Go.Hs
