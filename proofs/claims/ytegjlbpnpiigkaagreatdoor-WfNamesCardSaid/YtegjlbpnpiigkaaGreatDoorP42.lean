/- A part. No condition. -/
import Derived.Test.YtegjlbpnpiigkaaGreatDoorP41
import Derived.Test.YtegjlbpnpiigkaaGreatDoorP40
set_option linter.all false
namespace Go.Hs
open Go.Proofs
set_option maxRecDepth 10000
def eq3(a b c a' b' c':Int):Bool:=decide (a=a'/\b=b'/\c=c')
theorem Za8(a b c a' b' c':Int):Z54 [.int .u8 a,.int .u8 b,.int .u8 c] [.int .u8 a',.int .u8 b',.int .u8 c']=some (eq3 a b c a' b' c'):=by
 unfold eq3;simp only[Z54,eqC,if_true]
 by_cases h1:a=a'
 by_cases h2:b=b'
 by_cases h3:c=c'
 simp[h1,h2,h3];have:(c==c')=false:=zu h3;simp[h1,h2,h3,this];have:(b==b')=false:=zu h2;simp[h1,this,h2];have:(a==a')=false:=zu h1;simp[this,h1]
def knC(v:V):List V:=ruleC++[v]
theorem Zml(v:V):(knC v).length=93:=by rw[knC,List.length_append]<;>rfl
theorem Zf7(v:V):(knC v)[92]?=some v:=by
 rw[knC,List.getElem?_append_right zd]<;>rfl
theorem Z0k:ruleC.length=92:=rfl
theorem Zeca(v:V):(knC v).take 92=ruleC:=by rw[knC,List.take_append_of_le_length (Nat.le_refl 92)]<;>rfl
theorem Zsu(f:Col->Col):ruleC.map (V.recol f)=ruleC:=rfl
theorem Ze7(f:Col->Col)(v:V):(knC v).map (V.recol f)=knC (v.recol f):=by
 rw[knC,List.map_append,Zsu]<;>rfl
theorem Zm0(G:Nat->V)(hG:GOk G)(c1 c2:Col)(names:Sl (List UInt8))(hnl:names.l.length<1000000)(n:XN)(ks:Sl Int)(hn:PlOk ks.l.length n)(hkl:ks.l.length<1000000)(hks:∀ y∈ks.l,y=1\/y=2):
  Spec Tryz.prog G 283 [.agg (knC (Za c1 1 V.str names)),Zxa n,Za c2 1 (V.int .u8) ks] Zk (λv _=>v=.int .u8 (Zym names.l n ks.l)):=by
 refine Zo 0 71 [.tmp 6] Tryz.func283 λX=>?_;have hP:Zym names.l n ks.l=kd n.op (names.l.contains n.name) (plc ks.l n.a) (plc ks.l n.b) (plc ks.l n.c):=rfl;generalize Zym names.l n ks.l=res at hP⊢;simp only[Zoc];refine Z9 λK hK=>AW.region zk ?_;refine Zsf @Zml ?_;intro g3 g4 g5;refine hK _ ?_
 try clear hK K
 refine Zjb (fun(_:Unit)=>st [(3,.ptr 3 g3 0),(4,.ptr 4 g4 0),(5,.ptr 5 g5 0)] [(3,.cells .new g3 0 (knC (Za c1 1 V.str names))),(4,.cells .new g4 0 [.int .u8 n.op,.int .i64 n.num,.str n.name,.int .i64 n.a,.int .i64 n.b,.int .i64 n.c]),(5,.cells .new g5 0 [Za c2 1 (V.int .u8) ks])])
  (λ_=>n.op=2->names.l.contains n.name=true) (λK1 hK1=>?_) ?_
 by_cases ho:n.op=2
 .have e1:(n.op==2)=true:=zu ho
  refine Z9 λK hK=>AW.region zk ?_;refine Zsf (zi e1 @Zf7) ?_;refine Zc hG ?_ (s:=(Zcc G hG _ n.name names hnl));refine hK _ ?_
  try clear hK K
  cases hc:names.l.contains n.name with
  |true=>
   refine Z0 ?_;exact hK1 _ () (λ_=>hc) (Zb zp zp)
  |false=>
   refine Zj rfl (λh21=>?_) (λh21=>?_)
   .refine Z9 λK hK=>AW.region zk ?_
    refine Zs ?_;refine hK _ ?_
    try clear hK K
    refine Z ?_
    rw[hP,hc,ho]<;>rfl
   cases h21
 .have e1:(n.op==2)=false:=zu ho
  refine Z9 λK hK=>AW.region zk ?_;refine Zsf e1 ?_;refine hK _ ?_
  try clear hK K
  refine Z0 ?_;exact hK1 _ () (λh=>absurd h ho) (Zb zp zp)
 rintro _ hnm;refine Z9 λK hK=>AW.region zk ?_;refine Zs ?_;refine hK _ ?_
 try clear hK K
 refine AW.weak (Zx (λo=>o==3||o==4||o==5) (l:=[(3,.view .new (.agg (knC (Za c1 1 V.str names)))),(4,.view .new (.agg [.int .u8 n.op,.int .i64 n.num,.str n.name,.int .i64 n.a,.int .i64 n.b,.int .i64 n.c])),(7,.func (.func 304) [] [.view .new (Za c2 1 (V.int .u8) ks)])]) (m:=[]) ?_ trivial) ?_;refine Zs ?_;refine⟨?_,?_,?_⟩;exact Fz.ptr (v:=.agg (knC (Za c1 1 V.str names))) (c:=.new) (fz:=0) rfl zp;exact Fz.ptr (v:=.agg [.int .u8 n.op,.int .i64 n.num,.str n.name,.int .i64 n.a,.int .i64 n.b,.int .i64 n.c]) (c:=.new) (fz:=0) rfl zp;exact Fz.func ⟨Fz.ptr (v:=Za c2 1 (V.int .u8) ks) (c:=.new) (fz:=0) rfl zp,trivial⟩
 have pc:∀ i:Int,(i<0\/0<=i/\i<ks.l.length)->Zw4 Tryz.prog G 304 [.int .i64 i,.view .new (Za c2 1 (V.int .u8) ks)] (.int .u8 (plc ks.l i)):=λi h=>⟨by kernel_rfl,by
  refine Zs ?_;refine(Ziaa G hG _ ks hkl i h).mono ?_;rintro _ _ rfl
  rfl⟩
 obtain⟨hw,ha1,hb1,hc1,ha0,hb0,hc0⟩:=hn
 have hra:n.a<0\/0<=n.a/\n.a<ks.l.length:=by
  by_cases h:0<Zz n.op
  exact .inr (ha1 h);exact .inl (by rw[ha0 h];decide)
 have hrb:n.b<0\/0<=n.b/\n.b<ks.l.length:=by
  by_cases h:1<Zz n.op
  exact .inr (hb1 h);exact .inl (by rw[hb0 h];decide)
 have hrc:n.c<0\/0<=n.c/\n.c<ks.l.length:=by
  by_cases h:2<Zz n.op
  exact .inr (hc1 h);exact .inl (by rw[hc0 h];decide)
 have hor:=Zgi hw;obtain⟨op,hop⟩:∃ op:Nat,n.op=op:=⟨n.op.toNat,zo⟩;have hop1:op<23:=zo;have hop2:n.op<23:=zo;have hop0:0<=n.op:=zo;have hopn:n.op.toNat=op:=zo;have hru:=Z45 op hop1;have hrl:op*4+4<=92:=zo;refine Z9 λK hK=>Zv ⟨λi=>if i=8 then .int .u8 (plc ks.l n.a)else if i=12 then .int .u8 (plc ks.l n.b)else if i=16 then .int .u8 (plc ks.l n.c)else .top,λi=>if i=1 then .lend else if i=4 then .lend else if i=7 then .lend else if i=11 then .lend else if i=15 then .lend else .pure⟩ zk hG zk zk ?_;simp -implicitDefEqProofs only[go_sem,seval,Zeca,Zml,show(92:Nat)<=93 from zd,Z0k,hru,hop2,hop0,hopn,hrl];refine⟨pc _ hra,pc _ hrb,pc _ hrc,?_⟩;intro g8 g9;refine hK _ ?_
 try clear hK K
 have hpl:∀ i:Int,(0<=i/\i<ks.l.length)->plc ks.l i=1\/plc ks.l i=2:=by
  intro i hi;unfold plc;rw[if_neg zo];obtain⟨m,rfl⟩:∃ m:Nat,i=m:=⟨i.toNat,zo⟩;rw[Int.toNat_natCast,List.getD_eq_getElem?_getD,List.getElem?_eq_getElem zo];exact hks _ (List.getElem_mem _)
 have hva:0<Zz n.op->plc ks.l n.a=1\/plc ks.l n.a=2:=λh=>hpl _ (ha1 h);have hvb:1<Zz n.op->plc ks.l n.b=1\/plc ks.l n.b=2:=λh=>hpl _ (hb1 h);have hvc:2<Zz n.op->plc ks.l n.c=1\/plc ks.l n.c=2:=λh=>hpl _ (hc1 h)
 have hza:¬ 0<Zz n.op->plc ks.l n.a=0:=λh=>by rw[ha0 h]<;>rfl
 have hzb:¬ 1<Zz n.op->plc ks.l n.b=0:=λh=>by rw[hb0 h]<;>rfl
 have hzc:¬ 2<Zz n.op->plc ks.l n.c=0:=λh=>by rw[hc0 h]<;>rfl
 generalize plc ks.l n.a=a at hP hva hza⊢;generalize plc ks.l n.b=b at hP hvb hzb⊢;generalize plc ks.l n.c=c at hP hvc hzc⊢;refine Z9 λK hK=>AW.region zk ?_;refine Zs ?_;refine hK _ ?_
 try clear hK K
 by_cases q16:op=16\/op=17
 .have eA:Ztu op=3:=by rcases q16 with rfl|rfl<;>rfl
  have eB:Z55 op=3:=by rcases q16 with rfl|rfl<;>rfl
  have eD:Zru op=0:=by rcases q16 with rfl|rfl<;>rfl
  have eI:Z2aa op=2:=by rcases q16 with rfl|rfl<;>rfl
  rw[eA,eB,eD,eI]
  have hpo:Zz n.op=2:=by rw[hop];rcases q16 with rfl|rfl<;>rfl
  rw[hpo]at hva hvb hzc
  replace hva:=hva zd
  replace hvb:=hvb zd
  replace hzc:=hzc zd
  refine Z8 ?_;refine Z9 λK hK=>AW.region zk ?_;refine Zs ?_;refine hK _ ?_
  try clear hK K
  refine Z1 ?_;refine Z8 ?_;refine Z9 λK hK=>AW.region zk ?_;refine Zs ?_;refine hK _ ?_
  try clear hK K
  refine Z0 ?_;refine Z8 ?_;refine Z9 λK=>?_;intro hK;refine Z9d 3 zk rfl rfl ?_;simp -implicitDefEqProofs only[go_sem,seval,List.take_succ_cons,List.take_zero];refine⟨_,Zgh (.inr rfl) zk zk zk zp zp zk (Za8 _ _ _ _ _ _),?_⟩;simp -implicitDefEqProofs only[go_sem,seval,List.drop_succ_cons,List.drop_zero];refine hK _ ?_
  try clear hK K
  have hP2:res=if eq3 a b c b b 0=true then 2 else 0:=by
   rw[hP,hop,hzc]
   rcases q16 with rfl|rfl<;>rcases hva with rfl|rfl<;>rcases hvb with rfl|rfl<;>rfl
  generalize eq3 a b c b b 0=z at hP2⊢
  cases z with
  |true=>
   refine Z0 ?_;refine Z9 λK hK=>AW.region zk ?_;refine Zs ?_;refine hK _ ?_
   try clear hK K
   refine Z ?_
   rw[hP2]<;>rfl
  |false=>
   refine Zj rfl (λh68=>?_) (λh68=>?_)
   .refine Z9 λK hK=>AW.region zk ?_
    refine Zs ?_;refine hK _ ?_
    try clear hK K
    refine Z ?_
    rw[hP2]<;>rfl
   cases h68
 by_cases q22:op=22
 .subst q22
  have eA:Ztu 22=2:=rfl;have eB:Z55 22=3:=rfl;have eD:Zru 22=3:=rfl;have eI:Z2aa 22=3:=rfl;rw[eA,eB,eD,eI]
  have hpo:Zz n.op=3:=by rw[hop]<;>rfl
  rw[hpo]at hva hvb hvc
  replace hva:=hva zd
  replace hvb:=hvb zd
  replace hvc:=hvc zd
  refine Z8 ?_;refine Z9 λK hK=>AW.region zk ?_;refine Zs ?_;refine hK _ ?_
  try clear hK K
  refine Z0 ?_;refine Z8 ?_;refine Z9 λK hK=>AW.region zk ?_;refine Zs ?_;refine hK _ ?_
  try clear hK K
  refine Z1 ?_;refine Z8 ?_;refine Z9 λK=>?_;intro hK;refine Z9d 3 zk rfl rfl ?_;simp -implicitDefEqProofs only[go_sem,seval,List.take_succ_cons,List.take_zero];refine⟨_,Zgh (.inr rfl) zk zk zk zp zp zk (Za8 _ _ _ _ _ _),?_⟩;simp -implicitDefEqProofs only[go_sem,seval,List.drop_succ_cons,List.drop_zero];refine hK _ ?_
  try clear hK K
  have hP2:res=if eq3 a b c 2 b b=true then b else 0:=by
   rw[hP,hop]
   rcases hva with rfl|rfl<;>rcases hvb with rfl|rfl<;>rcases hvc with rfl|rfl<;>rfl
  generalize eq3 a b c 2 b b=z at hP2⊢
  cases z with
  |true=>
   refine Z0 ?_;refine Z9 λK hK=>AW.region zk ?_;refine Zs ?_;refine hK _ ?_
   try clear hK K
   refine Z ?_
   rw[hP2]<;>rfl
  |false=>
   refine Zj rfl (λh68=>?_) (λh68=>?_)
   .refine Z9 λK hK=>AW.region zk ?_
    refine Zs ?_;refine hK _ ?_
    try clear hK K
    refine Z ?_
    rw[hP2]<;>rfl
   cases h68
 have nA:(Ztu op==3)=false:=by unfold Ztu;rw[if_neg q16];split;rfl;split;rfl;rfl
 have nD:(Zru op==3)=false:=by unfold Zru;rw[if_neg q22]<;>rfl
 refine Z8 ?_;refine Z9 λK hK=>AW.region zk ?_;refine Zsf nA ?_;refine hK _ ?_
 try clear hK K
 refine Z0 ?_;refine Z8 ?_;refine Z9 λK hK=>AW.region zk ?_;refine Zsf nD ?_;refine hK _ ?_
 try clear hK K
 refine Z0 ?_;refine Z8 ?_;refine Z9 λK=>?_;intro hK;refine Z9d 3 zk rfl rfl ?_;simp -implicitDefEqProofs only[go_sem,seval,List.take_succ_cons,List.take_zero];refine⟨_,Zgh (.inr rfl) zk zk zk zp zp zk (Za8 _ _ _ _ _ _),?_⟩;simp -implicitDefEqProofs only[go_sem,seval,List.drop_succ_cons,List.drop_zero];refine hK _ ?_
 try clear hK K
 have hP2:res=if eq3 a b c (Ztu op) (Z55 op) (Zru op)=true then Z2aa op else 0:=by
  have hcs:op=1\/op=2\/op=3\/op=4\/op=5\/op=6\/op=7\/op=8\/op=9\/op=10\/op=11\/op=12\/op=13\/op=14\/op=15\/op=18\/op=19\/op=20\/op=21:=zo
  rcases hcs with rfl|rfl|rfl|rfl|rfl|rfl|rfl|rfl|rfl|rfl|rfl|rfl|rfl|rfl|rfl|rfl|rfl|rfl|rfl
  .have hpo:Zz n.op=0:=by rw[hop]<;>rfl
   rw[hpo]at hva hvb hza hzb hzc;rw[hP,hop,hza zd,hzb zd,hzc zd]
   try rfl
  .have hpo:Zz n.op=0:=by rw[hop]<;>rfl
   rw[hpo]at hva hvb hza hzb hzc;rw[hP,hop,hza zd,hzb zd,hzc zd];rw[hnm (by rw[hop]<;>rfl)]
   try rfl
  .have hpo:Zz n.op=0:=by rw[hop]<;>rfl
   rw[hpo]at hva hvb hza hzb hzc;rw[hP,hop,hza zd,hzb zd,hzc zd]
   try rfl
  .have hpo:Zz n.op=0:=by rw[hop]<;>rfl
   rw[hpo]at hva hvb hza hzb hzc;rw[hP,hop,hza zd,hzb zd,hzc zd]
   try rfl
  have hpo:Zz n.op=1:=by rw[hop]<;>rfl
  rw[hpo]at hva hvb hza hzb hzc;rw[hP,hop,hzb zd,hzc zd]
  rcases hva zd with rfl|rfl<;>rfl
  have hpo:Zz n.op=1:=by rw[hop]<;>rfl
  rw[hpo]at hva hvb hza hzb hzc;rw[hP,hop,hzb zd,hzc zd]
  rcases hva zd with rfl|rfl<;>rfl
  have hpo:Zz n.op=2:=by rw[hop]<;>rfl
  rw[hpo]at hva hvb hza hzb hzc;rw[hP,hop,hzc zd]
  rcases hva zd with rfl|rfl<;>rcases hvb zd with rfl|rfl<;>rfl
  have hpo:Zz n.op=2:=by rw[hop]<;>rfl
  rw[hpo]at hva hvb hza hzb hzc;rw[hP,hop,hzc zd]
  rcases hva zd with rfl|rfl<;>rcases hvb zd with rfl|rfl<;>rfl
  have hpo:Zz n.op=2:=by rw[hop]<;>rfl
  rw[hpo]at hva hvb hza hzb hzc;rw[hP,hop,hzc zd]
  rcases hva zd with rfl|rfl<;>rcases hvb zd with rfl|rfl<;>rfl
  have hpo:Zz n.op=2:=by rw[hop]<;>rfl
  rw[hpo]at hva hvb hza hzb hzc;rw[hP,hop,hzc zd]
  rcases hva zd with rfl|rfl<;>rcases hvb zd with rfl|rfl<;>rfl
  have hpo:Zz n.op=2:=by rw[hop]<;>rfl
  rw[hpo]at hva hvb hza hzb hzc;rw[hP,hop,hzc zd]
  rcases hva zd with rfl|rfl<;>rcases hvb zd with rfl|rfl<;>rfl
  have hpo:Zz n.op=2:=by rw[hop]<;>rfl
  rw[hpo]at hva hvb hza hzb hzc;rw[hP,hop,hzc zd]
  rcases hva zd with rfl|rfl<;>rcases hvb zd with rfl|rfl<;>rfl
  have hpo:Zz n.op=2:=by rw[hop]<;>rfl
  rw[hpo]at hva hvb hza hzb hzc;rw[hP,hop,hzc zd]
  rcases hva zd with rfl|rfl<;>rcases hvb zd with rfl|rfl<;>rfl
  have hpo:Zz n.op=2:=by rw[hop]<;>rfl
  rw[hpo]at hva hvb hza hzb hzc;rw[hP,hop,hzc zd]
  rcases hva zd with rfl|rfl<;>rcases hvb zd with rfl|rfl<;>rfl
  have hpo:Zz n.op=2:=by rw[hop]<;>rfl
  rw[hpo]at hva hvb hza hzb hzc;rw[hP,hop,hzc zd]
  rcases hva zd with rfl|rfl<;>rcases hvb zd with rfl|rfl<;>rfl
  have hpo:Zz n.op=2:=by rw[hop]<;>rfl
  rw[hpo]at hva hvb hza hzb hzc;rw[hP,hop,hzc zd]
  rcases hva zd with rfl|rfl<;>rcases hvb zd with rfl|rfl<;>rfl
  have hpo:Zz n.op=2:=by rw[hop]<;>rfl
  rw[hpo]at hva hvb hza hzb hzc;rw[hP,hop,hzc zd]
  rcases hva zd with rfl|rfl<;>rcases hvb zd with rfl|rfl<;>rfl
  have hpo:Zz n.op=2:=by rw[hop]<;>rfl
  rw[hpo]at hva hvb hza hzb hzc;rw[hP,hop,hzc zd]
  rcases hva zd with rfl|rfl<;>rcases hvb zd with rfl|rfl<;>rfl
  have hpo:Zz n.op=2:=by rw[hop]<;>rfl
  rw[hpo]at hva hvb hza hzb hzc;rw[hP,hop,hzc zd]
  rcases hva zd with rfl|rfl<;>rcases hvb zd with rfl|rfl<;>rfl
 generalize eq3 a b c (Ztu op) (Z55 op) (Zru op)=z at hP2⊢
 cases z with
 |true=>
  refine Z0 ?_;refine Z9 λK hK=>AW.region zk ?_;refine Zs ?_;refine hK _ ?_
  try clear hK K
  refine Z ?_
  rw[hP2]<;>rfl
 |false=>
  refine Zj rfl (λh68=>?_) (λh68=>?_)
  .refine Z9 λK hK=>AW.region zk ?_
   refine Zs ?_;refine hK _ ?_
   try clear hK K
   refine Z ?_
   rw[hP2]<;>rfl
  cases h68
def Zed(names:List (List UInt8))(l:List XN):List Int×Int×Int:=if Zhe l≠0 then([],0,Zhe l)else goN names l 0 []
def encKs(c:Col)(l:List Int):V:=Za c 1 (V.int .u8) (Zt l)
def encKr(c:Col)(p:List Int×Int×Int):V:=.tuple [encKs c p.1,.int .i64 p.2.1,.int .i64 p.2.2]
theorem Zg7{op:Int}{nm:Bool}{a b c:Int}(hb:b=0\/b=1\/b=2)(h:kd op nm a b c≠0):kd op nm a b c=1\/kd op nm a b c=2:=by
 have:=Zgca (op:=op) (nm:=nm) (a:=a) (c:=c) (b:=b) zo;omega
theorem Zc6{ks:List Int}(h:∀ y∈ks,y=1\/y=2)(i:Int):plc ks i=0\/plc ks i=1\/plc ks i=2:=by
 unfold plc
 split
 exact .inl rfl
 .rw[List.getD_eq_getElem?_getD]
  cases hg:ks[i.toNat]? with
  |none=>exact .inl rfl
  |some y=>exact .inr (h y (List.mem_of_getElem? hg))
theorem Zkca{names:List (List UInt8)}{l:List XN}{k:Nat}{n:XN}(h:l[k]?=some n)(ks:List Int):goN names (l.drop k) k ks=if Zym names n ks=0 then([],(k:Int),90)else goN names (l.drop (k+1)) (k+1:Nat) (ks++[Zym names n ks]):=by
 obtain⟨h1,h2⟩:=List.getElem?_eq_some_iff.1 h
 rw[List.drop_eq_getElem_cons h1,h2]<;>rfl
theorem Im.knC{v:V}(h:v.Im):(V.agg (knC v)).Im:=by
 refine .agg _ λx hx=>?_
 rcases List.mem_append.1 hx with h1|h1
 have:∀ l:List V,(l.all λv=>match v with|.int _ _=>true|_=>false)=true->∀ x∈l,x.Im:=by
  intro l hl x hx;have:=List.all_eq_true.1 hl x hx
  cases x<;>first|exact .int _ _|cases this
 exact this ruleC rfl x h1;rw[List.mem_singleton.1 h1];exact h
theorem Im.xn(n:XN):(Zxa n).Im:=by
 refine .agg _ λx hx=>?_;simp only[List.mem_cons,List.not_mem_nil,or_false]at hx
 rcases hx with rfl|rfl|rfl|rfl|rfl|rfl<;>first|exact .int _ _|exact .str _
theorem Im.strs(c:Col)(s:Sl (List UInt8)):(Za c 1 V.str s).Im:=Zgd (λx y hy=>by simp[V.cells]at hy;subst hy;exact .str _) s
theorem buildKn(x:V)(hx:x.cells=[x])(hs:x.solid=true):Zie Tryz.prog 319 [(0,.agg ruleC),(1,x)]=some (.agg (knC x)):=by
 rw[Z1z (tbl:=[(0,92),(92,1)]) (z:=List.replicate 92 (.int .u8 0)++[.nils]) zk zk]
 have e1:Hs.setAt (List.replicate 92 (.int .u8 0)++[.nils]) 0 ruleC=ruleC++[.nils]:=by
  rw[Zio _ _ _ zd]<;>rfl
 have e2:Hs.setAt (ruleC++[.nils]) 92 [x]=knC x:=by
  show(ruleC++[V.nils]).set 92 x=ruleC++[x]
  rw[List.set_append_right _ _ zd]<;>rfl
 have l1:(List.replicate 92 (V.int .u8 0)++[V.nils]).length=93:=rfl;have l2:(ruleC++[V.nils]).length=93:=rfl;have c1:(V.agg ruleC).cells=ruleC:=rfl;have s1:(V.agg ruleC).solid=true:=rfl;have t0:tblP [(0,92),(92,1)] 0=some (0,92):=rfl;have t1:tblP [(0,92),(92,1)] 1=some (92,1):=rfl;simp only[Zuc,t0,t1,c1,s1,hx,hs,l1,Z0k,e1,l2,e2,List.length_singleton,true_and,Nat.zero_add];rfl
theorem Zc8{α : Type}(c:Col)(m:Nat)(f : α -> V)(s:Sl α):(Za c m f s).solid=true:=by cases s<;>rfl
theorem Ze8{α : Type}(c:Col)(m:Nat)(f : α -> V)(s:Sl α):(Za c m f s).cells=[Za c m f s]:=by cases s<;>rfl
theorem Z0aa(l:List V)(v:V)(h:l.length=93):Hs.setAt l 0 (knC v)=knC v:=Zgq (by rw[h,Zml])
theorem Zdp(x:Int):(V.int .u8 x).cells.length=1:=rfl
theorem Zhu(G:Nat->V)(hE:GExp G)(c c1:Col)(s:Sl XN)(names:Sl (List UInt8))(hs:s.l.length<1000000)(hnm:∀ n∈s.l,n.name.length<100000)(hnl:names.l.length<1000000):
  Spec Tryz.prog G 258 [.agg [Za c 6 Zxa s],Za c1 1 V.str names] Zk (λv _=>v=encKr .new (Zed names.l s.l)):=by
 have hG:=hE.ok;refine Zo 0 40 [.tmp 4,.tmp 5,.tmp 6] Tryz.func258 λX=>?_
 have hP:Zed names.l s.l=if Zhe s.l≠0 then([],0,Zhe s.l)else goN names.l s.l 0 []:=rfl
 generalize Zed names.l s.l=res at hP⊢;refine Z1 ?_;intro g2;refine Z1 ?_;refine Zcf @Zua hG ?_ (s:=(Zwg G hE _ s hs hnm));refine Z1 ?_
 by_cases hc:Zhe s.l=0
 rotate_left;have q1:(Zhe s.l != 0)=true:=zu hc;rw[if_pos hc]at hP;refine Zj rfl (λh14=>?_) (λh14=>?_);refine Z ?_
 rw[hP]<;>rfl
 rw[q1]at h14;cases h14;have q1:(Zhe s.l != 0)=false:=zu hc;rw[if_neg (zu hc)]at hP;refine Zj rfl (λh14=>?_) (λh14=>?_);rw[q1]at h14;cases h14;refine Z0 ?_
 have hdep:Zpc s.l≠0:=by
  intro h;rw[Zhe,if_pos h]at hc;cases hc
 refine Z1 ?_;refine Zn hG ?_ (s:=(Zgu G hG));have hrr:(V.agg ruleC).recol Col.bk=.agg ruleC:=rfl;have hrl:(V.agg ruleC).cells=ruleC:=rfl;simp -implicitDefEqProofs only[go_sem,seval,hrr,Z0k,buildKn (Za c1 1 V.str names) (Ze8 ..) (Zc8 ..)];intro g7;refine Zsf (zi @Zml @Zer) ?_;rw[Z0aa _ _ ?hl]
 case hl=>rfl
 refine Z1 ?_;refine AW.block ?_
 refine Zfa s.l.length (λk (x:Nat×List Int)=>st [(4,grown 37 x.1 1 x.2),(7,.ptr 7 g7 0),(20,Za c 6 Zxa s),(21,.int .i64 s.l.length),(22,.int .i64 k)] [(7,.cells .new g7 0 (knC (Za c1 1 V.str names))),(37,Ztb x.1 (V.int .u8) x.2)])
  (λk x=>res=goN names.l (s.l.drop k) k x.2/\x.2.length=k/\∀ y∈x.2,y=1\/y=2) 0 (0,[]) (Nat.zero_le _) ⟨hP,rfl,λy hy=>by cases hy⟩
  (Zb zp zp) ?_
 rintro k ⟨gx,ks⟩ hk ⟨hR,hkl,hkr⟩ L3 hL3
 replace hR:res=goN names.l (s.l.drop k) k ks:=hR
 replace hkl:ks.length=k:=hkl
 replace hkr:∀ y∈ks,y=1\/y=2:=hkr
 refine Z1 ?_;refine Z8 ?_;refine Zj rfl (λh23=>?_) (λh23=>?_);have hk1:k<s.l.length:=zu h23;have hg:=List.getElem?_eq_getElem hk1;generalize s.l[k]=n at hg;rw[Zkca hg]at hR;have hpl:PlOk ks.length n:=hkl ▸ Zkba hdep hg;refine Z1f (zi hg @Zoc) ?_;intro g9;refine Z1f @Zml ?_;rw[<- Zoc];refine Zha hG [.agg (knC (Za c1.ent 1 V.str names)),Zxa n,Za .old 1 (V.int .u8) (Zt ks)] zk ⟨?_,?_,?_,trivial⟩ ?_;refine Zka (Im.knC (Im.strs _ _)) ?_
 show(V.agg (knC _)).recol _=_
 rw[Zrb,Ze7];simp -implicitDefEqProofs only[go_sem,seval];exact Zka (Im.xn n) (Zph _ _);exact Zpp (g:=gx) (f:=V.int .u8) (f':=V.int .u8) zp Zdp (λx y hy=>by simp[V.cells]at hy;subst hy;exact .int _ _) (λ_=>rfl);refine(Zm0 G hG _ _ names hnl n (Zt ks) (by rw[Zl];exact hpl) (by rw[Zl];omega) (by rw[Zl];exact hkr)).mono ?_;rintro _ _ rfl;refine⟨.int _ _,?_⟩;rw[Zl];have hkd:=λh=>Zg7 (op:=n.op) (nm:=names.l.contains n.name) (a:=plc ks n.a) (c:=plc ks n.c) (Zc6 hkr n.b) h;have hkn:Zym names.l n ks=kd n.op (names.l.contains n.name) (plc ks n.a) (plc ks n.b) (plc ks n.c):=rfl;rw[<- hkn]at hkd;generalize Zym names.l n ks=v at hR hkd⊢;refine Zs ?_;refine Z1 ?_
 by_cases hv:v=0
 have q2:(v==0)=true:=zu hv;rw[if_pos hv]at hR;refine Zj rfl (λh32=>?_) (λh32=>?_);refine Z ?_
 rw[hR]<;>rfl
 rw[q2]at h32;cases h32;have q2:(v==0)=false:=zu hv;rw[if_neg hv]at hR;refine Zj rfl (λh32=>?_) (λh32=>?_);rw[q2]at h32;cases h32;refine Z1 ?_;intro g36;refine Zvb (f:=V.int .u8) (l:=ks) (l2:=[v]) (g:=gx) Zdp rfl rfl rfl zp (Zca zo zO) λg2=>?_;refine Zs ?_;refine Z1 ?_;refine hL3 _ ⟨hk1,(g2,ks++[v]),⟨hR,by rw[List.length_append,hkl]<;>rfl,?_⟩,Zb zw zp⟩;intro y hy
 rcases List.mem_append.1 hy with h|h
 exact hkr y h;rw[List.mem_singleton.1 h];exact hkd hv
 have hk1:k=s.l.length:=by simp at h23;omega
 refine Z0 ?_;rw[hk1,List.drop_length]at hR;refine AW.weak (Zx (λo=>o==37) (l:=[(4,encKs .new ks)]) (m:=[]) ?_ trivial) ?_;refine Zs ?_;exact Zpd rfl rfl Zdp;refine Z ?_
 rw[hR]<;>rfl
theorem Zq7{names:List (List UInt8)}:∀ (l:List XN) (i:Int) (acc:List Int),(goN names l i acc).2.2=0->(goN names l i acc).1.length=acc.length+l.length
 |[],i,acc,_=>rfl
 |n::r,i,acc,h=>by
  rw[goN]at h⊢
  split
  rename_i h1;rw[if_pos h1]at h;cases h;rename_i h1;rw[if_neg h1]at h;have:=Zq7 r (i+1) (acc++[Zym names n acc]) h;rw[this];simp;omega
theorem Zd2{names:List (List UInt8)}{l:List XN}(h:(Zed names l).2.2=0):(Zed names l).1.length=l.length/\0<l.length:=by
 unfold Zed at h⊢
 by_cases hc:Zhe l=0
 .rw[if_neg (zu hc)]at h⊢
  refine⟨by have:=Zq7 l 0 [] h;simpa using this,?_⟩
  cases l with
  |nil=>exact absurd hc zd
  |cons=>simp
 rw[if_pos hc]at h;exact absurd h hc
def Zr1(names:List (List UInt8))(l:List XN):Int×Int×Int:=if(Zed names l).2.2≠0 then(0,(Zed names l).2.1,(Zed names l).2.2)else((Zed names l).1.getD ((Zed names l).1.length-1) 0,0,0)
def encO3(p:Int×Int×Int):V:=.tuple [.int .u8 p.1,.int .i64 p.2.1,.int .i64 p.2.2]
theorem Z5aa(g:Col->Col)(c:Col)(s:Sl Int):(Za c 1 (V.int .u8) s).recol g=Za (g c) 1 (V.int .u8) s:=Zdc g c 1 (λ_=>rfl) s
theorem Z5y(G:Nat->V)(hE:GExp G)(c c1:Col)(s:Sl XN)(names:Sl (List UInt8))(hs:s.l.length<1000000)(hnm:∀ n∈s.l,n.name.length<100000)(hnl:names.l.length<1000000):
  Spec Tryz.prog G 217 [.agg [Za c 6 Zxa s],Za c1 1 V.str names] Zk (λv _=>v=encO3 (Zr1 names.l s.l)):=by
 have hG:=hE.ok;refine Zo 0 25 [.tmp 4,.tmp 5,.tmp 6] Tryz.func217 λX=>?_
 have hP:Zr1 names.l s.l=if(Zed names.l s.l).2.2≠0 then(0,(Zed names.l s.l).2.1,(Zed names.l s.l).2.2)else((Zed names.l s.l).1.getD ((Zed names.l s.l).1.length-1) 0,0,0):=rfl
 have hKi:=λc c1=>Zhu G hE c c1 s names hs hnm hnl;have hL:=Zd2 (names:=names.l) (l:=s.l);generalize Zr1 names.l s.l=res at hP⊢;generalize Zed names.l s.l=p at hP hKi hL;obtain⟨ks,i,e⟩:=p;simp only at hP hL;refine Z1 ?_;intro g2;refine Z1 ?_;refine Znf @Zua hG ?_ (s:=(hKi _ _));refine Zsf (zi @encKr.eq_1 (zi @encKs.eq_1 @Z5aa)) ?_;refine Z1 ?_
 by_cases he:e=0
 rotate_left;have q1:(e != 0)=true:=zu he;rw[if_pos he]at hP;refine Zj rfl (λh16=>?_) (λh16=>?_);refine Z ?_
 rw[hP]<;>rfl
 rw[q1]at h16;cases h16;have q1:(e != 0)=false:=zu he;rw[if_neg (zu he)]at hP;obtain⟨hl1,hl2⟩:=hL he;refine Zj rfl (λh16=>?_) (λh16=>?_);rw[q1]at h16;cases h16;refine Z0 ?_;obtain⟨m,hm⟩:∃ m:Nat,ks.length=m+1:=⟨ks.length-1,zo⟩
 have hw:IntKind.i64.wrap ((ks.length:Int)-1)=(m:Int):=by rw[w64 zo zo];omega
 obtain⟨v,hv⟩:∃ v,ks[m]?=some v:=⟨_,List.getElem?_eq_getElem zo⟩
 have hgd:ks.getD (ks.length-1) 0=v:=by rw[show ks.length-1=m by omega,List.getD_eq_getElem?_getD,hv]<;>rfl
 rw[hgd]at hP;refine Zf (zi hw hv) ?_
 rw[hP]<;>rfl
def tr1:XN:=⟨3,0,[],-1,-1,-1⟩
def Zol(s:List UInt8)(names:List (List UInt8)):List XN×Int×Int:=
 if(Zja s).2.2=0/\(Zja s).1.length=0 then([tr1],0,0)
 else if(Zye s).2.2≠0 then([],(Zye s).2.1,(Zye s).2.2)
 else if(Zr1 names (Zye s).1).2.2≠0\/(Zr1 names (Zye s).1).1≠2 then([],0,90)else((Zye s).1,0,0)
theorem Z67{s:List UInt8}(hs:s.length<100000):(Zye s).1.length<100000/\∀ n∈(Zye s).1,n.name.length<100000:=by
 have hT:=Zco hs;have hnm:=Zbh hT;have hok:=((Z4c (Zja s).1 ((Zja s).1.length+1) 1 ⟨0,[],0⟩).ok ⟨Nat.zero_le _,Nat.le_refl _⟩)
 have hfr:(Z7a (Zja s).1).1.length<100000/\∀ n∈(Z7a (Zja s).1).1,n.name.length<100000:=by
  unfold Z7a
  split
  exact⟨Nat.zero_lt_succ _,λn hn=>by cases hn⟩
  split
  exact⟨Nat.zero_lt_succ _,λn hn=>by cases hn⟩;have:=hok.1;have:=hok.2;have:=hT.len;exact⟨by show(Zva _ _ _ _).2.nodes.length<_;omega,hnm⟩
 unfold Zye
 split
 exact⟨Nat.zero_lt_succ _,λn hn=>by cases hn⟩
 split
 exact⟨Nat.zero_lt_succ _,λn hn=>by cases hn⟩
 split
 exact hfr;exact⟨Nat.zero_lt_succ _,λn hn=>by cases hn⟩
theorem Ziu(G:Nat->V)(hE:GExp G)(c1:Col)(s:List UInt8)(names:Sl (List UInt8))(hs:s.length<100000)(hnl:names.l.length<1000000):
  Spec Tryz.prog G 171 [.str s,Za c1 1 V.str names] Zk (λv _=>v=encFr .new (Zol s names.l)):=by
 have hG:=hE.ok;refine Zo 0 55 [.cell 4 197,.tmp 5,.tmp 6] Tryz.func171 λX=>?_
 have hP:Zol s names.l=if(Zja s).2.2=0/\(Zja s).1.length=0 then([tr1],0,0)
  else if(Zye s).2.2≠0 then([],(Zye s).2.1,(Zye s).2.2)
  else if(Zr1 names.l (Zye s).1).2.2≠0\/(Zr1 names.l (Zye s).1).1≠2 then([],0,90)else((Zye s).1,0,0):=rfl
 generalize Zol s names.l=res at hP⊢;have hl:=Zdd G hE s hs;have hx:=Z9t G hE s hs;have hb:=Z67 hs;have ho:=λc c1=>Z5y G hE c c1 (Zt (Zye s).1) names (by rw[Zl];omega) (by rw[Zl];exact hb.2) hnl;simp only[Zl]at ho;generalize Zja s=t at hP hl;generalize Zye s=p at hP hx ho;obtain⟨l,at0,e0⟩:=t;obtain⟨ns,i,e⟩:=p;simp only at hP ho;generalize Zr1 names.l ns=o at hP ho;obtain⟨k,j,e2⟩:=o;simp only at hP;refine Z1 ?_;intro g4;refine Zjb (fun(_:Unit)=>st [(0,.str s),(1,Za c1 1 V.str names),(4,.ptr 4 g4 0)] [(4,.cells .new g4 0 [.nils])]) (λ_=>¬ (e0=0/\l.length=0)) (λK1 hK1=>?_) ?_
 .refine Z1 ?_
  refine Zn hG ?_ (s:=hl);refine Zsf (zi @encTok.eq_1 (zi @encTks.eq_1 @Zpb)) ?_
  by_cases h01:e0=0
  rotate_left;have q1:(e0==0)=false:=zu h01;refine Z1f q1 ?_;refine Z0 ?_;exact hK1 _ () (λh=>h01 h.1) (Zb zp zp);have q1:(e0==0)=true:=zu h01
  by_cases h02:l.length=0
  rw[if_pos ⟨h01,h02⟩]at hP
  have q2:(((l.length:Nat):Int)==0)=true:=by simp[h02]
  refine Z1f (zi q1 q2) ?_;refine Zj rfl (λh25=>?_) (λh25=>?_);refine Z1 ?_;intro g27;refine AW.weak (Zx (λo=>o==27) (l:=[(4,.ptr 4 g4 0),(5,.int .i64 0),(6,.int .i64 0)]) (m:=[(4,.cells .new g4 0 [encXs .new [tr1]])]) ?_ ?_) ?_;refine Zs ?_
  first|exact⟨Fz.same _,Fz.same _,Fz.same _⟩|exact⟨Fz.same _,Fz.same _⟩
  simp only[Zp,Zy,and_true];exact FzO.of (c:=.new) (fz:=0) (cs:=[.msl 27 g27 0 1 6]) rfl zp ⟨Zdf (f:=Zxa) (l:=[tr1]) (m:=6) (g:=g27) (fz:=0) (c:=.new) rfl zp Z6g,trivial⟩;refine Z ?_
  rw[hP]<;>rfl
  cases h25
  have q2:(((l.length:Nat):Int)==0)=false:=by rw[beq_eq_false_iff_ne];omega
  refine Z1f (zi q1 q2) ?_;refine Z0 ?_;exact hK1 _ () (λh=>h02 h.2) (Zb zp zp)
 rintro _ h0;rw[if_neg h0]at hP;refine Z1 ?_;refine Zn hG ?_ (s:=hx);refine Zsf (zi @encFr.eq_1 (zi @encXs.eq_1 @Zua)) ?_;refine Z1 ?_
 by_cases he:e=0
 rotate_left;have q1:(e != 0)=true:=zu he;rw[if_pos he]at hP;refine Zj rfl (λh36=>?_) (λh36=>?_);refine Z ?_
 rw[hP]<;>rfl
 rw[q1]at h36;cases h36;have q1:(e != 0)=false:=zu he;rw[if_neg (zu he)]at hP;refine Zj rfl (λh36=>?_) (λh36=>?_);rw[q1]at h36;cases h36;refine Z1 ?_;refine Znf @Zua hG ?_ (s:=(ho _ _));refine Zsf @encO3.eq_1 ?_
 by_cases h2:e2=0
 rotate_left;have q2:(e2 != 0)=true:=zu h2;rw[if_pos (.inl h2)]at hP;refine Z1f q2 ?_;refine Zj rfl (λh52=>?_) (λh52=>?_);refine Z ?_
 rw[hP]<;>rfl
 cases h52;have q2:(e2 != 0)=false:=zu h2
 by_cases hk:k=2
 rotate_left;have q3:(k != 2)=true:=zu hk;rw[if_pos (.inr hk)]at hP;refine Z1f (zi q2 q3) ?_;refine Zj rfl (λh52=>?_) (λh52=>?_);refine Z ?_
 rw[hP]<;>rfl
 cases h52;have q3:(k != 2)=false:=zu hk;rw[if_neg (by rintro(h|h);exact h h2;exact h hk)]at hP;refine Zf (zi q2 q3) ?_
 rw[hP]<;>rfl
structure AM where
 kind:Int
 name:List UInt8
 x:Sl XN
def AM.v(s:AM):ASt:=⟨s.kind,s.name,s.x.l⟩
def Zze(c:Col)(s:AM):V:=.agg [.int .u8 s.kind,.str s.name,Za c 6 Zxa s.x]
theorem Zah(c:Col)(s:AM):Zze c s=.agg [.int .u8 s.kind,.str s.name,Za c 6 Zxa s.x]:=rfl
theorem Zno(f:Col->Col)(c:Col)(s:AM):(Zze c s).recol f=Zze (f c) s:=by simp only[Zah,Zrb,List.map_cons,List.map_nil,Zqb,Z0b,Zua]
@[go_sem] theorem Z6k(g:Col->Col)(c c1:Col)(s:Sl AM):(Za c 3 (Zze c1) s).recol g=Za (g c) 3 (Zze (g c1)) s:=Zdc g c 3 (Zno g c1) s
def Zaq(s:ASt):Bool:=(s.kind==1||s.kind==2)&&isP s.name==2&&((s.kind==2&&s.x.isEmpty)||Zhe s.x==0)
def Zgf(l:List ASt):Int:=if l.length>512 then 2 else if l.all Zaq=true then 0 else 2
theorem Z5v(G:Nat->V)(hE:GExp G)(c:Col)(a:AM)(r1:a.name.length<100000)(r2:a.x.l.length<1000000)(r3:∀ n∈a.x.l,n.name.length<100000):
  Spec Tryz.prog G 289 [Zze c a] Zk (λv _=>v=.bool (Zaq a.v)):=by
 have hG:=hE.ok;refine Zo 0 37 [.tmp 2] Tryz.func289 λX=>?_;have hst:Zaq a.v=((a.kind==1||a.kind==2)&&isP a.name==2&&((a.kind==2&&a.x.l.isEmpty)||Zhe a.x.l==0)):=rfl;generalize Zaq a.v=res at hst⊢
 have hem:a.x.l.isEmpty=((a.x.l.length:Int)==0):=by
  rw[Bool.eq_iff_iff,List.isEmpty_iff_length_eq_zero,beq_iff_eq];omega
 have hip:(isP a.name==2)=((isP a.name:Int)==2):=by
  rw[Bool.eq_iff_iff,beq_iff_eq,beq_iff_eq];omega
 rw[hem,hip]at hst;simp only[Zah];refine Z1 ?_;intro g1;refine Zjb (fun(_:Unit)=>st [(1,.ptr 1 g1 0),(3,.bool (a.kind==2&&((a.x.l.length:Int)==0)))] [(1,.cells .new g1 0 [.int .u8 a.kind,.str a.name,Za c 6 Zxa a.x])]) (λ_=>True) (λK1 hK1=>?_) ?_
 .refine AW.region zk ?_
  cases q3:(a.kind==2)with
  |false=>
   rw[q3]at hK1;refine Zsf q3 ?_;exact hK1 _ () trivial (Zb zp zp)
  |true=>
   rw[q3]at hK1;refine Zsf q3 ?_;exact hK1 _ () trivial (Zb zp zp)
 intro _ _;refine Zjb (fun(_:Unit)=>st [(2,.bool res)] []) (λ_=>True) (λK2 hK2=>?_) ?_;rotate_left;intro _ _;exact Zr;refine AW.region zk ?_
 cases q2:(a.kind==1)with
 |true=>
  have q3:(a.kind==2)=false:=by
   rw[beq_iff_eq]at q2;rw[beq_eq_false_iff_ne,q2];decide
  rw[q3];refine Zsf q2 ?_;refine Zn hG ?_ (s:=(Zfe G hE a.name zo))
  cases q4:((isP a.name:Int)==2)with
  |false=>
   refine Zsf q4 ?_;refine hK2 _ () trivial (Zb (by rw[hst,q2,q3,q4];simp -implicitDefEqProofs only[go_sem,seval];try rfl) zp)
  |true=>
   refine Zsf q4 ?_;refine Zcf @Zua hG ?_ (s:=(Zwg G hE _ a.x r2 r3));refine hK2 _ () trivial (Zb (by rw[hst,q2,q3,q4];simp -implicitDefEqProofs only[go_sem,seval];try rfl) zp)
 |false=>
 cases q3:(a.kind==2)with
 |false=>
  refine Zsf (zi q2 q3) ?_;refine hK2 _ () trivial (Zb (by rw[hst,q2,q3];simp -implicitDefEqProofs only[go_sem,seval];try rfl) zp)
 |true=>
 refine Zsf (zi q2 q3) ?_;refine Zn hG ?_ (s:=(Zfe G hE a.name zo))
 cases q4:((isP a.name:Int)==2)with
 |false=>
  refine Zsf q4 ?_;refine hK2 _ () trivial (Zb (by rw[hst,q2,q3,q4];simp -implicitDefEqProofs only[go_sem,seval];try rfl) zp)
 |true=>
 cases q5:((a.x.l.length:Int)==0)with
 |true=>
  refine Zsf (zi q4 q5) ?_;refine hK2 _ () trivial (Zb (by rw[hst,q2,q3,q4,q5];simp -implicitDefEqProofs only[go_sem,seval];try rfl) zp)
 |false=>
  refine Zsf (zi q4 q5) ?_;refine Zcf @Zua hG ?_ (s:=(Zwg G hE _ a.x r2 r3));refine hK2 _ () trivial (Zb (by rw[hst,q2,q3,q4,q5];simp -implicitDefEqProofs only[go_sem,seval];try rfl) zp)
structure AmB(a:AM):Prop where
 n:a.name.length<100000
 l:a.x.l.length<1000000
 x:∀ n∈a.x.l,n.name.length<100000
theorem Zor(G:Nat->V)(hE:GExp G)(c:Col)(a:AM)(hb:AmB a):
  Spec Tryz.prog G 288 [Zze c a] Zk (λv _=>v=.bool (!Zaq a.v)):=by
 have hG:=hE.ok;refine Zo 0 6 [.tmp 2] Tryz.func288 λX=>?_;simp only[Zah];refine Z1 ?_;intro g1;refine Z1 ?_;refine CallA.pure hG zk ?_;simp only[List.map_cons,List.map_nil,<- Zah,Zno];refine(Z5v G hE _ a hb.n hb.l hb.x).mono ?_;rintro _ _ rfl;refine Zs ?_;exact Zr
theorem Z6v(G:Nat->V)(hE:GExp G)(c c1:Col)(s:Sl AM)(hs:s.l.length<1000000)(hb:∀ a∈s.l,AmB a):
  Spec Tryz.prog G 308 [Za c 3 (Zze c1) s,.func (.func 288) [] []] Zk (λv _=>v=.int .i64 (Zup (λa:AM => !Zaq a.v) s.l)):=by
 have hG:=hE.ok;refine Zo 0 19 [.tmp 4] Tryz.func308 λX=>?_;refine Z1 ?_;refine Z1 ?_;refine AW.block ?_
 refine Zfa s.l.length (λk (_:Unit)=>st [(0,Za c 3 (Zze c1) s),(1,.func (.func 288) [] []),(7,.int .i64 s.l.length),(8,.int .i64 k)] []) (λk _=>∀ y∈s.l.take k,(!Zaq y.v)=false) 0 () (Nat.zero_le _) zS
  (Zb zp zp) ?_
 intro k _ hk hR L2 hL2;refine Z1 ?_;refine Z8 ?_;refine Zj rfl (λh4=>?_) (λh4=>?_);have hk1:k<s.l.length:=zu h4;have hg:=List.getElem?_eq_getElem hk1;have hbx:=hb _ (List.getElem_mem hk1);generalize s.l[k]=x at hg hbx;refine Z1 ?_;refine Z1f (zi hg @Zah) ?_;refine CallA.pure hG zk ?_;simp only[List.map_cons,List.map_nil,<- Zah,Zno];refine(Zor G hE _ x hbx).mono ?_;rintro _ _ rfl;refine Zs ?_;refine Zj rfl (λh6=>?_) (λh6=>?_);refine Z ?_;rw[Z1d (p:=λa:AM => !Zaq a.v) hg hR h6];refine Z1 ?_;refine hL2 _ ⟨hk1,(),Z1e hg hR h6,Zb zw zp⟩
 have hk1:k=s.l.length:=by simp at h4;omega
 refine Z ?_;rw[hk1,List.take_length]at hR;rw[Z2d (p:=λa:AM => !Zaq a.v) hR]
theorem idxP_ge{α : Type}(p : α -> Bool)(l:List α):decide (Zup p l>=0)=l.any p:=by
 unfold Zup
 cases h:l.findIdx? p with
 |none=>
  rw[List.findIdx?_eq_none_iff]at h
  have:l.any p=false:=by rw[List.any_eq_false];intro x hx;simp[h x hx]
  rw[this]<;>rfl
 |some i=>
  have:l.any p=true:=by
   rw[List.any_eq_true];obtain⟨hi,hp,_⟩:=List.findIdx?_eq_some_iff_getElem.1 h;exact⟨_,List.getElem_mem hi,hp⟩
  rw[this,decide_eq_true_iff];exact Int.natCast_nonneg _
theorem Z6m(G:Nat->V)(hE:GExp G)(c c1:Col)(s:Sl AM)(hs:s.l.length<1000000)(hb:∀ a∈s.l,AmB a):
  Spec Tryz.prog G 287 [Za c 3 (Zze c1) s,.func (.func 288) [] []] Zk (λv _=>v=.bool (s.l.any (λa:AM => !Zaq a.v))):=by
 have hG:=hE.ok;refine Zo 0 9 [.tmp 4] Tryz.func287 λX=>?_;refine Z1 ?_;refine Z1 ?_;refine Zcf @Z6k hG ?_ (s:=(Z6v G hE _ _ s hs hb));refine Z ?_;rw[idxP_ge]
theorem Zvv(G:Nat->V)(hE:GExp G)(c c1:Col)(s:Sl AM)(hs:s.l.length<1000000)(hb:∀ a∈s.l,AmB a):
  Spec Tryz.prog G 262 [.agg [Za c 3 (Zze c1) s]] Zk (λv _=>v=.int .i64 (Zgf (s.l.map AM.v))):=by
 have hG:=hE.ok;refine Zo 0 12 [.tmp 2] Tryz.func262 λX=>?_
 have hP:Zgf (s.l.map AM.v)=if s.l.length>512 then 2 else if(s.l.map AM.v).all Zaq=true then 0 else 2:=by unfold Zgf;rw[List.length_map]
 generalize Zgf (s.l.map AM.v)=res at hP⊢
 have hall:s.l.any (λa:AM => !Zaq a.v) = !(s.l.map AM.v).all Zaq:=by
  rw[List.all_map,List.not_all_eq_any_not]<;>rfl
 refine Z1 ?_;intro g1;refine Z8 ?_
 by_cases hl:s.l.length>512
 rw[if_pos hl]at hP;have q1:decide ((s.l.length:Int)>512)=true:=zT;refine Zf q1 ?_;rw[hP];rw[if_neg hl]at hP;have q1:decide ((s.l.length:Int)>512)=false:=zF;refine Z1f q1 ?_;refine Znf @Z6k hG ?_ (s:=(Z6m G hE _ _ s hs hb));refine Zsf q1 ?_;rw[hall]
 cases hok:(s.l.map AM.v).all Zaq with
 |true=>
  rw[if_pos hok]at hP;refine Z ?_;rw[hP]
 |false=>
  rw[if_neg (by rw[hok];decide)]at hP;refine Z ?_;rw[hP]
def Z5z:List UInt8:=[97,114,103]
def Zkv(names:List (List UInt8))(x:List XN):Bool:=x.isEmpty||(Zr1 names x).1==1
def stT(vars events:List (List UInt8))(s:ASt):Bool:=(if s.kind=2 then events.contains s.name else vars.contains s.name)&&Zkv (vars++[Z5z]) s.x
def Zok(vars events:List (List UInt8)):List ASt->Int->Int×Int
 |[],_=>(0,0)
 |s::r,i=>if stT vars events s=true then Zok vars events r (i+1)else(i,90)
def Z5p(b:List ASt)(vars events:List (List UInt8)):Int×Int:=if Zgf b≠0 then(0,2)else Zok vars events b 0
theorem Zeu{vars events:List (List UInt8)}{b:List ASt}{k:Nat}{s:ASt}(h:b[k]?=some s):Zok vars events (b.drop k) k=if stT vars events s=true then Zok vars events (b.drop (k+1)) (k+1:Nat)else((k:Int),90):=by
 obtain⟨q1,q2⟩:=List.getElem?_eq_some_iff.1 h
 rw[List.drop_eq_getElem_cons q1,q2,Zok]<;>rfl
theorem Z8g(c:Col)(s:ASt):(Z9g c s).cells.length=3:=rfl
def Zqda(c:Col)(l:List ASt):V:=Za c 3 (Z9g c) (Zt l)
theorem Ziba{l:List Tk}{n i:Nat}{t:Tk}(h:l[i]?=some t):Zmn l n (i:Int)=t.pos:=by
 have hi:i<l.length:=by
  refine Classical.byContradiction λh2=>?_;rw[List.getElem?_eq_none zo]at h;cases h
 unfold Zmn
 rw[if_pos zo,Int.toNat_natCast,List.getD_eq_getElem?_getD,h]<;>rfl
structure CU where
 i:Nat
 e:Int
def cuO(sl:Sl Tk)(g:Nat)(st:V)(r:CU):AObj:=.cells .any g 0 [Za .any 3 Zyb sl,.int .i64 r.i,.int .i64 r.e,st]
theorem Z2f(sl:Sl Tk)(g:Nat)(st:V)(r:CU):cuO sl g st r=.cells .any g 0 [Za .any 3 Zyb sl,.int .i64 r.i,.int .i64 r.e,st]:=rfl
def CuS(G:Nat->V)(f:FuncId)(args:List V)(sl:Sl Tk)(g:Nat)(r:CU)(v:V)(r':CU):Prop:=
 ∀ st:V,(∀ F:Col->Col,st.recol F=st)->Spec Tryz.prog G f (.ptr 21 g 0::args) (Z4a Zk [(21,cuO sl g st r)]) (λv0 H'=>v0=v/\H' 21=cuO sl g st r')
theorem CuS.call{G:Nat->V}(hG:GOk G){f:FuncId}{args args':List V}{sl:Sl Tk}{g:Nat}{r r':CU}{v st:V}(h:CuS G f args' sl g r v r'){H:Heap}{K:V->Heap->Prop}
  (hst:∀ F:Col->Col,st.recol F=st) (hen:Z4 Tryz.prog f=true) (hargs:args.map (V.recol Col.ent)=args') {v':V} (hv:v.recol Col.bk=v')
  (h8:H 21=cuO sl g st r) (hk:K v' (Z4a H [(21,cuO sl g st r')])):
  CallA Tryz.prog G f (.ptr 21 g 0::args) H K:=by
 have e8:∀ (F:Col->Col) r,F .any=.any->(cuO sl g st r).recol F=cuO sl g st r:=by
  intro F r hF;simp only[Z2f,recol_cells,List.map_cons,List.map_nil,Zpb,Zqb,hF,hst]
 refine CallA.hand hG [(21,cuO sl g st r)] hen ?_ ?_;intro p hp;rw[List.mem_singleton]at hp;subst hp;rw[h8,e8 _ _ rfl]
 have ha:(V.ptr 21 g 0::args).map (V.recol Col.ent)=.ptr 21 g 0::args':=by rw[List.map_cons,Zqh,hargs]
 rw[ha];refine(h st hst).mono ?_;rintro _ H' ⟨rfl,q8⟩;simp only[List.map_cons,List.map_nil,q8,e8 _ _ Z4z,hv];exact hk
theorem Zch(G:Nat->V)(hG:GOk G)(sl:Sl Tk)(g:Nat)(r:CU)(w:List UInt8):CuS G 285 [.str w] sl g r (.bool (decide (r.i<sl.l.length)&&Zmc sl.l r.i==w)) r:=by
 intro st hst;refine Zo 1000 30 [.tmp 4] Tryz.func285 λX=>?_;simp only[Z4a,Z2f];refine Z1 ?_
 by_cases hi:r.i<sl.l.length
 have h1:decide ((r.i:Int)<sl.l.length)=true:=zT;have hg:=List.getElem?_eq_getElem hi;generalize sl.l[r.i]=t at hg;rw[Z6p hg,decide_eq_true hi,Bool.true_and];refine ZTf (zi h1 (zi hg @Zhc)) hG ?_;refine Z ?_;exact⟨rfl,zp⟩;have h1:decide ((r.i:Int)<sl.l.length)=false:=zF;rw[decide_eq_false hi,Bool.false_and];refine ZTf h1 hG ?_;refine Z ?_;exact⟨rfl,zp⟩
theorem Zy2(G:Nat->V)(hG:GOk G)(sl:Sl Tk)(g:Nat)(r:CU)(hi:r.i<=sl.l.length):CuS G 327 [] sl g r (Za .any 3 Zyb (sl.sub r.i sl.l.length)) r:=by
 intro st hst;refine Zo 1000 12 [.tmp 2] Tryz.func327 λX=>?_;simp only[Z4a,Z2f];refine Z1 ?_;have hll:sl.l.length<=sl.l.length:=Nat.le_refl _
 refine Z8<|Zv ⟨λ_=>.top,λ_=>.pure⟩ zk hG zk zk ?_
 simp -implicitDefEqProofs only[go_sem,seval,hi,hll,and_self];refine Z ?_;exact⟨rfl,zp⟩
theorem Z0n(G:Nat->V)(hG:GOk G)(sl:Sl Tk)(hsl:sl.l.length<1000000)(g:Nat)(r:CU)(hi:r.i<=sl.l.length):CuS G 305 [] sl g r (.tuple [.str (if Zvj sl.l r.i=true then Zmc sl.l r.i else[]),.bool (Zvj sl.l r.i)])
  (if Zvj sl.l r.i=true then⟨r.i+1,r.e⟩else⟨r.i,110⟩):=by
 intro st hst;refine Zo 1000 50 [.tmp 2,.tmp 3] Tryz.func305 λX=>?_;simp only[Z4a,Z2f];refine Z1 ?_;refine Z8 ?_
 by_cases hil:r.i=sl.l.length
 have h1:((r.i:Int)==sl.l.length)=true:=by rw[beq_iff_eq];omega
 refine ZTf h1 hG ?_;refine Z ?_;rw[Zqi zo];exact⟨rfl,zp⟩
 have h1:((r.i:Int)==sl.l.length)=false:=by rw[beq_eq_false_iff_ne];omega
 have hilt:r.i<sl.l.length:=zo;have hg:=List.getElem?_eq_getElem hilt;generalize sl.l[r.i]=t at hg
 cases hk:(t.kind==2)with
 |false=>
  refine Z8<|Zv ⟨λ_=>.top,λ_=>.pure⟩ zk hG zk zk ?_
  simp -implicitDefEqProofs only[go_sem,seval,h1,hg,Zhc,bne,hk];refine Z ?_;rw[Ztn hg,hk];exact⟨rfl,zp⟩
 |true=>
  refine Z8<|Zv ⟨λ_=>.top,λ_=>.pure⟩ zk hG zk zk ?_
  simp -implicitDefEqProofs only[go_sem,seval,h1,hg,Zhc,bne,hk];refine Z0 ?_
  have hw:IntKind.i64.wrap ((r.i:Int)+1)=((r.i+1:Nat):Int):=by rw[w64 zo zo];omega
  have hw2:IntKind.i64.wrap (((r.i+1:Nat):Int)-1)=(r.i:Int):=by rw[w64 zo zo];omega
  refine Z1f hw ?_;refine ZTf (zi hw2 (zi hg @Zhc)) hG ?_;refine Z ?_;rw[Ztn hg,hk,Z6p hg];exact⟨rfl,zp⟩
theorem Zud(G:Nat->V)(hG:GOk G)(sl:Sl Tk)(hsl:sl.l.length<1000000)(g:Nat)(r:CU)(hi:r.i<=sl.l.length)(c:Col)(ws:List (List UInt8))(hws:ws.length<1000)(hwn:∀ w∈ws,w≠[])(b:Bool):
  CuS G 306 [Za c 1 V.str (.mk b ws)] sl g r (.bool (Zxc sl.l ws r.i).1) ⟨(Zxc sl.l ws r.i).2,if(Zxc sl.l ws r.i).1=true then r.e else 110⟩:=by
 intro st hst;refine Zo 1000 28 [.tmp 4] Tryz.func306 λX=>?_;generalize hP:Zxc sl.l ws r.i=res;simp only[Z4a,Z2f];have hwl:(Sl.mk b ws).l=ws:=rfl;refine Z1 ?_;refine Z1f hwl ?_;refine AW.block ?_
 refine Zfa ws.length (λm (_:Unit)=>Go.Hs.st [(0,.ptr 21 g 0),(7,Za c 1 V.str (.mk b ws)),(8,.int .i64 ws.length),(9,.int .i64 m)] [(21,cuO sl g st ⟨r.i+m,r.e⟩)])
  (λm _=>res=Zxc sl.l (ws.drop m) (r.i+m)/\r.i+m<=sl.l.length) 0 () (Nat.zero_le _) ⟨hP.symm,hi⟩ (Zb zp zp) ?_
 rintro m _ hm ⟨hR,hmi⟩ L2 hL2;refine Z1 ?_;refine Z8 ?_;refine Zj rfl (λh10=>?_) (λh10=>?_);rotate_left
 have hm2:m=ws.length:=by have:=zN h10;omega
 rw[List.drop_eq_nil_of_le zo]at hR;refine Z ?_;rw[hR];exact⟨rfl,zp⟩;have hm1:m<ws.length:=zL h10;have hgm:ws[m]?=some ws[m]:=List.getElem?_eq_getElem hm1;have hdr:ws.drop m=ws[m]::ws.drop (m+1):=List.drop_eq_getElem_cons hm1;have hwm:=hwn _ (List.getElem_mem hm1);generalize ws[m]=w2 at hgm hdr hwm;rw[hdr,Zxc]at hR;refine Z1f (zi hwl hgm) ?_;refine Z1 ?_;refine CuS.call hG (Zch G hG sl g ⟨r.i+m,r.e⟩ w2) hst zk zm rfl zr ?_;refine Zu ?_
 have hcond:(decide (r.i+m<sl.l.length)&&Zmc sl.l (r.i+m)==w2)=(Zmc sl.l (r.i+m)==w2):=by
  by_cases h:r.i+m<sl.l.length
  rw[decide_eq_true h,Bool.true_and];rw[decide_eq_false h,Bool.false_and,Zpk zo]
  symm
  rw[beq_eq_false_iff_ne];exact λh=>hwm h.symm
 rw[hcond]
 by_cases hw4:Zmc sl.l (r.i+m)=w2
 rotate_left;rw[if_neg hw4]at hR;have q2:(Zmc sl.l (r.i+m)==w2)=false:=zu hw4;rw[q2];refine Zf @Z2f ?_;rw[hR];exact⟨rfl,zp⟩;have hlt:r.i+m<sl.l.length:=Zqk (by rw[hw4];exact hwm);rw[if_pos hw4]at hR;have q2:(Zmc sl.l (r.i+m)==w2)=true:=zu hw4;rw[q2];refine Z0 ?_
 have hw5:IntKind.i64.wrap (((r.i+m:Nat):Int)+1)=((r.i+(m+1):Nat):Int):=by rw[w64 zo zo];omega
 have hw6:IntKind.i64.wrap ((m:Int)+1)=((m+1:Nat):Int):=by rw[w64 zo zo];omega
 refine Z1f (zi @Z2f hw5) ?_;refine Z1f hw6 ?_;exact hL2 _ ⟨hm1,(),⟨hR,zo⟩,Zb zp zp⟩
theorem Z1n(G:Nat->V)(hE:GExp G)(sl:Sl Tk)(hT:TkOk sl.l)(g:Nat)(r:CU)(hi:r.i<=sl.l.length):
  CuS G 307 [] sl g r (.tuple [.agg [encXs .new (Z7a (sl.l.drop r.i)).1],.bool ((Z7a (sl.l.drop r.i)).2.2==0)]) ⟨r.i+(Z7a (sl.l.drop r.i)).2.1.toNat,(Z7a (sl.l.drop r.i)).2.2⟩:=by
 have hG:=hE.ok;intro st hst;refine Zo 1000 29 [.cell 2 197,.tmp 3] Tryz.func307 λX=>?_;have hTl:=hT.len
 have hsub:(sl.sub r.i sl.l.length).l=sl.l.drop r.i:=by rw[Z7ca];exact List.take_of_length_le (by rw[List.length_drop];omega)
 have hfr:=λc=>Z8m G hE c (sl.sub r.i sl.l.length) (by rw[hsub];exact⟨by rw[List.length_drop];omega,λt ht=>hT.text t (List.mem_of_mem_drop ht)⟩);have hbd:=Zzf (l:=sl.l.drop r.i);rw[hsub]at hfr;rw[List.length_drop]at hbd;generalize Z7a (sl.l.drop r.i)=p at hfr hbd;obtain⟨xs,n,e⟩:=p;simp only at hbd
 have hw3:IntKind.i64.wrap ((r.i:Int)+n)=((r.i+n.toNat:Nat):Int):=by rw[w64 zo zo];omega
 simp only[Z4a,Z2f];refine Z1 ?_;intro g2;refine Z1 ?_;refine CuS.call hG (Zy2 G hG sl g r hi) hst zk rfl rfl zr ?_;simp -implicitDefEqProofs only[go_sem,seval,Z4a,Zpb];refine Znf @Zpb hG ?_ (s:=(hfr _));refine Zsf (zi @encFr.eq_1 (zi @encXs.eq_1 @Zua)) ?_;intro g4;refine Zf (zi @Z2f hw3) ?_;exact⟨rfl,zp⟩
end Go.Hs
