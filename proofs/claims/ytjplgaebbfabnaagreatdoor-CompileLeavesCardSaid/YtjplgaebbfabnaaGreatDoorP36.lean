/- A part. No condition. -/
import Derived.Test.YtjplgaebbfabnaaGreatDoorP34
import Derived.Test.YtjplgaebbfabnaaGreatDoorP35
set_option linter.all false
namespace Go.Hs
open Go.Proofs
set_option maxRecDepth 10000
def eq3(a b c a' b' c':Int):Bool:=decide (a=a'/\b=b'/\c=c')
theorem Zjt(a b c h g f:Int):Zkt [.int .u8 a,.int .u8 b,.int .u8 c] [.int .u8 h,.int .u8 g,.int .u8 f]=some (eq3 a b c h g f):=by
 unfold eq3;simp only[Zkt,eqC,if_true]
 by_cases d:a=h
 by_cases e:b=g
 by_cases i:c=f
 simp[d,e,i];have:(c==f)=false:=zu i;simp[d,e,i,this];have:(b==g)=false:=zu e;simp[d,this,e];have:(a==h)=false:=zu d;simp[this,d]
def knC(v:V):List V:=ruleC++[v]
theorem Ib(v:V):(knC v).length=93:=by rw[knC,List.length_append]<;>rfl
theorem Z40(v:V):(knC v)[92]?=some v:=by
 rw[knC,List.getElem?_append_right zd]<;>rfl
theorem Hj:ruleC.length=92:=rfl
theorem Zm7(v:V):(knC v).take 92=ruleC:=by rw[knC,List.take_append_of_le_length (Nat.le_refl 92)]<;>rfl
theorem Zhi(f:Col->Col):ruleC.map (V.recol f)=ruleC:=rfl
theorem Z30(f:Col->Col)(v:V):(knC v).map (V.recol f)=knC (v.recol f):=by
 rw[knC,List.map_append,Zhi]<;>rfl
theorem Znq(G:Nat->V)(U:Y6 G)(c1 S:Col)(names:Sl (List UInt8))(hnl:names.l.length<1000000)(n:XN)(ks:Sl Int)(hn:PlOk ks.l.length n)(hkl:ks.l.length<1000000)(hks:∀ y∈ks.l,y=1\/y=2):
  Spec Tryz.prog G 223 [.agg (knC (Za c1 1 V.str names)),Xp n,Za S 1 (V.int .u8) ks] Zj (λv _=>v=.int .u8 (Kj names.l n ks.l)):=by
 refine Zo 0 71 [.tmp 6] Tryz.func223 λX=>?_;have t:Kj names.l n ks.l=kd n.op (names.l.contains n.name) (Me ks.l n.a) (Me ks.l n.b) (Me ks.l n.c):=rfl;generalize Kj names.l n ks.l=B at t⊢;simp only[Ux];refine Yz λK k=>AW.region zk ?_;refine Xr @Ib ?_;intro g3 g4 g5;refine k _ ?_
 try clear k K
 refine Wq (fun(_:Unit)=>st [(3,.ptr 3 g3 0),(4,.ptr 4 g4 0),(5,.ptr 5 g5 0)] [(3,.cells .new g3 0 (knC (Za c1 1 V.str names))),(4,.cells .new g4 0 [.int .u8 n.op,.int .i64 n.num,.str n.name,.int .i64 n.a,.int .i64 n.b,.int .i64 n.c]),(5,.cells .new g5 0 [Za S 1 (V.int .u8) ks])])
  (λ_=>n.op=2->names.l.contains n.name=true) (λK1 Q=>?_) ?_
 by_cases T:n.op=2
 .have e1:(n.op==2)=true:=zu T
  refine Yz λK k=>AW.region zk ?_;refine Xr (zi e1 @Z40) ?_;refine Zc U ?_ (s:=(U2 G U _ n.name names hnl));refine k _ ?_
  try clear k K
  cases hc:names.l.contains n.name with
  |true=>
   refine Z0 ?_;exact Q _ () (λ_=>hc) (Weak.st zp zp)
  |false=>
   refine Z2 rfl (λR=>?_) (λR=>?_)
   .refine Yz λK k=>AW.region zk ?_
    refine Zs ?_;refine k _ ?_
    try clear k K
    refine Z ?_
    rw[t,hc,T]<;>rfl
   cases R
 .have e1:(n.op==2)=false:=zu T
  refine Yz λK k=>AW.region zk ?_;refine Xr e1 ?_;refine k _ ?_
  try clear k K
  refine Z0 ?_;exact Q _ () (λh=>absurd h T) (Weak.st zp zp)
 rintro _ hnm;refine Yz λK k=>AW.region zk ?_;refine Zs ?_;refine k _ ?_
 try clear k K
 refine AW.weak (Zl (λo=>o==3||o==4||o==5) (l:=[(3,.view .new (.agg (knC (Za c1 1 V.str names)))),(4,.view .new (.agg [.int .u8 n.op,.int .i64 n.num,.str n.name,.int .i64 n.a,.int .i64 n.b,.int .i64 n.c])),(7,.func (.func 245) [] [.view .new (Za S 1 (V.int .u8) ks)])]) (m:=[]) ?_ trivial) ?_;refine Zs ?_;refine⟨?_,?_,?_⟩;exact Fz.ptr (v:=.agg (knC (Za c1 1 V.str names))) (c:=.new) (fz:=0) rfl zp;exact Fz.ptr (v:=.agg [.int .u8 n.op,.int .i64 n.num,.str n.name,.int .i64 n.a,.int .i64 n.b,.int .i64 n.c]) (c:=.new) (fz:=0) rfl zp;exact Fz.func ⟨Fz.ptr (v:=Za S 1 (V.int .u8) ks) (c:=.new) (fz:=0) rfl zp,trivial⟩
 have W:∀ i:Int,(i<0\/0<=i/\i<ks.l.length)->Zkb Tryz.prog G 245 [.int .i64 i,.view .new (Za S 1 (V.int .u8) ks)] (.int .u8 (Me ks.l i)):=λi h=>⟨zk,by
  refine Zs ?_;refine(Z74 G U _ ks hkl i h).mono ?_;rintro _ _ rfl
  rfl⟩
 obtain⟨hw,O,M,J,P,N,L⟩:=hn
 have hra:n.a<0\/0<=n.a/\n.a<ks.l.length:=by
  by_cases h:0<Yl n.op
  exact .inr (O h);exact .inl (by rw[P h];decide)
 have hrb:n.b<0\/0<=n.b/\n.b<ks.l.length:=by
  by_cases h:1<Yl n.op
  exact .inr (M h);exact .inl (by rw[N h];decide)
 have hrc:n.c<0\/0<=n.c/\n.c<ks.l.length:=by
  by_cases h:2<Yl n.op
  exact .inr (J h);exact .inl (by rw[L h];decide)
 have hor:=Kr hw;obtain⟨r,f⟩:∃ r:Nat,n.op=r:=⟨n.op.toNat,zo⟩;have H:r<23:=zo;have F:n.op<23:=zo;have I:0<=n.op:=zo;have E:n.op.toNat=r:=zo;have Y:=Zlz r H;have hrl:r*4+4<=92:=zo;refine Yz λK k=>Zy ⟨λi=>if i=8 then .int .u8 (Me ks.l n.a)else if i=12 then .int .u8 (Me ks.l n.b)else if i=16 then .int .u8 (Me ks.l n.c)else .top,λi=>if i=1 then .lend else if i=4 then .lend else if i=7 then .lend else if i=11 then .lend else if i=15 then .lend else .pure⟩ zk U zk zk ?_;simp -implicitDefEqProofs only[go_sem,seval,Zm7,Ib,show(92:Nat)<=93 from zd,Hj,Y,F,I,E,hrl];refine⟨W _ hra,W _ hrb,W _ hrc,?_⟩;intro g8 g9;refine k _ ?_
 try clear k K
 have C:∀ i:Int,(0<=i/\i<ks.l.length)->Me ks.l i=1\/Me ks.l i=2:=by
  intro i hi;unfold Me;rw[if_neg zo];obtain⟨m,rfl⟩:∃ m:Nat,i=m:=⟨i.toNat,zo⟩;rw[Int.toNat_natCast,List.getD_eq_getElem?_getD,List.getElem?_eq_getElem zo];exact hks _ (List.getElem_mem _)
 have e:0<Yl n.op->Me ks.l n.a=1\/Me ks.l n.a=2:=λh=>C _ (O h);have g:1<Yl n.op->Me ks.l n.b=1\/Me ks.l n.b=2:=λh=>C _ (M h);have A:2<Yl n.op->Me ks.l n.c=1\/Me ks.l n.c=2:=λh=>C _ (J h)
 have q:¬ 0<Yl n.op->Me ks.l n.a=0:=λh=>by rw[P h]<;>rfl
 have p:¬ 1<Yl n.op->Me ks.l n.b=0:=λh=>by rw[N h]<;>rfl
 have d:¬ 2<Yl n.op->Me ks.l n.c=0:=λh=>by rw[L h]<;>rfl
 generalize Me ks.l n.a=a at t e q⊢;generalize Me ks.l n.b=b at t g p⊢;generalize Me ks.l n.c=c at t A d⊢;refine Yz λK k=>AW.region zk ?_;refine Zs ?_;refine k _ ?_
 try clear k K
 by_cases x:r=16\/r=17
 .have eA:Dj r=3:=by rcases x with rfl|rfl<;>rfl
  have eB:Zii r=3:=by rcases x with rfl|rfl<;>rfl
  have eD:Di r=0:=by rcases x with rfl|rfl<;>rfl
  have eI:Zpx r=2:=by rcases x with rfl|rfl<;>rfl
  rw[eA,eB,eD,eI]
  have j:Yl n.op=2:=by rw[f];rcases x with rfl|rfl<;>rfl
  rw[j]at e g d
  replace e:=e zd
  replace g:=g zd
  replace d:=d zd
  refine Z6 ?_;refine Yz λK k=>AW.region zk ?_;refine Zs ?_;refine k _ ?_
  try clear k K
  refine Z1 ?_;refine Z6 ?_;refine Yz λK k=>AW.region zk ?_;refine Zs ?_;refine k _ ?_
  try clear k K
  refine Z0 ?_;refine Z6 ?_;refine Yz λK=>?_;intro k;refine Qd 3 zk rfl rfl ?_;refine Zs ?_;refine⟨_,Lj (.inr rfl) zk zk zk zp zp zk (Zjt _ _ _ _ _ _),?_⟩;refine Zs ?_;refine k _ ?_
  try clear k K
  have u:B=if eq3 a b c b b 0=true then 2 else 0:=by
   rw[t,f,d]
   rcases x with rfl|rfl<;>rcases e with rfl|rfl<;>rcases g with rfl|rfl<;>rfl
  generalize eq3 a b c b b 0=z at u⊢
  cases z with
  |true=>
   refine Z0 ?_;refine Yz λK k=>AW.region zk ?_;refine Zs ?_;refine k _ ?_
   try clear k K
   refine Z ?_
   rw[u]<;>rfl
  |false=>
   refine Z2 rfl (λw=>?_) (λw=>?_)
   .refine Yz λK k=>AW.region zk ?_
    refine Zs ?_;refine k _ ?_
    try clear k K
    refine Z ?_
    rw[u]<;>rfl
   cases w
 by_cases D:r=22
 .subst D
  have eA:Dj 22=2:=rfl;have eB:Zii 22=3:=rfl;have eD:Di 22=3:=rfl;have eI:Zpx 22=3:=rfl;rw[eA,eB,eD,eI]
  have j:Yl n.op=3:=by rw[f]<;>rfl
  rw[j]at e g A
  replace e:=e zd
  replace g:=g zd
  replace A:=A zd
  refine Z6 ?_;refine Yz λK k=>AW.region zk ?_;refine Zs ?_;refine k _ ?_
  try clear k K
  refine Z0 ?_;refine Z6 ?_;refine Yz λK k=>AW.region zk ?_;refine Zs ?_;refine k _ ?_
  try clear k K
  refine Z1 ?_;refine Z6 ?_;refine Yz λK=>?_;intro k;refine Qd 3 zk rfl rfl ?_;refine Zs ?_;refine⟨_,Lj (.inr rfl) zk zk zk zp zp zk (Zjt _ _ _ _ _ _),?_⟩;refine Zs ?_;refine k _ ?_
  try clear k K
  have u:B=if eq3 a b c 2 b b=true then b else 0:=by
   rw[t,f]
   rcases e with rfl|rfl<;>rcases g with rfl|rfl<;>rcases A with rfl|rfl<;>rfl
  generalize eq3 a b c 2 b b=z at u⊢
  cases z with
  |true=>
   refine Z0 ?_;refine Yz λK k=>AW.region zk ?_;refine Zs ?_;refine k _ ?_
   try clear k K
   refine Z ?_
   rw[u]<;>rfl
  |false=>
   refine Z2 rfl (λw=>?_) (λw=>?_)
   .refine Yz λK k=>AW.region zk ?_
    refine Zs ?_;refine k _ ?_
    try clear k K
    refine Z ?_
    rw[u]<;>rfl
   cases w
 have nA:(Dj r==3)=false:=by unfold Dj;rw[if_neg x];split;rfl;split;rfl;rfl
 have nD:(Di r==3)=false:=by unfold Di;rw[if_neg D]<;>rfl
 refine Z6 ?_;refine Yz λK k=>AW.region zk ?_;refine Xr nA ?_;refine k _ ?_
 try clear k K
 refine Z0 ?_;refine Z6 ?_;refine Yz λK k=>AW.region zk ?_;refine Xr nD ?_;refine k _ ?_
 try clear k K
 refine Z0 ?_;refine Z6 ?_;refine Yz λK=>?_;intro k;refine Qd 3 zk rfl rfl ?_;refine Zs ?_;refine⟨_,Lj (.inr rfl) zk zk zk zp zp zk (Zjt _ _ _ _ _ _),?_⟩;refine Zs ?_;refine k _ ?_
 try clear k K
 have u:B=if eq3 a b c (Dj r) (Zii r) (Di r)=true then Zpx r else 0:=by
  have hcs:r=1\/r=2\/r=3\/r=4\/r=5\/r=6\/r=7\/r=8\/r=9\/r=10\/r=11\/r=12\/r=13\/r=14\/r=15\/r=18\/r=19\/r=20\/r=21:=zo
  rcases hcs with rfl|rfl|rfl|rfl|rfl|rfl|rfl|rfl|rfl|rfl|rfl|rfl|rfl|rfl|rfl|rfl|rfl|rfl|rfl
  .have j:Yl n.op=0:=by rw[f]<;>rfl
   rw[j]at e g q p d;rw[t,f,q zd,p zd,d zd]
   try rfl
  .have j:Yl n.op=0:=by rw[f]<;>rfl
   rw[j]at e g q p d;rw[t,f,q zd,p zd,d zd];rw[hnm (by rw[f]<;>rfl)]
   try rfl
  .have j:Yl n.op=0:=by rw[f]<;>rfl
   rw[j]at e g q p d;rw[t,f,q zd,p zd,d zd]
   try rfl
  .have j:Yl n.op=0:=by rw[f]<;>rfl
   rw[j]at e g q p d;rw[t,f,q zd,p zd,d zd]
   try rfl
  have j:Yl n.op=1:=by rw[f]<;>rfl
  rw[j]at e g q p d;rw[t,f,p zd,d zd]
  rcases e zd with rfl|rfl<;>rfl
  have j:Yl n.op=1:=by rw[f]<;>rfl
  rw[j]at e g q p d;rw[t,f,p zd,d zd]
  rcases e zd with rfl|rfl<;>rfl
  have j:Yl n.op=2:=by rw[f]<;>rfl
  rw[j]at e g q p d;rw[t,f,d zd]
  rcases e zd with rfl|rfl<;>rcases g zd with rfl|rfl<;>rfl
  have j:Yl n.op=2:=by rw[f]<;>rfl
  rw[j]at e g q p d;rw[t,f,d zd]
  rcases e zd with rfl|rfl<;>rcases g zd with rfl|rfl<;>rfl
  have j:Yl n.op=2:=by rw[f]<;>rfl
  rw[j]at e g q p d;rw[t,f,d zd]
  rcases e zd with rfl|rfl<;>rcases g zd with rfl|rfl<;>rfl
  have j:Yl n.op=2:=by rw[f]<;>rfl
  rw[j]at e g q p d;rw[t,f,d zd]
  rcases e zd with rfl|rfl<;>rcases g zd with rfl|rfl<;>rfl
  have j:Yl n.op=2:=by rw[f]<;>rfl
  rw[j]at e g q p d;rw[t,f,d zd]
  rcases e zd with rfl|rfl<;>rcases g zd with rfl|rfl<;>rfl
  have j:Yl n.op=2:=by rw[f]<;>rfl
  rw[j]at e g q p d;rw[t,f,d zd]
  rcases e zd with rfl|rfl<;>rcases g zd with rfl|rfl<;>rfl
  have j:Yl n.op=2:=by rw[f]<;>rfl
  rw[j]at e g q p d;rw[t,f,d zd]
  rcases e zd with rfl|rfl<;>rcases g zd with rfl|rfl<;>rfl
  have j:Yl n.op=2:=by rw[f]<;>rfl
  rw[j]at e g q p d;rw[t,f,d zd]
  rcases e zd with rfl|rfl<;>rcases g zd with rfl|rfl<;>rfl
  have j:Yl n.op=2:=by rw[f]<;>rfl
  rw[j]at e g q p d;rw[t,f,d zd]
  rcases e zd with rfl|rfl<;>rcases g zd with rfl|rfl<;>rfl
  have j:Yl n.op=2:=by rw[f]<;>rfl
  rw[j]at e g q p d;rw[t,f,d zd]
  rcases e zd with rfl|rfl<;>rcases g zd with rfl|rfl<;>rfl
  have j:Yl n.op=2:=by rw[f]<;>rfl
  rw[j]at e g q p d;rw[t,f,d zd]
  rcases e zd with rfl|rfl<;>rcases g zd with rfl|rfl<;>rfl
  have j:Yl n.op=2:=by rw[f]<;>rfl
  rw[j]at e g q p d;rw[t,f,d zd]
  rcases e zd with rfl|rfl<;>rcases g zd with rfl|rfl<;>rfl
  have j:Yl n.op=2:=by rw[f]<;>rfl
  rw[j]at e g q p d;rw[t,f,d zd]
  rcases e zd with rfl|rfl<;>rcases g zd with rfl|rfl<;>rfl
 generalize eq3 a b c (Dj r) (Zii r) (Di r)=z at u⊢
 cases z with
 |true=>
  refine Z0 ?_;refine Yz λK k=>AW.region zk ?_;refine Zs ?_;refine k _ ?_
  try clear k K
  refine Z ?_
  rw[u]<;>rfl
 |false=>
  refine Z2 rfl (λw=>?_) (λw=>?_)
  .refine Yz λK k=>AW.region zk ?_
   refine Zs ?_;refine k _ ?_
   try clear k K
   refine Z ?_
   rw[u]<;>rfl
  cases w
def U5(names:List (List UInt8))(l:List XN):List Int×Int×Int:=if S7 l≠0 then([],0,S7 l)else goN names l 0 []
def encKs(c:Col)(l:List Int):V:=Za c 1 (V.int .u8) (Zd l)
def encKr(c:Col)(p:List Int×Int×Int):V:=.tuple [encKs c p.1,.int .i64 p.2.1,.int .i64 p.2.2]
theorem Z50{op:Int}{nm:Bool}{a b c:Int}(d:b=0\/b=1\/b=2)(h:kd op nm a b c≠0):kd op nm a b c=1\/kd op nm a b c=2:=by
 have:=Zo7 (op:=op) (nm:=nm) (a:=a) (c:=c) (b:=b) zo;omega
theorem Zsz{ks:List Int}(h:∀ y∈ks,y=1\/y=2)(i:Int):Me ks i=0\/Me ks i=1\/Me ks i=2:=by
 unfold Me
 split
 exact .inl rfl
 .rw[List.getD_eq_getElem?_getD]
  cases a:ks[i.toNat]? with
  |none=>exact .inl rfl
  |some y=>exact .inr (h y (List.mem_of_getElem? a))
theorem Zy7{names:List (List UInt8)}{l:List XN}{k:Nat}{n:XN}(h:l[k]?=some n)(ks:List Int):goN names (l.drop k) k ks=if Kj names n ks=0 then([],(k:Int),90)else goN names (l.drop (k+1)) (k+1:Nat) (ks++[Kj names n ks]):=by
 obtain⟨b,a⟩:=List.getElem?_eq_some_iff.1 h
 rw[List.drop_eq_getElem_cons b,a]<;>rfl
theorem Im.knC{v:V}(h:v.Im):(V.agg (knC v)).Im:=by
 refine .agg _ λx a=>?_
 rcases List.mem_append.1 a with b|b
 have:∀ l:List V,(l.all λv=>match v with|.int _ _=>true|_=>false)=true->∀ x∈l,x.Im:=by
  intro l c x a;have:=List.all_eq_true.1 c x a
  cases x<;>first|exact .int _ _|cases this
 exact this ruleC rfl x b;rw[List.mem_singleton.1 b];exact h
theorem Im.xn(n:XN):(Xp n).Im:=by
 refine .agg _ λx a=>?_;simp only[List.mem_cons,List.not_mem_nil,or_false]at a
 rcases a with rfl|rfl|rfl|rfl|rfl|rfl<;>first|exact .int _ _|exact .str _
theorem Z7ba(c:Col)(s:Sl (List UInt8)):(Za c 1 V.str s).Im:=Uu (λx y a=>by simp[V.cells]at a;subst a;exact .str _) s
theorem Zzba(x:V)(d:x.cells=[x])(e:x.solid=true):Ta Tryz.prog 278 [(0,.agg ruleC),(1,x)]=some (.agg (knC x)):=by
 rw[Zwk (tbl:=[(0,92),(92,1)]) (z:=List.replicate 92 (.int .u8 0)++[.nils]) zk zk]
 have g:Hs.setAt (List.replicate 92 (.int .u8 0)++[.nils]) 0 ruleC=ruleC++[.nils]:=by
  rw[Dd _ _ _ zd]<;>rfl
 have f:Hs.setAt (ruleC++[.nils]) 92 [x]=knC x:=by
  show(ruleC++[V.nils]).set 92 x=ruleC++[x]
  rw[List.set_append_right _ _ zd]<;>rfl
 have c:(List.replicate 92 (V.int .u8 0)++[V.nils]).length=93:=rfl;have b:(ruleC++[V.nils]).length=93:=rfl;have h:(V.agg ruleC).cells=ruleC:=rfl;have a:(V.agg ruleC).solid=true:=rfl;have t0:Z5b [(0,92),(92,1)] 0=some (0,92):=rfl;have t1:Z5b [(0,92),(92,1)] 1=some (92,1):=rfl;simp only[Vk,t0,t1,h,a,d,e,c,Hj,g,b,f,List.length_singleton,true_and,Nat.zero_add];rfl
theorem Zw1{α : Type}(c:Col)(m:Nat)(f : α -> V)(s:Sl α):(Za c m f s).solid=true:=by cases s<;>rfl
theorem Zx1{α : Type}(c:Col)(m:Nat)(f : α -> V)(s:Sl α):(Za c m f s).cells=[Za c m f s]:=by cases s<;>rfl
theorem Zu5(l:List V)(v:V)(h:l.length=93):Hs.setAt l 0 (knC v)=knC v:=Zka (by rw[h,Ib])
theorem Bl(x:Int):(V.int .u8 x).cells.length=1:=rfl
theorem Z7h(G:Nat->V)(P:GExp G)(c c1:Col)(s:Sl XN)(names:Sl (List UInt8))(T:s.l.length<1000000)(L:∀ n∈s.l,n.name.length<100000)(M:names.l.length<1000000):
  Spec Tryz.prog G 182 [.agg [Za c 6 Xp s],Za c1 1 V.str names] Zj (λv _=>v=encKr .new (U5 names.l s.l)):=by
 have E:=P.ok;refine Zo 0 40 [.tmp 4,.tmp 5,.tmp 6] Tryz.func182 λX=>?_
 have D:U5 names.l s.l=if S7 s.l≠0 then([],0,S7 s.l)else goN names.l s.l 0 []:=rfl
 generalize U5 names.l s.l=A at D⊢;refine Z1 ?_;intro S;refine Z1 ?_;refine Zcf @Xk E ?_ (s:=(Mi G P _ s T L));refine Z1 ?_
 by_cases z:S7 s.l=0
 rotate_left;have I:(S7 s.l != 0)=true:=zu z;rw[if_pos z]at D;refine Z2 rfl (λi=>?_) (λi=>?_);refine Z ?_
 rw[D]<;>rfl
 rw[I]at i;cases i;have I:(S7 s.l != 0)=false:=zu z;rw[if_neg (zu z)]at D;refine Z2 rfl (λi=>?_) (λi=>?_);rw[I]at i;cases i;refine Z0 ?_
 have C:Uf s.l≠0:=by
  intro h;rw[S7,if_pos h]at z;cases z
 refine Z1 ?_;refine Zn E ?_ (s:=(Z5h G E));have J:(V.agg ruleC).recol Col.bk=.agg ruleC:=rfl;have U:(V.agg ruleC).cells=ruleC:=rfl;simp -implicitDefEqProofs only[go_sem,seval,J,Hj,Zzba (Za c1 1 V.str names) (Zx1 ..) (Zw1 ..)];intro R;refine Xr (zi @Ib @Zcb) ?_;rw[Zu5 _ _ ?hl]
 case hl=>rfl
 refine Z1 ?_;refine AW.block ?_
 refine Yc s.l.length (λk (x:Nat×List Int)=>st [(4,grown 37 x.1 1 x.2),(7,.ptr 7 R 0),(20,Za c 6 Xp s),(21,.int .i64 s.l.length),(22,.int .i64 k)] [(7,.cells .new R 0 (knC (Za c1 1 V.str names))),(37,Yb x.1 (V.int .u8) x.2)])
  (λk x=>A=goN names.l (s.l.drop k) k x.2/\x.2.length=k/\∀ y∈x.2,y=1\/y=2) 0 (0,[]) (Nat.zero_le _) ⟨D,rfl,λy w=>by cases w⟩
  (Weak.st zp zp) ?_
 rintro k ⟨Q,d⟩ Y ⟨p,q,j⟩ L3 O
 replace p:A=goN names.l (s.l.drop k) k d:=p
 replace q:d.length=k:=q
 replace j:∀ y∈d,y=1\/y=2:=j
 refine Z1 ?_;refine Z6 ?_;refine Z2 rfl (λu=>?_) (λu=>?_);have r:k<s.l.length:=zu u;have F:=List.getElem?_eq_getElem r;generalize s.l[k]=n at F;rw[Zy7 F]at p;have K:PlOk d.length n:=q ▸ Zk6 C F;refine Xm (zi F @Ux) ?_;intro g9;refine Xm @Ib ?_;rw[<- Ux];refine CallA.bor E [.agg (knC (Za c1.ent 1 V.str names)),Xp n,Za .old 1 (V.int .u8) (Zd d)] zk ⟨?_,?_,?_,trivial⟩ ?_;refine Xf (Im.knC (Z7ba _ _)) ?_
 show(V.agg (knC _)).recol _=_
 rw[Xl,Z30];simp -implicitDefEqProofs only[go_sem,seval];exact Xf (Im.xn n) (Mp _ _);exact I0 (g:=Q) (f:=V.int .u8) (f':=V.int .u8) zp Bl (λx y w=>by simp[V.cells]at w;subst w;exact .int _ _) (λ_=>rfl);refine(Znq G E _ _ names M n (Zd d) (by rw[Zm];exact K) (by rw[Zm];omega) (by rw[Zm];exact j)).mono ?_;rintro _ _ rfl;refine⟨.int _ _,?_⟩;rw[Zm];have t:=λh=>Z50 (op:=n.op) (nm:=names.l.contains n.name) (a:=Me d n.a) (c:=Me d n.c) (Zsz j n.b) h;have N:Kj names.l n d=kd n.op (names.l.contains n.name) (Me d n.a) (Me d n.b) (Me d n.c):=rfl;rw[<- N]at t;generalize Kj names.l n d=v at p t⊢;refine Zs ?_;refine Z1 ?_
 by_cases B:v=0
 have H:(v==0)=true:=zu B;rw[if_pos B]at p;refine Z2 rfl (λe=>?_) (λe=>?_);refine Z ?_
 rw[p]<;>rfl
 rw[H]at e;cases e;have H:(v==0)=false:=zu B;rw[if_neg B]at p;refine Z2 rfl (λe=>?_) (λe=>?_);rw[H]at e;cases e;refine Z1 ?_;intro W;refine Ys (f:=V.int .u8) (l:=d) (l2:=[v]) (g:=Q) Bl rfl rfl rfl zp (Z4 zo zO) λS=>?_;refine Zs ?_;refine Z1 ?_;refine O _ ⟨r,(S,d++[v]),⟨p,by rw[List.length_append,q]<;>rfl,?_⟩,Weak.st zw zp⟩;intro y w
 rcases List.mem_append.1 w with h|h
 exact j y h;rw[List.mem_singleton.1 h];exact t B
 have r:k=s.l.length:=by simp at u;omega
 refine Z0 ?_;rw[r,List.drop_length]at p;refine AW.weak (Zl (λo=>o==37) (l:=[(4,encKs .new d)]) (m:=[]) ?_ trivial) ?_;refine Zs ?_;exact Y5 rfl rfl Bl;refine Z ?_
 rw[p]<;>rfl
theorem Z9x{names:List (List UInt8)}:∀ (l:List XN) (i:Int) (acc:List Int),(goN names l i acc).2.2=0->(goN names l i acc).1.length=acc.length+l.length
 |[],i,acc,_=>rfl
 |n::r,i,acc,h=>by
  rw[goN]at h⊢
  split
  rename_i a;rw[if_pos a]at h;cases h;rename_i a;rw[if_neg a]at h;have:=Z9x r (i+1) (acc++[Kj names n acc]) h;rw[this];simp;omega
theorem Z3s{names:List (List UInt8)}{l:List XN}(h:(U5 names l).2.2=0):(U5 names l).1.length=l.length/\0<l.length:=by
 unfold U5 at h⊢
 by_cases a:S7 l=0
 .rw[if_neg (zu a)]at h⊢
  refine⟨by have:=Z9x l 0 [] h;simpa using this,?_⟩
  cases l with
  |nil=>exact absurd a zd
  |cons=>simp
 rw[if_pos a]at h;exact absurd h a
def H5(names:List (List UInt8))(l:List XN):Int×Int×Int:=if(U5 names l).2.2≠0 then(0,(U5 names l).2.1,(U5 names l).2.2)else((U5 names l).1.getD ((U5 names l).1.length-1) 0,0,0)
def encO3(p:Int×Int×Int):V:=.tuple [.int .u8 p.1,.int .i64 p.2.1,.int .i64 p.2.2]
theorem Zz5(g:Col->Col)(c:Col)(s:Sl Int):(Za c 1 (V.int .u8) s).recol g=Za (g c) 1 (V.int .u8) s:=Y8 g c 1 (λ_=>rfl) s
theorem Z6h(G:Nat->V)(t:GExp G)(c c1:Col)(s:Sl XN)(names:Sl (List UInt8))(x:s.l.length<1000000)(j:∀ n∈s.l,n.name.length<100000)(k:names.l.length<1000000):
  Spec Tryz.prog G 114 [.agg [Za c 6 Xp s],Za c1 1 V.str names] Zj (λv _=>v=encO3 (H5 names.l s.l)):=by
 have A:=t.ok;refine Zo 0 25 [.tmp 4,.tmp 5,.tmp 6] Tryz.func114 λX=>?_
 have b:H5 names.l s.l=if(U5 names.l s.l).2.2≠0 then(0,(U5 names.l s.l).2.1,(U5 names.l s.l).2.2)else((U5 names.l s.l).1.getD ((U5 names.l s.l).1.length-1) 0,0,0):=rfl
 have g:=λc c1=>Z7h G t c c1 s names x j k;have q:=Z3s (names:=names.l) (l:=s.l);generalize H5 names.l s.l=u at b⊢;generalize U5 names.l s.l=p at b g q;obtain⟨d,i,e⟩:=p;simp only at b q;refine Z1 ?_;intro C;refine Z1 ?_;refine Znf @Xk A ?_ (s:=(g _ _));refine Xr (zi @encKr.eq_1 (zi @encKs.eq_1 @Zz5)) ?_;refine Z1 ?_
 by_cases f:e=0
 rotate_left;have h:(e != 0)=true:=zu f;rw[if_pos f]at b;refine Z2 rfl (λa=>?_) (λa=>?_);refine Z ?_
 rw[b]<;>rfl
 rw[h]at a;cases a;have h:(e != 0)=false:=zu f;rw[if_neg (zu f)]at b;obtain⟨z,y⟩:=q f;refine Z2 rfl (λa=>?_) (λa=>?_);rw[h]at a;cases a;refine Z0 ?_;obtain⟨m,B⟩:∃ m:Nat,d.length=m+1:=⟨d.length-1,zo⟩
 have w:IntKind.i64.wrap ((d.length:Int)-1)=(m:Int):=by rw[Wy zo zo];omega
 obtain⟨v,r⟩:∃ v,d[m]?=some v:=⟨_,List.getElem?_eq_getElem zo⟩
 have o:d.getD (d.length-1) 0=v:=by rw[show d.length-1=m by omega,List.getD_eq_getElem?_getD,r]<;>rfl
 rw[o]at b;refine Zf (zi w r) ?_
 rw[b]<;>rfl
def tr1:XN:=⟨3,0,[],-1,-1,-1⟩
def Qg(s:List UInt8)(names:List (List UInt8)):List XN×Int×Int:=
 if(Y4 s).2.2=0/\(Y4 s).1.length=0 then([tr1],0,0)
 else if(Sr s).2.2≠0 then([],(Sr s).2.1,(Sr s).2.2)
 else if(H5 names (Sr s).1).2.2≠0\/(H5 names (Sr s).1).1≠2 then([],0,90)else((Sr s).1,0,0)
theorem Zt1{s:List UInt8}(f:s.length<100000):(Sr s).1.length<100000/\∀ n∈(Sr s).1,n.name.length<100000:=by
 have e:=El f;have c:=Ld e;have b:=((Se (Y4 s).1 ((Y4 s).1.length+1) 1 ⟨0,[],0⟩).ok ⟨Nat.zero_le _,Nat.le_refl _⟩)
 have d:(X5 (Y4 s).1).1.length<100000/\∀ n∈(X5 (Y4 s).1).1,n.name.length<100000:=by
  unfold X5
  split
  exact⟨Nat.zero_lt_succ _,λn a=>by cases a⟩
  split
  exact⟨Nat.zero_lt_succ _,λn a=>by cases a⟩;have:=b.1;have:=b.2;have:=e.len;exact⟨by show(We _ _ _ _).2.nodes.length<_;omega,c⟩
 unfold Sr
 split
 exact⟨Nat.zero_lt_succ _,λn a=>by cases a⟩
 split
 exact⟨Nat.zero_lt_succ _,λn a=>by cases a⟩
 split
 exact d;exact⟨Nat.zero_lt_succ _,λn a=>by cases a⟩
theorem Pm(G:Nat->V)(C:GExp G)(c1:Col)(s:List UInt8)(names:Sl (List UInt8))(I:s.length<100000)(J:names.l.length<1000000):
  Spec Tryz.prog G 71 [.str s,Za c1 1 V.str names] Zj (λv _=>v=encFr .new (Qg s names.l)):=by
 have K:=C.ok;refine Zo 0 55 [.cell 4 94,.tmp 5,.tmp 6] Tryz.func71 λX=>?_
 have a:Qg s names.l=if(Y4 s).2.2=0/\(Y4 s).1.length=0 then([tr1],0,0)
  else if(Sr s).2.2≠0 then([],(Sr s).2.1,(Sr s).2.2)
  else if(H5 names.l (Sr s).1).2.2≠0\/(H5 names.l (Sr s).1).1≠2 then([],0,90)else((Sr s).1,0,0):=rfl
 generalize Qg s names.l=O at a⊢;have N:=Th G C s I;have M:=Zmh G C s I;have Q:=Zt1 I;have w:=λc c1=>Z6h G C c c1 (Zd (Sr s).1) names (by rw[Zm];omega) (by rw[Zm];exact Q.2) J;simp only[Zm]at w;generalize Y4 s=t at a N;generalize Sr s=p at a M w;obtain⟨l,S,F⟩:=t;obtain⟨P,i,e⟩:=p;simp only at a w;generalize H5 names.l P=o at a w;obtain⟨k,j,L⟩:=o;simp only at a;refine Z1 ?_;intro E;refine Wq (fun(_:Unit)=>st [(0,.str s),(1,Za c1 1 V.str names),(4,.ptr 4 E 0)] [(4,.cells .new E 0 [.nils])]) (λ_=>¬ (F=0/\l.length=0)) (λT x=>?_) ?_
 .refine Z1 ?_
  refine Zn K ?_ (s:=N);refine Xr (zi @encTok.eq_1 (zi @encTks.eq_1 @Vl)) ?_
  by_cases n:F=0
  rotate_left;have r:(F==0)=false:=zu n;refine Xm r ?_;refine Z0 ?_;exact x _ () (λh=>n h.1) (Weak.st zp zp);have r:(F==0)=true:=zu n
  by_cases u:l.length=0
  rw[if_pos ⟨n,u⟩]at a
  have q:(((l.length:Nat):Int)==0)=true:=by simp[u]
  refine Xm (zi r q) ?_;refine Z2 rfl (λy=>?_) (λy=>?_);refine Z1 ?_;intro z;refine AW.weak (Zl (λo=>o==27) (l:=[(4,.ptr 4 E 0),(5,.int .i64 0),(6,.int .i64 0)]) (m:=[(4,.cells .new E 0 [encXs .new [tr1]])]) ?_ ?_) ?_;refine Zs ?_
  first|exact⟨Zb,Zb,Zb⟩|exact⟨Zb,Zb⟩
  simp only[Zt,Zv,and_true];exact FzO.of (c:=.new) (fz:=0) (cs:=[.msl 27 z 0 1 6]) rfl zp ⟨Xa (f:=Xp) (l:=[tr1]) (m:=6) (g:=z) (fz:=0) (c:=.new) rfl zp M4,trivial⟩;refine Z ?_
  rw[a]<;>rfl
  cases y
  have q:(((l.length:Nat):Int)==0)=false:=by rw[beq_eq_false_iff_ne];omega
  refine Xm (zi r q) ?_;refine Z0 ?_;exact x _ () (λh=>u h.2) (Weak.st zp zp)
 rintro _ R;rw[if_neg R]at a;refine Z1 ?_;refine Zn K ?_ (s:=M);refine Xr (zi @encFr.eq_1 (zi @encXs.eq_1 @Xk)) ?_;refine Z1 ?_
 by_cases B:e=0
 rotate_left;have r:(e != 0)=true:=zu B;rw[if_pos B]at a;refine Z2 rfl (λb=>?_) (λb=>?_);refine Z ?_
 rw[a]<;>rfl
 rw[r]at b;cases b;have r:(e != 0)=false:=zu B;rw[if_neg (zu B)]at a;refine Z2 rfl (λb=>?_) (λb=>?_);rw[r]at b;cases b;refine Z1 ?_;refine Znf @Xk K ?_ (s:=(w _ _));refine Xr @encO3.eq_1 ?_
 by_cases D:L=0
 rotate_left;have q:(L != 0)=true:=zu D;rw[if_pos (.inl D)]at a;refine Xm q ?_;refine Z2 rfl (λd=>?_) (λd=>?_);refine Z ?_
 rw[a]<;>rfl
 cases d;have q:(L != 0)=false:=zu D
 by_cases A:k=2
 rotate_left;have H:(k != 2)=true:=zu A;rw[if_pos (.inr A)]at a;refine Xm (zi q H) ?_;refine Z2 rfl (λd=>?_) (λd=>?_);refine Z ?_
 rw[a]<;>rfl
 cases d;have H:(k != 2)=false:=zu A;rw[if_neg (by rintro(h|h);exact h D;exact h A)]at a;refine Zf (zi q H) ?_
 rw[a]<;>rfl
structure AM where
 kind:Int
 name:List UInt8
 x:Sl XN
def AM.v(s:AM):ASt:=⟨s.kind,s.name,s.x.l⟩
def Ss(c:Col)(s:AM):V:=.agg [.int .u8 s.kind,.str s.name,Za c 6 Xp s.x]
theorem Ny(c:Col)(s:AM):Ss c s=.agg [.int .u8 s.kind,.str s.name,Za c 6 Xp s.x]:=rfl
theorem Dw(f:Col->Col)(c:Col)(s:AM):(Ss c s).recol f=Ss (f c) s:=by simp only[Ny,Xl,List.map_cons,List.map_nil,Yj,Vf,Xk]
@[go_sem] theorem Hm(g:Col->Col)(c c1:Col)(s:Sl AM):(Za c 3 (Ss c1) s).recol g=Za (g c) 3 (Ss (g c1)) s:=Y8 g c 3 (Dw g c1) s
def Mn(s:ASt):Bool:=(s.kind==1||s.kind==2)&&P6 s.name==2&&((s.kind==2&&s.x.isEmpty)||S7 s.x==0)
def Qh(l:List ASt):Int:=if l.length>512 then 2 else if l.all Mn=true then 0 else 2
theorem Zcl(G:Nat->V)(i:GExp G)(c:Col)(a:AM)(u:a.name.length<100000)(r:a.x.l.length<1000000)(q:∀ n∈a.x.l,n.name.length<100000):
  Spec Tryz.prog G 261 [Ss c a] Zj (λv _=>v=.bool (Mn a.v)):=by
 have k:=i.ok;refine Zo 0 37 [.tmp 2] Tryz.func261 λX=>?_;have b:Mn a.v=((a.kind==1||a.kind==2)&&P6 a.name==2&&((a.kind==2&&a.x.l.isEmpty)||S7 a.x.l==0)):=rfl;generalize Mn a.v=m at b⊢
 have p:a.x.l.isEmpty=((a.x.l.length:Int)==0):=by
  rw[Bool.eq_iff_iff,List.isEmpty_iff_length_eq_zero,beq_iff_eq];omega
 have o:(P6 a.name==2)=((P6 a.name:Int)==2):=by
  rw[Bool.eq_iff_iff,beq_iff_eq,beq_iff_eq];omega
 rw[p,o]at b;simp only[Ny];refine Z1 ?_;intro t;refine Wq (fun(_:Unit)=>st [(1,.ptr 1 t 0),(3,.bool (a.kind==2&&((a.x.l.length:Int)==0)))] [(1,.cells .new t 0 [.int .u8 a.kind,.str a.name,Za c 6 Xp a.x])]) (λ_=>True) (λw h=>?_) ?_
 .refine AW.region zk ?_
  cases d:(a.kind==2)with
  |false=>
   rw[d]at h;refine Xr d ?_;exact h _ () trivial (Weak.st zp zp)
  |true=>
   rw[d]at h;refine Xr d ?_;exact h _ () trivial (Weak.st zp zp)
 intro _ _;refine Wq (fun(_:Unit)=>st [(2,.bool m)] []) (λ_=>True) (λK2 e=>?_) ?_;rotate_left;intro _ _;exact Zr;refine AW.region zk ?_
 cases g:(a.kind==1)with
 |true=>
  have d:(a.kind==2)=false:=by
   rw[beq_iff_eq]at g;rw[beq_eq_false_iff_ne,g];decide
  rw[d];refine Xr g ?_;refine Zn k ?_ (s:=(Ry G i a.name zo))
  cases f:((P6 a.name:Int)==2)with
  |false=>
   refine Xr f ?_;refine e _ () trivial (Weak.st (by rw[b,g,d,f];simp -implicitDefEqProofs only[go_sem,seval];try rfl) zp)
  |true=>
   refine Xr f ?_;refine Zcf @Xk k ?_ (s:=(Mi G i _ a.x r q));refine e _ () trivial (Weak.st (by rw[b,g,d,f];simp -implicitDefEqProofs only[go_sem,seval];try rfl) zp)
 |false=>
 cases d:(a.kind==2)with
 |false=>
  refine Xr (zi g d) ?_;refine e _ () trivial (Weak.st (by rw[b,g,d];simp -implicitDefEqProofs only[go_sem,seval];try rfl) zp)
 |true=>
 refine Xr (zi g d) ?_;refine Zn k ?_ (s:=(Ry G i a.name zo))
 cases f:((P6 a.name:Int)==2)with
 |false=>
  refine Xr f ?_;refine e _ () trivial (Weak.st (by rw[b,g,d,f];simp -implicitDefEqProofs only[go_sem,seval];try rfl) zp)
 |true=>
 cases j:((a.x.l.length:Int)==0)with
 |true=>
  refine Xr (zi f j) ?_;refine e _ () trivial (Weak.st (by rw[b,g,d,f,j];simp -implicitDefEqProofs only[go_sem,seval];try rfl) zp)
 |false=>
  refine Xr (zi f j) ?_;refine Zcf @Xk k ?_ (s:=(Mi G i _ a.x r q));refine e _ () trivial (Weak.st (by rw[b,g,d,f,j];simp -implicitDefEqProofs only[go_sem,seval];try rfl) zp)
structure AmB(a:AM):Prop where
 n:a.name.length<100000
 l:a.x.l.length<1000000
 x:∀ n∈a.x.l,n.name.length<100000
theorem Zsd(G:Nat->V)(d:GExp G)(c:Col)(a:AM)(b:AmB a):
  Spec Tryz.prog G 260 [Ss c a] Zj (λv _=>v=.bool (!Mn a.v)):=by
 have e:=d.ok;refine Zo 0 6 [.tmp 2] Tryz.func260 λX=>?_;simp only[Ny];refine Z1 ?_;intro f;refine Z1 ?_;refine CallA.pure e zk ?_;simp only[List.map_cons,List.map_nil,<- Ny,Dw];refine(Zcl G d _ a b.n b.l b.x).mono ?_;rintro _ _ rfl;refine Zs ?_;exact Zr
theorem Zdl(G:Nat->V)(j:GExp G)(c c1:Col)(s:Sl AM)(o:s.l.length<1000000)(m:∀ a∈s.l,AmB a):
  Spec Tryz.prog G 266 [Za c 3 (Ss c1) s,.func (.func 260) [] []] Zj (λv _=>v=.int .i64 (Rz (λa:AM => !Mn a.v) s.l)):=by
 have n:=j.ok;refine Zo 0 19 [.tmp 4] Tryz.func266 λX=>?_;refine Z1 ?_;refine Z1 ?_;refine AW.block ?_
 refine Yc s.l.length (λk (_:Unit)=>st [(0,Za c 3 (Ss c1) s),(1,.func (.func 260) [] []),(7,.int .i64 s.l.length),(8,.int .i64 k)] []) (λk _=>∀ y∈s.l.take k,(!Mn y.v)=false) 0 () (Nat.zero_le _) zS
  (Weak.st zp zp) ?_
 intro k _ q f r g;refine Z1 ?_;refine Z6 ?_;refine Z2 rfl (λi=>?_) (λi=>?_);have b:k<s.l.length:=zu i;have e:=List.getElem?_eq_getElem b;have d:=m _ (List.getElem_mem b);generalize s.l[k]=x at e d;refine Z1 ?_;refine Xm (zi e @Ny) ?_;refine CallA.pure n zk ?_;simp only[List.map_cons,List.map_nil,<- Ny,Dw];refine(Zsd G j _ x d).mono ?_;rintro _ _ rfl;refine Zs ?_;refine Z2 rfl (λh=>?_) (λh=>?_);refine Z ?_;rw[V2 (p:=λa:AM => !Mn a.v) e f h];refine Z1 ?_;refine g _ ⟨b,(),take_all e f h,Weak.st zw zp⟩
 have b:k=s.l.length:=by simp at i;omega
 refine Z ?_;rw[b,List.take_length]at f;rw[V3 (p:=λa:AM => !Mn a.v) f]
theorem Z8x{α : Type}(p : α -> Bool)(l:List α):decide (Rz p l>=0)=l.any p:=by
 unfold Rz
 cases h:l.findIdx? p with
 |none=>
  rw[List.findIdx?_eq_none_iff]at h
  have:l.any p=false:=by rw[List.any_eq_false];intro x a;simp[h x a]
  rw[this]<;>rfl
 |some i=>
  have:l.any p=true:=by
   rw[List.any_eq_true];obtain⟨c,b,_⟩:=List.findIdx?_eq_some_iff_getElem.1 h;exact⟨_,List.getElem_mem c,b⟩
  rw[this,decide_eq_true_iff];exact Int.natCast_nonneg _
theorem Bz(G:Nat->V)(b:GExp G)(c c1:Col)(s:Sl AM)(d:s.l.length<1000000)(e:∀ a∈s.l,AmB a):
  Spec Tryz.prog G 259 [Za c 3 (Ss c1) s,.func (.func 260) [] []] Zj (λv _=>v=.bool (s.l.any (λa:AM => !Mn a.v))):=by
 have f:=b.ok;refine Zo 0 9 [.tmp 4] Tryz.func259 λX=>?_;refine Z1 ?_;refine Z1 ?_;refine Zcf @Hm f ?_ (s:=(Zdl G b _ _ s d e));refine Z ?_;rw[Z8x]
theorem Z3k(G:Nat->V)(h:GExp G)(c c1:Col)(s:Sl AM)(j:s.l.length<1000000)(k:∀ a∈s.l,AmB a):
  Spec Tryz.prog G 247 [.agg [Za c 3 (Ss c1) s]] Zj (λv _=>v=.int .i64 (Qh (s.l.map AM.v))):=by
 have m:=h.ok;refine Zo 0 12 [.tmp 2] Tryz.func247 λX=>?_
 have b:Qh (s.l.map AM.v)=if s.l.length>512 then 2 else if(s.l.map AM.v).all Mn=true then 0 else 2:=by unfold Qh;rw[List.length_map]
 generalize Qh (s.l.map AM.v)=i at b⊢
 have e:s.l.any (λa:AM => !Mn a.v) = !(s.l.map AM.v).all Mn:=by
  rw[List.all_map,List.not_all_eq_any_not]<;>rfl
 refine Z1 ?_;intro n;refine Z6 ?_
 by_cases g:s.l.length>512
 rw[if_pos g]at b;have f:decide ((s.l.length:Int)>512)=true:=zT;refine Zf f ?_;rw[b];rw[if_neg g]at b;have f:decide ((s.l.length:Int)>512)=false:=zF;refine Xm f ?_;refine Znf @Hm m ?_ (s:=(Bz G h _ _ s j k));refine Xr f ?_;rw[e]
 cases d:(s.l.map AM.v).all Mn with
 |true=>
  rw[if_pos d]at b;refine Z ?_;rw[b]
 |false=>
  rw[if_neg (by rw[d];decide)]at b;refine Z ?_;rw[b]
def R9:List UInt8:=[97,114,103]
def Bd(names:List (List UInt8))(x:List XN):Bool:=x.isEmpty||(H5 names x).1==1
def stT(vars events:List (List UInt8))(s:ASt):Bool:=(if s.kind=2 then events.contains s.name else vars.contains s.name)&&Bd (vars++[R9]) s.x
def Ks(vars events:List (List UInt8)):List ASt->Int->Int×Int
 |[],_=>(0,0)
 |s::r,i=>if stT vars events s=true then Ks vars events r (i+1)else(i,90)
def E6(b:List ASt)(vars events:List (List UInt8)):Int×Int:=if Qh b≠0 then(0,2)else Ks vars events b 0
theorem Zzh{c a:List (List UInt8)}{b:List ASt}{k:Nat}{s:ASt}(h:b[k]?=some s):Ks c a (b.drop k) k=if stT c a s=true then Ks c a (b.drop (k+1)) (k+1:Nat)else((k:Int),90):=by
 obtain⟨e,d⟩:=List.getElem?_eq_some_iff.1 h
 rw[List.drop_eq_getElem_cons e,d,Ks]<;>rfl
theorem M9(c:Col)(s:ASt):(R3 c s).cells.length=3:=rfl
def Gi(c:Col)(l:List ASt):V:=Za c 3 (R3 c) (Zd l)
theorem Zi6{l:List Tk}{n i:Nat}{t:Tk}(h:l[i]?=some t):Hp l n (i:Int)=t.pos:=by
 have a:i<l.length:=by
  refine Classical.byContradiction λb=>?_;rw[List.getElem?_eq_none zo]at h;cases h
 unfold Hp
 rw[if_pos zo,Int.toNat_natCast,List.getD_eq_getElem?_getD,h]<;>rfl
structure CU where
 i:Nat
 e:Int
def Bj(sl:Sl Tk)(g:Nat)(st:V)(r:CU):AObj:=.cells .any g 0 [Za .any 3 Wu sl,.int .i64 r.i,.int .i64 r.e,st]
theorem R7(a:Sl Tk)(g:Nat)(st:V)(r:CU):Bj a g st r=.cells .any g 0 [Za .any 3 Wu a,.int .i64 r.i,.int .i64 r.e,st]:=rfl
def CuS(G:Nat->V)(f:FuncId)(args:List V)(sl:Sl Tk)(g:Nat)(r:CU)(v:V)(r':CU):Prop:=
 ∀ st:V,(∀ F:Col->Col,st.recol F=st)->Spec Tryz.prog G f (.ptr 21 g 0::args) (Z5 Zj [(21,Bj sl g st r)]) (λa b=>a=v/\b 21=Bj sl g st r')
theorem CuS.call{G:Nat->V}(o:Y6 G){f:FuncId}{args args':List V}{b:Sl Tk}{g:Nat}{r r':CU}{v st:V}(h:CuS G f args' b g r v r'){H:Heap}{K:V->Heap->Prop}
  (c:∀ F:Col->Col,st.recol F=st) (d:Z7 Tryz.prog f=true) (a:args.map (V.recol Col.ent)=args') {e:V} (l:v.recol Col.bk=e)
  (s:H 21=Bj b g st r) (m:K e (Z5 H [(21,Bj b g st r')])):
  CallA Tryz.prog G f (.ptr 21 g 0::args) H K:=by
 have j:∀ (F:Col->Col) r,F .any=.any->(Bj b g st r).recol F=Bj b g st r:=by
  intro F r q;simp only[R7,recol_cells,List.map_cons,List.map_nil,Vl,Yj,q,c]
 refine CallA.hand o [(21,Bj b g st r)] d ?_ ?_;intro p i;rw[List.mem_singleton]at i;subst i;rw[s,j _ _ rfl]
 have n:(V.ptr 21 g 0::args).map (V.recol Col.ent)=.ptr 21 g 0::args':=by rw[List.map_cons,Ln,a]
 rw[n];refine(h st c).mono ?_;rintro _ t ⟨rfl,k⟩;simp only[List.map_cons,List.map_nil,k,j _ _ Zod,l];exact m
theorem Le(G:Nat->V)(e:Y6 G)(a:Sl Tk)(g:Nat)(r:CU)(w:List UInt8):CuS G 184 [.str w] a g r (.bool (decide (r.i<a.l.length)&&Wi a.l r.i==w)) r:=by
 intro st f;refine Zo 1000 30 [.tmp 4] Tryz.func184 λX=>?_;simp only[Z5,R7];refine Z1 ?_
 by_cases b:r.i<a.l.length
 have d:decide ((r.i:Int)<a.l.length)=true:=zT;have c:=List.getElem?_eq_getElem b;generalize a.l[r.i]=t at c;rw[Zfa c,decide_eq_true b,Bool.true_and];refine I7 (zi d (zi c @Vr)) e ?_;refine Z ?_;exact⟨rfl,zp⟩;have d:decide ((r.i:Int)<a.l.length)=false:=zF;rw[decide_eq_false b,Bool.false_and];refine I7 d e ?_;refine Z ?_;exact⟨rfl,zp⟩
theorem Z4t(G:Nat->V)(d:Y6 G)(a:Sl Tk)(g:Nat)(r:CU)(hi:r.i<=a.l.length):CuS G 246 [] a g r (Za .any 3 Wu (a.sub r.i a.l.length)) r:=by
 intro st c;refine Zo 1000 12 [.tmp 2] Tryz.func246 λX=>?_;simp only[Z5,R7];refine Z1 ?_;have b:a.l.length<=a.l.length:=Nat.le_refl _
 refine Z6<|Zy ⟨λ_=>.top,λ_=>.pure⟩ zk d zk zk ?_
 refine Xr (zi hi b) ?_;refine Z ?_;exact⟨rfl,zp⟩
theorem Bn(G:Nat->V)(f:Y6 G)(a:Sl Tk)(n:a.l.length<1000000)(g:Nat)(r:CU)(hi:r.i<=a.l.length):CuS G 224 [] a g r (.tuple [.str (if N9 a.l r.i=true then Wi a.l r.i else[]),.bool (N9 a.l r.i)])
  (if N9 a.l r.i=true then⟨r.i+1,r.e⟩else⟨r.i,110⟩):=by
 intro st m;refine Zo 1000 50 [.tmp 2,.tmp 3] Tryz.func224 λX=>?_;simp only[Z5,R7];refine Z1 ?_;refine Z6 ?_
 by_cases o:r.i=a.l.length
 have h:((r.i:Int)==a.l.length)=true:=by rw[beq_iff_eq];omega
 refine I7 h f ?_;refine Z ?_;rw[K2 zo];exact⟨rfl,zp⟩
 have h:((r.i:Int)==a.l.length)=false:=by rw[beq_eq_false_iff_ne];omega
 have c:r.i<a.l.length:=zo;have b:=List.getElem?_eq_getElem c;generalize a.l[r.i]=t at b
 cases d:(t.kind==2)with
 |false=>
  refine Z6<|Zy ⟨λ_=>.top,λ_=>.pure⟩ zk f zk zk ?_
  simp -implicitDefEqProofs only[go_sem,seval,h,b,Vr,bne,d];refine Z ?_;rw[Cn b,d];exact⟨rfl,zp⟩
 |true=>
  refine Z6<|Zy ⟨λ_=>.top,λ_=>.pure⟩ zk f zk zk ?_
  simp -implicitDefEqProofs only[go_sem,seval,h,b,Vr,bne,d];refine Z0 ?_
  have k:IntKind.i64.wrap ((r.i:Int)+1)=((r.i+1:Nat):Int):=by rw[Wy zo zo];omega
  have j:IntKind.i64.wrap (((r.i+1:Nat):Int)-1)=(r.i:Int):=by rw[Wy zo zo];omega
  refine Xm k ?_;refine I7 (zi j (zi b @Vr)) f ?_;refine Z ?_;rw[Cn b,d,Zfa b];exact⟨rfl,zp⟩
theorem Rl(G:Nat->V)(D:Y6 G)(d:Sl Tk)(F:d.l.length<1000000)(g:Nat)(r:CU)(hi:r.i<=d.l.length)(c:Col)(a:List (List UInt8))(E:a.length<1000)(y:∀ w∈a,w≠[])(b:Bool):
  CuS G 225 [Za c 1 V.str (.mk b a)] d g r (.bool (Vy d.l a r.i).1) ⟨(Vy d.l a r.i).2,if(Vy d.l a r.i).1=true then r.e else 110⟩:=by
 intro st B;refine Zo 1000 28 [.tmp 4] Tryz.func225 λX=>?_;generalize K:Vy d.l a r.i=v;simp only[Z5,R7];have s:(Sl.mk b a).l=a:=rfl;refine Z1 ?_;refine Xm s ?_;refine AW.block ?_
 refine Yc a.length (λm (_:Unit)=>Go.Hs.st [(0,.ptr 21 g 0),(7,Za c 1 V.str (.mk b a)),(8,.int .i64 a.length),(9,.int .i64 m)] [(21,Bj d g st ⟨r.i+m,r.e⟩)])
  (λm _=>v=Vy d.l (a.drop m) (r.i+m)/\r.i+m<=d.l.length) 0 () (Nat.zero_le _) ⟨K.symm,hi⟩ (Weak.st zp zp) ?_
 rintro m _ L ⟨o,H⟩ M C;refine Z1 ?_;refine Z6 ?_;refine Z2 rfl (λp=>?_) (λp=>?_);rotate_left
 have I:m=a.length:=by have:=zN p;omega
 rw[List.drop_eq_nil_of_le zo]at o;refine Z ?_;rw[o];exact⟨rfl,zp⟩;have j:m<a.length:=zL p;have t:a[m]?=some a[m]:=List.getElem?_eq_getElem j;have u:a.drop m=a[m]::a.drop (m+1):=List.drop_eq_getElem_cons j;have k:=y _ (List.getElem_mem j);generalize a[m]=q at t u k;rw[u,Vy]at o;refine Xm (zi s t) ?_;refine Z1 ?_;refine CuS.call D (Le G D d g ⟨r.i+m,r.e⟩ q) B zk zm rfl zr ?_;refine Zu ?_
 have n:(decide (r.i+m<d.l.length)&&Wi d.l (r.i+m)==q)=(Wi d.l (r.i+m)==q):=by
  by_cases h:r.i+m<d.l.length
  rw[decide_eq_true h,Bool.true_and];rw[decide_eq_false h,Bool.false_and,Hd zo]
  symm
  rw[beq_eq_false_iff_ne];exact λh=>k h.symm
 rw[n]
 by_cases f:Wi d.l (r.i+m)=q
 rotate_left;rw[if_neg f]at o;have x:(Wi d.l (r.i+m)==q)=false:=zu f;rw[x];refine Zf @R7 ?_;rw[o];exact⟨rfl,zp⟩;have J:r.i+m<d.l.length:=Jk (by rw[f];exact k);rw[if_pos f]at o;have x:(Wi d.l (r.i+m)==q)=true:=zu f;rw[x];refine Z0 ?_
 have A:IntKind.i64.wrap (((r.i+m:Nat):Int)+1)=((r.i+(m+1):Nat):Int):=by rw[Wy zo zo];omega
 have z:IntKind.i64.wrap ((m:Int)+1)=((m+1:Nat):Int):=by rw[Wy zo zo];omega
 refine Xm (zi @R7 A) ?_;refine Xm z ?_;exact C _ ⟨j,(),⟨o,zo⟩,Weak.st zp zp⟩
theorem Bo(G:Nat->V)(o:GExp G)(a:Sl Tk)(m:TkOk a.l)(g:Nat)(r:CU)(hi:r.i<=a.l.length):
  CuS G 226 [] a g r (.tuple [.agg [encXs .new (X5 (a.l.drop r.i)).1],.bool ((X5 (a.l.drop r.i)).2.2==0)]) ⟨r.i+(X5 (a.l.drop r.i)).2.1.toNat,(X5 (a.l.drop r.i)).2.2⟩:=by
 have k:=o.ok;intro st j;refine Zo 1000 29 [.cell 2 94,.tmp 3] Tryz.func226 λX=>?_;have u:=m.len
 have b:(a.sub r.i a.l.length).l=a.l.drop r.i:=by rw[B1];exact List.take_of_length_le (by rw[List.length_drop];omega)
 have d:=λc=>E1 G o c (a.sub r.i a.l.length) (by rw[b];exact⟨by rw[List.length_drop];omega,λt q=>m.text t (List.mem_of_mem_drop q)⟩);have f:=Ov (l:=a.l.drop r.i);rw[b]at d;rw[List.length_drop]at f;generalize X5 (a.l.drop r.i)=p at d f;obtain⟨xs,n,e⟩:=p;simp only at f
 have h:IntKind.i64.wrap ((r.i:Int)+n)=((r.i+n.toNat:Nat):Int):=by rw[Wy zo zo];omega
 simp only[Z5,R7];refine Z1 ?_;intro w;refine Z1 ?_;refine CuS.call k (Z4t G k a g r hi) j zk rfl rfl zr ?_;simp -implicitDefEqProofs only[go_sem,seval,Z5,Vl];refine Znf @Vl k ?_ (s:=(d _));refine Xr (zi @encFr.eq_1 (zi @encXs.eq_1 @Xk)) ?_;intro v;refine Zf (zi @R7 h) ?_;exact⟨rfl,zp⟩
end Go.Hs
