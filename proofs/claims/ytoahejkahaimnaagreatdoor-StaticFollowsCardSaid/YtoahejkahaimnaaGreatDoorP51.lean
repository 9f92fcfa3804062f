/- A part. No condition. -/
import Derived.Test.YtoahejkahaimnaaGreatDoorP50
import Derived.Test.YtoahejkahaimnaaGreatDoorP49
import Derived.Test.YtoahejkahaimnaaGreatDoorRows
import Derived.ProofKit
import Derived.OpenShut
import Derived.LaidLaws
import Derived.Stop.LaidErr
import Derived.Lib.LaidTab
import Derived.Handed
import Derived.ChangeMaps5
set_option linter.all false
section
namespace Go.Hs
open Go.Proofs
set_option maxHeartbeats 1000000
set_option maxRecDepth 10000
def eq3(a b c a' b' c':Int):Bool:=decide (a=a'/\b=b'/\c=c')
theorem Zep(a b c h g f:Int):Zfp [.int .u8 a,.int .u8 b,.int .u8 c] [.int .u8 h,.int .u8 g,.int .u8 f]=some (eq3 a b c h g f):=by
 unfold eq3;simp only[Zfp,eqC,if_true]
 by_cases d:a=h
 by_cases e:b=g
 by_cases i:c=f
 simp[d,e,i];have:(c==f)=false:=zu i;simp[d,e,i,this];have:(b==g)=false:=zu e;simp[d,this,e];have:(a==h)=false:=zu d;simp[this,d]
def knC(v:V):List V:=ruleC++[v]
theorem Ja(v:V):(knC v).length=93:=by rw[knC,List.length_append]<;>rfl
theorem Zdw(v:V):(knC v)[92]?=some v:=by
 rw[knC,List.getElem?_append_right zd]<;>rfl
theorem J7:ruleC.length=92:=rfl
theorem Z01(v:V):(knC v).take 92=ruleC:=by rw[knC,List.take_append_of_le_length (Nat.le_refl 92)]<;>rfl
theorem Zmf(f:Col->Col):ruleC.map (V.recol f)=ruleC:=rfl
theorem Zcw(f:Col->Col)(v:V):(knC v).map (V.recol f)=knC (v.recol f):=by
 rw[knC,List.map_append,Zmf]<;>rfl
theorem Zrm(G:Nat->V)(U:Y6 G)(c1 S:Col)(names:Sl (List UInt8))(hnl:names.l.length<1000000)(n:XN)(ks:Sl Int)(hn:Zf6 ks.l.length n)(hkl:ks.l.length<1000000)(hks:∀ y∈ks.l,y=1\/y=2):
  Spec Tryz.prog G 263 [.agg (knC (Za c1 1 V.str names)),Y4 n,Za S 1 (V.int .u8) ks] Zi (λv _=>v=.int .u8 (M7 names.l n ks.l)):=by
 refine Zo 0 71 [.tmp 6] Tryz.func263 λX=>?_;have t:M7 names.l n ks.l=kd n.op (names.l.contains n.name) (Ox ks.l n.a) (Ox ks.l n.b) (Ox ks.l n.c):=rfl;generalize M7 names.l n ks.l=B at t⊢;simp only[Uc];refine Yo λK k=>AW.region zk ?_;refine Xw @Ja ?_;intro g3 g4 g5;refine k _ ?_
 try clear k K
 refine Wr (fun(_:Unit)=>st [(3,.ptr 3 g3 0),(4,.ptr 4 g4 0),(5,.ptr 5 g5 0)] [(3,.cells .new g3 0 (knC (Za c1 1 V.str names))),(4,.cells .new g4 0 [.int .u8 n.op,.int .i64 n.num,.str n.name,.int .i64 n.a,.int .i64 n.b,.int .i64 n.c]),(5,.cells .new g5 0 [Za S 1 (V.int .u8) ks])])
  (λ_=>n.op=2->names.l.contains n.name=true) (λK1 Q=>?_) ?_
 by_cases T:n.op=2
 .have e1:(n.op==2)=true:=zu T
  refine Yo λK k=>AW.region zk ?_;refine Xw (zi e1 @Zdw) ?_;refine Zc U ?_ (s:=(Ui G U _ n.name names hnl));refine k _ ?_
  try clear k K
  cases hc:names.l.contains n.name with
  |true=>
   refine Z0 ?_;exact Q _ () (λ_=>hc) (Weak.st zp zp)
  |false=>
   refine Zm rfl (λR=>?_) (λR=>?_)
   .refine Yo λK k=>AW.region zk ?_
    refine Zs ?_;refine k _ ?_
    try clear k K
    refine Z ?_
    rw[t,hc,T]<;>rfl
   cases R
 .have e1:(n.op==2)=false:=zu T
  refine Yo λK k=>AW.region zk ?_;refine Xw e1 ?_;refine k _ ?_
  try clear k K
  refine Z0 ?_;exact Q _ () (λh=>absurd h T) (Weak.st zp zp)
 rintro _ hnm;refine Yo λK k=>AW.region zk ?_;refine Zs ?_;refine k _ ?_
 try clear k K
 refine AW.weak (Zw (λo=>o==3||o==4||o==5) (l:=[(3,.view .new (.agg (knC (Za c1 1 V.str names)))),(4,.view .new (.agg [.int .u8 n.op,.int .i64 n.num,.str n.name,.int .i64 n.a,.int .i64 n.b,.int .i64 n.c])),(7,.func (.func 283) [] [.view .new (Za S 1 (V.int .u8) ks)])]) (m:=[]) ?_ trivial) ?_;refine Zs ?_;refine⟨?_,?_,?_⟩;exact Fz.ptr (v:=.agg (knC (Za c1 1 V.str names))) (c:=.new) (fz:=0) rfl zp;exact Fz.ptr (v:=.agg [.int .u8 n.op,.int .i64 n.num,.str n.name,.int .i64 n.a,.int .i64 n.b,.int .i64 n.c]) (c:=.new) (fz:=0) rfl zp;exact Fz.func ⟨Fz.ptr (v:=Za S 1 (V.int .u8) ks) (c:=.new) (fz:=0) rfl zp,trivial⟩
 have W:∀ i:Int,(i<0\/0<=i/\i<ks.l.length)->Gc Tryz.prog G 283 [.int .i64 i,.view .new (Za S 1 (V.int .u8) ks)] (.int .u8 (Ox ks.l i)):=λi h=>⟨zk,by
  refine Zs ?_;refine(Zpz G U _ ks hkl i h).mono ?_;rintro _ _ rfl
  rfl⟩
 obtain⟨hw,O,M,J,P,N,L⟩:=hn
 have hra:n.a<0\/0<=n.a/\n.a<ks.l.length:=by
  by_cases h:0<Ya n.op
  exact .inr (O h);exact .inl (by rw[P h];decide)
 have hrb:n.b<0\/0<=n.b/\n.b<ks.l.length:=by
  by_cases h:1<Ya n.op
  exact .inr (M h);exact .inl (by rw[N h];decide)
 have hrc:n.c<0\/0<=n.c/\n.c<ks.l.length:=by
  by_cases h:2<Ya n.op
  exact .inr (J h);exact .inl (by rw[L h];decide)
 have hor:=Le hw;obtain⟨r,f⟩:∃ r:Nat,n.op=r:=⟨n.op.toNat,zo⟩;have H:r<23:=zo;have F:n.op<23:=zo;have I:0<=n.op:=zo;have E:n.op.toNat=r:=zo;have Y:=Z1u r H;have hrl:r*4+4<=92:=zo;refine Yo λK k=>Zp ⟨λi=>if i=8 then .int .u8 (Ox ks.l n.a)else if i=12 then .int .u8 (Ox ks.l n.b)else if i=16 then .int .u8 (Ox ks.l n.c)else .top,λi=>if i=1 then .lend else if i=4 then .lend else if i=7 then .lend else if i=11 then .lend else if i=15 then .lend else .pure⟩ zk U zk zk ?_;simp -implicitDefEqProofs only[go_sem,seval,Z01,Ja,show(92:Nat)<=93 from zd,J7,Y,F,I,E,hrl];refine⟨W _ hra,W _ hrb,W _ hrc,?_⟩;intro g8 g9;refine k _ ?_
 try clear k K
 have C:∀ i:Int,(0<=i/\i<ks.l.length)->Ox ks.l i=1\/Ox ks.l i=2:=by
  intro i hi;unfold Ox;rw[if_neg zo];obtain⟨m,rfl⟩:∃ m:Nat,i=m:=⟨i.toNat,zo⟩;rw[Int.toNat_natCast,List.getD_eq_getElem?_getD,List.getElem?_eq_getElem zo];exact hks _ (List.getElem_mem _)
 have e:0<Ya n.op->Ox ks.l n.a=1\/Ox ks.l n.a=2:=λh=>C _ (O h);have g:1<Ya n.op->Ox ks.l n.b=1\/Ox ks.l n.b=2:=λh=>C _ (M h);have A:2<Ya n.op->Ox ks.l n.c=1\/Ox ks.l n.c=2:=λh=>C _ (J h)
 have q:¬ 0<Ya n.op->Ox ks.l n.a=0:=λh=>by rw[P h]<;>rfl
 have p:¬ 1<Ya n.op->Ox ks.l n.b=0:=λh=>by rw[N h]<;>rfl
 have d:¬ 2<Ya n.op->Ox ks.l n.c=0:=λh=>by rw[L h]<;>rfl
 generalize Ox ks.l n.a=a at t e q⊢;generalize Ox ks.l n.b=b at t g p⊢;generalize Ox ks.l n.c=c at t A d⊢;refine Yo λK k=>AW.region zk ?_;refine Zs ?_;refine k _ ?_
 try clear k K
 by_cases x:r=16\/r=17
 .have eA:Fx r=3:=by rcases x with rfl|rfl<;>rfl
  have eB:Zof r=3:=by rcases x with rfl|rfl<;>rfl
  have eD:Fw r=0:=by rcases x with rfl|rfl<;>rfl
  have eI:Z2s r=2:=by rcases x with rfl|rfl<;>rfl
  rw[eA,eB,eD,eI]
  have j:Ya n.op=2:=by rw[f];rcases x with rfl|rfl<;>rfl
  rw[j]at e g d
  replace e:=e zd
  replace g:=g zd
  replace d:=d zd
  refine Z4 ?_;refine Yo λK k=>AW.region zk ?_;refine Zs ?_;refine k _ ?_
  try clear k K
  refine Z1 ?_;refine Z4 ?_;refine Yo λK k=>AW.region zk ?_;refine Zs ?_;refine k _ ?_
  try clear k K
  refine Z0 ?_;refine Z4 ?_;refine Yo λK=>?_;intro k;refine S9 3 zk rfl rfl ?_;simp -implicitDefEqProofs only[go_sem,seval,List.take_succ_cons,List.take_zero];refine⟨_,N6 (.inr rfl) zk zk zk zp zp zk (Zep _ _ _ _ _ _),?_⟩;simp -implicitDefEqProofs only[go_sem,seval,List.drop_succ_cons,List.drop_zero];refine k _ ?_
  try clear k K
  have u:B=if eq3 a b c b b 0=true then 2 else 0:=by
   rw[t,f,d]
   rcases x with rfl|rfl<;>rcases e with rfl|rfl<;>rcases g with rfl|rfl<;>rfl
  generalize eq3 a b c b b 0=z at u⊢
  cases z with
  |true=>
   refine Z0 ?_;refine Yo λK k=>AW.region zk ?_;refine Zs ?_;refine k _ ?_
   try clear k K
   refine Z ?_
   rw[u]<;>rfl
  |false=>
   refine Zm rfl (λw=>?_) (λw=>?_)
   .refine Yo λK k=>AW.region zk ?_
    refine Zs ?_;refine k _ ?_
    try clear k K
    refine Z ?_
    rw[u]<;>rfl
   cases w
 by_cases D:r=22
 .subst D
  have eA:Fx 22=2:=rfl;have eB:Zof 22=3:=rfl;have eD:Fw 22=3:=rfl;have eI:Z2s 22=3:=rfl;rw[eA,eB,eD,eI]
  have j:Ya n.op=3:=by rw[f]<;>rfl
  rw[j]at e g A
  replace e:=e zd
  replace g:=g zd
  replace A:=A zd
  refine Z4 ?_;refine Yo λK k=>AW.region zk ?_;refine Zs ?_;refine k _ ?_
  try clear k K
  refine Z0 ?_;refine Z4 ?_;refine Yo λK k=>AW.region zk ?_;refine Zs ?_;refine k _ ?_
  try clear k K
  refine Z1 ?_;refine Z4 ?_;refine Yo λK=>?_;intro k;refine S9 3 zk rfl rfl ?_;simp -implicitDefEqProofs only[go_sem,seval,List.take_succ_cons,List.take_zero];refine⟨_,N6 (.inr rfl) zk zk zk zp zp zk (Zep _ _ _ _ _ _),?_⟩;simp -implicitDefEqProofs only[go_sem,seval,List.drop_succ_cons,List.drop_zero];refine k _ ?_
  try clear k K
  have u:B=if eq3 a b c 2 b b=true then b else 0:=by
   rw[t,f]
   rcases e with rfl|rfl<;>rcases g with rfl|rfl<;>rcases A with rfl|rfl<;>rfl
  generalize eq3 a b c 2 b b=z at u⊢
  cases z with
  |true=>
   refine Z0 ?_;refine Yo λK k=>AW.region zk ?_;refine Zs ?_;refine k _ ?_
   try clear k K
   refine Z ?_
   rw[u]<;>rfl
  |false=>
   refine Zm rfl (λw=>?_) (λw=>?_)
   .refine Yo λK k=>AW.region zk ?_
    refine Zs ?_;refine k _ ?_
    try clear k K
    refine Z ?_
    rw[u]<;>rfl
   cases w
 have nA:(Fx r==3)=false:=by unfold Fx;rw[if_neg x];split;rfl;split;rfl;rfl
 have nD:(Fw r==3)=false:=by unfold Fw;rw[if_neg D]<;>rfl
 refine Z4 ?_;refine Yo λK k=>AW.region zk ?_;refine Xw nA ?_;refine k _ ?_
 try clear k K
 refine Z0 ?_;refine Z4 ?_;refine Yo λK k=>AW.region zk ?_;refine Xw nD ?_;refine k _ ?_
 try clear k K
 refine Z0 ?_;refine Z4 ?_;refine Yo λK=>?_;intro k;refine S9 3 zk rfl rfl ?_;simp -implicitDefEqProofs only[go_sem,seval,List.take_succ_cons,List.take_zero];refine⟨_,N6 (.inr rfl) zk zk zk zp zp zk (Zep _ _ _ _ _ _),?_⟩;simp -implicitDefEqProofs only[go_sem,seval,List.drop_succ_cons,List.drop_zero];refine k _ ?_
 try clear k K
 have u:B=if eq3 a b c (Fx r) (Zof r) (Fw r)=true then Z2s r else 0:=by
  have hcs:r=1\/r=2\/r=3\/r=4\/r=5\/r=6\/r=7\/r=8\/r=9\/r=10\/r=11\/r=12\/r=13\/r=14\/r=15\/r=18\/r=19\/r=20\/r=21:=zo
  rcases hcs with rfl|rfl|rfl|rfl|rfl|rfl|rfl|rfl|rfl|rfl|rfl|rfl|rfl|rfl|rfl|rfl|rfl|rfl|rfl
  .have j:Ya n.op=0:=by rw[f]<;>rfl
   rw[j]at e g q p d;rw[t,f,q zd,p zd,d zd]
   try rfl
  .have j:Ya n.op=0:=by rw[f]<;>rfl
   rw[j]at e g q p d;rw[t,f,q zd,p zd,d zd];rw[hnm (by rw[f]<;>rfl)]
   try rfl
  .have j:Ya n.op=0:=by rw[f]<;>rfl
   rw[j]at e g q p d;rw[t,f,q zd,p zd,d zd]
   try rfl
  .have j:Ya n.op=0:=by rw[f]<;>rfl
   rw[j]at e g q p d;rw[t,f,q zd,p zd,d zd]
   try rfl
  have j:Ya n.op=1:=by rw[f]<;>rfl
  rw[j]at e g q p d;rw[t,f,p zd,d zd]
  rcases e zd with rfl|rfl<;>rfl
  have j:Ya n.op=1:=by rw[f]<;>rfl
  rw[j]at e g q p d;rw[t,f,p zd,d zd]
  rcases e zd with rfl|rfl<;>rfl
  have j:Ya n.op=2:=by rw[f]<;>rfl
  rw[j]at e g q p d;rw[t,f,d zd]
  rcases e zd with rfl|rfl<;>rcases g zd with rfl|rfl<;>rfl
  have j:Ya n.op=2:=by rw[f]<;>rfl
  rw[j]at e g q p d;rw[t,f,d zd]
  rcases e zd with rfl|rfl<;>rcases g zd with rfl|rfl<;>rfl
  have j:Ya n.op=2:=by rw[f]<;>rfl
  rw[j]at e g q p d;rw[t,f,d zd]
  rcases e zd with rfl|rfl<;>rcases g zd with rfl|rfl<;>rfl
  have j:Ya n.op=2:=by rw[f]<;>rfl
  rw[j]at e g q p d;rw[t,f,d zd]
  rcases e zd with rfl|rfl<;>rcases g zd with rfl|rfl<;>rfl
  have j:Ya n.op=2:=by rw[f]<;>rfl
  rw[j]at e g q p d;rw[t,f,d zd]
  rcases e zd with rfl|rfl<;>rcases g zd with rfl|rfl<;>rfl
  have j:Ya n.op=2:=by rw[f]<;>rfl
  rw[j]at e g q p d;rw[t,f,d zd]
  rcases e zd with rfl|rfl<;>rcases g zd with rfl|rfl<;>rfl
  have j:Ya n.op=2:=by rw[f]<;>rfl
  rw[j]at e g q p d;rw[t,f,d zd]
  rcases e zd with rfl|rfl<;>rcases g zd with rfl|rfl<;>rfl
  have j:Ya n.op=2:=by rw[f]<;>rfl
  rw[j]at e g q p d;rw[t,f,d zd]
  rcases e zd with rfl|rfl<;>rcases g zd with rfl|rfl<;>rfl
  have j:Ya n.op=2:=by rw[f]<;>rfl
  rw[j]at e g q p d;rw[t,f,d zd]
  rcases e zd with rfl|rfl<;>rcases g zd with rfl|rfl<;>rfl
  have j:Ya n.op=2:=by rw[f]<;>rfl
  rw[j]at e g q p d;rw[t,f,d zd]
  rcases e zd with rfl|rfl<;>rcases g zd with rfl|rfl<;>rfl
  have j:Ya n.op=2:=by rw[f]<;>rfl
  rw[j]at e g q p d;rw[t,f,d zd]
  rcases e zd with rfl|rfl<;>rcases g zd with rfl|rfl<;>rfl
  have j:Ya n.op=2:=by rw[f]<;>rfl
  rw[j]at e g q p d;rw[t,f,d zd]
  rcases e zd with rfl|rfl<;>rcases g zd with rfl|rfl<;>rfl
  have j:Ya n.op=2:=by rw[f]<;>rfl
  rw[j]at e g q p d;rw[t,f,d zd]
  rcases e zd with rfl|rfl<;>rcases g zd with rfl|rfl<;>rfl
 generalize eq3 a b c (Fx r) (Zof r) (Fw r)=z at u⊢
 cases z with
 |true=>
  refine Z0 ?_;refine Yo λK k=>AW.region zk ?_;refine Zs ?_;refine k _ ?_
  try clear k K
  refine Z ?_
  rw[u]<;>rfl
 |false=>
  refine Zm rfl (λw=>?_) (λw=>?_)
  .refine Yo λK k=>AW.region zk ?_
   refine Zs ?_;refine k _ ?_
   try clear k K
   refine Z ?_
   rw[u]<;>rfl
  cases w
def Ul(names:List (List UInt8))(l:List XN):List Int×Int×Int:=if T6 l≠0 then([],0,T6 l)else goN names l 0 []
def encKs(c:Col)(l:List Int):V:=Za c 1 (V.int .u8) (Zb l)
def encKr(c:Col)(p:List Int×Int×Int):V:=.tuple [encKs c p.1,.int .i64 p.2.1,.int .i64 p.2.2]
theorem Zew{op:Int}{nm:Bool}{a b c:Int}(d:b=0\/b=1\/b=2)(h:kd op nm a b c≠0):kd op nm a b c=1\/kd op nm a b c=2:=by
 have:=Z11 (op:=op) (nm:=nm) (a:=a) (c:=c) (b:=b) zo;omega
theorem Z8u{ks:List Int}(h:∀ y∈ks,y=1\/y=2)(i:Int):Ox ks i=0\/Ox ks i=1\/Ox ks i=2:=by
 unfold Ox
 split
 exact .inl rfl
 .rw[List.getD_eq_getElem?_getD]
  cases a:ks[i.toNat]? with
  |none=>exact .inl rfl
  |some y=>exact .inr (h y (List.mem_of_getElem? a))
theorem Z61{names:List (List UInt8)}{l:List XN}{k:Nat}{n:XN}(h:l[k]?=some n)(ks:List Int):goN names (l.drop k) k ks=if M7 names n ks=0 then([],(k:Int),90)else goN names (l.drop (k+1)) (k+1:Nat) (ks++[M7 names n ks]):=by
 obtain⟨b,a⟩:=List.getElem?_eq_some_iff.1 h
 rw[List.drop_eq_getElem_cons b,a]<;>rfl
theorem Im.knC{v:V}(h:v.Im):(V.agg (knC v)).Im:=by
 refine .agg _ λx a=>?_
 rcases List.mem_append.1 a with b|b
 have:∀ l:List V,(l.all λv=>match v with|.int _ _=>true|_=>false)=true->∀ x∈l,x.Im:=by
  intro l c x a;have:=List.all_eq_true.1 c x a
  cases x<;>first|exact .int _ _|cases this
 exact this ruleC rfl x b;rw[List.mem_singleton.1 b];exact h
theorem Im.xn(n:XN):(Y4 n).Im:=by
 refine .agg _ λx a=>?_;simp only[List.mem_cons,List.not_mem_nil,or_false]at a
 rcases a with rfl|rfl|rfl|rfl|rfl|rfl<;>first|exact .int _ _|exact .str _
theorem Zh6(c:Col)(s:Sl (List UInt8)):(Za c 1 V.str s).Im:=V8 (λx y a=>by simp[V.cells]at a;subst a;exact .str _) s
theorem Z75(x:V)(d:x.cells=[x])(e:x.solid=true):Tf Tryz.prog 306 [(0,.agg ruleC),(1,x)]=some (.agg (knC x)):=by
 rw[Zwh (tbl:=[(0,92),(92,1)]) (z:=List.replicate 92 (.int .u8 0)++[.nils]) zk zk]
 have g:Hs.setAt (List.replicate 92 (.int .u8 0)++[.nils]) 0 ruleC=ruleC++[.nils]:=by
  rw[Fr _ _ _ zd]<;>rfl
 have f:Hs.setAt (ruleC++[.nils]) 92 [x]=knC x:=by
  show(ruleC++[V.nils]).set 92 x=ruleC++[x]
  rw[List.set_append_right _ _ zd]<;>rfl
 have c:(List.replicate 92 (V.int .u8 0)++[V.nils]).length=93:=rfl;have b:(ruleC++[V.nils]).length=93:=rfl;have h:(V.agg ruleC).cells=ruleC:=rfl;have a:(V.agg ruleC).solid=true:=rfl;have t0:A9 [(0,92),(92,1)] 0=some (0,92):=rfl;have t1:A9 [(0,92),(92,1)] 1=some (92,1):=rfl;simp only[Vh,t0,t1,h,a,d,e,c,J7,g,b,f,List.length_singleton,true_and,Nat.zero_add];rfl
theorem Z4w{α : Type}(c:Col)(m:Nat)(f : α -> V)(s:Sl α):(Za c m f s).solid=true:=by cases s<;>rfl
theorem Z5w{α : Type}(c:Col)(m:Nat)(f : α -> V)(s:Sl α):(Za c m f s).cells=[Za c m f s]:=by cases s<;>rfl
theorem Z9z(l:List V)(v:V)(h:l.length=93):Hs.setAt l 0 (knC v)=knC v:=Bp (by rw[h,Ja])
theorem Dx(x:Int):(V.int .u8 x).cells.length=1:=rfl
theorem Zaf(G:Nat->V)(P:GExp G)(c c1:Col)(s:Sl XN)(names:Sl (List UInt8))(T:s.l.length<1000000)(L:∀ n∈s.l,n.name.length<100000)(M:names.l.length<1000000):
  Spec Tryz.prog G 245 [.agg [Za c 6 Y4 s],Za c1 1 V.str names] Zi (λv _=>v=encKr .new (Ul names.l s.l)):=by
 have E:=P.ok;refine Zo 0 40 [.tmp 4,.tmp 5,.tmp 6] Tryz.func245 λX=>?_
 have D:Ul names.l s.l=if T6 s.l≠0 then([],0,T6 s.l)else goN names.l s.l 0 []:=rfl
 generalize Ul names.l s.l=A at D⊢;refine Z1 ?_;intro S;refine Z1 ?_;refine Zcf @Wc E ?_ (s:=(O0 G P _ s T L));refine Z1 ?_
 by_cases z:T6 s.l=0
 rotate_left;have I:(T6 s.l != 0)=true:=zu z;rw[if_pos z]at D;refine Zm rfl (λi=>?_) (λi=>?_);refine Z ?_
 rw[D]<;>rfl
 rw[I]at i;cases i;have I:(T6 s.l != 0)=false:=zu z;rw[if_neg (zu z)]at D;refine Zm rfl (λi=>?_) (λi=>?_);rw[I]at i;cases i;refine Z0 ?_
 have C:Vt s.l≠0:=by
  intro h;rw[T6,if_pos h]at z;cases z
 refine Z1 ?_;refine Zn E ?_ (s:=(Z8e G E));have J:(V.agg ruleC).recol Col.bk=.agg ruleC:=rfl;have U:(V.agg ruleC).cells=ruleC:=rfl;simp -implicitDefEqProofs only[go_sem,seval,J,J7,Z75 (Za c1 1 V.str names) (Z5w ..) (Z4w ..)];intro R;refine Xw (zi @Ja @Aj) ?_;rw[Z9z _ _ ?hl]
 case hl=>rfl
 refine Z1 ?_;refine AW.block ?_
 refine Yf s.l.length (λk (x:Nat×List Int)=>st [(4,grown 37 x.1 1 x.2),(7,.ptr 7 R 0),(20,Za c 6 Y4 s),(21,.int .i64 s.l.length),(22,.int .i64 k)] [(7,.cells .new R 0 (knC (Za c1 1 V.str names))),(37,Yb x.1 (V.int .u8) x.2)])
  (λk x=>A=goN names.l (s.l.drop k) k x.2/\x.2.length=k/\∀ y∈x.2,y=1\/y=2) 0 (0,[]) (Nat.zero_le _) ⟨D,rfl,λy w=>by cases w⟩
  (Weak.st zp zp) ?_
 rintro k ⟨Q,d⟩ Y ⟨p,q,j⟩ L3 O
 replace p:A=goN names.l (s.l.drop k) k d:=p
 replace q:d.length=k:=q
 replace j:∀ y∈d,y=1\/y=2:=j
 refine Z1 ?_;refine Z4 ?_;refine Zm rfl (λu=>?_) (λu=>?_);have r:k<s.l.length:=zu u;have F:=List.getElem?_eq_getElem r;generalize s.l[k]=n at F;rw[Z61 F]at p;have K:Zf6 d.length n:=q ▸ Zw0 C F;refine Xc (zi F @Uc) ?_;intro g9;refine Xc @Ja ?_;rw[<- Uc];refine CallA.bor E [.agg (knC (Za c1.ent 1 V.str names)),Y4 n,Za .old 1 (V.int .u8) (Zb d)] zk ⟨?_,?_,?_,trivial⟩ ?_;refine Yv (Im.knC (Zh6 _ _)) ?_
 show(V.agg (knC _)).recol _=_
 rw[Xy,Zcw];simp -implicitDefEqProofs only[go_sem,seval];exact Yv (Im.xn n) (O8 _ _);exact N5 (g:=Q) (f:=V.int .u8) (f':=V.int .u8) zp Dx (λx y w=>by simp[V.cells]at w;subst w;exact .int _ _) (λ_=>rfl);refine(Zrm G E _ _ names M n (Zb d) (by rw[Zl];exact K) (by rw[Zl];omega) (by rw[Zl];exact j)).mono ?_;rintro _ _ rfl;refine⟨.int _ _,?_⟩;rw[Zl];have t:=λh=>Zew (op:=n.op) (nm:=names.l.contains n.name) (a:=Ox d n.a) (c:=Ox d n.c) (Z8u j n.b) h;have N:M7 names.l n d=kd n.op (names.l.contains n.name) (Ox d n.a) (Ox d n.b) (Ox d n.c):=rfl;rw[<- N]at t;generalize M7 names.l n d=v at p t⊢;refine Zs ?_;refine Z1 ?_
 by_cases B:v=0
 have H:(v==0)=true:=zu B;rw[if_pos B]at p;refine Zm rfl (λe=>?_) (λe=>?_);refine Z ?_
 rw[p]<;>rfl
 rw[H]at e;cases e;have H:(v==0)=false:=zu B;rw[if_neg B]at p;refine Zm rfl (λe=>?_) (λe=>?_);rw[H]at e;cases e;refine Z1 ?_;intro W;refine X2 (f:=V.int .u8) (l:=d) (l2:=[v]) (g:=Q) Dx rfl rfl rfl zp (Yg zo zO) λS=>?_;refine Zs ?_;refine Z1 ?_;refine O _ ⟨r,(S,d++[v]),⟨p,by rw[List.length_append,q]<;>rfl,?_⟩,Weak.st zw zp⟩;intro y w
 rcases List.mem_append.1 w with h|h
 exact j y h;rw[List.mem_singleton.1 h];exact t B
 have r:k=s.l.length:=by simp at u;omega
 refine Z0 ?_;rw[r,List.drop_length]at p;refine AW.weak (Zw (λo=>o==37) (l:=[(4,encKs .new d)]) (m:=[]) ?_ trivial) ?_;refine Zs ?_;exact W7 rfl rfl Dx;refine Z ?_
 rw[p]<;>rfl
theorem Zst{names:List (List UInt8)}:∀ (l:List XN) (i:Int) (acc:List Int),(goN names l i acc).2.2=0->(goN names l i acc).1.length=acc.length+l.length
 |[],i,acc,_=>rfl
 |n::r,i,acc,h=>by
  rw[goN]at h⊢
  split
  rename_i a;rw[if_pos a]at h;cases h;rename_i a;rw[if_neg a]at h;have:=Zst r (i+1) (acc++[M7 names n acc]) h;rw[this];simp;omega
theorem Zxo{names:List (List UInt8)}{l:List XN}(h:(Ul names l).2.2=0):(Ul names l).1.length=l.length/\0<l.length:=by
 unfold Ul at h⊢
 by_cases a:T6 l=0
 .rw[if_neg (zu a)]at h⊢
  refine⟨by have:=Zst l 0 [] h;simpa using this,?_⟩
  cases l with
  |nil=>exact absurd a zd
  |cons=>simp
 rw[if_pos a]at h;exact absurd h a
def Iq(names:List (List UInt8))(l:List XN):Int×Int×Int:=if(Ul names l).2.2≠0 then(0,(Ul names l).2.1,(Ul names l).2.2)else((Ul names l).1.getD ((Ul names l).1.length-1) 0,0,0)
def encO3(p:Int×Int×Int):V:=.tuple [.int .u8 p.1,.int .i64 p.2.1,.int .i64 p.2.2]
theorem Zd0(g:Col->Col)(c:Col)(s:Sl Int):(Za c 1 (V.int .u8) s).recol g=Za (g c) 1 (V.int .u8) s:=Wd g c 1 (λ_=>rfl) s
theorem Z9e(G:Nat->V)(t:GExp G)(c c1:Col)(s:Sl XN)(names:Sl (List UInt8))(x:s.l.length<1000000)(j:∀ n∈s.l,n.name.length<100000)(k:names.l.length<1000000):
  Spec Tryz.prog G 214 [.agg [Za c 6 Y4 s],Za c1 1 V.str names] Zi (λv _=>v=encO3 (Iq names.l s.l)):=by
 have A:=t.ok;refine Zo 0 25 [.tmp 4,.tmp 5,.tmp 6] Tryz.func214 λX=>?_
 have b:Iq names.l s.l=if(Ul names.l s.l).2.2≠0 then(0,(Ul names.l s.l).2.1,(Ul names.l s.l).2.2)else((Ul names.l s.l).1.getD ((Ul names.l s.l).1.length-1) 0,0,0):=rfl
 have g:=λc c1=>Zaf G t c c1 s names x j k;have q:=Zxo (names:=names.l) (l:=s.l);generalize Iq names.l s.l=u at b⊢;generalize Ul names.l s.l=p at b g q;obtain⟨d,i,e⟩:=p;simp only at b q;refine Z1 ?_;intro C;refine Z1 ?_;refine Znf @Wc A ?_ (s:=(g _ _));refine Xw (zi @encKr.eq_1 (zi @encKs.eq_1 @Zd0)) ?_;refine Z1 ?_
 by_cases f:e=0
 rotate_left;have h:(e != 0)=true:=zu f;rw[if_pos f]at b;refine Zm rfl (λa=>?_) (λa=>?_);refine Z ?_
 rw[b]<;>rfl
 rw[h]at a;cases a;have h:(e != 0)=false:=zu f;rw[if_neg (zu f)]at b;obtain⟨z,y⟩:=q f;refine Zm rfl (λa=>?_) (λa=>?_);rw[h]at a;cases a;refine Z0 ?_;obtain⟨m,B⟩:∃ m:Nat,d.length=m+1:=⟨d.length-1,zo⟩
 have w:IntKind.i64.wrap ((d.length:Int)-1)=(m:Int):=by rw[W0 zo zo];omega
 obtain⟨v,r⟩:∃ v,d[m]?=some v:=⟨_,List.getElem?_eq_getElem zo⟩
 have o:d.getD (d.length-1) 0=v:=by rw[show d.length-1=m by omega,List.getD_eq_getElem?_getD,r]<;>rfl
 rw[o]at b;refine Zf (zi w r) ?_
 rw[b]<;>rfl
def tr1:XN:=⟨3,0,[],-1,-1,-1⟩
def Lr(s:List UInt8)(names:List (List UInt8)):List XN×Int×Int:=
 if(Yu s).2.2=0/\(Yu s).1.length=0 then([tr1],0,0)
 else if(Tp s).2.2≠0 then([],(Tp s).2.1,(Tp s).2.2)
 else if(Iq names (Tp s).1).2.2≠0\/(Iq names (Tp s).1).1≠2 then([],0,90)else((Tp s).1,0,0)
theorem Z1w{s:List UInt8}(f:s.length<100000):(Tp s).1.length<100000/\∀ n∈(Tp s).1,n.name.length<100000:=by
 have e:=G1 f;have c:=Nx e;have b:=((Te (Yu s).1 ((Yu s).1.length+1) 1 ⟨0,[],0⟩).ok ⟨Nat.zero_le _,Nat.le_refl _⟩)
 have d:(Xj (Yu s).1).1.length<100000/\∀ n∈(Xj (Yu s).1).1,n.name.length<100000:=by
  unfold Xj
  split
  exact⟨Nat.zero_lt_succ _,λn a=>by cases a⟩
  split
  exact⟨Nat.zero_lt_succ _,λn a=>by cases a⟩;have:=b.1;have:=b.2;have:=e.len;exact⟨by show(Xv _ _ _ _).2.nodes.length<_;omega,c⟩
 unfold Tp
 split
 exact⟨Nat.zero_lt_succ _,λn a=>by cases a⟩
 split
 exact⟨Nat.zero_lt_succ _,λn a=>by cases a⟩
 split
 exact d;exact⟨Nat.zero_lt_succ _,λn a=>by cases a⟩
theorem Zbf(G:Nat->V)(C:GExp G)(c1:Col)(s:List UInt8)(names:Sl (List UInt8))(I:s.length<100000)(J:names.l.length<1000000):
  Spec Tryz.prog G 176 [.str s,Za c1 1 V.str names] Zi (λv _=>v=encFr .new (Lr s names.l)):=by
 have K:=C.ok;refine Zo 0 55 [.cell 4 199,.tmp 5,.tmp 6] Tryz.func176 λX=>?_
 have a:Lr s names.l=if(Yu s).2.2=0/\(Yu s).1.length=0 then([tr1],0,0)
  else if(Tp s).2.2≠0 then([],(Tp s).2.1,(Tp s).2.2)
  else if(Iq names.l (Tp s).1).2.2≠0\/(Iq names.l (Tp s).1).1≠2 then([],0,90)else((Tp s).1,0,0):=rfl
 generalize Lr s names.l=O at a⊢;have N:=T0 G C s I;have M:=Zoe G C s I;have Q:=Z1w I;have w:=λc c1=>Z9e G C c c1 (Zb (Tp s).1) names (by rw[Zl];omega) (by rw[Zl];exact Q.2) J;simp only[Zl]at w;generalize Yu s=t at a N;generalize Tp s=p at a M w;obtain⟨l,S,F⟩:=t;obtain⟨P,i,e⟩:=p;simp only at a w;generalize Iq names.l P=o at a w;obtain⟨k,j,L⟩:=o;simp only at a;refine Z1 ?_;intro E;refine Wr (fun(_:Unit)=>st [(0,.str s),(1,Za c1 1 V.str names),(4,.ptr 4 E 0)] [(4,.cells .new E 0 [.nils])]) (λ_=>¬ (F=0/\l.length=0)) (λT x=>?_) ?_
 .refine Z1 ?_
  refine Zn K ?_ (s:=N);refine Xw (zi @encTok.eq_1 (zi @encTks.eq_1 @W9)) ?_
  by_cases n:F=0
  rotate_left;have r:(F==0)=false:=zu n;refine Xc r ?_;refine Z0 ?_;exact x _ () (λh=>n h.1) (Weak.st zp zp);have r:(F==0)=true:=zu n
  by_cases u:l.length=0
  rw[if_pos ⟨n,u⟩]at a
  have q:(((l.length:Nat):Int)==0)=true:=by simp[u]
  refine Xc (zi r q) ?_;refine Zm rfl (λy=>?_) (λy=>?_);refine Z1 ?_;intro z;refine AW.weak (Zw (λo=>o==27) (l:=[(4,.ptr 4 E 0),(5,.int .i64 0),(6,.int .i64 0)]) (m:=[(4,.cells .new E 0 [encXs .new [tr1]])]) ?_ ?_) ?_;refine Zs ?_
  first|exact⟨Fz.same _,Fz.same _,Fz.same _⟩|exact⟨Fz.same _,Fz.same _⟩
  simp only[Zy,Z2,and_true];exact FzO.of (c:=.new) (fz:=0) (cs:=[.msl 27 z 0 1 6]) rfl zp ⟨Xm (f:=Y4) (l:=[tr1]) (m:=6) (g:=z) (fz:=0) (c:=.new) rfl zp No,trivial⟩;refine Z ?_
  rw[a]<;>rfl
  cases y
  have q:(((l.length:Nat):Int)==0)=false:=by rw[beq_eq_false_iff_ne];omega
  refine Xc (zi r q) ?_;refine Z0 ?_;exact x _ () (λh=>u h.2) (Weak.st zp zp)
 rintro _ R;rw[if_neg R]at a;refine Z1 ?_;refine Zn K ?_ (s:=M);refine Xw (zi @encFr.eq_1 (zi @encXs.eq_1 @Wc)) ?_;refine Z1 ?_
 by_cases B:e=0
 rotate_left;have r:(e != 0)=true:=zu B;rw[if_pos B]at a;refine Zm rfl (λb=>?_) (λb=>?_);refine Z ?_
 rw[a]<;>rfl
 rw[r]at b;cases b;have r:(e != 0)=false:=zu B;rw[if_neg (zu B)]at a;refine Zm rfl (λb=>?_) (λb=>?_);rw[r]at b;cases b;refine Z1 ?_;refine Znf @Wc K ?_ (s:=(w _ _));refine Xw @encO3.eq_1 ?_
 by_cases D:L=0
 rotate_left;have q:(L != 0)=true:=zu D;rw[if_pos (.inl D)]at a;refine Xc q ?_;refine Zm rfl (λd=>?_) (λd=>?_);refine Z ?_
 rw[a]<;>rfl
 cases d;have q:(L != 0)=false:=zu D
 by_cases A:k=2
 rotate_left;have H:(k != 2)=true:=zu A;rw[if_pos (.inr A)]at a;refine Xc (zi q H) ?_;refine Zm rfl (λd=>?_) (λd=>?_);refine Z ?_
 rw[a]<;>rfl
 cases d;have H:(k != 2)=false:=zu A;rw[if_neg (by rintro(h|h);exact h D;exact h A)]at a;refine Zf (zi q H) ?_
 rw[a]<;>rfl
structure AM where
 kind:Int
 name:List UInt8
 x:Sl XN
def AM.v(s:AM):ASt:=⟨s.kind,s.name,s.x.l⟩
def Tq(c:Col)(s:AM):V:=.agg [.int .u8 s.kind,.str s.name,Za c 6 Y4 s.x]
theorem Oi(c:Col)(s:AM):Tq c s=.agg [.int .u8 s.kind,.str s.name,Za c 6 Y4 s.x]:=rfl
theorem Ed(f:Col->Col)(c:Col)(s:AM):(Tq c s).recol f=Tq (f c) s:=by simp only[Oi,Xy,List.map_cons,List.map_nil,Xf,Vk,Wc]
@[go_sem] theorem J9(g:Col->Col)(c c1:Col)(s:Sl AM):(Za c 3 (Tq c1) s).recol g=Za (g c) 3 (Tq (g c1)) s:=Wd g c 3 (Ed g c1) s
def O4(s:ASt):Bool:=(s.kind==1||s.kind==2)&&Rh s.name==2&&((s.kind==2&&s.x.isEmpty)||T6 s.x==0)
def Rc(l:List ASt):Int:=if l.length>512 then 2 else if l.all O4=true then 0 else 2
theorem Zgi(G:Nat->V)(i:GExp G)(c:Col)(a:AM)(u:a.name.length<100000)(r:a.x.l.length<1000000)(q:∀ n∈a.x.l,n.name.length<100000):
  Spec Tryz.prog G 269 [Tq c a] Zi (λv _=>v=.bool (O4 a.v)):=by
 have k:=i.ok;refine Zo 0 37 [.tmp 2] Tryz.func269 λX=>?_;have b:O4 a.v=((a.kind==1||a.kind==2)&&Rh a.name==2&&((a.kind==2&&a.x.l.isEmpty)||T6 a.x.l==0)):=rfl;generalize O4 a.v=m at b⊢
 have p:a.x.l.isEmpty=((a.x.l.length:Int)==0):=by
  rw[Bool.eq_iff_iff,List.isEmpty_iff_length_eq_zero,beq_iff_eq];omega
 have o:(Rh a.name==2)=((Rh a.name:Int)==2):=by
  rw[Bool.eq_iff_iff,beq_iff_eq,beq_iff_eq];omega
 rw[p,o]at b;simp only[Oi];refine Z1 ?_;intro t;refine Wr (fun(_:Unit)=>st [(1,.ptr 1 t 0),(3,.bool (a.kind==2&&((a.x.l.length:Int)==0)))] [(1,.cells .new t 0 [.int .u8 a.kind,.str a.name,Za c 6 Y4 a.x])]) (λ_=>True) (λw h=>?_) ?_
 .refine AW.region zk ?_
  cases d:(a.kind==2)with
  |false=>
   rw[d]at h;refine Xw d ?_;exact h _ () trivial (Weak.st zp zp)
  |true=>
   rw[d]at h;refine Xw d ?_;exact h _ () trivial (Weak.st zp zp)
 intro _ _;refine Wr (fun(_:Unit)=>st [(2,.bool m)] []) (λ_=>True) (λK2 e=>?_) ?_;rotate_left;intro _ _;exact Zr;refine AW.region zk ?_
 cases g:(a.kind==1)with
 |true=>
  have d:(a.kind==2)=false:=by
   rw[beq_iff_eq]at g;rw[beq_eq_false_iff_ne,g];decide
  rw[d];refine Xw g ?_;refine Zn k ?_ (s:=(Sz G i a.name zo))
  cases f:((Rh a.name:Int)==2)with
  |false=>
   refine Xw f ?_;refine e _ () trivial (Weak.st (by rw[b,g,d,f];simp -implicitDefEqProofs only[go_sem,seval];try rfl) zp)
  |true=>
   refine Xw f ?_;refine Zcf @Wc k ?_ (s:=(O0 G i _ a.x r q));refine e _ () trivial (Weak.st (by rw[b,g,d,f];simp -implicitDefEqProofs only[go_sem,seval];try rfl) zp)
 |false=>
 cases d:(a.kind==2)with
 |false=>
  refine Xw (zi g d) ?_;refine e _ () trivial (Weak.st (by rw[b,g,d];simp -implicitDefEqProofs only[go_sem,seval];try rfl) zp)
 |true=>
 refine Xw (zi g d) ?_;refine Zn k ?_ (s:=(Sz G i a.name zo))
 cases f:((Rh a.name:Int)==2)with
 |false=>
  refine Xw f ?_;refine e _ () trivial (Weak.st (by rw[b,g,d,f];simp -implicitDefEqProofs only[go_sem,seval];try rfl) zp)
 |true=>
 cases j:((a.x.l.length:Int)==0)with
 |true=>
  refine Xw (zi f j) ?_;refine e _ () trivial (Weak.st (by rw[b,g,d,f,j];simp -implicitDefEqProofs only[go_sem,seval];try rfl) zp)
 |false=>
  refine Xw (zi f j) ?_;refine Zcf @Wc k ?_ (s:=(O0 G i _ a.x r q));refine e _ () trivial (Weak.st (by rw[b,g,d,f,j];simp -implicitDefEqProofs only[go_sem,seval];try rfl) zp)
structure AmB(a:AM):Prop where
 n:a.name.length<100000
 l:a.x.l.length<1000000
 x:∀ n∈a.x.l,n.name.length<100000
theorem Znb(G:Nat->V)(d:GExp G)(c:Col)(a:AM)(b:AmB a):
  Spec Tryz.prog G 268 [Tq c a] Zi (λv _=>v=.bool (!O4 a.v)):=by
 have e:=d.ok;refine Zo 0 6 [.tmp 2] Tryz.func268 λX=>?_;simp only[Oi];refine Z1 ?_;intro f;refine Z1 ?_;refine CallA.pure e zk ?_;simp only[List.map_cons,List.map_nil,<- Oi,Ed];refine(Zgi G d _ a b.n b.l b.x).mono ?_;rintro _ _ rfl;refine Zs ?_;exact Zr
theorem Zhi(G:Nat->V)(j:GExp G)(c c1:Col)(s:Sl AM)(o:s.l.length<1000000)(m:∀ a∈s.l,AmB a):
  Spec Tryz.prog G 287 [Za c 3 (Tq c1) s,.func (.func 268) [] []] Zi (λv _=>v=.int .i64 (Qf (λa:AM => !O4 a.v) s.l)):=by
 have n:=j.ok;refine Zo 0 19 [.tmp 4] Tryz.func287 λX=>?_;refine Z1 ?_;refine Z1 ?_;refine AW.block ?_
 refine Yf s.l.length (λk (_:Unit)=>st [(0,Za c 3 (Tq c1) s),(1,.func (.func 268) [] []),(7,.int .i64 s.l.length),(8,.int .i64 k)] []) (λk _=>∀ y∈s.l.take k,(!O4 y.v)=false) 0 () (Nat.zero_le _) zS
  (Weak.st zp zp) ?_
 intro k _ q f r g;refine Z1 ?_;refine Z4 ?_;refine Zm rfl (λi=>?_) (λi=>?_);have b:k<s.l.length:=zu i;have e:=List.getElem?_eq_getElem b;have d:=m _ (List.getElem_mem b);generalize s.l[k]=x at e d;refine Z1 ?_;refine Xc (zi e @Oi) ?_;refine CallA.pure n zk ?_;simp only[List.map_cons,List.map_nil,<- Oi,Ed];refine(Znb G j _ x d).mono ?_;rintro _ _ rfl;refine Zs ?_;refine Zm rfl (λh=>?_) (λh=>?_);refine Z ?_;rw[V3 (p:=λa:AM => !O4 a.v) e f h];refine Z1 ?_;refine g _ ⟨b,(),U1 e f h,Weak.st zw zp⟩
 have b:k=s.l.length:=by simp at i;omega
 refine Z ?_;rw[b,List.take_length]at f;rw[V4 (p:=λa:AM => !O4 a.v) f]
theorem Zj5{α : Type}(p : α -> Bool)(l:List α):decide (Qf p l>=0)=l.any p:=by
 unfold Qf
 cases h:l.findIdx? p with
 |none=>
  rw[List.findIdx?_eq_none_iff]at h
  have:l.any p=false:=by rw[List.any_eq_false];intro x a;simp[h x a]
  rw[this]<;>rfl
 |some i=>
  have:l.any p=true:=by
   rw[List.any_eq_true];obtain⟨c,b,_⟩:=List.findIdx?_eq_some_iff_getElem.1 h;exact⟨_,List.getElem_mem c,b⟩
  rw[this,decide_eq_true_iff];exact Int.natCast_nonneg _
theorem Cb(G:Nat->V)(b:GExp G)(c c1:Col)(s:Sl AM)(d:s.l.length<1000000)(e:∀ a∈s.l,AmB a):
  Spec Tryz.prog G 267 [Za c 3 (Tq c1) s,.func (.func 268) [] []] Zi (λv _=>v=.bool (s.l.any (λa:AM => !O4 a.v))):=by
 have f:=b.ok;refine Zo 0 9 [.tmp 4] Tryz.func267 λX=>?_;refine Z1 ?_;refine Z1 ?_;refine Zcf @J9 f ?_ (s:=(Zhi G b _ _ s d e));refine Z ?_;rw[Zj5]
theorem Z5h(G:Nat->V)(h:GExp G)(c c1:Col)(s:Sl AM)(j:s.l.length<1000000)(k:∀ a∈s.l,AmB a):
  Spec Tryz.prog G 249 [.agg [Za c 3 (Tq c1) s]] Zi (λv _=>v=.int .i64 (Rc (s.l.map AM.v))):=by
 have m:=h.ok;refine Zo 0 12 [.tmp 2] Tryz.func249 λX=>?_
 have b:Rc (s.l.map AM.v)=if s.l.length>512 then 2 else if(s.l.map AM.v).all O4=true then 0 else 2:=by unfold Rc;rw[List.length_map]
 generalize Rc (s.l.map AM.v)=i at b⊢
 have e:s.l.any (λa:AM => !O4 a.v) = !(s.l.map AM.v).all O4:=by
  rw[List.all_map,List.not_all_eq_any_not]<;>rfl
 refine Z1 ?_;intro n;refine Z4 ?_
 by_cases g:s.l.length>512
 rw[if_pos g]at b;have f:decide ((s.l.length:Int)>512)=true:=zT;refine Zf f ?_;rw[b];rw[if_neg g]at b;have f:decide ((s.l.length:Int)>512)=false:=zF;refine Xc f ?_;refine Znf @J9 m ?_ (s:=(Cb G h _ _ s j k));refine Xw f ?_;rw[e]
 cases d:(s.l.map AM.v).all O4 with
 |true=>
  rw[if_pos d]at b;refine Z ?_;rw[b]
 |false=>
  rw[if_neg (by rw[d];decide)]at b;refine Z ?_;rw[b]
def Jq:List UInt8:=[97,114,103]
def Dp(names:List (List UInt8))(x:List XN):Bool:=x.isEmpty||(Iq names x).1==1
def stT(vars events:List (List UInt8))(s:ASt):Bool:=(if s.kind=2 then events.contains s.name else vars.contains s.name)&&Dp (vars++[Jq]) s.x
def Lg(vars events:List (List UInt8)):List ASt->Int->Int×Int
 |[],_=>(0,0)
 |s::r,i=>if stT vars events s=true then Lg vars events r (i+1)else(i,90)
def Fi(b:List ASt)(vars events:List (List UInt8)):Int×Int:=if Rc b≠0 then(0,2)else Lg vars events b 0
theorem Z2e{c a:List (List UInt8)}{b:List ASt}{k:Nat}{s:ASt}(h:b[k]?=some s):Lg c a (b.drop k) k=if stT c a s=true then Lg c a (b.drop (k+1)) (k+1:Nat)else((k:Int),90):=by
 obtain⟨e,d⟩:=List.getElem?_eq_some_iff.1 h
 rw[List.drop_eq_getElem_cons e,d,Lg]<;>rfl
theorem Nt(c:Col)(s:ASt):(R7 c s).cells.length=3:=rfl
def Zm2(c:Col)(l:List ASt):V:=Za c 3 (R7 c) (Zb l)
theorem Zu0{l:List Tk}{n i:Nat}{t:Tk}(h:l[i]?=some t):Ie l n (i:Int)=t.pos:=by
 have a:i<l.length:=by
  refine Classical.byContradiction λb=>?_;rw[List.getElem?_eq_none zo]at h;cases h
 unfold Ie
 rw[if_pos zo,Int.toNat_natCast,List.getD_eq_getElem?_getD,h]<;>rfl
structure CU where
 i:Nat
 e:Int
def Dv(sl:Sl Tk)(g:Nat)(st:V)(r:CU):AObj:=.cells .any g 0 [Za .any 3 Wi sl,.int .i64 r.i,.int .i64 r.e,st]
theorem S5(a:Sl Tk)(g:Nat)(st:V)(r:CU):Dv a g st r=.cells .any g 0 [Za .any 3 Wi a,.int .i64 r.i,.int .i64 r.e,st]:=rfl
def CuS(G:Nat->V)(f:FuncId)(args:List V)(sl:Sl Tk)(g:Nat)(r:CU)(v:V)(r':CU):Prop:=
 ∀ st:V,(∀ F:Col->Col,st.recol F=st)->Spec Tryz.prog G f (.ptr 21 g 0::args) (Z6 Zi [(21,Dv sl g st r)]) (λa b=>a=v/\b 21=Dv sl g st r')
theorem CuS.call{G:Nat->V}(o:Y6 G){f:FuncId}{args args':List V}{b:Sl Tk}{g:Nat}{r r':CU}{v st:V}(h:CuS G f args' b g r v r'){H:Heap}{K:V->Heap->Prop}
  (c:∀ F:Col->Col,st.recol F=st) (d:Z5 Tryz.prog f=true) (a:args.map (V.recol Col.ent)=args') {e:V} (l:v.recol Col.bk=e)
  (s:H 21=Dv b g st r) (m:K e (Z6 H [(21,Dv b g st r')])):
  CallA Tryz.prog G f (.ptr 21 g 0::args) H K:=by
 have j:∀ (F:Col->Col) r,F .any=.any->(Dv b g st r).recol F=Dv b g st r:=by
  intro F r q;simp only[S5,recol_cells,List.map_cons,List.map_nil,W9,Xf,q,c]
 refine CallA.hand o [(21,Dv b g st r)] d ?_ ?_;intro p i;rw[List.mem_singleton]at i;subst i;rw[s,j _ _ rfl]
 have n:(V.ptr 21 g 0::args).map (V.recol Col.ent)=.ptr 21 g 0::args':=by rw[List.map_cons,Mc,a]
 rw[n];refine(h st c).mono ?_;rintro _ t ⟨rfl,k⟩;simp only[List.map_cons,List.map_nil,k,j _ _ Zjb,l];exact m
theorem Ny(G:Nat->V)(e:Y6 G)(a:Sl Tk)(g:Nat)(r:CU)(w:List UInt8):CuS G 265 [.str w] a g r (.bool (decide (r.i<a.l.length)&&X6 a.l r.i==w)) r:=by
 intro st f;refine Zo 1000 30 [.tmp 4] Tryz.func265 λX=>?_;simp only[Z6,S5];refine Z1 ?_
 by_cases b:r.i<a.l.length
 have d:decide ((r.i:Int)<a.l.length)=true:=zT;have c:=List.getElem?_eq_getElem b;generalize a.l[r.i]=t at c;rw[Bl c,decide_eq_true b,Bool.true_and];refine Ha (zi d (zi c @Vs)) e ?_;refine Z ?_;exact⟨rfl,zp⟩;have d:decide ((r.i:Int)<a.l.length)=false:=zF;rw[decide_eq_false b,Bool.false_and];refine Ha d e ?_;refine Z ?_;exact⟨rfl,zp⟩
theorem Zwp(G:Nat->V)(d:Y6 G)(a:Sl Tk)(g:Nat)(r:CU)(hi:r.i<=a.l.length):CuS G 306 [] a g r (Za .any 3 Wi (a.sub r.i a.l.length)) r:=by
 intro st c;refine Zo 1000 12 [.tmp 2] Tryz.func306 λX=>?_;simp only[Z6,S5];refine Z1 ?_;have b:a.l.length<=a.l.length:=Nat.le_refl _
 refine Z4<|Zp ⟨λ_=>.top,λ_=>.pure⟩ zk d zk zk ?_
 simp -implicitDefEqProofs only[go_sem,seval,hi,b,and_self];refine Z ?_;exact⟨rfl,zp⟩
theorem Dz(G:Nat->V)(f:Y6 G)(a:Sl Tk)(n:a.l.length<1000000)(g:Nat)(r:CU)(hi:r.i<=a.l.length):CuS G 284 [] a g r (.tuple [.str (if Ou a.l r.i=true then X6 a.l r.i else[]),.bool (Ou a.l r.i)])
  (if Ou a.l r.i=true then⟨r.i+1,r.e⟩else⟨r.i,110⟩):=by
 intro st m;refine Zo 1000 50 [.tmp 2,.tmp 3] Tryz.func284 λX=>?_;simp only[Z6,S5];refine Z1 ?_;refine Z4 ?_
 by_cases o:r.i=a.l.length
 have h:((r.i:Int)==a.l.length)=true:=by rw[beq_iff_eq];omega
 refine Ha h f ?_;refine Z ?_;rw[Lo zo];exact⟨rfl,zp⟩
 have h:((r.i:Int)==a.l.length)=false:=by rw[beq_eq_false_iff_ne];omega
 have c:r.i<a.l.length:=zo;have b:=List.getElem?_eq_getElem c;generalize a.l[r.i]=t at b
 cases d:(t.kind==2)with
 |false=>
  refine Z4<|Zp ⟨λ_=>.top,λ_=>.pure⟩ zk f zk zk ?_
  simp -implicitDefEqProofs only[go_sem,seval,h,b,Vs,bne,d];refine Z ?_;rw[Ez b,d];exact⟨rfl,zp⟩
 |true=>
  refine Z4<|Zp ⟨λ_=>.top,λ_=>.pure⟩ zk f zk zk ?_
  simp -implicitDefEqProofs only[go_sem,seval,h,b,Vs,bne,d];refine Z0 ?_
  have k:IntKind.i64.wrap ((r.i:Int)+1)=((r.i+1:Nat):Int):=by rw[W0 zo zo];omega
  have j:IntKind.i64.wrap (((r.i+1:Nat):Int)-1)=(r.i:Int):=by rw[W0 zo zo];omega
  refine Xc k ?_;refine Ha (zi j (zi b @Vs)) f ?_;refine Z ?_;rw[Ez b,d,Bl b];exact⟨rfl,zp⟩
theorem Sp(G:Nat->V)(D:Y6 G)(d:Sl Tk)(F:d.l.length<1000000)(g:Nat)(r:CU)(hi:r.i<=d.l.length)(c:Col)(a:List (List UInt8))(E:a.length<1000)(y:∀ w∈a,w≠[])(b:Bool):
  CuS G 285 [Za c 1 V.str (.mk b a)] d g r (.bool (Vi d.l a r.i).1) ⟨(Vi d.l a r.i).2,if(Vi d.l a r.i).1=true then r.e else 110⟩:=by
 intro st B;refine Zo 1000 28 [.tmp 4] Tryz.func285 λX=>?_;generalize K:Vi d.l a r.i=v;simp only[Z6,S5];have s:(Sl.mk b a).l=a:=rfl;refine Z1 ?_;refine Xc s ?_;refine AW.block ?_
 refine Yf a.length (λm (_:Unit)=>Go.Hs.st [(0,.ptr 21 g 0),(7,Za c 1 V.str (.mk b a)),(8,.int .i64 a.length),(9,.int .i64 m)] [(21,Dv d g st ⟨r.i+m,r.e⟩)])
  (λm _=>v=Vi d.l (a.drop m) (r.i+m)/\r.i+m<=d.l.length) 0 () (Nat.zero_le _) ⟨K.symm,hi⟩ (Weak.st zp zp) ?_
 rintro m _ L ⟨o,H⟩ M C;refine Z1 ?_;refine Z4 ?_;refine Zm rfl (λp=>?_) (λp=>?_);rotate_left
 have I:m=a.length:=by have:=zN p;omega
 rw[List.drop_eq_nil_of_le zo]at o;refine Z ?_;rw[o];exact⟨rfl,zp⟩;have j:m<a.length:=zL p;have t:a[m]?=some a[m]:=List.getElem?_eq_getElem j;have u:a.drop m=a[m]::a.drop (m+1):=List.drop_eq_getElem_cons j;have k:=y _ (List.getElem_mem j);generalize a[m]=q at t u k;rw[u,Vi]at o;refine Xc (zi s t) ?_;refine Z1 ?_;refine CuS.call D (Ny G D d g ⟨r.i+m,r.e⟩ q) B zk zm rfl zr ?_;refine Zu ?_
 have n:(decide (r.i+m<d.l.length)&&X6 d.l (r.i+m)==q)=(X6 d.l (r.i+m)==q):=by
  by_cases h:r.i+m<d.l.length
  rw[decide_eq_true h,Bool.true_and];rw[decide_eq_false h,Bool.false_and,J1 zo]
  symm
  rw[beq_eq_false_iff_ne];exact λh=>k h.symm
 rw[n]
 by_cases f:X6 d.l (r.i+m)=q
 rotate_left;rw[if_neg f]at o;have x:(X6 d.l (r.i+m)==q)=false:=zu f;rw[x];refine Zf @S5 ?_;rw[o];exact⟨rfl,zp⟩;have J:r.i+m<d.l.length:=Kh (by rw[f];exact k);rw[if_pos f]at o;have x:(X6 d.l (r.i+m)==q)=true:=zu f;rw[x];refine Z0 ?_
 have A:IntKind.i64.wrap (((r.i+m:Nat):Int)+1)=((r.i+(m+1):Nat):Int):=by rw[W0 zo zo];omega
 have z:IntKind.i64.wrap ((m:Int)+1)=((m+1:Nat):Int):=by rw[W0 zo zo];omega
 refine Xc (zi @S5 A) ?_;refine Xc z ?_;exact C _ ⟨j,(),⟨o,zo⟩,Weak.st zp zp⟩
theorem D0(G:Nat->V)(o:GExp G)(a:Sl Tk)(m:TkOk a.l)(g:Nat)(r:CU)(hi:r.i<=a.l.length):
  CuS G 286 [] a g r (.tuple [.agg [encXs .new (Xj (a.l.drop r.i)).1],.bool ((Xj (a.l.drop r.i)).2.2==0)]) ⟨r.i+(Xj (a.l.drop r.i)).2.1.toNat,(Xj (a.l.drop r.i)).2.2⟩:=by
 have k:=o.ok;intro st j;refine Zo 1000 29 [.cell 2 199,.tmp 3] Tryz.func286 λX=>?_;have u:=m.len
 have b:(a.sub r.i a.l.length).l=a.l.drop r.i:=by rw[N4];exact List.take_of_length_le (by rw[List.length_drop];omega)
 have d:=λc=>Fe G o c (a.sub r.i a.l.length) (by rw[b];exact⟨by rw[List.length_drop];omega,λt q=>m.text t (List.mem_of_mem_drop q)⟩);have f:=Pj (l:=a.l.drop r.i);rw[b]at d;rw[List.length_drop]at f;generalize Xj (a.l.drop r.i)=p at d f;obtain⟨xs,n,e⟩:=p;simp only at f
 have h:IntKind.i64.wrap ((r.i:Int)+n)=((r.i+n.toNat:Nat):Int):=by rw[W0 zo zo];omega
 simp only[Z6,S5];refine Z1 ?_;intro w;refine Z1 ?_;refine CuS.call k (Zwp G k a g r hi) j zk rfl rfl zr ?_;simp -implicitDefEqProofs only[go_sem,seval,Z6,W9];refine Znf @W9 k ?_ (s:=(d _));refine Xw (zi @encFr.eq_1 (zi @encXs.eq_1 @Wc)) ?_;intro v;refine Zf (zi @S5 h) ?_;exact⟨rfl,zp⟩
theorem Zob(G:Nat->V)(L:GExp G)(a:Sl Tk)(K:TkOk a.l)(g:Nat)(i:Nat)(hi:i<=a.l.length):
  CuS G 264 [] a g ⟨i,0⟩ (.tuple [R7 .new (Tj a.l 1 [58,61] [[59]] i).1,.bool ((Tj a.l 1 [58,61] [[59]] i).2.2==0)]) ⟨(Tj a.l 1 [58,61] [[59]] i).2.1.toNat,(Tj a.l 1 [58,61] [[59]] i).2.2⟩:=by
 have t:=L.ok;have O:=K.len;intro st r
 have d:Tj a.l 1 [58,61] [[59]] i=if Ou a.l i=false then(⟨1,[],[]⟩,(i:Int),110)
  else if X6 a.l (i+1)≠[58,61]then(⟨1,X6 a.l i,[]⟩,((i+1:Nat):Int),110)
  else if(1:Int)=2/\X6 a.l (i+2)=[41]then Km a.l ⟨1,X6 a.l i,[]⟩ [[59]] (i+2)
  else Hy a.l 1 (X6 a.l i) [[59]] (i+2):=rfl
 generalize Tj a.l 1 [58,61] [[59]] i=N at d⊢;refine Zo 1000 39 [.cell 2 282,.tmp 3] Tryz.func264 λX=>?_;simp only[Z6,S5];refine Z1 ?_;intro z;refine Z1 ?_;refine Z1 ?_;refine CuS.call t (Dz G t a zo g ⟨i,0⟩ hi) r zk rfl rfl zr ?_
 cases y:Ou a.l i with
 |false=>
  rw[if_pos y]at d;have A:(false=true)=False:=zS;simp -implicitDefEqProofs only[go_sem,seval,Z6,A,if_false];refine Z ?_;rw[d];exact⟨rfl,zp⟩
 |true=>
 rw[if_neg (by rw[y];decide)]at d
 have D:i<a.l.length:=by
  refine Classical.byContradiction λh=>?_;rw[Lo zo]at y;cases y
 simp -implicitDefEqProofs only[go_sem,seval,Z6,if_true];refine Z1 ?_;intro J;refine Wa (λo=>o==1018) [.ptr 21 g 0,Za .new 1 V.str (.mk false [[58,61]])] [(21,Dv a g st ⟨i+1,0⟩),(1002,.cells .new z 0 [.int .u8 1,.str (X6 a.l i),.nils])] ⟨Fz.same _,Xm (f:=V.str) (l:=[[58,61]]) (m:=1) (g:=J) (fz:=0) (c:=.new) rfl zp (λ_=>rfl),trivial⟩ (by simp only[Zy,Z2,and_true];exact⟨FzO.keep rfl zp,FzO.keep rfl zp⟩) ?_;refine CuS.call t (Sp G t a zo g ⟨i+1,0⟩ D .old [[58,61]] zd zd false) r zk zm rfl zr ?_
 have w:Vi a.l [[58,61]] (i+1)=if X6 a.l (i+1)=[58,61]then(true,i+2)else(false,i+1):=rfl
 by_cases k:X6 a.l (i+1)=[58,61]
 rotate_left;rw[if_pos k]at d;rw[w,if_neg k];have A:(false=true)=False:=zS;simp -implicitDefEqProofs only[go_sem,seval,Z6,A,if_false];refine Z ?_;rw[d];exact⟨rfl,zp⟩;rw[if_neg (zu k),if_neg (λh=>absurd h.1 zd)]at d;rw[w,if_pos k];have F:i+2<=a.l.length:=Kh (by rw[k];decide);simp -implicitDefEqProofs only[go_sem,seval,Z6,if_true];refine U8 rfl ?_;unfold Hy at d;have q:=B6 (l:=a.l.drop (i+2));have u:=Pj (l:=a.l.drop (i+2));have s:=D0 G L a K g ⟨i+2,0⟩ F;simp only at s;rw[List.length_drop]at u;generalize Xj (a.l.drop (i+2))=p at d q u s;obtain⟨xs,n,e⟩:=p;simp only at d q u s;refine Z1 ?_;refine CuS.call t s r zk rfl (by first|rfl|(simp -implicitDefEqProofs only[go_sem,seval,encXs,Wc];try rfl)) zr ?_;simp -implicitDefEqProofs only[go_sem,seval,Z6,encXs];have B:e≠0->xs=[]:=q
 by_cases v:e=0
 rotate_left;rw[if_pos v]at d;have x:(e==0)=false:=zu v;obtain rfl:=B v;rw[x]
 refine Z4<|Vw [(282,.ptr 1002 z 0,.agg [.int .u8 1,.str (X6 a.l i),.nils])] ⟨λj=>if j=0 then .agg [.int .u8 1,.str (X6 a.l i),.nils]else .top,λj=>if j=0 then .keep else if j=7 then .any else .pure⟩ zk t zk zk ?_
 have H:Za Col.new 6 Y4 (Zb [])=.nils:=rfl;refine Xw H ?_;refine Z ?_;rw[d];have C:(((i+2:Nat):Int)+n).toNat=i+2+n.toNat:=zo;exact⟨by rw[<- x]<;>rfl,by simp only[C];simp -implicitDefEqProofs only[go_sem,seval];try rfl⟩
 refine Z4<|Vw [(282,.ptr 1002 z 0,R7 .new ⟨1,X6 a.l i,xs⟩)] ⟨λj=>if j=0 then R7 .new ⟨1,X6 a.l i,xs⟩else .top,λj=>if j=0 then .keep else if j=7 then .any else .pure⟩ zk t zk zk ?_
 have x:(e==0)=true:=zu v;rw[if_neg (zu v)]at d;refine Xw (zi x @Mp) ?_;intro I;have E:i+2+n.toNat<=a.l.length:=zo;refine Wa (λo=>o==1035) [.ptr 21 g 0,Za .new 1 V.str (.mk false [[59]])] [(21,Dv a g st ⟨i+2+n.toNat,e⟩),(1002,.cells .new z 0 [.int .u8 1,.str (X6 a.l i),Za .new 6 Y4 (Zb xs)])] ⟨Fz.same _,Xm (f:=V.str) (l:=[[59]]) (m:=1) (g:=I) (fz:=0) (c:=.new) rfl zp (λ_=>rfl),trivial⟩ (by simp only[Zy,Z2,and_true];exact⟨FzO.keep rfl zp,FzO.keep rfl zp⟩) ?_;refine CuS.call t (Sp G t a zo g ⟨i+2+n.toNat,e⟩ E .old [[59]] zd zd false) r zk zm rfl zr ?_;refine Zu ?_;refine Z ?_;rw[d];unfold Km;generalize Vi a.l [[59]] (i+2+n.toNat)=M;obtain⟨b,j⟩:=M;cases b;exact⟨rfl,zp⟩;exact⟨rfl,by rw[v];simp -implicitDefEqProofs only[go_sem,seval];try rfl⟩
theorem Z8p(G:Nat->V)(S:GExp G)(a:Sl Tk)(R:TkOk a.l)(g:Nat)(i:Nat)(Q:X6 a.l i=Pl):
  CuS G 266 [] a g ⟨i,0⟩ (.tuple [R7 .new (Tj a.l 2 [40] [[41],[59]] (i+1)).1,.bool ((Tj a.l 2 [40] [[41],[59]] (i+1)).2.2==0)]) ⟨(Tj a.l 2 [40] [[41],[59]] (i+1)).2.1.toNat,(Tj a.l 2 [40] [[41],[59]] (i+1)).2.2⟩:=by
 have q:=S.ok;have U:=R.len;have M:i<a.l.length:=Kh (by rw[Q];decide);intro st k
 have d:Tj a.l 2 [40] [[41],[59]] (i+1)=if Ou a.l (i+1)=false then(⟨2,[],[]⟩,((i+1:Nat):Int),110)
  else if X6 a.l (i+2)≠[40]then(⟨2,X6 a.l (i+1),[]⟩,((i+2:Nat):Int),110)
  else if(2:Int)=2/\X6 a.l (i+3)=[41]then Km a.l ⟨2,X6 a.l (i+1),[]⟩ [[41],[59]] (i+3)
  else Hy a.l 2 (X6 a.l (i+1)) [[41],[59]] (i+3):=rfl
 generalize Tj a.l 2 [40] [[41],[59]] (i+1)=T at d⊢;refine Zo 1000 53 [.cell 2 282,.tmp 3] Tryz.func266 λX=>?_;simp only[Z6,S5];refine Z1 ?_;intro A;refine Z1 ?_;refine Z1 ?_;intro W;refine Wa (λo=>o==1008) [.ptr 21 g 0,Za .new 1 V.str (.mk false [Pl])] [(21,Dv a g st ⟨i,0⟩),(1002,.cells .new A 0 [.int .u8 2,.str [],.nils])] ⟨Fz.same _,Xm (f:=V.str) (l:=[Pl]) (m:=1) (g:=W) (fz:=0) (c:=.new) rfl zp (λ_=>rfl),trivial⟩ (by simp only[Zy,Z2,and_true];exact⟨FzO.keep rfl zp,FzO.keep rfl zp⟩) ?_;refine CuS.call q (Sp G q a zo g ⟨i,0⟩ (by show i<=_;omega) .old [Pl] zd zd false) k zk zm rfl zr ?_
 have K:Vi a.l [Pl] i=(true,i+1):=by rw[Vi,if_pos Q]<;>rfl
 rw[K];simp -implicitDefEqProofs only[go_sem,seval,Z6,if_true];refine Z1 ?_;refine CuS.call q (Dz G q a zo g ⟨i+1,0⟩ M) k zk rfl rfl zr ?_
 cases E:Ou a.l (i+1)with
 |false=>
  rw[if_pos E]at d;have I:(false=true)=False:=zS;simp -implicitDefEqProofs only[go_sem,seval,Z6,I,if_false];refine Z ?_;rw[d];exact⟨rfl,zp⟩
 |true=>
 rw[if_neg (by rw[E];decide)]at d
 have B:i+1<a.l.length:=by
  refine Classical.byContradiction λh=>?_;rw[Lo zo]at E;cases E
 simp -implicitDefEqProofs only[go_sem,seval,Z6,if_true];refine Z1 ?_;intro P;refine Wa (λo=>o==1026) [.ptr 21 g 0,Za .new 1 V.str (.mk false [[40]])] [(21,Dv a g st ⟨i+2,0⟩),(1002,.cells .new A 0 [.int .u8 2,.str (X6 a.l (i+1)),.nils])] ⟨Fz.same _,Xm (f:=V.str) (l:=[[40]]) (m:=1) (g:=P) (fz:=0) (c:=.new) rfl zp (λ_=>rfl),trivial⟩ (by simp only[Zy,Z2,and_true];exact⟨FzO.keep rfl zp,FzO.keep rfl zp⟩) ?_;refine CuS.call q (Sp G q a zo g ⟨i+2,0⟩ B .old [[40]] zd zd false) k zk zm rfl zr ?_
 have v:Vi a.l [[40]] (i+2)=if X6 a.l (i+2)=[40]then(true,i+3)else(false,i+2):=rfl
 by_cases r:X6 a.l (i+2)=[40]
 rotate_left;rw[if_pos r]at d;rw[v,if_neg r];have I:(false=true)=False:=zS;simp -implicitDefEqProofs only[go_sem,seval,Z6,I,if_false];refine Z ?_;rw[d];exact⟨rfl,zp⟩;rw[if_neg (zu r)]at d;rw[v,if_pos r];have C:i+3<=a.l.length:=Kh (by rw[r];decide);simp -implicitDefEqProofs only[go_sem,seval,Z6,if_true];refine Z1 ?_;refine CuS.call q (Ny G q a g ⟨i+3,0⟩ [41]) k zk rfl rfl zr ?_;refine Zu ?_
 have w:(decide (i+3<a.l.length)&&X6 a.l (i+3)==[41])=(X6 a.l (i+3)==[41]):=by
  by_cases h:i+3<a.l.length
  rw[decide_eq_true h,Bool.true_and]
  rw[decide_eq_false h,Bool.false_and,J1 zo]<;>rfl
 rw[w]
 by_cases t:X6 a.l (i+3)=[41]
 have H:(X6 a.l (i+3)==[41])=true:=zu t;rw[H];rw[if_pos ⟨rfl,t⟩]at d;refine Z0 ?_
 refine Z4<|Vw [(282,.ptr 1002 A 0,.agg [.int .u8 2,.str (X6 a.l (i+1)),.nils])] ⟨λj=>if j=0 then .agg [.int .u8 2,.str (X6 a.l (i+1)),.nils]else .top,λj=>if j=0 then .keep else if j=5 then .any else .pure⟩ zk q zk zk ?_
 refine Zs ?_;intro y;refine Wa (λo=>o==1051) [.ptr 21 g 0,Za .new 1 V.str (.mk false [[41],[59]])] [(21,Dv a g st ⟨i+3,0⟩),(1002,.cells .new A 0 [.int .u8 2,.str (X6 a.l (i+1)),.nils])] ⟨Fz.same _,Xm (f:=V.str) (l:=[[41],[59]]) (m:=1) (g:=y) (fz:=0) (c:=.new) rfl zp (λ_=>rfl),trivial⟩ (by simp only[Zy,Z2,and_true];exact⟨FzO.keep rfl zp,FzO.keep rfl zp⟩) ?_;refine CuS.call q (Sp G q a zo g ⟨i+3,0⟩ C .old [[41],[59]] zd zd false) k zk zm rfl zr ?_;refine Zu ?_;refine Z ?_;rw[d];unfold Km;generalize Vi a.l [[41],[59]] (i+3)=F;obtain⟨b,j⟩:=F;cases b;exact⟨rfl,zp⟩;exact⟨rfl,zp⟩;have H:(X6 a.l (i+3)==[41])=false:=zu t;rw[H];rw[if_neg (λh=>t h.2)]at d;refine U8 rfl ?_;unfold Hy at d;have s:=B6 (l:=a.l.drop (i+3));have x:=Pj (l:=a.l.drop (i+3));have u:=D0 G S a R g ⟨i+3,0⟩ C;simp only at u;rw[List.length_drop]at x;generalize Xj (a.l.drop (i+3))=p at d s x u;obtain⟨xs,n,e⟩:=p;simp only at d s x u;refine Z1 ?_;refine CuS.call q u k zk rfl (by first|rfl|(simp -implicitDefEqProofs only[go_sem,seval,encXs,Wc];try rfl)) zr ?_;simp -implicitDefEqProofs only[go_sem,seval,Z6,encXs];have J:e≠0->xs=[]:=s
 by_cases z:e=0
 rotate_left;rw[if_pos z]at d;have D:(e==0)=false:=zu z;obtain rfl:=J z;rw[D];refine Z1 ?_;refine U8 rfl ?_;have O:Za Col.new 6 Y4 (Zb [])=.nils:=rfl;refine Zf O ?_;rw[d];have L:(((i+3:Nat):Int)+n).toNat=i+3+n.toNat:=zo;exact⟨by rw[<- D]<;>rfl,by simp only[L];simp -implicitDefEqProofs only[go_sem,seval];try rfl⟩;have D:(e==0)=true:=zu z;rw[if_neg (zu z)]at d;rw[D];refine Z1 ?_;refine Z0 ?_
 refine Z4<|Vw [(282,.ptr 1002 A 0,R7 .new ⟨2,X6 a.l (i+1),xs⟩)] ⟨λj=>if j=0 then R7 .new ⟨2,X6 a.l (i+1),xs⟩else .top,λj=>if j=0 then .keep else if j=5 then .any else .pure⟩ zk q zk zk ?_
 refine Xw @Mp ?_;intro y;have N:i+3+n.toNat<=a.l.length:=zo;refine Wa (λo=>o==1051) [.ptr 21 g 0,Za .new 1 V.str (.mk false [[41],[59]])] [(21,Dv a g st ⟨i+3+n.toNat,e⟩),(1002,.cells .new A 0 [.int .u8 2,.str (X6 a.l (i+1)),Za .new 6 Y4 (Zb xs)])] ⟨Fz.same _,Xm (f:=V.str) (l:=[[41],[59]]) (m:=1) (g:=y) (fz:=0) (c:=.new) rfl zp (λ_=>rfl),trivial⟩ (by simp only[Zy,Z2,and_true];exact⟨FzO.keep rfl zp,FzO.keep rfl zp⟩) ?_;refine CuS.call q (Sp G q a zo g ⟨i+3+n.toNat,e⟩ N .old [[41],[59]] zd zd false) k zk zm rfl zr ?_;refine Zu ?_;refine Z ?_;rw[d];unfold Km;generalize Vi a.l [[41],[59]] (i+3+n.toNat)=F;obtain⟨b,j⟩:=F;cases b;exact⟨rfl,zp⟩;exact⟨rfl,by rw[z];simp -implicitDefEqProofs only[go_sem,seval];try rfl⟩
def sdO(gx:Nat)(l:List ASt):AObj:=Yb gx (R7 .new) l
def rdS(l:List Tk)(i:Nat)(acc:List ASt):Bool×CU×List ASt:=
 if acc.length=512 then(false,⟨i,3⟩,acc)else((Vy l i).2.2==0,⟨(Vy l i).2.1.toNat,(Vy l i).2.2⟩,acc++[(Vy l i).1])
theorem Gp(G:Nat->V)(t:GExp G)(a:Sl Tk)(s:TkOk a.l)(g:Nat)(i:Nat)(hi:i<a.l.length)(acc:List ASt)(B:acc.length<=512)(gx:Nat):
  InSp Tryz.prog G 248 [.ptr 21 g 0] (Z6 Zi [(21,Dv a g (grown 1038 gx 3 acc) ⟨i,0⟩),(1038,sdO gx acc)])
   (λv H'=>v=.bool (rdS a.l i acc).1/\∃ gx',H' 21=Dv a g (grown 1038 gx' 3 (rdS a.l i acc).2.2) (rdS a.l i acc).2.1/\H' 1038=sdO gx' (rdS a.l i acc).2.2):=by
 have k:=t.ok;have C:=s.len
 have d:rdS a.l i acc=if acc.length=512 then(false,⟨i,3⟩,acc)else((Vy a.l i).2.2==0,⟨(Vy a.l i).2.1.toNat,(Vy a.l i).2.2⟩,acc++[(Vy a.l i).1]):=rfl
 generalize rdS a.l i acc=z at d⊢;refine X9 1000 42 [.tmp 2] Tryz.func248 rfl rfl rfl rfl λX=>?_;simp only[Z6];refine Z1 ?_;refine Z1 ?_
 by_cases y:acc.length=512
 rw[if_pos y]at d
 have r:((acc.length:Int)==512)=true:=by rw[beq_iff_eq];omega
 refine Yo λE h=>?_;refine Zf (zi @S5 r) ?_;rw[d];exact⟨rfl,gx,zp,zp⟩;rw[if_neg y]at d
 have r:((acc.length:Int)==512)=false:=by rw[beq_eq_false_iff_ne];omega
 refine Wr (fun(_:Unit)=>st [(0,.ptr 21 g 0),(3,.func (.func (if X6 a.l i=Pl then 266 else 264)) [.ptr 21 g 0] [])] [(21,Dv a g (grown 1038 gx 3 acc) ⟨i,0⟩),(1038,sdO gx acc)]) (λ_=>True) (λE h=>?_) ?_;refine Xc (zi @S5 r) ?_;refine Z1 ?_;refine CuS.call k (Ny G k a g ⟨i,0⟩ Pl) (λF=>Tn F _ _ _ _) zk rfl rfl zr ?_;rw[decide_eq_true hi,Bool.true_and];refine Zu ?_
 by_cases j:X6 a.l i=Pl
 have p:(X6 a.l i==Pl)=true:=zu j;rw[p];rw[if_pos j]at h;refine Z1 ?_;exact h _ () trivial (Weak.st zp zp);have p:(X6 a.l i==Pl)=false:=zu j;rw[p];rw[if_neg j]at h;refine Z0 ?_;exact h _ () trivial (Weak.st zp zp);intro _ _
 have c:Vy a.l i=if X6 a.l i=Pl then Tj a.l 2 [40] [[41],[59]] (i+1)else Tj a.l 1 [58,61] [[59]] i:=rfl
 by_cases j:X6 a.l i=Pl
 rw[if_pos j]at c;rw[if_pos j];have b:=Z8p G t a s g i j;rw[<- c]at b;have o:=(G2 a.l i).ge;generalize Vy a.l i=q at d b o;obtain⟨x,m,e⟩:=q;simp only at d b o;generalize A:m.toNat=n at d b;refine Z1 ?_;refine CuS.call k b (λF=>Tn F _ _ _ _) zk rfl (by first|rfl|(simp -implicitDefEqProofs only[go_sem,seval,Mp,Wc];try rfl)) zr ?_;simp -implicitDefEqProofs only[go_sem,seval,Z6,Mp];intro D;refine Ha @S5 k ?_;intro u;refine X2 (f:=R7 .new) (l:=acc) (l2:=[x]) (g:=gx) (Nt _) rfl rfl rfl zp (Yg zo zO) λw=>?_;refine Zs ?_;refine Z ?_;rw[d];exact⟨rfl,w,zp,zp⟩;rw[if_neg j]at c;rw[if_neg j];have b:=Zob G t a s g i zo;rw[<- c]at b;have o:=(G2 a.l i).ge;generalize Vy a.l i=q at d b o;obtain⟨x,m,e⟩:=q;simp only at d b o;generalize A:m.toNat=n at d b;refine Z1 ?_;refine CuS.call k b (λF=>Tn F _ _ _ _) zk rfl (by first|rfl|(simp -implicitDefEqProofs only[go_sem,seval,Mp,Wc];try rfl)) zr ?_;simp -implicitDefEqProofs only[go_sem,seval,Z6,Mp];intro D;refine Ha @S5 k ?_;intro u;refine X2 (f:=R7 .new) (l:=acc) (l2:=[x]) (g:=gx) (Nt _) rfl rfl rfl zp (Yg zo zO) λw=>?_;refine Zs ?_;refine Z ?_;rw[d];exact⟨rfl,w,zp,zp⟩
@[go_sem] theorem noMp_cuO(S:Sl Tk)(g:Nat)(v:V)(r:CU):(Dv S g v r).noMp=Dv S g v r:=rfl
@[go_sem] theorem noMp_sdO(g:Nat)(l:List ASt):(sdO g l).noMp=sdO g l:=by cases l<;>rfl
theorem Zx2{l:List Tk}{n f i:Nat}{acc:List ASt}(hi:i<l.length):M9 l n (f+1) i acc =
  if(rdS l i acc).1=false then([],Ie l n ((rdS l i acc).2.1.i:Int),(rdS l i acc).2.1.e)else M9 l n f (rdS l i acc).2.1.i (rdS l i acc).2.2:=by
 rw[M9,if_neg zo];unfold rdS
 by_cases b:acc.length=512
 rw[if_pos b,if_pos b]<;>rfl
 rw[if_neg b,if_neg b];have c:=(G2 l i).ge
 by_cases a:(Vy l i).2.2=0
 rw[if_neg (zu a),if_neg (by simp[a])];have q:((Vy l i).2.2==0)=false:=zu a;rw[if_pos a,if_pos q];simp only[Int.toNat_of_nonneg (show 0<=(Vy l i).2.1 by omega)]
theorem Zj0{l:List Tk}{i:Nat}{acc:List ASt}(h:(rdS l i acc).1=true):(rdS l i acc).2.1.e=0/\i<(rdS l i acc).2.1.i/\(rdS l i acc).2.1.i<=l.length/\(rdS l i acc).2.2.length=acc.length+1/\acc.length≠512:=by
 unfold rdS at h⊢
 by_cases a:acc.length=512
 rw[if_pos a]at h;cases h;rw[if_neg a]at h⊢;have b:(Vy l i).2.2=0:=zu h;obtain⟨d,c⟩:=(G2 l i).ok b;refine⟨b,?_,?_,by rw[List.length_append]<;>rfl,a⟩
 show i<(Vy l i).2.1.toNat;omega
 show(Vy l i).2.1.toNat<=l.length;omega
def Z06(r:List ASt×Int×Int):V:=.tuple [.agg [Zm2 .new r.1],.int .i64 r.2.1,.int .i64 r.2.2]
theorem Z4h(G:Nat->V)(P:GExp G)(s:List UInt8)(R:s.length<100000):Spec Tryz.prog G 216 [.str s] Zi (λv _=>v=Z06 (Jo s)):=by
 have O:=P.ok;refine Zo 0 69 [.cell 2 246,.tmp 3,.tmp 4] Tryz.func216 λX=>?_
 have C:Jo s=if(Yu s).2.2≠0 then(([]:List ASt),(Yu s).2.1,(Yu s).2.2)else M9 (Yu s).1 s.length ((Yu s).1.length+1) 0 []:=rfl
 generalize Jo s=K at C⊢;have I:=G1 R;have U:=T0 G P s R;generalize Yu s=p at C I U;obtain⟨l,at0,Q⟩:=p;simp only at C I;have hTl:=I.len;refine Z1 ?_;intro r;refine Z1 ?_;refine Zn O ?_ (s:=U);refine Xw (zi @encTok.eq_1 (zi @encTks.eq_1 @W9)) ?_;have W:(Zb l).l=l:=Zl l;generalize Zb l=S at W;subst W;refine Z4 ?_
 by_cases H:Q=0
 rotate_left;rw[if_pos H]at C;have M:(Q==0)=false:=zu H;refine Vp zk ?_;simp -implicitDefEqProofs only[go_sem,seval,bne,M];refine Z ?_
 rw[C]<;>rfl
 rw[if_neg (zu H)]at C;have M:(Q==0)=true:=zu H;refine Vp zk ?_;simp -implicitDefEqProofs only[go_sem,seval,bne,M];refine Z1 ?_;intro d;refine AW.weak (Zw (λ_=>false) (l:=[(0,.str s),(2,.ptr 2 r 0),(5,Za .new 3 Wi S),(6,.ptr 21 d 0)]) (m:=[(2,.cells .new r 0 [.nils]),(21,Dv S d .nils ⟨0,0⟩)]) ?_ ?_) ?_;refine Zs ?_;exact⟨Fz.same _,Fz.same _,Fz.same _,Fz.same _⟩;simp only[Zy,Z2,and_true];exact⟨FzO.keep rfl zp,Zyy (c:=.new) (fz:=0) (cs:=[Za .new 3 Wi S,.int .i64 0,.int .i64 0,.nils]) rfl zp ⟨Fz.any (V9 @W9),Fz.same _,Fz.same _,Fz.same _,trivial⟩⟩;refine Z4 ?_;refine AW.block ?_
 refine Vz (fun(x:(Nat×Nat)×List ASt)=>st [(0,.str s),(2,.ptr 2 r 0),(5,Za .new 3 Wi S),(6,.ptr 21 d 0)] [(2,.cells .new r 0 [.nils]),(21,Dv S d (grown 1038 x.1.1 3 x.2) ⟨x.1.2,0⟩),(1038,sdO x.1.1 x.2)])
  (λx=>x.1.2<=S.l.length/\x.2.length<=512/\∃ f,S.l.length<f+x.1.2/\M9 S.l s.length f x.1.2 x.2=K) (λx=>S.l.length-x.1.2) ((0,0),[]) ⟨Nat.zero_le _,Nat.zero_le _,S.l.length+1,Nat.lt_succ_self _,C.symm⟩
  (Weak.st zp (by refine Zs ?_;first|rfl|exact⟨rfl,rfl⟩)) ?_
 rintro⟨⟨J,i⟩,g⟩ ⟨Y,F,f,hf,h⟩ L3 N;simp only at Y F hf h;refine Z4 ?_
 cases f with
 |zero=>omega
 |succ f=>
 refine Xc @S5 ?_;refine Zm rfl (λE=>?_) (λE=>?_);rotate_left
 have u:S.l.length<=i:=by have:=zN E;omega
 rw[M9,if_pos u]at h;refine Z0 ?_;refine AW.weak (Zw (λo=>o==1038) (l:=[(2,.ptr 2 r 0),(6,.ptr 21 d 0)]) (m:=[(2,.cells .new r 0 [.nils]),(21,.cells .any d 0 [.top,.int .i64 i,.int .i64 0,Za .new 3 (R7 .new) (Zb g)])]) ?_ ?_) ?_;refine Zs ?_
 first|exact⟨Fz.same _,Fz.same _⟩|exact Fz.same _
 simp only[Zy,Z2,and_true];exact⟨FzO.keep rfl zp,FzO.of (c:=.any) (fz:=0) (cs:=[Za .any 3 Wi S,.int .i64 i,.int .i64 0,grown 1038 J 3 g]) rfl zp ⟨Fz.top _,Fz.same _,Fz.same _,W7 rfl zp (Nt _),trivial⟩⟩;refine Z ?_
 rw[<- h]<;>rfl
 have u:i<S.l.length:=zL E;rw[Zx2 u]at h;refine Z0 ?_;refine AW.block ?_;have y:=Gp G P S I d i u g F J;have z := @Zj0 S.l i g;generalize rdS S.l i g=q at h y z;obtain⟨b,⟨j,e⟩,a⟩:=q;simp only at h y z;refine Z1 ?_;refine CallA.inl [(21,Dv S d (grown 1038 J 3 g) ⟨i,0⟩),(1038,sdO J g)] zk ?_ ?_;intro p T;simp only[List.mem_cons,List.not_mem_nil,or_false]at T
 rcases T with rfl|rfl
 .simp -implicitDefEqProofs only[go_sem,seval];try rfl
 .simp -implicitDefEqProofs only[go_sem,seval];try rfl
 refine y.mono ?_;rintro _ H' ⟨rfl,n,L,w⟩;simp only[List.map_cons,List.map_nil,L,w]
 cases b with
 |true=>
  obtain⟨rfl,hj,A,hal,ha5⟩:=z rfl;rw[if_neg zd]at h;refine Zu ?_;refine Z0 ?_;refine N _ ⟨((n,j),a),?_,⟨?_,?_,f,?_,h⟩,Weak.st zp zp⟩
  show S.l.length-j<S.l.length-i;omega
  show j<=_;omega
  show a.length<=_;omega
  show S.l.length<f+j;omega
 |false=>
  rw[if_pos rfl]at h;refine Zu ?_;refine Xc @S5 ?_;refine Zm rfl (λD=>?_) (λD=>?_);have A:j<S.l.length:=zL D;have B:=List.getElem?_eq_getElem A;generalize S.l[j]=t at B;rw[Zu0 B]at h;refine AW.weak (Zw (λo=>o==21) (l:=[(0,.str s),(2,.ptr 2 r 0),(5,Za .new 3 Wi S),(6,.view .any (.agg [Za .any 3 Wi S,.int .i64 j,.int .i64 e,grown 1038 n 3 a]))]) (m:=[(2,.cells .new r 0 [.nils])]) ?_ ?_) ?_;refine Zs ?_;exact⟨Fz.same _,Fz.same _,Fz.same _,Fz.ptr (c:=.any) (fz:=0) (v:=.agg [Za .any 3 Wi S,.int .i64 j,.int .i64 e,grown 1038 n 3 a]) rfl zp⟩;simp only[Zy,Z2,and_true];exact FzO.keep rfl zp
  refine Z4<|Zp ⟨λ_=>.top,λk=>if k=6 then .lend else if k=9 then .lend else if k=14 then .lend else .pure⟩ zk O zk zk ?_
  refine Xw (zi B @Vs) ?_;refine Z ?_
  rw[<- h]<;>rfl
  have A:¬ j<S.l.length:=by have:=zN D;omega
  refine Z0 ?_;refine AW.weak (Zw (λo=>o==21) (l:=[(0,.str s),(2,.ptr 2 r 0),(5,Za .new 3 Wi S),(6,.view .any (.agg [Za .any 3 Wi S,.int .i64 j,.int .i64 e,grown 1038 n 3 a]))]) (m:=[(2,.cells .new r 0 [.nils])]) ?_ ?_) ?_;refine Zs ?_;exact⟨Fz.same _,Fz.same _,Fz.same _,Fz.ptr (c:=.any) (fz:=0) (v:=.agg [Za .any 3 Wi S,.int .i64 j,.int .i64 e,grown 1038 n 3 a]) rfl zp⟩;simp only[Zy,Z2,and_true];exact FzO.keep rfl zp
  refine Z4<|Zp ⟨λ_=>.top,λk=>if k=7 then .lend else .pure⟩ zk O zk zk ?_
  refine Zs ?_;refine Z ?_;rw[<- h];unfold Ie
  rw[if_neg zo]<;>rfl
theorem Zbx{b:List ASt}(h:Rc b=0):b.length<=512/\∀ s∈b,O4 s=true:=by
 unfold Rc at h
 split at h
 cases h
 split at h
 rename_i c a;rw[List.all_eq_true]at a;exact⟨zo,a⟩;cases h
theorem Zcx(l:List ASt):Rc l=0\/Rc l=2:=by
 unfold Rc
 split
 exact .inr rfl
 split
 exact .inl rfl;exact .inr rfl
theorem V1(w:List UInt8):(V.str w).cells.length=1:=rfl
def encTy(r:Int×Int):V:=.tuple [.int .i64 r.1,.int .i64 r.2]
theorem Zou{s:ASt}(h:O4 s=true):s.kind=1\/s.kind=2:=by
 simp only[O4,Bool.and_eq_true,Bool.or_eq_true,beq_iff_eq]at h;exact h.1.1
theorem H4(G:Nat->V)(c:Col)(s:Sl (List UInt8))(a:s.l.length<1000000):InSp Tryz.prog G 95 [Za c 1 V.str s] (Z6 Zi [(5005,.dead)])
  (λv H'=>(s=.nil/\v=.nils/\H' 5005=.dead)\/(∃ g,v=.msl 5005 g 0 s.l.length 1/\H' 5005=.cells .new g 0 (flat (s.l.map V.str)))):=by
 refine X9 5000 8 [.tmp 2] Tryz.func95 rfl rfl rfl rfl λX=>?_;simp only[Z6]
 cases s with
 |nil=>
  refine Z1 ?_;refine Z4 ?_;simp only[Za];refine Z ?_;exact .inl (by first|rfl|exact⟨rfl,rfl,rfl⟩|exact⟨rfl,rfl⟩)
 |mk b l=>
  refine Z1 ?_;refine Z4 ?_;have d:(Za c 1 V.str (.mk b l))=.slice c b 1 (l.map V.str):=rfl;rw[d];refine Z1 ?_;refine Z1 ?_;have f:l.length<1000000:=a;intro g;refine⟨Yg zo (by rw[List.length_map];omega),λe=>?_⟩;refine Z ?_;exact .inr ⟨e,by rw[List.length_map],zr⟩
theorem Z3h(G:Nat->V)(hE:GExp G)(c c1 F M:Col)(s:Sl AM)(b d:Sl (List UInt8))(hs:s.l.length<1000000)(hb:∀ a∈s.l,AmB a)(hv:b.l.length<100000)(hev:d.l.length<1000000):
  Spec Tryz.prog G 217 [.agg [Za c 3 (Tq c1) s],Za F 1 V.str b,Za M 1 V.str d] Zi (λv _=>v=encTy (Fi (s.l.map AM.v) b.l d.l)):=by
 have Y:=hE.ok;refine Zo 0 57 [.tmp 6,.tmp 7] Tryz.func217 λX=>?_
 have Q:Fi (s.l.map AM.v) b.l d.l=if Rc (s.l.map AM.v)≠0 then(0,2)else Lg b.l d.l ((s.l.map AM.v).drop 0) (0:Nat):=rfl
 generalize Fi (s.l.map AM.v) b.l d.l=res at Q⊢;have O:=λc=>Z5h G hE c c1.ent s hs hb;have N := @Zbx (s.l.map AM.v);have U:=Zcx (s.l.map AM.v);generalize Rc (s.l.map AM.v)=ck at Q O N U;refine Z1 ?_;intro g3;refine Z1 ?_;refine Znf @J9 Y ?_ (s:=(O _))
 rcases U with rfl|rfl
 rotate_left;refine Zs ?_;refine Z ?_
 rw[Q]<;>rfl
 refine Zs ?_;refine Z0 ?_;obtain⟨_,P⟩:=N rfl;rw[if_neg zd]at Q
 have E:∀ (n:Sl (List UInt8)),n.l=b.l++[Jq]->∀ x,Iq n.l x=Iq (b.l++[Jq]) x:=λn h x=>by rw[h]
 refine Wr (fun(n:Sl (List UInt8))=>st [(1,Za F 1 V.str b),(2,Za M 1 V.str d),(3,.ptr 3 g3 0),(8,Za .new 1 V.str n)] [(3,.cells .new g3 0 [Za c 3 (Tq c1) s])]) (λn=>n.l=b.l++[Jq]) (λK2 A=>?_) ?_;refine Z1 ?_;refine CallA.inl [(5005,.dead)] zk ?_ ?_;intro p hp;rw[List.mem_singleton]at hp;subst hp;exact zp;refine(H4 G F b zo).mono ?_;rintro _ H' (⟨rfl,rfl,q⟩|⟨g5,rfl,q⟩);simp only[List.map_cons,List.map_nil,q];refine Zu ?_;intro g18;refine⟨Yg zo zo,λh=>absurd h zd,λ_ L=>?_⟩;refine Zs ?_;refine A _ (.mk false [Jq]) rfl (Zw (λo=>o==19) ?_ ?_);refine Zs ?_;refine⟨Fz.same _,Fz.same _,Fz.same _,?_⟩;exact Xm (f:=V.str) (l:=[Jq]) (m:=1) (g:=L) (fz:=0) (c:=.new) rfl zp V1;simp only[Zy,Z2,and_true];exact FzO.keep rfl zp;simp only[List.map_cons,List.map_nil,q];refine Zu ?_;intro g18
 have y:List.take (b.l.length*1) (flat (List.map V.str b.l))++[V.str [97,114,103]]=flat ((b.l++[Jq]).map V.str):=by
  rw[List.take_of_length_le (by rw[Xo V1];exact Nat.le_refl _),List.map_append,Um];rfl
 have e1:b.l.length+1=(b.l++[Jq]).length:=by rw[List.length_append]<;>rfl
 refine⟨Yg zo zo,by rw[Xo V1];exact Nat.le_refl _,Nat.zero_le _,λL=>?_⟩;rw[y];refine A _ (.mk false (b.l++[Jq])) rfl (Zw (λo=>o==5005) ?_ ?_);refine Zs ?_;refine⟨Fz.same _,Fz.same _,Fz.same _,?_⟩;rw[e1];exact Xm (f:=V.str) (l:=b.l++[Jq]) (m:=1) (g:=L) (fz:=0) (c:=.new) rfl zp V1;simp only[Zy,Z2,and_true];exact FzO.keep rfl zp;intro n R;have hcg:=E n R;have hof:=λc c1 (x:Sl XN) (h1:x.l.length<1000000) h2=>Z9e G hE c c1 x n h1 h2 (by rw[R,List.length_append];show _+1<_;omega)
 try clear E
 refine Yo λK2 A=>?_;refine Z1 ?_;refine AW.block ?_
 refine Yf s.l.length (λk (_:Unit)=>st [(1,Za F 1 V.str b),(2,Za M 1 V.str d),(8,Za .new 1 V.str n),(21,Za c 3 (Tq c1) s),(22,.int .i64 s.l.length),(23,.int .i64 k)] [])
  (λk _=>Lg b.l d.l ((s.l.map AM.v).drop k) (k:Nat)=res) 0 () (Nat.zero_le _) Q.symm
  (Weak.st zp zp) ?_
 rintro k _ hk u L3 hL3;refine Z1 ?_;refine Z4 ?_;refine Zm rfl (λK=>?_) (λK=>?_);rotate_left
 have t:k=s.l.length:=by have:=zN K;omega
 refine Z0 ?_;refine A _ ?_;rw[List.drop_of_length_le (by rw[List.length_map];omega)]at u;refine Z ?_
 rw[<- u]<;>rfl
 have t:k<s.l.length:=zL K;have hg:=List.getElem?_eq_getElem t;have J:=hb _ (List.getElem_mem t);have C:=P _ (List.mem_map_of_mem (f:=AM.v) (List.getElem_mem t))
 have hgv:(s.l.map AM.v)[k]?=some (s.l[k]).v:=by rw[List.getElem?_map,hg]<;>rfl
 rw[Z2e hgv]at u;generalize s.l[k]=a at hg J C u;have hkd:=Zou C;have i:stT b.l d.l a.v=((if a.kind=2 then d.l.contains a.name else b.l.contains a.name)&&Dp (b.l++[Jq]) a.x.l):=rfl;refine Xc (zi hg @Oi) ?_;intro B;refine Z1 ?_
 refine Wr (fun(H:Sl (List UInt8))=>st [(1,Za F 1 V.str b),(2,Za M 1 V.str d),(8,Za .new 1 V.str n),(9,.int .i64 k),(10,.ptr 10 B 0),(11,Za (if a.kind=2 then M else F) 1 V.str H),(21,Za c 3 (Tq c1) s),(22,.int .i64 s.l.length),(23,.int .i64 k)] [(10,.cells .new B 0 [.int .u8 a.kind,.str a.name,Za c1 6 Y4 a.x])])
  (λH=>H.l.length<1000000/\H.l.contains a.name=(if a.kind=2 then d.l.contains a.name else b.l.contains a.name)) (λK6 z=>?_) ?_
 rcases hkd with e|e
 have e:a.kind=1:=e
 have q2:(a.kind==2)=false:=by rw[e]<;>rfl
 rw[if_neg (by rw[e];decide),if_neg (by rw[e];decide)]at z;refine Xc q2 ?_;refine Z0 ?_;exact z _ b ⟨zo,rfl⟩ (Weak.st zp zp);have e:a.kind=2:=e;have q2:(a.kind==2)=true:=zu e;rw[if_pos e,if_pos e]at z;refine Xc q2 ?_;refine Z1 ?_;exact z _ d ⟨hev,rfl⟩ (Weak.st zp zp);rintro H ⟨hNK,S⟩;generalize(if a.kind=2 then M else F)=cK;rw[<- S]at i;refine Z1 ?_
 refine Wr (fun(j:Int)=>st [(1,Za F 1 V.str b),(2,Za M 1 V.str d),(8,Za .new 1 V.str n),(9,.int .i64 k),(10,.ptr 10 B 0),(11,Za cK 1 V.str H),(12,.int .u8 j),(21,Za c 3 (Tq c1) s),(22,.int .i64 s.l.length),(23,.int .i64 k)] [(10,.cells .new B 0 [.int .u8 a.kind,.str a.name,Za c1 6 Y4 a.x])])
  (λj=>(j==1)=Dp (b.l++[Jq]) a.x.l) (λK7 T=>?_) ?_
 by_cases I:a.x.l.length=0
 have w:Dp (b.l++[Jq]) a.x.l=true:=by unfold Dp;rw[List.length_eq_zero_iff.1 I]<;>rfl
 have q5:decide ((a.x.l.length:Int)>0)=false:=zF;refine Xc q5 ?_;refine Z0 ?_;exact T _ 1 (by rw[w]<;>rfl) (Weak.st zp zp);have q5:decide ((a.x.l.length:Int)>0)=true:=zT
 have w:Dp (b.l++[Jq]) a.x.l=((Iq n.l a.x.l).1==1):=by
  unfold Dp;rw[<- hcg]
  cases hq:a.x.l with
  |nil=>rw[hq]at I;exact absurd rfl I
  |cons=>rfl
 refine Xc q5 ?_;refine Z1 ?_;refine Znf @Wc Y ?_ (s:=(hof _ _ a.x J.l J.x));generalize Iq n.l a.x.l=r at w;obtain⟨j,i0,e0⟩:=r;refine Xw @encO3.eq_1 ?_;exact T _ j w.symm (Weak.st zp zp);intro j D
 cases W:(j==1)with
 |false=>
  rw[<- D,W,Bool.and_false]at i;rw[if_neg (by rw[i];decide)]at u;refine Vp zk ?_;simp -implicitDefEqProofs only[go_sem,seval,bne,W];refine Z ?_
  rw[<- u]<;>rfl
 |true=>
  rw[<- D,W,Bool.and_true]at i;refine Vp zk ?_;simp -implicitDefEqProofs only[go_sem,seval,bne,W];refine Zc Y ?_ (s:=(Ui G Y _ a.name H hNK))
  cases q7:H.l.contains a.name with
  |false=>
   rw[q7]at i;rw[if_neg (by rw[i];decide)]at u;refine Z ?_
   rw[<- u]<;>rfl
  |true=>
   rw[q7]at i;rw[if_pos i]at u;refine Z1 ?_;exact hL3 _ ⟨t,(),u,Weak.st zw zp⟩
def Z93(s:ASt):AM:=⟨s.kind,s.name,Zb s.x⟩
theorem toAM_v(s:ASt):(Z93 s).v=s:=by
 show ASt.mk s.kind s.name (Zb s.x).l=s
 rw[Zl]
def amS(l:List ASt):Sl AM:=Zb (l.map Z93)
theorem Zd3(l:List ASt):(amS l).l=l.map Z93:=Zl _
theorem amS_v(l:List ASt):(amS l).l.map AM.v=l:=by
 rw[Zd3,List.map_map];exact(List.map_congr_left λs _=>toAM_v s).trans (List.map_id _)
theorem Z6w(c:Col)(l:List ASt):Za c 3 (R7 c) (Zb l)=Za c 3 (Tq c) (amS l):=by
 cases l with
 |nil=>rfl
 |cons s r=>
  show V.slice c false 3 ((s::r).map (R7 c))=V.slice c false 3 (((s::r).map Z93).map (Tq c))
  rw[List.map_map]<;>rfl
structure SB(s:ASt):Prop where
 n:s.name.length<100000
 l:s.x.length<100000
 x:∀ n∈s.x,n.name.length<100000
structure BOk(b:List ASt):Prop where
 s:∀ s∈b,SB s
 k:b.length<=512
theorem BOk.amb{l:List ASt}(h:BOk l):∀ a∈(amS l).l,AmB a:=by
 intro a b;rw[Zd3]at b;obtain⟨s,c,rfl⟩:=List.mem_map.1 b;have:=h.s s c;exact⟨this.n,by show(Zb s.x).l.length<_;rw[Zl];have:=this.l;omega,by show ∀ n∈(Zb s.x).l,_;rw[Zl];exact this.x⟩
theorem Z81{l:List Tk}(c:TkOk l):(Xj l).1.length<100000/\∀ n∈(Xj l).1,n.name.length<100000:=by
 have a:=((Te l (l.length+1) 1 ⟨0,[],0⟩).ok ⟨Nat.zero_le _,Nat.le_refl _⟩);unfold Xj
 split
 exact⟨Nat.zero_lt_succ _,λn b=>by cases b⟩
 split
 exact⟨Nat.zero_lt_succ _,λn b=>by cases b⟩;have:=a.1;have:=a.2;have:=c.len;exact⟨by show(Xv _ _ _ _).2.nodes.length<_;omega,Nx c⟩
theorem Z63{l:List Tk}(a:TkOk l)(i:Nat):(X6 l i).length<100000:=by
 unfold X6
 split
 rename_i t h;exact a.text t (List.mem_of_getElem? h);exact Nat.zero_lt_succ _
theorem Zia{k:Int}{nm:List UInt8}(h:nm.length<100000):SB ⟨k,nm,[]⟩:=⟨h,Nat.zero_lt_succ _,λn a=>by cases a⟩
theorem Zvz{l:List Tk}(b:TkOk l)(k:Int)(w:List UInt8)(d:List (List UInt8))(i:Nat):SB (Tj l k w d i).1:=by
 have a:=Z63 b i;have c:=Z81 (l:=l.drop (i+2)) ⟨Nat.lt_of_le_of_lt (by rw[List.length_drop];omega) b.len,λt h=>b.text t (List.mem_of_mem_drop h)⟩;unfold Tj Hy Km
 split
 exact Zia (Nat.zero_lt_succ _)
 split
 exact Zia a
 split
 exact Zia a
 split
 exact Zia a;exact⟨a,c.1,c.2⟩
theorem Zxh{l:List Tk}(b:TkOk l){n:Nat}:∀ (f i:Nat) (acc:List ASt),BOk acc->BOk (M9 l n f i acc).1
 |0,i,acc,h=>h
 |f+1,i,acc,h=>by
  rw[M9]
  split
  exact h
  split
  exact⟨λs a=>(by cases a),Nat.zero_le _⟩;rename_i c
  split
  exact⟨λs a=>(by cases a),Nat.zero_le _⟩;refine Zxh b f _ _ ⟨λs a=>?_,by rw[List.length_append,List.length_singleton];have:=h.k;omega⟩
  rcases List.mem_append.1 a with a|a
  exact h.s s a;rw[List.mem_singleton.1 a];unfold Vy
  split<;>exact Zvz b _ _ _ _
theorem Zlx{s:List UInt8}(a:s.length<=900):BOk (Jo s).1:=by
 unfold Jo
 split
 exact⟨λs a=>(by cases a),Nat.zero_le _⟩;exact Zxh (G1 zo) _ _ _ ⟨λs a=>(by cases a),Nat.zero_le _⟩
theorem Fh(G:Nat->V)(e:GExp G)(s:List UInt8)(f:s.length<100000):Spec Tryz.prog G 173 [.str s] Zi (λv _=>v=.bool (Qm s)):=by
 have g:=e.ok;refine Zo 0 26 [.tmp 2] Tryz.func173 λX=>?_;rw[Qm];refine Z ?_;refine Zn g ?_ (s:=T0 G e s f);generalize Yu s=p;obtain⟨l,a,q⟩:=p;simp only[encTok,encTks];refine Zs ?_;cases c:(q==0);exact Zh c
 have d:(((l.length:Nat):Int)==1)=(l.length==1):=by
  rw[Bool.eq_iff_iff,beq_iff_eq,beq_iff_eq];omega
 cases b:(l.length==1);rw[b]at d;exact Zh (zi c (zi d (@Zl Tk l)));rw[b]at d;have h:l.length=1:=zu b;obtain⟨t,rfl⟩:∃ t,l=[t]:=List.length_eq_one_iff.1 h;exact Zh (zi c Vs)
def Xd(vs ev:List (List UInt8))(s:List UInt8):Bool:=(Jo s).2.2==0&&(Fi (Jo s).1 vs ev).2==0
theorem Lw(G:Nat->V)(n:GExp G)(b c d e:Col)(m:MdM)(u vs:Sl (List UInt8))(s:List UInt8)(A:s.length<=900)(z:vs.l.length<100000)(j:m.events.l.length<1000000):
  Spec Tryz.prog G 178 [Vm b c d e m u vs,.str s] Zi (λw _=>w=.bool (Xd vs.l m.events.l s)):=by
 have y:=n.ok;refine Zo 0 32 [.tmp 4] Tryz.func178 λX=>?_;have f:=Zlx A;have g:=λc D C B=>Z3h G n c D C B (amS (Jo s).1) vs m.events (by rw[Zd3,List.length_map];have:=f.k;omega) f.amb z j;rw[amS_v]at g;have x:=Z4h G n s zo;rw[Xd];generalize Jo s=p at g x f;obtain⟨l,a,q⟩:=p;simp only at g f;generalize Fi l vs.l m.events.l=t at g;refine Z ?_;refine Zn y ?_ (s:=x);simp only[Z06,Zm2,Z6w];refine Zs ?_;intro E;refine AW.weak (Zw (λo=>o==5) (l:=[(0,Vm b c d e m u vs),(5,.view .new (.agg [Za .new 3 (Tq .new) (amS l)])),(7,.int .i64 q)]) (m:=[]) ?_ trivial) ?_;refine Zs ?_;exact⟨Fz.same _,Fz.ptr (v:=.agg [Za .new 3 (Tq .new) (amS l)]) (c:=.new) (fz:=0) rfl zp,Fz.same _⟩;cases r:(q==0);have h:(q != 0)=true:=zu r;exact Zq h;have h:(q != 0)=false:=zu r;refine Xc h ?_;refine Z0f h ?_;refine Z4 ?_;refine Zp ⟨λi=>if i=10 then .tuple [.int .i64 t.1,.int .i64 t.2]else .top,λ_=>.pure⟩ zk y zk zk ?_;refine Xw @Xh ?_;refine⟨⟨zk,by refine Zs ?_;exact(g _ _ _ _).mono (by rintro _ _ rfl;rfl)⟩,?_⟩;refine Z ?_;rw[Bool.true_and]
theorem u8Im(x:Int):∀ y∈(V.int .u8 x).cells,y.Im:=λy a=>by
 simp only[V.cells,List.mem_cons,List.not_mem_nil,or_false]at a;rw[a];exact .int _ _
theorem Rd.u8{H:Heap}{o g n:Nat}{l:List Int}(h:H o=.cells .new g 0 (flat (l.map (V.int .u8))))(a:l.length=n):Rd H (.msl o g 0 n 1) (Za .old 1 (V.int .u8) (.mk false l)):=by
 subst a;have:=Rd.msl (l:=l) (off:=0) (n:=l.length) (m:=1) (f:=V.int .u8) (f':=V.int .u8) (g:=g) (fz:=0) (c:=.new) h (λ_=>rfl) u8Im (λ_=>rfl) zo;rw[List.drop_zero,List.take_length,Nat.zero_mul]at this;exact this
theorem Sj(k x:Int):(Sl.mk false [k]).l.contains x=(x==k):=by
 show[k].contains x=_
 rw[List.contains_cons,List.contains_nil,Bool.or_false]
theorem A7(k j x:Int):(Sl.mk false [k,j]).l.contains x=(x==k||x==j):=by
 show[k,j].contains x=_
 rw[List.contains_cons,List.contains_cons,List.contains_nil,Bool.or_false]
theorem eqN(n k:Nat):(((n:Nat):Int)==((k:Nat):Int))=(n==k):=by rw[Bool.eq_iff_iff,beq_iff_eq,beq_iff_eq];omega
theorem Zy4(G:Nat->V)(f:Y6 G)(b c d e:Col)(m:MdM)(a vs:Sl (List UInt8))(g:m.ways.l.length<1000000)(v:Int)(i:0<=v)(h:v<m.p.vertices.length):
  Spec Tryz.prog G 98 [Vm b c d e m a vs,.int .i64 v] Zi (λw _=>w=.bool (m.p.k3 v)):=by
 refine Zo 0 17 [.tmp 4] Tryz.func98 λX=>?_;rw[PM.k3];refine Z ?_;intro j;refine Zs ?_;refine CallA.bor f [Vm b.ent c.ent d.ent e.ent m a vs,.int .i64 v,Za .old 1 (V.int .u8) (.mk false [2,12])] zk ⟨Yv (Ok _ _ _ _ _ _ _) zp,Yv (.int _ _) rfl,Rd.u8 (l:=[2,12]) zp rfl,trivial⟩ ?_;refine(Wj G f _ _ _ _ .old m a vs v i h (.mk false [2,12]) zd).mono ?_;rintro _ _ rfl;refine⟨.bool _,?_⟩;rw[A7];cases q:(m.p.kd v==2||m.p.kd v==12);refine Zs ?_;exact Zr;refine Zs ?_;refine Zc f ?_ (s:=Sq G f _ _ _ _ m a vs g v);refine Z ?_
 rw[Bool.false_or,<- eqN]<;>rfl
theorem PM.Rt.wayAt{m:PM}(h:m.Rt):∀ t∈m.ways,(0<=t.source/\t.source<m.vertices.length)/\(0<=t.target/\t.target<m.vertices.length):=by
 intro t b;obtain⟨i,a,rfl⟩:=List.mem_iff_getElem.1 b;have:=h.way i a
 have e:m.wy (i:Int)=m.ways[i]:=by
  show m.ways.getD ((i:Int)).toNat wy0=_
  rw[List.getD_eq_getElem?_getD,Int.toNat_natCast,List.getElem?_eq_getElem a]<;>rfl
 rw[e]at this;simp only[PM.wayB,PM.inV,Bool.and_eq_true,decide_eq_true_eq]at this;exact⟨this.1.1.1.1.1.1.1.1.1.2,this.1.1.1.1.1.1.1.1.2⟩
theorem PM.Rt.outR{m:PM}(h:m.Rt)(v:Int):∀ u∈m.out v,0<=u/\u<m.vertices.length:=by
 intro u a;obtain⟨t,b,rfl⟩:=List.mem_map.1 a;exact(h.wayAt t (List.mem_filter.1 b).1).2
theorem PM.Rt.incR{m:PM}(h:m.Rt)(v:Int):∀ u∈m.inc v,0<=u/\u<m.vertices.length:=by
 intro u a;obtain⟨t,b,rfl⟩:=List.mem_map.1 a;exact(h.wayAt t (List.mem_filter.1 b).1).1
theorem G3(m:MdM)(v:Int):(m.p.out v).length<=m.ways.l.length:=by
 rw[Z8s,List.length_map];exact List.length_filter_le _ _
theorem Zi5(m:MdM)(v:Int):(m.p.inc v).length<=m.ways.l.length:=by
 rw[Zqt,List.length_map];exact List.length_filter_le _ _
theorem gtN(n k:Nat):decide (((n:Nat):Int)>((k:Nat):Int))=decide (k<n):=decide_eq_decide.2 zo
theorem Zog{l:List Int}{k:Nat}(h:decide (k<l.length)=true):l≠[]:=by
 rintro rfl;simp at h
theorem Zx4(G:Nat->V)(a:Y6 G)(b c d e:Col)(m:MdM)(f vs:Sl (List UInt8))(r:m.p.Rt)(k:m.ways.l.length<1000000)(v:Int)(x:0<=v)(u:v<m.p.vertices.length):
  Spec Tryz.prog G 99 [Vm b c d e m f vs,.int .i64 v] Zi (λw _=>w=.bool (m.p.k4 v)):=by
 refine Zo 0 31 [.tmp 4] Tryz.func99 λX=>?_;rw[PM.k4];have o:=r.outR v;have t:=G3 m v;refine Z ?_;refine Zc a ?_ (s:=Sq G a _ _ _ _ m f vs k v);generalize m.p.out v=out at o t;refine Z ?_;intro y;refine Zs ?_;refine CallA.bor a [Vm b.ent c.ent d.ent e.ent m f vs,.int .i64 v,Za .old 1 (V.int .u8) (.mk false [6])] zk ⟨Yv (Ok _ _ _ _ _ _ _) zp,Yv (.int _ _) rfl,Rd.u8 (l:=[6]) zp rfl,trivial⟩ ?_;refine(Wj G a _ _ _ _ .old m f vs v x u (.mk false [6]) zd).mono ?_;rintro _ _ rfl;refine⟨.bool _,?_⟩;rw[Sj];cases q:(m.p.kd v==6);refine Zs ?_;exact Zr;refine Zs ?_;refine Zc a ?_ (s:=Mt G a _ _ _ _ m f vs k v);have g:(((m.p.inc v).length:Int)==1)=((m.p.inc v).length==1):=eqN _ 1;cases j:((m.p.inc v).length==1);rw[j]at g;exact Zh (zi g (@Zl Int (m.p.inc v)));rw[j]at g;have h:decide ((out.length:Int)>1)=decide (1<out.length):=gtN _ 1;cases i:decide (1<out.length);rw[i]at h;exact Zh (zi g (zi h (zi (@Zl Int (m.p.inc v)) (@Zl Int out))));rw[i]at h;refine Zg (zi g (zi h (zi (@Zl Int (m.p.inc v)) (@Zl Int out)))) ?_;have n:=Lv G a b.ent c.ent d.ent e.ent .old m f vs r (Zb out) (by rw[Zl];exact Zog i) (by rw[Zl];omega) (by rw[Zl];exact o);rw[Zl]at n;refine Zc a ?_ (s:=n);refine Z ?_;rfl
theorem Rd.i64{H:Heap}{o g n:Nat}{l:List Int}(h:H o=.cells .new g 0 (flat (l.map (V.int .i64))))(a:l.length=n):Rd H (.msl o g 0 n 1) (Za .old 1 (V.int .i64) (.mk false l)):=by
 subst a;have:=Rd.msl (l:=l) (off:=0) (n:=l.length) (m:=1) (f:=V.int .i64) (f':=V.int .i64) (g:=g) (fz:=0) (c:=.new) h (λ_=>rfl) inIm (λ_=>rfl) zo;rw[List.drop_zero,List.take_length,Nat.zero_mul]at this;exact this
theorem Zn0(G:Nat->V)(j:GExp G)(b c d e:Col)(m:MdM)(h vs:Sl (List UInt8))(f:vs.l=m.p.vn)(n:vs.l.length<100000)(g:m.events.l.length<1000000)(t:Int)(v:0<=t)(u:t<m.p.ways.length)(i:(m.p.wy t).effect.length<=900):
  Spec Tryz.prog G 107 [Vm b c d e m h vs,.int .i64 t] Zi (λw _=>w=.bool (m.p.k12 Xd t)):=by
 have r:=j.ok;refine Zo 0 16 [.tmp 4] Tryz.func107 λX=>?_;obtain⟨k,x,rfl,o,q,a⟩:=MdM.wyAt v u;rw[PM.k12,PM.body,a,<- f];rw[a]at i;refine Zf (zi q (zi o (zi Z8 (zi Xh (zi @Int.natCast_nonneg @Int.ofNat_lt))))) ?_;refine Zc r ?_ (s:=Lw G j b.ent c.ent d.ent e.ent m h vs x.effect i n g);exact Zr
theorem Zm0(G:Nat->V)(o:GExp G)(b c d e:Col)(m:MdM)(a vs:Sl (List UInt8))(j:vs.l=m.p.vn)(t:vs.l.length<100000)(f:m.events.l.length<1000000)(v:Int)(A:0<=v)(z:v<m.p.vertices.length)(i:(m.p.vx v).entry.length<=900/\(m.p.vx v).exit.length<=900):
  Spec Tryz.prog G 108 [Vm b c d e m a vs,.int .i64 v] Zi (λw _=>w=.bool (m.p.k13 Xd v)):=by
 have g:=o.ok;refine Zo 0 36 [.tmp 4] Tryz.func108 λX=>?_;rw[PM.k13,PM.body,PM.body,<- j];refine Z ?_;intro C;refine Zs ?_;refine CallA.bor g [Vm b.ent c.ent d.ent e.ent m a vs,.int .i64 v,Za .old 1 (V.int .u8) (.mk false [1])] zk ⟨Yv (Ok _ _ _ _ _ _ _) zp,Yv (.int _ _) rfl,Rd.u8 (l:=[1]) zp rfl,trivial⟩ ?_;refine(Wj G g _ _ _ _ .old m a vs v A z (.mk false [1]) zd).mono ?_;rintro _ _ rfl;refine⟨.bool _,?_⟩;rw[Sj];obtain⟨k,x,rfl,u,y,h⟩:=MdM.at A z;rw[h]at i⊢;cases q:(m.p.kd k==1);refine Zs ?_;exact Zr;refine Zg (zi y (zi u (zi Zt (zi Xh (zi @Int.natCast_nonneg @Int.ofNat_lt))))) ?_;refine Zc g ?_ (s:=Lw G o b.ent c.ent d.ent e.ent m a vs x.entry i.1 t f);have B:Xd vs.l m.p.events x.p.entry=Xd vs.l m.events.l x.entry:=rfl;have n:Xd vs.l m.p.events x.p.exit=Xd vs.l m.events.l x.exit:=rfl;rw[B,n];cases r:Xd vs.l m.events.l x.entry;exact Zh r;refine Zg (zi r (zi y (zi u (zi Zt (zi Xh (zi @Int.natCast_nonneg @Int.ofNat_lt)))))) ?_;refine Zc g ?_ (s:=Lw G o b.ent c.ent d.ent e.ent m a vs x.exit i.2 t f);exact Zr
theorem Zl0(G:Nat->V)(o:Y6 G)(b c d e:Col)(m:MdM)(a vs:Sl (List UInt8))(j:m.p.Rt)(t:Int)(y:0<=t)(u:t<m.p.ways.length):
  Spec Tryz.prog G 109 [Vm b c d e m a vs,.int .i64 t] Zi (λw _=>w=.bool (m.p.k14 t)):=by
 refine Zo 0 22 [.tmp 4] Tryz.func109 λX=>?_;obtain⟨k,x,rfl,s,n,g⟩:=MdM.wyAt y u;obtain⟨⟨r,q⟩,t0,t1⟩:=j.wayAt x.p (List.mem_of_getElem? (i:=k) (by show(m.ways.l.map TrM.p)[k]?=_;rw[List.getElem?_map,n]<;>rfl));rw[PM.k14,g];refine Zf (zi n (zi s (zi Z8 (zi Xh (zi @Int.natCast_nonneg @Int.ofNat_lt))))) ?_;intro A;refine Zf Z8 ?_;intro z;refine Zs ?_;refine CallA.bor o [Vm b.ent c.ent d.ent e.ent m a vs,Za .old 1 (V.int .i64) (.mk false [x.source,x.target])] zk ⟨Yv (Ok b c d e m a vs) (Q7 _ _ _ _ _ _ _ _),Rd.i64 (l:=[x.source,x.target]) zp rfl,trivial⟩ ?_;refine(Lv G o _ _ _ _ .old m a vs j (.mk false [x.source,x.target]) (by intro h;cases h) (by show 2<1000000;decide) (λv f=>?_)).mono ?_;have f:v∈[x.source,x.target]:=f;simp only[List.mem_cons,List.not_mem_nil,or_false]at f
 rcases f with rfl|rfl
 exact⟨r,q⟩;exact⟨t0,t1⟩;rintro _ _ rfl;refine⟨.bool _,?_⟩;refine Zs ?_;exact Zr
theorem Zr4(G:Nat->V)(g:Y6 G)(b c d e:Col)(m:MdM)(a vs:Sl (List UInt8))(v:m.p.Rt)(t:Int)(A:0<=t)(z:t<m.p.ways.length):
  Spec Tryz.prog G 104 [Vm b c d e m a vs,.int .i64 t] Zi (λw _=>w=.bool (m.p.k9 t)):=by
 refine Zo 0 30 [.tmp 4] Tryz.func104 λX=>?_;obtain⟨k,x,rfl,y,s,h⟩:=MdM.wyAt A z;obtain⟨⟨o,n⟩,t0,t1⟩:=v.wayAt x.p (List.mem_of_getElem? (i:=k) (by show(m.ways.l.map TrM.p)[k]?=_;rw[List.getElem?_map,s]<;>rfl));rw[PM.k9,h];have u:(x.p.triggers.length==0&&x.p.after==0||m.p.kd x.p.source==1)=((x.triggers.l.length==0&&x.after==0)||m.p.kd x.source==1):=rfl;rw[u];refine Zf (zi s (zi y (zi Z8 (zi Xh (zi @Int.natCast_nonneg @Int.ofNat_lt))))) ?_;intro B;have f:((x.triggers.l.length:Int)==0)=(x.triggers.l.length==0):=eqN _ 0;cases r:(x.triggers.l.length==0);rw[r]at f;refine Zf (zi f Z8) ?_;intro j;refine Zs ?_;refine CallA.bor g [Vm b.ent c.ent d.ent e.ent m a vs,.int .i64 x.source,Za .old 1 (V.int .u8) (.mk false [1])] zk ⟨Yv (Ok _ _ _ _ _ _ _) zp,Yv (.int _ _) rfl,Rd.u8 (l:=[1]) zp rfl,trivial⟩ ?_;refine(Wj G g _ _ _ _ .old m a vs x.source o n (.mk false [1]) zd).mono ?_;rintro _ _ rfl;refine⟨.bool _,?_⟩;rw[Sj];refine Zs ?_;exact Zr;rw[r]at f;cases q:(x.after==0);refine Zf (zi f (zi q Z8)) ?_;intro j;refine Zs ?_;refine CallA.bor g [Vm b.ent c.ent d.ent e.ent m a vs,.int .i64 x.source,Za .old 1 (V.int .u8) (.mk false [1])] zk ⟨Yv (Ok _ _ _ _ _ _ _) zp,Yv (.int _ _) rfl,Rd.u8 (l:=[1]) zp rfl,trivial⟩ ?_;refine(Wj G g _ _ _ _ .old m a vs x.source o n (.mk false [1]) zd).mono ?_;rintro _ _ rfl;refine⟨.bool _,?_⟩;rw[Sj];refine Zs ?_;exact Zr;exact Zq (zi f (zi q Z8))
theorem Z04(G:Nat->V)(v:Y6 G)(b c d e:Col)(m:MdM)(j vs:Sl (List UInt8))(E:m.verts.l.length<1000000)(r:Int):
  Spec Tryz.prog G 96 [Vm b c d e m j vs,.int .i64 r] Zi (λw _=>w=.bool (m.p.k1 r)):=by
 refine Zo 0 34 [.tmp 4] Tryz.func96 λX=>?_
 have A:m.p.k1 r=((m.verts.l.filter λx=>x.kind==3&&x.region==r).length==1):=by
  show(((m.verts.l.map VtM.p).filter _).length==1)=_
  rw[List.filter_map,List.length_map]<;>rfl
 rw[A];simp only[Xh];refine Z ?_
 refine Yf m.verts.l.length (λk (_:Unit)=>st [(0,Vm b c d e m j vs),(1,.int .i64 r),(5,.int .i64 ((m.verts.l.take k).filter λx=>x.kind==3&&x.region==r).length),(12,Za c 8 (Y0 d) m.verts),(13,.int .i64 m.verts.l.length),(14,.int .i64 k)] [])
  (λ_ _=>True) 0 () (Nat.zero_le _) trivial (Weak.st (V9 @Xh) zp) ?_
 intro k _ F _ I a
 by_cases f:k<m.verts.l.length
 have g:decide ((k:Int)<(m.verts.l.length:Int))=true:=zT;have t:=List.getElem?_eq_getElem f
 have h:m.verts.l.take (k+1)=m.verts.l.take k++[m.verts.l[k]]:=by rw[List.take_succ_eq_append_getElem f]
 have z:((m.verts.l.take k).filter λx=>x.kind==3&&x.region==r).length<=k:=Nat.le_trans (List.length_filter_le _ _) (by rw[List.length_take];omega);generalize m.verts.l[k]=x at t h;rw[h,List.filter_append,List.length_append]at a;generalize((m.verts.l.take k).filter λx=>x.kind==3&&x.region==r).length=n at z a;have o:IntKind.i64.wrap ((k:Int)+1)=(k:Int)+1:=W0 zo zo;have y:IntKind.i64.wrap ((n:Int)+1)=(n:Int)+1:=W0 zo zo;have C:(0:Int)<=(k:Int):=Int.natCast_nonneg k
 have B:(k:Int)<m.p.vertices.length:=by rw[m.nv];omega
 have s:m.p.kd (k:Int)=x.kind:=by rw[PM.kd,Ps t]<;>rfl
 refine Zf (zi g (zi t Zt)) ?_;intro H;refine Z ?_;intro D;refine Zs ?_;refine CallA.bor v [Vm b.ent c.ent d.ent e.ent m j vs,.int .i64 k,Za .old 1 (V.int .u8) (.mk false [3])] zk ⟨Yv (Ok _ _ _ _ _ _ _) zp,Yv (.int _ _) rfl,Rd.u8 (l:=[3]) zp rfl,trivial⟩ ?_;refine(Wj G v _ _ _ _ .old m j vs k C B (.mk false [3]) zd).mono ?_;rintro _ _ rfl;refine⟨.bool _,?_⟩;rw[Sj,s];cases u:(x.kind==3);rw[List.filter_cons_of_neg (by simp[u])]at a;simp only[List.filter_nil,List.length_nil,Nat.add_zero]at a;refine Zs ?_;refine Zf o ?_;exact a _ ⟨f,(),trivial,Weak.st zp zp⟩;cases i:(x.region==r);rw[List.filter_cons_of_neg (by simp[i])]at a;simp only[List.filter_nil,List.length_nil,Nat.add_zero]at a;refine Zg (zi i (zi o Zt)) ?_;exact a _ ⟨f,(),trivial,Weak.st zp zp⟩;rw[List.filter_cons_of_pos (by simp[u,i])]at a;simp only[List.filter_nil,List.length_cons,List.length_nil,Nat.zero_add]at a;refine Zg (zi i (zi o (zi y Zt))) ?_;exact a _ ⟨f,(),trivial,Weak.st (by refine Zs ?_;exact⟨rfl,rfl⟩) zp⟩;have q:k=m.verts.l.length:=zo;subst q;rw[List.take_length];have g:decide ((m.verts.l.length:Int)<(m.verts.l.length:Int))=false:=zS;refine Zf g ?_
 rw[<- eqN]<;>rfl
theorem Zo0(G:Nat->V)(j:Y6 G)(b c d e:Col)(m:MdM)(h vs:Sl (List UInt8))(v:m.p.Rt)(t:Int)(C:0<=t)(B:t<m.p.ways.length):
  Spec Tryz.prog G 106 [Vm b c d e m h vs,.int .i64 t] Zi (λw _=>w=.bool (m.p.k11 t)):=by
 refine Zo 0 45 [.tmp 4] Tryz.func106 λX=>?_;obtain⟨k,x,rfl,A,y,n⟩:=MdM.wyAt C B;obtain⟨⟨r,o⟩,t0,t1⟩:=v.wayAt x.p (List.mem_of_getElem? (i:=k) (by show(m.ways.l.map TrM.p)[k]?=_;rw[List.getElem?_map,y]<;>rfl));rw[PM.k11,n]
 have z:(if x.p.kind=3 then x.p.source==x.p.target&&m.p.kd x.p.source==1 else if x.p.kind=2 then m.p.kd x.p.source==1&&m.p.inB x.p.target x.p.source else true) =
  (if x.kind=3 then x.source==x.target&&m.p.kd x.source==1 else if x.kind=2 then m.p.kd x.source==1&&m.p.inB x.target x.source else true):=rfl
 rw[z];refine Zf (zi y (zi A (zi Z8 (zi Xh (zi @Int.natCast_nonneg @Int.ofNat_lt))))) ?_;intro F
 by_cases a:x.kind=3
 rw[if_pos a];have q:(x.kind==3)=true:=zu a;cases g:(x.source==x.target);exact Zq (zi q (zi g Z8));refine Zf (zi q (zi g Z8)) ?_;intro E;refine Zs ?_;refine CallA.bor j [Vm b.ent c.ent d.ent e.ent m h vs,.int .i64 x.source,Za .old 1 (V.int .u8) (.mk false [1])] zk ⟨Yv (Ok _ _ _ _ _ _ _) zp,Yv (.int _ _) rfl,Rd.u8 (l:=[1]) zp rfl,trivial⟩ ?_;refine(Wj G j _ _ _ _ .old m h vs x.source r o (.mk false [1]) zd).mono ?_;rintro _ _ rfl;refine⟨.bool _,?_⟩;rw[Sj];refine Zs ?_;exact Zr;rw[if_neg a];have q:(x.kind==3)=false:=zu a
 by_cases f:x.kind=2
 rw[if_pos f];have g:(x.kind==2)=true:=zu f;refine Zf (zi q (zi g Z8)) ?_;intro D;refine Zs ?_;refine CallA.bor j [Vm b.ent c.ent d.ent e.ent m h vs,.int .i64 x.source,Za .old 1 (V.int .u8) (.mk false [1])] zk ⟨Yv (Ok _ _ _ _ _ _ _) zp,Yv (.int _ _) rfl,Rd.u8 (l:=[1]) zp rfl,trivial⟩ ?_;refine(Wj G j _ _ _ _ .old m h vs x.source r o (.mk false [1]) zd).mono ?_;rintro _ _ rfl;refine⟨.bool _,?_⟩;rw[Sj];cases u:(m.p.kd x.source==1);exact Zh u;refine Zg (zi u Z8) ?_;refine Zc j ?_ (s:=Jl G j b.ent c.ent d.ent e.ent m h vs v x.target x.source t0 t1);exact Zr;rw[if_neg f];have g:(x.kind==2)=false:=zu f;exact Zq (zi q g)
theorem Zk0(G:Nat->V)(o:Y6 G)(b c d e:Col)(m:MdM)(C vs:Sl (List UInt8))(E:m.p.Rt)(t:Int)(P:0<=t)(O:t<m.p.ways.length):
  Spec Tryz.prog G 110 [Vm b c d e m C vs,.int .i64 t] Zi (λw _=>w=.bool (m.p.k15 t)):=by
 refine Zo 0 65 [.tmp 4] Tryz.func110 λX=>?_;obtain⟨k,x,rfl,N,J,D⟩:=MdM.wyAt P O;obtain⟨⟨A,v⟩,t0,t1⟩:=E.wayAt x.p (List.mem_of_getElem? (i:=k) (by show(m.ways.l.map TrM.p)[k]?=_;rw[List.getElem?_map,J]<;>rfl));obtain⟨i,y,I,F,H,L⟩:=MdM.at t0 t1;obtain⟨j,z,n,r,u,K⟩:=MdM.at A v;rw[PM.k15,D,PM.kd,L,K];have I:x.target=(i:Int):=I;have n:x.source=(j:Int):=n
 have M:(if y.p.kind=10 then !(x.p.source==y.p.of) && !m.p.inB x.p.source y.p.of else if y.p.kind=11 then m.p.inB x.p.source y.p.of && !(z.p.of==y.p.of)else true) =
  (if y.kind=10 then !(x.source==y.of) && !m.p.inB x.source y.of else if y.kind=11 then m.p.inB x.source y.of && !(z.of==y.of)else true):=rfl
 rw[M];refine Zf (zi J (zi N (zi Z8 (zi Xh (zi @Int.natCast_nonneg @Int.ofNat_lt))))) ?_;intro S;refine Ha (zi I (zi H (zi F (zi Z8 (zi Zt (zi Xh (zi @Int.natCast_nonneg @Int.ofNat_lt))))))) o ?_;intro R
 by_cases f:y.kind=10
 rw[if_pos f];have q:(y.kind==10)=true:=zu f;cases g:(x.source==y.of)
 have B:(x.source != y.of)=true:=by rw[bne,g]<;>rfl
 refine Zf (zi q (zi B (zi Z8 Zt))) ?_;refine Zc o ?_ (s:=Jl G o b.ent c.ent d.ent e.ent m C vs E x.source y.of A v);exact Zr
 have B:(x.source != y.of)=false:=by rw[bne,g]<;>rfl
 exact Zq (zi q (zi B (zi Z8 Zt)));rw[if_neg f];have q:(y.kind==10)=false:=zu f
 by_cases a:y.kind=11
 rw[if_pos a];have g:(y.kind==11)=true:=zu a;have h:=λb c d e=>Jl G o b c d e m C vs E x.source y.of A v;rw[n]at h⊢;refine Xc (zi q (zi g n)) ?_;refine Xc (zi q (zi g n)) ?_;refine Xc (zi q (zi g n)) ?_;refine Z0f (zi q (zi g n)) ?_;generalize m.p.inB (j:Int) y.of=Q at h⊢;refine Z4 ?_;cases Q;refine Zp ⟨λi=>if i=5 then .bool false else .top,λ_=>.pure⟩ zk o zk zk ?_;refine Xw (zi n (zi u (zi r (zi @Zt (zi @Z8 (zi @Xh (zi @Int.natCast_nonneg @Int.ofNat_lt))))))) ?_;refine⟨⟨zk,by refine Zs ?_;exact(h _ _ _ _).mono (by rintro _ _ rfl;rfl)⟩,?_⟩;exact Zr;refine Zp ⟨λi=>if i=5 then .bool true else .top,λ_=>.pure⟩ zk o zk zk ?_;refine Xw (zi n (zi u (zi r (zi @Zt (zi @Z8 (zi @Xh (zi @Int.natCast_nonneg @Int.ofNat_lt))))))) ?_;refine⟨⟨zk,by refine Zs ?_;exact(h _ _ _ _).mono (by rintro _ _ rfl;rfl)⟩,?_⟩;exact Zr;rw[if_neg a];have g:(y.kind==11)=false:=zu a;exact Zq (zi q g)
theorem leN(n k:Nat):decide (((n:Nat):Int)<=((k:Nat):Int))=decide (n<=k):=decide_eq_decide.2 zo
theorem Zv4(G:Nat->V)(F:GExp G)(b c d e:Col)(m:MdM)(o vs:Sl (List UInt8))(D:m.ways.l.length<1000000)(C:∀ t∈m.ways.l,t.guard.length<100000)(v:Int)(L:0<=v)(K:v<m.p.vertices.length):
  Spec Tryz.prog G 101 [Vm b c d e m o vs,.int .i64 v] Zi (λw _=>w=.bool (m.p.k6 v)):=by
 have j:=F.ok;refine Zo 0 53 [.tmp 4] Tryz.func101 λX=>?_
 have J:m.p.elses v=(m.ways.l.filter λt=>t.source==v&&Qm t.guard).length:=by
  show((m.ways.l.map TrM.p).filter _).length=_
  rw[List.filter_map,List.length_map]<;>rfl
 rw[PM.k6,J];simp only[Xh];refine Z ?_
 refine Yf m.ways.l.length (λk (_:Unit)=>st [(0,Vm b c d e m o vs),(1,.int .i64 v),(5,.int .i64 ((m.ways.l.take k).filter λt=>t.source==v&&Qm t.guard).length),(12,Za c 8 (Xp d) m.ways),(13,.int .i64 m.ways.l.length),(14,.int .i64 k)] [])
  (λ_ _=>True) 0 () (Nat.zero_le _) trivial (Weak.st (V9 @Xh) zp) ?_
 intro k _ O _ Q a
 by_cases f:k<m.ways.l.length
 have i:decide ((k:Int)<(m.ways.l.length:Int))=true:=zT;have E:=List.getElem?_eq_getElem f
 have u:m.ways.l.take (k+1)=m.ways.l.take k++[m.ways.l[k]]:=by rw[List.take_succ_eq_append_getElem f]
 have r:=C m.ways.l[k] (List.getElem_mem f);have I:((m.ways.l.take k).filter λt=>t.source==v&&Qm t.guard).length<=k:=Nat.le_trans (List.length_filter_le _ _) (by rw[List.length_take];omega);generalize m.ways.l[k]=x at E u r;rw[u,List.filter_append,List.length_append]at a;generalize((m.ways.l.take k).filter λt=>t.source==v&&Qm t.guard).length=n at I a;have A:IntKind.i64.wrap ((k:Int)+1)=(k:Int)+1:=W0 zo zo;have H:IntKind.i64.wrap ((n:Int)+1)=(n:Int)+1:=W0 zo zo;refine Zf (zi i (zi E Z8)) ?_;intro P;cases h:(x.source==v);rw[List.filter_cons_of_neg (by simp[h])]at a;simp only[List.filter_nil,List.length_nil,Nat.add_zero]at a;refine Zf (zi h (zi A Z8)) ?_;exact a _ ⟨f,(),trivial,Weak.st (V9 @Xh) zp⟩;refine Zf (zi h Z8) ?_;refine Zc j ?_ (s:=Fh G F x.guard r);cases g:Qm x.guard;rw[List.filter_cons_of_neg (by simp[g])]at a;simp only[List.filter_nil,List.length_nil,Nat.add_zero]at a;refine Zg (zi g A) ?_;exact a _ ⟨f,(),trivial,Weak.st (V9 @Xh) zp⟩;rw[List.filter_cons_of_pos (by simp[h,g])]at a;simp only[List.filter_nil,List.length_cons,List.length_nil,Nat.zero_add]at a;refine Zg (zi g (zi A H)) ?_;exact a _ ⟨f,(),trivial,Weak.st (by simp -implicitDefEqProofs only[go_sem,seval,Xh];exact⟨rfl,rfl⟩) zp⟩;have B:k=m.ways.l.length:=zo;subst B;rw[List.take_length];have i:decide ((m.ways.l.length:Int)<(m.ways.l.length:Int))=false:=zS;generalize(m.ways.l.filter λt=>t.source==v&&Qm t.guard).length=n;refine Zf i ?_;intro M;refine Zs ?_;refine CallA.bor j [Vm b.ent c.ent d.ent e.ent m o vs,.int .i64 v,Za .old 1 (V.int .u8) (.mk false [4,5])] zk ⟨Yv (Ok _ _ _ _ _ _ _) zp,Yv (.int _ _) rfl,Rd.u8 (l:=[4,5]) zp rfl,trivial⟩ ?_;refine(Wj G j _ _ _ _ .old m o vs v L K (.mk false [4,5]) zd).mono ?_;rintro _ _ rfl;refine⟨.bool _,?_⟩;rw[A7];cases q:(m.p.kd v==4||m.p.kd v==5)
 refine Zs ?_;exact Zr;refine Zs ?_;refine Zc j ?_ (s:=Mt G j _ _ _ _ m o vs D v);have z:decide (((m.p.inc v).length:Int)>0)=decide (0<(m.p.inc v).length):=gtN _ 0;cases h:decide (0<(m.p.inc v).length);rw[h]at z;exact Zh (zi z (@Zl Int (m.p.inc v)));rw[h]at z;refine Zg (zi z (@Zl Int (m.p.inc v))) ?_;refine Zc j ?_ (s:=Sq G j _ _ _ _ m o vs D v);have y:decide (((m.p.out v).length:Int)>0)=decide (0<(m.p.out v).length):=gtN _ 0;cases g:decide (0<(m.p.out v).length);rw[g]at y;exact Zh (zi y (@Zl Int (m.p.out v)));rw[g]at y;have N:decide ((n:Int)<=1)=decide (n<=1):=leN _ 1;exact Zh (zi y (zi N (@Zl Int (m.p.out v))))
@[go_sem] theorem loadK_ck(n:Nat)(ob:AObj)(c1 b c d e:Col)(m:MdM)(a vs:Sl (List UInt8)):Tz (some (false,n)) ob (.view c1 (Vm b c d e m a vs))=some (Vm b c d e m a vs):=rfl
theorem Zpv(G:Nat->V)(f:Y6 G)(i b c d e:Col)(m:MdM)(a vs:Sl (List UInt8))(v:Int)(h:0<=v)(g:v<m.p.vertices.length):
  Spec Tryz.prog G 172 [.int .i64 v,.view i (Vm b c d e m a vs)] Zi (λw _=>w=.bool (!(m.p.kd v==1))):=by
 refine Zo 0 9 [.tmp 3] Tryz.func172 λX=>?_;refine Z ?_;intro j;refine Zs ?_;refine CallA.bor f [Vm b.ent c.ent d.ent e.ent m a vs,.int .i64 v,Za .old 1 (V.int .u8) (.mk false [1])] zk ⟨Yv (Ok _ _ _ _ _ _ _) zp,Yv (.int _ _) rfl,Rd.u8 (l:=[1]) zp rfl,trivial⟩ ?_;refine(Wj G f _ _ _ _ .old m a vs v h g (.mk false [1]) zd).mono ?_;rintro _ _ rfl;refine⟨.bool _,?_⟩;rw[Sj];refine Zs ?_;exact Zr
theorem Zjw(G:Nat->V)(t:Y6 G)(c1 o b c d e:Col)(m:MdM)(i vs:Sl (List UInt8))(s:Sl Int)(B:s.l.length<1000000)(A:∀ v∈s.l,0<=v/\v<m.p.vertices.length):
  Spec Tryz.prog G 127 [Za c1 1 (V.int .i64) s,.func (.func 172) [] [.view o (Vm b c d e m i vs)]] Zi (λv _=>v=.int .i64 (Qf (λu => !(m.p.kd u==1)) s.l)):=by
 refine Zo 0 19 [.tmp 4] Tryz.func127 λX=>?_;refine Z ?_
 refine Yf s.l.length (λk (_:Unit)=>st [(0,Za c1 1 (V.int .i64) s),(1,.func (.func 172) [] [.view o (Vm b c d e m i vs)]),(7,.int .i64 s.l.length),(8,.int .i64 k)] []) (λk _=>∀ y∈s.l.take k,(!(m.p.kd y==1))=false) 0 () (Nat.zero_le _) zS
  (Weak.st zp zp) ?_
 intro k _ C h D n
 by_cases f:k<s.l.length
 .have a:decide ((k:Int)<(s.l.length:Int))=true:=zT
  have g:=List.getElem?_eq_getElem f;obtain⟨r,q⟩:=A s.l[k] (List.getElem_mem f);generalize s.l[k]=x at g r q;refine Zf (zi a g) ?_;refine Zc t ?_ (s:=Zpv G t o.ent b.ent c.ent d.ent e.ent m i vs x r q)
  cases w:(!(m.p.kd x==1))with
  |true=>
   refine Z ?_;rw[V3 (p:=λu => !(m.p.kd u==1)) g h w]
  |false=>
   have z:IntKind.i64.wrap ((k:Int)+1)=(k:Int)+1:=W0 zo zo;refine Zf z ?_;exact n _ ⟨f,(),U1 g h w,Weak.st zp zp⟩
 have j:k=s.l.length:=zo;have a:decide ((k:Int)<(s.l.length:Int))=false:=zF;rw[j,List.take_length]at h;refine Zf a ?_;rw[V4 (p:=λu => !(m.p.kd u==1)) h]
theorem Zax(G:Nat->V)(f:Y6 G)(c1 g b c d e:Col)(m:MdM)(a vs:Sl (List UInt8))(s:Sl Int)(h:s.l.length<1000000)(i:∀ v∈s.l,0<=v/\v<m.p.vertices.length):
  Spec Tryz.prog G 67 [Za c1 1 (V.int .i64) s,.func (.func 172) [] [.view g (Vm b c d e m a vs)]] Zi (λv _=>v=.bool (s.l.any λu => !(m.p.kd u==1))):=by
 refine Zo 0 9 [.tmp 4] Tryz.func67 λX=>?_;refine Z ?_;refine Zc f ?_ (s:=Zjw G f c1.ent g.ent b.ent c.ent d.ent e.ent m a vs s h i);refine Z ?_;rw[Ph]
theorem Zw4(G:Nat->V)(a:Y6 G)(b c d e:Col)(m:MdM)(f vs:Sl (List UInt8))(x:m.p.Rt)(r:m.ways.l.length<1000000)(v:Int)(C:0<=v)(B:v<m.p.vertices.length):
  Spec Tryz.prog G 100 [Vm b c d e m f vs,.int .i64 v] Zi (λw _=>w=.bool (m.p.k5 v)):=by
 refine Zo 0 37 [.tmp 4] Tryz.func100 λX=>?_;rw[PM.k5];have j:=x.incR v;have z:=Zi5 m v;refine Z ?_;intro E;refine AW.weak (Zw (λo=>o==2) (l:=[(1,.int .i64 v),(2,.view .new (Vm b c d e m f vs))]) (m:=[]) ?_ trivial) ?_;refine Zs ?_;exact⟨Fz.same _,Fz.ptr (v:=Vm b c d e m f vs) (c:=.new) (fz:=0) zp zp⟩;refine Z ?_;refine Zc a ?_ (s:=Mt G a b.ent c.ent d.ent e.ent m f vs r v);generalize m.p.inc v=inc at j z;refine Z ?_;intro D;refine Zs ?_;refine CallA.bor a [Vm b.ent c.ent d.ent e.ent m f vs,.int .i64 v,Za .old 1 (V.int .u8) (.mk false [7])] zk ⟨Yv (Ok _ _ _ _ _ _ _) zp,Yv (.int _ _) rfl,Rd.u8 (l:=[7]) zp rfl,trivial⟩ ?_;refine(Wj G a _ _ _ _ .old m f vs v C B (.mk false [7]) zd).mono ?_;rintro _ _ rfl;refine⟨.bool _,?_⟩;rw[Sj];cases q:(m.p.kd v==7);exact Zh q;refine Zg q ?_;refine Zc a ?_ (s:=Sq G a b.ent c.ent d.ent e.ent m f vs r v);have g:(((m.p.out v).length:Int)==1)=((m.p.out v).length==1):=eqN _ 1;cases n:((m.p.out v).length==1);rw[n]at g;exact Zh (zi g (@Zl Int (m.p.out v)));rw[n]at g;have h:decide ((inc.length:Int)>1)=decide (1<inc.length):=gtN _ 1;cases i:decide (1<inc.length);rw[i]at h;exact Zh (zi g (zi h (zi (@Zl Int (m.p.out v)) (@Zl Int inc))));rw[i]at h;refine Zg (zi g (zi h (zi (@Zl Int (m.p.out v)) (@Zl Int inc)))) ?_;have y:=Zax G a .old .old b.ent c.ent d.ent e.ent m f vs (Zb inc) (by rw[Zl];omega) (by rw[Zl];exact j);rw[Zl]at y;refine Zc a ?_ (s:=y)
 have A:(inc.all λu=>m.p.kd u==1) = !(inc.any λu => !(m.p.kd u==1)):=by
  rw[List.all_eq_not_any_not]
 rw[A];cases k:(inc.any λu => !(m.p.kd u==1));rotate_left;exact Zh k;refine Zg k ?_;have t:=Lv G a b.ent c.ent d.ent e.ent .old m f vs x (Zb inc) (by rw[Zl];exact Zog i) (by rw[Zl];omega) (by rw[Zl];exact j);rw[Zl]at t;refine Zc a ?_ (s:=t);exact Zr
theorem Zmz(k j i x:Int):(Sl.mk false [k,j,i]).l.contains x=(x==k||x==j||x==i):=by
 show[k,j,i].contains x=_
 rw[List.contains_cons,List.contains_cons,List.contains_cons,List.contains_nil,Bool.or_false,Bool.or_assoc]
def Y1(names:List (List UInt8))(s:List UInt8):Int:=(Lr s names).2.2
theorem Zp0(G:Nat->V)(z:GExp G)(b c d e:Col)(m:MdM)(f vs:Sl (List UInt8))(M:m.p.Rt)(C:f.l=m.p.vn++[Qb])(D:f.l.length<1000000)(t:Int)(P:0<=t)(O:t<m.p.ways.length)(g:(m.p.wy t).guard.length<100000):
  Spec Tryz.prog G 105 [Vm b c d e m f vs,.int .i64 t] Zi (λw _=>w=.bool (m.p.k10 Y1 t)):=by
 have h:=z.ok;refine Zo 0 62 [.tmp 4] Tryz.func105 λX=>?_;obtain⟨k,x,rfl,N,I,n⟩:=MdM.wyAt P O;obtain⟨⟨H,F⟩,t0,t1⟩:=M.wayAt x.p (List.mem_of_getElem? (i:=k) (by show(m.ways.l.map TrM.p)[k]?=_;rw[List.getElem?_map,I]<;>rfl));rw[n]at g;have g:x.guard.length<100000:=g;rw[PM.k10,n,Y1,<- C]
 have L:(((m.p.kd x.p.source==4||m.p.kd x.p.source==5)&&Qm x.p.guard)||((Lr x.p.guard f.l).2.2==0&&((Yu x.p.guard).1.length==0||m.p.kd x.p.source==1||m.p.kd x.p.source==4||m.p.kd x.p.source==5))) =
  (((m.p.kd x.source==4||m.p.kd x.source==5)&&Qm x.guard)||((Lr x.guard f.l).2.2==0&&((Yu x.guard).1.length==0||m.p.kd x.source==1||m.p.kd x.source==4||m.p.kd x.source==5))):=rfl
 rw[L];refine Z1 ?_;refine Xc (zi I (zi N (zi Z8 (zi Xh (zi @Int.natCast_nonneg @Int.ofNat_lt))))) ?_;intro U;refine AW.weak (Zw (λo=>o==5) (l:=[(0,Vm b c d e m f vs),(5,.view .new (Xp d x))]) (m:=[]) ?_ trivial) ?_;refine Xw @Xh ?_;exact⟨Fz.same _,Fz.ptr (v:=Xp d x) (c:=.new) (fz:=0) zp zp⟩;refine Wr (fun(_:Unit)=>st [(0,Vm b c d e m f vs),(5,.view .new (Xp d x))] []) (λ_=>((m.p.kd x.source==4||m.p.kd x.source==5)&&Qm x.guard)=false) (λW y=>?_) ?_;refine Zf Z8 ?_;intro R;refine Zs ?_;refine CallA.bor h [Vm b.ent c.ent d.ent e.ent m f vs,.int .i64 x.source,Za .old 1 (V.int .u8) (.mk false [4,5])] zk ⟨Yv (Ok _ _ _ _ _ _ _) zp,Yv (.int _ _) rfl,Rd.u8 (l:=[4,5]) zp rfl,trivial⟩ ?_;refine(Wj G h _ _ _ _ .old m f vs x.source H F (.mk false [4,5]) zd).mono ?_;rintro _ _ rfl;refine⟨.bool _,?_⟩;rw[A7];cases q:(m.p.kd x.source==4||m.p.kd x.source==5);refine Zg q ?_;exact y _ () (by rw[q]<;>rfl) (Weak.st (V9 @Z8) zp);refine Zg (zi q Z8) ?_;refine Zc h ?_ (s:=Fh G z x.guard g);cases j:Qm x.guard;refine Zg j ?_;exact y _ () (by rw[j,Bool.and_false]) (Weak.st (V9 @Z8) zp);exact Zh j;intro _ K;rw[K,Bool.false_or];have u:=λE=>Zbf G z E x.guard f g D;generalize Lr x.guard f.l=p at u⊢;have r:∀ E,Spec Tryz.prog G 176 [.str x.guard,Za E 1 V.str f] Zi (λv _=>v=.tuple [.agg [Za .new 6 Y4 (Zb p.1)],.int .i64 p.2.1,.int .i64 p.2.2]):=u;refine Z4 ?_;refine Zp ⟨λi=>if i=6 then .tuple [.agg [Za .new 6 Y4 (Zb p.1)],.int .i64 p.2.1,.int .i64 p.2.2]else .top,λ_=>.pure⟩ zk h zk zk ?_;refine Xw (zi @Z8 @Xh) ?_;refine⟨⟨zk,by refine Zs ?_;exact(r _).mono (by rintro _ _ rfl;exact zm)⟩,?_⟩;intro S;have J:=T0 G z x.guard g;generalize Yu x.guard=T at J⊢;obtain⟨l,a,q⟩:=T;refine Zf Z8 ?_;refine Zn h ?_ (s:=J);simp only[encTok,encTks];refine Zs ?_;have A:((l.length:Int)==0)=(l.length==0):=eqN _ 0;cases B:(p.2.2==0)
 exact Zh B;cases j:(l.length==0);rotate_left;rw[j]at A;exact Zh (zi B (zi A (@Zl Tk l)));rw[j]at A;refine Zg (zi B (zi A (zi (@Zl Tk l) Z8))) ?_;intro Q;refine Zs ?_;refine CallA.bor h [Vm b.ent c.ent d.ent e.ent m f vs,.int .i64 x.source,Za .old 1 (V.int .u8) (.mk false [1,4,5])] zk ⟨Yv (Ok _ _ _ _ _ _ _) zp,Yv (.int _ _) rfl,Rd.u8 (l:=[1,4,5]) zp rfl,trivial⟩ ?_;refine(Wj G h _ _ _ _ .old m f vs x.source H F (.mk false [1,4,5]) zd).mono ?_;rintro _ _ rfl;refine⟨.bool _,?_⟩;rw[Zmz];refine Zs ?_;refine Z ?_;rw[Bool.true_and,Bool.false_or]
theorem Zz4(G:Nat->V)(f:Y6 G)(b c d e:Col)(m:MdM)(a vs:Sl (List UInt8))(C:m.p.Rt)(A:m.ways.l.length<1000000)(v:Int)(r:0<=v)(o:v<m.p.vertices.length):
  Spec Tryz.prog G 97 [Vm b c d e m a vs,.int .i64 v] Zi (λw _=>w=.bool (m.p.k2 v)):=by
 refine Zo 0 42 [.tmp 4] Tryz.func97 λX=>?_;rw[PM.k2];have B:=C.outR v;have I:=G3 m v;refine Z ?_;refine Zc f ?_ (s:=Sq G f _ _ _ _ m a vs A v);generalize m.p.out v=out at B I;obtain⟨k,x,rfl,D,E,H⟩:=MdM.at r o;rw[H];have t:x.p.region=x.region:=rfl;rw[t];refine Z0 ?_;refine Z4 ?_;cases q:(m.p.kd k==3);refine Zp ⟨λi=>if i=3 then .bool false else .top,λi=>if i=3 then .lend else .pure⟩ zk f zk zk ?_;refine Xw @Xh ?_;intro h;refine⟨BorC.of [Vm b.ent c.ent d.ent e.ent m a vs,.int .i64 k,Za .old 1 (V.int .u8) (.mk false [3])] zk ⟨Yv (Ok b c d e m a vs) (Q7 _ _ _ _ _ _ _ _),Yv (.int _ _) rfl,Rd.u8 (l:=[3]) zp rfl,trivial⟩ ((Wj G f _ _ _ _ .old m a vs k r o (.mk false [3]) zd).mono ?_),?_⟩;rintro _ _ rfl;exact⟨.bool _,by rw[Sj,q]⟩;exact Zr;cases z:(out.length==1);have K:((out.length:Int)==1)=false:=(eqN _ 1).trans z;refine Zp ⟨λi=>if i=3 then .bool true else .top,λi=>if i=3 then .lend else .pure⟩ zk f zk zk ?_;refine Xw (zi @Xh (zi @Zl K)) ?_;intro h;refine⟨BorC.of [Vm b.ent c.ent d.ent e.ent m a vs,.int .i64 k,Za .old 1 (V.int .u8) (.mk false [3])] zk ⟨Yv (Ok b c d e m a vs) (Q7 _ _ _ _ _ _ _ _),Yv (.int _ _) rfl,Rd.u8 (l:=[3]) zp rfl,trivial⟩ ((Wj G f _ _ _ _ .old m a vs k r o (.mk false [3]) zd).mono ?_),?_⟩;rintro _ _ rfl;exact⟨.bool _,by rw[Sj,q]⟩;exact Zr;obtain⟨w,rfl⟩:∃ w,out=[w]:=List.length_eq_one_iff.1 (zu z);obtain⟨w0,F⟩:=B w (List.mem_singleton.2 rfl);have g:=λb c d e=>Ji G f b c d e m a vs C w x.region w0 F;have u:[w].headD 0=w:=rfl;have n:Zb [w]=.mk false [w]:=rfl;rw[u];cases y:m.p.withinB w x.region
 rw[y]at g;refine Zp ⟨λi=>if i=3 then .bool true else if i=23 then .bool false else .top,λi=>if i=3 then .lend else .pure⟩ zk f zk zk ?_;refine Xw (zi @Xh (zi n (zi E (zi D (zi @Zt (zi @Int.natCast_nonneg @Int.ofNat_lt)))))) ?_;intro h;refine⟨BorC.of [Vm b.ent c.ent d.ent e.ent m a vs,.int .i64 k,Za .old 1 (V.int .u8) (.mk false [3])] zk ⟨Yv (Ok b c d e m a vs) (Q7 _ _ _ _ _ _ _ _),Yv (.int _ _) rfl,Rd.u8 (l:=[3]) zp rfl,trivial⟩ ((Wj G f _ _ _ _ .old m a vs k r o (.mk false [3]) zd).mono ?_),⟨zk,by refine Zs ?_;exact(g _ _ _ _).mono (by rintro _ _ rfl;rfl)⟩,?_⟩;rintro _ _ rfl;exact⟨.bool _,by rw[Sj,q]⟩;exact Zr;rw[y]at g;have j:=λb c d e=>Mt G f b c d e m a vs A k;generalize m.p.inc k=inc at j⊢;have J:((inc.length:Int)==0)=(inc.length==0):=eqN _ 0;refine Zp ⟨λi=>if i=3 then .bool true else if i=23 then .bool true else if i=28 then Za .new 1 (V.int .i64) (Zb inc)else .top,λi=>if i=3 then .lend else .pure⟩ zk f zk zk ?_;refine Xw (zi @Xh (zi n (zi @Zl (zi E (zi D (zi @Zt (zi @Int.natCast_nonneg @Int.ofNat_lt))))))) ?_;intro h;refine⟨BorC.of [Vm b.ent c.ent d.ent e.ent m a vs,.int .i64 k,Za .old 1 (V.int .u8) (.mk false [3])] zk ⟨Yv (Ok b c d e m a vs) (Q7 _ _ _ _ _ _ _ _),Yv (.int _ _) rfl,Rd.u8 (l:=[3]) zp rfl,trivial⟩ ((Wj G f _ _ _ _ .old m a vs k r o (.mk false [3]) zd).mono ?_),⟨zk,by refine Zs ?_;exact(g _ _ _ _).mono (by rintro _ _ rfl;rfl)⟩,⟨zk,by refine Zs ?_;exact(j _ _ _ _).mono (by rintro _ _ rfl;exact zm)⟩,?_⟩
 rintro _ _ rfl;exact⟨.bool _,by rw[Sj,q]⟩;refine Z ?_
 first|rfl|(rw[J]<;>rfl)
theorem Zt4(G:Nat->V)(z:Y6 G)(b c d e:Col)(m:MdM)(I vs:Sl (List UInt8))(P:m.p.Rt)(hw:m.ways.l.length<1000000)(v:Int)(h0:0<=v)(h1:v<m.p.vertices.length):
  Spec Tryz.prog G 103 [Vm b c d e m I vs,.int .i64 v] Zi (λw _=>w=.bool (m.p.k8 v)):=by
 refine Zo 0 67 [.tmp 4] Tryz.func103 λX=>?_;rw[PM.k8];have S:=P.outR v;have hl:=G3 m v;have C:=λb c d e=>Sq G z b c d e m I vs hw v;have L:=P.toRt5.pt h0 h1;generalize m.p.out v=out at S hl C;obtain⟨k,x,rfl,hk,hg,hx⟩:=MdM.at h0 h1;rw[PM.kd,hx];rw[hx]at L;refine Z1 ?_;refine Z0 ?_;refine Z4 ?_;refine Zp ⟨λi=>if i=10 then Za .new 1 (V.int .i64) (Zb out)else .top,λ_=>.pure⟩ zk z zk zk ?_;refine Xw (zi @Xh (zi hg (zi hk (zi @Zt (zi @Int.natCast_nonneg @Int.ofNat_lt))))) ?_;refine⟨⟨zk,by refine Zs ?_;exact(C _ _ _ _).mono (by rintro _ _ rfl;exact zm)⟩,?_⟩;intro g5;refine AW.weak (Zw (λo=>o==5) (l:=[(0,Vm b c d e m I vs),(5,.view .new (Y0 d x)),(6,Za .new 1 (V.int .i64) (Zb out))]) (m:=[]) ?_ trivial) ?_;refine Xw @Xh ?_;exact⟨Fz.same _,Fz.ptr (v:=Y0 d x) (c:=.new) (fz:=0) zp zp,Fz.same _⟩
 have hp:(if x.p.kind=11 then out.length==1 && !m.p.inB (out.headD 0) x.p.of else if x.p.kind=10 then Pn [] (out.map (m.p.regU · x.p.of))&&decide (0<out.length)else true) =
  (if x.kind=11 then out.length==1 && !m.p.inB (out.headD 0) x.of else if x.kind=10 then Pn [] (out.map (m.p.regU · x.of))&&decide (0<out.length)else true):=rfl
 rw[hp]
 by_cases n:x.kind=11
 rw[if_pos n];have q:(x.kind==11)=true:=zu n;refine Xc Zt ?_;refine Xc q ?_;refine Z0f q ?_;refine Z4 ?_;cases H:(out.length==1);have e1:((out.length:Int)==1)=false:=(eqN _ 1).trans H;refine Ha (zi @Zl e1) z ?_;exact Zr;obtain⟨w,rfl⟩:∃ w,out=[w]:=List.length_eq_one_iff.1 (zu H);obtain⟨w0,w1⟩:=S w (List.mem_singleton.2 rfl);have D:=λb c d e=>Jl G z b c d e m I vs P w x.of w0 w1;have U:[w].headD 0=w:=rfl;have M:Zb [w]=.mk false [w]:=rfl;rw[U];generalize m.p.inB w x.of=bb at D⊢;cases bb;refine Zp ⟨λi=>if i=10 then .bool false else .top,λ_=>.pure⟩ zk z zk zk ?_;refine Xw (zi M @Zt) ?_;refine⟨⟨zk,by refine Zs ?_;exact(D _ _ _ _).mono (by rintro _ _ rfl;rfl)⟩,?_⟩;exact Zr;refine Zp ⟨λi=>if i=10 then .bool true else .top,λ_=>.pure⟩ zk z zk zk ?_;refine Xw (zi M @Zt) ?_;refine⟨⟨zk,by refine Zs ?_;exact(D _ _ _ _).mono (by rintro _ _ rfl;rfl)⟩,?_⟩;exact Zr;rw[if_neg n];have q:(x.kind==11)=false:=zu n
 by_cases a:x.kind=10
 rotate_left;rw[if_neg a];have H:(x.kind==10)=false:=zu a;exact Zq (zi q (zi H Zt));rw[if_pos a];have H:(x.kind==10)=true:=zu a
 have R:0<=x.of:=by
  rcases L with h|h
  exact h.1;exact absurd (.inl a) h.2.2.2
 refine Zf (zi q (zi H Zt)) ?_
 refine Yf out.length (λj (g:Nat)=>st [(0,Vm b c d e m I vs),(5,.view .new (Y0 d x)),(6,Za .new 1 (V.int .i64) (Zb out)),(7,grown 62 g 1 ((out.take j).map (m.p.regU · x.of))),(41,Za .new 1 (V.int .i64) (Zb out)),(42,.int .i64 out.length),(43,.int .i64 j)] [(62,Yb g (V.int .i64) ((out.take j).map (m.p.regU · x.of)))])
  (λj _=>Pn [] (out.map (m.p.regU · x.of))=Pn ((out.take j).map (m.p.regU · x.of)) ((out.drop j).map (m.p.regU · x.of))) 0 0 (Nat.zero_le _) rfl (Weak.st (V9 (zi @Zt (@Zl Int out))) zp) ?_
 intro j g hj u L3 A
 by_cases t:j<out.length
 .have E:decide ((j:Int)<(out.length:Int))=true:=zT
  have F:=List.getElem?_eq_getElem t
  have J:out.take (j+1)=out.take j++[out[j]]:=by rw[List.take_succ_eq_append_getElem t]
  have O:out.drop j=out[j]::out.drop (j+1):=List.drop_eq_getElem_cons t;obtain⟨y0,y1⟩:=S out[j] (List.getElem_mem t)
  have Y:((out.take j).map (m.p.regU · x.of)).length<=j:=by rw[List.length_map,List.length_take];omega
  generalize out[j]=y at F J O y0 y1;have w2:IntKind.i64.wrap ((j:Int)+1)=(j:Int)+1:=W0 zo zo;rw[O,List.map_cons,Pn]at u;rw[J,List.map_append,List.map_cons,List.map_nil]at A;generalize(out.take j).map (m.p.regU · x.of)=B at Y u A
  have N:(Zb out).l[j]?=some y:=by rw[Zl];exact F
  refine Zf (zi E (zi F (zi N (zi t (zi (@Zl Int out) (zi Zt (zi @Int.natCast_nonneg @Int.ofNat_lt))))))) ?_;refine Zc z ?_ (s:=Jj G z b.ent c.ent d.ent e.ent m I vs P y x.of y0 y1 R);generalize m.p.regU y x.of=r at u A
  by_cases K:0<=r
  rotate_left;have Q:decide (r<0)=true:=zT;rw[u,decide_eq_false K];exact Zh Q;have Q:decide (r<0)=false:=zF;rw[decide_eq_true K,Bool.true_and]at u;refine Zg Q ?_;refine CallA.bor z [Za .old 1 (V.int .i64) (Zb B),.int .i64 r] zk ⟨N5 zp (λ_=>rfl) inIm (λ_=>rfl),Yv (.int _ _) rfl,trivial⟩ ?_;refine(Mr G z .old r (Zb B) (by rw[Zl];omega)).mono ?_;rintro _ _ rfl;rw[Zl];refine⟨.bool _,?_⟩;cases W:B.contains r;rotate_left;rw[W]at u;rw[u];exact Zh W;rw[W,Bool.not_false,Bool.true_and]at u;refine Zs ?_;refine Z ?_;intro g61;refine X2 (f:=V.int .i64) (l:=B) (l2:=[r]) (g:=g) (λ_=>rfl) rfl rfl rfl zp (Yg zo zO) λg2=>?_;refine Zs ?_;refine Zf w2 ?_;exact A _ ⟨t,g2,u,Weak.st (V9 @Zt) zp⟩
 have T:j=out.length:=zo;subst T;rw[List.drop_length]at u;have E:decide ((out.length:Int)<(out.length:Int))=false:=zS;rw[u];have e3:decide ((out.length:Int)>0)=decide (0<out.length):=gtN _ 0;refine Zf (zi E (zi (@Zl Int out) e3)) ?_;rfl
theorem Zu4(G:Nat->V)(g:Y6 G)(b c d e:Col)(m:MdM)(u vs:Sl (List UInt8))(Q:m.p.Rt)(U:m.ways.l.length<1000000)(W:m.verts.l.length<1000000)(v:Int)(S:0<=v)(R:v<m.p.vertices.length):
  Spec Tryz.prog G 102 [Vm b c d e m u vs,.int .i64 v] Zi (λw _=>w=.bool (m.p.k7 v)):=by
 refine Zo 0 77 [.tmp 4] Tryz.func102 λX=>?_;have P:=Q.outR v;have hl:=G3 m v;have s:=λb c d e=>Sq G g b c d e m u vs U v;rw[PM.k7];refine Z ?_;intro g12;refine Zs ?_;refine CallA.bor g [Vm b.ent c.ent d.ent e.ent m u vs,.int .i64 v,Za .old 1 (V.int .u8) (.mk false [8,9])] zk ⟨Yv (Ok _ _ _ _ _ _ _) zp,Yv (.int _ _) rfl,Rd.u8 (l:=[8,9]) zp rfl,trivial⟩ ?_;refine(Wj G g _ _ _ _ .old m u vs v S R (.mk false [8,9]) zd).mono ?_;rintro _ _ rfl;refine⟨.bool _,?_⟩;rw[A7];cases q:(m.p.kd v==8||m.p.kd v==9);exact Zh q;generalize m.p.out v=out at P hl s;obtain⟨k,x,rfl,hk,hg,O⟩:=MdM.at S R
 have hP:m.p.twins k=(m.verts.l.filter λy=>y.kind==x.kind&&y.region==x.region).length:=by
  rw[PM.twins,PM.kd,O]
  show((m.verts.l.map VtM.p).filter _).length=_
  rw[List.filter_map,List.length_map]<;>rfl
 rw[hP,O];have K:x.p.region=x.region:=rfl;rw[K];refine Xw q ?_;refine Z0f q ?_;refine Z4 ?_;refine Zp ⟨λi=>if i=10 then Za .new 1 (V.int .i64) (Zb out)else .top,λ_=>.pure⟩ zk g zk zk ?_;refine Xw (zi @Xh (zi hg (zi hk (zi @Zt (zi @Int.natCast_nonneg @Int.ofNat_lt))))) ?_;refine⟨⟨zk,by refine Zs ?_;exact(s _ _ _ _).mono (by rintro _ _ rfl;exact zm)⟩,?_⟩;intro g5;refine AW.weak (Zw (λo=>o==5) (l:=[(0,Vm b c d e m u vs),(5,.view .new (Y0 d x)),(6,Za .new 1 (V.int .i64) (Zb out))]) (m:=[]) ?_ trivial) ?_;refine Xw @Xh ?_;exact⟨Fz.same _,Fz.ptr (v:=Y0 d x) (c:=.new) (fz:=0) zp zp,Fz.same _⟩;refine Zf Xh ?_
 refine Yf m.verts.l.length (λj (_:Unit)=>st [(0,Vm b c d e m u vs),(5,.view .new (Y0 d x)),(6,Za .new 1 (V.int .i64) (Zb out)),(7,.int .i64 ((m.verts.l.take j).filter λy=>y.kind==x.kind&&y.region==x.region).length),(30,Za c 8 (Y0 d) m.verts),(31,.int .i64 m.verts.l.length),(32,.int .i64 j)] [])
  (λ_ _=>True) 0 () (Nat.zero_le _) trivial (Weak.st (V9 (zi @Xh @Zt)) zp) ?_
 intro j _ hj _ L3 a
 by_cases f:j<m.verts.l.length
 have h:decide ((j:Int)<(m.verts.l.length:Int))=true:=zT;have F:=List.getElem?_eq_getElem f
 have D:m.verts.l.take (j+1)=m.verts.l.take j++[m.verts.l[j]]:=by rw[List.take_succ_eq_append_getElem f]
 have hn:((m.verts.l.take j).filter λy=>y.kind==x.kind&&y.region==x.region).length<=j:=Nat.le_trans (List.length_filter_le _ _) (by rw[List.length_take];omega);generalize m.verts.l[j]=y at F D;rw[D,List.filter_append,List.length_append]at a;generalize((m.verts.l.take j).filter λy=>y.kind==x.kind&&y.region==x.region).length=n at hn a;have C:IntKind.i64.wrap ((j:Int)+1)=(j:Int)+1:=W0 zo zo;have T:IntKind.i64.wrap ((n:Int)+1)=(n:Int)+1:=W0 zo zo;refine Zf (zi h (zi F Zt)) ?_;intro g9;cases r:(y.kind==x.kind);rw[List.filter_cons_of_neg (by simp[r])]at a;simp only[List.filter_nil,List.length_nil,Nat.add_zero]at a;refine Zf (zi r (zi C Zt)) ?_;exact a _ ⟨f,(),trivial,Weak.st (V9 @Zt) zp⟩;cases t:(y.region==x.region);rw[List.filter_cons_of_neg (by simp[t])]at a;simp only[List.filter_nil,List.length_nil,Nat.add_zero]at a;refine Zf (zi r (zi t (zi C Zt))) ?_;exact a _ ⟨f,(),trivial,Weak.st (V9 @Zt) zp⟩;rw[List.filter_cons_of_pos (by simp[r,t])]at a;simp only[List.filter_nil,List.length_cons,List.length_nil,Nat.zero_add]at a;refine Zf (zi r (zi t (zi C (zi T Zt)))) ?_;exact a _ ⟨f,(),trivial,Weak.st (by simp -implicitDefEqProofs only[go_sem,seval,Zt];exact⟨rfl,rfl⟩) zp⟩;have L:j=m.verts.l.length:=zo;subst L;rw[List.take_length];have h:decide ((m.verts.l.length:Int)<(m.verts.l.length:Int))=false:=zS;generalize(m.verts.l.filter λy=>y.kind==x.kind&&y.region==x.region).length=n;refine Xc h ?_;refine Z0f h ?_;refine Z4 ?_;have B:((n:Int)==1)=(n==1):=eqN _ 1;have H:decide ((out.length:Int)<=1)=decide (out.length<=1):=decide_eq_decide.2 zo;have N:((out.length:Int)==0)=(out.length==0):=eqN _ 0;cases r:(x.region==0);rotate_left
 have A:(x.region != 0)=false:=by rw[bne,r]<;>rfl
 refine Zp ⟨λi=>.top,λ_=>.pure⟩ zk g zk zk ?_;refine Xw (zi @Zt (zi @Zl A)) ?_;exact Zr
 have A:(x.region != 0)=true:=by rw[bne,r]<;>rfl
 cases t:(n==1);rw[t]at B;refine Zp ⟨λi=>.top,λ_=>.pure⟩ zk g zk zk ?_;refine Xw (zi @Zt (zi @Zl (zi A B))) ?_;exact Zr;rw[t]at B;cases J:decide (out.length<=1);rw[J]at H;refine Zp ⟨λi=>.top,λ_=>.pure⟩ zk g zk zk ?_;refine Xw (zi @Zt (zi @Zl (zi A (zi B H)))) ?_;exact Zr;rw[J]at H;cases I:(out.length==0);rotate_left;rw[I]at N;refine Zp ⟨λi=>.top,λ_=>.pure⟩ zk g zk zk ?_;refine Xw (zi @Zt (zi @Zl (zi A (zi B (zi H N))))) ?_;exact Zr;rw[I]at N;have hle:out.length<=1:=zu J;have Y:¬ out.length=0:=zu I;obtain⟨w,rfl⟩:∃ w,out=[w]:=List.length_eq_one_iff.1 zo;obtain⟨w0,C⟩:=P w (List.mem_singleton.2 rfl);have z:=λb c d e=>Ji G g b c d e m u vs Q w x.region w0 C;have M:[w].headD 0=w:=rfl;have E:Zb [w]=.mk false [w]:=rfl;rw[M];generalize m.p.withinB w x.region=bb at z⊢;cases bb;refine Zp ⟨λi=>if i=23 then .bool false else .top,λ_=>.pure⟩ zk g zk zk ?_;refine Xw (zi @Zt (zi @Zl (zi A (zi B E)))) ?_;refine⟨⟨zk,by refine Zs ?_;exact(z _ _ _ _).mono (by rintro _ _ rfl;rfl)⟩,?_⟩;exact Zr;refine Zp ⟨λi=>if i=23 then .bool true else .top,λ_=>.pure⟩ zk g zk zk ?_;refine Xw (zi @Zt (zi @Zl (zi A (zi B E)))) ?_;refine⟨⟨zk,by refine Zs ?_;exact(z _ _ _ _).mono (by rintro _ _ rfl;rfl)⟩,?_⟩;exact Zr
theorem Jk(G:Nat->V)(b c d e:Col)(m:MdM)(n vs:Sl (List UInt8))(k:Nat):
  Spec Tryz.prog G 55 [Vm b c d e m n vs,.int .i64 k] Zi (λw _=>w=.int .i64 (m.p.places k)):=by
 refine Zo 0 33 [.tmp 4] Tryz.func55 λX=>?_;rw[PM.places,m.nv,m.nw];have f := @Xh
 by_cases i:k=1
 rw[if_pos i]
 have q:((k:Int)==1)=true:=by simp[i]
 exact Zq (zi q f);rw[if_neg i];have q:((k:Int)==1)=false:=(eqN k 1).trans (zu i)
 by_cases l:k<=8
 rw[if_pos (.inl l)];have a:decide ((k:Int)<=8)=true:=zT;exact Zq (zi q (zi a f));have a:decide ((k:Int)<=8)=false:=zF
 by_cases g:k=13
 rw[if_pos (.inr g)]
 have j:((k:Int)==13)=true:=by simp[g]
 exact Zq (zi q (zi a (zi j f)));rw[if_neg (λh=>h.elim l g)];have j:((k:Int)==13)=false:=(eqN k 13).trans (zu g);exact Zq (zi q (zi a (zi j f)))
theorem Z1v(G:Nat->V)(J:Y6 G)(c d:Col)(m:MdM)(H:m.vars.l.length<=600):
  Spec Tryz.prog G 53 [Zv c d m] Zi (λw _=>w=Vm .new c d .new m (.mk false (m.p.vn++[Qb])) (Zb m.p.vn)):=by
 refine Zo 0 39 [.tmp 2] Tryz.func53 λX=>?_;have b:m.p.vn=m.vars.l.map (·.1):=rfl
 have u:m.p.vn.length<=600:=by rw[b,List.length_map];exact H
 simp only[Zd];refine Z ?_;intro P;refine Z ?_;intro i;refine Z ?_
 refine Yf m.vars.l.length (λk (g:Nat)=>st [(3,.ptr 8 i 0),(10,Za c 2 Yw m.vars),(11,.int .i64 m.vars.l.length),(12,.int .i64 k)]
   [(8,.cells .new i 0 [.str m.name,Za c 2 Yw m.vars,Za c 1 V.str m.events,Za c 2 Yw m.regions,Za c 8 (Y0 d) m.verts,Za c 8 (Xp d) m.ways,.nils,grown 24 g 1 (m.p.vn.take k)]),(24,Yb g V.str (m.p.vn.take k))])
  (λ_ _=>True) 0 0 (Nat.zero_le _) trivial (Weak.st zp (by refine Zs ?_;exact⟨rfl,rfl⟩)) ?_
 intro k g O _ Q r
 by_cases n:k<m.vars.l.length
 have j:decide ((k:Int)<(m.vars.l.length:Int))=true:=zT;have E:=List.getElem?_eq_getElem n
 have z:k<m.p.vn.length:=by rw[b,List.length_map];exact n
 have t:m.p.vn.take (k+1)=m.p.vn.take k++[(m.vars.l[k]).1]:=by rw[List.take_succ_eq_append_getElem z];simp[b]
 have y:(m.p.vn.take k).length=k:=by rw[List.length_take];omega
 generalize m.vars.l[k]=x at E t;have F:IntKind.i64.wrap ((k:Int)+1)=(k:Int)+1:=W0 zo zo;rw[t]at r;generalize m.p.vn.take k=C at y r;refine Zf (zi j (zi E Wn)) ?_;intro K;refine ZT J ?_;intro L;refine X2 (f:=V.str) (l:=C) (l2:=[x.1]) (g:=g) V1 rfl rfl rfl zp (Yg zo zO) λM=>?_;refine Zs ?_;refine Zf F ?_;exact r _ ⟨n,M,trivial,Weak.st zp zp⟩;have A:k=m.vars.l.length:=zo;subst A;rw[List.take_of_length_le (by rw[b,List.length_map];exact Nat.le_refl _)];have j:decide ((m.vars.l.length:Int)<(m.vars.l.length:Int))=false:=zS;generalize m.p.vn=vn at u⊢;refine AW.weak (Zw (λo=>o==24) (l:=[(3,.ptr 8 i 0),(11,.int .i64 m.vars.l.length),(12,.int .i64 m.vars.l.length)]) (m:=[(8,.cells .new i 0 [.str m.name,Za c 2 Yw m.vars,Za c 1 V.str m.events,Za c 2 Yw m.regions,Za c 8 (Y0 d) m.verts,Za c 8 (Xp d) m.ways,.nils,Za .new 1 V.str (Zb vn)])]) ?_ ?_) ?_;refine Zs ?_;exact⟨Fz.same _,Fz.same _⟩;simp only[Zy,Z2,and_true];exact FzO.of (c:=.new) (fz:=0) (cs:=[.str m.name,Za c 2 Yw m.vars,Za c 1 V.str m.events,Za c 2 Yw m.regions,Za c 8 (Y0 d) m.verts,Za c 8 (Xp d) m.ways,.nils,grown 24 g 1 vn]) rfl zp ⟨Fz.same _,Fz.same _,Fz.same _,Fz.same _,Fz.same _,Fz.same _,Fz.same _,W7 rfl zp V1,trivial⟩;refine Zf j ?_;refine CallA.inl [(5005,.dead)] zk ?_ ?_;intro p D;rw[List.mem_singleton]at D;subst D;exact zp;refine(H4 G .new (Zb vn) (by rw[Zl];omega)).mono ?_;rintro _ R (⟨I,rfl,q⟩|⟨K,rfl,q⟩)
 have s:vn=[]:=by
  have:=congrArg Sl.l I;rwa [Zl]at this
 subst s;simp only[List.map_cons,List.map_nil,q];refine Zu ?_;intro B;refine⟨Yg zo zo,λh=>absurd h zd,λ_ a=>?_⟩;refine Zs ?_;refine AW.weak (Zw (λo=>o==35) (l:=[(3,.ptr 8 i 0)]) (m:=[(8,.cells .new i 0 [.str m.name,Za c 2 Yw m.vars,Za c 1 V.str m.events,Za c 2 Yw m.regions,Za c 8 (Y0 d) m.verts,Za c 8 (Xp d) m.ways,Za .new 1 V.str (.mk false [Qb]),Za .new 1 V.str (Zb [])])]) ?_ ?_) ?_;refine Zs ?_;exact Fz.same _;simp only[Zy,Z2,and_true];exact FzO.of (c:=.new) (fz:=0) (cs:=[.str m.name,Za c 2 Yw m.vars,Za c 1 V.str m.events,Za c 2 Yw m.regions,Za c 8 (Y0 d) m.verts,Za c 8 (Xp d) m.ways,.msl 35 a 0 ([Qb]).length 1,Za .new 1 V.str (Zb [])]) rfl zp ⟨Fz.same _,Fz.same _,Fz.same _,Fz.same _,Fz.same _,Fz.same _,Xm (f:=V.str) (l:=[Qb]) (m:=1) (g:=a) (fz:=0) (c:=.new) rfl zp V1,Fz.same _,trivial⟩;refine AW.weak (Zw (λo=>o==8) (l:=[(3,Vm .new c d .new m (.mk false [Qb]) (Zb []))]) (m:=[]) ?_ trivial) ?_;refine Zs ?_;exact Fz.ptr (v:=Ds c d .new m (.mk false [Qb]) (Zb [])) (c:=.new) (fz:=0) zp zp;exact Zr;simp only[List.map_cons,List.map_nil,q,Zl];refine Zu ?_;intro B
 have e:List.take (vn.length*1) (flat (List.map V.str vn))++[V.str [97,114,103]]=flat ((vn++[Qb]).map V.str):=by
  rw[List.take_of_length_le (by rw[Xo V1];exact Nat.le_refl _),List.map_append,Um];rfl
 have N:vn.length+1=(vn++[Qb]).length:=by rw[List.length_append]<;>rfl
 refine⟨Yg zo zo,by rw[Xo V1];exact Nat.le_refl _,Nat.zero_le _,λa=>?_⟩;rw[e,N];refine AW.weak (Zw (λo=>o==5005) (l:=[(3,.ptr 8 i 0)]) (m:=[(8,.cells .new i 0 [.str m.name,Za c 2 Yw m.vars,Za c 1 V.str m.events,Za c 2 Yw m.regions,Za c 8 (Y0 d) m.verts,Za c 8 (Xp d) m.ways,Za .new 1 V.str (.mk false (vn++[Qb])),Za .new 1 V.str (Zb vn)])]) ?_ ?_) ?_;refine Zs ?_;exact Fz.same _;simp only[Zy,Z2,and_true];exact FzO.of (c:=.new) (fz:=0) (cs:=[.str m.name,Za c 2 Yw m.vars,Za c 1 V.str m.events,Za c 2 Yw m.regions,Za c 8 (Y0 d) m.verts,Za c 8 (Xp d) m.ways,.msl 5005 a 0 ((vn++[Qb])).length 1,Za .new 1 V.str (Zb vn)]) rfl zp ⟨Fz.same _,Fz.same _,Fz.same _,Fz.same _,Fz.same _,Fz.same _,Xm (f:=V.str) (l:=(vn++[Qb])) (m:=1) (g:=a) (fz:=0) (c:=.new) rfl zp V1,Fz.same _,trivial⟩;refine AW.weak (Zw (λo=>o==8) (l:=[(3,Vm .new c d .new m (.mk false (vn++[Qb])) (Zb vn))]) (m:=[]) ?_ trivial) ?_;refine Zs ?_;exact Fz.ptr (v:=Ds c d .new m (.mk false (vn++[Qb])) (Zb vn)) (c:=.new) (fz:=0) zp zp;exact Zr
def rF:Nat->FuncId
 |1=>96
 |2=>97
 |3=>98
 |4=>99
 |5=>100
 |6=>101
 |7=>102
 |8=>103
 |9=>104
 |10=>105
 |11=>106
 |12=>107
 |13=>108
 |14=>109
 |_=>110
def Tm(k:Nat):V:=.func (.func (rF k)) [] []
def ruleFs:List V:=[.nilf,Tm 1,Tm 2,Tm 3,Tm 4,Tm 5,Tm 6,Tm 7,Tm 8,Tm 9,Tm 10,Tm 11,Tm 12,Tm 13,Tm 14,Tm 15]
theorem Fv{k:Nat}(h:1<=k)(b:k<=15):ruleFs[k]?=some (Tm k)/\Z5 Tryz.prog (rF k)=true:=by
 have a:k=1\/k=2\/k=3\/k=4\/k=5\/k=6\/k=7\/k=8\/k=9\/k=10\/k=11\/k=12\/k=13\/k=14\/k=15:=zo
 rcases a with rfl|rfl|rfl|rfl|rfl|rfl|rfl|rfl|rfl|rfl|rfl|rfl|rfl|rfl|rfl<;>exact⟨rfl,zk⟩
@[go_sem] theorem Zl6(g:Col->Col):ruleFs.map (V.recol g)=ruleFs:=rfl
theorem Zfn(G:Nat->V):Spec Tryz.prog G 54 [] Zi (λw _=>w=.agg ruleFs):=by
 refine Zo 0 2 [.cell 0 123] Tryz.func54 λX=>?_;refine Z ?_;intro a;exact Zr
structure MdT(m:MdM):Prop where
 ef:∀ t∈m.ways.l,t.effect.length<=900
 gu:∀ t∈m.ways.l,t.guard.length<=900
 en:∀ x∈m.verts.l,x.entry.length<=900/\x.exit.length<=900
theorem Zyo(G:Nat->V)(s:GExp G)(b c d e:Col)(m:MdM)(a vs:Sl (List UInt8))(y:MdB m)(g:m.p.Rt)(u:MdT m)(r:a.l=m.p.vn++[Qb])(n:vs.l=m.p.vn)(k:Nat)(H:1<=k)(F:k<=15)(t:Int)(t0:0<=t)(t1:t<m.p.places k):
  Spec Tryz.prog G (rF k) [Vm b c d e m a vs,.int .i64 t] Zi (λw _=>w=.bool (m.p.keep Xd Y1 k t)):=by
 have f:=s.ok;have K:=y.nw;have J:=y.nx;have I:=y.ne
 have C:m.p.vn.length<=600:=by
  show(m.vars.l.map _).length<=_
  rw[List.length_map];exact y.nv
 have A:a.l.length<1000000:=by rw[r,List.length_append];show _+1<_;omega
 have q:vs.l.length<100000:=by rw[n];omega
 have i:t<m.p.ways.length->((m.p.wy t).effect.length<=900/\(m.p.wy t).guard.length<100000):=λh=>by
  obtain⟨j,x,rfl,E,v,z⟩:=MdM.wyAt t0 h;rw[z];have:=u.gu x (List.mem_of_getElem? v);exact⟨u.ef x (List.mem_of_getElem? v),by show x.guard.length<_;omega⟩
 have o:t<m.p.vertices.length->((m.p.vx t).entry.length<=900/\(m.p.vx t).exit.length<=900):=λh=>by
  obtain⟨j,x,rfl,E,v,z⟩:=MdM.at t0 h;rw[z];exact u.en x (List.mem_of_getElem? v)
 have B:∀ t∈m.ways.l,t.guard.length<100000:=λt h=>by have:=u.gu t h;omega
 have D:k=1\/k=2\/k=3\/k=4\/k=5\/k=6\/k=7\/k=8\/k=9\/k=10\/k=11\/k=12\/k=13\/k=14\/k=15:=zo
 rcases D with rfl|rfl|rfl|rfl|rfl|rfl|rfl|rfl|rfl|rfl|rfl|rfl|rfl|rfl|rfl
 exact Z04 G f b c d e m a vs zo t;exact Zz4 G f b c d e m a vs g zo t t0 t1;exact Zy4 G f b c d e m a vs zo t t0 t1;exact Zx4 G f b c d e m a vs g zo t t0 t1;exact Zw4 G f b c d e m a vs g zo t t0 t1;exact Zv4 G s b c d e m a vs zo B t t0 t1;exact Zu4 G f b c d e m a vs g zo zo t t0 t1;exact Zt4 G f b c d e m a vs g zo t t0 t1;exact Zr4 G f b c d e m a vs g t t0 t1;exact Zp0 G s b c d e m a vs g r A t t0 t1 (i t1).2;exact Zo0 G f b c d e m a vs g t t0 t1;exact Zn0 G s b c d e m a vs n q zo t t0 t1 (i t1).1;exact Zm0 G s b c d e m a vs n q zo t t0 t1 (o t1);exact Zl0 G f b c d e m a vs g t t0 t1;exact Zk0 G f b c d e m a vs g t t0 t1
def Nr(p:Nat×Int):V:=.agg [.int .u8 p.1,.int .i64 p.2]
theorem Z25(p:Nat×Int):Nr p=.agg [.int .u8 p.1,.int .i64 p.2]:=rfl
theorem Zut(p:Nat×Int):(Nr p).cells.length=2:=rfl
theorem PM.places_le(m:PM)(k:Nat):m.places k<=m.regions.length+m.vertices.length+m.ways.length:=by
 rw[PM.places];split;omega
 split<;>omega
theorem Zsp(G:Nat->V)(hE:GExp G)(c d:Col)(m:MdM)(A:MdB m)(ht:m.p.Rt->MdT m):
  Spec Tryz.prog G 26 [Zv c d m] Zi (λw _=>w=.tuple [Za .new 2 Nr (Zb (m.p.checkW Xd Y1).1),.int .i64 (m.p.checkW Xd Y1).2]):=by
 have z:=hE.ok;refine Zo 0 49 [.tmp 2,.tmp 3] Tryz.func26 λX=>?_;rw[PM.checkW];have hr:=PM.right_er (m:=m.p);simp only[Zd];refine Z ?_;intro g1;refine AW.weak (Zw (λo=>o==1) (l:=[(1,.view .new (Zv c d m)),(2,.nils),(3,.int .i64 0)]) (m:=[]) ?_ trivial) ?_;refine Zs ?_;exact⟨Fz.ptr (v:=Zv c d m) (c:=.new) (fz:=0) zp zp,Fz.same _,Fz.same _⟩;refine Zf Zd ?_;refine Zn z ?_ (s:=F5 G hE c.ent d.ent m A);have C:=λh=>PM.rt_of (m:=m.p) h;generalize m.p.rightP=J at hr C;refine Zs ?_
 by_cases h:J.2.2=0
 rotate_left;rw[if_pos h];have q:(J.2.2 != 0)=true:=zu h;exact Zq q;rw[if_neg (λk=>k h)]
 have q:(J.2.2 != 0)=false:=by simp[h]
 have hm:m.p.Rt:=C (hr.1 h);have hT:=ht hm;have Q:=A.nv;refine Zf (zi q Zd) ?_;refine Zc z ?_ (s:=Z1v G z c.ent d.ent m Q);refine Z ?_;refine Zc z ?_ (s:=Zfn G);refine Z ?_;have u:=λk=>m.p.places_le k;have b1:=A.nr;have b2:=A.nx;have b3:=A.nw
 have u:∀ k,m.p.places k<=1800:=λk=>by
  have:=u k;have e1:m.p.regions.length=m.regions.l.length:=rfl;have e2:=m.nv;have e3:=m.nw;omega
 refine Yf 16 (λr (g:Nat)=>st [(2,grown 46 g 2 (m.p.badL Xd Y1 (r-1))),(4,Vm .new c.ent.bk d.ent.bk .new m (.mk false (m.p.vn++[Qb])) (Zb m.p.vn)),(19,.agg ruleFs),(20,.int .i64 r)] [(46,Yb g Nr (m.p.badL Xd Y1 (r-1)))])
  (λr _=>(m.p.badL Xd Y1 (r-1)).length<=1800*r) 0 0 zd (Nat.zero_le _) (Weak.st zp zp) ?_
 intro r g hr1 hR L3 H
 by_cases P:r<16
 rotate_left;obtain rfl:r=16:=zo;have E:decide (((16:Nat):Int)<16)=false:=rfl;have e15:m.p.badL Xd Y1 (16-1)=m.p.badL Xd Y1 15:=rfl;rw[e15];generalize m.p.badL Xd Y1 15=i;refine AW.weak (Zw (λo=>o==46) (l:=[(2,Za .new 2 Nr (Zb i)),(20,.int .i64 (16:Nat))]) (m:=[]) ?_ trivial) ?_;refine Zs ?_;exact⟨W7 (l:=i) (g:=g) (f:=Nr) rfl zp Zut,Fz.same _⟩;exact Zr;have E:decide ((r:Int)<16)=true:=zT;have w1:IntKind.i64.wrap ((r:Int)+1)=(r:Int)+1:=W0 zo zo
 have N:∃ f,ruleFs[r]?=some f/\(1<=r->f=Tm r/\Z5 Tryz.prog (rF r)=true):=by
  rcases Nat.eq_zero_or_pos r with n|n
  subst n;exact⟨_,rfl,λh=>absurd h zd⟩;exact⟨_,(Fv n zo).1,λ_=>⟨rfl,(Fv n zo).2⟩⟩
 obtain⟨fv,S,T⟩:=N;have O:(r:Int)<16:=zo;refine Zf (zi E (zi S (zi O (zi @Int.natCast_nonneg Nat.mul_one)))) ?_;have F:∀ a,(m.p.badAt Xd Y1 r a).length<=a:=λa=>PM.badAt_len r a
 have hn:(if r=0 then 0 else m.p.places r)<=1800:=by split;exact Nat.zero_le _;exact u r
 have D:(m.p.badL Xd Y1 (r-1))++(if r=0 then[]else m.p.badAt Xd Y1 r (m.p.places r))=m.p.badL Xd Y1 r:=by
  rcases Nat.eq_zero_or_pos r with n|n
  subst n;rfl;rw[if_neg zo];obtain⟨r,rfl⟩:∃ r',r=r'+1:=⟨r-1,zo⟩
  rw[PM.badL_succ]<;>rfl
 have W:∀ a,r≠0->m.p.badAt Xd Y1 r (a+1)=m.p.badAt Xd Y1 r a++(if m.p.keep Xd Y1 r (a:Int)=true then[]else[(r,(a:Int))]):=λa _=>PM.badAt_succ r a;have R:=λb c d e ns vs (h1:ns.l=m.p.vn++[Qb]) (h2:vs.l=m.p.vn) h3=>Zyo G hE b c d e m ns vs A hm hT h1 h2 r h3 zo;generalize m.p.badL Xd Y1 (r-1)=i at hR D
 refine Yf (if r=0 then 0 else m.p.places r) (λa (g:Nat)=>st [(2,grown 46 g 2 (i++if r=0 then[]else m.p.badAt Xd Y1 r a)),(4,Vm .new c.ent.bk d.ent.bk .new m (.mk false (m.p.vn++[Qb])) (Zb m.p.vn)),(5,.int .i64 r),(6,fv),(7,.int .i64 a),(19,.agg ruleFs),(20,.int .i64 r)] [(46,Yb g Nr (i++if r=0 then[]else m.p.badAt Xd Y1 r a))])
  (λa _=>True) 0 g (Nat.zero_le _) trivial (Weak.st ?_ ?_) ?_
 have:(i++if r=0 then[]else m.p.badAt Xd Y1 r 0)=i:=by
  split
  exact List.append_nil _;exact List.append_nil _
 rw[this];exact zp
 have:(i++if r=0 then[]else m.p.badAt Xd Y1 r 0)=i:=by
  split
  exact List.append_nil _;exact List.append_nil _
 rw[this];exact zp;intro a g ha _ L7 j;have L:IntKind.u8.wrap (r:Int)=(r:Int):=wu8R zo zo
 by_cases t:a<(if r=0 then 0 else m.p.places r)
 rotate_left
 .have hae:a=(if r=0 then 0 else m.p.places r):=zo
  have y:(i++if r=0 then[]else m.p.badAt Xd Y1 r a)=m.p.badL Xd Y1 (r+1-1):=by
   rw[Nat.add_sub_cancel,<- D,hae]
   split<;>rfl
  rw[y]
  have x:∀ s,Weak ⟨X,Zi,49,0,G,none,[],.plain⟩ s (st [(2,grown 46 g 2 (m.p.badL Xd Y1 (r+1-1))),(4,Vm .new c.ent.bk d.ent.bk .new m (.mk false (m.p.vn++[Qb])) (Zb m.p.vn)),(19,.agg ruleFs),(20,.int .i64 (r+1:Nat))] [(46,Yb g Nr (m.p.badL Xd Y1 (r+1-1)))])->L3 s:=λs hs=>by
   refine H s ⟨P,g,?_,hs⟩;rw[<- y,List.length_append]
   have e2:(if r=0 then([]:List (Nat×Int))else m.p.badAt Xd Y1 r a).length<=1800:=by
    split
    exact Nat.zero_le _;exact Nat.le_trans (F a) zo
   omega
  try clear H
  by_cases n:r=0
  have B:decide ((r:Int)>0)=false:=zF;refine Zf (zi B w1) ?_;exact x _ (Weak.st zp zp);have B:decide ((r:Int)>0)=true:=zT;rw[if_neg n]at hae;have K:decide ((a:Int)<(m.p.places r:Int))=false:=zF;refine Zf B ?_;refine Zc z ?_ (s:=Jk G _ _ _ _ m _ _ r);refine Zg (zi K w1) ?_;exact x _ (Weak.st zp zp)
 have n:r≠0:=λh=>by rw[if_pos h]at t;exact absurd t (Nat.not_lt_zero _)
 rw[if_neg n]at t;have hpr:=u r;have B:decide ((r:Int)>0)=true:=zT;have K:decide ((a:Int)<(m.p.places r:Int))=true:=zT;have w2:IntKind.i64.wrap ((a:Int)+1)=(a:Int)+1:=W0 zo zo;obtain⟨rfl,U⟩:=T zo;simp only[if_neg n]at j⊢;rw[W a n]at j;have Y:=F a;generalize m.p.badAt Xd Y1 r a=bl at j Y⊢;refine Zf B ?_;refine Zc z ?_ (s:=Jk G _ _ _ _ m _ _ r);refine Zg (zi K (show Tm r=.func (.func (rF r)) [] []from rfl)) ?_;have M:=λb c d e=>R b c d e (.mk false (m.p.vn++[Qb])) (Zb m.p.vn) rfl (Zl _) zo a (Int.natCast_nonneg a) zo;refine Zc z ?_ (e:=U) (s:=M _ _ _ _);cases I:m.p.keep Xd Y1 r (a:Int);rw[I,if_neg zd,<- List.append_assoc]at j;refine Zf (zi I L) ?_;intro g45;refine X2 (f:=Nr) (l:=i++bl) (l2:=[(r,(a:Int))]) (g:=g) Zut rfl rfl rfl zp (Yg zo (by simp only[List.length_append,List.length_cons,List.length_nil];omega)) λg2=>?_;refine Zs ?_;refine Zf w2 ?_;exact j _ ⟨t,g2,trivial,Weak.st (V9 (show V.func (.func (rF r)) [] []=Tm r from rfl)) zp⟩;rw[I,if_pos rfl,List.append_nil]at j;refine Zf (zi I w2) ?_;exact j _ ⟨t,g,trivial,Weak.st (V9 (show V.func (.func (rF r)) [] []=Tm r from rfl)) zp⟩
end Go.Hs
end

section
namespace Go.Hs
open Go.Proofs
set_option maxRecDepth 10000
set_option maxHeartbeats 4000000
@[go_sem] theorem recol_ftK(g:Col->Col)(c:Col)(s:Sl (Nat×Int)):(Za c 2 Nr s).recol g=Za (g c) 2 Nr s:=Wd g c 2 (λp=>by simp only[Z25,Xy,List.map_cons,List.map_nil,Xf]) s
theorem Zqn(G:Nat->V)(v:V):Spec Tryz.prog G 29 [v,.nils] Zi (λ_ _=>True):=by
 refine Zo 0 71 [] Tryz.func29 λX=>?_;have a:decide (((0:Nat):Int)<((0:Nat):Int))=false:=rfl;refine Z ?_;refine Yf 0 (λi (_:Unit)=>st [(13,.int .i64 0),(14,.int .i64 i)] []) (λ_ _=>True) 0 () (Nat.zero_le _) trivial (Weak.st zp zp) ?_;intro i _ b _ d c;obtain rfl:i=0:=Nat.le_zero.1 b;refine Z ?_;exact⟨_,rfl,trivial⟩
structure QOk(m:MdM)(q:StP×List Int):Prop where
 sn:q.1.sources≠[]
 s0:0<=PM.srcOf q.1/\PM.srcOf q.1<m.p.vertices.length
 f0:0<=q.1.first/\q.1.first<m.p.ways.length
 el:q.1.ends.length<100000
 er:∀ e∈q.1.ends,e.1 = -1\/(0<=e.1/\e.1<m.p.vertices.length)
 br:∀ e∈q.1.ends,∀ t∈e.2,0<=t/\t<m.p.ways.length
 bl:∀ e∈q.1.ends,e.2.length<100000
 fl:q.1.effects.length<400000
 fr:∀ t∈q.1.effects,0<=t/\t<m.p.ways.length
 rl:q.2.length<100000
 rr:∀ v∈q.2,0<=v/\v<m.p.vertices.length
theorem Zrx(G:Nat->V)(j:Y6 G)(i n b c d e f g:Col)(m:MdM)(x:IxM)(k:IxP m.p x)(l:m.p.ways.length<=600)(a:m.p.Wfd)(q:StP×List Int)(h:QOk m q):
  Spec Tryz.prog G 31 [Yr i q,.view n (X8 b c d e f g m x)] Zi (λw _=>w=.bool (!(m.p.rightS q.1 q.2))):=by
 refine Zo 0 8 [.tmp 3] Tryz.func31 λX=>?_;refine Zf Yc ?_;intro o;refine Zf Yc ?_;refine Th [X8 b c d e f g m x,Yr i q] ⟨Fz.same _,Fz.same _,trivial⟩ ?_;refine Zc j ?_ (ha:=by simp only[List.map_cons,List.map_nil,U2,U3]) (s:=Zze G j i.ent b.ent c.ent d.ent e.ent f.ent g.ent m (x.rc Col.ent) (k.rc Col.ent) l a q h.sn h.s0.1 h.s0.2 h.f0.1 h.f0.2 h.el h.er h.br h.bl h.fl h.fr h.rl h.rr);exact Zr
theorem Zmg(x:AObj):x.noMp.noMp=x.noMp:=by cases x<;>rfl
theorem Ht{α : Type}(g:Nat)(f : α -> V)(l:List α):(Yb g f l).noMp=Yb g f l:=by cases l<;>rfl
def Z5p(w:List StP×Bool)(k:StP):List StP×Bool:=if w.1.length=4096 then(w.1,true)else(w.1++[k],w.2)
def allJ(w:List StP×Bool):Option Code:=if w.2=true then some .ret else none
theorem Zci:∀ (xs l:List StP),l.length<=4096->(Yl (λw k=>((allJ (Z5p w k)).isNone,Z5p w k)) (l,false) xs).2=if l.length+xs.length<=4096 then(l++xs,false)else((l++xs).take 4096,true)
 |[],l,h=>by
  rw[Yl];rw[if_pos (zu h),List.append_nil]
 |k::r,l,h=>by
  rw[Yl]
  by_cases e:l.length=4096
  have a:Z5p (l,false) k=(l,true):=if_pos e;rw[a];rw[if_neg (by simp[allJ]),if_neg (by rw[List.length_cons];omega)];rw[List.take_append_of_le_length zo,List.take_of_length_le zo];have a:Z5p (l,false) k=(l++[k],false):=if_neg e;rw[a,if_pos (by rfl),Zci r (l++[k]) zO];simp only[List.length_append,List.length_cons,List.length_nil,List.append_assoc,List.singleton_append];rw[show l.length+(0+1)+r.length=l.length+(r.length+1) by omega]
theorem Zow(m:PM)(g:Nat){L:List StP}(h:L≠[]):Yb g Un L=.cells .new g 0 (Pu L (P4 m L 0)):=by
 rw[We _ _ h]
 congr 1
 rw[Pu,lv,List.map_map]
 congr 1
 apply List.ext_getElem;simp
 .intro j h1 h2
  have a:j<L.length:=zu h1;rw[List.getElem_map,List.getElem_map,List.getElem_range]
  show Un _=Uo .new (L.getD j Lj,P4 m L 0 j)
  rw[List.getD_eq_getElem?_getD,List.getElem?_eq_getElem a,P4,if_neg (Nat.not_lt_zero _)]
  try rfl
theorem Zc5(m:PM)(L:List StP):Pu L (P4 m L L.length)=flat ((L.map λs=>(s,m.reachL L s)).map (Yr .new)):=by
 rw[Pu,lv,List.map_map,List.map_map]
 congr 1
 apply List.ext_getElem;simp
 .intro j h1 h2
  have a:j<L.length:=zu h1;rw[List.getElem_map,List.getElem_map,List.getElem_range]
  show Uo .new (L.getD j Lj,P4 m L L.length j)=Yr .new (L[j],m.reachL L L[j])
  have e:L.getD j Lj=L[j]:=by rw[List.getD_eq_getElem?_getD,List.getElem?_eq_getElem a]<;>rfl
  rw[P4,if_pos a,e]
  try rfl
theorem Q0(m:PM):m.withR.length=m.allL.length:=List.length_map ..
theorem qok(m:MdM)(h:m.p.Wfd):∀ q∈m.p.withR,QOk m q:=by
 intro q c;obtain⟨s,b,rfl⟩:=List.mem_map.1 c;have f:=m.p.allL_ok h s b;have g:=h.lw;have a:PM.srcOf s∈s.sources:=PM.headD_mem f.so;refine⟨f.so,f.src _ a,f.first,?_,f.ar,f.br,λe d=>?_,?_,f.er,?_,m.p.reachL_rng m.p.allL s⟩;have:=f.el
 show s.ends.length<_
 omega;have:=f.bl e d;omega;have:=f.fl
 show s.effects.length<_
 omega
 show(m.p.reachL m.p.allL s).length<_
 rw[PM.reachL,List.length_map];have:=List.length_filter_le (fun(v:Nat)=>(m.p.reachQ m.p.allL s).contains (v:Int)) (List.range m.p.vertices.length);rw[List.length_range]at this;have:=h.lx;omega
theorem Zfh{α : Type}{p : α -> Bool}:∀ {l:List α} {n:Nat},l.findIdx? p=some n->∃ q,l[n]?=some q/\l.find? p=some q
 |[],n,h=>by cases h
 |a::r,n,h=>by
  rw[List.findIdx?_cons]at h
  by_cases e:p a=true
  rw[if_pos e]at h;cases h;exact⟨a,rfl,by rw[List.find?_cons_of_pos e]⟩
  .rw[if_neg e]at h
   cases b:r.findIdx? p with
   |none=>rw[b]at h;cases h
   |some k=>
    rw[b]at h;cases h;obtain⟨q,d,c⟩:=Zfh b;exact⟨q,d,by rw[List.find?_cons_of_neg e];exact c⟩
theorem D6(G:Nat->V)(hE:GExp G)(c d:Col)(m:MdM)(hb:MdB m)(ht:m.p.Rt->MdT m):
  Spec Tryz.prog G 11 [Zv c d m] Zi (λw _=>w=.tuple [Za .new 6 (Yr .new) (Zb (m.p.statP Xd Y1).1),.int .i64 (m.p.statP Xd Y1).2.1,.int .i64 (m.p.statP Xd Y1).2.2]):=by
 have I:=hE.ok;refine ZoM 2100 64 [.cell 2 42,.cell 3 3,.cell 4 32] Tryz.func11 λX=>?_;simp only[Zd];refine Z ?_;intro g1 y u a;refine AW.weak (Zw (λo=>o==2101) (l:=[(1,.view .new (Zv c d m)),(2,.ptr 2102 y 0),(3,.ptr 2103 u 0),(4,.ptr 2104 a 0)]) (m:=[(2102,.cells .new y 0 [.nils]),(2103,.cells .new u 0 [.int .i64 0]),(2104,.cells .new a 0 [.int .i64 0])]) ?_ ?_) ?_;refine Zs ?_;exact⟨Fz.ptr (v:=Zv c d m) (c:=.new) (fz:=0) zp zp,Fz.same _,Fz.same _,Fz.same _⟩;simp only[Zy,Z2,and_true];exact⟨FzO.same rfl,FzO.same rfl,FzO.same rfl⟩;refine Zf Zd ?_;refine Zc I ?_ (s:=Zsp G hE c.ent d.ent m hb ht);rw[PM.statP];generalize M:m.p.checkW Xd Y1=ck;obtain⟨fs,er⟩:=ck
 by_cases h1:er≠0
 rw[if_pos h1];have q1:(er != 0)=true:=zu h1;refine Zf q1 ?_;refine Vw [(32,.ptr 2104 a 0,.int .i64 er)] ⟨λ_=>.int .i64 er,λj=>if j=0 then .keep else .pure⟩ zk I zk zk ?_;refine Zs ?_;exact Zr;rw[if_neg h1];obtain rfl:er=0:=Classical.not_not.1 h1
 by_cases h2:fs≠[]
 rw[if_pos h2]
 have q2:decide ((fs.length:Int)>0)=true:=by
  have:=List.length_pos_iff.2 h2;rw[decide_eq_true_eq];omega
 have q3:(Zb fs).l.length=fs.length:=by rw[Zl]
 exact Zq (zi q2 q3);rw[if_neg h2];obtain rfl:fs=[]:=Classical.not_not.1 h2
 have hr:m.p.rightP.2.2=0:=by
  by_cases q:m.p.rightP.2.2=0
  exact q;rw[PM.checkW,if_pos q]at M;exact absurd (congrArg Prod.snd M) q
 have hbd:m.p.badL Xd Y1 15=[]:=by
  rw[PM.checkW,if_neg (by rw[hr];simp)]at M;exact congrArg Prod.fst M
 have rt:=PM.rt_of (PM.right_er.1 hr);have wfd:=rt.wfd hbd;have acy:=rt.acy;refine Z ?_;refine Zc I ?_ (s:=Zh1 G hE c.ent d.ent m hb acy hr);refine Zf Zd ?_;intro g31 D;have O:IxP m.p ((Sc m.p).rc Col.bk):=(ixOf_p m.p).rc _;refine AW.weak (Zw (λo=>o==2131) (l:=[(1,.view .new (Zv c d m)),(2,.ptr 2102 y 0),(3,.ptr 2103 u 0),(4,.ptr 2104 a 0),(8,.ptr 2108 D 0)]) (m:=[(2102,.cells .new y 0 [.nils]),(2103,.cells .new u 0 [.int .i64 0]),(2104,.cells .new a 0 [.int .i64 0]),(2108,.cells .new D 0 [X8 .new c d .new .new .new m ((Sc m.p).rc Col.bk)])]) ?_ ?_) ?_;refine Xw @Zd ?_;exact⟨Fz.same _,Fz.same _,Fz.same _,Fz.same _,Fz.same _⟩;simp only[Zy,Z2,and_true];refine⟨FzO.keep rfl zp,FzO.keep rfl zp,FzO.keep rfl zp,FzO.of (c:=.new) (fz:=0) (cs:=[.ptr 2131 g31 0]) rfl zp ⟨?_,trivial⟩⟩;exact Fz.ptr (v:=.agg [.str m.name,Za c 2 Yw m.vars,Za c 1 V.str m.events,Za c 2 Yw m.regions,Za c 8 (Y0 d) m.verts,Za c 8 (Xp d) m.ways,Mz .new .new .new ((Sc m.p).rc Col.bk)]) (c:=.new) (fz:=0) (g:=g31) rfl zp;refine Zf Zd ?_
 refine Yf m.ways.l.length (λt (w:List StP×Nat)=>st [(1,.view .new (Zv c d m)),(2,.ptr 2102 y 0),(3,.ptr 2103 u 0),(4,.ptr 2104 a 0),(8,.ptr 2108 D 0),(34,.int .i64 m.ways.l.length),(35,.int .i64 t)] [(2102,.cells .new y 0 [grown 3000 w.2 6 w.1]),(2103,.cells .new u 0 [.int .i64 0]),(2104,.cells .new a 0 [.int .i64 0]),(2108,.cells .new D 0 [X8 .new c d .new .new .new m ((Sc m.p).rc Col.bk)]),(3000,Yb w.2 Un w.1)])
  (λt w=>w.1=(List.range t).flatMap (fun(i:Nat)=>m.p.beginL i)/\w.1.length<=4096) 0 ([],0) (Nat.zero_le _) ⟨rfl,zd⟩ (Weak.st (by rw[Zd];exact zp) (V9 (zi @Rv @Vr))) ?_
 rintro t ⟨l,g⟩ ht ⟨hl,L⟩ L1 hL1;simp only at hl L
 by_cases ht1:t<m.ways.l.length
 have A:decide ((t:Int)<(m.ways.l.length:Int))=true:=zT;refine Xc A ?_;refine Xc A ?_;refine Xc A ?_;refine CallA.inl [(1004,.dead),(1005,.dead),(1006,.dead),(1007,.dead),(1009,.dead)] zk ?_ ((Z1h G I .new c d .new .new .new m _ O (by rw[m.nw];exact hb.nw) wfd t zo (by rw[m.nw];omega)).mono ?_);intro p N;simp only[List.mem_cons,List.not_mem_nil,or_false]at N
 rcases N with rfl|rfl|rfl|rfl|rfl<;>rfl
 rintro w J ⟨fid,F,rfl,hen,hit⟩;refine Zu ?_;refine AW.block ?_;refine AW.weak (Weak.st (l:=[(1,.view .new (Zv c d m)),(2,.ptr 2102 y 0),(3,.ptr 2103 u 0),(4,.ptr 2104 a 0),(8,.ptr 2108 D 0),(34,.int .i64 m.ways.l.length),(35,.int .i64 t),(40,.func (.func fid) [] F)]) (m:=[(2102,.cells .new y 0 [grown 3000 g 6 l]),(2103,.cells .new u 0 [.int .i64 0]),(2104,.cells .new a 0 [.int .i64 0]),(2108,.cells .new D 0 [X8 .new c d .new .new .new m ((Sc m.p).rc Col.bk)]),(3000,Yb g Un l),(1004,(J 1004).noMp),(1005,(J 1005).noMp),(1006,(J 1006).noMp),(1007,(J 1007).noMp),(1009,(J 1009).noMp)]) zp zp) ?_
 refine AW.range 50 2000 5000 2952 (fun(w:List StP×Bool) (H:Heap)=>w.1.length<=4096/\∃ g,if w.2=true then H=Z6 Zi [(2102,.cells .new y 0 [.nils]),(2103,.cells .new u 0 [.int .i64 0]),(2104,.cells .new a 0 [.int .i64 3])]else H=Z6 Zi [(2102,.cells .new y 0 [grown 3000 g 6 w.1]),(2103,.cells .new u 0 [.int .i64 0]),(2104,.cells .new a 0 [.int .i64 0]),(2108,.cells .new D 0 [X8 .new c d .new .new .new m ((Sc m.p).rc Col.bk)]),(3000,Yb g Un w.1)]) Z5p allJ (λ_ _=>True) (l,false) rfl hen (by exact λ_ h=>nomatch h) (λp N=>?_) (λ_=>rfl) zd zd
  (λl' r=>hit _ (V9 @Zmg) (V9 @Zmg) (V9 @Zmg) (V9 @Zmg) (V9 @Zmg)) (λ_ _ _=>trivial) rfl ⟨L,g,?_⟩ (Pm rfl λ_ _ _=>trivial) ?_ ?_
 simp only[List.mem_cons,List.not_mem_nil,or_false]at N;subst N;exact(by decide:41<64);rw[if_neg zS];refine Xw @Ht ?_;exact Yq _ _ _ rfl
 .rintro lp Y ⟨l2,b2⟩ k Hk _ hrd _ hjm ⟨C,g',z⟩
  cases b2;rotate_left;cases hjm;rw[if_neg zS]at z;simp only at C;generalize Z3 (Z7 2000 Hk) 5000 .dead=B at *;subst z;refine Zs ?_;refine AW.region zk ?_;refine Xw Zmh ?_;intro g10;refine Xw Zmh ?_;intro Zx hXZ _;refine AW.weak (Weak.st (l:=[(1,.view .new (Zv c d m)),(2,.ptr 2102 y 0),(3,.ptr 2103 u 0),(4,.ptr 2104 a 0),(8,.ptr 2108 D 0),(10,.ptr 2962 g10 0)]) (m:=[(2962,.cells .new g10 0 (Uo .new (k,.nils)).cells),(2102,.cells .new y 0 [grown 3000 g' 6 l2]),(2103,.cells .new u 0 [.int .i64 0]),(2104,.cells .new a 0 [.int .i64 0]),(2108,.cells .new D 0 [X8 .new c d .new .new .new m ((Sc m.p).rc Col.bk)]),(3000,Yb g' Un l2)]) zp (V9 @Su)) ?_
  by_cases e4:l2.length=4096
  have e5:Z5p (l2,false) k=(l2,true):=if_pos e4
  have q5:((l2.length:Int)==4096)=true:=by rw[e4]<;>rfl
  refine Zf q5 ?_;refine AW.weak (Weak.st (l:=[]) (m:=[(2102,.cells .new y 0 [.nils]),(2103,.cells .new u 0 [.int .i64 0]),(2104,.cells .new a 0 [.int .i64 3])]) zp zp) ?_;refine AW.ret ?_;refine⟨by rw[e5]<;>rfl,?_⟩;rw[e5];refine⟨zo,0,?_⟩;rw[if_pos rfl];refine Zs ?_;exact Yq _ _ _ rfl;have e5:Z5p (l2,false) k=(l2++[k],false):=if_neg e4
  have q5:((l2.length:Int)==4096)=false:=by
   rw[beq_eq_false_iff_ne];omega
  refine AW.later ?_;refine Zf (zi q5 Su) ?_;intro g47;refine X2 (f:=Un) (l:=l2) (l2:=[k]) (g:=g') (λ_=>rfl) rfl rfl rfl zp (Yg zo zO) λT=>?_;refine Zs ?_;refine⟨_,Weak.st (l:=[]) (m:=[(2102,.cells .new y 0 [grown 3000 T 6 (l2++[k])]),(2103,.cells .new u 0 [.int .i64 0]),(2104,.cells .new a 0 [.int .i64 0]),(2108,.cells .new D 0 [X8 .new c d .new .new .new m ((Sc m.p).rc Col.bk)]),(3000,Yb T Un (l2++[k]))]) zp zp,?_⟩;refine⟨by rw[e5]<;>rfl,?_⟩;rw[e5];refine⟨zO,T,?_⟩;rw[if_neg zS];refine Xw @Ht ?_;exact Yq _ _ _ rfl
 rintro H2 ⟨C,g',z⟩ hlow hol
 have W:(List.range (t+1)).flatMap (fun(i:Nat)=>m.p.beginL i)=l++m.p.beginL t:=by
  rw[List.range_succ,List.flatMap_append,<- hl,List.flatMap_cons,List.flatMap_nil,List.append_nil]
 rw[Zci _ _ L]at C z⊢
 by_cases h3:l.length+(m.p.beginL t).length<=4096
 rw[if_pos h3]at C z⊢;rw[if_neg zS]at z;have w1:IntKind.i64.wrap ((t:Int)+1)=(t:Int)+1:=W0 zo (by have:=hb.nw;omega);refine Zs ?_;refine AW.weak (Weak.rng (l:=[(1,.view .new (Zv c d m)),(2,.ptr 2102 y 0),(3,.ptr 2103 u 0),(4,.ptr 2104 a 0),(8,.ptr 2108 D 0),(34,.int .i64 m.ways.l.length),(35,.int .i64 t)]) z zp) ?_;refine Zf w1 ?_;exact hL1 _ ⟨ht1,(l++m.p.beginL t,g'),⟨W.symm,C⟩,Weak.st zp zp⟩;rw[if_neg h3]at C z⊢;rw[if_pos rfl]at z
 have hlen:4096<m.p.allL.length:=by
  have e1:m.p.ways.length=(t+1)+(m.p.ways.length-(t+1)):=by rw[m.nw];omega
  rw[PM.allL,e1,List.range_add,List.flatMap_append,List.length_append,W,List.length_append];omega
 rw[if_pos hlen];refine Zs ?_;refine AW.weak (Weak.rng (l:=[(2,.ptr 2102 y 0),(3,.ptr 2103 u 0),(4,.ptr 2104 a 0)]) z zp) ?_;exact Zr
 .have hte:t=m.ways.l.length:=zo
  have A:decide ((m.ways.l.length:Int)<(m.ways.l.length:Int))=false:=zF
  have hL:l=m.p.allL:=by rw[hl,hte,PM.allL,m.nw]
  try clear hl
  subst hL;rw[hte,if_neg (Nat.not_lt.2 L)];refine Xc A ?_;refine Xc A ?_
  have S:∀ {H:Heap} {K:V->Heap->Prop},H 3000=Yb g Un m.p.allL->(∀ v J,J=Z3 H 3000 (if m.p.allL=[]then .dead else .cells .new g 0 (Pu m.p.allL (P4 m.p m.p.allL m.p.allL.length)))->K v J)->CallA Tryz.prog G 29 [X8 .new c d .new .new .new m ((Sc m.p).rc Col.bk),grown 3000 g 6 m.p.allL] H K:=by
   intro H K z hK
   by_cases E:m.p.allL=[]
   rw[if_pos E]at hK;rw[E]at z⊢;refine CallA.pure I zk ?_;refine(show Spec Tryz.prog G 29 [_,.nils] Zi _ from ?_);exact(Zqn G _).mono λv _ _=>hK _ _ (Yq _ _ _ z).symm;rw[if_neg E]at hK;rw[Xa _ _ _ E];rw[Zow m.p g E]at z;have U:=λs P=>m.p.allL_ok wfd s P
   refine CallA.inl [(3000,.cells .new g 0 (Pu m.p.allL (P4 m.p m.p.allL 0)))] zk ?_ ((Zrn G I .new c d .new .new .new m _ O m.p.allL E zo (by have:=wfd.lx;omega) (λs P=>by have:=(U s P).el;have:=wfd.lw;omega) (λs P=>by
    have:=wfd.lw
    rcases(U s P).sn with h|h<;>omega) (λs P=>PM.Wfd.atok wfd s P) g).mono ?_)
   intro p N;simp only[List.mem_cons,List.not_mem_nil,or_false]at N;subst N;exact z;intro w J e;refine hK _ _ ?_;simp -implicitDefEqProofs only[go_sem,seval,Z6,e]
  refine S zp λv J z=>?_;subst z;refine Zs ?_;refine AW.weak (Zw (λo=>o==3000) (l:=[(1,.view .new (Zv c d m)),(2,.ptr 2102 y 0),(3,.ptr 2103 u 0),(4,.ptr 2104 a 0),(8,.ptr 2108 D 0)]) (m:=[(2102,.cells .new y 0 [Za .new 6 (Yr .new) (Zb m.p.withR)]),(2103,.cells .new u 0 [.int .i64 0]),(2104,.cells .new a 0 [.int .i64 0]),(2108,.cells .new D 0 [X8 .new c d .new .new .new m ((Sc m.p).rc Col.bk)])]) ?_ ?_) ?_;refine Zs ?_;exact⟨Fz.same _,Fz.same _,Fz.same _,Fz.same _,Fz.same _⟩;simp only[Zy,Z2,and_true];refine⟨FzO.of (c:=.new) (fz:=0) (cs:=[grown 3000 g 6 m.p.allL]) rfl zp ⟨?_,trivial⟩,FzO.keep rfl zp,FzO.keep rfl zp,FzO.keep rfl zp⟩
  by_cases E:m.p.allL=[]
  have:m.p.withR=[]:=by rw[PM.withR,E]<;>rfl
  rw[this,E];exact Fz.same _;have hn2:m.p.withR≠[]:=λh=>E (by have:=Q0 m.p;rw[h]at this;exact List.length_eq_zero_iff.1 this.symm)
  have e9:Za .new 6 (Yr .new) (Zb m.p.withR)=.slice .new false 6 (m.p.withR.map (Yr .new)):=by
   cases h:m.p.withR with
   |nil=>exact absurd h hn2
   |cons=>rfl
  rw[Xa _ _ _ E,e9,<- Q0];refine Xm (f:=Yr .new) (l:=m.p.withR) (c:=.new) (fz:=0) rfl ?_ λ_=>rfl
  rw[Ye,if_neg E,Q0,Zc5]<;>rfl
  refine Z1 ?_;have hq:=qok m wfd
  have hnw:m.p.ways.length<=600:=by rw[m.nw];exact hb.nw
  have hwl:m.p.withR.length<1000000:=by rw[Q0];omega
  refine Xx 2108 [Za .new 6 (Yr .new) (Zb m.p.withR),.func (.func 31) [] [.view .new (X8 .new c d .new .new .new m ((Sc m.p).rc Col.bk))]] ⟨Fz.same _,Fz.func ⟨Fz.ptr (v:=X8 .new c d .new .new .new m ((Sc m.p).rc Col.bk)) (c:=.new) (fz:=0) zp zp,trivial⟩,trivial⟩ ?_
  refine Zc I ?_ (ha:=by simp only[List.map_cons,List.map_nil,Wd Col.ent Col.new 6 (U3 Col.ent Col.new),V.recol,Yt,U2]) (s:=Z2o G I Col.new.ent Col.new.ent 31 (λF=>∃ b1 b c d e f g x,IxP m.p x/\F=[.view b1 (X8 b c d e f g m x)]) (by
   rintro _ ⟨b1,b,c,d,e,f,g,x,O,rfl⟩
   exact⟨_,_,_,_,_,_,_,_,O.rc _,by simp only[List.map_cons,List.map_nil,V.recol,U2];rfl⟩) [.view Col.new.ent (X8 Col.new.ent c.ent d.ent Col.new.ent Col.new.ent Col.new.ent m (((Sc m.p).rc Col.bk).rc Col.ent))] ⟨_,_,_,_,_,_,_,_,O.rc _,rfl⟩ zk (λq => !(m.p.rightS q.1 q.2)) (Zb m.p.withR) (by rw[Zl];exact hwl) (by
   rintro q hq2 cr _ ⟨b1,b,c,d,e,f,g,x,O,rfl⟩;rw[Zl]at hq2
   exact Zrx G I cr b1 b c d e f g m x O hnw wfd q (hq q hq2)))
  unfold Qf
  cases Q:m.p.withR.findIdx? (λq => !(m.p.rightS q.1 q.2))with
  |none=>
   have R:m.p.withR.find? (λq => !(m.p.rightS q.1 q.2))=none:=by
    rw[List.findIdx?_eq_none_iff]at Q
    exact List.find?_eq_none.2 λq hq=>by simpa using Q q hq
   rw[R];have q8:decide ((-1:Int)>=0)=false:=rfl;refine Zg q8 ?_;rfl
  |some n=>
   obtain⟨q,hgq,R⟩:=Zfh Q;rw[R];have q8:decide ((n:Int)>=0)=true:=zT;have hnl:=(List.getElem?_eq_some_iff.1 hgq).1;refine Zg q8 ?_;refine Zp ⟨λ_=>.int .i64 q.1.first,λj=>if j=4 then .lend else .pure⟩ zk I zk zk ?_;refine Xw (zi hgq (zi hnl (zi Yc (zi @Int.natCast_nonneg @Int.ofNat_lt)))) ?_;exact Zr
end Go.Hs
end

section
namespace Go.Hs
open Go.Proofs
set_option maxRecDepth 10000
set_option maxHeartbeats 4000000
theorem Tu(G:Nat->V)(r:Y6 G)(c c1:Col)(a b:Sl Int)(h:a.l=b.l)(ha:a.l.length<=1000000):
  Spec Tryz.prog G 13 [Za c 1 (V.int .i64) a,Za c1 1 (V.int .i64) b] Zi (λv _=>v=.bool true):=by
 refine Zo 0 26 [.tmp 4] Tryz.func13 λX=>?_
 have q:((a.l.length:Int) != (b.l.length:Int))=false:=by rw[h];simp
 refine Zf q ?_;refine Yf a.l.length (λk (_:Unit)=>st [(0,Za c 1 (V.int .i64) a),(1,Za c1 1 (V.int .i64) b),(5,.int .i64 k)] []) (λ_ _=>True) 0 () (Nat.zero_le _) trivial (Weak.st zp zp) ?_;intro k _ s _ t m
 by_cases e:k<a.l.length
 have d:decide ((k:Int)<(a.l.length:Int))=true:=zT;have j:=List.getElem?_eq_getElem e;generalize a.l[k]=p at j
 have i:b.l[k]?=some p:=by rw[<- h];exact j
 have g:k<b.l.length:=by rw[<- h];exact e
 have n:IntKind.i64.wrap ((k:Int)+1)=(k:Int)+1:=W0 zo zo;have o:(p != p)=false:=zS;refine Xc d ?_;refine Ha (zi o (zi j (zi i (zi e (zi g (zi @Int.natCast_nonneg @Int.ofNat_lt)))))) r ?_;refine Zf n ?_;exact m _ ⟨e,(),trivial,Weak.st zp zp⟩;have f:k=a.l.length:=zo;have d:decide ((k:Int)<(a.l.length:Int))=false:=zF;rw[f]at d⊢;exact Zq d
@[go_sem] theorem recol_RSs(g:Col->Col)(c c1:Col)(s:Sl (StP×List Int)):(Za c 6 (Yr c1) s).recol g=Za (g c) 6 (Yr (g c1)) s:=Wd g c 6 (U3 g c1) s
structure RfS where
 so:Sl Int
 fi:Int
 gu:Sl Int
 ef:Sl Int
 en:Sl (Int×Sl Int)
 re:Sl Int
 tw:Bool
def Dr(c:Col)(e:Int×Sl Int):V:=.agg [.int .i64 e.1,Za c 1 (V.int .i64) e.2]
theorem Fa(c:Col)(e:Int×Sl Int):Dr c e=.agg [.int .i64 e.1,Za c 1 (V.int .i64) e.2]:=rfl
def Af(c:Col)(r:RfS):V:=.agg [Za c 1 (V.int .i64) r.so,.int .i64 r.fi,Za c 1 (V.int .i64) r.gu,Za c 1 (V.int .i64) r.ef,Za c 2 (Dr c) r.en,Za c 1 (V.int .i64) r.re,.bool r.tw]
theorem G9(c:Col)(r:RfS):Af c r=.agg [Za c 1 (V.int .i64) r.so,.int .i64 r.fi,Za c 1 (V.int .i64) r.gu,Za c 1 (V.int .i64) r.ef,Za c 2 (Dr c) r.en,Za c 1 (V.int .i64) r.re,.bool r.tw]:=rfl
theorem Zg0(g:Col->Col)(c:Col)(e:Int×Sl Int):(Dr c e).recol g=Dr (g c) e:=by simp only[Fa,Xy,List.map_cons,List.map_nil,Xf,Xu]
structure RfIs(q:StP×List Int)(r:RfS):Prop where
 so:q.1.sources=r.so.l
 fi:q.1.first=r.fi
 gu:q.1.guards=r.gu.l
 ef:q.1.effects=r.ef.l
 en:q.1.ends=r.en.l.map λe=>(e.1,e.2.l)
 re:q.2=r.re.l
structure RfN(q:StP×List Int):Prop where
 so:q.1.sources.length<=1000000
 gu:q.1.guards.length<=1000000
 ef:q.1.effects.length<=1000000
 en:q.1.ends.length<=1000000
 re:q.2.length<=1000000
 br:∀ e∈q.1.ends,e.2.length<=1000000
theorem Zlm(G:Nat->V)(j:Y6 G)(c c1:Col)(q:StP×List Int)(r:RfS)(h:RfIs q r)(n:RfN q):
  Spec Tryz.prog G 12 [Yr c q,Af c1 r] Zi (λv _=>v=.bool true):=by
 have p:∀ (c c1:Col) (l:List Int) (b:Sl Int),l=b.l->l.length<=1000000->Spec Tryz.prog G 13 [Za c 1 (V.int .i64) (Zb l),Za c1 1 (V.int .i64) b] Zi (λv _=>v=.bool true):=
  λc c1 l b e I=>Tu G j c c1 (Zb l) b (by rw[Zl];exact e) (by rw[Zl];exact I)
 refine Zo 0 88 [.tmp 4] Tryz.func12 λX=>?_;refine Zf (zi Yc G9) ?_;intro L K
 have C:(q.1.first != r.fi)=false:=by rw[h.fi];simp
 have f:Xl c q.1.ends=Za c 2 (Wv c) (Zb q.1.ends):=rfl
 have d:q.1.ends.length=r.en.l.length:=by rw[h.en,List.length_map]
 have H:((q.1.ends.length:Int) != (r.en.l.length:Int))=false:=by rw[d];simp
 have x:=zi C (zi H (zi f Yc));refine Zf x ?_;refine Zc j ?_ (s:=p _ _ _ _ h.so n.so);refine Zg x ?_;refine Zc j ?_ (s:=p _ _ _ _ h.gu n.gu);refine Zg x ?_;refine Zc j ?_ (s:=p _ _ _ _ h.ef n.ef);refine Zg x ?_;refine Zc j ?_ (s:=p _ _ _ _ h.re n.re)
 have u:(Zb q.1.ends).l.length=r.en.l.length:=by rw[Zl];exact d
 have F:((r.en.l.length:Int) != (r.en.l.length:Int))=false:=zS;refine Xw (zi d (zi u (zi F C))) ?_;refine AW.weak (Zw (λo=>o==2||o==3) (l:=[(2,.view .new (Yr c q)),(3,.view .new (Af c1 r)),(51,.bool false)]) (m:=[]) ?_ trivial) ?_;refine Zs ?_;exact⟨Fz.ptr (v:=Yr c q) (c:=.new) (fz:=0) zp zp,Fz.ptr (v:=Af c1 r) (c:=.new) (fz:=0) zp zp,Fz.same _⟩;refine Z ?_;refine Yf r.en.l.length (λk (_:Unit)=>st [(2,.view .new (Yr c q)),(3,.view .new (Af c1 r)),(5,.int .i64 k)] []) (λ_ _=>True) 0 () (Nat.zero_le _) trivial (Weak.st zp zp) ?_;intro k _ J _ N A
 by_cases a:k<r.en.l.length
 .have g:decide ((k:Int)<(r.en.l.length:Int))=true:=zT
  have w:=List.getElem?_eq_getElem a;generalize r.en.l[k]=e at w
  have i:q.1.ends[k]?=some (e.1,e.2.l):=by rw[h.en,List.getElem?_map,w]<;>rfl
  have t:k<q.1.ends.length:=by rw[d];exact a
  have y:=List.mem_of_getElem? i;have E:IntKind.i64.wrap ((k:Int)+1)=(k:Int)+1:=W0 zo (by have:=n.en;omega);have B:(e.1 != e.1)=false:=zS;have D:=zi g (zi u (zi w (zi i (zi a (zi t (zi B (zi f (zi Yc (zi G9 (zi Xq (zi Fa (zi @Int.natCast_nonneg @Int.ofNat_lt))))))))))));refine Xc D ?_;refine Z0f D ?_
  repeat first|refine AW.block ?_|refine Z4 ?_
  refine Zp ⟨λ_=>.bool true,λ_=>.pure⟩ zk j zk zk ?_;refine Xw (zi a (zi t (zi w (zi i (zi B (zi f (zi @Xq (zi @Fa (zi @Yc (zi @G9 (zi u (zi @Int.ofNat_lt @Int.natCast_nonneg)))))))))))) ?_;refine⟨⟨zk,?_⟩,?_⟩;simp -implicitDefEqProofs only[go_sem,seval,List.map_cons,List.map_nil]
  exact(p _ _ _ _ rfl (n.br _ y)).mono λv _ e=>by rw[e]<;>rfl
  refine Zf E ?_;exact A _ ⟨a,(),trivial,Weak.st (V9 (zi @Yc (zi @G9 f))) zp⟩
 have z:k=r.en.l.length:=zo;have g:decide ((r.en.l.length:Int)<(r.en.l.length:Int))=false:=zF;rw[z];have M:=u;refine Zf (zi g (zi u (zi f (zi Yc d)))) ?_;rfl
end Go.Hs
end

section
namespace Go.Hs
open Go.Proofs
set_option maxRecDepth 10000
set_option maxHeartbeats 4000000
def Cn(s:List UInt8):Prop:=s.length<=140737488351232
structure MdR(m:MdM):Prop where
 nm:Cn m.name
 var:m.vars.l.length<=140737488351232/\∀ p∈m.vars.l,Cn p.1
 ev:m.events.l.length<=140737488351232/\∀ s∈m.events.l,Cn s
 rg:m.regions.l.length<=140737488351232/\∀ p∈m.regions.l,Cn p.1
 vt:m.verts.l.length<=140737488351232/\∀ x∈m.verts.l,Cn x.name/\Cn x.entry/\Cn x.exit/\Cn x.sub/\x.defers.l.length<=140737488351232/\∀ s∈x.defers.l,Cn s
 wy:m.ways.l.length<=140737488351232/\∀ x∈m.ways.l,Cn x.name/\Cn x.guard/\Cn x.effect/\x.triggers.l.length<=140737488351232/\∀ s∈x.triggers.l,Cn s
def Wg(s:List UInt8):Bool:=decide (s.length<=100)||decide (4096<s.length)
def Oj(n most:Nat):Bool:=decide (n<=40)||(decide (most<n)&&decide (n<=600))
theorem Po{n a:Nat}(h:Oj n a=true):n<=600:=by
 simp only[Oj,Bool.or_eq_true,Bool.and_eq_true,decide_eq_true_eq]at h;omega
structure FewM(m:MdM):Prop where
 nv:m.vars.l.length<=600
 ne:m.events.l.length<=600
 nr:m.regions.l.length<=600
 nx:m.verts.l.length<=600
 nw:m.ways.l.length<=600
 vt:∀ x∈m.verts.l,Wg x.entry=true/\Wg x.exit=true/\x.defers.l.length<=40
 wy:∀ x∈m.ways.l,Wg x.guard=true/\Wg x.effect=true/\x.triggers.l.length<=40
theorem Sy(G:Nat->V)(n a:Nat):Spec Tryz.prog G 36 [.int .i64 n,.int .i64 a] Zi (λv _=>v=.bool (Oj n a)):=by
 refine Zo 0 16 [.tmp 4] Tryz.func36 λX=>?_;rw[Oj];have b:decide ((n:Int)<=40)=decide (n<=40):=decide_eq_decide.2 zo;have c:decide ((n:Int)>(a:Int))=decide (a<n):=decide_eq_decide.2 zo;have f:decide ((n:Int)<=600)=decide (n<=600):=decide_eq_decide.2 zo;cases e:decide (n<=40);rw[e]at b;cases d:decide (a<n);rw[d]at c;exact Zq (zi b c);rw[d]at c;exact Zq (zi b (zi c f));rw[e]at b;exact Zq b
theorem Vq(G:Nat->V)(s:List UInt8):Spec Tryz.prog G 37 [.str s] Zi (λv _=>v=.bool (Wg s)):=by
 refine Zo 0 11 [.tmp 2] Tryz.func37 λX=>?_;rw[Wg];have a:decide ((s.length:Int)<=100)=decide (s.length<=100):=decide_eq_decide.2 zo;have c:decide ((s.length:Int)>4096)=decide (4096<s.length):=decide_eq_decide.2 zo;cases b:decide (s.length<=100);rw[b]at a;exact Zq (zi a c);rw[b]at a;exact Zq a
theorem Hr(G:Nat->V)(j:Y6 G)(c:Col)(l:Sl (List UInt8))(m:l.l.length<=140737488351232):
  Spec Tryz.prog G 39 [Za c 1 V.str l] Zi (λv _=>∃ b,v=.bool b/\(b=true->l.l.length<=40)):=by
 refine Zo 0 19 [.tmp 2] Tryz.func39 λX=>?_;refine Z ?_;refine Yf l.l.length (λk (_:Unit)=>st [(0,Za c 1 V.str l),(3,.int .i64 k)] []) (λ_ _=>True) 0 () (Nat.zero_le _) trivial (Weak.st zp zp) ?_;intro k _ n _ o f
 by_cases d:k<l.l.length
 have a:decide ((k:Int)<(l.l.length:Int))=true:=zT;have g:=List.getElem?_eq_getElem d;generalize l.l[k]=x at g;have i:IntKind.i64.wrap ((k:Int)+1)=(k:Int)+1:=W0 zo zo;refine Zf (zi a (zi g (zi d (zi @Int.natCast_nonneg @Int.ofNat_lt)))) ?_;refine Zc j ?_ (s:=Vq G x);cases q:Wg x;refine Zg q ?_;exact⟨_,rfl,λh=>by cases h⟩;refine Zg (zi q i) ?_;exact f _ ⟨d,(),trivial,Weak.st zp zp⟩;have e:k=l.l.length:=zo;have a:decide ((k:Int)<(l.l.length:Int))=false:=zF;rw[e]at a⊢;refine Zf a ?_;exact⟨_,rfl,λh=>by have:=of_decide_eq_true h;omega⟩
theorem V2(G:Nat->V)(R:Y6 G)(c d:Col)(m:MdM)(j:MdR m):Spec Tryz.prog G 38 [Zv c d m] Zi (λv _=>∃ b,v=.bool b/\(b=true->FewM m)):=by
 refine Zo 0 97 [.tmp 2] Tryz.func38 λX=>?_;have b1:=j.var.1;have b2:=j.ev.1;have b3:=j.rg.1;have b4:=j.vt.1;have b5:=j.wy.1;simp only[Zd];refine Z ?_;intro g1;refine AW.weak (Zw (λo=>o==1) (l:=[(1,.view .new (Zv c d m))]) (m:=[]) ?_ trivial) ?_;refine Zs ?_;exact Fz.ptr (v:=Zv c d m) (c:=.new) (fz:=0) zp zp;have w0:IntKind.i64.wrap ((m.vars.l.length:Int)+(m.events.l.length:Int))=(m.vars.l.length:Int)+(m.events.l.length:Int):=W0 zo zo
 by_cases W:m.vars.l.length+m.events.l.length>0
 have t:decide ((m.vars.l.length:Int)+(m.events.l.length:Int)>0)=true:=zT;refine Zf (zi w0 (zi t Zd)) ?_;exact⟨_,rfl,λh=>by cases h⟩;have t:decide ((m.vars.l.length:Int)+(m.events.l.length:Int)>0)=false:=zF
 by_cases U:m.verts.l.length>70
 have B:decide ((m.verts.l.length:Int)>70)=true:=zT;refine Zf (zi w0 (zi t (zi B Zd))) ?_;exact⟨_,rfl,λh=>by cases h⟩;have B:decide ((m.verts.l.length:Int)>70)=false:=zF
 by_cases T:m.ways.l.length>600
 have C:decide ((m.ways.l.length:Int)>600)=true:=zT;refine Zf (zi w0 (zi t (zi B (zi C Zd)))) ?_;exact⟨_,rfl,λh=>by cases h⟩;have C:decide ((m.ways.l.length:Int)>600)=false:=zF
 by_cases S:m.regions.l.length>70
 have f3:decide ((m.regions.l.length:Int)>70)=true:=zT;refine Zf (zi w0 (zi t (zi B (zi C (zi f3 Zd))))) ?_;exact⟨_,rfl,λh=>by cases h⟩;have f3:decide ((m.regions.l.length:Int)>70)=false:=zF;refine Xc (zi w0 (zi t (zi B (zi C (zi f3 Zd))))) ?_;refine Z0 ?_;refine Wr (fun(_:Unit)=>st [(1,.view .new (Zv c d m))] []) (λ_=>∀ x∈m.verts.l,Wg x.entry=true/\Wg x.exit=true/\x.defers.l.length<=40) (λQ s=>?_) ?_
 .refine Z ?_
  refine Yf m.verts.l.length (λk (_:Unit)=>st [(1,.view .new (Zv c d m)),(3,.int .i64 k)] []) (λk _=>∀ x∈m.verts.l.take k,Wg x.entry=true/\Wg x.exit=true/\x.defers.l.length<=40) 0 () (Nat.zero_le _) zS (Weak.st (V9 Zd) zp) ?_;intro k _ N p P r
  by_cases a:k<m.verts.l.length
  rotate_left;have n:k=m.verts.l.length:=zo;have e:decide ((k:Int)<(m.verts.l.length:Int))=false:=zF;rw[n,List.take_length]at p;refine Zf (zi e Zd) ?_;exact s _ () p (Weak.st (V9 Zd) zp);have e:decide ((k:Int)<(m.verts.l.length:Int))=true:=zT;have A:=List.getElem?_eq_getElem a;obtain⟨z,w,u,L,E,_⟩:=j.vt.2 _ (List.getElem_mem a)
  have i:m.verts.l.take (k+1)=m.verts.l.take k++[m.verts.l[k]]:=by rw[List.take_succ_eq_append_getElem a]
  generalize m.verts.l[k]=x at A z w u L E i;unfold Cn at z w u L;have D:IntKind.i64.wrap ((k:Int)+1)=(k:Int)+1:=W0 zo zo;have K:IntKind.i64.wrap ((x.name.length:Int)+(x.entry.length:Int))=(x.name.length:Int)+(x.entry.length:Int):=W0 zo zo;have J:IntKind.i64.wrap ((x.name.length:Int)+(x.entry.length:Int)+(x.exit.length:Int))=(x.name.length:Int)+(x.entry.length:Int)+(x.exit.length:Int):=W0 zo zo;have O:IntKind.i64.wrap ((x.name.length:Int)+(x.entry.length:Int)+(x.exit.length:Int)+(x.sub.length:Int))=(x.name.length:Int)+(x.entry.length:Int)+(x.exit.length:Int)+(x.sub.length:Int):=W0 zo zo;have I:IntKind.i64.wrap ((x.name.length:Int)+(x.entry.length:Int)+(x.exit.length:Int)+(x.sub.length:Int)+(x.defers.l.length:Int))=(x.name.length:Int)+(x.entry.length:Int)+(x.exit.length:Int)+(x.sub.length:Int)+(x.defers.l.length:Int):=W0 zo zo;refine Xc (zi e Zd) ?_;refine Xc (zi A (zi a (zi Zt (zi Zd (zi @Int.natCast_nonneg @Int.ofNat_lt))))) ?_;intro g4;refine Zs ?_;have f:=zi K (zi J (zi O (zi I Zt)))
  by_cases M:x.name.length+x.entry.length+x.exit.length+x.sub.length+x.defers.l.length>9
  have q:decide ((x.name.length:Int)+(x.entry.length:Int)+(x.exit.length:Int)+(x.sub.length:Int)+(x.defers.l.length:Int)>9)=true:=zT;refine Zf (zi q f) ?_;exact⟨_,rfl,λh=>by cases h⟩;have q:decide ((x.name.length:Int)+(x.entry.length:Int)+(x.exit.length:Int)+(x.sub.length:Int)+(x.defers.l.length:Int)>9)=false:=zF;refine Zf (zi q (zi D f)) ?_;refine r _ ⟨a,(),λy g=>?_,Weak.st (V9 Zd) zp⟩;rw[i]at g
  rcases List.mem_append.1 g with g|g
  exact p y g;rw[List.mem_singleton.1 g];exact⟨by simp only[Wg,Bool.or_eq_true,decide_eq_true_eq];omega,by simp only[Wg,Bool.or_eq_true,decide_eq_true_eq];omega,zo⟩
 intro _ H;refine Wr (fun(_:Unit)=>st [(1,.view .new (Zv c d m))] []) (λ_=>∀ x∈m.ways.l,Wg x.guard=true/\Wg x.effect=true/\x.triggers.l.length<=40) (λQ s=>?_) ?_
 .refine Z ?_
  refine Yf m.ways.l.length (λk (_:Unit)=>st [(1,.view .new (Zv c d m)),(5,.int .i64 k)] []) (λk _=>∀ x∈m.ways.l.take k,Wg x.guard=true/\Wg x.effect=true/\x.triggers.l.length<=40) 0 () (Nat.zero_le _) zS (Weak.st (V9 Zd) zp) ?_;intro k _ N p P r
  by_cases a:k<m.ways.l.length
  rotate_left;have n:k=m.ways.l.length:=zo;have e:decide ((k:Int)<(m.ways.l.length:Int))=false:=zF;rw[n,List.take_length]at p;refine Zf (zi e Zd) ?_;exact s _ () p (Weak.st (V9 Zd) zp);have e:decide ((k:Int)<(m.ways.l.length:Int))=true:=zT;have A:=List.getElem?_eq_getElem a;obtain⟨z,w,u,E,_⟩:=j.wy.2 _ (List.getElem_mem a)
  have i:m.ways.l.take (k+1)=m.ways.l.take k++[m.ways.l[k]]:=by rw[List.take_succ_eq_append_getElem a]
  generalize m.ways.l[k]=x at A z w u E i;unfold Cn at z w u;have D:IntKind.i64.wrap ((k:Int)+1)=(k:Int)+1:=W0 zo zo;have K:IntKind.i64.wrap ((x.name.length:Int)+(x.guard.length:Int))=(x.name.length:Int)+(x.guard.length:Int):=W0 zo zo;have J:IntKind.i64.wrap ((x.name.length:Int)+(x.guard.length:Int)+(x.effect.length:Int))=(x.name.length:Int)+(x.guard.length:Int)+(x.effect.length:Int):=W0 zo zo;have I:IntKind.i64.wrap ((x.name.length:Int)+(x.guard.length:Int)+(x.effect.length:Int)+(x.triggers.l.length:Int))=(x.name.length:Int)+(x.guard.length:Int)+(x.effect.length:Int)+(x.triggers.l.length:Int):=W0 zo zo;refine Xc (zi e Zd) ?_;refine Xc (zi A (zi a (zi Z8 (zi Zd (zi @Int.natCast_nonneg @Int.ofNat_lt))))) ?_;intro Y;refine Zs ?_;have f:=zi K (zi J (zi I Z8))
  by_cases M:x.name.length+x.guard.length+x.effect.length+x.triggers.l.length>9
  have q:decide ((x.name.length:Int)+(x.guard.length:Int)+(x.effect.length:Int)+(x.triggers.l.length:Int)>9)=true:=zT;refine Zf (zi q f) ?_;exact⟨_,rfl,λh=>by cases h⟩;have q:decide ((x.name.length:Int)+(x.guard.length:Int)+(x.effect.length:Int)+(x.triggers.l.length:Int)>9)=false:=zF;refine Zf (zi q (zi D f)) ?_;refine r _ ⟨a,(),λy g=>?_,Weak.st (V9 Zd) zp⟩;rw[i]at g
  rcases List.mem_append.1 g with g|g
  exact p y g;rw[List.mem_singleton.1 g];exact⟨by simp only[Wg,Bool.or_eq_true,decide_eq_true_eq];omega,by simp only[Wg,Bool.or_eq_true,decide_eq_true_eq];omega,zo⟩
 intro _ F;refine Zf Zd ?_;exact⟨_,rfl,λ_=>⟨zo,zo,zo,zo,zo,H,F⟩⟩
theorem Zov(G:Nat->V)(a:Y6 G)(c d:Col)(m:MdM)(n:MdR m):Spec Tryz.prog G 20 [Zv c d m] Zi (λv _=>∃ b,v=.bool b/\(b=true->FewM m)):=by
 refine Zo 0 122 [.tmp 2] Tryz.func20 λX=>?_;have S:=n.vt.1;have R:=n.wy.1;simp only[Zd];refine Z ?_;intro Q;refine AW.weak (Zw (λo=>o==1) (l:=[(1,.view .new (Zv c d m))]) (m:=[]) ?_ trivial) ?_;refine Zs ?_;exact Fz.ptr (v:=Zv c d m) (c:=.new) (fz:=0) zp zp;refine Zf Zd ?_;refine Zc a ?_ (s:=Sy G _ _);cases q:Oj m.vars.l.length 64;refine Zg (zi q Zd) ?_;refine Ze a ?_ (s:=V2 G a c.ent d.ent m n);rintro _ ⟨b,rfl,g⟩;refine Zs ?_;refine Z ?_;exact⟨b,rfl,g⟩;have K:=Po q;refine Zg (zi q Zd) ?_;refine Zc a ?_ (s:=Sy G _ _);cases q:Oj m.events.l.length 64;refine Zg (zi q Zd) ?_;refine Ze a ?_ (s:=V2 G a c.ent d.ent m n);rintro _ ⟨b,rfl,g⟩;refine Zs ?_;refine Z ?_;exact⟨b,rfl,g⟩;have J:=Po q;refine Zg (zi q Zd) ?_;refine Zc a ?_ (s:=Sy G _ _);cases q:Oj m.regions.l.length 512;refine Zg (zi q Zd) ?_;refine Ze a ?_ (s:=V2 G a c.ent d.ent m n);rintro _ ⟨b,rfl,g⟩;refine Zs ?_;refine Z ?_;exact⟨b,rfl,g⟩;have I:=Po q;refine Zg (zi q Zd) ?_;refine Zc a ?_ (s:=Sy G _ _);cases q:Oj m.verts.l.length 512;refine Zg (zi q Zd) ?_;refine Ze a ?_ (s:=V2 G a c.ent d.ent m n);rintro _ ⟨b,rfl,g⟩;refine Zs ?_;refine Z ?_;exact⟨b,rfl,g⟩;have H:=Po q;refine Zg (zi q Zd) ?_;refine Zc a ?_ (s:=Sy G _ _);cases q:Oj m.ways.l.length 512;refine Zg (zi q Zd) ?_;refine Ze a ?_ (s:=V2 G a c.ent d.ent m n);rintro _ ⟨b,rfl,g⟩;refine Zs ?_;refine Z ?_;exact⟨b,rfl,g⟩
 have F:=Po q;refine Zg (zi q Zd) ?_;refine Zc a ?_ (s:=Vq G m.name);cases q:Wg m.name;refine Zg (zi q Zd) ?_;refine Ze a ?_ (s:=V2 G a c.ent d.ent m n);rintro _ ⟨b,rfl,g⟩;refine Zs ?_;refine Z ?_;exact⟨b,rfl,g⟩;refine Xw q ?_;refine Z0 ?_;refine Wr (fun(_:Unit)=>st [(1,.view .new (Zv c d m))] []) (λ_=>∀ x∈m.verts.l,Wg x.entry=true/\Wg x.exit=true/\x.defers.l.length<=40) (λN u=>?_) ?_
 .refine Z ?_
  refine Yf m.verts.l.length (λk (_:Unit)=>st [(1,.view .new (Zv c d m)),(3,.int .i64 k)] []) (λk _=>∀ x∈m.verts.l.take k,Wg x.entry=true/\Wg x.exit=true/\x.defers.l.length<=40) 0 () (Nat.zero_le _) zS (Weak.st (V9 Zd) zp) ?_;intro k _ L r M t
  by_cases e:k<m.verts.l.length
  rotate_left;have p:k=m.verts.l.length:=zo;have f:decide ((k:Int)<(m.verts.l.length:Int))=false:=zF;rw[p,List.take_length]at r;refine Zf (zi f Zd) ?_;exact u _ () r (Weak.st (V9 Zd) zp);have f:decide ((k:Int)<(m.verts.l.length:Int))=true:=zT;have z:=List.getElem?_eq_getElem e;obtain⟨_,_,_,_,w,_⟩:=n.vt.2 _ (List.getElem_mem e)
  have j:m.verts.l.take (k+1)=m.verts.l.take k++[m.verts.l[k]]:=by rw[List.take_succ_eq_append_getElem e]
  generalize m.verts.l[k]=x at z w j;have A:IntKind.i64.wrap ((k:Int)+1)=(k:Int)+1:=W0 zo zo;refine Xc (zi f Zd) ?_;refine Xc (zi z (zi e (zi Zt (zi Zd (zi @Int.natCast_nonneg @Int.ofNat_lt))))) ?_;intro P;refine Zs ?_;refine Zf Zt ?_;refine Zc a ?_ (s:=Vq G x.name);cases q:Wg x.name;refine Zg q ?_;exact⟨_,rfl,λh=>by cases h⟩;refine Zg (zi q Zt) ?_;refine Zc a ?_ (s:=Vq G x.entry);cases q:Wg x.entry;refine Zg q ?_;exact⟨_,rfl,λh=>by cases h⟩;refine Zg (zi q Zt) ?_;have C:=q
  try clear q
  refine Zc a ?_ (s:=Vq G x.exit);cases q:Wg x.exit;refine Zg q ?_;exact⟨_,rfl,λh=>by cases h⟩;refine Zg (zi q Zt) ?_;have B:=q
  try clear q
  refine Zc a ?_ (s:=Vq G x.sub);cases q:Wg x.sub;refine Zg q ?_;exact⟨_,rfl,λh=>by cases h⟩;refine Zg (zi q Zt) ?_;refine Ze a ?_ (s:=Hr G a _ x.defers w);rintro _ ⟨b,rfl,g⟩;cases b;refine Zs ?_;refine Z ?_;exact⟨_,rfl,λh=>by cases h⟩;refine Zs ?_;refine Zf A ?_;refine t _ ⟨e,(),λy i=>?_,Weak.st (V9 Zd) zp⟩;rw[j]at i
  rcases List.mem_append.1 i with i|i
  exact r y i;rw[List.mem_singleton.1 i];exact⟨C,B,g rfl⟩
 intro _ E;refine Wr (fun(_:Unit)=>st [(1,.view .new (Zv c d m))] []) (λ_=>∀ x∈m.ways.l,Wg x.guard=true/\Wg x.effect=true/\x.triggers.l.length<=40) (λN u=>?_) ?_
 .refine Z ?_
  refine Yf m.ways.l.length (λk (_:Unit)=>st [(1,.view .new (Zv c d m)),(5,.int .i64 k)] []) (λk _=>∀ x∈m.ways.l.take k,Wg x.guard=true/\Wg x.effect=true/\x.triggers.l.length<=40) 0 () (Nat.zero_le _) zS (Weak.st (V9 Zd) zp) ?_;intro k _ L r M t
  by_cases e:k<m.ways.l.length
  rotate_left;have p:k=m.ways.l.length:=zo;have f:decide ((k:Int)<(m.ways.l.length:Int))=false:=zF;rw[p,List.take_length]at r;refine Zf (zi f Zd) ?_;exact u _ () r (Weak.st (V9 Zd) zp);have f:decide ((k:Int)<(m.ways.l.length:Int))=true:=zT;have z:=List.getElem?_eq_getElem e;obtain⟨_,_,_,w,_⟩:=n.wy.2 _ (List.getElem_mem e)
  have j:m.ways.l.take (k+1)=m.ways.l.take k++[m.ways.l[k]]:=by rw[List.take_succ_eq_append_getElem e]
  generalize m.ways.l[k]=x at z w j;have A:IntKind.i64.wrap ((k:Int)+1)=(k:Int)+1:=W0 zo zo;refine Xc (zi f Zd) ?_;refine Xc (zi z (zi e (zi Z8 (zi Zd (zi @Int.natCast_nonneg @Int.ofNat_lt))))) ?_;intro O;refine Zs ?_;refine Zf Z8 ?_;refine Zc a ?_ (s:=Vq G x.name);cases q:Wg x.name;refine Zg q ?_;exact⟨_,rfl,λh=>by cases h⟩;refine Zg (zi q Z8) ?_;refine Zc a ?_ (s:=Vq G x.guard);cases q:Wg x.guard;refine Zg q ?_;exact⟨_,rfl,λh=>by cases h⟩;refine Zg (zi q Z8) ?_;have C:=q
  try clear q
  refine Zc a ?_ (s:=Vq G x.effect);cases q:Wg x.effect;refine Zg q ?_;exact⟨_,rfl,λh=>by cases h⟩;refine Zg (zi q Z8) ?_;have B:=q
  try clear q
  refine Ze a ?_ (s:=Hr G a _ x.triggers w);rintro _ ⟨b,rfl,g⟩;cases b;refine Zs ?_;refine Z ?_;exact⟨_,rfl,λh=>by cases h⟩;refine Zs ?_;refine Zf A ?_;refine t _ ⟨e,(),λy i=>?_,Weak.st (V9 Zd) zp⟩;rw[j]at i
  rcases List.mem_append.1 i with i|i
  exact r y i;rw[List.mem_singleton.1 i];exact⟨C,B,g rfl⟩
 intro _ D;refine Z ?_;exact⟨_,rfl,λ_=>⟨K,J,I,H,F,E,D⟩⟩
end Go.Hs
end

section
namespace Go.Hs
open Go.Proofs
set_option maxRecDepth 10000
set_option maxHeartbeats 4000000
def smallM:MdM:=⟨[77],.nil,.nil,.mk false [([],-1)],.mk false [⟨[],3,0,-1,[],[],.nil,[]⟩,⟨[115],1,0,-1,[],[],.nil,[]⟩],.mk false [⟨[],0,1,.nil,0,[],[],1⟩]⟩
theorem Hq(G:Nat->V):InSp Tryz.prog G 21 [] (Z6 Zi [(7002,.dead),(7005,.dead),(7007,.dead)])
  (λv H'=>∃ g2 g5 g7,v=.agg [.str smallM.name,.nils,.nils,.msl 7002 g2 0 1 2,.msl 7005 g5 0 2 8,.msl 7007 g7 0 1 8]/\H' 7002=.cells .new g2 0 (flat (smallM.regions.l.map Yw))/\H' 7005=.cells .new g5 0 (flat (smallM.verts.l.map (Y0 .old)))/\H' 7007=.cells .new g7 0 (flat (smallM.ways.l.map (Xp .old)))):=by
 refine X9 7000 9 [.cell 0 28] Tryz.func21 rfl rfl rfl rfl λX=>?_;simp only[Z6];refine Z ?_;intro a;refine Z ?_;intro g2 g5 g7;refine Zs ?_;refine Z ?_;exact⟨g2,g5,g7,rfl,zr,zr,zr⟩
def sOne(s:List UInt8):Sl (List UInt8):=.mk false [s]
theorem Fz.one{F:Nat->Bool}{H:Heap}{o g fz:Nat}{c:Col}{s:List UInt8}(b:F o=true)(a:H o=.cells c g fz [.str s]):Fz F H (.msl o g 0 1 1) (Za c 1 V.str (sOne s)):=Xm (f:=V.str) (l:=[s]) b a λ_=>rfl
theorem Rd.row{α : Type}{H:Heap}{o g fz m:Nat}{c:Col}{f f' : α -> V}{l:List α}(e:H o=.cells c g fz (flat (l.map f)))(d:∀ x,(f x).cells.length=m)
  (b:∀ x,∀ y∈(f x).cells,y.Im) (a:∀ x,(f x).recol Col.ent=f' x):Rd H (.msl o g 0 l.length m) (Za .old m f' (.mk false l)):=by
 have:=Rd.msl (l:=l) (off:=0) (n:=l.length) (o:=o) (g:=g) e d b a zo;rw[List.drop_zero,List.take_length,Nat.zero_mul]at this;exact this
theorem Zv6(p:List UInt8×Int):∀ y∈(Yw p).cells,y.Im:=by
 intro y a;simp only[Wn,V.cells,List.mem_cons,List.not_mem_nil,or_false]at a
 rcases a with rfl|rfl<;>first|exact .str _|exact .int _ _
theorem im_str(s:List UInt8):∀ y∈(V.str s).cells,y.Im:=by
 intro y a;simp only[V.cells,List.mem_cons,List.not_mem_nil,or_false]at a;rw[a];exact .str _
theorem Zrt(c:Col)(s:Sl (List UInt8)):(Za c 1 V.str s).Im:=by
 cases s with
 |nil=>exact .nils
 |mk b l=>exact .slice _ _ _ _ (λx d=>by obtain⟨v,e,d⟩:=List.mem_flatMap.1 d;obtain⟨a,_,rfl⟩:=List.mem_map.1 e;exact im_str a x d)
theorem Zu6(c:Col)(x:VtM):∀ y∈(Y0 c x).cells,y.Im:=by
 intro y a;simp only[Zt,V.cells,List.mem_cons,List.not_mem_nil,or_false]at a
 rcases a with rfl|rfl|rfl|rfl|rfl|rfl|rfl|rfl<;>first|exact .str _|exact .int _ _|exact Zrt _ _
theorem Zw6(c:Col)(x:TrM):∀ y∈(Xp c x).cells,y.Im:=by
 intro y a;simp only[Z8,V.cells,List.mem_cons,List.not_mem_nil,or_false]at a
 rcases a with rfl|rfl|rfl|rfl|rfl|rfl|rfl|rfl<;>first|exact .str _|exact .int _ _|exact Zrt _ _
theorem Zc4:MdB smallM:=by constructor<;>decide
theorem Zb4:MdT smallM:=by constructor<;>decide
theorem FewM.b{m:MdM}(f:FewM m)(r:MdR m):MdB m:=by
 have l:=f.nv;have k:=f.ne;have j:=f.nr;have i:=f.nx;have h:=f.nw;refine⟨?_,?_,?_,?_,?_,?_,l,k,j,i,h⟩;have:=r.nm;unfold Cn at this;omega;intro p c;have:=r.var.2 p c;unfold Cn at this;omega;intro p c;have:=r.ev.2 p c;unfold Cn at this;omega;intro p c;have:=r.rg.2 p c;unfold Cn at this;omega;intro x a;obtain⟨d,_,_,g,_⟩:=r.vt.2 x a;have e:=(f.vt x a).2.2;unfold Cn at d g;exact⟨zo,zo,zo⟩;intro x a;obtain⟨d,_⟩:=r.wy.2 x a;have e:=(f.wy x a).2.2;unfold Cn at d;exact⟨zo,zo⟩
theorem Kk{s:List UInt8}(h:Wg s=true)(a:s.length<=4096):s.length<=900:=by
 simp only[Wg,Bool.or_eq_true,decide_eq_true_eq]at h;omega
theorem FewM.t{m:MdM}(f:FewM m)(r:m.p.Rt):MdT m:=by
 have wy:∀ t∈m.ways.l,t.guard.length<=4096/\t.effect.length<=4096:=λt a=>by
  obtain⟨i,b,rfl⟩:=List.getElem_of_mem a;have:=r.way i (by rw[m.nw];exact b);rw[Mw (List.getElem?_eq_getElem b)]at this;simp only[PM.wayB,Bool.and_eq_true,decide_eq_true_eq]at this;exact⟨this.1.2,this.2⟩
 have d:∀ x∈m.verts.l,x.entry.length<=4096/\x.exit.length<=4096:=λt a=>by
  obtain⟨i,b,rfl⟩:=List.getElem_of_mem a;have:=r.vtx i (by rw[m.nv];exact b);rw[Ps (List.getElem?_eq_getElem b)]at this;simp only[PM.vertexB,Bool.and_eq_true,decide_eq_true_eq]at this;exact⟨this.1.1.2,this.1.2⟩
 exact⟨λt a=>Kk (f.wy t a).2.1 (wy t a).2,λt a=>Kk (f.wy t a).1 (wy t a).1,λx c=>⟨Kk (f.vt x c).1 (d x c).1,Kk (f.vt x c).2.1 (d x c).2⟩⟩
theorem Cm(G:Nat->V)(f:Y6 G)(c d:Col)(m:MdM)(g:MdR m):Spec Tryz.prog G 7 [Zv c d m] Zi (λv _=>∃ b,v=.bool b/\(b=true->FewM m)):=by
 refine Zo 0 23 [.tmp 2] Tryz.func7 λX=>?_;refine Zf Zd ?_;intro j;refine Zf Zd ?_;refine Ze f ?_ (s:=Zov G f c.ent d.ent m g);rintro _ ⟨b,rfl,i⟩
 cases b with
 |false=>
  refine Zg Zd ?_;exact⟨_,rfl,λh=>by cases h⟩
 |true=>
  cases a:decide ((m.ways.l.length:Int)<=40);refine Zg (zi a Zd) ?_;exact⟨_,rfl,λh=>by cases h⟩;cases e:decide ((m.verts.l.length:Int)<=40);refine Zg (zi a (zi e Zd)) ?_;exact⟨_,rfl,λh=>by cases h⟩;refine Zg (zi a (zi e Zd)) ?_;exact⟨_,rfl,λ_=>i rfl⟩
end Go.Hs
end

section
namespace Go.Hs
open Go.Proofs
set_option maxRecDepth 10000
set_option maxHeartbeats 4000000
deriving instance DecidableEq for StP
def smJV:Sl VtM:=.mk false [⟨[],3,0,-1,[],[],.nil,[]⟩,⟨[115],1,0,-1,[],[],.nil,[]⟩,⟨[],5,0,-1,[],[],.nil,[]⟩,⟨[],1,0,-1,[],[],.nil,[]⟩,⟨[],1,0,-1,[],[],.nil,[]⟩]
def smJW:Sl TrM:=.mk false [⟨[],0,1,.nil,0,[],[],1⟩,⟨[],1,2,.nil,0,[],[],1⟩,⟨[],2,3,.nil,0,[],[],1⟩,⟨[],2,4,.nil,0,[],[],1⟩]
def smJ:MdM:={ smallM with verts:=smJV,ways:=smJW }
theorem smJ_b:MdB smJ:=by constructor<;>decide
theorem smJ_t:MdT smJ:=by constructor<;>decide
def smL:List (StP×List Int):=[(⟨[0],0,[0],[0],[(1,[])]⟩,[1])]
def smK:List (StP×List Int):=[(⟨[0],0,[0],[0],[(1,[])]⟩,[1]),(⟨[1],1,[1,2],[1,2],[(3,[])]⟩,[3]),(⟨[1],1,[1,3],[1,3],[(4,[])]⟩,[4])]
theorem Z5m:smallM.p.statP Xd Y1=(smL,0,0):=by decide +kernel
theorem Z4z:smJ.p.statP Xd Y1=(smK,0,0):=by decide +kernel
theorem nw_i(s:Sl Int):V.Nw (Za .new 1 (V.int .i64) s):=Zje (λx y a=>by simp[V.cells]at a;subst a;exact .int _ _) s
theorem nw_es(l:List (Int×List Int)):V.Nw (Xl .new l):=Zje (λe y a=>by
 rw[Xq]at a;simp only[V.cells,List.mem_cons,List.not_mem_nil,or_false]at a
 rcases a with rfl|rfl
 exact .int _ _
 exact nw_i _) _
theorem Zc1(s:Sl (StP×List Int))(a b:Int):V.Nw (.tuple [Za .new 6 (Yr .new) s,.int .i64 a,.int .i64 b]):=by
 refine .tuple _ λx d=>?_;simp only[List.mem_cons,List.not_mem_nil,or_false]at d
 rcases d with rfl|rfl|rfl
 refine Zje (λq y c=>?_) s;rw[Yc]at c;simp only[V.cells,List.mem_cons,List.not_mem_nil,or_false]at c
 rcases c with rfl|rfl|rfl|rfl|rfl|rfl<;>first|exact nw_i _|exact .int _ _|exact nw_es _
 exact .int _ _;exact .int _ _
theorem im_RS(c:Col)(q:StP×List Int):(Yr c q).Im:=by
 refine .agg _ λx a=>?_;simp only[List.mem_cons,List.not_mem_nil,or_false]at a
 rcases a with rfl|rfl|rfl|rfl|rfl|rfl<;>first|exact Sa _|exact .int _ _|exact Z66 _ _
theorem Z1o:∀ (x:Int),∀ y∈(V.int .i64 x).cells,y.Im:=λx y a=>by simp[V.cells]at a;subst a;exact .int _ _
theorem im_ed(c:Col):∀ (x:Int×Sl Int),∀ y∈(Dr c x).cells,y.Im:=λx y a=>by
 rw[Fa]at a;simp only[V.cells,List.mem_cons,List.not_mem_nil,or_false]at a
 rcases a with rfl|rfl
 exact .int _ _;exact Sa _
theorem Fo:flat (smallM.ways.l.map (Xp .old))=[.str [],.int .i64 0,.int .i64 1,.nils,.int .i64 0,.str [],.str [],.int .u8 1]:=rfl
theorem Hj:flat (smallM.verts.l.map (Y0 .old))=[.str [],.int .u8 3,.int .i64 0,.int .i64 (-1),.str [],.str [],.nils,.str [],.str [115],.int .u8 1,.int .i64 0,.int .i64 (-1),.str [],.str [],.nils,.str []]:=rfl
theorem A2(G:Nat->V)(o:GExp G):Spec Tryz.prog G 8 [] Zi (λv _=>v=.bool true):=by
 have a:=o.ok;refine Zo 0 87 [.tmp 0] Tryz.func8 λX=>?_;refine Z ?_;refine CallA.inl [(7002,.dead),(7005,.dead),(7007,.dead)] zk (by intro p b;simp only[List.mem_cons,List.not_mem_nil,or_false]at b;rcases b with rfl|rfl|rfl<;>rfl) ?_;refine(Hq G).mono ?_;rintro _ F ⟨M,K,J,rfl,i,h,g⟩;simp only[List.map_cons,List.map_nil,i,h,g];refine Zu ?_;refine L5 a [Zv .old .old smallM] zk ⟨Rd.agg ⟨Yv (.str _) rfl,Yv .nils rfl,Yv .nils rfl,Rd.row (l:=smallM.regions.l) zp Zos Zv6 (λ_=>rfl),Rd.row (l:=smallM.verts.l) zp (Zns _) (Zu6 _) (Kt _ _),Rd.row (l:=smallM.ways.l) zp (Zts _) (Zw6 _) (Ku _ _),trivial⟩,trivial⟩ ((D6 G o .old .old smallM Zc4 (λ_=>Zb4)).mono ?_);rintro _ _ rfl;rw[Z5m];refine⟨Zc1 _ _ _,?_⟩;refine Zs ?_;refine AW.weak (Weak.st (l:=[(1,Za .new 6 (Yr .new) (Zb smL)),(3,.int .i64 0)]) (m:=[]) zp zp) ?_;refine Z ?_;refine CallA.inl [(7002,.dead),(7005,.dead),(7007,.dead)] zk (by intro p b;simp only[List.mem_cons,List.not_mem_nil,or_false]at b;rcases b with rfl|rfl|rfl<;>rfl) ?_;refine(Hq G).mono ?_;rintro _ F ⟨k2,k5,k7,rfl,i,h,g⟩;simp only[List.map_cons,List.map_nil,i,h,g];refine Zu ?_;intro L;refine Zf (zi Fo Hj) ?_;intro E;refine⟨Yg zo zo,λI=>?_⟩;refine Zf (zi Fo Hj) ?_;intro D;refine⟨Yg zo zo,λH=>?_⟩;refine Z ?_;refine L5 a [Zv .old .old smJ] zk ⟨Rd.agg ⟨Yv (.str _) rfl,Yv .nils rfl,Yv .nils rfl,Rd.row (l:=smJ.regions.l) zp Zos Zv6 (λ_=>rfl),Rd.row (f:=Y0 .old) (l:=smJ.verts.l) zp (Zns _) (Zu6 _) (Kt _ _),Rd.row (f:=Xp .old) (l:=smJ.ways.l) zp (Zts _) (Zw6 _) (Ku _ _),trivial⟩,trivial⟩ ((D6 G o .old .old smJ smJ_b (λ_=>smJ_t)).mono ?_)
 rintro _ _ rfl;rw[Z4z];refine⟨Zc1 _ _ _,?_⟩;refine Zs ?_;refine AW.weak (Weak.st (l:=[(1,Za .new 6 (Yr .new) (Zb smL)),(3,.int .i64 0),(5,Za .new 6 (Yr .new) (Zb smK)),(7,.int .i64 0)]) (m:=[]) zp zp) ?_;have r:smL[0]?=some (⟨[0],0,[0],[0],[(1,[])]⟩,[1]):=rfl;have q:smL.length=1:=rfl;have t:smK.length=3:=rfl;have k:smK[1]?=some (⟨[1],1,[1,2],[1,2],[(3,[])]⟩,[3]):=rfl;have j:smK[2]?=some (⟨[1],1,[1,3],[1,3],[(4,[])]⟩,[4]):=rfl;have d:=zi r (zi q (zi t (zi k (zi j (zi Yc (zi @Int.natCast_nonneg @Int.ofNat_lt))))));refine Zf d ?_;intro C B A z y
 refine CallA.bor a [Yr .old (⟨[0],0,[0],[0],[(1,[])]⟩,[1]),Af .old ⟨.mk false [0],0,.mk false [0],.mk false [0],.mk false [(1,.nil)],.mk false [1],false⟩] zk
  ⟨Yv (im_RS .new (⟨[0],0,[0],[0],[(1,[])]⟩,[1])) (U3 Col.ent .new (⟨[0],0,[0],[0],[(1,[])]⟩,[1])),Rd.agg ⟨Rd.row (f:=V.int .i64) (l:=[0]) zp (λ_=>rfl) Z1o (λ_=>rfl),Yv (.int _ _) rfl,Rd.row (f:=V.int .i64) (l:=[0]) zp (λ_=>rfl) Z1o (λ_=>rfl),Rd.row (f:=V.int .i64) (l:=[0]) zp (λ_=>rfl) Z1o (λ_=>rfl),
   Rd.row (f:=Dr .old) (l:=[(1,.nil)]) zp (λ_=>rfl) (im_ed _) (Zg0 Col.ent .old),Rd.row (f:=V.int .i64) (l:=[1]) zp (λ_=>rfl) Z1o (λ_=>rfl),Yv (.bool _) rfl,trivial⟩,trivial⟩ ((Zlm G a .old .old _ _ ⟨rfl,rfl,rfl,rfl,rfl,rfl⟩ ?_).mono ?_)
 constructor<;>simp
 rintro _ _ rfl;refine⟨.bool _,?_⟩;refine Zf d ?_;intro x;refine CallA.bor a [Za .old 1 (V.int .i64) (Zb [1,2]),Za .old 1 (V.int .i64) (.mk false [1,2])] zk ⟨Yv (Sa (c:=.new) (Zb [1,2])) rfl,Rd.row (f:=V.int .i64) (l:=[1,2]) zp (λ_=>rfl) Z1o (λ_=>rfl),trivial⟩ ((Tu G a .old .old (Zb [1,2]) (.mk false [1,2]) rfl zd).mono ?_);rintro _ _ rfl;refine⟨.bool _,?_⟩;refine Zg d ?_;intro w;refine CallA.bor a [Za .old 1 (V.int .i64) (Zb [1,3]),Za .old 1 (V.int .i64) (.mk false [1,3])] zk ⟨Yv (Sa (c:=.new) (Zb [1,3])) rfl,Rd.row (f:=V.int .i64) (l:=[1,3]) zp (λ_=>rfl) Z1o (λ_=>rfl),trivial⟩ ((Tu G a .old .old (Zb [1,3]) (.mk false [1,3]) rfl zd).mono ?_);rintro _ _ rfl;refine⟨.bool _,?_⟩;refine Zg d ?_
 have n:R4 ((Zb smK).map (Zlz .old)).l 1 ((Zb smK).map (Zlz .old)).l.length=[1,2]:=by decide +kernel
 refine Zc a ?_ (ha:=by
  simp only[List.map_cons,List.map_nil,Xf,Wd Col.ent Col.new 6 (U3 Col.ent Col.new)]
  rw[Zl2]) (s:=(B4 G a Col.new.ent Col.new.ent ((Zb smK).map (Zlz Col.new.ent)) 1 zd (by
   intro s e;have e:s∈smK.map (Zlz Col.new.ent):=e;simp only[smK,List.map_cons,List.map_nil,List.mem_cons,List.not_mem_nil,or_false]at e
   rcases e with rfl|rfl|rfl<;>decide)))
 intro u;rw[n];refine CallA.bor a [Za .old 1 (V.int .i64) (Zb [1,2]),Za .old 1 (V.int .i64) (.mk false [1,2])] zk ⟨Yv (Sa (c:=.new) (Zb [1,2])) rfl,Rd.row (f:=V.int .i64) (l:=[1,2]) zp (λ_=>rfl) Z1o (λ_=>rfl),trivial⟩ ((Tu G a .old .old (Zb [1,2]) (.mk false [1,2]) rfl zd).mono ?_);rintro _ _ rfl;refine⟨.bool _,?_⟩;refine Zg d ?_;rfl
end Go.Hs
end

section
namespace Go.Hs
open Go.Proofs
set_option maxRecDepth 10000
set_option maxHeartbeats 8000000
set_option pp.deepTerms true
set_option pp.maxSteps 10000000
def Rl(n:Nat)(p:Nat->Bool):List V:=(List.range n).map λv=>V.bool (p v)
theorem F0(n:Nat)(p:Nat->Bool):(Rl n p).length=n:=by rw[Rl,List.length_map,List.length_range]
theorem Zn4{n:Nat}{p:Nat->Bool}{v:Nat}(h:v<n):(Rl n p)[v]?=some (.bool (p v)):=by
 rw[Rl,List.getElem?_map,List.getElem?_range h]<;>rfl
theorem Zqf{n:Nat}{p:Nat->Bool}{v:Nat}(h:v<n):(Rl n p).set v (.bool true)=Rl n λu=>p u||u==v:=by
 apply List.ext_getElem;simp[Rl];intro j b a;rw[List.getElem_set];simp only[Rl,List.getElem_map,List.getElem_range]
 by_cases e:v=j
 subst e;simp;rw[if_neg e];have:(j==v)=false:=beq_false_of_ne (Ne.symm e);rw[this,Bool.or_false]
theorem Z3s(b:Bool):∀ n:Nat,Vj n [.bool b]=Rl n λ_=>b
 |0=>rfl
 |n+1=>by
  show V.bool b::Vj n [.bool b]=_
  rw[Z3s b n,Rl,Rl,List.range_succ_eq_map,List.map_cons,List.map_map]<;>rfl
theorem F2{n:Nat}{p q:Nat->Bool}(h:∀ v,v<n->p v=q v):Rl n p=Rl n q:=by
 unfold Rl
 exact List.map_congr_left λv a=>by rw[h v (List.mem_range.1 a)]
end Go.Hs
end

section
namespace Go.Hs
open Go.Proofs
set_option maxRecDepth 10000
set_option maxHeartbeats 4000000
theorem Nm(G:Nat->V)(B:Y6 G)(c d c1:Col)(m:MdM)(s:Sl Int)(f to:Int)(J:s.l.length<=1000000)(h:m.p.folB s.l f to=true):
  Spec Tryz.prog G 34 [Zv c d m,Za c1 1 (V.int .i64) s,.int .i64 f,.int .i64 to] Zi (λv _=>v=.bool true):=by
 refine Zo 0 56 [.tmp 8] Tryz.func34 λX=>?_;refine Zf Zd ?_;intro M;refine AW.weak (Zw (λo=>o==4) (l:=[(1,Za c1 1 (V.int .i64) s),(2,.int .i64 f),(3,.int .i64 to),(4,.view .new (Zv c d m))]) (m:=[]) ?_ trivial) ?_;refine Zs ?_;exact⟨Fz.same _,Fz.same _,Fz.same _,Fz.ptr (v:=Zv c d m) (c:=.new) (fz:=0) zp (by rw[Zd];exact zp)⟩;refine Z ?_;refine Yf s.l.length (λk (i:Int)=>st [(1,Za c1 1 (V.int .i64) s),(2,.int .i64 i),(3,.int .i64 to),(4,.view .new (Zv c d m)),(9,.int .i64 k)] []) (λk i=>m.p.folB (s.l.drop k) i to=true) 0 f (Nat.zero_le _) h (Weak.st zp zp) ?_;intro k i K b L I
 by_cases a:k<s.l.length
 have e:decide ((k:Int)<(s.l.length:Int))=true:=zT;have A:=List.getElem?_eq_getElem a;rw[List.drop_eq_getElem_cons a]at b;generalize s.l[k]=t at A b;rw[PM.folB,Bool.and_eq_true,Bool.and_eq_true,Bool.and_eq_true,decide_eq_true_eq,decide_eq_true_eq,beq_iff_eq]at b;obtain⟨⟨⟨t0,t1⟩,z⟩,b⟩:=b;obtain⟨n,y,rfl,j,q,C⟩:=m.wyAt t0 t1
 have w:m.p.tg (n:Int)=y.target:=by rw[PM.tg,C]<;>rfl
 have x:m.p.sc (n:Int)=y.source:=by rw[PM.sc,C]<;>rfl
 rw[x]at z;subst z;rw[w]at b;have D:IntKind.i64.wrap ((k:Int)+1)=(k:Int)+1:=W0 zo zo;have H:decide ((n:Int)<0)=false:=zF;have F:decide ((n:Int)>=(m.ways.l.length:Int))=false:=zF;have E:(y.source != y.source)=false:=zS;have r:=zi H (zi F (zi E (zi A (zi a (zi q (zi j (zi Zd (zi Z8 (zi @Int.natCast_nonneg @Int.ofNat_lt)))))))));refine Xc (zi e r) ?_;refine Ha r B ?_;refine Ha r B ?_;refine Zf D ?_;exact I _ ⟨a,y.target,b,Weak.st (V9 @Zd) zp⟩;have g:k=s.l.length:=zo;have e:decide ((s.l.length:Int)<(s.l.length:Int))=false:=zF;rw[g,List.drop_length]at b;rw[g];have u:(i==to)=true:=b;refine Zf (zi e u) ?_;rfl
end Go.Hs
end

section
namespace Go.Hs
open Go.Proofs
set_option maxRecDepth 10000
set_option maxHeartbeats 4000000
def Ri(s:StP):Nat:=if 1<s.sources.length then s.sources.length else 0
def B5(m:PM)(s:StP):Int:=if 1<s.sources.length then m.tg (s.effects.headD 0)else s.sources.headD 0
structure GoesF(m:PM)(s:StP):Prop where
 so:s.sources≠[]
 ef:s.effects≠[]
 en:s.ends≠[]
 il:Ri s<s.effects.length
 inn:∀ i,i<Ri s->m.folB [s.effects.getD i 0] (s.sources.getD i 0) (B5 m s)=true
 pa:m.folB (s.effects.drop (Ri s)) (B5 m s) (m.tg (PM.lastT (s.effects.drop (Ri s))))=true
 ea:∀ e∈s.ends,((((0<=e.1/\e.1<m.vertices.length)/\m.folB e.2 (m.tg (PM.lastT (s.effects.drop (Ri s)))) e.1=true)/\¬(1<s.ends.length/\e.2=[]))/\PM.restB (m.kd e.1)=true)
 gu:s.effects.drop (Ri s)++s.ends.flatMap (·.2)=s.guards
theorem goesF{m:PM}{s:StP}(h:m.goesB s=true):GoesF m s:=by
 unfold PM.goesB at h;simp only[Bool.and_eq_true,decide_eq_true_eq,List.all_eq_true,beq_iff_eq,List.mem_range]at h;obtain⟨⟨⟨⟨⟨⟨⟨r,p⟩,o⟩,n⟩,l⟩,k⟩,j⟩,i⟩:=h;refine⟨r,p,o,n,l,k,λe g=>?_,i⟩;obtain⟨⟨⟨⟨a,b⟩,c⟩,d⟩,f⟩:=j e g;refine⟨⟨⟨⟨a,b⟩,c⟩,λq=>?_⟩,f⟩;rw[Bool.not_eq_true',Bool.and_eq_false_iff]at d
 rcases d with d|d
 rw[decide_eq_false_iff_not]at d;exact d q.1;rw[beq_eq_false_iff_ne]at d;exact d q.2
theorem Zah{m:PM}:∀ (p:List Int) (a b:Int),m.folB p a b=true->∀ t∈p,0<=t/\t<m.ways.length
 |[],_,_,_,t,c=>by cases c
 |u::r,a,b,h,t,c=>by
  rw[PM.folB,Bool.and_eq_true,Bool.and_eq_true,Bool.and_eq_true,decide_eq_true_eq,decide_eq_true_eq]at h
  rcases List.mem_cons.1 c with rfl|c
  exact h.1.1;exact Zah r _ _ h.2 t c
theorem Zkt{p:List Int}(h:p≠[]):p[p.length-1]?=some (PM.lastT p):=by
 rw[<- List.getLast?_eq_getElem?,PM.lastT,List.getLastD_eq_getLast?]
 cases a:p.getLast? with
 |none=>exact absurd (List.getLast?_eq_none_iff.1 a) h
 |some x=>rfl
theorem last_mem{p:List Int}(h:p≠[]):PM.lastT p∈p:=List.mem_of_getElem? (Zkt h)
theorem Zb3{P:Program}{E:Ent}{ops:Array Oper}{Q:AS->Prop}{rest:List Oper}{τ : Nat->V}{H:Heap}{α : Type}{f : α -> V}{m bytes:Nat}(d:∀ x,(f x).cells.length=m){e o g:Nat}{l l2:List α}{xc:List V}{n:Nat}(c:l≠[])(p:n=l2.length)(j:xc=flat (l2.map f)){ob:AObj}
  (b:ob=obS H (grown o g m l)) (i:H o=Yb g f l) (k:V7 bytes (l.length+l2.length))
  (h:∀ g2,Yi P E ops Q rest ⟨Z3 τ e (grown o g2 m (l++l2)),Z3 H o (Yb g2 f (l++l2))⟩):
  Gn P E ops Q rest e τ H m bytes (grown o g m l) (some (n,xc)) ob:=by
 subst b p j;have a:l++l2≠[]:=λq=>c (List.append_eq_nil_iff.1 q).1;rw[Xa _ _ _ c]at *;rw[We _ _ c]at i;rw[Kz,i,Z9h];refine⟨rfl,k,rfl,by rw[Xo d];omega,zo,λg2=>?_⟩;have:=h g2;rw[Xa _ _ _ a,We _ _ a]at this
 have r:((flat (List.map f l)).drop 0).take (l.length*m)=flat (List.map f l):=by
  rw[List.drop_zero,<- Xo d,List.take_length]
 rw[r,<- Um,<- List.map_append];rwa [List.length_append]at this
theorem Zqw(G:Nat->V)(H:Y6 G)(c d c1:Col)(m:MdM)(q:StP×List Int)(hn:RfN q)(hw:m.ways.l.length<=600)(h:m.p.goesB q.1=true):
  Spec Tryz.prog G 16 [Zv c d m,Yr c1 q] Zi (λv _=>v=.bool true):=by
 have F:=goesF h
 try clear h
 refine Zo 0 214 [.tmp 4] Tryz.func16 λX=>?_;refine Zf (zi Zd Yc) ?_;intro g2 g3;have b:Xl c1 q.1.ends=Za c1 2 (Wv c1) (Zb q.1.ends):=rfl;refine AW.weak (Zw (λo=>o==2||o==3) (l:=[(2,.view .new (Zv c d m)),(3,.view .new (Yr c1 q))]) (m:=[]) ?_ trivial) ?_;refine Zs ?_;exact⟨Fz.ptr (v:=Zv c d m) (c:=.new) (fz:=0) zp (by rw[Zd];exact zp),Fz.ptr (v:=Yr c1 q) (c:=.new) (fz:=0) zp (by rw[Yc];exact zp)⟩;have ls:=List.length_pos_iff.2 F.so;have lf:=List.length_pos_iff.2 F.ef;have le:=List.length_pos_iff.2 F.en
 have u1:((q.1.sources.length:Int)==0)=false:=by rw[beq_eq_false_iff_ne];omega
 have u2:((q.1.effects.length:Int)==0)=false:=by rw[beq_eq_false_iff_ne];omega
 have u3:((q.1.ends.length:Int)==0)=false:=by rw[beq_eq_false_iff_ne];omega
 have hs0:q.1.sources[0]?=some (q.1.sources.headD 0):=by
  cases hh:q.1.sources with
  |nil=>exact absurd hh F.so
  |cons a r=>rfl
 have f1:=zi u1 (zi u2 (zi u3 (zi b (zi Yc (zi Zd (zi hs0 (zi ls (zi @Int.natCast_nonneg @Int.ofNat_lt))))))));refine Xc f1 ?_;refine Xc f1 ?_;refine Xc f1 ?_;refine AW.weak (Weak.st (l:=[(2,.view .new (Zv c d m)),(3,.view .new (Yr c1 q)),(5,.int .i64 0),(6,.int .i64 (q.1.sources.headD 0))]) (m:=[]) (V9 (zi @Yc (zi @Zd b))) zp) ?_;have hnl:=hn.so;have hfl:=hn.ef;refine Wr (fun(_:Unit)=>st [(2,.view .new (Zv c d m)),(3,.view .new (Yr c1 q)),(5,.int .i64 (Ri q.1)),(6,.int .i64 (B5 m.p q.1))] []) (λ_=>True) (λK1 hK1=>?_) ?_
 by_cases h1:1<q.1.sources.length
 have hi:Ri q.1=q.1.sources.length:=if_pos h1;have hf:B5 m.p q.1=m.p.tg (q.1.effects.headD 0):=if_pos h1;have t1:decide ((q.1.sources.length:Int)>1)=true:=zT;have hil:=F.il;have u:=F.inn;rw[hi]at hil u;rw[hf]at u
 have U:q.1.effects[0]?=some (q.1.effects.headD 0):=by
  cases hh:q.1.effects with
  |nil=>exact absurd hh F.ef
  |cons a r=>rfl
 have h00:=u 0 zo
 have hg0:q.1.effects.getD 0 0=q.1.effects.headD 0:=by rw[List.getD_eq_getElem?_getD,U]<;>rfl
 rw[hg0,PM.folB,Bool.and_eq_true,Bool.and_eq_true,Bool.and_eq_true,decide_eq_true_eq,decide_eq_true_eq]at h00;obtain⟨⟨⟨t0,t2⟩,_⟩,_⟩:=h00;generalize q.1.effects.headD 0=e00 at U u t0 t2 hf;obtain⟨n,y,rfl,C,E,ey⟩:=m.wyAt t0 t2
 have M:m.p.tg (n:Int)=y.target:=by rw[PM.tg,ey]<;>rfl
 rw[M]at u;have v1:decide ((q.1.effects.length:Int)<=(q.1.sources.length:Int))=false:=zF;have v2:decide ((n:Int)<0)=false:=zF;have v3:decide ((n:Int)>=(m.ways.l.length:Int))=false:=zF;have f2:=zi v1 (zi v2 (zi v3 (zi U (zi lf (zi E (zi C (zi b (zi Yc (zi Zd (zi Z8 (zi @Int.natCast_nonneg @Int.ofNat_lt)))))))))));refine Xc (zi t1 f2) ?_;refine Xc (zi t1 f2) ?_;refine Ha f2 H ?_;refine Ha f2 H ?_;refine Zf f2 ?_;refine Yf q.1.sources.length (λk (_:Unit)=>st [(2,.view .new (Zv c d m)),(3,.view .new (Yr c1 q)),(5,.int .i64 q.1.sources.length),(6,.int .i64 y.target),(7,.int .i64 k)] []) (λ_ _=>True) 0 () (Nat.zero_le _) trivial (Weak.st (V9 (zi @Yc (zi @Zd (zi @Z8 b)))) zp) ?_;intro k _ hk _ L hL
 by_cases i:k<q.1.sources.length
 .have s:decide ((k:Int)<(q.1.sources.length:Int))=true:=zT
  have J:=List.getElem?_eq_getElem i;have w:=u k i
  have hgd:q.1.sources.getD k 0=q.1.sources[k]:=by rw[List.getD_eq_getElem?_getD,J]<;>rfl
  rw[hgd]at w;generalize q.1.sources[k]=sv at J w;have O:k<q.1.effects.length:=zo;have w1:IntKind.i64.wrap ((k:Int)+1)=(k:Int)+1:=W0 zo zo
  have j:((Zb q.1.effects).sub k (k+1)).l=[q.1.effects.getD k 0]:=by
   rw[N4,Zl,Nat.add_sub_cancel_left,List.take_one,List.head?_drop,List.getElem?_eq_getElem O,List.getD_eq_getElem?_getD,List.getElem?_eq_getElem O]<;>rfl
  have b1:k<=k+1:=zo;have b2:k+1<=q.1.effects.length:=zo;have f3:=zi J (zi i (zi w1 (zi b1 (zi b2 (zi b (zi Yc (zi Zd (zi @Int.natCast_nonneg @Int.ofNat_lt))))))));refine Xc (zi s f3) ?_;refine Z0f f3 ?_
  repeat first|refine AW.block ?_|refine Z4 ?_
  refine Zp ⟨λ_=>.bool true,λ_=>.pure⟩ zk H zk zk ?_;have s1:(0:Int)<=(k:Int)+1:=zo;have s2:((k:Int)+1).toNat=k+1:=zo;refine Xw (zi J (zi i (zi w1 (zi b1 (zi b2 (zi b (zi @Yc (zi s1 (zi s2 (zi @Int.natCast_nonneg @Int.ofNat_lt)))))))))) ?_;rw[<- Zd];refine⟨⟨zk,?_⟩,?_⟩;simp -implicitDefEqProofs only[go_sem,seval,List.map_cons,List.map_nil]
  exact(Nm G H _ _ _ m ((Zb q.1.effects).sub k (k+1)) sv y.target (by rw[j];show 1<=1000000;decide) (by rw[j];exact w)).mono λv _ e=>by rw[e]<;>rfl
  refine Zf w1 ?_;exact hL _ ⟨i,(),trivial,Weak.st (V9 (zi @Yc (zi @Zd b))) zp⟩
 have S:k=q.1.sources.length:=zo;have s:decide ((q.1.sources.length:Int)<(q.1.sources.length:Int))=false:=zF;rw[S];refine Zf s ?_;exact hK1 _ () trivial (Weak.st (by rw[hi,hf,M];simp -implicitDefEqProofs only[go_sem,seval,Yc,Zd,b]) zp);have hi:Ri q.1=0:=if_neg h1;have hf:B5 m.p q.1=q.1.sources.headD 0:=if_neg h1;have t1:decide ((q.1.sources.length:Int)>1)=false:=zF;refine Zf (zi t1 f1) ?_;exact hK1 _ () trivial (Weak.st (by rw[hi,hf];simp -implicitDefEqProofs only[go_sem,seval,Yc,Zd,b]) zp);rintro - -
 have j:((Zb q.1.effects).sub (Ri q.1) q.1.effects.length).l=q.1.effects.drop (Ri q.1):=by
  rw[N4,Zl,List.take_of_length_le (by rw[List.length_drop];omega)]
 have hil:=F.il
 have z:q.1.effects.drop (Ri q.1)≠[]:=λh=>by
  have:=congrArg List.length h;rw[List.length_drop]at this;simp at this;omega
 have W:(q.1.effects.drop (Ri q.1)).length<=1000000:=by rw[List.length_drop];omega
 have t:=F.pa;have K:=F.ea;have T:=F.gu;have i1:Ri q.1<=q.1.effects.length:=zo;refine Xc (zi i1 (zi @Nat.le_refl f1)) ?_;generalize(Zb q.1.effects).sub (Ri q.1) q.1.effects.length=ps at j⊢;generalize q.1.effects.drop (Ri q.1)=P at j z W t K T;generalize B5 m.p q.1=fv at t⊢;have R:=Zkt z;have hlm:=last_mem z;generalize hlt0:PM.lastT P=lt at R hlm t K;obtain⟨l0,l1⟩:=Zah P _ _ t lt hlm;obtain⟨n,y,rfl,C,E,ey⟩:=m.wyAt l0 l1
 have M:m.p.tg (n:Int)=y.target:=by rw[PM.tg,ey]<;>rfl
 rw[M]at t K;rw[<- j]at R W z;have hpl:=List.length_pos_iff.2 z
 have w2:IntKind.i64.wrap ((ps.l.length:Int)-1)=((ps.l.length-1:Nat):Int):=by rw[W0 zo zo];omega
 have p1:ps.l.length-1<ps.l.length:=zo;refine AW.weak (Weak.st (l:=[(2,.view .new (Zv c d m)),(3,.view .new (Yr c1 q)),(6,.int .i64 fv),(8,Za c1 1 (V.int .i64) ps)]) (m:=[]) (V9 (zi @Yc (zi @Zd b))) zp) ?_;have v2:decide ((n:Int)<0)=false:=zF;have v3:decide ((n:Int)>=(m.ways.l.length:Int))=false:=zF;have f4:=zi w2 (zi p1 (zi R (zi v2 (zi v3 (zi E (zi C (zi b (zi Yc (zi Zd (zi Z8 (zi @Int.natCast_nonneg @Int.ofNat_lt)))))))))));refine Xc f4 ?_;refine Z0f f4 ?_
 repeat first|refine AW.block ?_|refine Z4 ?_
 refine Zp ⟨λ_=>.bool true,λ_=>.pure⟩ zk H zk zk ?_;refine Xw f4 ?_;rw[<- Zd];refine⟨⟨zk,?_⟩,?_⟩;simp -implicitDefEqProofs only[go_sem,seval,List.map_cons,List.map_nil]
 exact(Nm G H _ _ _ m ps fv y.target W (by rw[j];exact t)).mono λv _ e=>by rw[e]<;>rfl
 refine AW.weak (Weak.st (l:=[(2,.view .new (Zv c d m)),(3,.view .new (Yr c1 q)),(8,Za c1 1 (V.int .i64) ps),(9,.int .i64 n),(123,.bool false)]) (m:=[]) (V9 (zi @Yc (zi @Zd b))) zp) ?_;refine Zf b ?_;refine X2 (f:=V.int .i64) (l:=([]:List Int)) (l2:=ps.l) (g:=0) (λ_=>rfl) rfl rfl rfl zp (Yg zo zO) λg126=>?_;rw[List.nil_append];refine Zf b ?_;refine Yf q.1.ends.length (λk (g:Nat)=>st [(2,.view .new (Zv c d m)),(3,.view .new (Yr c1 q)),(9,.int .i64 n),(10,grown 126 g 1 (ps.l++(q.1.ends.take k).flatMap (·.2))),(11,.int .i64 k)] [(126,Yb g (V.int .i64) (ps.l++(q.1.ends.take k).flatMap (·.2)))]) (λ_ _=>True) 0 g126 (Nat.zero_le _) trivial (Weak.st (by simp -implicitDefEqProofs only[go_sem,seval,Yc,Zd,b,List.take_zero,List.flatMap_nil,List.append_nil]) (by simp -implicitDefEqProofs only[go_sem,seval,List.take_zero,List.flatMap_nil,List.append_nil])) ?_;intro k g hk _ L hL
 by_cases i:k<q.1.ends.length
 have s:decide ((k:Int)<(q.1.ends.length:Int))=true:=zT;have hg:=List.getElem?_eq_getElem i;have D:=List.getElem_mem i
 have B:(q.1.ends.take (k+1)).flatMap (·.2)=(q.1.ends.take k).flatMap (·.2)++q.1.ends[k].2:=by
  rw[List.take_add_one,hg,List.flatMap_append];simp
 have Q:(ps.l++(q.1.ends.take (k+1)).flatMap (·.2)).length<=q.1.guards.length:=by
  rw[<- T,<- j]
  conv=>rhs;rw[<- List.take_append_drop (k+1) q.1.ends,List.flatMap_append]
  simp only[List.length_append];omega
 generalize q.1.ends[k]=en at hg D B;obtain⟨⟨⟨⟨z0,z1⟩,zf⟩,ze⟩,zr⟩:=K en D;have hbr:=hn.br en D;have hgn:=hn.gu;obtain⟨ea,A⟩:=en;simp only at B z0 z1 zf ze zr hbr;obtain⟨nv,I,rfl,hnv,hgv,exv⟩:=m.at z0 z1;have N:ps.l++(q.1.ends.take k).flatMap (·.2)≠[]:=λh=>z (List.append_eq_nil_iff.1 h).1;rw[B,<- List.append_assoc,List.length_append]at Q;have w1:IntKind.i64.wrap ((k:Int)+1)=(k:Int)+1:=W0 zo (by have:=hn.en;omega);have x1:decide ((nv:Int)<0)=false:=zF;have x2:decide ((nv:Int)>=(m.verts.l.length:Int))=false:=zF;have f5:=zi hg (zi i (zi b (zi Yc (zi Xq (zi Zd (zi @Int.natCast_nonneg @Int.ofNat_lt))))));refine Xc (zi s f5) ?_;refine Xc (zi s f5) ?_;intro g12;refine AW.weak (Zw (λo=>o==12) (l:=[(2,.view .new (Zv c d m)),(3,.view .new (Yr c1 q)),(9,.int .i64 n),(10,grown 126 g 1 (ps.l++(q.1.ends.take k).flatMap (·.2))),(11,.int .i64 k),(12,.view .new (Wv c1 ((nv:Int),A)))]) (m:=[(126,Yb g (V.int .i64) (ps.l++(q.1.ends.take k).flatMap (·.2)))]) ?_ ?_) ?_;refine Xw (zi @Yc (zi @Zd b)) ?_;exact⟨Fz.same _,Fz.same _,Fz.same _,Fz.same _,Fz.same _,Fz.ptr (v:=Wv c1 ((nv:Int),A)) (c:=.new) (fz:=0) zp (by rw[Xq];exact zp)⟩;simp only[Zy,Z2,and_true];exact FzO.keep rfl zp
 have w:Gc Tryz.prog G 34 [Zv c d m,Za c1 1 (V.int .i64) (Zb A),.int .i64 y.target,.int .i64 nv] (.bool true):=by
  refine⟨zk,?_⟩;simp -implicitDefEqProofs only[go_sem,seval,List.map_cons,List.map_nil]
  exact(Nm G H _ _ _ m (Zb A) y.target nv (by rw[Zl];exact hbr) (by rw[Zl];exact zf)).mono λv _ e=>by rw[e]<;>rfl
 have x3:(decide ((q.1.ends.length:Int)>1)=false)\/(decide ((q.1.ends.length:Int)>1)=true/\((A.length:Int)==0)=false):=by
  by_cases h1:1<q.1.ends.length
  refine .inr ⟨zT,?_⟩;have:A≠[]:=λh=>ze ⟨h1,h⟩;have:=List.length_pos_iff.2 this;rw[beq_eq_false_iff_ne];omega;exact .inl zF
 have hkk:m.p.kd (nv:Int)=I.kind:=by rw[PM.kd,exv]<;>rfl
 rw[hkk]at zr
 have zr:I.kind=1\/I.kind=2\/I.kind=4\/I.kind=8\/I.kind=9\/I.kind=12:=by
  unfold PM.restB at zr;simp only[Bool.or_eq_true,beq_iff_eq]at zr
  rcases zr with ((((h|h)|h)|h)|h)|h<;>simp[h]
 rcases x3 with x3|⟨x3,x4⟩
 .repeat first|refine AW.block ?_|refine Z4 ?_
  refine Zp ⟨λ_=>.bool true,λ_=>.pure⟩ zk H zk zk ?_;refine Xw (zi x1 (zi x2 (zi x3 (zi E (zi C (zi b (zi Yc (zi Xq (zi Zd (zi Z8 (zi @Int.natCast_nonneg @Int.ofNat_lt))))))))))) ?_;refine⟨w,?_⟩;refine AW.weak (Weak.st (l:=[(2,.view .new (Zv c d m)),(3,.view .new (Yr c1 q)),(9,.int .i64 n),(10,grown 126 g 1 (ps.l++(q.1.ends.take k).flatMap (·.2))),(11,.int .i64 k),(12,.view .new (Wv c1 ((nv:Int),A))),(176,.bool false)]) (m:=[(126,Yb g (V.int .i64) (ps.l++(q.1.ends.take k).flatMap (·.2)))]) (V9 (zi @Yc (zi @Zd (zi @Xq b)))) zp) ?_;have f6:=zi hgv (zi hnv (zi b (zi Yc (zi Xq (zi Zd (zi Zt (zi @Int.natCast_nonneg @Int.ofNat_lt)))))));refine Xc f6 ?_;refine AW.weak (Weak.st (l:=[(2,.view .new (Zv c d m)),(3,.view .new (Yr c1 q)),(9,.int .i64 n),(10,grown 126 g 1 (ps.l++(q.1.ends.take k).flatMap (·.2))),(11,.int .i64 k),(12,.view .new (Wv c1 ((nv:Int),A))),(13,.int .u8 I.kind)]) (m:=[(126,Yb g (V.int .i64) (ps.l++(q.1.ends.take k).flatMap (·.2)))]) (V9 (zi @Yc (zi @Zd (zi @Xq b)))) zp) ?_
  rcases zr with zr|zr|zr|zr|zr|zr
  all_goals
   refine Zf (zi zr f6) ?_;refine Zb3 (f:=V.int .i64) (l:=ps.l++(q.1.ends.take k).flatMap (·.2)) (l2:=A) (g:=g) (o:=126) (λ_=>rfl) N rfl rfl rfl zp (Yg zo (by simp only[List.length_append]at Q⊢;omega)) λY=>?_;rw[List.append_assoc,<- B];refine Zf w1 ?_;exact hL _ ⟨i,Y,trivial,Weak.st (V9 (zi @Yc (zi @Zd (zi @Xq b)))) zp⟩
 .repeat first|refine AW.block ?_|refine Z4 ?_
  refine Zp ⟨λ_=>.bool true,λ_=>.pure⟩ zk H zk zk ?_;refine Xw (zi x1 (zi x2 (zi x3 (zi x4 (zi E (zi C (zi b (zi Yc (zi Xq (zi Zd (zi Z8 (zi @Int.natCast_nonneg @Int.ofNat_lt)))))))))))) ?_;refine⟨w,?_⟩;refine AW.weak (Weak.st (l:=[(2,.view .new (Zv c d m)),(3,.view .new (Yr c1 q)),(9,.int .i64 n),(10,grown 126 g 1 (ps.l++(q.1.ends.take k).flatMap (·.2))),(11,.int .i64 k),(12,.view .new (Wv c1 ((nv:Int),A))),(176,.bool false)]) (m:=[(126,Yb g (V.int .i64) (ps.l++(q.1.ends.take k).flatMap (·.2)))]) (V9 (zi @Yc (zi @Zd (zi @Xq b)))) zp) ?_;have f6:=zi hgv (zi hnv (zi b (zi Yc (zi Xq (zi Zd (zi Zt (zi @Int.natCast_nonneg @Int.ofNat_lt)))))));refine Xc f6 ?_;refine AW.weak (Weak.st (l:=[(2,.view .new (Zv c d m)),(3,.view .new (Yr c1 q)),(9,.int .i64 n),(10,grown 126 g 1 (ps.l++(q.1.ends.take k).flatMap (·.2))),(11,.int .i64 k),(12,.view .new (Wv c1 ((nv:Int),A))),(13,.int .u8 I.kind)]) (m:=[(126,Yb g (V.int .i64) (ps.l++(q.1.ends.take k).flatMap (·.2)))]) (V9 (zi @Yc (zi @Zd (zi @Xq b)))) zp) ?_
  rcases zr with zr|zr|zr|zr|zr|zr
  all_goals
   refine Zf (zi zr f6) ?_;refine Zb3 (f:=V.int .i64) (l:=ps.l++(q.1.ends.take k).flatMap (·.2)) (l2:=A) (g:=g) (o:=126) (λ_=>rfl) N rfl rfl rfl zp (Yg zo (by simp only[List.length_append]at Q⊢;omega)) λY=>?_;rw[List.append_assoc,<- B];refine Zf w1 ?_;exact hL _ ⟨i,Y,trivial,Weak.st (V9 (zi @Yc (zi @Zd (zi @Xq b)))) zp⟩
 have S:k=q.1.ends.length:=zo;have s:decide ((q.1.ends.length:Int)<(q.1.ends.length:Int))=false:=zF;rw[S,List.take_length,j,T];refine Zf (zi s (zi b Yc)) ?_;refine CallA.bor H [Za .old 1 (V.int .i64) (Zb q.1.guards),Za c1.ent 1 (V.int .i64) (Zb q.1.guards)] zk ⟨N5 (f:=V.int .i64) (g:=g) (f':=V.int .i64) zp (λ_=>rfl) (λx y hy=>by simp[V.cells]at hy;subst hy;exact .int _ _) λ_=>rfl,Yv (Sa _) (Xu ..),trivial⟩ ((Tu G H .old c1.ent (Zb q.1.guards) (Zb q.1.guards) rfl (by rw[Zl];exact hn.gu)).mono ?_);rintro _ _ rfl;refine⟨.bool _,?_⟩;refine Zs ?_;exact Zr
end Go.Hs
end

section
namespace Go.Hs
open Go.Proofs
set_option maxRecDepth 10000
set_option maxHeartbeats 8000000
set_option pp.deepTerms true
set_option pp.maxSteps 10000000
theorem rfn(m:MdM)(h:m.p.Wfd):∀ q∈m.p.withR,RfN q:=by
 intro q b;obtain⟨s,a,rfl⟩:=List.mem_map.1 b;have f:=m.p.allL_ok h s a;have d:=h.lw;refine⟨?_,?_,?_,?_,?_,λe c=>?_⟩
 show s.sources.length<=_
 rcases f.sn with h|h<;>omega
 have:=f.gl
 show s.guards.length<=_
 have:(m.p.ways.length+1)*(m.p.ways.length+2)<=513*514:=Nat.mul_le_mul zo zo;omega;have:=f.fl
 show s.effects.length<=_
 omega;have:=f.el
 show s.ends.length<=_
 omega
 show(m.p.reachL m.p.allL s).length<=_
 rw[PM.reachL,List.length_map];have:=List.length_filter_le (fun(v:Nat)=>(m.p.reachQ m.p.allL s).contains (v:Int)) (List.range m.p.vertices.length);rw[List.length_range]at this;have:=h.lx;omega;have:=f.bl e c;omega
def M0(l:List (StP×List Int)):List Int:=l.flatMap λq=>q.1.effects
theorem E7(G:Nat->V)(hE:GExp G)(m:MdM)(hr:MdR m):Spec Tryz.prog G 4 [Zv .old .old m] Zi (λv _=>v=.bool true):=by
 have I:=hE.ok;have hW:=A2 G hE;refine Zo 0 128 [.tmp 2] Tryz.func4 λX=>?_;refine Zf Zd ?_;intro g1;refine AW.weak (Zw (λo=>o==1) (l:=[(1,.view .new (Zv .old .old m))]) (m:=[]) ?_ trivial) ?_;refine Zs ?_;exact Fz.ptr (v:=Zv .old .old m) (c:=.new) (fz:=0) zp (by rw[Zd];exact zp);refine Zf Zd ?_;refine Ze I ?_ (s:=Cm G I .old .old m hr);rintro _ ⟨b,rfl,hb⟩
 cases b with
 |false=>
  refine Zg Zd ?_;refine Zc I ?_ (s:=hW);exact Zr
 |true=>
 have hf:=hb rfl;have hB:=hf.b hr;refine Zg Zd ?_;refine Zc I ?_ (s:=D6 G hE .old .old m hB hf.t)
 by_cases h0:(m.p.statP Xd Y1).2.2=0
 rotate_left;have q:((m.p.statP Xd Y1).2.2 != 0)=true:=zu h0;have hno:=PM.statP_no h0;rw[hno];refine Zf q ?_;refine Zc I ?_ (s:=hW);exact Zr;obtain⟨ok,hst⟩:=PM.statP_ok h0;rw[hst,h0];have hnw:=hB.nw;refine Zf Zd ?_;refine⟨⟨Int.le_refl _,zo,zo⟩,λg=>?_⟩;generalize x:m.ways.l.length=nw at hnw;refine Z ?_;refine Yf m.p.withR.length (λi (_:Unit)=>st [(1,.view .new (Zv .old .old m)),(3,Za .new 6 (Yr .new) (Zb m.p.withR)),(6,.msl 32 g 0 nw 1),(7,.int .i64 i)] [(32,.cells .new g 0 (Rl nw λv=>(M0 (m.p.withR.take i)).contains (v:Int)))]) (λ_ _=>True) 0 () (Nat.zero_le _) trivial (Weak.st (V9 @Zd) (by simp -implicitDefEqProofs only[go_sem,seval,List.take_zero,Z3s];rfl)) ?_;have hnx:=hB.nx;have hll:=ok.le;have hwl:=Q0 m.p;intro i _ hi _ L1 hL1
 by_cases r:i<m.p.withR.length
 have M:decide ((i:Int)<(m.p.withR.length:Int))=true:=zT;have H:=List.getElem?_eq_getElem r;have J:=List.getElem_mem r;have hfr:m.p.withR.Pairwise (λa b:StP×List Int=>a.1.first<=b.1.first):=List.pairwise_map.2 PM.first_rise
 have U:i=0\/∃ u,0<i/\m.p.withR[i-1]?=some u/\u.1.first<=m.p.withR[i].1.first:=by
  by_cases hz:i=0
  exact .inl hz;refine .inr ⟨m.p.withR[i-1]'zo,zo,List.getElem?_eq_getElem _,?_⟩;exact List.pairwise_iff_getElem.1 hfr (i-1) i zo r zo
 have K:M0 (m.p.withR.take (i+1))=M0 (m.p.withR.take i)++m.p.withR[i].1.effects:=by
  rw[M0,List.take_add_one,H,List.flatMap_append];simp[M0]
 have hn:=rfn m ok.wfd _ J
 have Y:m.p.goesB m.p.withR[i].1=true:=by
  obtain⟨s,T,e⟩:=List.mem_map.1 J;rw[<- e];exact ok.goes T
 have O:∀ t∈m.p.withR[i].1.effects,0<=t/\t<m.p.ways.length:=by
  obtain⟨s,T,e⟩:=List.mem_map.1 J;rw[<- e];exact(m.p.allL_ok ok.wfd s T).er
 generalize m.p.withR[i]=q at H J U K hn Y O;have w1:IntKind.i64.wrap ((i:Int)+1)=(i:Int)+1:=W0 zo zo
 have W:Gc Tryz.prog G 16 [Zv .old .old m,Yr .new q] (.bool true):=by
  refine⟨zk,?_⟩;simp -implicitDefEqProofs only[go_sem,seval,List.map_cons,List.map_nil]
  exact(Zqw G I _ _ _ m q hn hB.nw Y).mono λv _ e=>by rw[e]<;>rfl
 have Q:=zi H (zi r (zi Yc (zi Zd (zi @Int.natCast_nonneg @Int.ofNat_lt))));refine Xc (zi M Q) ?_;refine Z0f Q ?_
 rcases U with hk0|⟨u,hk0,hu,huv⟩
 .have x3:decide ((i:Int)>0)=false:=zF
  repeat first|refine AW.block ?_|refine Z4 ?_
  refine Zp ⟨λ_=>.bool true,λ_=>.pure⟩ zk I zk zk ?_;refine Xw (zi x3 Q) ?_;refine⟨W,?_⟩;refine AW.weak (Weak.st (l:=[(1,.view .new (Zv .old .old m)),(3,Za .new 6 (Yr .new) (Zb m.p.withR)),(6,.msl 32 g 0 nw 1),(7,.int .i64 i),(63,.bool false)]) (m:=[(32,.cells .new g 0 (Rl nw λv=>(M0 (m.p.withR.take i)).contains (v:Int)))]) (V9 @Zd) zp) ?_;refine Z ?_;refine Yf q.1.effects.length (λk (_:Unit)=>st [(1,.view .new (Zv .old .old m)),(3,Za .new 6 (Yr .new) (Zb m.p.withR)),(6,.msl 32 g 0 nw 1),(7,.int .i64 i),(8,.int .i64 k)] [(32,.cells .new g 0 (Rl nw λv=>(M0 (m.p.withR.take i)++q.1.effects.take k).contains (v:Int)))]) (λ_ _=>True) 0 () (Nat.zero_le _) trivial (Weak.st zp (by simp -implicitDefEqProofs only[go_sem,seval,List.take_zero,List.append_nil])) ?_;intro k _ hk _ L2 B
  by_cases d:k<q.1.effects.length
  have j:decide ((k:Int)<(q.1.effects.length:Int))=true:=zT;have z:=List.getElem?_eq_getElem d;have D:=O _ (List.getElem_mem d)
  have f:q.1.effects.take (k+1)=q.1.effects.take k++[q.1.effects[k]]:=by rw[List.take_add_one,z]<;>rfl
  have hql:=hn.ef;generalize q.1.effects[k]=v at z D f;obtain⟨v0,v1⟩:=D;rw[m.nw,x]at v1;obtain⟨vn,rfl⟩:∃ vn:Nat,v=(vn:Int):=⟨v.toNat,zo⟩;have w:vn<nw:=zo;have P:IntKind.i64.wrap ((k:Int)+1)=(k:Int)+1:=W0 zo zo
  have F:(Rl nw λv=>(M0 (m.p.withR.take i)++q.1.effects.take k).contains (v:Int)).set vn (.bool true)=Rl nw λv=>(M0 (m.p.withR.take i)++q.1.effects.take (k+1)).contains (v:Int):=by
   rw[Zqf w];refine F2 λu _=>?_;rw[f,<- List.append_assoc,Bool.eq_iff_iff];simp only[Bool.or_eq_true,List.contains_iff_mem,List.mem_append,List.mem_singleton,beq_iff_eq];exact⟨λh=>h.imp_right λe=>by rw[e],λh=>h.imp_right λe=>zo⟩
  have E:vn+1<=nw:=w;have f3:=zi @Nat.mul_one (zi @Nat.zero_le (zi E (zi H (zi r (zi z (zi d (zi w (zi F0 (zi F (zi P (zi Yc (zi @Int.natCast_nonneg @Int.ofNat_lt))))))))))));refine Zf (zi j f3) ?_;exact B _ ⟨d,(),trivial,Weak.st zp zp⟩;have N:k=q.1.effects.length:=zo;rw[N,List.take_length,<- K];refine Zf (zi @Nat.lt_irrefl (zi w1 Q)) ?_;exact hL1 _ ⟨r,(),trivial,Weak.st (V9 @Zd) zp⟩
 .have x3:decide ((i:Int)>0)=true:=zT
  have x4:decide (u.1.first>q.1.first)=false:=zF
  have w3:IntKind.i64.wrap ((i:Int)-1)=((i-1:Nat):Int):=by rw[W0 zo zo];omega
  have hk2:i-1<m.p.withR.length:=zo
  repeat first|refine AW.block ?_|refine Z4 ?_
  refine Zp ⟨λ_=>.bool true,λ_=>.pure⟩ zk I zk zk ?_;refine Xw (zi x3 (zi x4 (zi w3 (zi hk2 (zi hu Q))))) ?_;refine⟨W,?_⟩;refine AW.weak (Weak.st (l:=[(1,.view .new (Zv .old .old m)),(3,Za .new 6 (Yr .new) (Zb m.p.withR)),(6,.msl 32 g 0 nw 1),(7,.int .i64 i),(63,.bool false)]) (m:=[(32,.cells .new g 0 (Rl nw λv=>(M0 (m.p.withR.take i)).contains (v:Int)))]) (V9 @Zd) zp) ?_;refine Z ?_;refine Yf q.1.effects.length (λk (_:Unit)=>st [(1,.view .new (Zv .old .old m)),(3,Za .new 6 (Yr .new) (Zb m.p.withR)),(6,.msl 32 g 0 nw 1),(7,.int .i64 i),(8,.int .i64 k)] [(32,.cells .new g 0 (Rl nw λv=>(M0 (m.p.withR.take i)++q.1.effects.take k).contains (v:Int)))]) (λ_ _=>True) 0 () (Nat.zero_le _) trivial (Weak.st zp (by simp -implicitDefEqProofs only[go_sem,seval,List.take_zero,List.append_nil])) ?_;intro k _ hk _ L2 B
  by_cases d:k<q.1.effects.length
  have j:decide ((k:Int)<(q.1.effects.length:Int))=true:=zT;have z:=List.getElem?_eq_getElem d;have D:=O _ (List.getElem_mem d)
  have f:q.1.effects.take (k+1)=q.1.effects.take k++[q.1.effects[k]]:=by rw[List.take_add_one,z]<;>rfl
  have hql:=hn.ef;generalize q.1.effects[k]=v at z D f;obtain⟨v0,v1⟩:=D;rw[m.nw,x]at v1;obtain⟨vn,rfl⟩:∃ vn:Nat,v=(vn:Int):=⟨v.toNat,zo⟩;have w:vn<nw:=zo;have P:IntKind.i64.wrap ((k:Int)+1)=(k:Int)+1:=W0 zo zo
  have F:(Rl nw λv=>(M0 (m.p.withR.take i)++q.1.effects.take k).contains (v:Int)).set vn (.bool true)=Rl nw λv=>(M0 (m.p.withR.take i)++q.1.effects.take (k+1)).contains (v:Int):=by
   rw[Zqf w];refine F2 λu _=>?_;rw[f,<- List.append_assoc,Bool.eq_iff_iff];simp only[Bool.or_eq_true,List.contains_iff_mem,List.mem_append,List.mem_singleton,beq_iff_eq];exact⟨λh=>h.imp_right λe=>by rw[e],λh=>h.imp_right λe=>zo⟩
  have E:vn+1<=nw:=w;have f3:=zi @Nat.mul_one (zi @Nat.zero_le (zi E (zi H (zi r (zi z (zi d (zi w (zi F0 (zi F (zi P (zi Yc (zi @Int.natCast_nonneg @Int.ofNat_lt))))))))))));refine Zf (zi j f3) ?_;exact B _ ⟨d,(),trivial,Weak.st zp zp⟩;have N:k=q.1.effects.length:=zo;rw[N,List.take_length,<- K];refine Zf (zi @Nat.lt_irrefl (zi w1 Q)) ?_;exact hL1 _ ⟨r,(),trivial,Weak.st (V9 @Zd) zp⟩
 have hie:i=m.p.withR.length:=zo;have M:decide ((m.p.withR.length:Int)<(m.p.withR.length:Int))=false:=zF
 have R:∀ t:Nat,t<nw->(m.p.kd (m.p.sc t)=1\/m.p.kd (m.p.sc t)=3\/m.p.kd (m.p.sc t)=4\/m.p.kd (m.p.sc t)=8\/m.p.kd (m.p.sc t)=9)->(M0 m.p.withR).contains (t:Int)=true:=λt ht hk=>by
  obtain⟨s,T,hm⟩:=PM.stands ok.wfd (t:=(t:Int)) zo (by rw[m.nw,x];omega) hk;rw[List.contains_iff_mem,M0,List.mem_flatMap];exact⟨_,List.mem_map.2 ⟨s,T,rfl⟩,hm⟩
 rw[hie,List.take_length];generalize M0 m.p.withR=S at R;refine Zf M ?_;refine Yf nw (λt (_:Unit)=>st [(1,.view .new (Zv .old .old m)),(3,Za .new 6 (Yr .new) (Zb m.p.withR)),(6,.msl 32 g 0 nw 1),(9,.int .i64 t)] [(32,.cells .new g 0 (Rl nw λv=>S.contains (v:Int)))]) (λ_ _=>True) 0 () (Nat.zero_le _) trivial (Weak.st zp zp) ?_;intro t _ ht _ L2 B
 by_cases A:t<nw
 have j:decide ((t:Int)<(nw:Int))=true:=zT;obtain⟨n,y,e0,hn',hgy,ey⟩:=m.wyAt (v:=(t:Int)) zo (by rw[m.nw,x];omega);obtain rfl:n=t:=zo
 have esc:m.p.sc (n:Int)=y.source:=by rw[PM.sc,ey]<;>rfl
 obtain⟨c0,c1⟩:=ok.wfd.sc (n:Int) zo (by rw[m.nw,x];omega);have L:=R n A;rw[esc]at c0 c1 L;obtain⟨sn,C,e1,hsn,hgs,exs⟩:=m.at c0 c1
 have hkk:m.p.kd y.source=C.kind:=by rw[PM.kd,exs]<;>rfl
 rw[hkk]at L;have P:IntKind.i64.wrap ((n:Int)+1)=(n:Int)+1:=W0 zo zo;have hra:=Zn4 (p:=λv:Nat=>S.contains (v:Int)) A;have ht2:n+1<=nw:=A;have f3:=zi e1 (zi @Nat.mul_one (zi @Nat.zero_le (zi ht2 (zi hgy (zi hn' (zi hgs (zi hsn (zi hra (zi A (zi F0 (zi x (zi Zd (zi Z8 (zi Zt (zi @Int.natCast_nonneg @Int.ofNat_lt)))))))))))))));refine Xc (zi j f3) ?_;refine Ha f3 I ?_;cases hS:S.contains (n:Int)
 have no:¬(C.kind=1\/C.kind=3\/C.kind=4\/C.kind=8\/C.kind=9):=λh=>by rw[L h]at hS;cases hS
 have b1:(C.kind==1)=false:=beq_false_of_ne λh=>no (by simp[h]);have b2:(C.kind==3)=false:=beq_false_of_ne λh=>no (by simp[h]);have b3:(C.kind==4)=false:=beq_false_of_ne λh=>no (by simp[h]);have b4:(C.kind==8)=false:=beq_false_of_ne λh=>no (by simp[h]);have b5:(C.kind==9)=false:=beq_false_of_ne λh=>no (by simp[h]);refine Zf (zi hS (zi b1 (zi b2 (zi b3 (zi b4 (zi b5 (zi P f3))))))) ?_;exact B _ ⟨A,(),trivial,Weak.st (by refine Zs ?_;exact⟨rfl,rfl⟩) zp⟩;refine Zf (zi hS (zi P f3)) ?_;exact B _ ⟨A,(),trivial,Weak.st (by refine Zs ?_;exact⟨rfl,rfl⟩) zp⟩;have hte:t=nw:=zo;rw[hte];refine Zf (zi x (zi Zd (zi @Nat.lt_irrefl @Int.ofNat_lt))) ?_;refine Zc I ?_ (s:=hW);exact Zr
end Go.Hs
end

section
namespace Go.Proofs.YtoahejkahaimnaaGreatDoor
open Go.RowKit Go.Hs
set_option maxRecDepth 100000
def Ql:List (String × DataW Unit):=[("math/bits.deBruijn32tab",Rows.laid_math_bits_deBruijn32tab),("math/bits.deBruijn64tab",Rows.laid_math_bits_deBruijn64tab),("internal/strconv.uint64pow10",Rows.laid_internal_strconv_uint64pow10),("unicode/utf8.acceptRanges",Rows.laid_unicode_utf8_acceptRanges),("strconv.ErrRange",Rows.laid_strconv_ErrRange),("strconv.ErrSyntax",Rows.laid_strconv_ErrSyntax),("hopscotch/lex.signs",Rows.laid_hopscotch_lex_signs),("unicode/utf8.first",Rows.laid_unicode_utf8_first)]
noncomputable def low:Nat:=(World.holding Tryz.prog default ⟨#[],#[],[]⟩).heap.size
def b32:List Int:=[0,1,28,2,29,14,24,3,30,22,20,15,25,17,4,8,31,27,13,23,21,19,16,7,26,12,18,6,11,5,10,9]
def b64:List Int:=0::1::56::2::57::49::28::3::61::58::42::50::38::29::17::4::62::47::59::36::45::43::51::22::53::39::33::30::24::18::12::5::63::55::48::27::60::41::37::16::46::35::44::21::52::32::23::11::54::26::40::15::34::20::31::10::25::14::19::9::13::8::7::6::[]
def acR:List Int:=[128,191,160,191,128,159,144,191,128,143]++List.replicate 22 0
def errR:ByteArray:={ data := #[118,97,108,117,101,32,111,117,116,32,111,102,32,114,97,110,103,101] }
def errS:ByteArray:={ data := #[105,110,118,97,108,105,100,32,115,121,110,116,97,120] }
def Ti(cs:Array Value):Obj->Obj
 |.cells _ t frozen=>.cells cs t frozen
 |o=>o
noncomputable def laidWorld (os:Os):World:=
 let w0:=World.holding Tryz.prog os ⟨#[.cells #[.string errR] 412,.cells #[.string errS] 412],#[],[]⟩
 { w0 with heap:=(((((((w0.heap.modify 2 (Ti #[.iface 410 (.pointer (some ⟨low,0,none⟩))])).modify 5 (Ti #[.iface 410 (.pointer (some ⟨low+1,0,none⟩))])).modify 6
   (Ti (Lib.pow10Tab.map (Value.int .u64)).toArray)).modify 7 (Ti (b32.map (Value.int .u8)).toArray)).modify 8 (Ti (b64.map (Value.int .u8)).toArray)).modify 4 (Ti (acR.map (Value.int .u8)).toArray)).modify
   0 (Ti (signsL.map λs=>Value.string ⟨s.toArray⟩).toArray)).modify 3 (Ti (Pinned.utf8FirstZ.map fun(n:Nat)=>Value.int .u8 (n:Int)).toArray) }
theorem C0(os:Os)(args:Array Value):laidMet Tryz.prog Ql ((laidWorld os).forCall (λ_ _=>0) ⟨#[],args,[]⟩).memory:=
 laidMet_of_run' 8 (by kernel_rfl) (by kernel_rfl)
end Go.Proofs.YtoahejkahaimnaaGreatDoor
end

section
namespace Go.Proofs.YtoahejkahaimnaaGreatDoor
open Go.RowKit Go.Hs
set_option maxRecDepth 100000
theorem Xs{P:Program}{W:World}{x:String×DataW Unit}{r:List (String×DataW Unit)}(h:laidMet P (x::r) W):laidMet P r W:=by
 obtain⟨n,d⟩:=x;obtain⟨ps,⟨s,t0,p,t,q,f,l,i,g,m,j,o⟩,e,a⟩:=h;subst o;exact⟨f,j,(List.nodup_append.1 e).2.1,λb c k=>a b c (List.mem_append.2 (.inr k))⟩
noncomputable def gE (m:Int):Nat->V:=λg=>if g=2 then .view .old (.iface 410 (.view .old (.agg [])))else if g=6 then .view .old (.agg (Lib.pow10Tab.map (V.int .u64)))
 else if g=0 then .view .old (.agg (signsL.map V.str))else if g=1 then .view .old (.int .i64 m)else .top
theorem Hp(f:Col->Col):∀ l:List Int,Yt f (l.map (V.int .u64))=l.map (V.int .u64)
 |[]=>rfl
 |x::r=>by simp only[List.map_cons,Yt];rw[Hp f r]<;>rfl
theorem Ho(f:Col->Col):∀ l:List (List UInt8),Yt f (l.map V.str)=l.map V.str
 |[]=>rfl
 |x::r=>by simp only[List.map_cons,Yt];rw[Ho f r]<;>rfl
theorem gE_ok(m:Int):GExp (gE m) where
 ok:=λg=>by
  unfold gE
  split
  exact⟨rfl,.view _ _ λx a=>by simp[V.cells]at a;subst a;exact .iface _ _ (.view _ _ λx a=>by simp[V.cells]at a)⟩
  split
  refine⟨by simp only[V.recol,Col.ent,Hp],.view _ _ λx a=>?_⟩;obtain⟨n,_,rfl⟩:=List.mem_map.1 a;exact .int _ _
  split
  refine⟨by simp only[V.recol,Col.ent,Ho],.view _ _ λx a=>?_⟩;obtain⟨n,_,rfl⟩:=List.mem_map.1 a;exact .str _
  split
  exact⟨rfl,.view _ _ λx a=>by simp[V.cells]at a;subst a;exact .int _ _⟩;exact⟨rfl,.top⟩
 er:=⟨_,_,_,rfl⟩
 tab:=⟨_,rfl⟩
 sg:=⟨_,rfl⟩
 ml:=⟨_,m,rfl⟩
theorem gER:Tryz.prog.globalNamed "strconv.ErrRange" = some 2:=by kernel_rfl
theorem Zq5:(Tryz.prog.globals[2]?).map (·.type)=some 363:=by kernel_rfl
theorem Zu2:Tryz.prog.cellsOf 412=1:=by kernel_rfl
theorem Zt2:Tryz.prog.cellsOf 9=1:=by kernel_rfl
theorem star : "*" ++ "errors.errorString" = "*errors.errorString" := by decide
theorem row109 (u:TypeId) (h:Tryz.prog.typeName? 3 u=some "*errors.errorString"):u=410 :=
 typeName_ptr_named (nm := "errors.errorString") (by rw [star];kernel_rfl) (by kernel_rfl) (by decide) u (by rw [star];exact h)
theorem gTab:Tryz.prog.globalNamed "internal/strconv.uint64pow10" = some 6:=by kernel_rfl
theorem Z71:∃ t n,(Tryz.prog.globals[6]?).map (·.type)=some t/\Tryz.prog.underlying t=some (.array n 221)/\Tryz.prog.cellsOf t=n/\n=20:=by
 refine⟨(((Tryz.prog.globals[6]?).map (·.type)).getD 0),20,by kernel_rfl,by kernel_rfl,by kernel_rfl,rfl⟩
theorem Zv1 {W:World} (h:laidMet Tryz.prog Ql W):Lib.TabIs Tryz.prog W "internal/strconv.uint64pow10" .u64 Lib.pow10Tab:=by
 obtain⟨t,n,h1,h2,h3,rfl⟩:=Z71
 have e:(Rows.laid_internal_strconv_uint64pow10:DataW Unit)=Lib.tabData .u64 Lib.pow10Tab:=by rfl
 have h4:=Xs (Xs h);rw[e]at h4;exact Lib.tabIs_of_head gTab h1 h2 Tryz.underlying221 (by kernel_rfl) h3 h4
theorem Zw1{W:World}(h:laidMet Tryz.prog Ql W):∃ b off,W.cell? ⟨2,0,none⟩=some (.iface 410 (.pointer (some ⟨b,off,none⟩))):=by
 obtain⟨a,s,f,e,_,_⟩:=laid_sentinel (Xs (Xs (Xs (Xs h)))) gER Zq5 Tryz.underlying363 row109 Tryz.underlying410 Tryz.underlying412 rfl rfl Tryz.underlying9 Zu2 Zt2;have g:=World.var?_cell gER f 0;have c:=World.cell?_spot e;obtain⟨b,off,d⟩:=a;have c:d=none:=c;subst c;exact⟨b,off,by simpa using g⟩
def Zca{H:Type}(zs:List (List UInt8)):DataW H:=.agg (zs.map λz=>.lit (.string z))
theorem C5{H:Type}{enc:TypeId×Value->H}{P:Program}{w:World}{base:Nat}{q:Nat->Bool}{f:Bool}{a:Nat}{t e:TypeId}{n:Nat}{cs:List Value}{c:List (List UInt8)}{p:List MemPlace}
  (x:P.underlying t=some (.array n e)) (A:P.underlying e=some .string) (l:P.cellsOf e=1) (k:P.cellsOf t=n)
  (h:DataW.trod enc P w base q f a t cs=some (Zca c,p)):cs.length=c.length/\∀ i (hi:i<c.length),∃ s:ByteArray,cs[i]?=some (.string s)/\s.data.toList=c[i]:=by
 cases a with
 |zero=>simp[DataW.trod]at h
 |succ a=>
  simp only[DataW.trod,x,l,k,Nat.mul_one]at h
  split at h
  rename_i E;obtain⟨xs,m,v⟩:=Option.map_eq_some_iff.1 h
  have d:xs.map (·.1)=c.map λz=>(DataW.lit (.string z):DataW H):=by
   have:=congrArg Prod.fst v;simpa[Zca]using this
  have u:xs.length=n:=by simpa using Lib.mapM_length m
  have r:c.length=n:=by
   have:=congrArg List.length d;simp at this;omega
  refine⟨by omega,λi hi=>?_⟩
  have j:i<n:=by omega
  obtain⟨b,C,y⟩:=Lib.mapM_at m i i (by simp[j]);obtain⟨z,B,rfl,_⟩:=DataW.trod_string A y
  have D:cs[i]?=some (.string z):=by
   have:=congrArg (·[0]?) B;simpa[List.getElem?_take,List.getElem?_drop]using this
  have o:(xs.map (·.1))[i]?=some (DataW.lit (.string z.data.toList):DataW H):=by simp[C]
  rw[d,List.getElem?_map,List.getElem?_eq_getElem hi]at o;refine⟨z,D,?_⟩;have g:(DataW.lit (.string c[i]):DataW H)=.lit (.string z.data.toList):=Option.some.inj o
  injection g with g
  injection g with g
  exact g.symm;cases h
theorem gSg:Tryz.prog.globalNamed "hopscotch/lex.signs" = some 0:=by kernel_rfl
theorem gSgType:(Tryz.prog.globals[0]?).map (·.type)=some 271:=by kernel_rfl
theorem Zvo {W:World} (h:laidMet Tryz.prog Ql W):∃ cs:Array Value,W.var? Tryz.prog "hopscotch/lex.signs" = some cs∧cs.size=14∧∀ i (hi:i<signsL.length),∃ s:ByteArray,cs[i]? = some (.string s)∧s.data.toList=signsL[i]:=by
 have e:(Rows.laid_hopscotch_lex_signs:DataW Unit)=Zca signsL:=by rfl
 have h4:=Xs (Xs (Xs (Xs (Xs (Xs h)))));rw[e]at h4;obtain⟨ps,⟨g',t',cs,fuel,p,q,hg',ht',hvar,hd,_,_⟩,_⟩:=h4;obtain rfl:=Option.some.inj (gSg.symm.trans hg');obtain rfl:=Option.some.inj (gSgType.symm.trans ht');obtain⟨h1,h2⟩:=C5 Tryz.underlying271 Tryz.underlying9 Zt2 (by kernel_rfl) hd;refine⟨_,hvar,(by simpa using h1:cs.size=signsL.length).trans rfl,λi hi=>?_⟩;obtain⟨s,h3,h4⟩:=h2 i hi;exact⟨s,by simpa using h3,h4⟩
theorem Zwv{W:World}(h:W.ShapedOpen Tryz.prog):∃ m,W.cell? ⟨1,0,none⟩=some (.int .i64 m):=by
 obtain⟨e,l,j,k⟩:=h.1 1 #[.int .i64 0] 3 (of_decide_eq_true (by kernel_rfl)) (by kernel_rfl);obtain⟨n,c,_,d⟩:=k (by kernel_rfl);rw[show Tryz.prog.cellTypes Tryz.prog.depth 3=some [3] by kernel_rfl]at c;cases c
 have g:0<e.size:=by rw[j];decide
 obtain⟨u,f,a⟩:=d 0 e[0] (by simp[g])
 have:u=3:=by simpa using f.symm
 subst this
 have b:W.cell? ⟨1,0,none⟩=some e[0]:=by simp[World.cell?,l,g]
 rw[b];unfold Cell.ok at a;rw[Tryz.underlying3]at a
 cases i:e[0]<;>rw[i]at a<;>first|(obtain⟨rfl,_⟩:=a;exact⟨_,rfl⟩)|simp at a
theorem laid_G{W:World}(h:laidMet Tryz.prog Ql W)(hS:W.ShapedOpen Tryz.prog):∃ m,∀ g,RelG (Wl W) g (gE m g):=by
 obtain⟨m,hml⟩:=Zwv hS;refine⟨m,λg=>?_⟩;unfold gE
 split
 rename_i hg;subst hg;obtain⟨b,off,h1⟩:=Zw1 h;refine⟨?_,trivial⟩;refine .view .old _ 2 0 (λ_=>.iface 410 (.pointer (some ⟨b,off,none⟩))) (λi hi=>?_) (λi hi=>?_)
 have:i=0:=by simpa[V.cells]using hi
 subst this;refine⟨by show(W.cell? _).isSome=true;rw[h1]<;>rfl,World.block_lt_of_cell? _ _ h1,h1,rfl⟩
 have:i=0:=by simpa[V.cells]using hi
 subst this;exact .iface _ _ _ (.view .old _ b off (λ_=>.nilIface) (λi hi=>by simp[V.cells]at hi) (λi hi=>by simp[V.cells]at hi))
 split
 rename_i hg;subst hg;have ht:=Zv1 h;have hc:∀ i (hi:i<Lib.pow10Tab.length),W.cell? ⟨6,i,none⟩=some (.int .u64 (Lib.pow10Tab.getD i 0)):=λi hi=>ht.cell gTab i hi;have hlen:Lib.pow10Tab.length=20:=Lib.pow10Tab_length;have hlt:6<W.heap.size:=World.block_lt_of_cell? _ _ (hc 0 (by omega))
 have hv:W.var? Tryz.prog "internal/strconv.uint64pow10" = some (Lib.pow10Tab.map fun z=>Value.int .u64 z).toArray:=ht
 refine⟨?_,?_⟩;refine .view .old _ 6 0 (λi=>.int .u64 (Lib.pow10Tab.getD i 0)) (λi hi=>?_) (λi hi=>?_)
 have hi:i<Lib.pow10Tab.length:=by simpa[V.cells]using hi
 rw[Nat.zero_add];exact⟨by show(W.cell? _).isSome=true;rw[hc i hi]<;>rfl,hlt,hc i hi,rfl⟩
 have hi':i<Lib.pow10Tab.length:=by simpa[V.cells]using hi
 have key:∀ v,v=V.int .u64 (Lib.pow10Tab.getD i 0)->Rel (Wl W) (Value.int .u64 (Lib.pow10Tab.getD i 0)) v:=λv e=>by rw[e];exact .int _ _
 exact key _ (by simp[V.cells,List.getD,hi']);refine⟨hlt,?_⟩;unfold World.var? at hv;rw[gTab]at hv;have hv:(match W.heap[6]? with|some (Obj.cells cs _ _)=>some cs|_=>none)=some (Lib.pow10Tab.map λz=>Value.int .u64 z).toArray:=hv
 split at hv
 rename_i cs t fr hh;cases hv;exact⟨_,t,fr,hh,by simp⟩;cases hv
 split
 rename_i hg;subst hg;obtain⟨cs,hv,hsz,hcs⟩:=Zvo h;have h0:=λi=>World.var?_cell gSg hv i
 have hc:∀ i (hi:i<signsL.length),∃ s:ByteArray,W.cell? ⟨0,i,none⟩=some (.string s)/\s.data.toList=signsL[i]:=λi hi=>by
  obtain⟨s,h1,h2⟩:=hcs i hi;exact⟨s,by rw[h0 i];exact h1,h2⟩
 have hlt:0<W.heap.size:=by
  obtain⟨s,h1,_⟩:=hc 0 (by decide);exact World.block_lt_of_cell? _ _ h1
 refine⟨?_,?_⟩;refine .view .old _ 0 0 (λi=>(cs[i]?).getD undef) (λi hi=>?_) (λi hi=>?_)
 have hi:i<signsL.length:=by simpa[V.cells]using hi
 obtain⟨s,h1,_⟩:=hcs i hi;rw[Nat.zero_add,h1]
 have h2:W.cell? ⟨0,i,none⟩=some (.string s):=by rw[h0 i];exact h1
 exact⟨by show(W.cell? _).isSome=true;rw[h2]<;>rfl,hlt,h2,rfl⟩
 have hi':i<signsL.length:=by simpa[V.cells]using hi
 obtain⟨s,h1,h2⟩:=hcs i hi';rw[h1]
 have key:∀ v,v=V.str signsL[i]->Rel (Wl W) (Value.string s) v:=λv e=>by rw[e];exact .str _ _ h2
 exact key _ (by simp[V.cells]);refine⟨hlt,?_⟩;unfold World.var? at hv;rw[gSg]at hv;have hv:(match W.heap[0]? with|some (Obj.cells cs _ _)=>some cs|_=>none)=some cs:=hv
 split at hv
 rename_i cs' t fr hh;cases hv;exact⟨_,t,fr,hh,by rw[hsz]<;>rfl⟩;cases hv
 split
 rename_i hg;subst hg;refine⟨?_,trivial⟩;refine .view .old _ 1 0 (λ_=>.int .i64 m) (λi hi=>?_) (λi hi=>?_)
 have:i=0:=by simpa[V.cells]using hi
 subst this;refine⟨by show(W.cell? _).isSome=true;rw[hml]<;>rfl,World.block_lt_of_cell? _ _ hml,hml,rfl⟩
 have:i=0:=by simpa[V.cells]using hi
 subst this;exact .int _ _;exact⟨.top _,trivial⟩
end Go.Proofs.YtoahejkahaimnaaGreatDoor
end

section
namespace Go.Proofs.YtoahejkahaimnaaGreatDoor
open Go.RowKit Go.Hs Go.ChangeShapes Go.WideShapes Go.ChangeAt
open Go.ChangeMaps (open_string shut_string)
set_option maxRecDepth 100000
variable{W:World}{H:Type}{enc:TypeId×Value->H}{b0:Nat}{v:Value}{d:DataW H}{ps:List MemPlace}
theorem own:ownKnob Tryz.prog.godebug=none:=by kernel_rfl
theorem Zlt:laidOutB Tryz.prog=true:=by kernel_rfl
end Go.Proofs.YtoahejkahaimnaaGreatDoor
end

section
namespace Go.Hs
section
variable{P:Program}{W:World}
def ReadsB(P:Program)(W:World){α : Type}(t:TypeId)(m:Nat)(B : α -> Prop)(f : α -> List V):Prop:=
 P.cellsOf t=m/\(∀ a,(f a).length=m)/\∀ {H:Type} (enc:TypeId×Value->H) (held:Bool) (fuel:Nat) (cs:List Value) (x:DataW H×List MemPlace),
  DataW.trod enc P W 0 (λ_=>true) held fuel t cs=some x->(x.1.weights P t).all (· <= reachBytes)=true->∃ a,B a/\RelC (Wl W) cs (f a)
theorem ReadsB.int{t:TypeId}{k:IntKind}(d:P.underlying t=some (.int k))(e:P.cellsOf t=1):ReadsB P W t 1 (InK k) (λn=>[V.int k n]):=by
 refine⟨e,λ_=>rfl,λenc a b f x h _=>?_⟩;obtain⟨n,rfl,_,c⟩:=DataW.trod_int d h;exact⟨n,by simpa[Lit.wf,InK]using c,V6 rfl (.int _ _) RelC.nil⟩
theorem ReadsB.str{t:TypeId}(d:P.underlying t=some .string)(e:P.cellsOf t=1):ReadsB P W t 1 (λs=>s.length<=reachBytes) (λs:List UInt8=>[V.str s]):=by
 refine⟨e,λ_=>rfl,λenc a b f x h c=>?_⟩;obtain⟨s,rfl,rfl,_⟩:=DataW.trod_string d h;exact⟨s.data.toList,by simpa[DataW.weights]using c,V6 rfl (.str _ _ rfl) RelC.nil⟩
theorem Zte{H:Type}{e:TypeId}{l:List (DataW H)}(h:(DataW.weightsAll P e l).all (· <= reachBytes)=true){d:DataW H}(hd:d∈l):(d.weights P e).all (· <= reachBytes)=true:=by
 induction l with
 |nil=>grind
 |cons x r ih=>
  simp only[DataW.weightsAll,List.all_append,Bool.and_eq_true]at h
  grind
theorem Kc{H:Type}{a:List TypeId}{l:List (DataW H)}(h:(DataW.weightsEach P a l).all (· <= reachBytes)=true){j:Nat}{t:TypeId}{d:DataW H}(b:a[j]?=some t)(hd:l[j]?=some d):(d.weights P t).all (· <= reachBytes)=true:=by
 induction a generalizing l j with
 |nil=>grind
 |cons t0 a ih=>
  cases l with
  |nil=>grind
  |cons x r=>
   simp only[DataW.weightsEach,List.all_append,Bool.and_eq_true]at h
   grind
theorem ReadsB.field{α H:Type}{t:TypeId}{m:Nat}{B : α -> Prop}{f : α -> List V}(d:ReadsB P W t m B f){enc:TypeId×Value->H}{b:Bool}{i j n:Nat}{cs:List Value}{xs:List (DataW H×List MemPlace)}{c:List TypeId}
  (e:(DataW.weightsEach P c (xs.map (·.1))).all (· <= reachBytes)=true) (g:c[j]?=some t)
  (h:DataW.trod enc P W 0 (λ_=>true) b n t ((cs.drop i).take (P.cellsOf t))=xs[j]?) (k:j<xs.length):∃ a,B a/\RelC (Wl W) ((cs.drop i).take m) (f a):=by
 rw[d.1,List.getElem?_eq_getElem k]at h;exact d.2.2 enc b n _ _ h (Kc e g (by grind))
theorem ReadsB.slice{α : Type}{t e:TypeId}{m:Nat}{B : α -> Prop}{f : α -> V}(ht:P.underlying t=some (.slice e))(hc:P.cellsOf t=1)(hm:0<m)(hb:Nat.ble 1 (P.bytesOf e)=true)(he:ReadsB P W e m B (λa=>(f a).cells)):ReadsB P W t 1 (λs:Sl α => s.l.length<=reachBytes/\∀ a∈s.l,B a) (λs:Sl α => [Za .any m f s]):=by
 refine⟨hc,λ_=>rfl,λenc A fuel cs x h L=>?_⟩;obtain⟨hce,w,T⟩:=he
 rcases DataW.trod_slice ht h with ⟨rfl,_⟩|⟨a,len,F,E,rest,n,_,rfl,Q,_,hl,_,hel,d,R,_⟩
 exact⟨.nil,⟨Nat.zero_le _,λa D=>by cases D⟩,V6 rfl .nils RelC.nil⟩;obtain⟨hrl,u⟩:=R rfl;rw[hce]at d u;rw[Q]at L;simp only[DataW.weights,ht,List.all_cons,List.all_append,Bool.and_eq_true,decide_eq_true_eq,List.length_map]at L
 have hle:len<=reachBytes:=by
  have c:1<=P.bytesOf e:=Nat.le_of_ble_eq_true hb;have r:=Nat.le_trans (Nat.mul_le_mul_left (E.length+rest.length) c) L.1;omega
 have C:0<F->a.spot=none:=by
  intro O
  have H:∀ j (o:Option (DataW _×List MemPlace)),j=0->(W.cells? 0 (a.add (j*m)) m).bind (DataW.trod enc P W 0 (λ_=>true) A n e)=o->o.isSome=true->a.spot=none:=by
   intro j o U hj ho;subst U;rw[Nat.zero_mul]at hj;rw[Option.isSome_iff_exists]at ho;obtain⟨y,rfl⟩:=ho;obtain⟨g,c,_⟩:=Option.bind_eq_some_iff.1 hj;obtain⟨_,r,G⟩:=World.cells?_some c;have N:=G 0 hm;rw[List.getElem?_eq_getElem zo]at N;exact World.cell?_spot N
  rcases Nat.eq_zero_or_pos len with c|c
  have r:=u 0 zo;exact H _ _ zo r (by rw[List.getElem?_eq_getElem zo];rfl);have r:=d 0 c;exact H _ _ rfl r (by rw[List.getElem?_eq_getElem zo];rfl)
 rcases Nat.eq_zero_or_pos F with O|O
 have c:len=0:=zo;subst O c;exact⟨.mk false [],⟨Nat.zero_le _,λa D=>by cases D⟩,V6 rfl (.slice0 _ _ _ a) RelC.nil⟩;have S:=C O;obtain⟨b,q,sp⟩:=a;have S:sp=none:=S;subst S
 obtain⟨l,I,hp⟩:=Zza (p:=λi (a : α)=>B a/\∃ g,W.cells? 0 (Addr.add ⟨b,q,none⟩ (i*m)) m=some g/\RelC (Wl W) g (f a).cells) len (by
  intro i z;have c:=d i z;rw[List.getElem?_eq_getElem zo]at c;obtain⟨g,r,G⟩:=Option.bind_eq_some_iff.1 c;obtain⟨a,hB,D⟩:=T enc A n g _ G (Zte L.2.1 (List.mem_map.2 ⟨_,List.getElem_mem _,rfl⟩))
  exact⟨a,hB,g,r,D⟩)
 refine⟨.mk false l,⟨by show l.length<=_;omega,λa D=>?_⟩,V6 rfl ?_ RelC.nil⟩;obtain⟨i,z,rfl⟩:=List.mem_iff_getElem.1 D;exact(hp i _ (List.getElem?_eq_getElem z)).1
 have hE:∀ v∈l.map f,v.cells.length=m:=by
  intro v hv;obtain⟨a,_,rfl⟩:=List.mem_map.1 hv;exact w a
 have J:=Wp hE;rw[List.length_map]at J
 have k:∀ i (z:i<(flat (l.map f)).length),∃ y,W.cell? ⟨b,q+i,none⟩=some y/\y.oneCell'=true/\Rel (Wl W) y (flat (l.map f))[i]:=by
  intro i z
  have Y:i<l.length*m:=by rw[<- J];exact z
  have hq:i/m<l.length:=Nat.div_lt_of_lt_mul (by rw[Nat.mul_comm];exact Y);have M:i%m<m:=Nat.mod_lt _ hm
  have K:i/m*m+i%m=i:=by rw[Nat.mul_comm];exact Nat.div_add_mod i m
  obtain⟨_,g,c,r⟩:=hp (i/m) _ (List.getElem?_eq_getElem hq);obtain⟨_,G,N⟩:=World.cells?_some c;have h5:=N (i%m) M;rw[List.getElem?_eq_getElem zo]at h5;have h6:=r.rel (i%m) zo (by rw[w];exact M);have h7:=R5 hE (i/m) (i%m) (by rw[List.length_map];exact hq) M;rw[K,List.getElem?_eq_getElem z,List.getElem_map,List.getElem?_eq_getElem (by rw[w];exact M)]at h7;have h8:=Option.some.inj h7;refine⟨_,?_,r.one _ (List.getElem_mem _),by rw[h8];exact h6⟩;rw[<- h5,Addr.add_lit,Addr.add_lit,Nat.add_assoc,K]
 have:=Rel.slice (X:=Wl W) .any false m (l.map f) b q F (λi=>(W.cell? ⟨b,q+i,none⟩).getD undef) (by rw[List.length_map,I];exact hl) zS hE
  (λi z=>by
   obtain⟨y,c,r,_⟩:=k i z;refine⟨by show(W.cell? ⟨b,q+i,none⟩).isSome=true;rw[c];rfl,trivial,?_,by simp only[c,Option.getD_some];exact r⟩
   show W.cell? ⟨b,q+i,none⟩=_
   rw[c];rfl)
  (λi z=>by
   obtain⟨y,c,_,G⟩:=k i z;simp only[c,Option.getD_some]
   exact G)
 rw[List.length_map,I]at this;exact this
end
end Go.Hs
end
