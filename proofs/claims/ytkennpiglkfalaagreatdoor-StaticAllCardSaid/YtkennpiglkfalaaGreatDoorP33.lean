/- A part. No condition. -/
import Derived.Test.YtkennpiglkfalaaGreatDoorP31
import Derived.Test.YtkennpiglkfalaaGreatDoorP32
set_option linter.all false
open List renaming length->aa
open Bool renaming false->ab,true->ad
open Option renaming some->ae
open Go.Proofs.Tryz
open List renaming range->aE
section
namespace Go.Hs
open Go.Proofs
set_option maxRecDepth 10000
def jE{m:Nat}(h:m<1000000000000010):((m:Int)>IntKind.i64.max)=False:=by rw[eq_iff_iff,iff_false,show IntKind.i64.max=9223372036854775807 from rfl];omega
def encFk(p:Nat×Nat):V:=.tuple [qI p.1,.int .u8 p.2]
def Bj(G)(A:CR G)(s:bS)(M:s.length<1000000000000000):Spec () G 199 [s] Zm (encFk (Xp s)):=by
 have b:=A.ok;refine Zo 0 42 [.tmp 2,.tmp 3] func199 λX=>?_;refine Z1 ?_;intro N;refine Zz ?_;refine BK ?_;rcases s with _|⟨c,r⟩;refine Z1 ?_;refine Zi rfl (λh2=>?_) (λh2=>?_);exact Zr;cases h2;cases l:Xa [45,45] (c::r);refine Z1 ?_;refine Zn b ?_ (s:=(R2 G _ _));refine Xc l ?_;refine Xh rfl ?_
 try clear h2
 refine Z1 ?_;refine Zc b ?_ (s:=(Jl G b c));refine Zi rfl (λD=>?_) (λD=>?_);refine Z1 ?_;refine Zc b ?_ (s:=(Ik G b _ zo (AB6 b)));refine Z ?_;rw[Ir D]<;>rfl;refine Z1 ?_;refine Zc b ?_ (s:=(Lq G b c));refine Zi rfl (λC=>?_) (λC=>?_);have o:=Qy Vt (c::r);have F:=A3 ((c::r).take (Wu Vt (c::r))) (Qz Vt (c::r));have d:=Ec (r:=r) C;refine Z1 ?_;refine Zc b ?_ (s:=(Ik G b _ zo (AB4 b)));generalize Wu Vt (c::r)=n at o F d⊢;have o:n<=aa r+1:=o;refine Zz ?_;have I:aa (List.take n (c::r))<=1000000000000000:=by rw[CZ];omega
 have u:=jE (m:=1+aa (List.take n (c::r))) zo;have q:=jE (m:=aa (List.take n (c::r))+1+1) zo;refine Wo zk ?_;simp -implicitDefEqProofs only[go_sem,seval,u,q,o,CB,IS,List.append_eq];refine Zc b ?_ (s:=(sv G A jC _ zd));rw[F];refine Zi rfl (λB=>?_) (λB=>?_);refine Z ?_;rw[d,AF B]<;>rfl;refine Z ?_;rw[d,AA (by rw[B];simp)];rfl
 .refine Z0 ?_;have d:=Mi (c:=c) (r:=r) (by unfold Vt;rw[D,C]<;>rfl) l;obtain⟨E,j⟩:=A.sg;refine Zz<|Pq 0 zk rfl rfl ?_;refine Zs ?_;refine⟨_,Ag underlying268 zk (c:=E) (cs:=signsL.map V.AB) (Vw j) rfl (λv H=>by obtain⟨t,_,rfl⟩:=CY.1 H;rfl),?_⟩;refine EZ b [Za E.ent 1 V.AB (.mk ad signsL),.func (.func 234) [] [.view .old (c::r)]] zk ⟨?_,kr ⟨?_,AJ⟩,AJ⟩ ?_;exact Xg (V1 (c:=E) (λx y h=>by simp[V.cells]at h;subst h;exact .AB _) (.mk ad signsL)) (Ui _ _ _ (.mk ad signsL));exact Rd.ptr (v:=.AB (c::r)) zp (by intro y h;simp[V.cells]at h;subst h;exact .AB _) zp;refine(B2 G b _ (.mk ad signsL) zd (AB9 b (c::r))).mono ?_;rintro _ _ rfl;refine⟨.int _ _,?_⟩;refine Zs ?_;have J:MS (c::r)=match signsL.findIdx? (Xa · (c::r))with|some i=>aa (signsL.getD i [])|none=>0:=by unfold MS;rw[List.find?_eq_bind_findIdx?_getElem?];rcases f:signsL.findIdx? (Xa · (c::r)) with _|i;rfl;have a:=(OS.1 f).1;simp only[IK,AY a,DK,WO]
  have K:Oy (Xa · (c::r)) signsL=match signsL.findIdx? (Xa · (c::r))with|some i=>(i:Int)|none => -1:=rfl
  have p:∀ i,signsL.findIdx? (Xa · (c::r))=ae i->i<14/\aa (signsL.getD i [])≠0:=λi f=>by have L:=OS.1 f;obtain⟨a,_⟩:=L;have a:i<14:=a;refine⟨a,?_⟩;have:∀ i,i<14->aa (signsL.getD i [])≠0:=zd;exact this i a
  rw[K];rw[J]at d;rcases f:signsL.findIdx? (Xa · (c::r)) with _|i;rw[f]at d;refine Z1 ?_;refine Zi rfl (λg=>?_) (λg=>?_);refine Z ?_;rw[d]<;>rfl;cases g;rw[f]at d;obtain⟨k,w⟩:=p i f;refine Z1 ?_;refine Zi rfl (λg=>?_) (λg=>?_);have g:decide ((i:Int)<0)=ad:=g;simp at g;omega;refine Z0 ?_;have z:(signsL.map V.AB)[i]?=ae (.AB (signsL.getD i [])):=by have a:i<aa signsL:=k;rw[ED,AY a,DK,AY a]<;>rfl
  have e:(i:Int)<14:=zo;refine Zf (j5 j z e @DS @GV) ?_;rw[d];show _=encFk (aa (signsL.getD i []),if aa (signsL.getD i [])=0 then 0 else 4);rw[AA w]<;>rfl
 refine Z1 ?_;refine Zn b ?_ (s:=(R2 G _ _));refine Xc l ?_;refine Zi rfl (λh2=>?_) (λh2=>?_);refine Z ?_;rw[Pe,AF l]<;>rfl;cases h2
def Pb(G)(d:CR G)(s:bS)(e:s.length<1000000000000000):Spec () G 137 [s] Zm (V.int .u8 (Tc s)):=by
 have f:=d.ok;refine Zo 0 19 [.tmp 2] func137 λX=>?_;refine Z1 ?_;refine Z1 ?_;refine Zn f ?_ (s:=(Bj G d s e));have b:Tc s=if(Xp s).1≠aa s\/(Xp s).1>64 then 0 else(Xp s).2:=rfl;generalize Xp s=p at b⊢;have⟨n,k⟩:=p;refine Xc @encFk.eq_1 ?_;refine Zz ?_;by_cases a:n=aa s;have c:((n:Int) != (aa s:Int))=ab:=by simp[a]
 refine Ym c ?_;refine Zi rfl (λh2=>?_) (λh2=>?_);have h2:n>64:=by have h2:decide _=ad:=h2;simp at h2;omega
 refine Z ?_;rw[b,AF (.inr h2)]<;>rfl;have h2:¬n>64:=by have h2:decide ((n:Int)>64)=ab:=h2;simp at h2;omega
 refine Z ?_;rw[b,AA (λh=>h.elim (λh=>h a) h2)];have c:((n:Int) != (aa s:Int))=ad:=by have a:¬((n:Int)=(aa s:Int)):=zo;simpa using a
 refine Ym c ?_;refine Zi rfl (λh2=>?_) (λh2=>?_);refine Z ?_;rw[b,AF (.inl a)]<;>rfl;cases h2
def Xy(t:Tk):V:=.agg [.int .u8 t.AD,t.BG,t.pos]
def Nb(t):(Xy t).cells.length=3:=rfl
def encTks(c:AH)(l:List Tk):V:=Za c 3 Xy (Zb l)
def encTok(r:List Tk×Int×Int):V:=.tuple [encTks .new r.1,qI r.2.1,qI r.2.2]
def dH:∀ f s i acc,aa (Un f s i acc).1<=aa acc+(aa s-i)
 |0,s,i,acc=>by rw[Un];exact cT _ _|f+1,s,i,acc=>by rw[Un];split;split;exact CB _;rename_i a h2;have:=dH f s (i+(Xp (s.drop i)).1+blk (s.drop (i+(Xp (s.drop i)).1))) (acc++[⟨(Xp (s.drop i)).2,(s.drop i).take (Xp (s.drop i)).1,i⟩]);simp only[BQ,JI]at this;omega;exact cT _ _
def Rz(G)(J:CR G)(s:bS)(N:s.length<100000):Spec () G 168 [s] Zm (encTok (Yr s)):=by
 have w:=J.ok;refine Zo 0 52 _ func168 λX=>?_;refine Z1 ?_;refine Z1 ?_;have C:Yr s=if aa s>65536 then([],0,3)else Un _ s _ []:=rfl;refine Zi rfl (λh2=>?_) (λh2=>?_);have h2:aa s>65536:=by have h2:decide ((aa s:Int)>65536)=ad:=h2;simp at h2;omega
 refine Z ?_;rw[C,AF h2]<;>rfl;have h2:¬aa s>65536:=by have h2:decide ((aa s:Int)>65536)=ab:=h2;simp at h2;omega
 rw[AA h2]at C;refine Z1 ?_;refine Zc w ?_ (s:=(F8 G w s zo));have K:=RB s;refine BK ?_;refine Xw [0] [] (fun x=>[(2,AZ 47 x.1 3 x.2.2),(3,qI x.2.1)]) (λx=>[(47,Z9 x.1 Xy x.2.2)]) (λx=>x.2.1<=aa s/\aa x.2.2<=x.2.1/\Yr s=Un (aa s+1) s x.2.1 x.2.2) (λx=>aa s-x.2.1) (0,blk s,[]) ⟨K,CB _,C⟩ zp zp ?_;rintro⟨L,i,acc⟩ ⟨A,u,r⟩ O D;have A:i<=aa s:=A;have u:aa acc<=i:=u;have r:Yr s=Un (aa s+1) s i acc:=r;refine Z1 ?_;refine Zi rfl (λE=>?_) (λE=>?_);have c:i<aa s:=zu E;refine Z0 ?_;refine Zz ?_;refine BK ?_;have q:=dl (s.drop i);rw[EJ]at q;have b:=gB (f:=aa s+1) (acc:=acc) c zo;have d:=dW (f:=aa s+1) (acc:=acc) c zo;refine Ym (zi A @BO) ?_;refine Zn w ?_ (s:=(Bj G J (s.drop i) zO));generalize Xp (s.drop i)=p at q b d⊢;have⟨n,k⟩:=p;simp only at q b d;refine Xc @encFk.eq_1 ?_;refine Zz ?_;by_cases j:n=0;have H:((n:Int)==0)=ad:=by simp[j]
 refine Ym H ?_;refine Zi rfl (λa=>?_) (λa=>?_);refine Z ?_;rw[r,d (.inl j)]<;>rfl;cases a;have H:((n:Int)==0)=ab:=by rw[FD];omega
 refine Ym H ?_;refine Zi rfl (λa=>?_) (λa=>?_);have a:n>64:=by have a:decide ((n:Int)>64)=ad:=a;simp at a;omega
 refine Z ?_;rw[r,d (.inr a)]<;>rfl;have a:¬n>64:=by have a:decide ((n:Int)>64)=ab:=a;simp at a;omega
 refine Z0 ?_;have b:=b (λh=>h.elim j a);have I:qN ((i:Int)+(n:Int))=((i+n:Nat):Int):=by rw[Xi zo zo];omega
 have z:i<=i+n:=zo;have e:i+n<=aa s:=zo;have t:i+n-i=n:=zo;refine Ym (j4 I z e t) ?_;intro M;refine Yg (f:=Xy) (l:=acc) (l2:=[⟨k,(s.drop i).take n,i⟩]) Nb rfl rfl rfl zp (Z3 zo zO) λF=>?_;refine Zs ?_;refine Ym I ?_;have B:=RB (s.drop (i+n));rw[EJ]at B;have y:qN (((i+n:Nat):Int)+(blk (s.drop (i+n)):Nat))=((i+n+blk (s.drop (i+n)):Nat):Int):=by rw[Xi zo zo];omega
 refine Ym (zi e @BO) ?_;refine Zc w ?_ (s:=(F8 G w (s.drop (i+n)) zO));refine D _ ⟨(F,i+n+blk (s.drop (i+n)),acc++[⟨k,(s.drop i).take n,i⟩]),?_,⟨?_,?_,?_⟩,AO (by refine Zs ?_;exact BU _ y) zp⟩;show aa s-(i+n+blk (s.drop (i+n)))<aa s-i;omega;show i+n+blk (s.drop (i+n))<=aa s;omega;show aa (acc++[_])<=i+n+blk (s.drop (i+n));simp only[BQ,JI];omega;rw[r];exact b;have c:¬i<aa s:=zu E;refine Z0 ?_;refine BM (Z4 (λo=>o==47) (l:=[(2,encTks .new acc)]) (m:=[]) ?_ trivial) ?_;refine Zs ?_;exact Yp rfl rfl Nb;refine Z ?_;rw[r,dO c]<;>rfl
open Go
structure XN where
 op:Int
 num:Int
 name:bS
 a:Int
 b:Int
 c:Int
 deriving DecidableEq,Inhabited
structure Sg where
 BG:bS
 Z':Int
 CC:Int
 deriving DecidableEq,Inhabited
def tabL:List Sg:=[⟨[],0,0⟩,⟨[],10,0⟩,⟨[],10,0⟩,⟨[116,114,117,101],10,0⟩,⟨[102,97,108,115,101],10,0⟩,⟨[45],9,1⟩,⟨[110,111,116],9,1⟩,
 ⟨[42],8,2⟩,⟨[100,105,118],8,2⟩,⟨[109,111,100],8,2⟩,⟨[43],7,2⟩,⟨[45],7,2⟩,⟨[60],6,2⟩,⟨[60,61],6,2⟩,⟨[62],6,2⟩,⟨[62,61],6,2⟩,⟨[61],5,2⟩,⟨[60,62],5,2⟩,
 ⟨[97,110,100],4,2⟩,⟨[111,114],3,2⟩,⟨[120,111,114],2,2⟩,⟨[105,109,112,108,105,101,115],1,2⟩,⟨[105,102],10,3⟩]
def NW(t:bS)(p:Int)(s:Sg):Bool:=s.BG==t&&s.CC==p && !(s.BG==[])
def Dt(t:bS)(p:Int):Option Nat:=tabL.findIdx? (NW t p)
def Ds(t:bS)(p:Int):Nat×Bool:=match Dt t p with|some i=>(i,ad)|none=>(0,ab)
def Lp(op:Nat):Int:=(tabL.getD op ⟨[],0,0⟩).Z'
def Jf{t p i}(h:Dt t p=ae i):∃ s,tabL[i]?=ae s/\s.BG=t/\s.CC=p/\t≠[]:=by have⟨a,h2,_⟩:=OS.1 h;refine⟨tabL[i],AY a,?_⟩;unfold NW at h2;grind
def zz{t i}(h:Dt t 1=ae i):t=[45]/\i=5\/t=[110,111,116]/\i=6:=by
 have⟨s,a,h2,d,_⟩:=Jf h;have c:i<23:=by rw[DG]at a;exact a.1
 have b:∀ i,i<23->∀ s,tabL[i]?=ae s->s.CC=1->s.BG=[45]/\i=5\/s.BG=[110,111,116]/\i=6:=by
  intro i c s a d;have:∀ i,i<23->(tabL[i]?.map (·.CC))=ae 1->(tabL[i]?.map (·.BG))=ae [45]/\i=5\/(tabL[i]?.map (·.BG))=ae [110,111,116]/\i=6:=by decide +kernel
  have:=this i c (by rw[a];simp[d]);rw[a]at this;simpa using this
 rw[<- h2];exact b i c s a d
def kh{t i}(h:Dt t 0=ae i):t=[116,114,117,101]/\i=3\/t=[102,97,108,115,101]/\i=4:=by
 have⟨s,a,h2,e,d⟩:=Jf h;have c:i<23:=by rw[DG]at a;exact a.1
 have b:∀ i,i<23->∀ s,tabL[i]?=ae s->s.CC=0->s.BG≠[]->s.BG=[116,114,117,101]/\i=3\/s.BG=[102,97,108,115,101]/\i=4:=by
  intro i c s a e;have:((aE 23).all λi=>match tabL[i]? with|some s => !(s.CC==0)||s.BG==[]||(s.BG==[116,114,117,101]&&i==3)||(s.BG==[102,97,108,115,101]&&i==4)|none=>ad)=ad:=by decide +kernel
  have:=ER.1 this i (DC.2 c);intro d;rw[a]at this;simp only[e,F_,BP,CX,d,CF]at this;simpa using this
 rw[<- h2];exact b i c s a e (by rw[h2];exact d)
def An{t i}(h:Dt t 2=ae i):7<=i/\i<=21/\1<=Lp i/\Lp i<=8/\Tc t≠0:=by
 have⟨s,a,h2,d,_⟩:=Jf h;have c:i<23:=by rw[DG]at a;exact a.1
 have b:∀ i,i<23->(tabL[i]?.map (·.CC))=ae 2->7<=i/\i<=21/\1<=Lp i/\Lp i<=8/\(tabL[i]?.map λs=>Tc s.BG)≠ae 0:=by decide +kernel
 grind
def Yj(l:List Tk)(i:Nat):Tk:=match l[i]? with|some t=>if(Tc t.BG:Int)=t.AD then t else⟨0,[],0⟩|none=>⟨0,[],0⟩
def Ji(l i):(Tc (Yj l i).BG:Int)=(Yj l i).AD:=by unfold Yj;split;split;grind;rfl;rfl
def Jh{l i}(h:(Yj l i).AD≠0):i<l.length:=by rw[<- Nat.not_le];intro h2;apply h;unfold Yj;grind
structure RS where
 i:Nat
 BS:List XN
 e:Int
 deriving DecidableEq,Inhabited
def RS.put(r:RS)(n:XN):RS:={r with BS:=r.BS++[n]}
def RS.last(r:RS):Int:=(aa r.BS:Int)-1
def RS.adv(r:RS):RS:={r with i:=r.i+1}
def RS.err(r:RS)(e:Int):RS:={r with e:=e}
@[simp] def J2(r:RS)(n):(r.put n).i=r.i:=rfl
@[simp] def RS.adv_i(r:RS):r.adv.i=r.i+1:=rfl
@[simp] def RS.err_i(r:RS)(e):(r.err e).i=r.i:=rfl
abbrev II:=Int->RS->Bool×RS
def andThen(x:Bool×RS)(k:RS->Bool×RS):Bool×RS:=if x.1 then k x.2 else(ab,x.2)
def Y7(r k):andThen (ad,r) k=k r:=rfl
def Xq(r k):andThen (ab,r) k=(ab,r):=rfl
def He(x k k'):andThen (andThen x k) k'=andThen x λr=>andThen (k r) k':=by have⟨b,r⟩:=x;cases b<;>rfl
def Tf{x k k'}(h:x.1=ad->k x.2=k' x.2):andThen x k=andThen x k':=by have⟨b,r⟩:=x;cases b;rfl;exact h rfl
def Sb(l:List Tk)(w:bS)(r:RS):Bool×RS:=if(Yj l r.i).AD=0\/(Yj l r.i).BG≠w then(ab,r.err 80)else(ad,r.adv)
def Ry(r:RS)(op num:Int)(name:bS):Bool×RS:=(ad,r.adv.put ⟨op,num,name,-1,-1,-1⟩)
def Tu(t:bS):bS:=if t.dropWhile (· == 48)=[]then[48]else t.dropWhile (· == 48)
def T7(r:RS)(t:bS):Bool×RS:=if(Vz (Tu t)).2≠0 then(ab,r.err (Vz (Tu t)).2)else Ry r 1 (Vz (Tu t)).1 []
def HM:bS:=[105,102]
def Kr:bS:=[116,104,101,110]
def Ks:bS:=[101,108,115,101]
def Ps:bS:=[101,110,100,105,102]
def Ub(l:List Tk)(inner:II)(r:RS):Bool×RS:=
 andThen (Sb l HM r) λg=>andThen (inner 1 g) λa=>andThen (Sb l Kr a) λf=>andThen (inner 1 f) λb=>
 andThen (Sb l Ks b) λe=>andThen (inner 1 e) λc=>andThen (Sb l Ps c) λd=>(ad,d.put ⟨22,0,[],a.last,b.last,c.last⟩)
def Ti(l:List Tk)(inner:II)(r:RS):Bool×RS:=
 if(Yj l r.i).AD=1 then T7 r (Yj l r.i).BG
 else if(Yj l r.i).AD=2 then Ry r 2 0 (Yj l r.i).BG
 else if(Yj l r.i).AD=0 then(ab,r.err 80)
 else if(Ds (Yj l r.i).BG 1).2 then andThen (inner 9 r.adv) λa=>(ad,a.put ⟨(Ds (Yj l r.i).BG 1).1,0,[],a.last,-1,-1⟩)
 else if(Yj l r.i).BG=[40]then andThen (inner 1 r.adv) (Sb l [41])
 else if(Yj l r.i).BG=HM then Ub l inner r
 else if(Ds (Yj l r.i).BG 0).2/\(Yj l r.i).AD=3 then Ry r (Ds (Yj l r.i).BG 0).1 0 []
 else(ab,r.err 80)
def Py(l:List Tk)(i:Nat):Option Nat:=if(Yj l i).AD=0 then none else Dt (Yj l i).BG 2
def Us(l:List Tk)(inner:II)(n:Int):Nat->RS->Bool×RS
 |0,r=>(ad,r)|m+1,r=>match Py l r.i with|none=>(ad,r)|some op=>if Lp op<n then(ad,r)else andThen (inner (Lp op+1) r.adv) λa=>Us l inner n m (a.put ⟨op,0,[],r.last,a.last,-1⟩)
def Yv(l:List Tk):Nat->II
 |0,_,r=>(ab,r)|f+1,n,r=>andThen (Ti l (Yv l f) r) (Us l (Yv l f) n (aa l+1))
def Q6:bS->bS
 |c::d::r=>if c=48 then Q6 (d::r)else c::d::r|s=>s
def Lk(r:RS)(t:bS):Bool×RS:=if(Vz (Q6 t)).2≠0 then(ab,r.err 60)else Ry r 1 (Vz (Q6 t)).1 []
def On(l:List Tk)(w:bS)(r:RS):Bool×RS:=if(Yj l r.i).BG≠w then(ab,r.err 80)else(ad,r.adv)
def Re(l:List Tk)(inner:II)(r:RS):Bool×RS:=
 andThen (inner 1 r.adv) λa=>andThen (On l Kr a) λf=>andThen (inner 1 f) λb=>
 andThen (On l Ks b) λe=>andThen (inner 1 e) λc=>andThen (On l Ps c) λd=>(ad,d.put ⟨22,0,[],a.last,b.last,c.last⟩)
def Be(l:List Tk)(inner:II)(r:RS):Bool×RS:=
 if(Yj l r.i).BG=[40]then andThen (inner 1 r.adv) (On l [41])
 else if(Yj l r.i).BG=HM then Re l inner r
 else if(Yj l r.i).BG=[116,114,117,101]then Ry r 3 0 []
 else if(Yj l r.i).BG=[102,97,108,115,101]then Ry r 4 0 []
 else if(Yj l r.i).BG≠[]/\(Yj l r.i).AD=1 then Lk r (Yj l r.i).BG
 else if(Yj l r.i).BG≠[]/\(Yj l r.i).AD=2 then Ry r 2 0 (Yj l r.i).BG
 else(ab,r.err 80)
def KY(l:List Tk)(inner:II)(r:RS):Bool×RS:=
 if(Yj l r.i).BG=[45]then andThen (inner 9 r.adv) λa=>(ad,a.put ⟨5,0,[],a.last,-1,-1⟩)
 else if(Yj l r.i).BG=[110,111,116]then andThen (inner 9 r.adv) λa=>(ad,a.put ⟨6,0,[],a.last,-1,-1⟩)
 else Be l inner r
def I2(l:List Tk)(n:Int)(i:Nat):Nat:=match Dt (Yj l i).BG 2 with|some op=>if Lp op=n then op else 0|none=>0
def S7(l:List Tk)(inner:II)(n:Int):Nat->RS->Bool×RS
 |0,r=>(ad,r)|m+1,r=>if I2 l n r.i=0 then(ad,r)else andThen (inner (n+1) r.adv) λa=>S7 l inner n m (a.put ⟨I2 l n r.i,0,[],r.last,a.last,-1⟩)
def H9(l:List Tk)(inner:II):Nat->RS->Bool×RS
 |0,r=>KY l inner r|k+1,r=>andThen (H9 l inner k r) (S7 l inner (8-k) (aa l+1))
def ML(inner:II):Prop:=∀ n r,r.i<=(inner n r).2.i
def Va{x k a}(h:a<=x.2.i)(c:∀ r,x.2.i<=r.i->r.i<=(k r).2.i):a<=(andThen x k).2.i:=by have⟨b,r⟩:=x;cases b;exact h;exact CT h (c r ql)
def Mj(l w r):r.i<=(Sb l w r).2.i:=by unfold Sb;split;simp;simp_all
def Ga(r op b a):r.i<=(Ry r op b a).2.i:=QN _
def p7(r t):r.i<=(T7 r t).2.i:=by unfold T7;split;simp;exact Ga _ _ _ _
def nh{l d}(h:ML d)(r):r.i<=(Ub l d r).2.i:=by refine Va (Mj _ _ _) λj _=>Va (h _ _) λa _=>Va (Mj _ _ _) λg _=>Va (h _ _) λb _=>Va (Mj _ _ _) λf _=>Va (h _ _) λc _=>Va (Mj _ _ _) λe _=>BO _
def oq{l b}(h:ML b)(r):r.i<=(Ti l b r).2.i:=by have c:r.i<=r.adv.i:=QN _;unfold Ti;split;exact p7 _ _;split;exact Ga _ _ _ _;split;exact BO _;split;exact Va (CT c (h _ _)) λa _=>BO _;split;exact Va (CT c (h _ _)) λa _=>Mj _ _ _;split;exact nh h r;split;exact Ga _ _ _ _;exact BO _
def H7{l b}(h:ML b)(n):∀ m r,r.i<=(Us l b n m r).2.i
 |0,r=>BO _|m+1,r=>by rw[Us];split;grind;split;grind;exact Va (CT (QN _) (h _ r.adv)) λa _=>H7 h n m (a.put _)
def Pk(l):∀ f,ML (Yv l f)
 |0=>λ_ _=>BO _|f+1=>λn r=>by exact Va (oq (Pk l f) r) λa _=>H7 (Pk l f) n _ a
def S'(l:List Tk)(n:Int)(i:Nat):Prop:=∀ op,Py l i=ae op->Lp op<n
def Ij{l i op}(h:Py l i=ae op):i<l.length:=by unfold Py at h;split at h;cases h;exact Jh zG
def dF{l c}(h:ML c)(n):∀ m r,l.length<m+r.i->(Us l c n m r).1=ad->S' l n (Us l c n m r).2.i
 |0,r,hm,_=>λd e=>by have h2:r.i<l.length:=Ij e;omega|m+1,r,hm,hb=>by rw[Us]at hb⊢;rcases e:Py l _ with _|d;intro d h2;grind;rw[e]at hb;simp only at hb⊢;by_cases f:Lp d<n;rw[AF f]at hb⊢;intro j h2;grind;rw[AA f]at hb⊢;have g:=h (Lp d+1) r.adv;generalize c _ _=x at hb g⊢;have⟨b,a⟩:=x;cases b;cases hb;exact dF h n m _ (by have:r.i+1<=a.i:=g;simp only[J2];omega) hb
def Bn{l f n r}(c:(Yv l f n r).1=ad):S' l n (Yv l f n r).2.i:=by rcases f with _|f;cases c;rw[Yv]at c⊢;generalize Ti l _ r=x at c⊢;have⟨b,a⟩:=x;cases b;cases c;exact dF (Pk l f) n _ a (by omega) c
def Fx{l i}:Py l i=Dt (Yj l i).BG 2:=by
 unfold Py;split
 .rename_i h;rcases a:Dt _ 2 with _|op;rfl;have b:=(An a).2.2.2.2;have h2:=Ji l i;omega
 rfl
def E9{l n i}(h:Py l i=none):I2 l n i=0:=by unfold I2;rw[<- Fx,h]
def cn{l n i op}(h:Py l i=ae op):I2 l n i=if Lp op=n then op else 0:=by unfold I2;rw[<- Fx,h]
def YE{l i op}(h:Py l i=ae op):7<=op/\op<=21/\1<=Lp op/\Lp op<=8:=by rw[Fx]at h;have⟨c,h2,b,a,_⟩:=An h;grind
def gX{l a}(h:ML a)(n):∀ m m' r,l.length<m+r.i->l.length<m'+r.i->S7 l a n m r=S7 l a n m' r
 |0,m',r,h1,_=>by rcases m' with _|m';rfl;rw[S7,S7,AF];apply E9;rcases b:Py l _ with _|op;rfl;have:=Ij b;omega
 |m+1,0,r,_,h2=>by rw[S7,S7,AF];apply E9;rcases b:Py l _ with _|op;rfl;have:=Ij b;omega
 |m+1,m'+1,r,h1,h2=>by rw[S7,S7];split;rfl;refine Tf λ_=>?_;have c:r.i+1<=_:=h (n+1) r.adv;exact gX h n m m' _ (by simp only[J2];omega) (by simp only[J2];omega)
def H6{l c}(h:ML c)(n)(j:∀ r,(c (n+1) r).1=ad->S' l (n+1) (c (n+1) r).2.i):∀ m r,l.length<m+r.i->Us l c n m r=andThen (Us l c (n+1) m r) (S7 l c n m)
 |0,r,hm=>rfl|m+1,r,hm=>by
  rw[Us,Us];rcases e:Py l _ with _|op;rw[Y7,S7,AF (E9 e)];have q:=YE e;simp only;by_cases p:Lp op<n;rw[AF p,AF (by omega),Y7,S7,AF (by rw[cn e,AA (by omega)])];rw[AA p];by_cases h2:Lp op<n+1;have o:Lp op=n:=zo;have t:I2 l n r.i=op:=by rw[cn e,AF o]
  rw[AF h2,Y7,S7,t,AA (by omega),o];refine Tf λf=>?_;have k:=j _ f;have d:r.i+1<=_:=h (n+1) r.adv;generalize c _ _=x at f k d⊢;have⟨b,a⟩:=x;rw[H6 h n j m _ (by simp only[J2];simp only at d;omega)];have s:Us l c (n+1) m (a.put ⟨op,0,[],r.last,a.last,-1⟩)=(ad,a.put ⟨op,0,[],r.last,a.last,-1⟩):=by rcases m with _|m;rfl;rw[Us];rcases g:Py l _ with _|op2;rfl;simp only;rw[AF (k op2 g)]
  rw[s,Y7];rw[AA h2,He];refine Tf λf=>?_;have d:r.i+1<=_:=h (Lp op+1) r.adv;generalize c (Lp op+1) r.adv=x at f d⊢;have⟨b,a⟩:=x;simp only at d;rw[H6 h n j m _ (by simp only[J2];omega)];refine Tf λ_=>?_;have u:a.i<=_:=H7 (l:=l) h (n+1) m (a.put ⟨op,0,[],r.last,a.last,-1⟩);show S7 l c n m (Us l c (n+1) m (a.put ⟨op,0,[],r.last,a.last,-1⟩)).2=_;exact gX h n _ _ _ (by omega) (by omega)
def dp:∀ {t},t≠[]->Q6 t=Tu t
 |[],h=>absurd rfl h|[c],_=>by unfold Tu;by_cases h:c=48;subst h;rfl;have:(c==48)=ab:=zG;simp[Q6,this]
 |c::d::r,_=>by rw[Q6];by_cases h:c=48;subst h;rw[AF rfl,dp (by simp)];unfold Tu;simp_all;have:(c==48)=ab:=zG;rw[AA h];unfold Tu;simp[this]
def oM{t}(h:Tc t=1):t≠[]/\t.all Yz=ad:=by
 rw[jX]at h;split at h;cases h
 .match t with|[]=>cases h|c::r=>refine⟨by simp,?_⟩;rcases Ex c with a|⟨_,a⟩|⟨a,_⟩;rw[G0 a]at h;grind;rw[Gz a]at h;grind;rw[P9 a]at h;grind
def l9{t}(h:t.all Yz=ad):(Vz (Tu t)).2=0\/(Vz (Tu t)).2=60:=by
 have a:(Tu t).all Yz=ad/\Tu t≠[]/\((Tu t).head?=ae 48->aa (Tu t)=1):=by unfold Tu;split;exact⟨by rfl,by simp,λ_=>rfl⟩;rename_i f;refine⟨?_,f,λh2=>?_⟩;rw[ER]at h⊢;exact λx e=>h x ((lX _).mem e);have:=List.head?_dropWhile_not (· == (48:UInt8)) t;grind
 have⟨a,h2,g⟩:=a;generalize Tu t=s at a h2 g;have i:¬(s.head? == ae 45)=ad:=by rcases s with _|⟨c,r⟩;grind;intro d;have d:c=45:=zG;subst d;revert a;simp[Yz]
 have b:(s.head? == ae 45)=ab:=zG;unfold Vz;rw[b];simp only[IP,HD,CF];rw[AA];unfold Hp;split;exact .inl rfl;exact .inr rfl;grind
def uw(r){t}(h:Tc t=1):Lk r t=T7 r t:=by have⟨b,h2⟩:=oM h;unfold Lk T7;rw[dp b];rcases l9 h2 with a|a;grind;grind
def RL(l){w}(a:Tc w≠0)(r):On l w r=Sb l w r:=by unfold On Sb;by_cases h:(Yj l r.i).BG=w;have:=Ji l r.i;grind;grind
def mA{l r}(h:(Yj l r.i).BG=HM):Sb l HM r=(ad,r.adv):=by
 have a:=Ji l r.i;rw[h]at a;have h2:Tc HM=3:=by rfl
 unfold Sb;grind
def zn(l a r):KY l a r=Ti l a r:=by
 have b:=Ji l r.i;have g:=RL l (w:=[41]) zd;have y:=RL l (w:=Kr) zd;have A:=RL l (w:=Ks) zd;have z:=RL l (w:=Ps) zd;have c:(Yj l _).BG=HM->Re l a r=Ub l a r:=λh=>by unfold Re Ub;rw[mA h,Y7];simp only[y,A,z]
 have e:andThen _ _=andThen (a 1 r.adv) _:=Tf λ_=>g _;unfold KY Be Ti;rw[e];generalize Yj l _=t at b c⊢;have⟨k,t,p⟩:=t;simp only at b c⊢;by_cases s:t=[45];subst s;have:k=4:=by rw[<- b];decide
 subst this;rfl;rw[AA s];by_cases q:t=[110,111,116];subst q;have:k=3:=by rw[<- b];decide
 subst this;rfl;rw[AA q];by_cases o:t=[40];subst o;have:k=4:=by rw[<- b];decide
 subst this;rfl;rw[AA o];by_cases n:t=HM;subst n;have:k=3:=by rw[<- b];decide
 subst this;rw[AF rfl,c rfl];rfl;rw[AA n];by_cases m:t=[116,114,117,101];subst m;have:k=3:=by rw[<- b];decide
 subst this;rfl;rw[AA m];by_cases j:t=[102,97,108,115,101];subst j;have:k=3:=by rw[<- b];decide
 subst this;rfl;rw[AA j];have d:k=1\/k=2->t≠[]:=by rintro h rfl;have:Tc []=0:=rfl;omega
 by_cases k1:k=1;rw[AF ⟨d (.inl k1),k1⟩,AF k1];exact uw r (by omega);rw[AA (λh=>k1 h.2),AA k1];by_cases k2:k=2;rw[AF ⟨d (.inr k2),k2⟩,AF k2];rw[AA (λh=>k2 h.2),AA k2];by_cases u:k=0;rw[AF u];have v:(Ds t 1).2=ab:=by unfold Ds;rcases f:Dt t 1 with _|i;rfl;rcases zz f with ⟨h,_⟩|⟨h,_⟩;exact absurd h s;exact absurd h q
 have x:(Ds t 0).2=ab:=by unfold Ds;rcases f:Dt t 0 with _|i;rfl;rcases kh f with ⟨h,_⟩|⟨h,_⟩;exact absurd h m;exact absurd h j
 rw[AA u,v,AA (by simp),AA o,AA n,x,AA (by simp)]
def ACT(l a m r):Us l a 9 m r=(ad,r):=by rcases m with _|m;rfl;rw[Us];rcases b:Py l _ with _|op;rfl;simp only;rw[AF (by have:=YE b;omega)]
def H8{l c}(h:ML c)(d:∀ n r,(c n r).1=ad->S' l n (c n r).2.i):∀ k r,H9 l c k r=andThen (Ti l c r) (Us l c (9-k) (l.length+1))
 |0,r=>by
  rw[H9,zn];have:∀ x,x=andThen x (Us l c (9-(0:Nat)) (l.length+1)):=by rintro⟨b,a⟩;cases b;rfl;exact(ACT l c _ a).symm
  exact this _
 |k+1,r=>by rw[H9,H8 h d k r,He];refine Tf λ_=>?_;have e:=H6 h (8-k) (d _) (aa l+1) (Ti l c r).2 (by omega);grind
structure CJ(l:List Tk)(k:Nat)(r r':RS):Prop where
 up:r.i<=r'.i
 SA:r.i<=aa l->r'.i<=aa l
 GK:aa r'.BS+r.i+k<=aa r.BS+r'.i
def CJ.refl(l r):CJ l 0 r r:=⟨BO _,id,BO _⟩
def CJ.trans{l k k' r r' a}(h:CJ l k r r')(b:CJ l k' r' a):CJ l (k+k') r a:=
 ⟨CT h.up b.up,λx=>b.SA (h.SA x),by have:=h.GK;have:=b.GK;omega⟩
def CJ.weak{l k k' r r'}(h:CJ l k r r')(a:k'<=k):CJ l k' r r':=⟨h.up,h.SA,by have:=h.GK;omega⟩
def CJ.adv{l r}(h:r.i<l.length):CJ l 1 r r.adv:=⟨QN _,λ_=>h,by show aa r.BS+r.i+1<=aa r.BS+(r.i+1);omega⟩
abbrev K_:=@CJ.adv
def CJ.err(l r e):CJ l 0 r (r.err e):=⟨BO _,id,BO _⟩
def CJ.put{l k r r'}(h:CJ l (k+1) r r')(n):CJ l k r (r'.put n):=
 ⟨h.up,h.SA,by have:=h.GK;show aa (r'.BS++[n])+r.i+k<=_;rw[BQ,JI];show _<=aa r.BS+r'.i;omega⟩
def LU(l:List Tk)(inner:II):Prop:=∀ n r,CJ l 0 r (inner n r).2
def CJ.then{l r x k}(h:CJ l 0 r x.2)(a:x.1=ad->CJ l 0 r (k x.2).2):CJ l 0 r (andThen x k).2:=by have⟨b,c⟩:=x;cases b;exact h;exact a rfl
abbrev JQ:=@CJ.then
def R6(l w r):CJ l 0 r (Sb l w r).2/\((Sb l w r).1=ad->CJ l 1 r (Sb l w r).2):=by unfold Sb;split;exact⟨CJ.err _ _ _,λh=>by cases h⟩;rename_i h;have a:=λb=>h (.inl b);have:=K_ (Jh a);exact⟨this.weak qz,λ_=>this⟩
def D3{l r}(h:(Yj l r.i).AD≠0)(op b a):CJ l 0 r (Ry r op b a).2:=(K_ (Jh h)).put _
def ABa{l r}(h:(Yj l r.i).AD≠0)(t):CJ l 0 r (T7 r t).2:=by unfold T7;split;exact CJ.err _ _ _;exact D3 h _ _ _
def u0{l d}(h:LU l d)(r):CJ l 0 r (Ub l d r).2:=by have p:=R6 l HM r;refine JQ p.1 λw=>?_;have t:=p.2 w;generalize(Sb l _ r).2=k at t⊢;have g:=t.trans (h 1 k);refine JQ (g.weak qz) λ_=>?_;generalize(d 1 k).2=a at g⊢;have o:=R6 l Kr a;refine JQ ((g.trans o.1).weak qz) λh2=>?_;have s:=g.trans (o.2 h2);generalize(Sb l Kr a).2=j at s⊢;have f:=s.trans (h 1 j);refine JQ (f.weak qz) λ_=>?_;generalize(d 1 j).2=b at f⊢;have n:=R6 l Ks b;refine JQ ((f.trans n.1).weak qz) λv=>?_;have q:=f.trans (n.2 v);generalize(Sb l Ks b).2=i at q⊢;have e:=q.trans (h 1 i);refine JQ (e.weak qz) λ_=>?_;generalize(d 1 i).2=c at e⊢;have m:=R6 l Ps c;refine JQ ((e.trans m.1).weak qz) λu=>?_;have x:=e.trans (m.2 u);exact(x.put _).weak qz
def L0{l a}(h:LU l a)(r):CJ l 0 r (Ti l a r).2:=by unfold Ti;split;rename_i e;exact ABa zG _;split;rename_i e;exact D3 zG _ _ _;split;exact CJ.err _ _ _;rename_i c;have d:=K_ (Jh c);split;have b:=d.trans (h 9 r.adv);exact JQ (b.weak qz) λ_=>b.put _;split;have b:=d.trans (h 1 r.adv);exact JQ (b.weak qz) λ_=>(b.trans (R6 l [41] _).1).weak qz;split;exact u0 h r;split;exact D3 c _ _ _;exact CJ.err _ _ _
def Dz{l a}(h:LU l a)(n):∀ m r,CJ l 0 r (Us l a n m r).2
 |0,r=>CJ.refl l r|m+1,r=>by rw[Us];rcases c:Py l _ with _|op;exact CJ.refl l r;simp only;split;exact CJ.refl l r;have b:=(K_ (Ij c)).trans (h (Lp op+1) r.adv);exact JQ (b.weak qz) λ_=>((b.put _).trans (Dz h n m _)).weak qz
def Vv(l):∀ f,LU l (Yv l f)
 |0=>λ_ r=>CJ.refl l r|f+1=>λn r=>by have a:=L0 (Vv l f) r;exact JQ a λ_=>(a.trans (Dz (Vv l f) n _ _)).weak qz
def R9(l:List Tk)(r:RS):Prop:=r.i<=aa l/\aa r.BS<=r.i
def CJ.ok{l k r r'}(h:CJ l k r r')(a:R9 l r):R9 l r':=⟨h.SA a.1,by have:=h.GK;have:=a.2;omega⟩
inductive X where
 |leaf (op num:Int) (name:bS)
 |un (op:Int) (a:X)
 |DP (op:Int) (a b:X)
 |ite (a b c:X)
 deriving DecidableEq,Inhabited
namespace X
def size:X->Nat
 |leaf .. => 1|un _ a=>a.size+1|DP _ a b=>a.size+b.size+1|ite a b c=>a.size+b.size+c.size+1
def depth:X->Nat
 |leaf .. => 1|un _ a=>a.depth+1|DP _ a b=>max a.depth b.depth+1|ite a b c=>max (max a.depth b.depth) c.depth+1
end X
def Tm(n:XN):Bool:=
 if n.op<1\/n.op>22\/n.num<0 then ab else if n.op=2 then n.num==0&&Tc n.name==2 else n.name==[]&&(n.op==1||n.num==0)
namespace X
def ok:X->Bool
 |leaf op num name=>Tm ⟨op,num,name,-1,-1,-1⟩&&decide (op<=4)|un op a=>decide (5<=op)&&decide (op<=6)&&a.ok|DP op a b=>decide (7<=op)&&decide (op<=21)&&a.ok&&b.ok|ite a b c=>a.ok&&b.ok&&c.ok
def row:X->Int->List XN
 |leaf op num name,_=>[⟨op,num,name,-1,-1,-1⟩]|un op a,k=>a.row k++[⟨op,0,[],k+a.size-1,-1,-1⟩]|DP op a b,k=>a.row k++b.row (k+a.size)++[⟨op,0,[],k+a.size-1,k+a.size+b.size-1,-1⟩]|ite a b c,k=>a.row k++b.row (k+a.size)++c.row (k+a.size+b.size)++[⟨22,0,[],k+a.size-1,k+a.size+b.size-1,k+a.size+b.size+c.size-1⟩]
def row_len:∀ (x:X) k,aa (x.row k)=x.size
 |leaf ..,_=>rfl|un _ a,k=>by simp[row,size,row_len a]|DP _ a b,k=>by simp[row,size,row_len a,row_len b];omega|ite a b c,k=>by simp[row,size,row_len a,row_len b,row_len c];omega
def size_pos:∀ x:X,0<x.size
 |leaf .. => by simp[size]|un .. => by simp[size]|DP .. => by simp[size]|ite .. => by simp[size]
def top:X->Int->XN
 |leaf op num name,_=>⟨op,num,name,-1,-1,-1⟩|un op a,k=>⟨op,0,[],k+a.size-1,-1,-1⟩|DP op a b,k=>⟨op,0,[],k+a.size-1,k+a.size+b.size-1,-1⟩|ite a b c,k=>⟨22,0,[],k+a.size-1,k+a.size+b.size-1,k+a.size+b.size+c.size-1⟩
end X
def Pv{op}(h:3<=op/\op<=22)(a b c):Tm ⟨op,0,[],a,b,c⟩=ad:=by unfold Tm;grind
def jT{n}(h:Tm n=ad)(a:n.op≠1):n.num=0/\(n.op≠2->n.name=[])/\1<=n.op/\n.op<=22:=by unfold Tm at h;grind
def Oa{n}(h:Tm n=ad):1<=n.op/\n.op<=22:=by unfold Tm at h;grind
def Z7(op:Int):Nat:=if op<=4 then 0 else if op<=6 then 1 else if op<=21 then 2 else 3
def Vh(l:List (Int×Int)):iS:=[(l.map (·.1)).getD 0 (-1),(l.map (·.1)).getD 1 (-1),(l.map (·.1)).getD 2 (-1)]
def Vo(l:List (Int×Int)):Int:=l.foldl (λd p=>max d p.2) 0
def U3(i:Int)(n:XN)(opn:List (Int×Int)):Option (List (Int×Int)):=
 if Tm n=ab then none else if aa opn<Z7 n.op then none
 else if Vh (opn.drop (aa opn-Z7 n.op))≠[n.a,n.b,n.c]then none
 else ae (opn.take (aa opn-Z7 n.op)++[(i,Vo (opn.drop (aa opn-Z7 n.op))+1)])
def Ug:List XN->Int->List (Int×Int)->Option (List (Int×Int))
 |[],_,opn=>ae opn|n::r,i,opn=>match U3 i n opn with|some o=>Ug r (i+1) o|none=>none
def Wg(l:List XN):Int:=match Ug l 0 []with|some [x]=>x.2|_=>0
def Nk:Int->List X->List XN
 |_,[]=>[]|k,x::r=>x.row k++Nk (k+x.size) r
def Sd(F:List X):Nat:=(F.map X.size).sum
def Wv:Int->List X->List (Int×Int)
 |_,[]=>[]|k,x::r=>(k+x.size-1,(x.depth:Int))::Wv (k+x.size) r
def Hu(x r):Sd (x::r)=x.size+Sd r:=by rfl
def rR(a b):Sd (a++b)=Sd a+Sd b:=by simp[Sd]
def ZF:∀ a b k,Nk k (a++b)=Nk k a++Nk (k+Sd a) b
 |[],b,k=>by simp[Nk,Sd]|x::a,b,k=>by rw[LG,Nk,Nk,ZF a b,DH,Hu];congr 3;omega
def Lh:∀ a b k,Wv k (a++b)=Wv k a++Wv (k+Sd a) b
 |[],b,k=>by simp[Wv,Sd]|x::a,b,k=>by rw[LG,Wv,Wv,Lh a b,Hu];congr 3;omega
def Lg:∀ F k,aa (Wv k F)=aa F
 |[],_=>rfl|x::r,k=>by simp[Wv,Lg r]
def Fm:∀ F k,aa (Nk k F)=Sd F
 |[],_=>rfl|x::r,k=>by rw[Nk,BQ,X.row_len,Fm r,Hu]
def n8{F:List X}{p}(h:p<=F.length):∃ A B,F=A++B/\B.length=p:=⟨F.take _,F.drop (aa F-p),(HX _ _).symm,by grind⟩
def AAb{F n o}(i:∀ x∈F,x.ok=ad)(h:U3 (Sd F) n (Wv 0 F)=ae o):∃ F',(∀ x∈F',x.ok=ad)/\Nk 0 F'=Nk 0 F++[n]/\o=Wv 0 F':=by
 unfold U3 at h;rw[Lg]at h;split at h;cases h;rename_i l;have l:Tm n=ad:=by simpa using l
 have t:=Oa l;split at h;cases h;rename_i E;obtain⟨A,B,rfl,e⟩:=n8 (F:=F) (p:=Z7 n.op) (by omega);have v:aa (A++B)-Z7 n.op=aa A:=by rw[BQ,e];omega
 have g:(Wv 0 (A++B)).drop (aa A)=Wv (Sd A) B:=by rw[Lh,List.drop_left' (Lg _ _),Int.zero_add]
 have f:(Wv 0 (A++B)).take (aa A)=Wv 0 A:=by rw[Lh,WI (Lg _ _)]
 rw[v,g,f]at h;split at h;cases h;rename_i d;simp only[ne_eq,Decidable.not_not]at d;simp only[GI]at h;have m:∀ x∈A,x.ok=ad:=λx s=>i x (by simp[s]);have CK:∀ x:X,x.ok=ad->x.row (Sd A)=Nk (Sd A) B++[n]->(x.depth:Int)=Vo (Wv (Sd A) B)+1 ->
   ∃ F',(∀ x∈F',x.ok=ad)/\Nk 0 F'=Nk 0 (A++B)++[n]/\o=Wv 0 F':=by
  intro x s C H;refine⟨A++[x],λy G=>?_,?_,?_⟩;rcases DX.1 G with q|q;exact m y q;rw[CP.1 q];exact s;rw[ZF,ZF,DH,Int.zero_add,<- C];simp[Nk];rw[<- h,Lh,Wv,Wv,H];have q:aa (x.row (Sd A))=x.size:=X.row_len _ _;rw[C,BQ,Fm,JI]at q;rw[rR];congr 4;omega
 obtain⟨j,r,k,a,b,c⟩:=n;simp only at e d t;unfold Z7 at e;split at e;rename_i J;obtain rfl:B=[]:=GL.1 e;simp only[Vh,Wv,BV,cG,WB,CE]at d;obtain⟨rfl,rfl,rfl⟩:=d;exact CK (.leaf j r k) (by unfold X.ok;rw[l];simp;omega) rfl rfl;rename_i J;have D:=jT l (show j≠1 by omega);simp only at D;obtain⟨rfl,u,_⟩:=D;obtain rfl:=u (by omega);split at e;rename_i I;obtain⟨x,rfl⟩:=LJ.1 e;simp only[Vh,Wv,BI,BV,cF,cE,cG,WB,CE]at d;obtain⟨rfl,rfl,rfl⟩:=d;refine CK (.un j x) (by unfold X.ok;rw[i x (by simp)];simp;omega) ?_ ?_;simp[X.row,Nk];simp[X.depth,Wv,Vo];rename_i I;split at e;rename_i w;obtain⟨x,y,rfl⟩:∃ x y,B=[x,y]:=by match B,e with|[x,y],_=>exact⟨x,y,rfl⟩
 simp only[Vh,Wv,BI,BV,cF,cE,cG,WB,CE]at d;obtain⟨rfl,rfl,rfl⟩:=d;refine CK (.DP j x y) (by unfold X.ok;rw[i x (by simp),i y (by simp)];simp;omega) ?_ ?_;simp[X.row,Nk];simp[X.depth,Wv,Vo];omega;rename_i w;obtain⟨x,y,z,rfl⟩:∃ x y z,B=[x,y,z]:=by match B,e with|[x,y,z],_=>exact⟨x,y,z,rfl⟩
 simp only[Vh,Wv,BI,BV,cF,cE,WB,CE]at d;obtain⟨rfl,rfl,rfl⟩:=d;obtain rfl:j=22:=zo;refine CK (.ite x y z) (by unfold X.ok;rw[i x (by simp),i y (by simp),i z (by simp)];rfl) ?_ ?_;simp[X.row,Nk];simp[X.depth,Wv,Vo];omega
def ke:∀ l F opn,(∀ x∈F,x.ok=ad)->Ug l (Sd F) (Wv 0 F)=ae opn ->
  ∃ F',(∀ x∈F',x.ok=ad)/\Nk 0 F'=Nk 0 F++l/\opn=Wv 0 F'
 |[],F,opn,hF,h=>⟨F,hF,by simp,by simpa[Ug]using h.symm⟩|n::r,F,opn,hF,h=>by
  rw[Ug]at h;rcases b:U3 (Sd F) n (Wv 0 F) with _|o;grind;rw[b]at h;obtain⟨c,d,h2,rfl⟩:=AAb hF b;have a:(Sd F:Int)+1=Sd c:=by have:=BU List.length h2;rw[BQ,Fm,Fm,JI]at this;omega
  rw[a]at h;have⟨F',g,f,e⟩:=ke r c _ d h;grind
def Qs:∀ l m i opn,Ug (l++m) i opn=(Ug l i opn).bind λo=>Ug m (i+aa l) o
 |[],m,i,opn=>by simp[Ug]|n::r,m,i,opn=>by rw[LG,Ug,Ug];rcases U3 i n _ with _|o;rfl;simp only;rw[Qs r m];grind
def Qr:∀ (x:X) k opn,x.ok=ad->Ug (x.row k) k opn=ae (opn++[(k+x.size-1,(x.depth:Int))])
 |.leaf op num name,k,opn,h=>by
  unfold X.ok at h;simp only[BP,CM]at h;simp only[X.row,Ug];have e:U3 k ⟨op,num,name,-1,-1,-1⟩ opn=ae (opn++[(k,1)]):=by
   unfold U3;rw[AA (by rw[h.1];simp)];have:Z7 op=0:=by unfold Z7;rw[AF h.2]
   rw[this,AA (by omega),IS,NN,B_];rfl
  rw[e];simp[Ug,X.size,X.depth]
 |.un op a,k,opn,h=>by
  unfold X.ok at h;simp only[BP,CM]at h;rw[X.row,Qs,Qr a k opn h.2,IK,X.row_len,Ug];have g:Z7 op=1:=by unfold Z7;rw[AA (by omega),AF (by omega)]
  have e:U3 (k+a.size) ⟨op,0,[],k+a.size-1,-1,-1⟩ (opn++[(k+a.size-1,(a.depth:Int))])=ae (opn++[(k+a.size,(a.depth:Int)+1)]):=by
   unfold U3;have i:aa (opn++[(k+(a.size:Int)-1,(a.depth:Int))])-1=aa opn:=by simp
   rw[AA (by rw[Pv (by omega)];simp)];simp only[g];rw[AA (by simp),i,b_,cS,AA (by simp[Vh])];congr 4
   all_goals first|(simp[Vo];done)|(simp[Vo];omega)
  rw[e];simp only[Ug,X.size,X.depth];congr 4
  all_goals first|(simp;done)|(simp;omega)|omega
 |.DP op a b,k,opn,h=>by
  unfold X.ok at h;simp only[BP,CM]at h;rw[X.row,Qs,Qs,Qr a k opn h.1.2,IK,X.row_len,Qr b _ _ h.2,IK,Ug];have g:Z7 op=2:=by unfold Z7;rw[AA (by omega),AA (by omega),AF (by omega)]
  have d:(aa (a.row k++b.row (k+a.size)):Int)=a.size+b.size:=by rw[BQ,X.row_len,X.row_len];omega
  rw[d];have e:U3 (k+(a.size+b.size)) ⟨op,0,[],k+a.size-1,k+a.size+b.size-1,-1⟩ (opn++[(k+a.size-1,(a.depth:Int))]++[(k+a.size+b.size-1,(b.depth:Int))])=ae (opn++[(k+(a.size+b.size),max (a.depth:Int) b.depth+1)]):=by
   unfold U3;have i:aa (opn++[(k+(a.size:Int)-1,(a.depth:Int))]++[(k+a.size+b.size-1,(b.depth:Int))])-2=aa opn:=by simp
   rw[AA (by rw[Pv (by omega)];simp)];simp only[g];rw[AA (by simp),i,DH,b_,cS,AA (by simp[Vh])];congr 4
   all_goals first|(simp[Vo];done)|(simp[Vo];omega)
  rw[e];simp only[Ug,X.size,X.depth];congr 4
  all_goals first|(simp;done)|(simp;omega)|omega
 |.ite a b c,k,opn,h=>by
  unfold X.ok at h;simp only[BP]at h;rw[X.row,Qs,Qs,Qs,Qr a k opn h.1.1,IK,X.row_len,Qr b _ _ h.1.2,IK];have f:k+(aa (a.row k++b.row (k+a.size)):Int)=k+a.size+b.size:=by rw[BQ,X.row_len,X.row_len];omega
  rw[f,Qr c _ _ h.2,IK,Ug];have d:(aa (a.row k++b.row (k+a.size)++c.row (k+a.size+b.size)):Int)=a.size+b.size+c.size:=by simp only[BQ,X.row_len];omega
  rw[d];have e:U3 (k+(a.size+b.size+c.size)) ⟨22,0,[],k+a.size-1,k+a.size+b.size-1,k+a.size+b.size+c.size-1⟩ (opn++[(k+a.size-1,(a.depth:Int))]++[(k+a.size+b.size-1,(b.depth:Int))]++[(k+a.size+b.size+c.size-1,(c.depth:Int))])=ae (opn++[(k+(a.size+b.size+c.size),max (max (a.depth:Int) b.depth) c.depth+1)]):=by
   unfold U3;have g:Z7 22=3:=rfl;have i:aa (opn++[(k+(a.size:Int)-1,(a.depth:Int))]++[(k+a.size+b.size-1,(b.depth:Int))]++[(k+a.size+b.size+c.size-1,(c.depth:Int))])-3=aa opn:=by simp
   rw[AA (by rw[Pv (by omega)];simp)];simp only[g];rw[AA (by simp),i,DH,DH,b_,cS,AA (by simp[Vh])];congr 4
   all_goals first|(simp[Vo];done)|(simp[Vo];omega)
  rw[e];simp only[Ug,X.size,X.depth];congr 4
  all_goals first|(simp;done)|(simp;omega)|omega
def fq{x:X}(h:x.ok=ad):Wg (x.row 0)=x.depth:=by unfold Wg;rw[Qr x 0 [] h];rfl
def Gf{l}(h:Wg l≠0):∃ x:X,x.ok=ad/\l=x.row 0:=by
 unfold Wg at h;split at h
 .rename_i y hy;obtain⟨F,b,h2,a⟩:=ke l [] _ (by simp) (by simpa[Sd,Wv]using hy)
  match F,a with|[x],_=>exact⟨x,b x (by simp),by simpa[Nk]using h2.symm⟩|[],a=>simp[Wv]at a|_::_::_,a=>simp[Wv]at a
 grind
def X.depth_pos:∀ x:X,0<x.depth
 |.leaf .. => by simp[depth]|.un .. => by simp[depth]|.DP .. => by simp[depth]|.ite .. => by simp[depth]
def Xt(l:List Tk):List XN×Int×Int:=if(Yv l (aa l+1) 1 ⟨0,[],0⟩).1=ab then([],(Yv l (aa l+1) 1 ⟨0,[],0⟩).2.i,(Yv l (aa l+1) 1 ⟨0,[],0⟩).2.e)
 else if Wg (Yv l (aa l+1) 1 ⟨0,[],0⟩).2.BS>64 then([],0,3)else((Yv l (aa l+1) 1 ⟨0,[],0⟩).2.BS,(Yv l (aa l+1) 1 ⟨0,[],0⟩).2.i,0)
def V5(s:bS):List XN×Int×Int:=
 if(Yr s).2.2≠0 then([],(Yr s).2.1,(Yr s).2.2)
 else if(Xt (Yr s).1).2.2=3 then([],0,3)
 else if(Xt (Yr s).1).2.2=0/\(Xt (Yr s).1).2.1=(aa (Yr s).1:Nat)then((Xt (Yr s).1).1,0,0)
 else([],if(Xt (Yr s).1).2.1=(aa (Yr s).1:Nat)then(aa s:Int)else((Yr s).1.getD (Xt (Yr s).1).2.1.toNat ⟨0,[],0⟩).pos,if(Xt (Yr s).1).2.2=0 then 80 else(Xt (Yr s).1).2.2)
def Qp{l}:0<=(Xt l).2.1/\(Xt l).2.1<=(l.length:Nat):=by have a:=((Vv l (aa l+1) 1 ⟨0,[],0⟩).ok ⟨CB _,BO _⟩).1;unfold Xt;grind
def kV{l}(h:(Xt l).2.2≠0):(Xt l).1=[]:=by unfold Xt at h⊢;grind
structure EU where
 AD:Int
 name:bS
 x:List XN
 deriving DecidableEq,Inhabited
def Pu:bS:=[101,109,105,116]
def X6(l:List Tk)(i:Nat):bS:=match l[i]? with|some t=>t.BG|none=>[]
def O7(l:List Tk)(i:Nat):Bool:=match l[i]? with|some t=>t.AD==2|none=>ab
def J8{l i t}(h:l[i]?=ae t):X6 l i=t.BG:=by unfold X6;rw[h]
def Nv{l i}(h:l.length<=i):X6 l i=[]:=by unfold X6;grind
def H4{l i t}(h:l[i]?=ae t):O7 l i=(t.AD==2):=by unfold O7;rw[h]
def Oi{l i}(h:l.length<=i):O7 l i=ab:=by unfold O7;grind
def V9(l:List Tk):List bS->Nat->Bool×Nat
 |[],i=>(ad,i)|w::r,i=>if X6 l i=w then V9 l r (i+1)else(ab,i)
def Kw(l:List Tk)(s:EU)(ws:List bS)(i:Nat):EU×Int×Int:=
 ((s,((V9 l ws i).2:Int),if(V9 l ws i).1=ad then 0 else 110))
def Ef(l:List Tk)(k:Int)(nm:bS)(ws:List bS)(i:Nat):EU×Int×Int:=
 if(Xt (l.drop i)).2.2≠0 then(⟨k,nm,[]⟩,(i:Int)+(Xt (l.drop i)).2.1,(Xt (l.drop i)).2.2)
 else Kw l ⟨k,nm,(Xt (l.drop i)).1⟩ ws (i+(Xt (l.drop i)).2.1.toNat)
def Tn(l:List Tk)(k:Int)(w:bS)(ws:List bS)(i:Nat):EU×Int×Int:=
 if O7 l i=ab then(⟨k,[],[]⟩,(i:Int),110)
 else if X6 l (i+1)≠w then(⟨k,X6 l i,[]⟩,((i+1:Nat):Int),110)
 else if k=2/\X6 l (i+2)=[41]then Kw l ⟨k,X6 l i,[]⟩ ws (i+2)
 else Ef l k (X6 l i) ws (i+2)
def Ud(l:List Tk)(i:Nat):EU×Int×Int:=
 if X6 l i=Pu then Tn l 2 [40] [[41],[59]] (i+1)else Tn l 1 [58,61] [[59]] i
def fE{l}:∀ ws i,i<=(V9 l ws i).2
 |[],i=>BO _|w::r,i=>by rw[V9];split;exact CT (QN i) (fE r (i+1));grind
def G7{l i}(h:X6 l i≠[]):i<l.length:=by refine MC λh2=>h (Nv (by omega))
def ew{l}:∀ ws i,(∀ w∈ws,w≠[])->(V9 l ws i).1=ad->(V9 l ws i).2=i+ws.length/\(ws≠[]->(V9 l ws i).2<=l.length)
 |[],i,_,_=>⟨rfl,λh=>absurd rfl h⟩|w::r,i,hw,h=>by rw[V9]at h⊢;split at h;rename_i b;rw[AF b];have⟨h2,d⟩:=ew r _ (λx a=>hw x (FR _ a)) h;refine⟨by grind,λ_=>?_⟩;have c:=G7 (l:=l) (i:=i) zG;grind;cases h
structure TY(l:List Tk)(i:Nat)(r:EU×Int×Int):Prop where
 ge:(i:Int)<=r.2.1
 ok:r.2.2=0->(i:Int)<r.2.1/\r.2.1<=aa l
def dv{l s a i j}(c:∀ w∈a,w≠[])(b:a≠[])(e:i<=j):TY l i (Kw l s a j):=by
 have n:=fE (l:=l) a j;refine⟨by show(i:Int)<=((V9 l a j).2:Int);omega,λh=>?_⟩;have d:(V9 l a j).1=ad:=by refine MC λh2=>?_;have h:(if(V9 l a j).1=ad then(0:Int)else 110)=0:=h;grind
 have⟨m,f⟩:=ew a j c d;have k:=f b;have g:=JH.2 b;show(i:Int)<((V9 l a j).2:Int)/\((V9 l a j).2:Int)<=aa l;omega
def wB{l k nm a i j}(b:∀ w∈a,w≠[])(c:a≠[])(d:i<=j):TY l i (Ef l k nm a j):=by unfold Ef;have e:=(Qp (l:=l.drop j)).1;split;rename_i h;exact⟨by grind,λh2=>absurd h2 h⟩;exact dv b c (by omega)
def dT{l k w a i j}(b:∀ w∈a,w≠[])(c:a≠[])(d:i<=j):TY l i (Tn l k w a j):=by unfold Tn;split;exact⟨by grind,λh=>by cases h⟩;split;exact⟨by grind,λh=>by cases h⟩;split;exact dv b c (by omega);exact wB b c (by omega)
def G9(l i):TY l i (Ud l i):=by unfold Ud;split;exact dT zd zd (by omega);exact dT zd zd ql
def Hx(l:List Tk)(n:Nat)(i:Int):Int:=if i<aa l then(l.getD i.toNat ⟨0,[],0⟩).pos else n
def Mn(l:List Tk)(n:Nat):Nat->Nat->List EU->List EU×Int×Int
 |0,_,acc=>(acc,0,0)|f+1,i,acc=>
  if aa l<=i then(acc,0,0)
  else if aa acc=512 then([],Hx l n i,3)
  else if(Ud l i).2.2≠0 then([],Hx l n (Ud l i).2.1,(Ud l i).2.2)
  else Mn l n f (Ud l i).2.1.toNat (acc++[(Ud l i).1])
def Nd(s:bS):List EU×Int×Int:=
 if(Yr s).2.2≠0 then([],(Yr s).2.1,(Yr s).2.2)else Mn (Yr s).1 (aa s) (aa (Yr s).1+1) 0 []
section
structure VP where
 name:bS
 AD:Int
 region:Int
 of:Int
 entry:bS
 exit:bS
 defers:List bS
 sub:bS
structure WP where
 name:bS
 AV:Int
 target:Int
 C_:List bS
 after:Int
 guard:bS
 DT:bS
 AD:Int
structure PM where
 name:bS
 vars:List (bS×Int)
 BF:List bS
 AU:List (bS×Int)
 AN:List VP
 AE:List WP
def AC5:VP:=⟨[],0,0,0,[],[],[],[]⟩
def VT:WP:=⟨[],0,0,[],0,[],[],0⟩
namespace PM
variable(m:PM)
def vx(v:Int):VP:=m.AN.getD v.toNat AC5
def wy(i:Int):WP:=m.AE.getD i.toNat VT
def ow(r:Int):Int:=(m.AU.getD r.toNat ([],0)).2
def around(v:Int):Int:=if 0<=(m.vx v).of then(m.vx v).of else m.ow (m.vx v).region
def upsF:Nat->Int->iS
 |0,_=>[]|f+1,v=>if m.around v<0 then[]else m.around v::upsF f (m.around v)
def ups(v:Int):iS:=m.upsF 65 v
def withinB(v r:Int):Bool:=(v::m.ups v).any λu=>(m.vx u).region==r
def inB(v s:Int):Bool:=(m.ups v).contains s
def regU(v s:Int):Int:=match(v::m.ups v).find? (λu=>m.around u==s)with|some u=>(m.vx u).region|none => -1
def regR(v s:Int):Int:=(aE (aa m.AU)).foldl (fun(a:Int) (r:Nat)=>if m.ow (r:Int)=s/\m.withinB v (r:Int)=ad then(r:Int)else a) (-1)
end PM
def Tp:iS->iS->Bool
 |_,[]=>ad|acc,r::t=>decide (0<=r) && !acc.contains r&&Tp (acc++[r]) t
def Pt:iS->iS->iS
 |acc,[]=>acc|acc,r::t=>Pt (if 0<=r/\acc.contains r=ab then acc++[r]else acc) t
def YT:∀ l acc,aa (Pt acc l)<=aa acc+aa l
 |[],acc=>BO _|r::t,acc=>by rw[Pt];have:=YT t (if 0<=r/\acc.contains r=ab then acc++[r]else acc);grind
def fC:∀ l acc,decide (aa (Pt acc l)=aa acc+aa l)=Tp acc l
 |[],acc=>by simp[Pt,Tp]|r::t,acc=>by rw[Pt,Tp];by_cases h:0<=r/\acc.contains r=ab;rw[AF h,h.2,EI h.1];rw[<- fC t _];grind;rw[AA h];have a:=YT t acc;grind
namespace PM
variable(m:PM)
structure BW:Prop where
 DA:∀ v:Int,0<=v->v<aa m.AN->m.around v = -1\/(0<=m.around v/\m.around v<aa m.AN)
 dep:∀ v:Int,0<=v->v<aa m.AN->aa (m.ups v)<=64
 pt:∀ v:Int,0<=v->v<aa m.AN->0<=(m.vx v).of->(m.vx v).region = -1
 rg:∀ v:Int,0<=v->v<aa m.AN->(m.vx v).of<0->0<=(m.vx v).region/\(m.vx v).region<aa m.AU
variable{m}
def Cw:∀ f k v,aa (m.upsF f v)<f->m.upsF (f+k) v=m.upsF f v
 |0,_,_,h=>absurd h (FH _)|f+1,k,v,h=>by rw[show f+1+k=(f+k)+1 by omega,upsF,upsF];rw[upsF]at h;split;rfl;rename_i a;rw[AA a,CW]at h;rw[Cw f k _ (by omega)]
def BW.ups_nil{v}(h:m.around v<0):m.ups v=[]:=by rw[ups,upsF,AF h]
abbrev KZ:=@BW.ups_nil
def BW.ups_cons(a:m.BW){v:Int}(d:0<=v)(c:v<aa m.AN)(h:0<=m.around v):m.ups v=m.around v::m.ups (m.around v):=by have b:=a.dep v d c;rw[ups,upsF,AA (by omega)]at b⊢;rw[CW]at b;rw[ups,Cw 64 1 _ (by omega)]
def BW.ind(a:m.BW){P:Int->Prop}(z:∀ v:Int,0<=v->v<aa m.AN->m.around v<0->P v)(s:∀ v:Int,0<=v->v<aa m.AN->0<=m.around v->m.around v<aa m.AN->P (m.around v)->P v){v:Int}(c:0<=v)(b:v<aa m.AN):P v:=by
 have g:∀ (n) (v:Int),0<=v->v<aa m.AN->aa (m.ups v)=n->P v:=by
  intro n
  induction n with
  |zero=>intro v c b d;rcases a.DA v c b with q|⟨e,f⟩;grind;rw[a.ups_cons c b e]at d;cases d
  |succ n ih=>intro v c b d;rcases a.DA v c b with q|⟨e,f⟩;grind;rw[a.ups_cons c b e,CW]at d;simp_all
 grind
def BW.ups_rng(a:m.BW){v:Int}(d:0<=v)(c:v<aa m.AN):∀ u∈m.ups v,0<=u/\u<aa m.AN/\aa (m.ups u)<aa (m.ups v):=by refine a.ind (P:=λv=>∀ u∈m.ups v,0<=u/\u<aa m.AN/\aa (m.ups u)<aa (m.ups v)) ?_ ?_ d c;intro v _ _ h u b;rw[KZ h]at b;cases b;intro v d c e f g u b;rw[a.ups_cons d c e]at b⊢;grind
def regU_nil{v s}(h:m.around v<0)(a:0<=s):m.regU v s = -1:=by rw[regU,KZ h,cB zG];rfl
def BW.regU_at{v s}(h:m.around v=s):m.regU v s=(m.vx v).region:=by rw[regU,cC zG]
def BW.regU_up(a:m.BW){v s:Int}(c:0<=v)(b:v<aa m.AN)(h:0<=m.around v)(d:m.around v≠s):m.regU v s=m.regU (m.around v) s:=by rw[regU,regU,a.ups_cons c b h,cB zG]
def BW.inB_up(a:m.BW){v s:Int}(c:0<=v)(b:v<aa m.AN)(h:0<=m.around v):m.inB v s=(m.around v==s||m.inB (m.around v) s):=by rw[inB,inB,a.ups_cons c b h,JR,BEq.comm]
def inB_nil{v s}(h:m.around v<0):m.inB v s=ab:=by rw[inB,KZ h];rfl
def BW.withinB_up(a:m.BW){v r:Int}(c:0<=v)(b:v<aa m.AN)(h:0<=m.around v):m.withinB v r=((m.vx v).region==r||m.withinB (m.around v) r):=by rw[withinB,withinB,a.ups_cons c b h,HR]
def withinB_nil{v r}(h:m.around v<0):m.withinB v r=((m.vx v).region==r):=by rw[withinB,KZ h,HR,TF,DZ]
def BW.regU_of(a:m.BW){v s u:Int}(f:0<=v)(e:v<aa m.AN)(l:0<=s)(b:u∈v::m.ups v)(h:m.around u=s):m.regU v s=(m.vx u).region:=by
 refine a.ind (P:=λv=>u∈v::m.ups v->m.regU v s=(m.vx u).region) ?_ ?_ f e b;intro v _ _ q b;rw[KZ q]at b;grind;intro v f e c g k b;rcases BY.1 b with rfl|b;exact BW.regU_at h;rw[a.ups_cons f e c]at b;by_cases i:m.around v=s;rw[i]at b c g;have d:0<=u/\u<aa m.AN:=by rcases BY.1 b with rfl|b;grind;have:=a.ups_rng c g u b;exact⟨this.1,this.2.1⟩
 have j:=a.ups_cons d.1 d.2 (by omega);rw[h]at j;have n:aa (m.ups s)<aa (m.ups u):=by rw[j];exact GH _
 rcases BY.1 b with rfl|b;omega;have:=(a.ups_rng c g u b).2.2;omega;rw[a.regU_up f e c i];exact k b
def fp{v s}(h:∀ u∈v::m.ups v,m.around u≠s):m.regU v s = -1:=by rw[regU,MG.2 (λu a=>by grind)]
def gw{p}[DecidablePred p]:∀ (l:List Nat) a,(∀ r∈l,¬p r)->l.foldl (fun(a:Int) (r:Nat)=>if p r then(r:Int)else a) a=a
 |[],a,_=>rfl|r::t,a,h=>by rw[QF,AA (h r (GA ..))];exact gw t a λx b=>h x (FR _ b)
def kg{p}[DecidablePred p]{k}:∀ (l:List Nat) (a:Int),(k∈l\/a=k)->p k->(∀ r∈l,p r->r=k)->l.foldl (fun(a:Int) (r:Nat)=>if p r then(r:Int)else a) a=k
 |[],a,h,_,_=>by grind
 |r::t,a,h,hk,hu=>by rw[QF];refine kg t _ ?_ hk λx b=>hu x (FR _ b);grind
def BW.regR_eq(a:m.BW){v s:Int}(l:0<=v)(j:v<aa m.AN)(n:0<=s):m.regR v s=m.regU v s:=by
 have chain:∀ u∈v::m.ups v,0<=u/\u<aa m.AN:=λu c=>by rcases BY.1 c with rfl|c;grind;have:=a.ups_rng l j u c;grind
 have h:∀ r:Nat,(m.ow (r:Int)=s/\m.withinB v (r:Int)=ad)->m.regU v s=(r:Int)/\∃ u∈v::m.ups v,m.around u=s/\(m.vx u).region=r:=by
  rintro r ⟨t,o⟩;rw[withinB,FX]at o;have⟨u,c,d⟩:=o;have d:(m.vx u).region=(r:Int):=by simpa using d
  have⟨g,f⟩:=chain u c;have i:(m.vx u).of<0:=by rcases TE _ 0 with q|q;exact q;have:=a.pt u g f q;omega
  have b:m.around u=s:=by rw[around,AA (by omega),d,t]
  exact⟨by rw[a.regU_of l j n c b,d],u,c,b,d⟩
 by_cases e:∃ u∈v::m.ups v,m.around u=s/\0<=(m.vx u).region;have⟨u,c,b,x⟩:=e;have⟨g,f⟩:=chain u c;have i:(m.vx u).of<0:=by rcases TE _ 0 with q|q;exact q;have:=a.pt u g f q;omega
 have⟨C,B⟩:=a.rg u g f i;rw[a.regU_of l j n c b];have p:((m.vx u).region.toNat:Int)=(m.vx u).region:=zo;have y:m.ow (m.vx u).region=s:=by rw[around,AA (by omega)]at b;exact b
 rw[regR,<- p];refine kg _ _ (.inl ?_) ?_ ?_;rw[DC];omega;rw[p];exact⟨y,by rw[withinB,FX];exact⟨u,c,by simp⟩⟩;intro r _ d;have A:=(h r d).1;rw[a.regU_of l j n c b]at A;omega;have z:m.regU v s = -1:=by by_cases h2:∃ u∈v::m.ups v,m.around u=s;have⟨u,c,b⟩:=h2;have⟨g,f⟩:=chain u c;rw[a.regU_of l j n c b];rcases TE _ 0 with q|q;exact absurd ⟨u,c,b,(a.rg u g f q).1⟩ e;exact a.pt u g f q;exact fp λu c b=>h2 ⟨u,c,b⟩
 rw[z,regR];refine gw _ _ λr _ d=>?_;have⟨_,u,c,b,w⟩:=h r d;exact e ⟨u,c,b,by omega⟩
def partU(m:PM)(l:iS):Bool:=(m.ups (l.headD 0)).any λs=>Tp [] (l.map (m.regU · s))
def partR(m:PM)(l:iS):Bool:=(aE (aa m.AN)).any λs=>Tp [] (l.map (m.regR · (s:Int)))
def BW.part_eq(a:m.BW){l:iS}(A:l≠[])(h:∀ v∈l,0<=v/\v<aa m.AN):m.partR l=m.partU l:=by
 obtain⟨v,t,rfl⟩:∃ v t,l=v::t:=by rcases l with _|⟨v,t⟩;grind;grind
 have⟨r,p⟩:=h v (GA ..);have e:∀ s,0<=s->(v::t).map _=(v::t).map (m.regU · s):=λs g=>
  FQ λu d=>a.regR_eq (h u d).1 (h u d).2 g
 rw[partR,partU,FW,FX,FX];constructor;rintro⟨s,g,f⟩;rw[e _ (DS _)]at f;refine⟨(s:Int),?_,f⟩;have o:0<=m.regU v (s:Int):=by rw[BI,Tp]at f;grind
 by_cases h2:∃ u∈v::m.ups v,m.around u=(s:Int);have⟨u,d,c⟩:=h2;have x:∀ w:Int,0<=w->w<aa m.AN->u∈w::m.ups w->(s:Int)∈m.ups w:=by intro w w0 i;refine a.ind (P:=λw=>u∈w::m.ups w->(s:Int)∈m.ups w) ?_ ?_ w0 i;intro w _ _ q b;rw[KZ q]at b;obtain rfl:=CP.1 b;omega;intro w w0 i k z n b;rw[a.ups_cons w0 i k]at b⊢;rcases BY.1 b with rfl|b;rw[c];exact GA ..;exact FR _ (n b)
 grind;rw[fp λu d c=>h2 ⟨u,d,c⟩]at o;omega;rintro⟨s,g,f⟩;have⟨j,y,_⟩:=a.ups_rng r p s g;refine⟨s.toNat,by rw[DC];omega,?_⟩;rw[show((s.toNat:Nat):Int)=s by omega,e _ j];exact f
end PM
def Ts:bS:=[97,114,103]
def ABu:bS:=[101,108,115,101]
def V0(s:bS):Bool:=s==[]||Tc s==2
def HJ(ev l:List bS):Bool:=(aE (aa l)).all λi=>ev.contains (l.getD i []) && !(l.take i).contains (l.getD i [])
def Wc(part most:Nat)(p:Nat->Bool)(n:Nat):Nat×Int×Int:=
 match(aE n).find? (λi=>i==most || !p i)with|none=>(0,0,0)|some i=>(part,(i:Int),if i=most then 3 else 130)
def Kg(a b:Nat×Int×Int):Nat×Int×Int:=if a.1≠0 then a else b
def Qd{part most p n}(h:∀ i,i<n->i≠most/\p i=ad):Wc part most p n=(0,0,0):=by
 rw[Wc,MG.2 (λi a=>by grind)]
def Vs{part most p n i}(hi:i<n)(h:∀ k,k<i->k≠most/\p k=ad)(a:i=most\/p i=ab):Wc part most p n=(part,(i:Int),if i=most then 3 else 130):=by
 have:(aE n).find? (λi=>i==most || !p i)=ae i:=by simp_all
 rw[Wc,this]
def Q8{part most p n}(b:part≠0)(h:(Wc part most p n).1=0):n<=most/\∀ i,i<n->p i=ad:=by rw[Wc]at h;rcases a:(aE n).find? (λi=>i==most || !p i) with _|i;have:=MG.1 a;refine⟨?_,λi c=>?_⟩;rcases GG _ n with q|q;have:=this most (DC.2 q);simp at this;exact q;grind;grind
def Dk{a b}(h:(Kg a b).1=0):a.1=0/\b.1=0:=by rw[Kg]at h;grind
namespace PM
variable(m:PM)
def stateB(v:Int):Bool:=decide (0<=v)&&decide (v<aa m.AN)&&((m.vx v).AD==1)
def nameAt(i:Nat):bS:=(m.vars.getD i ([],0)).1
def varB(i:Nat):Bool:=(Tc (m.nameAt i)==2) && !(m.nameAt i==Ts) && !((m.vars.take i).any λy=>y.1==m.nameAt i)
def signalB(i:Nat):Bool:=(Tc (m.BF.getD i [])==2) && !(m.BF.take i).contains (m.BF.getD i [])
def regionB(i:Nat):Bool:=V0 (m.AU.getD i ([],0)).1&&(if i=0 then m.ow 0 == -1 else m.stateB (m.ow i)&&(m.vx (m.ow i)).sub==[])
def liesB(x:VP):Bool:=if x.AD=10\/x.AD=11 then(x.region == -1)&&m.stateB x.of else(x.of == -1)&&decide (0<=x.region)&&decide (x.region<aa m.AU)
def vertexB(x:VP):Bool:=
 V0 x.name&&decide (1<=x.AD)&&decide (x.AD<=12)&&m.liesB x&&((x.entry==[]&&x.exit==[]&&decide (aa x.defers=0)&&x.sub==[])||x.AD==1)&&V0 x.sub &&
  decide (aa x.entry<=4096)&&decide (aa x.exit<=4096)&&HJ m.BF x.defers
def depth(v:Int):Nat:=aa (m.ups v)
def deepB(i:Nat):Bool:=decide (m.depth i<=64)
def inV(v:Int):Bool:=decide (0<=v)&&decide (v<aa m.AN)
def wayB(x:WP):Bool:=
 V0 x.name&&m.inV x.AV&&m.inV x.target&&HJ m.BF x.C_&&decide (0<=x.after)&&decide (x.after<=65535)&&(x.after==0||decide (aa x.C_=0)) &&
  decide (1<=x.AD)&&decide (x.AD<=3)&&decide (aa x.guard<=4096)&&decide (aa x.DT<=4096)
def ruleF(k:Nat):Nat×Int×Int:=
 match k with|0=>if Tc m.name=2 then(0,0,0)else(1,0,130)|1=>Wc 2 64 m.varB (aa m.vars)|2=>Wc 3 64 m.signalB (aa m.BF)|3=>if m.AU=[]then(4,0,130)else Wc 4 512 m.regionB (aa m.AU)|4=>Wc 5 512 (λi=>m.vertexB (m.vx i)) (aa m.AN)|5=>Wc 5 512 m.deepB (aa m.AN)|_=>Wc 6 512 (λi=>m.wayB (m.wy i)) (aa m.AE)
def rightP:Nat×Int×Int:=Kg (m.ruleF 0) (Kg (m.ruleF 1) (Kg (m.ruleF 2) (Kg (m.ruleF 3) (Kg (m.ruleF 4) (Kg (m.ruleF 5) (m.ruleF 6))))))
structure FB:Prop where
 rnz:m.AU≠[]
 lD:∀ i,i<aa m.AU->m.regionB i=ad
 lL:∀ i,i<aa m.AN->m.vertexB (m.vx i)=ad
structure Rt:Prop extends FB m where
 nm:Tc m.name=2
 var:∀ i,i<aa m.vars->m.varB i=ad
 sig:∀ i,i<aa m.BF->m.signalB i=ad
 deep:∀ i,i<aa m.AN->m.depth i<=64
 SU:∀ i,i<aa m.AE->m.wayB (m.wy i)=ad
 lv:aa m.vars<=64
 le:aa m.BF<=64
 lr:aa m.AU<=512
 lx:aa m.AN<=512
 lw:aa m.AE<=512
variable{m}
def rt_vt(a:(m.ruleF 3).1=0)(b:(m.ruleF 4).1=0):m.FB:=by have a:(if m.AU=[]then((4,0,130):Nat×Int×Int)else Wc 4 _ _ _).1=0:=a;by_cases h:m.AU=[];grind;rw[AA h]at a;exact⟨h,(Q8 zd a).2,(Q8 zd b).2⟩
def rt_of(h:(m.rightP).1=0):m.Rt:=by
 have⟨b,h⟩:=Dk h;have⟨n,h⟩:=Dk h;have⟨h2,h⟩:=Dk h;have⟨a,h⟩:=Dk h;have⟨d,h⟩:=Dk h;have⟨l,k⟩:=Dk h;have c:=rt_vt a d;have g:=Q8 zd (show(Wc 2 64 m.varB (aa m.vars)).1=0 from n);have f:=Q8 zd (show(Wc 3 64 m.signalB (aa m.BF)).1=0 from h2);have a:(if m.AU=[]then((4,0,130):Nat×Int×Int)else Wc 4 _ _ _).1=0:=a;rw[AA c.rnz]at a;have q:=Q8 zd a;have p:=Q8 zd (show(Wc 5 512 (λi=>m.vertexB (m.vx i)) (aa m.AN)).1=0 from d);have o:=Q8 zd (show(Wc 5 512 m.deepB (aa m.AN)).1=0 from l);have e:=Q8 zd (show(Wc 6 512 (λi=>m.wayB (m.wy i)) (aa m.AE)).1=0 from k);have b:(if Tc _=2 then((0,0,0):Nat×Int×Int)else(1,0,130)).1=0:=b;have b:Tc m.name=2:=by grind
 exact⟨c,b,g.2,f.2,λi j=>by simpa[deepB]using o.2 i j,e.2,g.1,f.1,q.1,p.1,e.1⟩
def Oc(k):(m.ruleF k).2.2=0↔(m.ruleF k).1=0:=by
 have s:∀ {a b} {p} {n},a≠0->((Wc a b p n).2.2=0↔(Wc a b p n).1=0):=by intro a b p n c;rw[Wc];grind
 match k with|0=>show(if Tc _=2 then((0,0,0):Nat×Int×Int)else(1,0,130)).2.2=0↔(if Tc _=2 then((0,0,0):Nat×Int×Int)else(1,0,130)).1=0;split<;>simp|1=>exact s zd|2=>exact s zd|3=>show(if m.AU=[]then((4,0,130):Nat×Int×Int)else Wc 4 _ _ _).2.2=0↔(if m.AU=[]then((4,0,130):Nat×Int×Int)else Wc 4 _ _ _).1=0;grind|4=>exact s zd|5=>exact s zd|k+6=>exact s zd
def Dl{a b}(ha:a.2.2=0↔a.1=0)(c:b.2.2=0↔b.1=0):(Kg a b).2.2=0↔(Kg a b).1=0:=by rw[Kg];grind
def right_er:(m.rightP).2.2=0↔(m.rightP).1=0:=
 Dl (Oc 0) (Dl (Oc 1) (Dl (Oc 2) (Dl (Oc 3) (Dl (Oc 4) (Dl (Oc 5) (Oc 6))))))
def FB.vert(h:m.FB){v:Int}(b:0<=v)(a:v<aa m.AN):m.vertexB (m.vx v)=ad:=by have:=h.lL v.toNat (by omega);grind
def FB.lies(h:m.FB){v:Int}(b:0<=v)(a:v<aa m.AN):m.liesB (m.vx v)=ad:=by have:=h.vert b a;simp only[vertexB,BP]at this;grind
def FB.pt(h:m.FB){v:Int}(d:0<=v)(c:v<aa m.AN):(0<=(m.vx v).of/\(m.vx v).of<aa m.AN/\(m.vx v).region = -1/\m.stateB (m.vx v).of=ad/\((m.vx v).AD=10\/(m.vx v).AD=11)) \/
  ((m.vx v).of = -1/\0<=(m.vx v).region/\(m.vx v).region<aa m.AU/\¬((m.vx v).AD=10\/(m.vx v).AD=11)):=by
 have:=h.lies d c;rw[liesB]at this;split at this;rename_i q;left;have b:m.stateB (m.vx v).of=ad:=zG;have a:=b;simp only[stateB,BP,CM,CX]at a this;grind;grind
def FB.own(h:m.FB){r:Int}(b:0<=r)(a:r<aa m.AU):(r=0/\m.ow r = -1)\/(r≠0/\0<=m.ow r/\m.ow r<aa m.AN):=by have:=h.lD r.toNat (by omega);simp only[regionB,BP]at this;have h2:=this.2;split at h2;grind;simp only[stateB,BP,CM]at h2;grind
def FB.DA(h:m.FB){v:Int}(e:0<=v)(d:v<aa m.AN):m.around v = -1\/(0<=m.around v/\m.around v<aa m.AN):=by rw[around];rcases h.pt e d with ⟨a,b,_⟩|⟨a,b,c,_⟩;grind;rw[AA (by omega)];rcases h.own b c with ⟨_,q⟩|⟨_,q⟩;grind;grind
def Rt.FC(h:m.Rt):m.BW:=
 ⟨λv d c=>h.toFB.DA d c,λv d c=>by have:=h.deep v.toNat (by omega);rwa [show((v.toNat:Nat):Int)=v by omega]at this,
 λv d c q=>by rcases h.toFB.pt d c with ⟨_,_,a,_⟩|⟨a,_⟩;exact a;omega,
 λv d c q=>by rcases h.toFB.pt d c with ⟨a,_⟩|⟨_,a,b,_⟩;omega;grind⟩
end PM
def Uy(s:bS):Bool:=(Yr s).2.2==0&&aa (Yr s).1==1&&(X6 (Yr s).1 0==ABu)
namespace PM
variable(m:PM)(bd:List bS->List bS->bS->Bool)(gd:List bS->bS->Int)
def inc(v:Int):iS:=(m.AE.filter λt=>t.target==v).map (·.AV)
def out(v:Int):iS:=(m.AE.filter λt=>t.AV==v).map (·.target)
def vn:List bS:=m.vars.map (·.1)
def kd(v:Int):Int:=(m.vx v).AD
def body(s:bS):Bool:=bd m.vn m.BF s
def k1(r:Int):Bool:=aa (m.AN.filter λx=>x.AD==3&&x.region==r)==1
def k2(v:Int):Bool:=!(m.kd v==3)||(aa (m.out v)==1&&m.withinB ((m.out v).headD 0) (m.vx v).region&&aa (m.inc v)==0)
def k3(v:Int):Bool:=!(m.kd v==2||m.kd v==12)||aa (m.out v)==0
def k4(v:Int):Bool:=!(m.kd v==6)||(aa (m.inc v)==1&&decide (1<aa (m.out v))&&m.partU (m.out v))
def k5(v:Int):Bool:=!(m.kd v==7)||(aa (m.out v)==1&&decide (1<aa (m.inc v))&&((m.inc v).all λu=>m.kd u==1)&&m.partU (m.inc v))
def elses(v:Int):Nat:=aa (m.AE.filter λt=>t.AV==v&&Uy t.guard)
def k6(v:Int):Bool:=!(m.kd v==4||m.kd v==5)||(decide (0<aa (m.inc v))&&decide (0<aa (m.out v))&&decide (m.elses v<=1))
def twins(v:Int):Nat:=aa (m.AN.filter λy=>y.AD==m.kd v&&y.region==(m.vx v).region)
def k7(v:Int):Bool:=!(m.kd v==8||m.kd v==9) ||
 (!((m.vx v).region==0)&&m.twins v==1&&decide (aa (m.out v)<=1)&&(aa (m.out v)==0||m.withinB ((m.out v).headD 0) (m.vx v).region))
def k8(v:Int):Bool:=if m.kd v=11 then aa (m.out v)==1 && !m.inB ((m.out v).headD 0) (m.vx v).of
 else if m.kd v=10 then Tp [] ((m.out v).map (m.regU · (m.vx v).of))&&decide (0<aa (m.out v))else ad
def k9(t:Int):Bool:=(aa (m.wy t).C_==0&&(m.wy t).after==0)||m.kd (m.wy t).AV==1
def k10(t:Int):Bool:=((m.kd (m.wy t).AV==4||m.kd (m.wy t).AV==5)&&Uy (m.wy t).guard) ||
 (gd (m.vn++[Ts]) (m.wy t).guard==0&&(aa (Yr (m.wy t).guard).1==0||m.kd (m.wy t).AV==1||m.kd (m.wy t).AV==4||m.kd (m.wy t).AV==5))
def k11(t:Int):Bool:=if(m.wy t).AD=3 then(m.wy t).AV==(m.wy t).target&&m.kd (m.wy t).AV==1
 else if(m.wy t).AD=2 then m.kd (m.wy t).AV==1&&m.inB (m.wy t).target (m.wy t).AV else ad
def k12(t:Int):Bool:=m.body bd (m.wy t).DT
def k13(v:Int):Bool:=!(m.kd v==1)||(m.body bd (m.vx v).entry&&m.body bd (m.vx v).exit)
def k14(t:Int):Bool:=!m.partU [(m.wy t).AV,(m.wy t).target]
def k15(t:Int):Bool:=if m.kd (m.wy t).target=10 then !((m.wy t).AV==(m.vx (m.wy t).target).of) && !m.inB (m.wy t).AV (m.vx (m.wy t).target).of
 else if m.kd (m.wy t).target=11 then m.inB (m.wy t).AV (m.vx (m.wy t).target).of && !((m.vx (m.wy t).AV).of==(m.vx (m.wy t).target).of)else ad
def keep(rule:Nat)(BD:Int):Bool:=
 match rule with|1=>m.k1 BD|2=>m.k2 BD|3=>m.k3 BD|4=>m.k4 BD|5=>m.k5 BD|6=>m.k6 BD|7=>m.k7 BD|8=>m.k8 BD|9=>m.k9 BD|10=>m.k10 gd BD|11=>m.k11 BD|12=>m.k12 bd BD|13=>m.k13 bd BD|14=>m.k14 BD|15=>m.k15 BD|_=>ab
def places(rule:Nat):Nat:=if rule=1 then aa m.AU else if rule<=8\/rule=13 then aa m.AN else aa m.AE
def badAt(rule n:Nat):List (Nat×Int):=((aE n).filter fun(a:Nat) => !m.keep bd gd rule (a:Int)).map fun(a:Nat)=>(rule,(a:Int))
def badL(k:Nat):List (Nat×Int):=(aE k).flatMap λr=>m.badAt bd gd (r+1) (m.places (r+1))
def checkW:List (Nat×Int)×Int:=if(m.rightP).2.2≠0 then([],(m.rightP).2.2)else(m.badL bd gd 15,0)
variable{m bd gd}
def badAt_succ(rule n):m.badAt bd gd rule (n+1)=m.badAt bd gd rule n++(if m.keep bd gd rule (n:Int)=ad then[]else[(rule,(n:Int))]):=by rw[badAt,HW,HH,DL];by_cases h:m.keep bd gd rule (n:Int)=ad;rw[AF h,JG zG];rfl;rw[AA h,KH zG];rfl
def badL_succ(k):m.badL bd gd (k+1)=m.badL bd gd k++m.badAt bd gd (k+1) (m.places (k+1)):=by rw[badL,HW,HU,badL,List.flatMap_singleton]
def badAt_len(rule n):(m.badAt bd gd rule n).length<=n:=by rw[badAt,BC];grind
end PM
end
open Go.Proofs
set_option maxHeartbeats 1000000
set_option maxRecDepth 10000
structure FK where
 name:bS
 AD:Int
 region:Int
 of:Int
 entry:bS
 exit:bS
 defers:Sl bS
 sub:bS
structure FZ where
 name:bS
 AV:Int
 target:Int
 C_:Sl bS
 after:Int
 guard:bS
 DT:bS
 AD:Int
structure BR where
 name:bS
 vars:Sl (bS×Int)
 BF:Sl bS
 AU:Sl (bS×Int)
 AL:Sl FK
 AE:Sl FZ
def FK.p(x:FK):VP:=⟨x.name,x.AD,x.region,x.of,x.entry,x.exit,x.defers.l,x.sub⟩
def FZ.p(x:FZ):WP:=⟨x.name,x.AV,x.target,x.C_.l,x.after,x.guard,x.DT,x.AD⟩
def BR.p(m:BR):PM:=⟨m.name,m.vars.l,m.BF.l,m.AU.l,m.AL.l.map FK.p,m.AE.l.map FZ.p⟩
def Yw(p:bS×Int):V:=.agg [.AB p.1,qI p.2]
def Xj(p):Yw p=.agg [.AB p.1,qI p.2]:=rfl
def J7(p):(Yw p).cells.length=2:=rfl
def Y6(c:AH)(x:FK):V:=.agg [x.name,.int .u8 x.AD,x.region,x.of,x.entry,x.exit,Za c 1 V.AB x.defers,x.sub]
def Zp(c x):Y6 c x=.agg [x.name,.int .u8 x.AD,x.region,x.of,x.entry,x.exit,Za c 1 V.AB x.defers,x.sub]:=rfl
def Ah(c x):(Y6 c x).cells.length=8:=rfl
def Xo(c:AH)(x:FZ):V:=.agg [x.name,x.AV,x.target,Za c 1 V.AB x.C_,x.after,x.guard,x.DT,.int .u8 x.AD]
def Z6(c x):Xo c x=.agg [x.name,x.AV,x.target,Za c 1 V.AB x.C_,x.after,x.guard,x.DT,.int .u8 x.AD]:=rfl
def Aj(c x):(Xo c x).cells.length=8:=rfl
def Zw(c d:AH)(m:BR):V:=.agg [m.name,Za c 2 Yw m.vars,Za c 1 V.AB m.BF,Za c 2 Yw m.AU,Za c 8 (Y6 d) m.AL,Za c 8 (Xo d) m.AE]
def Zj(c d m):Zw c d m=.agg [m.name,Za c 2 Yw m.vars,Za c 1 V.AB m.BF,Za c 2 Yw m.AU,Za c 8 (Y6 d) m.AL,Za c 8 (Xo d) m.AE]:=rfl
def N2(g c s):(Za c 2 Yw s).recol g=Za (g c) 2 Yw s:=Xz g c 2 (λp=>by simp only[Xj,X9,BI,BV,Xr,Ua]) s
def Fp(g c x):(Y6 c x).recol g=Y6 (g c) x:=by simp only[Zp,X9,BI,BV,Xr,Ua,Ui]
def Fq(g c x):(Xo c x).recol g=Xo (g c) x:=by simp only[Z6,X9,BI,BV,Xr,Ua,Ui]
def N1(g c d s):(Za c 8 (Y6 d) s).recol g=Za (g c) 8 (Y6 (g d)) s:=Xz g c 8 (Fp g d) s
def N3(g c d s):(Za c 8 (Xo d) s).recol g=Za (g c) 8 (Xo (g d)) s:=Xz g c 8 (Fq g d) s
def Kz(g c d m):(Zw c d m).recol g=Zw (g c) (g d) m:=by simp only[Zj,X9,BI,BV,Ua,Ui,N2,N1,N3]
attribute[go_sem]N2 Fp Fq N1 N3 Kz
def Rj{m:BR}{k:Nat}{x}(h:m.AL.l[k]?=ae x):m.p.vx (k:Int)=x.p:=by show(m.AL.l.map _).getD _ _=_;rw[DK,ED,GZ,h]<;>rfl
def Ri{m:BR}{k:Nat}{x}(h:m.AE.l[k]?=ae x):m.p.wy (k:Int)=x.p:=by show(m.AE.l.map _).getD _ _=_;rw[DK,ED,GZ,h]<;>rfl
def Mr{m:BR}{k:Nat}{r}(h:m.AU.l[k]?=ae r):m.p.ow (k:Int)=r.2:=by show(m.AU.l.getD _ _).2=_;rw[DK,GZ,h]<;>rfl
def BR.nv(m:BR):aa m.p.AN=aa m.AL.l:=BC ..
def BR.nw(m:BR):aa m.p.AE=aa m.AE.l:=BC ..
def BR.at{m:BR}{v:Int}(c:0<=v)(b:v<aa m.p.AN):∃ (k:Nat) (x:FK),v=(k:Int)/\k<aa m.AL.l/\m.AL.l[k]?=ae x/\m.p.vx v=x.p:=by
 rw[m.nv]at b;have a:v.toNat<aa m.AL.l:=zo;have e:v=((v.toNat:Nat):Int):=zo;refine⟨v.toNat,_,e,a,AY a,?_⟩
 conv=>lhs;rw[e]
 exact Rj (AY a)
abbrev EH:=@BR.at
def Ov{m:BR}{v:Int}(c:0<=v)(b:v<aa m.p.AU):∃ (k:Nat) (x:bS×Int),v=(k:Int)/\k<aa m.AU.l/\m.AU.l[k]?=ae x/\m.p.ow v=x.2:=by
 have b:v<aa m.AU.l:=b;have a:v.toNat<aa m.AU.l:=zo;have e:v=((v.toNat:Nat):Int):=zo;refine⟨v.toNat,_,e,a,AY a,?_⟩
 conv=>lhs;rw[e]
 exact Mr (AY a)
def BR.wyAt{m:BR}{v:Int}(c:0<=v)(b:v<aa m.p.AE):∃ (k:Nat) (x:FZ),v=(k:Int)/\k<aa m.AE.l/\m.AE.l[k]?=ae x/\m.p.wy v=x.p:=by
 rw[m.nw]at b;have a:v.toNat<aa m.AE.l:=zo;have e:v=((v.toNat:Nat):Int):=zo;refine⟨v.toNat,_,e,a,AY a,?_⟩
 conv=>lhs;rw[e]
 exact Ri (AY a)
abbrev KL:=@BR.wyAt
def F6(G)(B:Yy G)(c d m)(u:m.p.FB)(v:Int)(l:0<=v)(j:v<m.p.AN.length):Spec () G 202 [Zw c d m,v] Zm (m.p.around v):=by refine Zo 0 27 _ func202 λX=>?_;have a:=u.pt l j;obtain⟨k,x,rfl,z,A,t⟩:=EH l j;rw[PM.around];rw[t]at a⊢;simp only[Zj];have f:=j4 A z Zp Ya;refine Z ?_;intro D;refine Zf f ?_;intro C;by_cases i:0<=x.of;have q:=zU _;refine Zf (zi f q) ?_;rw[AF (show 0<=x.p.of from i)]<;>rfl;have q:=zV _;have⟨_,o,n,_⟩:=a.resolve_left (λh=>i h.1);have⟨r,y,g,b,e,s⟩:=Ov o n;rw[AA (show ¬0<=x.p.of from i),s];have g:x.region=(r:Int):=g;refine Zf q ?_;refine Pr (j5 f g e b Xj) B ?_;exact Zr
def gS(G)(e:Yy G)(c):Spec () G 219 [.int .u8 c.toNat] Zm (Yz c):=by
 refine Zo 0 9 _ func219 λX=>?_;have b:Yz c=(decide ((c.toNat:Int)>=48)&&decide ((c.toNat:Int)<=57)):=by unfold Yz;congr 1;rw[EB];omega;rw[EB];omega
 rw[b];refine Zk λK a=>CA zk ?_;refine Zs ?_;refine a _ ?_
 try clear a K
 cases d:decide ((c.toNat:Int)>=48)<;>cases h2:decide ((c.toNat:Int)<=57)<;>((refine Zk λK a=>CA zk ?_;simp -implicitDefEqProofs only[go_sem,seval,d,h2];refine a _ ?_;clear a K);(refine FU ?_;refine Zs ?_;refine Yk ?_);rfl)
def fw(G)(h:Yy G)(c):Spec () G 218 [.int .u8 c.toNat] Zm (S1 c):=by
 refine Zo 0 21 _ func218 λX=>?_;have b:S1 c=((decide ((c.toNat:Int)>=65)&&decide ((c.toNat:Int)<=90)||(decide ((c.toNat:Int)>=97)&&decide ((c.toNat:Int)<=122)))||c==95):=by have:=RE (λc=>S1 c==((decide ((c.toNat:Int)>=65)&&decide ((c.toNat:Int)<=90)||(decide ((c.toNat:Int)>=97)&&decide ((c.toNat:Int)<=122)))||c==95)) (by decide +kernel) c;simpa using this
 rw[b];refine Zk λK a=>CA zk ?_;refine Zs ?_;refine a _ ?_
 try clear a K
 cases g:decide ((c.toNat:Int)>=65)<;>cases h2:decide ((c.toNat:Int)<=90)<;>cases f:decide ((c.toNat:Int)>=97)<;>cases e:decide ((c.toNat:Int)<=122)<;>cases d:(c==95)<;>((refine Zk λK a=>CA zk ?_;simp -implicitDefEqProofs only[go_sem,seval,UW,g,h2,f,e,d];refine a _ ?_;clear a K);(refine FU ?_;refine Zs ?_;refine Yk ?_);rfl)
def AAC(G)(q:Yy G)(s:bS)(p:s.length<1000000)(i)(hi:i<=s.length):Spec () G 247 [s,i] Zm (Xa [45,45] (s.drop i)):=by
 refine Zo 0 23 _ func247 λX=>?_;have f:qN ((i:Int)+1)=((i+1:Nat):Int):=by rw[Xi zo zo];omega
 refine Zk λK c=>CA zk ?_;refine Zs ?_;refine c _ ?_
 try clear c K
 by_cases h:i+1<aa s;have e:=zU (((i+1:Nat):Int)<aa s);have j:=Ip (l:=s) (k:=i) zo;have g:=Ip h;have d:s.drop i=s[i]::s[i+1]::s.drop (i+2):=by rw[FL zo,FL h]
 generalize s[i]=a at j d;generalize s[i+1]=b at g d;rw[d,Wr,Wr,Tz];rw[show((45:UInt8)==a)=(a==45)from Bool.beq_comm,show((45:UInt8)==b)=(b==45)from Bool.beq_comm];cases o:(a==45)<;>cases n:(b==45)<;>((refine Zk λK c=>CA zk ?_;refine Xc (j7 f e j g @AC2 o n) ?_;refine c _ ?_;clear c K);(refine FU ?_;refine Zs ?_;refine Yk ?_);rfl)
 .have e:=zV (((i+1:Nat):Int)<aa s);have:Xa [45,45] (s.drop i)=ab:=by rw[FV];intro m;have:=(Oh m).2;rw[EJ]at this;omega
  rw[this];refine Zk λK c=>CA zk ?_;refine Xc (zi f e) ?_;refine c _ ?_
  try clear c K
  exact Zr
def Bc(G)(D:Yy G)(s:bS)(J:s.length<1000000)(i)(hi:i<=s.length):Spec () G 225 [s,i] Zm (λv _=>v=qI ((i+blk (s.drop i):Nat):Int)):=by
 refine Zo 0 52 _ func225 λX=>?_;refine Z1 ?_;refine Zz ?_;refine BK ?_;refine Xw [0] [] (fun(k:Nat)=>[(1,k)]) (λ_=>[]) (λk=>k<=aa s/\i+blk (s.drop i)=k+blk (s.drop k)) (λk=>aa s-k) i ⟨hi,rfl⟩ zp zp ?_;rintro k ⟨B,a⟩ N e;refine Z1 ?_;refine Zi rfl (λy=>?_) (λy=>?_);have d:=zu y;have I:=Ip d;have t:=FL d;generalize s[k]=c at I t;refine Z0 ?_;refine BK ?_;refine BK ?_;have u:Su c=(c==9||c==10||c==13||c==32):=by have:=RE (λc=>Su c==(c==9||c==10||c==13||c==32)) (by decide +kernel) c;simpa using this
 refine Yt (fun(_:Unit)=>st [(0,s),(1,k),(10,(Su c))] []) (λ_=>True) (λK5 f=>?_) ?_;rw[u]at f;cases H:(c==9)<;>cases h2:(c==10)<;>cases F:(c==13)<;>cases E:(c==32)<;>(rw[H,h2,F,E]at f;refine CA zk ?_;simp -implicitDefEqProofs only[go_sem,seval,I,AC3,UX,Q_,QY,H,h2,F,E];exact f _ () trivial qs);intro _ _;refine Zi rfl (λx=>?_) (λx=>?_);rw[t,UB x]at a;refine Z1 ?_;refine e _ ⟨k+1,zo,⟨zo,zo⟩,AO (by refine Zs ?_;exact BU _ (by rw[Xi zo zo];omega)) zp⟩;refine Z1 ?_;refine Zc D ?_ (s:=(AAC G D s J k B));refine Zi rfl (λn=>?_) (λn=>?_);rw[Av n,NM]at a;have K:=Qy Ox (s.drop k);have h2:=Oh n;rw[EJ]at K;refine BK ?_;refine Xw [0] [] (fun(j:Nat)=>[(1,j)]) (λ_=>[]) (λj=>j<=aa s/\k<=j/\k+Wu Ox (s.drop k)=j+Wu Ox (s.drop j)) (λj=>aa s-j) k ⟨B,BO _,rfl⟩ zp zp ?_;rintro j ⟨C,L,h⟩ M w;refine Zz ?_;by_cases l:j<aa s
 .have q:=zU ((j:Int)<aa s);have A:=Ip l;have m:=FL l;generalize s[j]=b at A m;rw[m,Ib]at h;cases p:(b==10);refine Wo zk ?_;simp -implicitDefEqProofs only[go_sem,seval,q,A,bne,UX,p];refine Zi rfl (λo=>?_) (λo=>?_);have:Ox b=ad:=by unfold Ox;rw[p]<;>rfl
  rw[this,AF rfl]at h;refine Z1 ?_;refine w _ ⟨j+1,zo,⟨zo,zo,zo⟩,AO (by refine Zs ?_;exact BU _ (by rw[Xi zo zo];omega)) zp⟩;cases o;refine Wo zk ?_;simp -implicitDefEqProofs only[go_sem,seval,q,A,bne,UX,p];refine Xh rfl ?_;refine Z0 ?_;have:Ox b=ab:=by unfold Ox;rw[p]<;>rfl
  rw[this,AA zS]at h;refine e _ ⟨j,zo,⟨C,by have g:k+Wu Ox (s.drop k)=j:=h;rw[a,g];omega⟩,AO zp zp⟩
 have q:=zV ((j:Int)<aa s);have r:j=aa s:=zo;refine Ym q ?_;refine Xh rfl ?_;refine Z0 ?_;have z:s.drop j=[]:=by rw[r,NN]
 rw[z]at h;refine e _ ⟨j,zo,⟨C,by have g:k+Wu Ox (s.drop k)=j:=h;rw[a,g];omega⟩,AO zp zp⟩;rw[t]at n a;rw[UA x n]at a;refine Z ?_;rw[a]<;>rfl;have d:=zu y;refine Z ?_;have z:=HT zo;rw[a,z]<;>rfl
def Bd(G)(p:Yy G)(c)(t:bS)(s)(n:s.l.length<1000000):Spec () G 217 [t,Za c 1 V.AB s] Zm (s.l.contains t):=by
 refine Zo 0 18 [.tmp 4] func217 λX=>?_;refine Z1 ?_;refine Z1 ?_;refine BK ?_;refine Z8 [0,1] [] (aa s.l) (λk  _=>[(5,k)]) (λ_ _=>[]) (λk _=>(s.l.take k).contains t=ab) 0 () qz rfl zp zp ?_;intro k _ o f q g;refine Z1 ?_;refine Zi rfl (λi=>?_) (λi=>?_);have a:=zu i;have j:=AY a;have e:s.l.take (k+1)=s.l.take k++[s.l[k]]:=by rw[DO a]
 have b:=BT a;generalize s.l[k]=x at j e b;refine Ym j ?_;refine Zi rfl (λd=>?_) (λd=>?_);have d:=zu d;refine Z ?_;have:s.l.contains t=ad:=by rw[<- d];simpa using b
 rw[this];have d:=zu d;refine Z1 ?_;refine g _ ⟨a,(),?_,AO zw zp⟩;rw[e];simp only[NL,IL]at f⊢;intro m;rcases DX.1 m with h|h;exact f h;exact d ((CP.1 h).symm);have a:k=aa s.l:=by simp at i;omega
 refine Z ?_;rw[a,B_]at f;rw[f]
def K5(G)(d:Yy G)(s)(K:s.length<1000000000000000):Spec () G 188 [.AB s] Zm (λv _=>v=.int .u8 (Vr s)):=by
 refine Zo 0 45 _ func188 λX=>?_;have D:signsL.contains s=ad->Vr s=4:=λh=>by unfold Vr;rw[AF h]
 have C:signsL.contains s=ab->wordsL.contains s=ad->Vr s=3:=λh h2=>by unfold Vr;rw[AA (by rw[h];simp),AF h2]
 have B:∀ c r,s=c::r->signsL.contains s=ab->wordsL.contains s=ab->Vr s=if s.all Yz then 1 else if S1 c&&s.all Vt then 2 else 0:=by rintro c r rfl h h2;unfold Vr;rw[AA (by rw[h];simp),AA (by rw[h2];simp)]
 refine Z1 ?_;refine Z1 ?_;intro g;refine EZ d [.AB s,Za .old 1 V.AB (.mk ab signsL)] zk ⟨Xg (.AB _) rfl,LO (off:=0) (l:=signsL) (f:=V.AB) (f':=V.AB) zp BE (λx y t=>by simp[V.cells]at t;subst t;exact .AB _) BE zd,AJ⟩ ?_;refine(Bd G d _ s (.mk ab signsL) zd).mono ?_;rintro _ _ rfl;refine⟨.bool _,?_⟩;refine Zs ?_;refine Zi rfl (λh2=>?_) (λh2=>?_);refine Z ?_;rw[D h2]<;>rfl;refine Z1 ?_;intro g;refine EZ d [.AB s,Za .old 1 V.AB (.mk ab wordsL)] zk ⟨Xg (.AB _) rfl,LO (off:=0) (n:=14) (l:=wordsL) (f:=V.AB) (f':=V.AB) zp BE (λx y t=>by simp[V.cells]at t;subst t;exact .AB _) BE zd,AJ⟩ ?_;refine(Bd G d _ s (.mk ab wordsL) zd).mono ?_;rintro _ _ rfl;refine⟨.bool _,?_⟩;refine Zs ?_;refine Zi rfl (λE=>?_) (λE=>?_);refine Z ?_;rw[C h2 E]<;>rfl;refine Z0 ?_;refine Zz ?_;rcases s with _|⟨c,r⟩;refine Z1 ?_;refine Zi rfl (λI=>?_) (λI=>?_);exact Zr;cases I;have A:=B c r rfl h2 E;refine Z1 ?_;refine Z1 ?_;refine Z1 ?_;refine Zc d ?_ (s:=(fw G d c));refine Zk λK7 z=>?_;refine Z1 ?_;refine BK ?_;generalize J:c::r=s at K A z⊢;refine Z8 [0] [] (aa s) (λk (_:Unit)=>[(3,.bool ((s.take k).all Yz)),(4,.bool (S1 c&&(s.take k).all Vt)),(5,.int .i64 k)]) (λ_ _=>[]) (λk _=>True) 0 () qz trivial (by refine Zs ?_;rw[List.all_nil,List.all_nil,IX];exact⟨rfl,rfl⟩) zp ?_;intro k _ L M N j;refine Z1 ?_;refine Zi rfl (λo=>?_) (λo=>?_)
 .have b:k<aa s:=zu o;have q:=Ip b;have u:s.take (k+1)=s.take k++[s[k]]:=by rw[DO b]
  generalize s[k]=x at q u;refine Z0 ?_;refine Zz ?_;refine BK ?_;have H:∀ p:UInt8->Bool,(s.take (k+1)).all p=((s.take k).all p&&p x):=λp=>by rw[u,LF];simp
  refine Yt (fun(_:Unit)=>st [(0,.AB s),(3,.bool ((s.take (k+1)).all Yz)),(4,.bool (S1 c&&(s.take k).all Vt)),(5,.int .i64 k)] []) (λ_=>True) (λF a=>?_) ?_
  .rw[H Yz]at a;cases i:(s.take k).all Yz;refine Ym (zi q i) ?_;exact a _ () trivial (AO (Vw i) zp);refine Ym (zi q i) ?_;refine Zc d ?_ (s:=(gS G d x));exact a _ () trivial (AO (by refine Xc i ?_;cases Yz x<;>rfl) zp)
  intro _ _;have w:(S1 c&&(s.take (k+1)).all Vt)=((S1 c&&(s.take k).all Vt)&&(S1 x||Yz x)):=by rw[H Vt,<- Bool.and_assoc]<;>rfl
  cases i:(S1 c&&(s.take k).all Vt);rw[i,EG]at w;refine Ym (zi q i) ?_;refine Z1 ?_;refine j _ ⟨b,(),AJ,AO (by rw[w];simp -implicitDefEqProofs only[go_sem,seval];try exact BU _ (Xi zo zo)) zp⟩;rw[i,DJ]at w;refine Ym (zi q i) ?_;refine Zn d ?_ (s:=(fw G d x));cases h2:S1 x;refine Xc (zi q h2) ?_;refine Zc d ?_ (s:=(gS G d x));refine Z1 ?_;refine j _ ⟨b,(),AJ,AO (by rw[w,h2];refine Zs ?_;cases Yz x<;>exact⟨rfl,BU _ (Xi zo zo)⟩) zp⟩;refine Xc h2 ?_;refine Z1 ?_;refine j _ ⟨b,(),AJ,AO (by rw[w,h2];refine Zs ?_;exact⟨rfl,BU _ (Xi zo zo)⟩) zp⟩
 have b:k=aa s:=by simp at o;omega
 rw[b,B_];refine Z0 ?_;refine z _ ?_;refine Zk λF a=>?_;refine Z1 ?_;refine Zi rfl (λe=>?_) (λe=>?_);refine Z ?_;rw[A,AF e]<;>rfl;refine Z0 ?_;refine a _ ?_;refine Z1 ?_;refine Zi rfl (λm=>?_) (λm=>?_);refine Z ?_;rw[A,AA (by rw[e];simp),AF m];rfl;refine Z ?_;rw[A,AA (by rw[e];simp),AA (by rw[m];simp)];rfl
def Of(G)(a:Yy G)(s:bS)(b:s.length<1000000000000000):Spec () G 119 [s] Zm (V.int .u8 (Tc s)):=by
 refine Zo 0 8 [.tmp 2] func119 λX=>?_;rw[jX];refine Z1 ?_;refine Z1 ?_;refine Zi rfl (λh2=>?_) (λh2=>?_);have h2:aa s>64:=by have h2:decide _=ad:=h2;simp at h2;omega
 refine Z ?_;rw[AF h2]<;>rfl;have h2:¬aa s>64:=by have h2:decide _=ab:=h2;simp at h2;omega
 refine Z1 ?_;refine Zc a ?_ (s:=(K5 G a s b));refine Z ?_;rw[AA h2]
def mM(G)(B:Yy G)(s:bS)(H:s.length<1000000)(i)(hi:i<s.length)(C:Xa [45,45] (s.drop i)=ab):Spec () G 226 [s,i] Zm (λv _=>v=qI (Xp (s.drop i)).1):=by
 refine Zo 0 35 [.tmp 4] func226 λX=>?_;have o:aa (s.drop i)=aa s-i:=EJ;have c:=λk=>me (by intro h;rw[h]at o;simp at o;omega) C (k:=k);have d:=λk=>Qk (s.drop i) (k:=k);have w:=gi (s.drop i);refine Z1 ?_;refine Z1 ?_;refine Z1 ?_;refine BK ?_;refine Xw [0,1] [] (fun k=>[(5,(Se (s.drop i) k)),(6,k)]) (λ_=>[]) (λk=>1<=k/\k<=aa (s.drop i)+1) (λk=>aa (s.drop i)+1-k) 1 ⟨BO _,zo⟩ (by refine Zs ?_;rw[D1]<;>rfl) zp ?_;rintro k ⟨e,m⟩ I p;have D:=w k;have j:qN ((i:Int)+(k:Int))=((i+k:Nat):Int):=by rw[Xi zo zo];omega
 have g:=wQ ((k:Int)-1);refine Zz ?_;by_cases F:i+k<=aa s;have q:=zU (((i+k:Nat):Int)<=aa s);refine Yt (fun(_:Unit)=>st [(0,s),(1,i),(5,(Se (s.drop i) k)),(6,k),(22,.bool (decide (k<3\/Se (s.drop i) k=k-1)))] []) (λ_=>True) (λJ a=>?_) ?_;by_cases h2:k<3;have u:=zU ((k:Int)<3);have z:decide (k<3\/Se (s.drop i) k=k-1)=ad:=by rw[OH];exact .inl h2
 rw[z]at a;refine Ym (j3 j q u) ?_;exact a _ () trivial qs
 .have u:=zV ((k:Int)<3);have z:((Se (s.drop i) k:Int)==(k:Int)-1)=decide (k<3\/Se (s.drop i) k=k-1):=by by_cases y:Se (s.drop i) k=k-1;rw[show decide (k<3\/Se (s.drop i) k=k-1)=ad by rw[OH];exact .inr y,y];rw[CX];omega;rw[show decide (k<3\/Se (s.drop i) k=k-1)=ab by rw[IL];rintro(h|h);exact h2 h;exact y h];rw[FD];omega
  rw[<- z]at a;generalize Se (s.drop i) k=n at a⊢;cases t:((n:Int)==(k:Int)-1);rw[t]at a;refine Ym (j5 j g q u t) ?_;exact a _ () trivial qs;rw[t]at a;refine Ym (j5 j g q u t) ?_;exact a _ () trivial qs
 intro _ _;refine Zi rfl (λr=>?_) (λr=>?_);refine Z0 ?_;refine Zz ?_;refine BK ?_;have x:i<=i+k:=zo;have l:i+k-i=k:=zo;have b:=d k e;have E:aa ((s.drop i).take k)<1000000:=by rw[CZ];omega
 refine Ym (j4 j x l F) ?_;refine Zc B ?_ (s:=(K5 G B _ zo));generalize Vr ((s.drop i).take k)=A at b⊢;refine Zi rfl (λf=>?_) (λf=>?_);have f:=zu f;rw[AA f]at b;refine Z1 ?_;refine Z1 ?_;refine p _ ⟨k+1,zo,⟨zo,zo⟩,AO (by rw[b];refine Zs ?_;exact BU _ (Xi zo zo)) zp⟩;have f:A=0:=zu f;rw[AF f]at b;refine Z1 ?_;refine p _ ⟨k+1,zo,⟨zo,zo⟩,AO (by rw[b];refine Zs ?_;exact BU _ (Xi zo zo)) zp⟩;have r:¬(k<3\/Se (s.drop i) k=k-1):=zu r;refine Z ?_;rw[c k e m (.inr ⟨zo,λh=>r (.inr h)⟩)];have q:=zV (((i+k:Nat):Int)<=aa s);refine Ym (zi j q) ?_;refine Xh rfl ?_;refine Z ?_;rw[c k e m (.inl zo)]
def Rq(G)(t:Yy G)(s:bS)(Q:s.length<100000):Spec () G 198 [s] Zm (encTok (Yr s)):=by
 refine Zo 0 51 _ func198 λX=>?_;refine Z1 ?_;refine Z1 ?_;have D:Yr s=if aa s>65536 then([],0,3)else Un _ s _ []:=rfl;refine Zi rfl (λh2=>?_) (λh2=>?_);have h2:aa s>65536:=by have h2:decide ((aa s:Int)>65536)=ad:=h2;simp at h2;omega
 refine Z ?_;rw[D,AF h2]<;>rfl;have h2:¬aa s>65536:=by have h2:decide ((aa s:Int)>65536)=ab:=h2;simp at h2;omega
 rw[AA h2]at D;refine Z1 ?_;refine Z1 ?_;refine Zn t ?_ (s:=(Bc G t s zo 0 qz));rw[HB,EE];refine Zs ?_;have N:=RB s;have B:=iw s;refine Zz ?_;refine BK ?_;refine Xw [0] [] (fun x=>[(5,AZ 44 x.1 3 x.2.2),(6,qI x.2.1)]) (λx=>[(44,Z9 x.1 Xy x.2.2)]) (λx=>x.2.1<=aa s/\aa x.2.2<=x.2.1/\Yr s=Un (aa s+1) s x.2.1 x.2.2/\T_ (s.drop x.2.1)) (λx=>aa s-x.2.1) (0,blk s,[]) ⟨N,CB _,D,B⟩ zp zp ?_;rintro⟨O,i,acc⟩ ⟨L,z,w,F⟩ R E;have L:i<=aa s:=L;have z:aa acc<=i:=z;have w:Yr s=Un (aa s+1) s i acc:=w;have F:T_ (s.drop i):=F;refine Z1 ?_;refine Zi rfl (λH=>?_) (λH=>?_);have b:=zu H;refine Z0 ?_;refine BK ?_;have q:=(F _ _ (FL b)).2;have u:=dl (s.drop i);rw[EJ]at u;have c:=gB (f:=aa s+1) (acc:=acc) b zo;have j:=dW (f:=aa s+1) (acc:=acc) b zo;have d:=xW q;refine Z1 ?_;refine Zn t ?_ (s:=(mM G t s zo i b q));generalize Xp (s.drop i)=p at u c j d⊢;have⟨n,k⟩:=p;simp only at u c j d;refine Zs ?_;refine Zz ?_;by_cases e:n=0;have J:((n:Int)==0)=ad:=by simp[e]
 refine Ym J ?_;refine Zi rfl (λa=>?_) (λa=>?_);refine Z ?_;rw[w,j (.inl e)]<;>rfl;cases a;have J:((n:Int)==0)=ab:=by rw[FD];omega
 refine Ym J ?_;refine Zi rfl (λa=>?_) (λa=>?_);have a:n>64:=by have a:decide ((n:Int)>64)=ad:=a;simp at a;omega
 refine Z ?_;rw[w,j (.inr a)]<;>rfl;have a:¬n>64:=by have a:decide ((n:Int)>64)=ab:=a;simp at a;omega
 refine Z0 ?_;have c:=c (λh=>h.elim e a);have⟨d,_⟩:=d e;have K:qN ((i:Int)+(n:Int))=((i+n:Nat):Int):=by rw[Xi zo zo];omega
 have A:i<=i+n:=zo;have r:i+n<=aa s:=zo;have y:i+n-i=n:=zo;have M:J3 Tryz.prog G 188 [((s.drop i).take n)] (.int .u8 k):=⟨zk,by refine Zs ?_;refine(K5 G t _ (by rw[CZ,EJ];omega)).mono ?_;rintro _ _ rfl;rw[d]<;>rfl⟩
 refine Zz<|Zv ⟨λi=>if i=7 then .int .u8 k else .top,λ_=>.pure⟩ zk t zk zk ?_;refine Xc (j4 K A r y) ?_;refine⟨M,?_⟩;intro P;refine Yg (f:=Xy) (l:=acc) (l2:=[⟨k,(s.drop i).take n,i⟩]) Nb rfl rfl rfl zp (Z3 zo zO) λI=>?_;refine Zs ?_;have C:=RB (s.drop (i+n));rw[EJ]at C;refine Ym K ?_;refine Zc t ?_ (s:=(Bc G t s zo (i+n) r));refine E _ ⟨(I,i+n+blk (s.drop (i+n)),acc++[⟨k,(s.drop i).take n,i⟩]),?_,⟨?_,?_,?_,?_⟩,AO zp zp⟩;show aa s-(i+n+blk (s.drop (i+n)))<aa s-i;omega;show i+n+blk (s.drop (i+n))<=aa s;omega;show aa (acc++[_])<=i+n+blk (s.drop (i+n));simp only[BQ,JI];omega;rw[w];exact c;have:=iw (s.drop (i+n));rwa [NM]at this;have b:¬i<aa s:=zu H;refine Z0 ?_;refine BM (Z4 (λo=>o==44) (l:=[(5,encTks .new acc)]) (m:=[]) ?_ trivial) ?_;refine Zs ?_;exact Yp rfl rfl Nb;refine Z ?_;rw[w,dO b]<;>rfl
section
variable{P:Program}{E:BX}{s:AS}{a:Act}{w:World}
def BL.toAny:BL->BL
 |.AR=>.AR|.cells _ g fz cs=>.cells .any g fz (Xd AH.ent cs)|.mp ..=>.AR|.lp ..=>.AR
def BL.backNew:BL->BL
 |.AR=>.AR|.cells _ g fz cs=>qC g fz (Xd AH.bk cs)|.mp ..=>.AR|.lp ..=>.AR
def pL{G}(a:Yy G){f args H K}(m)(b:Yf P f=ad)(l:∀ p∈m,(H p.1).toAny=p.2)(j:∀ p∈m,∀ c g fz cs,H p.1=.cells c g fz cs->c=.new)(h:Spec P G f (args.map (V.recol AH.ent)) (Yb Zm m) (λv H'=>K (v.recol AH.bk) (Yb H (m.map λp=>(p.1,(H' p.1).backNew))))):CallA P G f args H K:=by
 have e:(λo=>if m.any (·.1==o)then(H o).rec2 (λ_=>.any) AH.ent else .AR)=Yb Zm m:=by funext o;exact(Fj _ o m l).symm
 refine CallP.no (jO a (λ_=>.any) (λ_=>.new) (λo=>m.any (·.1==o)) (λ_=>zd) (.inr ⟨λ_=>zd,λo c g fz cs x i=>?_⟩) b λX d q k h2 n=>?_);grind;rw[e]at k⊢;refine(h X _ q k h2 n).mono ?_;rintro e w' ⟨c,v,H',Y,w,u,t,s,r⟩;refine⟨c,v,H',Y,⟨_,λo=>?_,.inl ⟨w,r⟩⟩,u,t,s⟩;rw[Fh _ o m];by_cases i:m.any (·.1==o)=ad;rw[AF i];exact .inr (.inl rfl);grind
end
end Go.Hs
end
namespace Go.Hs
def wE{α:Type}[BEq α][LawfulBEq α]{a b:α}(h:a≠b:=by omega):(a==b)=ab:=FD.2 h
