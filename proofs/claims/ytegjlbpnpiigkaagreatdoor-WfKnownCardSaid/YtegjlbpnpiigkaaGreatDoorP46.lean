/- A part. No condition. -/
import Derived.Test.YtegjlbpnpiigkaaGreatDoorP44
import Derived.Test.YtegjlbpnpiigkaaGreatDoorP45
set_option linter.all false
section
namespace Go.Hs
open Go.Proofs
set_option maxHeartbeats 1000000
set_option maxRecDepth 10000
def sdO(gx:Nat)(l:List ASt):AObj:=Zza gx (Zbh .new) l
def rdS(l:List Tk)(i:Nat)(acc:List ASt):Bool×CU×List ASt:=
 if acc.length=512 then(false,⟨i,3⟩,acc)else((Zsd l i).2.2==0,⟨(Zsd l i).2.1.toNat,(Zsd l i).2.2⟩,acc++[(Zsd l i).1])
theorem Zpq(G:Nat->V)(hE:GExp G)(sl:Sl Tk)(hT:TkOk sl.l)(g:Nat)(i:Nat)(hi:i<sl.l.length)(acc:List ASt)(hac:acc.length<=512)(gx:Nat):
  InSp Tryz.prog G 261 [.ptr 21 g 0] (Zab Zk [(21,cuO sl g (grown 1038 gx 3 acc) ⟨i,0⟩),(1038,sdO gx acc)])
   (λv H'=>v=.bool (rdS sl.l i acc).1/\∃ gx',H' 21=cuO sl g (grown 1038 gx' 3 (rdS sl.l i acc).2.2) (rdS sl.l i acc).2.1/\H' 1038=sdO gx' (rdS sl.l i acc).2.2):=by
 have hG:=hE.ok;have hTl:=hT.len
 have hP:rdS sl.l i acc=if acc.length=512 then(false,⟨i,3⟩,acc)else((Zsd sl.l i).2.2==0,⟨(Zsd sl.l i).2.1.toNat,(Zsd sl.l i).2.2⟩,acc++[(Zsd sl.l i).1]):=rfl
 generalize rdS sl.l i acc=res at hP⊢;refine Zfb 1000 42 [.tmp 2] Tryz.func261 rfl rfl rfl rfl λX=>?_;simp only[Zab];refine Z1 ?_;refine Z1 ?_
 by_cases h5:acc.length=512
 rw[if_pos h5]at hP
 have q1:((acc.length:Int)==512)=true:=by rw[beq_iff_eq];omega
 refine Z6 λK1 hK1=>?_;refine Zf (zi @Z2h q1) ?_;rw[hP];exact⟨rfl,gx,zp,zp⟩;rw[if_neg h5]at hP
 have q1:((acc.length:Int)==512)=false:=by rw[beq_eq_false_iff_ne];omega
 refine Zda (fun(_:Unit)=>st [(0,.ptr 21 g 0),(3,.func (.func (if Zkc sl.l i=Z5i then 286 else 284)) [.ptr 21 g 0] [])] [(21,cuO sl g (grown 1038 gx 3 acc) ⟨i,0⟩),(1038,sdO gx acc)]) (λ_=>True) (λK1 hK1=>?_) ?_;refine Z1f (zi @Z2h q1) ?_;refine Z1 ?_;refine CuS.call hG (Z0j G hG sl g ⟨i,0⟩ Z5i) (λF=>Z3d F _ _ _ _) zk rfl rfl zr ?_;rw[decide_eq_true hi,Bool.true_and];refine Zu ?_
 by_cases hw:Zkc sl.l i=Z5i
 have q2:(Zkc sl.l i==Z5i)=true:=zu hw;rw[q2];rw[if_pos hw]at hK1;refine Z1 ?_;exact hK1 _ () trivial (Za zp zp);have q2:(Zkc sl.l i==Z5i)=false:=zu hw;rw[q2];rw[if_neg hw]at hK1;refine Z0 ?_;exact hK1 _ () trivial (Za zp zp);intro _ _
 have hstP:Zsd sl.l i=if Zkc sl.l i=Z5i then Zve sl.l 2 [40] [[41],[59]] (i+1)else Zve sl.l 1 [58,61] [[59]] i:=rfl
 by_cases hw:Zkc sl.l i=Z5i
 rw[if_pos hw]at hstP;rw[if_pos hw];have hsp:=Z6ca G hE sl hT g i hw;rw[<- hstP]at hsp;have hb:=(Zpo sl.l i).ge;generalize Zsd sl.l i=q at hP hsp hb;obtain⟨x,m,e⟩:=q;simp only at hP hsp hb;generalize hn:m.toNat=n at hP hsp;refine Z1 ?_;refine CuS.call hG hsp (λF=>Z3d F _ _ _ _) zk rfl (by first|rfl|(simp -implicitDefEqProofs only[go_sem,seval,Zzj,Zfa];try rfl)) zr ?_;simp -implicitDefEqProofs only[go_sem,seval,Zab,Zzj];intro g4;refine ZTf @Z2h hG ?_;intro g37;refine Zna (f:=Zbh .new) (l:=acc) (l2:=[x]) (g:=gx) (Zrf _) rfl rfl rfl zp (Z5 zo zO) λg2=>?_;refine Zs ?_;refine Z ?_;rw[hP];exact⟨rfl,g2,zp,zp⟩;rw[if_neg hw]at hstP;rw[if_neg hw];have hsp:=Zsx G hE sl hT g i zo;rw[<- hstP]at hsp;have hb:=(Zpo sl.l i).ge;generalize Zsd sl.l i=q at hP hsp hb;obtain⟨x,m,e⟩:=q;simp only at hP hsp hb;generalize hn:m.toNat=n at hP hsp;refine Z1 ?_;refine CuS.call hG hsp (λF=>Z3d F _ _ _ _) zk rfl (by first|rfl|(simp -implicitDefEqProofs only[go_sem,seval,Zzj,Zfa];try rfl)) zr ?_;simp -implicitDefEqProofs only[go_sem,seval,Zab,Zzj];intro g4;refine ZTf @Z2h hG ?_;intro g37;refine Zna (f:=Zbh .new) (l:=acc) (l2:=[x]) (g:=gx) (Zrf _) rfl rfl rfl zp (Z5 zo zO) λg2=>?_;refine Zs ?_;refine Z ?_;rw[hP];exact⟨rfl,g2,zp,zp⟩
@[go_sem] theorem noMp_cuO(S:Sl Tk)(g:Nat)(v:V)(r:CU):(cuO S g v r).noMp=cuO S g v r:=rfl
@[go_sem] theorem noMp_sdO(g:Nat)(l:List ASt):(sdO g l).noMp=sdO g l:=by cases l<;>rfl
theorem Zeoa{l:List Tk}{n f i:Nat}{acc:List ASt}(hi:i<l.length):Zcm l n (f+1) i acc =
  if(rdS l i acc).1=false then([],Zbp l n ((rdS l i acc).2.1.i:Int),(rdS l i acc).2.1.e)else Zcm l n f (rdS l i acc).2.1.i (rdS l i acc).2.2:=by
 rw[Zcm,if_neg zo];unfold rdS
 by_cases h5:acc.length=512
 rw[if_pos h5,if_pos h5]<;>rfl
 rw[if_neg h5,if_neg h5];have hb:=(Zpo l i).ge
 by_cases he:(Zsd l i).2.2=0
 rw[if_neg (zu he),if_neg (by simp[he])];have q:((Zsd l i).2.2==0)=false:=zu he;rw[if_pos he,if_pos q];simp only[Int.toNat_of_nonneg (show 0<=(Zsd l i).2.1 by omega)]
theorem Zsma{l:List Tk}{i:Nat}{acc:List ASt}(h:(rdS l i acc).1=true):(rdS l i acc).2.1.e=0/\i<(rdS l i acc).2.1.i/\(rdS l i acc).2.1.i<=l.length/\(rdS l i acc).2.2.length=acc.length+1/\acc.length≠512:=by
 unfold rdS at h⊢
 by_cases h5:acc.length=512
 rw[if_pos h5]at h;cases h;rw[if_neg h5]at h⊢;have he:(Zsd l i).2.2=0:=zu h;obtain⟨h1,h2⟩:=(Zpo l i).ok he;refine⟨he,?_,?_,by rw[List.length_append]<;>rfl,h5⟩
 show i<(Zsd l i).2.1.toNat;omega
 show(Zsd l i).2.1.toNat<=l.length;omega
def encBP(r:List ASt×Int×Int):V:=.tuple [.agg [Ze9 .new r.1],.int .i64 r.2.1,.int .i64 r.2.2]
theorem Za3(G:Nat->V)(hE:GExp G)(s:List UInt8)(hs:s.length<100000):Spec Tryz.prog G 219 [.str s] Zk (λv _=>v=encBP (Z7k s)):=by
 have hG:=hE.ok;refine Zo 0 69 [.cell 2 245,.tmp 3,.tmp 4] Tryz.func219 λX=>?_
 have hP:Z7k s=if(Zja s).2.2≠0 then(([]:List ASt),(Zja s).2.1,(Zja s).2.2)else Zcm (Zja s).1 s.length ((Zja s).1.length+1) 0 []:=rfl
 generalize Z7k s=res at hP⊢;have hT:=Zml hs;have hl:=Zle G hE s hs;generalize Zja s=p at hP hT hl;obtain⟨l,at0,e0⟩:=p;simp only at hP hT;have hTl:=hT.len;refine Z1 ?_;intro g2;refine Z1 ?_;refine Zn hG ?_ (s:=hl);refine Zsf (zi @encTok.eq_1 (zi @encTks.eq_1 @Zta)) ?_;have hS:(Zl l).l=l:=Zm l;generalize Zl l=S at hS;subst hS;refine Z4 ?_
 by_cases he:e0=0
 rotate_left;rw[if_pos he]at hP;have q1:(e0==0)=false:=zu he;refine Zhc zk ?_;simp -implicitDefEqProofs only[go_sem,seval,bne,q1];refine Z ?_
 rw[hP]<;>rfl
 rw[if_neg (zu he)]at hP;have q1:(e0==0)=true:=zu he;refine Zhc zk ?_;simp -implicitDefEqProofs only[go_sem,seval,bne,q1];refine Z1 ?_;intro g21;refine AW.weak (Zt (λ_=>false) (l:=[(0,.str s),(2,.ptr 2 g2 0),(5,Zb .new 3 Zeb S),(6,.ptr 21 g21 0)]) (m:=[(2,.cells .new g2 0 [.nils]),(21,cuO S g21 .nils ⟨0,0⟩)]) ?_ ?_) ?_;refine Zs ?_;exact⟨Fz.same _,Fz.same _,Fz.same _,Fz.same _⟩;simp only[Zv,Zz,and_true];exact⟨FzO.keep rfl zp,Zfla (c:=.new) (fz:=0) (cs:=[Zb .new 3 Zeb S,.int .i64 0,.int .i64 0,.nils]) rfl zp ⟨Fz.any (zpf @Zta),Fz.same _,Fz.same _,Fz.same _,trivial⟩⟩;refine Z4 ?_;refine AW.block ?_
 refine Zpb (fun(x:(Nat×Nat)×List ASt)=>st [(0,.str s),(2,.ptr 2 g2 0),(5,Zb .new 3 Zeb S),(6,.ptr 21 g21 0)] [(2,.cells .new g2 0 [.nils]),(21,cuO S g21 (grown 1038 x.1.1 3 x.2) ⟨x.1.2,0⟩),(1038,sdO x.1.1 x.2)])
  (λx=>x.1.2<=S.l.length/\x.2.length<=512/\∃ f,S.l.length<f+x.1.2/\Zcm S.l s.length f x.1.2 x.2=res) (λx=>S.l.length-x.1.2) ((0,0),[]) ⟨Nat.zero_le _,Nat.zero_le _,S.l.length+1,Nat.lt_succ_self _,hP.symm⟩
  (Za zp (by refine Zs ?_;first|rfl|exact⟨rfl,rfl⟩)) ?_
 rintro⟨⟨gx,i⟩,acc⟩ ⟨hi,hac,f,hf,hR⟩ L3 hL3;simp only at hi hac hf hR;refine Z4 ?_
 cases f with
 |zero=>omega
 |succ f=>
 refine Z1f @Z2h ?_;refine Zi rfl (λh29=>?_) (λh29=>?_);rotate_left
 have hil:S.l.length<=i:=by have:=zN h29;omega
 rw[Zcm,if_pos hil]at hR;refine Z0 ?_;refine AW.weak (Zt (λo=>o==1038) (l:=[(2,.ptr 2 g2 0),(6,.ptr 21 g21 0)]) (m:=[(2,.cells .new g2 0 [.nils]),(21,.cells .any g21 0 [.top,.int .i64 i,.int .i64 0,Zb .new 3 (Zbh .new) (Zl acc)])]) ?_ ?_) ?_;refine Zs ?_
 first|exact⟨Fz.same _,Fz.same _⟩|exact Fz.same _
 simp only[Zv,Zz,and_true];exact⟨FzO.keep rfl zp,FzO.of (c:=.any) (fz:=0) (cs:=[Zb .any 3 Zeb S,.int .i64 i,.int .i64 0,grown 1038 gx 3 acc]) rfl zp ⟨Fz.top _,Fz.same _,Fz.same _,Z3a rfl zp (Zrf _),trivial⟩⟩;refine Z ?_
 rw[<- hR]<;>rfl
 have hil:i<S.l.length:=zL h29;rw[Zeoa hil]at hR;refine Z0 ?_;refine AW.block ?_;have hst:=Zpq G hE S hT g21 i hil acc hac gx;have hrt := @Zsma S.l i acc;generalize rdS S.l i acc=q at hR hst hrt;obtain⟨b,⟨j,e⟩,acc'⟩:=q;simp only at hR hst hrt;refine Z1 ?_;refine CallA.inl [(21,cuO S g21 (grown 1038 gx 3 acc) ⟨i,0⟩),(1038,sdO gx acc)] zk ?_ ?_;intro p hp;simp only[List.mem_cons,List.not_mem_nil,or_false]at hp
 rcases hp with rfl|rfl
 .simp -implicitDefEqProofs only[go_sem,seval];try rfl
 .simp -implicitDefEqProofs only[go_sem,seval];try rfl
 refine hst.mono ?_;rintro _ H' ⟨rfl,gx',q21,q1038⟩;simp only[List.map_cons,List.map_nil,q21,q1038]
 cases b with
 |true=>
  obtain⟨rfl,hj,hjl,hal,ha5⟩:=hrt rfl;rw[if_neg zd]at hR;refine Zu ?_;refine Z0 ?_;refine hL3 _ ⟨((gx',j),acc'),?_,⟨?_,?_,f,?_,hR⟩,Za zp zp⟩
  show S.l.length-j<S.l.length-i;omega
  show j<=_;omega
  show acc'.length<=_;omega
  show S.l.length<f+j;omega
 |false=>
  rw[if_pos rfl]at hR;refine Zu ?_;refine Z1f @Z2h ?_;refine Zi rfl (λh40=>?_) (λh40=>?_);have hjl:j<S.l.length:=zL h40;have hgj:=List.getElem?_eq_getElem hjl;generalize S.l[j]=t at hgj;rw[Zht hgj]at hR;refine AW.weak (Zt (λo=>o==21) (l:=[(0,.str s),(2,.ptr 2 g2 0),(5,Zb .new 3 Zeb S),(6,.view .any (.agg [Zb .any 3 Zeb S,.int .i64 j,.int .i64 e,grown 1038 gx' 3 acc']))]) (m:=[(2,.cells .new g2 0 [.nils])]) ?_ ?_) ?_;refine Zs ?_;exact⟨Fz.same _,Fz.same _,Fz.same _,Fz.ptr (c:=.any) (fz:=0) (v:=.agg [Zb .any 3 Zeb S,.int .i64 j,.int .i64 e,grown 1038 gx' 3 acc']) rfl zp⟩;simp only[Zv,Zz,and_true];exact FzO.keep rfl zp
  refine Z4<|Zw ⟨λ_=>.top,λk=>if k=6 then .lend else if k=9 then .lend else if k=14 then .lend else .pure⟩ zk hG zk zk ?_
  refine Zsf (zi hgj @Zdb) ?_;refine Z ?_
  rw[<- hR]<;>rfl
  have hjl:¬ j<S.l.length:=by have:=zN h40;omega
  refine Z0 ?_;refine AW.weak (Zt (λo=>o==21) (l:=[(0,.str s),(2,.ptr 2 g2 0),(5,Zb .new 3 Zeb S),(6,.view .any (.agg [Zb .any 3 Zeb S,.int .i64 j,.int .i64 e,grown 1038 gx' 3 acc']))]) (m:=[(2,.cells .new g2 0 [.nils])]) ?_ ?_) ?_;refine Zs ?_;exact⟨Fz.same _,Fz.same _,Fz.same _,Fz.ptr (c:=.any) (fz:=0) (v:=.agg [Zb .any 3 Zeb S,.int .i64 j,.int .i64 e,grown 1038 gx' 3 acc']) rfl zp⟩;simp only[Zv,Zz,and_true];exact FzO.keep rfl zp
  refine Z4<|Zw ⟨λ_=>.top,λk=>if k=7 then .lend else .pure⟩ zk hG zk zk ?_
  refine Zs ?_;refine Z ?_;rw[<- hR];unfold Zbp
  rw[if_neg zo]<;>rfl
theorem Zbx{b:List ASt}(h:Z0d b=0):b.length<=512/\∀ s∈b,Zaj s=true:=by
 unfold Z0d at h
 split at h
 cases h
 split at h
 rename_i h1 h2;rw[List.all_eq_true]at h2;exact⟨zo,h2⟩;cases h
theorem Zcx(l:List ASt):Z0d l=0\/Z0d l=2:=by
 unfold Z0d
 split
 exact .inr rfl
 split
 exact .inl rfl;exact .inr rfl
theorem Zyc(w:List UInt8):(V.str w).cells.length=1:=rfl
theorem Zbl(G:Nat->V)(hG:GOk G)(c:Col)(t:List UInt8)(s:Sl (List UInt8))(hs:s.l.length<1000000):
  Spec Tryz.prog G 244 [.str t,Zb c 1 V.str s] Zk (λv _=>v=.bool (s.l.contains t)):=by
 refine Zo 0 18 [.tmp 4] Tryz.func244 λX=>?_;refine Z1 ?_;refine Z1 ?_;refine AW.block ?_
 refine Z9 s.l.length (λk (_:Unit)=>st [(0,.str t),(1,Zb c 1 V.str s),(5,.int .i64 k)] []) (λk _=>(s.l.take k).contains t=false) 0 () (Nat.zero_le _) rfl
  (Za zp zp) ?_
 intro k _ hk hR L2 hL2;refine Z1 ?_;refine Zi rfl (λh4=>?_) (λh4=>?_);have hk1:k<s.l.length:=zu h4;have hg:=List.getElem?_eq_getElem hk1
 have htk:s.l.take (k+1)=s.l.take k++[s.l[k]]:=by rw[List.take_succ_eq_append_getElem hk1]
 have hmem:=List.getElem_mem hk1;generalize s.l[k]=x at hg htk hmem;refine Z1f hg ?_;refine Zi rfl (λh6=>?_) (λh6=>?_);have h6:x=t:=zu h6;refine Z ?_
 have:s.l.contains t=true:=by rw[<- h6];simpa using hmem
 rw[this];have h6:¬ x=t:=zu h6;refine Z1 ?_;refine hL2 _ ⟨hk1,(),?_,Za zw zp⟩;rw[htk];simp only[List.contains_eq_mem,decide_eq_false_iff_not]at hR⊢;intro hm
 rcases List.mem_append.1 hm with h|h
 exact hR h;exact h6 ((List.mem_singleton.1 h).symm)
 have hk1:k=s.l.length:=by simp at h4;omega
 refine Z ?_;rw[hk1,List.take_length]at hR;rw[hR]
theorem kd_1{op:Int}{nm:Bool}{a b c:Int}(h:op=1):kd op nm a b c=1:=by unfold kd;rw[if_pos (.inl h)]
theorem Z3n{op:Int}{nm:Bool}{a b c v:Int}(h1:op≠1)(h2:op≠2)(h:(if op=3\/op=4 then 2
 else if op=5/\a=1\/7<=op/\op<=11/\a=1/\b=1 then 1
 else if 12<=op/\op<=15/\a=1/\b=1\/(op=16\/op=17)/\a=b/\a≠0 then 2
 else if op=6/\a=2\/18<=op/\op<=21/\a=2/\b=2 then 2
 else if op=22/\a=2/\b=c then b else 0:Int)=v):kd op nm a b c=v:=by
 unfold kd;rw[if_neg (by rintro(h|h);exact h1 h;exact h2 h.1)];exact h
theorem decT(i:Decidable True) : @decide True i=true:=decide_eq_true_iff.2 trivial
theorem decF(i:Decidable False) : @decide False i=false:=decide_eq_false_iff_not.2 id
def kn0(s:Sl XN)(names:Sl (List UInt8))(G:Nat->V)(i d:Int):Prop:=∀ c c1,Spec Tryz.prog G 294 [Zb c 6 Zxa s,.int .i64 i,Zb c1 1 V.str names] Zk (λv _=>v=.int .i64 d)
set_option maxHeartbeats 4000000 in
theorem Zmi(G:Nat->V)(hG:GOk G)(s:Sl XN)(names:Sl (List UInt8))(hnl:names.l.length<1000000)(m:Nat)(n:XN)(hg:s.l[m]?=some n)(hop:1<=n.op/\n.op<=22)(a b c:Int)
  (ha:n.a<0/\a=0\/0<=n.a/\kn0 s names G n.a a) (hb:n.b<0/\b=0\/0<=n.b/\kn0 s names G n.b b) (hc:n.c<0/\c=0\/0<=n.c/\kn0 s names G n.c c):
  kn0 s names G m (kd n.op (names.l.contains n.name) a b c):=by
 intro c0 c1;refine Zo 0 153 [.tmp 6] Tryz.func294 λX=>?_;have hm:m<s.l.length:=(List.getElem?_eq_some_iff.1 hg).1;have hP:kd n.op (names.l.contains n.name) a b c=kd n.op (names.l.contains n.name) a b c:=rfl;generalize hres:kd n.op (names.l.contains n.name) a b c=res;rw[hres]at hP
 replace hP:=hP.symm.trans hP
 try clear hP
 have hP:res=kd n.op (names.l.contains n.name) a b c:=hres.symm
 try clear hres
 refine Z1 ?_;refine Z1f (zi hg (zi hm @Z5a)) ?_;intro g7;refine Z1 ?_;refine Zda (fun(_:Unit)=>st [(0,Zb c0 6 Zxa s),(2,Zb c1 1 V.str names),(7,.ptr 7 g7 0),(8,.int .i64 a),(9,.int .i64 0),(10,.int .i64 0)] [(7,.cells .new g7 0 [.int .u8 n.op,.int .i64 n.num,.str n.name,.int .i64 n.a,.int .i64 n.b,.int .i64 n.c])]) (λ_=>True) (λK1 hK1=>?_) ?_;refine Z1 ?_
 rcases ha with ⟨h1,h2⟩|⟨h1,h2⟩
 have q1:decide (n.a>=0)=false:=zF;refine Zi rfl (λh18=>?_) (λh18=>?_);rw[q1]at h18;cases h18;refine Z0 ?_;exact hK1 _ () trivial (Za (by refine Zs ?_;rw[h2]) zp)
 .have q1:decide (n.a>=0)=true:=zT
  refine Zi rfl (λh18=>?_) (λh18=>?_);rotate_left;rw[q1]at h18;cases h18;refine Z1 ?_;refine Zcf @Zfa hG ?_ (s:=(h2 _ _));exact hK1 _ () trivial (Za zp zp)
 intro _ _;refine Zda (fun(_:Unit)=>st [(0,Zb c0 6 Zxa s),(2,Zb c1 1 V.str names),(7,.ptr 7 g7 0),(8,.int .i64 a),(9,.int .i64 b),(10,.int .i64 0)] [(7,.cells .new g7 0 [.int .u8 n.op,.int .i64 n.num,.str n.name,.int .i64 n.a,.int .i64 n.b,.int .i64 n.c])]) (λ_=>True) (λK1 hK1=>?_) ?_;refine Z1 ?_
 rcases hb with ⟨h1,h2⟩|⟨h1,h2⟩
 have q1:decide (n.b>=0)=false:=zF;refine Zi rfl (λh26=>?_) (λh26=>?_);rw[q1]at h26;cases h26;refine Z0 ?_;exact hK1 _ () trivial (Za (by refine Zs ?_;rw[h2]) zp)
 .have q1:decide (n.b>=0)=true:=zT
  refine Zi rfl (λh26=>?_) (λh26=>?_);rotate_left;rw[q1]at h26;cases h26;refine Z1 ?_;refine Zcf @Zfa hG ?_ (s:=(h2 _ _));exact hK1 _ () trivial (Za zp zp)
 intro _ _;refine Zda (fun(_:Unit)=>st [(0,Zb c0 6 Zxa s),(2,Zb c1 1 V.str names),(7,.ptr 7 g7 0),(8,.int .i64 a),(9,.int .i64 b),(10,.int .i64 c)] [(7,.cells .new g7 0 [.int .u8 n.op,.int .i64 n.num,.str n.name,.int .i64 n.a,.int .i64 n.b,.int .i64 n.c])]) (λ_=>True) (λK1 hK1=>?_) ?_;refine Z1 ?_
 rcases hc with ⟨h1,h2⟩|⟨h1,h2⟩
 have q1:decide (n.c>=0)=false:=zF;refine Zi rfl (λh34=>?_) (λh34=>?_);rw[q1]at h34;cases h34;refine Z0 ?_;exact hK1 _ () trivial (Za (by refine Zs ?_;rw[h2]) zp)
 .have q1:decide (n.c>=0)=true:=zT
  refine Zi rfl (λh34=>?_) (λh34=>?_);rotate_left;rw[q1]at h34;cases h34;refine Z1 ?_;refine Zcf @Zfa hG ?_ (s:=(h2 _ _));exact hK1 _ () trivial (Za zp zp)
 intro _ _
 try clear ha hb hc hg hm
 obtain⟨op,num,name,na,nb,nc⟩:=n;simp only at hop hP;refine Z1 ?_;refine Z4 ?_;refine AW.block ?_
 by_cases hc2:op=2
 .subst hc2
  refine Z1 ?_;refine Zc hG ?_ (s:=(Z6v G hG _ name names hnl))
  cases hcn:names.l.contains name with
  |true=>
   refine Z ?_
   rw[hP,hcn]<;>rfl
  |false=>
   have hkd:res=0:=by rw[hP,hcn]<;>rfl
   refine Z ?_;rw[hkd]
 by_cases hc1:op=1
 subst hc1
 have hkd:res=1:=by
  rw[hP];exact kd_1 zo
 refine Z ?_;rw[hkd]
 by_cases hc3:op=3
 subst hc3
 have hkd:res=2:=by
  rw[hP];exact Z3n zo zo (by repeat' split<;>omega)
 refine Z ?_;rw[hkd]
 by_cases hc4:op=4
 subst hc4
 have hkd:res=2:=by
  rw[hP];exact Z3n zo zo (by repeat' split<;>omega)
 refine Z ?_;rw[hkd]
 by_cases hc5:op=5
 subst hc5
 by_cases hs0:a=1
 have s0:(a==1)=true:=zu hs0
 have hkd:res=1:=by
  rw[hP];exact Z3n zo zo (by repeat' split<;>omega)
 refine Zf (zi @decT (zi @decF s0)) ?_;rw[hkd]
 by_cases hs1:¬ a=1
 have s0:(a==1)=false:=zu hs1
 have hkd:res=0:=by
  rw[hP];exact Z3n zo zo (by repeat' split<;>omega)
 refine Zf (zi @decT (zi @decF s0)) ?_;rw[hkd]
 exfalso;omega
 by_cases hc6:op=6
 subst hc6
 by_cases hs0:a=2
 have s0:(a==2)=true:=zu hs0
 have hkd:res=2:=by
  rw[hP];exact Z3n zo zo (by repeat' split<;>omega)
 refine Zf (zi @decT (zi @decF s0)) ?_;rw[hkd]
 by_cases hs1:¬ a=2
 have s0:(a==2)=false:=zu hs1
 have hkd:res=0:=by
  rw[hP];exact Z3n zo zo (by repeat' split<;>omega)
 refine Zf (zi @decT (zi @decF s0)) ?_;rw[hkd]
 exfalso;omega
 by_cases hc7:7<=op/\op<=11
 have f0:(op==1)=false:=by rw[beq_eq_false_iff_ne];omega
 have f1:(op==2)=false:=by rw[beq_eq_false_iff_ne];omega
 have f2:(op==3)=false:=by rw[beq_eq_false_iff_ne];omega
 have f3:(op==4)=false:=by rw[beq_eq_false_iff_ne];omega
 have f4:(op==5)=false:=by rw[beq_eq_false_iff_ne];omega
 have f5:(op==6)=false:=by rw[beq_eq_false_iff_ne];omega
 have f6:(op==16)=false:=by rw[beq_eq_false_iff_ne];omega
 have f7:(op==17)=false:=by rw[beq_eq_false_iff_ne];omega
 have f8:(op==22)=false:=by rw[beq_eq_false_iff_ne];omega
 have f9:decide (op>=7)=true:=zT;have f10:decide (op>=12)=false:=zF;have f11:decide (op>=18)=false:=zF;have f12:decide (op<=11)=true:=zT;have f13:decide (op<=15)=true:=zT;have f14:decide (op<=21)=true:=zT
 by_cases hs0:a=1/\b=1
 have s0:(a==1)=true:=zu hs0.1;have s1:(b==1)=true:=zu hs0.2
 have hkd:res=1:=by
  rw[hP];exact Z3n zo zo (by repeat' split<;>omega)
 refine Zf (zi f0 (zi f1 (zi f2 (zi f3 (zi f4 (zi f5 (zi f6 (zi f7 (zi f8 (zi f9 (zi f10 (zi f11 (zi f12 (zi f13 (zi f14 (zi s0 s1)))))))))))))))) ?_;rw[hkd]
 by_cases hs1:a=1/\¬ b=1
 have s0:(a==1)=true:=zu hs1.1;have s1:(b==1)=false:=zu hs1.2
 have hkd:res=0:=by
  rw[hP];exact Z3n zo zo (by repeat' split<;>omega)
 refine Zf (zi f0 (zi f1 (zi f2 (zi f3 (zi f4 (zi f5 (zi f6 (zi f7 (zi f8 (zi f9 (zi f10 (zi f11 (zi f12 (zi f13 (zi f14 (zi s0 s1)))))))))))))))) ?_;rw[hkd]
 by_cases hs2:¬ a=1
 have s0:(a==1)=false:=zu hs2
 have hkd:res=0:=by
  rw[hP];exact Z3n zo zo (by repeat' split<;>omega)
 refine Zf (zi f0 (zi f1 (zi f2 (zi f3 (zi f4 (zi f5 (zi f6 (zi f7 (zi f8 (zi f9 (zi f10 (zi f11 (zi f12 (zi f13 (zi f14 s0))))))))))))))) ?_;rw[hkd]
 exfalso;omega
 by_cases hc12:12<=op/\op<=15
 have f0:(op==1)=false:=by rw[beq_eq_false_iff_ne];omega
 have f1:(op==2)=false:=by rw[beq_eq_false_iff_ne];omega
 have f2:(op==3)=false:=by rw[beq_eq_false_iff_ne];omega
 have f3:(op==4)=false:=by rw[beq_eq_false_iff_ne];omega
 have f4:(op==5)=false:=by rw[beq_eq_false_iff_ne];omega
 have f5:(op==6)=false:=by rw[beq_eq_false_iff_ne];omega
 have f6:(op==16)=false:=by rw[beq_eq_false_iff_ne];omega
 have f7:(op==17)=false:=by rw[beq_eq_false_iff_ne];omega
 have f8:(op==22)=false:=by rw[beq_eq_false_iff_ne];omega
 have f9:decide (op>=7)=true:=zT;have f10:decide (op>=12)=true:=zT;have f11:decide (op>=18)=false:=zF;have f12:decide (op<=11)=false:=zF;have f13:decide (op<=15)=true:=zT;have f14:decide (op<=21)=true:=zT
 by_cases hs0:a=1/\b=1
 have s0:(a==1)=true:=zu hs0.1;have s1:(b==1)=true:=zu hs0.2
 have hkd:res=2:=by
  rw[hP];exact Z3n zo zo (by repeat' split<;>omega)
 refine Zf (zi f0 (zi f1 (zi f2 (zi f3 (zi f4 (zi f5 (zi f6 (zi f7 (zi f8 (zi f9 (zi f10 (zi f11 (zi f12 (zi f13 (zi f14 (zi s0 s1)))))))))))))))) ?_;rw[hkd]
 by_cases hs1:a=1/\¬ b=1
 have s0:(a==1)=true:=zu hs1.1;have s1:(b==1)=false:=zu hs1.2
 have hkd:res=0:=by
  rw[hP];exact Z3n zo zo (by repeat' split<;>omega)
 refine Zf (zi f0 (zi f1 (zi f2 (zi f3 (zi f4 (zi f5 (zi f6 (zi f7 (zi f8 (zi f9 (zi f10 (zi f11 (zi f12 (zi f13 (zi f14 (zi s0 s1)))))))))))))))) ?_;rw[hkd]
 by_cases hs2:¬ a=1
 have s0:(a==1)=false:=zu hs2
 have hkd:res=0:=by
  rw[hP];exact Z3n zo zo (by repeat' split<;>omega)
 refine Zf (zi f0 (zi f1 (zi f2 (zi f3 (zi f4 (zi f5 (zi f6 (zi f7 (zi f8 (zi f9 (zi f10 (zi f11 (zi f12 (zi f13 (zi f14 s0))))))))))))))) ?_;rw[hkd]
 exfalso;omega
 by_cases hc16:op=16
 subst hc16
 by_cases hs0:a=b/\¬ a=0
 have s0:(a==b)=true:=zu hs0.1;have s1:(a != 0)=true:=zu hs0.2
 have hkd:res=2:=by
  rw[hP];exact Z3n zo zo (by repeat' split<;>omega)
 refine Zf (zi @decT (zi @decF (zi s0 s1))) ?_;rw[hkd]
 by_cases hs1:a=b/\a=0
 have s0:(a==b)=true:=zu hs1.1;have s1:(a != 0)=false:=zu hs1.2
 have hkd:res=0:=by
  rw[hP];exact Z3n zo zo (by repeat' split<;>omega)
 refine Zf (zi @decT (zi @decF (zi s0 s1))) ?_;rw[hkd]
 by_cases hs2:¬ a=b
 have s0:(a==b)=false:=zu hs2
 have hkd:res=0:=by
  rw[hP];exact Z3n zo zo (by repeat' split<;>omega)
 refine Zf (zi @decT (zi @decF s0)) ?_;rw[hkd]
 exfalso;omega
 by_cases hc17:op=17
 subst hc17
 by_cases hs0:a=b/\¬ a=0
 have s0:(a==b)=true:=zu hs0.1;have s1:(a != 0)=true:=zu hs0.2
 have hkd:res=2:=by
  rw[hP];exact Z3n zo zo (by repeat' split<;>omega)
 refine Zf (zi @decT (zi @decF (zi s0 s1))) ?_;rw[hkd]
 by_cases hs1:a=b/\a=0
 have s0:(a==b)=true:=zu hs1.1;have s1:(a != 0)=false:=zu hs1.2
 have hkd:res=0:=by
  rw[hP];exact Z3n zo zo (by repeat' split<;>omega)
 refine Zf (zi @decT (zi @decF (zi s0 s1))) ?_;rw[hkd]
 by_cases hs2:¬ a=b
 have s0:(a==b)=false:=zu hs2
 have hkd:res=0:=by
  rw[hP];exact Z3n zo zo (by repeat' split<;>omega)
 refine Zf (zi @decT (zi @decF s0)) ?_;rw[hkd]
 exfalso;omega
 by_cases hc18:18<=op/\op<=21
 have f0:(op==1)=false:=by rw[beq_eq_false_iff_ne];omega
 have f1:(op==2)=false:=by rw[beq_eq_false_iff_ne];omega
 have f2:(op==3)=false:=by rw[beq_eq_false_iff_ne];omega
 have f3:(op==4)=false:=by rw[beq_eq_false_iff_ne];omega
 have f4:(op==5)=false:=by rw[beq_eq_false_iff_ne];omega
 have f5:(op==6)=false:=by rw[beq_eq_false_iff_ne];omega
 have f6:(op==16)=false:=by rw[beq_eq_false_iff_ne];omega
 have f7:(op==17)=false:=by rw[beq_eq_false_iff_ne];omega
 have f8:(op==22)=false:=by rw[beq_eq_false_iff_ne];omega
 have f9:decide (op>=7)=true:=zT;have f10:decide (op>=12)=true:=zT;have f11:decide (op>=18)=true:=zT;have f12:decide (op<=11)=false:=zF;have f13:decide (op<=15)=false:=zF;have f14:decide (op<=21)=true:=zT
 by_cases hs0:a=2/\b=2
 have s0:(a==2)=true:=zu hs0.1;have s1:(b==2)=true:=zu hs0.2
 have hkd:res=2:=by
  rw[hP];exact Z3n zo zo (by repeat' split<;>omega)
 refine Zf (zi f0 (zi f1 (zi f2 (zi f3 (zi f4 (zi f5 (zi f6 (zi f7 (zi f8 (zi f9 (zi f10 (zi f11 (zi f12 (zi f13 (zi f14 (zi s0 s1)))))))))))))))) ?_;rw[hkd]
 by_cases hs1:a=2/\¬ b=2
 have s0:(a==2)=true:=zu hs1.1;have s1:(b==2)=false:=zu hs1.2
 have hkd:res=0:=by
  rw[hP];exact Z3n zo zo (by repeat' split<;>omega)
 refine Zf (zi f0 (zi f1 (zi f2 (zi f3 (zi f4 (zi f5 (zi f6 (zi f7 (zi f8 (zi f9 (zi f10 (zi f11 (zi f12 (zi f13 (zi f14 (zi s0 s1)))))))))))))))) ?_;rw[hkd]
 by_cases hs2:¬ a=2
 have s0:(a==2)=false:=zu hs2
 have hkd:res=0:=by
  rw[hP];exact Z3n zo zo (by repeat' split<;>omega)
 refine Zf (zi f0 (zi f1 (zi f2 (zi f3 (zi f4 (zi f5 (zi f6 (zi f7 (zi f8 (zi f9 (zi f10 (zi f11 (zi f12 (zi f13 (zi f14 s0))))))))))))))) ?_;rw[hkd]
 exfalso;omega
 by_cases hc22:op=22
 subst hc22
 by_cases hs0:a=2/\b=c
 have s0:(a==2)=true:=zu hs0.1;have s1:(b==c)=true:=zu hs0.2
 have hkd:res=b:=by
  rw[hP];exact Z3n zo zo (by repeat' split<;>omega)
 refine Zf (zi @decT (zi @decF (zi s0 s1))) ?_;rw[hkd]
 by_cases hs1:a=2/\¬ b=c
 have s0:(a==2)=true:=zu hs1.1;have s1:(b==c)=false:=zu hs1.2
 have hkd:res=0:=by
  rw[hP];exact Z3n zo zo (by repeat' split<;>omega)
 refine Zf (zi @decT (zi @decF (zi s0 s1))) ?_;rw[hkd]
 by_cases hs2:¬ a=2
 have s0:(a==2)=false:=zu hs2
 have hkd:res=0:=by
  rw[hP];exact Z3n zo zo (by repeat' split<;>omega)
 refine Zf (zi @decT (zi @decF s0)) ?_;rw[hkd]
 exfalso;omega
 exfalso;omega
theorem Zzg(G:Nat->V)(hG:GOk G)(s:Sl XN)(names:Sl (List UInt8))(hnl:names.l.length<1000000):∀ (x:X) (b:Nat),At s.l x b->x.ok=true->kn0 s names G ((b:Int)+x.size-1) (Zme names.l x)
 |.leaf op num name,b,h,ho=>by
  simp only[X.ok,Bool.and_eq_true,decide_eq_true_eq]at ho;have hr:=Zig ho.1;have:=Zmi G hG s names hnl b _ h.get hr 0 0 0 (.inl ⟨by show(-1:Int)<0;decide,rfl⟩) (.inl ⟨by show(-1:Int)<0;decide,rfl⟩) (.inl ⟨by show(-1:Int)<0;decide,rfl⟩)
  have e:(b:Int)+(X.leaf op num name).size-1=(b:Nat):=by simp only[X.size];omega
  rw[e];exact this
 |.un op a,b,h,ho=>by
  simp only[X.ok,Bool.and_eq_true,decide_eq_true_eq]at ho;have ih:=Zzg G hG s names hnl a b h.un ho.2;have hp:=a.size_pos;have:=Zmi G hG s names hnl _ _ h.get (by show 1<=op/\op<=22;omega) _ 0 0 (.inr ⟨by show(0:Int)<=(b:Int)+a.size-1;omega,ih⟩) (.inl ⟨by show(-1:Int)<0;decide,rfl⟩) (.inl ⟨by show(-1:Int)<0;decide,rfl⟩)
  have e:(b:Int)+(X.un op a).size-1=((b+(X.un op a).size-1:Nat):Int):=by simp only[X.size];omega
  rw[e];exact this
 |.bin op x y,b,h,ho=>by
  simp only[X.ok,Bool.and_eq_true,decide_eq_true_eq]at ho;obtain⟨hx,hy⟩:=h.bin;have ihx:=Zzg G hG s names hnl x b hx ho.1.2;have ihy:=Zzg G hG s names hnl y (b+x.size) hy ho.2;have hp1:=x.size_pos;have hp2:=y.size_pos;rw[show((b+x.size:Nat):Int)+y.size-1=(b:Int)+x.size+y.size-1 by omega]at ihy;have:=Zmi G hG s names hnl _ _ h.get (by show 1<=op/\op<=22;omega) _ _ 0 (.inr ⟨by show(0:Int)<=(b:Int)+x.size-1;omega,ihx⟩) (.inr ⟨by show(0:Int)<=(b:Int)+x.size+y.size-1;omega,ihy⟩) (.inl ⟨by show(-1:Int)<0;decide,rfl⟩)
  have e:(b:Int)+(X.bin op x y).size-1=((b+(X.bin op x y).size-1:Nat):Int):=by simp only[X.size];omega
  rw[e];exact this
 |.ite x y z,b,h,ho=>by
  simp only[X.ok,Bool.and_eq_true]at ho;obtain⟨hx,hy,hz⟩:=h.ite;have ihx:=Zzg G hG s names hnl x b hx ho.1.1;have ihy:=Zzg G hG s names hnl y (b+x.size) hy ho.1.2;have ihz:=Zzg G hG s names hnl z (b+x.size+y.size) hz ho.2;have hp1:=x.size_pos;have hp2:=y.size_pos;have hp3:=z.size_pos;rw[show((b+x.size:Nat):Int)+y.size-1=(b:Int)+x.size+y.size-1 by omega]at ihy;rw[show((b+x.size+y.size:Nat):Int)+z.size-1=(b:Int)+x.size+y.size+z.size-1 by omega]at ihz;have:=Zmi G hG s names hnl _ _ h.get (by show 1<=(22:Int)/\(22:Int)<=22;decide) _ _ _ (.inr ⟨by show(0:Int)<=(b:Int)+x.size-1;omega,ihx⟩) (.inr ⟨by show(0:Int)<=(b:Int)+x.size+y.size-1;omega,ihy⟩) (.inr ⟨by show(0:Int)<=(b:Int)+x.size+y.size+z.size-1;omega,ihz⟩)
  have e:(b:Int)+(X.ite x y z).size-1=((b+(X.ite x y z).size-1:Nat):Int):=by simp only[X.size];omega
  rw[e];exact this
theorem Z5na{names:List (List UInt8)}{l:List X}{k:Nat}{y:X}(h:l[k]?=some y)(ks:List Int):goX names (l.drop k) k ks=if Zme names y=0 then([],(k:Int),90)else goX names (l.drop (k+1)) (k+1:Nat) (ks++[Zme names y]):=by
 obtain⟨h1,h2⟩:=List.getElem?_eq_some_iff.1 h
 rw[List.drop_eq_getElem_cons h1,h2]<;>rfl
theorem Z4v(G:Nat->V)(hG:GOk G)(c c1:Col)(s:Sl XN)(names:Sl (List UInt8))(hs:s.l.length<1000000)(hnm:∀ n∈s.l,n.name.length<100000)(hnl:names.l.length<1000000):
  Spec Tryz.prog G 275 [Zb c 6 Zxa s,Zb c1 1 V.str names] Zk (λv _=>v=encKr .new (Ztb names.l s.l)):=by
 refine Zo 0 35 [.tmp 4,.tmp 5,.tmp 6] Tryz.func275 λX=>?_
 have hP:Ztb names.l s.l=if Zic s.l≠0 then([],0,Zic s.l)else goN names.l s.l 0 []:=rfl
 generalize Ztb names.l s.l=res at hP⊢;refine Z1 ?_;refine Z1 ?_;refine Zcf @Zfa hG ?_ (s:=(Z8o G hG _ s hs hnm));refine Z1 ?_
 by_cases hc:Zic s.l=0
 rotate_left;have q1:(Zic s.l != 0)=true:=zu hc;rw[if_pos hc]at hP;refine Zi rfl (λh14=>?_) (λh14=>?_);refine Z ?_
 rw[hP]<;>rfl
 rw[q1]at h14;cases h14;have q1:(Zic s.l != 0)=false:=zu hc;rw[if_neg (zu hc)]at hP;refine Zi rfl (λh14=>?_) (λh14=>?_);rw[q1]at h14;cases h14;refine Z0 ?_
 have hdep:Zkb s.l≠0:=by
  intro h;rw[Zic,if_pos h]at hc;cases hc
 obtain⟨x,hx,hl⟩:=Z9l hdep;have hat:At s.l x 0:=hl ▸ Zco x
 have hlen:s.l.length=x.size:=by rw[hl,Go.Hs.X.row_len]
 have hsl:=Zvb x
 have hP2:res=goX names.l (Z6j x) 0 []:=by
  have:=Zuia (names:=names.l) x x.size 0 zo;simp only[List.drop_zero,List.take_zero,List.map_nil]at this;rw[hP,hl];exact this
 try clear hP
 refine Z1 ?_;refine Z1 ?_;refine AW.block ?_
 refine Z9 s.l.length (λk (y:Nat×List Int)=>st [(0,Zb c 6 Zxa s),(1,Zb c1 1 V.str names),(8,grown 33 y.1 1 y.2),(9,.int .i64 k)] [(33,Zza y.1 (V.int .u8) y.2)])
  (λk y=>res=goX names.l ((Z6j x).drop k) k y.2/\y.2.length=k) 0 (0,[]) (Nat.zero_le _) ⟨hP2,rfl⟩
  (Za zp zp) ?_
 rintro k ⟨gx,ks⟩ hk ⟨hR,hkl⟩ L3 hL3
 replace hR:res=goX names.l ((Z6j x).drop k) k ks:=hR
 replace hkl:ks.length=k:=hkl
 refine Z1 ?_;refine Zi rfl (λh19=>?_) (λh19=>?_);have hk1:k<s.l.length:=zu h19;obtain⟨y,b,h1,h2,h3,h4⟩:=Z7fa x k zo;rw[Z5na h3]at hR;have hky:=Zvj names.l y;have hsp:=Zzg G hG s names hnl y b (by have:=h1.at hat;rw[Nat.zero_add]at this;exact this) (h1.ok hx);rw[show(b:Int)+y.size-1=(k:Int) by omega]at hsp;refine Z1 ?_;refine Znf @Zfa hG ?_ (s:=(hsp _ _));generalize Zme names.l y=v at hR hky⊢;refine Zs ?_;refine Z1 ?_
 by_cases hv:v=0
 have q2:(v==0)=true:=zu hv;rw[if_pos hv]at hR;refine Zi rfl (λh27=>?_) (λh27=>?_);refine Z ?_
 rw[hR]<;>rfl
 rw[q2]at h27;cases h27;have q2:(v==0)=false:=zu hv;rw[if_neg hv]at hR
 have hw:IntKind.u8.wrap v=v:=by
  have:v=1\/v=2:=zo
  rcases this with rfl|rfl<;>rfl
 refine Zi rfl (λh27=>?_) (λh27=>?_);rw[q2]at h27;cases h27;refine Z1f hw ?_;intro g32;refine Zna (f:=V.int .u8) (l:=ks) (l2:=[v]) (g:=gx) Z4k rfl rfl rfl zp (Z5 zo zO) λg2=>?_;refine Zs ?_;refine Z1 ?_;refine hL3 _ ⟨hk1,(g2,ks++[v]),⟨hR,by show(ks++[v]).length=k+1;rw[List.length_append,hkl]<;>rfl⟩,Za zw zp⟩
 have hk1:k=s.l.length:=by simp at h19;omega
 refine Z0 ?_;rw[List.drop_of_length_le zo]at hR;refine AW.weak (Zt (λo=>o==33) (l:=[(8,encKs .new ks)]) (m:=[]) ?_ trivial) ?_;refine Zs ?_;exact Z3a rfl rfl Z4k;refine Z ?_
 rw[hR]<;>rfl
theorem Z3v(G:Nat->V)(hG:GOk G)(c c1:Col)(s:Sl XN)(names:Sl (List UInt8))(hs:s.l.length<1000000)(hnm:∀ n∈s.l,n.name.length<100000)(hnl:names.l.length<1000000):
  Spec Tryz.prog G 245 [Zb c 6 Zxa s,Zb c1 1 V.str names] Zk (λv _=>v=encO3 (Z4i names.l s.l)):=by
 refine Zo 0 27 [.tmp 4,.tmp 5,.tmp 6] Tryz.func245 λX=>?_
 have hP:Z4i names.l s.l=if(Ztb names.l s.l).2.2≠0 then(0,(Ztb names.l s.l).2.1,(Ztb names.l s.l).2.2)else((Ztb names.l s.l).1.getD ((Ztb names.l s.l).1.length-1) 0,0,0):=rfl
 have hKi:=λc c1=>Z4v G hG c c1 s names hs hnm hnl;have hL:=Zes (names:=names.l) (l:=s.l);generalize Z4i names.l s.l=res at hP⊢;generalize Ztb names.l s.l=p at hP hKi hL;obtain⟨ks,i,e⟩:=p;simp only at hP hL;refine Z1 ?_;refine Z1 ?_;refine Znf @Zfa hG ?_ (s:=(hKi _ _));refine Zsf (zi @encKr.eq_1 (zi @encKs.eq_1 @Zp8)) ?_;refine Z1 ?_
 by_cases he:e=0
 rotate_left;have q1:(e != 0)=true:=zu he;rw[if_pos he]at hP;refine Zi rfl (λh18=>?_) (λh18=>?_);refine Z ?_
 rw[hP]<;>rfl
 rw[q1]at h18;cases h18;have q1:(e != 0)=false:=zu he;rw[if_neg (zu he)]at hP;obtain⟨hl1,hl2⟩:=hL he;refine Zi rfl (λh18=>?_) (λh18=>?_);rw[q1]at h18;cases h18;refine Z0 ?_;obtain⟨m,hm⟩:∃ m:Nat,ks.length=m+1:=⟨ks.length-1,zo⟩
 have hw:IntKind.i64.wrap ((ks.length:Int)-1)=(m:Int):=by rw[w64 zo zo];omega
 obtain⟨v,hv⟩:∃ v,ks[m]?=some v:=⟨_,List.getElem?_eq_getElem zo⟩
 have hgd:ks.getD (ks.length-1) 0=v:=by rw[show ks.length-1=m by omega,List.getD_eq_getElem?_getD,hv]<;>rfl
 rw[hgd]at hP;refine Zf (zi hw hv) ?_
 rw[hP]<;>rfl
def encTy(r:Int×Int):V:=.tuple [.int .i64 r.1,.int .i64 r.2]
theorem ofTP_e{names:List (List UInt8)}{l:List XN}(h:(Z4i names l).2.2≠0):(Z4i names l).1=0:=by
 unfold Z4i at h⊢
 split
 rfl;rename_i h1;rw[if_neg h1]at h;exact absurd rfl h
theorem Zjv{s:ASt}(h:Zaj s=true):s.kind=1\/s.kind=2:=by
 simp only[Zaj,Bool.and_eq_true,Bool.or_eq_true,beq_iff_eq]at h;exact h.1.1
theorem Zl3(G:Nat->V)(hG:GOk G)(c c1 c2 c3:Col)(s:Sl AM)(vars events:Sl (List UInt8))(hA:AmOk s.l)(hv:vars.l.length<100000)(hev:events.l.length<1000000):
  Spec Tryz.prog G 209 [Zb c 3 (Zud c1) s,Zb c2 1 V.str vars,Zb c3 1 V.str events] Zk (λv _=>v=encTy (Zbk (s.l.map AM.v) vars.l events.l)):=by
 refine Zo 0 86 [.tmp 6,.tmp 7] Tryz.func209 λX=>?_;have hs:=hA.len
 have hP:Zbk (s.l.map AM.v) vars.l events.l=if Z0d (s.l.map AM.v)≠0 then(0,2)else Z8i vars.l events.l ((s.l.map AM.v).drop 0) (0:Nat):=rfl
 generalize Zbk (s.l.map AM.v) vars.l events.l=res at hP⊢;have hck:=λc=>Zp3 G hG c c1.ent s hA;have hok := @Zbx (s.l.map AM.v);have h02:=Zcx (s.l.map AM.v);generalize Z0d (s.l.map AM.v)=ck at hP hck hok h02;refine Z1 ?_;refine Z1 ?_;refine Znf @Zjk hG ?_ (s:=(hck _))
 rcases h02 with rfl|rfl
 rotate_left;refine Zs ?_;refine Z ?_
 rw[hP]<;>rfl
 refine Zs ?_;refine Z0 ?_;obtain⟨_,hall⟩:=hok rfl;rw[if_neg zd]at hP;refine Z1 ?_;intro g16;refine Z1 ?_;refine⟨Z5 zo zo,λg2=>?_⟩
 have e1:1+vars.l.length=(Z9m::vars.l).length:=by rw[List.length_cons];omega
 refine AW.weak (Zt (λo=>o==16) (l:=[(0,Zb c 3 (Zud c1) s),(1,Zb c2 1 V.str vars),(2,Zb c3 1 V.str events),(8,Zb .new 1 V.str (.mk false (Z9m::vars.l)))]) (m:=[]) ?_ trivial) ?_;refine Zs ?_;refine⟨Fz.same _,Fz.same _,Fz.same _,?_⟩;rw[e1];exact Z4c (f:=V.str) (l:=Z9m::vars.l) (m:=1) (g:=g2) (fz:=0) (c:=.new) rfl zp Zyc;generalize hNS:(Sl.mk false (Z9m::vars.l):Sl (List UInt8))=NS
 have hNl:NS.l=Z9m::vars.l:=by rw[<- hNS]<;>rfl
 have hof:=λc c1 (x:Sl XN) (h1:x.l.length<1000000) h2=>Z3v G hG c c1 x NS h1 h2 (by rw[hNl,List.length_cons];omega)
 have hcg:∀ x,Z4i NS.l x=Z4i (vars.l++[Z9m]) x:=by
  intro x;rw[hNl];exact Zjba (λt=>Z4s Z9m vars.l t) x
 refine Z1 ?_;refine AW.block ?_
 refine Z9 s.l.length (λk (_:Unit)=>st [(0,Zb c 3 (Zud c1) s),(1,Zb c2 1 V.str vars),(2,Zb c3 1 V.str events),(8,Zb .new 1 V.str NS),(9,.int .i64 k)] [])
  (λk _=>Z8i vars.l events.l ((s.l.map AM.v).drop k) (k:Nat)=res) 0 () (Nat.zero_le _) hP.symm
  (Za zp zp) ?_
 rintro k _ hk hR L3 hL3;refine Z1 ?_;refine Zi rfl (λh23=>?_) (λh23=>?_);rotate_left
 have hk1:k=s.l.length:=by have:=zN h23;omega
 refine Z0 ?_;rw[List.drop_of_length_le (by rw[List.length_map];omega)]at hR;refine Z ?_
 rw[<- hR]<;>rfl
 have hk1:k<s.l.length:=zL h23;have hg:=List.getElem?_eq_getElem hk1;have hba:=hA.row _ (List.getElem_mem hk1);have hsta:=hall _ (List.mem_map_of_mem (f:=AM.v) (List.getElem_mem hk1))
 have hgv:(s.l.map AM.v)[k]?=some (s.l[k]).v:=by rw[List.getElem?_map,hg]<;>rfl
 rw[Zko hgv]at hR;generalize s.l[k]=a at hg hba hsta hR;have hkd:=Zjv hsta;have hst:stT vars.l events.l a.v=((if a.kind=2 then events.l.contains a.name else vars.l.contains a.name)&&Z1k (vars.l++[Z9m]) a.x.l):=rfl;refine Z0 ?_;refine Z4 ?_;refine AW.block ?_;refine Zda (fun(_:Unit)=>st [(0,Zb c 3 (Zud c1) s),(1,Zb c2 1 V.str vars),(2,Zb c3 1 V.str events),(8,Zb .new 1 V.str NS),(9,.int .i64 k)] []) (λ_=>(if a.kind=2 then events.l.contains a.name else vars.l.contains a.name)=true) (λK6 hK6=>?_) ?_
 rcases hkd with hk0|hk0
 .have hk0:a.kind=1:=hk0
  have q1:(a.kind==1)=true:=zu hk0
  have q2:(a.kind==2)=false:=by rw[hk0]<;>rfl
  rw[if_neg (by rw[hk0];decide)]at hst hK6;refine Z1f (zi hg (zi @Zkd q1)) ?_;refine Zcf @Zgb hG ?_ (s:=(Zbl G hG _ a.name vars zo))
  cases q3:vars.l.contains a.name with
  |false=>
   rw[q3,Bool.false_and]at hst;rw[if_neg (by rw[hst];decide)]at hR;refine Zsf (zi q3 (zi hg (zi @Zkd q2))) ?_;refine Z ?_
   rw[<- hR]<;>rfl
  |true=>
   rw[q3]at hK6;refine Zsf (zi q3 (zi hg (zi @Zkd q2))) ?_;refine Z0 ?_;exact hK6 _ () rfl (Za zp zp)
 .have hk0:a.kind=2:=hk0
  have q1:(a.kind==1)=false:=by rw[hk0]<;>rfl
  have q2:(a.kind==2)=true:=zu hk0;rw[if_pos hk0]at hst hK6;refine Z1f (zi hg (zi @Zkd (zi q1 q2))) ?_;refine Zcf @Zgb hG ?_ (s:=(Zbl G hG _ a.name events hev))
  cases q3:events.l.contains a.name with
  |false=>
   rw[q3,Bool.false_and]at hst;rw[if_neg (by rw[hst];decide)]at hR;refine Zsf q3 ?_;refine Z ?_
   rw[<- hR]<;>rfl
  |true=>
   rw[q3]at hK6;refine Zsf q3 ?_;refine Z0 ?_;exact hK6 _ () rfl (Za zp zp)
 intro _ hnm;rw[hnm,Bool.true_and]at hst
 have hnx:∀ (h:Z1k (vars.l++[Z9m]) a.x.l=true),Z8i vars.l events.l ((s.l.map AM.v).drop (k+1)) (k+1:Nat)=res:=λh=>by rw[if_pos (by rw[hst];exact h)]at hR;exact hR
 have hbd:∀ (h:Z1k (vars.l++[Z9m]) a.x.l=false),((k:Int),(90:Int))=res:=λh=>by rw[if_neg (by rw[hst,h];decide)]at hR;exact hR
 by_cases hx0:a.x.l.length=0
 have hxe:Z1k (vars.l++[Z9m]) a.x.l=true:=by unfold Z1k;rw[List.length_eq_zero_iff.1 hx0]<;>rfl
 have q5:decide ((a.x.l.length:Int)>0)=false:=zF;refine Z1f (zi hg (zi @Zkd q5)) ?_;refine Z1 ?_;exact hL3 _ ⟨hk1,(),hnx hxe,Za zw zp⟩;have q5:decide ((a.x.l.length:Int)>0)=true:=zT
 have hxe:Z1k (vars.l++[Z9m]) a.x.l=((Z4i NS.l a.x.l).1==1):=by
  unfold Z1k;rw[<- hcg]
  cases hq:a.x.l with
  |nil=>rw[hq]at hx0;exact absurd rfl hx0
  |cons=>rfl
 refine Z1f (zi hg (zi @Zkd q5)) ?_;refine Z1f (zi hg @Zkd) ?_;refine Znf @Zfa hG ?_ (s:=(hof _ _ a.x hba.2.1 hba.2.2));have hoe := @ofTP_e NS.l a.x.l;generalize Z4i NS.l a.x.l=r at hxe hoe;obtain⟨kd0,i0,e0⟩:=r;simp only at hxe hoe;refine Zsf @encO3.eq_1 ?_
 by_cases he:e0=0
 rotate_left;have q6:(e0==0)=false:=zu he;rw[hoe he]at hxe;refine Zhc zk ?_;simp -implicitDefEqProofs only[go_sem,seval,bne,q6];refine Z ?_
 rw[<- hbd hxe]<;>rfl
 have q6:(e0==0)=true:=zu he
 cases q7:(kd0==1)with
 |false=>
  rw[q7]at hxe;refine Zhc zk ?_;simp -implicitDefEqProofs only[go_sem,seval,bne,q6,q7];refine Z ?_
  rw[<- hbd hxe]<;>rfl
 |true=>
  rw[q7]at hxe;refine Zhc zk ?_;simp -implicitDefEqProofs only[go_sem,seval,bne,q6,q7];refine Z1 ?_;exact hL3 _ ⟨hk1,(),hnx hxe,Za zw zp⟩
theorem Z9p(G:Nat->V)(c:Col)(s:Sl (List UInt8))(hs:s.l.length<1000000):InSp Tryz.prog G 49 [Zb c 1 V.str s] (Zab Zk [(5005,.dead)])
  (λv H'=>(s=.nil/\v=.nils/\H' 5005=.dead)\/(∃ g,v=.msl 5005 g 0 s.l.length 1/\H' 5005=.cells .new g 0 (flat (s.l.map V.str)))):=by
 refine Zfb 5000 8 [.tmp 2] Tryz.func49 rfl rfl rfl rfl λX=>?_;simp only[Zab]
 cases s with
 |nil=>
  refine Z1 ?_;refine Z4 ?_;simp only[Zb];refine Z ?_;exact .inl (by first|rfl|exact⟨rfl,rfl,rfl⟩|exact⟨rfl,rfl⟩)
 |mk b l=>
  refine Z1 ?_;refine Z4 ?_;have hq:(Zb c 1 V.str (.mk b l))=.slice c b 1 (l.map V.str):=rfl;rw[hq];refine Z1 ?_;refine Z1 ?_;have hl:l.length<1000000:=hs;intro g;refine⟨Z5 zo (by rw[List.length_map];omega),λg2=>?_⟩;refine Z ?_;exact .inr ⟨g2,by rw[List.length_map],zr⟩
theorem Z92(G:Nat->V)(hE:GExp G)(c c1 c2 c3:Col)(s:Sl AM)(vars events:Sl (List UInt8))(hs:s.l.length<1000000)(hb:∀ a∈s.l,AmB a)(hv:vars.l.length<100000)(hev:events.l.length<1000000):
  Spec Tryz.prog G 220 [.agg [Zb c 3 (Zud c1) s],Zb c2 1 V.str vars,Zb c3 1 V.str events] Zk (λv _=>v=encTy (Zbk (s.l.map AM.v) vars.l events.l)):=by
 have hG:=hE.ok;refine Zo 0 57 [.tmp 6,.tmp 7] Tryz.func220 λX=>?_
 have hP:Zbk (s.l.map AM.v) vars.l events.l=if Z0d (s.l.map AM.v)≠0 then(0,2)else Z8i vars.l events.l ((s.l.map AM.v).drop 0) (0:Nat):=rfl
 generalize Zbk (s.l.map AM.v) vars.l events.l=res at hP⊢;have hck:=λc=>Zb3 G hE c c1.ent s hs hb;have hok := @Zbx (s.l.map AM.v);have h02:=Zcx (s.l.map AM.v);generalize Z0d (s.l.map AM.v)=ck at hP hck hok h02;refine Z1 ?_;intro g3;refine Z1 ?_;refine Znf @Zjk hG ?_ (s:=(hck _))
 rcases h02 with rfl|rfl
 rotate_left;refine Zs ?_;refine Z ?_
 rw[hP]<;>rfl
 refine Zs ?_;refine Z0 ?_;obtain⟨_,hall⟩:=hok rfl;rw[if_neg zd]at hP
 have hfin:∀ (NS:Sl (List UInt8)),NS.l=vars.l++[Z9m]->∀ x,Z4i NS.l x=Z4i (vars.l++[Z9m]) x:=λNS h x=>by rw[h]
 refine Zda (fun(NS:Sl (List UInt8))=>st [(1,Zb c2 1 V.str vars),(2,Zb c3 1 V.str events),(3,.ptr 3 g3 0),(8,Zb .new 1 V.str NS)] [(3,.cells .new g3 0 [Zb c 3 (Zud c1) s])]) (λNS=>NS.l=vars.l++[Z9m]) (λK2 hK2=>?_) ?_;refine Z1 ?_;refine CallA.inl [(5005,.dead)] zk ?_ ?_;intro p hp;rw[List.mem_singleton]at hp;subst hp;exact zp;refine(Z9p G c2 vars zo).mono ?_;rintro _ H' (⟨rfl,rfl,q⟩|⟨g5,rfl,q⟩);simp only[List.map_cons,List.map_nil,q];refine Zu ?_;intro g18;refine⟨Z5 zo zo,λh=>absurd h zd,λ_ g19=>?_⟩;refine Zs ?_;refine hK2 _ (.mk false [Z9m]) rfl (Zt (λo=>o==19) ?_ ?_);refine Zs ?_;refine⟨Fz.same _,Fz.same _,Fz.same _,?_⟩;exact Z4c (f:=V.str) (l:=[Z9m]) (m:=1) (g:=g19) (fz:=0) (c:=.new) rfl zp Zyc;simp only[Zv,Zz,and_true];exact FzO.keep rfl zp;simp only[List.map_cons,List.map_nil,q];refine Zu ?_;intro g18
 have hcells:List.take (vars.l.length*1) (flat (List.map V.str vars.l))++[V.str [97,114,103]]=flat ((vars.l++[Z9m]).map V.str):=by
  rw[List.take_of_length_le (by rw[Zya Zyc];exact Nat.le_refl _),List.map_append,Z8g];rfl
 have e1:vars.l.length+1=(vars.l++[Z9m]).length:=by rw[List.length_append]<;>rfl
 refine⟨Z5 zo zo,by rw[Zya Zyc];exact Nat.le_refl _,Nat.zero_le _,λg19=>?_⟩;rw[hcells];refine hK2 _ (.mk false (vars.l++[Z9m])) rfl (Zt (λo=>o==5005) ?_ ?_);refine Zs ?_;refine⟨Fz.same _,Fz.same _,Fz.same _,?_⟩;rw[e1];exact Z4c (f:=V.str) (l:=vars.l++[Z9m]) (m:=1) (g:=g19) (fz:=0) (c:=.new) rfl zp Zyc;simp only[Zv,Zz,and_true];exact FzO.keep rfl zp;intro NS hNl;have hcg:=hfin NS hNl;have hof:=λc c1 (x:Sl XN) (h1:x.l.length<1000000) h2=>Zd8 G hE c c1 x NS h1 h2 (by rw[hNl,List.length_append];show _+1<_;omega)
 try clear hfin
 refine Z6 λK2 hK2=>?_;refine Z1 ?_;refine AW.block ?_
 refine Z9 s.l.length (λk (_:Unit)=>st [(1,Zb c2 1 V.str vars),(2,Zb c3 1 V.str events),(8,Zb .new 1 V.str NS),(21,Zb c 3 (Zud c1) s),(22,.int .i64 s.l.length),(23,.int .i64 k)] [])
  (λk _=>Z8i vars.l events.l ((s.l.map AM.v).drop k) (k:Nat)=res) 0 () (Nat.zero_le _) hP.symm
  (Za zp zp) ?_
 rintro k _ hk hR L3 hL3;refine Z1 ?_;refine Z4 ?_;refine Zi rfl (λh24=>?_) (λh24=>?_);rotate_left
 have hk1:k=s.l.length:=by have:=zN h24;omega
 refine Z0 ?_;refine hK2 _ ?_;rw[List.drop_of_length_le (by rw[List.length_map];omega)]at hR;refine Z ?_
 rw[<- hR]<;>rfl
 have hk1:k<s.l.length:=zL h24;have hg:=List.getElem?_eq_getElem hk1;have hba:=hb _ (List.getElem_mem hk1);have hsta:=hall _ (List.mem_map_of_mem (f:=AM.v) (List.getElem_mem hk1))
 have hgv:(s.l.map AM.v)[k]?=some (s.l[k]).v:=by rw[List.getElem?_map,hg]<;>rfl
 rw[Zko hgv]at hR;generalize s.l[k]=a at hg hba hsta hR;have hkd:=Zjv hsta;have hst:stT vars.l events.l a.v=((if a.kind=2 then events.l.contains a.name else vars.l.contains a.name)&&Z1k (vars.l++[Z9m]) a.x.l):=rfl;refine Z1f (zi hg @Zkd) ?_;intro g10;refine Z1 ?_
 refine Zda (fun(NK:Sl (List UInt8))=>st [(1,Zb c2 1 V.str vars),(2,Zb c3 1 V.str events),(8,Zb .new 1 V.str NS),(9,.int .i64 k),(10,.ptr 10 g10 0),(11,Zb (if a.kind=2 then c3 else c2) 1 V.str NK),(21,Zb c 3 (Zud c1) s),(22,.int .i64 s.l.length),(23,.int .i64 k)] [(10,.cells .new g10 0 [.int .u8 a.kind,.str a.name,Zb c1 6 Zxa a.x])])
  (λNK=>NK.l.length<1000000/\NK.l.contains a.name=(if a.kind=2 then events.l.contains a.name else vars.l.contains a.name)) (λK6 hK6=>?_) ?_
 rcases hkd with hk0|hk0
 have hk0:a.kind=1:=hk0
 have q2:(a.kind==2)=false:=by rw[hk0]<;>rfl
 rw[if_neg (by rw[hk0];decide),if_neg (by rw[hk0];decide)]at hK6;refine Z1f q2 ?_;refine Z0 ?_;exact hK6 _ vars ⟨zo,rfl⟩ (Za zp zp);have hk0:a.kind=2:=hk0;have q2:(a.kind==2)=true:=zu hk0;rw[if_pos hk0,if_pos hk0]at hK6;refine Z1f q2 ?_;refine Z1 ?_;exact hK6 _ events ⟨hev,rfl⟩ (Za zp zp);rintro NK ⟨hNK,hNKc⟩;generalize(if a.kind=2 then c3 else c2)=cK;rw[<- hNKc]at hst;refine Z1 ?_
 refine Zda (fun(kd0:Int)=>st [(1,Zb c2 1 V.str vars),(2,Zb c3 1 V.str events),(8,Zb .new 1 V.str NS),(9,.int .i64 k),(10,.ptr 10 g10 0),(11,Zb cK 1 V.str NK),(12,.int .u8 kd0),(21,Zb c 3 (Zud c1) s),(22,.int .i64 s.l.length),(23,.int .i64 k)] [(10,.cells .new g10 0 [.int .u8 a.kind,.str a.name,Zb c1 6 Zxa a.x])])
  (λkd0=>(kd0==1)=Z1k (vars.l++[Z9m]) a.x.l) (λK7 hK7=>?_) ?_
 by_cases hx0:a.x.l.length=0
 have hxe:Z1k (vars.l++[Z9m]) a.x.l=true:=by unfold Z1k;rw[List.length_eq_zero_iff.1 hx0]<;>rfl
 have q5:decide ((a.x.l.length:Int)>0)=false:=zF;refine Z1f q5 ?_;refine Z0 ?_;exact hK7 _ 1 (by rw[hxe]<;>rfl) (Za zp zp);have q5:decide ((a.x.l.length:Int)>0)=true:=zT
 have hxe:Z1k (vars.l++[Z9m]) a.x.l=((Z4i NS.l a.x.l).1==1):=by
  unfold Z1k;rw[<- hcg]
  cases hq:a.x.l with
  |nil=>rw[hq]at hx0;exact absurd rfl hx0
  |cons=>rfl
 refine Z1f q5 ?_;refine Z1 ?_;refine Znf @Zfa hG ?_ (s:=(hof _ _ a.x hba.l hba.x));generalize Z4i NS.l a.x.l=r at hxe;obtain⟨kd0,i0,e0⟩:=r;refine Zsf @encO3.eq_1 ?_;exact hK7 _ kd0 hxe.symm (Za zp zp);intro kd0 hkd0
 cases q6:(kd0==1)with
 |false=>
  rw[<- hkd0,q6,Bool.and_false]at hst;rw[if_neg (by rw[hst];decide)]at hR;refine Zhc zk ?_;simp -implicitDefEqProofs only[go_sem,seval,bne,q6];refine Z ?_
  rw[<- hR]<;>rfl
 |true=>
  rw[<- hkd0,q6,Bool.and_true]at hst;refine Zhc zk ?_;simp -implicitDefEqProofs only[go_sem,seval,bne,q6];refine Zc hG ?_ (s:=(Zcd G hG _ a.name NK hNK))
  cases q7:NK.l.contains a.name with
  |false=>
   rw[q7]at hst;rw[if_neg (by rw[hst];decide)]at hR;refine Z ?_
   rw[<- hR]<;>rfl
  |true=>
   rw[q7]at hst;rw[if_pos hst]at hR;refine Z1 ?_;exact hL3 _ ⟨hk1,(),hR,Za zw zp⟩
def toAM(s:ASt):AM:=⟨s.kind,s.name,Zl s.x⟩
theorem toAM_v(s:ASt):(toAM s).v=s:=by
 show ASt.mk s.kind s.name (Zl s.x).l=s
 rw[Zm]
def amS(l:List ASt):Sl AM:=Zl (l.map toAM)
theorem Ztoa(l:List ASt):(amS l).l=l.map toAM:=Zm _
theorem amS_v(l:List ASt):(amS l).l.map AM.v=l:=by
 rw[Ztoa,List.map_map];exact(List.map_congr_left λs _=>toAM_v s).trans (List.map_id _)
theorem Z2w(c:Col)(l:List ASt):Zb c 3 (Zbh c) (Zl l)=Zb c 3 (Zud c) (amS l):=by
 cases l with
 |nil=>rfl
 |cons s r=>
  show V.slice c false 3 ((s::r).map (Zbh c))=V.slice c false 3 (((s::r).map toAM).map (Zud c))
  rw[List.map_map]<;>rfl
structure SB(s:ASt):Prop where
 n:s.name.length<100000
 l:s.x.length<100000
 x:∀ n∈s.x,n.name.length<100000
structure BOk(b:List ASt):Prop where
 s:∀ s∈b,SB s
 k:b.length<=512
theorem BOk.amb{l:List ASt}(h:BOk l):∀ a∈(amS l).l,AmB a:=by
 intro a ha;rw[Ztoa]at ha;obtain⟨s,hs,rfl⟩:=List.mem_map.1 ha;have:=h.s s hs;exact⟨this.n,by show(Zl s.x).l.length<_;rw[Zm];have:=this.l;omega,by show ∀ n∈(Zl s.x).l,_;rw[Zm];exact this.x⟩
theorem BOk.amok{l:List ASt}(h:BOk l):AmOk (amS l).l:=⟨by rw[Ztoa,List.length_map];have:=h.k;omega,λa ha=>⟨(h.amb a ha).n,(h.amb a ha).l,(h.amb a ha).x⟩⟩
theorem Z8na{l:List Tk}(hT:TkOk l):(Zhb l).1.length<100000/\∀ n∈(Zhb l).1,n.name.length<100000:=by
 have hok:=((Z4b l (l.length+1) 1 ⟨0,[],0⟩).ok ⟨Nat.zero_le _,Nat.le_refl _⟩);unfold Zhb
 split
 exact⟨Nat.zero_lt_succ _,λn hn=>by cases hn⟩
 split
 exact⟨Nat.zero_lt_succ _,λn hn=>by cases hn⟩;have:=hok.1;have:=hok.2;have:=hT.len;exact⟨by show(Zga _ _ _ _).2.nodes.length<_;omega,Zch hT⟩
theorem txtP_sm{l:List Tk}(hT:TkOk l)(i:Nat):(Zkc l i).length<100000:=by
 unfold Zkc
 split
 rename_i t h;exact hT.text t (List.mem_of_getElem? h);exact Nat.zero_lt_succ _
theorem Zh8{k:Int}{nm:List UInt8}(h:nm.length<100000):SB ⟨k,nm,[]⟩:=⟨h,Nat.zero_lt_succ _,λn hn=>by cases hn⟩
theorem Z6la{l:List Tk}(hT:TkOk l)(k:Int)(w:List UInt8)(ws:List (List UInt8))(i:Nat):SB (Zve l k w ws i).1:=by
 have ht:=txtP_sm hT i;have hf:=Z8na (l:=l.drop (i+2)) ⟨Nat.lt_of_le_of_lt (by rw[List.length_drop];omega) hT.len,λt h=>hT.text t (List.mem_of_mem_drop h)⟩;unfold Zve Z6t Zto
 split
 exact Zh8 (Nat.zero_lt_succ _)
 split
 exact Zh8 ht
 split
 exact Zh8 ht
 split
 exact Zh8 ht;exact⟨ht,hf.1,hf.2⟩
theorem Zj9{l:List Tk}(hT:TkOk l){n:Nat}:∀ (f i:Nat) (acc:List ASt),BOk acc->BOk (Zcm l n f i acc).1
 |0,i,acc,h=>h
 |f+1,i,acc,h=>by
  rw[Zcm]
  split
  exact h
  split
  exact⟨λs hs=>(by cases hs),Nat.zero_le _⟩;rename_i h5
  split
  exact⟨λs hs=>(by cases hs),Nat.zero_le _⟩;refine Zj9 hT f _ _ ⟨λs hs=>?_,by rw[List.length_append,List.length_singleton];have:=h.k;omega⟩
  rcases List.mem_append.1 hs with hs|hs
  exact h.s s hs;rw[List.mem_singleton.1 hs];unfold Zsd
  split<;>exact Z6la hT _ _ _ _
theorem Zfx{s:List UInt8}(hs:s.length<=900):BOk (Z7k s).1:=by
 unfold Z7k
 split
 exact⟨λs hs=>(by cases hs),Nat.zero_le _⟩;exact Zj9 (Zml zo) _ _ _ ⟨λs hs=>(by cases hs),Nat.zero_le _⟩
theorem Zpr(G:Nat->V)(hE:GExp G)(s:List UInt8)(hs:s.length<100000):Spec Tryz.prog G 169 [.str s] Zk (λv _=>v=.bool (Zoe s)):=by
 have hG:=hE.ok;refine Zo 0 26 [.tmp 2] Tryz.func169 λX=>?_;rw[Zoe];refine Z ?_;refine Zn hG ?_ (s:=Zle G hE s hs);generalize Zja s=p;obtain⟨l,a,q⟩:=p;simp only[encTok,encTks];refine Zs ?_;cases q0:(q==0);exact Zh q0
 have e1:(((l.length:Nat):Int)==1)=(l.length==1):=by
  rw[Bool.eq_iff_iff,beq_iff_eq,beq_iff_eq];omega
 cases q1:(l.length==1);rw[q1]at e1;exact Zh (zi q0 (zi e1 (@Zm Tk l)));rw[q1]at e1;have h1:l.length=1:=zu q1;obtain⟨t,rfl⟩:∃ t,l=[t]:=List.length_eq_one_iff.1 h1;exact Zh (zi q0 Zdb)
def Zba(vs ev:List (List UInt8))(s:List UInt8):Bool:=(Z7k s).2.2==0&&(Zbk (Z7k s).1 vs ev).2==0
theorem Zbm(G:Nat->V)(hE:GExp G)(b c d e:Col)(m:MdM)(ns vs:Sl (List UInt8))(s:List UInt8)(hs:s.length<=900)(hv:vs.l.length<100000)(hev:m.events.l.length<1000000):
  Spec Tryz.prog G 173 [ckV b c d e m ns vs,.str s] Zk (λw _=>w=.bool (Zba vs.l m.events.l s)):=by
 have hG:=hE.ok;refine Zo 0 32 [.tmp 4] Tryz.func173 λX=>?_;have hbk:=Zfx hs;have hT:=λc c1 c2 c3=>Z92 G hE c c1 c2 c3 (amS (Z7k s).1) vs m.events (by rw[Ztoa,List.length_map];have:=hbk.k;omega) hbk.amb hv hev;rw[amS_v]at hT;have hp:=Za3 G hE s zo;rw[Zba];generalize Z7k s=p at hT hp hbk;obtain⟨l,a,q⟩:=p;simp only at hT hbk;generalize Zbk l vs.l m.events.l=t at hT;refine Z ?_;refine Zn hG ?_ (s:=hp);simp only[encBP,Ze9,Z2w];refine Zs ?_;intro g5;refine AW.weak (Zt (λo=>o==5) (l:=[(0,ckV b c d e m ns vs),(5,.view .new (.agg [Zb .new 3 (Zud .new) (amS l)])),(7,.int .i64 q)]) (m:=[]) ?_ trivial) ?_;refine Zs ?_;exact⟨Fz.same _,Fz.ptr (v:=.agg [Zb .new 3 (Zud .new) (amS l)]) (c:=.new) (fz:=0) rfl zp,Fz.same _⟩;cases q0:(q==0);have q1:(q != 0)=true:=zu q0;exact Zq q1;have q1:(q != 0)=false:=zu q0;refine Z1f q1 ?_;refine Z0f q1 ?_;refine Z4 ?_;refine Zw ⟨λi=>if i=10 then .tuple [.int .i64 t.1,.int .i64 t.2]else .top,λ_=>.pure⟩ zk hG zk zk ?_;refine Zsf @Z1b ?_;refine⟨⟨by kernel_rfl,by refine Zs ?_;exact(hT _ _ _ _).mono (by rintro _ _ rfl;rfl)⟩,?_⟩;refine Z ?_;rw[Bool.true_and]
theorem u8Im(x:Int):∀ y∈(V.int .u8 x).cells,y.Im:=λy hy=>by
 simp only[V.cells,List.mem_cons,List.not_mem_nil,or_false]at hy;rw[hy];exact .int _ _
theorem Rd.u8{H:Heap}{o g n:Nat}{l:List Int}(h:H o=.cells .new g 0 (flat (l.map (V.int .u8))))(hn:l.length=n):Rd H (.msl o g 0 n 1) (Zb .old 1 (V.int .u8) (.mk false l)):=by
 subst hn;have:=Rd.msl (l:=l) (off:=0) (n:=l.length) (m:=1) (f:=V.int .u8) (f':=V.int .u8) (g:=g) (fz:=0) (c:=.new) h (λ_=>rfl) u8Im (λ_=>rfl) zo;rw[List.drop_zero,List.take_length,Nat.zero_mul]at this;exact this
theorem Zog(k x:Int):(Sl.mk false [k]).l.contains x=(x==k):=by
 show[k].contains x=_
 rw[List.contains_cons,List.contains_nil,Bool.or_false]
theorem Z57(k j x:Int):(Sl.mk false [k,j]).l.contains x=(x==k||x==j):=by
 show[k,j].contains x=_
 rw[List.contains_cons,List.contains_cons,List.contains_nil,Bool.or_false]
theorem eqN(n k:Nat):(((n:Nat):Int)==((k:Nat):Int))=(n==k):=by rw[Bool.eq_iff_iff,beq_iff_eq,beq_iff_eq];omega
theorem r3_spec(G:Nat->V)(hG:GOk G)(b c d e:Col)(m:MdM)(ns vs:Sl (List UInt8))(hw:m.ways.l.length<1000000)(v:Int)(h0:0<=v)(h1:v<m.p.vertices.length):
  Spec Tryz.prog G 85 [ckV b c d e m ns vs,.int .i64 v] Zk (λw _=>w=.bool (m.p.k3 v)):=by
 refine Zo 0 17 [.tmp 4] Tryz.func85 λX=>?_;rw[PM.k3];refine Z ?_;intro g7;refine Zs ?_;refine Zua hG [ckV b.ent c.ent d.ent e.ent m ns vs,.int .i64 v,Zb .old 1 (V.int .u8) (.mk false [2,12])] zk ⟨Z0a (Zcu _ _ _ _ _ _ _) zp,Z0a (.int _ _) rfl,Rd.u8 (l:=[2,12]) zp rfl,trivial⟩ ?_;refine(Zzb G hG _ _ _ _ .old m ns vs v h0 h1 (.mk false [2,12]) zd).mono ?_;rintro _ _ rfl;refine⟨.bool _,?_⟩;rw[Z57];cases q:(m.p.kd v==2||m.p.kd v==12);refine Zs ?_;exact Zr;refine Zs ?_;refine Zc hG ?_ (s:=Zwf G hG _ _ _ _ m ns vs hw v);refine Z ?_
 rw[Bool.false_or,<- eqN]<;>rfl
theorem PM.Rt.wayAt{m:PM}(h:m.Rt):∀ t∈m.ways,(0<=t.source/\t.source<m.vertices.length)/\(0<=t.target/\t.target<m.vertices.length):=by
 intro t ht;obtain⟨i,hi,rfl⟩:=List.mem_iff_getElem.1 ht;have:=h.way i hi
 have e:m.wy (i:Int)=m.ways[i]:=by
  show m.ways.getD ((i:Int)).toNat wy0=_
  rw[List.getD_eq_getElem?_getD,Int.toNat_natCast,List.getElem?_eq_getElem hi]<;>rfl
 rw[e]at this;simp only[PM.wayB,PM.inV,Bool.and_eq_true,decide_eq_true_eq]at this;exact⟨this.1.1.1.1.1.1.1.1.1.2,this.1.1.1.1.1.1.1.1.2⟩
theorem PM.Rt.outR{m:PM}(h:m.Rt)(v:Int):∀ u∈m.out v,0<=u/\u<m.vertices.length:=by
 intro u hu;obtain⟨t,ht,rfl⟩:=List.mem_map.1 hu;exact(h.wayAt t (List.mem_filter.1 ht).1).2
theorem PM.Rt.incR{m:PM}(h:m.Rt)(v:Int):∀ u∈m.inc v,0<=u/\u<m.vertices.length:=by
 intro u hu;obtain⟨t,ht,rfl⟩:=List.mem_map.1 hu;exact(h.wayAt t (List.mem_filter.1 ht).1).1
theorem Zdp(m:MdM)(v:Int):(m.p.out v).length<=m.ways.l.length:=by
 rw[Zbha,List.length_map];exact List.length_filter_le _ _
theorem Znia(m:MdM)(v:Int):(m.p.inc v).length<=m.ways.l.length:=by
 rw[Zmia,List.length_map];exact List.length_filter_le _ _
theorem gtN(n k:Nat):decide (((n:Nat):Int)>((k:Nat):Int))=decide (k<n):=decide_eq_decide.2 zo
theorem Z2n{l:List Int}{k:Nat}(h:decide (k<l.length)=true):l≠[]:=by
 rintro rfl;simp at h
theorem r4_spec(G:Nat->V)(hG:GOk G)(b c d e:Col)(m:MdM)(ns vs:Sl (List UInt8))(hm:m.p.Rt)(hw:m.ways.l.length<1000000)(v:Int)(h0:0<=v)(h1:v<m.p.vertices.length):
  Spec Tryz.prog G 86 [ckV b c d e m ns vs,.int .i64 v] Zk (λw _=>w=.bool (m.p.k4 v)):=by
 refine Zo 0 31 [.tmp 4] Tryz.func86 λX=>?_;rw[PM.k4];have ho:=hm.outR v;have hl:=Zdp m v;refine Z ?_;refine Zc hG ?_ (s:=Zwf G hG _ _ _ _ m ns vs hw v);generalize m.p.out v=out at ho hl;refine Z ?_;intro g11;refine Zs ?_;refine Zua hG [ckV b.ent c.ent d.ent e.ent m ns vs,.int .i64 v,Zb .old 1 (V.int .u8) (.mk false [6])] zk ⟨Z0a (Zcu _ _ _ _ _ _ _) zp,Z0a (.int _ _) rfl,Rd.u8 (l:=[6]) zp rfl,trivial⟩ ?_;refine(Zzb G hG _ _ _ _ .old m ns vs v h0 h1 (.mk false [6]) zd).mono ?_;rintro _ _ rfl;refine⟨.bool _,?_⟩;rw[Zog];cases q:(m.p.kd v==6);refine Zs ?_;exact Zr;refine Zs ?_;refine Zc hG ?_ (s:=Z5k G hG _ _ _ _ m ns vs hw v);have e1:(((m.p.inc v).length:Int)==1)=((m.p.inc v).length==1):=eqN _ 1;cases q1:((m.p.inc v).length==1);rw[q1]at e1;exact Zh (zi e1 (@Zm Int (m.p.inc v)));rw[q1]at e1;have e2:decide ((out.length:Int)>1)=decide (1<out.length):=gtN _ 1;cases q2:decide (1<out.length);rw[q2]at e2;exact Zh (zi e1 (zi e2 (zi (@Zm Int (m.p.inc v)) (@Zm Int out))));rw[q2]at e2;refine Zg (zi e1 (zi e2 (zi (@Zm Int (m.p.inc v)) (@Zm Int out)))) ?_;have hp:=Zam G hG b.ent c.ent d.ent e.ent .old m ns vs hm (Zl out) (by rw[Zm];exact Z2n q2) (by rw[Zm];omega) (by rw[Zm];exact ho);rw[Zm]at hp;refine Zc hG ?_ (s:=hp);refine Z ?_;rfl
theorem Rd.i64{H:Heap}{o g n:Nat}{l:List Int}(h:H o=.cells .new g 0 (flat (l.map (V.int .i64))))(hn:l.length=n):Rd H (.msl o g 0 n 1) (Zb .old 1 (V.int .i64) (.mk false l)):=by
 subst hn;have:=Rd.msl (l:=l) (off:=0) (n:=l.length) (m:=1) (f:=V.int .i64) (f':=V.int .i64) (g:=g) (fz:=0) (c:=.new) h (λ_=>rfl) inIm (λ_=>rfl) zo;rw[List.drop_zero,List.take_length,Nat.zero_mul]at this;exact this
theorem Zwma(G:Nat->V)(hE:GExp G)(b c d e:Col)(m:MdM)(ns vs:Sl (List UInt8))(hvs:vs.l=m.p.vn)(hv:vs.l.length<100000)(hev:m.events.l.length<1000000)(t:Int)(h0:0<=t)(h1:t<m.p.ways.length)(hx:(m.p.wy t).effect.length<=900):
  Spec Tryz.prog G 94 [ckV b c d e m ns vs,.int .i64 t] Zk (λw _=>w=.bool (m.p.k12 Zba t)):=by
 have hG:=hE.ok;refine Zo 0 16 [.tmp 4] Tryz.func94 λX=>?_;obtain⟨k,x,rfl,hk,hg,hxe⟩:=Zxd h0 h1;rw[PM.k12,PM.body,hxe,<- hvs];rw[hxe]at hx;refine Zf (zi hg (zi hk (zi Z7 (zi Z1b (zi @Int.natCast_nonneg @Int.ofNat_lt))))) ?_;refine Zc hG ?_ (s:=Zbm G hE b.ent c.ent d.ent e.ent m ns vs x.effect hx hv hev);exact Zr
theorem Zvma(G:Nat->V)(hE:GExp G)(b c d e:Col)(m:MdM)(ns vs:Sl (List UInt8))(hvs:vs.l=m.p.vn)(hv:vs.l.length<100000)(hev:m.events.l.length<1000000)(v:Int)(h0:0<=v)(h1:v<m.p.vertices.length)(hx:(m.p.vx v).entry.length<=900/\(m.p.vx v).exit.length<=900):
  Spec Tryz.prog G 95 [ckV b c d e m ns vs,.int .i64 v] Zk (λw _=>w=.bool (m.p.k13 Zba v)):=by
 have hG:=hE.ok;refine Zo 0 36 [.tmp 4] Tryz.func95 λX=>?_;rw[PM.k13,PM.body,PM.body,<- hvs];refine Z ?_;intro g7;refine Zs ?_;refine Zua hG [ckV b.ent c.ent d.ent e.ent m ns vs,.int .i64 v,Zb .old 1 (V.int .u8) (.mk false [1])] zk ⟨Z0a (Zcu _ _ _ _ _ _ _) zp,Z0a (.int _ _) rfl,Rd.u8 (l:=[1]) zp rfl,trivial⟩ ?_;refine(Zzb G hG _ _ _ _ .old m ns vs v h0 h1 (.mk false [1]) zd).mono ?_;rintro _ _ rfl;refine⟨.bool _,?_⟩;rw[Zog];obtain⟨k,x,rfl,hk,hg,hxe⟩:=MdM.at h0 h1;rw[hxe]at hx⊢;cases q:(m.p.kd k==1);refine Zs ?_;exact Zr;refine Zg (zi hg (zi hk (zi Zp (zi Z1b (zi @Int.natCast_nonneg @Int.ofNat_lt))))) ?_;refine Zc hG ?_ (s:=Zbm G hE b.ent c.ent d.ent e.ent m ns vs x.entry hx.1 hv hev);have ht:Zba vs.l m.p.events x.p.entry=Zba vs.l m.events.l x.entry:=rfl;have ht2:Zba vs.l m.p.events x.p.exit=Zba vs.l m.events.l x.exit:=rfl;rw[ht,ht2];cases q1:Zba vs.l m.events.l x.entry;exact Zh q1;refine Zg (zi q1 (zi hg (zi hk (zi Zp (zi Z1b (zi @Int.natCast_nonneg @Int.ofNat_lt)))))) ?_;refine Zc hG ?_ (s:=Zbm G hE b.ent c.ent d.ent e.ent m ns vs x.exit hx.2 hv hev);exact Zr
theorem Zuma(G:Nat->V)(hG:GOk G)(b c d e:Col)(m:MdM)(ns vs:Sl (List UInt8))(hm:m.p.Rt)(t:Int)(h0:0<=t)(h1:t<m.p.ways.length):
  Spec Tryz.prog G 96 [ckV b c d e m ns vs,.int .i64 t] Zk (λw _=>w=.bool (m.p.k14 t)):=by
 refine Zo 0 22 [.tmp 4] Tryz.func96 λX=>?_;obtain⟨k,x,rfl,hk,hg,hxe⟩:=Zxd h0 h1;obtain⟨⟨s0,s1⟩,t0,t1⟩:=hm.wayAt x.p (List.mem_of_getElem? (i:=k) (by show(m.ways.l.map TrM.p)[k]?=_;rw[List.getElem?_map,hg]<;>rfl));rw[PM.k14,hxe];refine Zf (zi hg (zi hk (zi Z7 (zi Z1b (zi @Int.natCast_nonneg @Int.ofNat_lt))))) ?_;intro g5;refine Zf Z7 ?_;intro g19;refine Zs ?_;refine Zua hG [ckV b.ent c.ent d.ent e.ent m ns vs,Zb .old 1 (V.int .i64) (.mk false [x.source,x.target])] zk ⟨Z0a (Zcu b c d e m ns vs) (Zth _ _ _ _ _ _ _ _),Rd.i64 (l:=[x.source,x.target]) zp rfl,trivial⟩ ?_;refine(Zam G hG _ _ _ _ .old m ns vs hm (.mk false [x.source,x.target]) (by intro h;cases h) (by show 2<1000000;decide) (λv hv=>?_)).mono ?_;have hv:v∈[x.source,x.target]:=hv;simp only[List.mem_cons,List.not_mem_nil,or_false]at hv
 rcases hv with rfl|rfl
 exact⟨s0,s1⟩;exact⟨t0,t1⟩;rintro _ _ rfl;refine⟨.bool _,?_⟩;refine Zs ?_;exact Zr
theorem r9_spec(G:Nat->V)(hG:GOk G)(b c d e:Col)(m:MdM)(ns vs:Sl (List UInt8))(hm:m.p.Rt)(t:Int)(h0:0<=t)(h1:t<m.p.ways.length):
  Spec Tryz.prog G 91 [ckV b c d e m ns vs,.int .i64 t] Zk (λw _=>w=.bool (m.p.k9 t)):=by
 refine Zo 0 30 [.tmp 4] Tryz.func91 λX=>?_;obtain⟨k,x,rfl,hk,hg,hxe⟩:=Zxd h0 h1;obtain⟨⟨s0,s1⟩,t0,t1⟩:=hm.wayAt x.p (List.mem_of_getElem? (i:=k) (by show(m.ways.l.map TrM.p)[k]?=_;rw[List.getElem?_map,hg]<;>rfl));rw[PM.k9,hxe];have hp:(x.p.triggers.length==0&&x.p.after==0||m.p.kd x.p.source==1)=((x.triggers.l.length==0&&x.after==0)||m.p.kd x.source==1):=rfl;rw[hp];refine Zf (zi hg (zi hk (zi Z7 (zi Z1b (zi @Int.natCast_nonneg @Int.ofNat_lt))))) ?_;intro g5;have e1:((x.triggers.l.length:Int)==0)=(x.triggers.l.length==0):=eqN _ 0;cases q1:(x.triggers.l.length==0);rw[q1]at e1;refine Zf (zi e1 Z7) ?_;intro g27;refine Zs ?_;refine Zua hG [ckV b.ent c.ent d.ent e.ent m ns vs,.int .i64 x.source,Zb .old 1 (V.int .u8) (.mk false [1])] zk ⟨Z0a (Zcu _ _ _ _ _ _ _) zp,Z0a (.int _ _) rfl,Rd.u8 (l:=[1]) zp rfl,trivial⟩ ?_;refine(Zzb G hG _ _ _ _ .old m ns vs x.source s0 s1 (.mk false [1]) zd).mono ?_;rintro _ _ rfl;refine⟨.bool _,?_⟩;rw[Zog];refine Zs ?_;exact Zr;rw[q1]at e1;cases q2:(x.after==0);refine Zf (zi e1 (zi q2 Z7)) ?_;intro g27;refine Zs ?_;refine Zua hG [ckV b.ent c.ent d.ent e.ent m ns vs,.int .i64 x.source,Zb .old 1 (V.int .u8) (.mk false [1])] zk ⟨Z0a (Zcu _ _ _ _ _ _ _) zp,Z0a (.int _ _) rfl,Rd.u8 (l:=[1]) zp rfl,trivial⟩ ?_;refine(Zzb G hG _ _ _ _ .old m ns vs x.source s0 s1 (.mk false [1]) zd).mono ?_;rintro _ _ rfl;refine⟨.bool _,?_⟩;rw[Zog];refine Zs ?_;exact Zr;exact Zq (zi e1 (zi q2 Z7))
theorem r1_spec(G:Nat->V)(hG:GOk G)(b c d e:Col)(m:MdM)(ns vs:Sl (List UInt8))(hl:m.verts.l.length<1000000)(r:Int):
  Spec Tryz.prog G 83 [ckV b c d e m ns vs,.int .i64 r] Zk (λw _=>w=.bool (m.p.k1 r)):=by
 refine Zo 0 34 [.tmp 4] Tryz.func83 λX=>?_
 have hP:m.p.k1 r=((m.verts.l.filter λx=>x.kind==3&&x.region==r).length==1):=by
  show(((m.verts.l.map VtM.p).filter _).length==1)=_
  rw[List.filter_map,List.length_map]<;>rfl
 rw[hP];simp only[Z1b];refine Z ?_
 refine Z9 m.verts.l.length (λk (_:Unit)=>st [(0,ckV b c d e m ns vs),(1,.int .i64 r),(5,.int .i64 ((m.verts.l.take k).filter λx=>x.kind==3&&x.region==r).length),(12,Zb c 8 (Zha d) m.verts),(13,.int .i64 m.verts.l.length),(14,.int .i64 k)] [])
  (λ_ _=>True) 0 () (Nat.zero_le _) trivial (Za (zpf @Z1b) zp) ?_
 intro k _ hk _ L3 hL3
 by_cases hk1:k<m.verts.l.length
 have hlt:decide ((k:Int)<(m.verts.l.length:Int))=true:=zT;have hg:=List.getElem?_eq_getElem hk1
 have htk:m.verts.l.take (k+1)=m.verts.l.take k++[m.verts.l[k]]:=by rw[List.take_succ_eq_append_getElem hk1]
 have hn:((m.verts.l.take k).filter λx=>x.kind==3&&x.region==r).length<=k:=Nat.le_trans (List.length_filter_le _ _) (by rw[List.length_take];omega);generalize m.verts.l[k]=x at hg htk;rw[htk,List.filter_append,List.length_append]at hL3;generalize((m.verts.l.take k).filter λx=>x.kind==3&&x.region==r).length=n at hn hL3;have w1:IntKind.i64.wrap ((k:Int)+1)=(k:Int)+1:=w64 zo zo;have w2:IntKind.i64.wrap ((n:Int)+1)=(n:Int)+1:=w64 zo zo;have h0:(0:Int)<=(k:Int):=Int.natCast_nonneg k
 have h1:(k:Int)<m.p.vertices.length:=by rw[m.nv];omega
 have hkd:m.p.kd (k:Int)=x.kind:=by rw[PM.kd,Zxf hg]<;>rfl
 refine Zf (zi hlt (zi hg Zp)) ?_;intro g7;refine Z ?_;intro g21;refine Zs ?_;refine Zua hG [ckV b.ent c.ent d.ent e.ent m ns vs,.int .i64 k,Zb .old 1 (V.int .u8) (.mk false [3])] zk ⟨Z0a (Zcu _ _ _ _ _ _ _) zp,Z0a (.int _ _) rfl,Rd.u8 (l:=[3]) zp rfl,trivial⟩ ?_;refine(Zzb G hG _ _ _ _ .old m ns vs k h0 h1 (.mk false [3]) zd).mono ?_;rintro _ _ rfl;refine⟨.bool _,?_⟩;rw[Zog,hkd];cases q1:(x.kind==3);rw[List.filter_cons_of_neg (by simp[q1])]at hL3;simp only[List.filter_nil,List.length_nil,Nat.add_zero]at hL3;refine Zs ?_;refine Zf w1 ?_;exact hL3 _ ⟨hk1,(),trivial,Za zp zp⟩;cases q2:(x.region==r);rw[List.filter_cons_of_neg (by simp[q2])]at hL3;simp only[List.filter_nil,List.length_nil,Nat.add_zero]at hL3;refine Zg (zi q2 (zi w1 Zp)) ?_;exact hL3 _ ⟨hk1,(),trivial,Za zp zp⟩;rw[List.filter_cons_of_pos (by simp[q1,q2])]at hL3;simp only[List.filter_nil,List.length_cons,List.length_nil,Nat.zero_add]at hL3;refine Zg (zi q2 (zi w1 (zi w2 Zp))) ?_;exact hL3 _ ⟨hk1,(),trivial,Za (by refine Zs ?_;exact⟨rfl,rfl⟩) zp⟩;have hke:k=m.verts.l.length:=zo;subst hke;rw[List.take_length];have hlt:decide ((m.verts.l.length:Int)<(m.verts.l.length:Int))=false:=zS;refine Zf hlt ?_
 rw[<- eqN]<;>rfl
theorem Zxma(G:Nat->V)(hG:GOk G)(b c d e:Col)(m:MdM)(ns vs:Sl (List UInt8))(hm:m.p.Rt)(t:Int)(h0:0<=t)(h1:t<m.p.ways.length):
  Spec Tryz.prog G 93 [ckV b c d e m ns vs,.int .i64 t] Zk (λw _=>w=.bool (m.p.k11 t)):=by
 refine Zo 0 45 [.tmp 4] Tryz.func93 λX=>?_;obtain⟨k,x,rfl,hk,hg,hxe⟩:=Zxd h0 h1;obtain⟨⟨s0,s1⟩,t0,t1⟩:=hm.wayAt x.p (List.mem_of_getElem? (i:=k) (by show(m.ways.l.map TrM.p)[k]?=_;rw[List.getElem?_map,hg]<;>rfl));rw[PM.k11,hxe]
 have hp:(if x.p.kind=3 then x.p.source==x.p.target&&m.p.kd x.p.source==1 else if x.p.kind=2 then m.p.kd x.p.source==1&&m.p.inB x.p.target x.p.source else true) =
  (if x.kind=3 then x.source==x.target&&m.p.kd x.source==1 else if x.kind=2 then m.p.kd x.source==1&&m.p.inB x.target x.source else true):=rfl
 rw[hp];refine Zf (zi hg (zi hk (zi Z7 (zi Z1b (zi @Int.natCast_nonneg @Int.ofNat_lt))))) ?_;intro g5
 by_cases hk3:x.kind=3
 rw[if_pos hk3];have q:(x.kind==3)=true:=zu hk3;cases q1:(x.source==x.target);exact Zq (zi q (zi q1 Z7));refine Zf (zi q (zi q1 Z7)) ?_;intro g27;refine Zs ?_;refine Zua hG [ckV b.ent c.ent d.ent e.ent m ns vs,.int .i64 x.source,Zb .old 1 (V.int .u8) (.mk false [1])] zk ⟨Z0a (Zcu _ _ _ _ _ _ _) zp,Z0a (.int _ _) rfl,Rd.u8 (l:=[1]) zp rfl,trivial⟩ ?_;refine(Zzb G hG _ _ _ _ .old m ns vs x.source s0 s1 (.mk false [1]) zd).mono ?_;rintro _ _ rfl;refine⟨.bool _,?_⟩;rw[Zog];refine Zs ?_;exact Zr;rw[if_neg hk3];have q:(x.kind==3)=false:=zu hk3
 by_cases hk2:x.kind=2
 rw[if_pos hk2];have q1:(x.kind==2)=true:=zu hk2;refine Zf (zi q (zi q1 Z7)) ?_;intro g35;refine Zs ?_;refine Zua hG [ckV b.ent c.ent d.ent e.ent m ns vs,.int .i64 x.source,Zb .old 1 (V.int .u8) (.mk false [1])] zk ⟨Z0a (Zcu _ _ _ _ _ _ _) zp,Z0a (.int _ _) rfl,Rd.u8 (l:=[1]) zp rfl,trivial⟩ ?_;refine(Zzb G hG _ _ _ _ .old m ns vs x.source s0 s1 (.mk false [1]) zd).mono ?_;rintro _ _ rfl;refine⟨.bool _,?_⟩;rw[Zog];cases q2:(m.p.kd x.source==1);exact Zh q2;refine Zg (zi q2 Z7) ?_;refine Zc hG ?_ (s:=Z6k G hG b.ent c.ent d.ent e.ent m ns vs hm x.target x.source t0 t1);exact Zr;rw[if_neg hk2];have q1:(x.kind==2)=false:=zu hk2;exact Zq (zi q q1)
theorem Ztma(G:Nat->V)(hG:GOk G)(b c d e:Col)(m:MdM)(ns vs:Sl (List UInt8))(hm:m.p.Rt)(t:Int)(h0:0<=t)(h1:t<m.p.ways.length):
  Spec Tryz.prog G 97 [ckV b c d e m ns vs,.int .i64 t] Zk (λw _=>w=.bool (m.p.k15 t)):=by
 refine Zo 0 65 [.tmp 4] Tryz.func97 λX=>?_;obtain⟨k,x,rfl,hk,hg,hxe⟩:=Zxd h0 h1;obtain⟨⟨s0,s1⟩,t0,t1⟩:=hm.wayAt x.p (List.mem_of_getElem? (i:=k) (by show(m.ways.l.map TrM.p)[k]?=_;rw[List.getElem?_map,hg]<;>rfl));obtain⟨i,y,hi,hik,hig,hy⟩:=MdM.at t0 t1;obtain⟨j,z,hj,hjk,hjg,hz⟩:=MdM.at s0 s1;rw[PM.k15,hxe,PM.kd,hy,hz];have hi:x.target=(i:Int):=hi;have hj:x.source=(j:Int):=hj
 have hp:(if y.p.kind=10 then !(x.p.source==y.p.of) && !m.p.inB x.p.source y.p.of else if y.p.kind=11 then m.p.inB x.p.source y.p.of && !(z.p.of==y.p.of)else true) =
  (if y.kind=10 then !(x.source==y.of) && !m.p.inB x.source y.of else if y.kind=11 then m.p.inB x.source y.of && !(z.of==y.of)else true):=rfl
 rw[hp];refine Zf (zi hg (zi hk (zi Z7 (zi Z1b (zi @Int.natCast_nonneg @Int.ofNat_lt))))) ?_;intro g5;refine ZTf (zi hi (zi hig (zi hik (zi Z7 (zi Zp (zi Z1b (zi @Int.natCast_nonneg @Int.ofNat_lt))))))) hG ?_;intro g6
 by_cases hk10:y.kind=10
 rw[if_pos hk10];have q:(y.kind==10)=true:=zu hk10;cases q1:(x.source==y.of)
 have q2:(x.source != y.of)=true:=by rw[bne,q1]<;>rfl
 refine Zf (zi q (zi q2 (zi Z7 Zp))) ?_;refine Zc hG ?_ (s:=Z6k G hG b.ent c.ent d.ent e.ent m ns vs hm x.source y.of s0 s1);exact Zr
 have q2:(x.source != y.of)=false:=by rw[bne,q1]<;>rfl
 exact Zq (zi q (zi q2 (zi Z7 Zp)));rw[if_neg hk10];have q:(y.kind==10)=false:=zu hk10
 by_cases hk11:y.kind=11
 rw[if_pos hk11];have q1:(y.kind==11)=true:=zu hk11;have hsp:=λb c d e=>Z6k G hG b c d e m ns vs hm x.source y.of s0 s1;rw[hj]at hsp⊢;refine Z1f (zi q (zi q1 hj)) ?_;refine Z1f (zi q (zi q1 hj)) ?_;refine Z1f (zi q (zi q1 hj)) ?_;refine Z0f (zi q (zi q1 hj)) ?_;generalize m.p.inB (j:Int) y.of=bb at hsp⊢;refine Z4 ?_;cases bb;refine Zw ⟨λi=>if i=5 then .bool false else .top,λ_=>.pure⟩ zk hG zk zk ?_;refine Zsf (zi hj (zi hjg (zi hjk (zi @Zp (zi @Z7 (zi @Z1b (zi @Int.natCast_nonneg @Int.ofNat_lt))))))) ?_;refine⟨⟨by kernel_rfl,by refine Zs ?_;exact(hsp _ _ _ _).mono (by rintro _ _ rfl;rfl)⟩,?_⟩;exact Zr;refine Zw ⟨λi=>if i=5 then .bool true else .top,λ_=>.pure⟩ zk hG zk zk ?_;refine Zsf (zi hj (zi hjg (zi hjk (zi @Zp (zi @Z7 (zi @Z1b (zi @Int.natCast_nonneg @Int.ofNat_lt))))))) ?_;refine⟨⟨by kernel_rfl,by refine Zs ?_;exact(hsp _ _ _ _).mono (by rintro _ _ rfl;rfl)⟩,?_⟩;exact Zr;rw[if_neg hk11];have q1:(y.kind==11)=false:=zu hk11;exact Zq (zi q q1)
theorem leN(n k:Nat):decide (((n:Nat):Int)<=((k:Nat):Int))=decide (n<=k):=decide_eq_decide.2 zo
theorem r6_spec(G:Nat->V)(hE:GExp G)(b c d e:Col)(m:MdM)(ns vs:Sl (List UInt8))(hw:m.ways.l.length<1000000)(hgl:∀ t∈m.ways.l,t.guard.length<100000)(v:Int)(h0:0<=v)(h1:v<m.p.vertices.length):
  Spec Tryz.prog G 88 [ckV b c d e m ns vs,.int .i64 v] Zk (λw _=>w=.bool (m.p.k6 v)):=by
 have hG:=hE.ok;refine Zo 0 53 [.tmp 4] Tryz.func88 λX=>?_
 have hP:m.p.elses v=(m.ways.l.filter λt=>t.source==v&&Zoe t.guard).length:=by
  show((m.ways.l.map TrM.p).filter _).length=_
  rw[List.filter_map,List.length_map]<;>rfl
 rw[PM.k6,hP];simp only[Z1b];refine Z ?_
 refine Z9 m.ways.l.length (λk (_:Unit)=>st [(0,ckV b c d e m ns vs),(1,.int .i64 v),(5,.int .i64 ((m.ways.l.take k).filter λt=>t.source==v&&Zoe t.guard).length),(12,Zb c 8 (Zqa d) m.ways),(13,.int .i64 m.ways.l.length),(14,.int .i64 k)] [])
  (λ_ _=>True) 0 () (Nat.zero_le _) trivial (Za (zpf @Z1b) zp) ?_
 intro k _ hk _ L3 hL3
 by_cases hk1:k<m.ways.l.length
 have hlt:decide ((k:Int)<(m.ways.l.length:Int))=true:=zT;have hg:=List.getElem?_eq_getElem hk1
 have htk:m.ways.l.take (k+1)=m.ways.l.take k++[m.ways.l[k]]:=by rw[List.take_succ_eq_append_getElem hk1]
 have hxl:=hgl m.ways.l[k] (List.getElem_mem hk1);have hn:((m.ways.l.take k).filter λt=>t.source==v&&Zoe t.guard).length<=k:=Nat.le_trans (List.length_filter_le _ _) (by rw[List.length_take];omega);generalize m.ways.l[k]=x at hg htk hxl;rw[htk,List.filter_append,List.length_append]at hL3;generalize((m.ways.l.take k).filter λt=>t.source==v&&Zoe t.guard).length=n at hn hL3;have w1:IntKind.i64.wrap ((k:Int)+1)=(k:Int)+1:=w64 zo zo;have w2:IntKind.i64.wrap ((n:Int)+1)=(n:Int)+1:=w64 zo zo;refine Zf (zi hlt (zi hg Z7)) ?_;intro g7;cases q1:(x.source==v);rw[List.filter_cons_of_neg (by simp[q1])]at hL3;simp only[List.filter_nil,List.length_nil,Nat.add_zero]at hL3;refine Zf (zi q1 (zi w1 Z7)) ?_;exact hL3 _ ⟨hk1,(),trivial,Za (zpf @Z1b) zp⟩;refine Zf (zi q1 Z7) ?_;refine Zc hG ?_ (s:=Zpr G hE x.guard hxl);cases q2:Zoe x.guard;rw[List.filter_cons_of_neg (by simp[q2])]at hL3;simp only[List.filter_nil,List.length_nil,Nat.add_zero]at hL3;refine Zg (zi q2 w1) ?_;exact hL3 _ ⟨hk1,(),trivial,Za (zpf @Z1b) zp⟩;rw[List.filter_cons_of_pos (by simp[q1,q2])]at hL3;simp only[List.filter_nil,List.length_cons,List.length_nil,Nat.zero_add]at hL3;refine Zg (zi q2 (zi w1 w2)) ?_;exact hL3 _ ⟨hk1,(),trivial,Za (by simp -implicitDefEqProofs only[go_sem,seval,Z1b];exact⟨rfl,rfl⟩) zp⟩;have hke:k=m.ways.l.length:=zo;subst hke;rw[List.take_length];have hlt:decide ((m.ways.l.length:Int)<(m.ways.l.length:Int))=false:=zS;generalize(m.ways.l.filter λt=>t.source==v&&Zoe t.guard).length=n;refine Zf hlt ?_;intro g32;refine Zs ?_;refine Zua hG [ckV b.ent c.ent d.ent e.ent m ns vs,.int .i64 v,Zb .old 1 (V.int .u8) (.mk false [4,5])] zk ⟨Z0a (Zcu _ _ _ _ _ _ _) zp,Z0a (.int _ _) rfl,Rd.u8 (l:=[4,5]) zp rfl,trivial⟩ ?_;refine(Zzb G hG _ _ _ _ .old m ns vs v h0 h1 (.mk false [4,5]) zd).mono ?_;rintro _ _ rfl;refine⟨.bool _,?_⟩;rw[Z57];cases q:(m.p.kd v==4||m.p.kd v==5)
 refine Zs ?_;exact Zr;refine Zs ?_;refine Zc hG ?_ (s:=Z5k G hG _ _ _ _ m ns vs hw v);have e1:decide (((m.p.inc v).length:Int)>0)=decide (0<(m.p.inc v).length):=gtN _ 0;cases q1:decide (0<(m.p.inc v).length);rw[q1]at e1;exact Zh (zi e1 (@Zm Int (m.p.inc v)));rw[q1]at e1;refine Zg (zi e1 (@Zm Int (m.p.inc v))) ?_;refine Zc hG ?_ (s:=Zwf G hG _ _ _ _ m ns vs hw v);have e2:decide (((m.p.out v).length:Int)>0)=decide (0<(m.p.out v).length):=gtN _ 0;cases q2:decide (0<(m.p.out v).length);rw[q2]at e2;exact Zh (zi e2 (@Zm Int (m.p.out v)));rw[q2]at e2;have e3:decide ((n:Int)<=1)=decide (n<=1):=leN _ 1;exact Zh (zi e2 (zi e3 (@Zm Int (m.p.out v))))
@[go_sem] theorem loadK_ck(n:Nat)(ob:AObj)(c1 b c d e:Col)(m:MdM)(ns vs:Sl (List UInt8)):Zhn (some (false,n)) ob (.view c1 (ckV b c d e m ns vs))=some (ckV b c d e m ns vs):=rfl
theorem Zqha(G:Nat->V)(hG:GOk G)(b1 b c d e:Col)(m:MdM)(ns vs:Sl (List UInt8))(v:Int)(h0:0<=v)(h1:v<m.p.vertices.length):
  Spec Tryz.prog G 168 [.int .i64 v,.view b1 (ckV b c d e m ns vs)] Zk (λw _=>w=.bool (!(m.p.kd v==1))):=by
 refine Zo 0 9 [.tmp 3] Tryz.func168 λX=>?_;refine Z ?_;intro g6;refine Zs ?_;refine Zua hG [ckV b.ent c.ent d.ent e.ent m ns vs,.int .i64 v,Zb .old 1 (V.int .u8) (.mk false [1])] zk ⟨Z0a (Zcu _ _ _ _ _ _ _) zp,Z0a (.int _ _) rfl,Rd.u8 (l:=[1]) zp rfl,trivial⟩ ?_;refine(Zzb G hG _ _ _ _ .old m ns vs v h0 h1 (.mk false [1]) zd).mono ?_;rintro _ _ rfl;refine⟨.bool _,?_⟩;rw[Zog];refine Zs ?_;exact Zr
theorem Zqia(G:Nat->V)(hG:GOk G)(c1 b1 b c d e:Col)(m:MdM)(ns vs:Sl (List UInt8))(s:Sl Int)(hs:s.l.length<1000000)(hr:∀ v∈s.l,0<=v/\v<m.p.vertices.length):
  Spec Tryz.prog G 201 [Zb c1 1 (V.int .i64) s,.func (.func 168) [] [.view b1 (ckV b c d e m ns vs)]] Zk (λv _=>v=.int .i64 (Zwu (λu => !(m.p.kd u==1)) s.l)):=by
 refine Zo 0 19 [.tmp 4] Tryz.func201 λX=>?_;refine Z ?_
 refine Z9 s.l.length (λk (_:Unit)=>st [(0,Zb c1 1 (V.int .i64) s),(1,.func (.func 168) [] [.view b1 (ckV b c d e m ns vs)]),(7,.int .i64 s.l.length),(8,.int .i64 k)] []) (λk _=>∀ y∈s.l.take k,(!(m.p.kd y==1))=false) 0 () (Nat.zero_le _) zS
  (Za zp zp) ?_
 intro k _ hk hR L2 hL2
 by_cases hk1:k<s.l.length
 .have hlt:decide ((k:Int)<(s.l.length:Int))=true:=zT
  have hg:=List.getElem?_eq_getElem hk1;obtain⟨x0,x1⟩:=hr s.l[k] (List.getElem_mem hk1);generalize s.l[k]=x at hg x0 x1;refine Zf (zi hlt hg) ?_;refine Zc hG ?_ (s:=Zqha G hG b1.ent b.ent c.ent d.ent e.ent m ns vs x x0 x1)
  cases h6:(!(m.p.kd x==1))with
  |true=>
   refine Z ?_;rw[Zif (p:=λu => !(m.p.kd u==1)) hg hR h6]
  |false=>
   have w1:IntKind.i64.wrap ((k:Int)+1)=(k:Int)+1:=w64 zo zo;refine Zf w1 ?_;exact hL2 _ ⟨hk1,(),Zce hg hR h6,Za zp zp⟩
 have hke:k=s.l.length:=zo;have hlt:decide ((k:Int)<(s.l.length:Int))=false:=zF;rw[hke,List.take_length]at hR;refine Zf hlt ?_;rw[Zjf (p:=λu => !(m.p.kd u==1)) hR]
theorem Znja(G:Nat->V)(hG:GOk G)(c1 b1 b c d e:Col)(m:MdM)(ns vs:Sl (List UInt8))(s:Sl Int)(hs:s.l.length<1000000)(hr:∀ v∈s.l,0<=v/\v<m.p.vertices.length):
  Spec Tryz.prog G 120 [Zb c1 1 (V.int .i64) s,.func (.func 168) [] [.view b1 (ckV b c d e m ns vs)]] Zk (λv _=>v=.bool (s.l.any λu => !(m.p.kd u==1))):=by
 refine Zo 0 9 [.tmp 4] Tryz.func120 λX=>?_;refine Z ?_;refine Zc hG ?_ (s:=Zqia G hG c1.ent b1.ent b.ent c.ent d.ent e.ent m ns vs s hs hr);refine Z ?_;rw[Z4n]
theorem r5_spec(G:Nat->V)(hG:GOk G)(b c d e:Col)(m:MdM)(ns vs:Sl (List UInt8))(hm:m.p.Rt)(hw:m.ways.l.length<1000000)(v:Int)(h0:0<=v)(h1:v<m.p.vertices.length):
  Spec Tryz.prog G 87 [ckV b c d e m ns vs,.int .i64 v] Zk (λw _=>w=.bool (m.p.k5 v)):=by
 refine Zo 0 37 [.tmp 4] Tryz.func87 λX=>?_;rw[PM.k5];have ho:=hm.incR v;have hl:=Znia m v;refine Z ?_;intro g2;refine AW.weak (Zt (λo=>o==2) (l:=[(1,.int .i64 v),(2,.view .new (ckV b c d e m ns vs))]) (m:=[]) ?_ trivial) ?_;refine Zs ?_;exact⟨Fz.same _,Fz.ptr (v:=ckV b c d e m ns vs) (c:=.new) (fz:=0) zp zp⟩;refine Z ?_;refine Zc hG ?_ (s:=Z5k G hG b.ent c.ent d.ent e.ent m ns vs hw v);generalize m.p.inc v=inc at ho hl;refine Z ?_;intro g11;refine Zs ?_;refine Zua hG [ckV b.ent c.ent d.ent e.ent m ns vs,.int .i64 v,Zb .old 1 (V.int .u8) (.mk false [7])] zk ⟨Z0a (Zcu _ _ _ _ _ _ _) zp,Z0a (.int _ _) rfl,Rd.u8 (l:=[7]) zp rfl,trivial⟩ ?_;refine(Zzb G hG _ _ _ _ .old m ns vs v h0 h1 (.mk false [7]) zd).mono ?_;rintro _ _ rfl;refine⟨.bool _,?_⟩;rw[Zog];cases q:(m.p.kd v==7);exact Zh q;refine Zg q ?_;refine Zc hG ?_ (s:=Zwf G hG b.ent c.ent d.ent e.ent m ns vs hw v);have e1:(((m.p.out v).length:Int)==1)=((m.p.out v).length==1):=eqN _ 1;cases q1:((m.p.out v).length==1);rw[q1]at e1;exact Zh (zi e1 (@Zm Int (m.p.out v)));rw[q1]at e1;have e2:decide ((inc.length:Int)>1)=decide (1<inc.length):=gtN _ 1;cases q2:decide (1<inc.length);rw[q2]at e2;exact Zh (zi e1 (zi e2 (zi (@Zm Int (m.p.out v)) (@Zm Int inc))));rw[q2]at e2;refine Zg (zi e1 (zi e2 (zi (@Zm Int (m.p.out v)) (@Zm Int inc)))) ?_;have hc:=Znja G hG .old .old b.ent c.ent d.ent e.ent m ns vs (Zl inc) (by rw[Zm];omega) (by rw[Zm];exact ho);rw[Zm]at hc;refine Zc hG ?_ (s:=hc)
 have ha:(inc.all λu=>m.p.kd u==1) = !(inc.any λu => !(m.p.kd u==1)):=by
  rw[List.all_eq_not_any_not]
 rw[ha];cases q3:(inc.any λu => !(m.p.kd u==1));rotate_left;exact Zh q3;refine Zg q3 ?_;have hp:=Zam G hG b.ent c.ent d.ent e.ent .old m ns vs hm (Zl inc) (by rw[Zm];exact Z2n q2) (by rw[Zm];omega) (by rw[Zm];exact ho);rw[Zm]at hp;refine Zc hG ?_ (s:=hp);exact Zr
theorem Zwla(k j i x:Int):(Sl.mk false [k,j,i]).l.contains x=(x==k||x==j||x==i):=by
 show[k,j,i].contains x=_
 rw[List.contains_cons,List.contains_cons,List.contains_cons,List.contains_nil,Bool.or_false,Bool.or_assoc]
def Z2(names:List (List UInt8))(s:List UInt8):Int:=(Zte s names).2.2
theorem Zyma(G:Nat->V)(hE:GExp G)(b c d e:Col)(m:MdM)(ns vs:Sl (List UInt8))(hm:m.p.Rt)(hns:ns.l=m.p.vn++[Zjh])(hnl:ns.l.length<1000000)(t:Int)(h0:0<=t)(h1:t<m.p.ways.length)(hgl:(m.p.wy t).guard.length<100000):
  Spec Tryz.prog G 92 [ckV b c d e m ns vs,.int .i64 t] Zk (λw _=>w=.bool (m.p.k10 Z2 t)):=by
 have hG:=hE.ok;refine Zo 0 62 [.tmp 4] Tryz.func92 λX=>?_;obtain⟨k,x,rfl,hk,hg,hxe⟩:=Zxd h0 h1;obtain⟨⟨s0,s1⟩,t0,t1⟩:=hm.wayAt x.p (List.mem_of_getElem? (i:=k) (by show(m.ways.l.map TrM.p)[k]?=_;rw[List.getElem?_map,hg]<;>rfl));rw[hxe]at hgl;have hgl:x.guard.length<100000:=hgl;rw[PM.k10,hxe,Z2,<- hns]
 have hp:(((m.p.kd x.p.source==4||m.p.kd x.p.source==5)&&Zoe x.p.guard)||((Zte x.p.guard ns.l).2.2==0&&((Zja x.p.guard).1.length==0||m.p.kd x.p.source==1||m.p.kd x.p.source==4||m.p.kd x.p.source==5))) =
  (((m.p.kd x.source==4||m.p.kd x.source==5)&&Zoe x.guard)||((Zte x.guard ns.l).2.2==0&&((Zja x.guard).1.length==0||m.p.kd x.source==1||m.p.kd x.source==4||m.p.kd x.source==5))):=rfl
 rw[hp];refine Z1 ?_;refine Z1f (zi hg (zi hk (zi Z7 (zi Z1b (zi @Int.natCast_nonneg @Int.ofNat_lt))))) ?_;intro g5;refine AW.weak (Zt (λo=>o==5) (l:=[(0,ckV b c d e m ns vs),(5,.view .new (Zqa d x))]) (m:=[]) ?_ trivial) ?_;refine Zsf @Z1b ?_;exact⟨Fz.same _,Fz.ptr (v:=Zqa d x) (c:=.new) (fz:=0) zp zp⟩;refine Zda (fun(_:Unit)=>st [(0,ckV b c d e m ns vs),(5,.view .new (Zqa d x))] []) (λ_=>((m.p.kd x.source==4||m.p.kd x.source==5)&&Zoe x.guard)=false) (λK1 hK1=>?_) ?_;refine Zf Z7 ?_;intro g23;refine Zs ?_;refine Zua hG [ckV b.ent c.ent d.ent e.ent m ns vs,.int .i64 x.source,Zb .old 1 (V.int .u8) (.mk false [4,5])] zk ⟨Z0a (Zcu _ _ _ _ _ _ _) zp,Z0a (.int _ _) rfl,Rd.u8 (l:=[4,5]) zp rfl,trivial⟩ ?_;refine(Zzb G hG _ _ _ _ .old m ns vs x.source s0 s1 (.mk false [4,5]) zd).mono ?_;rintro _ _ rfl;refine⟨.bool _,?_⟩;rw[Z57];cases q:(m.p.kd x.source==4||m.p.kd x.source==5);refine Zg q ?_;exact hK1 _ () (by rw[q]<;>rfl) (Za (zpf @Z7) zp);refine Zg (zi q Z7) ?_;refine Zc hG ?_ (s:=Zpr G hE x.guard hgl);cases q1:Zoe x.guard;refine Zg q1 ?_;exact hK1 _ () (by rw[q1,Bool.and_false]) (Za (zpf @Z7) zp);exact Zh q1;intro _ hz;rw[hz,Bool.false_or];have hgs:=λc1=>Zl1 G hE c1 x.guard ns hgl hnl;generalize Zte x.guard ns.l=p at hgs⊢;have hgs':∀ c1,Spec Tryz.prog G 171 [.str x.guard,Zb c1 1 V.str ns] Zk (λv _=>v=.tuple [.agg [Zb .new 6 Zxa (Zl p.1)],.int .i64 p.2.1,.int .i64 p.2.2]):=hgs;refine Z4 ?_;refine Zw ⟨λi=>if i=6 then .tuple [.agg [Zb .new 6 Zxa (Zl p.1)],.int .i64 p.2.1,.int .i64 p.2.2]else .top,λ_=>.pure⟩ zk hG zk zk ?_;refine Zsf (zi @Z7 @Z1b) ?_;refine⟨⟨by kernel_rfl,by refine Zs ?_;exact(hgs' _).mono (by rintro _ _ rfl;exact zm)⟩,?_⟩;intro g6;have hT:=Zle G hE x.guard hgl;generalize Zja x.guard=T at hT⊢;obtain⟨l,a,q⟩:=T;refine Zf Z7 ?_;refine Zn hG ?_ (s:=hT);simp only[encTok,encTks];refine Zs ?_;have e1:((l.length:Int)==0)=(l.length==0):=eqN _ 0;cases q0:(p.2.2==0)
 exact Zh q0;cases q1:(l.length==0);rotate_left;rw[q1]at e1;exact Zh (zi q0 (zi e1 (@Zm Tk l)));rw[q1]at e1;refine Zg (zi q0 (zi e1 (zi (@Zm Tk l) Z7))) ?_;intro g58;refine Zs ?_;refine Zua hG [ckV b.ent c.ent d.ent e.ent m ns vs,.int .i64 x.source,Zb .old 1 (V.int .u8) (.mk false [1,4,5])] zk ⟨Z0a (Zcu _ _ _ _ _ _ _) zp,Z0a (.int _ _) rfl,Rd.u8 (l:=[1,4,5]) zp rfl,trivial⟩ ?_;refine(Zzb G hG _ _ _ _ .old m ns vs x.source s0 s1 (.mk false [1,4,5]) zd).mono ?_;rintro _ _ rfl;refine⟨.bool _,?_⟩;rw[Zwla];refine Zs ?_;refine Z ?_;rw[Bool.true_and,Bool.false_or]
theorem r2_spec(G:Nat->V)(hG:GOk G)(b c d e:Col)(m:MdM)(ns vs:Sl (List UInt8))(hm:m.p.Rt)(hw:m.ways.l.length<1000000)(v:Int)(h0:0<=v)(h1:v<m.p.vertices.length):
  Spec Tryz.prog G 84 [ckV b c d e m ns vs,.int .i64 v] Zk (λw _=>w=.bool (m.p.k2 v)):=by
 refine Zo 0 42 [.tmp 4] Tryz.func84 λX=>?_;rw[PM.k2];have ho:=hm.outR v;have hl:=Zdp m v;refine Z ?_;refine Zc hG ?_ (s:=Zwf G hG _ _ _ _ m ns vs hw v);generalize m.p.out v=out at ho hl;obtain⟨k,x,rfl,hk,hg,hx⟩:=MdM.at h0 h1;rw[hx];have hxr:x.p.region=x.region:=rfl;rw[hxr];refine Z0 ?_;refine Z4 ?_;cases q:(m.p.kd k==3);refine Zw ⟨λi=>if i=3 then .bool false else .top,λi=>if i=3 then .lend else .pure⟩ zk hG zk zk ?_;refine Zsf @Z1b ?_;intro g11;refine⟨BorC.of [ckV b.ent c.ent d.ent e.ent m ns vs,.int .i64 k,Zb .old 1 (V.int .u8) (.mk false [3])] zk ⟨Z0a (Zcu b c d e m ns vs) (Zth _ _ _ _ _ _ _ _),Z0a (.int _ _) rfl,Rd.u8 (l:=[3]) zp rfl,trivial⟩ ((Zzb G hG _ _ _ _ .old m ns vs k h0 h1 (.mk false [3]) zd).mono ?_),?_⟩;rintro _ _ rfl;exact⟨.bool _,by rw[Zog,q]⟩;exact Zr;cases q1:(out.length==1);have e1:((out.length:Int)==1)=false:=(eqN _ 1).trans q1;refine Zw ⟨λi=>if i=3 then .bool true else .top,λi=>if i=3 then .lend else .pure⟩ zk hG zk zk ?_;refine Zsf (zi @Z1b (zi @Zm e1)) ?_;intro g11;refine⟨BorC.of [ckV b.ent c.ent d.ent e.ent m ns vs,.int .i64 k,Zb .old 1 (V.int .u8) (.mk false [3])] zk ⟨Z0a (Zcu b c d e m ns vs) (Zth _ _ _ _ _ _ _ _),Z0a (.int _ _) rfl,Rd.u8 (l:=[3]) zp rfl,trivial⟩ ((Zzb G hG _ _ _ _ .old m ns vs k h0 h1 (.mk false [3]) zd).mono ?_),?_⟩;rintro _ _ rfl;exact⟨.bool _,by rw[Zog,q]⟩;exact Zr;obtain⟨w,rfl⟩:∃ w,out=[w]:=List.length_eq_one_iff.1 (zu q1);obtain⟨w0,w1⟩:=ho w (List.mem_singleton.2 rfl);have hsp:=λb c d e=>Z5m G hG b c d e m ns vs hm w x.region w0 w1;have hhd:[w].headD 0=w:=rfl;have hgw:Zl [w]=.mk false [w]:=rfl;rw[hhd];cases q2:m.p.withinB w x.region
 rw[q2]at hsp;refine Zw ⟨λi=>if i=3 then .bool true else if i=23 then .bool false else .top,λi=>if i=3 then .lend else .pure⟩ zk hG zk zk ?_;refine Zsf (zi @Z1b (zi hgw (zi hg (zi hk (zi @Zp (zi @Int.natCast_nonneg @Int.ofNat_lt)))))) ?_;intro g11;refine⟨BorC.of [ckV b.ent c.ent d.ent e.ent m ns vs,.int .i64 k,Zb .old 1 (V.int .u8) (.mk false [3])] zk ⟨Z0a (Zcu b c d e m ns vs) (Zth _ _ _ _ _ _ _ _),Z0a (.int _ _) rfl,Rd.u8 (l:=[3]) zp rfl,trivial⟩ ((Zzb G hG _ _ _ _ .old m ns vs k h0 h1 (.mk false [3]) zd).mono ?_),⟨by kernel_rfl,by refine Zs ?_;exact(hsp _ _ _ _).mono (by rintro _ _ rfl;rfl)⟩,?_⟩;rintro _ _ rfl;exact⟨.bool _,by rw[Zog,q]⟩;exact Zr;rw[q2]at hsp;have hin:=λb c d e=>Z5k G hG b c d e m ns vs hw k;generalize m.p.inc k=inc at hin⊢;have e3:((inc.length:Int)==0)=(inc.length==0):=eqN _ 0;refine Zw ⟨λi=>if i=3 then .bool true else if i=23 then .bool true else if i=28 then Zb .new 1 (V.int .i64) (Zl inc)else .top,λi=>if i=3 then .lend else .pure⟩ zk hG zk zk ?_;refine Zsf (zi @Z1b (zi hgw (zi @Zm (zi hg (zi hk (zi @Zp (zi @Int.natCast_nonneg @Int.ofNat_lt))))))) ?_;intro g11;refine⟨BorC.of [ckV b.ent c.ent d.ent e.ent m ns vs,.int .i64 k,Zb .old 1 (V.int .u8) (.mk false [3])] zk ⟨Z0a (Zcu b c d e m ns vs) (Zth _ _ _ _ _ _ _ _),Z0a (.int _ _) rfl,Rd.u8 (l:=[3]) zp rfl,trivial⟩ ((Zzb G hG _ _ _ _ .old m ns vs k h0 h1 (.mk false [3]) zd).mono ?_),⟨by kernel_rfl,by refine Zs ?_;exact(hsp _ _ _ _).mono (by rintro _ _ rfl;rfl)⟩,⟨by kernel_rfl,by refine Zs ?_;exact(hin _ _ _ _).mono (by rintro _ _ rfl;exact zm)⟩,?_⟩
 rintro _ _ rfl;exact⟨.bool _,by rw[Zog,q]⟩;refine Z ?_
 first|rfl|(rw[e3]<;>rfl)
theorem r8_spec(G:Nat->V)(hG:GOk G)(b c d e:Col)(m:MdM)(ns vs:Sl (List UInt8))(hm:m.p.Rt)(hw:m.ways.l.length<1000000)(v:Int)(h0:0<=v)(h1:v<m.p.vertices.length):
  Spec Tryz.prog G 90 [ckV b c d e m ns vs,.int .i64 v] Zk (λw _=>w=.bool (m.p.k8 v)):=by
 refine Zo 0 67 [.tmp 4] Tryz.func90 λX=>?_;rw[PM.k8];have ho:=hm.outR v;have hl:=Zdp m v;have hsp0:=λb c d e=>Zwf G hG b c d e m ns vs hw v;have hpt:=hm.toRt5.pt h0 h1;generalize m.p.out v=out at ho hl hsp0;obtain⟨k,x,rfl,hk,hg,hx⟩:=MdM.at h0 h1;rw[PM.kd,hx];rw[hx]at hpt;refine Z1 ?_;refine Z0 ?_;refine Z4 ?_;refine Zw ⟨λi=>if i=10 then Zb .new 1 (V.int .i64) (Zl out)else .top,λ_=>.pure⟩ zk hG zk zk ?_;refine Zsf (zi @Z1b (zi hg (zi hk (zi @Zp (zi @Int.natCast_nonneg @Int.ofNat_lt))))) ?_;refine⟨⟨by kernel_rfl,by refine Zs ?_;exact(hsp0 _ _ _ _).mono (by rintro _ _ rfl;exact zm)⟩,?_⟩;intro g5;refine AW.weak (Zt (λo=>o==5) (l:=[(0,ckV b c d e m ns vs),(5,.view .new (Zha d x)),(6,Zb .new 1 (V.int .i64) (Zl out))]) (m:=[]) ?_ trivial) ?_;refine Zsf @Z1b ?_;exact⟨Fz.same _,Fz.ptr (v:=Zha d x) (c:=.new) (fz:=0) zp zp,Fz.same _⟩
 have hp:(if x.p.kind=11 then out.length==1 && !m.p.inB (out.headD 0) x.p.of else if x.p.kind=10 then Zye [] (out.map (m.p.regU · x.p.of))&&decide (0<out.length)else true) =
  (if x.kind=11 then out.length==1 && !m.p.inB (out.headD 0) x.of else if x.kind=10 then Zye [] (out.map (m.p.regU · x.of))&&decide (0<out.length)else true):=rfl
 rw[hp]
 by_cases hk11:x.kind=11
 rw[if_pos hk11];have q:(x.kind==11)=true:=zu hk11;refine Z1f Zp ?_;refine Z1f q ?_;refine Z0f q ?_;refine Z4 ?_;cases q1:(out.length==1);have e1:((out.length:Int)==1)=false:=(eqN _ 1).trans q1;refine ZTf (zi @Zm e1) hG ?_;exact Zr;obtain⟨w,rfl⟩:∃ w,out=[w]:=List.length_eq_one_iff.1 (zu q1);obtain⟨w0,w1⟩:=ho w (List.mem_singleton.2 rfl);have hsp:=λb c d e=>Z6k G hG b c d e m ns vs hm w x.of w0 w1;have hhd:[w].headD 0=w:=rfl;have hgw:Zl [w]=.mk false [w]:=rfl;rw[hhd];generalize m.p.inB w x.of=bb at hsp⊢;cases bb;refine Zw ⟨λi=>if i=10 then .bool false else .top,λ_=>.pure⟩ zk hG zk zk ?_;refine Zsf (zi hgw @Zp) ?_;refine⟨⟨by kernel_rfl,by refine Zs ?_;exact(hsp _ _ _ _).mono (by rintro _ _ rfl;rfl)⟩,?_⟩;exact Zr;refine Zw ⟨λi=>if i=10 then .bool true else .top,λ_=>.pure⟩ zk hG zk zk ?_;refine Zsf (zi hgw @Zp) ?_;refine⟨⟨by kernel_rfl,by refine Zs ?_;exact(hsp _ _ _ _).mono (by rintro _ _ rfl;rfl)⟩,?_⟩;exact Zr;rw[if_neg hk11];have q:(x.kind==11)=false:=zu hk11
 by_cases hk10:x.kind=10
 rotate_left;rw[if_neg hk10];have q1:(x.kind==10)=false:=zu hk10;exact Zq (zi q (zi q1 Zp));rw[if_pos hk10];have q1:(x.kind==10)=true:=zu hk10
 have hof:0<=x.of:=by
  rcases hpt with h|h
  exact h.1;exact absurd (.inl hk10) h.2.2.2
 refine Zf (zi q (zi q1 Zp)) ?_
 refine Z9 out.length (λj (g:Nat)=>st [(0,ckV b c d e m ns vs),(5,.view .new (Zha d x)),(6,Zb .new 1 (V.int .i64) (Zl out)),(7,grown 62 g 1 ((out.take j).map (m.p.regU · x.of))),(41,Zb .new 1 (V.int .i64) (Zl out)),(42,.int .i64 out.length),(43,.int .i64 j)] [(62,Zza g (V.int .i64) ((out.take j).map (m.p.regU · x.of)))])
  (λj _=>Zye [] (out.map (m.p.regU · x.of))=Zye ((out.take j).map (m.p.regU · x.of)) ((out.drop j).map (m.p.regU · x.of))) 0 0 (Nat.zero_le _) rfl (Za (zpf (zi @Zp (@Zm Int out))) zp) ?_
 intro j g hj hR L3 hL3
 by_cases hj1:j<out.length
 .have hlt:decide ((j:Int)<(out.length:Int))=true:=zT
  have hgj:=List.getElem?_eq_getElem hj1
  have htk:out.take (j+1)=out.take j++[out[j]]:=by rw[List.take_succ_eq_append_getElem hj1]
  have hdr:out.drop j=out[j]::out.drop (j+1):=List.drop_eq_getElem_cons hj1;obtain⟨y0,y1⟩:=ho out[j] (List.getElem_mem hj1)
  have hal:((out.take j).map (m.p.regU · x.of)).length<=j:=by rw[List.length_map,List.length_take];omega
  generalize out[j]=y at hgj htk hdr y0 y1;have w2:IntKind.i64.wrap ((j:Int)+1)=(j:Int)+1:=w64 zo zo;rw[hdr,List.map_cons,Zye]at hR;rw[htk,List.map_append,List.map_cons,List.map_nil]at hL3;generalize(out.take j).map (m.p.regU · x.of)=acc at hal hR hL3
  have hgj':(Zl out).l[j]?=some y:=by rw[Zm];exact hgj
  refine Zf (zi hlt (zi hgj (zi hgj' (zi hj1 (zi (@Zm Int out) (zi Zp (zi @Int.natCast_nonneg @Int.ofNat_lt))))))) ?_;refine Zc hG ?_ (s:=Z6m G hG b.ent c.ent d.ent e.ent m ns vs hm y x.of y0 y1 hof);generalize m.p.regU y x.of=r at hR hL3
  by_cases hr0:0<=r
  rotate_left;have q2:decide (r<0)=true:=zT;rw[hR,decide_eq_false hr0];exact Zh q2;have q2:decide (r<0)=false:=zF;rw[decide_eq_true hr0,Bool.true_and]at hR;refine Zg q2 ?_;refine Zua hG [Zb .old 1 (V.int .i64) (Zl acc),.int .i64 r] zk ⟨Zpu zp (λ_=>rfl) inIm (λ_=>rfl),Z0a (.int _ _) rfl,trivial⟩ ?_;refine(Z9w G hG .old r (Zl acc) (by rw[Zm];omega)).mono ?_;rintro _ _ rfl;rw[Zm];refine⟨.bool _,?_⟩;cases hc:acc.contains r;rotate_left;rw[hc]at hR;rw[hR];exact Zh hc;rw[hc,Bool.not_false,Bool.true_and]at hR;refine Zs ?_;refine Z ?_;intro g61;refine Zna (f:=V.int .i64) (l:=acc) (l2:=[r]) (g:=g) (λ_=>rfl) rfl rfl rfl zp (Z5 zo zO) λg2=>?_;refine Zs ?_;refine Zf w2 ?_;exact hL3 _ ⟨hj1,g2,hR,Za (zpf @Zp) zp⟩
 have hje:j=out.length:=zo;subst hje;rw[List.drop_length]at hR;have hlt:decide ((out.length:Int)<(out.length:Int))=false:=zS;rw[hR];have e3:decide ((out.length:Int)>0)=decide (0<out.length):=gtN _ 0;refine Zf (zi hlt (zi (@Zm Int out) e3)) ?_;rfl
theorem r7_spec(G:Nat->V)(hG:GOk G)(b c d e:Col)(m:MdM)(ns vs:Sl (List UInt8))(hm:m.p.Rt)(hw:m.ways.l.length<1000000)(hvl:m.verts.l.length<1000000)(v:Int)(h0:0<=v)(h1:v<m.p.vertices.length):
  Spec Tryz.prog G 89 [ckV b c d e m ns vs,.int .i64 v] Zk (λw _=>w=.bool (m.p.k7 v)):=by
 refine Zo 0 77 [.tmp 4] Tryz.func89 λX=>?_;have ho:=hm.outR v;have hl:=Zdp m v;have hsp0:=λb c d e=>Zwf G hG b c d e m ns vs hw v;rw[PM.k7];refine Z ?_;intro g12;refine Zs ?_;refine Zua hG [ckV b.ent c.ent d.ent e.ent m ns vs,.int .i64 v,Zb .old 1 (V.int .u8) (.mk false [8,9])] zk ⟨Z0a (Zcu _ _ _ _ _ _ _) zp,Z0a (.int _ _) rfl,Rd.u8 (l:=[8,9]) zp rfl,trivial⟩ ?_;refine(Zzb G hG _ _ _ _ .old m ns vs v h0 h1 (.mk false [8,9]) zd).mono ?_;rintro _ _ rfl;refine⟨.bool _,?_⟩;rw[Z57];cases q:(m.p.kd v==8||m.p.kd v==9);exact Zh q;generalize m.p.out v=out at ho hl hsp0;obtain⟨k,x,rfl,hk,hg,hx⟩:=MdM.at h0 h1
 have hP:m.p.twins k=(m.verts.l.filter λy=>y.kind==x.kind&&y.region==x.region).length:=by
  rw[PM.twins,PM.kd,hx]
  show((m.verts.l.map VtM.p).filter _).length=_
  rw[List.filter_map,List.length_map]<;>rfl
 rw[hP,hx];have hxr:x.p.region=x.region:=rfl;rw[hxr];refine Zsf q ?_;refine Z0f q ?_;refine Z4 ?_;refine Zw ⟨λi=>if i=10 then Zb .new 1 (V.int .i64) (Zl out)else .top,λ_=>.pure⟩ zk hG zk zk ?_;refine Zsf (zi @Z1b (zi hg (zi hk (zi @Zp (zi @Int.natCast_nonneg @Int.ofNat_lt))))) ?_;refine⟨⟨by kernel_rfl,by refine Zs ?_;exact(hsp0 _ _ _ _).mono (by rintro _ _ rfl;exact zm)⟩,?_⟩;intro g5;refine AW.weak (Zt (λo=>o==5) (l:=[(0,ckV b c d e m ns vs),(5,.view .new (Zha d x)),(6,Zb .new 1 (V.int .i64) (Zl out))]) (m:=[]) ?_ trivial) ?_;refine Zsf @Z1b ?_;exact⟨Fz.same _,Fz.ptr (v:=Zha d x) (c:=.new) (fz:=0) zp zp,Fz.same _⟩;refine Zf Z1b ?_
 refine Z9 m.verts.l.length (λj (_:Unit)=>st [(0,ckV b c d e m ns vs),(5,.view .new (Zha d x)),(6,Zb .new 1 (V.int .i64) (Zl out)),(7,.int .i64 ((m.verts.l.take j).filter λy=>y.kind==x.kind&&y.region==x.region).length),(30,Zb c 8 (Zha d) m.verts),(31,.int .i64 m.verts.l.length),(32,.int .i64 j)] [])
  (λ_ _=>True) 0 () (Nat.zero_le _) trivial (Za (zpf (zi @Z1b @Zp)) zp) ?_
 intro j _ hj _ L3 hL3
 by_cases hj1:j<m.verts.l.length
 have hlt:decide ((j:Int)<(m.verts.l.length:Int))=true:=zT;have hgj:=List.getElem?_eq_getElem hj1
 have htk:m.verts.l.take (j+1)=m.verts.l.take j++[m.verts.l[j]]:=by rw[List.take_succ_eq_append_getElem hj1]
 have hn:((m.verts.l.take j).filter λy=>y.kind==x.kind&&y.region==x.region).length<=j:=Nat.le_trans (List.length_filter_le _ _) (by rw[List.length_take];omega);generalize m.verts.l[j]=y at hgj htk;rw[htk,List.filter_append,List.length_append]at hL3;generalize((m.verts.l.take j).filter λy=>y.kind==x.kind&&y.region==x.region).length=n at hn hL3;have w1:IntKind.i64.wrap ((j:Int)+1)=(j:Int)+1:=w64 zo zo;have w2:IntKind.i64.wrap ((n:Int)+1)=(n:Int)+1:=w64 zo zo;refine Zf (zi hlt (zi hgj Zp)) ?_;intro g9;cases q1:(y.kind==x.kind);rw[List.filter_cons_of_neg (by simp[q1])]at hL3;simp only[List.filter_nil,List.length_nil,Nat.add_zero]at hL3;refine Zf (zi q1 (zi w1 Zp)) ?_;exact hL3 _ ⟨hj1,(),trivial,Za (zpf @Zp) zp⟩;cases q2:(y.region==x.region);rw[List.filter_cons_of_neg (by simp[q2])]at hL3;simp only[List.filter_nil,List.length_nil,Nat.add_zero]at hL3;refine Zf (zi q1 (zi q2 (zi w1 Zp))) ?_;exact hL3 _ ⟨hj1,(),trivial,Za (zpf @Zp) zp⟩;rw[List.filter_cons_of_pos (by simp[q1,q2])]at hL3;simp only[List.filter_nil,List.length_cons,List.length_nil,Nat.zero_add]at hL3;refine Zf (zi q1 (zi q2 (zi w1 (zi w2 Zp)))) ?_;exact hL3 _ ⟨hj1,(),trivial,Za (by simp -implicitDefEqProofs only[go_sem,seval,Zp];exact⟨rfl,rfl⟩) zp⟩;have hje:j=m.verts.l.length:=zo;subst hje;rw[List.take_length];have hlt:decide ((m.verts.l.length:Int)<(m.verts.l.length:Int))=false:=zS;generalize(m.verts.l.filter λy=>y.kind==x.kind&&y.region==x.region).length=n;refine Z1f hlt ?_;refine Z0f hlt ?_;refine Z4 ?_;have e1:((n:Int)==1)=(n==1):=eqN _ 1;have e2:decide ((out.length:Int)<=1)=decide (out.length<=1):=decide_eq_decide.2 zo;have e3:((out.length:Int)==0)=(out.length==0):=eqN _ 0;cases q1:(x.region==0);rotate_left
 have f1:(x.region != 0)=false:=by rw[bne,q1]<;>rfl
 refine Zw ⟨λi=>.top,λ_=>.pure⟩ zk hG zk zk ?_;refine Zsf (zi @Zp (zi @Zm f1)) ?_;exact Zr
 have f1:(x.region != 0)=true:=by rw[bne,q1]<;>rfl
 cases q2:(n==1);rw[q2]at e1;refine Zw ⟨λi=>.top,λ_=>.pure⟩ zk hG zk zk ?_;refine Zsf (zi @Zp (zi @Zm (zi f1 e1))) ?_;exact Zr;rw[q2]at e1;cases q3:decide (out.length<=1);rw[q3]at e2;refine Zw ⟨λi=>.top,λ_=>.pure⟩ zk hG zk zk ?_;refine Zsf (zi @Zp (zi @Zm (zi f1 (zi e1 e2)))) ?_;exact Zr;rw[q3]at e2;cases q4:(out.length==0);rotate_left;rw[q4]at e3;refine Zw ⟨λi=>.top,λ_=>.pure⟩ zk hG zk zk ?_;refine Zsf (zi @Zp (zi @Zm (zi f1 (zi e1 (zi e2 e3))))) ?_;exact Zr;rw[q4]at e3;have hle:out.length<=1:=zu q3;have hne:¬ out.length=0:=zu q4;obtain⟨w,rfl⟩:∃ w,out=[w]:=List.length_eq_one_iff.1 zo;obtain⟨w0,w1⟩:=ho w (List.mem_singleton.2 rfl);have hsp:=λb c d e=>Z5m G hG b c d e m ns vs hm w x.region w0 w1;have hhd:[w].headD 0=w:=rfl;have hgw:Zl [w]=.mk false [w]:=rfl;rw[hhd];generalize m.p.withinB w x.region=bb at hsp⊢;cases bb;refine Zw ⟨λi=>if i=23 then .bool false else .top,λ_=>.pure⟩ zk hG zk zk ?_;refine Zsf (zi @Zp (zi @Zm (zi f1 (zi e1 hgw)))) ?_;refine⟨⟨by kernel_rfl,by refine Zs ?_;exact(hsp _ _ _ _).mono (by rintro _ _ rfl;rfl)⟩,?_⟩;exact Zr;refine Zw ⟨λi=>if i=23 then .bool true else .top,λ_=>.pure⟩ zk hG zk zk ?_;refine Zsf (zi @Zp (zi @Zm (zi f1 (zi e1 hgw)))) ?_;refine⟨⟨by kernel_rfl,by refine Zs ?_;exact(hsp _ _ _ _).mono (by rintro _ _ rfl;rfl)⟩,?_⟩;exact Zr
theorem Z6h(G:Nat->V)(b c d e:Col)(m:MdM)(ns vs:Sl (List UInt8))(k:Nat):
  Spec Tryz.prog G 47 [ckV b c d e m ns vs,.int .i64 k] Zk (λw _=>w=.int .i64 (m.p.places k)):=by
 refine Zo 0 33 [.tmp 4] Tryz.func47 λX=>?_;rw[PM.places,m.nv,m.nw];have f := @Z1b
 by_cases h1:k=1
 rw[if_pos h1]
 have q:((k:Int)==1)=true:=by simp[h1]
 exact Zq (zi q f);rw[if_neg h1];have q:((k:Int)==1)=false:=(eqN k 1).trans (zu h1)
 by_cases h2:k<=8
 rw[if_pos (.inl h2)];have q2:decide ((k:Int)<=8)=true:=zT;exact Zq (zi q (zi q2 f));have q2:decide ((k:Int)<=8)=false:=zF
 by_cases h3:k=13
 rw[if_pos (.inr h3)]
 have q3:((k:Int)==13)=true:=by simp[h3]
 exact Zq (zi q (zi q2 (zi q3 f)));rw[if_neg (λh=>h.elim h2 h3)];have q3:((k:Int)==13)=false:=(eqN k 13).trans (zu h3);exact Zq (zi q (zi q2 (zi q3 f)))
theorem Zop(G:Nat->V)(hG:GOk G)(c d:Col)(m:MdM)(hv:m.vars.l.length<=600):
  Spec Tryz.prog G 45 [Zx c d m] Zk (λw _=>w=ckV .new c d .new m (.mk false (m.p.vn++[Zjh])) (Zl m.p.vn)):=by
 refine Zo 0 39 [.tmp 2] Tryz.func45 λX=>?_;have hvn:m.p.vn=m.vars.l.map (·.1):=rfl
 have hvl:m.p.vn.length<=600:=by rw[hvn,List.length_map];exact hv
 simp only[Zd];refine Z ?_;intro g1;refine Z ?_;intro g8;refine Z ?_
 refine Z9 m.vars.l.length (λk (g:Nat)=>st [(3,.ptr 8 g8 0),(10,Zb c 2 Z3 m.vars),(11,.int .i64 m.vars.l.length),(12,.int .i64 k)]
   [(8,.cells .new g8 0 [.str m.name,Zb c 2 Z3 m.vars,Zb c 1 V.str m.events,Zb c 2 Z3 m.regions,Zb c 8 (Zha d) m.verts,Zb c 8 (Zqa d) m.ways,.nils,grown 24 g 1 (m.p.vn.take k)]),(24,Zza g V.str (m.p.vn.take k))])
  (λ_ _=>True) 0 0 (Nat.zero_le _) trivial (Za zp (by refine Zs ?_;exact⟨rfl,rfl⟩)) ?_
 intro k g hk _ L3 hL3
 by_cases hk1:k<m.vars.l.length
 have hlt:decide ((k:Int)<(m.vars.l.length:Int))=true:=zT;have hg:=List.getElem?_eq_getElem hk1
 have hkv:k<m.p.vn.length:=by rw[hvn,List.length_map];exact hk1
 have htk:m.p.vn.take (k+1)=m.p.vn.take k++[(m.vars.l[k]).1]:=by rw[List.take_succ_eq_append_getElem hkv];simp[hvn]
 have hlk:(m.p.vn.take k).length=k:=by rw[List.length_take];omega
 generalize m.vars.l[k]=x at hg htk;have w1:IntKind.i64.wrap ((k:Int)+1)=(k:Int)+1:=w64 zo zo;rw[htk]at hL3;generalize m.p.vn.take k=acc at hlk hL3;refine Zf (zi hlt (zi hg Z2a)) ?_;intro g5;refine ZT hG ?_;intro g23;refine Zna (f:=V.str) (l:=acc) (l2:=[x.1]) (g:=g) Zyc rfl rfl rfl zp (Z5 zo zO) λg2=>?_;refine Zs ?_;refine Zf w1 ?_;exact hL3 _ ⟨hk1,g2,trivial,Za zp zp⟩;have hke:k=m.vars.l.length:=zo;subst hke;rw[List.take_of_length_le (by rw[hvn,List.length_map];exact Nat.le_refl _)];have hlt:decide ((m.vars.l.length:Int)<(m.vars.l.length:Int))=false:=zS;generalize m.p.vn=vn at hvl⊢;refine AW.weak (Zt (λo=>o==24) (l:=[(3,.ptr 8 g8 0),(11,.int .i64 m.vars.l.length),(12,.int .i64 m.vars.l.length)]) (m:=[(8,.cells .new g8 0 [.str m.name,Zb c 2 Z3 m.vars,Zb c 1 V.str m.events,Zb c 2 Z3 m.regions,Zb c 8 (Zha d) m.verts,Zb c 8 (Zqa d) m.ways,.nils,Zb .new 1 V.str (Zl vn)])]) ?_ ?_) ?_;refine Zs ?_;exact⟨Fz.same _,Fz.same _⟩;simp only[Zv,Zz,and_true];exact FzO.of (c:=.new) (fz:=0) (cs:=[.str m.name,Zb c 2 Z3 m.vars,Zb c 1 V.str m.events,Zb c 2 Z3 m.regions,Zb c 8 (Zha d) m.verts,Zb c 8 (Zqa d) m.ways,.nils,grown 24 g 1 vn]) rfl zp ⟨Fz.same _,Fz.same _,Fz.same _,Fz.same _,Fz.same _,Fz.same _,Fz.same _,Z3a rfl zp Zyc,trivial⟩;refine Zf hlt ?_;refine CallA.inl [(5005,.dead)] zk ?_ ?_;intro p hp;rw[List.mem_singleton]at hp;subst hp;exact zp;refine(Z9p G .new (Zl vn) (by rw[Zm];omega)).mono ?_;rintro _ H' (⟨hn,rfl,q⟩|⟨g5,rfl,q⟩)
 have hvn0:vn=[]:=by
  have:=congrArg Sl.l hn;rwa [Zm]at this
 subst hvn0;simp only[List.map_cons,List.map_nil,q];refine Zu ?_;intro g34;refine⟨Z5 zo zo,λh=>absurd h zd,λ_ g35=>?_⟩;refine Zs ?_;refine AW.weak (Zt (λo=>o==35) (l:=[(3,.ptr 8 g8 0)]) (m:=[(8,.cells .new g8 0 [.str m.name,Zb c 2 Z3 m.vars,Zb c 1 V.str m.events,Zb c 2 Z3 m.regions,Zb c 8 (Zha d) m.verts,Zb c 8 (Zqa d) m.ways,Zb .new 1 V.str (.mk false [Zjh]),Zb .new 1 V.str (Zl [])])]) ?_ ?_) ?_;refine Zs ?_;exact Fz.same _;simp only[Zv,Zz,and_true];exact FzO.of (c:=.new) (fz:=0) (cs:=[.str m.name,Zb c 2 Z3 m.vars,Zb c 1 V.str m.events,Zb c 2 Z3 m.regions,Zb c 8 (Zha d) m.verts,Zb c 8 (Zqa d) m.ways,.msl 35 g35 0 ([Zjh]).length 1,Zb .new 1 V.str (Zl [])]) rfl zp ⟨Fz.same _,Fz.same _,Fz.same _,Fz.same _,Fz.same _,Fz.same _,Z4c (f:=V.str) (l:=[Zjh]) (m:=1) (g:=g35) (fz:=0) (c:=.new) rfl zp Zyc,Fz.same _,trivial⟩;refine AW.weak (Zt (λo=>o==8) (l:=[(3,ckV .new c d .new m (.mk false [Zjh]) (Zl []))]) (m:=[]) ?_ trivial) ?_;refine Zs ?_;exact Fz.ptr (v:=Z22 c d .new m (.mk false [Zjh]) (Zl [])) (c:=.new) (fz:=0) zp zp;exact Zr;simp only[List.map_cons,List.map_nil,q,Zm];refine Zu ?_;intro g34
 have hcells:List.take (vn.length*1) (flat (List.map V.str vn))++[V.str [97,114,103]]=flat ((vn++[Zjh]).map V.str):=by
  rw[List.take_of_length_le (by rw[Zya Zyc];exact Nat.le_refl _),List.map_append,Z8g];rfl
 have e1:vn.length+1=(vn++[Zjh]).length:=by rw[List.length_append]<;>rfl
 refine⟨Z5 zo zo,by rw[Zya Zyc];exact Nat.le_refl _,Nat.zero_le _,λg35=>?_⟩;rw[hcells,e1];refine AW.weak (Zt (λo=>o==5005) (l:=[(3,.ptr 8 g8 0)]) (m:=[(8,.cells .new g8 0 [.str m.name,Zb c 2 Z3 m.vars,Zb c 1 V.str m.events,Zb c 2 Z3 m.regions,Zb c 8 (Zha d) m.verts,Zb c 8 (Zqa d) m.ways,Zb .new 1 V.str (.mk false (vn++[Zjh])),Zb .new 1 V.str (Zl vn)])]) ?_ ?_) ?_;refine Zs ?_;exact Fz.same _;simp only[Zv,Zz,and_true];exact FzO.of (c:=.new) (fz:=0) (cs:=[.str m.name,Zb c 2 Z3 m.vars,Zb c 1 V.str m.events,Zb c 2 Z3 m.regions,Zb c 8 (Zha d) m.verts,Zb c 8 (Zqa d) m.ways,.msl 5005 g35 0 ((vn++[Zjh])).length 1,Zb .new 1 V.str (Zl vn)]) rfl zp ⟨Fz.same _,Fz.same _,Fz.same _,Fz.same _,Fz.same _,Fz.same _,Z4c (f:=V.str) (l:=(vn++[Zjh])) (m:=1) (g:=g35) (fz:=0) (c:=.new) rfl zp Zyc,Fz.same _,trivial⟩;refine AW.weak (Zt (λo=>o==8) (l:=[(3,ckV .new c d .new m (.mk false (vn++[Zjh])) (Zl vn))]) (m:=[]) ?_ trivial) ?_;refine Zs ?_;exact Fz.ptr (v:=Z22 c d .new m (.mk false (vn++[Zjh])) (Zl vn)) (c:=.new) (fz:=0) zp zp;exact Zr
theorem isI(s:List UInt8):((isP s:Int)==2)=(isP s==2):=by rw[Bool.eq_iff_iff,beq_iff_eq,beq_iff_eq];omega
theorem Zzga(c d:Col)(m:MdM):[V.view .old (Zx c.ent d.ent m)].map (V.recol Col.ent)=[V.view .old (Zx c.ent d.ent m)]:=by
 simp only[List.map_cons,List.map_nil,V.recol,Z4f,Zyp];rfl
theorem Z4ia(G:Nat->V)(hE:GExp G)(c1 c d:Col)(m:MdM)(hl:m.vars.l.length<1000000)(i:Nat){x:List UInt8×Int}(hg:m.vars.l[i]?=some x)(hx:x.1.length<1000000000000000):
  Spec Tryz.prog G 144 [.int .i64 i,Z3 x,.view c1 (Zx c d m)] Zk (λv _=>v=.bool (m.p.varB i)):=by
 have hG:=hE.ok;refine Zo 0 24 [.tmp 5] Tryz.func144 λX=>?_;have hi:i<m.vars.l.length:=(List.getElem?_eq_some_iff.1 hg).1
 have hn:m.p.nameAt i=x.1:=by
  show(m.vars.l.getD i ([],0)).1=x.1
  rw[List.getD_eq_getElem?_getD,hg]<;>rfl
 rw[PM.varB,hn];simp only[Zd,Z2a];refine Z ?_;intro g4;refine AW.weak (Zt (λo=>o==4) (l:=[(0,.int .i64 i),(2,.view c1 (Zx c d m)),(4,.view .new (Z3 x))]) (m:=[]) ?_ trivial) ?_;refine Zsf @Zd ?_;exact⟨Fz.same _,Fz.same _,Fz.ptr (v:=Z3 x) (c:=.new) (fz:=0) zp zp⟩;simp only[Zd];refine Zf Z2a ?_;refine Zc hG ?_ (s:=Z7f G hE x.1 hx);have h0:=isI x.1
 cases h1:(isP x.1==2)with
 |false=>
  rw[h1]at h0;exact Zh h0
 |true=>
  rw[h1]at h0
  cases h2:(x.1==Zjh)with
  |true=>
   have q:(x.1==[97,114,103])=true:=h2;exact Zh (zi h0 (zi q Z2a))
  |false=>
   have q:(x.1==[97,114,103])=false:=h2;refine Zg (zi h0 (zi q (zi Z2a (zi (Nat.zero_le i) (Nat.le_of_lt hi))))) ?_;have hSp:=Zlja G hG c.ent .old (m.vars.sub 0 i) (by rw[Z9i];simp;omega) x;rw[Z9i]at hSp;refine Zcf @Z2a hG ?_ (s:=hSp);exact Zr
theorem Z5ia(G:Nat->V)(hE:GExp G)(c1 c d:Col)(m:MdM)(hl:m.events.l.length<1000000)(i:Nat){x:List UInt8}(hg:m.events.l[i]?=some x)(hx:x.length<1000000000000000):
  Spec Tryz.prog G 148 [.int .i64 i,.str x,.view c1 (Zx c d m)] Zk (λv _=>v=.bool (m.p.signalB i)):=by
 have hG:=hE.ok;refine Zo 0 18 [.tmp 5] Tryz.func148 λX=>?_;have hi:i<m.events.l.length:=(List.getElem?_eq_some_iff.1 hg).1
 have hn:m.p.events.getD i []=x:=by
  show m.events.l.getD i []=x
  rw[List.getD_eq_getElem?_getD,hg]<;>rfl
 rw[PM.signalB,hn];simp only[Zd];refine Z ?_;refine Zc hG ?_ (s:=Z7f G hE x hx);have h0:=isI x
 cases h1:(isP x==2)with
 |false=>
  rw[h1]at h0;exact Zh h0
 |true=>
  rw[h1]at h0;refine Zg (zi h0 (zi (Nat.zero_le i) (Nat.le_of_lt hi))) ?_;have hSp:=Zcd G hG c.ent x (m.events.sub 0 i) (by rw[Z9i];simp;omega);rw[Z9i]at hSp;refine Zc hG ?_ (s:=hSp);exact Zr
theorem Z6ia(G:Nat->V)(hE:GExp G)(c1 c d:Col)(m:MdM)(i:Nat){x:List UInt8×Int}(hg:m.regions.l[i]?=some x)(hx:x.1.length<1000000000000000):
  Spec Tryz.prog G 151 [.int .i64 i,Z3 x,.view c1 (Zx c d m)] Zk (λv _=>v=.bool (m.p.regionB i)):=by
 have hG:=hE.ok;refine Zo 0 35 [.tmp 5] Tryz.func151 λX=>?_
 have hn:(m.p.regions.getD i ([],0))=x:=by
  show m.regions.l.getD i ([],0)=x
  rw[List.getD_eq_getElem?_getD,hg]<;>rfl
 have ho:m.p.ow (i:Int)=x.2:=Zdl hg;rw[PM.regionB,hn];simp only[Zd,Z2a];refine Z ?_;intro g4
 by_cases h:i=0
 .rw[if_pos h]
  rw[h]at ho;rw[show m.p.ow 0=x.2 from ho]
  have q:((i:Int)==0)=true:=by simp[h]
  refine Zf q ?_;refine Zc hG ?_ (s:=Z5d G hE x.1 hx)
  cases h1:Zvc x.1 with
  |false=>exact Zh h1
  |true=>exact Zh h1
 .rw[if_neg h,ho]
  have q:((i:Int)==0)=false:=by
   have:¬ (i:Int)=0:=zo;simpa using this
  refine Zf q ?_;refine Zc hG ?_ (s:=Z5d G hE x.1 hx)
  cases h1:Zvc x.1 with
  |false=>exact Zh h1
  |true=>
   refine Zg h1 ?_;refine Zc hG ?_ (s:=Ztj G c.ent d.ent m x.2)
   cases h2:m.p.stateB x.2 with
   |false=>exact Zh h2
   |true=>
    have h3:=h2;simp only[PM.stateB,Bool.and_eq_true,decide_eq_true_eq]at h3;obtain⟨k,y,hk0,hk,hkg,hy⟩:=MdM.at h3.1.1 h3.1.2;rw[hy];exact Zh (zi hk0 (zi hkg (zi hk (zi Zp (zi @Int.natCast_nonneg @Int.ofNat_lt)))))
theorem Z3ia(G:Nat->V)(hE:GExp G)(c1 c d e:Col)(m:MdM)(he:m.events.l.length<1000000)(i:Nat){x:VtM}(hg:m.verts.l[i]?=some x)(b1:x.name.length<1000000000000000)(b2:x.sub.length<1000000000000000)(b3:x.defers.l.length<1000000):
  Spec Tryz.prog G 155 [.int .i64 i,Zha e x,.view c1 (Zx c d m)] Zk (λv _=>v=.bool (m.p.vertexB (m.p.vx i))):=by
 have hG:=hE.ok;refine Zo 0 75 [.tmp 5] Tryz.func155 λX=>?_;rw[Zxf hg]
 have hP:m.p.vertexB x.p=(Zvc x.name&&decide (1<=x.kind)&&decide (x.kind<=12)&&m.p.liesB x.p&&((x.entry==[]&&x.exit==[]&&decide (x.defers.l.length=0)&&x.sub==[])||x.kind==1)&&Zvc x.sub &&
  decide (x.entry.length<=4096)&&decide (x.exit.length<=4096)&&evB m.events.l x.defers.l):=rfl
 rw[hP];simp only[Zd,Zp];refine Z ?_;intro g4;refine AW.weak (Zt (λo=>o==4) (l:=[(2,.view c1 (Zx c d m)),(4,.view .new (Zha e x))]) (m:=[]) ?_ trivial) ?_;refine Zsf @Zd ?_;exact⟨Fz.same _,Fz.ptr (v:=Zha e x) (c:=.new) (fz:=0) zp zp⟩;generalize hpl:(x.entry==[]&&x.exit==[]&&decide (x.defers.l.length=0)&&x.sub==[])=pl;refine Zda (fun(_:Unit)=>st [(2,.view c1 (Zx c d m)),(4,.view .new (Zha e x)),(6,.bool pl)] []) (λ_=>True) (λK1 hK1=>?_) ?_
 .have hz:(((x.defers.l.length:Nat):Int)==0)=decide (x.defers.l.length=0):=by
   rw[Bool.eq_iff_iff,beq_iff_eq,decide_eq_true_eq];omega
  cases q1:(x.entry==[])with
  |false=>
   rw[q1]at hpl;subst hpl;refine Zf (zi q1 Zp) ?_;exact hK1 _ () trivial (Za (zpf (zi @Zp @Zd)) zp)
  |true=>
  cases q2:(x.exit==[])with
  |false=>
   rw[q1,q2]at hpl;subst hpl;refine Zf (zi q1 (zi q2 Zp)) ?_;exact hK1 _ () trivial (Za (zpf (zi @Zp @Zd)) zp)
  |true=>
  cases q3:decide (x.defers.l.length=0)with
  |false=>
   rw[q3]at hz;rw[q1,q2,q3]at hpl;subst hpl;refine Zf (zi q1 (zi q2 (zi hz Zp))) ?_;exact hK1 _ () trivial (Za (zpf (zi @Zp @Zd)) zp)
  |true=>
   rw[q3]at hz;rw[q1,q2,q3]at hpl;subst hpl;refine Zf (zi q1 (zi q2 (zi hz Zp))) ?_;exact hK1 _ () trivial (Za (zpf (zi @Zp @Zd)) zp)
 intro _ _;refine Zf Zp ?_;refine Zc hG ?_ (s:=Z5d G hE x.name b1);cases q1:Zvc x.name;exact Zh q1
 by_cases q2:1<=x.kind
 rotate_left;have f2:decide (x.kind>=1)=false:=zF;rw[decide_eq_false q2];exact Zh f2;have f2:decide (x.kind>=1)=true:=zT;rw[decide_eq_true q2]
 by_cases q3:x.kind<=12
 rotate_left;have f3:decide (x.kind<=12)=false:=zF;rw[f3];exact Zh (zi f2 (zi f3 Zp));have f3:decide (x.kind<=12)=true:=zT;rw[f3];refine Zg (zi f2 (zi f3 (zi Zp Zd))) ?_;refine Zc hG ?_ (s:=Zsba G hG c.ent d.ent e.ent m x);cases q4:m.p.liesB x.p;exact Zh q4;cases pl;cases q5:(x.kind==1);exact Zh (zi q4 (zi q5 Zp));refine Zg (zi q4 (zi q5 (zi Zp Zd))) ?_;refine Zc hG ?_ (s:=Z5d G hE x.sub b2);cases q6:Zvc x.sub;exact Zh q6;have f7:decide (((x.entry.length:Nat):Int)<=4096)=decide (x.entry.length<=4096):=decide_eq_decide.2 zo;have f8:decide (((x.exit.length:Nat):Int)<=4096)=decide (x.exit.length<=4096):=decide_eq_decide.2 zo;cases q7:decide (x.entry.length<=4096);rw[q7]at f7;exact Zh (zi q6 (zi f7 Zp));rw[q7]at f7;cases q8:decide (x.exit.length<=4096);rw[q8]at f8;exact Zh (zi q6 (zi f7 (zi f8 Zp)));rw[q8]at f8;refine Zg (zi q6 (zi f7 (zi f8 (zi Zp Zd)))) ?_;refine Zc hG ?_ (s:=Zvh G hG c.ent d.ent e.ent m x.defers he b3);exact Zr;refine Zg (zi q4 (zi Zp Zd)) ?_;refine Zc hG ?_ (s:=Z5d G hE x.sub b2);cases q6:Zvc x.sub;exact Zh q6;have f7:decide (((x.entry.length:Nat):Int)<=4096)=decide (x.entry.length<=4096):=decide_eq_decide.2 zo;have f8:decide (((x.exit.length:Nat):Int)<=4096)=decide (x.exit.length<=4096):=decide_eq_decide.2 zo;cases q7:decide (x.entry.length<=4096);rw[q7]at f7;exact Zh (zi q6 (zi f7 Zp));rw[q7]at f7;cases q8:decide (x.exit.length<=4096);rw[q8]at f8;exact Zh (zi q6 (zi f7 (zi f8 Zp)))
 rw[q8]at f8;refine Zg (zi q6 (zi f7 (zi f8 (zi Zp Zd)))) ?_;refine Zc hG ?_ (s:=Zvh G hG c.ent d.ent e.ent m x.defers he b3);exact Zr
theorem Zbca(G:Nat->V)(hG:GOk G)(c1 c d e:Col)(m:MdM)(hm:m.p.Rt5)(i:Nat){x:VtM}(hg:m.verts.l[i]?=some x):
  Spec Tryz.prog G 158 [.int .i64 i,Zha e x,.view c1 (Zx c d m)] Zk (λv _=>v=.bool (m.p.deepB i)):=by
 refine Zo 0 10 [.tmp 5] Tryz.func158 λX=>?_;have hi:i<m.verts.l.length:=(List.getElem?_eq_some_iff.1 hg).1;have hP:m.p.deepB i=decide (((m.p.depth i:Nat):Int)<=64):=decide_eq_decide.2 zo;rw[hP];simp only[Zd,Zp];refine Z ?_;intro g4;refine Z ?_;refine Zc hG ?_ (s:=Zo2 G hG c.ent d.ent m hm i zo (by rw[m.nv];omega));exact Zr
theorem Zb9(G:Nat->V)(c1 c d:Col)(m:MdM)(v:Int):Spec Tryz.prog G 160 [.int .i64 v,.view c1 (Zx c d m)] Zk (λw _=>w=.bool (m.p.inV v)):=by
 refine Zo 0 13 [.tmp 3] Tryz.func160 λX=>?_;rw[PM.inV,m.nv];simp only[Zd]
 by_cases h0:0<=v
 have q:decide (v>=0)=true:=zT;rw[decide_eq_true h0];exact Zq q;have q:decide (v>=0)=false:=zF;rw[decide_eq_false h0];exact Zq q
theorem Z2ia(G:Nat->V)(hE:GExp G)(c1 c2 c3 c d c' d' e:Col)(m:MdM)(he:m.events.l.length<1000000)(i:Nat){x:TrM}(hg:m.ways.l[i]?=some x)(b1:x.name.length<1000000000000000)(b3:x.triggers.l.length<1000000):
  Spec Tryz.prog G 162 [.int .i64 i,Zqa e x,.view c2 (.func (.func 160) [] [.view c3 (Zx c' d' m)]),.view c1 (Zx c d m)] Zk (λv _=>v=.bool (m.p.wayB (m.p.wy i))):=by
 have hG:=hE.ok;refine Zo 0 71 [.tmp 6] Tryz.func162 λX=>?_;rw[Zai hg]
 have hP:m.p.wayB x.p=(Zvc x.name&&m.p.inV x.source&&m.p.inV x.target&&evB m.events.l x.triggers.l&&decide (0<=x.after)&&decide (x.after<=65535)&&(x.after==0||decide (x.triggers.l.length=0)) &&
  decide (1<=x.kind)&&decide (x.kind<=3)&&decide (x.guard.length<=4096)&&decide (x.effect.length<=4096)):=rfl
 rw[hP];simp only[Z7];refine Z ?_;intro g5;refine Zhc zk ?_;simp -implicitDefEqProofs only[go_sem,seval,Z7,List.append_eq,List.cons_append,List.nil_append];refine Zc hG ?_ (s:=Z5d G hE x.name b1);cases q1:Zvc x.name;exact Zh q1;refine Zg q1 ?_;refine Zc hG ?_ (s:=Zb9 G c3.ent c'.ent d'.ent m x.source);cases q2:m.p.inV x.source;exact Zh q2;refine Zg q2 ?_;refine Zc hG ?_ (s:=Zb9 G c3.ent c'.ent d'.ent m x.target);cases q3:m.p.inV x.target;exact Zh q3;refine Zg (zi q3 Zd) ?_;refine Zc hG ?_ (s:=Zvh G hG c.ent d.ent e.ent m x.triggers he b3);cases q4:evB m.events.l x.triggers.l;exact Zh q4
 by_cases q5:0<=x.after
 rotate_left;have f5:decide (x.after>=0)=false:=zF;rw[decide_eq_false q5];exact Zh (zi q4 f5);have f5:decide (x.after>=0)=true:=zT;rw[decide_eq_true q5];cases q6:decide (x.after<=65535);exact Zh (zi q4 (zi f5 q6));have f:=zi q4 (zi f5 q6);cases q7:(x.after==0)
 have f8:(((x.triggers.l.length:Nat):Int)==0)=decide (x.triggers.l.length=0):=by
  rw[Bool.eq_iff_iff,beq_iff_eq,decide_eq_true_eq];omega
 cases q8:decide (x.triggers.l.length=0);rw[q8]at f8;exact Zh (zi f (zi q7 f8))
 .rw[q8]at f8
  by_cases q9:1<=x.kind
  rotate_left;have f9:decide (x.kind>=1)=false:=zF;rw[decide_eq_false q9];exact Zh (zi (zi f (zi q7 f8)) f9);have f9:decide (x.kind>=1)=true:=zT;rw[decide_eq_true q9];cases qa:decide (x.kind<=3);exact Zh (zi (zi f (zi q7 f8)) (zi f9 qa));have fb:decide (((x.guard.length:Nat):Int)<=4096)=decide (x.guard.length<=4096):=decide_eq_decide.2 zo;have fc:decide (((x.effect.length:Nat):Int)<=4096)=decide (x.effect.length<=4096):=decide_eq_decide.2 zo;cases qb:decide (x.guard.length<=4096);rw[qb]at fb;exact Zh (zi (zi f (zi q7 f8)) (zi f9 (zi qa fb)));rw[qb]at fb;exact Zh (zi (zi f (zi q7 f8)) (zi f9 (zi qa (zi fb fc))))
 .by_cases q9:1<=x.kind
  rotate_left;have f9:decide (x.kind>=1)=false:=zF;rw[decide_eq_false q9];exact Zh (zi (zi f q7) f9);have f9:decide (x.kind>=1)=true:=zT;rw[decide_eq_true q9];cases qa:decide (x.kind<=3);exact Zh (zi (zi f q7) (zi f9 qa));have fb:decide (((x.guard.length:Nat):Int)<=4096)=decide (x.guard.length<=4096):=decide_eq_decide.2 zo;have fc:decide (((x.effect.length:Nat):Int)<=4096)=decide (x.effect.length<=4096):=decide_eq_decide.2 zo;cases qb:decide (x.guard.length<=4096);rw[qb]at fb;exact Zh (zi (zi f q7) (zi f9 (zi qa fb)));rw[qb]at fb;exact Zh (zi (zi f q7) (zi f9 (zi qa (zi fb fc))))
theorem mdIm(b c d:Col)(m:MdM):(V.view b (Zx c d m)).Im:=.view _ _ λy hy=>by
 simp only[Zd,V.cells,List.mem_cons,List.not_mem_nil,or_false]at hy
 rcases hy with rfl|rfl|rfl|rfl|rfl|rfl
 exact .str _;exact Z3c vrIm _;exact Z3c stIm _;exact Z3c vrIm _;exact Z3c (vtIm d) _;exact Z3c (trIm d) _
theorem Zrba(G:Nat->V)(hE:GExp G)(c d:Col)(m:MdM)(hb:m.name.length<1000000000000000):Spec Tryz.prog G 76 [Zx c d m] Zk (λv _=>v=Zqf (m.p.ruleF 0)):=by
 have hG:=hE.ok;refine Zo 0 9 [.cell 2 140] Tryz.func76 λX=>?_
 have hP:m.p.ruleF 0=if isP m.name=2 then(0,0,0)else(1,0,130):=rfl
 rw[hP];simp only[Zd];refine Z ?_;intro g1 g2;refine Z ?_;refine Zc hG ?_ (s:=Z7f G hE m.name hb)
 by_cases h:isP m.name=2
 rw[if_pos h]
 have h0:((isP m.name:Int) != 2)=false:=by simp[h]
 exact Zh h0;rw[if_neg h]
 have h0:((isP m.name:Int) != 2)=true:=by
  have:¬ (isP m.name:Int)=2:=zo;simpa using this
 exact Zh h0
theorem Zqba(G:Nat->V)(hE:GExp G)(c d:Col)(m:MdM)(hb:MdB m):Spec Tryz.prog G 77 [Zx c d m] Zk (λv _=>v=Zqf (m.p.ruleF 1)):=by
 have hG:=hE.ok;refine Zo 0 7 [.cell 2 140] Tryz.func77 λX=>?_;have hP:m.p.ruleF 1=Zwb 2 64 m.p.varB m.vars.l.length:=rfl;rw[hP];have hl:=hb.nv;simp only[Zd];refine Z ?_;intro g1 g2;refine AW.weak (Zt (λo=>o==1) (l:=[(1,.view .new (Zx c d m)),(2,.ptr 2 g2 0)]) (m:=[(2,.cells .new g2 0 [.int .u8 0,.int .i64 0,.int .i64 0])]) ?_ ?_) ?_;refine Zs ?_;exact⟨Fz.ptr (v:=Zx c d m) (c:=.new) (fz:=0) zp zp,Fz.same _⟩;simp only[Zv,Zz,and_true];exact FzO.keep rfl zp;refine Zf Zd ?_;refine Zn hG ?_ (s:=Zyu G hG c.ent 2 64 m.vars zo (f:=144) (cap:=[.view .old (Zx c.ent d.ent m)]) (p:=m.p.varB) ⟨by kernel_rfl,Zzga c d m,λi x hx=>Z4ia G hE .old c.ent d.ent m zo i hx (hb.var x (List.mem_of_getElem? hx))⟩);generalize Zwb 2 64 m.p.varB m.vars.l.length=r;simp only[Zqf];refine Zs ?_;exact Zr
theorem Z0ha(G:Nat->V)(hE:GExp G)(c d:Col)(m:MdM)(hb:MdB m):Spec Tryz.prog G 78 [Zx c d m] Zk (λv _=>v=Zqf (m.p.ruleF 2)):=by
 have hG:=hE.ok;refine Zo 0 7 [.cell 2 140] Tryz.func78 λX=>?_;have hP:m.p.ruleF 2=Zwb 3 64 m.p.signalB m.events.l.length:=rfl;rw[hP];have hl:=hb.ne;simp only[Zd];refine Z ?_;intro g1 g2;refine AW.weak (Zt (λo=>o==1) (l:=[(1,.view .new (Zx c d m)),(2,.ptr 2 g2 0)]) (m:=[(2,.cells .new g2 0 [.int .u8 0,.int .i64 0,.int .i64 0])]) ?_ ?_) ?_;refine Zs ?_;exact⟨Fz.ptr (v:=Zx c d m) (c:=.new) (fz:=0) zp zp,Fz.same _⟩;simp only[Zv,Zz,and_true];exact FzO.keep rfl zp;refine Zf Zd ?_;refine Zn hG ?_ (s:=Z0u G hG c.ent 3 64 m.events zo (f:=148) (cap:=[.view .old (Zx c.ent d.ent m)]) (p:=m.p.signalB) ⟨by kernel_rfl,Zzga c d m,λi x hx=>Z5ia G hE .old c.ent d.ent m zo i hx (hb.ev x (List.mem_of_getElem? hx))⟩);generalize Zwb 3 64 m.p.signalB m.events.l.length=r;simp only[Zqf];refine Zs ?_;exact Zr
theorem Z1ha(G:Nat->V)(hE:GExp G)(c d:Col)(m:MdM)(hb:MdB m):Spec Tryz.prog G 79 [Zx c d m] Zk (λv _=>v=Zqf (m.p.ruleF 3)):=by
 have hG:=hE.ok;refine Zo 0 12 [.cell 2 140] Tryz.func79 λX=>?_
 have hP:m.p.ruleF 3=if m.regions.l=[]then(4,0,130)else Zwb 4 512 m.p.regionB m.regions.l.length:=rfl
 rw[hP];have hl:=hb.nr;simp only[Zd];refine Z ?_;intro g1 g2;refine AW.weak (Zt (λo=>o==1) (l:=[(1,.view .new (Zx c d m)),(2,.ptr 2 g2 0)]) (m:=[(2,.cells .new g2 0 [.int .u8 0,.int .i64 0,.int .i64 0])]) ?_ ?_) ?_;refine Zs ?_;exact⟨Fz.ptr (v:=Zx c d m) (c:=.new) (fz:=0) zp zp,Fz.same _⟩;simp only[Zv,Zz,and_true];exact FzO.keep rfl zp
 by_cases h:m.regions.l=[]
 rw[if_pos h]
 have q:(((m.regions.l.length:Nat):Int)==0)=true:=by rw[h]<;>rfl
 exact Zq (zi q Zd);rw[if_neg h]
 have q:(((m.regions.l.length:Nat):Int)==0)=false:=by
  have:m.regions.l.length≠0:=λe=>h (List.length_eq_zero_iff.1 e);have:¬ ((m.regions.l.length:Nat):Int)=0:=zo;simpa using this
 refine Zf (zi q Zd) ?_;refine Zn hG ?_ (s:=Z1u G hG c.ent 4 512 m.regions zo (f:=151) (cap:=[.view .old (Zx c.ent d.ent m)]) (p:=m.p.regionB) ⟨by kernel_rfl,Zzga c d m,λi x hx=>Z6ia G hE .old c.ent d.ent m i hx (hb.rg x (List.mem_of_getElem? hx))⟩);generalize Zwb 4 512 m.p.regionB m.regions.l.length=r;simp only[Zqf];refine Zs ?_;exact Zr
theorem Zzha(G:Nat->V)(hE:GExp G)(c d:Col)(m:MdM)(hb:MdB m):Spec Tryz.prog G 80 [Zx c d m] Zk (λv _=>v=Zqf (m.p.ruleF 4)):=by
 have hG:=hE.ok;refine Zo 0 7 [.cell 2 140] Tryz.func80 λX=>?_
 have hP:m.p.ruleF 4=Zwb 5 512 (λi=>m.p.vertexB (m.p.vx i)) m.verts.l.length:=by
  show Zwb 5 512 _ m.p.vertices.length=_
  rw[m.nv]
 rw[hP];have hl:=hb.nx;have he:=hb.ne;simp only[Zd];refine Z ?_;intro g1 g2;refine AW.weak (Zt (λo=>o==1) (l:=[(1,.view .new (Zx c d m)),(2,.ptr 2 g2 0)]) (m:=[(2,.cells .new g2 0 [.int .u8 0,.int .i64 0,.int .i64 0])]) ?_ ?_) ?_;refine Zs ?_;exact⟨Fz.ptr (v:=Zx c d m) (c:=.new) (fz:=0) zp zp,Fz.same _⟩;simp only[Zv,Zz,and_true];exact FzO.keep rfl zp;refine Zf Zd ?_
 refine Zn hG ?_ (s:=Znm G hG c.ent d.ent 5 512 m.verts zo (f:=155) (cap:=[.view .old (Zx c.ent d.ent m)]) (p:=λi=>m.p.vertexB (m.p.vx i)) ⟨by kernel_rfl,Zzga c d m,λi x hx=>by
  obtain⟨k1,k2,k3⟩:=hb.vt x (List.mem_of_getElem? hx)
  exact Z3ia G hE .old c.ent d.ent _ m zo i hx k1 k2 k3⟩)
 generalize Zwb 5 512 (λi=>m.p.vertexB (m.p.vx i)) m.verts.l.length=r;simp only[Zqf];refine Zs ?_;exact Zr
theorem Ztba(G:Nat->V)(hE:GExp G)(c d:Col)(m:MdM)(hb:MdB m)(hm:m.p.Rt5):Spec Tryz.prog G 81 [Zx c d m] Zk (λv _=>v=Zqf (m.p.ruleF 5)):=by
 have hG:=hE.ok;refine Zo 0 7 [.cell 2 140] Tryz.func81 λX=>?_
 have hP:m.p.ruleF 5=Zwb 5 512 m.p.deepB m.verts.l.length:=by
  show Zwb 5 512 _ m.p.vertices.length=_
  rw[m.nv]
 rw[hP];have hl:=hb.nx;simp only[Zd];refine Z ?_;intro g1 g2;refine AW.weak (Zt (λo=>o==1) (l:=[(1,.view .new (Zx c d m)),(2,.ptr 2 g2 0)]) (m:=[(2,.cells .new g2 0 [.int .u8 0,.int .i64 0,.int .i64 0])]) ?_ ?_) ?_;refine Zs ?_;exact⟨Fz.ptr (v:=Zx c d m) (c:=.new) (fz:=0) zp zp,Fz.same _⟩;simp only[Zv,Zz,and_true];exact FzO.keep rfl zp;refine Zf Zd ?_;refine Zn hG ?_ (s:=Znm G hG c.ent d.ent 5 512 m.verts zo (f:=158) (cap:=[.view .old (Zx c.ent d.ent m)]) (p:=m.p.deepB) ⟨by kernel_rfl,Zzga c d m,λi x hx=>Zbca G hG .old c.ent d.ent _ m hm i hx⟩);generalize Zwb 5 512 m.p.deepB m.verts.l.length=r;simp only[Zqf];refine Zs ?_;exact Zr
theorem rc_way(c d:Col)(m:MdM):[V.view .old (.func (.func 160) [] [.view .old (Zx c.ent d.ent m)]),.view .old (Zx c.ent d.ent m)].map (V.recol Col.ent)=[V.view .old (.func (.func 160) [] [.view .old (Zx c.ent d.ent m)]),.view .old (Zx c.ent d.ent m)]:=by
 simp only[List.map_cons,List.map_nil,V.recol,Z8,Z4f,Zyp];rfl
theorem Zpba(G:Nat->V)(hE:GExp G)(c d:Col)(m:MdM)(hb:MdB m):Spec Tryz.prog G 82 [Zx c d m] Zk (λv _=>v=Zqf (m.p.ruleF 6)):=by
 have hG:=hE.ok;refine Zo 0 9 [.cell 2 140] Tryz.func82 λX=>?_
 have hP:m.p.ruleF 6=Zwb 6 512 (λi=>m.p.wayB (m.p.wy i)) m.ways.l.length:=by
  show Zwb 6 512 _ m.p.ways.length=_
  rw[m.nw]
 rw[hP];have hl:=hb.nw;have he:=hb.ne;simp only[Zd];refine Z ?_;intro g1 g2;refine AW.weak (Zt (λo=>o==1) (l:=[(1,.view .new (Zx c d m)),(2,.ptr 2 g2 0)]) (m:=[(2,.cells .new g2 0 [.int .u8 0,.int .i64 0,.int .i64 0])]) ?_ ?_) ?_;refine Zs ?_;exact⟨Fz.ptr (v:=Zx c d m) (c:=.new) (fz:=0) zp zp,Fz.same _⟩;simp only[Zv,Zz,and_true];exact FzO.keep rfl zp;refine Z ?_;intro g3;refine AW.weak (Zt (λo=>o==3) (l:=[(1,.view .new (Zx c d m)),(2,.ptr 2 g2 0),(3,.view .new (.func (.func 160) [] [.view .new (Zx c d m)]))]) (m:=[(2,.cells .new g2 0 [.int .u8 0,.int .i64 0,.int .i64 0])]) ?_ ?_) ?_;refine Zs ?_;exact⟨Fz.same _,Fz.same _,Fz.ptr (v:=.func (.func 160) [] [.view .new (Zx c d m)]) (c:=.new) (fz:=0) zp zp⟩;simp only[Zv,Zz,and_true];exact FzO.keep rfl zp;refine Zf Zd ?_
 refine Zn hG ?_ (s:=Zzu G hG c.ent d.ent 6 512 m.ways zo (f:=162) (cap:=[.view .old (.func (.func 160) [] [.view .old (Zx c.ent d.ent m)]),.view .old (Zx c.ent d.ent m)]) (p:=λi=>m.p.wayB (m.p.wy i)) ⟨by kernel_rfl,rc_way c d m,λi x hx=>by
  obtain⟨k1,k2⟩:=hb.wy x (List.mem_of_getElem? hx)
  exact Z2ia G hE .old .old .old c.ent d.ent c.ent d.ent _ m zo i hx k1 k2⟩)
 generalize Zwb 6 512 (λi=>m.p.wayB (m.p.wy i)) m.ways.l.length=r;simp only[Zqf];refine Zs ?_;exact Zr
def Zwp(rs:Nat->Nat×Int×Int)(n:Nat):Nat×Int×Int:=match(List.range n).find? (λi=>(rs i).1 != 0)with|some i=>rs i|none=>(0,0,0)
theorem Zrb{rs:Nat->Nat×Int×Int}{n i:Nat}(hi:i<n)(h:∀ j,j<i->(rs j).1=0)(hb:(rs i).1≠0):Zwp rs n=rs i:=by
 have:(List.range n).find? (λi=>(rs i).1 != 0)=some i:=by
  rw[List.find?_range_eq_some];exact⟨zu hb,List.mem_range.2 hi,λj hj=>by simp[h j hj]⟩
 rw[Zwp,this]
theorem Zxj{rs:Nat->Nat×Int×Int}{n:Nat}(h:∀ j,j<n->(rs j).1=0):Zwp rs n=(0,0,0):=by
 rw[Zwp,List.find?_eq_none.2 (λj hj=>by simp[h j (List.mem_range.1 hj)])]
theorem Zjaa{part most:Nat}{p:Nat->Bool}{n:Nat}(hp:part≠0)(h:(Zwb part most p n).1=0):Zwb part most p n=(0,0,0):=by
 rw[Zwb]at h⊢
 cases hf:(List.range n).find? (λi=>i==most || !p i)with
 |some i=>rw[hf]at h;exact absurd h hp
 |none=>rfl
theorem Zzo(m:PM):m.rightP=Zwp m.ruleF 7:=by
 by_cases h0:(m.ruleF 0).1=0
 rotate_left;rw[Zrb (i:=0) zd (λj hj=>absurd hj (Nat.not_lt_zero _)) h0,PM.rightP,orE,if_pos h0]
 by_cases h1:(m.ruleF 1).1=0
 rotate_left
 rw[Zrb (i:=1) zd (λj hj=>by
  have:j=0:=zo
  rw[this];exact h0) h1,PM.rightP,orE,if_neg (λh=>h h0),orE,if_pos h1]
 by_cases h2:(m.ruleF 2).1=0
 rotate_left
 rw[Zrb (i:=2) zd (λj hj=>by
  have:j=0\/j=1:=zo
  rcases this with h|h<;>rw[h]<;>assumption) h2,PM.rightP,orE,if_neg (λh=>h h0),orE,if_neg (λh=>h h1),orE,if_pos h2]
 by_cases h3:(m.ruleF 3).1=0
 rotate_left
 rw[Zrb (i:=3) zd (λj hj=>by
  have:j=0\/j=1\/j=2:=zo
  rcases this with h|h|h<;>rw[h]<;>assumption) h3,PM.rightP,orE,if_neg (λh=>h h0),orE,if_neg (λh=>h h1),orE,if_neg (λh=>h h2),orE,if_pos h3]
 by_cases h4:(m.ruleF 4).1=0
 rotate_left
 rw[Zrb (i:=4) zd (λj hj=>by
  have:j=0\/j=1\/j=2\/j=3:=zo
  rcases this with h|h|h|h<;>rw[h]<;>assumption) h4,PM.rightP,orE,if_neg (λh=>h h0),orE,if_neg (λh=>h h1),orE,if_neg (λh=>h h2),orE,if_neg (λh=>h h3),orE,if_pos h4]
 by_cases h5:(m.ruleF 5).1=0
 rotate_left
 rw[Zrb (i:=5) zd (λj hj=>by
  have:j=0\/j=1\/j=2\/j=3\/j=4:=zo
  rcases this with h|h|h|h|h<;>rw[h]<;>assumption) h5,PM.rightP,orE,if_neg (λh=>h h0),orE,if_neg (λh=>h h1),orE,if_neg (λh=>h h2),orE,if_neg (λh=>h h3),orE,if_neg (λh=>h h4),orE,if_pos h5]
 have e:m.rightP=m.ruleF 6:=by
  rw[PM.rightP,orE,if_neg (λh=>h h0),orE,if_neg (λh=>h h1),orE,if_neg (λh=>h h2),orE,if_neg (λh=>h h3),orE,if_neg (λh=>h h4),orE,if_neg (λh=>h h5)]
 rw[e]
 by_cases h6:(m.ruleF 6).1=0
 rotate_left
 rw[Zrb (i:=6) zd (λj hj=>by
  have:j=0\/j=1\/j=2\/j=3\/j=4\/j=5:=zo
  rcases this with h|h|h|h|h|h<;>rw[h]<;>assumption) h6]
 rw[Zxj (λj hj=>by
  have:j=0\/j=1\/j=2\/j=3\/j=4\/j=5\/j=6:=zo
  rcases this with h|h|h|h|h|h|h<;>rw[h]<;>assumption)]
 exact Zjaa zd (show(Zwb 6 512 (λi=>m.wayB (m.wy i)) m.ways.length).1=0 from h6)
def Z1p(c d:Col)(m:MdM)(f:FuncId):V:=.func (.func f) [Zx c d m] []
theorem Z02(c d:Col)(m:MdM)(f:FuncId):Z1p c d m f=.func (.func f) [Zx c d m] []:=rfl
theorem Zoma(g:Col->Col)(c d:Col)(m:MdM)(f:FuncId):(Z1p c d m f).recol g=Z1p (g c) (g d) m f:=by
 simp only[Z02,V.recol,Z8,List.map_cons,List.map_nil,Z4f]
theorem Z8ba(G:Nat->V)(hG:GOk G)(c1 c d:Col)(m:MdM)(l:Sl FuncId)(hl:l.l.length<1000000)(rs:Nat->Nat×Int×Int)
  (h:∀ k f,l.l[k]?=some f->(∀ j,j<k->(rs j).1=0)->Zia Tryz.prog f=true/\Spec Tryz.prog G f [Zx c.ent d.ent m] Zk (λv _=>v=Zqf (rs k))):
  Spec Tryz.prog G 75 [Zb c1 1 (Z1p c d m) l] Zk (λv _=>v=Zqf (Zwp rs l.l.length)):=by
 refine Zo 0 20 [.cell 2 140] Tryz.func75 λX=>?_;refine Z ?_;intro g2;refine Z ?_
 refine Z9 l.l.length (λk (_:Unit)=>st [(2,.ptr 2 g2 0),(6,Zb c1 1 (Z1p c d m) l),(7,.int .i64 l.l.length),(8,.int .i64 k)] [(2,.cells .new g2 0 [.int .u8 0,.int .i64 0,.int .i64 0])])
  (λk _=>∀ j,j<k->(rs j).1=0) 0 () (Nat.zero_le _) (λi h=>absurd h (Nat.not_lt_zero _)) (Za zp zp) ?_
 intro k _ hk hR L3 hL3
 by_cases hk1:k<l.l.length
 have hlt:decide ((k:Int)<(l.l.length:Int))=true:=zT;have hg:=List.getElem?_eq_getElem hk1;generalize l.l[k]=x at hg;have w1:IntKind.i64.wrap ((k:Int)+1)=(k:Int)+1:=w64 zo zo;obtain⟨he,hsp⟩:=h k x hg hR;refine Zf (zi hlt (zi hg Z02)) ?_;refine Zn hG ?_ (e:=he) (s:=hsp);generalize hr:rs k=r at hsp;simp only[Zqf];refine Zs ?_;intro g5
 by_cases hz:r.1=0
 have q:(((r.1:Nat):Int) != 0)=false:=by simp[hz]
 refine Zf (zi q w1) ?_;refine hL3 _ ⟨hk1,(),λj hj=>?_,Za zp zp⟩
 by_cases h3:j=k
 rw[h3,hr];exact hz;exact hR j zo
 have q:(((r.1:Nat):Int) != 0)=true:=by
  have:¬ ((r.1:Nat):Int)=0:=zo;simpa using this
 rw[Zrb hk1 hR (by rw[hr];exact hz),hr];exact Zq q;have hke:k=l.l.length:=zo;subst hke;have hlt:decide ((l.l.length:Int)<(l.l.length:Int))=false:=zS;rw[Zxj hR];exact Zq hlt
theorem fmIm(c d:Col)(m:MdM)(f:FuncId):∀ y∈(Z1p c d m f).cells,y.Im:=λy hy=>by
 simp only[Z02,V.cells,List.mem_cons,List.not_mem_nil,or_false]at hy;rw[hy];refine .func _ _ _ (λx hx=>?_) (λx hx=>by cases hx);rw[List.mem_singleton.1 hx]
 cases mdIm .old c d m with
 |view _ _ h=>exact .agg _ h
def rgF:List FuncId:=[76,77,78,79,80,81,82]
theorem Rd.rgF{H:Heap}{g:Nat}{c d:Col}{m:MdM}(h:H 20=.cells .new g 0 (flat (rgF.map (Z1p c d m)))):Rd H (.msl 20 g 0 7 1) (Zb .old 1 (Z1p c.ent d.ent m) (.mk false Go.Hs.rgF)):=
 Rd.msl (l:=Go.Hs.rgF) (off:=0) (n:=7) (m:=1) (f:=Z1p c d m) (f':=Z1p c.ent d.ent m) (g:=g) (fz:=0) (c:=.new) h (λ_=>rfl) (fmIm c d m) (λf=>Zoma _ c d m f) zd
theorem flFl(r:Nat×Int×Int):(Zqf r).Fl:=.agg _ λy hy=>by
 simp only[List.mem_cons,List.not_mem_nil,or_false]at hy
 rcases hy with rfl|rfl|rfl<;>exact .int _ _
theorem Zrl(G:Nat->V)(hE:GExp G)(c d:Col)(m:MdM)(hb:MdB m):Spec Tryz.prog G 44 [Zx c d m] Zk (λv _=>v=.tuple [.int .u8 m.p.rightP.1,.int .i64 m.p.rightP.2.1,.int .i64 m.p.rightP.2.2]):=by
 have hG:=hE.ok;refine Zo 0 28 [.tmp 2,.tmp 3,.tmp 4] Tryz.func44 λX=>?_;rw[Zzo];simp only[Zd];refine Z ?_;intro g1;refine Z ?_;intro g20;refine Zs ?_;refine Zua hG [Zb .old 1 (Z1p c.ent d.ent m) (.mk false rgF)] zk ⟨Rd.rgF zp,trivial⟩ ?_;refine(Z8ba G hG .old c.ent d.ent m (.mk false rgF) zd m.p.ruleF ?_).mono ?_
 .intro k f hk h0
  rw[Zyp,Zyp]
  match k,hk with
  |0,hk=>obtain rfl:=Option.some.inj hk;exact⟨by kernel_rfl,Zrba G hE _ _ m hb.nm⟩
  |1,hk=>obtain rfl:=Option.some.inj hk;exact⟨by kernel_rfl,Zqba G hE _ _ m hb⟩
  |2,hk=>obtain rfl:=Option.some.inj hk;exact⟨by kernel_rfl,Z0ha G hE _ _ m hb⟩
  |3,hk=>obtain rfl:=Option.some.inj hk;exact⟨by kernel_rfl,Z1ha G hE _ _ m hb⟩
  |4,hk=>obtain rfl:=Option.some.inj hk;exact⟨by kernel_rfl,Zzha G hE _ _ m hb⟩
  |5,hk=>obtain rfl:=Option.some.inj hk;exact⟨by kernel_rfl,Ztba G hE _ _ m hb (PM.rt_vt (h0 3 zd) (h0 4 zd))⟩
  |6,hk=>obtain rfl:=Option.some.inj hk;exact⟨by kernel_rfl,Zpba G hE _ _ m hb⟩
  |k+7,hk=>cases hk
 rintro _ _ rfl;refine⟨flFl _,?_⟩
 show _
 simp only[show(Sl.mk false rgF).l.length=7 from rfl];generalize Zwp m.p.ruleF 7=r;simp only[Zqf];refine Zs ?_;intro g5;refine ZT hG ?_;exact Zr
def rF:Nat->FuncId
 |1=>83
 |2=>84
 |3=>85
 |4=>86
 |5=>87
 |6=>88
 |7=>89
 |8=>90
 |9=>91
 |10=>92
 |11=>93
 |12=>94
 |13=>95
 |14=>96
 |_=>97
def Zcg(k:Nat):V:=.func (.func (rF k)) [] []
def ruleFs:List V:=[.nilf,Zcg 1,Zcg 2,Zcg 3,Zcg 4,Zcg 5,Zcg 6,Zcg 7,Zcg 8,Zcg 9,Zcg 10,Zcg 11,Zcg 12,Zcg 13,Zcg 14,Zcg 15]
theorem Zql{k:Nat}(h:1<=k)(h2:k<=15):ruleFs[k]?=some (Zcg k)/\Zia Tryz.prog (rF k)=true:=by
 have hk:k=1\/k=2\/k=3\/k=4\/k=5\/k=6\/k=7\/k=8\/k=9\/k=10\/k=11\/k=12\/k=13\/k=14\/k=15:=zo
 rcases hk with rfl|rfl|rfl|rfl|rfl|rfl|rfl|rfl|rfl|rfl|rfl|rfl|rfl|rfl|rfl<;>exact⟨rfl,by kernel_rfl⟩
@[go_sem] theorem recol_rules(g:Col->Col):ruleFs.map (V.recol g)=ruleFs:=rfl
theorem Zwr(G:Nat->V):Spec Tryz.prog G 46 [] Zk (λw _=>w=.agg ruleFs):=by
 refine Zo 0 2 [.cell 0 103] Tryz.func46 λX=>?_;refine Z ?_;intro g0;exact Zr
structure MdT(m:MdM):Prop where
 ef:∀ t∈m.ways.l,t.effect.length<=900
 gu:∀ t∈m.ways.l,t.guard.length<=900
 en:∀ x∈m.verts.l,x.entry.length<=900/\x.exit.length<=900
theorem Zfs(G:Nat->V)(hE:GExp G)(b c d e:Col)(m:MdM)(ns vs:Sl (List UInt8))(hb:MdB m)(hm:m.p.Rt)(ht:MdT m)(hns:ns.l=m.p.vn++[Zjh])(hvs:vs.l=m.p.vn)(k:Nat)(h1:1<=k)(h2:k<=15)(t:Int)(t0:0<=t)(t1:t<m.p.places k):
  Spec Tryz.prog G (rF k) [ckV b c d e m ns vs,.int .i64 t] Zk (λw _=>w=.bool (m.p.keep Zba Z2 k t)):=by
 have hG:=hE.ok;have b1:=hb.nw;have b2:=hb.nx;have b3:=hb.ne
 have hvl:m.p.vn.length<=600:=by
  show(m.vars.l.map _).length<=_
  rw[List.length_map];exact hb.nv
 have hnl:ns.l.length<1000000:=by rw[hns,List.length_append];show _+1<_;omega
 have hsl:vs.l.length<100000:=by rw[hvs];omega
 have hway:t<m.p.ways.length->((m.p.wy t).effect.length<=900/\(m.p.wy t).guard.length<100000):=λh=>by
  obtain⟨j,x,rfl,hj,hg,hx⟩:=Zxd t0 h;rw[hx];have:=ht.gu x (List.mem_of_getElem? hg);exact⟨ht.ef x (List.mem_of_getElem? hg),by show x.guard.length<_;omega⟩
 have hver:t<m.p.vertices.length->((m.p.vx t).entry.length<=900/\(m.p.vx t).exit.length<=900):=λh=>by
  obtain⟨j,x,rfl,hj,hg,hx⟩:=MdM.at t0 h;rw[hx];exact ht.en x (List.mem_of_getElem? hg)
 have hgl:∀ t∈m.ways.l,t.guard.length<100000:=λt h=>by have:=ht.gu t h;omega
 have hk:k=1\/k=2\/k=3\/k=4\/k=5\/k=6\/k=7\/k=8\/k=9\/k=10\/k=11\/k=12\/k=13\/k=14\/k=15:=zo
 rcases hk with rfl|rfl|rfl|rfl|rfl|rfl|rfl|rfl|rfl|rfl|rfl|rfl|rfl|rfl|rfl
 exact r1_spec G hG b c d e m ns vs zo t;exact r2_spec G hG b c d e m ns vs hm zo t t0 t1;exact r3_spec G hG b c d e m ns vs zo t t0 t1;exact r4_spec G hG b c d e m ns vs hm zo t t0 t1;exact r5_spec G hG b c d e m ns vs hm zo t t0 t1;exact r6_spec G hE b c d e m ns vs zo hgl t t0 t1;exact r7_spec G hG b c d e m ns vs hm zo zo t t0 t1;exact r8_spec G hG b c d e m ns vs hm zo t t0 t1;exact r9_spec G hG b c d e m ns vs hm t t0 t1;exact Zyma G hE b c d e m ns vs hm hns hnl t t0 t1 (hway t1).2;exact Zxma G hG b c d e m ns vs hm t t0 t1;exact Zwma G hE b c d e m ns vs hvs hsl zo t t0 t1 (hway t1).1;exact Zvma G hE b c d e m ns vs hvs hsl zo t t0 t1 (hver t1);exact Zuma G hG b c d e m ns vs hm t t0 t1;exact Ztma G hG b c d e m ns vs hm t t0 t1
def Zub(p:Nat×Int):V:=.agg [.int .u8 p.1,.int .i64 p.2]
theorem Zah(p:Nat×Int):Zub p=.agg [.int .u8 p.1,.int .i64 p.2]:=rfl
theorem Z4t(p:Nat×Int):(Zub p).cells.length=2:=rfl
theorem PM.places_le(m:PM)(k:Nat):m.places k<=m.regions.length+m.vertices.length+m.ways.length:=by
 rw[PM.places];split;omega
 split<;>omega
theorem Z7c(G:Nat->V)(hE:GExp G)(c d:Col)(m:MdM)(hb:MdB m)(ht:m.p.Rt->MdT m):
  Spec Tryz.prog G 15 [Zx c d m] Zk (λw _=>w=.tuple [Zb .new 2 Zub (Zl (m.p.checkW Zba Z2).1),.int .i64 (m.p.checkW Zba Z2).2]):=by
 have hG:=hE.ok;refine Zo 0 49 [.tmp 2,.tmp 3] Tryz.func15 λX=>?_;rw[PM.checkW];have hr:=PM.right_er (m:=m.p);simp only[Zd];refine Z ?_;intro g1;refine AW.weak (Zt (λo=>o==1) (l:=[(1,.view .new (Zx c d m)),(2,.nils),(3,.int .i64 0)]) (m:=[]) ?_ trivial) ?_;refine Zs ?_;exact⟨Fz.ptr (v:=Zx c d m) (c:=.new) (fz:=0) zp zp,Fz.same _,Fz.same _⟩;refine Zf Zd ?_;refine Zn hG ?_ (s:=Zrl G hE c.ent d.ent m hb);have hrt:=λh=>PM.rt_of (m:=m.p) h;generalize m.p.rightP=rp at hr hrt;refine Zs ?_
 by_cases h:rp.2.2=0
 rotate_left;rw[if_pos h];have q:(rp.2.2 != 0)=true:=zu h;exact Zq q;rw[if_neg (λk=>k h)]
 have q:(rp.2.2 != 0)=false:=by simp[h]
 have hm:m.p.Rt:=hrt (hr.1 h);have hT:=ht hm;have hnv:=hb.nv;refine Zf (zi q Zd) ?_;refine Zc hG ?_ (s:=Zop G hG c.ent d.ent m hnv);refine Z ?_;refine Zc hG ?_ (s:=Zwr G);refine Z ?_;have hpl:=λk=>m.p.places_le k;have b1:=hb.nr;have b2:=hb.nx;have b3:=hb.nw
 have hpl:∀ k,m.p.places k<=1800:=λk=>by
  have:=hpl k;have e1:m.p.regions.length=m.regions.l.length:=rfl;have e2:=m.nv;have e3:=m.nw;omega
 refine Z9 16 (λr (g:Nat)=>st [(2,grown 46 g 2 (m.p.badL Zba Z2 (r-1))),(4,ckV .new c.ent.bk d.ent.bk .new m (.mk false (m.p.vn++[Zjh])) (Zl m.p.vn)),(19,.agg ruleFs),(20,.int .i64 r)] [(46,Zza g Zub (m.p.badL Zba Z2 (r-1)))])
  (λr _=>(m.p.badL Zba Z2 (r-1)).length<=1800*r) 0 0 zd (Nat.zero_le _) (Za zp zp) ?_
 intro r g hr1 hR L3 hL3
 by_cases hr2:r<16
 rotate_left;obtain rfl:r=16:=zo;have hlt:decide (((16:Nat):Int)<16)=false:=rfl;have e15:m.p.badL Zba Z2 (16-1)=m.p.badL Zba Z2 15:=rfl;rw[e15];generalize m.p.badL Zba Z2 15=acc;refine AW.weak (Zt (λo=>o==46) (l:=[(2,Zb .new 2 Zub (Zl acc)),(20,.int .i64 (16:Nat))]) (m:=[]) ?_ trivial) ?_;refine Zs ?_;exact⟨Z3a (l:=acc) (g:=g) (f:=Zub) rfl zp Z4t,Fz.same _⟩;exact Zr;have hlt:decide ((r:Int)<16)=true:=zT;have w1:IntKind.i64.wrap ((r:Int)+1)=(r:Int)+1:=w64 zo zo
 have hrv:∃ f,ruleFs[r]?=some f/\(1<=r->f=Zcg r/\Zia Tryz.prog (rF r)=true):=by
  rcases Nat.eq_zero_or_pos r with h0|h0
  subst h0;exact⟨_,rfl,λh=>absurd h zd⟩;exact⟨_,(Zql h0 zo).1,λ_=>⟨rfl,(Zql h0 zo).2⟩⟩
 obtain⟨fv,hfv,hfr⟩:=hrv;have hr3:(r:Int)<16:=zo;refine Zf (zi hlt (zi hfv (zi hr3 (zi @Int.natCast_nonneg Nat.mul_one)))) ?_;have hbl:∀ a,(m.p.badAt Zba Z2 r a).length<=a:=λa=>PM.badAt_len r a
 have hn:(if r=0 then 0 else m.p.places r)<=1800:=by split;exact Nat.zero_le _;exact hpl r
 have hnx:(m.p.badL Zba Z2 (r-1))++(if r=0 then[]else m.p.badAt Zba Z2 r (m.p.places r))=m.p.badL Zba Z2 r:=by
  rcases Nat.eq_zero_or_pos r with h0|h0
  subst h0;rfl;rw[if_neg zo];obtain⟨r,rfl⟩:∃ r',r=r'+1:=⟨r-1,zo⟩
  rw[PM.badL_succ]<;>rfl
 have hba:∀ a,r≠0->m.p.badAt Zba Z2 r (a+1)=m.p.badAt Zba Z2 r a++(if m.p.keep Zba Z2 r (a:Int)=true then[]else[(r,(a:Int))]):=λa _=>PM.badAt_succ r a;have hks:=λb c d e ns vs (h1:ns.l=m.p.vn++[Zjh]) (h2:vs.l=m.p.vn) h3=>Zfs G hE b c d e m ns vs hb hm hT h1 h2 r h3 zo;generalize m.p.badL Zba Z2 (r-1)=acc at hR hnx
 refine Z9 (if r=0 then 0 else m.p.places r) (λa (g:Nat)=>st [(2,grown 46 g 2 (acc++if r=0 then[]else m.p.badAt Zba Z2 r a)),(4,ckV .new c.ent.bk d.ent.bk .new m (.mk false (m.p.vn++[Zjh])) (Zl m.p.vn)),(5,.int .i64 r),(6,fv),(7,.int .i64 a),(19,.agg ruleFs),(20,.int .i64 r)] [(46,Zza g Zub (acc++if r=0 then[]else m.p.badAt Zba Z2 r a))])
  (λa _=>True) 0 g (Nat.zero_le _) trivial (Za ?_ ?_) ?_
 have:(acc++if r=0 then[]else m.p.badAt Zba Z2 r 0)=acc:=by
  split
  exact List.append_nil _;exact List.append_nil _
 rw[this];exact zp
 have:(acc++if r=0 then[]else m.p.badAt Zba Z2 r 0)=acc:=by
  split
  exact List.append_nil _;exact List.append_nil _
 rw[this];exact zp;intro a g ha _ L7 hL7;have hwr:IntKind.u8.wrap (r:Int)=(r:Int):=wu8R zo zo
 by_cases ha1:a<(if r=0 then 0 else m.p.places r)
 rotate_left
 .have hae:a=(if r=0 then 0 else m.p.places r):=zo
  have hend:(acc++if r=0 then[]else m.p.badAt Zba Z2 r a)=m.p.badL Zba Z2 (r+1-1):=by
   rw[Nat.add_sub_cancel,<- hnx,hae]
   split<;>rfl
  rw[hend]
  have hfin:∀ s,Weak ⟨X,Zk,49,0,G,none,[],.plain⟩ s (st [(2,grown 46 g 2 (m.p.badL Zba Z2 (r+1-1))),(4,ckV .new c.ent.bk d.ent.bk .new m (.mk false (m.p.vn++[Zjh])) (Zl m.p.vn)),(19,.agg ruleFs),(20,.int .i64 (r+1:Nat))] [(46,Zza g Zub (m.p.badL Zba Z2 (r+1-1)))])->L3 s:=λs hs=>by
   refine hL3 s ⟨hr2,g,?_,hs⟩;rw[<- hend,List.length_append]
   have e2:(if r=0 then([]:List (Nat×Int))else m.p.badAt Zba Z2 r a).length<=1800:=by
    split
    exact Nat.zero_le _;exact Nat.le_trans (hbl a) zo
   omega
  try clear hL3
  by_cases h0:r=0
  have q0:decide ((r:Int)>0)=false:=zF;refine Zf (zi q0 w1) ?_;exact hfin _ (Za zp zp);have q0:decide ((r:Int)>0)=true:=zT;rw[if_neg h0]at hae;have q1:decide ((a:Int)<(m.p.places r:Int))=false:=zF;refine Zf q0 ?_;refine Zc hG ?_ (s:=Z6h G _ _ _ _ m _ _ r);refine Zg (zi q1 w1) ?_;exact hfin _ (Za zp zp)
 have h0:r≠0:=λh=>by rw[if_pos h]at ha1;exact absurd ha1 (Nat.not_lt_zero _)
 rw[if_neg h0]at ha1;have hpr:=hpl r;have q0:decide ((r:Int)>0)=true:=zT;have q1:decide ((a:Int)<(m.p.places r:Int))=true:=zT;have w2:IntKind.i64.wrap ((a:Int)+1)=(a:Int)+1:=w64 zo zo;obtain⟨rfl,hen⟩:=hfr zo;simp only[if_neg h0]at hL7⊢;rw[hba a h0]at hL7;have hal:=hbl a;generalize m.p.badAt Zba Z2 r a=bl at hL7 hal⊢;refine Zf q0 ?_;refine Zc hG ?_ (s:=Z6h G _ _ _ _ m _ _ r);refine Zg (zi q1 (show Zcg r=.func (.func (rF r)) [] []from rfl)) ?_;have hsp:=λb c d e=>hks b c d e (.mk false (m.p.vn++[Zjh])) (Zl m.p.vn) rfl (Zm _) zo a (Int.natCast_nonneg a) zo;refine Zc hG ?_ (e:=hen) (s:=hsp _ _ _ _);cases hk:m.p.keep Zba Z2 r (a:Int);rw[hk,if_neg zd,<- List.append_assoc]at hL7;refine Zf (zi hk hwr) ?_;intro g45;refine Zna (f:=Zub) (l:=acc++bl) (l2:=[(r,(a:Int))]) (g:=g) Z4t rfl rfl rfl zp (Z5 zo (by simp only[List.length_append,List.length_cons,List.length_nil];omega)) λg2=>?_;refine Zs ?_;refine Zf w2 ?_;exact hL7 _ ⟨ha1,g2,trivial,Za (zpf (show V.func (.func (rF r)) [] []=Zcg r from rfl)) zp⟩;rw[hk,if_pos rfl,List.append_nil]at hL7;refine Zf (zi hk w2) ?_;exact hL7 _ ⟨ha1,g,trivial,Za (zpf (show V.func (.func (rF r)) [] []=Zcg r from rfl)) zp⟩
theorem Ztv(G:Nat->V)(hE:GExp G)(c d:Col)(m:MdM)(hb:MdB m)(ht:m.p.Rt->MdT m)(rule at_:Int)(hr0:0<=rule)(hr1:rule<256):
  Spec Tryz.prog G 17 [Zx c d m,.int .u8 rule,.int .i64 at_] Zk (λw _=>w=.bool (m.p.ruleW Zba Z2 rule at_)):=by
 have hG:=hE.ok;refine Zo 0 47 [.tmp 6] Tryz.func17 λX=>?_;rw[PM.ruleW];simp only[Zd];refine Z ?_;intro g3;refine AW.weak (Zt (λo=>o==3) (l:=[(1,.int .u8 rule),(2,.int .i64 at_),(3,.view .new (Zx c d m)),(6,.bool false)]) (m:=[]) ?_ trivial) ?_;refine Zs ?_;exact⟨Fz.same _,Fz.same _,Fz.ptr (v:=Zx c d m) (c:=.new) (fz:=0) zp zp,Fz.same _⟩;refine Zf Zd ?_;refine Zn hG ?_ (s:=Zrl G hE c.ent d.ent m hb);have hr:=PM.right_er (m:=m.p);have hrt:=λh=>PM.rt_of (m:=m.p) h;generalize m.p.rightP=rp at hr hrt;refine Zs ?_
 by_cases h:rp.2.2=0
 rotate_left;rw[decide_eq_false h];simp only[Bool.false_and];have q:(rp.2.2 != 0)=true:=zu h;exact Zq q;rw[decide_eq_true h,Bool.true_and]
 have q:(rp.2.2 != 0)=false:=by simp[h]
 have hm:m.p.Rt:=hrt (hr.1 h);have hT:=ht hm
 by_cases h1:1<=rule
 rotate_left;rw[decide_eq_false h1];simp only[Bool.false_and];have f1:decide (rule<1)=true:=zT;exact Zq (zi q f1);rw[decide_eq_true h1,Bool.true_and];have f1:decide (rule<1)=false:=zF
 by_cases h2:rule<=15
 rotate_left;rw[decide_eq_false h2];simp only[Bool.false_and];have f2:decide (rule>15)=true:=zT;exact Zq (zi q (zi f1 f2));rw[decide_eq_true h2,Bool.true_and];have f2:decide (rule>15)=false:=zF;obtain⟨k,rfl⟩:∃ k:Nat,rule=(k:Int):=⟨rule.toNat,zo⟩;obtain⟨hfv,hen⟩:=Zql (k:=k) zo zo;have hr3:(k:Int)<16:=zo;have w1:IntKind.i64.wrap (k:Int)=(k:Int):=w64 zo zo;rw[Int.toNat_natCast];refine Zf (zi q (zi f1 (zi f2 Zd))) ?_;refine Zc hG ?_ (s:=Zop G hG c.ent d.ent m hb.nv)
 by_cases h3:0<=at_
 rotate_left;rw[decide_eq_false h3];simp only[Bool.false_and];have f3:decide (at_>=0)=false:=zF;exact Zq f3;rw[decide_eq_true h3,Bool.true_and];have f3:decide (at_>=0)=true:=zT;refine Zf (zi f3 w1) ?_;refine Zc hG ?_ (s:=Z6h G _ _ _ _ m _ _ k);cases h4:decide (at_<(m.p.places k:Int));exact Zh h4;rw[Bool.true_and];refine Zg h4 ?_;refine Zc hG ?_ (s:=Zwr G);refine Zsf (zi hfv (zi hr3 (zi @Int.natCast_nonneg (zi Nat.mul_one (show Zcg k=.func (.func (rF k)) [] []from rfl))))) ?_;have hsp:=λb c d e=>Zfs G hE b c d e m (.mk false (m.p.vn++[Zjh])) (Zl m.p.vn) hb hm hT rfl (Zm _) k zo zo at_ h3 (of_decide_eq_true h4);refine Zc hG ?_ (e:=hen) (s:=hsp _ _ _ _);exact Zr
theorem Z78(G:Nat->V)(c1 c d:Col)(m:MdM)(v:Int):Spec Tryz.prog G 68 [.int .i64 v,.view c1 (Zx c d m)] Zk (λw _=>w=.bool (m.p.inV v)):=by
 refine Zo 0 13 [.tmp 3] Tryz.func68 λX=>?_;rw[PM.inV,m.nv];simp only[Zd]
 by_cases h0:0<=v
 have q:decide (v>=0)=true:=zT;rw[decide_eq_true h0];exact Zq q;have q:decide (v>=0)=false:=zF;rw[decide_eq_false h0];exact Zq q
def PM.inW(m:PM)(v s:Int):Bool:=decide ((m.rightP).2.2=0)&&m.inV v&&m.inV s&&((m.vx s).kind==1)&&m.inB v s
theorem Zt2(G:Nat->V)(hE:GExp G)(c d:Col)(m:MdM)(hb:MdB m)(v s:Int):
  Spec Tryz.prog G 39 [Zx c d m,.int .i64 v,.int .i64 s] Zk (λw _=>w=.bool (m.p.inW v s)):=by
 have hG:=hE.ok;refine Zo 0 46 [.tmp 6] Tryz.func39 λX=>?_;rw[PM.inW];simp only[Zd];refine Z ?_;intro g3;refine AW.weak (Zt (λo=>o==3) (l:=[(1,.int .i64 v),(2,.int .i64 s),(3,.view .new (Zx c d m)),(6,.bool false)]) (m:=[]) ?_ trivial) ?_;refine Zs ?_;exact⟨Fz.same _,Fz.same _,Fz.ptr (v:=Zx c d m) (c:=.new) (fz:=0) zp zp,Fz.same _⟩;refine Zf Zd ?_;refine Zn hG ?_ (s:=Zrl G hE c.ent d.ent m hb);have hr:=PM.right_er (m:=m.p);have hrt:=λh=>PM.rt_of (m:=m.p) h;generalize m.p.rightP=rp at hr hrt;refine Zs ?_
 by_cases h:rp.2.2=0
 rotate_left;rw[decide_eq_false h];simp only[Bool.false_and];have q:(rp.2.2==0)=false:=zu h;exact Zq q;rw[decide_eq_true h,Bool.true_and]
 have q:(rp.2.2==0)=true:=by simp[h]
 have hm:m.p.Rt:=hrt (hr.1 h);refine Zf q ?_;refine Zc hG ?_ (s:=Z78 G .old c.ent d.ent m v);cases h1:m.p.inV v;exact Zh h1;rw[Bool.true_and];refine Zg h1 ?_;refine Zc hG ?_ (s:=Z78 G .old c.ent d.ent m s);cases h2:m.p.inV s;exact Zh h2;rw[Bool.true_and];have hv1:=h1;have hs1:=h2;simp only[PM.inV,Bool.and_eq_true,decide_eq_true_eq]at hv1 hs1;have hin:=λb c d e=>Z6k G hG b c d e m (.mk false (m.p.vn++[Zjh])) (Zl m.p.vn) hm v s hv1.1 hv1.2;obtain⟨k,x,rfl,hk,hg,hx⟩:=MdM.at hs1.1 hs1.2;rw[hx];have hxk:(x.p.kind==1)=(x.kind==1):=rfl;rw[hxk];have f:=zi h2 (zi hg (zi hk (zi Zp (zi Zd (zi @Int.natCast_nonneg @Int.ofNat_lt)))));cases h3:(x.kind==1);exact Zh (zi f h3);rw[Bool.true_and];refine Zg (zi f h3) ?_;refine Zc hG ?_ (s:=Zop G hG c.ent d.ent m hb.nv);refine Z ?_;refine Zc hG ?_ (s:=hin _ _ _ _);exact Zr
end Go.Hs
end

section
namespace Go.Hs
open Go.Proofs
set_option maxRecDepth 10000
set_option maxHeartbeats 4000000
theorem Z6u(G:Nat->V)(hG:GOk G)(c c1:Col)(a b:Sl (Nat×Int))(h:a.l=b.l)(ha:a.l.length<=100000):
  Spec Tryz.prog G 16 [Zb c 2 Zub a,Zb c1 2 Zub b] Zk (λv _=>v=.bool true):=by
 refine Zo 0 41 [.tmp 4] Tryz.func16 λX=>?_
 have u0:((a.l.length:Int) != (b.l.length:Int))=false:=by rw[h];simp
 refine Zf u0 ?_;refine Z9 a.l.length (λk (_:Unit)=>st [(0,Zb c 2 Zub a),(1,Zb c1 2 Zub b),(5,.int .i64 k)] []) (λ_ _=>True) 0 () (Nat.zero_le _) trivial (Za zp zp) ?_;intro k _ hk _ L3 hL3
 by_cases hk1:k<a.l.length
 have hlt:decide ((k:Int)<(a.l.length:Int))=true:=zT;have hg:=List.getElem?_eq_getElem hk1;generalize a.l[k]=p at hg
 have hg2:b.l[k]?=some p:=by rw[<- h];exact hg
 have hk2:k<b.l.length:=by rw[<- h];exact hk1
 have w1:IntKind.i64.wrap ((k:Int)+1)=(k:Int)+1:=w64 zo zo;have u1:((p.1:Int) != (p.1:Int))=false:=zS;have u2:(p.2 != p.2)=false:=zS;refine Z1f hlt ?_;refine ZTf (zi u1 (zi u2 (zi hg (zi hg2 (zi Zah (zi hk1 (zi hk2 (zi @Int.natCast_nonneg @Int.ofNat_lt)))))))) hG ?_;refine Zf w1 ?_;exact hL3 _ ⟨hk1,(),trivial,Za zp zp⟩;have hke:k=a.l.length:=zo;have hlt:decide ((k:Int)<(a.l.length:Int))=false:=zF;rw[hke]at hlt⊢;exact Zq hlt
theorem Zkj(G:Nat->V)(c:Col)(l:Sl (Nat×Int))(rule:Nat)(at_:Int):Spec Tryz.prog G 38 [Zb c 2 Zub l,.int .u8 rule,.int .i64 at_] Zk (λv _=>v=.bool (l.l==[(rule,at_)])):=by
 refine Zo 0 19 [.tmp 6] Tryz.func38 λX=>?_
 by_cases h:l.l.length=1
 obtain⟨p,hp⟩:=List.length_eq_one_iff.1 h
 have u:((l.l.length:Int)==1)=true:=by rw[h]<;>rfl
 have hg:l.l[0]?=some p:=by rw[hp]<;>rfl
 have h0:0<l.l.length:=zo
 have e:(l.l==[(rule,at_)])=((p.1:Int)==(rule:Int)&&p.2==at_):=by
  rw[hp,Bool.eq_iff_iff];simp only[beq_iff_eq,List.cons.injEq,and_true,Bool.and_eq_true,Prod.ext_iff];omega
 rw[e];refine Zf (zi u (zi hg (zi h0 Zah))) ?_;rw[Bool.and_true]
 have u:((l.l.length:Int)==1)=false:=by rw[beq_eq_false_iff_ne];omega
 have e:(l.l==[(rule,at_)])=false:=by rw[beq_eq_false_iff_ne];intro q;rw[q]at h;exact h rfl
 rw[e];exact Zq u
end Go.Hs
end

section
namespace Go.Hs
open Go.Proofs
set_option maxRecDepth 10000
set_option maxHeartbeats 4000000
def txR(s:List UInt8):Prop:=s.length<=140737488351232
structure MdR(m:MdM):Prop where
 nm:txR m.name
 var:m.vars.l.length<=140737488351232/\∀ p∈m.vars.l,txR p.1
 ev:m.events.l.length<=140737488351232/\∀ s∈m.events.l,txR s
 rg:m.regions.l.length<=140737488351232/\∀ p∈m.regions.l,txR p.1
 vt:m.verts.l.length<=140737488351232/\∀ x∈m.verts.l,txR x.name/\txR x.entry/\txR x.exit/\txR x.sub/\x.defers.l.length<=140737488351232/\∀ s∈x.defers.l,txR s
 wy:m.ways.l.length<=140737488351232/\∀ x∈m.ways.l,txR x.name/\txR x.guard/\txR x.effect/\x.triggers.l.length<=140737488351232/\∀ s∈x.triggers.l,txR s
def Zsc(s:List UInt8):Bool:=decide (s.length<=100)||decide (4096<s.length)
def Z2k(n most:Nat):Bool:=decide (n<=40)||(decide (most<n)&&decide (n<=600))
theorem Z3h{n most:Nat}(h:Z2k n most=true):n<=600:=by
 simp only[Z2k,Bool.or_eq_true,Bool.and_eq_true,decide_eq_true_eq]at h;omega
structure FewM(m:MdM):Prop where
 nv:m.vars.l.length<=600
 ne:m.events.l.length<=600
 nr:m.regions.l.length<=600
 nx:m.verts.l.length<=600
 nw:m.ways.l.length<=600
 vt:∀ x∈m.verts.l,Zsc x.entry=true/\Zsc x.exit=true/\x.defers.l.length<=40
 wy:∀ x∈m.ways.l,Zsc x.guard=true/\Zsc x.effect=true/\x.triggers.l.length<=40
theorem Zgf(G:Nat->V)(n most:Nat):Spec Tryz.prog G 33 [.int .i64 n,.int .i64 most] Zk (λv _=>v=.bool (Z2k n most)):=by
 refine Zo 0 16 [.tmp 4] Tryz.func33 λX=>?_;rw[Z2k];have e1:decide ((n:Int)<=40)=decide (n<=40):=decide_eq_decide.2 zo;have e2:decide ((n:Int)>(most:Int))=decide (most<n):=decide_eq_decide.2 zo;have e3:decide ((n:Int)<=600)=decide (n<=600):=decide_eq_decide.2 zo;cases q1:decide (n<=40);rw[q1]at e1;cases q2:decide (most<n);rw[q2]at e2;exact Zq (zi e1 e2);rw[q2]at e2;exact Zq (zi e1 (zi e2 e3));rw[q1]at e1;exact Zq e1
theorem Z5c(G:Nat->V)(s:List UInt8):Spec Tryz.prog G 34 [.str s] Zk (λv _=>v=.bool (Zsc s)):=by
 refine Zo 0 11 [.tmp 2] Tryz.func34 λX=>?_;rw[Zsc];have e1:decide ((s.length:Int)<=100)=decide (s.length<=100):=decide_eq_decide.2 zo;have e2:decide ((s.length:Int)>4096)=decide (4096<s.length):=decide_eq_decide.2 zo;cases q1:decide (s.length<=100);rw[q1]at e1;exact Zq (zi e1 e2);rw[q1]at e1;exact Zq e1
theorem Zjp(G:Nat->V)(hG:GOk G)(c:Col)(l:Sl (List UInt8))(hl:l.l.length<=140737488351232):
  Spec Tryz.prog G 36 [Zb c 1 V.str l] Zk (λv _=>∃ b,v=.bool b/\(b=true->l.l.length<=40)):=by
 refine Zo 0 19 [.tmp 2] Tryz.func36 λX=>?_;refine Z ?_;refine Z9 l.l.length (λk (_:Unit)=>st [(0,Zb c 1 V.str l),(3,.int .i64 k)] []) (λ_ _=>True) 0 () (Nat.zero_le _) trivial (Za zp zp) ?_;intro k _ hk _ L3 hL3
 by_cases hk1:k<l.l.length
 have hlt:decide ((k:Int)<(l.l.length:Int))=true:=zT;have hg:=List.getElem?_eq_getElem hk1;generalize l.l[k]=x at hg;have w1:IntKind.i64.wrap ((k:Int)+1)=(k:Int)+1:=w64 zo zo;refine Zf (zi hlt (zi hg (zi hk1 (zi @Int.natCast_nonneg @Int.ofNat_lt)))) ?_;refine Zc hG ?_ (s:=Z5c G x);cases q:Zsc x;refine Zg q ?_;exact⟨_,rfl,λh=>by cases h⟩;refine Zg (zi q w1) ?_;exact hL3 _ ⟨hk1,(),trivial,Za zp zp⟩;have hke:k=l.l.length:=zo;have hlt:decide ((k:Int)<(l.l.length:Int))=false:=zF;rw[hke]at hlt⊢;refine Zf hlt ?_;exact⟨_,rfl,λh=>by have:=of_decide_eq_true h;omega⟩
theorem Z6c(G:Nat->V)(hG:GOk G)(c d:Col)(m:MdM)(hr:MdR m):Spec Tryz.prog G 35 [Zx c d m] Zk (λv _=>∃ b,v=.bool b/\(b=true->FewM m)):=by
 refine Zo 0 97 [.tmp 2] Tryz.func35 λX=>?_;have b1:=hr.var.1;have b2:=hr.ev.1;have b3:=hr.rg.1;have b4:=hr.vt.1;have b5:=hr.wy.1;simp only[Zd];refine Z ?_;intro g1;refine AW.weak (Zt (λo=>o==1) (l:=[(1,.view .new (Zx c d m))]) (m:=[]) ?_ trivial) ?_;refine Zs ?_;exact Fz.ptr (v:=Zx c d m) (c:=.new) (fz:=0) zp zp;have w0:IntKind.i64.wrap ((m.vars.l.length:Int)+(m.events.l.length:Int))=(m.vars.l.length:Int)+(m.events.l.length:Int):=w64 zo zo
 by_cases h0:m.vars.l.length+m.events.l.length>0
 have f0:decide ((m.vars.l.length:Int)+(m.events.l.length:Int)>0)=true:=zT;refine Zf (zi w0 (zi f0 Zd)) ?_;exact⟨_,rfl,λh=>by cases h⟩;have f0:decide ((m.vars.l.length:Int)+(m.events.l.length:Int)>0)=false:=zF
 by_cases h1:m.verts.l.length>70
 have f1:decide ((m.verts.l.length:Int)>70)=true:=zT;refine Zf (zi w0 (zi f0 (zi f1 Zd))) ?_;exact⟨_,rfl,λh=>by cases h⟩;have f1:decide ((m.verts.l.length:Int)>70)=false:=zF
 by_cases h2:m.ways.l.length>600
 have f2:decide ((m.ways.l.length:Int)>600)=true:=zT;refine Zf (zi w0 (zi f0 (zi f1 (zi f2 Zd)))) ?_;exact⟨_,rfl,λh=>by cases h⟩;have f2:decide ((m.ways.l.length:Int)>600)=false:=zF
 by_cases h3:m.regions.l.length>70
 have f3:decide ((m.regions.l.length:Int)>70)=true:=zT;refine Zf (zi w0 (zi f0 (zi f1 (zi f2 (zi f3 Zd))))) ?_;exact⟨_,rfl,λh=>by cases h⟩;have f3:decide ((m.regions.l.length:Int)>70)=false:=zF;refine Z1f (zi w0 (zi f0 (zi f1 (zi f2 (zi f3 Zd))))) ?_;refine Z0 ?_;refine Zda (fun(_:Unit)=>st [(1,.view .new (Zx c d m))] []) (λ_=>∀ x∈m.verts.l,Zsc x.entry=true/\Zsc x.exit=true/\x.defers.l.length<=40) (λK1 hK1=>?_) ?_
 .refine Z ?_
  refine Z9 m.verts.l.length (λk (_:Unit)=>st [(1,.view .new (Zx c d m)),(3,.int .i64 k)] []) (λk _=>∀ x∈m.verts.l.take k,Zsc x.entry=true/\Zsc x.exit=true/\x.defers.l.length<=40) 0 () (Nat.zero_le _) zS (Za (zpf Zd) zp) ?_;intro k _ hk hR L3 hL3
  by_cases hk1:k<m.verts.l.length
  rotate_left;have hke:k=m.verts.l.length:=zo;have hlt:decide ((k:Int)<(m.verts.l.length:Int))=false:=zF;rw[hke,List.take_length]at hR;refine Zf (zi hlt Zd) ?_;exact hK1 _ () hR (Za (zpf Zd) zp);have hlt:decide ((k:Int)<(m.verts.l.length:Int))=true:=zT;have hg:=List.getElem?_eq_getElem hk1;obtain⟨r1,r2,r3,r4,r5,_⟩:=hr.vt.2 _ (List.getElem_mem hk1)
  have htk:m.verts.l.take (k+1)=m.verts.l.take k++[m.verts.l[k]]:=by rw[List.take_succ_eq_append_getElem hk1]
  generalize m.verts.l[k]=x at hg r1 r2 r3 r4 r5 htk;unfold txR at r1 r2 r3 r4;have w1:IntKind.i64.wrap ((k:Int)+1)=(k:Int)+1:=w64 zo zo;have e1:IntKind.i64.wrap ((x.name.length:Int)+(x.entry.length:Int))=(x.name.length:Int)+(x.entry.length:Int):=w64 zo zo;have e2:IntKind.i64.wrap ((x.name.length:Int)+(x.entry.length:Int)+(x.exit.length:Int))=(x.name.length:Int)+(x.entry.length:Int)+(x.exit.length:Int):=w64 zo zo;have e3:IntKind.i64.wrap ((x.name.length:Int)+(x.entry.length:Int)+(x.exit.length:Int)+(x.sub.length:Int))=(x.name.length:Int)+(x.entry.length:Int)+(x.exit.length:Int)+(x.sub.length:Int):=w64 zo zo;have e4:IntKind.i64.wrap ((x.name.length:Int)+(x.entry.length:Int)+(x.exit.length:Int)+(x.sub.length:Int)+(x.defers.l.length:Int))=(x.name.length:Int)+(x.entry.length:Int)+(x.exit.length:Int)+(x.sub.length:Int)+(x.defers.l.length:Int):=w64 zo zo;refine Z1f (zi hlt Zd) ?_;refine Z1f (zi hg (zi hk1 (zi Zp (zi Zd (zi @Int.natCast_nonneg @Int.ofNat_lt))))) ?_;intro g4;refine Zs ?_;have f:=zi e1 (zi e2 (zi e3 (zi e4 Zp)))
  by_cases hs:x.name.length+x.entry.length+x.exit.length+x.sub.length+x.defers.l.length>9
  have q:decide ((x.name.length:Int)+(x.entry.length:Int)+(x.exit.length:Int)+(x.sub.length:Int)+(x.defers.l.length:Int)>9)=true:=zT;refine Zf (zi q f) ?_;exact⟨_,rfl,λh=>by cases h⟩;have q:decide ((x.name.length:Int)+(x.entry.length:Int)+(x.exit.length:Int)+(x.sub.length:Int)+(x.defers.l.length:Int)>9)=false:=zF;refine Zf (zi q (zi w1 f)) ?_;refine hL3 _ ⟨hk1,(),λy hy=>?_,Za (zpf Zd) zp⟩;rw[htk]at hy
  rcases List.mem_append.1 hy with hy|hy
  exact hR y hy;rw[List.mem_singleton.1 hy];exact⟨by simp only[Zsc,Bool.or_eq_true,decide_eq_true_eq];omega,by simp only[Zsc,Bool.or_eq_true,decide_eq_true_eq];omega,zo⟩
 intro _ hvt;refine Zda (fun(_:Unit)=>st [(1,.view .new (Zx c d m))] []) (λ_=>∀ x∈m.ways.l,Zsc x.guard=true/\Zsc x.effect=true/\x.triggers.l.length<=40) (λK1 hK1=>?_) ?_
 .refine Z ?_
  refine Z9 m.ways.l.length (λk (_:Unit)=>st [(1,.view .new (Zx c d m)),(5,.int .i64 k)] []) (λk _=>∀ x∈m.ways.l.take k,Zsc x.guard=true/\Zsc x.effect=true/\x.triggers.l.length<=40) 0 () (Nat.zero_le _) zS (Za (zpf Zd) zp) ?_;intro k _ hk hR L3 hL3
  by_cases hk1:k<m.ways.l.length
  rotate_left;have hke:k=m.ways.l.length:=zo;have hlt:decide ((k:Int)<(m.ways.l.length:Int))=false:=zF;rw[hke,List.take_length]at hR;refine Zf (zi hlt Zd) ?_;exact hK1 _ () hR (Za (zpf Zd) zp);have hlt:decide ((k:Int)<(m.ways.l.length:Int))=true:=zT;have hg:=List.getElem?_eq_getElem hk1;obtain⟨r1,r2,r3,r5,_⟩:=hr.wy.2 _ (List.getElem_mem hk1)
  have htk:m.ways.l.take (k+1)=m.ways.l.take k++[m.ways.l[k]]:=by rw[List.take_succ_eq_append_getElem hk1]
  generalize m.ways.l[k]=x at hg r1 r2 r3 r5 htk;unfold txR at r1 r2 r3;have w1:IntKind.i64.wrap ((k:Int)+1)=(k:Int)+1:=w64 zo zo;have e1:IntKind.i64.wrap ((x.name.length:Int)+(x.guard.length:Int))=(x.name.length:Int)+(x.guard.length:Int):=w64 zo zo;have e2:IntKind.i64.wrap ((x.name.length:Int)+(x.guard.length:Int)+(x.effect.length:Int))=(x.name.length:Int)+(x.guard.length:Int)+(x.effect.length:Int):=w64 zo zo;have e4:IntKind.i64.wrap ((x.name.length:Int)+(x.guard.length:Int)+(x.effect.length:Int)+(x.triggers.l.length:Int))=(x.name.length:Int)+(x.guard.length:Int)+(x.effect.length:Int)+(x.triggers.l.length:Int):=w64 zo zo;refine Z1f (zi hlt Zd) ?_;refine Z1f (zi hg (zi hk1 (zi Z7 (zi Zd (zi @Int.natCast_nonneg @Int.ofNat_lt))))) ?_;intro g6;refine Zs ?_;have f:=zi e1 (zi e2 (zi e4 Z7))
  by_cases hs:x.name.length+x.guard.length+x.effect.length+x.triggers.l.length>9
  have q:decide ((x.name.length:Int)+(x.guard.length:Int)+(x.effect.length:Int)+(x.triggers.l.length:Int)>9)=true:=zT;refine Zf (zi q f) ?_;exact⟨_,rfl,λh=>by cases h⟩;have q:decide ((x.name.length:Int)+(x.guard.length:Int)+(x.effect.length:Int)+(x.triggers.l.length:Int)>9)=false:=zF;refine Zf (zi q (zi w1 f)) ?_;refine hL3 _ ⟨hk1,(),λy hy=>?_,Za (zpf Zd) zp⟩;rw[htk]at hy
  rcases List.mem_append.1 hy with hy|hy
  exact hR y hy;rw[List.mem_singleton.1 hy];exact⟨by simp only[Zsc,Bool.or_eq_true,decide_eq_true_eq];omega,by simp only[Zsc,Bool.or_eq_true,decide_eq_true_eq];omega,zo⟩
 intro _ hwy;refine Zf Zd ?_;exact⟨_,rfl,λ_=>⟨zo,zo,zo,zo,zo,hvt,hwy⟩⟩
theorem Zqk(G:Nat->V)(hG:GOk G)(c d:Col)(m:MdM)(hr:MdR m):Spec Tryz.prog G 11 [Zx c d m] Zk (λv _=>∃ b,v=.bool b/\(b=true->FewM m)):=by
 refine Zo 0 122 [.tmp 2] Tryz.func11 λX=>?_;have b4:=hr.vt.1;have b5:=hr.wy.1;simp only[Zd];refine Z ?_;intro g1;refine AW.weak (Zt (λo=>o==1) (l:=[(1,.view .new (Zx c d m))]) (m:=[]) ?_ trivial) ?_;refine Zs ?_;exact Fz.ptr (v:=Zx c d m) (c:=.new) (fz:=0) zp zp;refine Zf Zd ?_;refine Zc hG ?_ (s:=Zgf G _ _);cases q:Z2k m.vars.l.length 64;refine Zg (zi q Zd) ?_;refine Ze hG ?_ (s:=Z6c G hG c.ent d.ent m hr);rintro _ ⟨b,rfl,hb⟩;refine Zs ?_;refine Z ?_;exact⟨b,rfl,hb⟩;have n1:=Z3h q;refine Zg (zi q Zd) ?_;refine Zc hG ?_ (s:=Zgf G _ _);cases q:Z2k m.events.l.length 64;refine Zg (zi q Zd) ?_;refine Ze hG ?_ (s:=Z6c G hG c.ent d.ent m hr);rintro _ ⟨b,rfl,hb⟩;refine Zs ?_;refine Z ?_;exact⟨b,rfl,hb⟩;have n2:=Z3h q;refine Zg (zi q Zd) ?_;refine Zc hG ?_ (s:=Zgf G _ _);cases q:Z2k m.regions.l.length 512;refine Zg (zi q Zd) ?_;refine Ze hG ?_ (s:=Z6c G hG c.ent d.ent m hr);rintro _ ⟨b,rfl,hb⟩;refine Zs ?_;refine Z ?_;exact⟨b,rfl,hb⟩;have n3:=Z3h q;refine Zg (zi q Zd) ?_;refine Zc hG ?_ (s:=Zgf G _ _);cases q:Z2k m.verts.l.length 512;refine Zg (zi q Zd) ?_;refine Ze hG ?_ (s:=Z6c G hG c.ent d.ent m hr);rintro _ ⟨b,rfl,hb⟩;refine Zs ?_;refine Z ?_;exact⟨b,rfl,hb⟩;have n4:=Z3h q;refine Zg (zi q Zd) ?_;refine Zc hG ?_ (s:=Zgf G _ _);cases q:Z2k m.ways.l.length 512;refine Zg (zi q Zd) ?_;refine Ze hG ?_ (s:=Z6c G hG c.ent d.ent m hr);rintro _ ⟨b,rfl,hb⟩;refine Zs ?_;refine Z ?_;exact⟨b,rfl,hb⟩
 have n5:=Z3h q;refine Zg (zi q Zd) ?_;refine Zc hG ?_ (s:=Z5c G m.name);cases q:Zsc m.name;refine Zg (zi q Zd) ?_;refine Ze hG ?_ (s:=Z6c G hG c.ent d.ent m hr);rintro _ ⟨b,rfl,hb⟩;refine Zs ?_;refine Z ?_;exact⟨b,rfl,hb⟩;refine Zsf q ?_;refine Z0 ?_;refine Zda (fun(_:Unit)=>st [(1,.view .new (Zx c d m))] []) (λ_=>∀ x∈m.verts.l,Zsc x.entry=true/\Zsc x.exit=true/\x.defers.l.length<=40) (λK1 hK1=>?_) ?_
 .refine Z ?_
  refine Z9 m.verts.l.length (λk (_:Unit)=>st [(1,.view .new (Zx c d m)),(3,.int .i64 k)] []) (λk _=>∀ x∈m.verts.l.take k,Zsc x.entry=true/\Zsc x.exit=true/\x.defers.l.length<=40) 0 () (Nat.zero_le _) zS (Za (zpf Zd) zp) ?_;intro k _ hk hR L3 hL3
  by_cases hk1:k<m.verts.l.length
  rotate_left;have hke:k=m.verts.l.length:=zo;have hlt:decide ((k:Int)<(m.verts.l.length:Int))=false:=zF;rw[hke,List.take_length]at hR;refine Zf (zi hlt Zd) ?_;exact hK1 _ () hR (Za (zpf Zd) zp);have hlt:decide ((k:Int)<(m.verts.l.length:Int))=true:=zT;have hg:=List.getElem?_eq_getElem hk1;obtain⟨_,_,_,_,r5,_⟩:=hr.vt.2 _ (List.getElem_mem hk1)
  have htk:m.verts.l.take (k+1)=m.verts.l.take k++[m.verts.l[k]]:=by rw[List.take_succ_eq_append_getElem hk1]
  generalize m.verts.l[k]=x at hg r5 htk;have w1:IntKind.i64.wrap ((k:Int)+1)=(k:Int)+1:=w64 zo zo;refine Z1f (zi hlt Zd) ?_;refine Z1f (zi hg (zi hk1 (zi Zp (zi Zd (zi @Int.natCast_nonneg @Int.ofNat_lt))))) ?_;intro g4;refine Zs ?_;refine Zf Zp ?_;refine Zc hG ?_ (s:=Z5c G x.name);cases q:Zsc x.name;refine Zg q ?_;exact⟨_,rfl,λh=>by cases h⟩;refine Zg (zi q Zp) ?_;refine Zc hG ?_ (s:=Z5c G x.entry);cases q:Zsc x.entry;refine Zg q ?_;exact⟨_,rfl,λh=>by cases h⟩;refine Zg (zi q Zp) ?_;have s2:=q
  try clear q
  refine Zc hG ?_ (s:=Z5c G x.exit);cases q:Zsc x.exit;refine Zg q ?_;exact⟨_,rfl,λh=>by cases h⟩;refine Zg (zi q Zp) ?_;have s3:=q
  try clear q
  refine Zc hG ?_ (s:=Z5c G x.sub);cases q:Zsc x.sub;refine Zg q ?_;exact⟨_,rfl,λh=>by cases h⟩;refine Zg (zi q Zp) ?_;refine Ze hG ?_ (s:=Zjp G hG _ x.defers r5);rintro _ ⟨b,rfl,hb⟩;cases b;refine Zs ?_;refine Z ?_;exact⟨_,rfl,λh=>by cases h⟩;refine Zs ?_;refine Zf w1 ?_;refine hL3 _ ⟨hk1,(),λy hy=>?_,Za (zpf Zd) zp⟩;rw[htk]at hy
  rcases List.mem_append.1 hy with hy|hy
  exact hR y hy;rw[List.mem_singleton.1 hy];exact⟨s2,s3,hb rfl⟩
 intro _ hvt;refine Zda (fun(_:Unit)=>st [(1,.view .new (Zx c d m))] []) (λ_=>∀ x∈m.ways.l,Zsc x.guard=true/\Zsc x.effect=true/\x.triggers.l.length<=40) (λK1 hK1=>?_) ?_
 .refine Z ?_
  refine Z9 m.ways.l.length (λk (_:Unit)=>st [(1,.view .new (Zx c d m)),(5,.int .i64 k)] []) (λk _=>∀ x∈m.ways.l.take k,Zsc x.guard=true/\Zsc x.effect=true/\x.triggers.l.length<=40) 0 () (Nat.zero_le _) zS (Za (zpf Zd) zp) ?_;intro k _ hk hR L3 hL3
  by_cases hk1:k<m.ways.l.length
  rotate_left;have hke:k=m.ways.l.length:=zo;have hlt:decide ((k:Int)<(m.ways.l.length:Int))=false:=zF;rw[hke,List.take_length]at hR;refine Zf (zi hlt Zd) ?_;exact hK1 _ () hR (Za (zpf Zd) zp);have hlt:decide ((k:Int)<(m.ways.l.length:Int))=true:=zT;have hg:=List.getElem?_eq_getElem hk1;obtain⟨_,_,_,r5,_⟩:=hr.wy.2 _ (List.getElem_mem hk1)
  have htk:m.ways.l.take (k+1)=m.ways.l.take k++[m.ways.l[k]]:=by rw[List.take_succ_eq_append_getElem hk1]
  generalize m.ways.l[k]=x at hg r5 htk;have w1:IntKind.i64.wrap ((k:Int)+1)=(k:Int)+1:=w64 zo zo;refine Z1f (zi hlt Zd) ?_;refine Z1f (zi hg (zi hk1 (zi Z7 (zi Zd (zi @Int.natCast_nonneg @Int.ofNat_lt))))) ?_;intro g6;refine Zs ?_;refine Zf Z7 ?_;refine Zc hG ?_ (s:=Z5c G x.name);cases q:Zsc x.name;refine Zg q ?_;exact⟨_,rfl,λh=>by cases h⟩;refine Zg (zi q Z7) ?_;refine Zc hG ?_ (s:=Z5c G x.guard);cases q:Zsc x.guard;refine Zg q ?_;exact⟨_,rfl,λh=>by cases h⟩;refine Zg (zi q Z7) ?_;have s2:=q
  try clear q
  refine Zc hG ?_ (s:=Z5c G x.effect);cases q:Zsc x.effect;refine Zg q ?_;exact⟨_,rfl,λh=>by cases h⟩;refine Zg (zi q Z7) ?_;have s3:=q
  try clear q
  refine Ze hG ?_ (s:=Zjp G hG _ x.triggers r5);rintro _ ⟨b,rfl,hb⟩;cases b;refine Zs ?_;refine Z ?_;exact⟨_,rfl,λh=>by cases h⟩;refine Zs ?_;refine Zf w1 ?_;refine hL3 _ ⟨hk1,(),λy hy=>?_,Za (zpf Zd) zp⟩;rw[htk]at hy
  rcases List.mem_append.1 hy with hy|hy
  exact hR y hy;rw[List.mem_singleton.1 hy];exact⟨s2,s3,hb rfl⟩
 intro _ hwy;refine Z ?_;exact⟨_,rfl,λ_=>⟨n1,n2,n3,n4,n5,hvt,hwy⟩⟩
end Go.Hs
end

section
namespace Go.Hs
open Go.Proofs
set_option maxRecDepth 10000
set_option maxHeartbeats 4000000
def VtM.gr(x:VtM):VtM:=⟨x.name,x.kind,x.region,x.of,x.entry,x.exit,Zl x.defers.l,x.sub⟩
def TrM.gr(x:TrM):TrM:=⟨x.name,x.source,x.target,Zl x.triggers.l,x.after,x.guard,x.effect,x.kind⟩
def MdM.gr(m:MdM):MdM:=⟨m.name,Zl m.vars.l,Zl m.events.l,Zl m.regions.l,Zl (m.verts.l.map VtM.gr),Zl (m.ways.l.map TrM.gr)⟩
theorem MdM.gr_p(m:MdM):m.gr.p=m.p:=by
 simp only[MdM.p,MdM.gr,Zm,List.map_map]
 congr 1
 refine List.map_congr_left λx _=>?_;simp only[Function.comp,VtM.p,VtM.gr,Zm];refine List.map_congr_left λx _=>?_;simp only[Function.comp,TrM.p,TrM.gr,Zm]
theorem Zgw(G:Nat->V)(hG:GOk G)(c d:Col)(m:MdM)(hb:MdB m):
  Spec Tryz.prog G 14 [Zx c d m] Zk (λv _=>v=Zx .new .new m.gr):=by
 refine Zo 0 150 [.cell 2 40] Tryz.func14 λX=>?_;have b1:=hb.nv;have b2:=hb.ne;have b3:=hb.nr;have b4:=hb.nx;have b5:=hb.nw;simp only[Zd];refine Z1 ?_;intro g1 g2;refine AW.weak (Zt (λo=>o==1) (l:=[(1,.view .new (Zx c d m)),(2,.ptr 2 g2 0)]) (m:=[(2,.cells .new g2 0 [.str [],.nils,.nils,.nils,.nils,.nils])]) ?_ ?_) ?_;refine Zs ?_;exact⟨Fz.ptr (v:=Zx c d m) (c:=.new) (fz:=0) zp zp,Fz.same _⟩;simp only[Zv,Zz,and_true];exact FzO.keep rfl zp;refine Zf Zd ?_;intro g3;refine Zf Zd ?_;refine Zna (f:=V.str) (l:=([]:List (List UInt8))) (l2:=m.events.l) (g:=0) (λ_=>rfl) rfl rfl rfl zp (Z5 zo zO) λgy=>?_;refine Zs ?_;refine AW.weak (Zt (λo=>o==19) (l:=[(1,.view .new (Zx c d m)),(2,.ptr 2 g2 0),(3,.ptr 3 g3 0)]) (m:=[(2,.cells .new g2 0 [.str [],.nils,.nils,.nils,.nils,.nils]),(3,.cells .new g3 0 [.str m.name,.nils,Zb .new 1 V.str (Zl m.events.l),.nils,.nils,.nils])]) ?_ ?_) ?_;refine Zs ?_;exact⟨Fz.same _,Fz.same _,Fz.same _⟩;simp only[Zv,Zz,and_true];exact⟨FzO.keep rfl zp,FzO.of (c:=.new) (fz:=0) (cs:=[.str m.name,.nils,grown 19 gy 1 m.events.l,.nils,.nils,.nils]) rfl zp ⟨Fz.same _,Fz.same _,Z3a rfl zp (λ_=>rfl),Fz.same _,Fz.same _,Fz.same _,trivial⟩⟩;refine Zf Zd ?_
 refine Z9 m.vars.l.length (λk (gx:Nat)=>st [(1,.view .new (Zx c d m)),(2,.ptr 2 g2 0),(3,.ptr 3 g3 0),(4,.int .i64 k)] [(2,.cells .new g2 0 [.str [],.nils,.nils,.nils,.nils,.nils]),(3,.cells .new g3 0 [.str m.name,grown 44 gx 2 (m.vars.l.take k),Zb .new 1 V.str (Zl m.events.l),.nils,.nils,.nils]),(44,Zza gx Z3 (m.vars.l.take k))])
  (λ_ _=>True) 0 0 (Nat.zero_le _) trivial (Za zp (by refine Zs ?_;exact⟨rfl,rfl⟩)) ?_
 intro k gx hk _ L3 hL3
 by_cases hk1:k<m.vars.l.length
 have hg:=List.getElem?_eq_getElem hk1
 have htk:m.vars.l.take (k+1)=m.vars.l.take k++[m.vars.l[k]]:=by rw[List.take_succ_eq_append_getElem hk1]
 have hlt':(m.vars.l.take k).length=k:=by rw[List.length_take];omega
 have w1:IntKind.i64.wrap ((k:Int)+1)=(k:Int)+1:=w64 zo zo;have hlt:decide ((k:Int)<(m.vars.l.length:Int))=true:=zT;generalize m.vars.l[k]=n at hg htk;generalize m.vars.l.take k=ns at htk hlt'⊢;refine Z1f (zi hlt Zd) ?_;refine ZTf (zi hg (zi Z2a (zi hk1 (zi Zd (zi @Int.natCast_nonneg @Int.ofNat_lt))))) hG ?_;intro g32;refine Zna (f:=Z3) (l:=ns) (l2:=[n]) (g:=gx) Zqb rfl rfl rfl zp (Z5 zo zO) λgy=>?_;refine Zs ?_;refine Zf w1 ?_;exact hL3 _ ⟨hk1,gy,trivial,Za (zpf Zd) (by refine Zs ?_;rw[htk];try exact⟨rfl,rfl⟩)⟩;have hke:k=m.vars.l.length:=zo;have hlt:decide ((k:Int)<(m.vars.l.length:Int))=false:=zF;rw[hke]at hlt;rw[hke,List.take_length];refine AW.weak (Zt (λo=>o==44) (l:=[(1,.view .new (Zx c d m)),(2,.ptr 2 g2 0),(3,.ptr 3 g3 0),(4,.int .i64 m.vars.l.length)]) (m:=[(2,.cells .new g2 0 [.str [],.nils,.nils,.nils,.nils,.nils]),(3,.cells .new g3 0 [.str m.name,Zb .new 2 Z3 (Zl m.vars.l),Zb .new 1 V.str (Zl m.events.l),.nils,.nils,.nils])]) ?_ ?_) ?_;refine Zs ?_;exact⟨Fz.same _,Fz.same _,Fz.same _,Fz.same _⟩;simp only[Zv,Zz,and_true];exact⟨FzO.keep rfl zp,FzO.of (c:=.new) (fz:=0) (cs:=[.str m.name,grown 44 gx 2 m.vars.l,Zb .new 1 V.str (Zl m.events.l),.nils,.nils,.nils]) rfl zp ⟨Fz.same _,Z3a rfl zp Zqb,Fz.same _,Fz.same _,Fz.same _,Fz.same _,trivial⟩⟩;refine Zf (zi hlt Zd) ?_
 try clear hL3 L3 hlt hke hk1 hk
 refine Z9 m.regions.l.length (λk (gx:Nat)=>st [(1,.view .new (Zx c d m)),(2,.ptr 2 g2 0),(3,.ptr 3 g3 0),(5,.int .i64 k)] [(2,.cells .new g2 0 [.str [],.nils,.nils,.nils,.nils,.nils]),(3,.cells .new g3 0 [.str m.name,Zb .new 2 Z3 (Zl m.vars.l),Zb .new 1 V.str (Zl m.events.l),grown 69 gx 2 (m.regions.l.take k),.nils,.nils]),(69,Zza gx Z3 (m.regions.l.take k))])
  (λ_ _=>True) 0 0 (Nat.zero_le _) trivial (Za zp (by refine Zs ?_;exact⟨rfl,rfl⟩)) ?_
 intro k gx hk _ L3 hL3
 by_cases hk1:k<m.regions.l.length
 have hg:=List.getElem?_eq_getElem hk1
 have htk:m.regions.l.take (k+1)=m.regions.l.take k++[m.regions.l[k]]:=by rw[List.take_succ_eq_append_getElem hk1]
 have hlt':(m.regions.l.take k).length=k:=by rw[List.length_take];omega
 have w1:IntKind.i64.wrap ((k:Int)+1)=(k:Int)+1:=w64 zo zo;have hlt:decide ((k:Int)<(m.regions.l.length:Int))=true:=zT;generalize m.regions.l[k]=n at hg htk;generalize m.regions.l.take k=ns at htk hlt'⊢;refine Z1f (zi hlt Zd) ?_;refine ZTf (zi hg (zi Z2a (zi hk1 (zi Zd (zi @Int.natCast_nonneg @Int.ofNat_lt))))) hG ?_;intro g32;refine Zna (f:=Z3) (l:=ns) (l2:=[n]) (g:=gx) Zqb rfl rfl rfl zp (Z5 zo zO) λgy=>?_;refine Zs ?_;refine Zf w1 ?_;exact hL3 _ ⟨hk1,gy,trivial,Za (zpf Zd) (by refine Zs ?_;rw[htk];try exact⟨rfl,rfl⟩)⟩;have hke:k=m.regions.l.length:=zo;have hlt:decide ((k:Int)<(m.regions.l.length:Int))=false:=zF;rw[hke]at hlt;rw[hke,List.take_length];refine AW.weak (Zt (λo=>o==69) (l:=[(1,.view .new (Zx c d m)),(2,.ptr 2 g2 0),(3,.ptr 3 g3 0),(5,.int .i64 m.regions.l.length)]) (m:=[(2,.cells .new g2 0 [.str [],.nils,.nils,.nils,.nils,.nils]),(3,.cells .new g3 0 [.str m.name,Zb .new 2 Z3 (Zl m.vars.l),Zb .new 1 V.str (Zl m.events.l),Zb .new 2 Z3 (Zl m.regions.l),.nils,.nils])]) ?_ ?_) ?_;refine Zs ?_;exact⟨Fz.same _,Fz.same _,Fz.same _,Fz.same _⟩;simp only[Zv,Zz,and_true];exact⟨FzO.keep rfl zp,FzO.of (c:=.new) (fz:=0) (cs:=[.str m.name,Zb .new 2 Z3 (Zl m.vars.l),Zb .new 1 V.str (Zl m.events.l),grown 69 gx 2 m.regions.l,.nils,.nils]) rfl zp ⟨Fz.same _,Fz.same _,Fz.same _,Z3a rfl zp Zqb,Fz.same _,Fz.same _,trivial⟩⟩;refine Zf (zi hlt Zd) ?_
 try clear hL3 L3 hlt hke hk1 hk
 refine Z9 m.verts.l.length (λk (gx:Nat)=>st [(1,.view .new (Zx c d m)),(2,.ptr 2 g2 0),(3,.ptr 3 g3 0),(6,.int .i64 k)] [(2,.cells .new g2 0 [.str [],.nils,.nils,.nils,.nils,.nils]),(3,.cells .new g3 0 [.str m.name,Zb .new 2 Z3 (Zl m.vars.l),Zb .new 1 V.str (Zl m.events.l),Zb .new 2 Z3 (Zl m.regions.l), grown 108 gx 8 ((m.verts.l.take k).map VtM.gr),.nils]),(108,Zza gx (Zha .new) ((m.verts.l.take k).map VtM.gr))])
  (λ_ _=>True) 0 0 (Nat.zero_le _) trivial (Za zp (by refine Zs ?_;exact⟨rfl,rfl⟩)) ?_
 intro k gx hk _ L3 hL3
 by_cases hk1:k<m.verts.l.length
 have hg:=List.getElem?_eq_getElem hk1;have hmem:=List.getElem_mem hk1
 have htk:(m.verts.l.take (k+1)).map VtM.gr=(m.verts.l.take k).map VtM.gr++[(m.verts.l[k]).gr]:=by rw[List.take_succ_eq_append_getElem hk1,List.map_append]<;>rfl
 have hlt':((m.verts.l.take k).map VtM.gr).length=k:=by rw[List.length_map,List.length_take];omega
 have w1:IntKind.i64.wrap ((k:Int)+1)=(k:Int)+1:=w64 zo zo;have hlt:decide ((k:Int)<(m.verts.l.length:Int))=true:=zT;generalize m.verts.l[k]=n at hg htk hmem;generalize(m.verts.l.take k).map VtM.gr=ns at htk hlt'⊢;have hdl:n.defers.l.length<1000000:=(hb.vt n hmem).2.2;refine Z1f (zi hlt Zd) ?_;refine Zf (zi hg (zi Zp (zi hk1 (zi Zd (zi @Int.natCast_nonneg @Int.ofNat_lt))))) ?_;intro g7;refine Zf (zi Zp Zd) ?_;intro g8;refine Zf (zi Zp Zd) ?_;refine Zna (f:=V.str) (l:=([]:List (List UInt8))) (l2:=n.defers.l) (g:=0) (λ_=>rfl) rfl rfl rfl zp (Z5 zo zO) λgd=>?_;refine Zs ?_;refine AW.weak (Zt (λo=>o==102) (l:=[(1,.view .new (Zx c d m)),(2,.ptr 2 g2 0),(3,.ptr 3 g3 0),(6,.int .i64 k),(8,.ptr 8 g8 0)]) (m:=[(2,.cells .new g2 0 [.str [],.nils,.nils,.nils,.nils,.nils]),(3,.cells .new g3 0 [.str m.name,Zb .new 2 Z3 (Zl m.vars.l),Zb .new 1 V.str (Zl m.events.l),Zb .new 2 Z3 (Zl m.regions.l), grown 108 gx 8 ns,.nils]),(108,Zza gx (Zha .new) ns),(8,.cells .new g8 0 [.str n.name,.int .u8 n.kind,.int .i64 n.region,.int .i64 n.of,.str n.entry,.str n.exit,Zb .new 1 V.str (Zl n.defers.l),.str n.sub])]) ?_ ?_) ?_;refine Zs ?_;exact⟨Fz.same _,Fz.same _,Fz.same _,Fz.same _,Fz.same _⟩;simp only[Zv,Zz,and_true];exact⟨FzO.keep rfl zp,FzO.keep rfl zp,FzO.keep rfl zp,FzO.of (c:=.new) (fz:=0) (cs:=[.str n.name,.int .u8 n.kind,.int .i64 n.region,.int .i64 n.of,.str n.entry,.str n.exit,grown 102 gd 1 n.defers.l,.str n.sub]) rfl zp ⟨Fz.same _,Fz.same _,Fz.same _,Fz.same _,Fz.same _,Fz.same _,Z3a rfl zp (λ_=>rfl),Fz.same _,trivial⟩⟩
 refine Zf Zd ?_;intro g9;refine Zna (f:=Zha .new) (l:=ns) (l2:=[n.gr]) (g:=gx) (Zrc _) rfl rfl rfl zp (Z5 zo zO) λgy=>?_;refine Zs ?_;refine Zf w1 ?_;exact hL3 _ ⟨hk1,gy,trivial,Za (zpf Zd) (by refine Zs ?_;rw[htk];try exact⟨rfl,rfl⟩)⟩;have hke:k=m.verts.l.length:=zo;have hlt:decide ((k:Int)<(m.verts.l.length:Int))=false:=zF;rw[hke]at hlt;rw[hke,List.take_length];refine AW.weak (Zt (λo=>o==108) (l:=[(1,.view .new (Zx c d m)),(2,.ptr 2 g2 0),(3,.ptr 3 g3 0),(6,.int .i64 m.verts.l.length)]) (m:=[(2,.cells .new g2 0 [.str [],.nils,.nils,.nils,.nils,.nils]),(3,.cells .new g3 0 [.str m.name,Zb .new 2 Z3 (Zl m.vars.l),Zb .new 1 V.str (Zl m.events.l),Zb .new 2 Z3 (Zl m.regions.l), Zb .new 8 (Zha .new) (Zl (m.verts.l.map VtM.gr)),.nils])]) ?_ ?_) ?_;refine Zs ?_;exact⟨Fz.same _,Fz.same _,Fz.same _,Fz.same _⟩;simp only[Zv,Zz,and_true];exact⟨FzO.keep rfl zp,FzO.of (c:=.new) (fz:=0) (cs:=[.str m.name,Zb .new 2 Z3 (Zl m.vars.l),Zb .new 1 V.str (Zl m.events.l),Zb .new 2 Z3 (Zl m.regions.l), grown 108 gx 8 (m.verts.l.map VtM.gr),.nils]) rfl zp ⟨Fz.same _,Fz.same _,Fz.same _,Fz.same _,Z3a rfl zp (Zrc _),Fz.same _,trivial⟩⟩;refine Zf (zi hlt Zd) ?_
 try clear hL3 L3 hlt hke hk1 hk
 refine Z9 m.ways.l.length (λk (gx:Nat)=>st [(1,.view .new (Zx c d m)),(2,.ptr 2 g2 0),(3,.ptr 3 g3 0),(9,.int .i64 k)] [(2,.cells .new g2 0 [.str [],.nils,.nils,.nils,.nils,.nils]),(3,.cells .new g3 0 [.str m.name,Zb .new 2 Z3 (Zl m.vars.l),Zb .new 1 V.str (Zl m.events.l),Zb .new 2 Z3 (Zl m.regions.l),Zb .new 8 (Zha .new) (Zl (m.verts.l.map VtM.gr)),grown 147 gx 8 ((m.ways.l.take k).map TrM.gr)]),(147,Zza gx (Zqa .new) ((m.ways.l.take k).map TrM.gr))])
  (λ_ _=>True) 0 0 (Nat.zero_le _) trivial (Za zp (by refine Zs ?_;exact⟨rfl,rfl⟩)) ?_
 intro k gx hk _ L3 hL3
 by_cases hk1:k<m.ways.l.length
 have hg:=List.getElem?_eq_getElem hk1;have hmem:=List.getElem_mem hk1
 have htk:(m.ways.l.take (k+1)).map TrM.gr=(m.ways.l.take k).map TrM.gr++[(m.ways.l[k]).gr]:=by rw[List.take_succ_eq_append_getElem hk1,List.map_append]<;>rfl
 have hlt':((m.ways.l.take k).map TrM.gr).length=k:=by rw[List.length_map,List.length_take];omega
 have w1:IntKind.i64.wrap ((k:Int)+1)=(k:Int)+1:=w64 zo zo;have hlt:decide ((k:Int)<(m.ways.l.length:Int))=true:=zT;generalize m.ways.l[k]=n at hg htk hmem;generalize(m.ways.l.take k).map TrM.gr=ns at htk hlt'⊢;have hdl:n.triggers.l.length<1000000:=(hb.wy n hmem).2;refine Z1f (zi hlt Zd) ?_;refine Zf (zi hg (zi Z7 (zi hk1 (zi Zd (zi @Int.natCast_nonneg @Int.ofNat_lt))))) ?_;intro g7;refine Zf (zi Z7 Zd) ?_;intro g8;refine Zf (zi Z7 Zd) ?_;refine Zna (f:=V.str) (l:=([]:List (List UInt8))) (l2:=n.triggers.l) (g:=0) (λ_=>rfl) rfl rfl rfl zp (Z5 zo zO) λgd=>?_;refine Zs ?_;refine AW.weak (Zt (λo=>o==141) (l:=[(1,.view .new (Zx c d m)),(2,.ptr 2 g2 0),(3,.ptr 3 g3 0),(9,.int .i64 k),(11,.ptr 11 g8 0)]) (m:=[(2,.cells .new g2 0 [.str [],.nils,.nils,.nils,.nils,.nils]),(3,.cells .new g3 0 [.str m.name,Zb .new 2 Z3 (Zl m.vars.l),Zb .new 1 V.str (Zl m.events.l),Zb .new 2 Z3 (Zl m.regions.l),Zb .new 8 (Zha .new) (Zl (m.verts.l.map VtM.gr)),grown 147 gx 8 ns]),(147,Zza gx (Zqa .new) ns),(11,.cells .new g8 0 [.str n.name,.int .i64 n.source,.int .i64 n.target,Zb .new 1 V.str (Zl n.triggers.l),.int .i64 n.after,.str n.guard,.str n.effect,.int .u8 n.kind])]) ?_ ?_) ?_;refine Zs ?_;exact⟨Fz.same _,Fz.same _,Fz.same _,Fz.same _,Fz.same _⟩;simp only[Zv,Zz,and_true];exact⟨FzO.keep rfl zp,FzO.keep rfl zp,FzO.keep rfl zp,FzO.of (c:=.new) (fz:=0) (cs:=[.str n.name,.int .i64 n.source,.int .i64 n.target,grown 141 gd 1 n.triggers.l,.int .i64 n.after,.str n.guard,.str n.effect,.int .u8 n.kind]) rfl zp ⟨Fz.same _,Fz.same _,Fz.same _,Z3a rfl zp (λ_=>rfl),Fz.same _,Fz.same _,Fz.same _,Fz.same _,trivial⟩⟩
 refine Zf Zd ?_;intro g9;refine Zna (f:=Zqa .new) (l:=ns) (l2:=[n.gr]) (g:=gx) (Zse _) rfl rfl rfl zp (Z5 zo zO) λgy=>?_;refine Zs ?_;refine Zf w1 ?_;exact hL3 _ ⟨hk1,gy,trivial,Za (zpf Zd) (by refine Zs ?_;rw[htk];try exact⟨rfl,rfl⟩)⟩;have hke:k=m.ways.l.length:=zo;have hlt:decide ((k:Int)<(m.ways.l.length:Int))=false:=zF;rw[hke]at hlt;rw[hke,List.take_length];refine AW.weak (Zt (λo=>o==147) (l:=[(1,.view .new (Zx c d m)),(2,.ptr 2 g2 0),(3,.ptr 3 g3 0),(9,.int .i64 m.ways.l.length)]) (m:=[(2,.cells .new g2 0 [.str [],.nils,.nils,.nils,.nils,.nils]),(3,.cells .new g3 0 [.str m.name,Zb .new 2 Z3 (Zl m.vars.l),Zb .new 1 V.str (Zl m.events.l),Zb .new 2 Z3 (Zl m.regions.l),Zb .new 8 (Zha .new) (Zl (m.verts.l.map VtM.gr)),Zb .new 8 (Zqa .new) (Zl (m.ways.l.map TrM.gr))])]) ?_ ?_) ?_;refine Zs ?_;exact⟨Fz.same _,Fz.same _,Fz.same _,Fz.same _⟩;simp only[Zv,Zz,and_true];exact⟨FzO.keep rfl zp,FzO.of (c:=.new) (fz:=0) (cs:=[.str m.name,Zb .new 2 Z3 (Zl m.vars.l),Zb .new 1 V.str (Zl m.events.l),Zb .new 2 Z3 (Zl m.regions.l),Zb .new 8 (Zha .new) (Zl (m.verts.l.map VtM.gr)),grown 147 gx 8 (m.ways.l.map TrM.gr)]) rfl zp ⟨Fz.same _,Fz.same _,Fz.same _,Fz.same _,Fz.same _,Z3a rfl zp (Zse _),trivial⟩⟩;refine Zf (zi hlt Zd) ?_
 try clear hL3 L3 hlt hke hk1 hk
 rfl
end Go.Hs
end

section
namespace Go.Hs
theorem Z7g{α : Type}{m:Nat}{f : α -> V}(hf:∀ x,(f x).cells.length=m){j:Nat}{v:V}(hj:j<m):∀ {l:List α} {i:Nat} {x y : α},l[i]?=some x->(f y).cells=(f x).cells.set j v->(flat (l.map f)).set (i*m+j) v=flat ((l.set i y).map f)
 |[],i,x,y,h,_=>by simp at h
 |z::t,0,x,y,h,hy=>by
  obtain rfl:z=x:=zu h
  show((f z).cells++flat (t.map f)).set (0*m+j) v=(f y).cells++flat (t.map f)
  rw[Nat.zero_mul,Nat.zero_add,List.set_append,if_pos (by rw[hf];exact hj),hy]
 |z::t,i+1,x,y,h,hy=>by
  show((f z).cells++flat (t.map f)).set ((i+1)*m+j) v=(f z).cells++flat ((t.set i y).map f)
  rw[List.set_append,if_neg (by rw[hf,Nat.succ_mul];omega),hf,show(i+1)*m+j-m=i*m+j by rw[Nat.succ_mul];omega,Z7g hf hj (zu h) hy]
theorem Zy2{α : Type}{m:Nat}{f : α -> V}(hf:∀ x,(f x).cells.length=m){j:Nat}{v:V}(hj:j<m):∀ {l:List α} {i:Nat} {x : α},l[i]?=some x->(f x).cells[j]?=some v->(flat (l.map f))[i*m+j]?=some v
 |[],i,x,h,_=>by simp at h
 |z::t,0,x,h,hy=>by
  obtain rfl:z=x:=zu h
  show((f z).cells++flat (t.map f))[0*m+j]?=some v
  rw[Nat.zero_mul,Nat.zero_add,List.getElem?_append_left (by rw[hf];exact hj),hy]
 |z::t,i+1,x,h,hy=>by
  show((f z).cells++flat (t.map f))[(i+1)*m+j]?=some v
  rw[List.getElem?_append_right (by rw[hf,Nat.succ_mul];omega),hf,show(i+1)*m+j-m=i*m+j by rw[Nat.succ_mul];omega];exact Zy2 hf hj (zu h) hy
end Go.Hs
end
