/- A part. No condition. -/
import Derived.Test.YtegjlbpnpiigkaaGreatDoorP44
import Derived.Test.YtegjlbpnpiigkaaGreatDoorP45
set_option linter.all false
section
namespace Go.Hs
open Go.Proofs
set_option maxHeartbeats 1000000
set_option maxRecDepth 10000
def sdO(gx:Nat)(l:List ASt):AObj:=Ztb gx (Z9g .new) l
def rdS(l:List Tk)(i:Nat)(acc:List ASt):Bool×CU×List ASt:=
 if acc.length=512 then(false,⟨i,3⟩,acc)else((Zjd l i).2.2==0,⟨(Zjd l i).2.1.toNat,(Zjd l i).2.2⟩,acc++[(Zjd l i).1])
theorem Zdm(G:Nat->V)(hE:GExp G)(sl:Sl Tk)(hT:TkOk sl.l)(g:Nat)(i:Nat)(hi:i<sl.l.length)(acc:List ASt)(hac:acc.length<=512)(gx:Nat):
  InSp Tryz.prog G 261 [.ptr 21 g 0] (Z4a Zk [(21,cuO sl g (grown 1038 gx 3 acc) ⟨i,0⟩),(1038,sdO gx acc)])
   (λv H'=>v=.bool (rdS sl.l i acc).1/\∃ gx',H' 21=cuO sl g (grown 1038 gx' 3 (rdS sl.l i acc).2.2) (rdS sl.l i acc).2.1/\H' 1038=sdO gx' (rdS sl.l i acc).2.2):=by
 have hG:=hE.ok;have hTl:=hT.len
 have hP:rdS sl.l i acc=if acc.length=512 then(false,⟨i,3⟩,acc)else((Zjd sl.l i).2.2==0,⟨(Zjd sl.l i).2.1.toNat,(Zjd sl.l i).2.2⟩,acc++[(Zjd sl.l i).1]):=rfl
 generalize rdS sl.l i acc=res at hP⊢;refine Zdb 1000 42 [.tmp 2] Tryz.func261 rfl rfl rfl rfl λX=>?_;simp only[Z4a];refine Z1 ?_;refine Z1 ?_
 by_cases h5:acc.length=512
 rw[if_pos h5]at hP
 have q1:((acc.length:Int)==512)=true:=by rw[beq_iff_eq];omega
 refine Z9 λK1 hK1=>?_;refine Zf (zi @Z2f q1) ?_;rw[hP];exact⟨rfl,gx,zp,zp⟩;rw[if_neg h5]at hP
 have q1:((acc.length:Int)==512)=false:=by rw[beq_eq_false_iff_ne];omega
 refine Zjb (fun(_:Unit)=>st [(0,.ptr 21 g 0),(3,.func (.func (if Zmc sl.l i=Zxi then 286 else 284)) [.ptr 21 g 0] [])] [(21,cuO sl g (grown 1038 gx 3 acc) ⟨i,0⟩),(1038,sdO gx acc)]) (λ_=>True) (λK1 hK1=>?_) ?_;refine Z1f (zi @Z2f q1) ?_;refine Z1 ?_;refine CuS.call hG (Zch G hG sl g ⟨i,0⟩ Zxi) (λF=>Zzc F _ _ _ _) zk rfl rfl zr ?_;rw[decide_eq_true hi,Bool.true_and];refine Zu ?_
 by_cases hw:Zmc sl.l i=Zxi
 have q2:(Zmc sl.l i==Zxi)=true:=zu hw;rw[q2];rw[if_pos hw]at hK1;refine Z1 ?_;exact hK1 _ () trivial (Zb zp zp);have q2:(Zmc sl.l i==Zxi)=false:=zu hw;rw[q2];rw[if_neg hw]at hK1;refine Z0 ?_;exact hK1 _ () trivial (Zb zp zp);intro _ _
 have hstP:Zjd sl.l i=if Zmc sl.l i=Zxi then Zoe sl.l 2 [40] [[41],[59]] (i+1)else Zoe sl.l 1 [58,61] [[59]] i:=rfl
 by_cases hw:Zmc sl.l i=Zxi
 rw[if_pos hw]at hstP;rw[if_pos hw];have hsp:=Za3 G hE sl hT g i hw;rw[<- hstP]at hsp;have hb:=(Zeo sl.l i).ge;generalize Zjd sl.l i=q at hP hsp hb;obtain⟨x,m,e⟩:=q;simp only at hP hsp hb;generalize hn:m.toNat=n at hP hsp;refine Z1 ?_;refine CuS.call hG hsp (λF=>Zzc F _ _ _ _) zk rfl (by first|rfl|(simp -implicitDefEqProofs only[go_sem,seval,Zwi,Zua];try rfl)) zr ?_;simp -implicitDefEqProofs only[go_sem,seval,Z4a,Zwi];intro g4;refine ZTf @Z2f hG ?_;intro g37;refine Zvb (f:=Z9g .new) (l:=acc) (l2:=[x]) (g:=gx) (Z8g _) rfl rfl rfl zp (Zca zo zO) λg2=>?_;refine Zs ?_;refine Z ?_;rw[hP];exact⟨rfl,g2,zp,zp⟩;rw[if_neg hw]at hstP;rw[if_neg hw];have hsp:=Zpr G hE sl hT g i zo;rw[<- hstP]at hsp;have hb:=(Zeo sl.l i).ge;generalize Zjd sl.l i=q at hP hsp hb;obtain⟨x,m,e⟩:=q;simp only at hP hsp hb;generalize hn:m.toNat=n at hP hsp;refine Z1 ?_;refine CuS.call hG hsp (λF=>Zzc F _ _ _ _) zk rfl (by first|rfl|(simp -implicitDefEqProofs only[go_sem,seval,Zwi,Zua];try rfl)) zr ?_;simp -implicitDefEqProofs only[go_sem,seval,Z4a,Zwi];intro g4;refine ZTf @Z2f hG ?_;intro g37;refine Zvb (f:=Z9g .new) (l:=acc) (l2:=[x]) (g:=gx) (Z8g _) rfl rfl rfl zp (Zca zo zO) λg2=>?_;refine Zs ?_;refine Z ?_;rw[hP];exact⟨rfl,g2,zp,zp⟩
@[go_sem] theorem noMp_cuO(S:Sl Tk)(g:Nat)(v:V)(r:CU):(cuO S g v r).noMp=cuO S g v r:=rfl
@[go_sem] theorem noMp_sdO(g:Nat)(l:List ASt):(sdO g l).noMp=sdO g l:=by cases l<;>rfl
theorem Zqca{l:List Tk}{n f i:Nat}{acc:List ASt}(hi:i<l.length):Z4m l n (f+1) i acc =
  if(rdS l i acc).1=false then([],Zmn l n ((rdS l i acc).2.1.i:Int),(rdS l i acc).2.1.e)else Z4m l n f (rdS l i acc).2.1.i (rdS l i acc).2.2:=by
 rw[Z4m,if_neg zo];unfold rdS
 by_cases h5:acc.length=512
 rw[if_pos h5,if_pos h5]<;>rfl
 rw[if_neg h5,if_neg h5];have hb:=(Zeo l i).ge
 by_cases he:(Zjd l i).2.2=0
 rw[if_neg (zu he),if_neg (by simp[he])];have q:((Zjd l i).2.2==0)=false:=zu he;rw[if_pos he,if_pos q];simp only[Int.toNat_of_nonneg (show 0<=(Zjd l i).2.1 by omega)]
theorem Z9aa{l:List Tk}{i:Nat}{acc:List ASt}(h:(rdS l i acc).1=true):(rdS l i acc).2.1.e=0/\i<(rdS l i acc).2.1.i/\(rdS l i acc).2.1.i<=l.length/\(rdS l i acc).2.2.length=acc.length+1/\acc.length≠512:=by
 unfold rdS at h⊢
 by_cases h5:acc.length=512
 rw[if_pos h5]at h;cases h;rw[if_neg h5]at h⊢;have he:(Zjd l i).2.2=0:=zu h;obtain⟨h1,h2⟩:=(Zeo l i).ok he;refine⟨he,?_,?_,by rw[List.length_append]<;>rfl,h5⟩
 show i<(Zjd l i).2.1.toNat;omega
 show(Zjd l i).2.1.toNat<=l.length;omega
def encBP(r:List ASt×Int×Int):V:=.tuple [.agg [Zqda .new r.1],.int .i64 r.2.1,.int .i64 r.2.2]
theorem Zuv(G:Nat->V)(hE:GExp G)(s:List UInt8)(hs:s.length<100000):Spec Tryz.prog G 219 [.str s] Zk (λv _=>v=encBP (Zhp s)):=by
 have hG:=hE.ok;refine Zo 0 69 [.cell 2 245,.tmp 3,.tmp 4] Tryz.func219 λX=>?_
 have hP:Zhp s=if(Zja s).2.2≠0 then(([]:List ASt),(Zja s).2.1,(Zja s).2.2)else Z4m (Zja s).1 s.length ((Zja s).1.length+1) 0 []:=rfl
 generalize Zhp s=res at hP⊢;have hT:=Zco hs;have hl:=Zdd G hE s hs;generalize Zja s=p at hP hT hl;obtain⟨l,at0,e0⟩:=p;simp only at hP hT;have hTl:=hT.len;refine Z1 ?_;intro g2;refine Z1 ?_;refine Zn hG ?_ (s:=hl);refine Zsf (zi @encTok.eq_1 (zi @encTks.eq_1 @Zpb)) ?_;have hS:(Zt l).l=l:=Zl l;generalize Zt l=S at hS;subst hS;refine Z8 ?_
 by_cases he:e0=0
 rotate_left;rw[if_pos he]at hP;have q1:(e0==0)=false:=zu he;refine Zne zk ?_;simp -implicitDefEqProofs only[go_sem,seval,bne,q1];refine Z ?_
 rw[hP]<;>rfl
 rw[if_neg (zu he)]at hP;have q1:(e0==0)=true:=zu he;refine Zne zk ?_;simp -implicitDefEqProofs only[go_sem,seval,bne,q1];refine Z1 ?_;intro g21;refine AW.weak (Zx (λ_=>false) (l:=[(0,.str s),(2,.ptr 2 g2 0),(5,Za .new 3 Zyb S),(6,.ptr 21 g21 0)]) (m:=[(2,.cells .new g2 0 [.nils]),(21,cuO S g21 .nils ⟨0,0⟩)]) ?_ ?_) ?_;refine Zs ?_;exact⟨Fz.same _,Fz.same _,Fz.same _,Fz.same _⟩;simp only[Zp,Zy,and_true];exact⟨FzO.keep rfl zp,Z19 (c:=.new) (fz:=0) (cs:=[Za .new 3 Zyb S,.int .i64 0,.int .i64 0,.nils]) rfl zp ⟨Fz.any (zpf @Zpb),Fz.same _,Fz.same _,Fz.same _,trivial⟩⟩;refine Z8 ?_;refine AW.block ?_
 refine Zqd (fun(x:(Nat×Nat)×List ASt)=>st [(0,.str s),(2,.ptr 2 g2 0),(5,Za .new 3 Zyb S),(6,.ptr 21 g21 0)] [(2,.cells .new g2 0 [.nils]),(21,cuO S g21 (grown 1038 x.1.1 3 x.2) ⟨x.1.2,0⟩),(1038,sdO x.1.1 x.2)])
  (λx=>x.1.2<=S.l.length/\x.2.length<=512/\∃ f,S.l.length<f+x.1.2/\Z4m S.l s.length f x.1.2 x.2=res) (λx=>S.l.length-x.1.2) ((0,0),[]) ⟨Nat.zero_le _,Nat.zero_le _,S.l.length+1,Nat.lt_succ_self _,hP.symm⟩
  (Zb zp (by refine Zs ?_;first|rfl|exact⟨rfl,rfl⟩)) ?_
 rintro⟨⟨gx,i⟩,acc⟩ ⟨hi,hac,f,hf,hR⟩ L3 hL3;simp only at hi hac hf hR;refine Z8 ?_
 cases f with
 |zero=>omega
 |succ f=>
 refine Z1f @Z2f ?_;refine Zj rfl (λh29=>?_) (λh29=>?_);rotate_left
 have hil:S.l.length<=i:=by have:=zN h29;omega
 rw[Z4m,if_pos hil]at hR;refine Z0 ?_;refine AW.weak (Zx (λo=>o==1038) (l:=[(2,.ptr 2 g2 0),(6,.ptr 21 g21 0)]) (m:=[(2,.cells .new g2 0 [.nils]),(21,.cells .any g21 0 [.top,.int .i64 i,.int .i64 0,Za .new 3 (Z9g .new) (Zt acc)])]) ?_ ?_) ?_;refine Zs ?_
 first|exact⟨Fz.same _,Fz.same _⟩|exact Fz.same _
 simp only[Zp,Zy,and_true];exact⟨FzO.keep rfl zp,FzO.of (c:=.any) (fz:=0) (cs:=[Za .any 3 Zyb S,.int .i64 i,.int .i64 0,grown 1038 gx 3 acc]) rfl zp ⟨Fz.top _,Fz.same _,Fz.same _,Zpd rfl zp (Z8g _),trivial⟩⟩;refine Z ?_
 rw[<- hR]<;>rfl
 have hil:i<S.l.length:=zL h29;rw[Zqca hil]at hR;refine Z0 ?_;refine AW.block ?_;have hst:=Zdm G hE S hT g21 i hil acc hac gx;have hrt := @Z9aa S.l i acc;generalize rdS S.l i acc=q at hR hst hrt;obtain⟨b,⟨j,e⟩,acc'⟩:=q;simp only at hR hst hrt;refine Z1 ?_;refine CallA.inl [(21,cuO S g21 (grown 1038 gx 3 acc) ⟨i,0⟩),(1038,sdO gx acc)] zk ?_ ?_;intro p hp;simp only[List.mem_cons,List.not_mem_nil,or_false]at hp
 rcases hp with rfl|rfl
 .simp -implicitDefEqProofs only[go_sem,seval];try rfl
 .simp -implicitDefEqProofs only[go_sem,seval];try rfl
 refine hst.mono ?_;rintro _ H' ⟨rfl,gx',q21,q1038⟩;simp only[List.map_cons,List.map_nil,q21,q1038]
 cases b with
 |true=>
  obtain⟨rfl,hj,hjl,hal,ha5⟩:=hrt rfl;rw[if_neg zd]at hR;refine Zu ?_;refine Z0 ?_;refine hL3 _ ⟨((gx',j),acc'),?_,⟨?_,?_,f,?_,hR⟩,Zb zp zp⟩
  show S.l.length-j<S.l.length-i;omega
  show j<=_;omega
  show acc'.length<=_;omega
  show S.l.length<f+j;omega
 |false=>
  rw[if_pos rfl]at hR;refine Zu ?_;refine Z1f @Z2f ?_;refine Zj rfl (λh40=>?_) (λh40=>?_);have hjl:j<S.l.length:=zL h40;have hgj:=List.getElem?_eq_getElem hjl;generalize S.l[j]=t at hgj;rw[Ziba hgj]at hR;refine AW.weak (Zx (λo=>o==21) (l:=[(0,.str s),(2,.ptr 2 g2 0),(5,Za .new 3 Zyb S),(6,.view .any (.agg [Za .any 3 Zyb S,.int .i64 j,.int .i64 e,grown 1038 gx' 3 acc']))]) (m:=[(2,.cells .new g2 0 [.nils])]) ?_ ?_) ?_;refine Zs ?_;exact⟨Fz.same _,Fz.same _,Fz.same _,Fz.ptr (c:=.any) (fz:=0) (v:=.agg [Za .any 3 Zyb S,.int .i64 j,.int .i64 e,grown 1038 gx' 3 acc']) rfl zp⟩;simp only[Zp,Zy,and_true];exact FzO.keep rfl zp
  refine Z8<|Zv ⟨λ_=>.top,λk=>if k=6 then .lend else if k=9 then .lend else if k=14 then .lend else .pure⟩ zk hG zk zk ?_
  refine Zsf (zi hgj @Zhc) ?_;refine Z ?_
  rw[<- hR]<;>rfl
  have hjl:¬ j<S.l.length:=by have:=zN h40;omega
  refine Z0 ?_;refine AW.weak (Zx (λo=>o==21) (l:=[(0,.str s),(2,.ptr 2 g2 0),(5,Za .new 3 Zyb S),(6,.view .any (.agg [Za .any 3 Zyb S,.int .i64 j,.int .i64 e,grown 1038 gx' 3 acc']))]) (m:=[(2,.cells .new g2 0 [.nils])]) ?_ ?_) ?_;refine Zs ?_;exact⟨Fz.same _,Fz.same _,Fz.same _,Fz.ptr (c:=.any) (fz:=0) (v:=.agg [Za .any 3 Zyb S,.int .i64 j,.int .i64 e,grown 1038 gx' 3 acc']) rfl zp⟩;simp only[Zp,Zy,and_true];exact FzO.keep rfl zp
  refine Z8<|Zv ⟨λ_=>.top,λk=>if k=7 then .lend else .pure⟩ zk hG zk zk ?_
  refine Zs ?_;refine Z ?_;rw[<- hR];unfold Zmn
  rw[if_neg zo]<;>rfl
theorem Zo8{b:List ASt}(h:Zgf b=0):b.length<=512/\∀ s∈b,Zaq s=true:=by
 unfold Zgf at h
 split at h
 cases h
 split at h
 rename_i h1 h2;rw[List.all_eq_true]at h2;exact⟨zo,h2⟩;cases h
theorem Zp8(l:List ASt):Zgf l=0\/Zgf l=2:=by
 unfold Zgf
 split
 exact .inr rfl
 split
 exact .inl rfl;exact .inr rfl
theorem Zbc(w:List UInt8):(V.str w).cells.length=1:=rfl
def encTy(r:Int×Int):V:=.tuple [.int .i64 r.1,.int .i64 r.2]
theorem Zo5{s:ASt}(h:Zaq s=true):s.kind=1\/s.kind=2:=by
 simp only[Zaq,Bool.and_eq_true,Bool.or_eq_true,beq_iff_eq]at h;exact h.1.1
theorem Zzl(G:Nat->V)(c:Col)(s:Sl (List UInt8))(hs:s.l.length<1000000):InSp Tryz.prog G 49 [Za c 1 V.str s] (Z4a Zk [(5005,.dead)])
  (λv H'=>(s=.nil/\v=.nils/\H' 5005=.dead)\/(∃ g,v=.msl 5005 g 0 s.l.length 1/\H' 5005=.cells .new g 0 (flat (s.l.map V.str)))):=by
 refine Zdb 5000 8 [.tmp 2] Tryz.func49 rfl rfl rfl rfl λX=>?_;simp only[Z4a]
 cases s with
 |nil=>
  refine Z1 ?_;refine Z8 ?_;simp only[Za];refine Z ?_;exact .inl (by first|rfl|exact⟨rfl,rfl,rfl⟩|exact⟨rfl,rfl⟩)
 |mk b l=>
  refine Z1 ?_;refine Z8 ?_;have hq:(Za c 1 V.str (.mk b l))=.slice c b 1 (l.map V.str):=rfl;rw[hq];refine Z1 ?_;refine Z1 ?_;have hl:l.length<1000000:=hs;intro g;refine⟨Zca zo (by rw[List.length_map];omega),λg2=>?_⟩;refine Z ?_;exact .inr ⟨g2,by rw[List.length_map],zr⟩
theorem Ztv(G:Nat->V)(hE:GExp G)(c c1 c2 c3:Col)(s:Sl AM)(vars events:Sl (List UInt8))(hs:s.l.length<1000000)(hb:∀ a∈s.l,AmB a)(hv:vars.l.length<100000)(hev:events.l.length<1000000):
  Spec Tryz.prog G 220 [.agg [Za c 3 (Zze c1) s],Za c2 1 V.str vars,Za c3 1 V.str events] Zk (λv _=>v=encTy (Z5p (s.l.map AM.v) vars.l events.l)):=by
 have hG:=hE.ok;refine Zo 0 57 [.tmp 6,.tmp 7] Tryz.func220 λX=>?_
 have hP:Z5p (s.l.map AM.v) vars.l events.l=if Zgf (s.l.map AM.v)≠0 then(0,2)else Zok vars.l events.l ((s.l.map AM.v).drop 0) (0:Nat):=rfl
 generalize Z5p (s.l.map AM.v) vars.l events.l=res at hP⊢;have hck:=λc=>Zvv G hE c c1.ent s hs hb;have hok := @Zo8 (s.l.map AM.v);have h02:=Zp8 (s.l.map AM.v);generalize Zgf (s.l.map AM.v)=ck at hP hck hok h02;refine Z1 ?_;intro g3;refine Z1 ?_;refine Znf @Z6k hG ?_ (s:=(hck _))
 rcases h02 with rfl|rfl
 rotate_left;refine Zs ?_;refine Z ?_
 rw[hP]<;>rfl
 refine Zs ?_;refine Z0 ?_;obtain⟨_,hall⟩:=hok rfl;rw[if_neg zd]at hP
 have hfin:∀ (NS:Sl (List UInt8)),NS.l=vars.l++[Z5z]->∀ x,Zr1 NS.l x=Zr1 (vars.l++[Z5z]) x:=λNS h x=>by rw[h]
 refine Zjb (fun(NS:Sl (List UInt8))=>st [(1,Za c2 1 V.str vars),(2,Za c3 1 V.str events),(3,.ptr 3 g3 0),(8,Za .new 1 V.str NS)] [(3,.cells .new g3 0 [Za c 3 (Zze c1) s])]) (λNS=>NS.l=vars.l++[Z5z]) (λK2 hK2=>?_) ?_;refine Z1 ?_;refine CallA.inl [(5005,.dead)] zk ?_ ?_;intro p hp;rw[List.mem_singleton]at hp;subst hp;exact zp;refine(Zzl G c2 vars zo).mono ?_;rintro _ H' (⟨rfl,rfl,q⟩|⟨g5,rfl,q⟩);simp only[List.map_cons,List.map_nil,q];refine Zu ?_;intro g18;refine⟨Zca zo zo,λh=>absurd h zd,λ_ g19=>?_⟩;refine Zs ?_;refine hK2 _ (.mk false [Z5z]) rfl (Zx (λo=>o==19) ?_ ?_);refine Zs ?_;refine⟨Fz.same _,Fz.same _,Fz.same _,?_⟩;exact Zdf (f:=V.str) (l:=[Z5z]) (m:=1) (g:=g19) (fz:=0) (c:=.new) rfl zp Zbc;simp only[Zp,Zy,and_true];exact FzO.keep rfl zp;simp only[List.map_cons,List.map_nil,q];refine Zu ?_;intro g18
 have hcells:List.take (vars.l.length*1) (flat (List.map V.str vars.l))++[V.str [97,114,103]]=flat ((vars.l++[Z5z]).map V.str):=by
  rw[List.take_of_length_le (by rw[Zwa Zbc];exact Nat.le_refl _),List.map_append,Z7e];rfl
 have e1:vars.l.length+1=(vars.l++[Z5z]).length:=by rw[List.length_append]<;>rfl
 refine⟨Zca zo zo,by rw[Zwa Zbc];exact Nat.le_refl _,Nat.zero_le _,λg19=>?_⟩;rw[hcells];refine hK2 _ (.mk false (vars.l++[Z5z])) rfl (Zx (λo=>o==5005) ?_ ?_);refine Zs ?_;refine⟨Fz.same _,Fz.same _,Fz.same _,?_⟩;rw[e1];exact Zdf (f:=V.str) (l:=vars.l++[Z5z]) (m:=1) (g:=g19) (fz:=0) (c:=.new) rfl zp Zbc;simp only[Zp,Zy,and_true];exact FzO.keep rfl zp;intro NS hNl;have hcg:=hfin NS hNl;have hof:=λc c1 (x:Sl XN) (h1:x.l.length<1000000) h2=>Z5y G hE c c1 x NS h1 h2 (by rw[hNl,List.length_append];show _+1<_;omega)
 try clear hfin
 refine Z9 λK2 hK2=>?_;refine Z1 ?_;refine AW.block ?_
 refine Zfa s.l.length (λk (_:Unit)=>st [(1,Za c2 1 V.str vars),(2,Za c3 1 V.str events),(8,Za .new 1 V.str NS),(21,Za c 3 (Zze c1) s),(22,.int .i64 s.l.length),(23,.int .i64 k)] [])
  (λk _=>Zok vars.l events.l ((s.l.map AM.v).drop k) (k:Nat)=res) 0 () (Nat.zero_le _) hP.symm
  (Zb zp zp) ?_
 rintro k _ hk hR L3 hL3;refine Z1 ?_;refine Z8 ?_;refine Zj rfl (λh24=>?_) (λh24=>?_);rotate_left
 have hk1:k=s.l.length:=by have:=zN h24;omega
 refine Z0 ?_;refine hK2 _ ?_;rw[List.drop_of_length_le (by rw[List.length_map];omega)]at hR;refine Z ?_
 rw[<- hR]<;>rfl
 have hk1:k<s.l.length:=zL h24;have hg:=List.getElem?_eq_getElem hk1;have hba:=hb _ (List.getElem_mem hk1);have hsta:=hall _ (List.mem_map_of_mem (f:=AM.v) (List.getElem_mem hk1))
 have hgv:(s.l.map AM.v)[k]?=some (s.l[k]).v:=by rw[List.getElem?_map,hg]<;>rfl
 rw[Zeu hgv]at hR;generalize s.l[k]=a at hg hba hsta hR;have hkd:=Zo5 hsta;have hst:stT vars.l events.l a.v=((if a.kind=2 then events.l.contains a.name else vars.l.contains a.name)&&Zkv (vars.l++[Z5z]) a.x.l):=rfl;refine Z1f (zi hg @Zah) ?_;intro g10;refine Z1 ?_
 refine Zjb (fun(NK:Sl (List UInt8))=>st [(1,Za c2 1 V.str vars),(2,Za c3 1 V.str events),(8,Za .new 1 V.str NS),(9,.int .i64 k),(10,.ptr 10 g10 0),(11,Za (if a.kind=2 then c3 else c2) 1 V.str NK),(21,Za c 3 (Zze c1) s),(22,.int .i64 s.l.length),(23,.int .i64 k)] [(10,.cells .new g10 0 [.int .u8 a.kind,.str a.name,Za c1 6 Zxa a.x])])
  (λNK=>NK.l.length<1000000/\NK.l.contains a.name=(if a.kind=2 then events.l.contains a.name else vars.l.contains a.name)) (λK6 hK6=>?_) ?_
 rcases hkd with hk0|hk0
 have hk0:a.kind=1:=hk0
 have q2:(a.kind==2)=false:=by rw[hk0]<;>rfl
 rw[if_neg (by rw[hk0];decide),if_neg (by rw[hk0];decide)]at hK6;refine Z1f q2 ?_;refine Z0 ?_;exact hK6 _ vars ⟨zo,rfl⟩ (Zb zp zp);have hk0:a.kind=2:=hk0;have q2:(a.kind==2)=true:=zu hk0;rw[if_pos hk0,if_pos hk0]at hK6;refine Z1f q2 ?_;refine Z1 ?_;exact hK6 _ events ⟨hev,rfl⟩ (Zb zp zp);rintro NK ⟨hNK,hNKc⟩;generalize(if a.kind=2 then c3 else c2)=cK;rw[<- hNKc]at hst;refine Z1 ?_
 refine Zjb (fun(kd0:Int)=>st [(1,Za c2 1 V.str vars),(2,Za c3 1 V.str events),(8,Za .new 1 V.str NS),(9,.int .i64 k),(10,.ptr 10 g10 0),(11,Za cK 1 V.str NK),(12,.int .u8 kd0),(21,Za c 3 (Zze c1) s),(22,.int .i64 s.l.length),(23,.int .i64 k)] [(10,.cells .new g10 0 [.int .u8 a.kind,.str a.name,Za c1 6 Zxa a.x])])
  (λkd0=>(kd0==1)=Zkv (vars.l++[Z5z]) a.x.l) (λK7 hK7=>?_) ?_
 by_cases hx0:a.x.l.length=0
 have hxe:Zkv (vars.l++[Z5z]) a.x.l=true:=by unfold Zkv;rw[List.length_eq_zero_iff.1 hx0]<;>rfl
 have q5:decide ((a.x.l.length:Int)>0)=false:=zF;refine Z1f q5 ?_;refine Z0 ?_;exact hK7 _ 1 (by rw[hxe]<;>rfl) (Zb zp zp);have q5:decide ((a.x.l.length:Int)>0)=true:=zT
 have hxe:Zkv (vars.l++[Z5z]) a.x.l=((Zr1 NS.l a.x.l).1==1):=by
  unfold Zkv;rw[<- hcg]
  cases hq:a.x.l with
  |nil=>rw[hq]at hx0;exact absurd rfl hx0
  |cons=>rfl
 refine Z1f q5 ?_;refine Z1 ?_;refine Znf @Zua hG ?_ (s:=(hof _ _ a.x hba.l hba.x));generalize Zr1 NS.l a.x.l=r at hxe;obtain⟨kd0,i0,e0⟩:=r;refine Zsf @encO3.eq_1 ?_;exact hK7 _ kd0 hxe.symm (Zb zp zp);intro kd0 hkd0
 cases q6:(kd0==1)with
 |false=>
  rw[<- hkd0,q6,Bool.and_false]at hst;rw[if_neg (by rw[hst];decide)]at hR;refine Zne zk ?_;simp -implicitDefEqProofs only[go_sem,seval,bne,q6];refine Z ?_
  rw[<- hR]<;>rfl
 |true=>
  rw[<- hkd0,q6,Bool.and_true]at hst;refine Zne zk ?_;simp -implicitDefEqProofs only[go_sem,seval,bne,q6];refine Zc hG ?_ (s:=(Zcc G hG _ a.name NK hNK))
  cases q7:NK.l.contains a.name with
  |false=>
   rw[q7]at hst;rw[if_neg (by rw[hst];decide)]at hR;refine Z ?_
   rw[<- hR]<;>rfl
  |true=>
   rw[q7]at hst;rw[if_pos hst]at hR;refine Z1 ?_;exact hL3 _ ⟨hk1,(),hR,Zb zw zp⟩
def toAM(s:ASt):AM:=⟨s.kind,s.name,Zt s.x⟩
theorem toAM_v(s:ASt):(toAM s).v=s:=by
 show ASt.mk s.kind s.name (Zt s.x).l=s
 rw[Zl]
def amS(l:List ASt):Sl AM:=Zt (l.map toAM)
theorem amS_l(l:List ASt):(amS l).l=l.map toAM:=Zl _
theorem amS_v(l:List ASt):(amS l).l.map AM.v=l:=by
 rw[amS_l,List.map_map];exact(List.map_congr_left λs _=>toAM_v s).trans (List.map_id _)
theorem Zg8(c:Col)(l:List ASt):Za c 3 (Z9g c) (Zt l)=Za c 3 (Zze c) (amS l):=by
 cases l with
 |nil=>rfl
 |cons s r=>
  show V.slice c false 3 ((s::r).map (Z9g c))=V.slice c false 3 (((s::r).map toAM).map (Zze c))
  rw[List.map_map]<;>rfl
structure SB(s:ASt):Prop where
 n:s.name.length<100000
 l:s.x.length<100000
 x:∀ n∈s.x,n.name.length<100000
structure BOk(b:List ASt):Prop where
 s:∀ s∈b,SB s
 k:b.length<=512
theorem BOk.amb{l:List ASt}(h:BOk l):∀ a∈(amS l).l,AmB a:=by
 intro a ha;rw[amS_l]at ha;obtain⟨s,hs,rfl⟩:=List.mem_map.1 ha;have:=h.s s hs;exact⟨this.n,by show(Zt s.x).l.length<_;rw[Zl];have:=this.l;omega,by show ∀ n∈(Zt s.x).l,_;rw[Zl];exact this.x⟩
theorem Zmca{l:List Tk}(hT:TkOk l):(Z7a l).1.length<100000/\∀ n∈(Z7a l).1,n.name.length<100000:=by
 have hok:=((Z4c l (l.length+1) 1 ⟨0,[],0⟩).ok ⟨Nat.zero_le _,Nat.le_refl _⟩);unfold Z7a
 split
 exact⟨Nat.zero_lt_succ _,λn hn=>by cases hn⟩
 split
 exact⟨Nat.zero_lt_succ _,λn hn=>by cases hn⟩;have:=hok.1;have:=hok.2;have:=hT.len;exact⟨by show(Zva _ _ _ _).2.nodes.length<_;omega,Zbh hT⟩
theorem txtP_sm{l:List Tk}(hT:TkOk l)(i:Nat):(Zmc l i).length<100000:=by
 unfold Zmc
 split
 rename_i t h;exact hT.text t (List.mem_of_getElem? h);exact Nat.zero_lt_succ _
theorem Zaz{k:Int}{nm:List UInt8}(h:nm.length<100000):SB ⟨k,nm,[]⟩:=⟨h,Nat.zero_lt_succ _,λn hn=>by cases hn⟩
theorem Znaa{l:List Tk}(hT:TkOk l)(k:Int)(w:List UInt8)(ws:List (List UInt8))(i:Nat):SB (Zoe l k w ws i).1:=by
 have ht:=txtP_sm hT i;have hf:=Zmca (l:=l.drop (i+2)) ⟨Nat.lt_of_le_of_lt (by rw[List.length_drop];omega) hT.len,λt h=>hT.text t (List.mem_of_mem_drop h)⟩;unfold Zoe Z9q Zgo
 split
 exact Zaz (Nat.zero_lt_succ _)
 split
 exact Zaz ht
 split
 exact Zaz ht
 split
 exact Zaz ht;exact⟨ht,hf.1,hf.2⟩
theorem Z2z{l:List Tk}(hT:TkOk l){n:Nat}:∀ (f i:Nat) (acc:List ASt),BOk acc->BOk (Z4m l n f i acc).1
 |0,i,acc,h=>h
 |f+1,i,acc,h=>by
  rw[Z4m]
  split
  exact h
  split
  exact⟨λs hs=>(by cases hs),Nat.zero_le _⟩;rename_i h5
  split
  exact⟨λs hs=>(by cases hs),Nat.zero_le _⟩;refine Z2z hT f _ _ ⟨λs hs=>?_,by rw[List.length_append,List.length_singleton];have:=h.k;omega⟩
  rcases List.mem_append.1 hs with hs|hs
  exact h.s s hs;rw[List.mem_singleton.1 hs];unfold Zjd
  split<;>exact Znaa hT _ _ _ _
theorem Zx8{s:List UInt8}(hs:s.length<=900):BOk (Zhp s).1:=by
 unfold Zhp
 split
 exact⟨λs hs=>(by cases hs),Nat.zero_le _⟩;exact Z2z (Zco zo) _ _ _ ⟨λs hs=>(by cases hs),Nat.zero_le _⟩
theorem Z9m(G:Nat->V)(hE:GExp G)(s:List UInt8)(hs:s.length<100000):Spec Tryz.prog G 169 [.str s] Zk (λv _=>v=.bool (Z4h s)):=by
 have hG:=hE.ok;refine Zo 0 26 [.tmp 2] Tryz.func169 λX=>?_;rw[Z4h];refine Z ?_;refine Zn hG ?_ (s:=Zdd G hE s hs);generalize Zja s=p;obtain⟨l,a,q⟩:=p;simp only[encTok,encTks];refine Zs ?_;cases q0:(q==0);exact Zh q0
 have e1:(((l.length:Nat):Int)==1)=(l.length==1):=by
  rw[Bool.eq_iff_iff,beq_iff_eq,beq_iff_eq];omega
 cases q1:(l.length==1);rw[q1]at e1;exact Zh (zi q0 (zi e1 (@Zl Tk l)));rw[q1]at e1;have h1:l.length=1:=zu q1;obtain⟨t,rfl⟩:∃ t,l=[t]:=List.length_eq_one_iff.1 h1;exact Zh (zi q0 Zhc)
def Z9a(vs ev:List (List UInt8))(s:List UInt8):Bool:=(Zhp s).2.2==0&&(Z5p (Zhp s).1 vs ev).2==0
theorem Z1i(G:Nat->V)(hE:GExp G)(b c d e:Col)(m:MdM)(ns vs:Sl (List UInt8))(s:List UInt8)(hs:s.length<=900)(hv:vs.l.length<100000)(hev:m.events.l.length<1000000):
  Spec Tryz.prog G 173 [ckV b c d e m ns vs,.str s] Zk (λw _=>w=.bool (Z9a vs.l m.events.l s)):=by
 have hG:=hE.ok;refine Zo 0 32 [.tmp 4] Tryz.func173 λX=>?_;have hbk:=Zx8 hs;have hT:=λc c1 c2 c3=>Ztv G hE c c1 c2 c3 (amS (Zhp s).1) vs m.events (by rw[amS_l,List.length_map];have:=hbk.k;omega) hbk.amb hv hev;rw[amS_v]at hT;have hp:=Zuv G hE s zo;rw[Z9a];generalize Zhp s=p at hT hp hbk;obtain⟨l,a,q⟩:=p;simp only at hT hbk;generalize Z5p l vs.l m.events.l=t at hT;refine Z ?_;refine Zn hG ?_ (s:=hp);simp only[encBP,Zqda,Zg8];refine Zs ?_;intro g5;refine AW.weak (Zx (λo=>o==5) (l:=[(0,ckV b c d e m ns vs),(5,.view .new (.agg [Za .new 3 (Zze .new) (amS l)])),(7,.int .i64 q)]) (m:=[]) ?_ trivial) ?_;refine Zs ?_;exact⟨Fz.same _,Fz.ptr (v:=.agg [Za .new 3 (Zze .new) (amS l)]) (c:=.new) (fz:=0) rfl zp,Fz.same _⟩;cases q0:(q==0);have q1:(q != 0)=true:=zu q0;exact Zq q1;have q1:(q != 0)=false:=zu q0;refine Z1f q1 ?_;refine Z0f q1 ?_;refine Z8 ?_;refine Zv ⟨λi=>if i=10 then .tuple [.int .i64 t.1,.int .i64 t.2]else .top,λ_=>.pure⟩ zk hG zk zk ?_;refine Zsf @Z8a ?_;refine⟨⟨by kernel_rfl,by refine Zs ?_;exact(hT _ _ _ _).mono (by rintro _ _ rfl;rfl)⟩,?_⟩;refine Z ?_;rw[Bool.true_and]
theorem u8Im(x:Int):∀ y∈(V.int .u8 x).cells,y.Im:=λy hy=>by
 simp only[V.cells,List.mem_cons,List.not_mem_nil,or_false]at hy;rw[hy];exact .int _ _
theorem Rd.u8{H:Heap}{o g n:Nat}{l:List Int}(h:H o=.cells .new g 0 (flat (l.map (V.int .u8))))(hn:l.length=n):Rd H (.msl o g 0 n 1) (Za .old 1 (V.int .u8) (.mk false l)):=by
 subst hn;have:=Rd.msl (l:=l) (off:=0) (n:=l.length) (m:=1) (f:=V.int .u8) (f':=V.int .u8) (g:=g) (fz:=0) (c:=.new) h (λ_=>rfl) u8Im (λ_=>rfl) zo;rw[List.drop_zero,List.take_length,Nat.zero_mul]at this;exact this
theorem Zve(k x:Int):(Sl.mk false [k]).l.contains x=(x==k):=by
 show[k].contains x=_
 rw[List.contains_cons,List.contains_nil,Bool.or_false]
theorem Zzy(k j x:Int):(Sl.mk false [k,j]).l.contains x=(x==k||x==j):=by
 show[k,j].contains x=_
 rw[List.contains_cons,List.contains_cons,List.contains_nil,Bool.or_false]
theorem eqN(n k:Nat):(((n:Nat):Int)==((k:Nat):Int))=(n==k):=by rw[Bool.eq_iff_iff,beq_iff_eq,beq_iff_eq];omega
theorem r3_spec(G:Nat->V)(hG:GOk G)(b c d e:Col)(m:MdM)(ns vs:Sl (List UInt8))(hw:m.ways.l.length<1000000)(v:Int)(h0:0<=v)(h1:v<m.p.vertices.length):
  Spec Tryz.prog G 85 [ckV b c d e m ns vs,.int .i64 v] Zk (λw _=>w=.bool (m.p.k3 v)):=by
 refine Zo 0 17 [.tmp 4] Tryz.func85 λX=>?_;rw[PM.k3];refine Z ?_;intro g7;refine Zs ?_;refine Zha hG [ckV b.ent c.ent d.ent e.ent m ns vs,.int .i64 v,Za .old 1 (V.int .u8) (.mk false [2,12])] zk ⟨Zka (Zcp _ _ _ _ _ _ _) zp,Zka (.int _ _) rfl,Rd.u8 (l:=[2,12]) zp rfl,trivial⟩ ?_;refine(Z5a G hG _ _ _ _ .old m ns vs v h0 h1 (.mk false [2,12]) zd).mono ?_;rintro _ _ rfl;refine⟨.bool _,?_⟩;rw[Zzy];cases q:(m.p.kd v==2||m.p.kd v==12);refine Zs ?_;exact Zr;refine Zs ?_;refine Zc hG ?_ (s:=Z8d G hG _ _ _ _ m ns vs hw v);refine Z ?_
 rw[Bool.false_or,<- eqN]<;>rfl
theorem PM.Rt.wayAt{m:PM}(h:m.Rt):∀ t∈m.ways,(0<=t.source/\t.source<m.vertices.length)/\(0<=t.target/\t.target<m.vertices.length):=by
 intro t ht;obtain⟨i,hi,rfl⟩:=List.mem_iff_getElem.1 ht;have:=h.way i hi
 have e:m.wy (i:Int)=m.ways[i]:=by
  show m.ways.getD ((i:Int)).toNat wy0=_
  rw[List.getD_eq_getElem?_getD,Int.toNat_natCast,List.getElem?_eq_getElem hi]<;>rfl
 rw[e]at this;simp only[PM.wayB,PM.inV,Bool.and_eq_true,decide_eq_true_eq]at this;exact⟨this.1.1.1.1.1.1.1.1.1.2,this.1.1.1.1.1.1.1.1.2⟩
theorem PM.Rt.outR{m:PM}(h:m.Rt)(v:Int):∀ u∈m.out v,0<=u/\u<m.vertices.length:=by
 intro u hu;obtain⟨t,ht,rfl⟩:=List.mem_map.1 hu;exact(h.wayAt t (List.mem_filter.1 ht).1).2
theorem PM.Rt.incR{m:PM}(h:m.Rt)(v:Int):∀ u∈m.inc v,0<=u/\u<m.vertices.length:=by
 intro u hu;obtain⟨t,ht,rfl⟩:=List.mem_map.1 hu;exact(h.wayAt t (List.mem_filter.1 ht).1).1
theorem Zoo(m:MdM)(v:Int):(m.p.out v).length<=m.ways.l.length:=by
 rw[Zg6,List.length_map];exact List.length_filter_le _ _
theorem inc_len(m:MdM)(v:Int):(m.p.inc v).length<=m.ways.l.length:=by
 rw[Zj7,List.length_map];exact List.length_filter_le _ _
theorem gtN(n k:Nat):decide (((n:Nat):Int)>((k:Nat):Int))=decide (k<n):=decide_eq_decide.2 zo
theorem Zoz{l:List Int}{k:Nat}(h:decide (k<l.length)=true):l≠[]:=by
 rintro rfl;simp at h
theorem r4_spec(G:Nat->V)(hG:GOk G)(b c d e:Col)(m:MdM)(ns vs:Sl (List UInt8))(hm:m.p.Rt)(hw:m.ways.l.length<1000000)(v:Int)(h0:0<=v)(h1:v<m.p.vertices.length):
  Spec Tryz.prog G 86 [ckV b c d e m ns vs,.int .i64 v] Zk (λw _=>w=.bool (m.p.k4 v)):=by
 refine Zo 0 31 [.tmp 4] Tryz.func86 λX=>?_;rw[PM.k4];have ho:=hm.outR v;have hl:=Zoo m v;refine Z ?_;refine Zc hG ?_ (s:=Z8d G hG _ _ _ _ m ns vs hw v);generalize m.p.out v=out at ho hl;refine Z ?_;intro g11;refine Zs ?_;refine Zha hG [ckV b.ent c.ent d.ent e.ent m ns vs,.int .i64 v,Za .old 1 (V.int .u8) (.mk false [6])] zk ⟨Zka (Zcp _ _ _ _ _ _ _) zp,Zka (.int _ _) rfl,Rd.u8 (l:=[6]) zp rfl,trivial⟩ ?_;refine(Z5a G hG _ _ _ _ .old m ns vs v h0 h1 (.mk false [6]) zd).mono ?_;rintro _ _ rfl;refine⟨.bool _,?_⟩;rw[Zve];cases q:(m.p.kd v==6);refine Zs ?_;exact Zr;refine Zs ?_;refine Zc hG ?_ (s:=Z8h G hG _ _ _ _ m ns vs hw v);have e1:(((m.p.inc v).length:Int)==1)=((m.p.inc v).length==1):=eqN _ 1;cases q1:((m.p.inc v).length==1);rw[q1]at e1;exact Zh (zi e1 (@Zl Int (m.p.inc v)));rw[q1]at e1;have e2:decide ((out.length:Int)>1)=decide (1<out.length):=gtN _ 1;cases q2:decide (1<out.length);rw[q2]at e2;exact Zh (zi e1 (zi e2 (zi (@Zl Int (m.p.inc v)) (@Zl Int out))));rw[q2]at e2;refine Zg (zi e1 (zi e2 (zi (@Zl Int (m.p.inc v)) (@Zl Int out)))) ?_;have hp:=Z0i G hG b.ent c.ent d.ent e.ent .old m ns vs hm (Zt out) (by rw[Zl];exact Zoz q2) (by rw[Zl];omega) (by rw[Zl];exact ho);rw[Zl]at hp;refine Zc hG ?_ (s:=hp);refine Z ?_;rfl
theorem Rd.i64{H:Heap}{o g n:Nat}{l:List Int}(h:H o=.cells .new g 0 (flat (l.map (V.int .i64))))(hn:l.length=n):Rd H (.msl o g 0 n 1) (Za .old 1 (V.int .i64) (.mk false l)):=by
 subst hn;have:=Rd.msl (l:=l) (off:=0) (n:=l.length) (m:=1) (f:=V.int .i64) (f':=V.int .i64) (g:=g) (fz:=0) (c:=.new) h (λ_=>rfl) inIm (λ_=>rfl) zo;rw[List.drop_zero,List.take_length,Nat.zero_mul]at this;exact this
theorem Zdba(G:Nat->V)(hE:GExp G)(b c d e:Col)(m:MdM)(ns vs:Sl (List UInt8))(hvs:vs.l=m.p.vn)(hv:vs.l.length<100000)(hev:m.events.l.length<1000000)(t:Int)(h0:0<=t)(h1:t<m.p.ways.length)(hx:(m.p.wy t).effect.length<=900):
  Spec Tryz.prog G 94 [ckV b c d e m ns vs,.int .i64 t] Zk (λw _=>w=.bool (m.p.k12 Z9a t)):=by
 have hG:=hE.ok;refine Zo 0 16 [.tmp 4] Tryz.func94 λX=>?_;obtain⟨k,x,rfl,hk,hg,hxe⟩:=Zbf h0 h1;rw[PM.k12,PM.body,hxe,<- hvs];rw[hxe]at hx;refine Zf (zi hg (zi hk (zi Z6 (zi Z8a (zi @Int.natCast_nonneg @Int.ofNat_lt))))) ?_;refine Zc hG ?_ (s:=Z1i G hE b.ent c.ent d.ent e.ent m ns vs x.effect hx hv hev);exact Zr
theorem Zcba(G:Nat->V)(hE:GExp G)(b c d e:Col)(m:MdM)(ns vs:Sl (List UInt8))(hvs:vs.l=m.p.vn)(hv:vs.l.length<100000)(hev:m.events.l.length<1000000)(v:Int)(h0:0<=v)(h1:v<m.p.vertices.length)(hx:(m.p.vx v).entry.length<=900/\(m.p.vx v).exit.length<=900):
  Spec Tryz.prog G 95 [ckV b c d e m ns vs,.int .i64 v] Zk (λw _=>w=.bool (m.p.k13 Z9a v)):=by
 have hG:=hE.ok;refine Zo 0 36 [.tmp 4] Tryz.func95 λX=>?_;rw[PM.k13,PM.body,PM.body,<- hvs];refine Z ?_;intro g7;refine Zs ?_;refine Zha hG [ckV b.ent c.ent d.ent e.ent m ns vs,.int .i64 v,Za .old 1 (V.int .u8) (.mk false [1])] zk ⟨Zka (Zcp _ _ _ _ _ _ _) zp,Zka (.int _ _) rfl,Rd.u8 (l:=[1]) zp rfl,trivial⟩ ?_;refine(Z5a G hG _ _ _ _ .old m ns vs v h0 h1 (.mk false [1]) zd).mono ?_;rintro _ _ rfl;refine⟨.bool _,?_⟩;rw[Zve];obtain⟨k,x,rfl,hk,hg,hxe⟩:=MdM.at h0 h1;rw[hxe]at hx⊢;cases q:(m.p.kd k==1);refine Zs ?_;exact Zr;refine Zg (zi hg (zi hk (zi Zm (zi Z8a (zi @Int.natCast_nonneg @Int.ofNat_lt))))) ?_;refine Zc hG ?_ (s:=Z1i G hE b.ent c.ent d.ent e.ent m ns vs x.entry hx.1 hv hev);have ht:Z9a vs.l m.p.events x.p.entry=Z9a vs.l m.events.l x.entry:=rfl;have ht2:Z9a vs.l m.p.events x.p.exit=Z9a vs.l m.events.l x.exit:=rfl;rw[ht,ht2];cases q1:Z9a vs.l m.events.l x.entry;exact Zh q1;refine Zg (zi q1 (zi hg (zi hk (zi Zm (zi Z8a (zi @Int.natCast_nonneg @Int.ofNat_lt)))))) ?_;refine Zc hG ?_ (s:=Z1i G hE b.ent c.ent d.ent e.ent m ns vs x.exit hx.2 hv hev);exact Zr
theorem Zbba(G:Nat->V)(hG:GOk G)(b c d e:Col)(m:MdM)(ns vs:Sl (List UInt8))(hm:m.p.Rt)(t:Int)(h0:0<=t)(h1:t<m.p.ways.length):
  Spec Tryz.prog G 96 [ckV b c d e m ns vs,.int .i64 t] Zk (λw _=>w=.bool (m.p.k14 t)):=by
 refine Zo 0 22 [.tmp 4] Tryz.func96 λX=>?_;obtain⟨k,x,rfl,hk,hg,hxe⟩:=Zbf h0 h1;obtain⟨⟨s0,s1⟩,t0,t1⟩:=hm.wayAt x.p (List.mem_of_getElem? (i:=k) (by show(m.ways.l.map TrM.p)[k]?=_;rw[List.getElem?_map,hg]<;>rfl));rw[PM.k14,hxe];refine Zf (zi hg (zi hk (zi Z6 (zi Z8a (zi @Int.natCast_nonneg @Int.ofNat_lt))))) ?_;intro g5;refine Zf Z6 ?_;intro g19;refine Zs ?_;refine Zha hG [ckV b.ent c.ent d.ent e.ent m ns vs,Za .old 1 (V.int .i64) (.mk false [x.source,x.target])] zk ⟨Zka (Zcp b c d e m ns vs) (Zof _ _ _ _ _ _ _ _),Rd.i64 (l:=[x.source,x.target]) zp rfl,trivial⟩ ?_;refine(Z0i G hG _ _ _ _ .old m ns vs hm (.mk false [x.source,x.target]) (by intro h;cases h) (by show 2<1000000;decide) (λv hv=>?_)).mono ?_;have hv:v∈[x.source,x.target]:=hv;simp only[List.mem_cons,List.not_mem_nil,or_false]at hv
 rcases hv with rfl|rfl
 exact⟨s0,s1⟩;exact⟨t0,t1⟩;rintro _ _ rfl;refine⟨.bool _,?_⟩;refine Zs ?_;exact Zr
theorem r9_spec(G:Nat->V)(hG:GOk G)(b c d e:Col)(m:MdM)(ns vs:Sl (List UInt8))(hm:m.p.Rt)(t:Int)(h0:0<=t)(h1:t<m.p.ways.length):
  Spec Tryz.prog G 91 [ckV b c d e m ns vs,.int .i64 t] Zk (λw _=>w=.bool (m.p.k9 t)):=by
 refine Zo 0 30 [.tmp 4] Tryz.func91 λX=>?_;obtain⟨k,x,rfl,hk,hg,hxe⟩:=Zbf h0 h1;obtain⟨⟨s0,s1⟩,t0,t1⟩:=hm.wayAt x.p (List.mem_of_getElem? (i:=k) (by show(m.ways.l.map TrM.p)[k]?=_;rw[List.getElem?_map,hg]<;>rfl));rw[PM.k9,hxe];have hp:(x.p.triggers.length==0&&x.p.after==0||m.p.kd x.p.source==1)=((x.triggers.l.length==0&&x.after==0)||m.p.kd x.source==1):=rfl;rw[hp];refine Zf (zi hg (zi hk (zi Z6 (zi Z8a (zi @Int.natCast_nonneg @Int.ofNat_lt))))) ?_;intro g5;have e1:((x.triggers.l.length:Int)==0)=(x.triggers.l.length==0):=eqN _ 0;cases q1:(x.triggers.l.length==0);rw[q1]at e1;refine Zf (zi e1 Z6) ?_;intro g27;refine Zs ?_;refine Zha hG [ckV b.ent c.ent d.ent e.ent m ns vs,.int .i64 x.source,Za .old 1 (V.int .u8) (.mk false [1])] zk ⟨Zka (Zcp _ _ _ _ _ _ _) zp,Zka (.int _ _) rfl,Rd.u8 (l:=[1]) zp rfl,trivial⟩ ?_;refine(Z5a G hG _ _ _ _ .old m ns vs x.source s0 s1 (.mk false [1]) zd).mono ?_;rintro _ _ rfl;refine⟨.bool _,?_⟩;rw[Zve];refine Zs ?_;exact Zr;rw[q1]at e1;cases q2:(x.after==0);refine Zf (zi e1 (zi q2 Z6)) ?_;intro g27;refine Zs ?_;refine Zha hG [ckV b.ent c.ent d.ent e.ent m ns vs,.int .i64 x.source,Za .old 1 (V.int .u8) (.mk false [1])] zk ⟨Zka (Zcp _ _ _ _ _ _ _) zp,Zka (.int _ _) rfl,Rd.u8 (l:=[1]) zp rfl,trivial⟩ ?_;refine(Z5a G hG _ _ _ _ .old m ns vs x.source s0 s1 (.mk false [1]) zd).mono ?_;rintro _ _ rfl;refine⟨.bool _,?_⟩;rw[Zve];refine Zs ?_;exact Zr;exact Zq (zi e1 (zi q2 Z6))
theorem r1_spec(G:Nat->V)(hG:GOk G)(b c d e:Col)(m:MdM)(ns vs:Sl (List UInt8))(hl:m.verts.l.length<1000000)(r:Int):
  Spec Tryz.prog G 83 [ckV b c d e m ns vs,.int .i64 r] Zk (λw _=>w=.bool (m.p.k1 r)):=by
 refine Zo 0 34 [.tmp 4] Tryz.func83 λX=>?_
 have hP:m.p.k1 r=((m.verts.l.filter λx=>x.kind==3&&x.region==r).length==1):=by
  show(((m.verts.l.map VtM.p).filter _).length==1)=_
  rw[List.filter_map,List.length_map]<;>rfl
 rw[hP];simp only[Z8a];refine Z ?_
 refine Zfa m.verts.l.length (λk (_:Unit)=>st [(0,ckV b c d e m ns vs),(1,.int .i64 r),(5,.int .i64 ((m.verts.l.take k).filter λx=>x.kind==3&&x.region==r).length),(12,Za c 8 (Zra d) m.verts),(13,.int .i64 m.verts.l.length),(14,.int .i64 k)] [])
  (λ_ _=>True) 0 () (Nat.zero_le _) trivial (Zb (zpf @Z8a) zp) ?_
 intro k _ hk _ L3 hL3
 by_cases hk1:k<m.verts.l.length
 have hlt:decide ((k:Int)<(m.verts.l.length:Int))=true:=zT;have hg:=List.getElem?_eq_getElem hk1
 have htk:m.verts.l.take (k+1)=m.verts.l.take k++[m.verts.l[k]]:=by rw[List.take_succ_eq_append_getElem hk1]
 have hn:((m.verts.l.take k).filter λx=>x.kind==3&&x.region==r).length<=k:=Nat.le_trans (List.length_filter_le _ _) (by rw[List.length_take];omega);generalize m.verts.l[k]=x at hg htk;rw[htk,List.filter_append,List.length_append]at hL3;generalize((m.verts.l.take k).filter λx=>x.kind==3&&x.region==r).length=n at hn hL3;have w1:IntKind.i64.wrap ((k:Int)+1)=(k:Int)+1:=w64 zo zo;have w2:IntKind.i64.wrap ((n:Int)+1)=(n:Int)+1:=w64 zo zo;have h0:(0:Int)<=(k:Int):=Int.natCast_nonneg k
 have h1:(k:Int)<m.p.vertices.length:=by rw[m.nv];omega
 have hkd:m.p.kd (k:Int)=x.kind:=by rw[PM.kd,Zdi hg]<;>rfl
 refine Zf (zi hlt (zi hg Zm)) ?_;intro g7;refine Z ?_;intro g21;refine Zs ?_;refine Zha hG [ckV b.ent c.ent d.ent e.ent m ns vs,.int .i64 k,Za .old 1 (V.int .u8) (.mk false [3])] zk ⟨Zka (Zcp _ _ _ _ _ _ _) zp,Zka (.int _ _) rfl,Rd.u8 (l:=[3]) zp rfl,trivial⟩ ?_;refine(Z5a G hG _ _ _ _ .old m ns vs k h0 h1 (.mk false [3]) zd).mono ?_;rintro _ _ rfl;refine⟨.bool _,?_⟩;rw[Zve,hkd];cases q1:(x.kind==3);rw[List.filter_cons_of_neg (by simp[q1])]at hL3;simp only[List.filter_nil,List.length_nil,Nat.add_zero]at hL3;refine Zs ?_;refine Zf w1 ?_;exact hL3 _ ⟨hk1,(),trivial,Zb zp zp⟩;cases q2:(x.region==r);rw[List.filter_cons_of_neg (by simp[q2])]at hL3;simp only[List.filter_nil,List.length_nil,Nat.add_zero]at hL3;refine Zg (zi q2 (zi w1 Zm)) ?_;exact hL3 _ ⟨hk1,(),trivial,Zb zp zp⟩;rw[List.filter_cons_of_pos (by simp[q1,q2])]at hL3;simp only[List.filter_nil,List.length_cons,List.length_nil,Nat.zero_add]at hL3;refine Zg (zi q2 (zi w1 (zi w2 Zm))) ?_;exact hL3 _ ⟨hk1,(),trivial,Zb (by refine Zs ?_;exact⟨rfl,rfl⟩) zp⟩;have hke:k=m.verts.l.length:=zo;subst hke;rw[List.take_length];have hlt:decide ((m.verts.l.length:Int)<(m.verts.l.length:Int))=false:=zS;refine Zf hlt ?_
 rw[<- eqN]<;>rfl
theorem Zeba(G:Nat->V)(hG:GOk G)(b c d e:Col)(m:MdM)(ns vs:Sl (List UInt8))(hm:m.p.Rt)(t:Int)(h0:0<=t)(h1:t<m.p.ways.length):
  Spec Tryz.prog G 93 [ckV b c d e m ns vs,.int .i64 t] Zk (λw _=>w=.bool (m.p.k11 t)):=by
 refine Zo 0 45 [.tmp 4] Tryz.func93 λX=>?_;obtain⟨k,x,rfl,hk,hg,hxe⟩:=Zbf h0 h1;obtain⟨⟨s0,s1⟩,t0,t1⟩:=hm.wayAt x.p (List.mem_of_getElem? (i:=k) (by show(m.ways.l.map TrM.p)[k]?=_;rw[List.getElem?_map,hg]<;>rfl));rw[PM.k11,hxe]
 have hp:(if x.p.kind=3 then x.p.source==x.p.target&&m.p.kd x.p.source==1 else if x.p.kind=2 then m.p.kd x.p.source==1&&m.p.inB x.p.target x.p.source else true) =
  (if x.kind=3 then x.source==x.target&&m.p.kd x.source==1 else if x.kind=2 then m.p.kd x.source==1&&m.p.inB x.target x.source else true):=rfl
 rw[hp];refine Zf (zi hg (zi hk (zi Z6 (zi Z8a (zi @Int.natCast_nonneg @Int.ofNat_lt))))) ?_;intro g5
 by_cases hk3:x.kind=3
 rw[if_pos hk3];have q:(x.kind==3)=true:=zu hk3;cases q1:(x.source==x.target);exact Zq (zi q (zi q1 Z6));refine Zf (zi q (zi q1 Z6)) ?_;intro g27;refine Zs ?_;refine Zha hG [ckV b.ent c.ent d.ent e.ent m ns vs,.int .i64 x.source,Za .old 1 (V.int .u8) (.mk false [1])] zk ⟨Zka (Zcp _ _ _ _ _ _ _) zp,Zka (.int _ _) rfl,Rd.u8 (l:=[1]) zp rfl,trivial⟩ ?_;refine(Z5a G hG _ _ _ _ .old m ns vs x.source s0 s1 (.mk false [1]) zd).mono ?_;rintro _ _ rfl;refine⟨.bool _,?_⟩;rw[Zve];refine Zs ?_;exact Zr;rw[if_neg hk3];have q:(x.kind==3)=false:=zu hk3
 by_cases hk2:x.kind=2
 rw[if_pos hk2];have q1:(x.kind==2)=true:=zu hk2;refine Zf (zi q (zi q1 Z6)) ?_;intro g35;refine Zs ?_;refine Zha hG [ckV b.ent c.ent d.ent e.ent m ns vs,.int .i64 x.source,Za .old 1 (V.int .u8) (.mk false [1])] zk ⟨Zka (Zcp _ _ _ _ _ _ _) zp,Zka (.int _ _) rfl,Rd.u8 (l:=[1]) zp rfl,trivial⟩ ?_;refine(Z5a G hG _ _ _ _ .old m ns vs x.source s0 s1 (.mk false [1]) zd).mono ?_;rintro _ _ rfl;refine⟨.bool _,?_⟩;rw[Zve];cases q2:(m.p.kd x.source==1);exact Zh q2;refine Zg (zi q2 Z6) ?_;refine Zc hG ?_ (s:=Z9h G hG b.ent c.ent d.ent e.ent m ns vs hm x.target x.source t0 t1);exact Zr;rw[if_neg hk2];have q1:(x.kind==2)=false:=zu hk2;exact Zq (zi q q1)
theorem Zaba(G:Nat->V)(hG:GOk G)(b c d e:Col)(m:MdM)(ns vs:Sl (List UInt8))(hm:m.p.Rt)(t:Int)(h0:0<=t)(h1:t<m.p.ways.length):
  Spec Tryz.prog G 97 [ckV b c d e m ns vs,.int .i64 t] Zk (λw _=>w=.bool (m.p.k15 t)):=by
 refine Zo 0 65 [.tmp 4] Tryz.func97 λX=>?_;obtain⟨k,x,rfl,hk,hg,hxe⟩:=Zbf h0 h1;obtain⟨⟨s0,s1⟩,t0,t1⟩:=hm.wayAt x.p (List.mem_of_getElem? (i:=k) (by show(m.ways.l.map TrM.p)[k]?=_;rw[List.getElem?_map,hg]<;>rfl));obtain⟨i,y,hi,hik,hig,hy⟩:=MdM.at t0 t1;obtain⟨j,z,hj,hjk,hjg,hz⟩:=MdM.at s0 s1;rw[PM.k15,hxe,PM.kd,hy,hz];have hi:x.target=(i:Int):=hi;have hj:x.source=(j:Int):=hj
 have hp:(if y.p.kind=10 then !(x.p.source==y.p.of) && !m.p.inB x.p.source y.p.of else if y.p.kind=11 then m.p.inB x.p.source y.p.of && !(z.p.of==y.p.of)else true) =
  (if y.kind=10 then !(x.source==y.of) && !m.p.inB x.source y.of else if y.kind=11 then m.p.inB x.source y.of && !(z.of==y.of)else true):=rfl
 rw[hp];refine Zf (zi hg (zi hk (zi Z6 (zi Z8a (zi @Int.natCast_nonneg @Int.ofNat_lt))))) ?_;intro g5;refine ZTf (zi hi (zi hig (zi hik (zi Z6 (zi Zm (zi Z8a (zi @Int.natCast_nonneg @Int.ofNat_lt))))))) hG ?_;intro g6
 by_cases hk10:y.kind=10
 rw[if_pos hk10];have q:(y.kind==10)=true:=zu hk10;cases q1:(x.source==y.of)
 have q2:(x.source != y.of)=true:=by rw[bne,q1]<;>rfl
 refine Zf (zi q (zi q2 (zi Z6 Zm))) ?_;refine Zc hG ?_ (s:=Z9h G hG b.ent c.ent d.ent e.ent m ns vs hm x.source y.of s0 s1);exact Zr
 have q2:(x.source != y.of)=false:=by rw[bne,q1]<;>rfl
 exact Zq (zi q (zi q2 (zi Z6 Zm)));rw[if_neg hk10];have q:(y.kind==10)=false:=zu hk10
 by_cases hk11:y.kind=11
 rw[if_pos hk11];have q1:(y.kind==11)=true:=zu hk11;have hsp:=λb c d e=>Z9h G hG b c d e m ns vs hm x.source y.of s0 s1;rw[hj]at hsp⊢;refine Z1f (zi q (zi q1 hj)) ?_;refine Z1f (zi q (zi q1 hj)) ?_;refine Z1f (zi q (zi q1 hj)) ?_;refine Z0f (zi q (zi q1 hj)) ?_;generalize m.p.inB (j:Int) y.of=bb at hsp⊢;refine Z8 ?_;cases bb;refine Zv ⟨λi=>if i=5 then .bool false else .top,λ_=>.pure⟩ zk hG zk zk ?_;refine Zsf (zi hj (zi hjg (zi hjk (zi @Zm (zi @Z6 (zi @Z8a (zi @Int.natCast_nonneg @Int.ofNat_lt))))))) ?_;refine⟨⟨by kernel_rfl,by refine Zs ?_;exact(hsp _ _ _ _).mono (by rintro _ _ rfl;rfl)⟩,?_⟩;exact Zr;refine Zv ⟨λi=>if i=5 then .bool true else .top,λ_=>.pure⟩ zk hG zk zk ?_;refine Zsf (zi hj (zi hjg (zi hjk (zi @Zm (zi @Z6 (zi @Z8a (zi @Int.natCast_nonneg @Int.ofNat_lt))))))) ?_;refine⟨⟨by kernel_rfl,by refine Zs ?_;exact(hsp _ _ _ _).mono (by rintro _ _ rfl;rfl)⟩,?_⟩;exact Zr;rw[if_neg hk11];have q1:(y.kind==11)=false:=zu hk11;exact Zq (zi q q1)
theorem leN(n k:Nat):decide (((n:Nat):Int)<=((k:Nat):Int))=decide (n<=k):=decide_eq_decide.2 zo
theorem r6_spec(G:Nat->V)(hE:GExp G)(b c d e:Col)(m:MdM)(ns vs:Sl (List UInt8))(hw:m.ways.l.length<1000000)(hgl:∀ t∈m.ways.l,t.guard.length<100000)(v:Int)(h0:0<=v)(h1:v<m.p.vertices.length):
  Spec Tryz.prog G 88 [ckV b c d e m ns vs,.int .i64 v] Zk (λw _=>w=.bool (m.p.k6 v)):=by
 have hG:=hE.ok;refine Zo 0 53 [.tmp 4] Tryz.func88 λX=>?_
 have hP:m.p.elses v=(m.ways.l.filter λt=>t.source==v&&Z4h t.guard).length:=by
  show((m.ways.l.map TrM.p).filter _).length=_
  rw[List.filter_map,List.length_map]<;>rfl
 rw[PM.k6,hP];simp only[Z8a];refine Z ?_
 refine Zfa m.ways.l.length (λk (_:Unit)=>st [(0,ckV b c d e m ns vs),(1,.int .i64 v),(5,.int .i64 ((m.ways.l.take k).filter λt=>t.source==v&&Z4h t.guard).length),(12,Za c 8 (Z6a d) m.ways),(13,.int .i64 m.ways.l.length),(14,.int .i64 k)] [])
  (λ_ _=>True) 0 () (Nat.zero_le _) trivial (Zb (zpf @Z8a) zp) ?_
 intro k _ hk _ L3 hL3
 by_cases hk1:k<m.ways.l.length
 have hlt:decide ((k:Int)<(m.ways.l.length:Int))=true:=zT;have hg:=List.getElem?_eq_getElem hk1
 have htk:m.ways.l.take (k+1)=m.ways.l.take k++[m.ways.l[k]]:=by rw[List.take_succ_eq_append_getElem hk1]
 have hxl:=hgl m.ways.l[k] (List.getElem_mem hk1);have hn:((m.ways.l.take k).filter λt=>t.source==v&&Z4h t.guard).length<=k:=Nat.le_trans (List.length_filter_le _ _) (by rw[List.length_take];omega);generalize m.ways.l[k]=x at hg htk hxl;rw[htk,List.filter_append,List.length_append]at hL3;generalize((m.ways.l.take k).filter λt=>t.source==v&&Z4h t.guard).length=n at hn hL3;have w1:IntKind.i64.wrap ((k:Int)+1)=(k:Int)+1:=w64 zo zo;have w2:IntKind.i64.wrap ((n:Int)+1)=(n:Int)+1:=w64 zo zo;refine Zf (zi hlt (zi hg Z6)) ?_;intro g7;cases q1:(x.source==v);rw[List.filter_cons_of_neg (by simp[q1])]at hL3;simp only[List.filter_nil,List.length_nil,Nat.add_zero]at hL3;refine Zf (zi q1 (zi w1 Z6)) ?_;exact hL3 _ ⟨hk1,(),trivial,Zb (zpf @Z8a) zp⟩;refine Zf (zi q1 Z6) ?_;refine Zc hG ?_ (s:=Z9m G hE x.guard hxl);cases q2:Z4h x.guard;rw[List.filter_cons_of_neg (by simp[q2])]at hL3;simp only[List.filter_nil,List.length_nil,Nat.add_zero]at hL3;refine Zg (zi q2 w1) ?_;exact hL3 _ ⟨hk1,(),trivial,Zb (zpf @Z8a) zp⟩;rw[List.filter_cons_of_pos (by simp[q1,q2])]at hL3;simp only[List.filter_nil,List.length_cons,List.length_nil,Nat.zero_add]at hL3;refine Zg (zi q2 (zi w1 w2)) ?_;exact hL3 _ ⟨hk1,(),trivial,Zb (by simp -implicitDefEqProofs only[go_sem,seval,Z8a];exact⟨rfl,rfl⟩) zp⟩;have hke:k=m.ways.l.length:=zo;subst hke;rw[List.take_length];have hlt:decide ((m.ways.l.length:Int)<(m.ways.l.length:Int))=false:=zS;generalize(m.ways.l.filter λt=>t.source==v&&Z4h t.guard).length=n;refine Zf hlt ?_;intro g32;refine Zs ?_;refine Zha hG [ckV b.ent c.ent d.ent e.ent m ns vs,.int .i64 v,Za .old 1 (V.int .u8) (.mk false [4,5])] zk ⟨Zka (Zcp _ _ _ _ _ _ _) zp,Zka (.int _ _) rfl,Rd.u8 (l:=[4,5]) zp rfl,trivial⟩ ?_;refine(Z5a G hG _ _ _ _ .old m ns vs v h0 h1 (.mk false [4,5]) zd).mono ?_;rintro _ _ rfl;refine⟨.bool _,?_⟩;rw[Zzy];cases q:(m.p.kd v==4||m.p.kd v==5)
 refine Zs ?_;exact Zr;refine Zs ?_;refine Zc hG ?_ (s:=Z8h G hG _ _ _ _ m ns vs hw v);have e1:decide (((m.p.inc v).length:Int)>0)=decide (0<(m.p.inc v).length):=gtN _ 0;cases q1:decide (0<(m.p.inc v).length);rw[q1]at e1;exact Zh (zi e1 (@Zl Int (m.p.inc v)));rw[q1]at e1;refine Zg (zi e1 (@Zl Int (m.p.inc v))) ?_;refine Zc hG ?_ (s:=Z8d G hG _ _ _ _ m ns vs hw v);have e2:decide (((m.p.out v).length:Int)>0)=decide (0<(m.p.out v).length):=gtN _ 0;cases q2:decide (0<(m.p.out v).length);rw[q2]at e2;exact Zh (zi e2 (@Zl Int (m.p.out v)));rw[q2]at e2;have e3:decide ((n:Int)<=1)=decide (n<=1):=leN _ 1;exact Zh (zi e2 (zi e3 (@Zl Int (m.p.out v))))
@[go_sem] theorem loadK_ck(n:Nat)(ob:AObj)(c1 b c d e:Col)(m:MdM)(ns vs:Sl (List UInt8)):Zwj (some (false,n)) ob (.view c1 (ckV b c d e m ns vs))=some (ckV b c d e m ns vs):=rfl
theorem Zu6(G:Nat->V)(hG:GOk G)(b1 b c d e:Col)(m:MdM)(ns vs:Sl (List UInt8))(v:Int)(h0:0<=v)(h1:v<m.p.vertices.length):
  Spec Tryz.prog G 168 [.int .i64 v,.view b1 (ckV b c d e m ns vs)] Zk (λw _=>w=.bool (!(m.p.kd v==1))):=by
 refine Zo 0 9 [.tmp 3] Tryz.func168 λX=>?_;refine Z ?_;intro g6;refine Zs ?_;refine Zha hG [ckV b.ent c.ent d.ent e.ent m ns vs,.int .i64 v,Za .old 1 (V.int .u8) (.mk false [1])] zk ⟨Zka (Zcp _ _ _ _ _ _ _) zp,Zka (.int _ _) rfl,Rd.u8 (l:=[1]) zp rfl,trivial⟩ ?_;refine(Z5a G hG _ _ _ _ .old m ns vs v h0 h1 (.mk false [1]) zd).mono ?_;rintro _ _ rfl;refine⟨.bool _,?_⟩;rw[Zve];refine Zs ?_;exact Zr
theorem Zo7(G:Nat->V)(hG:GOk G)(c1 b1 b c d e:Col)(m:MdM)(ns vs:Sl (List UInt8))(s:Sl Int)(hs:s.l.length<1000000)(hr:∀ v∈s.l,0<=v/\v<m.p.vertices.length):
  Spec Tryz.prog G 201 [Za c1 1 (V.int .i64) s,.func (.func 168) [] [.view b1 (ckV b c d e m ns vs)]] Zk (λv _=>v=.int .i64 (Zup (λu => !(m.p.kd u==1)) s.l)):=by
 refine Zo 0 19 [.tmp 4] Tryz.func201 λX=>?_;refine Z ?_
 refine Zfa s.l.length (λk (_:Unit)=>st [(0,Za c1 1 (V.int .i64) s),(1,.func (.func 168) [] [.view b1 (ckV b c d e m ns vs)]),(7,.int .i64 s.l.length),(8,.int .i64 k)] []) (λk _=>∀ y∈s.l.take k,(!(m.p.kd y==1))=false) 0 () (Nat.zero_le _) zS
  (Zb zp zp) ?_
 intro k _ hk hR L2 hL2
 by_cases hk1:k<s.l.length
 .have hlt:decide ((k:Int)<(s.l.length:Int))=true:=zT
  have hg:=List.getElem?_eq_getElem hk1;obtain⟨x0,x1⟩:=hr s.l[k] (List.getElem_mem hk1);generalize s.l[k]=x at hg x0 x1;refine Zf (zi hlt hg) ?_;refine Zc hG ?_ (s:=Zu6 G hG b1.ent b.ent c.ent d.ent e.ent m ns vs x x0 x1)
  cases h6:(!(m.p.kd x==1))with
  |true=>
   refine Z ?_;rw[Z1d (p:=λu => !(m.p.kd u==1)) hg hR h6]
  |false=>
   have w1:IntKind.i64.wrap ((k:Int)+1)=(k:Int)+1:=w64 zo zo;refine Zf w1 ?_;exact hL2 _ ⟨hk1,(),Z1e hg hR h6,Zb zp zp⟩
 have hke:k=s.l.length:=zo;have hlt:decide ((k:Int)<(s.l.length:Int))=false:=zF;rw[hke,List.take_length]at hR;refine Zf hlt ?_;rw[Z2d (p:=λu => !(m.p.kd u==1)) hR]
theorem Zn8(G:Nat->V)(hG:GOk G)(c1 b1 b c d e:Col)(m:MdM)(ns vs:Sl (List UInt8))(s:Sl Int)(hs:s.l.length<1000000)(hr:∀ v∈s.l,0<=v/\v<m.p.vertices.length):
  Spec Tryz.prog G 120 [Za c1 1 (V.int .i64) s,.func (.func 168) [] [.view b1 (ckV b c d e m ns vs)]] Zk (λv _=>v=.bool (s.l.any λu => !(m.p.kd u==1))):=by
 refine Zo 0 9 [.tmp 4] Tryz.func120 λX=>?_;refine Z ?_;refine Zc hG ?_ (s:=Zo7 G hG c1.ent b1.ent b.ent c.ent d.ent e.ent m ns vs s hs hr);refine Z ?_;rw[Zbk]
theorem r5_spec(G:Nat->V)(hG:GOk G)(b c d e:Col)(m:MdM)(ns vs:Sl (List UInt8))(hm:m.p.Rt)(hw:m.ways.l.length<1000000)(v:Int)(h0:0<=v)(h1:v<m.p.vertices.length):
  Spec Tryz.prog G 87 [ckV b c d e m ns vs,.int .i64 v] Zk (λw _=>w=.bool (m.p.k5 v)):=by
 refine Zo 0 37 [.tmp 4] Tryz.func87 λX=>?_;rw[PM.k5];have ho:=hm.incR v;have hl:=inc_len m v;refine Z ?_;intro g2;refine AW.weak (Zx (λo=>o==2) (l:=[(1,.int .i64 v),(2,.view .new (ckV b c d e m ns vs))]) (m:=[]) ?_ trivial) ?_;refine Zs ?_;exact⟨Fz.same _,Fz.ptr (v:=ckV b c d e m ns vs) (c:=.new) (fz:=0) zp zp⟩;refine Z ?_;refine Zc hG ?_ (s:=Z8h G hG b.ent c.ent d.ent e.ent m ns vs hw v);generalize m.p.inc v=inc at ho hl;refine Z ?_;intro g11;refine Zs ?_;refine Zha hG [ckV b.ent c.ent d.ent e.ent m ns vs,.int .i64 v,Za .old 1 (V.int .u8) (.mk false [7])] zk ⟨Zka (Zcp _ _ _ _ _ _ _) zp,Zka (.int _ _) rfl,Rd.u8 (l:=[7]) zp rfl,trivial⟩ ?_;refine(Z5a G hG _ _ _ _ .old m ns vs v h0 h1 (.mk false [7]) zd).mono ?_;rintro _ _ rfl;refine⟨.bool _,?_⟩;rw[Zve];cases q:(m.p.kd v==7);exact Zh q;refine Zg q ?_;refine Zc hG ?_ (s:=Z8d G hG b.ent c.ent d.ent e.ent m ns vs hw v);have e1:(((m.p.out v).length:Int)==1)=((m.p.out v).length==1):=eqN _ 1;cases q1:((m.p.out v).length==1);rw[q1]at e1;exact Zh (zi e1 (@Zl Int (m.p.out v)));rw[q1]at e1;have e2:decide ((inc.length:Int)>1)=decide (1<inc.length):=gtN _ 1;cases q2:decide (1<inc.length);rw[q2]at e2;exact Zh (zi e1 (zi e2 (zi (@Zl Int (m.p.out v)) (@Zl Int inc))));rw[q2]at e2;refine Zg (zi e1 (zi e2 (zi (@Zl Int (m.p.out v)) (@Zl Int inc)))) ?_;have hc:=Zn8 G hG .old .old b.ent c.ent d.ent e.ent m ns vs (Zt inc) (by rw[Zl];omega) (by rw[Zl];exact ho);rw[Zl]at hc;refine Zc hG ?_ (s:=hc)
 have ha:(inc.all λu=>m.p.kd u==1) = !(inc.any λu => !(m.p.kd u==1)):=by
  rw[List.all_eq_not_any_not]
 rw[ha];cases q3:(inc.any λu => !(m.p.kd u==1));rotate_left;exact Zh q3;refine Zg q3 ?_;have hp:=Z0i G hG b.ent c.ent d.ent e.ent .old m ns vs hm (Zt inc) (by rw[Zl];exact Zoz q2) (by rw[Zl];omega) (by rw[Zl];exact ho);rw[Zl]at hp;refine Zc hG ?_ (s:=hp);exact Zr
theorem Zeaa(k j i x:Int):(Sl.mk false [k,j,i]).l.contains x=(x==k||x==j||x==i):=by
 show[k,j,i].contains x=_
 rw[List.contains_cons,List.contains_cons,List.contains_cons,List.contains_nil,Bool.or_false,Bool.or_assoc]
def Zoa(names:List (List UInt8))(s:List UInt8):Int:=(Zol s names).2.2
theorem Zfba(G:Nat->V)(hE:GExp G)(b c d e:Col)(m:MdM)(ns vs:Sl (List UInt8))(hm:m.p.Rt)(hns:ns.l=m.p.vn++[Zfk])(hnl:ns.l.length<1000000)(t:Int)(h0:0<=t)(h1:t<m.p.ways.length)(hgl:(m.p.wy t).guard.length<100000):
  Spec Tryz.prog G 92 [ckV b c d e m ns vs,.int .i64 t] Zk (λw _=>w=.bool (m.p.k10 Zoa t)):=by
 have hG:=hE.ok;refine Zo 0 62 [.tmp 4] Tryz.func92 λX=>?_;obtain⟨k,x,rfl,hk,hg,hxe⟩:=Zbf h0 h1;obtain⟨⟨s0,s1⟩,t0,t1⟩:=hm.wayAt x.p (List.mem_of_getElem? (i:=k) (by show(m.ways.l.map TrM.p)[k]?=_;rw[List.getElem?_map,hg]<;>rfl));rw[hxe]at hgl;have hgl:x.guard.length<100000:=hgl;rw[PM.k10,hxe,Zoa,<- hns]
 have hp:(((m.p.kd x.p.source==4||m.p.kd x.p.source==5)&&Z4h x.p.guard)||((Zol x.p.guard ns.l).2.2==0&&((Zja x.p.guard).1.length==0||m.p.kd x.p.source==1||m.p.kd x.p.source==4||m.p.kd x.p.source==5))) =
  (((m.p.kd x.source==4||m.p.kd x.source==5)&&Z4h x.guard)||((Zol x.guard ns.l).2.2==0&&((Zja x.guard).1.length==0||m.p.kd x.source==1||m.p.kd x.source==4||m.p.kd x.source==5))):=rfl
 rw[hp];refine Z1 ?_;refine Z1f (zi hg (zi hk (zi Z6 (zi Z8a (zi @Int.natCast_nonneg @Int.ofNat_lt))))) ?_;intro g5;refine AW.weak (Zx (λo=>o==5) (l:=[(0,ckV b c d e m ns vs),(5,.view .new (Z6a d x))]) (m:=[]) ?_ trivial) ?_;refine Zsf @Z8a ?_;exact⟨Fz.same _,Fz.ptr (v:=Z6a d x) (c:=.new) (fz:=0) zp zp⟩;refine Zjb (fun(_:Unit)=>st [(0,ckV b c d e m ns vs),(5,.view .new (Z6a d x))] []) (λ_=>((m.p.kd x.source==4||m.p.kd x.source==5)&&Z4h x.guard)=false) (λK1 hK1=>?_) ?_;refine Zf Z6 ?_;intro g23;refine Zs ?_;refine Zha hG [ckV b.ent c.ent d.ent e.ent m ns vs,.int .i64 x.source,Za .old 1 (V.int .u8) (.mk false [4,5])] zk ⟨Zka (Zcp _ _ _ _ _ _ _) zp,Zka (.int _ _) rfl,Rd.u8 (l:=[4,5]) zp rfl,trivial⟩ ?_;refine(Z5a G hG _ _ _ _ .old m ns vs x.source s0 s1 (.mk false [4,5]) zd).mono ?_;rintro _ _ rfl;refine⟨.bool _,?_⟩;rw[Zzy];cases q:(m.p.kd x.source==4||m.p.kd x.source==5);refine Zg q ?_;exact hK1 _ () (by rw[q]<;>rfl) (Zb (zpf @Z6) zp);refine Zg (zi q Z6) ?_;refine Zc hG ?_ (s:=Z9m G hE x.guard hgl);cases q1:Z4h x.guard;refine Zg q1 ?_;exact hK1 _ () (by rw[q1,Bool.and_false]) (Zb (zpf @Z6) zp);exact Zh q1;intro _ hz;rw[hz,Bool.false_or];have hgs:=λc1=>Ziu G hE c1 x.guard ns hgl hnl;generalize Zol x.guard ns.l=p at hgs⊢;have hgs':∀ c1,Spec Tryz.prog G 171 [.str x.guard,Za c1 1 V.str ns] Zk (λv _=>v=.tuple [.agg [Za .new 6 Zxa (Zt p.1)],.int .i64 p.2.1,.int .i64 p.2.2]):=hgs;refine Z8 ?_;refine Zv ⟨λi=>if i=6 then .tuple [.agg [Za .new 6 Zxa (Zt p.1)],.int .i64 p.2.1,.int .i64 p.2.2]else .top,λ_=>.pure⟩ zk hG zk zk ?_;refine Zsf (zi @Z6 @Z8a) ?_;refine⟨⟨by kernel_rfl,by refine Zs ?_;exact(hgs' _).mono (by rintro _ _ rfl;exact zm)⟩,?_⟩;intro g6;have hT:=Zdd G hE x.guard hgl;generalize Zja x.guard=T at hT⊢;obtain⟨l,a,q⟩:=T;refine Zf Z6 ?_;refine Zn hG ?_ (s:=hT);simp only[encTok,encTks];refine Zs ?_;have e1:((l.length:Int)==0)=(l.length==0):=eqN _ 0;cases q0:(p.2.2==0)
 exact Zh q0;cases q1:(l.length==0);rotate_left;rw[q1]at e1;exact Zh (zi q0 (zi e1 (@Zl Tk l)));rw[q1]at e1;refine Zg (zi q0 (zi e1 (zi (@Zl Tk l) Z6))) ?_;intro g58;refine Zs ?_;refine Zha hG [ckV b.ent c.ent d.ent e.ent m ns vs,.int .i64 x.source,Za .old 1 (V.int .u8) (.mk false [1,4,5])] zk ⟨Zka (Zcp _ _ _ _ _ _ _) zp,Zka (.int _ _) rfl,Rd.u8 (l:=[1,4,5]) zp rfl,trivial⟩ ?_;refine(Z5a G hG _ _ _ _ .old m ns vs x.source s0 s1 (.mk false [1,4,5]) zd).mono ?_;rintro _ _ rfl;refine⟨.bool _,?_⟩;rw[Zeaa];refine Zs ?_;refine Z ?_;rw[Bool.true_and,Bool.false_or]
theorem r2_spec(G:Nat->V)(hG:GOk G)(b c d e:Col)(m:MdM)(ns vs:Sl (List UInt8))(hm:m.p.Rt)(hw:m.ways.l.length<1000000)(v:Int)(h0:0<=v)(h1:v<m.p.vertices.length):
  Spec Tryz.prog G 84 [ckV b c d e m ns vs,.int .i64 v] Zk (λw _=>w=.bool (m.p.k2 v)):=by
 refine Zo 0 42 [.tmp 4] Tryz.func84 λX=>?_;rw[PM.k2];have ho:=hm.outR v;have hl:=Zoo m v;refine Z ?_;refine Zc hG ?_ (s:=Z8d G hG _ _ _ _ m ns vs hw v);generalize m.p.out v=out at ho hl;obtain⟨k,x,rfl,hk,hg,hx⟩:=MdM.at h0 h1;rw[hx];have hxr:x.p.region=x.region:=rfl;rw[hxr];refine Z0 ?_;refine Z8 ?_;cases q:(m.p.kd k==3);refine Zv ⟨λi=>if i=3 then .bool false else .top,λi=>if i=3 then .lend else .pure⟩ zk hG zk zk ?_;refine Zsf @Z8a ?_;intro g11;refine⟨BorC.of [ckV b.ent c.ent d.ent e.ent m ns vs,.int .i64 k,Za .old 1 (V.int .u8) (.mk false [3])] zk ⟨Zka (Zcp b c d e m ns vs) (Zof _ _ _ _ _ _ _ _),Zka (.int _ _) rfl,Rd.u8 (l:=[3]) zp rfl,trivial⟩ ((Z5a G hG _ _ _ _ .old m ns vs k h0 h1 (.mk false [3]) zd).mono ?_),?_⟩;rintro _ _ rfl;exact⟨.bool _,by rw[Zve,q]⟩;exact Zr;cases q1:(out.length==1);have e1:((out.length:Int)==1)=false:=(eqN _ 1).trans q1;refine Zv ⟨λi=>if i=3 then .bool true else .top,λi=>if i=3 then .lend else .pure⟩ zk hG zk zk ?_;refine Zsf (zi @Z8a (zi @Zl e1)) ?_;intro g11;refine⟨BorC.of [ckV b.ent c.ent d.ent e.ent m ns vs,.int .i64 k,Za .old 1 (V.int .u8) (.mk false [3])] zk ⟨Zka (Zcp b c d e m ns vs) (Zof _ _ _ _ _ _ _ _),Zka (.int _ _) rfl,Rd.u8 (l:=[3]) zp rfl,trivial⟩ ((Z5a G hG _ _ _ _ .old m ns vs k h0 h1 (.mk false [3]) zd).mono ?_),?_⟩;rintro _ _ rfl;exact⟨.bool _,by rw[Zve,q]⟩;exact Zr;obtain⟨w,rfl⟩:∃ w,out=[w]:=List.length_eq_one_iff.1 (zu q1);obtain⟨w0,w1⟩:=ho w (List.mem_singleton.2 rfl);have hsp:=λb c d e=>Zmj G hG b c d e m ns vs hm w x.region w0 w1;have hhd:[w].headD 0=w:=rfl;have hgw:Zt [w]=.mk false [w]:=rfl;rw[hhd];cases q2:m.p.withinB w x.region
 rw[q2]at hsp;refine Zv ⟨λi=>if i=3 then .bool true else if i=23 then .bool false else .top,λi=>if i=3 then .lend else .pure⟩ zk hG zk zk ?_;refine Zsf (zi @Z8a (zi hgw (zi hg (zi hk (zi @Zm (zi @Int.natCast_nonneg @Int.ofNat_lt)))))) ?_;intro g11;refine⟨BorC.of [ckV b.ent c.ent d.ent e.ent m ns vs,.int .i64 k,Za .old 1 (V.int .u8) (.mk false [3])] zk ⟨Zka (Zcp b c d e m ns vs) (Zof _ _ _ _ _ _ _ _),Zka (.int _ _) rfl,Rd.u8 (l:=[3]) zp rfl,trivial⟩ ((Z5a G hG _ _ _ _ .old m ns vs k h0 h1 (.mk false [3]) zd).mono ?_),⟨by kernel_rfl,by refine Zs ?_;exact(hsp _ _ _ _).mono (by rintro _ _ rfl;rfl)⟩,?_⟩;rintro _ _ rfl;exact⟨.bool _,by rw[Zve,q]⟩;exact Zr;rw[q2]at hsp;have hin:=λb c d e=>Z8h G hG b c d e m ns vs hw k;generalize m.p.inc k=inc at hin⊢;have e3:((inc.length:Int)==0)=(inc.length==0):=eqN _ 0;refine Zv ⟨λi=>if i=3 then .bool true else if i=23 then .bool true else if i=28 then Za .new 1 (V.int .i64) (Zt inc)else .top,λi=>if i=3 then .lend else .pure⟩ zk hG zk zk ?_;refine Zsf (zi @Z8a (zi hgw (zi @Zl (zi hg (zi hk (zi @Zm (zi @Int.natCast_nonneg @Int.ofNat_lt))))))) ?_;intro g11;refine⟨BorC.of [ckV b.ent c.ent d.ent e.ent m ns vs,.int .i64 k,Za .old 1 (V.int .u8) (.mk false [3])] zk ⟨Zka (Zcp b c d e m ns vs) (Zof _ _ _ _ _ _ _ _),Zka (.int _ _) rfl,Rd.u8 (l:=[3]) zp rfl,trivial⟩ ((Z5a G hG _ _ _ _ .old m ns vs k h0 h1 (.mk false [3]) zd).mono ?_),⟨by kernel_rfl,by refine Zs ?_;exact(hsp _ _ _ _).mono (by rintro _ _ rfl;rfl)⟩,⟨by kernel_rfl,by refine Zs ?_;exact(hin _ _ _ _).mono (by rintro _ _ rfl;exact zm)⟩,?_⟩
 rintro _ _ rfl;exact⟨.bool _,by rw[Zve,q]⟩;refine Z ?_
 first|rfl|(rw[e3]<;>rfl)
theorem r8_spec(G:Nat->V)(hG:GOk G)(b c d e:Col)(m:MdM)(ns vs:Sl (List UInt8))(hm:m.p.Rt)(hw:m.ways.l.length<1000000)(v:Int)(h0:0<=v)(h1:v<m.p.vertices.length):
  Spec Tryz.prog G 90 [ckV b c d e m ns vs,.int .i64 v] Zk (λw _=>w=.bool (m.p.k8 v)):=by
 refine Zo 0 67 [.tmp 4] Tryz.func90 λX=>?_;rw[PM.k8];have ho:=hm.outR v;have hl:=Zoo m v;have hsp0:=λb c d e=>Z8d G hG b c d e m ns vs hw v;have hpt:=hm.toRt5.pt h0 h1;generalize m.p.out v=out at ho hl hsp0;obtain⟨k,x,rfl,hk,hg,hx⟩:=MdM.at h0 h1;rw[PM.kd,hx];rw[hx]at hpt;refine Z1 ?_;refine Z0 ?_;refine Z8 ?_;refine Zv ⟨λi=>if i=10 then Za .new 1 (V.int .i64) (Zt out)else .top,λ_=>.pure⟩ zk hG zk zk ?_;refine Zsf (zi @Z8a (zi hg (zi hk (zi @Zm (zi @Int.natCast_nonneg @Int.ofNat_lt))))) ?_;refine⟨⟨by kernel_rfl,by refine Zs ?_;exact(hsp0 _ _ _ _).mono (by rintro _ _ rfl;exact zm)⟩,?_⟩;intro g5;refine AW.weak (Zx (λo=>o==5) (l:=[(0,ckV b c d e m ns vs),(5,.view .new (Zra d x)),(6,Za .new 1 (V.int .i64) (Zt out))]) (m:=[]) ?_ trivial) ?_;refine Zsf @Z8a ?_;exact⟨Fz.same _,Fz.ptr (v:=Zra d x) (c:=.new) (fz:=0) zp zp,Fz.same _⟩
 have hp:(if x.p.kind=11 then out.length==1 && !m.p.inB (out.headD 0) x.p.of else if x.p.kind=10 then Zyi [] (out.map (m.p.regU · x.p.of))&&decide (0<out.length)else true) =
  (if x.kind=11 then out.length==1 && !m.p.inB (out.headD 0) x.of else if x.kind=10 then Zyi [] (out.map (m.p.regU · x.of))&&decide (0<out.length)else true):=rfl
 rw[hp]
 by_cases hk11:x.kind=11
 rw[if_pos hk11];have q:(x.kind==11)=true:=zu hk11;refine Z1f Zm ?_;refine Z1f q ?_;refine Z0f q ?_;refine Z8 ?_;cases q1:(out.length==1);have e1:((out.length:Int)==1)=false:=(eqN _ 1).trans q1;refine ZTf (zi @Zl e1) hG ?_;exact Zr;obtain⟨w,rfl⟩:∃ w,out=[w]:=List.length_eq_one_iff.1 (zu q1);obtain⟨w0,w1⟩:=ho w (List.mem_singleton.2 rfl);have hsp:=λb c d e=>Z9h G hG b c d e m ns vs hm w x.of w0 w1;have hhd:[w].headD 0=w:=rfl;have hgw:Zt [w]=.mk false [w]:=rfl;rw[hhd];generalize m.p.inB w x.of=bb at hsp⊢;cases bb;refine Zv ⟨λi=>if i=10 then .bool false else .top,λ_=>.pure⟩ zk hG zk zk ?_;refine Zsf (zi hgw @Zm) ?_;refine⟨⟨by kernel_rfl,by refine Zs ?_;exact(hsp _ _ _ _).mono (by rintro _ _ rfl;rfl)⟩,?_⟩;exact Zr;refine Zv ⟨λi=>if i=10 then .bool true else .top,λ_=>.pure⟩ zk hG zk zk ?_;refine Zsf (zi hgw @Zm) ?_;refine⟨⟨by kernel_rfl,by refine Zs ?_;exact(hsp _ _ _ _).mono (by rintro _ _ rfl;rfl)⟩,?_⟩;exact Zr;rw[if_neg hk11];have q:(x.kind==11)=false:=zu hk11
 by_cases hk10:x.kind=10
 rotate_left;rw[if_neg hk10];have q1:(x.kind==10)=false:=zu hk10;exact Zq (zi q (zi q1 Zm));rw[if_pos hk10];have q1:(x.kind==10)=true:=zu hk10
 have hof:0<=x.of:=by
  rcases hpt with h|h
  exact h.1;exact absurd (.inl hk10) h.2.2.2
 refine Zf (zi q (zi q1 Zm)) ?_
 refine Zfa out.length (λj (g:Nat)=>st [(0,ckV b c d e m ns vs),(5,.view .new (Zra d x)),(6,Za .new 1 (V.int .i64) (Zt out)),(7,grown 62 g 1 ((out.take j).map (m.p.regU · x.of))),(41,Za .new 1 (V.int .i64) (Zt out)),(42,.int .i64 out.length),(43,.int .i64 j)] [(62,Ztb g (V.int .i64) ((out.take j).map (m.p.regU · x.of)))])
  (λj _=>Zyi [] (out.map (m.p.regU · x.of))=Zyi ((out.take j).map (m.p.regU · x.of)) ((out.drop j).map (m.p.regU · x.of))) 0 0 (Nat.zero_le _) rfl (Zb (zpf (zi @Zm (@Zl Int out))) zp) ?_
 intro j g hj hR L3 hL3
 by_cases hj1:j<out.length
 .have hlt:decide ((j:Int)<(out.length:Int))=true:=zT
  have hgj:=List.getElem?_eq_getElem hj1
  have htk:out.take (j+1)=out.take j++[out[j]]:=by rw[List.take_succ_eq_append_getElem hj1]
  have hdr:out.drop j=out[j]::out.drop (j+1):=List.drop_eq_getElem_cons hj1;obtain⟨y0,y1⟩:=ho out[j] (List.getElem_mem hj1)
  have hal:((out.take j).map (m.p.regU · x.of)).length<=j:=by rw[List.length_map,List.length_take];omega
  generalize out[j]=y at hgj htk hdr y0 y1;have w2:IntKind.i64.wrap ((j:Int)+1)=(j:Int)+1:=w64 zo zo;rw[hdr,List.map_cons,Zyi]at hR;rw[htk,List.map_append,List.map_cons,List.map_nil]at hL3;generalize(out.take j).map (m.p.regU · x.of)=acc at hal hR hL3
  have hgj':(Zt out).l[j]?=some y:=by rw[Zl];exact hgj
  refine Zf (zi hlt (zi hgj (zi hgj' (zi hj1 (zi (@Zl Int out) (zi Zm (zi @Int.natCast_nonneg @Int.ofNat_lt))))))) ?_;refine Zc hG ?_ (s:=Znj G hG b.ent c.ent d.ent e.ent m ns vs hm y x.of y0 y1 hof);generalize m.p.regU y x.of=r at hR hL3
  by_cases hr0:0<=r
  rotate_left;have q2:decide (r<0)=true:=zT;rw[hR,decide_eq_false hr0];exact Zh q2;have q2:decide (r<0)=false:=zF;rw[decide_eq_true hr0,Bool.true_and]at hR;refine Zg q2 ?_;refine Zha hG [Za .old 1 (V.int .i64) (Zt acc),.int .i64 r] zk ⟨Zpp zp (λ_=>rfl) inIm (λ_=>rfl),Zka (.int _ _) rfl,trivial⟩ ?_;refine(Zcr G hG .old r (Zt acc) (by rw[Zl];omega)).mono ?_;rintro _ _ rfl;rw[Zl];refine⟨.bool _,?_⟩;cases hc:acc.contains r;rotate_left;rw[hc]at hR;rw[hR];exact Zh hc;rw[hc,Bool.not_false,Bool.true_and]at hR;refine Zs ?_;refine Z ?_;intro g61;refine Zvb (f:=V.int .i64) (l:=acc) (l2:=[r]) (g:=g) (λ_=>rfl) rfl rfl rfl zp (Zca zo zO) λg2=>?_;refine Zs ?_;refine Zf w2 ?_;exact hL3 _ ⟨hj1,g2,hR,Zb (zpf @Zm) zp⟩
 have hje:j=out.length:=zo;subst hje;rw[List.drop_length]at hR;have hlt:decide ((out.length:Int)<(out.length:Int))=false:=zS;rw[hR];have e3:decide ((out.length:Int)>0)=decide (0<out.length):=gtN _ 0;refine Zf (zi hlt (zi (@Zl Int out) e3)) ?_;rfl
theorem r7_spec(G:Nat->V)(hG:GOk G)(b c d e:Col)(m:MdM)(ns vs:Sl (List UInt8))(hm:m.p.Rt)(hw:m.ways.l.length<1000000)(hvl:m.verts.l.length<1000000)(v:Int)(h0:0<=v)(h1:v<m.p.vertices.length):
  Spec Tryz.prog G 89 [ckV b c d e m ns vs,.int .i64 v] Zk (λw _=>w=.bool (m.p.k7 v)):=by
 refine Zo 0 77 [.tmp 4] Tryz.func89 λX=>?_;have ho:=hm.outR v;have hl:=Zoo m v;have hsp0:=λb c d e=>Z8d G hG b c d e m ns vs hw v;rw[PM.k7];refine Z ?_;intro g12;refine Zs ?_;refine Zha hG [ckV b.ent c.ent d.ent e.ent m ns vs,.int .i64 v,Za .old 1 (V.int .u8) (.mk false [8,9])] zk ⟨Zka (Zcp _ _ _ _ _ _ _) zp,Zka (.int _ _) rfl,Rd.u8 (l:=[8,9]) zp rfl,trivial⟩ ?_;refine(Z5a G hG _ _ _ _ .old m ns vs v h0 h1 (.mk false [8,9]) zd).mono ?_;rintro _ _ rfl;refine⟨.bool _,?_⟩;rw[Zzy];cases q:(m.p.kd v==8||m.p.kd v==9);exact Zh q;generalize m.p.out v=out at ho hl hsp0;obtain⟨k,x,rfl,hk,hg,hx⟩:=MdM.at h0 h1
 have hP:m.p.twins k=(m.verts.l.filter λy=>y.kind==x.kind&&y.region==x.region).length:=by
  rw[PM.twins,PM.kd,hx]
  show((m.verts.l.map VtM.p).filter _).length=_
  rw[List.filter_map,List.length_map]<;>rfl
 rw[hP,hx];have hxr:x.p.region=x.region:=rfl;rw[hxr];refine Zsf q ?_;refine Z0f q ?_;refine Z8 ?_;refine Zv ⟨λi=>if i=10 then Za .new 1 (V.int .i64) (Zt out)else .top,λ_=>.pure⟩ zk hG zk zk ?_;refine Zsf (zi @Z8a (zi hg (zi hk (zi @Zm (zi @Int.natCast_nonneg @Int.ofNat_lt))))) ?_;refine⟨⟨by kernel_rfl,by refine Zs ?_;exact(hsp0 _ _ _ _).mono (by rintro _ _ rfl;exact zm)⟩,?_⟩;intro g5;refine AW.weak (Zx (λo=>o==5) (l:=[(0,ckV b c d e m ns vs),(5,.view .new (Zra d x)),(6,Za .new 1 (V.int .i64) (Zt out))]) (m:=[]) ?_ trivial) ?_;refine Zsf @Z8a ?_;exact⟨Fz.same _,Fz.ptr (v:=Zra d x) (c:=.new) (fz:=0) zp zp,Fz.same _⟩;refine Zf Z8a ?_
 refine Zfa m.verts.l.length (λj (_:Unit)=>st [(0,ckV b c d e m ns vs),(5,.view .new (Zra d x)),(6,Za .new 1 (V.int .i64) (Zt out)),(7,.int .i64 ((m.verts.l.take j).filter λy=>y.kind==x.kind&&y.region==x.region).length),(30,Za c 8 (Zra d) m.verts),(31,.int .i64 m.verts.l.length),(32,.int .i64 j)] [])
  (λ_ _=>True) 0 () (Nat.zero_le _) trivial (Zb (zpf (zi @Z8a @Zm)) zp) ?_
 intro j _ hj _ L3 hL3
 by_cases hj1:j<m.verts.l.length
 have hlt:decide ((j:Int)<(m.verts.l.length:Int))=true:=zT;have hgj:=List.getElem?_eq_getElem hj1
 have htk:m.verts.l.take (j+1)=m.verts.l.take j++[m.verts.l[j]]:=by rw[List.take_succ_eq_append_getElem hj1]
 have hn:((m.verts.l.take j).filter λy=>y.kind==x.kind&&y.region==x.region).length<=j:=Nat.le_trans (List.length_filter_le _ _) (by rw[List.length_take];omega);generalize m.verts.l[j]=y at hgj htk;rw[htk,List.filter_append,List.length_append]at hL3;generalize((m.verts.l.take j).filter λy=>y.kind==x.kind&&y.region==x.region).length=n at hn hL3;have w1:IntKind.i64.wrap ((j:Int)+1)=(j:Int)+1:=w64 zo zo;have w2:IntKind.i64.wrap ((n:Int)+1)=(n:Int)+1:=w64 zo zo;refine Zf (zi hlt (zi hgj Zm)) ?_;intro g9;cases q1:(y.kind==x.kind);rw[List.filter_cons_of_neg (by simp[q1])]at hL3;simp only[List.filter_nil,List.length_nil,Nat.add_zero]at hL3;refine Zf (zi q1 (zi w1 Zm)) ?_;exact hL3 _ ⟨hj1,(),trivial,Zb (zpf @Zm) zp⟩;cases q2:(y.region==x.region);rw[List.filter_cons_of_neg (by simp[q2])]at hL3;simp only[List.filter_nil,List.length_nil,Nat.add_zero]at hL3;refine Zf (zi q1 (zi q2 (zi w1 Zm))) ?_;exact hL3 _ ⟨hj1,(),trivial,Zb (zpf @Zm) zp⟩;rw[List.filter_cons_of_pos (by simp[q1,q2])]at hL3;simp only[List.filter_nil,List.length_cons,List.length_nil,Nat.zero_add]at hL3;refine Zf (zi q1 (zi q2 (zi w1 (zi w2 Zm)))) ?_;exact hL3 _ ⟨hj1,(),trivial,Zb (by simp -implicitDefEqProofs only[go_sem,seval,Zm];exact⟨rfl,rfl⟩) zp⟩;have hje:j=m.verts.l.length:=zo;subst hje;rw[List.take_length];have hlt:decide ((m.verts.l.length:Int)<(m.verts.l.length:Int))=false:=zS;generalize(m.verts.l.filter λy=>y.kind==x.kind&&y.region==x.region).length=n;refine Z1f hlt ?_;refine Z0f hlt ?_;refine Z8 ?_;have e1:((n:Int)==1)=(n==1):=eqN _ 1;have e2:decide ((out.length:Int)<=1)=decide (out.length<=1):=decide_eq_decide.2 zo;have e3:((out.length:Int)==0)=(out.length==0):=eqN _ 0;cases q1:(x.region==0);rotate_left
 have f1:(x.region != 0)=false:=by rw[bne,q1]<;>rfl
 refine Zv ⟨λi=>.top,λ_=>.pure⟩ zk hG zk zk ?_;refine Zsf (zi @Zm (zi @Zl f1)) ?_;exact Zr
 have f1:(x.region != 0)=true:=by rw[bne,q1]<;>rfl
 cases q2:(n==1);rw[q2]at e1;refine Zv ⟨λi=>.top,λ_=>.pure⟩ zk hG zk zk ?_;refine Zsf (zi @Zm (zi @Zl (zi f1 e1))) ?_;exact Zr;rw[q2]at e1;cases q3:decide (out.length<=1);rw[q3]at e2;refine Zv ⟨λi=>.top,λ_=>.pure⟩ zk hG zk zk ?_;refine Zsf (zi @Zm (zi @Zl (zi f1 (zi e1 e2)))) ?_;exact Zr;rw[q3]at e2;cases q4:(out.length==0);rotate_left;rw[q4]at e3;refine Zv ⟨λi=>.top,λ_=>.pure⟩ zk hG zk zk ?_;refine Zsf (zi @Zm (zi @Zl (zi f1 (zi e1 (zi e2 e3))))) ?_;exact Zr;rw[q4]at e3;have hle:out.length<=1:=zu q3;have hne:¬ out.length=0:=zu q4;obtain⟨w,rfl⟩:∃ w,out=[w]:=List.length_eq_one_iff.1 zo;obtain⟨w0,w1⟩:=ho w (List.mem_singleton.2 rfl);have hsp:=λb c d e=>Zmj G hG b c d e m ns vs hm w x.region w0 w1;have hhd:[w].headD 0=w:=rfl;have hgw:Zt [w]=.mk false [w]:=rfl;rw[hhd];generalize m.p.withinB w x.region=bb at hsp⊢;cases bb;refine Zv ⟨λi=>if i=23 then .bool false else .top,λ_=>.pure⟩ zk hG zk zk ?_;refine Zsf (zi @Zm (zi @Zl (zi f1 (zi e1 hgw)))) ?_;refine⟨⟨by kernel_rfl,by refine Zs ?_;exact(hsp _ _ _ _).mono (by rintro _ _ rfl;rfl)⟩,?_⟩;exact Zr;refine Zv ⟨λi=>if i=23 then .bool true else .top,λ_=>.pure⟩ zk hG zk zk ?_;refine Zsf (zi @Zm (zi @Zl (zi f1 (zi e1 hgw)))) ?_;refine⟨⟨by kernel_rfl,by refine Zs ?_;exact(hsp _ _ _ _).mono (by rintro _ _ rfl;rfl)⟩,?_⟩;exact Zr
theorem Zoj(G:Nat->V)(b c d e:Col)(m:MdM)(ns vs:Sl (List UInt8))(k:Nat):
  Spec Tryz.prog G 47 [ckV b c d e m ns vs,.int .i64 k] Zk (λw _=>w=.int .i64 (m.p.places k)):=by
 refine Zo 0 33 [.tmp 4] Tryz.func47 λX=>?_;rw[PM.places,m.nv,m.nw];have f := @Z8a
 by_cases h1:k=1
 rw[if_pos h1]
 have q:((k:Int)==1)=true:=by simp[h1]
 exact Zq (zi q f);rw[if_neg h1];have q:((k:Int)==1)=false:=(eqN k 1).trans (zu h1)
 by_cases h2:k<=8
 rw[if_pos (.inl h2)];have q2:decide ((k:Int)<=8)=true:=zT;exact Zq (zi q (zi q2 f));have q2:decide ((k:Int)<=8)=false:=zF
 by_cases h3:k=13
 rw[if_pos (.inr h3)]
 have q3:((k:Int)==13)=true:=by simp[h3]
 exact Zq (zi q (zi q2 (zi q3 f)));rw[if_neg (λh=>h.elim h2 h3)];have q3:((k:Int)==13)=false:=(eqN k 13).trans (zu h3);exact Zq (zi q (zi q2 (zi q3 f)))
theorem Zxq(G:Nat->V)(hG:GOk G)(c d:Col)(m:MdM)(hv:m.vars.l.length<=600):
  Spec Tryz.prog G 45 [Z3 c d m] Zk (λw _=>w=ckV .new c d .new m (.mk false (m.p.vn++[Zfk])) (Zt m.p.vn)):=by
 refine Zo 0 39 [.tmp 2] Tryz.func45 λX=>?_;have hvn:m.p.vn=m.vars.l.map (·.1):=rfl
 have hvl:m.p.vn.length<=600:=by rw[hvn,List.length_map];exact hv
 simp only[Zi];refine Z ?_;intro g1;refine Z ?_;intro g8;refine Z ?_
 refine Zfa m.vars.l.length (λk (g:Nat)=>st [(3,.ptr 8 g8 0),(10,Za c 2 Zaa m.vars),(11,.int .i64 m.vars.l.length),(12,.int .i64 k)]
   [(8,.cells .new g8 0 [.str m.name,Za c 2 Zaa m.vars,Za c 1 V.str m.events,Za c 2 Zaa m.regions,Za c 8 (Zra d) m.verts,Za c 8 (Z6a d) m.ways,.nils,grown 24 g 1 (m.p.vn.take k)]),(24,Ztb g V.str (m.p.vn.take k))])
  (λ_ _=>True) 0 0 (Nat.zero_le _) trivial (Zb zp (by refine Zs ?_;exact⟨rfl,rfl⟩)) ?_
 intro k g hk _ L3 hL3
 by_cases hk1:k<m.vars.l.length
 have hlt:decide ((k:Int)<(m.vars.l.length:Int))=true:=zT;have hg:=List.getElem?_eq_getElem hk1
 have hkv:k<m.p.vn.length:=by rw[hvn,List.length_map];exact hk1
 have htk:m.p.vn.take (k+1)=m.p.vn.take k++[(m.vars.l[k]).1]:=by rw[List.take_succ_eq_append_getElem hkv];simp[hvn]
 have hlk:(m.p.vn.take k).length=k:=by rw[List.length_take];omega
 generalize m.vars.l[k]=x at hg htk;have w1:IntKind.i64.wrap ((k:Int)+1)=(k:Int)+1:=w64 zo zo;rw[htk]at hL3;generalize m.p.vn.take k=acc at hlk hL3;refine Zf (zi hlt (zi hg Zmb)) ?_;intro g5;refine ZT hG ?_;intro g23;refine Zvb (f:=V.str) (l:=acc) (l2:=[x.1]) (g:=g) Zbc rfl rfl rfl zp (Zca zo zO) λg2=>?_;refine Zs ?_;refine Zf w1 ?_;exact hL3 _ ⟨hk1,g2,trivial,Zb zp zp⟩;have hke:k=m.vars.l.length:=zo;subst hke;rw[List.take_of_length_le (by rw[hvn,List.length_map];exact Nat.le_refl _)];have hlt:decide ((m.vars.l.length:Int)<(m.vars.l.length:Int))=false:=zS;generalize m.p.vn=vn at hvl⊢;refine AW.weak (Zx (λo=>o==24) (l:=[(3,.ptr 8 g8 0),(11,.int .i64 m.vars.l.length),(12,.int .i64 m.vars.l.length)]) (m:=[(8,.cells .new g8 0 [.str m.name,Za c 2 Zaa m.vars,Za c 1 V.str m.events,Za c 2 Zaa m.regions,Za c 8 (Zra d) m.verts,Za c 8 (Z6a d) m.ways,.nils,Za .new 1 V.str (Zt vn)])]) ?_ ?_) ?_;refine Zs ?_;exact⟨Fz.same _,Fz.same _⟩;simp only[Zp,Zy,and_true];exact FzO.of (c:=.new) (fz:=0) (cs:=[.str m.name,Za c 2 Zaa m.vars,Za c 1 V.str m.events,Za c 2 Zaa m.regions,Za c 8 (Zra d) m.verts,Za c 8 (Z6a d) m.ways,.nils,grown 24 g 1 vn]) rfl zp ⟨Fz.same _,Fz.same _,Fz.same _,Fz.same _,Fz.same _,Fz.same _,Fz.same _,Zpd rfl zp Zbc,trivial⟩;refine Zf hlt ?_;refine CallA.inl [(5005,.dead)] zk ?_ ?_;intro p hp;rw[List.mem_singleton]at hp;subst hp;exact zp;refine(Zzl G .new (Zt vn) (by rw[Zl];omega)).mono ?_;rintro _ H' (⟨hn,rfl,q⟩|⟨g5,rfl,q⟩)
 have hvn0:vn=[]:=by
  have:=congrArg Sl.l hn;rwa [Zl]at this
 subst hvn0;simp only[List.map_cons,List.map_nil,q];refine Zu ?_;intro g34;refine⟨Zca zo zo,λh=>absurd h zd,λ_ g35=>?_⟩;refine Zs ?_;refine AW.weak (Zx (λo=>o==35) (l:=[(3,.ptr 8 g8 0)]) (m:=[(8,.cells .new g8 0 [.str m.name,Za c 2 Zaa m.vars,Za c 1 V.str m.events,Za c 2 Zaa m.regions,Za c 8 (Zra d) m.verts,Za c 8 (Z6a d) m.ways,Za .new 1 V.str (.mk false [Zfk]),Za .new 1 V.str (Zt [])])]) ?_ ?_) ?_;refine Zs ?_;exact Fz.same _;simp only[Zp,Zy,and_true];exact FzO.of (c:=.new) (fz:=0) (cs:=[.str m.name,Za c 2 Zaa m.vars,Za c 1 V.str m.events,Za c 2 Zaa m.regions,Za c 8 (Zra d) m.verts,Za c 8 (Z6a d) m.ways,.msl 35 g35 0 ([Zfk]).length 1,Za .new 1 V.str (Zt [])]) rfl zp ⟨Fz.same _,Fz.same _,Fz.same _,Fz.same _,Fz.same _,Fz.same _,Zdf (f:=V.str) (l:=[Zfk]) (m:=1) (g:=g35) (fz:=0) (c:=.new) rfl zp Zbc,Fz.same _,trivial⟩;refine AW.weak (Zx (λo=>o==8) (l:=[(3,ckV .new c d .new m (.mk false [Zfk]) (Zt []))]) (m:=[]) ?_ trivial) ?_;refine Zs ?_;exact Fz.ptr (v:=Znv c d .new m (.mk false [Zfk]) (Zt [])) (c:=.new) (fz:=0) zp zp;exact Zr;simp only[List.map_cons,List.map_nil,q,Zl];refine Zu ?_;intro g34
 have hcells:List.take (vn.length*1) (flat (List.map V.str vn))++[V.str [97,114,103]]=flat ((vn++[Zfk]).map V.str):=by
  rw[List.take_of_length_le (by rw[Zwa Zbc];exact Nat.le_refl _),List.map_append,Z7e];rfl
 have e1:vn.length+1=(vn++[Zfk]).length:=by rw[List.length_append]<;>rfl
 refine⟨Zca zo zo,by rw[Zwa Zbc];exact Nat.le_refl _,Nat.zero_le _,λg35=>?_⟩;rw[hcells,e1];refine AW.weak (Zx (λo=>o==5005) (l:=[(3,.ptr 8 g8 0)]) (m:=[(8,.cells .new g8 0 [.str m.name,Za c 2 Zaa m.vars,Za c 1 V.str m.events,Za c 2 Zaa m.regions,Za c 8 (Zra d) m.verts,Za c 8 (Z6a d) m.ways,Za .new 1 V.str (.mk false (vn++[Zfk])),Za .new 1 V.str (Zt vn)])]) ?_ ?_) ?_;refine Zs ?_;exact Fz.same _;simp only[Zp,Zy,and_true];exact FzO.of (c:=.new) (fz:=0) (cs:=[.str m.name,Za c 2 Zaa m.vars,Za c 1 V.str m.events,Za c 2 Zaa m.regions,Za c 8 (Zra d) m.verts,Za c 8 (Z6a d) m.ways,.msl 5005 g35 0 ((vn++[Zfk])).length 1,Za .new 1 V.str (Zt vn)]) rfl zp ⟨Fz.same _,Fz.same _,Fz.same _,Fz.same _,Fz.same _,Fz.same _,Zdf (f:=V.str) (l:=(vn++[Zfk])) (m:=1) (g:=g35) (fz:=0) (c:=.new) rfl zp Zbc,Fz.same _,trivial⟩;refine AW.weak (Zx (λo=>o==8) (l:=[(3,ckV .new c d .new m (.mk false (vn++[Zfk])) (Zt vn))]) (m:=[]) ?_ trivial) ?_;refine Zs ?_;exact Fz.ptr (v:=Znv c d .new m (.mk false (vn++[Zfk])) (Zt vn)) (c:=.new) (fz:=0) zp zp;exact Zr
theorem isI(s:List UInt8):((isP s:Int)==2)=(isP s==2):=by rw[Bool.eq_iff_iff,beq_iff_eq,beq_iff_eq];omega
theorem Zb6(c d:Col)(m:MdM):[V.view .old (Z3 c.ent d.ent m)].map (V.recol Col.ent)=[V.view .old (Z3 c.ent d.ent m)]:=by
 simp only[List.map_cons,List.map_nil,V.recol,Zrh,Zsl];rfl
theorem Z37(G:Nat->V)(hE:GExp G)(c1 c d:Col)(m:MdM)(hl:m.vars.l.length<1000000)(i:Nat){x:List UInt8×Int}(hg:m.vars.l[i]?=some x)(hx:x.1.length<1000000000000000):
  Spec Tryz.prog G 144 [.int .i64 i,Zaa x,.view c1 (Z3 c d m)] Zk (λv _=>v=.bool (m.p.varB i)):=by
 have hG:=hE.ok;refine Zo 0 24 [.tmp 5] Tryz.func144 λX=>?_;have hi:i<m.vars.l.length:=(List.getElem?_eq_some_iff.1 hg).1
 have hn:m.p.nameAt i=x.1:=by
  show(m.vars.l.getD i ([],0)).1=x.1
  rw[List.getD_eq_getElem?_getD,hg]<;>rfl
 rw[PM.varB,hn];simp only[Zi,Zmb];refine Z ?_;intro g4;refine AW.weak (Zx (λo=>o==4) (l:=[(0,.int .i64 i),(2,.view c1 (Z3 c d m)),(4,.view .new (Zaa x))]) (m:=[]) ?_ trivial) ?_;refine Zsf @Zi ?_;exact⟨Fz.same _,Fz.same _,Fz.ptr (v:=Zaa x) (c:=.new) (fz:=0) zp zp⟩;simp only[Zi];refine Zf Zmb ?_;refine Zc hG ?_ (s:=Zfe G hE x.1 hx);have h0:=isI x.1
 cases h1:(isP x.1==2)with
 |false=>
  rw[h1]at h0;exact Zh h0
 |true=>
  rw[h1]at h0
  cases h2:(x.1==Zfk)with
  |true=>
   have q:(x.1==[97,114,103])=true:=h2;exact Zh (zi h0 (zi q Zmb))
  |false=>
   have q:(x.1==[97,114,103])=false:=h2;refine Zg (zi h0 (zi q (zi Zmb (zi (Nat.zero_le i) (Nat.le_of_lt hi))))) ?_;have hSp:=Zl8 G hG c.ent .old (m.vars.sub 0 i) (by rw[Zdn];simp;omega) x;rw[Zdn]at hSp;refine Zcf @Zmb hG ?_ (s:=hSp);exact Zr
theorem Z47(G:Nat->V)(hE:GExp G)(c1 c d:Col)(m:MdM)(hl:m.events.l.length<1000000)(i:Nat){x:List UInt8}(hg:m.events.l[i]?=some x)(hx:x.length<1000000000000000):
  Spec Tryz.prog G 148 [.int .i64 i,.str x,.view c1 (Z3 c d m)] Zk (λv _=>v=.bool (m.p.signalB i)):=by
 have hG:=hE.ok;refine Zo 0 18 [.tmp 5] Tryz.func148 λX=>?_;have hi:i<m.events.l.length:=(List.getElem?_eq_some_iff.1 hg).1
 have hn:m.p.events.getD i []=x:=by
  show m.events.l.getD i []=x
  rw[List.getD_eq_getElem?_getD,hg]<;>rfl
 rw[PM.signalB,hn];simp only[Zi];refine Z ?_;refine Zc hG ?_ (s:=Zfe G hE x hx);have h0:=isI x
 cases h1:(isP x==2)with
 |false=>
  rw[h1]at h0;exact Zh h0
 |true=>
  rw[h1]at h0;refine Zg (zi h0 (zi (Nat.zero_le i) (Nat.le_of_lt hi))) ?_;have hSp:=Zcc G hG c.ent x (m.events.sub 0 i) (by rw[Zdn];simp;omega);rw[Zdn]at hSp;refine Zc hG ?_ (s:=hSp);exact Zr
theorem Z57(G:Nat->V)(hE:GExp G)(c1 c d:Col)(m:MdM)(i:Nat){x:List UInt8×Int}(hg:m.regions.l[i]?=some x)(hx:x.1.length<1000000000000000):
  Spec Tryz.prog G 151 [.int .i64 i,Zaa x,.view c1 (Z3 c d m)] Zk (λv _=>v=.bool (m.p.regionB i)):=by
 have hG:=hE.ok;refine Zo 0 35 [.tmp 5] Tryz.func151 λX=>?_
 have hn:(m.p.regions.getD i ([],0))=x:=by
  show m.regions.l.getD i ([],0)=x
  rw[List.getD_eq_getElem?_getD,hg]<;>rfl
 have ho:m.p.ow (i:Int)=x.2:=Z4t hg;rw[PM.regionB,hn];simp only[Zi,Zmb];refine Z ?_;intro g4
 by_cases h:i=0
 .rw[if_pos h]
  rw[h]at ho;rw[show m.p.ow 0=x.2 from ho]
  have q:((i:Int)==0)=true:=by simp[h]
  refine Zf q ?_;refine Zc hG ?_ (s:=Z2c G hE x.1 hx)
  cases h1:Zzd x.1 with
  |false=>exact Zh h1
  |true=>exact Zh h1
 .rw[if_neg h,ho]
  have q:((i:Int)==0)=false:=by
   have:¬ (i:Int)=0:=zo;simpa using this
  refine Zf q ?_;refine Zc hG ?_ (s:=Z2c G hE x.1 hx)
  cases h1:Zzd x.1 with
  |false=>exact Zh h1
  |true=>
   refine Zg h1 ?_;refine Zc hG ?_ (s:=Z3g G c.ent d.ent m x.2)
   cases h2:m.p.stateB x.2 with
   |false=>exact Zh h2
   |true=>
    have h3:=h2;simp only[PM.stateB,Bool.and_eq_true,decide_eq_true_eq]at h3;obtain⟨k,y,hk0,hk,hkg,hy⟩:=MdM.at h3.1.1 h3.1.2;rw[hy];exact Zh (zi hk0 (zi hkg (zi hk (zi Zm (zi @Int.natCast_nonneg @Int.ofNat_lt)))))
theorem Z27(G:Nat->V)(hE:GExp G)(c1 c d e:Col)(m:MdM)(he:m.events.l.length<1000000)(i:Nat){x:VtM}(hg:m.verts.l[i]?=some x)(b1:x.name.length<1000000000000000)(b2:x.sub.length<1000000000000000)(b3:x.defers.l.length<1000000):
  Spec Tryz.prog G 155 [.int .i64 i,Zra e x,.view c1 (Z3 c d m)] Zk (λv _=>v=.bool (m.p.vertexB (m.p.vx i))):=by
 have hG:=hE.ok;refine Zo 0 75 [.tmp 5] Tryz.func155 λX=>?_;rw[Zdi hg]
 have hP:m.p.vertexB x.p=(Zzd x.name&&decide (1<=x.kind)&&decide (x.kind<=12)&&m.p.liesB x.p&&((x.entry==[]&&x.exit==[]&&decide (x.defers.l.length=0)&&x.sub==[])||x.kind==1)&&Zzd x.sub &&
  decide (x.entry.length<=4096)&&decide (x.exit.length<=4096)&&evB m.events.l x.defers.l):=rfl
 rw[hP];simp only[Zi,Zm];refine Z ?_;intro g4;refine AW.weak (Zx (λo=>o==4) (l:=[(2,.view c1 (Z3 c d m)),(4,.view .new (Zra e x))]) (m:=[]) ?_ trivial) ?_;refine Zsf @Zi ?_;exact⟨Fz.same _,Fz.ptr (v:=Zra e x) (c:=.new) (fz:=0) zp zp⟩;generalize hpl:(x.entry==[]&&x.exit==[]&&decide (x.defers.l.length=0)&&x.sub==[])=pl;refine Zjb (fun(_:Unit)=>st [(2,.view c1 (Z3 c d m)),(4,.view .new (Zra e x)),(6,.bool pl)] []) (λ_=>True) (λK1 hK1=>?_) ?_
 .have hz:(((x.defers.l.length:Nat):Int)==0)=decide (x.defers.l.length=0):=by
   rw[Bool.eq_iff_iff,beq_iff_eq,decide_eq_true_eq];omega
  cases q1:(x.entry==[])with
  |false=>
   rw[q1]at hpl;subst hpl;refine Zf (zi q1 Zm) ?_;exact hK1 _ () trivial (Zb (zpf (zi @Zm @Zi)) zp)
  |true=>
  cases q2:(x.exit==[])with
  |false=>
   rw[q1,q2]at hpl;subst hpl;refine Zf (zi q1 (zi q2 Zm)) ?_;exact hK1 _ () trivial (Zb (zpf (zi @Zm @Zi)) zp)
  |true=>
  cases q3:decide (x.defers.l.length=0)with
  |false=>
   rw[q3]at hz;rw[q1,q2,q3]at hpl;subst hpl;refine Zf (zi q1 (zi q2 (zi hz Zm))) ?_;exact hK1 _ () trivial (Zb (zpf (zi @Zm @Zi)) zp)
  |true=>
   rw[q3]at hz;rw[q1,q2,q3]at hpl;subst hpl;refine Zf (zi q1 (zi q2 (zi hz Zm))) ?_;exact hK1 _ () trivial (Zb (zpf (zi @Zm @Zi)) zp)
 intro _ _;refine Zf Zm ?_;refine Zc hG ?_ (s:=Z2c G hE x.name b1);cases q1:Zzd x.name;exact Zh q1
 by_cases q2:1<=x.kind
 rotate_left;have f2:decide (x.kind>=1)=false:=zF;rw[decide_eq_false q2];exact Zh f2;have f2:decide (x.kind>=1)=true:=zT;rw[decide_eq_true q2]
 by_cases q3:x.kind<=12
 rotate_left;have f3:decide (x.kind<=12)=false:=zF;rw[f3];exact Zh (zi f2 (zi f3 Zm));have f3:decide (x.kind<=12)=true:=zT;rw[f3];refine Zg (zi f2 (zi f3 (zi Zm Zi))) ?_;refine Zc hG ?_ (s:=Z21 G hG c.ent d.ent e.ent m x);cases q4:m.p.liesB x.p;exact Zh q4;cases pl;cases q5:(x.kind==1);exact Zh (zi q4 (zi q5 Zm));refine Zg (zi q4 (zi q5 (zi Zm Zi))) ?_;refine Zc hG ?_ (s:=Z2c G hE x.sub b2);cases q6:Zzd x.sub;exact Zh q6;have f7:decide (((x.entry.length:Nat):Int)<=4096)=decide (x.entry.length<=4096):=decide_eq_decide.2 zo;have f8:decide (((x.exit.length:Nat):Int)<=4096)=decide (x.exit.length<=4096):=decide_eq_decide.2 zo;cases q7:decide (x.entry.length<=4096);rw[q7]at f7;exact Zh (zi q6 (zi f7 Zm));rw[q7]at f7;cases q8:decide (x.exit.length<=4096);rw[q8]at f8;exact Zh (zi q6 (zi f7 (zi f8 Zm)));rw[q8]at f8;refine Zg (zi q6 (zi f7 (zi f8 (zi Zm Zi)))) ?_;refine Zc hG ?_ (s:=Zrf G hG c.ent d.ent e.ent m x.defers he b3);exact Zr;refine Zg (zi q4 (zi Zm Zi)) ?_;refine Zc hG ?_ (s:=Z2c G hE x.sub b2);cases q6:Zzd x.sub;exact Zh q6;have f7:decide (((x.entry.length:Nat):Int)<=4096)=decide (x.entry.length<=4096):=decide_eq_decide.2 zo;have f8:decide (((x.exit.length:Nat):Int)<=4096)=decide (x.exit.length<=4096):=decide_eq_decide.2 zo;cases q7:decide (x.entry.length<=4096);rw[q7]at f7;exact Zh (zi q6 (zi f7 Zm));rw[q7]at f7;cases q8:decide (x.exit.length<=4096);rw[q8]at f8;exact Zh (zi q6 (zi f7 (zi f8 Zm)))
 rw[q8]at f8;refine Zg (zi q6 (zi f7 (zi f8 (zi Zm Zi)))) ?_;refine Zc hG ?_ (s:=Zrf G hG c.ent d.ent e.ent m x.defers he b3);exact Zr
theorem Zl2(G:Nat->V)(hG:GOk G)(c1 c d e:Col)(m:MdM)(hm:m.p.Rt5)(i:Nat){x:VtM}(hg:m.verts.l[i]?=some x):
  Spec Tryz.prog G 158 [.int .i64 i,Zra e x,.view c1 (Z3 c d m)] Zk (λv _=>v=.bool (m.p.deepB i)):=by
 refine Zo 0 10 [.tmp 5] Tryz.func158 λX=>?_;have hi:i<m.verts.l.length:=(List.getElem?_eq_some_iff.1 hg).1;have hP:m.p.deepB i=decide (((m.p.depth i:Nat):Int)<=64):=decide_eq_decide.2 zo;rw[hP];simp only[Zi,Zm];refine Z ?_;intro g4;refine Z ?_;refine Zc hG ?_ (s:=Zbv G hG c.ent d.ent m hm i zo (by rw[m.nv];omega));exact Zr
theorem Zxz(G:Nat->V)(c1 c d:Col)(m:MdM)(v:Int):Spec Tryz.prog G 160 [.int .i64 v,.view c1 (Z3 c d m)] Zk (λw _=>w=.bool (m.p.inV v)):=by
 refine Zo 0 13 [.tmp 3] Tryz.func160 λX=>?_;rw[PM.inV,m.nv];simp only[Zi]
 by_cases h0:0<=v
 have q:decide (v>=0)=true:=zT;rw[decide_eq_true h0];exact Zq q;have q:decide (v>=0)=false:=zF;rw[decide_eq_false h0];exact Zq q
theorem Z17(G:Nat->V)(hE:GExp G)(c1 c2 c3 c d c' d' e:Col)(m:MdM)(he:m.events.l.length<1000000)(i:Nat){x:TrM}(hg:m.ways.l[i]?=some x)(b1:x.name.length<1000000000000000)(b3:x.triggers.l.length<1000000):
  Spec Tryz.prog G 162 [.int .i64 i,Z6a e x,.view c2 (.func (.func 160) [] [.view c3 (Z3 c' d' m)]),.view c1 (Z3 c d m)] Zk (λv _=>v=.bool (m.p.wayB (m.p.wy i))):=by
 have hG:=hE.ok;refine Zo 0 71 [.tmp 6] Tryz.func162 λX=>?_;rw[Zmm hg]
 have hP:m.p.wayB x.p=(Zzd x.name&&m.p.inV x.source&&m.p.inV x.target&&evB m.events.l x.triggers.l&&decide (0<=x.after)&&decide (x.after<=65535)&&(x.after==0||decide (x.triggers.l.length=0)) &&
  decide (1<=x.kind)&&decide (x.kind<=3)&&decide (x.guard.length<=4096)&&decide (x.effect.length<=4096)):=rfl
 rw[hP];simp only[Z6];refine Z ?_;intro g5;refine Zne zk ?_;simp -implicitDefEqProofs only[go_sem,seval,Z6,List.append_eq,List.cons_append,List.nil_append];refine Zc hG ?_ (s:=Z2c G hE x.name b1);cases q1:Zzd x.name;exact Zh q1;refine Zg q1 ?_;refine Zc hG ?_ (s:=Zxz G c3.ent c'.ent d'.ent m x.source);cases q2:m.p.inV x.source;exact Zh q2;refine Zg q2 ?_;refine Zc hG ?_ (s:=Zxz G c3.ent c'.ent d'.ent m x.target);cases q3:m.p.inV x.target;exact Zh q3;refine Zg (zi q3 Zi) ?_;refine Zc hG ?_ (s:=Zrf G hG c.ent d.ent e.ent m x.triggers he b3);cases q4:evB m.events.l x.triggers.l;exact Zh q4
 by_cases q5:0<=x.after
 rotate_left;have f5:decide (x.after>=0)=false:=zF;rw[decide_eq_false q5];exact Zh (zi q4 f5);have f5:decide (x.after>=0)=true:=zT;rw[decide_eq_true q5];cases q6:decide (x.after<=65535);exact Zh (zi q4 (zi f5 q6));have f:=zi q4 (zi f5 q6);cases q7:(x.after==0)
 have f8:(((x.triggers.l.length:Nat):Int)==0)=decide (x.triggers.l.length=0):=by
  rw[Bool.eq_iff_iff,beq_iff_eq,decide_eq_true_eq];omega
 cases q8:decide (x.triggers.l.length=0);rw[q8]at f8;exact Zh (zi f (zi q7 f8))
 .rw[q8]at f8
  by_cases q9:1<=x.kind
  rotate_left;have f9:decide (x.kind>=1)=false:=zF;rw[decide_eq_false q9];exact Zh (zi (zi f (zi q7 f8)) f9);have f9:decide (x.kind>=1)=true:=zT;rw[decide_eq_true q9];cases qa:decide (x.kind<=3);exact Zh (zi (zi f (zi q7 f8)) (zi f9 qa));have fb:decide (((x.guard.length:Nat):Int)<=4096)=decide (x.guard.length<=4096):=decide_eq_decide.2 zo;have fc:decide (((x.effect.length:Nat):Int)<=4096)=decide (x.effect.length<=4096):=decide_eq_decide.2 zo;cases qb:decide (x.guard.length<=4096);rw[qb]at fb;exact Zh (zi (zi f (zi q7 f8)) (zi f9 (zi qa fb)));rw[qb]at fb;exact Zh (zi (zi f (zi q7 f8)) (zi f9 (zi qa (zi fb fc))))
 .by_cases q9:1<=x.kind
  rotate_left;have f9:decide (x.kind>=1)=false:=zF;rw[decide_eq_false q9];exact Zh (zi (zi f q7) f9);have f9:decide (x.kind>=1)=true:=zT;rw[decide_eq_true q9];cases qa:decide (x.kind<=3);exact Zh (zi (zi f q7) (zi f9 qa));have fb:decide (((x.guard.length:Nat):Int)<=4096)=decide (x.guard.length<=4096):=decide_eq_decide.2 zo;have fc:decide (((x.effect.length:Nat):Int)<=4096)=decide (x.effect.length<=4096):=decide_eq_decide.2 zo;cases qb:decide (x.guard.length<=4096);rw[qb]at fb;exact Zh (zi (zi f q7) (zi f9 (zi qa fb)));rw[qb]at fb;exact Zh (zi (zi f q7) (zi f9 (zi qa (zi fb fc))))
theorem mdIm(b c d:Col)(m:MdM):(V.view b (Z3 c d m)).Im:=.view _ _ λy hy=>by
 simp only[Zi,V.cells,List.mem_cons,List.not_mem_nil,or_false]at hy
 rcases hy with rfl|rfl|rfl|rfl|rfl|rfl
 exact .str _;exact Zgd vrIm _;exact Zgd stIm _;exact Zgd vrIm _;exact Zgd (vtIm d) _;exact Zgd (trIm d) _
theorem Z11(G:Nat->V)(hE:GExp G)(c d:Col)(m:MdM)(hb:m.name.length<1000000000000000):Spec Tryz.prog G 76 [Z3 c d m] Zk (λv _=>v=Z7d (m.p.ruleF 0)):=by
 have hG:=hE.ok;refine Zo 0 9 [.cell 2 140] Tryz.func76 λX=>?_
 have hP:m.p.ruleF 0=if isP m.name=2 then(0,0,0)else(1,0,130):=rfl
 rw[hP];simp only[Zi];refine Z ?_;intro g1 g2;refine Z ?_;refine Zc hG ?_ (s:=Zfe G hE m.name hb)
 by_cases h:isP m.name=2
 rw[if_pos h]
 have h0:((isP m.name:Int) != 2)=false:=by simp[h]
 exact Zh h0;rw[if_neg h]
 have h0:((isP m.name:Int) != 2)=true:=by
  have:¬ (isP m.name:Int)=2:=zo;simpa using this
 exact Zh h0
theorem Z01(G:Nat->V)(hE:GExp G)(c d:Col)(m:MdM)(hb:MdB m):Spec Tryz.prog G 77 [Z3 c d m] Zk (λv _=>v=Z7d (m.p.ruleF 1)):=by
 have hG:=hE.ok;refine Zo 0 7 [.cell 2 140] Tryz.func77 λX=>?_;have hP:m.p.ruleF 1=Z0a 2 64 m.p.varB m.vars.l.length:=rfl;rw[hP];have hl:=hb.nv;simp only[Zi];refine Z ?_;intro g1 g2;refine AW.weak (Zx (λo=>o==1) (l:=[(1,.view .new (Z3 c d m)),(2,.ptr 2 g2 0)]) (m:=[(2,.cells .new g2 0 [.int .u8 0,.int .i64 0,.int .i64 0])]) ?_ ?_) ?_;refine Zs ?_;exact⟨Fz.ptr (v:=Z3 c d m) (c:=.new) (fz:=0) zp zp,Fz.same _⟩;simp only[Zp,Zy,and_true];exact FzO.keep rfl zp;refine Zf Zi ?_;refine Zn hG ?_ (s:=Zwp G hG c.ent 2 64 m.vars zo (f:=144) (cap:=[.view .old (Z3 c.ent d.ent m)]) (p:=m.p.varB) ⟨by kernel_rfl,Zb6 c d m,λi x hx=>Z37 G hE .old c.ent d.ent m zo i hx (hb.var x (List.mem_of_getElem? hx))⟩);generalize Z0a 2 64 m.p.varB m.vars.l.length=r;simp only[Z7d];refine Zs ?_;exact Zr
theorem Z26(G:Nat->V)(hE:GExp G)(c d:Col)(m:MdM)(hb:MdB m):Spec Tryz.prog G 78 [Z3 c d m] Zk (λv _=>v=Z7d (m.p.ruleF 2)):=by
 have hG:=hE.ok;refine Zo 0 7 [.cell 2 140] Tryz.func78 λX=>?_;have hP:m.p.ruleF 2=Z0a 3 64 m.p.signalB m.events.l.length:=rfl;rw[hP];have hl:=hb.ne;simp only[Zi];refine Z ?_;intro g1 g2;refine AW.weak (Zx (λo=>o==1) (l:=[(1,.view .new (Z3 c d m)),(2,.ptr 2 g2 0)]) (m:=[(2,.cells .new g2 0 [.int .u8 0,.int .i64 0,.int .i64 0])]) ?_ ?_) ?_;refine Zs ?_;exact⟨Fz.ptr (v:=Z3 c d m) (c:=.new) (fz:=0) zp zp,Fz.same _⟩;simp only[Zp,Zy,and_true];exact FzO.keep rfl zp;refine Zf Zi ?_;refine Zn hG ?_ (s:=Zyp G hG c.ent 3 64 m.events zo (f:=148) (cap:=[.view .old (Z3 c.ent d.ent m)]) (p:=m.p.signalB) ⟨by kernel_rfl,Zb6 c d m,λi x hx=>Z47 G hE .old c.ent d.ent m zo i hx (hb.ev x (List.mem_of_getElem? hx))⟩);generalize Z0a 3 64 m.p.signalB m.events.l.length=r;simp only[Z7d];refine Zs ?_;exact Zr
theorem Z36(G:Nat->V)(hE:GExp G)(c d:Col)(m:MdM)(hb:MdB m):Spec Tryz.prog G 79 [Z3 c d m] Zk (λv _=>v=Z7d (m.p.ruleF 3)):=by
 have hG:=hE.ok;refine Zo 0 12 [.cell 2 140] Tryz.func79 λX=>?_
 have hP:m.p.ruleF 3=if m.regions.l=[]then(4,0,130)else Z0a 4 512 m.p.regionB m.regions.l.length:=rfl
 rw[hP];have hl:=hb.nr;simp only[Zi];refine Z ?_;intro g1 g2;refine AW.weak (Zx (λo=>o==1) (l:=[(1,.view .new (Z3 c d m)),(2,.ptr 2 g2 0)]) (m:=[(2,.cells .new g2 0 [.int .u8 0,.int .i64 0,.int .i64 0])]) ?_ ?_) ?_;refine Zs ?_;exact⟨Fz.ptr (v:=Z3 c d m) (c:=.new) (fz:=0) zp zp,Fz.same _⟩;simp only[Zp,Zy,and_true];exact FzO.keep rfl zp
 by_cases h:m.regions.l=[]
 rw[if_pos h]
 have q:(((m.regions.l.length:Nat):Int)==0)=true:=by rw[h]<;>rfl
 exact Zq (zi q Zi);rw[if_neg h]
 have q:(((m.regions.l.length:Nat):Int)==0)=false:=by
  have:m.regions.l.length≠0:=λe=>h (List.length_eq_zero_iff.1 e);have:¬ ((m.regions.l.length:Nat):Int)=0:=zo;simpa using this
 refine Zf (zi q Zi) ?_;refine Zn hG ?_ (s:=Zzp G hG c.ent 4 512 m.regions zo (f:=151) (cap:=[.view .old (Z3 c.ent d.ent m)]) (p:=m.p.regionB) ⟨by kernel_rfl,Zb6 c d m,λi x hx=>Z57 G hE .old c.ent d.ent m i hx (hb.rg x (List.mem_of_getElem? hx))⟩);generalize Z0a 4 512 m.p.regionB m.regions.l.length=r;simp only[Z7d];refine Zs ?_;exact Zr
theorem Z16(G:Nat->V)(hE:GExp G)(c d:Col)(m:MdM)(hb:MdB m):Spec Tryz.prog G 80 [Z3 c d m] Zk (λv _=>v=Z7d (m.p.ruleF 4)):=by
 have hG:=hE.ok;refine Zo 0 7 [.cell 2 140] Tryz.func80 λX=>?_
 have hP:m.p.ruleF 4=Z0a 5 512 (λi=>m.p.vertexB (m.p.vx i)) m.verts.l.length:=by
  show Z0a 5 512 _ m.p.vertices.length=_
  rw[m.nv]
 rw[hP];have hl:=hb.nx;have he:=hb.ne;simp only[Zi];refine Z ?_;intro g1 g2;refine AW.weak (Zx (λo=>o==1) (l:=[(1,.view .new (Z3 c d m)),(2,.ptr 2 g2 0)]) (m:=[(2,.cells .new g2 0 [.int .u8 0,.int .i64 0,.int .i64 0])]) ?_ ?_) ?_;refine Zs ?_;exact⟨Fz.ptr (v:=Z3 c d m) (c:=.new) (fz:=0) zp zp,Fz.same _⟩;simp only[Zp,Zy,and_true];exact FzO.keep rfl zp;refine Zf Zi ?_
 refine Zn hG ?_ (s:=Z9i G hG c.ent d.ent 5 512 m.verts zo (f:=155) (cap:=[.view .old (Z3 c.ent d.ent m)]) (p:=λi=>m.p.vertexB (m.p.vx i)) ⟨by kernel_rfl,Zb6 c d m,λi x hx=>by
  obtain⟨k1,k2,k3⟩:=hb.vt x (List.mem_of_getElem? hx)
  exact Z27 G hE .old c.ent d.ent _ m zo i hx k1 k2 k3⟩)
 generalize Z0a 5 512 (λi=>m.p.vertexB (m.p.vx i)) m.verts.l.length=r;simp only[Z7d];refine Zs ?_;exact Zr
theorem Z31(G:Nat->V)(hE:GExp G)(c d:Col)(m:MdM)(hb:MdB m)(hm:m.p.Rt5):Spec Tryz.prog G 81 [Z3 c d m] Zk (λv _=>v=Z7d (m.p.ruleF 5)):=by
 have hG:=hE.ok;refine Zo 0 7 [.cell 2 140] Tryz.func81 λX=>?_
 have hP:m.p.ruleF 5=Z0a 5 512 m.p.deepB m.verts.l.length:=by
  show Z0a 5 512 _ m.p.vertices.length=_
  rw[m.nv]
 rw[hP];have hl:=hb.nx;simp only[Zi];refine Z ?_;intro g1 g2;refine AW.weak (Zx (λo=>o==1) (l:=[(1,.view .new (Z3 c d m)),(2,.ptr 2 g2 0)]) (m:=[(2,.cells .new g2 0 [.int .u8 0,.int .i64 0,.int .i64 0])]) ?_ ?_) ?_;refine Zs ?_;exact⟨Fz.ptr (v:=Z3 c d m) (c:=.new) (fz:=0) zp zp,Fz.same _⟩;simp only[Zp,Zy,and_true];exact FzO.keep rfl zp;refine Zf Zi ?_;refine Zn hG ?_ (s:=Z9i G hG c.ent d.ent 5 512 m.verts zo (f:=158) (cap:=[.view .old (Z3 c.ent d.ent m)]) (p:=m.p.deepB) ⟨by kernel_rfl,Zb6 c d m,λi x hx=>Zl2 G hG .old c.ent d.ent _ m hm i hx⟩);generalize Z0a 5 512 m.p.deepB m.verts.l.length=r;simp only[Z7d];refine Zs ?_;exact Zr
theorem rc_way(c d:Col)(m:MdM):[V.view .old (.func (.func 160) [] [.view .old (Z3 c.ent d.ent m)]),.view .old (Z3 c.ent d.ent m)].map (V.recol Col.ent)=[V.view .old (.func (.func 160) [] [.view .old (Z3 c.ent d.ent m)]),.view .old (Z3 c.ent d.ent m)]:=by
 simp only[List.map_cons,List.map_nil,V.recol,Z2,Zrh,Zsl];rfl
theorem Zz1(G:Nat->V)(hE:GExp G)(c d:Col)(m:MdM)(hb:MdB m):Spec Tryz.prog G 82 [Z3 c d m] Zk (λv _=>v=Z7d (m.p.ruleF 6)):=by
 have hG:=hE.ok;refine Zo 0 9 [.cell 2 140] Tryz.func82 λX=>?_
 have hP:m.p.ruleF 6=Z0a 6 512 (λi=>m.p.wayB (m.p.wy i)) m.ways.l.length:=by
  show Z0a 6 512 _ m.p.ways.length=_
  rw[m.nw]
 rw[hP];have hl:=hb.nw;have he:=hb.ne;simp only[Zi];refine Z ?_;intro g1 g2;refine AW.weak (Zx (λo=>o==1) (l:=[(1,.view .new (Z3 c d m)),(2,.ptr 2 g2 0)]) (m:=[(2,.cells .new g2 0 [.int .u8 0,.int .i64 0,.int .i64 0])]) ?_ ?_) ?_;refine Zs ?_;exact⟨Fz.ptr (v:=Z3 c d m) (c:=.new) (fz:=0) zp zp,Fz.same _⟩;simp only[Zp,Zy,and_true];exact FzO.keep rfl zp;refine Z ?_;intro g3;refine AW.weak (Zx (λo=>o==3) (l:=[(1,.view .new (Z3 c d m)),(2,.ptr 2 g2 0),(3,.view .new (.func (.func 160) [] [.view .new (Z3 c d m)]))]) (m:=[(2,.cells .new g2 0 [.int .u8 0,.int .i64 0,.int .i64 0])]) ?_ ?_) ?_;refine Zs ?_;exact⟨Fz.same _,Fz.same _,Fz.ptr (v:=.func (.func 160) [] [.view .new (Z3 c d m)]) (c:=.new) (fz:=0) zp zp⟩;simp only[Zp,Zy,and_true];exact FzO.keep rfl zp;refine Zf Zi ?_
 refine Zn hG ?_ (s:=Zxp G hG c.ent d.ent 6 512 m.ways zo (f:=162) (cap:=[.view .old (.func (.func 160) [] [.view .old (Z3 c.ent d.ent m)]),.view .old (Z3 c.ent d.ent m)]) (p:=λi=>m.p.wayB (m.p.wy i)) ⟨by kernel_rfl,rc_way c d m,λi x hx=>by
  obtain⟨k1,k2⟩:=hb.wy x (List.mem_of_getElem? hx)
  exact Z17 G hE .old .old .old c.ent d.ent c.ent d.ent _ m zo i hx k1 k2⟩)
 generalize Z0a 6 512 (λi=>m.p.wayB (m.p.wy i)) m.ways.l.length=r;simp only[Z7d];refine Zs ?_;exact Zr
def Zql(rs:Nat->Nat×Int×Int)(n:Nat):Nat×Int×Int:=match(List.range n).find? (λi=>(rs i).1 != 0)with|some i=>rs i|none=>(0,0,0)
theorem Z1b{rs:Nat->Nat×Int×Int}{n i:Nat}(hi:i<n)(h:∀ j,j<i->(rs j).1=0)(hb:(rs i).1≠0):Zql rs n=rs i:=by
 have:(List.range n).find? (λi=>(rs i).1 != 0)=some i:=by
  rw[List.find?_range_eq_some];exact⟨zu hb,List.mem_range.2 hi,λj hj=>by simp[h j hj]⟩
 rw[Zql,this]
theorem Zpl{rs:Nat->Nat×Int×Int}{n:Nat}(h:∀ j,j<n->(rs j).1=0):Zql rs n=(0,0,0):=by
 rw[Zql,List.find?_eq_none.2 (λj hj=>by simp[h j (List.mem_range.1 hj)])]
theorem Z00{part most:Nat}{p:Nat->Bool}{n:Nat}(hp:part≠0)(h:(Z0a part most p n).1=0):Z0a part most p n=(0,0,0):=by
 rw[Z0a]at h⊢
 cases hf:(List.range n).find? (λi=>i==most || !p i)with
 |some i=>rw[hf]at h;exact absurd h hp
 |none=>rfl
theorem Zuu(m:PM):m.rightP=Zql m.ruleF 7:=by
 by_cases h0:(m.ruleF 0).1=0
 rotate_left;rw[Z1b (i:=0) zd (λj hj=>absurd hj (Nat.not_lt_zero _)) h0,PM.rightP,orE,if_pos h0]
 by_cases h1:(m.ruleF 1).1=0
 rotate_left
 rw[Z1b (i:=1) zd (λj hj=>by
  have:j=0:=zo
  rw[this];exact h0) h1,PM.rightP,orE,if_neg (λh=>h h0),orE,if_pos h1]
 by_cases h2:(m.ruleF 2).1=0
 rotate_left
 rw[Z1b (i:=2) zd (λj hj=>by
  have:j=0\/j=1:=zo
  rcases this with h|h<;>rw[h]<;>assumption) h2,PM.rightP,orE,if_neg (λh=>h h0),orE,if_neg (λh=>h h1),orE,if_pos h2]
 by_cases h3:(m.ruleF 3).1=0
 rotate_left
 rw[Z1b (i:=3) zd (λj hj=>by
  have:j=0\/j=1\/j=2:=zo
  rcases this with h|h|h<;>rw[h]<;>assumption) h3,PM.rightP,orE,if_neg (λh=>h h0),orE,if_neg (λh=>h h1),orE,if_neg (λh=>h h2),orE,if_pos h3]
 by_cases h4:(m.ruleF 4).1=0
 rotate_left
 rw[Z1b (i:=4) zd (λj hj=>by
  have:j=0\/j=1\/j=2\/j=3:=zo
  rcases this with h|h|h|h<;>rw[h]<;>assumption) h4,PM.rightP,orE,if_neg (λh=>h h0),orE,if_neg (λh=>h h1),orE,if_neg (λh=>h h2),orE,if_neg (λh=>h h3),orE,if_pos h4]
 by_cases h5:(m.ruleF 5).1=0
 rotate_left
 rw[Z1b (i:=5) zd (λj hj=>by
  have:j=0\/j=1\/j=2\/j=3\/j=4:=zo
  rcases this with h|h|h|h|h<;>rw[h]<;>assumption) h5,PM.rightP,orE,if_neg (λh=>h h0),orE,if_neg (λh=>h h1),orE,if_neg (λh=>h h2),orE,if_neg (λh=>h h3),orE,if_neg (λh=>h h4),orE,if_pos h5]
 have e:m.rightP=m.ruleF 6:=by
  rw[PM.rightP,orE,if_neg (λh=>h h0),orE,if_neg (λh=>h h1),orE,if_neg (λh=>h h2),orE,if_neg (λh=>h h3),orE,if_neg (λh=>h h4),orE,if_neg (λh=>h h5)]
 rw[e]
 by_cases h6:(m.ruleF 6).1=0
 rotate_left
 rw[Z1b (i:=6) zd (λj hj=>by
  have:j=0\/j=1\/j=2\/j=3\/j=4\/j=5:=zo
  rcases this with h|h|h|h|h|h<;>rw[h]<;>assumption) h6]
 rw[Zpl (λj hj=>by
  have:j=0\/j=1\/j=2\/j=3\/j=4\/j=5\/j=6:=zo
  rcases this with h|h|h|h|h|h|h<;>rw[h]<;>assumption)]
 exact Z00 zd (show(Z0a 6 512 (λi=>m.wayB (m.wy i)) m.ways.length).1=0 from h6)
def Zvl(c d:Col)(m:MdM)(f:FuncId):V:=.func (.func f) [Z3 c d m] []
theorem Zmv(c d:Col)(m:MdM)(f:FuncId):Zvl c d m f=.func (.func f) [Z3 c d m] []:=rfl
theorem Z6aa(g:Col->Col)(c d:Col)(m:MdM)(f:FuncId):(Zvl c d m f).recol g=Zvl (g c) (g d) m f:=by
 simp only[Zmv,V.recol,Z2,List.map_cons,List.map_nil,Zrh]
theorem Zj2(G:Nat->V)(hG:GOk G)(c1 c d:Col)(m:MdM)(l:Sl FuncId)(hl:l.l.length<1000000)(rs:Nat->Nat×Int×Int)
  (h:∀ k f,l.l[k]?=some f->(∀ j,j<k->(rs j).1=0)->Z4 Tryz.prog f=true/\Spec Tryz.prog G f [Z3 c.ent d.ent m] Zk (λv _=>v=Z7d (rs k))):
  Spec Tryz.prog G 75 [Za c1 1 (Zvl c d m) l] Zk (λv _=>v=Z7d (Zql rs l.l.length)):=by
 refine Zo 0 20 [.cell 2 140] Tryz.func75 λX=>?_;refine Z ?_;intro g2;refine Z ?_
 refine Zfa l.l.length (λk (_:Unit)=>st [(2,.ptr 2 g2 0),(6,Za c1 1 (Zvl c d m) l),(7,.int .i64 l.l.length),(8,.int .i64 k)] [(2,.cells .new g2 0 [.int .u8 0,.int .i64 0,.int .i64 0])])
  (λk _=>∀ j,j<k->(rs j).1=0) 0 () (Nat.zero_le _) (λi h=>absurd h (Nat.not_lt_zero _)) (Zb zp zp) ?_
 intro k _ hk hR L3 hL3
 by_cases hk1:k<l.l.length
 have hlt:decide ((k:Int)<(l.l.length:Int))=true:=zT;have hg:=List.getElem?_eq_getElem hk1;generalize l.l[k]=x at hg;have w1:IntKind.i64.wrap ((k:Int)+1)=(k:Int)+1:=w64 zo zo;obtain⟨he,hsp⟩:=h k x hg hR;refine Zf (zi hlt (zi hg Zmv)) ?_;refine Zn hG ?_ (e:=he) (s:=hsp);generalize hr:rs k=r at hsp;simp only[Z7d];refine Zs ?_;intro g5
 by_cases hz:r.1=0
 have q:(((r.1:Nat):Int) != 0)=false:=by simp[hz]
 refine Zf (zi q w1) ?_;refine hL3 _ ⟨hk1,(),λj hj=>?_,Zb zp zp⟩
 by_cases h3:j=k
 rw[h3,hr];exact hz;exact hR j zo
 have q:(((r.1:Nat):Int) != 0)=true:=by
  have:¬ ((r.1:Nat):Int)=0:=zo;simpa using this
 rw[Z1b hk1 hR (by rw[hr];exact hz),hr];exact Zq q;have hke:k=l.l.length:=zo;subst hke;have hlt:decide ((l.l.length:Int)<(l.l.length:Int))=false:=zS;rw[Zpl hR];exact Zq hlt
theorem fmIm(c d:Col)(m:MdM)(f:FuncId):∀ y∈(Zvl c d m f).cells,y.Im:=λy hy=>by
 simp only[Zmv,V.cells,List.mem_cons,List.not_mem_nil,or_false]at hy;rw[hy];refine .func _ _ _ (λx hx=>?_) (λx hx=>by cases hx);rw[List.mem_singleton.1 hx]
 cases mdIm .old c d m with
 |view _ _ h=>exact .agg _ h
def rgF:List FuncId:=[76,77,78,79,80,81,82]
theorem Rd.rgF{H:Heap}{g:Nat}{c d:Col}{m:MdM}(h:H 20=.cells .new g 0 (flat (rgF.map (Zvl c d m)))):Rd H (.msl 20 g 0 7 1) (Za .old 1 (Zvl c.ent d.ent m) (.mk false Go.Hs.rgF)):=
 Rd.msl (l:=Go.Hs.rgF) (off:=0) (n:=7) (m:=1) (f:=Zvl c d m) (f':=Zvl c.ent d.ent m) (g:=g) (fz:=0) (c:=.new) h (λ_=>rfl) (fmIm c d m) (λf=>Z6aa _ c d m f) zd
theorem flFl(r:Nat×Int×Int):(Z7d r).Fl:=.agg _ λy hy=>by
 simp only[List.mem_cons,List.not_mem_nil,or_false]at hy
 rcases hy with rfl|rfl|rfl<;>exact .int _ _
theorem Zhn(G:Nat->V)(hE:GExp G)(c d:Col)(m:MdM)(hb:MdB m):Spec Tryz.prog G 44 [Z3 c d m] Zk (λv _=>v=.tuple [.int .u8 m.p.rightP.1,.int .i64 m.p.rightP.2.1,.int .i64 m.p.rightP.2.2]):=by
 have hG:=hE.ok;refine Zo 0 28 [.tmp 2,.tmp 3,.tmp 4] Tryz.func44 λX=>?_;rw[Zuu];simp only[Zi];refine Z ?_;intro g1;refine Z ?_;intro g20;refine Zs ?_;refine Zha hG [Za .old 1 (Zvl c.ent d.ent m) (.mk false rgF)] zk ⟨Rd.rgF zp,trivial⟩ ?_;refine(Zj2 G hG .old c.ent d.ent m (.mk false rgF) zd m.p.ruleF ?_).mono ?_
 .intro k f hk h0
  rw[Zsl,Zsl]
  match k,hk with
  |0,hk=>obtain rfl:=Option.some.inj hk;exact⟨by kernel_rfl,Z11 G hE _ _ m hb.nm⟩
  |1,hk=>obtain rfl:=Option.some.inj hk;exact⟨by kernel_rfl,Z01 G hE _ _ m hb⟩
  |2,hk=>obtain rfl:=Option.some.inj hk;exact⟨by kernel_rfl,Z26 G hE _ _ m hb⟩
  |3,hk=>obtain rfl:=Option.some.inj hk;exact⟨by kernel_rfl,Z36 G hE _ _ m hb⟩
  |4,hk=>obtain rfl:=Option.some.inj hk;exact⟨by kernel_rfl,Z16 G hE _ _ m hb⟩
  |5,hk=>obtain rfl:=Option.some.inj hk;exact⟨by kernel_rfl,Z31 G hE _ _ m hb (PM.rt_vt (h0 3 zd) (h0 4 zd))⟩
  |6,hk=>obtain rfl:=Option.some.inj hk;exact⟨by kernel_rfl,Zz1 G hE _ _ m hb⟩
  |k+7,hk=>cases hk
 rintro _ _ rfl;refine⟨flFl _,?_⟩
 show _
 simp only[show(Sl.mk false rgF).l.length=7 from rfl];generalize Zql m.p.ruleF 7=r;simp only[Z7d];refine Zs ?_;intro g5;refine ZT hG ?_;exact Zr
def rF:Nat->FuncId
 |1=>83
 |2=>84
 |3=>85
 |4=>86
 |5=>87
 |6=>88
 |7=>89
 |8=>90
 |9=>91
 |10=>92
 |11=>93
 |12=>94
 |13=>95
 |14=>96
 |_=>97
def Zse(k:Nat):V:=.func (.func (rF k)) [] []
def ruleFs:List V:=[.nilf,Zse 1,Zse 2,Zse 3,Zse 4,Zse 5,Zse 6,Zse 7,Zse 8,Zse 9,Zse 10,Zse 11,Zse 12,Zse 13,Zse 14,Zse 15]
theorem Zgn{k:Nat}(h:1<=k)(h2:k<=15):ruleFs[k]?=some (Zse k)/\Z4 Tryz.prog (rF k)=true:=by
 have hk:k=1\/k=2\/k=3\/k=4\/k=5\/k=6\/k=7\/k=8\/k=9\/k=10\/k=11\/k=12\/k=13\/k=14\/k=15:=zo
 rcases hk with rfl|rfl|rfl|rfl|rfl|rfl|rfl|rfl|rfl|rfl|rfl|rfl|rfl|rfl|rfl<;>exact⟨rfl,by kernel_rfl⟩
@[go_sem] theorem recol_rules(g:Col->Col):ruleFs.map (V.recol g)=ruleFs:=rfl
theorem Z20(G:Nat->V):Spec Tryz.prog G 46 [] Zk (λw _=>w=.agg ruleFs):=by
 refine Zo 0 2 [.cell 0 103] Tryz.func46 λX=>?_;refine Z ?_;intro g0;exact Zr
structure MdT(m:MdM):Prop where
 ef:∀ t∈m.ways.l,t.effect.length<=900
 gu:∀ t∈m.ways.l,t.guard.length<=900
 en:∀ x∈m.verts.l,x.entry.length<=900/\x.exit.length<=900
theorem Ze2(G:Nat->V)(hE:GExp G)(b c d e:Col)(m:MdM)(ns vs:Sl (List UInt8))(hb:MdB m)(hm:m.p.Rt)(ht:MdT m)(hns:ns.l=m.p.vn++[Zfk])(hvs:vs.l=m.p.vn)(k:Nat)(h1:1<=k)(h2:k<=15)(t:Int)(t0:0<=t)(t1:t<m.p.places k):
  Spec Tryz.prog G (rF k) [ckV b c d e m ns vs,.int .i64 t] Zk (λw _=>w=.bool (m.p.keep Z9a Zoa k t)):=by
 have hG:=hE.ok;have b1:=hb.nw;have b2:=hb.nx;have b3:=hb.ne
 have hvl:m.p.vn.length<=600:=by
  show(m.vars.l.map _).length<=_
  rw[List.length_map];exact hb.nv
 have hnl:ns.l.length<1000000:=by rw[hns,List.length_append];show _+1<_;omega
 have hsl:vs.l.length<100000:=by rw[hvs];omega
 have hway:t<m.p.ways.length->((m.p.wy t).effect.length<=900/\(m.p.wy t).guard.length<100000):=λh=>by
  obtain⟨j,x,rfl,hj,hg,hx⟩:=Zbf t0 h;rw[hx];have:=ht.gu x (List.mem_of_getElem? hg);exact⟨ht.ef x (List.mem_of_getElem? hg),by show x.guard.length<_;omega⟩
 have hver:t<m.p.vertices.length->((m.p.vx t).entry.length<=900/\(m.p.vx t).exit.length<=900):=λh=>by
  obtain⟨j,x,rfl,hj,hg,hx⟩:=MdM.at t0 h;rw[hx];exact ht.en x (List.mem_of_getElem? hg)
 have hgl:∀ t∈m.ways.l,t.guard.length<100000:=λt h=>by have:=ht.gu t h;omega
 have hk:k=1\/k=2\/k=3\/k=4\/k=5\/k=6\/k=7\/k=8\/k=9\/k=10\/k=11\/k=12\/k=13\/k=14\/k=15:=zo
 rcases hk with rfl|rfl|rfl|rfl|rfl|rfl|rfl|rfl|rfl|rfl|rfl|rfl|rfl|rfl|rfl
 exact r1_spec G hG b c d e m ns vs zo t;exact r2_spec G hG b c d e m ns vs hm zo t t0 t1;exact r3_spec G hG b c d e m ns vs zo t t0 t1;exact r4_spec G hG b c d e m ns vs hm zo t t0 t1;exact r5_spec G hG b c d e m ns vs hm zo t t0 t1;exact r6_spec G hE b c d e m ns vs zo hgl t t0 t1;exact r7_spec G hG b c d e m ns vs hm zo zo t t0 t1;exact r8_spec G hG b c d e m ns vs hm zo t t0 t1;exact r9_spec G hG b c d e m ns vs hm t t0 t1;exact Zfba G hE b c d e m ns vs hm hns hnl t t0 t1 (hway t1).2;exact Zeba G hG b c d e m ns vs hm t t0 t1;exact Zdba G hE b c d e m ns vs hvs hsl zo t t0 t1 (hway t1).1;exact Zcba G hE b c d e m ns vs hvs hsl zo t t0 t1 (hver t1);exact Zbba G hG b c d e m ns vs hm t t0 t1;exact Zaba G hG b c d e m ns vs hm t t0 t1
def Zvc(p:Nat×Int):V:=.agg [.int .u8 p.1,.int .i64 p.2]
theorem Z9o(p:Nat×Int):Zvc p=.agg [.int .u8 p.1,.int .i64 p.2]:=rfl
theorem Zs7(p:Nat×Int):(Zvc p).cells.length=2:=rfl
theorem PM.places_le(m:PM)(k:Nat):m.places k<=m.regions.length+m.vertices.length+m.ways.length:=by
 rw[PM.places];split;omega
 split<;>omega
theorem Ztd(G:Nat->V)(hE:GExp G)(c d:Col)(m:MdM)(hb:MdB m)(ht:m.p.Rt->MdT m):
  Spec Tryz.prog G 15 [Z3 c d m] Zk (λw _=>w=.tuple [Za .new 2 Zvc (Zt (m.p.checkW Z9a Zoa).1),.int .i64 (m.p.checkW Z9a Zoa).2]):=by
 have hG:=hE.ok;refine Zo 0 49 [.tmp 2,.tmp 3] Tryz.func15 λX=>?_;rw[PM.checkW];have hr:=PM.right_er (m:=m.p);simp only[Zi];refine Z ?_;intro g1;refine AW.weak (Zx (λo=>o==1) (l:=[(1,.view .new (Z3 c d m)),(2,.nils),(3,.int .i64 0)]) (m:=[]) ?_ trivial) ?_;refine Zs ?_;exact⟨Fz.ptr (v:=Z3 c d m) (c:=.new) (fz:=0) zp zp,Fz.same _,Fz.same _⟩;refine Zf Zi ?_;refine Zn hG ?_ (s:=Zhn G hE c.ent d.ent m hb);have hrt:=λh=>PM.rt_of (m:=m.p) h;generalize m.p.rightP=rp at hr hrt;refine Zs ?_
 by_cases h:rp.2.2=0
 rotate_left;rw[if_pos h];have q:(rp.2.2 != 0)=true:=zu h;exact Zq q;rw[if_neg (λk=>k h)]
 have q:(rp.2.2 != 0)=false:=by simp[h]
 have hm:m.p.Rt:=hrt (hr.1 h);have hT:=ht hm;have hnv:=hb.nv;refine Zf (zi q Zi) ?_;refine Zc hG ?_ (s:=Zxq G hG c.ent d.ent m hnv);refine Z ?_;refine Zc hG ?_ (s:=Z20 G);refine Z ?_;have hpl:=λk=>m.p.places_le k;have b1:=hb.nr;have b2:=hb.nx;have b3:=hb.nw
 have hpl:∀ k,m.p.places k<=1800:=λk=>by
  have:=hpl k;have e1:m.p.regions.length=m.regions.l.length:=rfl;have e2:=m.nv;have e3:=m.nw;omega
 refine Zfa 16 (λr (g:Nat)=>st [(2,grown 46 g 2 (m.p.badL Z9a Zoa (r-1))),(4,ckV .new c.ent.bk d.ent.bk .new m (.mk false (m.p.vn++[Zfk])) (Zt m.p.vn)),(19,.agg ruleFs),(20,.int .i64 r)] [(46,Ztb g Zvc (m.p.badL Z9a Zoa (r-1)))])
  (λr _=>(m.p.badL Z9a Zoa (r-1)).length<=1800*r) 0 0 zd (Nat.zero_le _) (Zb zp zp) ?_
 intro r g hr1 hR L3 hL3
 by_cases hr2:r<16
 rotate_left;obtain rfl:r=16:=zo;have hlt:decide (((16:Nat):Int)<16)=false:=rfl;have e15:m.p.badL Z9a Zoa (16-1)=m.p.badL Z9a Zoa 15:=rfl;rw[e15];generalize m.p.badL Z9a Zoa 15=acc;refine AW.weak (Zx (λo=>o==46) (l:=[(2,Za .new 2 Zvc (Zt acc)),(20,.int .i64 (16:Nat))]) (m:=[]) ?_ trivial) ?_;refine Zs ?_;exact⟨Zpd (l:=acc) (g:=g) (f:=Zvc) rfl zp Zs7,Fz.same _⟩;exact Zr;have hlt:decide ((r:Int)<16)=true:=zT;have w1:IntKind.i64.wrap ((r:Int)+1)=(r:Int)+1:=w64 zo zo
 have hrv:∃ f,ruleFs[r]?=some f/\(1<=r->f=Zse r/\Z4 Tryz.prog (rF r)=true):=by
  rcases Nat.eq_zero_or_pos r with h0|h0
  subst h0;exact⟨_,rfl,λh=>absurd h zd⟩;exact⟨_,(Zgn h0 zo).1,λ_=>⟨rfl,(Zgn h0 zo).2⟩⟩
 obtain⟨fv,hfv,hfr⟩:=hrv;have hr3:(r:Int)<16:=zo;refine Zf (zi hlt (zi hfv (zi hr3 (zi @Int.natCast_nonneg Nat.mul_one)))) ?_;have hbl:∀ a,(m.p.badAt Z9a Zoa r a).length<=a:=λa=>PM.badAt_len r a
 have hn:(if r=0 then 0 else m.p.places r)<=1800:=by split;exact Nat.zero_le _;exact hpl r
 have hnx:(m.p.badL Z9a Zoa (r-1))++(if r=0 then[]else m.p.badAt Z9a Zoa r (m.p.places r))=m.p.badL Z9a Zoa r:=by
  rcases Nat.eq_zero_or_pos r with h0|h0
  subst h0;rfl;rw[if_neg zo];obtain⟨r,rfl⟩:∃ r',r=r'+1:=⟨r-1,zo⟩
  rw[PM.badL_succ]<;>rfl
 have hba:∀ a,r≠0->m.p.badAt Z9a Zoa r (a+1)=m.p.badAt Z9a Zoa r a++(if m.p.keep Z9a Zoa r (a:Int)=true then[]else[(r,(a:Int))]):=λa _=>PM.badAt_succ r a;have hks:=λb c d e ns vs (h1:ns.l=m.p.vn++[Zfk]) (h2:vs.l=m.p.vn) h3=>Ze2 G hE b c d e m ns vs hb hm hT h1 h2 r h3 zo;generalize m.p.badL Z9a Zoa (r-1)=acc at hR hnx
 refine Zfa (if r=0 then 0 else m.p.places r) (λa (g:Nat)=>st [(2,grown 46 g 2 (acc++if r=0 then[]else m.p.badAt Z9a Zoa r a)),(4,ckV .new c.ent.bk d.ent.bk .new m (.mk false (m.p.vn++[Zfk])) (Zt m.p.vn)),(5,.int .i64 r),(6,fv),(7,.int .i64 a),(19,.agg ruleFs),(20,.int .i64 r)] [(46,Ztb g Zvc (acc++if r=0 then[]else m.p.badAt Z9a Zoa r a))])
  (λa _=>True) 0 g (Nat.zero_le _) trivial (Zb ?_ ?_) ?_
 have:(acc++if r=0 then[]else m.p.badAt Z9a Zoa r 0)=acc:=by
  split
  exact List.append_nil _;exact List.append_nil _
 rw[this];exact zp
 have:(acc++if r=0 then[]else m.p.badAt Z9a Zoa r 0)=acc:=by
  split
  exact List.append_nil _;exact List.append_nil _
 rw[this];exact zp;intro a g ha _ L7 hL7;have hwr:IntKind.u8.wrap (r:Int)=(r:Int):=wu8R zo zo
 by_cases ha1:a<(if r=0 then 0 else m.p.places r)
 rotate_left
 .have hae:a=(if r=0 then 0 else m.p.places r):=zo
  have hend:(acc++if r=0 then[]else m.p.badAt Z9a Zoa r a)=m.p.badL Z9a Zoa (r+1-1):=by
   rw[Nat.add_sub_cancel,<- hnx,hae]
   split<;>rfl
  rw[hend]
  have hfin:∀ s,Weak ⟨X,Zk,49,0,G,none,[],.plain⟩ s (st [(2,grown 46 g 2 (m.p.badL Z9a Zoa (r+1-1))),(4,ckV .new c.ent.bk d.ent.bk .new m (.mk false (m.p.vn++[Zfk])) (Zt m.p.vn)),(19,.agg ruleFs),(20,.int .i64 (r+1:Nat))] [(46,Ztb g Zvc (m.p.badL Z9a Zoa (r+1-1)))])->L3 s:=λs hs=>by
   refine hL3 s ⟨hr2,g,?_,hs⟩;rw[<- hend,List.length_append]
   have e2:(if r=0 then([]:List (Nat×Int))else m.p.badAt Z9a Zoa r a).length<=1800:=by
    split
    exact Nat.zero_le _;exact Nat.le_trans (hbl a) zo
   omega
  try clear hL3
  by_cases h0:r=0
  have q0:decide ((r:Int)>0)=false:=zF;refine Zf (zi q0 w1) ?_;exact hfin _ (Zb zp zp);have q0:decide ((r:Int)>0)=true:=zT;rw[if_neg h0]at hae;have q1:decide ((a:Int)<(m.p.places r:Int))=false:=zF;refine Zf q0 ?_;refine Zc hG ?_ (s:=Zoj G _ _ _ _ m _ _ r);refine Zg (zi q1 w1) ?_;exact hfin _ (Zb zp zp)
 have h0:r≠0:=λh=>by rw[if_pos h]at ha1;exact absurd ha1 (Nat.not_lt_zero _)
 rw[if_neg h0]at ha1;have hpr:=hpl r;have q0:decide ((r:Int)>0)=true:=zT;have q1:decide ((a:Int)<(m.p.places r:Int))=true:=zT;have w2:IntKind.i64.wrap ((a:Int)+1)=(a:Int)+1:=w64 zo zo;obtain⟨rfl,hen⟩:=hfr zo;simp only[if_neg h0]at hL7⊢;rw[hba a h0]at hL7;have hal:=hbl a;generalize m.p.badAt Z9a Zoa r a=bl at hL7 hal⊢;refine Zf q0 ?_;refine Zc hG ?_ (s:=Zoj G _ _ _ _ m _ _ r);refine Zg (zi q1 (show Zse r=.func (.func (rF r)) [] []from rfl)) ?_;have hsp:=λb c d e=>hks b c d e (.mk false (m.p.vn++[Zfk])) (Zt m.p.vn) rfl (Zl _) zo a (Int.natCast_nonneg a) zo;refine Zc hG ?_ (e:=hen) (s:=hsp _ _ _ _);cases hk:m.p.keep Z9a Zoa r (a:Int);rw[hk,if_neg zd,<- List.append_assoc]at hL7;refine Zf (zi hk hwr) ?_;intro g45;refine Zvb (f:=Zvc) (l:=acc++bl) (l2:=[(r,(a:Int))]) (g:=g) Zs7 rfl rfl rfl zp (Zca zo (by simp only[List.length_append,List.length_cons,List.length_nil];omega)) λg2=>?_;refine Zs ?_;refine Zf w2 ?_;exact hL7 _ ⟨ha1,g2,trivial,Zb (zpf (show V.func (.func (rF r)) [] []=Zse r from rfl)) zp⟩;rw[hk,if_pos rfl,List.append_nil]at hL7;refine Zf (zi hk w2) ?_;exact hL7 _ ⟨ha1,g,trivial,Zb (zpf (show V.func (.func (rF r)) [] []=Zse r from rfl)) zp⟩
theorem Zuz(G:Nat->V)(c1 c d:Col)(m:MdM)(v:Int):Spec Tryz.prog G 68 [.int .i64 v,.view c1 (Z3 c d m)] Zk (λw _=>w=.bool (m.p.inV v)):=by
 refine Zo 0 13 [.tmp 3] Tryz.func68 λX=>?_;rw[PM.inV,m.nv];simp only[Zi]
 by_cases h0:0<=v
 have q:decide (v>=0)=true:=zT;rw[decide_eq_true h0];exact Zq q;have q:decide (v>=0)=false:=zF;rw[decide_eq_false h0];exact Zq q
def PM.inW(m:PM)(v s:Int):Bool:=decide ((m.rightP).2.2=0)&&m.inV v&&m.inV s&&((m.vx s).kind==1)&&m.inB v s
theorem Zk7(G:Nat->V)(hE:GExp G)(c d:Col)(m:MdM)(hb:MdB m)(v s:Int):
  Spec Tryz.prog G 39 [Z3 c d m,.int .i64 v,.int .i64 s] Zk (λw _=>w=.bool (m.p.inW v s)):=by
 have hG:=hE.ok;refine Zo 0 46 [.tmp 6] Tryz.func39 λX=>?_;rw[PM.inW];simp only[Zi];refine Z ?_;intro g3;refine AW.weak (Zx (λo=>o==3) (l:=[(1,.int .i64 v),(2,.int .i64 s),(3,.view .new (Z3 c d m)),(6,.bool false)]) (m:=[]) ?_ trivial) ?_;refine Zs ?_;exact⟨Fz.same _,Fz.same _,Fz.ptr (v:=Z3 c d m) (c:=.new) (fz:=0) zp zp,Fz.same _⟩;refine Zf Zi ?_;refine Zn hG ?_ (s:=Zhn G hE c.ent d.ent m hb);have hr:=PM.right_er (m:=m.p);have hrt:=λh=>PM.rt_of (m:=m.p) h;generalize m.p.rightP=rp at hr hrt;refine Zs ?_
 by_cases h:rp.2.2=0
 rotate_left;rw[decide_eq_false h];simp only[Bool.false_and];have q:(rp.2.2==0)=false:=zu h;exact Zq q;rw[decide_eq_true h,Bool.true_and]
 have q:(rp.2.2==0)=true:=by simp[h]
 have hm:m.p.Rt:=hrt (hr.1 h);refine Zf q ?_;refine Zc hG ?_ (s:=Zuz G .old c.ent d.ent m v);cases h1:m.p.inV v;exact Zh h1;rw[Bool.true_and];refine Zg h1 ?_;refine Zc hG ?_ (s:=Zuz G .old c.ent d.ent m s);cases h2:m.p.inV s;exact Zh h2;rw[Bool.true_and];have hv1:=h1;have hs1:=h2;simp only[PM.inV,Bool.and_eq_true,decide_eq_true_eq]at hv1 hs1;have hin:=λb c d e=>Z9h G hG b c d e m (.mk false (m.p.vn++[Zfk])) (Zt m.p.vn) hm v s hv1.1 hv1.2;obtain⟨k,x,rfl,hk,hg,hx⟩:=MdM.at hs1.1 hs1.2;rw[hx];have hxk:(x.p.kind==1)=(x.kind==1):=rfl;rw[hxk];have f:=zi h2 (zi hg (zi hk (zi Zm (zi Zi (zi @Int.natCast_nonneg @Int.ofNat_lt)))));cases h3:(x.kind==1);exact Zh (zi f h3);rw[Bool.true_and];refine Zg (zi f h3) ?_;refine Zc hG ?_ (s:=Zxq G hG c.ent d.ent m hb.nv);refine Z ?_;refine Zc hG ?_ (s:=hin _ _ _ _);exact Zr
end Go.Hs
end

section
namespace Go.Hs
open Go.Proofs
set_option maxRecDepth 10000
set_option maxHeartbeats 4000000
theorem Zxg(G:Nat->V)(c:Col)(l:Sl (Nat×Int))(rule:Nat)(at_:Int):Spec Tryz.prog G 38 [Za c 2 Zvc l,.int .u8 rule,.int .i64 at_] Zk (λv _=>v=.bool (l.l==[(rule,at_)])):=by
 refine Zo 0 19 [.tmp 6] Tryz.func38 λX=>?_
 by_cases h:l.l.length=1
 obtain⟨p,hp⟩:=List.length_eq_one_iff.1 h
 have u:((l.l.length:Int)==1)=true:=by rw[h]<;>rfl
 have hg:l.l[0]?=some p:=by rw[hp]<;>rfl
 have h0:0<l.l.length:=zo
 have e:(l.l==[(rule,at_)])=((p.1:Int)==(rule:Int)&&p.2==at_):=by
  rw[hp,Bool.eq_iff_iff];simp only[beq_iff_eq,List.cons.injEq,and_true,Bool.and_eq_true,Prod.ext_iff];omega
 rw[e];refine Zf (zi u (zi hg (zi h0 Z9o))) ?_;rw[Bool.and_true]
 have u:((l.l.length:Int)==1)=false:=by rw[beq_eq_false_iff_ne];omega
 have e:(l.l==[(rule,at_)])=false:=by rw[beq_eq_false_iff_ne];intro q;rw[q]at h;exact h rfl
 rw[e];exact Zq u
end Go.Hs
end

section
namespace Go.Hs
open Go.Proofs
set_option maxRecDepth 10000
set_option maxHeartbeats 4000000
def txR(s:List UInt8):Prop:=s.length<=140737488351232
structure MdR(m:MdM):Prop where
 nm:txR m.name
 var:m.vars.l.length<=140737488351232/\∀ p∈m.vars.l,txR p.1
 ev:m.events.l.length<=140737488351232/\∀ s∈m.events.l,txR s
 rg:m.regions.l.length<=140737488351232/\∀ p∈m.regions.l,txR p.1
 vt:m.verts.l.length<=140737488351232/\∀ x∈m.verts.l,txR x.name/\txR x.entry/\txR x.exit/\txR x.sub/\x.defers.l.length<=140737488351232/\∀ s∈x.defers.l,txR s
 wy:m.ways.l.length<=140737488351232/\∀ x∈m.ways.l,txR x.name/\txR x.guard/\txR x.effect/\x.triggers.l.length<=140737488351232/\∀ s∈x.triggers.l,txR s
def Zxb(s:List UInt8):Bool:=decide (s.length<=100)||decide (4096<s.length)
def Z6h(n most:Nat):Bool:=decide (n<=40)||(decide (most<n)&&decide (n<=600))
theorem Z3f{n most:Nat}(h:Z6h n most=true):n<=600:=by
 simp only[Z6h,Bool.or_eq_true,Bool.and_eq_true,decide_eq_true_eq]at h;omega
structure FewM(m:MdM):Prop where
 nv:m.vars.l.length<=600
 ne:m.events.l.length<=600
 nr:m.regions.l.length<=600
 nx:m.verts.l.length<=600
 nw:m.ways.l.length<=600
 vt:∀ x∈m.verts.l,Zxb x.entry=true/\Zxb x.exit=true/\x.defers.l.length<=40
 wy:∀ x∈m.ways.l,Zxb x.guard=true/\Zxb x.effect=true/\x.triggers.l.length<=40
theorem Zyd(G:Nat->V)(n most:Nat):Spec Tryz.prog G 33 [.int .i64 n,.int .i64 most] Zk (λv _=>v=.bool (Z6h n most)):=by
 refine Zo 0 16 [.tmp 4] Tryz.func33 λX=>?_;rw[Z6h];have e1:decide ((n:Int)<=40)=decide (n<=40):=decide_eq_decide.2 zo;have e2:decide ((n:Int)>(most:Int))=decide (most<n):=decide_eq_decide.2 zo;have e3:decide ((n:Int)<=600)=decide (n<=600):=decide_eq_decide.2 zo;cases q1:decide (n<=40);rw[q1]at e1;cases q2:decide (most<n);rw[q2]at e2;exact Zq (zi e1 e2);rw[q2]at e2;exact Zq (zi e1 (zi e2 e3));rw[q1]at e1;exact Zq e1
theorem Z4b(G:Nat->V)(s:List UInt8):Spec Tryz.prog G 34 [.str s] Zk (λv _=>v=.bool (Zxb s)):=by
 refine Zo 0 11 [.tmp 2] Tryz.func34 λX=>?_;rw[Zxb];have e1:decide ((s.length:Int)<=100)=decide (s.length<=100):=decide_eq_decide.2 zo;have e2:decide ((s.length:Int)>4096)=decide (4096<s.length):=decide_eq_decide.2 zo;cases q1:decide (s.length<=100);rw[q1]at e1;exact Zq (zi e1 e2);rw[q1]at e1;exact Zq e1
theorem Zfl(G:Nat->V)(hG:GOk G)(c:Col)(l:Sl (List UInt8))(hl:l.l.length<=140737488351232):
  Spec Tryz.prog G 36 [Za c 1 V.str l] Zk (λv _=>∃ b,v=.bool b/\(b=true->l.l.length<=40)):=by
 refine Zo 0 19 [.tmp 2] Tryz.func36 λX=>?_;refine Z ?_;refine Zfa l.l.length (λk (_:Unit)=>st [(0,Za c 1 V.str l),(3,.int .i64 k)] []) (λ_ _=>True) 0 () (Nat.zero_le _) trivial (Zb zp zp) ?_;intro k _ hk _ L3 hL3
 by_cases hk1:k<l.l.length
 have hlt:decide ((k:Int)<(l.l.length:Int))=true:=zT;have hg:=List.getElem?_eq_getElem hk1;generalize l.l[k]=x at hg;have w1:IntKind.i64.wrap ((k:Int)+1)=(k:Int)+1:=w64 zo zo;refine Zf (zi hlt (zi hg (zi hk1 (zi @Int.natCast_nonneg @Int.ofNat_lt)))) ?_;refine Zc hG ?_ (s:=Z4b G x);cases q:Zxb x;refine Zg q ?_;exact⟨_,rfl,λh=>by cases h⟩;refine Zg (zi q w1) ?_;exact hL3 _ ⟨hk1,(),trivial,Zb zp zp⟩;have hke:k=l.l.length:=zo;have hlt:decide ((k:Int)<(l.l.length:Int))=false:=zF;rw[hke]at hlt⊢;refine Zf hlt ?_;exact⟨_,rfl,λh=>by have:=of_decide_eq_true h;omega⟩
theorem Z5b(G:Nat->V)(hG:GOk G)(c d:Col)(m:MdM)(hr:MdR m):Spec Tryz.prog G 35 [Z3 c d m] Zk (λv _=>∃ b,v=.bool b/\(b=true->FewM m)):=by
 refine Zo 0 97 [.tmp 2] Tryz.func35 λX=>?_;have b1:=hr.var.1;have b2:=hr.ev.1;have b3:=hr.rg.1;have b4:=hr.vt.1;have b5:=hr.wy.1;simp only[Zi];refine Z ?_;intro g1;refine AW.weak (Zx (λo=>o==1) (l:=[(1,.view .new (Z3 c d m))]) (m:=[]) ?_ trivial) ?_;refine Zs ?_;exact Fz.ptr (v:=Z3 c d m) (c:=.new) (fz:=0) zp zp;have w0:IntKind.i64.wrap ((m.vars.l.length:Int)+(m.events.l.length:Int))=(m.vars.l.length:Int)+(m.events.l.length:Int):=w64 zo zo
 by_cases h0:m.vars.l.length+m.events.l.length>0
 have f0:decide ((m.vars.l.length:Int)+(m.events.l.length:Int)>0)=true:=zT;refine Zf (zi w0 (zi f0 Zi)) ?_;exact⟨_,rfl,λh=>by cases h⟩;have f0:decide ((m.vars.l.length:Int)+(m.events.l.length:Int)>0)=false:=zF
 by_cases h1:m.verts.l.length>70
 have f1:decide ((m.verts.l.length:Int)>70)=true:=zT;refine Zf (zi w0 (zi f0 (zi f1 Zi))) ?_;exact⟨_,rfl,λh=>by cases h⟩;have f1:decide ((m.verts.l.length:Int)>70)=false:=zF
 by_cases h2:m.ways.l.length>600
 have f2:decide ((m.ways.l.length:Int)>600)=true:=zT;refine Zf (zi w0 (zi f0 (zi f1 (zi f2 Zi)))) ?_;exact⟨_,rfl,λh=>by cases h⟩;have f2:decide ((m.ways.l.length:Int)>600)=false:=zF
 by_cases h3:m.regions.l.length>70
 have f3:decide ((m.regions.l.length:Int)>70)=true:=zT;refine Zf (zi w0 (zi f0 (zi f1 (zi f2 (zi f3 Zi))))) ?_;exact⟨_,rfl,λh=>by cases h⟩;have f3:decide ((m.regions.l.length:Int)>70)=false:=zF;refine Z1f (zi w0 (zi f0 (zi f1 (zi f2 (zi f3 Zi))))) ?_;refine Z0 ?_;refine Zjb (fun(_:Unit)=>st [(1,.view .new (Z3 c d m))] []) (λ_=>∀ x∈m.verts.l,Zxb x.entry=true/\Zxb x.exit=true/\x.defers.l.length<=40) (λK1 hK1=>?_) ?_
 .refine Z ?_
  refine Zfa m.verts.l.length (λk (_:Unit)=>st [(1,.view .new (Z3 c d m)),(3,.int .i64 k)] []) (λk _=>∀ x∈m.verts.l.take k,Zxb x.entry=true/\Zxb x.exit=true/\x.defers.l.length<=40) 0 () (Nat.zero_le _) zS (Zb (zpf Zi) zp) ?_;intro k _ hk hR L3 hL3
  by_cases hk1:k<m.verts.l.length
  rotate_left;have hke:k=m.verts.l.length:=zo;have hlt:decide ((k:Int)<(m.verts.l.length:Int))=false:=zF;rw[hke,List.take_length]at hR;refine Zf (zi hlt Zi) ?_;exact hK1 _ () hR (Zb (zpf Zi) zp);have hlt:decide ((k:Int)<(m.verts.l.length:Int))=true:=zT;have hg:=List.getElem?_eq_getElem hk1;obtain⟨r1,r2,r3,r4,r5,_⟩:=hr.vt.2 _ (List.getElem_mem hk1)
  have htk:m.verts.l.take (k+1)=m.verts.l.take k++[m.verts.l[k]]:=by rw[List.take_succ_eq_append_getElem hk1]
  generalize m.verts.l[k]=x at hg r1 r2 r3 r4 r5 htk;unfold txR at r1 r2 r3 r4;have w1:IntKind.i64.wrap ((k:Int)+1)=(k:Int)+1:=w64 zo zo;have e1:IntKind.i64.wrap ((x.name.length:Int)+(x.entry.length:Int))=(x.name.length:Int)+(x.entry.length:Int):=w64 zo zo;have e2:IntKind.i64.wrap ((x.name.length:Int)+(x.entry.length:Int)+(x.exit.length:Int))=(x.name.length:Int)+(x.entry.length:Int)+(x.exit.length:Int):=w64 zo zo;have e3:IntKind.i64.wrap ((x.name.length:Int)+(x.entry.length:Int)+(x.exit.length:Int)+(x.sub.length:Int))=(x.name.length:Int)+(x.entry.length:Int)+(x.exit.length:Int)+(x.sub.length:Int):=w64 zo zo;have e4:IntKind.i64.wrap ((x.name.length:Int)+(x.entry.length:Int)+(x.exit.length:Int)+(x.sub.length:Int)+(x.defers.l.length:Int))=(x.name.length:Int)+(x.entry.length:Int)+(x.exit.length:Int)+(x.sub.length:Int)+(x.defers.l.length:Int):=w64 zo zo;refine Z1f (zi hlt Zi) ?_;refine Z1f (zi hg (zi hk1 (zi Zm (zi Zi (zi @Int.natCast_nonneg @Int.ofNat_lt))))) ?_;intro g4;refine Zs ?_;have f:=zi e1 (zi e2 (zi e3 (zi e4 Zm)))
  by_cases hs:x.name.length+x.entry.length+x.exit.length+x.sub.length+x.defers.l.length>9
  have q:decide ((x.name.length:Int)+(x.entry.length:Int)+(x.exit.length:Int)+(x.sub.length:Int)+(x.defers.l.length:Int)>9)=true:=zT;refine Zf (zi q f) ?_;exact⟨_,rfl,λh=>by cases h⟩;have q:decide ((x.name.length:Int)+(x.entry.length:Int)+(x.exit.length:Int)+(x.sub.length:Int)+(x.defers.l.length:Int)>9)=false:=zF;refine Zf (zi q (zi w1 f)) ?_;refine hL3 _ ⟨hk1,(),λy hy=>?_,Zb (zpf Zi) zp⟩;rw[htk]at hy
  rcases List.mem_append.1 hy with hy|hy
  exact hR y hy;rw[List.mem_singleton.1 hy];exact⟨by simp only[Zxb,Bool.or_eq_true,decide_eq_true_eq];omega,by simp only[Zxb,Bool.or_eq_true,decide_eq_true_eq];omega,zo⟩
 intro _ hvt;refine Zjb (fun(_:Unit)=>st [(1,.view .new (Z3 c d m))] []) (λ_=>∀ x∈m.ways.l,Zxb x.guard=true/\Zxb x.effect=true/\x.triggers.l.length<=40) (λK1 hK1=>?_) ?_
 .refine Z ?_
  refine Zfa m.ways.l.length (λk (_:Unit)=>st [(1,.view .new (Z3 c d m)),(5,.int .i64 k)] []) (λk _=>∀ x∈m.ways.l.take k,Zxb x.guard=true/\Zxb x.effect=true/\x.triggers.l.length<=40) 0 () (Nat.zero_le _) zS (Zb (zpf Zi) zp) ?_;intro k _ hk hR L3 hL3
  by_cases hk1:k<m.ways.l.length
  rotate_left;have hke:k=m.ways.l.length:=zo;have hlt:decide ((k:Int)<(m.ways.l.length:Int))=false:=zF;rw[hke,List.take_length]at hR;refine Zf (zi hlt Zi) ?_;exact hK1 _ () hR (Zb (zpf Zi) zp);have hlt:decide ((k:Int)<(m.ways.l.length:Int))=true:=zT;have hg:=List.getElem?_eq_getElem hk1;obtain⟨r1,r2,r3,r5,_⟩:=hr.wy.2 _ (List.getElem_mem hk1)
  have htk:m.ways.l.take (k+1)=m.ways.l.take k++[m.ways.l[k]]:=by rw[List.take_succ_eq_append_getElem hk1]
  generalize m.ways.l[k]=x at hg r1 r2 r3 r5 htk;unfold txR at r1 r2 r3;have w1:IntKind.i64.wrap ((k:Int)+1)=(k:Int)+1:=w64 zo zo;have e1:IntKind.i64.wrap ((x.name.length:Int)+(x.guard.length:Int))=(x.name.length:Int)+(x.guard.length:Int):=w64 zo zo;have e2:IntKind.i64.wrap ((x.name.length:Int)+(x.guard.length:Int)+(x.effect.length:Int))=(x.name.length:Int)+(x.guard.length:Int)+(x.effect.length:Int):=w64 zo zo;have e4:IntKind.i64.wrap ((x.name.length:Int)+(x.guard.length:Int)+(x.effect.length:Int)+(x.triggers.l.length:Int))=(x.name.length:Int)+(x.guard.length:Int)+(x.effect.length:Int)+(x.triggers.l.length:Int):=w64 zo zo;refine Z1f (zi hlt Zi) ?_;refine Z1f (zi hg (zi hk1 (zi Z6 (zi Zi (zi @Int.natCast_nonneg @Int.ofNat_lt))))) ?_;intro g6;refine Zs ?_;have f:=zi e1 (zi e2 (zi e4 Z6))
  by_cases hs:x.name.length+x.guard.length+x.effect.length+x.triggers.l.length>9
  have q:decide ((x.name.length:Int)+(x.guard.length:Int)+(x.effect.length:Int)+(x.triggers.l.length:Int)>9)=true:=zT;refine Zf (zi q f) ?_;exact⟨_,rfl,λh=>by cases h⟩;have q:decide ((x.name.length:Int)+(x.guard.length:Int)+(x.effect.length:Int)+(x.triggers.l.length:Int)>9)=false:=zF;refine Zf (zi q (zi w1 f)) ?_;refine hL3 _ ⟨hk1,(),λy hy=>?_,Zb (zpf Zi) zp⟩;rw[htk]at hy
  rcases List.mem_append.1 hy with hy|hy
  exact hR y hy;rw[List.mem_singleton.1 hy];exact⟨by simp only[Zxb,Bool.or_eq_true,decide_eq_true_eq];omega,by simp only[Zxb,Bool.or_eq_true,decide_eq_true_eq];omega,zo⟩
 intro _ hwy;refine Zf Zi ?_;exact⟨_,rfl,λ_=>⟨zo,zo,zo,zo,zo,hvt,hwy⟩⟩
theorem Zt6(G:Nat->V)(hG:GOk G)(c d:Col)(m:MdM)(hr:MdR m):Spec Tryz.prog G 11 [Z3 c d m] Zk (λv _=>∃ b,v=.bool b/\(b=true->FewM m)):=by
 refine Zo 0 122 [.tmp 2] Tryz.func11 λX=>?_;have b4:=hr.vt.1;have b5:=hr.wy.1;simp only[Zi];refine Z ?_;intro g1;refine AW.weak (Zx (λo=>o==1) (l:=[(1,.view .new (Z3 c d m))]) (m:=[]) ?_ trivial) ?_;refine Zs ?_;exact Fz.ptr (v:=Z3 c d m) (c:=.new) (fz:=0) zp zp;refine Zf Zi ?_;refine Zc hG ?_ (s:=Zyd G _ _);cases q:Z6h m.vars.l.length 64;refine Zg (zi q Zi) ?_;refine Ze hG ?_ (s:=Z5b G hG c.ent d.ent m hr);rintro _ ⟨b,rfl,hb⟩;refine Zs ?_;refine Z ?_;exact⟨b,rfl,hb⟩;have n1:=Z3f q;refine Zg (zi q Zi) ?_;refine Zc hG ?_ (s:=Zyd G _ _);cases q:Z6h m.events.l.length 64;refine Zg (zi q Zi) ?_;refine Ze hG ?_ (s:=Z5b G hG c.ent d.ent m hr);rintro _ ⟨b,rfl,hb⟩;refine Zs ?_;refine Z ?_;exact⟨b,rfl,hb⟩;have n2:=Z3f q;refine Zg (zi q Zi) ?_;refine Zc hG ?_ (s:=Zyd G _ _);cases q:Z6h m.regions.l.length 512;refine Zg (zi q Zi) ?_;refine Ze hG ?_ (s:=Z5b G hG c.ent d.ent m hr);rintro _ ⟨b,rfl,hb⟩;refine Zs ?_;refine Z ?_;exact⟨b,rfl,hb⟩;have n3:=Z3f q;refine Zg (zi q Zi) ?_;refine Zc hG ?_ (s:=Zyd G _ _);cases q:Z6h m.verts.l.length 512;refine Zg (zi q Zi) ?_;refine Ze hG ?_ (s:=Z5b G hG c.ent d.ent m hr);rintro _ ⟨b,rfl,hb⟩;refine Zs ?_;refine Z ?_;exact⟨b,rfl,hb⟩;have n4:=Z3f q;refine Zg (zi q Zi) ?_;refine Zc hG ?_ (s:=Zyd G _ _);cases q:Z6h m.ways.l.length 512;refine Zg (zi q Zi) ?_;refine Ze hG ?_ (s:=Z5b G hG c.ent d.ent m hr);rintro _ ⟨b,rfl,hb⟩;refine Zs ?_;refine Z ?_;exact⟨b,rfl,hb⟩
 have n5:=Z3f q;refine Zg (zi q Zi) ?_;refine Zc hG ?_ (s:=Z4b G m.name);cases q:Zxb m.name;refine Zg (zi q Zi) ?_;refine Ze hG ?_ (s:=Z5b G hG c.ent d.ent m hr);rintro _ ⟨b,rfl,hb⟩;refine Zs ?_;refine Z ?_;exact⟨b,rfl,hb⟩;refine Zsf q ?_;refine Z0 ?_;refine Zjb (fun(_:Unit)=>st [(1,.view .new (Z3 c d m))] []) (λ_=>∀ x∈m.verts.l,Zxb x.entry=true/\Zxb x.exit=true/\x.defers.l.length<=40) (λK1 hK1=>?_) ?_
 .refine Z ?_
  refine Zfa m.verts.l.length (λk (_:Unit)=>st [(1,.view .new (Z3 c d m)),(3,.int .i64 k)] []) (λk _=>∀ x∈m.verts.l.take k,Zxb x.entry=true/\Zxb x.exit=true/\x.defers.l.length<=40) 0 () (Nat.zero_le _) zS (Zb (zpf Zi) zp) ?_;intro k _ hk hR L3 hL3
  by_cases hk1:k<m.verts.l.length
  rotate_left;have hke:k=m.verts.l.length:=zo;have hlt:decide ((k:Int)<(m.verts.l.length:Int))=false:=zF;rw[hke,List.take_length]at hR;refine Zf (zi hlt Zi) ?_;exact hK1 _ () hR (Zb (zpf Zi) zp);have hlt:decide ((k:Int)<(m.verts.l.length:Int))=true:=zT;have hg:=List.getElem?_eq_getElem hk1;obtain⟨_,_,_,_,r5,_⟩:=hr.vt.2 _ (List.getElem_mem hk1)
  have htk:m.verts.l.take (k+1)=m.verts.l.take k++[m.verts.l[k]]:=by rw[List.take_succ_eq_append_getElem hk1]
  generalize m.verts.l[k]=x at hg r5 htk;have w1:IntKind.i64.wrap ((k:Int)+1)=(k:Int)+1:=w64 zo zo;refine Z1f (zi hlt Zi) ?_;refine Z1f (zi hg (zi hk1 (zi Zm (zi Zi (zi @Int.natCast_nonneg @Int.ofNat_lt))))) ?_;intro g4;refine Zs ?_;refine Zf Zm ?_;refine Zc hG ?_ (s:=Z4b G x.name);cases q:Zxb x.name;refine Zg q ?_;exact⟨_,rfl,λh=>by cases h⟩;refine Zg (zi q Zm) ?_;refine Zc hG ?_ (s:=Z4b G x.entry);cases q:Zxb x.entry;refine Zg q ?_;exact⟨_,rfl,λh=>by cases h⟩;refine Zg (zi q Zm) ?_;have s2:=q
  try clear q
  refine Zc hG ?_ (s:=Z4b G x.exit);cases q:Zxb x.exit;refine Zg q ?_;exact⟨_,rfl,λh=>by cases h⟩;refine Zg (zi q Zm) ?_;have s3:=q
  try clear q
  refine Zc hG ?_ (s:=Z4b G x.sub);cases q:Zxb x.sub;refine Zg q ?_;exact⟨_,rfl,λh=>by cases h⟩;refine Zg (zi q Zm) ?_;refine Ze hG ?_ (s:=Zfl G hG _ x.defers r5);rintro _ ⟨b,rfl,hb⟩;cases b;refine Zs ?_;refine Z ?_;exact⟨_,rfl,λh=>by cases h⟩;refine Zs ?_;refine Zf w1 ?_;refine hL3 _ ⟨hk1,(),λy hy=>?_,Zb (zpf Zi) zp⟩;rw[htk]at hy
  rcases List.mem_append.1 hy with hy|hy
  exact hR y hy;rw[List.mem_singleton.1 hy];exact⟨s2,s3,hb rfl⟩
 intro _ hvt;refine Zjb (fun(_:Unit)=>st [(1,.view .new (Z3 c d m))] []) (λ_=>∀ x∈m.ways.l,Zxb x.guard=true/\Zxb x.effect=true/\x.triggers.l.length<=40) (λK1 hK1=>?_) ?_
 .refine Z ?_
  refine Zfa m.ways.l.length (λk (_:Unit)=>st [(1,.view .new (Z3 c d m)),(5,.int .i64 k)] []) (λk _=>∀ x∈m.ways.l.take k,Zxb x.guard=true/\Zxb x.effect=true/\x.triggers.l.length<=40) 0 () (Nat.zero_le _) zS (Zb (zpf Zi) zp) ?_;intro k _ hk hR L3 hL3
  by_cases hk1:k<m.ways.l.length
  rotate_left;have hke:k=m.ways.l.length:=zo;have hlt:decide ((k:Int)<(m.ways.l.length:Int))=false:=zF;rw[hke,List.take_length]at hR;refine Zf (zi hlt Zi) ?_;exact hK1 _ () hR (Zb (zpf Zi) zp);have hlt:decide ((k:Int)<(m.ways.l.length:Int))=true:=zT;have hg:=List.getElem?_eq_getElem hk1;obtain⟨_,_,_,r5,_⟩:=hr.wy.2 _ (List.getElem_mem hk1)
  have htk:m.ways.l.take (k+1)=m.ways.l.take k++[m.ways.l[k]]:=by rw[List.take_succ_eq_append_getElem hk1]
  generalize m.ways.l[k]=x at hg r5 htk;have w1:IntKind.i64.wrap ((k:Int)+1)=(k:Int)+1:=w64 zo zo;refine Z1f (zi hlt Zi) ?_;refine Z1f (zi hg (zi hk1 (zi Z6 (zi Zi (zi @Int.natCast_nonneg @Int.ofNat_lt))))) ?_;intro g6;refine Zs ?_;refine Zf Z6 ?_;refine Zc hG ?_ (s:=Z4b G x.name);cases q:Zxb x.name;refine Zg q ?_;exact⟨_,rfl,λh=>by cases h⟩;refine Zg (zi q Z6) ?_;refine Zc hG ?_ (s:=Z4b G x.guard);cases q:Zxb x.guard;refine Zg q ?_;exact⟨_,rfl,λh=>by cases h⟩;refine Zg (zi q Z6) ?_;have s2:=q
  try clear q
  refine Zc hG ?_ (s:=Z4b G x.effect);cases q:Zxb x.effect;refine Zg q ?_;exact⟨_,rfl,λh=>by cases h⟩;refine Zg (zi q Z6) ?_;have s3:=q
  try clear q
  refine Ze hG ?_ (s:=Zfl G hG _ x.triggers r5);rintro _ ⟨b,rfl,hb⟩;cases b;refine Zs ?_;refine Z ?_;exact⟨_,rfl,λh=>by cases h⟩;refine Zs ?_;refine Zf w1 ?_;refine hL3 _ ⟨hk1,(),λy hy=>?_,Zb (zpf Zi) zp⟩;rw[htk]at hy
  rcases List.mem_append.1 hy with hy|hy
  exact hR y hy;rw[List.mem_singleton.1 hy];exact⟨s2,s3,hb rfl⟩
 intro _ hwy;refine Z ?_;exact⟨_,rfl,λ_=>⟨n1,n2,n3,n4,n5,hvt,hwy⟩⟩
end Go.Hs
end

section
namespace Go.Hs
theorem Zkg{α : Type}{m:Nat}{f : α -> V}(hf:∀ x,(f x).cells.length=m){j:Nat}{v:V}(hj:j<m):∀ {l:List α} {i:Nat} {x y : α},l[i]?=some x->(f y).cells=(f x).cells.set j v->(flat (l.map f)).set (i*m+j) v=flat ((l.set i y).map f)
 |[],i,x,y,h,_=>by simp at h
 |z::t,0,x,y,h,hy=>by
  obtain rfl:z=x:=zu h
  show((f z).cells++flat (t.map f)).set (0*m+j) v=(f y).cells++flat (t.map f)
  rw[Nat.zero_mul,Nat.zero_add,List.set_append,if_pos (by rw[hf];exact hj),hy]
 |z::t,i+1,x,y,h,hy=>by
  show((f z).cells++flat (t.map f)).set ((i+1)*m+j) v=(f z).cells++flat ((t.set i y).map f)
  rw[List.set_append,if_neg (by rw[hf,Nat.succ_mul];omega),hf,show(i+1)*m+j-m=i*m+j by rw[Nat.succ_mul];omega,Zkg hf hj (zu h) hy]
theorem Zjv{α : Type}{m:Nat}{f : α -> V}(hf:∀ x,(f x).cells.length=m){j:Nat}{v:V}(hj:j<m):∀ {l:List α} {i:Nat} {x : α},l[i]?=some x->(f x).cells[j]?=some v->(flat (l.map f))[i*m+j]?=some v
 |[],i,x,h,_=>by simp at h
 |z::t,0,x,h,hy=>by
  obtain rfl:z=x:=zu h
  show((f z).cells++flat (t.map f))[0*m+j]?=some v
  rw[Nat.zero_mul,Nat.zero_add,List.getElem?_append_left (by rw[hf];exact hj),hy]
 |z::t,i+1,x,h,hy=>by
  show((f z).cells++flat (t.map f))[(i+1)*m+j]?=some v
  rw[List.getElem?_append_right (by rw[hf,Nat.succ_mul];omega),hf,show(i+1)*m+j-m=i*m+j by rw[Nat.succ_mul];omega];exact Zjv hf hj (zu h) hy
end Go.Hs
end
