/- A part. No condition. -/
import Derived.Test.YtjplgaebbfabnaaGreatDoorP38
import Derived.Test.YtjplgaebbfabnaaGreatDoorP39
import Derived.Test.YtjplgaebbfabnaaGreatDoorRows
import Derived.ProofKit
import Derived.OpenShut
import Derived.LaidLaws
import Derived.Stop.LaidErr
import Derived.Lib.LaidTab
import Derived.Handed
import Derived.ChangeMaps5
set_option linter.all false
section
namespace Go.Hs
open Go.Proofs
set_option maxRecDepth 10000
def sdO(gx:Nat)(l:List ASt):AObj:=Yb gx (R3 .new) l
def rdS(l:List Tk)(i:Nat)(acc:List ASt):Bool×CU×List ASt:=
 if acc.length=512 then(false,⟨i,3⟩,acc)else((Ul l i).2.2==0,⟨(Ul l i).2.1.toNat,(Ul l i).2.2⟩,acc++[(Ul l i).1])
theorem F9(G:Nat->V)(t:GExp G)(a:Sl Tk)(s:TkOk a.l)(g:Nat)(i:Nat)(hi:i<a.l.length)(acc:List ASt)(B:acc.length<=512)(gx:Nat):
  InSp Tryz.prog G 115 [.ptr 21 g 0] (Z5 Zj [(21,Bj a g (grown 1038 gx 3 acc) ⟨i,0⟩),(1038,sdO gx acc)])
   (λv H'=>v=.bool (rdS a.l i acc).1/\∃ gx',H' 21=Bj a g (grown 1038 gx' 3 (rdS a.l i acc).2.2) (rdS a.l i acc).2.1/\H' 1038=sdO gx' (rdS a.l i acc).2.2):=by
 have k:=t.ok;have C:=s.len
 have d:rdS a.l i acc=if acc.length=512 then(false,⟨i,3⟩,acc)else((Ul a.l i).2.2==0,⟨(Ul a.l i).2.1.toNat,(Ul a.l i).2.2⟩,acc++[(Ul a.l i).1]):=rfl
 generalize rdS a.l i acc=z at d⊢;refine Yr 1000 42 [.tmp 2] Tryz.func115 rfl rfl rfl rfl λX=>?_;simp only[Z5];refine Z1 ?_;refine Z1 ?_
 by_cases y:acc.length=512
 rw[if_pos y]at d
 have r:((acc.length:Int)==512)=true:=by rw[beq_iff_eq];omega
 refine Yz λE h=>?_;refine Zf (zi @R7 r) ?_;rw[d];exact⟨rfl,gx,zp,zp⟩;rw[if_neg y]at d
 have r:((acc.length:Int)==512)=false:=by rw[beq_eq_false_iff_ne];omega
 refine Wq (fun(_:Unit)=>st [(0,.ptr 21 g 0),(3,.func (.func (if Wi a.l i=Ox then 185 else 183)) [.ptr 21 g 0] [])] [(21,Bj a g (grown 1038 gx 3 acc) ⟨i,0⟩),(1038,sdO gx acc)]) (λ_=>True) (λE h=>?_) ?_;refine Xm (zi @R7 r) ?_;refine Z1 ?_;refine CuS.call k (Le G k a g ⟨i,0⟩ Ox) (λF=>So F _ _ _ _) zk rfl rfl zr ?_;rw[decide_eq_true hi,Bool.true_and];refine Zu ?_
 by_cases j:Wi a.l i=Ox
 have p:(Wi a.l i==Ox)=true:=zu j;rw[p];rw[if_pos j]at h;refine Z1 ?_;exact h _ () trivial (Weak.st zp zp);have p:(Wi a.l i==Ox)=false:=zu j;rw[p];rw[if_neg j]at h;refine Z0 ?_;exact h _ () trivial (Weak.st zp zp);intro _ _
 have c:Ul a.l i=if Wi a.l i=Ox then Sk a.l 2 [40] [[41],[59]] (i+1)else Sk a.l 1 [58,61] [[59]] i:=rfl
 by_cases j:Wi a.l i=Ox
 rw[if_pos j]at c;rw[if_pos j];have b:=Zfu G t a s g i j;rw[<- c]at b;have o:=(En a.l i).ge;generalize Ul a.l i=q at d b o;obtain⟨x,m,e⟩:=q;simp only at d b o;generalize A:m.toNat=n at d b;refine Z1 ?_;refine CuS.call k b (λF=>So F _ _ _ _) zk rfl (by first|rfl|(simp -implicitDefEqProofs only[go_sem,seval,Nx,Xk];try rfl)) zr ?_;simp -implicitDefEqProofs only[go_sem,seval,Z5,Nx];intro D;refine I7 @R7 k ?_;intro u;refine Ys (f:=R3 .new) (l:=acc) (l2:=[x]) (g:=gx) (M9 _) rfl rfl rfl zp (Z4 zo zO) λw=>?_;refine Zs ?_;refine Z ?_;rw[d];exact⟨rfl,w,zp,zp⟩;rw[if_neg j]at c;rw[if_neg j];have b:=Ztd G t a s g i zo;rw[<- c]at b;have o:=(En a.l i).ge;generalize Ul a.l i=q at d b o;obtain⟨x,m,e⟩:=q;simp only at d b o;generalize A:m.toNat=n at d b;refine Z1 ?_;refine CuS.call k b (λF=>So F _ _ _ _) zk rfl (by first|rfl|(simp -implicitDefEqProofs only[go_sem,seval,Nx,Xk];try rfl)) zr ?_;simp -implicitDefEqProofs only[go_sem,seval,Z5,Nx];intro D;refine I7 @R7 k ?_;intro u;refine Ys (f:=R3 .new) (l:=acc) (l2:=[x]) (g:=gx) (M9 _) rfl rfl rfl zp (Z4 zo zO) λw=>?_;refine Zs ?_;refine Z ?_;rw[d];exact⟨rfl,w,zp,zp⟩
@[go_sem] theorem noMp_cuO(S:Sl Tk)(g:Nat)(v:V)(r:CU):(Bj S g v r).noMp=Bj S g v r:=rfl
@[go_sem] theorem noMp_sdO(g:Nat)(l:List ASt):(sdO g l).noMp=sdO g l:=by cases l<;>rfl
theorem Zq8{l:List Tk}{n f i:Nat}{acc:List ASt}(hi:i<l.length):Kn l n (f+1) i acc =
  if(rdS l i acc).1=false then([],Hp l n ((rdS l i acc).2.1.i:Int),(rdS l i acc).2.1.e)else Kn l n f (rdS l i acc).2.1.i (rdS l i acc).2.2:=by
 rw[Kn,if_neg zo];unfold rdS
 by_cases b:acc.length=512
 rw[if_pos b,if_pos b]<;>rfl
 rw[if_neg b,if_neg b];have c:=(En l i).ge
 by_cases a:(Ul l i).2.2=0
 rw[if_neg (zu a),if_neg (by simp[a])];have q:((Ul l i).2.2==0)=false:=zu a;rw[if_pos a,if_pos q];simp only[Int.toNat_of_nonneg (show 0<=(Ul l i).2.1 by omega)]
theorem Z55{l:List Tk}{i:Nat}{acc:List ASt}(h:(rdS l i acc).1=true):(rdS l i acc).2.1.e=0/\i<(rdS l i acc).2.1.i/\(rdS l i acc).2.1.i<=l.length/\(rdS l i acc).2.2.length=acc.length+1/\acc.length≠512:=by
 unfold rdS at h⊢
 by_cases a:acc.length=512
 rw[if_pos a]at h;cases h;rw[if_neg a]at h⊢;have b:(Ul l i).2.2=0:=zu h;obtain⟨d,c⟩:=(En l i).ok b;refine⟨b,?_,?_,by rw[List.length_append]<;>rfl,a⟩
 show i<(Ul l i).2.1.toNat;omega
 show(Ul l i).2.1.toNat<=l.length;omega
def Ze8(r:List ASt×Int×Int):V:=.tuple [.agg [Gi .new r.1],.int .i64 r.2.1,.int .i64 r.2.2]
theorem Fo(G:Nat->V)(P:GExp G)(s:List UInt8)(R:s.length<100000):Spec Tryz.prog G 72 [.str s] Zj (λv _=>v=Ze8 (Tu s)):=by
 have O:=P.ok;refine Zo 0 69 [.cell 2 100,.tmp 3,.tmp 4] Tryz.func72 λX=>?_
 have C:Tu s=if(Y4 s).2.2≠0 then(([]:List ASt),(Y4 s).2.1,(Y4 s).2.2)else Kn (Y4 s).1 s.length ((Y4 s).1.length+1) 0 []:=rfl
 generalize Tu s=K at C⊢;have I:=El R;have U:=Th G P s R;generalize Y4 s=p at C I U;obtain⟨l,at0,Q⟩:=p;simp only at C I;have hTl:=I.len;refine Z1 ?_;intro r;refine Z1 ?_;refine Zn O ?_ (s:=U);refine Xr (zi @encTok.eq_1 (zi @encTks.eq_1 @Vl)) ?_;have W:(Zd l).l=l:=Zm l;generalize Zd l=S at W;subst W;refine Z6 ?_
 by_cases H:Q=0
 rotate_left;rw[if_pos H]at C;have M:(Q==0)=false:=zu H;refine Ua zk ?_;simp -implicitDefEqProofs only[go_sem,seval,bne,M];refine Z ?_
 rw[C]<;>rfl
 rw[if_neg (zu H)]at C;have M:(Q==0)=true:=zu H;refine Ua zk ?_;simp -implicitDefEqProofs only[go_sem,seval,bne,M];refine Z1 ?_;intro d;refine AW.weak (Zl (λ_=>false) (l:=[(0,.str s),(2,.ptr 2 r 0),(5,Za .new 3 Wu S),(6,.ptr 21 d 0)]) (m:=[(2,.cells .new r 0 [.nils]),(21,Bj S d .nils ⟨0,0⟩)]) ?_ ?_) ?_;refine Zs ?_;exact⟨Zb,Zb,Zb,Zb⟩;simp only[Zt,Zv,and_true];exact⟨FzO.keep rfl zp,Gt (c:=.new) (fz:=0) (cs:=[Za .new 3 Wu S,.int .i64 0,.int .i64 0,.nils]) rfl zp ⟨Fz.any (T9 @Vl),Zb,Zb,Zb,trivial⟩⟩;refine Z6 ?_;refine AW.block ?_
 refine Vs (fun(x:(Nat×Nat)×List ASt)=>st [(0,.str s),(2,.ptr 2 r 0),(5,Za .new 3 Wu S),(6,.ptr 21 d 0)] [(2,.cells .new r 0 [.nils]),(21,Bj S d (grown 1038 x.1.1 3 x.2) ⟨x.1.2,0⟩),(1038,sdO x.1.1 x.2)])
  (λx=>x.1.2<=S.l.length/\x.2.length<=512/\∃ f,S.l.length<f+x.1.2/\Kn S.l s.length f x.1.2 x.2=K) (λx=>S.l.length-x.1.2) ((0,0),[]) ⟨Nat.zero_le _,Nat.zero_le _,S.l.length+1,Nat.lt_succ_self _,C.symm⟩
  (Weak.st zp (by refine Zs ?_;first|rfl|exact⟨rfl,rfl⟩)) ?_
 rintro⟨⟨J,i⟩,g⟩ ⟨Y,F,f,hf,h⟩ L3 N;simp only at Y F hf h;refine Z6 ?_
 cases f with
 |zero=>omega
 |succ f=>
 refine Xm @R7 ?_;refine Z2 rfl (λE=>?_) (λE=>?_);rotate_left
 have u:S.l.length<=i:=by have:=zN E;omega
 rw[Kn,if_pos u]at h;refine Z0 ?_;refine AW.weak (Zl (λo=>o==1038) (l:=[(2,.ptr 2 r 0),(6,.ptr 21 d 0)]) (m:=[(2,.cells .new r 0 [.nils]),(21,.cells .any d 0 [.top,.int .i64 i,.int .i64 0,Za .new 3 (R3 .new) (Zd g)])]) ?_ ?_) ?_;refine Zs ?_
 first|exact⟨Zb,Zb⟩|exact Zb
 simp only[Zt,Zv,and_true];exact⟨FzO.keep rfl zp,FzO.of (c:=.any) (fz:=0) (cs:=[Za .any 3 Wu S,.int .i64 i,.int .i64 0,grown 1038 J 3 g]) rfl zp ⟨Fz.top _,Zb,Zb,Y5 rfl zp (M9 _),trivial⟩⟩;refine Z ?_
 rw[<- h]<;>rfl
 have u:i<S.l.length:=zL E;rw[Zq8 u]at h;refine Z0 ?_;refine AW.block ?_;have y:=F9 G P S I d i u g F J;have z := @Z55 S.l i g;generalize rdS S.l i g=q at h y z;obtain⟨b,⟨j,e⟩,a⟩:=q;simp only at h y z;refine Z1 ?_;refine CallA.inl [(21,Bj S d (grown 1038 J 3 g) ⟨i,0⟩),(1038,sdO J g)] zk ?_ ?_;intro p T;simp only[List.mem_cons,List.not_mem_nil,or_false]at T
 rcases T with rfl|rfl
 .simp -implicitDefEqProofs only[go_sem,seval];try rfl
 .simp -implicitDefEqProofs only[go_sem,seval];try rfl
 refine y.mono ?_;rintro _ H' ⟨rfl,n,L,w⟩;simp only[List.map_cons,List.map_nil,L,w]
 cases b with
 |true=>
  obtain⟨rfl,hj,A,hal,ha5⟩:=z rfl;rw[if_neg zd]at h;refine Zu ?_;refine Z0 ?_;refine N _ ⟨((n,j),a),?_,⟨?_,?_,f,?_,h⟩,Weak.st zp zp⟩
  show S.l.length-j<S.l.length-i;omega
  show j<=_;omega
  show a.length<=_;omega
  show S.l.length<f+j;omega
 |false=>
  rw[if_pos rfl]at h;refine Zu ?_;refine Xm @R7 ?_;refine Z2 rfl (λD=>?_) (λD=>?_);have A:j<S.l.length:=zL D;have B:=List.getElem?_eq_getElem A;generalize S.l[j]=t at B;rw[Zi6 B]at h;refine AW.weak (Zl (λo=>o==21) (l:=[(0,.str s),(2,.ptr 2 r 0),(5,Za .new 3 Wu S),(6,.view .any (.agg [Za .any 3 Wu S,.int .i64 j,.int .i64 e,grown 1038 n 3 a]))]) (m:=[(2,.cells .new r 0 [.nils])]) ?_ ?_) ?_;refine Zs ?_;exact⟨Zb,Zb,Zb,Fz.ptr (c:=.any) (fz:=0) (v:=.agg [Za .any 3 Wu S,.int .i64 j,.int .i64 e,grown 1038 n 3 a]) rfl zp⟩;simp only[Zt,Zv,and_true];exact FzO.keep rfl zp
  refine Z6<|Zy ⟨λ_=>.top,λk=>if k=6 then .lend else if k=9 then .lend else if k=14 then .lend else .pure⟩ zk O zk zk ?_
  refine Xr (zi B @Vr) ?_;refine Z ?_
  rw[<- h]<;>rfl
  have A:¬ j<S.l.length:=by have:=zN D;omega
  refine Z0 ?_;refine AW.weak (Zl (λo=>o==21) (l:=[(0,.str s),(2,.ptr 2 r 0),(5,Za .new 3 Wu S),(6,.view .any (.agg [Za .any 3 Wu S,.int .i64 j,.int .i64 e,grown 1038 n 3 a]))]) (m:=[(2,.cells .new r 0 [.nils])]) ?_ ?_) ?_;refine Zs ?_;exact⟨Zb,Zb,Zb,Fz.ptr (c:=.any) (fz:=0) (v:=.agg [Za .any 3 Wu S,.int .i64 j,.int .i64 e,grown 1038 n 3 a]) rfl zp⟩;simp only[Zt,Zv,and_true];exact FzO.keep rfl zp
  refine Z6<|Zy ⟨λ_=>.top,λk=>if k=7 then .lend else .pure⟩ zk O zk zk ?_
  refine Zs ?_;refine Z ?_;rw[<- h];unfold Hp
  rw[if_neg zo]<;>rfl
theorem Z41{b:List ASt}(h:Qh b=0):b.length<=512/\∀ s∈b,Mn s=true:=by
 unfold Qh at h
 split at h
 cases h
 split at h
 rename_i c a;rw[List.all_eq_true]at a;exact⟨zo,a⟩;cases h
theorem Z51(l:List ASt):Qh l=0\/Qh l=2:=by
 unfold Qh
 split
 exact .inr rfl
 split
 exact .inl rfl;exact .inr rfl
theorem Up(w:List UInt8):(V.str w).cells.length=1:=rfl
def encTy(r:Int×Int):V:=.tuple [.int .i64 r.1,.int .i64 r.2]
theorem Z3y{s:ASt}(h:Mn s=true):s.kind=1\/s.kind=2:=by
 simp only[Mn,Bool.and_eq_true,Bool.or_eq_true,beq_iff_eq]at h;exact h.1.1
theorem Fi(G:Nat->V)(c:Col)(s:Sl (List UInt8))(a:s.l.length<1000000):InSp Tryz.prog G 64 [Za c 1 V.str s] (Z5 Zj [(5005,.dead)])
  (λv H'=>(s=.nil/\v=.nils/\H' 5005=.dead)\/(∃ g,v=.msl 5005 g 0 s.l.length 1/\H' 5005=.cells .new g 0 (flat (s.l.map V.str)))):=by
 refine Yr 5000 8 [.tmp 2] Tryz.func64 rfl rfl rfl rfl λX=>?_;simp only[Z5]
 cases s with
 |nil=>
  refine Z1 ?_;refine Z6 ?_;simp only[Za];refine Z ?_;exact .inl (by first|rfl|exact⟨rfl,rfl,rfl⟩|exact⟨rfl,rfl⟩)
 |mk b l=>
  refine Z1 ?_;refine Z6 ?_;have d:(Za c 1 V.str (.mk b l))=.slice c b 1 (l.map V.str):=rfl;rw[d];refine Z1 ?_;refine Z1 ?_;have f:l.length<1000000:=a;intro g;refine⟨Z4 zo (by rw[List.length_map];omega),λe=>?_⟩;refine Z ?_;exact .inr ⟨e,by rw[List.length_map],zr⟩
theorem Z2k(G:Nat->V)(hE:GExp G)(c c1 F M:Col)(s:Sl AM)(b d:Sl (List UInt8))(hs:s.l.length<1000000)(hb:∀ a∈s.l,AmB a)(hv:b.l.length<100000)(hev:d.l.length<1000000):
  Spec Tryz.prog G 228 [.agg [Za c 3 (Ss c1) s],Za F 1 V.str b,Za M 1 V.str d] Zj (λv _=>v=encTy (E6 (s.l.map AM.v) b.l d.l)):=by
 have Y:=hE.ok;refine Zo 0 57 [.tmp 6,.tmp 7] Tryz.func228 λX=>?_
 have Q:E6 (s.l.map AM.v) b.l d.l=if Qh (s.l.map AM.v)≠0 then(0,2)else Ks b.l d.l ((s.l.map AM.v).drop 0) (0:Nat):=rfl
 generalize E6 (s.l.map AM.v) b.l d.l=res at Q⊢;have O:=λc=>Z3k G hE c c1.ent s hs hb;have N := @Z41 (s.l.map AM.v);have U:=Z51 (s.l.map AM.v);generalize Qh (s.l.map AM.v)=ck at Q O N U;refine Z1 ?_;intro g3;refine Z1 ?_;refine Znf @Hm Y ?_ (s:=(O _))
 rcases U with rfl|rfl
 rotate_left;refine Zs ?_;refine Z ?_
 rw[Q]<;>rfl
 refine Zs ?_;refine Z0 ?_;obtain⟨_,P⟩:=N rfl;rw[if_neg zd]at Q
 have E:∀ (n:Sl (List UInt8)),n.l=b.l++[R9]->∀ x,H5 n.l x=H5 (b.l++[R9]) x:=λn h x=>by rw[h]
 refine Wq (fun(n:Sl (List UInt8))=>st [(1,Za F 1 V.str b),(2,Za M 1 V.str d),(3,.ptr 3 g3 0),(8,Za .new 1 V.str n)] [(3,.cells .new g3 0 [Za c 3 (Ss c1) s])]) (λn=>n.l=b.l++[R9]) (λK2 A=>?_) ?_;refine Z1 ?_;refine CallA.inl [(5005,.dead)] zk ?_ ?_;intro p hp;rw[List.mem_singleton]at hp;subst hp;exact zp;refine(Fi G F b zo).mono ?_;rintro _ H' (⟨rfl,rfl,q⟩|⟨g5,rfl,q⟩);simp only[List.map_cons,List.map_nil,q];refine Zu ?_;intro g18;refine⟨Z4 zo zo,λh=>absurd h zd,λ_ L=>?_⟩;refine Zs ?_;refine A _ (.mk false [R9]) rfl (Zl (λo=>o==19) ?_ ?_);refine Zs ?_;refine⟨Zb,Zb,Zb,?_⟩;exact Xa (f:=V.str) (l:=[R9]) (m:=1) (g:=L) (fz:=0) (c:=.new) rfl zp Up;simp only[Zt,Zv,and_true];exact FzO.keep rfl zp;simp only[List.map_cons,List.map_nil,q];refine Zu ?_;intro g18
 have y:List.take (b.l.length*1) (flat (List.map V.str b.l))++[V.str [97,114,103]]=flat ((b.l++[R9]).map V.str):=by
  rw[List.take_of_length_le (by rw[Xu Up];exact Nat.le_refl _),List.map_append,U6];rfl
 have e1:b.l.length+1=(b.l++[R9]).length:=by rw[List.length_append]<;>rfl
 refine⟨Z4 zo zo,by rw[Xu Up];exact Nat.le_refl _,Nat.zero_le _,λL=>?_⟩;rw[y];refine A _ (.mk false (b.l++[R9])) rfl (Zl (λo=>o==5005) ?_ ?_);refine Zs ?_;refine⟨Zb,Zb,Zb,?_⟩;rw[e1];exact Xa (f:=V.str) (l:=b.l++[R9]) (m:=1) (g:=L) (fz:=0) (c:=.new) rfl zp Up;simp only[Zt,Zv,and_true];exact FzO.keep rfl zp;intro n R;have hcg:=E n R;have hof:=λc c1 (x:Sl XN) (h1:x.l.length<1000000) h2=>Z6h G hE c c1 x n h1 h2 (by rw[R,List.length_append];show _+1<_;omega)
 try clear E
 refine Yz λK2 A=>?_;refine Z1 ?_;refine AW.block ?_
 refine Yc s.l.length (λk (_:Unit)=>st [(1,Za F 1 V.str b),(2,Za M 1 V.str d),(8,Za .new 1 V.str n),(21,Za c 3 (Ss c1) s),(22,.int .i64 s.l.length),(23,.int .i64 k)] [])
  (λk _=>Ks b.l d.l ((s.l.map AM.v).drop k) (k:Nat)=res) 0 () (Nat.zero_le _) Q.symm
  (Weak.st zp zp) ?_
 rintro k _ hk u L3 hL3;refine Z1 ?_;refine Z6 ?_;refine Z2 rfl (λK=>?_) (λK=>?_);rotate_left
 have t:k=s.l.length:=by have:=zN K;omega
 refine Z0 ?_;refine A _ ?_;rw[List.drop_of_length_le (by rw[List.length_map];omega)]at u;refine Z ?_
 rw[<- u]<;>rfl
 have t:k<s.l.length:=zL K;have hg:=List.getElem?_eq_getElem t;have J:=hb _ (List.getElem_mem t);have C:=P _ (List.mem_map_of_mem (f:=AM.v) (List.getElem_mem t))
 have hgv:(s.l.map AM.v)[k]?=some (s.l[k]).v:=by rw[List.getElem?_map,hg]<;>rfl
 rw[Zzh hgv]at u;generalize s.l[k]=a at hg J C u;have hkd:=Z3y C;have i:stT b.l d.l a.v=((if a.kind=2 then d.l.contains a.name else b.l.contains a.name)&&Bd (b.l++[R9]) a.x.l):=rfl;refine Xm (zi hg @Ny) ?_;intro B;refine Z1 ?_
 refine Wq (fun(H:Sl (List UInt8))=>st [(1,Za F 1 V.str b),(2,Za M 1 V.str d),(8,Za .new 1 V.str n),(9,.int .i64 k),(10,.ptr 10 B 0),(11,Za (if a.kind=2 then M else F) 1 V.str H),(21,Za c 3 (Ss c1) s),(22,.int .i64 s.l.length),(23,.int .i64 k)] [(10,.cells .new B 0 [.int .u8 a.kind,.str a.name,Za c1 6 Xp a.x])])
  (λH=>H.l.length<1000000/\H.l.contains a.name=(if a.kind=2 then d.l.contains a.name else b.l.contains a.name)) (λK6 z=>?_) ?_
 rcases hkd with e|e
 have e:a.kind=1:=e
 have q2:(a.kind==2)=false:=by rw[e]<;>rfl
 rw[if_neg (by rw[e];decide),if_neg (by rw[e];decide)]at z;refine Xm q2 ?_;refine Z0 ?_;exact z _ b ⟨zo,rfl⟩ (Weak.st zp zp);have e:a.kind=2:=e;have q2:(a.kind==2)=true:=zu e;rw[if_pos e,if_pos e]at z;refine Xm q2 ?_;refine Z1 ?_;exact z _ d ⟨hev,rfl⟩ (Weak.st zp zp);rintro H ⟨hNK,S⟩;generalize(if a.kind=2 then M else F)=cK;rw[<- S]at i;refine Z1 ?_
 refine Wq (fun(j:Int)=>st [(1,Za F 1 V.str b),(2,Za M 1 V.str d),(8,Za .new 1 V.str n),(9,.int .i64 k),(10,.ptr 10 B 0),(11,Za cK 1 V.str H),(12,.int .u8 j),(21,Za c 3 (Ss c1) s),(22,.int .i64 s.l.length),(23,.int .i64 k)] [(10,.cells .new B 0 [.int .u8 a.kind,.str a.name,Za c1 6 Xp a.x])])
  (λj=>(j==1)=Bd (b.l++[R9]) a.x.l) (λK7 T=>?_) ?_
 by_cases I:a.x.l.length=0
 have w:Bd (b.l++[R9]) a.x.l=true:=by unfold Bd;rw[List.length_eq_zero_iff.1 I]<;>rfl
 have q5:decide ((a.x.l.length:Int)>0)=false:=zF;refine Xm q5 ?_;refine Z0 ?_;exact T _ 1 (by rw[w]<;>rfl) (Weak.st zp zp);have q5:decide ((a.x.l.length:Int)>0)=true:=zT
 have w:Bd (b.l++[R9]) a.x.l=((H5 n.l a.x.l).1==1):=by
  unfold Bd;rw[<- hcg]
  cases hq:a.x.l with
  |nil=>rw[hq]at I;exact absurd rfl I
  |cons=>rfl
 refine Xm q5 ?_;refine Z1 ?_;refine Znf @Xk Y ?_ (s:=(hof _ _ a.x J.l J.x));generalize H5 n.l a.x.l=r at w;obtain⟨j,i0,e0⟩:=r;refine Xr @encO3.eq_1 ?_;exact T _ j w.symm (Weak.st zp zp);intro j D
 cases W:(j==1)with
 |false=>
  rw[<- D,W,Bool.and_false]at i;rw[if_neg (by rw[i];decide)]at u;refine Ua zk ?_;simp -implicitDefEqProofs only[go_sem,seval,bne,W];refine Z ?_
  rw[<- u]<;>rfl
 |true=>
  rw[<- D,W,Bool.and_true]at i;refine Ua zk ?_;simp -implicitDefEqProofs only[go_sem,seval,bne,W];refine Zc Y ?_ (s:=(U2 G Y _ a.name H hNK))
  cases q7:H.l.contains a.name with
  |false=>
   rw[q7]at i;rw[if_neg (by rw[i];decide)]at u;refine Z ?_
   rw[<- u]<;>rfl
  |true=>
   rw[q7]at i;rw[if_pos i]at u;refine Z1 ?_;exact hL3 _ ⟨t,(),u,Weak.st zw zp⟩
end Go.Hs
end

section
namespace Go.Proofs.YtjplgaebbfabnaaGreatDoor
open Go.RowKit Go.Hs
set_option maxRecDepth 100000
def Pu:List (String × DataW Unit):=[("math/bits.deBruijn32tab",Rows.laid_math_bits_deBruijn32tab),("math/bits.deBruijn64tab",Rows.laid_math_bits_deBruijn64tab),("internal/strconv.uint64pow10",Rows.laid_internal_strconv_uint64pow10),("unicode/utf8.acceptRanges",Rows.laid_unicode_utf8_acceptRanges),("strconv.ErrRange",Rows.laid_strconv_ErrRange),("strconv.ErrSyntax",Rows.laid_strconv_ErrSyntax),("hopscotch/lex.signs",Rows.laid_hopscotch_lex_signs),("unicode/utf8.first",Rows.laid_unicode_utf8_first)]
noncomputable def low:Nat:=(World.holding Tryz.prog default ⟨#[],#[],[]⟩).heap.size
def b32:List Int:=[0,1,28,2,29,14,24,3,30,22,20,15,25,17,4,8,31,27,13,23,21,19,16,7,26,12,18,6,11,5,10,9]
def b64:List Int:=0::1::56::2::57::49::28::3::61::58::42::50::38::29::17::4::62::47::59::36::45::43::51::22::53::39::33::30::24::18::12::5::63::55::48::27::60::41::37::16::46::35::44::21::52::32::23::11::54::26::40::15::34::20::31::10::25::14::19::9::13::8::7::6::[]
def acR:List Int:=[128,191,160,191,128,159,144,191,128,143]++List.replicate 22 0
def errR:ByteArray:={ data := #[118,97,108,117,101,32,111,117,116,32,111,102,32,114,97,110,103,101] }
def errS:ByteArray:={ data := #[105,110,118,97,108,105,100,32,115,121,110,116,97,120] }
def Sj(cs:Array Value):Obj->Obj
 |.cells _ t frozen=>.cells cs t frozen
 |o=>o
noncomputable def laidWorld (os:Os):World:=
 let w0:=World.holding Tryz.prog os ⟨#[.cells #[.string errR] 378,.cells #[.string errS] 378],#[],[]⟩
 { w0 with heap:=(((((((w0.heap.modify 2 (Sj #[.iface 376 (.pointer (some ⟨low,0,none⟩))])).modify 5 (Sj #[.iface 376 (.pointer (some ⟨low+1,0,none⟩))])).modify 6
   (Sj (Lib.pow10Tab.map (Value.int .u64)).toArray)).modify 7 (Sj (b32.map (Value.int .u8)).toArray)).modify 8 (Sj (b64.map (Value.int .u8)).toArray)).modify 4 (Sj (acR.map (Value.int .u8)).toArray)).modify
   0 (Sj (signsL.map λs=>Value.string ⟨s.toArray⟩).toArray)).modify 3 (Sj (Pinned.utf8FirstZ.map fun(n:Nat)=>Value.int .u8 (n:Int)).toArray) }
theorem Ar(os:Os)(args:Array Value):laidMet Tryz.prog Pu ((laidWorld os).forCall (λ_ _=>0) ⟨#[],args,[]⟩).memory:=
 laidMet_of_run' 8 (by kernel_rfl) (by kernel_rfl)
end Go.Proofs.YtjplgaebbfabnaaGreatDoor
end

section
namespace Go.Proofs.YtjplgaebbfabnaaGreatDoor
open Go.RowKit Go.Hs
set_option maxRecDepth 100000
theorem Wa{P:Program}{W:World}{x:String×DataW Unit}{r:List (String×DataW Unit)}(h:laidMet P (x::r) W):laidMet P r W:=by
 obtain⟨n,d⟩:=x;obtain⟨ps,⟨s,t0,p,t,q,f,l,i,g,m,j,o⟩,e,a⟩:=h;subst o;exact⟨f,j,(List.nodup_append.1 e).2.1,λb c k=>a b c (List.mem_append.2 (.inr k))⟩
noncomputable def gE (m:Int):Nat->V:=λg=>if g=2 then .view .old (.iface 376 (.view .old (.agg [])))else if g=6 then .view .old (.agg (Lib.pow10Tab.map (V.int .u64)))
 else if g=0 then .view .old (.agg (signsL.map V.str))else if g=1 then .view .old (.int .i64 m)else .top
theorem G3(f:Col->Col):∀ l:List Int,Yv f (l.map (V.int .u64))=l.map (V.int .u64)
 |[]=>rfl
 |x::r=>by simp only[List.map_cons,Yv];rw[G3 f r]<;>rfl
theorem G2(f:Col->Col):∀ l:List (List UInt8),Yv f (l.map V.str)=l.map V.str
 |[]=>rfl
 |x::r=>by simp only[List.map_cons,Yv];rw[G2 f r]<;>rfl
theorem Zlca(m:Int):GExp (gE m) where
 ok:=λg=>by
  unfold gE
  split
  exact⟨rfl,.view _ _ λx a=>by simp[V.cells]at a;subst a;exact .iface _ _ (.view _ _ λx a=>by simp[V.cells]at a)⟩
  split
  refine⟨by simp only[V.recol,Col.ent,G3],.view _ _ λx a=>?_⟩;obtain⟨n,_,rfl⟩:=List.mem_map.1 a;exact .int _ _
  split
  refine⟨by simp only[V.recol,Col.ent,G2],.view _ _ λx a=>?_⟩;obtain⟨n,_,rfl⟩:=List.mem_map.1 a;exact .str _
  split
  exact⟨rfl,.view _ _ λx a=>by simp[V.cells]at a;subst a;exact .int _ _⟩;exact⟨rfl,.top⟩
 er:=⟨_,_,_,rfl⟩
 tab:=⟨_,rfl⟩
 sg:=⟨_,rfl⟩
 ml:=⟨_,m,rfl⟩
theorem gER:Tryz.prog.globalNamed "strconv.ErrRange" = some 2:=by kernel_rfl
theorem Zgba:(Tryz.prog.globals[2]?).map (·.type)=some 334:=by kernel_rfl
theorem Zn8:Tryz.prog.cellsOf 378=1:=by kernel_rfl
theorem Zm8:Tryz.prog.cellsOf 9=1:=by kernel_rfl
theorem star : "*" ++ "errors.errorString" = "*errors.errorString" := by decide
theorem row109 (u:TypeId) (h:Tryz.prog.typeName? 3 u=some "*errors.errorString"):u=376 :=
 typeName_ptr_named (nm := "errors.errorString") (by rw [star];kernel_rfl) (by kernel_rfl) (by decide) u (by rw [star];exact h)
theorem gTab:Tryz.prog.globalNamed "internal/strconv.uint64pow10" = some 6:=by kernel_rfl
theorem Zz7:∃ t n,(Tryz.prog.globals[6]?).map (·.type)=some t/\Tryz.prog.underlying t=some (.array n 261)/\Tryz.prog.cellsOf t=n/\n=20:=by
 refine⟨(((Tryz.prog.globals[6]?).map (·.type)).getD 0),20,by kernel_rfl,by kernel_rfl,by kernel_rfl,rfl⟩
theorem Zh7 {W:World} (h:laidMet Tryz.prog Pu W):Lib.TabIs Tryz.prog W "internal/strconv.uint64pow10" .u64 Lib.pow10Tab:=by
 obtain⟨t,n,h1,h2,h3,rfl⟩:=Zz7
 have e:(Rows.laid_internal_strconv_uint64pow10:DataW Unit)=Lib.tabData .u64 Lib.pow10Tab:=by rfl
 have h4:=Wa (Wa h);rw[e]at h4;exact Lib.tabIs_of_head gTab h1 h2 Tryz.underlying261 (by kernel_rfl) h3 h4
theorem Zi7{W:World}(h:laidMet Tryz.prog Pu W):∃ b off,W.cell? ⟨2,0,none⟩=some (.iface 376 (.pointer (some ⟨b,off,none⟩))):=by
 obtain⟨a,s,f,e,_,_⟩:=laid_sentinel (Wa (Wa (Wa (Wa h)))) gER Zgba Tryz.underlying334 row109 Tryz.underlying376 Tryz.underlying378 rfl rfl Tryz.underlying9 Zn8 Zm8;have g:=World.var?_cell gER f 0;have c:=World.cell?_spot e;obtain⟨b,off,d⟩:=a;have c:d=none:=c;subst c;exact⟨b,off,by simpa using g⟩
def Z7b{H:Type}(zs:List (List UInt8)):DataW H:=.agg (zs.map λz=>.lit (.string z))
theorem Ay{H:Type}{enc:TypeId×Value->H}{P:Program}{w:World}{base:Nat}{q:Nat->Bool}{f:Bool}{a:Nat}{t e:TypeId}{n:Nat}{cs:List Value}{c:List (List UInt8)}{p:List MemPlace}
  (x:P.underlying t=some (.array n e)) (A:P.underlying e=some .string) (l:P.cellsOf e=1) (k:P.cellsOf t=n)
  (h:DataW.trod enc P w base q f a t cs=some (Z7b c,p)):cs.length=c.length/\∀ i (hi:i<c.length),∃ s:ByteArray,cs[i]?=some (.string s)/\s.data.toList=c[i]:=by
 cases a with
 |zero=>simp[DataW.trod]at h
 |succ a=>
  simp only[DataW.trod,x,l,k,Nat.mul_one]at h
  split at h
  rename_i E;obtain⟨xs,m,v⟩:=Option.map_eq_some_iff.1 h
  have d:xs.map (·.1)=c.map λz=>(DataW.lit (.string z):DataW H):=by
   have:=congrArg Prod.fst v;simpa[Z7b]using this
  have u:xs.length=n:=by simpa using Lib.mapM_length m
  have r:c.length=n:=by
   have:=congrArg List.length d;simp at this;omega
  refine⟨by omega,λi hi=>?_⟩
  have j:i<n:=by omega
  obtain⟨b,C,y⟩:=Lib.mapM_at m i i (by simp[j]);obtain⟨z,B,rfl,_⟩:=DataW.trod_string A y
  have D:cs[i]?=some (.string z):=by
   have:=congrArg (·[0]?) B;simpa[List.getElem?_take,List.getElem?_drop]using this
  have o:(xs.map (·.1))[i]?=some (DataW.lit (.string z.data.toList):DataW H):=by simp[C]
  rw[d,List.getElem?_map,List.getElem?_eq_getElem hi]at o;refine⟨z,D,?_⟩;have g:(DataW.lit (.string c[i]):DataW H)=.lit (.string z.data.toList):=Option.some.inj o
  injection g with g
  injection g with g
  exact g.symm;cases h
theorem gSg:Tryz.prog.globalNamed "hopscotch/lex.signs" = some 0:=by kernel_rfl
theorem gSgType:(Tryz.prog.globals[0]?).map (·.type)=some 237:=by kernel_rfl
theorem Z1s {W:World} (h:laidMet Tryz.prog Pu W):∃ cs:Array Value,W.var? Tryz.prog "hopscotch/lex.signs" = some cs∧cs.size=14∧∀ i (hi:i<signsL.length),∃ s:ByteArray,cs[i]? = some (.string s)∧s.data.toList=signsL[i]:=by
 have e:(Rows.laid_hopscotch_lex_signs:DataW Unit)=Z7b signsL:=by rfl
 have h4:=Wa (Wa (Wa (Wa (Wa (Wa h)))));rw[e]at h4;obtain⟨ps,⟨g',t',cs,fuel,p,q,hg',ht',hvar,hd,_,_⟩,_⟩:=h4;obtain rfl:=Option.some.inj (gSg.symm.trans hg');obtain rfl:=Option.some.inj (gSgType.symm.trans ht');obtain⟨h1,h2⟩:=Ay Tryz.underlying237 Tryz.underlying9 Zm8 (by kernel_rfl) hd;refine⟨_,hvar,(by simpa using h1:cs.size=signsL.length).trans rfl,λi hi=>?_⟩;obtain⟨s,h3,h4⟩:=h2 i hi;exact⟨s,by simpa using h3,h4⟩
theorem Zm0{W:World}(h:W.ShapedOpen Tryz.prog):∃ m,W.cell? ⟨1,0,none⟩=some (.int .i64 m):=by
 obtain⟨e,l,j,k⟩:=h.1 1 #[.int .i64 0] 3 (of_decide_eq_true (by kernel_rfl)) (by kernel_rfl);obtain⟨n,c,_,d⟩:=k (by kernel_rfl);rw[show Tryz.prog.cellTypes Tryz.prog.depth 3=some [3] by kernel_rfl]at c;cases c
 have g:0<e.size:=by rw[j];decide
 obtain⟨u,f,a⟩:=d 0 e[0] (by simp[g])
 have:u=3:=by simpa using f.symm
 subst this
 have b:W.cell? ⟨1,0,none⟩=some e[0]:=by simp[World.cell?,l,g]
 rw[b];unfold Cell.ok at a;rw[Tryz.underlying3]at a
 cases i:e[0]<;>rw[i]at a<;>first|(obtain⟨rfl,_⟩:=a;exact⟨_,rfl⟩)|simp at a
theorem laid_G{W:World}(h:laidMet Tryz.prog Pu W)(hS:W.ShapedOpen Tryz.prog):∃ m,∀ g,RelG (Wj W) g (gE m g):=by
 obtain⟨m,hml⟩:=Zm0 hS;refine⟨m,λg=>?_⟩;unfold gE
 split
 rename_i hg;subst hg;obtain⟨b,off,h1⟩:=Zi7 h;refine⟨?_,trivial⟩;refine .view .old _ 2 0 (λ_=>.iface 376 (.pointer (some ⟨b,off,none⟩))) (λi hi=>?_) (λi hi=>?_)
 have:i=0:=by simpa[V.cells]using hi
 subst this;refine⟨by show(W.cell? _).isSome=true;rw[h1]<;>rfl,World.block_lt_of_cell? _ _ h1,h1,rfl⟩
 have:i=0:=by simpa[V.cells]using hi
 subst this;exact .iface _ _ _ (.view .old _ b off (λ_=>.nilIface) (λi hi=>by simp[V.cells]at hi) (λi hi=>by simp[V.cells]at hi))
 split
 rename_i hg;subst hg;have ht:=Zh7 h;have hc:∀ i (hi:i<Lib.pow10Tab.length),W.cell? ⟨6,i,none⟩=some (.int .u64 (Lib.pow10Tab.getD i 0)):=λi hi=>ht.cell gTab i hi;have hlen:Lib.pow10Tab.length=20:=Lib.pow10Tab_length;have hlt:6<W.heap.size:=World.block_lt_of_cell? _ _ (hc 0 (by omega))
 have hv:W.var? Tryz.prog "internal/strconv.uint64pow10" = some (Lib.pow10Tab.map fun z=>Value.int .u64 z).toArray:=ht
 refine⟨?_,?_⟩;refine .view .old _ 6 0 (λi=>.int .u64 (Lib.pow10Tab.getD i 0)) (λi hi=>?_) (λi hi=>?_)
 have hi:i<Lib.pow10Tab.length:=by simpa[V.cells]using hi
 rw[Nat.zero_add];exact⟨by show(W.cell? _).isSome=true;rw[hc i hi]<;>rfl,hlt,hc i hi,rfl⟩
 have hi':i<Lib.pow10Tab.length:=by simpa[V.cells]using hi
 have key:∀ v,v=V.int .u64 (Lib.pow10Tab.getD i 0)->Rel (Wj W) (Value.int .u64 (Lib.pow10Tab.getD i 0)) v:=λv e=>by rw[e];exact .int _ _
 exact key _ (by simp[V.cells,List.getD,hi']);refine⟨hlt,?_⟩;unfold World.var? at hv;rw[gTab]at hv;have hv:(match W.heap[6]? with|some (Obj.cells cs _ _)=>some cs|_=>none)=some (Lib.pow10Tab.map λz=>Value.int .u64 z).toArray:=hv
 split at hv
 rename_i cs t fr hh;cases hv;exact⟨_,t,fr,hh,by simp⟩;cases hv
 split
 rename_i hg;subst hg;obtain⟨cs,hv,hsz,hcs⟩:=Z1s h;have h0:=λi=>World.var?_cell gSg hv i
 have hc:∀ i (hi:i<signsL.length),∃ s:ByteArray,W.cell? ⟨0,i,none⟩=some (.string s)/\s.data.toList=signsL[i]:=λi hi=>by
  obtain⟨s,h1,h2⟩:=hcs i hi;exact⟨s,by rw[h0 i];exact h1,h2⟩
 have hlt:0<W.heap.size:=by
  obtain⟨s,h1,_⟩:=hc 0 (by decide);exact World.block_lt_of_cell? _ _ h1
 refine⟨?_,?_⟩;refine .view .old _ 0 0 (λi=>(cs[i]?).getD undef) (λi hi=>?_) (λi hi=>?_)
 have hi:i<signsL.length:=by simpa[V.cells]using hi
 obtain⟨s,h1,_⟩:=hcs i hi;rw[Nat.zero_add,h1]
 have h2:W.cell? ⟨0,i,none⟩=some (.string s):=by rw[h0 i];exact h1
 exact⟨by show(W.cell? _).isSome=true;rw[h2]<;>rfl,hlt,h2,rfl⟩
 have hi':i<signsL.length:=by simpa[V.cells]using hi
 obtain⟨s,h1,h2⟩:=hcs i hi';rw[h1]
 have key:∀ v,v=V.str signsL[i]->Rel (Wj W) (Value.string s) v:=λv e=>by rw[e];exact .str _ _ h2
 exact key _ (by simp[V.cells]);refine⟨hlt,?_⟩;unfold World.var? at hv;rw[gSg]at hv;have hv:(match W.heap[0]? with|some (Obj.cells cs _ _)=>some cs|_=>none)=some cs:=hv
 split at hv
 rename_i cs' t fr hh;cases hv;exact⟨_,t,fr,hh,by rw[hsz]<;>rfl⟩;cases hv
 split
 rename_i hg;subst hg;refine⟨?_,trivial⟩;refine .view .old _ 1 0 (λ_=>.int .i64 m) (λi hi=>?_) (λi hi=>?_)
 have:i=0:=by simpa[V.cells]using hi
 subst this;refine⟨by show(W.cell? _).isSome=true;rw[hml]<;>rfl,World.block_lt_of_cell? _ _ hml,hml,rfl⟩
 have:i=0:=by simpa[V.cells]using hi
 subst this;exact .int _ _;exact⟨.top _,trivial⟩
end Go.Proofs.YtjplgaebbfabnaaGreatDoor
end

section
namespace Go.Proofs.YtjplgaebbfabnaaGreatDoor
open Go.RowKit Go.Hs Go.ChangeShapes Go.WideShapes Go.ChangeAt
open Go.ChangeMaps (open_string shut_string)
set_option maxRecDepth 100000
theorem Z70{k:IntKind}{n:Int}(h:(Lit.int k n).wf=true):InK k n:=by
 simpa[Lit.wf,InK]using h
variable{W:World}{H:Type}{enc:TypeId×Value->H}{b0:Nat}{v:Value}{d:DataW H}{ps:List MemPlace}
theorem argI(b:Value.okWide Tryz.prog W .any b0 3 v)(h:DataW.Trod enc Tryz.prog W 0 (λ_=>true) true 3 v d ps):∃ x:Int,InK .i64 x/\Rel (Wj W) v (.int .i64 x):=by
 obtain⟨n,rfl,_,_,a⟩:=open_int Tryz.underlying3 b h;exact⟨n,Z70 a,.int _ _⟩
theorem own:ownKnob Tryz.prog.godebug=none:=by kernel_rfl
theorem J9:laidOutB Tryz.prog=true:=by kernel_rfl
end Go.Proofs.YtjplgaebbfabnaaGreatDoor
end

section
namespace Go.Hs
section
structure VP where
 name:List UInt8
 kind:Int
 region:Int
 of:Int
 entry:List UInt8
 exit:List UInt8
 defers:List (List UInt8)
 sub:List UInt8
structure WP where
 name:List UInt8
 source:Int
 target:Int
 triggers:List (List UInt8)
 after:Int
 guard:List UInt8
 effect:List UInt8
 kind:Int
structure PM where
 name:List UInt8
 vars:List (List UInt8×Int)
 events:List (List UInt8)
 regions:List (List UInt8×Int)
 vertices:List VP
 ways:List WP
def vx0:VP:=⟨[],0,0,0,[],[],[],[]⟩
def wy0:WP:=⟨[],0,0,[],0,[],[],0⟩
namespace PM
variable(m:PM)
def vx(v:Int):VP:=m.vertices.getD v.toNat vx0
def wy(i:Int):WP:=m.ways.getD i.toNat wy0
def ow(r:Int):Int:=(m.regions.getD r.toNat ([],0)).2
def around(v:Int):Int:=if 0<=(m.vx v).of then(m.vx v).of else m.ow (m.vx v).region
def upsF:Nat->Int->List Int
 |0,_=>[]
 |f+1,v=>if m.around v<0 then[]else m.around v::upsF f (m.around v)
def ups(v:Int):List Int:=m.upsF 65 v
def withinB(v r:Int):Bool:=(v::m.ups v).any λu=>(m.vx u).region==r
def inB(v s:Int):Bool:=(m.ups v).contains s
def regU(v s:Int):Int:=match(v::m.ups v).find? (λu=>m.around u==s)with|some u=>(m.vx u).region|none => -1
end PM
def Oy:List Int->List Int->Bool
 |_,[]=>true
 |acc,r::t=>decide (0<=r) && !acc.contains r&&Oy (acc++[r]) t
def Qj:List Int->List Int->List Int
 |acc,[]=>acc
 |acc,r::t=>Qj (if 0<=r/\acc.contains r=false then acc++[r]else acc) t
theorem Df:∀ (l acc:List Int),(Qj acc l).length<=acc.length+l.length
 |[],acc=>Nat.le_refl _
 |r::t,acc=>by
  rw[Qj];have:=Df t (if 0<=r/\acc.contains r=false then acc++[r]else acc)
  grind
theorem Zma:∀ (l acc:List Int),decide ((Qj acc l).length=acc.length+l.length)=Oy acc l
 |[],acc=>by simp[Qj,Oy]
 |r::t,acc=>by
  rw[Qj,Oy]
  by_cases h:0<=r/\acc.contains r=false
  rw[if_pos h,h.2,decide_eq_true h.1];rw[<- Zma t (acc++[r])]
  grind
  rw[if_neg h];have a:=Df t acc
  grind
namespace PM
variable(m:PM)
structure Acy:Prop where
 rng:∀ v:Int,0<=v->v<m.vertices.length->m.around v = -1\/(0<=m.around v/\m.around v<m.vertices.length)
 dep:∀ v:Int,0<=v->v<m.vertices.length->(m.ups v).length<=64
 pt:∀ v:Int,0<=v->v<m.vertices.length->0<=(m.vx v).of->(m.vx v).region = -1
 rg:∀ v:Int,0<=v->v<m.vertices.length->(m.vx v).of<0->0<=(m.vx v).region/\(m.vx v).region<m.regions.length
variable{m}
theorem Gw:∀ (f k:Nat) (v:Int),(m.upsF f v).length<f->m.upsF (f+k) v=m.upsF f v
 |0,_,_,h=>absurd h (Nat.not_lt_zero _)
 |f+1,k,v,h=>by
  rw[show f+1+k=(f+k)+1 by omega,upsF,upsF];rw[upsF]at h
  split
  rfl;rename_i a;rw[if_neg a,List.length_cons]at h;rw[Gw f k _ (by omega)]
theorem Acy.ups_nil{v:Int}(h:m.around v<0):m.ups v=[]:=by
 rw[ups,upsF,if_pos h]
theorem Acy.ups_cons(a:m.Acy){v:Int}(d:0<=v)(c:v<m.vertices.length)(h:0<=m.around v):m.ups v=m.around v::m.ups (m.around v):=by
 have b:=a.dep v d c;rw[ups,upsF,if_neg (by omega)]at b⊢;rw[List.length_cons]at b;rw[ups,Gw 64 1 _ (by omega)]
theorem Acy.ind(a:m.Acy){P:Int->Prop}(z:∀ v:Int,0<=v->v<m.vertices.length->m.around v<0->P v)
  (s:∀ v:Int,0<=v->v<m.vertices.length->0<=m.around v->m.around v<m.vertices.length->P (m.around v)->P v) {v:Int} (c:0<=v) (b:v<m.vertices.length):P v:=by
 have g:∀ (n:Nat) (v:Int),0<=v->v<m.vertices.length->(m.ups v).length=n->P v:=by
  intro n
  induction n with
  |zero=>
   intro v c b d
   rcases a.rng v c b with q|⟨e,f⟩
   grind
   rw[a.ups_cons c b e]at d;cases d
  |succ n ih=>
   intro v c b d
   rcases a.rng v c b with q|⟨e,f⟩
   grind
   rw[a.ups_cons c b e,List.length_cons]at d;simp_all
 grind
theorem Acy.ups_rng(a:m.Acy){v:Int}(d:0<=v)(c:v<m.vertices.length):∀ u∈m.ups v,0<=u/\u<m.vertices.length/\(m.ups u).length<(m.ups v).length:=by
 refine a.ind (P:=λv=>∀ u∈m.ups v,0<=u/\u<m.vertices.length/\(m.ups u).length<(m.ups v).length) ?_ ?_ d c;intro v _ _ h u b;rw[Acy.ups_nil h]at b;cases b;intro v d c e f g u b;rw[a.ups_cons d c e]at b⊢
 grind
theorem regU_nil{v s:Int}(h:m.around v<0)(a:0<=s):m.regU v s = -1:=by
 rw[regU,Acy.ups_nil h,List.find?_cons_of_neg (by grind)];rfl
theorem Acy.regU_at{v s:Int}(h:m.around v=s):m.regU v s=(m.vx v).region:=by
 rw[regU,List.find?_cons_of_pos (by grind)]
theorem Acy.regU_up(a:m.Acy){v s:Int}(c:0<=v)(b:v<m.vertices.length)(h:0<=m.around v)(d:m.around v≠s):m.regU v s=m.regU (m.around v) s:=by
 rw[regU,regU,a.ups_cons c b h,List.find?_cons_of_neg (by grind)]
theorem Acy.inB_up(a:m.Acy){v s:Int}(c:0<=v)(b:v<m.vertices.length)(h:0<=m.around v):m.inB v s=(m.around v==s||m.inB (m.around v) s):=by
 rw[inB,inB,a.ups_cons c b h,List.contains_cons,BEq.comm]
theorem inB_nil{v s:Int}(h:m.around v<0):m.inB v s=false:=by
 rw[inB,Acy.ups_nil h];rfl
theorem Acy.withinB_up(a:m.Acy){v r:Int}(c:0<=v)(b:v<m.vertices.length)(h:0<=m.around v):m.withinB v r=((m.vx v).region==r||m.withinB (m.around v) r):=by
 rw[withinB,withinB,a.ups_cons c b h,List.any_cons]
theorem withinB_nil{v r:Int}(h:m.around v<0):m.withinB v r=((m.vx v).region==r):=by
 rw[withinB,Acy.ups_nil h,List.any_cons,List.any_nil,Bool.or_false]
theorem Acy.regU_of(a:m.Acy){v s u:Int}(f:0<=v)(e:v<m.vertices.length)(l:0<=s)(b:u∈v::m.ups v)(h:m.around u=s):m.regU v s=(m.vx u).region:=by
 refine a.ind (P:=λv=>u∈v::m.ups v->m.regU v s=(m.vx u).region) ?_ ?_ f e b;intro v _ _ q b;rw[Acy.ups_nil q]at b
 grind
 intro v f e c g k b
 rcases List.mem_cons.1 b with rfl|b
 exact Acy.regU_at h;rw[a.ups_cons f e c]at b
 by_cases i:m.around v=s
 rw[i]at b c g
 have d:0<=u/\u<m.vertices.length:=by
  rcases List.mem_cons.1 b with rfl|b
  grind
  have:=a.ups_rng c g u b;exact⟨this.1,this.2.1⟩
 have j:=a.ups_cons d.1 d.2 (by omega);rw[h]at j
 have n:(m.ups s).length<(m.ups u).length:=by rw[j];exact Nat.lt_succ_self _
 rcases List.mem_cons.1 b with rfl|b
 omega;have:=(a.ups_rng c g u b).2.2;omega;rw[a.regU_up f e c i];exact k b
def partU(m:PM)(l:List Int):Bool:=(m.ups (l.headD 0)).any λs=>Oy [] (l.map (m.regU · s))
end PM
end
section
def Pd:List UInt8:=[97,114,103]
def elsW:List UInt8:=[101,108,115,101]
def Sc(s:List UInt8):Bool:=s==[]||P6 s==2
def evB(ev l:List (List UInt8)):Bool:=(List.range l.length).all λi=>ev.contains (l.getD i []) && !(l.take i).contains (l.getD i [])
def Xq(part most:Nat)(p:Nat->Bool)(n:Nat):Nat×Int×Int:=
 match(List.range n).find? (λi=>i==most || !p i)with
 |none=>(0,0,0)
 |some i=>(part,(i:Int),if i=most then 3 else 130)
def N8(a b:Nat×Int×Int):Nat×Int×Int:=if a.1≠0 then a else b
theorem Qz{b a:Nat}{p:Nat->Bool}{n:Nat}(h:∀ i,i<n->i≠a/\p i=true):Xq b a p n=(0,0,0):=by
 rw[Xq,List.find?_eq_none.2 (λi c=>by
  grind)]
theorem Vt{b a:Nat}{p:Nat->Bool}{n i:Nat}(hi:i<n)(h:∀ k,k<i->k≠a/\p k=true)(c:i=a\/p i=false):Xq b a p n=(b,(i:Int),if i=a then 3 else 130):=by
 have:(List.range n).find? (λi=>i==a || !p i)=some i:=by
  simp_all
 rw[Xq,this]
theorem Ru{b a:Nat}{p:Nat->Bool}{n:Nat}(d:b≠0)(h:(Xq b a p n).1=0):n<=a/\∀ i,i<n->p i=true:=by
 rw[Xq]at h
 cases c:(List.range n).find? (λi=>i==a || !p i)with
 |some i=>grind
 |none=>
  have:=List.find?_eq_none.1 c;refine⟨?_,λi e=>?_⟩
  rcases Nat.lt_or_ge a n with q|q
  have:=this a (List.mem_range.2 q);simp at this;exact q
  grind
theorem Hr{a b:Nat×Int×Int}(h:(N8 a b).1=0):a.1=0/\b.1=0:=by
 rw[N8]at h
 grind
namespace PM
variable(m:PM)
def stateB(v:Int):Bool:=decide (0<=v)&&decide (v<m.vertices.length)&&((m.vx v).kind==1)
def nameAt(i:Nat):List UInt8:=(m.vars.getD i ([],0)).1
def varB(i:Nat):Bool:=(P6 (m.nameAt i)==2) && !(m.nameAt i==Pd) && !((m.vars.take i).any λy=>y.1==m.nameAt i)
def signalB(i:Nat):Bool:=(P6 (m.events.getD i [])==2) && !(m.events.take i).contains (m.events.getD i [])
def regionB(i:Nat):Bool:=Sc (m.regions.getD i ([],0)).1&&(if i=0 then m.ow 0 == -1 else m.stateB (m.ow i)&&(m.vx (m.ow i)).sub==[])
def liesB(x:VP):Bool:=if x.kind=10\/x.kind=11 then(x.region == -1)&&m.stateB x.of else(x.of == -1)&&decide (0<=x.region)&&decide (x.region<m.regions.length)
def vertexB(x:VP):Bool:=
 Sc x.name&&decide (1<=x.kind)&&decide (x.kind<=12)&&m.liesB x&&((x.entry==[]&&x.exit==[]&&decide (x.defers.length=0)&&x.sub==[])||x.kind==1)&&Sc x.sub &&
  decide (x.entry.length<=4096)&&decide (x.exit.length<=4096)&&evB m.events x.defers
def depth(v:Int):Nat:=(m.ups v).length
def deepB(i:Nat):Bool:=decide (m.depth i<=64)
def inV(v:Int):Bool:=decide (0<=v)&&decide (v<m.vertices.length)
def wayB(x:WP):Bool:=
 Sc x.name&&m.inV x.source&&m.inV x.target&&evB m.events x.triggers&&decide (0<=x.after)&&decide (x.after<=65535)&&(x.after==0||decide (x.triggers.length=0)) &&
  decide (1<=x.kind)&&decide (x.kind<=3)&&decide (x.guard.length<=4096)&&decide (x.effect.length<=4096)
def ruleF(k:Nat):Nat×Int×Int:=
 match k with
 |0=>if P6 m.name=2 then(0,0,0)else(1,0,130)
 |1=>Xq 2 64 m.varB m.vars.length
 |2=>Xq 3 64 m.signalB m.events.length
 |3=>if m.regions=[]then(4,0,130)else Xq 4 512 m.regionB m.regions.length
 |4=>Xq 5 512 (λi=>m.vertexB (m.vx i)) m.vertices.length
 |5=>Xq 5 512 m.deepB m.vertices.length
 |_=>Xq 6 512 (λi=>m.wayB (m.wy i)) m.ways.length
def rightP:Nat×Int×Int:=N8 (m.ruleF 0) (N8 (m.ruleF 1) (N8 (m.ruleF 2) (N8 (m.ruleF 3) (N8 (m.ruleF 4) (N8 (m.ruleF 5) (m.ruleF 6))))))
structure Rt5:Prop where
 rnz:m.regions≠[]
 rgn:∀ i,i<m.regions.length->m.regionB i=true
 vtx:∀ i,i<m.vertices.length->m.vertexB (m.vx i)=true
structure Rt:Prop extends Rt5 m where
 nm:P6 m.name=2
 var:∀ i,i<m.vars.length->m.varB i=true
 sig:∀ i,i<m.events.length->m.signalB i=true
 deep:∀ i,i<m.vertices.length->m.depth i<=64
 way:∀ i,i<m.ways.length->m.wayB (m.wy i)=true
 lv:m.vars.length<=64
 le:m.events.length<=64
 lr:m.regions.length<=512
 lx:m.vertices.length<=512
 lw:m.ways.length<=512
variable{m}
theorem rt_vt(a:(m.ruleF 3).1=0)(b:(m.ruleF 4).1=0):m.Rt5:=by
 have a:(if m.regions=[]then((4,0,130):Nat×Int×Int)else Xq 4 512 m.regionB m.regions.length).1=0:=a
 by_cases h:m.regions=[]
 grind
 rw[if_neg h]at a;exact⟨h,(Ru (by decide) a).2,(Ru (by decide) b).2⟩
theorem rt_of(h:(m.rightP).1=0):m.Rt:=by
 obtain⟨b,h⟩:=Hr h;obtain⟨o,h⟩:=Hr h;obtain⟨n,h⟩:=Hr h;obtain⟨a,h⟩:=Hr h;obtain⟨d,h⟩:=Hr h;obtain⟨l,k⟩:=Hr h;have c:=rt_vt a d;have g:=Ru (by decide) (show(Xq 2 64 m.varB m.vars.length).1=0 from o);have f:=Ru (by decide) (show(Xq 3 64 m.signalB m.events.length).1=0 from n);have a:(if m.regions=[]then((4,0,130):Nat×Int×Int)else Xq 4 512 m.regionB m.regions.length).1=0:=a;rw[if_neg c.rnz]at a;have r:=Ru (by decide) a;have q:=Ru (by decide) (show(Xq 5 512 (λi=>m.vertexB (m.vx i)) m.vertices.length).1=0 from d);have p:=Ru (by decide) (show(Xq 5 512 m.deepB m.vertices.length).1=0 from l);have e:=Ru (by decide) (show(Xq 6 512 (λi=>m.wayB (m.wy i)) m.ways.length).1=0 from k);have b:(if P6 m.name=2 then((0,0,0):Nat×Int×Int)else(1,0,130)).1=0:=b
 have b:P6 m.name=2:=by
  grind
 exact⟨c,b,g.2,f.2,λi j=>by simpa[deepB]using p.2 i j,e.2,g.1,f.1,r.1,q.1,e.1⟩
theorem Q0(k:Nat):(m.ruleF k).2.2=0↔(m.ruleF k).1=0:=by
 have s:∀ {a b:Nat} {p:Nat->Bool} {n:Nat},a≠0->((Xq a b p n).2.2=0↔(Xq a b p n).1=0):=by
  intro a b p n c;rw[Xq]
  grind
 match k with
 |0=>
  show(if P6 m.name=2 then((0,0,0):Nat×Int×Int)else(1,0,130)).2.2=0↔(if P6 m.name=2 then((0,0,0):Nat×Int×Int)else(1,0,130)).1=0
  split<;>simp
 |1=>exact s (by decide)
 |2=>exact s (by decide)
 |3=>
  show(if m.regions=[]then((4,0,130):Nat×Int×Int)else Xq 4 512 m.regionB m.regions.length).2.2=0↔(if m.regions=[]then((4,0,130):Nat×Int×Int)else Xq 4 512 m.regionB m.regions.length).1=0
  grind
 |4=>exact s (by decide)
 |5=>exact s (by decide)
 |k+6=>exact s (by decide)
theorem Ht{a b:Nat×Int×Int}(ha:a.2.2=0↔a.1=0)(c:b.2.2=0↔b.1=0):(N8 a b).2.2=0↔(N8 a b).1=0:=by
 rw[N8];grind
theorem right_er:(m.rightP).2.2=0↔(m.rightP).1=0:=
 Ht (Q0 0) (Ht (Q0 1) (Ht (Q0 2) (Ht (Q0 3) (Ht (Q0 4) (Ht (Q0 5) (Q0 6))))))
theorem Rt5.vert(h:m.Rt5){v:Int}(b:0<=v)(a:v<m.vertices.length):m.vertexB (m.vx v)=true:=by
 have:=h.vtx v.toNat (by omega)
 grind
theorem Rt5.lies(h:m.Rt5){v:Int}(b:0<=v)(a:v<m.vertices.length):m.liesB (m.vx v)=true:=by
 have:=h.vert b a;simp only[vertexB,Bool.and_eq_true]at this
 grind
theorem Rt5.pt(h:m.Rt5){v:Int}(d:0<=v)(c:v<m.vertices.length):(0<=(m.vx v).of/\(m.vx v).of<m.vertices.length/\(m.vx v).region = -1/\m.stateB (m.vx v).of=true/\((m.vx v).kind=10\/(m.vx v).kind=11)) \/
  ((m.vx v).of = -1/\0<=(m.vx v).region/\(m.vx v).region<m.regions.length/\¬ ((m.vx v).kind=10\/(m.vx v).kind=11)):=by
 have:=h.lies d c;rw[liesB]at this
 split at this
 rename_i q
 left
 have b:m.stateB (m.vx v).of=true:=by grind
 have a:=b;simp only[stateB,Bool.and_eq_true,decide_eq_true_eq,beq_iff_eq]at a this
 grind
 grind
theorem Rt5.own(h:m.Rt5){r:Int}(c:0<=r)(b:r<m.regions.length):(r=0/\m.ow r = -1)\/(r≠0/\0<=m.ow r/\m.ow r<m.vertices.length):=by
 have:=h.rgn r.toNat (by omega);simp only[regionB,Bool.and_eq_true]at this;have a:=this.2
 split at a
 grind
 simp only[stateB,Bool.and_eq_true,decide_eq_true_eq]at a
 grind
theorem Rt5.rng(h:m.Rt5){v:Int}(e:0<=v)(d:v<m.vertices.length):m.around v = -1\/(0<=m.around v/\m.around v<m.vertices.length):=by
 rw[around]
 rcases h.pt e d with ⟨a,b,_⟩|⟨a,b,c,_⟩
 grind
 rw[if_neg (by omega)]
 rcases h.own b c with ⟨_,q⟩|⟨_,q⟩
 grind
 grind
theorem Rt.acy(h:m.Rt):m.Acy:=
 ⟨λv d c=>h.toRt5.rng d c,λv d c=>by
  have:=h.deep v.toNat (by omega)
  rwa [show((v.toNat:Nat):Int)=v by omega]at this,
 λv d c q=>by
  rcases h.toRt5.pt d c with ⟨_,_,a,_⟩|⟨a,_⟩
  exact a
  omega,
 λv d c q=>by
  rcases h.toRt5.pt d c with ⟨a,_⟩|⟨_,a,b,_⟩
  omega
  grind⟩
end PM
end
section
def R4(s:List UInt8):Bool:=(Y4 s).2.2==0&&(Y4 s).1.length==1&&(Wi (Y4 s).1 0==elsW)
namespace PM
variable(m:PM)(bd:List (List UInt8)->List (List UInt8)->List UInt8->Bool)(gd:List (List UInt8)->List UInt8->Int)
def inc(v:Int):List Int:=(m.ways.filter λt=>t.target==v).map (·.source)
def out(v:Int):List Int:=(m.ways.filter λt=>t.source==v).map (·.target)
def vn:List (List UInt8):=m.vars.map (·.1)
def kd(v:Int):Int:=(m.vx v).kind
def body(s:List UInt8):Bool:=bd m.vn m.events s
def k1(r:Int):Bool:=(m.vertices.filter λx=>x.kind==3&&x.region==r).length==1
def k2(v:Int):Bool := !(m.kd v==3)||((m.out v).length==1&&m.withinB ((m.out v).headD 0) (m.vx v).region&&(m.inc v).length==0)
def k3(v:Int):Bool := !(m.kd v==2||m.kd v==12)||(m.out v).length==0
def k4(v:Int):Bool := !(m.kd v==6)||((m.inc v).length==1&&decide (1<(m.out v).length)&&m.partU (m.out v))
def k5(v:Int):Bool := !(m.kd v==7)||((m.out v).length==1&&decide (1<(m.inc v).length)&&((m.inc v).all λu=>m.kd u==1)&&m.partU (m.inc v))
def elses(v:Int):Nat:=(m.ways.filter λt=>t.source==v&&R4 t.guard).length
def k6(v:Int):Bool := !(m.kd v==4||m.kd v==5)||(decide (0<(m.inc v).length)&&decide (0<(m.out v).length)&&decide (m.elses v<=1))
def twins(v:Int):Nat:=(m.vertices.filter λy=>y.kind==m.kd v&&y.region==(m.vx v).region).length
def k7(v:Int):Bool := !(m.kd v==8||m.kd v==9) ||
 (!((m.vx v).region==0)&&m.twins v==1&&decide ((m.out v).length<=1)&&((m.out v).length==0||m.withinB ((m.out v).headD 0) (m.vx v).region))
def k8(v:Int):Bool:=if m.kd v=11 then(m.out v).length==1 && !m.inB ((m.out v).headD 0) (m.vx v).of
 else if m.kd v=10 then Oy [] ((m.out v).map (m.regU · (m.vx v).of))&&decide (0<(m.out v).length)else true
def k9(t:Int):Bool:=((m.wy t).triggers.length==0&&(m.wy t).after==0)||m.kd (m.wy t).source==1
def k10(t:Int):Bool:=((m.kd (m.wy t).source==4||m.kd (m.wy t).source==5)&&R4 (m.wy t).guard) ||
 (gd (m.vn++[Pd]) (m.wy t).guard==0&&((Y4 (m.wy t).guard).1.length==0||m.kd (m.wy t).source==1||m.kd (m.wy t).source==4||m.kd (m.wy t).source==5))
def k11(t:Int):Bool:=if(m.wy t).kind=3 then(m.wy t).source==(m.wy t).target&&m.kd (m.wy t).source==1
 else if(m.wy t).kind=2 then m.kd (m.wy t).source==1&&m.inB (m.wy t).target (m.wy t).source else true
def k12(t:Int):Bool:=m.body bd (m.wy t).effect
def k13(v:Int):Bool := !(m.kd v==1)||(m.body bd (m.vx v).entry&&m.body bd (m.vx v).exit)
def k14(t:Int):Bool := !m.partU [(m.wy t).source,(m.wy t).target]
def k15(t:Int):Bool:=if m.kd (m.wy t).target=10 then !((m.wy t).source==(m.vx (m.wy t).target).of) && !m.inB (m.wy t).source (m.vx (m.wy t).target).of
 else if m.kd (m.wy t).target=11 then m.inB (m.wy t).source (m.vx (m.wy t).target).of && !((m.vx (m.wy t).source).of==(m.vx (m.wy t).target).of)else true
def keep(rule:Nat)(at_:Int):Bool:=
 match rule with
 |1=>m.k1 at_
 |2=>m.k2 at_
 |3=>m.k3 at_
 |4=>m.k4 at_
 |5=>m.k5 at_
 |6=>m.k6 at_
 |7=>m.k7 at_
 |8=>m.k8 at_
 |9=>m.k9 at_
 |10=>m.k10 gd at_
 |11=>m.k11 at_
 |12=>m.k12 bd at_
 |13=>m.k13 bd at_
 |14=>m.k14 at_
 |15=>m.k15 at_
 |_=>false
def places(rule:Nat):Nat:=if rule=1 then m.regions.length else if rule<=8\/rule=13 then m.vertices.length else m.ways.length
def badAt(rule n:Nat):List (Nat×Int):=((List.range n).filter fun(a:Nat) => !m.keep bd gd rule (a:Int)).map fun(a:Nat)=>(rule,(a:Int))
def badL(k:Nat):List (Nat×Int):=(List.range k).flatMap λr=>m.badAt bd gd (r+1) (m.places (r+1))
def checkW:List (Nat×Int)×Int:=if(m.rightP).2.2≠0 then([],(m.rightP).2.2)else(m.badL bd gd 15,0)
variable{m bd gd}
theorem badAt_succ(rule n:Nat):m.badAt bd gd rule (n+1)=m.badAt bd gd rule n++(if m.keep bd gd rule (n:Int)=true then[]else[(rule,(n:Int))]):=by
 rw[badAt,List.range_succ,List.filter_append,List.map_append]
 by_cases h:m.keep bd gd rule (n:Int)=true
 rw[if_pos h,List.filter_cons_of_neg (by grind)];rfl;rw[if_neg h,List.filter_cons_of_pos (by grind)];rfl
theorem badL_succ(k:Nat):m.badL bd gd (k+1)=m.badL bd gd k++m.badAt bd gd (k+1) (m.places (k+1)):=by
 rw[badL,List.range_succ,List.flatMap_append,badL,List.flatMap_singleton]
theorem badAt_len(rule n:Nat):(m.badAt bd gd rule n).length<=n:=by
 rw[badAt,List.length_map]
 grind
end PM
end
end Go.Hs
end

section
namespace Go.Hs
open Go.Proofs
set_option maxHeartbeats 1000000
set_option maxRecDepth 10000
structure VtM where
 name:List UInt8
 kind:Int
 region:Int
 of:Int
 entry:List UInt8
 exit:List UInt8
 defers:Sl (List UInt8)
 sub:List UInt8
structure TrM where
 name:List UInt8
 source:Int
 target:Int
 triggers:Sl (List UInt8)
 after:Int
 guard:List UInt8
 effect:List UInt8
 kind:Int
structure MdM where
 name:List UInt8
 vars:Sl (List UInt8×Int)
 events:Sl (List UInt8)
 regions:Sl (List UInt8×Int)
 verts:Sl VtM
 ways:Sl TrM
def VtM.p(x:VtM):VP:=⟨x.name,x.kind,x.region,x.of,x.entry,x.exit,x.defers.l,x.sub⟩
def TrM.p(x:TrM):WP:=⟨x.name,x.source,x.target,x.triggers.l,x.after,x.guard,x.effect,x.kind⟩
def MdM.p(m:MdM):PM:=⟨m.name,m.vars.l,m.events.l,m.regions.l,m.verts.l.map VtM.p,m.ways.l.map TrM.p⟩
def Z3(p:List UInt8×Int):V:=.agg [.str p.1,.int .i64 p.2]
theorem Wb(p:List UInt8×Int):Z3 p=.agg [.str p.1,.int .i64 p.2]:=rfl
theorem Pl(p:List UInt8×Int):(Z3 p).cells.length=2:=rfl
def Yf(c:Col)(x:VtM):V:=.agg [.str x.name,.int .u8 x.kind,.int .i64 x.region,.int .i64 x.of,.str x.entry,.str x.exit,Za c 1 V.str x.defers,.str x.sub]
theorem Zz(c:Col)(x:VtM):Yf c x=.agg [.str x.name,.int .u8 x.kind,.int .i64 x.region,.int .i64 x.of,.str x.entry,.str x.exit,Za c 1 V.str x.defers,.str x.sub]:=rfl
theorem Ej(c:Col)(x:VtM):(Yf c x).cells.length=8:=rfl
def Yn(c:Col)(x:TrM):V:=.agg [.str x.name,.int .i64 x.source,.int .i64 x.target,Za c 1 V.str x.triggers,.int .i64 x.after,.str x.guard,.str x.effect,.int .u8 x.kind]
theorem Yg(c:Col)(x:TrM):Yn c x=.agg [.str x.name,.int .i64 x.source,.int .i64 x.target,Za c 1 V.str x.triggers,.int .i64 x.after,.str x.guard,.str x.effect,.int .u8 x.kind]:=rfl
theorem Z3b(c:Col)(x:TrM):(Yn c x).cells.length=8:=rfl
def Zw(c d:Col)(m:MdM):V:=.agg [.str m.name,Za c 2 Z3 m.vars,Za c 1 V.str m.events,Za c 2 Z3 m.regions,Za c 8 (Yf d) m.verts,Za c 8 (Yn d) m.ways]
theorem Zi(c d:Col)(m:MdM):Zw c d m=.agg [.str m.name,Za c 2 Z3 m.vars,Za c 1 V.str m.events,Za c 2 Z3 m.regions,Za c 8 (Yf d) m.verts,Za c 8 (Yn d) m.ways]:=rfl
theorem Uq(g:Col->Col)(c:Col)(s:Sl (List UInt8×Int)):(Za c 2 Z3 s).recol g=Za (g c) 2 Z3 s:=Y8 g c 2 (λp=>by simp only[Wb,Xl,List.map_cons,List.map_nil,Yj,Vf]) s
theorem Jv(g:Col->Col)(c:Col)(x:VtM):(Yf c x).recol g=Yf (g c) x:=by simp only[Zz,Xl,List.map_cons,List.map_nil,Yj,Vf,Xy]
theorem Dt(g:Col->Col)(c:Col)(x:TrM):(Yn c x).recol g=Yn (g c) x:=by simp only[Yg,Xl,List.map_cons,List.map_nil,Yj,Vf,Xy]
theorem Qt(g:Col->Col)(c d:Col)(s:Sl VtM):(Za c 8 (Yf d) s).recol g=Za (g c) 8 (Yf (g d)) s:=Y8 g c 8 (Jv g d) s
theorem Qu(g:Col->Col)(c d:Col)(s:Sl TrM):(Za c 8 (Yn d) s).recol g=Za (g c) 8 (Yn (g d)) s:=Y8 g c 8 (Dt g d) s
theorem Vq(g:Col->Col)(c d:Col)(m:MdM):(Zw c d m).recol g=Zw (g c) (g d) m:=by simp only[Zi,Xl,List.map_cons,List.map_nil,Vf,Xy,Uq,Qt,Qu]
attribute[go_sem]Uq Jv Dt Qt Qu Vq
theorem Qx{m:MdM}{k:Nat}{x:VtM}(h:m.verts.l[k]?=some x):m.p.vx (k:Int)=x.p:=by
 show(m.verts.l.map VtM.p).getD ((k:Int)).toNat vx0=_
 rw[List.getD_eq_getElem?_getD,List.getElem?_map,Int.toNat_natCast,h]<;>rfl
theorem O8{m:MdM}{k:Nat}{x:TrM}(h:m.ways.l[k]?=some x):m.p.wy (k:Int)=x.p:=by
 show(m.ways.l.map TrM.p).getD ((k:Int)).toNat wy0=_
 rw[List.getD_eq_getElem?_getD,List.getElem?_map,Int.toNat_natCast,h]<;>rfl
theorem Gr{m:MdM}{k:Nat}{r:List UInt8×Int}(h:m.regions.l[k]?=some r):m.p.ow (k:Int)=r.2:=by
 show(m.regions.l.getD ((k:Int)).toNat ([],0)).2=_
 rw[List.getD_eq_getElem?_getD,Int.toNat_natCast,h]<;>rfl
theorem MdM.nv(m:MdM):m.p.vertices.length=m.verts.l.length:=List.length_map ..
theorem MdM.nw(m:MdM):m.p.ways.length=m.ways.l.length:=List.length_map ..
theorem MdM.at{m:MdM}{v:Int}(c:0<=v)(b:v<m.p.vertices.length):∃ (k:Nat) (x:VtM),v=(k:Int)/\k<m.verts.l.length/\m.verts.l[k]?=some x/\m.p.vx v=x.p:=by
 rw[m.nv]at b;have a:v.toNat<m.verts.l.length:=zo;have e:v=((v.toNat:Nat):Int):=zo;refine⟨v.toNat,_,e,a,List.getElem?_eq_getElem a,?_⟩
 conv=>lhs;rw[e]
 exact Qx (List.getElem?_eq_getElem a)
theorem I3{m:MdM}{v:Int}(c:0<=v)(b:v<m.p.regions.length):∃ (k:Nat) (x:List UInt8×Int),v=(k:Int)/\k<m.regions.l.length/\m.regions.l[k]?=some x/\m.p.ow v=x.2:=by
 have b:v<m.regions.l.length:=b;have a:v.toNat<m.regions.l.length:=zo;have e:v=((v.toNat:Nat):Int):=zo;refine⟨v.toNat,_,e,a,List.getElem?_eq_getElem a,?_⟩
 conv=>lhs;rw[e]
 exact Gr (List.getElem?_eq_getElem a)
theorem MdM.wyAt{m:MdM}{v:Int}(c:0<=v)(b:v<m.p.ways.length):∃ (k:Nat) (x:TrM),v=(k:Int)/\k<m.ways.l.length/\m.ways.l[k]?=some x/\m.p.wy v=x.p:=by
 rw[m.nw]at b;have a:v.toNat<m.ways.l.length:=zo;have e:v=((v.toNat:Nat):Int):=zo;refine⟨v.toNat,_,e,a,List.getElem?_eq_getElem a,?_⟩
 conv=>lhs;rw[e]
 exact O8 (List.getElem?_eq_getElem a)
theorem J5(G:Nat->V)(B:Y6 G)(c d:Col)(m:MdM)(u:m.p.Rt5)(v:Int)(l:0<=v)(j:v<m.p.vertices.length):
  Spec Tryz.prog G 216 [Zw c d m,.int .i64 v] Zj (λw _=>w=.int .i64 (m.p.around v)):=by
 refine Zo 0 27 [.tmp 4] Tryz.func216 λX=>?_;have a:=u.pt l j;obtain⟨k,x,rfl,z,A,t⟩:=MdM.at l j;rw[PM.around];rw[t]at a⊢;simp only[Zi];have f:=zi A (zi z (zi Zz Yh));refine Z ?_;intro D;refine Zf f ?_;intro C
 by_cases i:0<=x.of
 have q:decide (x.of>=0)=true:=zT;refine Zf (zi f q) ?_
 rw[if_pos (show 0<=x.p.of from i)]<;>rfl
 have q:decide (x.of>=0)=false:=zF;obtain⟨_,o,n,_⟩:=a.resolve_left (λh=>i h.1);obtain⟨r,y,g,b,e,s⟩:=I3 o n;rw[if_neg (show ¬ 0<=x.p.of from i),s];have g:x.region=(r:Int):=g;refine Zf q ?_;refine I7 (zi f (zi g (zi e (zi b Wb)))) B ?_;exact Zr
end Go.Hs
end

section
namespace Go.Hs
section
variable{P:Program}{W:World}
def ReadsB(P:Program)(W:World){α : Type}(t:TypeId)(m:Nat)(B : α -> Prop)(f : α -> List V):Prop:=
 P.cellsOf t=m/\(∀ a,(f a).length=m)/\∀ {H:Type} (enc:TypeId×Value->H) (held:Bool) (fuel:Nat) (cs:List Value) (x:DataW H×List MemPlace),
  DataW.trod enc P W 0 (λ_=>true) held fuel t cs=some x->(x.1.weights P t).all (· <= reachBytes)=true->∃ a,B a/\RelC (Wj W) cs (f a)
theorem ReadsB.int{t:TypeId}{k:IntKind}(d:P.underlying t=some (.int k))(e:P.cellsOf t=1):ReadsB P W t 1 (InK k) (λn=>[V.int k n]):=by
 refine⟨e,λ_=>rfl,λenc a b f x h _=>?_⟩;obtain⟨n,rfl,_,c⟩:=DataW.trod_int d h;exact⟨n,by simpa[Lit.wf,InK]using c,Us rfl (.int _ _) RelC.nil⟩
theorem ReadsB.str{t:TypeId}(d:P.underlying t=some .string)(e:P.cellsOf t=1):ReadsB P W t 1 (λs=>s.length<=reachBytes) (λs:List UInt8=>[V.str s]):=by
 refine⟨e,λ_=>rfl,λenc a b f x h c=>?_⟩;obtain⟨s,rfl,rfl,_⟩:=DataW.trod_string d h;exact⟨s.data.toList,by simpa[DataW.weights]using c,Us rfl (.str _ _ rfl) RelC.nil⟩
theorem Zph{H:Type}{e:TypeId}{l:List (DataW H)}(h:(DataW.weightsAll P e l).all (· <= reachBytes)=true){d:DataW H}(a:d∈l):(d.weights P e).all (· <= reachBytes)=true:=by
 induction l with
 |nil=>grind
 |cons x r ih=>
  simp only[DataW.weightsAll,List.all_append,Bool.and_eq_true]at h
  grind
theorem Ji{H:Type}{a:List TypeId}{l:List (DataW H)}(h:(DataW.weightsEach P a l).all (· <= reachBytes)=true){j:Nat}{t:TypeId}{d:DataW H}(b:a[j]?=some t)(c:l[j]?=some d):(d.weights P t).all (· <= reachBytes)=true:=by
 induction a generalizing l j with
 |nil=>grind
 |cons t0 a ih=>
  cases l with
  |nil=>grind
  |cons x r=>
   simp only[DataW.weightsEach,List.all_append,Bool.and_eq_true]at h
   grind
theorem ReadsB.field{α H:Type}{t:TypeId}{m:Nat}{B : α -> Prop}{f : α -> List V}(d:ReadsB P W t m B f){enc:TypeId×Value->H}{b:Bool}{i j n:Nat}{cs:List Value}{xs:List (DataW H×List MemPlace)}{c:List TypeId}
  (e:(DataW.weightsEach P c (xs.map (·.1))).all (· <= reachBytes)=true) (g:c[j]?=some t)
  (h:DataW.trod enc P W 0 (λ_=>true) b n t ((cs.drop i).take (P.cellsOf t))=xs[j]?) (k:j<xs.length):∃ a,B a/\RelC (Wj W) ((cs.drop i).take m) (f a):=by
 rw[d.1,List.getElem?_eq_getElem k]at h;exact d.2.2 enc b n _ _ h (Ji e g (by grind))
theorem ReadsB.slice{α : Type}{t e:TypeId}{m:Nat}{B : α -> Prop}{f : α -> V}(ht:P.underlying t=some (.slice e))(hc:P.cellsOf t=1)(hm:0<m)(hb:Nat.ble 1 (P.bytesOf e)=true)(he:ReadsB P W e m B (λa=>(f a).cells)):ReadsB P W t 1 (λs:Sl α => s.l.length<=reachBytes/\∀ a∈s.l,B a) (λs:Sl α => [Za .any m f s]):=by
 refine⟨hc,λ_=>rfl,λenc A fuel cs x h L=>?_⟩;obtain⟨hce,w,T⟩:=he
 rcases DataW.trod_slice ht h with ⟨rfl,_⟩|⟨a,len,F,E,rest,n,_,rfl,Q,_,hl,_,hel,d,R,_⟩
 exact⟨.nil,⟨Nat.zero_le _,λa D=>by cases D⟩,Us rfl .nils RelC.nil⟩;obtain⟨hrl,u⟩:=R rfl;rw[hce]at d u;rw[Q]at L;simp only[DataW.weights,ht,List.all_cons,List.all_append,Bool.and_eq_true,decide_eq_true_eq,List.length_map]at L
 have hle:len<=reachBytes:=by
  have c:1<=P.bytesOf e:=Nat.le_of_ble_eq_true hb;have r:=Nat.le_trans (Nat.mul_le_mul_left (E.length+rest.length) c) L.1;omega
 have C:0<F->a.spot=none:=by
  intro O
  have H:∀ j (o:Option (DataW _×List MemPlace)),j=0->(W.cells? 0 (a.add (j*m)) m).bind (DataW.trod enc P W 0 (λ_=>true) A n e)=o->o.isSome=true->a.spot=none:=by
   intro j o U hj ho;subst U;rw[Nat.zero_mul]at hj;rw[Option.isSome_iff_exists]at ho;obtain⟨y,rfl⟩:=ho;obtain⟨g,c,_⟩:=Option.bind_eq_some_iff.1 hj;obtain⟨_,r,G⟩:=World.cells?_some c;have N:=G 0 hm;rw[List.getElem?_eq_getElem zo]at N;exact World.cell?_spot N
  rcases Nat.eq_zero_or_pos len with c|c
  have r:=u 0 zo;exact H _ _ zo r (by rw[List.getElem?_eq_getElem zo];rfl);have r:=d 0 c;exact H _ _ rfl r (by rw[List.getElem?_eq_getElem zo];rfl)
 rcases Nat.eq_zero_or_pos F with O|O
 have c:len=0:=zo;subst O c;exact⟨.mk false [],⟨Nat.zero_le _,λa D=>by cases D⟩,Us rfl (.slice0 _ _ _ a) RelC.nil⟩;have S:=C O;obtain⟨b,q,sp⟩:=a;have S:sp=none:=S;subst S
 obtain⟨l,I,hp⟩:=Zzc (p:=λi (a : α)=>B a/\∃ g,W.cells? 0 (Addr.add ⟨b,q,none⟩ (i*m)) m=some g/\RelC (Wj W) g (f a).cells) len (by
  intro i z;have c:=d i z;rw[List.getElem?_eq_getElem zo]at c;obtain⟨g,r,G⟩:=Option.bind_eq_some_iff.1 c;obtain⟨a,hB,D⟩:=T enc A n g _ G (Zph L.2.1 (List.mem_map.2 ⟨_,List.getElem_mem _,rfl⟩))
  exact⟨a,hB,g,r,D⟩)
 refine⟨.mk false l,⟨by show l.length<=_;omega,λa D=>?_⟩,Us rfl ?_ RelC.nil⟩;obtain⟨i,z,rfl⟩:=List.mem_iff_getElem.1 D;exact(hp i _ (List.getElem?_eq_getElem z)).1
 have hE:∀ v∈l.map f,v.cells.length=m:=by
  intro v hv;obtain⟨a,_,rfl⟩:=List.mem_map.1 hv;exact w a
 have J:=V8 hE;rw[List.length_map]at J
 have k:∀ i (z:i<(flat (l.map f)).length),∃ y,W.cell? ⟨b,q+i,none⟩=some y/\y.oneCell'=true/\Rel (Wj W) y (flat (l.map f))[i]:=by
  intro i z
  have Y:i<l.length*m:=by rw[<- J];exact z
  have hq:i/m<l.length:=Nat.div_lt_of_lt_mul (by rw[Nat.mul_comm];exact Y);have M:i%m<m:=Nat.mod_lt _ hm
  have K:i/m*m+i%m=i:=by rw[Nat.mul_comm];exact Nat.div_add_mod i m
  obtain⟨_,g,c,r⟩:=hp (i/m) _ (List.getElem?_eq_getElem hq);obtain⟨_,G,N⟩:=World.cells?_some c;have h5:=N (i%m) M;rw[List.getElem?_eq_getElem zo]at h5;have h6:=r.rel (i%m) zo (by rw[w];exact M);have h7:=Ih hE (i/m) (i%m) (by rw[List.length_map];exact hq) M;rw[K,List.getElem?_eq_getElem z,List.getElem_map,List.getElem?_eq_getElem (by rw[w];exact M)]at h7;have h8:=Option.some.inj h7;refine⟨_,?_,r.one _ (List.getElem_mem _),by rw[h8];exact h6⟩;rw[<- h5,Addr.add_lit,Addr.add_lit,Nat.add_assoc,K]
 have:=Rel.slice (X:=Wj W) .any false m (l.map f) b q F (λi=>(W.cell? ⟨b,q+i,none⟩).getD undef) (by rw[List.length_map,I];exact hl) zS hE
  (λi z=>by
   obtain⟨y,c,r,_⟩:=k i z;refine⟨by show(W.cell? ⟨b,q+i,none⟩).isSome=true;rw[c];rfl,trivial,?_,by simp only[c,Option.getD_some];exact r⟩
   show W.cell? ⟨b,q+i,none⟩=_
   rw[c];rfl)
  (λi z=>by
   obtain⟨y,c,_,G⟩:=k i z;simp only[c,Option.getD_some]
   exact G)
 rw[List.length_map,I]at this;exact this
end
end Go.Hs
end
