/- Part 51 of a proof; no condition. -/
import Derived.Test.YtnjcehngoajnnaaGreatDoorPart47
import Derived.Test.YtnjcehngoajnnaaGreatDoorPart50
set_option linter.unusedSimpArgs false
set_option linter.unusedVariables false
section
namespace Go.Hs
open Go.Proofs
set_option maxHeartbeats 1000000
set_option maxRecDepth 10000
def rnV (c c1 c2:Col) (vs es:Sl (List UInt8 × Int)) (d arg:Int):V := .view c (.agg [Za c1 2 Zi vs,Za c2 2 Zi es,.int .i64 d,.int .i64 arg])
theorem imXs (c:Col) (s:Sl XN):(V.agg [Za c 6 Z8 s]).Im := .agg _ fun y hy=>by
 rw [List.mem_singleton.1 hy]
 exact Zet (fun n z hz=>by
  simp only [Zp,V.cells,List.mem_cons,List.not_mem_nil,or_false] at hz
  rcases hz with rfl | rfl | rfl | rfl | rfl | rfl<;>first | exact .int _ _ | exact .str _) _
theorem nmFl (x:EV):(encNE x).Fl := .tuple _ fun y hy=>by
 simp only [List.mem_cons,List.not_mem_nil,or_false] at hy
 rcases hy with rfl | rfl<;>exact .int _ _
theorem mslB {H:Heap} {g n:Nat} {l:List (List UInt8 × Int)} (h:H 5005 = .cells .new g 0 (flat (l.map Zi))) (hn:l.length=n):Rd H (.msl 5005 g 0 n 2) (Za .old 2 Zi (.mk false l)):=by
 subst hn;have:=Rd.msl (l:=l) (off:=0) (n:=l.length) (f:=Zi) (f':=Zi) (g:=g) (fz:=0) (c := .new) h Zsa biIm (fun _=>rfl) (by omega);rw [List.drop_zero,List.take_length,Nat.zero_mul] at this;exact this
theorem Zz4 (G:Nat→V) (hE:GExp G) (c c1 c2 c3:Col) (vs es:Sl (List UInt8 × Int)) (d arg:Int) (a:AM) (hx:a.x.l.length<1000000) (hev:∀ env:Sl (List UInt8 × Int),env.l=vs.l++[(Zdl,arg)]→EvIn a.x env) (hvl:vs.l.length<100000) :
  Spec Tryz.prog G 84 [rnV c c1 c2 vs es d arg,stI c3 a] Zm (fun v _=>v=encNE (worthU arg vs.l a.x.l)):=by
 have hG:=hE.ok;refine Zo 0 30 [.tmp 4,.tmp 5] Tryz.func84 fun X=>?_;simp only [rnV];refine Z1 ?_;refine Zha (fun (g6:Nat)=>st [(0,rnV c c1 c2 vs es d arg),(6,.ptr 6 g6 0)] [(6,.cells .new g6 0 [Za c3.ent.bk 6 Z8 a.x])]) (fun _=>True) (fun K1 hK1=>?_) ?_
 ·refine Zc7 1 zk rfl ?_
  by_cases hk:a.kind=1
  ·rw [Zcca hk]
   simp -implicitDefEqProofs only[go_sem,seval];refine ⟨_,_,_,rfl,aMeth,?_⟩;refine Zcf @Zce hG ?_ (s:=Z1aa G c3.ent a);intro g6;exact hK1 _ g6 trivial (Zb zp zp)
  ·rw [Zbca hk]
   simp -implicitDefEqProofs only[go_sem,seval];refine ⟨_,_,_,rfl,eMeth,?_⟩;refine Zcf @Zce hG ?_ (s:=Zfaa G c3.ent a);intro g6;exact hK1 _ g6 trivial (Zb zp zp)
 intro g6 _;simp only [rnV]
 by_cases hx0:a.x.l=[]
 ·have q:((a.x.l.length:Int)==0)=true:=by rw [hx0];rfl
  refine Zf q ?_;rw [worthU,if_pos hx0];rfl
 have q:((a.x.l.length:Int)==0)=false:=by
  rw [beq_eq_false_iff_ne];exact fun h=>hx0 (List.length_eq_zero_iff.1 (by omega))
 have hw:worthU arg vs.l a.x.l=(evL (vs.l++[(Zdl,arg)]) a.x.l).need 1:=if_neg hx0;rw [hw];refine AW.weak (Zz (fun o=>o==6) (l:=[(0,rnV c c1 c2 vs es d arg),(6,.view .new (.agg [Za c3.ent.bk 6 Z8 a.x]))]) (m:=[]) ?_ trivial) ?_
 ·simp -implicitDefEqProofs only[go_sem,seval]
  exact ⟨Zd _,Fz.ptr (v := .agg [Za c3.ent.bk 6 Z8 a.x]) (c := .new) (fz:=0) rfl zp⟩
 simp only [rnV];refine Z1f q ?_;refine Z0 ?_
 have hN:∀ env:Sl (List UInt8 × Int),env.l=vs.l++[(Zdl,arg)]→∀ cc cd,Spec Tryz.prog G 22 [.agg [Za cc 6 Z8 a.x],Za cd 2 Zi env] Zm (fun v _=>v = .tuple [.int .i64 ((evL (vs.l++[(Zdl,arg)]) a.x.l).need 1).nm,.int .i64 ((evL (vs.l++[(Zdl,arg)]) a.x.l).need 1).er]):=fun env he cc cd=>by
  rw [← he];exact Zw1 G hE cc cd a.x env (hev env he)
 generalize (evL (vs.l++[(Zdl,arg)]) a.x.l).need 1=x at hN
 have hcells:List.take (vs.l.length * 2) (flat (vs.l.map Zi))++[V.str [97,114,103],V.int .i64 arg]=flat ((vs.l++[(Zdl,arg)]).map Zi):=by
  rw [List.take_of_length_le (by rw [Zqb Zsa];exact Nat.le_refl _),List.map_append,Zxg];rfl
 refine Zha (fun (_:Unit)=>st [(4,.int .i64 x.nm),(5,.int .i64 x.er)] []) (fun _=>True) (fun K5 hK5=>?_) ?_;rotate_left
 ·intro _ _
  exact Zr
 refine Zb7 12 6 [0,1,2,3,4,5,7,8,9,10,11,12,6,13,14,15,16,17,18] [0,1,2,3,4,5,7,8,9,10,11,6,12,13,14,15,16,17,18] [] ⟨fun i=>if i=14 then .tuple [.int .i64 x.nm,.int .i64 x.er] else .top,fun i=>if i=0 then .lend else if i=5 then .lend else if i=10 then .lend else if i=6 then .any else if i=14 then .lend else .pure⟩ zk hG zk zk zk zk zk zk zk zk ?_ ?_
 ·simp -implicitDefEqProofs only[go_sem,seval,List.getElem?_cons_zero,List.getElem?_cons_succ]
  intro g25;refine CallA.inl [(5005,.dead)] zk ?_ ?_
  ·intro p hp
   rw [List.mem_singleton] at hp;subst hp;simp -implicitDefEqProofs only[go_sem,seval]
  refine (Z2k G c1 vs (by omega)).mono ?_;rintro _ H' (⟨rfl,rfl,q⟩ | ⟨g5,_,rfl,q⟩)
  ·simp only [List.map_cons,List.map_nil,q]
   simp -implicitDefEqProofs only[go_sem,seval,Zcb,List.getElem?_cons_zero,List.getElem?_cons_succ];refine Zza (f:=Zi) (l:=[]) (l2:=[(Zdl,arg)]) (g:=0) Zsa rfl rfl rfl zp (Zca (by omega) (by show 0+1<10000000000;omega)) fun g2=>?_;simp -implicitDefEqProofs only[go_sem,seval,List.getElem?_cons_zero,List.getElem?_cons_succ];refine ⟨Zmr [.agg [Za c3.ent.bk.ent 6 Z8 a.x],Za .old 2 Zi (Zv [(Zdl,arg)])] zk ⟨Z7e (imXs _ _) zp,Zpm zp Zsa biIm (fun _=>rfl),trivial⟩ ((hN (Zv [(Zdl,arg)]) (Zea _) _ _).mono fun v _ hv=>by rw [hv];exact ⟨nmFl x,rfl⟩),?_⟩;exact hK5 _ () trivial (Zb zp zp)
  ·simp only [List.map_cons,List.map_nil,q]
   simp -implicitDefEqProofs only[go_sem,seval,Zcb,List.getElem?_cons_zero,List.getElem?_cons_succ];refine ⟨Zca (by omega) (by omega),by rw [Zqb Zsa];exact Nat.le_refl _,Nat.zero_le _,fun g2=>?_⟩;rw [hcells];refine ⟨Zmr [.agg [Za c3.ent.bk.ent 6 Z8 a.x],Za .old 2 Zi (.mk false (vs.l++[(Zdl,arg)]))] zk ⟨Z7e (imXs _ _) zp,mslB zp (by rw [List.length_append];rfl),trivial⟩ ((hN (.mk false (vs.l++[(Zdl,arg)])) rfl _ _).mono fun v _ hv=>by rw [hv];exact ⟨nmFl x,rfl⟩),?_⟩;exact hK5 _ () trivial (Zb zp zp)
 ·simp -implicitDefEqProofs only[go_sem,seval,List.getElem?_cons_zero,List.getElem?_cons_succ]
  refine CallA.inl [(5005,.dead)] zk ?_ ?_
  ·intro p hp
   rw [List.mem_singleton] at hp;subst hp;simp -implicitDefEqProofs only[go_sem,seval]
  refine (Z2k G c1 vs (by omega)).mono ?_;rintro _ H' (⟨rfl,rfl,q⟩ | ⟨g5,_,rfl,q⟩)
  ·simp only [List.map_cons,List.map_nil,q]
   simp -implicitDefEqProofs only[go_sem,seval,Zcb,List.getElem?_cons_zero,List.getElem?_cons_succ];intro g25;refine Zza (f:=Zi) (l:=[]) (l2:=[(Zdl,arg)]) (g:=0) Zsa rfl rfl rfl zp (Zca (by omega) (by show 0+1<10000000000;omega)) fun g2=>?_;simp -implicitDefEqProofs only[go_sem,seval,List.getElem?_cons_zero,List.getElem?_cons_succ];refine ⟨Zmr [.agg [Za c3.ent.bk.ent 6 Z8 a.x],Za .old 2 Zi (Zv [(Zdl,arg)])] zk ⟨Z7e (imXs _ _) zp,Zpm zp Zsa biIm (fun _=>rfl),trivial⟩ ((hN (Zv [(Zdl,arg)]) (Zea _) _ _).mono fun v _ hv=>by rw [hv];exact ⟨nmFl x,rfl⟩),?_⟩;exact hK5 _ () trivial (Zb zp zp)
  ·simp only [List.map_cons,List.map_nil,q]
   simp -implicitDefEqProofs only[go_sem,seval,Zcb,List.getElem?_cons_zero,List.getElem?_cons_succ];intro g25;refine ⟨Zca (by omega) (by omega),by rw [Zqb Zsa];exact Nat.le_refl _,Nat.zero_le _,fun g2=>?_⟩;rw [hcells];refine ⟨Zmr [.agg [Za c3.ent.bk.ent 6 Z8 a.x],Za .old 2 Zi (.mk false (vs.l++[(Zdl,arg)]))] zk ⟨Z7e (imXs _ _) zp,mslB zp (by rw [List.length_append];rfl),trivial⟩ ((hN (.mk false (vs.l++[(Zdl,arg)])) rfl _ _).mono fun v _ hv=>by rw [hv];exact ⟨nmFl x,rfl⟩),?_⟩;exact hK5 _ () trivial (Zb zp zp)
def svU (nq:Bool) (l:List (List UInt8 × Int)):Sl (List UInt8 × Int):=if nq then .nil else .mk false l
def vSl (gv:Nat) (nq:Bool) (l:List (List UInt8 × Int)):V:=if nq then .nils else .msl 5005 gv 0 l.length 2
def vOb (gv:Nat) (nq:Bool) (l:List (List UInt8 × Int)):AObj:=if nq then .dead else .cells .new gv 0 (flat (l.map Zi))
theorem Za1 {nq:Bool} {l:List (List UInt8 × Int)} (h:nq=true→l=[]):(svU nq l).l=l:=by
 cases nq with
 | true=>rw [h rfl];rfl
 | false=>rfl
theorem Rd.vU {H:Heap} {gv:Nat} {nq:Bool} {l:List (List UInt8 × Int)} (h:H 5005=vOb gv nq l):Rd H (vSl gv nq l) (Za .old 2 Zi (svU nq l)):=by
 cases nq with
 | true=>exact Z7e .nils rfl
 | false =>
  exact mslB h rfl
def rnC (gv ge:Nat) (nq:Bool) (r:RU) (arg:Int):List V:=[vSl gv nq r.vars,grown 7064 ge 2 r.emits,.int .i64 r.done,.int .i64 arg]
def rnO (gr gv ge:Nat) (nq:Bool) (r:RU) (arg:Int):List (Nat × AObj):=[(21,.cells .new gr 0 (rnC gv ge nq r arg)),(5005,vOb gv nq r.vars),(7064,Zua ge Zi r.emits)]
theorem Rd.rn {H:Heap} {gr gv ge:Nat} {nq:Bool} {r:RU} {arg:Int} (h1:H 21 = .cells .new gr 0 (rnC gv ge nq r arg)) (h2:H 5005=vOb gv nq r.vars) (h3:H 7064=Zua ge Zi r.emits) :
  Rd H (.ptr 21 gr 0) (rnV .old .old .old (svU nq r.vars) (Zv r.emits) r.done arg) :=
 Rd.obj h1 ⟨Rd.vU h2,Zpm h3 Zsa biIm (fun _=>rfl),Z7e (.int _ _) rfl,Z7e (.int _ _) rfl,trivial⟩
def rnK (gr gv:Nat) (nq:Bool) (arg:Int) (q:RU × Int):V→Heap→Prop:=fun v H=>∃ ge,v = .int .i64 q.2∧H 21 = .cells .new gr 0 (rnC gv ge nq q.1 arg)∧H 5005=vOb gv nq q.1.vars∧H 7064=Zua ge Zi q.1.emits
theorem imAM (c:Col) (a:AM):∀ y∈(Zda c a).cells,y.Im:=fun y hy=>by
 simp only [Z7a,V.cells,List.mem_cons,List.not_mem_nil,or_false] at hy
 rcases hy with rfl | rfl | rfl
 ·exact .int _ _
 ·exact .str _
 ·exact Zet (fun n z hz=>by
   simp only [Zp,V.cells,List.mem_cons,List.not_mem_nil,or_false] at hz
   rcases hz with rfl | rfl | rfl | rfl | rfl | rfl<;>first | exact .int _ _ | exact .str _) _
@[go_sem] theorem assA (v:V):Zig Tryz.prog (.iface 182 v) 182 true=some (.tuple [v,.bool true]):=rfl
@[go_sem] theorem assE (v:V):Zig Tryz.prog (.iface 187 v) 187 true=some (.tuple [v,.bool true]):=rfl
@[go_sem] theorem assN (v:V):Zig Tryz.prog (.iface 187 v) 182 true=some (.tuple [.agg [.int .u8 0,.str [],.nils],.bool false]):=rfl
theorem Zgaa (G:Nat→V) (hE:GExp G) (gr gv ge:Nat) (nq:Bool) (r:RU) (arg:Int) (c:Col) (a:AM) (hn:nq=true→r.vars=[]) (hx:a.x.l.length<1000000) (hev:∀ env:Sl (List UInt8 × Int),env.l=r.vars++[(Zdl,arg)]→EvIn a.x env) (hvl:r.vars.length<100000) (hd:r.done<1000000) (hel:r.emits.length<1000000) :
  InSp Tryz.prog G 55 [.ptr 21 gr 0,stI c a] (Zcb Zm (rnO gr gv ge nq r arg)) (rnK gr gv nq arg (Zfc (worthU arg) a.v r)):=by
 have hG:=hE.ok;refine Zjf 7000 77 [.tmp 4] Tryz.func55 rfl rfl rfl rfl fun X=>?_
 have hP:Zfc (worthU arg) a.v r=if a.kind=1∧Z0e r.vars a.name=none then (r,90) else if (worthU arg r.vars a.x.l).er≠0 then (r,(worthU arg r.vars a.x.l).er) else if a.kind=1 then (⟨r.vars.set ((Z0e r.vars a.name).getD 0) (a.name,(worthU arg r.vars a.x.l).nm),r.emits,r.done+1⟩,0)
  else (⟨r.vars,r.emits++[(a.name,(worthU arg r.vars a.x.l).nm)],r.done+1⟩,0):=rfl
 generalize Zfc (worthU arg) a.v r=res at hP ⊢;have hw:=fun c=>Zz4 G hE .old .old .old c (svU nq r.vars) (Zv r.emits) r.done arg a hx (by rw [Za1 hn];exact hev) (by rw [Za1 hn];exact hvl);rw [Za1 hn] at hw;generalize worthU arg r.vars a.x.l=x at hP hw;have w1:IntKind.i64.wrap ((r.done:Int)+1)=(r.done:Int)+1:=w64 (by omega) (by omega);simp only [rnO,Zcb]
 by_cases hk:a.kind=1
 ·rw [Zcca hk]
  simp only [Zcca hk] at hw;simp only [Z7a] at hw ⊢;simp only [rnC];refine Z ?_;intro g6;refine Z ?_;refine Ztc hG [Za .old 2 Zi (svU nq r.vars),.func (.func 83) [] [.view .old (Zda c.ent a)]] zk ⟨Rd.vU zp,Zvw ⟨Rd.ptr (v:=Zda c a) (fz:=0) (c := .new) zp (imAM c a) (Zce _ _ _),trivial⟩,trivial⟩ ?_;refine (Z09 G hG .old .old c.ent (svU nq r.vars) (by rw [Za1 hn];omega) a).mono ?_;rintro _ _ rfl;rw [Za1 hn,Zuj];refine ⟨.int _ _,?_⟩
  cases hp:Z0e r.vars a.name with
  | none =>
   rw [if_pos ⟨hk,hp⟩] at hP;subst hP;refine Zs ?_;refine Z ?_;exact ⟨ge,rfl,zp,zp,zp⟩
  | some i =>
   obtain ⟨p,hpg,hpn⟩:=Zwl hp;have hil:i<r.vars.length:=(List.getElem?_eq_some_iff.1 hpg).1
   have hv:r.vars≠[]:=fun e=>by rw [e] at hil;cases hil
   have hnq:nq=false:=by
    cases nq with
    | false=>rfl
    | true=>exact absurd (hn rfl) hv
   rw [if_neg (fun h=>by rw [hp] at h;exact absurd h.2 (Option.some_ne_none _)),hp] at hP;have q2:decide ((i:Int)<0)=false:=zF;refine Zs ?_;refine Zf q2 ?_;refine Ztc hG [rnV .old .old .old (svU nq r.vars) (Zv r.emits) r.done arg,.iface 182 (Zda c.ent a)] zk ⟨Rd.rn zp zp zp,Z7e (v := .iface 182 (Zda c a)) (.iface _ _ (.agg _ (imAM c a))) (by rw [V.recol,Zce]),trivial⟩ ?_;refine (hw c.ent).mono ?_;rintro _ _ rfl;refine ⟨nmFl x,?_⟩;simp only [encNE];refine Zs ?_
   by_cases her:x.er=0
   rotate_left
   ·have q6:(x.er != 0)=true:=by simpa using her
    rw [if_pos her] at hP;subst hP;refine Zf q6 ?_;exact ⟨ge,rfl,zp,zp,zp⟩
   have q6:(x.er != 0)=false:=by simp [her]
   rw [if_neg (fun h=>h her),if_pos hk] at hP;subst hP hnq;have e1:vSl gv false r.vars = .msl 5005 gv 0 r.vars.length 2:=rfl;have e2:vOb gv false r.vars = .cells .new gv 0 (flat (r.vars.map Zi)):=rfl
   have hfl:i * 2+1+1≤(flat (r.vars.map Zi)).length:=by rw [Zqb Zsa];omega
   have hst:=Zvt (n:=x.nm) hpg;rw [hpn] at hst;have hst':(flat (r.vars.map Zi)).set (i * 2+1) (.int .i64 x.nm)=flat ((r.vars.set i (a.name,x.nm)).map Zi):=hst;rw [e1,e2];refine Zf q6 ?_;intro g10;refine Zf (zi hil (zi hfl (zi @Int.natCast_nonneg (zi @Int.ofNat_lt w1)))) ?_;refine ⟨ge,rfl,?_,?_,zp⟩
   ·simp only [rnC,vSl,Option.getD_some,List.length_set]
    exact zp
   ·simp only [vOb,Option.getD_some]
    rw [← hst'];exact zp
 ·rw [Zbca hk]
  simp only [Zbca hk] at hw;simp only [Z7a] at hw ⊢;simp only [rnC];refine Z ?_;intro g6;refine Z ?_;rw [if_neg (fun h=>hk h.1)] at hP;refine Ztc hG [rnV .old .old .old (svU nq r.vars) (Zv r.emits) r.done arg,.iface 187 (Zda c.ent a)] zk ⟨Rd.rn zp zp zp,Z7e (v := .iface 187 (Zda c a)) (.iface _ _ (.agg _ (imAM c a))) (by rw [V.recol,Zce]),trivial⟩ ?_;refine (hw c.ent).mono ?_;rintro _ _ rfl;refine ⟨nmFl x,?_⟩;simp only [encNE];refine Zs ?_
  by_cases her:x.er=0
  rotate_left
  ·have q6:(x.er != 0)=true:=by simpa using her
   rw [if_pos her] at hP;subst hP;refine Zf q6 ?_;exact ⟨ge,rfl,zp,zp,zp⟩
  have q6:(x.er != 0)=false:=by simp [her]
  rw [if_neg (fun h=>h her),if_neg hk] at hP;subst hP;refine Zf q6 ?_;intro g11;refine Z ?_;refine ZT hG ?_;intro g63;refine Zza (f:=Zi) (l:=r.emits) (l2:=[(a.name,x.nm)]) (g:=ge) Zsa rfl rfl rfl zp (Zca (by omega) (by simp;omega)) fun g2=>?_;refine Zs ?_;refine Zf w1 ?_;exact ⟨g2,rfl,zp,zp,zp⟩
@[go_sem] theorem recol_stI (f:Col→Col) (c:Col) (a:AM):(stI c a).recol f=stI (f c) a:=by
 unfold stI
 split<;>rw [V.recol,Zce]
@[go_sem] theorem noMp_grownO {α : Type} (g:Nat) (f : α → V) (l:List α):(Zua g f l).noMp=Zua g f l:=by cases l<;>rfl
@[go_sem] theorem noMp_vOb (g:Nat) (nq:Bool) (l:List (List UInt8 × Int)):(vOb g nq l).noMp=vOb g nq l:=by cases nq<;>rfl
theorem Fz.vU {F:Nat→Bool} {H:Heap} {g:Nat} {nq:Bool} {l:List (List UInt8 × Int)} (hF:F 5005=true) (hH:H 5005=vOb g nq l):Fz F H (vSl g nq l) (Za .new 2 Zi (svU nq l)):=by
 cases nq with
 | true=>exact Zd _
 | false=>exact Zaf (f:=Zi) (l:=l) (m:=2) (g:=g) (fz:=0) (c := .new) hF hH Zsa
def Zfi {α : Type}:Sl α → Bool
 | .nil=>true
 | .mk _ _=>false
theorem Z48 {α : Type} {s:Sl α} (h:Zfi s=true):s.l=[]:=by
 cases s with
 | nil=>rfl
 | mk b l=>cases h
def svR (b:List ASt) (vs:Sl (List UInt8 × Int)) (l:List (List UInt8 × Int)):Sl (List UInt8 × Int):=if Z3a b≠0 then .nil else svU (Zfi vs) l
def ansR (sv:Sl (List UInt8 × Int)) (q:RU × Int):V := .tuple [.agg [Za .new 2 Zi sv,Za .new 2 Zi (Zv q.1.emits),.int .i64 q.1.done],.int .i64 q.2]
theorem Zjo (G:Nat→V) (hE:GExp G) (c c1 c2:Col) (s:Sl AM) (vs:Sl (List UInt8 × Int)) (arg:Int) (h:RunIn s vs.l arg) :
  Spec Tryz.prog G 32 [.agg [Za c 3 (Zda c1) s],Za c2 2 Zi vs,.int .i64 arg] Zm (fun v _=>v=ansR (svR (s.l.map AM.v) vs (runB arg (s.l.map AM.v) vs.l).1.vars) (runB arg (s.l.map AM.v) vs.l)):=by
 have hG:=hE.ok;refine Zo 0 45 [.cell 6 74,.tmp 7] Tryz.func32 fun X=>?_;have hck:=Z6k G hE c.ent c1.ent s h.hs h.hb
 have hP:runB arg (s.l.map AM.v) vs.l=if Z3a (s.l.map AM.v)≠0 then (⟨[],[],0⟩,2) else Zne (worthU arg) (s.l.map AM.v) ⟨vs.l,[],0⟩:=rfl
 generalize runB arg (s.l.map AM.v) vs.l=res at hP ⊢
 have hsv:svR (s.l.map AM.v) vs res.1.vars=if Z3a (s.l.map AM.v)≠0 then .nil else svU (Zfi vs) res.1.vars:=rfl
 generalize svR (s.l.map AM.v) vs res.1.vars=sv at hsv ⊢;have hok := @Zjh (s.l.map AM.v);have h02:=Z0j (s.l.map AM.v);generalize Z3a (s.l.map AM.v)=ck at hP hck hok h02 hsv;refine Z ?_;intro g3 g6;refine Z ?_;refine Zc hG ?_ (s:=hck)
 rcases h02 with rfl | rfl
 rotate_left
 ·refine Z ?_
  rw [hP,hsv];rfl
 obtain ⟨hb5,hall⟩:=hok rfl;rw [if_neg (by decide)] at hP hsv;have hvl:=h.hv;refine Z0 ?_;refine Zha (fun (x:Nat × Nat)=>st [(3,.ptr 3 g3 0),(6,.ptr 6 g6 0),(8,.ptr 21 x.1 0)] [(3,.cells .new g3 0 [Za c 3 (Zda c1) s]),(6,.cells .new g6 0 [.nils,.nils,.int .i64 0]),(21,.cells .new x.1 0 (rnC x.2 0 (Zfi vs) ⟨vs.l,[],0⟩ arg)),(5005,vOb x.2 (Zfi vs) vs.l),(7064,.dead)]) (fun _=>True) (fun K1 hK1=>?_) ?_
 ·refine Z ?_
  refine CallA.inl [(5005,.dead)] zk ?_ ?_
  ·intro p hp
   rw [List.mem_singleton] at hp;subst hp;exact zp
  refine (Z2k G c2 vs (by omega)).mono ?_;rintro _ H' (⟨rfl,rfl,q⟩ | ⟨g5,hne,rfl,q⟩)
  ·simp only [List.map_cons,List.map_nil,q]
   simp -implicitDefEqProofs only[go_sem,seval,Zcb];intro g21;refine Zs ?_;exact hK1 _ (g21,0) trivial (Zb zp (by simp -implicitDefEqProofs only[go_sem,seval];exact ⟨rfl,rfl⟩))
  ·have hnq:Zfi vs=false:=by
    cases vs with
    | nil=>exact absurd rfl hne
    | mk b l=>rfl
   simp only [List.map_cons,List.map_nil,q];simp -implicitDefEqProofs only[go_sem,seval,Zcb];intro g21;refine Zs ?_;exact hK1 _ (g21,g5) trivial (Zb zp (by simp -implicitDefEqProofs only[go_sem,seval];rw [hnq];exact ⟨rfl,rfl⟩))
 rintro ⟨g21,gv⟩ _;have hbl:(s.l.map AM.v).length=s.l.length:=List.length_map _;refine Z ?_
 refine Zwa s.l.length (fun k (x:RU × Nat)=>st [(3,.ptr 3 g3 0),(6,.ptr 6 g6 0),(8,.ptr 21 g21 0),(23,Za c 3 (Zda c1) s),(24,.int .i64 s.l.length),(25,.int .i64 k)]
   [(3,.cells .new g3 0 [Za c 3 (Zda c1) s]),(6,.cells .new g6 0 [.nils,.nils,.int .i64 0]),(21,.cells .new g21 0 (rnC gv x.2 (Zfi vs) x.1 arg)),(5005,vOb gv (Zfi vs) x.1.vars),(7064,Zua x.2 Zi x.1.emits)])
  (fun k x=>Zne (worthU arg) ((s.l.map AM.v).drop k) x.1=res∧RuOk vs.l.length k x.1) 0 (⟨vs.l,[],0⟩,0) (Nat.zero_le _) ⟨hP.symm,rfl,h.hf,Nat.le_refl _,Nat.le_refl _⟩
  (Zb zp zp) ?_
 rintro k ⟨r,ge⟩ hk ⟨hR,hO⟩ L3 hL3;simp only at hR hO;have hvr:=hO.len;have hnr:Zfi vs=true→r.vars=[]:=fun q=>List.length_eq_zero_iff.1 (by rw [hvr,Z48 q];rfl)
 by_cases hk1:k<s.l.length
 rotate_left
 ·have hke:k=s.l.length:=by omega
  have hlt:decide ((k:Int)<(s.l.length:Int))=false:=zF;rw [hke,← hbl,Zxt] at hR;refine AW.weak (Zz (fun o=>o==5005 || o==7064) (l:=[(6,.ptr 6 g6 0),(8,.ptr 21 g21 0),(24,.int .i64 s.l.length),(25,.int .i64 k)]) (m:=[(6,.cells .new g6 0 [.nils,.nils,.int .i64 0]),(21,.cells .new g21 0 [Za .new 2 Zi (svU (Zfi vs) r.vars),Za .new 2 Zi (Zv r.emits),.int .i64 r.done,.int .i64 arg])]) ?_ ?_) ?_
  ·simp -implicitDefEqProofs only[go_sem,seval]
   exact ⟨Zd _,Zd _,Zd _,Zd _⟩
  ·simp only [Zl,Zt,and_true]
   exact ⟨FzO.keep rfl zp,Zlh (c := .new) (fz:=0) (cs:=rnC gv ge (Zfi vs) r arg) rfl zp ⟨Fz.vU rfl zp,Z1a rfl zp Zsa,Zd _,Zd _,trivial⟩⟩
  refine Zf hlt ?_;rw [hsv,← hR];rfl
 have hlt:decide ((k:Int)<(s.l.length:Int))=true:=zT;have hg:=List.getElem?_eq_getElem hk1;have hm:s.l[k]∈s.l:=List.getElem_mem hk1;have hbk:=h.hb _ hm
 have hgv:(s.l.map AM.v)[k]? = some (s.l[k]).v:=by rw [List.getElem?_map,hg];rfl
 have hav:=hall (s.l[k]).v (List.mem_map_of_mem hm);have hEv:=fun env he=>h.ev hm hvr hO.fit env he;have hnn:=h.hn _ hm;rw [Zvx hgv] at hR;generalize s.l[k]=a at hg hm hbk hgv hav hEv hnn hR;have hfine:(worthU arg r.vars a.x.l).fine:=Zxf hav.2 hnn hO.fit h.ha;have hok2:=Zkl (s:=a.v) hO hfine;have hdn:=hO.done;have hem:=hO.em;have hds:=fun c=>Zgaa G hE g21 gv ge (Zfi vs) r arg c a hnr hbk.l hEv (by omega) (by omega) (by omega);generalize Zfc (worthU arg) a.v r=q at hR hok2 hds;refine Zf (zi hlt (zi hg @Z7a)) ?_;intro g10;refine Z ?_;refine Zc hG ?_ (s:=Z08 G c1.ent a);refine CallA.inl (rnO g21 gv ge (Zfi vs) r arg) zk ?_ ?_
 ·intro p hp
  simp only [rnO,List.mem_cons,List.not_mem_nil,or_false] at hp
  rcases hp with rfl | rfl | rfl<;>exact zp
 refine (hds _).mono ?_;rintro _ H' ⟨ge',rfl,q21,q5,q7⟩;simp only [rnO,List.map_cons,List.map_nil,q21,q5,q7];simp -implicitDefEqProofs only[go_sem,seval,Zcb]
 by_cases her:q.2=0
 ·have q6:(q.2 != 0)=false:=by simp [her]
  rw [if_neg (fun h=>h her)] at hR;have w2:IntKind.i64.wrap ((k:Int)+1)=(k:Int)+1:=w64 (by omega) (by omega);refine Zf (zi q6 w2) ?_;exact hL3 _ ⟨hk1,(q.1,ge'),⟨hR,hok2⟩,Zb zp zp⟩
 ·have q6:(q.2 != 0)=true:=by simpa using her
  rw [if_pos her] at hR;refine AW.weak (Zz (fun o=>o==5005 || o==7064) (l:=[(6,.ptr 6 g6 0),(8,.ptr 21 g21 0),(11,.int .i64 q.2)]) (m:=[(6,.cells .new g6 0 [.nils,.nils,.int .i64 0]),(21,.cells .new g21 0 [Za .new 2 Zi (svU (Zfi vs) q.1.vars),Za .new 2 Zi (Zv q.1.emits),.int .i64 q.1.done,.int .i64 arg])]) ?_ ?_) ?_
  ·simp -implicitDefEqProofs only[go_sem,seval]
   exact ⟨Zd _,Zd _,Zd _⟩
  ·simp only [Zl,Zt,and_true]
   exact ⟨FzO.keep rfl zp,Zlh (c := .new) (fz:=0) (cs:=rnC gv ge' (Zfi vs) q.1 arg) rfl zp ⟨Fz.vU rfl zp,Z1a rfl zp Zsa,Zd _,Zd _,trivial⟩⟩
  refine Zf q6 ?_;rw [hsv,← hR];rfl
structure CU where
 i:Nat
 e:Int
def cuO (sl:Sl Tk) (g:Nat) (st:V) (r:CU):AObj := .cells .any g 0 [Za .any 3 Zib sl,.int .i64 r.i,.int .i64 r.e,st]
theorem Z2i (sl:Sl Tk) (g:Nat) (st:V) (r:CU):cuO sl g st r = .cells .any g 0 [Za .any 3 Zib sl,.int .i64 r.i,.int .i64 r.e,st]:=rfl
def CuS (G:Nat→V) (f:FuncId) (args:List V) (sl:Sl Tk) (g:Nat) (r:CU) (v:V) (r':CU):Prop :=
 ∀ st:V,(∀ F:Col→Col,st.recol F=st)→Spec Tryz.prog G f (.ptr 21 g 0::args) (Zcb Zm [(21,cuO sl g st r)]) (fun v0 H'=>v0=v∧H' 21=cuO sl g st r')
theorem CuS.call {G:Nat→V} (hG:GOk G) {f:FuncId} {args args':List V} {sl:Sl Tk} {g:Nat} {r r':CU} {v st:V} (h:CuS G f args' sl g r v r') {H:Heap} {K:V→Heap→Prop}
  (hst:∀ F:Col→Col,st.recol F=st) (hen:Zfa Tryz.prog f=true) (hargs:args.map (V.recol Col.ent)=args') {v':V} (hv:v.recol Col.bk=v')
  (h8:H 21=cuO sl g st r) (hk:K v' (Zcb H [(21,cuO sl g st r')])) :
  CallA Tryz.prog G f (.ptr 21 g 0::args) H K:=by
 have e8:∀ (F:Col→Col) r,F .any = .any→(cuO sl g st r).recol F=cuO sl g st r:=by
  intro F r hF;simp only [Z2i,recol_cells,List.map_cons,List.map_nil,Zeb,Zze,hF,hst]
 refine Zht hG [(21,cuO sl g st r)] hen ?_ ?_
 ·intro p hp
  rw [List.mem_singleton] at hp;subst hp;rw [h8,e8 _ _ rfl]
 ·have ha:(V.ptr 21 g 0::args).map (V.recol Col.ent) = .ptr 21 g 0::args':=by rw [List.map_cons,Zul,hargs]
  rw [ha];refine (h st hst).mono ?_;rintro _ H' ⟨rfl,q8⟩;simp only [List.map_cons,List.map_nil,q8,e8 _ _ Zsaa,hv];exact hk
theorem Z4k (G:Nat→V) (hG:GOk G) (sl:Sl Tk) (g:Nat) (r:CU) (w:List UInt8):CuS G 90 [.str w] sl g r (.bool (decide (r.i<sl.l.length) && Zxb sl.l r.i==w)) r:=by
 intro st hst;refine Zo 1000 30 [.tmp 4] Tryz.func90 fun X=>?_;simp only [Zcb,Z2i];refine Z1 ?_
 by_cases hi:r.i<sl.l.length
 ·have h1:decide ((r.i:Int)<sl.l.length)=true:=zT
  have hg:=List.getElem?_eq_getElem hi;generalize sl.l[r.i]=t at hg;rw [Zzf hg,decide_eq_true hi,Bool.true_and];refine ZTf (zi h1 (zi hg @Z3b)) hG ?_;refine Z ?_;exact ⟨rfl,zp⟩
 ·have h1:decide ((r.i:Int)<sl.l.length)=false:=zF
  rw [decide_eq_false hi,Bool.false_and];refine ZTf h1 hG ?_;refine Z ?_;exact ⟨rfl,zp⟩
theorem Zn6 (G:Nat→V) (hG:GOk G) (sl:Sl Tk) (g:Nat) (r:CU) (hi:r.i≤sl.l.length):CuS G 153 [] sl g r (Za .any 3 Zib (sl.sub r.i sl.l.length)) r:=by
 intro st hst;refine Zo 1000 12 [.tmp 2] Tryz.func153 fun X=>?_;simp only [Zcb,Z2i];refine Z1 ?_;have hll:sl.l.length≤sl.l.length:=Nat.le_refl _
 refine Z5 <| Zy ⟨fun _ => .top,fun _ => .pure⟩ zk hG zk zk ?_
 simp -implicitDefEqProofs only[go_sem,seval,hi,hll,and_self];refine Z ?_;exact ⟨rfl,zp⟩
theorem Z6s (G:Nat→V) (hG:GOk G) (sl:Sl Tk) (hsl:sl.l.length<1000000) (g:Nat) (r:CU) (hi:r.i≤sl.l.length):CuS G 126 [] sl g r (.tuple [.str (if Zgh sl.l r.i=true then Zxb sl.l r.i else []),.bool (Zgh sl.l r.i)])
  (if Zgh sl.l r.i=true then ⟨r.i+1,r.e⟩ else ⟨r.i,110⟩):=by
 intro st hst;refine Zo 1000 50 [.tmp 2,.tmp 3] Tryz.func126 fun X=>?_;simp only [Zcb,Z2i];refine Z1 ?_;refine Z5 ?_
 by_cases hil:r.i=sl.l.length
 ·have h1:((r.i:Int)==sl.l.length)=true:=by rw [beq_iff_eq];omega
  refine ZTf h1 hG ?_;refine Z ?_;rw [Zpf (by omega)];exact ⟨rfl,zp⟩
 have h1:((r.i:Int)==sl.l.length)=false:=by rw [beq_eq_false_iff_ne];omega
 have hilt:r.i<sl.l.length:=by omega
 have hg:=List.getElem?_eq_getElem hilt;generalize sl.l[r.i]=t at hg
 cases hk:(t.kind==2) with
 | false =>
  refine Z5 <| Zy ⟨fun _ => .top,fun _ => .pure⟩ zk hG zk zk ?_
  simp -implicitDefEqProofs only[go_sem,seval,h1,hg,Z3b,bne,hk];refine Z ?_;rw [Zfh hg,hk];exact ⟨rfl,zp⟩
 | true =>
  refine Z5 <| Zy ⟨fun _ => .top,fun _ => .pure⟩ zk hG zk zk ?_
  simp -implicitDefEqProofs only[go_sem,seval,h1,hg,Z3b,bne,hk];refine Z0 ?_
  have hw:IntKind.i64.wrap ((r.i:Int)+1)=((r.i+1:Nat):Int):=by rw [w64 (by omega) (by omega)];omega
  have hw2:IntKind.i64.wrap (((r.i+1:Nat):Int)-1)=(r.i:Int):=by rw [w64 (by omega) (by omega)];omega
  refine Z1f hw ?_;refine ZTf (zi hw2 (zi hg @Z3b)) hG ?_;refine Z ?_;rw [Zfh hg,hk,Zzf hg];exact ⟨rfl,zp⟩
theorem Zvf (G:Nat→V) (hG:GOk G) (sl:Sl Tk) (hsl:sl.l.length<1000000) (g:Nat) (r:CU) (hi:r.i≤sl.l.length) (c:Col) (ws:List (List UInt8)) (hws:ws.length<1000) (hwn:∀ w∈ws,w≠[]) (b:Bool) :
  CuS G 127 [Za c 1 V.str (.mk b ws)] sl g r (.bool (Zbc sl.l ws r.i).1) ⟨(Zbc sl.l ws r.i).2,if (Zbc sl.l ws r.i).1=true then r.e else 110⟩:=by
 intro st hst;refine Zo 1000 28 [.tmp 4] Tryz.func127 fun X=>?_;generalize hP:Zbc sl.l ws r.i=res;simp only [Zcb,Z2i];have hwl:(Sl.mk b ws).l=ws:=rfl;refine Z1 ?_;refine Z1f hwl ?_;refine AW.block ?_
 refine Zwa ws.length (fun m (_:Unit)=>Go.Hs.st [(0,.ptr 21 g 0),(7,Za c 1 V.str (.mk b ws)),(8,.int .i64 ws.length),(9,.int .i64 m)] [(21,cuO sl g st ⟨r.i+m,r.e⟩)])
  (fun m _=>res=Zbc sl.l (ws.drop m) (r.i+m)∧r.i+m≤sl.l.length) 0 () (Nat.zero_le _) ⟨hP.symm,hi⟩ (Zb zp zp) ?_
 rintro m _ hm ⟨hR,hmi⟩ L2 hL2;refine Z1 ?_;refine Z5 ?_;refine Ze rfl (fun h10=>?_) (fun h10=>?_);rotate_left
 ·have hm2:m=ws.length:=by have:=zN h10;omega
  rw [List.drop_eq_nil_of_le (by omega)] at hR;refine Z ?_;rw [hR];exact ⟨rfl,zp⟩
 have hm1:m<ws.length:=zL h10;have hgm:ws[m]? = some ws[m]:=List.getElem?_eq_getElem hm1;have hdr:ws.drop m=ws[m]::ws.drop (m+1):=List.drop_eq_getElem_cons hm1;have hwm:=hwn _ (List.getElem_mem hm1);generalize ws[m]=w2 at hgm hdr hwm;rw [hdr,Zbc] at hR;refine Z1f (zi hwl hgm) ?_;refine Z1 ?_;refine CuS.call hG (Z4k G hG sl g ⟨r.i+m,r.e⟩ w2) hst zk zm rfl zr ?_;refine Zu ?_
 have hcond:(decide (r.i+m<sl.l.length) && Zxb sl.l (r.i+m)==w2)=(Zxb sl.l (r.i+m)==w2):=by
  by_cases h:r.i+m<sl.l.length
  ·rw [decide_eq_true h,Bool.true_and]
  ·rw [decide_eq_false h,Bool.false_and,Zgi (by omega)]
   symm
   rw [beq_eq_false_iff_ne];exact fun h=>hwm h.symm
 rw [hcond]
 by_cases hw4:Zxb sl.l (r.i+m)=w2
 rotate_left
 ·rw [if_neg hw4] at hR
  have q2:(Zxb sl.l (r.i+m)==w2)=false:=by simpa using hw4
  rw [q2];refine Zf @Z2i ?_;rw [hR];exact ⟨rfl,zp⟩
 have hlt:r.i+m<sl.l.length:=Zle (by rw [hw4];exact hwm);rw [if_pos hw4] at hR
 have q2:(Zxb sl.l (r.i+m)==w2)=true:=by simpa using hw4
 rw [q2];refine Z0 ?_
 have hw5:IntKind.i64.wrap (((r.i+m:Nat):Int)+1)=((r.i+(m+1):Nat):Int):=by rw [w64 (by omega) (by omega)];omega
 have hw6:IntKind.i64.wrap ((m:Int)+1)=((m+1:Nat):Int):=by rw [w64 (by omega) (by omega)];omega
 refine Z1f (zi @Z2i hw5) ?_;refine Z1f hw6 ?_;exact hL2 _ ⟨hm1,(),⟨hR,by omega⟩,Zb zp zp⟩
theorem Z7s (G:Nat→V) (hE:GExp G) (sl:Sl Tk) (hT:TkOk sl.l) (g:Nat) (r:CU) (hi:r.i≤sl.l.length) :
  CuS G 128 [] sl g r (.tuple [.agg [encXs .new (Zkd (sl.l.drop r.i)).1],.bool ((Zkd (sl.l.drop r.i)).2.2==0)]) ⟨r.i+(Zkd (sl.l.drop r.i)).2.1.toNat,(Zkd (sl.l.drop r.i)).2.2⟩:=by
 have hG:=hE.ok;intro st hst;refine Zo 1000 29 [.cell 2 24,.tmp 3] Tryz.func128 fun X=>?_;have hTl:=hT.len
 have hsub:(sl.sub r.i sl.l.length).l=sl.l.drop r.i:=by rw [Z8h];exact List.take_of_length_le (by rw [List.length_drop];omega)
 have hfr:=fun c=>Zy4 G hE c (sl.sub r.i sl.l.length) (by rw [hsub];exact ⟨by rw [List.length_drop];omega,fun t ht=>hT.text t (List.mem_of_mem_drop ht)⟩);have hbd:=Zxi (l:=sl.l.drop r.i);rw [hsub] at hfr;rw [List.length_drop] at hbd;generalize Zkd (sl.l.drop r.i)=p at hfr hbd;obtain ⟨xs,n,e⟩:=p;simp only at hbd
 have hw3:IntKind.i64.wrap ((r.i:Int)+n)=((r.i+n.toNat:Nat):Int):=by rw [w64 (by omega) (by omega)];omega
 simp only [Zcb,Z2i];refine Z1 ?_;intro g2;refine Z1 ?_;refine CuS.call hG (Zn6 G hG sl g r hi) hst zk rfl rfl zr ?_;simp -implicitDefEqProofs only[go_sem,seval,Zcb,Zeb];refine Znf @Zeb hG ?_ (s:=(hfr _));refine Zsf (zi @encFr.eq_1 (zi @encXs.eq_1 @Zk)) ?_;intro g4;refine Zf (zi @Z2i hw3) ?_;exact ⟨rfl,zp⟩
theorem Zbz (G:Nat→V) (hE:GExp G) (sl:Sl Tk) (hT:TkOk sl.l) (g:Nat) (i:Nat) (hi:i≤sl.l.length) :
  CuS G 89 [] sl g ⟨i,0⟩ (.tuple [Zmg .new (Zme sl.l 1 [58,61] [[59]] i).1,.bool ((Zme sl.l 1 [58,61] [[59]] i).2.2==0)]) ⟨(Zme sl.l 1 [58,61] [[59]] i).2.1.toNat,(Zme sl.l 1 [58,61] [[59]] i).2.2⟩:=by
 have hG:=hE.ok;have hTl:=hT.len;intro st hst
 have hP:Zme sl.l 1 [58,61] [[59]] i=if Zgh sl.l i=false then (⟨1,[],[]⟩,(i:Int),110)
  else if Zxb sl.l (i+1)≠[58,61] then (⟨1,Zxb sl.l i,[]⟩,((i+1:Nat):Int),110)
  else if (1:Int)=2∧Zxb sl.l (i+2)=[41] then Zci sl.l ⟨1,Zxb sl.l i,[]⟩ [[59]] (i+2)
  else Zzk sl.l 1 (Zxb sl.l i) [[59]] (i+2):=rfl
 generalize Zme sl.l 1 [58,61] [[59]] i=res at hP ⊢;refine Zo 1000 39 [.cell 2 92,.tmp 3] Tryz.func89 fun X=>?_;simp only [Zcb,Z2i];refine Z1 ?_;intro g2;refine Z1 ?_;refine Z1 ?_;refine CuS.call hG (Z6s G hG sl (by omega) g ⟨i,0⟩ hi) hst zk rfl rfl zr ?_
 cases hn:Zgh sl.l i with
 | false =>
  rw [if_pos hn] at hP
  have q0:(false=true)=False:=by simp
  simp -implicitDefEqProofs only[go_sem,seval,Zcb,q0,if_false];refine Z ?_;rw [hP];exact ⟨rfl,zp⟩
 | true =>
 rw [if_neg (by rw [hn];decide)] at hP
 have hil:i<sl.l.length:=by
  refine Classical.byContradiction fun h=>?_;rw [Zpf (by omega)] at hn;cases hn
 simp -implicitDefEqProofs only[go_sem,seval,Zcb,if_true];refine Z1 ?_;intro g18;refine Zdc (fun o=>o==1018) [.ptr 21 g 0,Za .new 1 V.str (.mk false [[58,61]])] [(21,cuO sl g st ⟨i+1,0⟩),(1002,.cells .new g2 0 [.int .u8 1,.str (Zxb sl.l i),.nils])] ⟨Zd _,Zaf (f:=V.str) (l:=[[58,61]]) (m:=1) (g:=g18) (fz:=0) (c := .new) rfl zp (fun _=>rfl),trivial⟩ (by simp only [Zl,Zt,and_true];exact ⟨FzO.keep rfl zp,FzO.keep rfl zp⟩) ?_;refine CuS.call hG (Zvf G hG sl (by omega) g ⟨i+1,0⟩ hil .old [[58,61]] (by decide) (by decide) false) hst zk zm rfl zr ?_
 have htk:Zbc sl.l [[58,61]] (i+1)=if Zxb sl.l (i+1)=[58,61] then (true,i+2) else (false,i+1):=rfl
 by_cases hw1:Zxb sl.l (i+1)=[58,61]
 rotate_left
 ·rw [if_pos hw1] at hP
  rw [htk,if_neg hw1]
  have q0:(false=true)=False:=by simp
  simp -implicitDefEqProofs only[go_sem,seval,Zcb,q0,if_false];refine Z ?_;rw [hP];exact ⟨rfl,zp⟩
 rw [if_neg (by simpa using hw1),if_neg (fun h=>absurd h.1 (by decide))] at hP;rw [htk,if_pos hw1];have hi2:i+2≤sl.l.length:=Zle (by rw [hw1];decide);simp -implicitDefEqProofs only[go_sem,seval,Zcb,if_true];refine Zog rfl ?_;unfold Zzk at hP;have hbad:=Zqy (l:=sl.l.drop (i+2));have hbd:=Zxi (l:=sl.l.drop (i+2));have hex:=Z7s G hE sl hT g ⟨i+2,0⟩ hi2;simp only at hex;rw [List.length_drop] at hbd;generalize Zkd (sl.l.drop (i+2))=p at hP hbad hbd hex;obtain ⟨xs,n,e⟩:=p;simp only at hP hbad hbd hex;refine Z1 ?_;refine CuS.call hG hex hst zk rfl (by first | rfl | (simp -implicitDefEqProofs only[go_sem,seval,encXs,Zk];try rfl)) zr ?_;simp -implicitDefEqProofs only[go_sem,seval,Zcb,encXs];have hx0:e≠0→xs=[]:=hbad
 by_cases he:e=0
 rotate_left
 ·rw [if_pos he] at hP
  have q1:(e==0)=false:=by simpa using he
  obtain rfl:=hx0 he;rw [q1]
  refine Z5 <| Zmh [(92,.ptr 1002 g2 0,.agg [.int .u8 1,.str (Zxb sl.l i),.nils])] ⟨fun j=>if j=0 then .agg [.int .u8 1,.str (Zxb sl.l i),.nils] else .top,fun j=>if j=0 then .keep else if j=7 then .any else .pure⟩ zk hG zk zk ?_
  have hgn:Za Col.new 6 Z8 (Zv []) = .nils:=rfl;refine Zsf hgn ?_;refine Z ?_;rw [hP]
  have hti:(((i+2:Nat):Int)+n).toNat=i+2+n.toNat:=by omega
  exact ⟨by rw [← q1]<;>rfl,by simp only [hti];simp -implicitDefEqProofs only[go_sem,seval];try rfl⟩
 refine Z5 <| Zmh [(92,.ptr 1002 g2 0,Zmg .new ⟨1,Zxb sl.l i,xs⟩)] ⟨fun j=>if j=0 then Zmg .new ⟨1,Zxb sl.l i,xs⟩ else .top,fun j=>if j=0 then .keep else if j=7 then .any else .pure⟩ zk hG zk zk ?_
 have q1:(e==0)=true:=by simpa using he
 rw [if_neg (by simpa using he)] at hP;refine Zsf (zi q1 @Z1k) ?_;intro g35
 have hi3:i+2+n.toNat≤sl.l.length:=by omega
 refine Zdc (fun o=>o==1035) [.ptr 21 g 0,Za .new 1 V.str (.mk false [[59]])] [(21,cuO sl g st ⟨i+2+n.toNat,e⟩),(1002,.cells .new g2 0 [.int .u8 1,.str (Zxb sl.l i),Za .new 6 Z8 (Zv xs)])] ⟨Zd _,Zaf (f:=V.str) (l:=[[59]]) (m:=1) (g:=g35) (fz:=0) (c := .new) rfl zp (fun _=>rfl),trivial⟩ (by simp only [Zl,Zt,and_true];exact ⟨FzO.keep rfl zp,FzO.keep rfl zp⟩) ?_;refine CuS.call hG (Zvf G hG sl (by omega) g ⟨i+2+n.toNat,e⟩ hi3 .old [[59]] (by decide) (by decide) false) hst zk zm rfl zr ?_;refine Zu ?_;refine Z ?_;rw [hP];unfold Zci;generalize Zbc sl.l [[59]] (i+2+n.toNat)=tk;obtain ⟨b,j⟩:=tk;cases b
 ·exact ⟨rfl,zp⟩
 ·exact ⟨rfl,by rw [he];simp -implicitDefEqProofs only[go_sem,seval];try rfl⟩
theorem Zy6 (G:Nat→V) (hE:GExp G) (sl:Sl Tk) (hT:TkOk sl.l) (g:Nat) (i:Nat) (hw:Zxb sl.l i=Zih) :
  CuS G 91 [] sl g ⟨i,0⟩ (.tuple [Zmg .new (Zme sl.l 2 [40] [[41],[59]] (i+1)).1,.bool ((Zme sl.l 2 [40] [[41],[59]] (i+1)).2.2==0)]) ⟨(Zme sl.l 2 [40] [[41],[59]] (i+1)).2.1.toNat,(Zme sl.l 2 [40] [[41],[59]] (i+1)).2.2⟩:=by
 have hG:=hE.ok;have hTl:=hT.len;have hil:i<sl.l.length:=Zle (by rw [hw];decide);intro st hst
 have hP:Zme sl.l 2 [40] [[41],[59]] (i+1)=if Zgh sl.l (i+1)=false then (⟨2,[],[]⟩,((i+1:Nat):Int),110)
  else if Zxb sl.l (i+2)≠[40] then (⟨2,Zxb sl.l (i+1),[]⟩,((i+2:Nat):Int),110)
  else if (2:Int)=2∧Zxb sl.l (i+3)=[41] then Zci sl.l ⟨2,Zxb sl.l (i+1),[]⟩ [[41],[59]] (i+3)
  else Zzk sl.l 2 (Zxb sl.l (i+1)) [[41],[59]] (i+3):=rfl
 generalize Zme sl.l 2 [40] [[41],[59]] (i+1)=res at hP ⊢;refine Zo 1000 53 [.cell 2 92,.tmp 3] Tryz.func91 fun X=>?_;simp only [Zcb,Z2i];refine Z1 ?_;intro g2;refine Z1 ?_;refine Z1 ?_;intro g8;refine Zdc (fun o=>o==1008) [.ptr 21 g 0,Za .new 1 V.str (.mk false [Zih])] [(21,cuO sl g st ⟨i,0⟩),(1002,.cells .new g2 0 [.int .u8 2,.str [],.nils])] ⟨Zd _,Zaf (f:=V.str) (l:=[Zih]) (m:=1) (g:=g8) (fz:=0) (c := .new) rfl zp (fun _=>rfl),trivial⟩ (by simp only [Zl,Zt,and_true];exact ⟨FzO.keep rfl zp,FzO.keep rfl zp⟩) ?_;refine CuS.call hG (Zvf G hG sl (by omega) g ⟨i,0⟩ (by show i≤_;omega) .old [Zih] (by decide) (by decide) false) hst zk zm rfl zr ?_
 have htk:Zbc sl.l [Zih] i=(true,i+1):=by rw [Zbc,if_pos hw]<;>rfl
 rw [htk];simp -implicitDefEqProofs only[go_sem,seval,Zcb,if_true];refine Z1 ?_;refine CuS.call hG (Z6s G hG sl (by omega) g ⟨i+1,0⟩ hil) hst zk rfl rfl zr ?_
 cases hn:Zgh sl.l (i+1) with
 | false =>
  rw [if_pos hn] at hP
  have q0:(false=true)=False:=by simp
  simp -implicitDefEqProofs only[go_sem,seval,Zcb,q0,if_false];refine Z ?_;rw [hP];exact ⟨rfl,zp⟩
 | true =>
 rw [if_neg (by rw [hn];decide)] at hP
 have hil1:i+1<sl.l.length:=by
  refine Classical.byContradiction fun h=>?_;rw [Zpf (by omega)] at hn;cases hn
 simp -implicitDefEqProofs only[go_sem,seval,Zcb,if_true];refine Z1 ?_;intro g26;refine Zdc (fun o=>o==1026) [.ptr 21 g 0,Za .new 1 V.str (.mk false [[40]])] [(21,cuO sl g st ⟨i+2,0⟩),(1002,.cells .new g2 0 [.int .u8 2,.str (Zxb sl.l (i+1)),.nils])] ⟨Zd _,Zaf (f:=V.str) (l:=[[40]]) (m:=1) (g:=g26) (fz:=0) (c := .new) rfl zp (fun _=>rfl),trivial⟩ (by simp only [Zl,Zt,and_true];exact ⟨FzO.keep rfl zp,FzO.keep rfl zp⟩) ?_;refine CuS.call hG (Zvf G hG sl (by omega) g ⟨i+2,0⟩ hil1 .old [[40]] (by decide) (by decide) false) hst zk zm rfl zr ?_
 have htk2:Zbc sl.l [[40]] (i+2)=if Zxb sl.l (i+2)=[40] then (true,i+3) else (false,i+2):=rfl
 by_cases hw1:Zxb sl.l (i+2)=[40]
 rotate_left
 ·rw [if_pos hw1] at hP
  rw [htk2,if_neg hw1]
  have q0:(false=true)=False:=by simp
  simp -implicitDefEqProofs only[go_sem,seval,Zcb,q0,if_false];refine Z ?_;rw [hP];exact ⟨rfl,zp⟩
 rw [if_neg (by simpa using hw1)] at hP;rw [htk2,if_pos hw1];have hi3:i+3≤sl.l.length:=Zle (by rw [hw1];decide);simp -implicitDefEqProofs only[go_sem,seval,Zcb,if_true];refine Z1 ?_;refine CuS.call hG (Z4k G hG sl g ⟨i+3,0⟩ [41]) hst zk rfl rfl zr ?_;refine Zu ?_
 have hcond:(decide (i+3<sl.l.length) && Zxb sl.l (i+3)==[41])=(Zxb sl.l (i+3)==[41]):=by
  by_cases h:i+3<sl.l.length
  ·rw [decide_eq_true h,Bool.true_and]
  ·rw [decide_eq_false h,Bool.false_and,Zgi (by omega)]<;>rfl
 rw [hcond]
 by_cases hw3:Zxb sl.l (i+3)=[41]
 ·have q2:(Zxb sl.l (i+3)==[41])=true:=by simpa using hw3
  rw [q2];rw [if_pos ⟨rfl,hw3⟩] at hP;refine Z0 ?_
  refine Z5 <| Zmh [(92,.ptr 1002 g2 0,.agg [.int .u8 2,.str (Zxb sl.l (i+1)),.nils])] ⟨fun j=>if j=0 then .agg [.int .u8 2,.str (Zxb sl.l (i+1)),.nils] else .top,fun j=>if j=0 then .keep else if j=5 then .any else .pure⟩ zk hG zk zk ?_
  refine Zs ?_;intro g51;refine Zdc (fun o=>o==1051) [.ptr 21 g 0,Za .new 1 V.str (.mk false [[41],[59]])] [(21,cuO sl g st ⟨i+3,0⟩),(1002,.cells .new g2 0 [.int .u8 2,.str (Zxb sl.l (i+1)),.nils])] ⟨Zd _,Zaf (f:=V.str) (l:=[[41],[59]]) (m:=1) (g:=g51) (fz:=0) (c := .new) rfl zp (fun _=>rfl),trivial⟩ (by simp only [Zl,Zt,and_true];exact ⟨FzO.keep rfl zp,FzO.keep rfl zp⟩) ?_;refine CuS.call hG (Zvf G hG sl (by omega) g ⟨i+3,0⟩ hi3 .old [[41],[59]] (by decide) (by decide) false) hst zk zm rfl zr ?_;refine Zu ?_;refine Z ?_;rw [hP];unfold Zci;generalize Zbc sl.l [[41],[59]] (i+3)=tk;obtain ⟨b,j⟩:=tk;cases b
  ·exact ⟨rfl,zp⟩
  ·exact ⟨rfl,zp⟩
 have q2:(Zxb sl.l (i+3)==[41])=false:=by simpa using hw3
 rw [q2];rw [if_neg (fun h=>hw3 h.2)] at hP;refine Zog rfl ?_;unfold Zzk at hP;have hbad:=Zqy (l:=sl.l.drop (i+3));have hbd:=Zxi (l:=sl.l.drop (i+3));have hex:=Z7s G hE sl hT g ⟨i+3,0⟩ hi3;simp only at hex;rw [List.length_drop] at hbd;generalize Zkd (sl.l.drop (i+3))=p at hP hbad hbd hex;obtain ⟨xs,n,e⟩:=p;simp only at hP hbad hbd hex;refine Z1 ?_;refine CuS.call hG hex hst zk rfl (by first | rfl | (simp -implicitDefEqProofs only[go_sem,seval,encXs,Zk];try rfl)) zr ?_;simp -implicitDefEqProofs only[go_sem,seval,Zcb,encXs];have hx0:e≠0→xs=[]:=hbad
 by_cases he:e=0
 rotate_left
 ·rw [if_pos he] at hP
  have q1:(e==0)=false:=by simpa using he
  obtain rfl:=hx0 he;rw [q1];refine Z1 ?_;refine Zog rfl ?_;have hgn:Za Col.new 6 Z8 (Zv []) = .nils:=rfl;refine Zf hgn ?_;rw [hP]
  have hti:(((i+3:Nat):Int)+n).toNat=i+3+n.toNat:=by omega
  exact ⟨by rw [← q1]<;>rfl,by simp only [hti];simp -implicitDefEqProofs only[go_sem,seval];try rfl⟩
 have q1:(e==0)=true:=by simpa using he
 rw [if_neg (by simpa using he)] at hP;rw [q1];refine Z1 ?_;refine Z0 ?_
 refine Z5 <| Zmh [(92,.ptr 1002 g2 0,Zmg .new ⟨2,Zxb sl.l (i+1),xs⟩)] ⟨fun j=>if j=0 then Zmg .new ⟨2,Zxb sl.l (i+1),xs⟩ else .top,fun j=>if j=0 then .keep else if j=5 then .any else .pure⟩ zk hG zk zk ?_
 refine Zsf @Z1k ?_;intro g51
 have hi4:i+3+n.toNat≤sl.l.length:=by omega
 refine Zdc (fun o=>o==1051) [.ptr 21 g 0,Za .new 1 V.str (.mk false [[41],[59]])] [(21,cuO sl g st ⟨i+3+n.toNat,e⟩),(1002,.cells .new g2 0 [.int .u8 2,.str (Zxb sl.l (i+1)),Za .new 6 Z8 (Zv xs)])] ⟨Zd _,Zaf (f:=V.str) (l:=[[41],[59]]) (m:=1) (g:=g51) (fz:=0) (c := .new) rfl zp (fun _=>rfl),trivial⟩ (by simp only [Zl,Zt,and_true];exact ⟨FzO.keep rfl zp,FzO.keep rfl zp⟩) ?_;refine CuS.call hG (Zvf G hG sl (by omega) g ⟨i+3+n.toNat,e⟩ hi4 .old [[41],[59]] (by decide) (by decide) false) hst zk zm rfl zr ?_;refine Zu ?_;refine Z ?_;rw [hP];unfold Zci;generalize Zbc sl.l [[41],[59]] (i+3+n.toNat)=tk;obtain ⟨b,j⟩:=tk;cases b
 ·exact ⟨rfl,zp⟩
 ·exact ⟨rfl,by rw [he];simp -implicitDefEqProofs only[go_sem,seval];try rfl⟩
def sdO (gx:Nat) (l:List ASt):AObj:=Zua gx (Zmg .new) l
def rdS (l:List Tk) (i:Nat) (acc:List ASt):Bool × CU × List ASt :=
 if acc.length=512 then (false,⟨i,3⟩,acc) else ((Z3c l i).2.2==0,⟨(Z3c l i).2.1.toNat,(Z3c l i).2.2⟩,acc++[(Z3c l i).1])
theorem Z5q (G:Nat→V) (hE:GExp G) (sl:Sl Tk) (hT:TkOk sl.l) (g:Nat) (i:Nat) (hi:i<sl.l.length) (acc:List ASt) (hac:acc.length≤512) (gx:Nat) :
  InSp Tryz.prog G 63 [.ptr 21 g 0] (Zcb Zm [(21,cuO sl g (grown 1038 gx 3 acc) ⟨i,0⟩),(1038,sdO gx acc)])
   (fun v H'=>v = .bool (rdS sl.l i acc).1∧∃ gx',H' 21=cuO sl g (grown 1038 gx' 3 (rdS sl.l i acc).2.2) (rdS sl.l i acc).2.1∧H' 1038=sdO gx' (rdS sl.l i acc).2.2):=by
 have hG:=hE.ok;have hTl:=hT.len
 have hP:rdS sl.l i acc=if acc.length=512 then (false,⟨i,3⟩,acc) else ((Z3c sl.l i).2.2==0,⟨(Z3c sl.l i).2.1.toNat,(Z3c sl.l i).2.2⟩,acc++[(Z3c sl.l i).1]):=rfl
 generalize rdS sl.l i acc=res at hP ⊢;refine Zjf 1000 42 [.tmp 2] Tryz.func63 rfl rfl rfl rfl fun X=>?_;simp only [Zcb];refine Z1 ?_;refine Z1 ?_
 by_cases h5:acc.length=512
 ·rw [if_pos h5] at hP
  have q1:((acc.length:Int)==512)=true:=by rw [beq_iff_eq];omega
  refine Zx fun K1 hK1=>?_;refine Zf (zi @Z2i q1) ?_;rw [hP];exact ⟨rfl,gx,zp,zp⟩
 rw [if_neg h5] at hP
 have q1:((acc.length:Int)==512)=false:=by rw [beq_eq_false_iff_ne];omega
 refine Zha (fun (_:Unit)=>st [(0,.ptr 21 g 0),(3,.func (.func (if Zxb sl.l i=Zih then 91 else 89)) [.ptr 21 g 0] [])] [(21,cuO sl g (grown 1038 gx 3 acc) ⟨i,0⟩),(1038,sdO gx acc)]) (fun _=>True) (fun K1 hK1=>?_) ?_
 ·refine Z1f (zi @Z2i q1) ?_
  refine Z1 ?_;refine CuS.call hG (Z4k G hG sl g ⟨i,0⟩ Zih) (fun F=>Z5f F _ _ _ _) zk rfl rfl zr ?_;rw [decide_eq_true hi,Bool.true_and];refine Zu ?_
  by_cases hw:Zxb sl.l i=Zih
  ·have q2:(Zxb sl.l i==Zih)=true:=by simpa using hw
   rw [q2];rw [if_pos hw] at hK1;refine Z1 ?_;exact hK1 _ () trivial (Zb zp zp)
  ·have q2:(Zxb sl.l i==Zih)=false:=by simpa using hw
   rw [q2];rw [if_neg hw] at hK1;refine Z0 ?_;exact hK1 _ () trivial (Zb zp zp)
 intro _ _
 have hstP:Z3c sl.l i=if Zxb sl.l i=Zih then Zme sl.l 2 [40] [[41],[59]] (i+1) else Zme sl.l 1 [58,61] [[59]] i:=rfl
 by_cases hw:Zxb sl.l i=Zih
 ·rw [if_pos hw] at hstP
  rw [if_pos hw];have hsp:=Zy6 G hE sl hT g i hw;rw [← hstP] at hsp;have hb:=(Z8o sl.l i).ge;generalize Z3c sl.l i=q at hP hsp hb;obtain ⟨x,m,e⟩:=q;simp only at hP hsp hb;generalize hn:m.toNat=n at hP hsp;refine Z1 ?_;refine CuS.call hG hsp (fun F=>Z5f F _ _ _ _) zk rfl (by first | rfl | (simp -implicitDefEqProofs only[go_sem,seval,Z1k,Zk];try rfl)) zr ?_;simp -implicitDefEqProofs only[go_sem,seval,Zcb,Z1k];intro g4;refine ZTf @Z2i hG ?_;intro g37;refine Zza (f:=Zmg .new) (l:=acc) (l2:=[x]) (g:=gx) (Z1d _) rfl rfl rfl zp (Zca (by omega) (by simp;omega)) fun g2=>?_;refine Zs ?_;refine Z ?_;rw [hP];exact ⟨rfl,g2,zp,zp⟩
 ·rw [if_neg hw] at hstP
  rw [if_neg hw];have hsp:=Zbz G hE sl hT g i (by omega);rw [← hstP] at hsp;have hb:=(Z8o sl.l i).ge;generalize Z3c sl.l i=q at hP hsp hb;obtain ⟨x,m,e⟩:=q;simp only at hP hsp hb;generalize hn:m.toNat=n at hP hsp;refine Z1 ?_;refine CuS.call hG hsp (fun F=>Z5f F _ _ _ _) zk rfl (by first | rfl | (simp -implicitDefEqProofs only[go_sem,seval,Z1k,Zk];try rfl)) zr ?_;simp -implicitDefEqProofs only[go_sem,seval,Zcb,Z1k];intro g4;refine ZTf @Z2i hG ?_;intro g37;refine Zza (f:=Zmg .new) (l:=acc) (l2:=[x]) (g:=gx) (Z1d _) rfl rfl rfl zp (Zca (by omega) (by simp;omega)) fun g2=>?_;refine Zs ?_;refine Z ?_;rw [hP];exact ⟨rfl,g2,zp,zp⟩
theorem Z20 (G:Nat→V) (hG:GOk G) (c c1:Col) (s:Sl AM) (hs:s.l.length<1000000) (hx:∀ a∈s.l,a.x.l.length<1000000) :
  Spec Tryz.prog G 31 [.agg [Za c 3 (Zda c1) s]] Zm (fun v _=>v=Zty .new (s.l.map AM.v)):=by
 refine Zo 0 63 [.tmp 2] Tryz.func31 fun X=>?_;refine Z ?_;intro g1;refine Z ?_
 refine Zwa s.l.length (fun k (gx:Nat)=>st [(1,.ptr 1 g1 0),(3,grown 61 gx 3 ((s.l.take k).map AM.v)),(4,.int .i64 k)] [(1,.cells .new g1 0 [Za c 3 (Zda c1) s]),(61,Zua gx (Zmg .new) ((s.l.take k).map AM.v))])
  (fun k _=>True) 0 0 (Nat.zero_le _) trivial
  (Zb zp zp) ?_
 intro k gx hk _ L3 hL3
 by_cases hk1:k<s.l.length
 rotate_left
 ·have hk1:k=s.l.length:=by omega
  have hlt:decide ((k:Int)<(s.l.length:Int))=false:=zF;rw [hk1,List.take_length];rw [hk1] at hlt;refine AW.weak (Zz (fun o=>o==61) (l:=[(1,.ptr 1 g1 0),(3,Zty .new (s.l.map AM.v)),(4,.int .i64 s.l.length)]) (m:=[(1,.cells .new g1 0 [Za c 3 (Zda c1) s])]) ?_ ?_) ?_
  ·simp -implicitDefEqProofs only[go_sem,seval]
   exact ⟨Zd _,Z1a rfl zp (Z1d _),Zd _⟩
  ·simp only [Zl,Zt,and_true]
   exact FzO.keep rfl zp
  exact Zq hlt
 have hg:=List.getElem?_eq_getElem hk1;have hxa:=hx _ (List.getElem_mem hk1)
 have htk:(s.l.take (k+1)).map AM.v=(s.l.take k).map AM.v++[(s.l[k]).v]:=by rw [List.take_succ_eq_append_getElem hk1,List.map_append];rfl
 have hlt':((s.l.take k).map AM.v).length=k:=by rw [List.length_map,List.length_take];omega
 have hlt:decide ((k:Int)<(s.l.length:Int))=true:=zT;generalize s.l[k]=a at hg hxa htk;generalize (s.l.take k).map AM.v=acc at htk hlt' ⊢;refine Zf (zi hlt (zi hg @Z7a)) ?_;intro g5;refine Z ?_;intro g6;refine Z ?_
 refine Zwa a.x.l.length (fun j (gy:Nat)=>st [(1,.ptr 1 g1 0),(3,grown 61 gx 3 acc),(4,.int .i64 k),(5,.ptr 5 g5 0),(6,.ptr 6 g6 0),(7,.int .i64 j)]
   [(1,.cells .new g1 0 [Za c 3 (Zda c1) s]),(61,Zua gx (Zmg .new) acc),(5,.cells .new g5 0 [.int .u8 a.kind,.str a.name,Za c1 6 Z8 a.x]),(6,.cells .new g6 0 [.int .u8 a.kind,.str a.name,grown 56 gy 6 (a.x.l.take j)]),(56,Zua gy Z8 (a.x.l.take j))])
  (fun j _=>True) 0 0 (Nat.zero_le _) trivial
  (Zb zp (by simp -implicitDefEqProofs only[go_sem,seval];exact ⟨rfl,rfl⟩)) ?_
 intro j gy hj _ L7 hL7
 by_cases hj1:j<a.x.l.length
 rotate_left
 ·have hj1:j=a.x.l.length:=by omega
  have hlt2:decide ((j:Int)<(a.x.l.length:Int))=false:=zF;rw [hj1,List.take_length];rw [hj1] at hlt2;refine AW.weak (Zz (fun o=>o==56) (l:=[(1,.ptr 1 g1 0),(3,grown 61 gx 3 acc),(4,.int .i64 k),(5,.ptr 5 g5 0),(6,.ptr 6 g6 0),(7,.int .i64 a.x.l.length)]) (m:=[(1,.cells .new g1 0 [Za c 3 (Zda c1) s]),(61,Zua gx (Zmg .new) acc),(5,.cells .new g5 0 [.int .u8 a.kind,.str a.name,Za c1 6 Z8 a.x]),(6,.cells .new g6 0 [.int .u8 a.kind,.str a.name,Za .new 6 Z8 (Zv a.x.l)])]) ?_ ?_) ?_
  ·simp -implicitDefEqProofs only[go_sem,seval]
   exact ⟨Zd _,Zd _,Zd _,Zd _,Zd _,Zd _⟩
  ·simp only [Zl,Zt,and_true]
   exact ⟨FzO.keep rfl zp,FzO.keep rfl zp,FzO.keep rfl zp,Zlh (c := .new) (fz:=0) (cs:=[.int .u8 a.kind,.str a.name,grown 56 gy 6 a.x.l]) rfl zp ⟨Zd _,Zd _,Z1a rfl zp Zre,trivial⟩⟩
  refine Zf hlt2 ?_;intro g60;refine Zza (f:=Zmg .new) (l:=acc) (l2:=[a.v]) (g:=gx) (Z1d _) rfl rfl rfl zp (Zca (by omega) (by simp;omega)) fun g2=>?_;refine Zs ?_;refine Z ?_;exact hL3 _ ⟨hk1,g2,trivial,Zb (by simp -implicitDefEqProofs only[go_sem,seval];exact ⟨by rw [htk],congrArg _ (w64 (by omega) (by omega))⟩) (by simp -implicitDefEqProofs only[go_sem,seval];rw [htk];try rfl)⟩
 have hgj:=List.getElem?_eq_getElem hj1
 have htj:a.x.l.take (j+1)=a.x.l.take j++[a.x.l[j]]:=by rw [List.take_succ_eq_append_getElem hj1]
 have hlj:(a.x.l.take j).length=j:=by rw [List.length_take];omega
 have hlt2:decide ((j:Int)<(a.x.l.length:Int))=true:=zT;generalize a.x.l[j]=n at hgj htj;generalize a.x.l.take j=ns at htj hlj ⊢;refine Zf (zi hlt2 (zi hgj Zp)) ?_;intro g8;refine Z ?_;intro g55;refine Zza (f:=Z8) (l:=ns) (l2:=[n]) (g:=gy) Zre rfl rfl rfl zp (Zca (by omega) (by simp;omega)) fun g2=>?_;refine Zs ?_;refine Z ?_;exact hL7 _ ⟨hj1,g2,trivial,Zb zw (by simp -implicitDefEqProofs only[go_sem,seval];rw [htj];try exact ⟨rfl,rfl⟩)⟩
theorem Zef (G:Nat→V) (hG:GOk G) (c:Col) (s:Sl (List UInt8 × Int)) (hs:s.l.length<1000000) :
  Spec Tryz.prog G 29 [Za c 2 Zi s] Zm (fun v _=>v=Za .new 2 Zi (Zv s.l)):=by
 refine Zo 0 26 [.tmp 2] Tryz.func29 fun X=>?_;refine Z ?_
 refine Zwa s.l.length (fun k (gx:Nat)=>st [(0,Za c 2 Zi s),(3,grown 24 gx 2 (s.l.take k)),(4,.int .i64 k)] [(24,Zua gx Zi (s.l.take k))])
  (fun k _=>True) 0 0 (Nat.zero_le _) trivial (Zb zp zp) ?_
 intro k gx hk _ L3 hL3
 by_cases hk1:k<s.l.length
 ·have hg:=List.getElem?_eq_getElem hk1
  have htk:s.l.take (k+1)=s.l.take k++[s.l[k]]:=by rw [List.take_succ_eq_append_getElem hk1]
  have hlt':(s.l.take k).length=k:=by rw [List.length_take];omega
  have hlt:decide ((k:Int)<(s.l.length:Int))=true:=zT;generalize s.l[k]=n at hg htk;generalize s.l.take k=ns at htk hlt' ⊢;refine Z1f hlt ?_;refine ZTf (zi hg (zi Zzb (zi hk1 (zi @Int.natCast_nonneg @Int.ofNat_lt)))) hG ?_;intro g32;refine Zza (f:=Zi) (l:=ns) (l2:=[n]) (g:=gx) Zsa rfl rfl rfl zp (Zca (by omega) (by simp;omega)) fun g2=>?_;refine Zs ?_;refine Z ?_;exact hL3 _ ⟨hk1,g2,trivial,Zb (by simp -implicitDefEqProofs only[go_sem,seval];exact ⟨by rw [htk],congrArg _ (w64 (by omega) (by omega))⟩) (by simp -implicitDefEqProofs only[go_sem,seval];rw [htk];try rfl)⟩
 ·have hk1:k=s.l.length:=by omega
  have hlt:decide ((k:Int)<(s.l.length:Int))=false:=zF;rw [hk1] at hlt;rw [hk1,List.take_length];refine AW.weak (Zz (fun o=>o==24) (l:=[(0,Za c 2 Zi s),(3,Za .new 2 Zi (Zv s.l)),(4,.int .i64 s.l.length)]) (m:=[]) ?_ trivial) ?_
  ·simp -implicitDefEqProofs only[go_sem,seval]
   exact ⟨Zd _,Z1a rfl rfl Zsa,Zd _⟩
  exact Zq hlt
def Zeea (l:List AM) (env:List (List UInt8 × Int)):Prop:=l.length≤20∧env.length≤20∧(∀ a∈l,a.name.length≤70∧a.x.l.length≤60∧∀ n∈a.x.l,n.name.length≤70)∧∀ p∈env,p.1.length≤70
theorem Zsh (G:Nat→V) (hG:GOk G) (c c1 c2:Col) (s:Sl AM) (env:Sl (List UInt8 × Int)) :
  Spec Tryz.prog G 27 [.agg [Za c 3 (Zda c1) s],Za c2 2 Zi env] Zm (fun v _=>∃ b,v = .bool b∧(b=true→Zeea s.l env.l)):=by
 refine Zo 0 71 [.tmp 4] Tryz.func27 fun X=>?_;refine Z ?_;intro g2
 by_cases h1:s.l.length > 20
 ·have q:decide (((s.l.length:Nat):Int) > 20)=true:=zT
  refine Zf q ?_;exact ⟨false,rfl,fun h=>by cases h⟩
 have q1:decide (((s.l.length:Nat):Int) > 20)=false:=zF
 by_cases h2:env.l.length > 20
 ·have q2:decide (((env.l.length:Nat):Int) > 20)=true:=zT
  refine Zf (zi q1 q2) ?_;exact ⟨false,rfl,fun h=>by cases h⟩
 have q2:decide (((env.l.length:Nat):Int) > 20)=false:=zF;refine Zf (zi q1 q2) ?_
 refine Zwa s.l.length (fun k (_:Unit)=>st [(1,Za c2 2 Zi env),(2,.ptr 2 g2 0),(5,.int .i64 k)] [(2,.cells .new g2 0 [Za c 3 (Zda c1) s])]) (fun k _=>∀ a∈s.l.take k,a.name.length≤70∧a.x.l.length≤60∧∀ n∈a.x.l,n.name.length≤70) 0 () (Nat.zero_le _) (fun n h=>by cases h)
  (Zb zp zp) ?_
 intro k _ hk hR L3 hL3
 by_cases hk1:k<s.l.length
 ·have hlt:decide ((k:Int)<(s.l.length:Int))=true:=zT
  have hg:=List.getElem?_eq_getElem hk1
  have htk:s.l.take (k+1)=s.l.take k++[s.l[k]]:=by rw [List.take_succ_eq_append_getElem hk1]
  generalize s.l[k]=a at hg htk;have w1:IntKind.i64.wrap ((k:Int)+1)=(k:Int)+1:=w64 (by omega) (by omega);refine Zf (zi hlt (zi hg @Z7a)) ?_;intro g6
  by_cases h3:a.name.length > 70
  ·have q3:decide (((a.name.length:Nat):Int) > 70)=true:=zT
   refine Zf q3 ?_;exact ⟨false,rfl,fun h=>by cases h⟩
  have q3:decide (((a.name.length:Nat):Int) > 70)=false:=zF
  by_cases h4:a.x.l.length > 60
  ·have q4:decide (((a.x.l.length:Nat):Int) > 60)=true:=zT
   refine Zf (zi q3 q4) ?_;exact ⟨false,rfl,fun h=>by cases h⟩
  have q4:decide (((a.x.l.length:Nat):Int) > 60)=false:=zF;refine Zf (zi q3 q4) ?_
  refine Zwa a.x.l.length (fun j (_:Unit)=>st [(1,Za c2 2 Zi env),(2,.ptr 2 g2 0),(5,.int .i64 k),(6,.ptr 6 g6 0),(7,.int .i64 j)] [(2,.cells .new g2 0 [Za c 3 (Zda c1) s]),(6,.cells .new g6 0 [.int .u8 a.kind,.str a.name,Za c1 6 Z8 a.x])])
   (fun j _=>∀ n∈a.x.l.take j,n.name.length≤70) 0 () (Nat.zero_le _) (fun n h=>by cases h) (Zb zp zp) ?_
  intro j _ hj hR2 L7 hL7
  by_cases hj1:j<a.x.l.length
  ·have hlt2:decide ((j:Int)<(a.x.l.length:Int))=true:=zT
   have hgj:=List.getElem?_eq_getElem hj1
   have htj:a.x.l.take (j+1)=a.x.l.take j++[a.x.l[j]]:=by rw [List.take_succ_eq_append_getElem hj1]
   generalize a.x.l[j]=n at hgj htj;have w2:IntKind.i64.wrap ((j:Int)+1)=(j:Int)+1:=w64 (by omega) (by omega)
   by_cases h5:n.name.length > 70
   ·have q5:decide (((n.name.length:Nat):Int) > 70)=true:=zT
    refine Zf (zi hlt2 (zi hgj (zi Zp q5))) ?_;exact ⟨false,rfl,fun h=>by cases h⟩
   have q5:decide (((n.name.length:Nat):Int) > 70)=false:=zF;refine Zf (zi hlt2 (zi hgj (zi Zp (zi q5 w2)))) ?_;refine hL7 _ ⟨hj1,(),?_,Zb zp zp⟩;intro n' hn';rw [htj,List.mem_append] at hn'
   rcases hn' with hn' | hn'
   ·exact hR2 n' hn'
   ·simp at hn';subst hn';omega
  have hje:j=a.x.l.length:=by omega
  subst hje
  have hlt2:decide ((a.x.l.length:Int)<(a.x.l.length:Int))=false:=by simp
  rw [List.take_length] at hR2;refine Zf (zi hlt2 w1) ?_;refine hL3 _ ⟨hk1,(),?_,Zb zp zp⟩;intro n' hn';rw [htk,List.mem_append] at hn'
  rcases hn' with hn' | hn'
  ·exact hR n' hn'
  ·simp at hn';subst hn';exact ⟨by omega,by omega,hR2⟩
 have hke:k=s.l.length:=by omega
 subst hke
 have hlt:decide ((s.l.length:Int)<(s.l.length:Int))=false:=by simp
 rw [List.take_length] at hR;refine Zf hlt ?_;have hS:=hR;clear hR hk hk1 hlt hL3 L3
 refine Zwa env.l.length (fun k (_:Unit)=>st [(1,Za c2 2 Zi env),(8,.int .i64 k)] []) (fun k _=>∀ n∈env.l.take k,n.1.length≤70) 0 () (Nat.zero_le _) (fun n h=>by cases h)
  (Zb zp zp) ?_
 intro k _ hk hR L3 hL3
 by_cases hk1:k<env.l.length
 ·have hlt:decide ((k:Int)<(env.l.length:Int))=true:=zT
  have hg:=List.getElem?_eq_getElem hk1
  have htk:env.l.take (k+1)=env.l.take k++[env.l[k]]:=by rw [List.take_succ_eq_append_getElem hk1]
  generalize env.l[k]=n at hg htk;have w1:IntKind.i64.wrap ((k:Int)+1)=(k:Int)+1:=w64 (by omega) (by omega)
  by_cases hn:n.1.length > 70
  ·have q3:decide (((n.1.length:Nat):Int) > 70)=true:=zT
   refine Zf (zi hlt (zi hg (zi Zzb q3))) ?_;exact ⟨false,rfl,fun h=>by cases h⟩
  ·have q3:decide (((n.1.length:Nat):Int) > 70)=false:=zF
   refine Zf (zi hlt (zi hg (zi Zzb (zi q3 w1)))) ?_;refine hL3 _ ⟨hk1,(),?_,Zb zp zp⟩;intro n' hn';rw [htk,List.mem_append] at hn'
   rcases hn' with hn' | hn'
   ·exact hR n' hn'
   ·simp at hn';subst hn';omega
 have hke:k=env.l.length:=by omega
 subst hke
 have hlt:decide ((env.l.length:Int)<(env.l.length:Int))=false:=by simp
 rw [List.take_length] at hR;refine Zf hlt ?_;exact ⟨true,rfl,fun _=>⟨by omega,by omega,hS,hR⟩⟩
@[go_sem] theorem noMp_cuO (S:Sl Tk) (g:Nat) (v:V) (r:CU):(cuO S g v r).noMp=cuO S g v r:=rfl
@[go_sem] theorem noMp_sdO (g:Nat) (l:List ASt):(sdO g l).noMp=sdO g l:=by cases l<;>rfl
theorem Z3da {l:List Tk} {n f i:Nat} {acc:List ASt} (hi:i<l.length):Zhg l n (f+1) i acc =
  if (rdS l i acc).1=false then ([],Zup l n ((rdS l i acc).2.1.i:Int),(rdS l i acc).2.1.e) else Zhg l n f (rdS l i acc).2.1.i (rdS l i acc).2.2:=by
 rw [Zhg,if_neg (by omega)];unfold rdS
 by_cases h5:acc.length=512
 ·rw [if_pos h5,if_pos h5]<;>rfl
 rw [if_neg h5,if_neg h5];have hb:=(Z8o l i).ge
 by_cases he:(Z3c l i).2.2=0
 ·rw [if_neg (by simpa using he),if_neg (by simp [he])]
 ·have q:((Z3c l i).2.2==0)=false:=by simpa using he
  rw [if_pos he,if_pos q];simp only [Int.toNat_of_nonneg (show 0≤(Z3c l i).2.1 by omega)]
theorem Zqca {l:List Tk} {i:Nat} {acc:List ASt} (h:(rdS l i acc).1=true):(rdS l i acc).2.1.e=0∧i<(rdS l i acc).2.1.i∧(rdS l i acc).2.1.i≤l.length∧(rdS l i acc).2.2.length=acc.length+1∧acc.length≠512:=by
 unfold rdS at h ⊢
 by_cases h5:acc.length=512
 ·rw [if_pos h5] at h;cases h
 rw [if_neg h5] at h ⊢
 have he:(Z3c l i).2.2=0:=by simpa using h
 obtain ⟨h1,h2⟩:=(Z8o l i).ok he;refine ⟨he,?_,?_,by rw [List.length_append]<;>rfl,h5⟩
 ·show i<(Z3c l i).2.1.toNat;omega
 ·show (Z3c l i).2.1.toNat≤l.length;omega
def Zdaa (r:List ASt × Int × Int):V := .tuple [.agg [Zty .new r.1],.int .i64 r.2.1,.int .i64 r.2.2]
theorem Zvq (G:Nat→V) (hE:GExp G) (s:List UInt8) (hs:s.length<100000):Spec Tryz.prog G 40 [.str s] Zm (fun v _=>v=Zdaa (Zzc s)):=by
 have hG:=hE.ok;refine Zo 0 69 [.cell 2 63,.tmp 3,.tmp 4] Tryz.func40 fun X=>?_
 have hP:Zzc s=if (Zac s).2.2≠0 then (([]:List ASt),(Zac s).2.1,(Zac s).2.2) else Zhg (Zac s).1 s.length ((Zac s).1.length+1) 0 []:=rfl
 generalize Zzc s=res at hP ⊢;have hT:=Zx7 hs;have hl:=Zly G hE s hs;generalize Zac s=p at hP hT hl;obtain ⟨l,at0,e0⟩:=p;simp only at hP hT;have hTl:=hT.len;refine Z1 ?_;intro g2;refine Z1 ?_;refine Zn hG ?_ (s:=hl);refine Zsf (zi @encTok.eq_1 (zi @encTks.eq_1 @Zeb)) ?_;have hS:(Zv l).l=l:=Zea l;generalize Zv l=S at hS;subst hS;refine Z5 ?_
 by_cases he:e0=0
 rotate_left
 ·rw [if_pos he] at hP
  have q1:(e0==0)=false:=by simpa using he
  refine Z5c zk ?_;simp -implicitDefEqProofs only[go_sem,seval,bne,q1];refine Z ?_
  rw [hP]<;>rfl
 rw [if_neg (by simpa using he)] at hP
 have q1:(e0==0)=true:=by simpa using he
 refine Z5c zk ?_;simp -implicitDefEqProofs only[go_sem,seval,bne,q1];refine Z1 ?_;intro g21;refine AW.weak (Zz (fun _=>false) (l:=[(0,.str s),(2,.ptr 2 g2 0),(5,Za .new 3 Zib S),(6,.ptr 21 g21 0)]) (m:=[(2,.cells .new g2 0 [.nils]),(21,cuO S g21 .nils ⟨0,0⟩)]) ?_ ?_) ?_
 ·refine Zs ?_
  exact ⟨Zd _,Zd _,Zd _,Zd _⟩
 ·simp only [Zl,Zt,and_true]
  exact ⟨FzO.keep rfl zp,Z7aa (c := .new) (fz:=0) (cs:=[Za .new 3 Zib S,.int .i64 0,.int .i64 0,.nils]) rfl zp ⟨Fz.any (zpf @Zeb),Zd _,Zd _,Zd _,trivial⟩⟩
 refine Z5 ?_;refine AW.block ?_
 refine Zhc (fun (x:(Nat × Nat) × List ASt)=>st [(0,.str s),(2,.ptr 2 g2 0),(5,Za .new 3 Zib S),(6,.ptr 21 g21 0)] [(2,.cells .new g2 0 [.nils]),(21,cuO S g21 (grown 1038 x.1.1 3 x.2) ⟨x.1.2,0⟩),(1038,sdO x.1.1 x.2)])
  (fun x=>x.1.2≤S.l.length∧x.2.length≤512∧∃ f,S.l.length<f+x.1.2∧Zhg S.l s.length f x.1.2 x.2=res) (fun x=>S.l.length-x.1.2) ((0,0),[]) ⟨Nat.zero_le _,Nat.zero_le _,S.l.length+1,Nat.lt_succ_self _,hP.symm⟩
  (Zb zp (by simp -implicitDefEqProofs only[go_sem,seval];first | rfl | exact ⟨rfl,rfl⟩)) ?_
 rintro ⟨⟨gx,i⟩,acc⟩ ⟨hi,hac,f,hf,hR⟩ L3 hL3;simp only at hi hac hf hR;refine Z5 ?_
 cases f with
 | zero=>omega
 | succ f =>
 refine Z1f @Z2i ?_;refine Ze rfl (fun h29=>?_) (fun h29=>?_);rotate_left
 ·have hil:S.l.length≤i:=by have:=zN h29;omega
  rw [Zhg,if_pos hil] at hR;refine Z0 ?_;refine AW.weak (Zz (fun o=>o==1038) (l:=[(2,.ptr 2 g2 0),(6,.ptr 21 g21 0)]) (m:=[(2,.cells .new g2 0 [.nils]),(21,.cells .any g21 0 [.top,.int .i64 i,.int .i64 0,Za .new 3 (Zmg .new) (Zv acc)])]) ?_ ?_) ?_
  ·refine Zs ?_
   first | exact ⟨Zd _,Zd _⟩ | exact Zd _
  ·simp only [Zl,Zt,and_true]
   exact ⟨FzO.keep rfl zp,Zlh (c := .any) (fz:=0) (cs:=[Za .any 3 Zib S,.int .i64 i,.int .i64 0,grown 1038 gx 3 acc]) rfl zp ⟨Fz.top _,Zd _,Zd _,Z1a rfl zp (Z1d _),trivial⟩⟩
  refine Z ?_
  rw [← hR]<;>rfl
 have hil:i<S.l.length:=zL h29;rw [Z3da hil] at hR;refine Z0 ?_;refine AW.block ?_;have hst:=Z5q G hE S hT g21 i hil acc hac gx;have hrt := @Zqca S.l i acc;generalize rdS S.l i acc=q at hR hst hrt;obtain ⟨b,⟨j,e⟩,acc'⟩:=q;simp only at hR hst hrt;refine Z1 ?_;refine CallA.inl [(21,cuO S g21 (grown 1038 gx 3 acc) ⟨i,0⟩),(1038,sdO gx acc)] zk ?_ ?_
 ·intro p hp
  simp only [List.mem_cons,List.not_mem_nil,or_false] at hp
  rcases hp with rfl | rfl
  ·simp -implicitDefEqProofs only[go_sem,seval];try rfl
  ·simp -implicitDefEqProofs only[go_sem,seval];try rfl
 refine hst.mono ?_;rintro _ H' ⟨rfl,gx',q21,q1038⟩;simp only [List.map_cons,List.map_nil,q21,q1038]
 cases b with
 | true =>
  obtain ⟨rfl,hj,hjl,hal,ha5⟩:=hrt rfl;rw [if_neg (by decide)] at hR;refine Zu ?_;refine Z0 ?_;refine hL3 _ ⟨((gx',j),acc'),?_,⟨?_,?_,f,?_,hR⟩,Zb zp zp⟩
  ·show S.l.length-j<S.l.length-i;omega
  ·show j≤_;omega
  ·show acc'.length≤_;omega
  ·show S.l.length<f+j;omega
 | false =>
  rw [if_pos rfl] at hR;refine Zu ?_;refine Z1f @Z2i ?_;refine Ze rfl (fun h40=>?_) (fun h40=>?_)
  ·have hjl:j<S.l.length:=zL h40
   have hgj:=List.getElem?_eq_getElem hjl;generalize S.l[j]=t at hgj;rw [Z4t hgj] at hR;refine AW.weak (Zz (fun o=>o==21) (l:=[(0,.str s),(2,.ptr 2 g2 0),(5,Za .new 3 Zib S),(6,.view .any (.agg [Za .any 3 Zib S,.int .i64 j,.int .i64 e,grown 1038 gx' 3 acc']))]) (m:=[(2,.cells .new g2 0 [.nils])]) ?_ ?_) ?_
   ·refine Zs ?_
    exact ⟨Zd _,Zd _,Zd _,Fz.ptr (c := .any) (fz:=0) (v := .agg [Za .any 3 Zib S,.int .i64 j,.int .i64 e,grown 1038 gx' 3 acc']) rfl zp⟩
   ·simp only [Zl,Zt,and_true]
    exact FzO.keep rfl zp
   refine Z5 <| Zy ⟨fun _ => .top,fun k=>if k=6 then .lend else if k=9 then .lend else if k=14 then .lend else .pure⟩ zk hG zk zk ?_
   refine Zsf (zi hgj @Z3b) ?_;refine Z ?_
   rw [← hR]<;>rfl
  ·have hjl:¬ j<S.l.length:=by have:=zN h40;omega
   refine Z0 ?_;refine AW.weak (Zz (fun o=>o==21) (l:=[(0,.str s),(2,.ptr 2 g2 0),(5,Za .new 3 Zib S),(6,.view .any (.agg [Za .any 3 Zib S,.int .i64 j,.int .i64 e,grown 1038 gx' 3 acc']))]) (m:=[(2,.cells .new g2 0 [.nils])]) ?_ ?_) ?_
   ·refine Zs ?_
    exact ⟨Zd _,Zd _,Zd _,Fz.ptr (c := .any) (fz:=0) (v := .agg [Za .any 3 Zib S,.int .i64 j,.int .i64 e,grown 1038 gx' 3 acc']) rfl zp⟩
   ·simp only [Zl,Zt,and_true]
    exact FzO.keep rfl zp
   refine Z5 <| Zy ⟨fun _ => .top,fun k=>if k=7 then .lend else .pure⟩ zk hG zk zk ?_
   refine Zs ?_;refine Z ?_;rw [← hR];unfold Zup
   rw [if_neg (by omega)]<;>rfl
end Go.Hs
end

section
namespace Go.Hs
inductive GB:List (List UInt8)→List ASt→Prop where
 | nil:GB [] []
 | asg {nm:List UInt8} {ts r:List (List UInt8)} {x:X} {b:List ASt}:isP nm=2→Gr 1 ts x→x.depth≤64→GB r b→GB (nm::[58,61]::(ts++[59]::r)) (⟨1,nm,x.row 0⟩::b)
 | bare {nm:List UInt8} {r:List (List UInt8)} {b:List ASt}:isP nm=2→GB r b→GB (Zih::nm::[40]::[41]::[59]::r) (⟨2,nm,[]⟩::b)
 | emit {nm:List UInt8} {ts r:List (List UInt8)} {x:X} {b:List ASt}:isP nm=2→Gr 1 ts x→x.depth≤64→GB r b→GB (Zih::nm::[40]::(ts++[41]::[59]::r)) (⟨2,nm,x.row 0⟩::b)
theorem GB.app {ws vs:List (List UInt8)} {a b:List ASt} (h:GB ws a) (h2:GB vs b):GB (ws++vs) (a++b):=by
 induction h with
 | nil=>exact h2
 | asg n g d _ ih=>simpa using GB.asg n g d ih
 | bare n _ ih=>exact GB.bare n ih
 | emit n g d _ ih=>simpa using GB.emit n g d ih
theorem GB.len {ws:List (List UInt8)} {a:List ASt} (h:GB ws a):4 * a.length≤ws.length:=by
 induction h with
 | nil=>exact Nat.le_refl _
 | asg n g d _ ih=>have:=g.pos;simp only [List.length_cons,List.length_append];omega
 | bare n _ ih=>simp only [List.length_cons];omega
 | emit n g d _ ih=>simp only [List.length_cons,List.length_append];omega
def Wds (l:List Tk):Prop:=∀ t∈l,(isP t.text:Int)=t.kind∧isP t.text≠0
theorem Zix {s:List UInt8}:∀ (f i:Nat) (acc:List Tk),Wds acc→Wds (Z2c f s (i+blk (s.drop i)) acc).1
 | 0,_,acc,h=>h
 | f+1,i,acc,h=>by
  rw [Z2c]
  split
  ·split
   ·intro t ht;cases ht
   ·rename_i h1 h2
    have hdd:s.drop (i+blk (s.drop i))=(s.drop i).drop (blk (s.drop i)):=by rw [List.drop_drop]
    rw [hdd] at h2 ⊢;refine Zix f _ _ ?_;intro t ht;rw [List.mem_append,List.mem_singleton] at ht
    rcases ht with ht | rfl
    ·exact h t ht
    ·obtain ⟨p1,p2⟩:=Zf4 (s:=s.drop i) (by rw [List.length_drop];omega) rfl (by omega) (by omega)
     exact ⟨by show ((isP _:Nat):Int)=_;rw [p1],by show isP _≠0;rw [p1];exact p2⟩
  ·exact h
theorem Z2ba (s:List UInt8):Wds (Zac s).1:=by
 unfold Zac
 split
 ·intro t ht;cases ht
 ·have:=Zix (s:=s) (s.length+1) 0 [] (fun t ht=>by cases ht)
  simpa using this
theorem Wds.wd {l:List Tk} (h:Wds l) {i:Nat} (hi:i<l.length):(l.map Z6g)[i]? = some (Zxb l i):=by
 have hg:=List.getElem?_eq_getElem hi;rw [List.getElem?_map,hg,Zzf hg];have:=(h _ (List.getElem_mem hi)).1
 show some (Z6g l[i])=_
 unfold Z6g;rw [if_pos this]
theorem Wds.drop {l:List Tk} (h:Wds l) {i:Nat} (hi:i<l.length):(l.map Z6g).drop i=Zxb l i::(l.map Z6g).drop (i+1):=by
 have hg:=h.wd hi;obtain ⟨q1,q2⟩:=List.getElem?_eq_some_iff.1 hg;rw [List.drop_eq_getElem_cons q1,q2]
theorem Wds.name {l:List Tk} (h:Wds l) {i:Nat} (hn:Zgh l i=true):i<l.length∧isP (Zxb l i)=2:=by
 have hi:i<l.length:=by
  refine Classical.byContradiction fun h2=>?_;rw [Zpf (by omega)] at hn;cases hn
 have hg:=List.getElem?_eq_getElem hi;rw [Zfh hg] at hn;have:=(h _ (List.getElem_mem hi)).1
 have hk:(l[i]).kind=2:=by simpa using hn
 rw [Zzf hg];exact ⟨hi,by omega⟩
theorem Zfe {l:List Tk} {i:Nat} {w:List UInt8} {r:List (List UInt8)} (h:(l.map Z6g).drop i=w::r) (hw:w≠[]) :
  i<l.length∧Zxb l i=w∧Zgh l i=(isP w==2)∧(l.map Z6g).drop (i+1)=r:=by
 have hi:i<l.length:=by
  refine Classical.byContradiction fun h2=>?_;rw [List.drop_of_length_le (by rw [List.length_map];omega)] at h;cases h
 have hg:=List.getElem?_eq_getElem hi
 have hw0:(l.map Z6g)[i]? = some w:=by
  have:=congrArg List.head? h;rwa [List.head?_drop] at this
 rw [List.getElem?_map,hg] at hw0
 have hw1:Z6g l[i]=w:=by simpa using hw0
 unfold Z6g at hw1
 split at hw1
 ·rename_i hk
  rw [Zzf hg,Zfh hg];refine ⟨hi,hw1,?_,?_⟩
  ·rw [← hk,hw1,Bool.eq_iff_iff]
   simp only [beq_iff_eq];omega
  ·rw [← List.drop_drop,h];rfl
 ·exact absurd hw1.symm hw
theorem Zd4 {l:List Tk} {ts r:List (List UInt8)} {w:List UInt8} {x:X} (hl:l.map Z6g=ts++w::r) (h:Gr 1 ts x) (hd:x.depth≤64) (hw:ofI w 2=none):Zkd l=(x.row 0,(ts.length:Int),0):=by
 have hs:Seg l 0 ts:=⟨[],w::r,by simpa using hl,rfl⟩;have hs2:Seg l (0+ts.length) (w::r):=⟨ts,[],by simpa using hl,by simp⟩;have hend:Ends l 1 (0+ts.length):=Zzi 1 hs2.head.1 hw
 have hc:Z3 l (l.length+1) 1 ⟨0,[],0⟩=(true,⟨ts.length,x.row 0,0⟩):=by
  rw [Z3,h.climb 1 l.length (l.length+1) ⟨0,[],0⟩ hs (Int.le_refl _) (by decide) (Nat.le_refl _) (by show _<l.length+1+0;omega) (fun op ho=>by have:=hend op ho;omega)];rw [Zgy hend]
  show (true,RS.mk _ _ _)=_
  rw [Nat.zero_add];rfl
 unfold Zkd;rw [hc,Zgm h.ok];simp only [Bool.true_eq_false,if_false];rw [if_neg (by omega)]
theorem Zrda {l:List Tk} (h:(Zkd l).2.2=0):∃ ts x,Gr 1 ts x∧x.depth≤64∧(∃ r,l.map Z6g=ts++r)∧Zkd l=(x.row 0,(ts.length:Int),0):=by
 have hF:Zkd l=if (Z3 l (l.length+1) 1 ⟨0,[],0⟩).1=false then (([]:List XN),((Z3 l (l.length+1) 1 ⟨0,[],0⟩).2.i:Int),(Z3 l (l.length+1) 1 ⟨0,[],0⟩).2.e)
  else if Znb (Z3 l (l.length+1) 1 ⟨0,[],0⟩).2.nodes > 64 then ([],0,3) else ((Z3 l (l.length+1) 1 ⟨0,[],0⟩).2.nodes,((Z3 l (l.length+1) 1 ⟨0,[],0⟩).2.i:Int),(0:Int)):=rfl
 by_cases hb:(Z3 l (l.length+1) 1 ⟨0,[],0⟩).1=true
 ·obtain ⟨ts,x,g,sg,e⟩:=Zzy _ 1 ⟨0,[],0⟩ (by decide) (by decide) hb
  rw [hb] at hF;simp only [Bool.true_eq_false,if_false] at hF;have hok:=g.ok
  have hn:(Z3 l (l.length+1) 1 ⟨0,[],0⟩).2.nodes=x.row 0:=by rw [e];simp [after]
  rw [hn,Zgm hok] at hF
  by_cases hdp:(x.depth:Int) > 64
  ·rw [if_pos hdp] at hF
   rw [hF] at h;cases h
  rw [if_neg hdp] at hF
  have hi:(Z3 l (l.length+1) 1 ⟨0,[],0⟩).2.i=ts.length:=by rw [e];show 0+ts.length=_;omega
  rw [hi] at hF;obtain ⟨pre,post,e1,e2⟩:=sg;have hp:pre=[]:=List.length_eq_zero_iff.1 e2;rw [hp] at e1;exact ⟨ts,x,g,by omega,⟨post,by simpa using e1⟩,hF⟩
 ·have hb:(Z3 l (l.length+1) 1 ⟨0,[],0⟩).1=false:=by simpa using hb
  rw [if_pos hb] at hF
  exfalso
  have he:=Z0y (l.length+1) 1 ⟨0,[],0⟩ (by show l.length<l.length+1+0;omega) (Nat.zero_le _) hb;rw [hF] at h;exact he h
theorem Zy1 {w:List UInt8} (h:isP w=2):w≠[]∧w≠Zih:=by
 refine ⟨?_,?_⟩
 ·rintro rfl;revert h;decide +kernel
 ·rintro rfl;revert h;decide +kernel
theorem Zmx:ofI [59] 2=none∧ofI [41] 2=none:=by decide +kernel
theorem map_drop {l:List Tk} (i:Nat):(l.drop i).map Z6g=(l.map Z6g).drop i:=List.map_drop ..
theorem gr_head {n:Int} {ts:List (List UInt8)} {x:X} (h:Gr n ts x):∃ u us,ts=u::us∧u≠[41]∧u≠[]:=by
 induction h with
 | num h1 _=>exact ⟨_,_,rfl,by rintro rfl;revert h1;decide +kernel,by rintro rfl;revert h1;decide +kernel⟩
 | name h1=>exact ⟨_,_,rfl,by rintro rfl;revert h1;decide +kernel,by rintro rfl;revert h1;decide +kernel⟩
 | tr=>exact ⟨_,_,rfl,by decide,by decide⟩
 | fa=>exact ⟨_,_,rfl,by decide,by decide⟩
 | neg _ _=>exact ⟨_,_,rfl,by decide,by decide⟩
 | not _ _=>exact ⟨_,_,rfl,by decide,by decide⟩
 | par _=>exact ⟨_,_,rfl,by decide,by decide⟩
 | bin _ _ _ _ _ ih _ =>
  obtain ⟨u,us,rfl,h1,h2⟩:=ih;exact ⟨u,_,rfl,h1,h2⟩
 | ite _ _ _=>exact ⟨_,_,rfl,by decide,by decide⟩
theorem GB.body {ws:List (List UInt8)} {b:List ASt} (h:GB ws b):∀ (l:List Tk) (n f i:Nat) (acc:List ASt),(l.map Z6g).drop i=ws→i≤l.length→l.length<f+i→acc.length+b.length≤512 →
  Zhg l n f i acc=(acc++b,0,0):=by
 have step:∀ {l:List Tk} {n f i j:Nat} {acc b:List ASt} {s:ASt},i<l.length→acc.length+(b.length+1)≤512→Z3c l i=(s,(j:Int),0)→Zhg l n f j (acc++[s])=(acc++s::b,0,0) →
   Zhg l n (f+1) i acc=(acc++s::b,0,0):=by
  intro l n f i j acc b s hi ha hs hb;rw [Zhg,if_neg (by omega),if_neg (by omega),hs];simp only [ne_eq,not_true_eq_false,if_false,Int.toNat_natCast];exact hb
 have hshut:∀ {l:List Tk} {j:Nat} {w:List UInt8} {ws:List (List UInt8)},Zxb l j=w→Zbc l (w::ws) j=Zbc l ws (j+1):=by
  intro l j w ws h;rw [Zbc,if_pos h]
 induction h with
 | nil =>
  intro l n f i acc hd hi hf ha
  have:l.length≤i:=by
   have:=congrArg List.length hd;rw [List.length_drop,List.length_map] at this;simp only [List.length_nil] at this;omega
  obtain ⟨f,rfl⟩:∃ m,f=m+1:=⟨f-1,by omega⟩;rw [Zhg,if_pos this,List.append_nil]
 | @asg nm ts r x b hn g hdp _ ih =>
  intro l n f i acc hd hi hf ha;obtain ⟨e1,e2⟩:=Zy1 hn;obtain ⟨i1,t1,n1,d1⟩:=Zfe hd e1;obtain ⟨i2,t2,_,d2⟩:=Zfe d1 (by decide);have hfr:Zkd (l.drop (i+2))=(x.row 0,(ts.length:Int),0):=Zd4 (by rw [map_drop];exact d2) g hdp Zmx.1
  have d3:(l.map Z6g).drop (i+2+ts.length)=[59]::r:=by rw [← List.drop_drop,show (l.map Z6g).drop (i+2)=_ from d2,List.drop_left]
  obtain ⟨i3,t3,_,d4⟩:=Zfe d3 (by decide);obtain ⟨f,rfl⟩:∃ m,f=m+1:=⟨f-1,by omega⟩;simp only [List.length_cons] at ha;refine step (j:=i+2+ts.length+1) i1 ha ?_ ?_
  ·unfold Z3c Zme Zzk Zci
   have q:Zbc l [[59]] (i+2+ts.length)=(true,i+2+ts.length+1):=by rw [hshut t3];rfl
   rw [if_neg (by rw [t1];exact e2),n1,hn,t1,t2,hfr];simp only [Int.toNat_natCast,q];simp
  ·have:=ih l n f (i+2+ts.length+1) (acc++[⟨1,nm,x.row 0⟩]) d4 (by omega) (by omega) (by rw [List.length_append];simp only [List.length_cons,List.length_nil];omega)
   rw [this,List.append_assoc];rfl
 | @bare nm r b hn _ ih =>
  intro l n f i acc hd hi hf ha;obtain ⟨e1,e2⟩:=Zy1 hn;obtain ⟨i0,t0,_,d0⟩:=Zfe hd (by decide);obtain ⟨i1,t1,n1,d1⟩:=Zfe d0 e1;obtain ⟨i2,t2,_,d2⟩:=Zfe d1 (by decide);obtain ⟨i3,t3,_,d3⟩:=Zfe d2 (by decide);obtain ⟨i4,t4,_,d4⟩:=Zfe d3 (by decide);obtain ⟨f,rfl⟩:∃ m,f=m+1:=⟨f-1,by omega⟩;simp only [List.length_cons] at ha;refine step (j:=i+1+1+1+1+1) i0 ha ?_ ?_
  ·unfold Z3c Zme Zci
   have q:Zbc l [[41],[59]] (i+1+2)=(true,i+1+2+1+1):=by
    have t3:Zxb l (i+1+2)=[41]:=t3;have t4:Zxb l (i+1+2+1)=[59]:=t4;rw [hshut t3,hshut t4];rfl
   have t3:Zxb l (i+1+2)=[41]:=t3;rw [if_pos t0,n1,hn,t1,t2,t3];simp only [q];simp;omega
  ·have:=ih l n f (i+1+1+1+1+1) (acc++[⟨2,nm,[]⟩]) d4 (by omega) (by omega) (by rw [List.length_append];simp only [List.length_cons,List.length_nil];omega)
   rw [this,List.append_assoc];rfl
 | @emit nm ts r x b hn g hdp _ ih =>
  intro l n f i acc hd hi hf ha;obtain ⟨e1,e2⟩:=Zy1 hn;obtain ⟨i0,t0,_,d0⟩:=Zfe hd (by decide);obtain ⟨i1,t1,n1,d1⟩:=Zfe d0 e1;obtain ⟨i2,t2,_,d2⟩:=Zfe d1 (by decide);have hfr:Zkd (l.drop (i+1+2))=(x.row 0,(ts.length:Int),0):=Zd4 (by rw [map_drop];exact d2) g hdp Zmx.2
  have d3:(l.map Z6g).drop (i+1+2+ts.length)=[41]::[59]::r:=by rw [← List.drop_drop,show (l.map Z6g).drop (i+1+2)=_ from d2,List.drop_left]
  obtain ⟨i3,t3,_,d4⟩:=Zfe d3 (by decide);obtain ⟨i4,t4,_,d5⟩:=Zfe d4 (by decide)
  have hn41:Zxb l (i+1+2)≠[41]:=by
   intro hq
   have hz:∃ u us,ts=u::us∧u≠[41]∧u≠[]:=by
    clear hfr d3 i3 t3 d4 i4 t4 d5 ih hd d0 d1 d2;exact gr_head g
   obtain ⟨u,us,rfl,hu,hu0⟩:=hz;obtain ⟨_,tq,_,_⟩:=Zfe (w:=u) (r:=us++[41]::[59]::r) (show (l.map Z6g).drop (i+1+2)=_ from d2) hu0;exact hu (tq.symm.trans hq)
  obtain ⟨f,rfl⟩:∃ m,f=m+1:=⟨f-1,by omega⟩;simp only [List.length_cons] at ha;refine step (j:=i+1+2+ts.length+1+1) i0 ha ?_ ?_
  ·unfold Z3c Zme Zzk Zci
   have q:Zbc l [[41],[59]] (i+1+2+ts.length)=(true,i+1+2+ts.length+1+1):=by rw [hshut t3,hshut t4];rfl
   rw [if_pos t0,n1,hn,t1,t2,hfr];simp only [Int.toNat_natCast,q];simp [hn41]
  ·have:=ih l n f (i+1+2+ts.length+1+1) (acc++[⟨2,nm,x.row 0⟩]) d5 (by omega) (by omega) (by rw [List.length_append];simp only [List.length_cons,List.length_nil];omega)
   rw [this,List.append_assoc];rfl
theorem Zil {l:List Tk} {w:List UInt8} {ws:List (List UInt8)} {j:Nat} (h:(Zbc l (w::ws) j).1=true):Zxb l j=w∧Zbc l (w::ws) j=Zbc l ws (j+1):=by
 rw [Zbc] at h ⊢
 split at h
 ·rename_i q;rw [if_pos q];exact ⟨q,rfl⟩
 ·cases h
theorem Zn3 {l:List Tk} {s:ASt} {ws:List (List UInt8)} {j:Nat} (h:(Zci l s ws j).2.2=0):(Zbc l ws j).1=true∧Zci l s ws j=(s,((Zbc l ws j).2:Int),0):=by
 unfold Zci at h ⊢
 by_cases q:(Zbc l ws j).1=true
 ·rw [if_pos q];exact ⟨q,rfl⟩
 ·simp only [q] at h;cases h
theorem Zaca {l:List Tk} (hW:Wds l) {i:Nat} (h:(Z3c l i).2.2=0):∃ (s:ASt) (j:Nat),Z3c l i=(s,(j:Int),0)∧i<j∧j≤l.length∧∀ b,GB ((l.map Z6g).drop j) b→GB ((l.map Z6g).drop i) (s::b):=by
 unfold Z3c at h ⊢
 have expr:∀ {k:Int} {nm:List UInt8} {ws:List (List UInt8)} {p:Nat},(Zzk l k nm ws p).2.2=0→∃ ts x,Gr 1 ts x∧x.depth≤64∧(l.map Z6g).drop p=ts++(l.map Z6g).drop (p+ts.length) ∧
   (Zbc l ws (p+ts.length)).1=true∧Zzk l k nm ws p=(⟨k,nm,x.row 0⟩,((Zbc l ws (p+ts.length)).2:Int),0):=by
  intro k nm ws p hq;unfold Zzk at hq ⊢
  by_cases h0:(Zkd (l.drop p)).2.2=0
  ·rw [if_neg (by simpa using h0)] at hq ⊢
   obtain ⟨ts,x,g,hd,⟨r,hr⟩,e⟩:=Zrda h0;rw [e] at hq ⊢;simp only [Int.toNat_natCast] at hq ⊢;obtain ⟨q1,q2⟩:=Zn3 hq;refine ⟨ts,x,g,hd,?_,q1,q2⟩;rw [map_drop] at hr;rw [← List.drop_drop,hr,List.drop_left]
  ·rw [if_pos h0] at hq;exact absurd hq h0
 by_cases h1:Zxb l i=Zih
 ·rw [if_pos h1] at h ⊢
  have hi:i<l.length:=Zle (by rw [h1];decide);have d0:=hW.drop hi;rw [h1] at d0
  have hq:Zme l 2 [40] [[41],[59]] (i+1)=if Zgh l (i+1)=false then (⟨2,[],[]⟩,((i+1:Nat):Int),110)
   else if Zxb l (i+1+1)≠[40] then (⟨2,Zxb l (i+1),[]⟩,((i+1+1:Nat):Int),110)
   else if (2:Int)=2∧Zxb l (i+1+2)=[41] then Zci l ⟨2,Zxb l (i+1),[]⟩ [[41],[59]] (i+1+2)
   else Zzk l 2 (Zxb l (i+1)) [[41],[59]] (i+1+2):=rfl
  rw [hq] at h ⊢
  by_cases h2:Zgh l (i+1)=true
  rotate_left
  ·rw [if_pos (by simpa using h2)] at h;cases h
  rw [if_neg (by rw [h2];decide)] at h ⊢;obtain ⟨i1,n1⟩:=hW.name h2;have d1:=hW.drop i1
  by_cases h3:Zxb l (i+1+1)=[40]
  rotate_left
  ·rw [if_pos h3] at h;cases h
  rw [if_neg (by rw [h3];simp)] at h ⊢;have i2:i+1+1<l.length:=Zle (by rw [h3];decide);have d2:=hW.drop i2;rw [h3] at d2
  by_cases h4:Zxb l (i+1+2)=[41]
  ·rw [if_pos ⟨rfl,h4⟩] at h ⊢
   obtain ⟨q1,q2⟩:=Zn3 h;obtain ⟨t3,q3⟩:=Zil q1;rw [q3] at q1;obtain ⟨t4,q4⟩:=Zil q1;have i3:i+1+2<l.length:=Zle (by rw [t3];decide);have i4:i+1+2+1<l.length:=Zle (by rw [t4];decide);have d3:=hW.drop i3;have d4:=hW.drop i4;rw [t3] at d3;rw [t4] at d4;refine ⟨⟨2,Zxb l (i+1),[]⟩,i+1+2+1+1,by rw [q2,q3,q4];rfl,by omega,by omega,fun b hb=>?_⟩;rw [d0,d1,d2,show (l.map Z6g).drop (i+1+1+1)=_ from d3,d4];exact .bare n1 hb
  ·rw [if_neg (fun hh=>h4 hh.2)] at h ⊢
   obtain ⟨ts,x,g,hd,hdr,q1,q2⟩:=expr h;obtain ⟨t3,q3⟩:=Zil q1;rw [q3] at q1;obtain ⟨t4,q4⟩:=Zil q1;have i3:i+1+2+ts.length<l.length:=Zle (by rw [t3];decide);have i4:i+1+2+ts.length+1<l.length:=Zle (by rw [t4];decide);have d3:=hW.drop i3;have d4:=hW.drop i4;rw [t3] at d3;rw [t4] at d4;refine ⟨⟨2,Zxb l (i+1),x.row 0⟩,i+1+2+ts.length+1+1,by rw [q2,q3,q4];rfl,by omega,by omega,fun b hb=>?_⟩;rw [d0,d1,d2,show (l.map Z6g).drop (i+1+1+1)=_ from hdr,d3,d4];exact .emit n1 g hd hb
 ·rw [if_neg h1] at h ⊢
  have hq:Zme l 1 [58,61] [[59]] i=if Zgh l i=false then (⟨1,[],[]⟩,(i:Int),110)
   else if Zxb l (i+1)≠[58,61] then (⟨1,Zxb l i,[]⟩,((i+1:Nat):Int),110)
   else if (1:Int)=2∧Zxb l (i+2)=[41] then Zci l ⟨1,Zxb l i,[]⟩ [[59]] (i+2)
   else Zzk l 1 (Zxb l i) [[59]] (i+2):=rfl
  rw [hq] at h ⊢
  by_cases h2:Zgh l i=true
  rotate_left
  ·rw [if_pos (by simpa using h2)] at h;cases h
  rw [if_neg (by rw [h2];decide)] at h ⊢;obtain ⟨i1,n1⟩:=hW.name h2;have d1:=hW.drop i1
  by_cases h3:Zxb l (i+1)=[58,61]
  rotate_left
  ·rw [if_pos h3] at h;cases h
  rw [if_neg (by rw [h3];simp),if_neg (fun hh=>absurd hh.1 (by decide))] at h ⊢;have i2:i+1<l.length:=Zle (by rw [h3];decide);have d2:=hW.drop i2;rw [h3] at d2;obtain ⟨ts,x,g,hd,hdr,q1,q2⟩:=expr h;obtain ⟨t3,q3⟩:=Zil q1;have i3:i+2+ts.length<l.length:=Zle (by rw [t3];decide);have d3:=hW.drop i3;rw [t3] at d3;refine ⟨⟨1,Zxb l i,x.row 0⟩,i+2+ts.length+1,by rw [q2,q3];rfl,by omega,by omega,fun b hb=>?_⟩;rw [d1,d2,show (l.map Z6g).drop (i+1+1)=_ from hdr,d3];exact .asg n1 g hd hb
theorem Zm4 {l:List Tk} (hW:Wds l) (n:Nat):∀ (f i:Nat) (acc:List ASt),l.length<f+i→i≤l.length→acc.length≤512→(Zhg l n f i acc).2.2=0 →
  ∃ b,Zhg l n f i acc=(acc++b,0,0)∧GB ((l.map Z6g).drop i) b∧acc.length+b.length≤512
 | 0,i,acc,h1,h2,_,_=>by omega
 | f+1,i,acc,h1,h2,h3,h=>by
  rw [Zhg] at h ⊢
  by_cases q:l.length≤i
  ·rw [if_pos q] at h ⊢
   refine ⟨[],by rw [List.append_nil],?_,by simpa using h3⟩;rw [List.drop_of_length_le (by rw [List.length_map];exact q)];exact .nil
  rw [if_neg q] at h ⊢
  by_cases q2:acc.length=512
  ·rw [if_pos q2] at h;cases h
  rw [if_neg q2] at h ⊢
  by_cases q3:(Z3c l i).2.2=0
  rotate_left
  ·rw [if_pos q3] at h;exact absurd h q3
  rw [if_neg (by simpa using q3)] at h ⊢;obtain ⟨s,j,e,hj,hjl,hg⟩:=Zaca hW q3;rw [e] at h ⊢;simp only [Int.toNat_natCast] at h ⊢;obtain ⟨b,e2,g,hl⟩:=Zm4 hW n f j (acc++[s]) (by omega) hjl (by rw [List.length_append];simp only [List.length_cons,List.length_nil];omega) h;refine ⟨s::b,by rw [e2,List.append_assoc];rfl,hg b g,?_⟩;rw [List.length_append] at hl;simp only [List.length_cons,List.length_nil] at hl ⊢;omega
theorem Z3ba {s:List UInt8} (h:(Zac s).2.2=0):Zac s=((Zac s).1,0,0):=by
 unfold Zac at h ⊢
 split at h
 ·cases h
 ·rename_i q
  rw [if_neg q]
  have key:∀ (f i:Nat) (acc:List Tk),(Z2c f s i acc).2.2=0→Z2c f s i acc=((Z2c f s i acc).1,0,0):=by
   intro f
   induction f with
   | zero=>intro i acc _;rfl
   | succ f ih =>
    intro i acc hh;rw [Z2c] at hh ⊢
    split
    ·rename_i q1
     rw [if_pos q1] at hh
     split
     ·rename_i q2
      rw [if_pos q2] at hh;cases hh
     ·rename_i q2
      rw [if_neg q2] at hh;exact ih _ _ hh
    ·rfl
  exact key _ _ _ h
theorem Znaa {s:List UInt8} (h:(Zzc s).2.2=0):∃ l b,Zac s=(l,0,0)∧GB (l.map Z6g) b∧b.length≤512∧Zzc s=(b,0,0):=by
 have hP:Zzc s=if (Zac s).2.2≠0 then (([]:List ASt),(Zac s).2.1,(Zac s).2.2) else Zhg (Zac s).1 s.length ((Zac s).1.length+1) 0 []:=rfl
 by_cases h0:(Zac s).2.2=0
 rotate_left
 ·rw [hP,if_pos h0] at h;exact absurd h h0
 rw [hP,if_neg (by simpa using h0)] at h ⊢;obtain ⟨b,e,g,hl⟩:=Zm4 (Z2ba s) s.length ((Zac s).1.length+1) 0 [] (by omega) (Nat.zero_le _) (Nat.zero_le _) h;exact ⟨(Zac s).1,b,Z3ba h0,g,by simpa using hl,by rw [e];rfl⟩
theorem grN {n:Int} {ts:List (List UInt8)} {x:X} (h:Gr n ts x):∀ k:Int,∀ m∈x.row k,m.name.length≤64:=by
 induction h with
 | num _ _=>intro k m hm;simp only [X.row,List.mem_singleton] at hm;subst hm;exact Nat.zero_le _
 | name h1=>intro k m hm;simp only [X.row,List.mem_singleton] at hm;subst hm;exact (Z9l (by rw [h1];decide)).2.2
 | tr=>intro k m hm;simp only [X.row,List.mem_singleton] at hm;subst hm;exact Nat.zero_le _
 | fa=>intro k m hm;simp only [X.row,List.mem_singleton] at hm;subst hm;exact Nat.zero_le _
 | neg _ _ ih =>
  intro k m hm;simp only [X.row,List.mem_append,List.mem_singleton] at hm
  rcases hm with hm | rfl
  ·exact ih k m hm
  ·exact Nat.zero_le _
 | not _ _ ih =>
  intro k m hm;simp only [X.row,List.mem_append,List.mem_singleton] at hm
  rcases hm with hm | rfl
  ·exact ih k m hm
  ·exact Nat.zero_le _
 | par _ ih=>exact ih
 | bin _ _ _ _ _ i1 i2 =>
  intro k m hm;simp only [X.row,List.mem_append,List.mem_singleton] at hm
  rcases hm with (hm | hm) | rfl
  ·exact i1 k m hm
  ·exact i2 _ m hm
  ·exact Nat.zero_le _
 | ite _ _ _ i1 i2 i3 =>
  intro k m hm;simp only [X.row,List.mem_append,List.mem_singleton] at hm
  rcases hm with ((hm | hm) | hm) | rfl
  ·exact i1 k m hm
  ·exact i2 _ m hm
  ·exact i3 _ m hm
  ·exact Nat.zero_le _
structure SU (m:Nat) (s:ASt):Prop where
 n:s.name.length≤64
 l:s.x.length≤m
 x:∀ n∈s.x,n.name.length≤64
 f:∀ n∈s.x,Z2b n.num=true
theorem GB.su {ws:List (List UInt8)} {b:List ASt} (h:GB ws b):∀ s∈b,SU ws.length s:=by
 induction h with
 | nil=>intro s hs;cases hs
 | asg n g d _ ih =>
  have hs0:=g.size;intro s hs;simp only [List.length_cons,List.length_append]
  rcases List.mem_cons.1 hs with rfl | hs
  ·exact ⟨(Z9l (by rw [n];decide)).2.2,by show (X.row _ _).length≤_;rw [X.row_len];omega,grN g 0,Zsg _ 0 g.ok g.fit⟩
  ·have:=ih s hs;exact ⟨this.n,by have:=this.l;omega,this.x,this.f⟩
 | bare n _ ih =>
  intro s hs;simp only [List.length_cons]
  rcases List.mem_cons.1 hs with rfl | hs
  ·exact ⟨(Z9l (by rw [n];decide)).2.2,Nat.zero_le _,(fun n hn=>by cases hn),(fun n hn=>by cases hn)⟩
  ·have:=ih s hs;exact ⟨this.n,by have:=this.l;omega,this.x,this.f⟩
 | emit n g d _ ih =>
  have hs0:=g.size;intro s hs;simp only [List.length_cons,List.length_append]
  rcases List.mem_cons.1 hs with rfl | hs
  ·exact ⟨(Z9l (by rw [n];decide)).2.2,by show (X.row _ _).length≤_;rw [X.row_len];omega,grN g 0,Zsg _ 0 g.ok g.fit⟩
  ·have:=ih s hs;exact ⟨this.n,by have:=this.l;omega,this.x,this.f⟩
theorem Z2y {l:List Tk} {n:Nat}:∀ (f i:Nat) (acc:List ASt),(Zhg l n f i acc).2.2≠0→(Zhg l n f i acc).1=[]
 | 0,i,acc,h=>absurd rfl h
 | f+1,i,acc,h=>by
  rw [Zhg] at h ⊢
  by_cases q1:l.length≤i
  ·rw [if_pos q1] at h;exact absurd rfl h
  rw [if_neg q1] at h ⊢
  by_cases q2:acc.length=512
  ·rw [if_pos q2]
  rw [if_neg q2] at h ⊢
  by_cases q3:(Z3c l i).2.2≠0
  ·rw [if_pos q3]
  rw [if_neg q3] at h ⊢;exact Z2y f _ _ h
theorem Z2da {s:List UInt8}:(Zzc s).1.length≤512∧∀ a∈(Zzc s).1,SU s.length a:=by
 by_cases h:(Zzc s).2.2=0
 ·obtain ⟨l,b,e1,g,hl,e⟩:=Znaa h
  have hc:=Z24 e1;rw [e];refine ⟨hl,fun a ha=>?_⟩;have:=g.su a ha;exact ⟨this.n,Nat.le_trans this.l (by rw [List.length_map];exact hc),this.x,this.f⟩
 ·have:(Zzc s).1=[]:=by
   unfold Zzc at h ⊢
   by_cases h1:(Zac s).2.2≠0
   ·rw [if_pos h1]
   rw [if_neg h1] at h ⊢;exact Z2y _ _ _ h
  rw [this];exact ⟨Nat.zero_le _,fun a ha=>by cases ha⟩
end Go.Hs
end

section
namespace Go.Hs
open Go.Proofs
set_option maxHeartbeats 1000000
set_option maxRecDepth 10000
def toAU (s:ASt):AM:=⟨s.kind,s.name,Zv s.x⟩
def amU (l:List ASt):Sl AM:=Zv (l.map toAU)
theorem toAU_v (s:ASt):(toAU s).v=s:=by
 show ASt.mk s.kind s.name (Zv s.x).l=s
 rw [Zea]
theorem Zxaa (l:List ASt):(amU l).l=l.map toAU:=Zea _
theorem Z7da (l:List ASt):(amU l).l.map AM.v=l:=by
 rw [Zxaa,List.map_map];exact (List.map_congr_left fun s _=>toAU_v s).trans (List.map_id _)
theorem Zyj (c:Col) (l:List ASt):Zty c l=Za c 3 (Zda c) (amU l):=by
 cases l with
 | nil=>rfl
 | cons s r =>
  show V.slice c false 3 ((s::r).map (Zmg c))=V.slice c false 3 (((s::r).map toAU).map (Zda c))
  rw [List.map_map];rfl
structure VarIn (vs:List (List UInt8 × Int)) (arg:Int):Prop where
 hv:vs.length<100000
 hf:∀ p∈vs,Z2b p.2=true
 ha:Z2b arg=true
theorem VarIn.txt {vs:List (List UInt8 × Int)} {arg:Int} (h:VarIn vs arg) {s:List UInt8} (hs:s.length<100000):RunIn (amU (Zzc s).1) vs arg:=by
 obtain ⟨h1,h2⟩:=Z2da (s:=s)
 have key:∀ a∈(amU (Zzc s).1).l,∃ q,SU s.length q∧a=toAU q:=by
  intro a ha;rw [Zxaa,List.mem_map] at ha;obtain ⟨q,hq,rfl⟩:=ha;exact ⟨q,h2 q hq,rfl⟩
 refine ⟨by rw [Zxaa,List.length_map];omega,fun a ha=>?_,fun a ha n hn=>?_,h.hv,h.hf,h.ha⟩
 ·obtain ⟨q,hq,rfl⟩:=key a ha
  refine ⟨by have:=hq.n;show q.name.length<_;omega,?_,fun n hn=>?_⟩
  ·show (Zv q.x).l.length<_;rw [Zea];have:=hq.l;omega
  ·have hn:n∈(Zv q.x).l:=hn
   rw [Zea] at hn;have:=hq.x n hn;omega
 ·obtain ⟨q,hq,rfl⟩:=key a ha
  have hn:n∈(Zv q.x).l:=hn;rw [Zea] at hn;exact hq.f n hn
noncomputable def textU (s:List UInt8) (arg:Int) (vs:List (List UInt8 × Int)):RU × Int:=if (Zzc s).2.2≠0 then (⟨[],[],0⟩,(Zzc s).2.2) else runB arg (Zzc s).1 vs
def svT (s:List UInt8) (vs:Sl (List UInt8 × Int)) (l:List (List UInt8 × Int)):Sl (List UInt8 × Int):=if (Zzc s).2.2≠0 then .nil else svR (Zzc s).1 vs l
theorem Zkx (G:Nat→V) (hE:GExp G) (c2:Col) (s:List UInt8) (hs:s.length<100000) (vs:Sl (List UInt8 × Int)) (arg:Int) (h:VarIn vs.l arg) :
  Spec Tryz.prog G 34 [.str s,Za c2 2 Zi vs,.int .i64 arg] Zm (fun v _=>v=ansR (svT s vs (textU s arg vs.l).1.vars) (textU s arg vs.l)):=by
 have hG:=hE.ok;refine Zo 0 27 [.cell 6 74,.tmp 7] Tryz.func34 fun X=>?_;have hpa:=Zvq G hE s hs;have hin:=h.txt hs
 have hP:textU s arg vs.l=if (Zzc s).2.2≠0 then (⟨[],[],0⟩,(Zzc s).2.2) else runB arg (Zzc s).1 vs.l:=rfl
 have hS:svT s vs (textU s arg vs.l).1.vars=if (Zzc s).2.2≠0 then .nil else svR (Zzc s).1 vs (textU s arg vs.l).1.vars:=rfl
 generalize svT s vs (textU s arg vs.l).1.vars=sv at hS ⊢;generalize textU s arg vs.l=res at hP hS ⊢;generalize Zzc s=p at hP hS hpa hin;obtain ⟨b,wi,we⟩:=p;simp only at hP hS hin
 have hpe:Zdaa (b,wi,we) = .tuple [.agg [Za .new 3 (Zda .new) (amU b)],.int .i64 wi,.int .i64 we]:=by unfold Zdaa;rw [Zyj]
 rw [hpe] at hpa;refine Z ?_;intro g6;refine Z ?_;refine Zc hG ?_ (s:=hpa);intro g8
 by_cases he:we=0
 ·subst he
  rw [if_neg (by decide)] at hP hS;refine Z ?_
  have hr:∀ c c1 c2,Spec Tryz.prog G 32 [.agg [Za c 3 (Zda c1) (amU b)],Za c2 2 Zi vs,.int .i64 arg] Zm (fun v _=>v = .tuple [.agg [Za .new 2 Zi sv,Za .new 2 Zi (Zv res.1.emits),.int .i64 res.1.done],.int .i64 res.2]):=fun c c1 c2=>by
   have:=Zjo G hE c c1 c2 (amU b) vs arg hin;rw [Z7da,← hP,← hS] at this;exact this
  refine Zc hG ?_ (s:=hr _ _ _);exact Zr
 ·have q:(we != 0)=true:=by simpa using he
  rw [if_pos he] at hP hS;refine Zf q ?_;rw [hS,hP];rfl
theorem Z60 (G:Nat→V) (hG:GOk G) (c2:Col) (s:List UInt8) (hs:s.length<100000) (vs:Sl (List UInt8 × Int)) (arg:Int) (h:VarIn vs.l arg) :
  Spec Tryz.prog G 35 [.str s,Za c2 2 Zi vs,.int .i64 arg] Zm (fun v _=>v=ansU (textU s arg vs.l)):=by
 refine Zo 0 27 [.cell 6 67,.tmp 7] Tryz.func35 fun X=>?_;have hpa:=Zo2 G hG s hs;have hin:=h.txt hs
 have hP:textU s arg vs.l=if (Zzc s).2.2≠0 then (⟨[],[],0⟩,(Zzc s).2.2) else runB arg (Zzc s).1 vs.l:=rfl
 generalize textU s arg vs.l=res at hP ⊢;generalize Zzc s=p at hP hpa hin;obtain ⟨b,wi,we⟩:=p;simp only at hP hin
 have hpe:encBR (b,wi,we) = .tuple [Za .new 3 (Zda .new) (amU b),.int .i64 wi,.int .i64 we]:=by unfold encBR;rw [Zyj]
 rw [hpe] at hpa;refine Z ?_;intro g6;refine Z ?_;refine Zc hG ?_ (s:=hpa)
 by_cases he:we=0
 ·subst he
  rw [if_neg (by decide)] at hP;refine Z ?_
  have hr:∀ c c1 c2,Spec Tryz.prog G 30 [Za c 3 (Zda c1) (amU b),Za c2 2 Zi vs,.int .i64 arg] Zm (fun v _=>v = .tuple [.agg [Za .new 2 Zi (Zv res.1.vars),Za .new 2 Zi (Zv res.1.emits),.int .i64 res.1.done],.int .i64 res.2]):=fun c c1 c2=>by
   have:=Zjs G hG c c1 c2 (amU b) vs arg hin;rw [Z7da,← hP] at this;exact this
  refine Zc hG ?_ (s:=hr _ _ _);exact Zr
 ·have q:(we != 0)=true:=by simpa using he
  rw [if_pos he] at hP;refine Zf q ?_;rw [hP];rfl
def resV (c1 c2:Col) (sa ea:Sl (List UInt8 × Int)) (d:Int):V := .agg [Za c1 2 Zi sa,Za c2 2 Zi ea,.int .i64 d]
theorem Zbq (G:Nat→V) (hG:GOk G) (c1 c2 d1 d2:Col) (sa sb ea eb:Sl (List UInt8 × Int)) (d:Int) (h1:sa.l=sb.l) (h2:ea.l=eb.l) (hs:sa.l.length<1000000) (he:ea.l.length<1000000) :
  Spec Tryz.prog G 33 [resV c1 c2 sa ea d,resV d1 d2 sb eb d] Zm (fun v _=>v = .bool true):=by
 refine Zo 0 100 [.tmp 4] Tryz.func33 fun X=>?_;simp only [resV];refine Z ?_;intro g2 g3;refine Zs ?_
 have e1:(d != d)=false:=by simp
 have e2:(((sa.l.length:Nat):Int) != ((sb.l.length:Nat):Int))=false:=by rw [h1];simp
 have e3:(((ea.l.length:Nat):Int) != ((eb.l.length:Nat):Int))=false:=by rw [h2];simp
 refine AW.weak (Zz (fun o=>o==2 || o==3) (l:=[(2,.view .new (.agg [Za c1 2 Zi sa,Za c2 2 Zi ea,.int .i64 d])),(3,.view .new (.agg [Za d1 2 Zi sb,Za d2 2 Zi eb,.int .i64 d]))]) (m:=[]) ?_ trivial) ?_
 ·simp -implicitDefEqProofs only[go_sem,seval]
  exact ⟨Fz.ptr (v := .agg [Za c1 2 Zi sa,Za c2 2 Zi ea,.int .i64 d]) (c := .new) (fz:=0) rfl zp,Fz.ptr (v := .agg [Za d1 2 Zi sb,Za d2 2 Zi eb,.int .i64 d]) (c := .new) (fz:=0) rfl zp⟩
 refine Zf (zi e1 (zi e2 e3)) ?_;refine Zwa sa.l.length (fun k (_:Unit)=>st [(2,.view .new (.agg [Za c1 2 Zi sa,Za c2 2 Zi ea,.int .i64 d])),(3,.view .new (.agg [Za d1 2 Zi sb,Za d2 2 Zi eb,.int .i64 d])),(5,.int .i64 k)] []) (fun k _=>True) 0 () (Nat.zero_le _) trivial (Zb zp zp) ?_;intro k _ hk _ L3 hL3
 by_cases hk1:k<sa.l.length
 ·have hlt:decide ((k:Int)<(sa.l.length:Int))=true:=zT
  have hg:=List.getElem?_eq_getElem hk1
  have hgb:sb.l[k]? = some sa.l[k]:=by rw [← h1];exact hg
  have hk2:k<sb.l.length:=by rw [← h1];exact hk1
  generalize sa.l[k]=p at hg hgb;have w1:IntKind.i64.wrap ((k:Int)+1)=(k:Int)+1:=w64 (by omega) (by omega);refine Z1f hlt ?_;refine ZTf (zi hg (zi hgb (zi Zzb (zi hk1 (zi hk2 (zi @Int.natCast_nonneg @Int.ofNat_lt)))))) hG ?_
  have b1:(p.1 != p.1)=false:=by simp
  have b2:(p.2 != p.2)=false:=by simp
  refine Zsf (zi b1 b2) ?_;refine Zf w1 ?_;exact hL3 _ ⟨hk1,(),trivial,Zb zp zp⟩
 have hke:k=sa.l.length:=by omega
 subst hke
 have hlt:decide ((sa.l.length:Int)<(sa.l.length:Int))=false:=by simp
 refine Zf hlt ?_;refine Zwa ea.l.length (fun k (_:Unit)=>st [(2,.view .new (.agg [Za c1 2 Zi sa,Za c2 2 Zi ea,.int .i64 d])),(3,.view .new (.agg [Za d1 2 Zi sb,Za d2 2 Zi eb,.int .i64 d])),(6,.int .i64 k)] []) (fun k _=>True) 0 () (Nat.zero_le _) trivial (Zb zp zp) ?_;clear hL3 L3;intro k _ hk _ L3 hL3
 by_cases hk1:k<ea.l.length
 ·have hlt:decide ((k:Int)<(ea.l.length:Int))=true:=zT
  have hg:=List.getElem?_eq_getElem hk1
  have hgb:eb.l[k]? = some ea.l[k]:=by rw [← h2];exact hg
  have hk2:k<eb.l.length:=by rw [← h2];exact hk1
  generalize ea.l[k]=p at hg hgb;have w1:IntKind.i64.wrap ((k:Int)+1)=(k:Int)+1:=w64 (by omega) (by omega);refine Z1f hlt ?_;refine ZTf (zi hg (zi hgb (zi Zzb (zi hk1 (zi hk2 (zi @Int.natCast_nonneg @Int.ofNat_lt)))))) hG ?_
  have b1:(p.1 != p.1)=false:=by simp
  have b2:(p.2 != p.2)=false:=by simp
  refine Zsf (zi b1 b2) ?_;refine Zf w1 ?_;exact hL3 _ ⟨hk1,(),trivial,Zb zp zp⟩
 have hke:k=ea.l.length:=by omega
 subst hke
 have hlt:decide ((ea.l.length:Int)<(ea.l.length:Int))=false:=by simp
 refine Zf hlt ?_;rfl
theorem Z7y (G:Nat→V) (hG:GOk G) (c:Col) (s:List UInt8) (l:Sl (List UInt8)) (hl:l.l.length<1000000) :
  Spec Tryz.prog G 39 [.str s,Za c 1 V.str l] Zm (fun v _=>v = .bool (l.l.contains s)):=by
 refine Zo 0 18 [.tmp 4] Tryz.func39 fun X=>?_;refine Z ?_;refine Zwa l.l.length (fun k (_:Unit)=>st [(0,.str s),(1,Za c 1 V.str l),(5,.int .i64 k)] []) (fun k _=>∀ y∈l.l.take k,y≠s) 0 () (Nat.zero_le _) (by simp) (Zb zp zp) ?_;intro k _ hk hR L3 hL3
 by_cases hk1:k<l.l.length
 ·have hlt:decide ((k:Int)<(l.l.length:Int))=true:=zT
  have hg:=List.getElem?_eq_getElem hk1;have hm:l.l[k]∈l.l:=List.getElem_mem hk1
  have htk:l.l.take (k+1)=l.l.take k++[l.l[k]]:=by rw [List.take_succ_eq_append_getElem hk1]
  generalize l.l[k]=x at hg htk hm;have w1:IntKind.i64.wrap ((k:Int)+1)=(k:Int)+1:=w64 (by omega) (by omega)
  by_cases hx:x=s
  ·have q:(x==s)=true:=by simpa using hx
   refine Zf (zi hlt (zi hg q)) ?_;subst hx;rw [List.contains_eq_mem];exact congrArg _ (decide_eq_true hm).symm
  ·have q:(x==s)=false:=by simpa using hx
   refine Zf (zi hlt (zi hg (zi q w1))) ?_;refine hL3 _ ⟨hk1,(),?_,Zb zp zp⟩;intro y hy;rw [htk,List.mem_append,List.mem_singleton] at hy
   rcases hy with hy | rfl
   ·exact hR y hy
   ·exact hx
 have hke:k=l.l.length:=by omega
 subst hke
 have hlt:decide ((l.l.length:Int)<(l.l.length:Int))=false:=by simp
 rw [List.take_length] at hR;refine Zf hlt ?_;rw [List.contains_eq_mem];exact congrArg _ (decide_eq_false fun h=>hR s h rfl).symm
theorem Zdj {arg:Int} {v:List (List UInt8 × Int)} {x:X} (hx:x.ok=true) (hc:Zra (x.row 0)=0):worthU arg v (x.row 0)=(evX (v++[(Zdl,arg)]) x).need 1:=by
 unfold worthU;rw [if_neg (fun h=>by have:=congrArg List.length h;rw [X.row_len] at this;have:=x.size_pos;simp at *;omega),Zen hx hc]
theorem Zsl {w:List (List UInt8 × Int)→List XN→EV} {s:ASt} {t:List ASt} {r r2:RU} (h:Zfc w s r=(r2,0)):Zne w (s::t) r=Zne w t r2:=by
 rw [Zne,h,if_neg (by show ¬(0:Int)≠0;decide)]
theorem Ztx {w:List (List UInt8 × Int)→List XN→EV} {s:ASt} {t:List ASt} {r r2:RU} {e:Int} (h:Zfc w s r=(r2,e)) (he:e≠0):Zne w (s::t) r=(r2,e):=by
 rw [Zne,h,if_pos (by show e≠0;exact he)]
theorem Zqt {s:List UInt8} {arg:Int} {vs:List (List UInt8 × Int)} {b:List ASt} {q:RU × Int} (h:Zzc s=(b,0,0)) (hc:Z3a b=0) (hr:Zne (worthU arg) b ⟨vs,[],0⟩=q):textU s arg vs=q:=by
 unfold textU runB;rw [h,if_neg (by show ¬(0:Int)≠0;decide),if_neg (by rw [hc];decide),hr]
theorem Z07 {s:List UInt8} {vs:Sl (List UInt8 × Int)} {l:List (List UInt8 × Int)} {b:List ASt} (h:Zzc s=(b,0,0)) (hc:Z3a b=0):svT s vs l=svU (Zfi vs) l:=by
 unfold svT svR;rw [h,if_neg (by show ¬(0:Int)≠0;decide),if_neg (by rw [hc];decide)]
def wn:List UInt8:=[110]
def wgo:List UInt8:=[103,111]
def wV:Sl (List UInt8 × Int) := .mk false [(wn,2)]
def wt1:List UInt8:=[110,32,58,61,32,110,32,43,32,97,114,103,59,32,101,109,105,116,32,103,111,40,110,41,59,32,101,109,105,116,32,103,111,40,41,59]
def wt2:List UInt8:=[101,109,105,116,32,103,111,40,49,41,59,32,110,32,58,61,32,110,32,100,105,118,32,48,59,32,110,32,58,61,32,55,59]
def wt3:List UInt8:=[109,32,58,61,32,49,32,100,105,118,32,48,59]
def wx1:X := .bin 10 (.leaf 2 0 [110]) (.leaf 2 0 [97,114,103])
def wx2:X := .leaf 2 0 [110]
def wx3:X := .leaf 1 1 []
def wx4:X := .bin 8 (.leaf 2 0 [110]) (.leaf 1 0 [])
def wx5:X := .leaf 1 7 []
def wx6:X := .bin 8 (.leaf 1 1 []) (.leaf 1 0 [])
def wb1:List ASt:=[⟨1,wn,wx1.row 0⟩,⟨2,wgo,wx2.row 0⟩,⟨2,wgo,[]⟩]
def wb2:List ASt:=[⟨2,wgo,wx3.row 0⟩,⟨1,wn,wx4.row 0⟩,⟨1,wn,wx5.row 0⟩]
def wb3:List ASt:=[⟨1,[109],wx6.row 0⟩]
theorem wp1:Zzc wt1=(wb1,0,0):=by decide +kernel
theorem wp2:Zzc wt2=(wb2,0,0):=by decide +kernel
theorem wp3:Zzc wt3=(wb3,0,0):=by decide +kernel
theorem wc1:Z3a wb1=0:=by decide +kernel
theorem wc2:Z3a wb2=0:=by decide +kernel
theorem wc3:Z3a wb3=0:=by decide +kernel
theorem wr1:textU wt1 3 wV.l=(⟨[(wn,5)],[(wgo,5),(wgo,0)],3⟩,0):=by
 refine Zqt wp1 wc1 ?_;have h1:worthU 3 [(wn,2)] (wx1.row 0) = .num 5:=(Zdj (by decide +kernel) (by decide +kernel)).trans (by decide +kernel);have h2:worthU 3 [(wn,5)] (wx2.row 0) = .num 5:=(Zdj (by decide +kernel) (by decide +kernel)).trans (by decide +kernel);have h3:worthU 3 [(wn,5)] [] = .num 0:=if_pos rfl;refine (Zsl (r2:=⟨[(wn,5)],[],1⟩) (by unfold Zfc;rw [show worthU 3 wV.l (wx1.row 0) = .num 5 from h1];rfl)).trans ?_;refine (Zsl (r2:=⟨[(wn,5)],[(wgo,5)],2⟩) (by unfold Zfc;rw [h2];rfl)).trans ?_;refine (Zsl (r2:=⟨[(wn,5)],[(wgo,5),(wgo,0)],3⟩) (by unfold Zfc;rw [h3];rfl)).trans rfl
theorem wr2:textU wt2 3 wV.l=(⟨[(wn,2)],[(wgo,1)],1⟩,61):=by
 refine Zqt wp2 wc2 ?_;have h1:worthU 3 [(wn,2)] (wx3.row 0) = .num 1:=(Zdj (by decide +kernel) (by decide +kernel)).trans (by decide +kernel);have h2:worthU 3 [(wn,2)] (wx4.row 0) = .err 61:=(Zdj (by decide +kernel) (by decide +kernel)).trans (by decide +kernel);refine (Zsl (r2:=⟨[(wn,2)],[(wgo,1)],1⟩) (by unfold Zfc;rw [show worthU 3 wV.l (wx3.row 0) = .num 1 from h1];rfl)).trans ?_;exact Ztx (by unfold Zfc;rw [h2];rfl) (by decide)
theorem wr3:textU wt3 3 wV.l=(⟨[(wn,2)],[],0⟩,90):=by
 refine Zqt wp3 wc3 ?_;exact Ztx (by unfold Zfc;rw [if_pos (by decide +kernel)];rfl) (by decide)
theorem wIn:VarIn wV.l 3:=⟨by decide,by decide,by decide⟩
theorem Zve (G:Nat→V) (hE:GExp G):Spec Tryz.prog G 28 [] Zm (fun v _=>v = .bool true):=by
 have hG:=hE.ok;have hT:=fun s hs c2=>Zkx G hE c2 s hs wV 3 wIn;refine Zo 0 118 [.tmp 0] Tryz.func28 fun X=>?_;refine Z ?_;intro g9;refine Zs ?_;refine AW.weak (Zz (fun o=>o==9) (l:=[(1,Za .new 2 Zi wV)]) (m:=[]) ?_ trivial) ?_
 ·simp -implicitDefEqProofs only[go_sem,seval]
  exact Zaf (f:=Zi) (l:=[(wn,2)]) (m:=2) (g:=g9) (fz:=0) (c := .new) rfl zp Zsa
 have t1:∀ c2,Spec Tryz.prog G 34 [.str wt1,Za c2 2 Zi wV,.int .i64 3] Zm (fun v _=>v = .tuple [.agg [Za .new 2 Zi (.mk false [(wn,5)]),Za .new 2 Zi (.mk false [(wgo,5),(wgo,0)]),.int .i64 3],.int .i64 0]):=fun c2=>by
  have:=hT wt1 (by decide) c2;rw [wr1,Z07 wp1 wc1] at this;exact this
 have t2:∀ c2,Spec Tryz.prog G 34 [.str wt2,Za c2 2 Zi wV,.int .i64 3] Zm (fun v _=>v = .tuple [.agg [Za .new 2 Zi (.mk false [(wn,2)]),Za .new 2 Zi (.mk false [(wgo,1)]),.int .i64 1],.int .i64 61]):=fun c2=>by
  have:=hT wt2 (by decide) c2;rw [wr2,Z07 wp2 wc2] at this;exact this
 have t3:∀ c2,Spec Tryz.prog G 34 [.str wt3,Za c2 2 Zi wV,.int .i64 3] Zm (fun v _=>v = .tuple [.agg [Za .new 2 Zi (.mk false [(wn,2)]),Za .new 2 Zi .nil,.int .i64 0],.int .i64 90]):=fun c2=>by
  have:=hT wt3 (by decide) c2;rw [wr3,Z07 wp3 wc3] at this;exact this
 refine Z ?_;refine Zc hG ?_ (s:=t1 _);intro g2;refine Z ?_;refine Zc hG ?_ (s:=t2 _);intro g4;refine Z ?_;refine Zc hG ?_ (s:=t3 _);intro g6;have hw:wgo=[103,111]:=rfl;have hb:(([103,111]:List UInt8) != [103,111])=false:=rfl;have hb2:(([103,111]:List UInt8)==[103,111])=true:=rfl;exact Zq (zi Zzb (zi hw (zi hb hb2)))
theorem Zok {s:Sl AM} {vs:List (List UInt8 × Int)} {arg:Int} (h:RunIn s vs arg) (hc:Z3a (s.l.map AM.v)=0):RuOk vs.length s.l.length (runB arg (s.l.map AM.v) vs).1:=by
 obtain ⟨_,hall⟩:=Zjh hc;unfold runB;rw [if_neg (by rw [hc];decide)];have h0:RuOk vs.length 0 (⟨vs,[],0⟩:RU):=⟨rfl,h.hf,Nat.le_refl _,Nat.le_refl _⟩
 have:=Zh8 (w:=worthU arg) (s.l.map AM.v) h0 (fun v hv q hq=>by
  obtain ⟨a,ha,rfl⟩:=List.mem_map.1 hq
  exact Zxf (hall _ hq).2 (h.hn a ha) hv h.ha)
 rw [Nat.zero_add,List.length_map] at this;exact this
theorem svR_l {s:Sl AM} {vs:Sl (List UInt8 × Int)} {arg:Int} (h:RunIn s vs.l arg):(svR (s.l.map AM.v) vs (runB arg (s.l.map AM.v) vs.l).1.vars).l=(runB arg (s.l.map AM.v) vs.l).1.vars:=by
 by_cases hc:Z3a (s.l.map AM.v)=0
 ·have hl:=(Zok h hc).len
  unfold svR;rw [if_neg (by rw [hc];decide)];refine Za1 fun q=>List.length_eq_zero_iff.1 ?_;rw [hl,Z48 q];rfl
 ·unfold svR runB
  rw [if_pos hc,if_pos hc];rfl
theorem Zym {s:Sl AM} {vs:List (List UInt8 × Int)} {arg:Int} (h:RunIn s vs arg):(runB arg (s.l.map AM.v) vs).1.vars.length<100000∧(runB arg (s.l.map AM.v) vs).1.emits.length<1000000:=by
 have hv:=h.hv;have hs:=h.hs
 by_cases hc:Z3a (s.l.map AM.v)=0
 ·have:=Zok h hc
  exact ⟨by rw [this.len];omega,by have:=this.em;omega⟩
 ·unfold runB
  rw [if_pos hc];exact ⟨by decide,by decide⟩
theorem textU_l {s:List UInt8} (hs:s.length<100000) {vs:Sl (List UInt8 × Int)} {arg:Int} (h:VarIn vs.l arg):(svT s vs (textU s arg vs.l).1.vars).l=(textU s arg vs.l).1.vars∧(textU s arg vs.l).1.vars.length<100000∧(textU s arg vs.l).1.emits.length<1000000:=by
 have hin:=h.txt hs;have h1:=svR_l hin;have h2:=Zym hin;rw [Z7da] at h1 h2;unfold svT textU
 by_cases he:(Zzc s).2.2≠0
 ·rw [if_pos he,if_pos he]
  exact ⟨rfl,(by show 0<100000;omega),(by show 0<1000000;omega)⟩
 ·rw [if_neg he,if_neg he]
  exact ⟨h1,h2⟩
theorem Zp9 (G:Nat→V) (hE:GExp G) (c:Col) (s:List UInt8) (vs:Sl (List UInt8 × Int)) (hf:∀ p∈vs.l,Z2b p.2=true) (arg:Int) (ha:Z2b arg=true) :
  Spec Tryz.prog G 9 [.str s,Za c 2 Zi vs,.int .i64 arg] Zm (fun v _=>v = .bool true):=by
 have hG:=hE.ok;have hW:=Zve G hE;refine Zo 0 47 [.tmp 6] Tryz.func9 fun X=>?_;refine Z1 ?_
 by_cases hl:s.length > 400
 ·have q:decide (((s.length:Nat):Int) > 400)=true:=zT
  refine Zf q ?_;refine Zc hG ?_ (s:=hW);exact Zr
 have q:decide (((s.length:Nat):Int) > 400)=false:=zF;refine Zf q ?_;refine CallA.pure hG zk ?_;refine Zs ?_;refine (Zsh G hG .new .new c.ent .nil vs).mono ?_;rintro _ _ ⟨b,rfl,hb⟩
 cases b with
 | false =>
  refine Zs ?_;refine Z ?_;refine Zc hG ?_ (s:=hW);exact Zr
 | true =>
  obtain ⟨_,hv,_,_⟩:=hb rfl;have hV:VarIn vs.l arg:=⟨by omega,hf,ha⟩;obtain ⟨k1,k2,k3⟩:=textU_l (by omega) hV (s:=s);have ht:∀ c2,Spec Tryz.prog G 34 [.str s,Za c2 2 Zi vs,.int .i64 arg] Zm (fun v _=>v = .tuple [.agg [Za .new 2 Zi (svT s vs (textU s arg vs.l).1.vars),Za .new 2 Zi (Zv (textU s arg vs.l).1.emits),.int .i64 (textU s arg vs.l).1.done],.int .i64 (textU s arg vs.l).2]):=fun c2=>Zkx G hE c2 s (by omega) vs arg hV
  have hr:∀ c2,Spec Tryz.prog G 35 [.str s,Za c2 2 Zi (Zv vs.l),.int .i64 arg] Zm (fun v _=>v = .tuple [.agg [Za .new 2 Zi (Zv (textU s arg vs.l).1.vars),Za .new 2 Zi (Zv (textU s arg vs.l).1.emits),.int .i64 (textU s arg vs.l).1.done],.int .i64 (textU s arg vs.l).2]):=fun c2=>by
   have:=Z60 G hG c2 s (by omega) (Zv vs.l) arg (by rw [Zea];exact hV);rw [Zea] at this;exact this
  generalize svT s vs (textU s arg vs.l).1.vars=sv at ht k1;generalize textU s arg vs.l=r at ht hr k1 k2 k3;refine Zs ?_;refine Z ?_;refine Zc hG ?_ (s:=ht _);intro g7;refine Z ?_;refine Zc hG ?_ (s:=Zef G hG _ vs (by omega));refine Zc hG ?_ (s:=hr _);intro g9;refine Z ?_;refine Zc hG ?_ (s:=Zbq G hG _ _ _ _ sv (Zv r.1.vars) (Zv r.1.emits) (Zv r.1.emits) r.1.done (by rw [k1,Zea]) rfl (by rw [k1];omega) (by rw [Zea];omega))
  have e:(r.2==r.2)=true:=by simp
  refine Zsf e ?_;refine Zc hG ?_ (s:=hW);exact Zr
end Go.Hs
end
