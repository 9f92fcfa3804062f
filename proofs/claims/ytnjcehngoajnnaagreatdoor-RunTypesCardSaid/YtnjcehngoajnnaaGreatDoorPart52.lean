/- Part 52 of the proof of a statement of seat YtnjcehngoajnnaaGreatDoor: HsGRuD HsGRuE HsGRuG HsGActC HsGActD HsGActE HsGRuF HsGActF HsActBk HsRunPl3 HsGRuH HsGRuI HsGRuJ HsGRuK HsGRuN HsGActI HsGEvTy HsRunPl2 HsGRuP HsGRuQ HsGExpLaid HsGExpLaidG HsGExpArgs HsGExpArgs2 HsGActArgs HsGEvArgs HsGRuArgs HsGSeatF. -/
import Derived.Test.YtnjcehngoajnnaaGreatDoorPart48
import Derived.Test.YtnjcehngoajnnaaGreatDoorPart51
import Derived.Test.YtnjcehngoajnnaaGreatDoorPart40
import Derived.Test.YtnjcehngoajnnaaGreatDoorPart49
import Derived.Test.YtnjcehngoajnnaaGreatDoorPart47
import Derived.Test.YtnjcehngoajnnaaGreatDoorPart45
import Derived.Test.YtnjcehngoajnnaaGreatDoorPart31
import Derived.Test.YtnjcehngoajnnaaGreatDoorPart33
import Derived.Test.YtnjcehngoajnnaaGreatDoorPart42
import Derived.Test.YtnjcehngoajnnaaGreatDoorPart34
import Derived.Test.YtnjcehngoajnnaaGreatDoorPart38
import Derived.Test.YtnjcehngoajnnaaGreatDoorRows
import Derived.ProofKit
import Derived.OpenShut
import Derived.LaidLaws
import Derived.Stop.LaidErr
import Derived.Lib.LaidTab
import Derived.Handed
import Derived.ChangeMaps5
import Derived.Test.YtnjcehngoajnnaaGreatDoorCards
set_option linter.unusedSimpArgs false
set_option linter.unusedVariables false
section
namespace Go.Hs
open Go.Proofs
set_option maxRecDepth 10000
set_option maxHeartbeats 1000000
def rnV (c c1 c2:Col) (vs es:Sl (List UInt8 × Int)) (d arg:Int):V := .view c (.agg [Za c1 2 Zz vs,Za c2 2 Zz es,.int .i64 d,.int .i64 arg])
theorem imXs (c:Col) (s:Sl XN):(V.agg [Za c 6 Z3 s]).Im := .agg _ fun y hy=>by
 rw [List.mem_singleton.1 hy]
 exact Zry (fun n z hz=>by
  simp only [Zt,V.cells,List.mem_cons,List.not_mem_nil,or_false] at hz
  rcases hz with rfl | rfl | rfl | rfl | rfl | rfl<;>first | exact .int _ _ | exact .str _) _
theorem nmFl (x:EV):(Zr3 x).Fl := .tuple _ fun y hy=>by
 simp only [List.mem_cons,List.not_mem_nil,or_false] at hy
 rcases hy with rfl | rfl<;>exact .int _ _
theorem mslB {H:Heap} {g n:Nat} {l:List (List UInt8 × Int)} (h:H 5005 = .cells .new g 0 (flat (l.map Zz))) (hn:l.length=n):Rd H (.msl 5005 g 0 n 2) (Za .old 2 Zz (.mk false l)):=by
 subst hn;have:=Rd.msl (l:=l) (off:=0) (n:=l.length) (f:=Zz) (f':=Zz) (g:=g) (fz:=0) (c := .new) h Zsc biIm (fun _=>rfl) (by omega);rw [List.drop_zero,List.take_length,Nat.zero_mul] at this;exact this
theorem Zvy (G:Nat→V) (hE:GExp G) (c c1 c2 c3:Col) (vs es:Sl (List UInt8 × Int)) (d arg:Int) (a:AM) (hx:a.x.l.length<1000000) (hev:∀ env:Sl (List UInt8 × Int),env.l=vs.l++[(Z3k,arg)]→EvIn a.x env) (hvl:vs.l.length<100000) :
  Spec Tryz.prog G 84 [rnV c c1 c2 vs es d arg,stI c3 a] Zk (fun v _=>v=Zr3 (worthU arg vs.l a.x.l)):=by
 have hG:=hE.ok;refine Zo 0 30 [.tmp 4,.tmp 5] Tryz.func84 fun X=>?_;simp only [rnV];refine Z1 ?_;refine Zob (fun (g6:Nat)=>st [(0,rnV c c1 c2 vs es d arg),(6,.ptr 6 g6 0)] [(6,.cells .new g6 0 [Za c3.ent.bk 6 Z3 a.x])]) (fun _=>True) (fun K1 hK1=>?_) ?_
 ·refine Z30 1 (by kernel_rfl) rfl ?_
  by_cases hk:a.kind=1
  ·rw [Zl5 hk]
   simp -implicitDefEqProofs only[go_sem,seval,↓reduceIte];refine ⟨_,_,_,rfl,aMeth,?_⟩;refine Zcf @Zkd hG ?_ (s:=Zf4 G c3.ent a);intro g6;exact hK1 _ g6 trivial (Zg zp zp)
  ·rw [Zk5 hk]
   simp -implicitDefEqProofs only[go_sem,seval,↓reduceIte];refine ⟨_,_,_,rfl,eMeth,?_⟩;refine Zcf @Zkd hG ?_ (s:=Zt3 G c3.ent a);intro g6;exact hK1 _ g6 trivial (Zg zp zp)
 intro g6 _;simp only [rnV]
 by_cases hx0:a.x.l=[]
 ·have q:((a.x.l.length:Int)==0)=true:=by rw [hx0];rfl
  refine Zf q ?_;rw [worthU,if_pos hx0];rfl
 have q:((a.x.l.length:Int)==0)=false:=by
  rw [beq_eq_false_iff_ne];exact fun h=>hx0 (List.length_eq_zero_iff.1 (by omega))
 have hw:worthU arg vs.l a.x.l=(evL (vs.l++[(Z3k,arg)]) a.x.l).need 1:=if_neg hx0;rw [hw];refine AW.weak (Z8 (fun o=>o==6) (l:=[(0,rnV c c1 c2 vs es d arg),(6,.view .new (.agg [Za c3.ent.bk 6 Z3 a.x]))]) (m:=[]) ?_ trivial) ?_
 ·simp -implicitDefEqProofs only[go_sem,seval,↓reduceIte]
  exact ⟨Zd _,Fz.ptr (v := .agg [Za c3.ent.bk 6 Z3 a.x]) (c := .new) (fz:=0) rfl zp⟩
 simp only [rnV];refine Z1f q ?_;refine Z0 ?_
 have hN:∀ env:Sl (List UInt8 × Int),env.l=vs.l++[(Z3k,arg)]→∀ cc cd,Spec Tryz.prog G 22 [.agg [Za cc 6 Z3 a.x],Za cd 2 Zz env] Zk (fun v _=>v = .tuple [.int .i64 ((evL (vs.l++[(Z3k,arg)]) a.x.l).need 1).nm,.int .i64 ((evL (vs.l++[(Z3k,arg)]) a.x.l).need 1).er]):=fun env he cc cd=>by
  rw [← he];exact Zsv G hE cc cd a.x env (hev env he)
 generalize (evL (vs.l++[(Z3k,arg)]) a.x.l).need 1=x at hN
 have hcells:List.take (vs.l.length * 2) (flat (vs.l.map Zz))++[V.str [97,114,103],V.int .i64 arg]=flat ((vs.l++[(Z3k,arg)]).map Zz):=by
  rw [List.take_of_length_le (by rw [Zkb Zsc];exact Nat.le_refl _),List.map_append,Zuf];rfl
 refine Zob (fun (_:Unit)=>st [(4,.int .i64 x.nm),(5,.int .i64 x.er)] []) (fun _=>True) (fun K5 hK5=>?_) ?_;rotate_left
 ·intro _ _
  exact Zr
 refine Z20 12 6 [0,1,2,3,4,5,7,8,9,10,11,12,6,13,14,15,16,17,18] [0,1,2,3,4,5,7,8,9,10,11,6,12,13,14,15,16,17,18] [] ⟨fun i=>if i=14 then .tuple [.int .i64 x.nm,.int .i64 x.er] else .top,fun i=>if i=0 then .lend else if i=5 then .lend else if i=10 then .lend else if i=6 then .any else if i=14 then .lend else .pure⟩ (by kernel_rfl) hG (by kernel_rfl) (by kernel_rfl) (by kernel_rfl) (by kernel_rfl) (by kernel_rfl) (by kernel_rfl) (by kernel_rfl) (by kernel_rfl) ?_ ?_
 ·simp -implicitDefEqProofs only[go_sem,seval,↓reduceIte,List.getElem?_cons_zero,List.getElem?_cons_succ]
  intro g25;refine CallA.inl [(5005,.dead)] (by kernel_rfl) ?_ ?_
  ·intro p hp
   rw [List.mem_singleton] at hp;subst hp;simp -implicitDefEqProofs only[go_sem,seval,↓reduceIte]
  refine (Z7h G c1 vs (by omega)).mono ?_;rintro _ H' (⟨rfl,rfl,q⟩ | ⟨g5,_,rfl,q⟩)
  ·simp only [List.map_cons,List.map_nil,q]
   simp -implicitDefEqProofs only[go_sem,seval,↓reduceIte,Zha,List.getElem?_cons_zero,List.getElem?_cons_succ];refine Znc (f:=Zz) (l:=[]) (l2:=[(Z3k,arg)]) (g:=0) Zsc rfl rfl rfl zp (Zta (by omega) (by show 0+1<10000000000;omega)) fun g2=>?_;simp -implicitDefEqProofs only[go_sem,seval,↓reduceIte,List.getElem?_cons_zero,List.getElem?_cons_succ];refine ⟨Zpr [.agg [Za c3.ent.bk.ent 6 Z3 a.x],Za .old 2 Zz (Zba [(Z3k,arg)])] (by kernel_rfl) ⟨Zgk (imXs _ _) zp,Zil zp Zsc biIm (fun _=>rfl),trivial⟩ ((hN (Zba [(Z3k,arg)]) (Zcb _) _ _).mono fun v _ hv=>by rw [hv];exact ⟨nmFl x,rfl⟩),?_⟩;exact hK5 _ () trivial (Zg zp zp)
  ·simp only [List.map_cons,List.map_nil,q]
   simp -implicitDefEqProofs only[go_sem,seval,↓reduceIte,Zha,List.getElem?_cons_zero,List.getElem?_cons_succ];refine ⟨Zta (by omega) (by omega),by rw [Zkb Zsc];exact Nat.le_refl _,Nat.zero_le _,fun g2=>?_⟩;rw [hcells];refine ⟨Zpr [.agg [Za c3.ent.bk.ent 6 Z3 a.x],Za .old 2 Zz (.mk false (vs.l++[(Z3k,arg)]))] (by kernel_rfl) ⟨Zgk (imXs _ _) zp,mslB zp (by rw [List.length_append];rfl),trivial⟩ ((hN (.mk false (vs.l++[(Z3k,arg)])) rfl _ _).mono fun v _ hv=>by rw [hv];exact ⟨nmFl x,rfl⟩),?_⟩;exact hK5 _ () trivial (Zg zp zp)
 ·simp -implicitDefEqProofs only[go_sem,seval,↓reduceIte,List.getElem?_cons_zero,List.getElem?_cons_succ]
  refine CallA.inl [(5005,.dead)] (by kernel_rfl) ?_ ?_
  ·intro p hp
   rw [List.mem_singleton] at hp;subst hp;simp -implicitDefEqProofs only[go_sem,seval,↓reduceIte]
  refine (Z7h G c1 vs (by omega)).mono ?_;rintro _ H' (⟨rfl,rfl,q⟩ | ⟨g5,_,rfl,q⟩)
  ·simp only [List.map_cons,List.map_nil,q]
   simp -implicitDefEqProofs only[go_sem,seval,↓reduceIte,Zha,List.getElem?_cons_zero,List.getElem?_cons_succ];intro g25;refine Znc (f:=Zz) (l:=[]) (l2:=[(Z3k,arg)]) (g:=0) Zsc rfl rfl rfl zp (Zta (by omega) (by show 0+1<10000000000;omega)) fun g2=>?_;simp -implicitDefEqProofs only[go_sem,seval,↓reduceIte,List.getElem?_cons_zero,List.getElem?_cons_succ];refine ⟨Zpr [.agg [Za c3.ent.bk.ent 6 Z3 a.x],Za .old 2 Zz (Zba [(Z3k,arg)])] (by kernel_rfl) ⟨Zgk (imXs _ _) zp,Zil zp Zsc biIm (fun _=>rfl),trivial⟩ ((hN (Zba [(Z3k,arg)]) (Zcb _) _ _).mono fun v _ hv=>by rw [hv];exact ⟨nmFl x,rfl⟩),?_⟩;exact hK5 _ () trivial (Zg zp zp)
  ·simp only [List.map_cons,List.map_nil,q]
   simp -implicitDefEqProofs only[go_sem,seval,↓reduceIte,Zha,List.getElem?_cons_zero,List.getElem?_cons_succ];intro g25;refine ⟨Zta (by omega) (by omega),by rw [Zkb Zsc];exact Nat.le_refl _,Nat.zero_le _,fun g2=>?_⟩;rw [hcells];refine ⟨Zpr [.agg [Za c3.ent.bk.ent 6 Z3 a.x],Za .old 2 Zz (.mk false (vs.l++[(Z3k,arg)]))] (by kernel_rfl) ⟨Zgk (imXs _ _) zp,mslB zp (by rw [List.length_append];rfl),trivial⟩ ((hN (.mk false (vs.l++[(Z3k,arg)])) rfl _ _).mono fun v _ hv=>by rw [hv];exact ⟨nmFl x,rfl⟩),?_⟩;exact hK5 _ () trivial (Zg zp zp)
end Go.Hs
end

section
namespace Go.Hs
open Go.Proofs
set_option maxRecDepth 10000
set_option maxHeartbeats 1000000
def svU (nq:Bool) (l:List (List UInt8 × Int)):Sl (List UInt8 × Int):=if nq then .nil else .mk false l
def vSl (gv:Nat) (nq:Bool) (l:List (List UInt8 × Int)):V:=if nq then .nils else .msl 5005 gv 0 l.length 2
def vOb (gv:Nat) (nq:Bool) (l:List (List UInt8 × Int)):AObj:=if nq then .dead else .cells .new gv 0 (flat (l.map Zz))
theorem Z2y {nq:Bool} {l:List (List UInt8 × Int)} (h:nq=true→l=[]):(svU nq l).l=l:=by
 cases nq with
 | true=>rw [h rfl];rfl
 | false=>rfl
theorem Rd.vU {H:Heap} {gv:Nat} {nq:Bool} {l:List (List UInt8 × Int)} (h:H 5005=vOb gv nq l):Rd H (vSl gv nq l) (Za .old 2 Zz (svU nq l)):=by
 cases nq with
 | true=>exact Zgk .nils rfl
 | false =>
  exact mslB h rfl
def rnC (gv ge:Nat) (nq:Bool) (r:RU) (arg:Int):List V:=[vSl gv nq r.vars,grown 7064 ge 2 r.emits,.int .i64 r.done,.int .i64 arg]
def rnO (gr gv ge:Nat) (nq:Bool) (r:RU) (arg:Int):List (Nat × AObj):=[(21,.cells .new gr 0 (rnC gv ge nq r arg)),(5005,vOb gv nq r.vars),(7064,Z2b ge Zz r.emits)]
theorem Rd.rn {H:Heap} {gr gv ge:Nat} {nq:Bool} {r:RU} {arg:Int} (h1:H 21 = .cells .new gr 0 (rnC gv ge nq r arg)) (h2:H 5005=vOb gv nq r.vars) (h3:H 7064=Z2b ge Zz r.emits) :
  Rd H (.ptr 21 gr 0) (rnV .old .old .old (svU nq r.vars) (Zba r.emits) r.done arg) :=
 Rd.obj h1 ⟨Rd.vU h2,Zil h3 Zsc biIm (fun _=>rfl),Zgk (.int _ _) rfl,Zgk (.int _ _) rfl,trivial⟩
def rnK (gr gv:Nat) (nq:Bool) (arg:Int) (q:RU × Int):V→Heap→Prop:=fun v H=>∃ ge,v = .int .i64 q.2∧H 21 = .cells .new gr 0 (rnC gv ge nq q.1 arg)∧H 5005=vOb gv nq q.1.vars∧H 7064=Z2b ge Zz q.1.emits
theorem imAM (c:Col) (a:AM):∀ y∈(Zia c a).cells,y.Im:=fun y hy=>by
 simp only [Zvb,V.cells,List.mem_cons,List.not_mem_nil,or_false] at hy
 rcases hy with rfl | rfl | rfl
 ·exact .int _ _
 ·exact .str _
 ·exact Zry (fun n z hz=>by
   simp only [Zt,V.cells,List.mem_cons,List.not_mem_nil,or_false] at hz
   rcases hz with rfl | rfl | rfl | rfl | rfl | rfl<;>first | exact .int _ _ | exact .str _) _
@[go_sem] theorem assA (v:V):Zoe Tryz.prog (.iface 182 v) 182 true=some (.tuple [v,.bool true]):=rfl
@[go_sem] theorem assE (v:V):Zoe Tryz.prog (.iface 187 v) 187 true=some (.tuple [v,.bool true]):=rfl
@[go_sem] theorem assN (v:V):Zoe Tryz.prog (.iface 187 v) 182 true=some (.tuple [.agg [.int .u8 0,.str [],.nils],.bool false]):=rfl
theorem Zu3 (G:Nat→V) (hE:GExp G) (gr gv ge:Nat) (nq:Bool) (r:RU) (arg:Int) (c:Col) (a:AM) (hn:nq=true→r.vars=[]) (hx:a.x.l.length<1000000) (hev:∀ env:Sl (List UInt8 × Int),env.l=r.vars++[(Z3k,arg)]→EvIn a.x env) (hvl:r.vars.length<100000) (hd:r.done<1000000) (hel:r.emits.length<1000000) :
  InSp Tryz.prog G 55 [.ptr 21 gr 0,stI c a] (Zha Zk (rnO gr gv ge nq r arg)) (rnK gr gv nq arg (Zzb (worthU arg) a.v r)):=by
 have hG:=hE.ok;refine Z1d 7000 77 [.tmp 4] Tryz.func55 rfl rfl rfl rfl fun X=>?_
 have hP:Zzb (worthU arg) a.v r=if a.kind=1∧Zbg r.vars a.name=none then (r,90) else if (worthU arg r.vars a.x.l).er≠0 then (r,(worthU arg r.vars a.x.l).er) else if a.kind=1 then (⟨r.vars.set ((Zbg r.vars a.name).getD 0) (a.name,(worthU arg r.vars a.x.l).nm),r.emits,r.done+1⟩,0)
  else (⟨r.vars,r.emits++[(a.name,(worthU arg r.vars a.x.l).nm)],r.done+1⟩,0):=rfl
 generalize Zzb (worthU arg) a.v r=res at hP ⊢;have hw:=fun c=>Zvy G hE .old .old .old c (svU nq r.vars) (Zba r.emits) r.done arg a hx (by rw [Z2y hn];exact hev) (by rw [Z2y hn];exact hvl);rw [Z2y hn] at hw;generalize worthU arg r.vars a.x.l=x at hP hw;have w1:IntKind.i64.wrap ((r.done:Int)+1)=(r.done:Int)+1:=w64 (by omega) (by omega);simp only [rnO,Zha]
 by_cases hk:a.kind=1
 ·rw [Zl5 hk]
  simp only [Zl5 hk] at hw;simp only [Zvb] at hw ⊢;simp only [rnC];refine Z ?_;intro g6;refine Z ?_;refine Zqe hG [Za .old 2 Zz (svU nq r.vars),.func (.func 83) [] [.view .old (Zia c.ent a)]] (by kernel_rfl) ⟨Rd.vU zp,Zmr ⟨Rd.ptr (v:=Zia c a) (fz:=0) (c := .new) zp (imAM c a) (Zkd _ _ _),trivial⟩,trivial⟩ ?_;refine (Zb3 G hG .old .old c.ent (svU nq r.vars) (by rw [Z2y hn];omega) a).mono ?_;rintro _ _ rfl;rw [Z2y hn,Z9z];refine ⟨.int _ _,?_⟩
  cases hp:Zbg r.vars a.name with
  | none =>
   rw [if_pos ⟨hk,hp⟩] at hP;subst hP;refine Zs ?_;refine Z ?_;exact ⟨ge,rfl,zp,zp,zp⟩
  | some i =>
   obtain ⟨p,hpg,hpn⟩:=Z5l hp;have hil:i<r.vars.length:=(List.getElem?_eq_some_iff.1 hpg).1
   have hv:r.vars≠[]:=fun e=>by rw [e] at hil;cases hil
   have hnq:nq=false:=by
    cases nq with
    | false=>rfl
    | true=>exact absurd (hn rfl) hv
   rw [if_neg (fun h=>by rw [hp] at h;exact absurd h.2 (Option.some_ne_none _)),hp] at hP;have q2:decide ((i:Int)<0)=false:=zF;refine Zs ?_;refine Zf q2 ?_;refine Zqe hG [rnV .old .old .old (svU nq r.vars) (Zba r.emits) r.done arg,.iface 182 (Zia c.ent a)] (by kernel_rfl) ⟨Rd.rn zp zp zp,Zgk (v := .iface 182 (Zia c a)) (.iface _ _ (.agg _ (imAM c a))) (by rw [V.recol,Zkd]),trivial⟩ ?_;refine (hw c.ent).mono ?_;rintro _ _ rfl;refine ⟨nmFl x,?_⟩;simp only [Zr3];refine Zs ?_
   by_cases her:x.er=0
   rotate_left
   ·have q6:(x.er != 0)=true:=by simpa using her
    rw [if_pos her] at hP;subst hP;refine Zf q6 ?_;exact ⟨ge,rfl,zp,zp,zp⟩
   have q6:(x.er != 0)=false:=by simp [her]
   rw [if_neg (fun h=>h her),if_pos hk] at hP;subst hP hnq;have e1:vSl gv false r.vars = .msl 5005 gv 0 r.vars.length 2:=rfl;have e2:vOb gv false r.vars = .cells .new gv 0 (flat (r.vars.map Zz)):=rfl
   have hfl:i * 2+1+1≤(flat (r.vars.map Zz)).length:=by rw [Zkb Zsc];omega
   have hst:=Znx (n:=x.nm) hpg;rw [hpn] at hst;have hst':(flat (r.vars.map Zz)).set (i * 2+1) (.int .i64 x.nm)=flat ((r.vars.set i (a.name,x.nm)).map Zz):=hst;rw [e1,e2];refine Zf q6 ?_;intro g10;refine Zf (zi hil (zi hfl (zi @Int.natCast_nonneg (zi @Int.ofNat_lt w1)))) ?_;refine ⟨ge,rfl,?_,?_,zp⟩
   ·simp only [rnC,vSl,Option.getD_some,List.length_set]
    exact zp
   ·simp only [vOb,Option.getD_some]
    rw [← hst'];exact zp
 ·rw [Zk5 hk]
  simp only [Zk5 hk] at hw;simp only [Zvb] at hw ⊢;simp only [rnC];refine Z ?_;intro g6;refine Z ?_;rw [if_neg (fun h=>hk h.1)] at hP;refine Zqe hG [rnV .old .old .old (svU nq r.vars) (Zba r.emits) r.done arg,.iface 187 (Zia c.ent a)] (by kernel_rfl) ⟨Rd.rn zp zp zp,Zgk (v := .iface 187 (Zia c a)) (.iface _ _ (.agg _ (imAM c a))) (by rw [V.recol,Zkd]),trivial⟩ ?_;refine (hw c.ent).mono ?_;rintro _ _ rfl;refine ⟨nmFl x,?_⟩;simp only [Zr3];refine Zs ?_
  by_cases her:x.er=0
  rotate_left
  ·have q6:(x.er != 0)=true:=by simpa using her
   rw [if_pos her] at hP;subst hP;refine Zf q6 ?_;exact ⟨ge,rfl,zp,zp,zp⟩
  have q6:(x.er != 0)=false:=by simp [her]
  rw [if_neg (fun h=>h her),if_neg hk] at hP;subst hP;refine Zf q6 ?_;intro g11;refine Z ?_;refine ZT hG ?_;intro g63;refine Znc (f:=Zz) (l:=r.emits) (l2:=[(a.name,x.nm)]) (g:=ge) Zsc rfl rfl rfl zp (Zta (by omega) (by simp;omega)) fun g2=>?_;refine Zs ?_;refine Zf w1 ?_;exact ⟨g2,rfl,zp,zp,zp⟩
end Go.Hs
end

section
namespace Go.Hs
open Go.Proofs
set_option maxRecDepth 10000
set_option maxHeartbeats 1000000
@[go_sem] theorem recol_stI (f:Col→Col) (c:Col) (a:AM):(stI c a).recol f=stI (f c) a:=by
 unfold stI
 split<;>rw [V.recol,Zkd]
@[go_sem] theorem noMp_grownO {α : Type} (g:Nat) (f : α → V) (l:List α):(Z2b g f l).noMp=Z2b g f l:=by cases l<;>rfl
@[go_sem] theorem noMp_vOb (g:Nat) (nq:Bool) (l:List (List UInt8 × Int)):(vOb g nq l).noMp=vOb g nq l:=by cases nq<;>rfl
theorem Fz.vU {F:Nat→Bool} {H:Heap} {g:Nat} {nq:Bool} {l:List (List UInt8 × Int)} (hF:F 5005=true) (hH:H 5005=vOb g nq l):Fz F H (vSl g nq l) (Za .new 2 Zz (svU nq l)):=by
 cases nq with
 | true=>exact Zd _
 | false=>exact Zfi (f:=Zz) (l:=l) (m:=2) (g:=g) (fz:=0) (c := .new) hF hH Zsc
def Z2u {α : Type}:Sl α → Bool
 | .nil=>true
 | .mk _ _=>false
theorem Z27 {α : Type} {s:Sl α} (h:Z2u s=true):s.l=[]:=by
 cases s with
 | nil=>rfl
 | mk b l=>cases h
def svR (b:List ASt) (vs:Sl (List UInt8 × Int)) (l:List (List UInt8 × Int)):Sl (List UInt8 × Int):=if Z3a b≠0 then .nil else svU (Z2u vs) l
def ansR (sv:Sl (List UInt8 × Int)) (q:RU × Int):V := .tuple [.agg [Za .new 2 Zz sv,Za .new 2 Zz (Zba q.1.emits),.int .i64 q.1.done],.int .i64 q.2]
theorem Zox (G:Nat→V) (hE:GExp G) (c c1 c2:Col) (s:Sl AM) (vs:Sl (List UInt8 × Int)) (arg:Int) (h:RunIn s vs.l arg) :
  Spec Tryz.prog G 32 [.agg [Za c 3 (Zia c1) s],Za c2 2 Zz vs,.int .i64 arg] Zk (fun v _=>v=ansR (svR (s.l.map AM.v) vs (runB arg (s.l.map AM.v) vs.l).1.vars) (runB arg (s.l.map AM.v) vs.l)):=by
 have hG:=hE.ok;refine Zo 0 45 [.cell 6 74,.tmp 7] Tryz.func32 fun X=>?_;have hck:=Zzm G hE c.ent c1.ent s h.hs h.hb
 have hP:runB arg (s.l.map AM.v) vs.l=if Z3a (s.l.map AM.v)≠0 then (⟨[],[],0⟩,2) else Z3f (worthU arg) (s.l.map AM.v) ⟨vs.l,[],0⟩:=rfl
 generalize runB arg (s.l.map AM.v) vs.l=res at hP ⊢
 have hsv:svR (s.l.map AM.v) vs res.1.vars=if Z3a (s.l.map AM.v)≠0 then .nil else svU (Z2u vs) res.1.vars:=rfl
 generalize svR (s.l.map AM.v) vs res.1.vars=sv at hsv ⊢;have hok := @Zih (s.l.map AM.v);have h02:=Zi0 (s.l.map AM.v);generalize Z3a (s.l.map AM.v)=ck at hP hck hok h02 hsv;refine Z ?_;intro g3 g6;refine Z ?_;refine Zc hG ?_ (s:=hck)
 rcases h02 with rfl | rfl
 rotate_left
 ·refine Z ?_
  rw [hP,hsv];rfl
 obtain ⟨hb5,hall⟩:=hok rfl;rw [if_neg (by decide)] at hP hsv;have hvl:=h.hv;refine Z0 ?_;refine Zob (fun (x:Nat × Nat)=>st [(3,.ptr 3 g3 0),(6,.ptr 6 g6 0),(8,.ptr 21 x.1 0)] [(3,.cells .new g3 0 [Za c 3 (Zia c1) s]),(6,.cells .new g6 0 [.nils,.nils,.int .i64 0]),(21,.cells .new x.1 0 (rnC x.2 0 (Z2u vs) ⟨vs.l,[],0⟩ arg)),(5005,vOb x.2 (Z2u vs) vs.l),(7064,.dead)]) (fun _=>True) (fun K1 hK1=>?_) ?_
 ·refine Z ?_
  refine CallA.inl [(5005,.dead)] (by kernel_rfl) ?_ ?_
  ·intro p hp
   rw [List.mem_singleton] at hp;subst hp;exact zp
  refine (Z7h G c2 vs (by omega)).mono ?_;rintro _ H' (⟨rfl,rfl,q⟩ | ⟨g5,hne,rfl,q⟩)
  ·simp only [List.map_cons,List.map_nil,q]
   simp -implicitDefEqProofs only[go_sem,seval,↓reduceIte,Zha];intro g21;refine Zs ?_;exact hK1 _ (g21,0) trivial (Zg zp (by simp -implicitDefEqProofs only[go_sem,seval,↓reduceIte];exact ⟨rfl,rfl⟩))
  ·have hnq:Z2u vs=false:=by
    cases vs with
    | nil=>exact absurd rfl hne
    | mk b l=>rfl
   simp only [List.map_cons,List.map_nil,q];simp -implicitDefEqProofs only[go_sem,seval,↓reduceIte,Zha];intro g21;refine Zs ?_;exact hK1 _ (g21,g5) trivial (Zg zp (by simp -implicitDefEqProofs only[go_sem,seval,↓reduceIte];rw [hnq];exact ⟨rfl,rfl⟩))
 rintro ⟨g21,gv⟩ _;have hbl:(s.l.map AM.v).length=s.l.length:=List.length_map _;refine Z ?_
 refine Zpb s.l.length (fun k (x:RU × Nat)=>st [(3,.ptr 3 g3 0),(6,.ptr 6 g6 0),(8,.ptr 21 g21 0),(23,Za c 3 (Zia c1) s),(24,.int .i64 s.l.length),(25,.int .i64 k)]
   [(3,.cells .new g3 0 [Za c 3 (Zia c1) s]),(6,.cells .new g6 0 [.nils,.nils,.int .i64 0]),(21,.cells .new g21 0 (rnC gv x.2 (Z2u vs) x.1 arg)),(5005,vOb gv (Z2u vs) x.1.vars),(7064,Z2b x.2 Zz x.1.emits)])
  (fun k x=>Z3f (worthU arg) ((s.l.map AM.v).drop k) x.1=res∧RuOk vs.l.length k x.1) 0 (⟨vs.l,[],0⟩,0) (Nat.zero_le _) ⟨hP.symm,rfl,h.hf,Nat.le_refl _,Nat.le_refl _⟩
  (Zg zp zp) ?_
 rintro k ⟨r,ge⟩ hk ⟨hR,hO⟩ L3 hL3;simp only at hR hO;have hvr:=hO.len;have hnr:Z2u vs=true→r.vars=[]:=fun q=>List.length_eq_zero_iff.1 (by rw [hvr,Z27 q];rfl)
 by_cases hk1:k<s.l.length
 rotate_left
 ·have hke:k=s.l.length:=by omega
  have hlt:decide ((k:Int)<(s.l.length:Int))=false:=zF;rw [hke,← hbl,Zq5] at hR;refine AW.weak (Z8 (fun o=>o==5005 || o==7064) (l:=[(6,.ptr 6 g6 0),(8,.ptr 21 g21 0),(24,.int .i64 s.l.length),(25,.int .i64 k)]) (m:=[(6,.cells .new g6 0 [.nils,.nils,.int .i64 0]),(21,.cells .new g21 0 [Za .new 2 Zz (svU (Z2u vs) r.vars),Za .new 2 Zz (Zba r.emits),.int .i64 r.done,.int .i64 arg])]) ?_ ?_) ?_
  ·simp -implicitDefEqProofs only[go_sem,seval,↓reduceIte]
   exact ⟨Zd _,Zd _,Zd _,Zd _⟩
  ·simp only [Zl,Zp,and_true]
   exact ⟨FzO.keep rfl zp,Zyu (c := .new) (fz:=0) (cs:=rnC gv ge (Z2u vs) r arg) rfl zp ⟨Fz.vU rfl zp,Z0e rfl zp Zsc,Zd _,Zd _,trivial⟩⟩
  refine Zf hlt ?_;rw [hsv,← hR];rfl
 have hlt:decide ((k:Int)<(s.l.length:Int))=true:=zT;have hg:=List.getElem?_eq_getElem hk1;have hm:s.l[k]∈s.l:=List.getElem_mem hk1;have hbk:=h.hb _ hm
 have hgv:(s.l.map AM.v)[k]? = some (s.l[k]).v:=by rw [List.getElem?_map,hg];rfl
 have hav:=hall (s.l[k]).v (List.mem_map_of_mem hm);have hEv:=fun env he=>h.ev hm hvr hO.fit env he;have hnn:=h.hn _ hm;rw [Z11 hgv] at hR;generalize s.l[k]=a at hg hm hbk hgv hav hEv hnn hR;have hfine:(worthU arg r.vars a.x.l).fine:=Zlf hav.2 hnn hO.fit h.ha;have hok2:=Z7k (s:=a.v) hO hfine;have hdn:=hO.done;have hem:=hO.em;have hds:=fun c=>Zu3 G hE g21 gv ge (Z2u vs) r arg c a hnr hbk.l hEv (by omega) (by omega) (by omega);generalize Zzb (worthU arg) a.v r=q at hR hok2 hds;refine Zf (zi hlt (zi hg @Zvb)) ?_;intro g10;refine Z ?_;refine Zc hG ?_ (s:=Zh2 G c1.ent a);refine CallA.inl (rnO g21 gv ge (Z2u vs) r arg) (by kernel_rfl) ?_ ?_
 ·intro p hp
  simp only [rnO,List.mem_cons,List.not_mem_nil,or_false] at hp
  rcases hp with rfl | rfl | rfl<;>exact zp
 refine (hds _).mono ?_;rintro _ H' ⟨ge',rfl,q21,q5,q7⟩;simp only [rnO,List.map_cons,List.map_nil,q21,q5,q7];simp -implicitDefEqProofs only[go_sem,seval,↓reduceIte,Zha]
 by_cases her:q.2=0
 ·have q6:(q.2 != 0)=false:=by simp [her]
  rw [if_neg (fun h=>h her)] at hR;have w2:IntKind.i64.wrap ((k:Int)+1)=(k:Int)+1:=w64 (by omega) (by omega);refine Zf (zi q6 w2) ?_;exact hL3 _ ⟨hk1,(q.1,ge'),⟨hR,hok2⟩,Zg zp zp⟩
 ·have q6:(q.2 != 0)=true:=by simpa using her
  rw [if_pos her] at hR;refine AW.weak (Z8 (fun o=>o==5005 || o==7064) (l:=[(6,.ptr 6 g6 0),(8,.ptr 21 g21 0),(11,.int .i64 q.2)]) (m:=[(6,.cells .new g6 0 [.nils,.nils,.int .i64 0]),(21,.cells .new g21 0 [Za .new 2 Zz (svU (Z2u vs) q.1.vars),Za .new 2 Zz (Zba q.1.emits),.int .i64 q.1.done,.int .i64 arg])]) ?_ ?_) ?_
  ·simp -implicitDefEqProofs only[go_sem,seval,↓reduceIte]
   exact ⟨Zd _,Zd _,Zd _⟩
  ·simp only [Zl,Zp,and_true]
   exact ⟨FzO.keep rfl zp,Zyu (c := .new) (fz:=0) (cs:=rnC gv ge' (Z2u vs) q.1 arg) rfl zp ⟨Fz.vU rfl zp,Z0e rfl zp Zsc,Zd _,Zd _,trivial⟩⟩
  refine Zf q6 ?_;rw [hsv,← hR];rfl
end Go.Hs
end

section
namespace Go.Hs
open Go.Proofs
set_option maxRecDepth 10000
structure CU where
 i:Nat
 e:Int
def cuO (sl:Sl Tk) (g:Nat) (st:V) (r:CU):AObj := .cells .any g 0 [Za .any 3 Z0b sl,.int .i64 r.i,.int .i64 r.e,st]
theorem Ztg (sl:Sl Tk) (g:Nat) (st:V) (r:CU):cuO sl g st r = .cells .any g 0 [Za .any 3 Z0b sl,.int .i64 r.i,.int .i64 r.e,st]:=rfl
def CuS (G:Nat→V) (f:FuncId) (args:List V) (sl:Sl Tk) (g:Nat) (r:CU) (v:V) (r':CU):Prop :=
 ∀ st:V,(∀ F:Col→Col,st.recol F=st)→Spec Tryz.prog G f (.ptr 21 g 0::args) (Zha Zk [(21,cuO sl g st r)]) (fun v0 H'=>v0=v∧H' 21=cuO sl g st r')
theorem CuS.call {G:Nat→V} (hG:GOk G) {f:FuncId} {args args':List V} {sl:Sl Tk} {g:Nat} {r r':CU} {v st:V} (h:CuS G f args' sl g r v r') {H:Heap} {K:V→Heap→Prop}
  (hst:∀ F:Col→Col,st.recol F=st) (hen:Z2 Tryz.prog f=true) (hargs:args.map (V.recol Col.ent)=args') {v':V} (hv:v.recol Col.bk=v')
  (h8:H 21=cuO sl g st r) (hk:K v' (Zha H [(21,cuO sl g st r')])) :
  CallA Tryz.prog G f (.ptr 21 g 0::args) H K:=by
 have e8:∀ (F:Col→Col) r,F .any = .any→(cuO sl g st r).recol F=cuO sl g st r:=by
  intro F r hF;simp only [Ztg,recol_cells,List.map_cons,List.map_nil,Zzc,Zce,hF,hst]
 refine Z1o hG [(21,cuO sl g st r)] hen ?_ ?_
 ·intro p hp
  rw [List.mem_singleton] at hp;subst hp;rw [h8,e8 _ _ rfl]
 ·have ha:(V.ptr 21 g 0::args).map (V.recol Col.ent) = .ptr 21 g 0::args':=by rw [List.map_cons,Z2l,hargs]
  rw [ha];refine (h st hst).mono ?_;rintro _ H' ⟨rfl,q8⟩;simp only [List.map_cons,List.map_nil,q8,e8 _ _ Z93,hv];exact hk
theorem Z9h (G:Nat→V) (hG:GOk G) (sl:Sl Tk) (g:Nat) (r:CU) (w:List UInt8):CuS G 90 [.str w] sl g r (.bool (decide (r.i<sl.l.length) && Zib sl.l r.i==w)) r:=by
 intro st hst;refine Zo 1000 30 [.tmp 4] Tryz.func90 fun X=>?_;simp only [Zha,Ztg];refine Z1 ?_
 by_cases hi:r.i<sl.l.length
 ·have h1:decide ((r.i:Int)<sl.l.length)=true:=zT
  have hg:=List.getElem?_eq_getElem hi;generalize sl.l[r.i]=t at hg;rw [Z4f hg,decide_eq_true hi,Bool.true_and];refine ZTf (zi h1 (zi hg @Zsd)) hG ?_;refine Z ?_;exact ⟨rfl,by simp -implicitDefEqProofs only[go_sem,seval,↓reduceIte]⟩
 ·have h1:decide ((r.i:Int)<sl.l.length)=false:=zF
  rw [decide_eq_false hi,Bool.false_and];refine ZTf h1 hG ?_;refine Z ?_;exact ⟨rfl,by simp -implicitDefEqProofs only[go_sem,seval,↓reduceIte]⟩
theorem Zj0 (G:Nat→V) (hG:GOk G) (sl:Sl Tk) (g:Nat) (r:CU) (hi:r.i≤sl.l.length):CuS G 153 [] sl g r (Za .any 3 Z0b (sl.sub r.i sl.l.length)) r:=by
 intro st hst;refine Zo 1000 12 [.tmp 2] Tryz.func153 fun X=>?_;simp only [Zha,Ztg];refine Z1 ?_;have hll:sl.l.length≤sl.l.length:=Nat.le_refl _
 refine Z6 <| Zv ⟨fun _ => .top,fun _ => .pure⟩ (by kernel_rfl) hG (by kernel_rfl) (by kernel_rfl) ?_
 simp -implicitDefEqProofs only[go_sem,seval,↓reduceIte,hi,hll,and_self];refine Z ?_;exact ⟨rfl,by simp -implicitDefEqProofs only[go_sem,seval,↓reduceIte]⟩
theorem Zuo (G:Nat→V) (hG:GOk G) (sl:Sl Tk) (hsl:sl.l.length<1000000) (g:Nat) (r:CU) (hi:r.i≤sl.l.length):CuS G 126 [] sl g r (.tuple [.str (if Zzf sl.l r.i=true then Zib sl.l r.i else []),.bool (Zzf sl.l r.i)])
  (if Zzf sl.l r.i=true then ⟨r.i+1,r.e⟩ else ⟨r.i,110⟩):=by
 intro st hst;refine Zo 1000 50 [.tmp 2,.tmp 3] Tryz.func126 fun X=>?_;simp only [Zha,Ztg];refine Z1 ?_;refine Z6 ?_
 by_cases hil:r.i=sl.l.length
 ·have h1:((r.i:Int)==sl.l.length)=true:=by rw [beq_iff_eq];omega
  refine ZTf h1 hG ?_;refine Z ?_;rw [Zeh (by omega)];exact ⟨rfl,by simp -implicitDefEqProofs only[go_sem,seval,↓reduceIte];try rfl⟩
 have h1:((r.i:Int)==sl.l.length)=false:=by rw [beq_eq_false_iff_ne];omega
 have hilt:r.i<sl.l.length:=by omega
 have hg:=List.getElem?_eq_getElem hilt;generalize sl.l[r.i]=t at hg
 cases hk:(t.kind==2) with
 | false =>
  refine Z6 <| Zv ⟨fun _ => .top,fun _ => .pure⟩ (by kernel_rfl) hG (by kernel_rfl) (by kernel_rfl) ?_
  simp -implicitDefEqProofs only[go_sem,seval,↓reduceIte,h1,hg,Zsd,bne,hk];refine Z ?_;rw [Zdh hg,hk];exact ⟨rfl,by simp -implicitDefEqProofs only[go_sem,seval,↓reduceIte];try rfl⟩
 | true =>
  refine Z6 <| Zv ⟨fun _ => .top,fun _ => .pure⟩ (by kernel_rfl) hG (by kernel_rfl) (by kernel_rfl) ?_
  simp -implicitDefEqProofs only[go_sem,seval,↓reduceIte,h1,hg,Zsd,bne,hk];refine Z0 ?_
  have hw:IntKind.i64.wrap ((r.i:Int)+1)=((r.i+1:Nat):Int):=by rw [w64 (by omega) (by omega)];omega
  have hw2:IntKind.i64.wrap (((r.i+1:Nat):Int)-1)=(r.i:Int):=by rw [w64 (by omega) (by omega)];omega
  refine Z1f hw ?_;refine ZTf (zi hw2 (zi hg @Zsd)) hG ?_;refine Z ?_;rw [Zdh hg,hk,Z4f hg];exact ⟨rfl,by simp -implicitDefEqProofs only[go_sem,seval,↓reduceIte];try rfl⟩
theorem Z6d (G:Nat→V) (hG:GOk G) (sl:Sl Tk) (hsl:sl.l.length<1000000) (g:Nat) (r:CU) (hi:r.i≤sl.l.length) (c:Col) (ws:List (List UInt8)) (hws:ws.length<1000) (hwn:∀ w∈ws,w≠[]) (b:Bool) :
  CuS G 127 [Za c 1 V.str (.mk b ws)] sl g r (.bool (Zjb sl.l ws r.i).1) ⟨(Zjb sl.l ws r.i).2,if (Zjb sl.l ws r.i).1=true then r.e else 110⟩:=by
 intro st hst;refine Zo 1000 28 [.tmp 4] Tryz.func127 fun X=>?_;generalize hP:Zjb sl.l ws r.i=res;simp only [Zha,Ztg];have hwl:(Sl.mk b ws).l=ws:=rfl;refine Z1 ?_;refine Z1f hwl ?_;refine AW.block ?_
 refine Zpb ws.length (fun m (_:Unit)=>Go.Hs.st [(0,.ptr 21 g 0),(7,Za c 1 V.str (.mk b ws)),(8,.int .i64 ws.length),(9,.int .i64 m)] [(21,cuO sl g st ⟨r.i+m,r.e⟩)])
  (fun m _=>res=Zjb sl.l (ws.drop m) (r.i+m)∧r.i+m≤sl.l.length) 0 () (Nat.zero_le _) ⟨hP.symm,hi⟩ (Zg zp zp) ?_
 rintro m _ hm ⟨hR,hmi⟩ L2 hL2;refine Z1 ?_;refine Z6 ?_;refine Zh rfl (fun h10=>?_) (fun h10=>?_);rotate_left
 ·have hm2:m=ws.length:=by have:=zN h10;omega
  rw [List.drop_eq_nil_of_le (by omega)] at hR;refine Z ?_;rw [hR];exact ⟨rfl,by simp -implicitDefEqProofs only[go_sem,seval,↓reduceIte];try rfl⟩
 have hm1:m<ws.length:=zL h10;have hgm:ws[m]? = some ws[m]:=List.getElem?_eq_getElem hm1;have hdr:ws.drop m=ws[m]::ws.drop (m+1):=List.drop_eq_getElem_cons hm1;have hwm:=hwn _ (List.getElem_mem hm1);generalize ws[m]=w2 at hgm hdr hwm;rw [hdr,Zjb] at hR;refine Z1f (zi hwl hgm) ?_;refine Z1 ?_;refine CuS.call hG (Z9h G hG sl g ⟨r.i+m,r.e⟩ w2) hst (by kernel_rfl) zm rfl zr ?_;simp -implicitDefEqProofs only[go_sem,seval,↓reduceIte,Zha]
 have hcond:(decide (r.i+m<sl.l.length) && Zib sl.l (r.i+m)==w2)=(Zib sl.l (r.i+m)==w2):=by
  by_cases h:r.i+m<sl.l.length
  ·rw [decide_eq_true h,Bool.true_and]
  ·rw [decide_eq_false h,Bool.false_and,Zpl (by omega)]
   symm
   rw [beq_eq_false_iff_ne];exact fun h=>hwm h.symm
 rw [hcond]
 by_cases hw4:Zib sl.l (r.i+m)=w2
 rotate_left
 ·rw [if_neg hw4] at hR
  have q2:(Zib sl.l (r.i+m)==w2)=false:=by simpa using hw4
  rw [q2];refine Zf @Ztg ?_;rw [hR];exact ⟨rfl,by simp -implicitDefEqProofs only[go_sem,seval,↓reduceIte];try rfl⟩
 have hlt:r.i+m<sl.l.length:=Zdd (by rw [hw4];exact hwm);rw [if_pos hw4] at hR
 have q2:(Zib sl.l (r.i+m)==w2)=true:=by simpa using hw4
 rw [q2];refine Z0 ?_
 have hw5:IntKind.i64.wrap (((r.i+m:Nat):Int)+1)=((r.i+(m+1):Nat):Int):=by rw [w64 (by omega) (by omega)];omega
 have hw6:IntKind.i64.wrap ((m:Int)+1)=((m+1:Nat):Int):=by rw [w64 (by omega) (by omega)];omega
 refine Z1f (zi @Ztg hw5) ?_;refine Z1f hw6 ?_;exact hL2 _ ⟨hm1,(),⟨hR,by omega⟩,Zg zp zp⟩
theorem Zvo (G:Nat→V) (hE:GExp G) (sl:Sl Tk) (hT:TkOk sl.l) (g:Nat) (r:CU) (hi:r.i≤sl.l.length) :
  CuS G 128 [] sl g r (.tuple [.agg [Z1k .new (Zxc (sl.l.drop r.i)).1],.bool ((Zxc (sl.l.drop r.i)).2.2==0)]) ⟨r.i+(Zxc (sl.l.drop r.i)).2.1.toNat,(Zxc (sl.l.drop r.i)).2.2⟩:=by
 have hG:=hE.ok;intro st hst;refine Zo 1000 29 [.cell 2 24,.tmp 3] Tryz.func128 fun X=>?_;have hTl:=hT.len
 have hsub:(sl.sub r.i sl.l.length).l=sl.l.drop r.i:=by rw [Zlr];exact List.take_of_length_le (by rw [List.length_drop];omega)
 have hfr:=fun c=>Zuy G hE c (sl.sub r.i sl.l.length) (by rw [hsub];exact ⟨by rw [List.length_drop];omega,fun t ht=>hT.text t (List.mem_of_mem_drop ht)⟩);have hbd:=Zgj (l:=sl.l.drop r.i);rw [hsub] at hfr;rw [List.length_drop] at hbd;generalize Zxc (sl.l.drop r.i)=p at hfr hbd;obtain ⟨xs,n,e⟩:=p;simp only at hbd
 have hw3:IntKind.i64.wrap ((r.i:Int)+n)=((r.i+n.toNat:Nat):Int):=by rw [w64 (by omega) (by omega)];omega
 simp only [Zha,Ztg];refine Z1 ?_;intro g2;refine Z1 ?_;refine CuS.call hG (Zj0 G hG sl g r hi) hst (by kernel_rfl) rfl rfl zr ?_;simp -implicitDefEqProofs only[go_sem,seval,↓reduceIte,Zha,Zzc];refine Znf @Zzc hG ?_ (s:=(hfr _));simp -implicitDefEqProofs only[go_sem,seval,↓reduceIte,encFr,Z1k,Zbb];intro g4;refine Zf (zi @Ztg hw3) ?_;exact ⟨rfl,by simp -implicitDefEqProofs only[go_sem,seval,↓reduceIte];try rfl⟩
end Go.Hs
end

section
namespace Go.Hs
open Go.Proofs
set_option maxRecDepth 10000
theorem Ztt (G:Nat→V) (hE:GExp G) (sl:Sl Tk) (hT:TkOk sl.l) (g:Nat) (i:Nat) (hi:i≤sl.l.length) :
  CuS G 89 [] sl g ⟨i,0⟩ (.tuple [Zkj .new (Z9d sl.l 1 [58,61] [[59]] i).1,.bool ((Z9d sl.l 1 [58,61] [[59]] i).2.2==0)]) ⟨(Z9d sl.l 1 [58,61] [[59]] i).2.1.toNat,(Z9d sl.l 1 [58,61] [[59]] i).2.2⟩:=by
 have hG:=hE.ok;have hTl:=hT.len;intro st hst
 have hP:Z9d sl.l 1 [58,61] [[59]] i=if Zzf sl.l i=false then (⟨1,[],[]⟩,(i:Int),110)
  else if Zib sl.l (i+1)≠[58,61] then (⟨1,Zib sl.l i,[]⟩,((i+1:Nat):Int),110)
  else if (1:Int)=2∧Zib sl.l (i+2)=[41] then Zlh sl.l ⟨1,Zib sl.l i,[]⟩ [[59]] (i+2)
  else Zjj sl.l 1 (Zib sl.l i) [[59]] (i+2):=rfl
 generalize Z9d sl.l 1 [58,61] [[59]] i=res at hP ⊢;refine Zo 1000 39 [.cell 2 92,.tmp 3] Tryz.func89 fun X=>?_;simp only [Zha,Ztg];refine Z1 ?_;intro g2;refine Z1 ?_;refine Z1 ?_;refine CuS.call hG (Zuo G hG sl (by omega) g ⟨i,0⟩ hi) hst (by kernel_rfl) rfl rfl zr ?_
 cases hn:Zzf sl.l i with
 | false =>
  rw [if_pos hn] at hP
  have q0:(false=true)=False:=by simp
  simp -implicitDefEqProofs only[go_sem,seval,↓reduceIte,Zha,q0,if_false];refine Z ?_;rw [hP];exact ⟨rfl,by simp -implicitDefEqProofs only[go_sem,seval,↓reduceIte];try rfl⟩
 | true =>
 rw [if_neg (by rw [hn];decide)] at hP
 have hil:i<sl.l.length:=by
  refine Classical.byContradiction fun h=>?_;rw [Zeh (by omega)] at hn;cases hn
 simp -implicitDefEqProofs only[go_sem,seval,↓reduceIte,Zha,if_true];refine Z1 ?_;intro g18;refine Zic (fun o=>o==1018) [.ptr 21 g 0,Za .new 1 V.str (.mk false [[58,61]])] [(21,cuO sl g st ⟨i+1,0⟩),(1002,.cells .new g2 0 [.int .u8 1,.str (Zib sl.l i),.nils])] ⟨Zd _,Zfi (f:=V.str) (l:=[[58,61]]) (m:=1) (g:=g18) (fz:=0) (c := .new) rfl zp (fun _=>rfl),trivial⟩ (by simp only [Zl,Zp,and_true];exact ⟨FzO.keep rfl zp,FzO.keep rfl zp⟩) ?_;refine CuS.call hG (Z6d G hG sl (by omega) g ⟨i+1,0⟩ hil .old [[58,61]] (by decide) (by decide) false) hst (by kernel_rfl) zm rfl zr ?_
 have htk:Zjb sl.l [[58,61]] (i+1)=if Zib sl.l (i+1)=[58,61] then (true,i+2) else (false,i+1):=rfl
 by_cases hw1:Zib sl.l (i+1)=[58,61]
 rotate_left
 ·rw [if_pos hw1] at hP
  rw [htk,if_neg hw1]
  have q0:(false=true)=False:=by simp
  simp -implicitDefEqProofs only[go_sem,seval,↓reduceIte,Zha,q0,if_false];refine Z ?_;rw [hP];exact ⟨rfl,by simp -implicitDefEqProofs only[go_sem,seval,↓reduceIte];try rfl⟩
 rw [if_neg (by simpa using hw1),if_neg (fun h=>absurd h.1 (by decide))] at hP;rw [htk,if_pos hw1];have hi2:i+2≤sl.l.length:=Zdd (by rw [hw1];decide);simp -implicitDefEqProofs only[go_sem,seval,↓reduceIte,Zha,if_true];refine Z2f rfl ?_;unfold Zjj at hP;have hbad:=Z8s (l:=sl.l.drop (i+2));have hbd:=Zgj (l:=sl.l.drop (i+2));have hex:=Zvo G hE sl hT g ⟨i+2,0⟩ hi2;simp only at hex;rw [List.length_drop] at hbd;generalize Zxc (sl.l.drop (i+2))=p at hP hbad hbd hex;obtain ⟨xs,n,e⟩:=p;simp only at hP hbad hbd hex;refine Z1 ?_;refine CuS.call hG hex hst (by kernel_rfl) rfl (by first | rfl | (simp -implicitDefEqProofs only[go_sem,seval,↓reduceIte,Z1k,Zbb];try rfl)) zr ?_;simp -implicitDefEqProofs only[go_sem,seval,↓reduceIte,Zha,Z1k];have hx0:e≠0→xs=[]:=hbad
 by_cases he:e=0
 rotate_left
 ·rw [if_pos he] at hP
  have q1:(e==0)=false:=by simpa using he
  obtain rfl:=hx0 he;rw [q1]
  refine Z6 <| Zjf [(92,.ptr 1002 g2 0,.agg [.int .u8 1,.str (Zib sl.l i),.nils])] ⟨fun j=>if j=0 then .agg [.int .u8 1,.str (Zib sl.l i),.nils] else .top,fun j=>if j=0 then .keep else if j=7 then .any else .pure⟩ (by kernel_rfl) hG (by kernel_rfl) (by kernel_rfl) ?_
  have hgn:Za Col.new 6 Z3 (Zba []) = .nils:=rfl;refine Zsf hgn ?_;refine Z ?_;rw [hP]
  have hti:(((i+2:Nat):Int)+n).toNat=i+2+n.toNat:=by omega
  exact ⟨by rw [← q1]<;>rfl,by simp only [hti];simp -implicitDefEqProofs only[go_sem,seval,↓reduceIte];try rfl⟩
 refine Z6 <| Zjf [(92,.ptr 1002 g2 0,Zkj .new ⟨1,Zib sl.l i,xs⟩)] ⟨fun j=>if j=0 then Zkj .new ⟨1,Zib sl.l i,xs⟩ else .top,fun j=>if j=0 then .keep else if j=7 then .any else .pure⟩ (by kernel_rfl) hG (by kernel_rfl) (by kernel_rfl) ?_
 have q1:(e==0)=true:=by simpa using he
 rw [if_neg (by simpa using he)] at hP;refine Zsf (zi q1 @Z9j) ?_;intro g35
 have hi3:i+2+n.toNat≤sl.l.length:=by omega
 refine Zic (fun o=>o==1035) [.ptr 21 g 0,Za .new 1 V.str (.mk false [[59]])] [(21,cuO sl g st ⟨i+2+n.toNat,e⟩),(1002,.cells .new g2 0 [.int .u8 1,.str (Zib sl.l i),Za .new 6 Z3 (Zba xs)])] ⟨Zd _,Zfi (f:=V.str) (l:=[[59]]) (m:=1) (g:=g35) (fz:=0) (c := .new) rfl zp (fun _=>rfl),trivial⟩ (by simp only [Zl,Zp,and_true];exact ⟨FzO.keep rfl zp,FzO.keep rfl zp⟩) ?_;refine CuS.call hG (Z6d G hG sl (by omega) g ⟨i+2+n.toNat,e⟩ hi3 .old [[59]] (by decide) (by decide) false) hst (by kernel_rfl) zm rfl zr ?_;simp -implicitDefEqProofs only[go_sem,seval,↓reduceIte,Zha];refine Z ?_;rw [hP];unfold Zlh;generalize Zjb sl.l [[59]] (i+2+n.toNat)=tk;obtain ⟨b,j⟩:=tk;cases b
 ·exact ⟨rfl,by simp -implicitDefEqProofs only[go_sem,seval,↓reduceIte];try rfl⟩
 ·exact ⟨rfl,by rw [he];simp -implicitDefEqProofs only[go_sem,seval,↓reduceIte];try rfl⟩
theorem Zt0 (G:Nat→V) (hE:GExp G) (sl:Sl Tk) (hT:TkOk sl.l) (g:Nat) (i:Nat) (hw:Zib sl.l i=Zrg) :
  CuS G 91 [] sl g ⟨i,0⟩ (.tuple [Zkj .new (Z9d sl.l 2 [40] [[41],[59]] (i+1)).1,.bool ((Z9d sl.l 2 [40] [[41],[59]] (i+1)).2.2==0)]) ⟨(Z9d sl.l 2 [40] [[41],[59]] (i+1)).2.1.toNat,(Z9d sl.l 2 [40] [[41],[59]] (i+1)).2.2⟩:=by
 have hG:=hE.ok;have hTl:=hT.len;have hil:i<sl.l.length:=Zdd (by rw [hw];decide);intro st hst
 have hP:Z9d sl.l 2 [40] [[41],[59]] (i+1)=if Zzf sl.l (i+1)=false then (⟨2,[],[]⟩,((i+1:Nat):Int),110)
  else if Zib sl.l (i+2)≠[40] then (⟨2,Zib sl.l (i+1),[]⟩,((i+2:Nat):Int),110)
  else if (2:Int)=2∧Zib sl.l (i+3)=[41] then Zlh sl.l ⟨2,Zib sl.l (i+1),[]⟩ [[41],[59]] (i+3)
  else Zjj sl.l 2 (Zib sl.l (i+1)) [[41],[59]] (i+3):=rfl
 generalize Z9d sl.l 2 [40] [[41],[59]] (i+1)=res at hP ⊢;refine Zo 1000 53 [.cell 2 92,.tmp 3] Tryz.func91 fun X=>?_;simp only [Zha,Ztg];refine Z1 ?_;intro g2;refine Z1 ?_;refine Z1 ?_;intro g8;refine Zic (fun o=>o==1008) [.ptr 21 g 0,Za .new 1 V.str (.mk false [Zrg])] [(21,cuO sl g st ⟨i,0⟩),(1002,.cells .new g2 0 [.int .u8 2,.str [],.nils])] ⟨Zd _,Zfi (f:=V.str) (l:=[Zrg]) (m:=1) (g:=g8) (fz:=0) (c := .new) rfl zp (fun _=>rfl),trivial⟩ (by simp only [Zl,Zp,and_true];exact ⟨FzO.keep rfl zp,FzO.keep rfl zp⟩) ?_;refine CuS.call hG (Z6d G hG sl (by omega) g ⟨i,0⟩ (by show i≤_;omega) .old [Zrg] (by decide) (by decide) false) hst (by kernel_rfl) zm rfl zr ?_
 have htk:Zjb sl.l [Zrg] i=(true,i+1):=by rw [Zjb,if_pos hw]<;>rfl
 rw [htk];simp -implicitDefEqProofs only[go_sem,seval,↓reduceIte,Zha,if_true];refine Z1 ?_;refine CuS.call hG (Zuo G hG sl (by omega) g ⟨i+1,0⟩ hil) hst (by kernel_rfl) rfl rfl zr ?_
 cases hn:Zzf sl.l (i+1) with
 | false =>
  rw [if_pos hn] at hP
  have q0:(false=true)=False:=by simp
  simp -implicitDefEqProofs only[go_sem,seval,↓reduceIte,Zha,q0,if_false];refine Z ?_;rw [hP];exact ⟨rfl,by simp -implicitDefEqProofs only[go_sem,seval,↓reduceIte];try rfl⟩
 | true =>
 rw [if_neg (by rw [hn];decide)] at hP
 have hil1:i+1<sl.l.length:=by
  refine Classical.byContradiction fun h=>?_;rw [Zeh (by omega)] at hn;cases hn
 simp -implicitDefEqProofs only[go_sem,seval,↓reduceIte,Zha,if_true];refine Z1 ?_;intro g26;refine Zic (fun o=>o==1026) [.ptr 21 g 0,Za .new 1 V.str (.mk false [[40]])] [(21,cuO sl g st ⟨i+2,0⟩),(1002,.cells .new g2 0 [.int .u8 2,.str (Zib sl.l (i+1)),.nils])] ⟨Zd _,Zfi (f:=V.str) (l:=[[40]]) (m:=1) (g:=g26) (fz:=0) (c := .new) rfl zp (fun _=>rfl),trivial⟩ (by simp only [Zl,Zp,and_true];exact ⟨FzO.keep rfl zp,FzO.keep rfl zp⟩) ?_;refine CuS.call hG (Z6d G hG sl (by omega) g ⟨i+2,0⟩ hil1 .old [[40]] (by decide) (by decide) false) hst (by kernel_rfl) zm rfl zr ?_
 have htk2:Zjb sl.l [[40]] (i+2)=if Zib sl.l (i+2)=[40] then (true,i+3) else (false,i+2):=rfl
 by_cases hw1:Zib sl.l (i+2)=[40]
 rotate_left
 ·rw [if_pos hw1] at hP
  rw [htk2,if_neg hw1]
  have q0:(false=true)=False:=by simp
  simp -implicitDefEqProofs only[go_sem,seval,↓reduceIte,Zha,q0,if_false];refine Z ?_;rw [hP];exact ⟨rfl,by simp -implicitDefEqProofs only[go_sem,seval,↓reduceIte];try rfl⟩
 rw [if_neg (by simpa using hw1)] at hP;rw [htk2,if_pos hw1];have hi3:i+3≤sl.l.length:=Zdd (by rw [hw1];decide);simp -implicitDefEqProofs only[go_sem,seval,↓reduceIte,Zha,if_true];refine Z1 ?_;refine CuS.call hG (Z9h G hG sl g ⟨i+3,0⟩ [41]) hst (by kernel_rfl) rfl rfl zr ?_;simp -implicitDefEqProofs only[go_sem,seval,↓reduceIte,Zha]
 have hcond:(decide (i+3<sl.l.length) && Zib sl.l (i+3)==[41])=(Zib sl.l (i+3)==[41]):=by
  by_cases h:i+3<sl.l.length
  ·rw [decide_eq_true h,Bool.true_and]
  ·rw [decide_eq_false h,Bool.false_and,Zpl (by omega)]<;>rfl
 rw [hcond]
 by_cases hw3:Zib sl.l (i+3)=[41]
 ·have q2:(Zib sl.l (i+3)==[41])=true:=by simpa using hw3
  rw [q2];rw [if_pos ⟨rfl,hw3⟩] at hP;refine Z0 ?_
  refine Z6 <| Zjf [(92,.ptr 1002 g2 0,.agg [.int .u8 2,.str (Zib sl.l (i+1)),.nils])] ⟨fun j=>if j=0 then .agg [.int .u8 2,.str (Zib sl.l (i+1)),.nils] else .top,fun j=>if j=0 then .keep else if j=5 then .any else .pure⟩ (by kernel_rfl) hG (by kernel_rfl) (by kernel_rfl) ?_
  refine Zs ?_;intro g51;refine Zic (fun o=>o==1051) [.ptr 21 g 0,Za .new 1 V.str (.mk false [[41],[59]])] [(21,cuO sl g st ⟨i+3,0⟩),(1002,.cells .new g2 0 [.int .u8 2,.str (Zib sl.l (i+1)),.nils])] ⟨Zd _,Zfi (f:=V.str) (l:=[[41],[59]]) (m:=1) (g:=g51) (fz:=0) (c := .new) rfl zp (fun _=>rfl),trivial⟩ (by simp only [Zl,Zp,and_true];exact ⟨FzO.keep rfl zp,FzO.keep rfl zp⟩) ?_;refine CuS.call hG (Z6d G hG sl (by omega) g ⟨i+3,0⟩ hi3 .old [[41],[59]] (by decide) (by decide) false) hst (by kernel_rfl) zm rfl zr ?_;simp -implicitDefEqProofs only[go_sem,seval,↓reduceIte,Zha];refine Z ?_;rw [hP];unfold Zlh;generalize Zjb sl.l [[41],[59]] (i+3)=tk;obtain ⟨b,j⟩:=tk;cases b
  ·exact ⟨rfl,by simp -implicitDefEqProofs only[go_sem,seval,↓reduceIte];try rfl⟩
  ·exact ⟨rfl,by simp -implicitDefEqProofs only[go_sem,seval,↓reduceIte];try rfl⟩
 have q2:(Zib sl.l (i+3)==[41])=false:=by simpa using hw3
 rw [q2];rw [if_neg (fun h=>hw3 h.2)] at hP;refine Z2f rfl ?_;unfold Zjj at hP;have hbad:=Z8s (l:=sl.l.drop (i+3));have hbd:=Zgj (l:=sl.l.drop (i+3));have hex:=Zvo G hE sl hT g ⟨i+3,0⟩ hi3;simp only at hex;rw [List.length_drop] at hbd;generalize Zxc (sl.l.drop (i+3))=p at hP hbad hbd hex;obtain ⟨xs,n,e⟩:=p;simp only at hP hbad hbd hex;refine Z1 ?_;refine CuS.call hG hex hst (by kernel_rfl) rfl (by first | rfl | (simp -implicitDefEqProofs only[go_sem,seval,↓reduceIte,Z1k,Zbb];try rfl)) zr ?_;simp -implicitDefEqProofs only[go_sem,seval,↓reduceIte,Zha,Z1k];have hx0:e≠0→xs=[]:=hbad
 by_cases he:e=0
 rotate_left
 ·rw [if_pos he] at hP
  have q1:(e==0)=false:=by simpa using he
  obtain rfl:=hx0 he;rw [q1];refine Z1 ?_;refine Z2f rfl ?_;have hgn:Za Col.new 6 Z3 (Zba []) = .nils:=rfl;refine Zf hgn ?_;rw [hP]
  have hti:(((i+3:Nat):Int)+n).toNat=i+3+n.toNat:=by omega
  exact ⟨by rw [← q1]<;>rfl,by simp only [hti];simp -implicitDefEqProofs only[go_sem,seval,↓reduceIte];try rfl⟩
 have q1:(e==0)=true:=by simpa using he
 rw [if_neg (by simpa using he)] at hP;rw [q1];refine Z1 ?_;refine Z0 ?_
 refine Z6 <| Zjf [(92,.ptr 1002 g2 0,Zkj .new ⟨2,Zib sl.l (i+1),xs⟩)] ⟨fun j=>if j=0 then Zkj .new ⟨2,Zib sl.l (i+1),xs⟩ else .top,fun j=>if j=0 then .keep else if j=5 then .any else .pure⟩ (by kernel_rfl) hG (by kernel_rfl) (by kernel_rfl) ?_
 refine Zsf @Z9j ?_;intro g51
 have hi4:i+3+n.toNat≤sl.l.length:=by omega
 refine Zic (fun o=>o==1051) [.ptr 21 g 0,Za .new 1 V.str (.mk false [[41],[59]])] [(21,cuO sl g st ⟨i+3+n.toNat,e⟩),(1002,.cells .new g2 0 [.int .u8 2,.str (Zib sl.l (i+1)),Za .new 6 Z3 (Zba xs)])] ⟨Zd _,Zfi (f:=V.str) (l:=[[41],[59]]) (m:=1) (g:=g51) (fz:=0) (c := .new) rfl zp (fun _=>rfl),trivial⟩ (by simp only [Zl,Zp,and_true];exact ⟨FzO.keep rfl zp,FzO.keep rfl zp⟩) ?_;refine CuS.call hG (Z6d G hG sl (by omega) g ⟨i+3+n.toNat,e⟩ hi4 .old [[41],[59]] (by decide) (by decide) false) hst (by kernel_rfl) zm rfl zr ?_;simp -implicitDefEqProofs only[go_sem,seval,↓reduceIte,Zha];refine Z ?_;rw [hP];unfold Zlh;generalize Zjb sl.l [[41],[59]] (i+3+n.toNat)=tk;obtain ⟨b,j⟩:=tk;cases b
 ·exact ⟨rfl,by simp -implicitDefEqProofs only[go_sem,seval,↓reduceIte];try rfl⟩
 ·exact ⟨rfl,by rw [he];simp -implicitDefEqProofs only[go_sem,seval,↓reduceIte];try rfl⟩
end Go.Hs
end

section
namespace Go.Hs
open Go.Proofs
set_option maxRecDepth 10000
def sdO (gx:Nat) (l:List ASt):AObj:=Z2b gx (Zkj .new) l
def rdS (l:List Tk) (i:Nat) (acc:List ASt):Bool × CU × List ASt :=
 if acc.length=512 then (false,⟨i,3⟩,acc) else ((Zjc l i).2.2==0,⟨(Zjc l i).2.1.toNat,(Zjc l i).2.2⟩,acc++[(Zjc l i).1])
theorem Z7m (G:Nat→V) (hE:GExp G) (sl:Sl Tk) (hT:TkOk sl.l) (g:Nat) (i:Nat) (hi:i<sl.l.length) (acc:List ASt) (hac:acc.length≤512) (gx:Nat) :
  InSp Tryz.prog G 63 [.ptr 21 g 0] (Zha Zk [(21,cuO sl g (grown 1038 gx 3 acc) ⟨i,0⟩),(1038,sdO gx acc)])
   (fun v H'=>v = .bool (rdS sl.l i acc).1∧∃ gx',H' 21=cuO sl g (grown 1038 gx' 3 (rdS sl.l i acc).2.2) (rdS sl.l i acc).2.1∧H' 1038=sdO gx' (rdS sl.l i acc).2.2):=by
 have hG:=hE.ok;have hTl:=hT.len
 have hP:rdS sl.l i acc=if acc.length=512 then (false,⟨i,3⟩,acc) else ((Zjc sl.l i).2.2==0,⟨(Zjc sl.l i).2.1.toNat,(Zjc sl.l i).2.2⟩,acc++[(Zjc sl.l i).1]):=rfl
 generalize rdS sl.l i acc=res at hP ⊢;refine Z1d 1000 42 [.tmp 2] Tryz.func63 rfl rfl rfl rfl fun X=>?_;simp only [Zha];refine Z1 ?_;refine Z1 ?_
 by_cases h5:acc.length=512
 ·rw [if_pos h5] at hP
  have q1:((acc.length:Int)==512)=true:=by rw [beq_iff_eq];omega
  refine Zu fun K1 hK1=>?_;refine Zf (zi @Ztg q1) ?_;rw [hP];exact ⟨rfl,gx,by simp -implicitDefEqProofs only[go_sem,seval,↓reduceIte];try rfl,by simp -implicitDefEqProofs only[go_sem,seval,↓reduceIte];try rfl⟩
 rw [if_neg h5] at hP
 have q1:((acc.length:Int)==512)=false:=by rw [beq_eq_false_iff_ne];omega
 refine Zob (fun (_:Unit)=>st [(0,.ptr 21 g 0),(3,.func (.func (if Zib sl.l i=Zrg then 91 else 89)) [.ptr 21 g 0] [])] [(21,cuO sl g (grown 1038 gx 3 acc) ⟨i,0⟩),(1038,sdO gx acc)]) (fun _=>True) (fun K1 hK1=>?_) ?_
 ·refine Z1f (zi @Ztg q1) ?_
  refine Z1 ?_;refine CuS.call hG (Z9h G hG sl g ⟨i,0⟩ Zrg) (fun F=>Zde F _ _ _ _) (by kernel_rfl) rfl rfl zr ?_;rw [decide_eq_true hi,Bool.true_and];simp -implicitDefEqProofs only[go_sem,seval,↓reduceIte,Zha]
  by_cases hw:Zib sl.l i=Zrg
  ·have q2:(Zib sl.l i==Zrg)=true:=by simpa using hw
   rw [q2];rw [if_pos hw] at hK1;refine Z1 ?_;exact hK1 _ () trivial (Zg zp zp)
  ·have q2:(Zib sl.l i==Zrg)=false:=by simpa using hw
   rw [q2];rw [if_neg hw] at hK1;refine Z0 ?_;exact hK1 _ () trivial (Zg zp zp)
 intro _ _
 have hstP:Zjc sl.l i=if Zib sl.l i=Zrg then Z9d sl.l 2 [40] [[41],[59]] (i+1) else Z9d sl.l 1 [58,61] [[59]] i:=rfl
 by_cases hw:Zib sl.l i=Zrg
 ·rw [if_pos hw] at hstP
  rw [if_pos hw];have hsp:=Zt0 G hE sl hT g i hw;rw [← hstP] at hsp;have hb:=(Zcp sl.l i).ge;generalize Zjc sl.l i=q at hP hsp hb;obtain ⟨x,m,e⟩:=q;simp only at hP hsp hb;generalize hn:m.toNat=n at hP hsp;refine Z1 ?_;refine CuS.call hG hsp (fun F=>Zde F _ _ _ _) (by kernel_rfl) rfl (by first | rfl | (simp -implicitDefEqProofs only[go_sem,seval,↓reduceIte,Z9j,Zbb];try rfl)) zr ?_;simp -implicitDefEqProofs only[go_sem,seval,↓reduceIte,Zha,Z9j];intro g4;refine ZTf @Ztg hG ?_;intro g37;refine Znc (f:=Zkj .new) (l:=acc) (l2:=[x]) (g:=gx) (Z6h _) rfl rfl rfl zp (Zta (by omega) (by simp;omega)) fun g2=>?_;refine Zs ?_;refine Z ?_;rw [hP];exact ⟨rfl,g2,by simp -implicitDefEqProofs only[go_sem,seval,↓reduceIte];try rfl,by simp -implicitDefEqProofs only[go_sem,seval,↓reduceIte];try rfl⟩
 ·rw [if_neg hw] at hstP
  rw [if_neg hw];have hsp:=Ztt G hE sl hT g i (by omega);rw [← hstP] at hsp;have hb:=(Zcp sl.l i).ge;generalize Zjc sl.l i=q at hP hsp hb;obtain ⟨x,m,e⟩:=q;simp only at hP hsp hb;generalize hn:m.toNat=n at hP hsp;refine Z1 ?_;refine CuS.call hG hsp (fun F=>Zde F _ _ _ _) (by kernel_rfl) rfl (by first | rfl | (simp -implicitDefEqProofs only[go_sem,seval,↓reduceIte,Z9j,Zbb];try rfl)) zr ?_;simp -implicitDefEqProofs only[go_sem,seval,↓reduceIte,Zha,Z9j];intro g4;refine ZTf @Ztg hG ?_;intro g37;refine Znc (f:=Zkj .new) (l:=acc) (l2:=[x]) (g:=gx) (Z6h _) rfl rfl rfl zp (Zta (by omega) (by simp;omega)) fun g2=>?_;refine Zs ?_;refine Z ?_;rw [hP];exact ⟨rfl,g2,by simp -implicitDefEqProofs only[go_sem,seval,↓reduceIte];try rfl,by simp -implicitDefEqProofs only[go_sem,seval,↓reduceIte];try rfl⟩
end Go.Hs
end

section
namespace Go.Hs
open Go.Proofs
set_option maxRecDepth 10000
set_option maxHeartbeats 1000000
def Few12 (l:List AM) (env:List (List UInt8 × Int)):Prop:=l.length≤20∧env.length≤20∧(∀ a∈l,a.name.length≤70∧a.x.l.length≤60∧∀ n∈a.x.l,n.name.length≤70)∧∀ p∈env,p.1.length≤70
theorem Z7u (G:Nat→V) (hG:GOk G) (c c1 c2:Col) (s:Sl AM) (env:Sl (List UInt8 × Int)) :
  Spec Tryz.prog G 27 [.agg [Za c 3 (Zia c1) s],Za c2 2 Zz env] Zk (fun v _=>∃ b,v = .bool b∧(b=true→Few12 s.l env.l)):=by
 refine Zo 0 71 [.tmp 4] Tryz.func27 fun X=>?_;refine Z ?_;intro g2
 by_cases h1:s.l.length > 20
 ·have q:decide (((s.l.length:Nat):Int) > 20)=true:=zT
  refine Zf q ?_;exact ⟨false,rfl,fun h=>by cases h⟩
 have q1:decide (((s.l.length:Nat):Int) > 20)=false:=zF
 by_cases h2:env.l.length > 20
 ·have q2:decide (((env.l.length:Nat):Int) > 20)=true:=zT
  refine Zf (zi q1 q2) ?_;exact ⟨false,rfl,fun h=>by cases h⟩
 have q2:decide (((env.l.length:Nat):Int) > 20)=false:=zF;refine Zf (zi q1 q2) ?_
 refine Zpb s.l.length (fun k (_:Unit)=>st [(1,Za c2 2 Zz env),(2,.ptr 2 g2 0),(5,.int .i64 k)] [(2,.cells .new g2 0 [Za c 3 (Zia c1) s])]) (fun k _=>∀ a∈s.l.take k,a.name.length≤70∧a.x.l.length≤60∧∀ n∈a.x.l,n.name.length≤70) 0 () (Nat.zero_le _) (fun n h=>by cases h)
  (Zg zp zp) ?_
 intro k _ hk hR L3 hL3
 by_cases hk1:k<s.l.length
 ·have hlt:decide ((k:Int)<(s.l.length:Int))=true:=zT
  have hg:=List.getElem?_eq_getElem hk1
  have htk:s.l.take (k+1)=s.l.take k++[s.l[k]]:=by rw [List.take_succ_eq_append_getElem hk1]
  generalize s.l[k]=a at hg htk;have w1:IntKind.i64.wrap ((k:Int)+1)=(k:Int)+1:=w64 (by omega) (by omega);refine Zf (zi hlt (zi hg @Zvb)) ?_;intro g6
  by_cases h3:a.name.length > 70
  ·have q3:decide (((a.name.length:Nat):Int) > 70)=true:=zT
   refine Zf q3 ?_;exact ⟨false,rfl,fun h=>by cases h⟩
  have q3:decide (((a.name.length:Nat):Int) > 70)=false:=zF
  by_cases h4:a.x.l.length > 60
  ·have q4:decide (((a.x.l.length:Nat):Int) > 60)=true:=zT
   refine Zf (zi q3 q4) ?_;exact ⟨false,rfl,fun h=>by cases h⟩
  have q4:decide (((a.x.l.length:Nat):Int) > 60)=false:=zF;refine Zf (zi q3 q4) ?_
  refine Zpb a.x.l.length (fun j (_:Unit)=>st [(1,Za c2 2 Zz env),(2,.ptr 2 g2 0),(5,.int .i64 k),(6,.ptr 6 g6 0),(7,.int .i64 j)] [(2,.cells .new g2 0 [Za c 3 (Zia c1) s]),(6,.cells .new g6 0 [.int .u8 a.kind,.str a.name,Za c1 6 Z3 a.x])])
   (fun j _=>∀ n∈a.x.l.take j,n.name.length≤70) 0 () (Nat.zero_le _) (fun n h=>by cases h) (Zg zp zp) ?_
  intro j _ hj hR2 L7 hL7
  by_cases hj1:j<a.x.l.length
  ·have hlt2:decide ((j:Int)<(a.x.l.length:Int))=true:=zT
   have hgj:=List.getElem?_eq_getElem hj1
   have htj:a.x.l.take (j+1)=a.x.l.take j++[a.x.l[j]]:=by rw [List.take_succ_eq_append_getElem hj1]
   generalize a.x.l[j]=n at hgj htj;have w2:IntKind.i64.wrap ((j:Int)+1)=(j:Int)+1:=w64 (by omega) (by omega)
   by_cases h5:n.name.length > 70
   ·have q5:decide (((n.name.length:Nat):Int) > 70)=true:=zT
    refine Zf (zi hlt2 (zi hgj (zi Zt q5))) ?_;exact ⟨false,rfl,fun h=>by cases h⟩
   have q5:decide (((n.name.length:Nat):Int) > 70)=false:=zF;refine Zf (zi hlt2 (zi hgj (zi Zt (zi q5 w2)))) ?_;refine hL7 _ ⟨hj1,(),?_,Zg zp zp⟩;intro n' hn';rw [htj,List.mem_append] at hn'
   rcases hn' with hn' | hn'
   ·exact hR2 n' hn'
   ·simp at hn';subst hn';omega
  have hje:j=a.x.l.length:=by omega
  subst hje
  have hlt2:decide ((a.x.l.length:Int)<(a.x.l.length:Int))=false:=by simp
  rw [List.take_length] at hR2;refine Zf (zi hlt2 w1) ?_;refine hL3 _ ⟨hk1,(),?_,Zg zp zp⟩;intro n' hn';rw [htk,List.mem_append] at hn'
  rcases hn' with hn' | hn'
  ·exact hR n' hn'
  ·simp at hn';subst hn';exact ⟨by omega,by omega,hR2⟩
 have hke:k=s.l.length:=by omega
 subst hke
 have hlt:decide ((s.l.length:Int)<(s.l.length:Int))=false:=by simp
 rw [List.take_length] at hR;refine Zf hlt ?_;have hS:=hR;clear hR hk hk1 hlt hL3 L3
 refine Zpb env.l.length (fun k (_:Unit)=>st [(1,Za c2 2 Zz env),(8,.int .i64 k)] []) (fun k _=>∀ n∈env.l.take k,n.1.length≤70) 0 () (Nat.zero_le _) (fun n h=>by cases h)
  (Zg zp zp) ?_
 intro k _ hk hR L3 hL3
 by_cases hk1:k<env.l.length
 ·have hlt:decide ((k:Int)<(env.l.length:Int))=true:=zT
  have hg:=List.getElem?_eq_getElem hk1
  have htk:env.l.take (k+1)=env.l.take k++[env.l[k]]:=by rw [List.take_succ_eq_append_getElem hk1]
  generalize env.l[k]=n at hg htk;have w1:IntKind.i64.wrap ((k:Int)+1)=(k:Int)+1:=w64 (by omega) (by omega)
  by_cases hn:n.1.length > 70
  ·have q3:decide (((n.1.length:Nat):Int) > 70)=true:=zT
   refine Zf (zi hlt (zi hg (zi Z1c q3))) ?_;exact ⟨false,rfl,fun h=>by cases h⟩
  ·have q3:decide (((n.1.length:Nat):Int) > 70)=false:=zF
   refine Zf (zi hlt (zi hg (zi Z1c (zi q3 w1)))) ?_;refine hL3 _ ⟨hk1,(),?_,Zg zp zp⟩;intro n' hn';rw [htk,List.mem_append] at hn'
   rcases hn' with hn' | hn'
   ·exact hR n' hn'
   ·simp at hn';subst hn';omega
 have hke:k=env.l.length:=by omega
 subst hke
 have hlt:decide ((env.l.length:Int)<(env.l.length:Int))=false:=by simp
 rw [List.take_length] at hR;refine Zf hlt ?_;exact ⟨true,rfl,fun _=>⟨by omega,by omega,hS,hR⟩⟩
end Go.Hs
end

section
namespace Go.Hs
open Go.Proofs
set_option maxRecDepth 10000
@[go_sem] theorem noMp_cuO (S:Sl Tk) (g:Nat) (v:V) (r:CU):(cuO S g v r).noMp=cuO S g v r:=rfl
@[go_sem] theorem noMp_sdO (g:Nat) (l:List ASt):(sdO g l).noMp=sdO g l:=by cases l<;>rfl
theorem Zd7 {l:List Tk} {n f i:Nat} {acc:List ASt} (hi:i<l.length):Zif l n (f+1) i acc =
  if (rdS l i acc).1=false then ([],Zfo l n ((rdS l i acc).2.1.i:Int),(rdS l i acc).2.1.e) else Zif l n f (rdS l i acc).2.1.i (rdS l i acc).2.2:=by
 rw [Zif,if_neg (by omega)];unfold rdS
 by_cases h5:acc.length=512
 ·rw [if_pos h5,if_pos h5]<;>rfl
 rw [if_neg h5,if_neg h5];have hb:=(Zcp l i).ge
 by_cases he:(Zjc l i).2.2=0
 ·rw [if_neg (by simpa using he),if_neg (by simp [he])]
 ·have q:((Zjc l i).2.2==0)=false:=by simpa using he
  rw [if_pos he,if_pos q];simp only [Int.toNat_of_nonneg (show 0≤(Zjc l i).2.1 by omega)]
theorem Zy5 {l:List Tk} {i:Nat} {acc:List ASt} (h:(rdS l i acc).1=true):(rdS l i acc).2.1.e=0∧i<(rdS l i acc).2.1.i∧(rdS l i acc).2.1.i≤l.length∧(rdS l i acc).2.2.length=acc.length+1∧acc.length≠512:=by
 unfold rdS at h ⊢
 by_cases h5:acc.length=512
 ·rw [if_pos h5] at h;cases h
 rw [if_neg h5] at h ⊢
 have he:(Zjc l i).2.2=0:=by simpa using h
 obtain ⟨h1,h2⟩:=(Zcp l i).ok he;refine ⟨he,?_,?_,by rw [List.length_append]<;>rfl,h5⟩
 ·show i<(Zjc l i).2.1.toNat;omega
 ·show (Zjc l i).2.1.toNat≤l.length;omega
def encBP (r:List ASt × Int × Int):V := .tuple [.agg [Zd8 .new r.1],.int .i64 r.2.1,.int .i64 r.2.2]
theorem Zfw (G:Nat→V) (hE:GExp G) (s:List UInt8) (hs:s.length<100000):Spec Tryz.prog G 40 [.str s] Zk (fun v _=>v=encBP (Z4c s)):=by
 have hG:=hE.ok;refine Zo 0 69 [.cell 2 63,.tmp 3,.tmp 4] Tryz.func40 fun X=>?_
 have hP:Z4c s=if (Z5b s).2.2≠0 then (([]:List ASt),(Z5b s).2.1,(Z5b s).2.2) else Zif (Z5b s).1 s.length ((Z5b s).1.length+1) 0 []:=rfl
 generalize Z4c s=res at hP ⊢;have hT:=toks_ok hs;have hl:=Z2s G hE s hs;generalize Z5b s=p at hP hT hl;obtain ⟨l,at0,e0⟩:=p;simp only at hP hT;have hTl:=hT.len;refine Z1 ?_;intro g2;refine Z1 ?_;refine Zn hG ?_ (s:=hl);simp -implicitDefEqProofs only[go_sem,seval,↓reduceIte,Zc8,Zq3,Zzc];have hS:(Zba l).l=l:=Zcb l;generalize Zba l=S at hS;subst hS;refine Z6 ?_
 by_cases he:e0=0
 rotate_left
 ·rw [if_pos he] at hP
  have q1:(e0==0)=false:=by simpa using he
  refine Ztc (by kernel_rfl) ?_;simp -implicitDefEqProofs only[go_sem,seval,↓reduceIte,bne,q1];refine Z ?_
  rw [hP]<;>rfl
 rw [if_neg (by simpa using he)] at hP
 have q1:(e0==0)=true:=by simpa using he
 refine Ztc (by kernel_rfl) ?_;simp -implicitDefEqProofs only[go_sem,seval,↓reduceIte,bne,q1];refine Z1 ?_;intro g21;refine AW.weak (Z8 (fun _=>false) (l:=[(0,.str s),(2,.ptr 2 g2 0),(5,Za .new 3 Z0b S),(6,.ptr 21 g21 0)]) (m:=[(2,.cells .new g2 0 [.nils]),(21,cuO S g21 .nils ⟨0,0⟩)]) ?_ ?_) ?_
 ·refine Zs ?_
  exact ⟨Zd _,Zd _,Zd _,Zd _⟩
 ·simp only [Zl,Zp,and_true]
  exact ⟨FzO.keep rfl zp,Zm4 (c := .new) (fz:=0) (cs:=[Za .new 3 Z0b S,.int .i64 0,.int .i64 0,.nils]) rfl zp ⟨Fz.any (zpf @Zzc),Zd _,Zd _,Zd _,trivial⟩⟩
 refine Z6 ?_;refine AW.block ?_
 refine Zkl (fun (x:(Nat × Nat) × List ASt)=>st [(0,.str s),(2,.ptr 2 g2 0),(5,Za .new 3 Z0b S),(6,.ptr 21 g21 0)] [(2,.cells .new g2 0 [.nils]),(21,cuO S g21 (grown 1038 x.1.1 3 x.2) ⟨x.1.2,0⟩),(1038,sdO x.1.1 x.2)])
  (fun x=>x.1.2≤S.l.length∧x.2.length≤512∧∃ f,S.l.length<f+x.1.2∧Zif S.l s.length f x.1.2 x.2=res) (fun x=>S.l.length-x.1.2) ((0,0),[]) ⟨Nat.zero_le _,Nat.zero_le _,S.l.length+1,Nat.lt_succ_self _,hP.symm⟩
  (Zg zp (by simp -implicitDefEqProofs only[go_sem,seval,↓reduceIte];first | rfl | exact ⟨rfl,rfl⟩)) ?_
 rintro ⟨⟨gx,i⟩,acc⟩ ⟨hi,hac,f,hf,hR⟩ L3 hL3;simp only at hi hac hf hR;refine Z6 ?_
 cases f with
 | zero=>omega
 | succ f =>
 refine Z1f @Ztg ?_;refine Zh rfl (fun h29=>?_) (fun h29=>?_);rotate_left
 ·have hil:S.l.length≤i:=by have:=zN h29;omega
  rw [Zif,if_pos hil] at hR;refine Z0 ?_;refine AW.weak (Z8 (fun o=>o==1038) (l:=[(2,.ptr 2 g2 0),(6,.ptr 21 g21 0)]) (m:=[(2,.cells .new g2 0 [.nils]),(21,.cells .any g21 0 [.top,.int .i64 i,.int .i64 0,Za .new 3 (Zkj .new) (Zba acc)])]) ?_ ?_) ?_
  ·refine Zs ?_
   first | exact ⟨Zd _,Zd _⟩ | exact Zd _
  ·simp only [Zl,Zp,and_true]
   exact ⟨FzO.keep rfl zp,Zyu (c := .any) (fz:=0) (cs:=[Za .any 3 Z0b S,.int .i64 i,.int .i64 0,grown 1038 gx 3 acc]) rfl zp ⟨Fz.top _,Zd _,Zd _,Z0e rfl zp (Z6h _),trivial⟩⟩
  refine Z ?_
  rw [← hR]<;>rfl
 have hil:i<S.l.length:=zL h29;rw [Zd7 hil] at hR;refine Z0 ?_;refine AW.block ?_;have hst:=Z7m G hE S hT g21 i hil acc hac gx;have hrt := @Zy5 S.l i acc;generalize rdS S.l i acc=q at hR hst hrt;obtain ⟨b,⟨j,e⟩,acc'⟩:=q;simp only at hR hst hrt;refine Z1 ?_;refine CallA.inl [(21,cuO S g21 (grown 1038 gx 3 acc) ⟨i,0⟩),(1038,sdO gx acc)] (by kernel_rfl) ?_ ?_
 ·intro p hp
  simp only [List.mem_cons,List.not_mem_nil,or_false] at hp
  rcases hp with rfl | rfl
  ·simp -implicitDefEqProofs only[go_sem,seval,↓reduceIte];try rfl
  ·simp -implicitDefEqProofs only[go_sem,seval,↓reduceIte];try rfl
 refine hst.mono ?_;rintro _ H' ⟨rfl,gx',q21,q1038⟩;simp only [List.map_cons,List.map_nil,q21,q1038]
 cases b with
 | true =>
  obtain ⟨rfl,hj,hjl,hal,ha5⟩:=hrt rfl;rw [if_neg (by decide)] at hR;simp -implicitDefEqProofs only[go_sem,seval,↓reduceIte,Zha];refine Z0 ?_;refine hL3 _ ⟨((gx',j),acc'),?_,⟨?_,?_,f,?_,hR⟩,Zg zp zp⟩
  ·show S.l.length-j<S.l.length-i;omega
  ·show j≤_;omega
  ·show acc'.length≤_;omega
  ·show S.l.length<f+j;omega
 | false =>
  rw [if_pos rfl] at hR;simp -implicitDefEqProofs only[go_sem,seval,↓reduceIte,Zha];refine Z1f @Ztg ?_;refine Zh rfl (fun h40=>?_) (fun h40=>?_)
  ·have hjl:j<S.l.length:=zL h40
   have hgj:=List.getElem?_eq_getElem hjl;generalize S.l[j]=t at hgj;rw [Z15 hgj] at hR;refine AW.weak (Z8 (fun o=>o==21) (l:=[(0,.str s),(2,.ptr 2 g2 0),(5,Za .new 3 Z0b S),(6,.view .any (.agg [Za .any 3 Z0b S,.int .i64 j,.int .i64 e,grown 1038 gx' 3 acc']))]) (m:=[(2,.cells .new g2 0 [.nils])]) ?_ ?_) ?_
   ·refine Zs ?_
    exact ⟨Zd _,Zd _,Zd _,Fz.ptr (c := .any) (fz:=0) (v := .agg [Za .any 3 Z0b S,.int .i64 j,.int .i64 e,grown 1038 gx' 3 acc']) rfl zp⟩
   ·simp only [Zl,Zp,and_true]
    exact FzO.keep rfl zp
   refine Z6 <| Zv ⟨fun _ => .top,fun k=>if k=6 then .lend else if k=9 then .lend else if k=14 then .lend else .pure⟩ (by kernel_rfl) hG (by kernel_rfl) (by kernel_rfl) ?_
   refine Zsf (zi hgj @Zsd) ?_;refine Z ?_
   rw [← hR]<;>rfl
  ·have hjl:¬ j<S.l.length:=by have:=zN h40;omega
   refine Z0 ?_;refine AW.weak (Z8 (fun o=>o==21) (l:=[(0,.str s),(2,.ptr 2 g2 0),(5,Za .new 3 Z0b S),(6,.view .any (.agg [Za .any 3 Z0b S,.int .i64 j,.int .i64 e,grown 1038 gx' 3 acc']))]) (m:=[(2,.cells .new g2 0 [.nils])]) ?_ ?_) ?_
   ·refine Zs ?_
    exact ⟨Zd _,Zd _,Zd _,Fz.ptr (c := .any) (fz:=0) (v := .agg [Za .any 3 Z0b S,.int .i64 j,.int .i64 e,grown 1038 gx' 3 acc']) rfl zp⟩
   ·simp only [Zl,Zp,and_true]
    exact FzO.keep rfl zp
   refine Z6 <| Zv ⟨fun _ => .top,fun k=>if k=7 then .lend else .pure⟩ (by kernel_rfl) hG (by kernel_rfl) (by kernel_rfl) ?_
   refine Zs ?_;refine Z ?_;rw [← hR];unfold Zfo
   rw [if_neg (by omega)]<;>rfl
end Go.Hs
end

section
namespace Go.Hs
inductive GB:List (List UInt8)→List ASt→Prop where
 | nil:GB [] []
 | asg {nm:List UInt8} {ts r:List (List UInt8)} {x:X} {b:List ASt}:isP nm=2→Gr 1 ts x→x.depth≤64→GB r b→GB (nm::[58,61]::(ts++[59]::r)) (⟨1,nm,x.row 0⟩::b)
 | bare {nm:List UInt8} {r:List (List UInt8)} {b:List ASt}:isP nm=2→GB r b→GB (Zrg::nm::[40]::[41]::[59]::r) (⟨2,nm,[]⟩::b)
 | emit {nm:List UInt8} {ts r:List (List UInt8)} {x:X} {b:List ASt}:isP nm=2→Gr 1 ts x→x.depth≤64→GB r b→GB (Zrg::nm::[40]::(ts++[41]::[59]::r)) (⟨2,nm,x.row 0⟩::b)
theorem GB.app {ws vs:List (List UInt8)} {a b:List ASt} (h:GB ws a) (h2:GB vs b):GB (ws++vs) (a++b):=by
 induction h with
 | nil=>exact h2
 | asg n g d _ ih=>simpa using GB.asg n g d ih
 | bare n _ ih=>exact GB.bare n ih
 | emit n g d _ ih=>simpa using GB.emit n g d ih
theorem GB.len {ws:List (List UInt8)} {a:List ASt} (h:GB ws a):4 * a.length≤ws.length:=by
 induction h with
 | nil=>exact Nat.le_refl _
 | asg n g d _ ih=>have:=g.pos;simp only [List.length_cons,List.length_append];omega
 | bare n _ ih=>simp only [List.length_cons];omega
 | emit n g d _ ih=>simp only [List.length_cons,List.length_append];omega
def Wds (l:List Tk):Prop:=∀ t∈l,(isP t.text:Int)=t.kind∧isP t.text≠0
theorem Z6r {s:List UInt8}:∀ (f i:Nat) (acc:List Tk),Wds acc→Wds (Zcc f s (i+blk (s.drop i)) acc).1
 | 0,_,acc,h=>h
 | f+1,i,acc,h=>by
  rw [Zcc]
  split
  ·split
   ·intro t ht;cases ht
   ·rename_i h1 h2
    have hdd:s.drop (i+blk (s.drop i))=(s.drop i).drop (blk (s.drop i)):=by rw [List.drop_drop]
    rw [hdd] at h2 ⊢;refine Z6r f _ _ ?_;intro t ht;rw [List.mem_append,List.mem_singleton] at ht
    rcases ht with ht | rfl
    ·exact h t ht
    ·obtain ⟨p1,p2⟩:=Zay (s:=s.drop i) (by rw [List.length_drop];omega) rfl (by omega) (by omega)
     exact ⟨by show ((isP _:Nat):Int)=_;rw [p1],by show isP _≠0;rw [p1];exact p2⟩
  ·exact h
theorem Z94 (s:List UInt8):Wds (Z5b s).1:=by
 unfold Z5b
 split
 ·intro t ht;cases ht
 ·have:=Z6r (s:=s) (s.length+1) 0 [] (fun t ht=>by cases ht)
  simpa using this
theorem Wds.wd {l:List Tk} (h:Wds l) {i:Nat} (hi:i<l.length):(l.map Z8e)[i]? = some (Zib l i):=by
 have hg:=List.getElem?_eq_getElem hi;rw [List.getElem?_map,hg,Z4f hg];have:=(h _ (List.getElem_mem hi)).1
 show some (Z8e l[i])=_
 unfold Z8e;rw [if_pos this]
theorem Wds.drop {l:List Tk} (h:Wds l) {i:Nat} (hi:i<l.length):(l.map Z8e).drop i=Zib l i::(l.map Z8e).drop (i+1):=by
 have hg:=h.wd hi;obtain ⟨q1,q2⟩:=List.getElem?_eq_some_iff.1 hg;rw [List.drop_eq_getElem_cons q1,q2]
theorem Wds.name {l:List Tk} (h:Wds l) {i:Nat} (hn:Zzf l i=true):i<l.length∧isP (Zib l i)=2:=by
 have hi:i<l.length:=by
  refine Classical.byContradiction fun h2=>?_;rw [Zeh (by omega)] at hn;cases hn
 have hg:=List.getElem?_eq_getElem hi;rw [Zdh hg] at hn;have:=(h _ (List.getElem_mem hi)).1
 have hk:(l[i]).kind=2:=by simpa using hn
 rw [Z4f hg];exact ⟨hi,by omega⟩
theorem Z5c {l:List Tk} {i:Nat} {w:List UInt8} {r:List (List UInt8)} (h:(l.map Z8e).drop i=w::r) (hw:w≠[]) :
  i<l.length∧Zib l i=w∧Zzf l i=(isP w==2)∧(l.map Z8e).drop (i+1)=r:=by
 have hi:i<l.length:=by
  refine Classical.byContradiction fun h2=>?_;rw [List.drop_of_length_le (by rw [List.length_map];omega)] at h;cases h
 have hg:=List.getElem?_eq_getElem hi
 have hw0:(l.map Z8e)[i]? = some w:=by
  have:=congrArg List.head? h;rwa [List.head?_drop] at this
 rw [List.getElem?_map,hg] at hw0
 have hw1:Z8e l[i]=w:=by simpa using hw0
 unfold Z8e at hw1
 split at hw1
 ·rename_i hk
  rw [Z4f hg,Zdh hg];refine ⟨hi,hw1,?_,?_⟩
  ·rw [← hk,hw1,Bool.eq_iff_iff]
   simp only [beq_iff_eq];omega
  ·rw [← List.drop_drop,h];rfl
 ·exact absurd hw1.symm hw
theorem Z8x {l:List Tk} {ts r:List (List UInt8)} {w:List UInt8} {x:X} (hl:l.map Z8e=ts++w::r) (h:Gr 1 ts x) (hd:x.depth≤64) (hw:ofI w 2=none):Zxc l=(x.row 0,(ts.length:Int),0):=by
 have hs:Seg l 0 ts:=⟨[],w::r,by simpa using hl,rfl⟩;have hs2:Seg l (0+ts.length) (w::r):=⟨ts,[],by simpa using hl,by simp⟩;have hend:Zl7 l 1 (0+ts.length):=Zqg 1 hs2.head.1 hw
 have hc:Zw l (l.length+1) 1 ⟨0,[],0⟩=(true,⟨ts.length,x.row 0,0⟩):=by
  rw [Zw,h.climb 1 l.length (l.length+1) ⟨0,[],0⟩ hs (Int.le_refl _) (by decide) (Nat.le_refl _) (by show _<l.length+1+0;omega) (fun op ho=>by have:=hend op ho;omega)];rw [Zws hend]
  show (true,RS.mk _ _ _)=_
  rw [Nat.zero_add];rfl
 unfold Zxc;rw [hc,Zsm h.ok];simp only [Bool.true_eq_false,if_false];rw [if_neg (by omega)]
theorem Zy6 {l:List Tk} (h:(Zxc l).2.2=0):∃ ts x,Gr 1 ts x∧x.depth≤64∧(∃ r,l.map Z8e=ts++r)∧Zxc l=(x.row 0,(ts.length:Int),0):=by
 have hF:Zxc l=if (Zw l (l.length+1) 1 ⟨0,[],0⟩).1=false then (([]:List XN),((Zw l (l.length+1) 1 ⟨0,[],0⟩).2.i:Int),(Zw l (l.length+1) 1 ⟨0,[],0⟩).2.e)
  else if Z3b (Zw l (l.length+1) 1 ⟨0,[],0⟩).2.nodes > 64 then ([],0,3) else ((Zw l (l.length+1) 1 ⟨0,[],0⟩).2.nodes,((Zw l (l.length+1) 1 ⟨0,[],0⟩).2.i:Int),(0:Int)):=rfl
 by_cases hb:(Zw l (l.length+1) 1 ⟨0,[],0⟩).1=true
 ·obtain ⟨ts,x,g,sg,e⟩:=Zft _ 1 ⟨0,[],0⟩ (by decide) (by decide) hb
  rw [hb] at hF;simp only [Bool.true_eq_false,if_false] at hF;have hok:=g.ok
  have hn:(Zw l (l.length+1) 1 ⟨0,[],0⟩).2.nodes=x.row 0:=by rw [e];simp [after]
  rw [hn,Zsm hok] at hF
  by_cases hdp:(x.depth:Int) > 64
  ·rw [if_pos hdp] at hF
   rw [hF] at h;cases h
  rw [if_neg hdp] at hF
  have hi:(Zw l (l.length+1) 1 ⟨0,[],0⟩).2.i=ts.length:=by rw [e];show 0+ts.length=_;omega
  rw [hi] at hF;obtain ⟨pre,post,e1,e2⟩:=sg;have hp:pre=[]:=List.length_eq_zero_iff.1 e2;rw [hp] at e1;exact ⟨ts,x,g,by omega,⟨post,by simpa using e1⟩,hF⟩
 ·have hb:(Zw l (l.length+1) 1 ⟨0,[],0⟩).1=false:=by simpa using hb
  rw [if_pos hb] at hF
  exfalso
  have he:=Zgt (l.length+1) 1 ⟨0,[],0⟩ (by show l.length<l.length+1+0;omega) (Nat.zero_le _) hb;rw [hF] at h;exact he h
theorem Zvv {w:List UInt8} (h:isP w=2):w≠[]∧w≠Zrg:=by
 refine ⟨?_,?_⟩
 ·rintro rfl;revert h;decide +kernel
 ·rintro rfl;revert h;decide +kernel
theorem Zbs:ofI [59] 2=none∧ofI [41] 2=none:=by decide +kernel
theorem map_drop {l:List Tk} (i:Nat):(l.drop i).map Z8e=(l.map Z8e).drop i:=List.map_drop ..
theorem gr_head {n:Int} {ts:List (List UInt8)} {x:X} (h:Gr n ts x):∃ u us,ts=u::us∧u≠[41]∧u≠[]:=by
 induction h with
 | num h1 _=>exact ⟨_,_,rfl,by rintro rfl;revert h1;decide +kernel,by rintro rfl;revert h1;decide +kernel⟩
 | name h1=>exact ⟨_,_,rfl,by rintro rfl;revert h1;decide +kernel,by rintro rfl;revert h1;decide +kernel⟩
 | tr=>exact ⟨_,_,rfl,by decide,by decide⟩
 | fa=>exact ⟨_,_,rfl,by decide,by decide⟩
 | neg _ _=>exact ⟨_,_,rfl,by decide,by decide⟩
 | not _ _=>exact ⟨_,_,rfl,by decide,by decide⟩
 | par _=>exact ⟨_,_,rfl,by decide,by decide⟩
 | bin _ _ _ _ _ ih _ =>
  obtain ⟨u,us,rfl,h1,h2⟩:=ih;exact ⟨u,_,rfl,h1,h2⟩
 | ite _ _ _=>exact ⟨_,_,rfl,by decide,by decide⟩
theorem GB.body {ws:List (List UInt8)} {b:List ASt} (h:GB ws b):∀ (l:List Tk) (n f i:Nat) (acc:List ASt),(l.map Z8e).drop i=ws→i≤l.length→l.length<f+i→acc.length+b.length≤512 →
  Zif l n f i acc=(acc++b,0,0):=by
 have step:∀ {l:List Tk} {n f i j:Nat} {acc b:List ASt} {s:ASt},i<l.length→acc.length+(b.length+1)≤512→Zjc l i=(s,(j:Int),0)→Zif l n f j (acc++[s])=(acc++s::b,0,0) →
   Zif l n (f+1) i acc=(acc++s::b,0,0):=by
  intro l n f i j acc b s hi ha hs hb;rw [Zif,if_neg (by omega),if_neg (by omega),hs];simp only [ne_eq,not_true_eq_false,if_false,Int.toNat_natCast];exact hb
 have hshut:∀ {l:List Tk} {j:Nat} {w:List UInt8} {ws:List (List UInt8)},Zib l j=w→Zjb l (w::ws) j=Zjb l ws (j+1):=by
  intro l j w ws h;rw [Zjb,if_pos h]
 induction h with
 | nil =>
  intro l n f i acc hd hi hf ha
  have:l.length≤i:=by
   have:=congrArg List.length hd;rw [List.length_drop,List.length_map] at this;simp only [List.length_nil] at this;omega
  obtain ⟨f,rfl⟩:∃ m,f=m+1:=⟨f-1,by omega⟩;rw [Zif,if_pos this,List.append_nil]
 | @asg nm ts r x b hn g hdp _ ih =>
  intro l n f i acc hd hi hf ha;obtain ⟨e1,e2⟩:=Zvv hn;obtain ⟨i1,t1,n1,d1⟩:=Z5c hd e1;obtain ⟨i2,t2,_,d2⟩:=Z5c d1 (by decide);have hfr:Zxc (l.drop (i+2))=(x.row 0,(ts.length:Int),0):=Z8x (by rw [map_drop];exact d2) g hdp Zbs.1
  have d3:(l.map Z8e).drop (i+2+ts.length)=[59]::r:=by rw [← List.drop_drop,show (l.map Z8e).drop (i+2)=_ from d2,List.drop_left]
  obtain ⟨i3,t3,_,d4⟩:=Z5c d3 (by decide);obtain ⟨f,rfl⟩:∃ m,f=m+1:=⟨f-1,by omega⟩;simp only [List.length_cons] at ha;refine step (j:=i+2+ts.length+1) i1 ha ?_ ?_
  ·unfold Zjc Z9d Zjj Zlh
   have q:Zjb l [[59]] (i+2+ts.length)=(true,i+2+ts.length+1):=by rw [hshut t3];rfl
   rw [if_neg (by rw [t1];exact e2),n1,hn,t1,t2,hfr];simp only [Int.toNat_natCast,q];simp
  ·have:=ih l n f (i+2+ts.length+1) (acc++[⟨1,nm,x.row 0⟩]) d4 (by omega) (by omega) (by rw [List.length_append];simp only [List.length_cons,List.length_nil];omega)
   rw [this,List.append_assoc];rfl
 | @bare nm r b hn _ ih =>
  intro l n f i acc hd hi hf ha;obtain ⟨e1,e2⟩:=Zvv hn;obtain ⟨i0,t0,_,d0⟩:=Z5c hd (by decide);obtain ⟨i1,t1,n1,d1⟩:=Z5c d0 e1;obtain ⟨i2,t2,_,d2⟩:=Z5c d1 (by decide);obtain ⟨i3,t3,_,d3⟩:=Z5c d2 (by decide);obtain ⟨i4,t4,_,d4⟩:=Z5c d3 (by decide);obtain ⟨f,rfl⟩:∃ m,f=m+1:=⟨f-1,by omega⟩;simp only [List.length_cons] at ha;refine step (j:=i+1+1+1+1+1) i0 ha ?_ ?_
  ·unfold Zjc Z9d Zlh
   have q:Zjb l [[41],[59]] (i+1+2)=(true,i+1+2+1+1):=by
    have t3:Zib l (i+1+2)=[41]:=t3;have t4:Zib l (i+1+2+1)=[59]:=t4;rw [hshut t3,hshut t4];rfl
   have t3:Zib l (i+1+2)=[41]:=t3;rw [if_pos t0,n1,hn,t1,t2,t3];simp only [q];simp;omega
  ·have:=ih l n f (i+1+1+1+1+1) (acc++[⟨2,nm,[]⟩]) d4 (by omega) (by omega) (by rw [List.length_append];simp only [List.length_cons,List.length_nil];omega)
   rw [this,List.append_assoc];rfl
 | @emit nm ts r x b hn g hdp _ ih =>
  intro l n f i acc hd hi hf ha;obtain ⟨e1,e2⟩:=Zvv hn;obtain ⟨i0,t0,_,d0⟩:=Z5c hd (by decide);obtain ⟨i1,t1,n1,d1⟩:=Z5c d0 e1;obtain ⟨i2,t2,_,d2⟩:=Z5c d1 (by decide);have hfr:Zxc (l.drop (i+1+2))=(x.row 0,(ts.length:Int),0):=Z8x (by rw [map_drop];exact d2) g hdp Zbs.2
  have d3:(l.map Z8e).drop (i+1+2+ts.length)=[41]::[59]::r:=by rw [← List.drop_drop,show (l.map Z8e).drop (i+1+2)=_ from d2,List.drop_left]
  obtain ⟨i3,t3,_,d4⟩:=Z5c d3 (by decide);obtain ⟨i4,t4,_,d5⟩:=Z5c d4 (by decide)
  have hn41:Zib l (i+1+2)≠[41]:=by
   intro hq
   have hz:∃ u us,ts=u::us∧u≠[41]∧u≠[]:=by
    clear hfr d3 i3 t3 d4 i4 t4 d5 ih hd d0 d1 d2;exact gr_head g
   obtain ⟨u,us,rfl,hu,hu0⟩:=hz;obtain ⟨_,tq,_,_⟩:=Z5c (w:=u) (r:=us++[41]::[59]::r) (show (l.map Z8e).drop (i+1+2)=_ from d2) hu0;exact hu (tq.symm.trans hq)
  obtain ⟨f,rfl⟩:∃ m,f=m+1:=⟨f-1,by omega⟩;simp only [List.length_cons] at ha;refine step (j:=i+1+2+ts.length+1+1) i0 ha ?_ ?_
  ·unfold Zjc Z9d Zjj Zlh
   have q:Zjb l [[41],[59]] (i+1+2+ts.length)=(true,i+1+2+ts.length+1+1):=by rw [hshut t3,hshut t4];rfl
   rw [if_pos t0,n1,hn,t1,t2,hfr];simp only [Int.toNat_natCast,q];simp [hn41]
  ·have:=ih l n f (i+1+2+ts.length+1+1) (acc++[⟨2,nm,x.row 0⟩]) d5 (by omega) (by omega) (by rw [List.length_append];simp only [List.length_cons,List.length_nil];omega)
   rw [this,List.append_assoc];rfl
theorem Zli {l:List Tk} {w:List UInt8} {ws:List (List UInt8)} {j:Nat} (h:(Zjb l (w::ws) j).1=true):Zib l j=w∧Zjb l (w::ws) j=Zjb l ws (j+1):=by
 rw [Zjb] at h ⊢
 split at h
 ·rename_i q;rw [if_pos q];exact ⟨q,rfl⟩
 ·cases h
theorem Zkx {l:List Tk} {s:ASt} {ws:List (List UInt8)} {j:Nat} (h:(Zlh l s ws j).2.2=0):(Zjb l ws j).1=true∧Zlh l s ws j=(s,((Zjb l ws j).2:Int),0):=by
 unfold Zlh at h ⊢
 by_cases q:(Zjb l ws j).1=true
 ·rw [if_pos q];exact ⟨q,rfl⟩
 ·simp only [q] at h;cases h
theorem Zj5 {l:List Tk} (hW:Wds l) {i:Nat} (h:(Zjc l i).2.2=0):∃ (s:ASt) (j:Nat),Zjc l i=(s,(j:Int),0)∧i<j∧j≤l.length∧∀ b,GB ((l.map Z8e).drop j) b→GB ((l.map Z8e).drop i) (s::b):=by
 unfold Zjc at h ⊢
 have expr:∀ {k:Int} {nm:List UInt8} {ws:List (List UInt8)} {p:Nat},(Zjj l k nm ws p).2.2=0→∃ ts x,Gr 1 ts x∧x.depth≤64∧(l.map Z8e).drop p=ts++(l.map Z8e).drop (p+ts.length) ∧
   (Zjb l ws (p+ts.length)).1=true∧Zjj l k nm ws p=(⟨k,nm,x.row 0⟩,((Zjb l ws (p+ts.length)).2:Int),0):=by
  intro k nm ws p hq;unfold Zjj at hq ⊢
  by_cases h0:(Zxc (l.drop p)).2.2=0
  ·rw [if_neg (by simpa using h0)] at hq ⊢
   obtain ⟨ts,x,g,hd,⟨r,hr⟩,e⟩:=Zy6 h0;rw [e] at hq ⊢;simp only [Int.toNat_natCast] at hq ⊢;obtain ⟨q1,q2⟩:=Zkx hq;refine ⟨ts,x,g,hd,?_,q1,q2⟩;rw [map_drop] at hr;rw [← List.drop_drop,hr,List.drop_left]
  ·rw [if_pos h0] at hq;exact absurd hq h0
 by_cases h1:Zib l i=Zrg
 ·rw [if_pos h1] at h ⊢
  have hi:i<l.length:=Zdd (by rw [h1];decide);have d0:=hW.drop hi;rw [h1] at d0
  have hq:Z9d l 2 [40] [[41],[59]] (i+1)=if Zzf l (i+1)=false then (⟨2,[],[]⟩,((i+1:Nat):Int),110)
   else if Zib l (i+1+1)≠[40] then (⟨2,Zib l (i+1),[]⟩,((i+1+1:Nat):Int),110)
   else if (2:Int)=2∧Zib l (i+1+2)=[41] then Zlh l ⟨2,Zib l (i+1),[]⟩ [[41],[59]] (i+1+2)
   else Zjj l 2 (Zib l (i+1)) [[41],[59]] (i+1+2):=rfl
  rw [hq] at h ⊢
  by_cases h2:Zzf l (i+1)=true
  rotate_left
  ·rw [if_pos (by simpa using h2)] at h;cases h
  rw [if_neg (by rw [h2];decide)] at h ⊢;obtain ⟨i1,n1⟩:=hW.name h2;have d1:=hW.drop i1
  by_cases h3:Zib l (i+1+1)=[40]
  rotate_left
  ·rw [if_pos h3] at h;cases h
  rw [if_neg (by rw [h3];simp)] at h ⊢;have i2:i+1+1<l.length:=Zdd (by rw [h3];decide);have d2:=hW.drop i2;rw [h3] at d2
  by_cases h4:Zib l (i+1+2)=[41]
  ·rw [if_pos ⟨rfl,h4⟩] at h ⊢
   obtain ⟨q1,q2⟩:=Zkx h;obtain ⟨t3,q3⟩:=Zli q1;rw [q3] at q1;obtain ⟨t4,q4⟩:=Zli q1;have i3:i+1+2<l.length:=Zdd (by rw [t3];decide);have i4:i+1+2+1<l.length:=Zdd (by rw [t4];decide);have d3:=hW.drop i3;have d4:=hW.drop i4;rw [t3] at d3;rw [t4] at d4;refine ⟨⟨2,Zib l (i+1),[]⟩,i+1+2+1+1,by rw [q2,q3,q4];rfl,by omega,by omega,fun b hb=>?_⟩;rw [d0,d1,d2,show (l.map Z8e).drop (i+1+1+1)=_ from d3,d4];exact .bare n1 hb
  ·rw [if_neg (fun hh=>h4 hh.2)] at h ⊢
   obtain ⟨ts,x,g,hd,hdr,q1,q2⟩:=expr h;obtain ⟨t3,q3⟩:=Zli q1;rw [q3] at q1;obtain ⟨t4,q4⟩:=Zli q1;have i3:i+1+2+ts.length<l.length:=Zdd (by rw [t3];decide);have i4:i+1+2+ts.length+1<l.length:=Zdd (by rw [t4];decide);have d3:=hW.drop i3;have d4:=hW.drop i4;rw [t3] at d3;rw [t4] at d4;refine ⟨⟨2,Zib l (i+1),x.row 0⟩,i+1+2+ts.length+1+1,by rw [q2,q3,q4];rfl,by omega,by omega,fun b hb=>?_⟩;rw [d0,d1,d2,show (l.map Z8e).drop (i+1+1+1)=_ from hdr,d3,d4];exact .emit n1 g hd hb
 ·rw [if_neg h1] at h ⊢
  have hq:Z9d l 1 [58,61] [[59]] i=if Zzf l i=false then (⟨1,[],[]⟩,(i:Int),110)
   else if Zib l (i+1)≠[58,61] then (⟨1,Zib l i,[]⟩,((i+1:Nat):Int),110)
   else if (1:Int)=2∧Zib l (i+2)=[41] then Zlh l ⟨1,Zib l i,[]⟩ [[59]] (i+2)
   else Zjj l 1 (Zib l i) [[59]] (i+2):=rfl
  rw [hq] at h ⊢
  by_cases h2:Zzf l i=true
  rotate_left
  ·rw [if_pos (by simpa using h2)] at h;cases h
  rw [if_neg (by rw [h2];decide)] at h ⊢;obtain ⟨i1,n1⟩:=hW.name h2;have d1:=hW.drop i1
  by_cases h3:Zib l (i+1)=[58,61]
  rotate_left
  ·rw [if_pos h3] at h;cases h
  rw [if_neg (by rw [h3];simp),if_neg (fun hh=>absurd hh.1 (by decide))] at h ⊢;have i2:i+1<l.length:=Zdd (by rw [h3];decide);have d2:=hW.drop i2;rw [h3] at d2;obtain ⟨ts,x,g,hd,hdr,q1,q2⟩:=expr h;obtain ⟨t3,q3⟩:=Zli q1;have i3:i+2+ts.length<l.length:=Zdd (by rw [t3];decide);have d3:=hW.drop i3;rw [t3] at d3;refine ⟨⟨1,Zib l i,x.row 0⟩,i+2+ts.length+1,by rw [q2,q3];rfl,by omega,by omega,fun b hb=>?_⟩;rw [d1,d2,show (l.map Z8e).drop (i+1+1)=_ from hdr,d3];exact .asg n1 g hd hb
theorem Zhy {l:List Tk} (hW:Wds l) (n:Nat):∀ (f i:Nat) (acc:List ASt),l.length<f+i→i≤l.length→acc.length≤512→(Zif l n f i acc).2.2=0 →
  ∃ b,Zif l n f i acc=(acc++b,0,0)∧GB ((l.map Z8e).drop i) b∧acc.length+b.length≤512
 | 0,i,acc,h1,h2,_,_=>by omega
 | f+1,i,acc,h1,h2,h3,h=>by
  rw [Zif] at h ⊢
  by_cases q:l.length≤i
  ·rw [if_pos q] at h ⊢
   refine ⟨[],by rw [List.append_nil],?_,by simpa using h3⟩;rw [List.drop_of_length_le (by rw [List.length_map];exact q)];exact .nil
  rw [if_neg q] at h ⊢
  by_cases q2:acc.length=512
  ·rw [if_pos q2] at h;cases h
  rw [if_neg q2] at h ⊢
  by_cases q3:(Zjc l i).2.2=0
  rotate_left
  ·rw [if_pos q3] at h;exact absurd h q3
  rw [if_neg (by simpa using q3)] at h ⊢;obtain ⟨s,j,e,hj,hjl,hg⟩:=Zj5 hW q3;rw [e] at h ⊢;simp only [Int.toNat_natCast] at h ⊢;obtain ⟨b,e2,g,hl⟩:=Zhy hW n f j (acc++[s]) (by omega) hjl (by rw [List.length_append];simp only [List.length_cons,List.length_nil];omega) h;refine ⟨s::b,by rw [e2,List.append_assoc];rfl,hg b g,?_⟩;rw [List.length_append] at hl;simp only [List.length_cons,List.length_nil] at hl ⊢;omega
theorem Za5 {s:List UInt8} (h:(Z5b s).2.2=0):Z5b s=((Z5b s).1,0,0):=by
 unfold Z5b at h ⊢
 split at h
 ·cases h
 ·rename_i q
  rw [if_neg q]
  have key:∀ (f i:Nat) (acc:List Tk),(Zcc f s i acc).2.2=0→Zcc f s i acc=((Zcc f s i acc).1,0,0):=by
   intro f
   induction f with
   | zero=>intro i acc _;rfl
   | succ f ih =>
    intro i acc hh;rw [Zcc] at hh ⊢
    split
    ·rename_i q1
     rw [if_pos q1] at hh
     split
     ·rename_i q2
      rw [if_pos q2] at hh;cases hh
     ·rename_i q2
      rw [if_neg q2] at hh;exact ih _ _ hh
    ·rfl
  exact key _ _ _ h
theorem Z13 {s:List UInt8} (h:(Z4c s).2.2=0):∃ l b,Z5b s=(l,0,0)∧GB (l.map Z8e) b∧b.length≤512∧Z4c s=(b,0,0):=by
 have hP:Z4c s=if (Z5b s).2.2≠0 then (([]:List ASt),(Z5b s).2.1,(Z5b s).2.2) else Zif (Z5b s).1 s.length ((Z5b s).1.length+1) 0 []:=rfl
 by_cases h0:(Z5b s).2.2=0
 rotate_left
 ·rw [hP,if_pos h0] at h;exact absurd h h0
 rw [hP,if_neg (by simpa using h0)] at h ⊢;obtain ⟨b,e,g,hl⟩:=Zhy (Z94 s) s.length ((Z5b s).1.length+1) 0 [] (by omega) (Nat.zero_le _) (Nat.zero_le _) h;exact ⟨(Z5b s).1,b,Za5 h0,g,by simpa using hl,by rw [e];rfl⟩
end Go.Hs
end

section
namespace Go.Hs
theorem grN {n:Int} {ts:List (List UInt8)} {x:X} (h:Gr n ts x):∀ k:Int,∀ m∈x.row k,m.name.length≤64:=by
 induction h with
 | num _ _=>intro k m hm;simp only [X.row,List.mem_singleton] at hm;subst hm;exact Nat.zero_le _
 | name h1=>intro k m hm;simp only [X.row,List.mem_singleton] at hm;subst hm;exact (Zaj (by rw [h1];decide)).2.2
 | tr=>intro k m hm;simp only [X.row,List.mem_singleton] at hm;subst hm;exact Nat.zero_le _
 | fa=>intro k m hm;simp only [X.row,List.mem_singleton] at hm;subst hm;exact Nat.zero_le _
 | neg _ _ ih =>
  intro k m hm;simp only [X.row,List.mem_append,List.mem_singleton] at hm
  rcases hm with hm | rfl
  ·exact ih k m hm
  ·exact Nat.zero_le _
 | not _ _ ih =>
  intro k m hm;simp only [X.row,List.mem_append,List.mem_singleton] at hm
  rcases hm with hm | rfl
  ·exact ih k m hm
  ·exact Nat.zero_le _
 | par _ ih=>exact ih
 | bin _ _ _ _ _ i1 i2 =>
  intro k m hm;simp only [X.row,List.mem_append,List.mem_singleton] at hm
  rcases hm with (hm | hm) | rfl
  ·exact i1 k m hm
  ·exact i2 _ m hm
  ·exact Nat.zero_le _
 | ite _ _ _ i1 i2 i3 =>
  intro k m hm;simp only [X.row,List.mem_append,List.mem_singleton] at hm
  rcases hm with ((hm | hm) | hm) | rfl
  ·exact i1 k m hm
  ·exact i2 _ m hm
  ·exact i3 _ m hm
  ·exact Nat.zero_le _
structure SU (m:Nat) (s:ASt):Prop where
 n:s.name.length≤64
 l:s.x.length≤m
 x:∀ n∈s.x,n.name.length≤64
 f:∀ n∈s.x,Zsb n.num=true
theorem GB.su {ws:List (List UInt8)} {b:List ASt} (h:GB ws b):∀ s∈b,SU ws.length s:=by
 induction h with
 | nil=>intro s hs;cases hs
 | asg n g d _ ih =>
  have hs0:=g.size;intro s hs;simp only [List.length_cons,List.length_append]
  rcases List.mem_cons.1 hs with rfl | hs
  ·exact ⟨(Zaj (by rw [n];decide)).2.2,by show (X.row _ _).length≤_;rw [X.row_len];omega,grN g 0,Zue _ 0 g.ok g.fit⟩
  ·have:=ih s hs;exact ⟨this.n,by have:=this.l;omega,this.x,this.f⟩
 | bare n _ ih =>
  intro s hs;simp only [List.length_cons]
  rcases List.mem_cons.1 hs with rfl | hs
  ·exact ⟨(Zaj (by rw [n];decide)).2.2,Nat.zero_le _,(fun n hn=>by cases hn),(fun n hn=>by cases hn)⟩
  ·have:=ih s hs;exact ⟨this.n,by have:=this.l;omega,this.x,this.f⟩
 | emit n g d _ ih =>
  have hs0:=g.size;intro s hs;simp only [List.length_cons,List.length_append]
  rcases List.mem_cons.1 hs with rfl | hs
  ·exact ⟨(Zaj (by rw [n];decide)).2.2,by show (X.row _ _).length≤_;rw [X.row_len];omega,grN g 0,Zue _ 0 g.ok g.fit⟩
  ·have:=ih s hs;exact ⟨this.n,by have:=this.l;omega,this.x,this.f⟩
theorem Zit {l:List Tk} {n:Nat}:∀ (f i:Nat) (acc:List ASt),(Zif l n f i acc).2.2≠0→(Zif l n f i acc).1=[]
 | 0,i,acc,h=>absurd rfl h
 | f+1,i,acc,h=>by
  rw [Zif] at h ⊢
  by_cases q1:l.length≤i
  ·rw [if_pos q1] at h;exact absurd rfl h
  rw [if_neg q1] at h ⊢
  by_cases q2:acc.length=512
  ·rw [if_pos q2]
  rw [if_neg q2] at h ⊢
  by_cases q3:(Zjc l i).2.2≠0
  ·rw [if_pos q3]
  rw [if_neg q3] at h ⊢;exact Zit f _ _ h
theorem Zc7 {s:List UInt8}:(Z4c s).1.length≤512∧∀ a∈(Z4c s).1,SU s.length a:=by
 by_cases h:(Z4c s).2.2=0
 ·obtain ⟨l,b,e1,g,hl,e⟩:=Z13 h
  have hc:=Zzy e1;rw [e];refine ⟨hl,fun a ha=>?_⟩;have:=g.su a ha;exact ⟨this.n,Nat.le_trans this.l (by rw [List.length_map];exact hc),this.x,this.f⟩
 ·have:(Z4c s).1=[]:=by
   unfold Z4c at h ⊢
   by_cases h1:(Z5b s).2.2≠0
   ·rw [if_pos h1]
   rw [if_neg h1] at h ⊢;exact Zit _ _ _ h
  rw [this];exact ⟨Nat.zero_le _,fun a ha=>by cases ha⟩
end Go.Hs
end

section
namespace Go.Hs
open Go.Proofs
set_option maxRecDepth 10000
set_option maxHeartbeats 1000000
def toAU (s:ASt):AM:=⟨s.kind,s.name,Zba s.x⟩
def amU (l:List ASt):Sl AM:=Zba (l.map toAU)
theorem toAU_v (s:ASt):(toAU s).v=s:=by
 show ASt.mk s.kind s.name (Zba s.x).l=s
 rw [Zcb]
theorem amU_l (l:List ASt):(amU l).l=l.map toAU:=Zcb _
theorem amU_v (l:List ASt):(amU l).l.map AM.v=l:=by
 rw [amU_l,List.map_map];exact (List.map_congr_left fun s _=>toAU_v s).trans (List.map_id _)
theorem Ze0 (c:Col) (l:List ASt):Zd8 c l=Za c 3 (Zia c) (amU l):=by
 cases l with
 | nil=>rfl
 | cons s r =>
  show V.slice c false 3 ((s::r).map (Zkj c))=V.slice c false 3 (((s::r).map toAU).map (Zia c))
  rw [List.map_map];rfl
structure VarIn (vs:List (List UInt8 × Int)) (arg:Int):Prop where
 hv:vs.length<100000
 hf:∀ p∈vs,Zsb p.2=true
 ha:Zsb arg=true
theorem VarIn.txt {vs:List (List UInt8 × Int)} {arg:Int} (h:VarIn vs arg) {s:List UInt8} (hs:s.length<100000):RunIn (amU (Z4c s).1) vs arg:=by
 obtain ⟨h1,h2⟩:=Zc7 (s:=s)
 have key:∀ a∈(amU (Z4c s).1).l,∃ q,SU s.length q∧a=toAU q:=by
  intro a ha;rw [amU_l,List.mem_map] at ha;obtain ⟨q,hq,rfl⟩:=ha;exact ⟨q,h2 q hq,rfl⟩
 refine ⟨by rw [amU_l,List.length_map];omega,fun a ha=>?_,fun a ha n hn=>?_,h.hv,h.hf,h.ha⟩
 ·obtain ⟨q,hq,rfl⟩:=key a ha
  refine ⟨by have:=hq.n;show q.name.length<_;omega,?_,fun n hn=>?_⟩
  ·show (Zba q.x).l.length<_;rw [Zcb];have:=hq.l;omega
  ·have hn:n∈(Zba q.x).l:=hn
   rw [Zcb] at hn;have:=hq.x n hn;omega
 ·obtain ⟨q,hq,rfl⟩:=key a ha
  have hn:n∈(Zba q.x).l:=hn;rw [Zcb] at hn;exact hq.f n hn
noncomputable def textU (s:List UInt8) (arg:Int) (vs:List (List UInt8 × Int)):RU × Int:=if (Z4c s).2.2≠0 then (⟨[],[],0⟩,(Z4c s).2.2) else runB arg (Z4c s).1 vs
def svT (s:List UInt8) (vs:Sl (List UInt8 × Int)) (l:List (List UInt8 × Int)):Sl (List UInt8 × Int):=if (Z4c s).2.2≠0 then .nil else svR (Z4c s).1 vs l
theorem Zk1 (G:Nat→V) (hE:GExp G) (c2:Col) (s:List UInt8) (hs:s.length<100000) (vs:Sl (List UInt8 × Int)) (arg:Int) (h:VarIn vs.l arg) :
  Spec Tryz.prog G 34 [.str s,Za c2 2 Zz vs,.int .i64 arg] Zk (fun v _=>v=ansR (svT s vs (textU s arg vs.l).1.vars) (textU s arg vs.l)):=by
 have hG:=hE.ok;refine Zo 0 27 [.cell 6 74,.tmp 7] Tryz.func34 fun X=>?_;have hpa:=Zfw G hE s hs;have hin:=h.txt hs
 have hP:textU s arg vs.l=if (Z4c s).2.2≠0 then (⟨[],[],0⟩,(Z4c s).2.2) else runB arg (Z4c s).1 vs.l:=rfl
 have hS:svT s vs (textU s arg vs.l).1.vars=if (Z4c s).2.2≠0 then .nil else svR (Z4c s).1 vs (textU s arg vs.l).1.vars:=rfl
 generalize svT s vs (textU s arg vs.l).1.vars=sv at hS ⊢;generalize textU s arg vs.l=res at hP hS ⊢;generalize Z4c s=p at hP hS hpa hin;obtain ⟨b,wi,we⟩:=p;simp only at hP hS hin
 have hpe:encBP (b,wi,we) = .tuple [.agg [Za .new 3 (Zia .new) (amU b)],.int .i64 wi,.int .i64 we]:=by unfold encBP;rw [Ze0]
 rw [hpe] at hpa;refine Z ?_;intro g6;refine Z ?_;refine Zc hG ?_ (s:=hpa);intro g8
 by_cases he:we=0
 ·subst he
  rw [if_neg (by decide)] at hP hS;refine Z ?_
  have hr:∀ c c1 c2,Spec Tryz.prog G 32 [.agg [Za c 3 (Zia c1) (amU b)],Za c2 2 Zz vs,.int .i64 arg] Zk (fun v _=>v = .tuple [.agg [Za .new 2 Zz sv,Za .new 2 Zz (Zba res.1.emits),.int .i64 res.1.done],.int .i64 res.2]):=fun c c1 c2=>by
   have:=Zox G hE c c1 c2 (amU b) vs arg hin;rw [amU_v,← hP,← hS] at this;exact this
  refine Zc hG ?_ (s:=hr _ _ _);exact Zr
 ·have q:(we != 0)=true:=by simpa using he
  rw [if_pos he] at hP hS;refine Zf q ?_;rw [hS,hP];rfl
end Go.Hs
end

section
namespace Go.Hs
open Go.Proofs
set_option maxRecDepth 10000
set_option maxHeartbeats 1000000
theorem Zot (G:Nat→V) (hG:GOk G) (c:Col) (s:List UInt8) (l:Sl (List UInt8)) (hl:l.l.length<1000000) :
  Spec Tryz.prog G 39 [.str s,Za c 1 V.str l] Zk (fun v _=>v = .bool (l.l.contains s)):=by
 refine Zo 0 18 [.tmp 4] Tryz.func39 fun X=>?_;refine Z ?_;refine Zpb l.l.length (fun k (_:Unit)=>st [(0,.str s),(1,Za c 1 V.str l),(5,.int .i64 k)] []) (fun k _=>∀ y∈l.l.take k,y≠s) 0 () (Nat.zero_le _) (by simp) (Zg zp zp) ?_;intro k _ hk hR L3 hL3
 by_cases hk1:k<l.l.length
 ·have hlt:decide ((k:Int)<(l.l.length:Int))=true:=zT
  have hg:=List.getElem?_eq_getElem hk1;have hm:l.l[k]∈l.l:=List.getElem_mem hk1
  have htk:l.l.take (k+1)=l.l.take k++[l.l[k]]:=by rw [List.take_succ_eq_append_getElem hk1]
  generalize l.l[k]=x at hg htk hm;have w1:IntKind.i64.wrap ((k:Int)+1)=(k:Int)+1:=w64 (by omega) (by omega)
  by_cases hx:x=s
  ·have q:(x==s)=true:=by simpa using hx
   refine Zf (zi hlt (zi hg q)) ?_;subst hx;rw [List.contains_eq_mem];exact congrArg _ (decide_eq_true hm).symm
  ·have q:(x==s)=false:=by simpa using hx
   refine Zf (zi hlt (zi hg (zi q w1))) ?_;refine hL3 _ ⟨hk1,(),?_,Zg zp zp⟩;intro y hy;rw [htk,List.mem_append,List.mem_singleton] at hy
   rcases hy with hy | rfl
   ·exact hR y hy
   ·exact hx
 have hke:k=l.l.length:=by omega
 subst hke
 have hlt:decide ((l.l.length:Int)<(l.l.length:Int))=false:=by simp
 rw [List.take_length] at hR;refine Zf hlt ?_;rw [List.contains_eq_mem];exact congrArg _ (decide_eq_false fun h=>hR s h rfl).symm
end Go.Hs
end

section
namespace Go.Hs
open Go.Proofs
set_option maxRecDepth 10000
set_option maxHeartbeats 1000000
theorem Z2g {arg:Int} {v:List (List UInt8 × Int)} {x:X} (hx:x.ok=true) (hc:Zna (x.row 0)=0):worthU arg v (x.row 0)=(evX (v++[(Z3k,arg)]) x).need 1:=by
 unfold worthU;rw [if_neg (fun h=>by have:=congrArg List.length h;rw [X.row_len] at this;have:=x.size_pos;simp at *;omega),Zyp hx hc]
theorem Zqi {w:List (List UInt8 × Int)→List XN→EV} {s:ASt} {t:List ASt} {r r2:RU} (h:Zzb w s r=(r2,0)):Z3f w (s::t) r=Z3f w t r2:=by
 rw [Z3f,h,if_neg (by show ¬(0:Int)≠0;decide)]
theorem Zis {w:List (List UInt8 × Int)→List XN→EV} {s:ASt} {t:List ASt} {r r2:RU} {e:Int} (h:Zzb w s r=(r2,e)) (he:e≠0):Z3f w (s::t) r=(r2,e):=by
 rw [Z3f,h,if_pos (by show e≠0;exact he)]
theorem Zap {s:List UInt8} {arg:Int} {vs:List (List UInt8 × Int)} {b:List ASt} {q:RU × Int} (h:Z4c s=(b,0,0)) (hc:Z3a b=0) (hr:Z3f (worthU arg) b ⟨vs,[],0⟩=q):textU s arg vs=q:=by
 unfold textU runB;rw [h,if_neg (by show ¬(0:Int)≠0;decide),if_neg (by rw [hc];decide),hr]
theorem Zm1 {s:List UInt8} {vs:Sl (List UInt8 × Int)} {l:List (List UInt8 × Int)} {b:List ASt} (h:Z4c s=(b,0,0)) (hc:Z3a b=0):svT s vs l=svU (Z2u vs) l:=by
 unfold svT svR;rw [h,if_neg (by show ¬(0:Int)≠0;decide),if_neg (by rw [hc];decide)]
def wn:List UInt8:=[110]
def wgo:List UInt8:=[103,111]
def wV:Sl (List UInt8 × Int) := .mk false [(wn,2)]
def wt1:List UInt8:=[110,32,58,61,32,110,32,43,32,97,114,103,59,32,101,109,105,116,32,103,111,40,110,41,59,32,101,109,105,116,32,103,111,40,41,59]
def wt2:List UInt8:=[101,109,105,116,32,103,111,40,49,41,59,32,110,32,58,61,32,110,32,100,105,118,32,48,59,32,110,32,58,61,32,55,59]
def wt3:List UInt8:=[109,32,58,61,32,49,32,100,105,118,32,48,59]
def wx1:X := .bin 10 (.leaf 2 0 [110]) (.leaf 2 0 [97,114,103])
def wx2:X := .leaf 2 0 [110]
def wx3:X := .leaf 1 1 []
def wx4:X := .bin 8 (.leaf 2 0 [110]) (.leaf 1 0 [])
def wx5:X := .leaf 1 7 []
def wx6:X := .bin 8 (.leaf 1 1 []) (.leaf 1 0 [])
def wb1:List ASt:=[⟨1,wn,wx1.row 0⟩,⟨2,wgo,wx2.row 0⟩,⟨2,wgo,[]⟩]
def wb2:List ASt:=[⟨2,wgo,wx3.row 0⟩,⟨1,wn,wx4.row 0⟩,⟨1,wn,wx5.row 0⟩]
def wb3:List ASt:=[⟨1,[109],wx6.row 0⟩]
theorem wp1:Z4c wt1=(wb1,0,0):=by decide +kernel
theorem wp2:Z4c wt2=(wb2,0,0):=by decide +kernel
theorem wp3:Z4c wt3=(wb3,0,0):=by decide +kernel
theorem wc1:Z3a wb1=0:=by decide +kernel
theorem wc2:Z3a wb2=0:=by decide +kernel
theorem wc3:Z3a wb3=0:=by decide +kernel
theorem wr1:textU wt1 3 wV.l=(⟨[(wn,5)],[(wgo,5),(wgo,0)],3⟩,0):=by
 refine Zap wp1 wc1 ?_;have h1:worthU 3 [(wn,2)] (wx1.row 0) = .num 5:=(Z2g (by decide +kernel) (by decide +kernel)).trans (by decide +kernel);have h2:worthU 3 [(wn,5)] (wx2.row 0) = .num 5:=(Z2g (by decide +kernel) (by decide +kernel)).trans (by decide +kernel);have h3:worthU 3 [(wn,5)] [] = .num 0:=if_pos rfl;refine (Zqi (r2:=⟨[(wn,5)],[],1⟩) (by unfold Zzb;rw [show worthU 3 wV.l (wx1.row 0) = .num 5 from h1];rfl)).trans ?_;refine (Zqi (r2:=⟨[(wn,5)],[(wgo,5)],2⟩) (by unfold Zzb;rw [h2];rfl)).trans ?_;refine (Zqi (r2:=⟨[(wn,5)],[(wgo,5),(wgo,0)],3⟩) (by unfold Zzb;rw [h3];rfl)).trans rfl
theorem wr2:textU wt2 3 wV.l=(⟨[(wn,2)],[(wgo,1)],1⟩,61):=by
 refine Zap wp2 wc2 ?_;have h1:worthU 3 [(wn,2)] (wx3.row 0) = .num 1:=(Z2g (by decide +kernel) (by decide +kernel)).trans (by decide +kernel);have h2:worthU 3 [(wn,2)] (wx4.row 0) = .err 61:=(Z2g (by decide +kernel) (by decide +kernel)).trans (by decide +kernel);refine (Zqi (r2:=⟨[(wn,2)],[(wgo,1)],1⟩) (by unfold Zzb;rw [show worthU 3 wV.l (wx3.row 0) = .num 1 from h1];rfl)).trans ?_;exact Zis (by unfold Zzb;rw [h2];rfl) (by decide)
theorem wr3:textU wt3 3 wV.l=(⟨[(wn,2)],[],0⟩,90):=by
 refine Zap wp3 wc3 ?_;exact Zis (by unfold Zzb;rw [if_pos (by decide +kernel)];rfl) (by decide)
theorem wIn:VarIn wV.l 3:=⟨by decide,by decide,by decide⟩
theorem Z1r (G:Nat→V) (hE:GExp G):Spec Tryz.prog G 28 [] Zk (fun v _=>v = .bool true):=by
 have hG:=hE.ok;have hT:=fun s hs c2=>Zk1 G hE c2 s hs wV 3 wIn;refine Zo 0 118 [.tmp 0] Tryz.func28 fun X=>?_;refine Z ?_;intro g9;refine Zs ?_;refine AW.weak (Z8 (fun o=>o==9) (l:=[(1,Za .new 2 Zz wV)]) (m:=[]) ?_ trivial) ?_
 ·simp -implicitDefEqProofs only[go_sem,seval,↓reduceIte]
  exact Zfi (f:=Zz) (l:=[(wn,2)]) (m:=2) (g:=g9) (fz:=0) (c := .new) rfl zp Zsc
 have t1:∀ c2,Spec Tryz.prog G 34 [.str wt1,Za c2 2 Zz wV,.int .i64 3] Zk (fun v _=>v = .tuple [.agg [Za .new 2 Zz (.mk false [(wn,5)]),Za .new 2 Zz (.mk false [(wgo,5),(wgo,0)]),.int .i64 3],.int .i64 0]):=fun c2=>by
  have:=hT wt1 (by decide) c2;rw [wr1,Zm1 wp1 wc1] at this;exact this
 have t2:∀ c2,Spec Tryz.prog G 34 [.str wt2,Za c2 2 Zz wV,.int .i64 3] Zk (fun v _=>v = .tuple [.agg [Za .new 2 Zz (.mk false [(wn,2)]),Za .new 2 Zz (.mk false [(wgo,1)]),.int .i64 1],.int .i64 61]):=fun c2=>by
  have:=hT wt2 (by decide) c2;rw [wr2,Zm1 wp2 wc2] at this;exact this
 have t3:∀ c2,Spec Tryz.prog G 34 [.str wt3,Za c2 2 Zz wV,.int .i64 3] Zk (fun v _=>v = .tuple [.agg [Za .new 2 Zz (.mk false [(wn,2)]),Za .new 2 Zz .nil,.int .i64 0],.int .i64 90]):=fun c2=>by
  have:=hT wt3 (by decide) c2;rw [wr3,Zm1 wp3 wc3] at this;exact this
 refine Z ?_;refine Zc hG ?_ (s:=t1 _);intro g2;refine Z ?_;refine Zc hG ?_ (s:=t2 _);intro g4;refine Z ?_;refine Zc hG ?_ (s:=t3 _);intro g6;have hw:wgo=[103,111]:=rfl;have hb:(([103,111]:List UInt8) != [103,111])=false:=rfl;have hb2:(([103,111]:List UInt8)==[103,111])=true:=rfl;exact Zq (zi Z1c (zi hw (zi hb hb2)))
end Go.Hs
end

section
namespace Go.Hs
open Go.Proofs
set_option maxRecDepth 10000
set_option maxHeartbeats 1000000
theorem Zgv {s:Sl AM} {vs:List (List UInt8 × Int)} {arg:Int} (h:RunIn s vs arg) (hc:Z3a (s.l.map AM.v)=0):RuOk vs.length s.l.length (runB arg (s.l.map AM.v) vs).1:=by
 obtain ⟨_,hall⟩:=Zih hc;unfold runB;rw [if_neg (by rw [hc];decide)];have h0:RuOk vs.length 0 (⟨vs,[],0⟩:RU):=⟨rfl,h.hf,Nat.le_refl _,Nat.le_refl _⟩
 have:=Z01 (w:=worthU arg) (s.l.map AM.v) h0 (fun v hv q hq=>by
  obtain ⟨a,ha,rfl⟩:=List.mem_map.1 hq
  exact Zlf (hall _ hq).2 (h.hn a ha) hv h.ha)
 rw [Nat.zero_add,List.length_map] at this;exact this
theorem svR_l {s:Sl AM} {vs:Sl (List UInt8 × Int)} {arg:Int} (h:RunIn s vs.l arg):(svR (s.l.map AM.v) vs (runB arg (s.l.map AM.v) vs.l).1.vars).l=(runB arg (s.l.map AM.v) vs.l).1.vars:=by
 by_cases hc:Z3a (s.l.map AM.v)=0
 ·have hl:=(Zgv h hc).len
  unfold svR;rw [if_neg (by rw [hc];decide)];refine Z2y fun q=>List.length_eq_zero_iff.1 ?_;rw [hl,Z27 q];rfl
 ·unfold svR runB
  rw [if_pos hc,if_pos hc];rfl
theorem Zcz {s:Sl AM} {vs:List (List UInt8 × Int)} {arg:Int} (h:RunIn s vs arg):(runB arg (s.l.map AM.v) vs).1.vars.length<100000∧(runB arg (s.l.map AM.v) vs).1.emits.length<1000000:=by
 have hv:=h.hv;have hs:=h.hs
 by_cases hc:Z3a (s.l.map AM.v)=0
 ·have:=Zgv h hc
  exact ⟨by rw [this.len];omega,by have:=this.em;omega⟩
 ·unfold runB
  rw [if_pos hc];exact ⟨by decide,by decide⟩
end Go.Hs
end

section
namespace Go.Hs
open Go.Proofs
set_option maxRecDepth 10000
set_option maxHeartbeats 1000000
theorem RunIn.sub {s:Sl AM} {vs:List (List UInt8 × Int)} {arg:Int} (h:RunIn s vs arg) (i j:Nat) {v:List (List UInt8 × Int)} (hl:v.length<100000) (hf:∀ p∈v,Zsb p.2=true):RunIn (s.sub i j) v arg:=by
 have hm:∀ a∈(s.sub i j).l,a∈s.l:=fun a ha=>by
  rw [Zlr] at ha;exact List.mem_of_mem_drop (List.mem_of_mem_take ha)
 refine ⟨?_,fun a ha=>h.hb a (hm a ha),fun a ha=>h.hn a (hm a ha),hl,hf,h.ha⟩;rw [Zlr,List.length_take,List.length_drop];have:=h.hs;omega
end Go.Hs
end

section
namespace Go.Hs
open Go.Proofs
set_option maxRecDepth 10000
def Zwr:List UInt8:=[97,114,103]
def Zxp (names:List (List UInt8)) (x:List XN):Bool:=x.isEmpty || (Zur names x).1==1
def stT (vars events:List (List UInt8)) (s:ASt):Bool:=(if s.kind=2 then events.contains s.name else vars.contains s.name) && Zxp (vars++[Zwr]) s.x
def Zmh (vars events:List (List UInt8)):List ASt→Int→Int × Int
 | [],_=>(0,0)
 | s::r,i=>if stT vars events s=true then Zmh vars events r (i+1) else (i,90)
def Zik (b:List ASt) (vars events:List (List UInt8)):Int × Int:=if Z3a b≠0 then (0,2) else Zmh vars events b 0
theorem Z5n {vars events:List (List UInt8)}:∀ (b:List ASt) (i:Int),(Zmh vars events b i).2=0 ↔ b.all (stT vars events)=true
 | [],i=>by simp [Zmh]
 | s::r,i=>by
  rw [Zmh,List.all_cons]
  by_cases h:stT vars events s=true
  ·rw [if_pos h,h,Bool.true_and];exact Z5n r (i+1)
  ·rw [if_neg h]
   simp only [h,Bool.false_and]
   constructor
   ·intro q;cases q
   ·intro q;cases q
theorem Z8u {vars events:List (List UInt8)} {b:List ASt} {k:Nat} {s:ASt} (h:b[k]? = some s):Zmh vars events (b.drop k) k=if stT vars events s=true then Zmh vars events (b.drop (k+1)) (k+1:Nat) else ((k:Int),90):=by
 obtain ⟨q1,q2⟩:=List.getElem?_eq_some_iff.1 h
 rw [List.drop_eq_getElem_cons q1,q2,Zmh]<;>rfl
theorem Zy3 {b:List ASt} (h:Z3a b=0):b.length≤512∧∀ s∈b,Zrr s=true:=by
 unfold Z3a at h
 split at h
 ·cases h
 ·split at h
  ·rename_i h1 h2
   rw [List.all_eq_true] at h2;exact ⟨by omega,h2⟩
  ·cases h
theorem Zz3 (l:List ASt):Z3a l=0∨Z3a l=2:=by
 unfold Z3a
 split
 ·exact .inr rfl
 ·split
  ·exact .inl rfl
  ·exact .inr rfl
theorem Zbf (w:List UInt8):(V.str w).cells.length=1:=rfl
def encTy (r:Int × Int):V := .tuple [.int .i64 r.1,.int .i64 r.2]
theorem ofTP_e {names:List (List UInt8)} {l:List XN} (h:(Zur names l).2.2≠0):(Zur names l).1=0:=by
 unfold Zur at h ⊢
 split
 ·rfl
 ·rename_i h1
  rw [if_neg h1] at h;exact absurd rfl h
theorem Zq1 {s:ASt} (h:Zrr s=true):s.kind=1∨s.kind=2:=by
 simp only [Zrr,Bool.and_eq_true,Bool.or_eq_true,beq_iff_eq] at h;exact h.1.1
theorem Z6v (G:Nat→V) (c:Col) (s:Sl (List UInt8)) (hs:s.l.length<1000000):InSp Tryz.prog G 61 [Za c 1 V.str s] (Zha Zk [(5005,.dead)])
  (fun v H'=>(s = .nil∧v = .nils∧H' 5005 = .dead)∨(∃ g,v = .msl 5005 g 0 s.l.length 1∧H' 5005 = .cells .new g 0 (flat (s.l.map V.str)))):=by
 refine Z1d 5000 8 [.tmp 2] Tryz.func61 rfl rfl rfl rfl fun X=>?_;simp only [Zha]
 cases s with
 | nil =>
  refine Z1 ?_;refine Z6 ?_;simp only [Za];refine Z ?_;exact .inl (by first | rfl | exact ⟨rfl,rfl,rfl⟩ | exact ⟨rfl,rfl⟩)
 | mk b l =>
  refine Z1 ?_;refine Z6 ?_;have hq:(Za c 1 V.str (.mk b l)) = .slice c b 1 (l.map V.str):=rfl;rw [hq];refine Z1 ?_;refine Z1 ?_;have hl:l.length<1000000:=hs;intro g;refine ⟨Zta (by omega) (by rw [List.length_map];omega),fun g2=>?_⟩;refine Z ?_;exact .inr ⟨g2,by rw [List.length_map],zr⟩
theorem Zew (G:Nat→V) (hE:GExp G) (c c1 c2 c3:Col) (s:Sl AM) (vars events:Sl (List UInt8)) (hs:s.l.length<1000000) (hb:∀ a∈s.l,AmB a) (hv:vars.l.length<100000) (hev:events.l.length<1000000) :
  Spec Tryz.prog G 38 [.agg [Za c 3 (Zia c1) s],Za c2 1 V.str vars,Za c3 1 V.str events] Zk (fun v _=>v=encTy (Zik (s.l.map AM.v) vars.l events.l)):=by
 have hG:=hE.ok;refine Zo 0 57 [.tmp 6,.tmp 7] Tryz.func38 fun X=>?_
 have hP:Zik (s.l.map AM.v) vars.l events.l=if Z3a (s.l.map AM.v)≠0 then (0,2) else Zmh vars.l events.l ((s.l.map AM.v).drop 0) (0:Nat):=rfl
 generalize Zik (s.l.map AM.v) vars.l events.l=res at hP ⊢;have hck:=fun c=>Zzm G hE c c1.ent s hs hb;have hok := @Zy3 (s.l.map AM.v);have h02:=Zz3 (s.l.map AM.v);generalize Z3a (s.l.map AM.v)=ck at hP hck hok h02;refine Z1 ?_;intro g3;refine Z1 ?_;refine Znf @Zti hG ?_ (s:=(hck _))
 rcases h02 with rfl | rfl
 rotate_left
 ·refine Zs ?_
  refine Z ?_
  rw [hP]<;>rfl
 refine Zs ?_;refine Z0 ?_;obtain ⟨_,hall⟩:=hok rfl;rw [if_neg (by decide)] at hP
 have hfin:∀ (NS:Sl (List UInt8)),NS.l=vars.l++[Zwr]→∀ x,Zur NS.l x=Zur (vars.l++[Zwr]) x:=fun NS h x=>by rw [h]
 refine Zob (fun (NS:Sl (List UInt8))=>st [(1,Za c2 1 V.str vars),(2,Za c3 1 V.str events),(3,.ptr 3 g3 0),(8,Za .new 1 V.str NS)] [(3,.cells .new g3 0 [Za c 3 (Zia c1) s])]) (fun NS=>NS.l=vars.l++[Zwr]) (fun K2 hK2=>?_) ?_
 ·refine Z1 ?_
  refine CallA.inl [(5005,.dead)] (by kernel_rfl) ?_ ?_
  ·intro p hp
   rw [List.mem_singleton] at hp;subst hp;exact zp
  refine (Z6v G c2 vars (by omega)).mono ?_;rintro _ H' (⟨rfl,rfl,q⟩ | ⟨g5,rfl,q⟩)
  ·simp only [List.map_cons,List.map_nil,q]
   simp -implicitDefEqProofs only[go_sem,seval,↓reduceIte,Zha];intro g18;refine ⟨Zta (by omega) (by omega),fun h=>absurd h (by decide),fun _ g19=>?_⟩;refine Zs ?_;refine hK2 _ (.mk false [Zwr]) rfl (Z8 (fun o=>o==19) ?_ ?_)
   ·refine Zs ?_
    refine ⟨Zd _,Zd _,Zd _,?_⟩;exact Zfi (f:=V.str) (l:=[Zwr]) (m:=1) (g:=g19) (fz:=0) (c := .new) rfl zp Zbf
   ·simp only [Zl,Zp,and_true]
    exact FzO.keep rfl zp
  ·simp only [List.map_cons,List.map_nil,q]
   simp -implicitDefEqProofs only[go_sem,seval,↓reduceIte,Zha];intro g18
   have hcells:List.take (vars.l.length * 1) (flat (List.map V.str vars.l))++[V.str [97,114,103]]=flat ((vars.l++[Zwr]).map V.str):=by
    rw [List.take_of_length_le (by rw [Zkb Zbf];exact Nat.le_refl _),List.map_append,Zuf];rfl
   have e1:vars.l.length+1=(vars.l++[Zwr]).length:=by rw [List.length_append]<;>rfl
   refine ⟨Zta (by omega) (by omega),by rw [Zkb Zbf];exact Nat.le_refl _,Nat.zero_le _,fun g19=>?_⟩;rw [hcells];refine hK2 _ (.mk false (vars.l++[Zwr])) rfl (Z8 (fun o=>o==5005) ?_ ?_)
   ·refine Zs ?_
    refine ⟨Zd _,Zd _,Zd _,?_⟩;rw [e1];exact Zfi (f:=V.str) (l:=vars.l++[Zwr]) (m:=1) (g:=g19) (fz:=0) (c := .new) rfl zp Zbf
   ·simp only [Zl,Zp,and_true]
    exact FzO.keep rfl zp
 intro NS hNl;have hcg:=hfin NS hNl;have hof:=fun c c1 (x:Sl XN) (h1:x.l.length<1000000) h2=>Zg5 G hE c c1 x NS h1 h2 (by rw [hNl,List.length_append];show _+1<_;omega)
 try clear hfin
 refine Zu fun K2 hK2=>?_;refine Z1 ?_;refine AW.block ?_
 refine Zpb s.l.length (fun k (_:Unit)=>st [(1,Za c2 1 V.str vars),(2,Za c3 1 V.str events),(8,Za .new 1 V.str NS),(21,Za c 3 (Zia c1) s),(22,.int .i64 s.l.length),(23,.int .i64 k)] [])
  (fun k _=>Zmh vars.l events.l ((s.l.map AM.v).drop k) (k:Nat)=res) 0 () (Nat.zero_le _) hP.symm
  (Zg zp zp) ?_
 rintro k _ hk hR L3 hL3;refine Z1 ?_;refine Z6 ?_;refine Zh rfl (fun h24=>?_) (fun h24=>?_);rotate_left
 ·have hk1:k=s.l.length:=by have:=zN h24;omega
  refine Z0 ?_;refine hK2 _ ?_;rw [List.drop_of_length_le (by rw [List.length_map];omega)] at hR;refine Z ?_
  rw [← hR]<;>rfl
 have hk1:k<s.l.length:=zL h24;have hg:=List.getElem?_eq_getElem hk1;have hba:=hb _ (List.getElem_mem hk1);have hsta:=hall _ (List.mem_map_of_mem (f:=AM.v) (List.getElem_mem hk1))
 have hgv:(s.l.map AM.v)[k]? = some (s.l[k]).v:=by rw [List.getElem?_map,hg]<;>rfl
 rw [Z8u hgv] at hR;generalize s.l[k]=a at hg hba hsta hR;have hkd:=Zq1 hsta;have hst:stT vars.l events.l a.v=((if a.kind=2 then events.l.contains a.name else vars.l.contains a.name) && Zxp (vars.l++[Zwr]) a.x.l):=rfl;refine Z1f (zi hg @Zvb) ?_;intro g10;refine Z1 ?_
 refine Zob (fun (NK:Sl (List UInt8))=>st [(1,Za c2 1 V.str vars),(2,Za c3 1 V.str events),(8,Za .new 1 V.str NS),(9,.int .i64 k),(10,.ptr 10 g10 0),(11,Za (if a.kind=2 then c3 else c2) 1 V.str NK),(21,Za c 3 (Zia c1) s),(22,.int .i64 s.l.length),(23,.int .i64 k)] [(10,.cells .new g10 0 [.int .u8 a.kind,.str a.name,Za c1 6 Z3 a.x])])
  (fun NK=>NK.l.length<1000000∧NK.l.contains a.name=(if a.kind=2 then events.l.contains a.name else vars.l.contains a.name)) (fun K6 hK6=>?_) ?_
 ·rcases hkd with hk0 | hk0
  ·have hk0:a.kind=1:=hk0
   have q2:(a.kind==2)=false:=by rw [hk0]<;>rfl
   rw [if_neg (by rw [hk0];decide),if_neg (by rw [hk0];decide)] at hK6;refine Z1f q2 ?_;refine Z0 ?_;exact hK6 _ vars ⟨by omega,rfl⟩ (Zg zp zp)
  ·have hk0:a.kind=2:=hk0
   have q2:(a.kind==2)=true:=by simpa using hk0
   rw [if_pos hk0,if_pos hk0] at hK6;refine Z1f q2 ?_;refine Z1 ?_;exact hK6 _ events ⟨hev,rfl⟩ (Zg zp zp)
 rintro NK ⟨hNK,hNKc⟩;generalize (if a.kind=2 then c3 else c2)=cK;rw [← hNKc] at hst;refine Z1 ?_
 refine Zob (fun (kd0:Int)=>st [(1,Za c2 1 V.str vars),(2,Za c3 1 V.str events),(8,Za .new 1 V.str NS),(9,.int .i64 k),(10,.ptr 10 g10 0),(11,Za cK 1 V.str NK),(12,.int .u8 kd0),(21,Za c 3 (Zia c1) s),(22,.int .i64 s.l.length),(23,.int .i64 k)] [(10,.cells .new g10 0 [.int .u8 a.kind,.str a.name,Za c1 6 Z3 a.x])])
  (fun kd0=>(kd0==1)=Zxp (vars.l++[Zwr]) a.x.l) (fun K7 hK7=>?_) ?_
 ·by_cases hx0:a.x.l.length=0
  ·have hxe:Zxp (vars.l++[Zwr]) a.x.l=true:=by unfold Zxp;rw [List.length_eq_zero_iff.1 hx0]<;>rfl
   have q5:decide ((a.x.l.length:Int) > 0)=false:=zF;refine Z1f q5 ?_;refine Z0 ?_;exact hK7 _ 1 (by rw [hxe]<;>rfl) (Zg zp zp)
  have q5:decide ((a.x.l.length:Int) > 0)=true:=zT
  have hxe:Zxp (vars.l++[Zwr]) a.x.l=((Zur NS.l a.x.l).1==1):=by
   unfold Zxp;rw [← hcg]
   cases hq:a.x.l with
   | nil=>rw [hq] at hx0;exact absurd rfl hx0
   | cons=>rfl
  refine Z1f q5 ?_;refine Z1 ?_;refine Znf @Zbb hG ?_ (s:=(hof _ _ a.x hba.l hba.x));generalize Zur NS.l a.x.l=r at hxe;obtain ⟨kd0,i0,e0⟩:=r;simp -implicitDefEqProofs only[go_sem,seval,↓reduceIte,encO3];exact hK7 _ kd0 hxe.symm (Zg zp zp)
 intro kd0 hkd0
 cases q6:(kd0==1) with
 | false =>
  rw [← hkd0,q6,Bool.and_false] at hst;rw [if_neg (by rw [hst];decide)] at hR;refine Ztc (by kernel_rfl) ?_;simp -implicitDefEqProofs only[go_sem,seval,↓reduceIte,bne,q6];refine Z ?_
  rw [← hR]<;>rfl
 | true =>
  rw [← hkd0,q6,Bool.and_true] at hst;refine Ztc (by kernel_rfl) ?_;simp -implicitDefEqProofs only[go_sem,seval,↓reduceIte,bne,q6];refine Zc hG ?_ (s:=(Znh G hG _ a.name NK hNK))
  cases q7:NK.l.contains a.name with
  | false =>
   rw [q7] at hst;rw [if_neg (by rw [hst];decide)] at hR;refine Z ?_
   rw [← hR]<;>rfl
  | true =>
   rw [q7] at hst;rw [if_pos hst] at hR;refine Z1 ?_;exact hL3 _ ⟨hk1,(),hR,Zg zw zp⟩
end Go.Hs
end

section
namespace Go.Hs
open Go.Proofs
set_option maxRecDepth 10000
theorem Z5z {names:List (List UInt8)} {x:X} (h:x.ok=true) (hc:Zna (x.row 0)=0):Z9b names (x.row 0)=goX names (Zxb x) 0 []:=by
 unfold Z9b;rw [if_neg (by simpa using hc)];have:=Zd3 (names:=names) x x.size 0 (by omega);simp only [List.drop_zero,List.take_zero,List.map_nil] at this;exact this
theorem Z0v {names:List (List UInt8)} {l:List XN} (h:(Z9b names l).2.2=0):∃ x:X,x.ok=true∧l=x.row 0∧Zna (x.row 0)=0∧(∀ y∈Zxb x,Zab names y≠0)∧Z9b names l=((Zxb x).map (Zab names),0,0):=by
 have hc:Zna l=0:=by
  unfold Z9b at h
  by_cases hc:Zna l=0
  ·exact hc
  ·rw [if_pos hc] at h;exact absurd h hc
 have hdep:Z3b l≠0:=by
  intro hd;rw [Zna,if_pos hd] at hc;cases hc
 obtain ⟨x,hx,rfl⟩:=Zak hdep;rw [Z5z hx hc] at h ⊢;obtain ⟨h1,h2⟩:=Za8 _ _ _ h;exact ⟨x,hx,rfl,hc,h1,h2⟩
theorem Z84 (x:X):x∈Zxb x:=(Sub.refl x).mem
theorem Za6 {N:List (List UInt8)} {l:List XN} (h:(Zur N l).2.2=0):∃ x:X,x.ok=true∧l=x.row 0∧Zna (x.row 0)=0∧(∀ y∈Zxb x,Zab N y≠0)∧(Zur N l).1=Zab N x:=by
 unfold Zur at h ⊢
 by_cases hk:(Z9b N l).2.2=0
 ·rw [if_neg (by simpa using hk)]
  obtain ⟨x,hx,hl,hc,hs,he⟩:=Z0v hk;refine ⟨x,hx,hl,hc,hs,?_⟩;rw [he]
  show ((Zxb x).map (Zab N)).getD (((Zxb x).map (Zab N)).length-1) 0=_
  rw [List.length_map,Z0a,List.getD_eq_getElem?_getD,List.getElem?_map,Zhx]
  try rfl
 ·rw [if_pos hk] at h
  exact absurd h hk
theorem Zz6 {env:List (List UInt8 × Int)} {l:List XN} (h:(Zur (env.map (·.1)) l).2.2=0):((evL env l).kind=(Zur (env.map (·.1)) l).1∧(evL env l).kind≠0)∨evL env l = .err 60∨evL env l = .err 61:=by
 obtain ⟨x,hx,rfl,hc,hs,hk⟩:=Za6 h;rw [hk,Zyp hx hc]
 rcases ev_kind hx hs with h | h
 ·exact .inl ⟨h,by rw [h];exact hs x (Z84 x)⟩
 ·exact .inr h
end Go.Hs
end

section
namespace Go.Hs
variable {w:List (List UInt8 × Int)→List XN→EV}
theorem Z5y {s:ASt} {r:RU}:((Zzb w s r).2=0→(Zzb w s r).1.done=r.done+1)∧((Zzb w s r).2≠0→(Zzb w s r).1=r):=by
 unfold Zzb
 split
 ·exact ⟨fun h=>(by cases h),fun _=>rfl⟩
 split
 ·rename_i h;exact ⟨fun q=>absurd q h,fun _=>rfl⟩
 split
 ·exact ⟨fun _=>rfl,fun h=>absurd rfl h⟩
 ·exact ⟨fun _=>rfl,fun h=>absurd rfl h⟩
theorem Zks:∀ (b:List ASt) (r:RU),((Z3f w b r).2=0→(Z3f w b r).1.done=r.done+b.length)∧((Z3f w b r).2≠0→(Z3f w b r).1.done<r.done+b.length)
 | [],r=>⟨fun _=>rfl,fun h=>absurd rfl h⟩
 | s::t,r=>by
  have h1:=Z5y (w:=w) (s:=s) (r:=r);rw [Z3f,List.length_cons]
  split
  ·rename_i h
   exact ⟨fun q=>absurd q h,fun _=>by rw [h1.2 h];omega⟩
  ·rename_i h
   have h2:=h1.1 (Classical.byContradiction h);have h3:=Zks t (Zzb w s r).1;rw [h2] at h3;exact ⟨fun q=>by rw [h3.1 q];omega,fun q=>by have:=h3.2 q;omega⟩
theorem Zo5 {l:List (List UInt8 × Int)} {s:List UInt8} {n:Int} (h:Zbg l s≠none):(l.set ((Zbg l s).getD 0) (s,n)).map (·.1)=l.map (·.1):=by
 cases hp:Zbg l s with
 | none=>exact absurd hp h
 | some i =>
  obtain ⟨p,hg,rfl⟩:=Z5l hp
  show (l.set i (p.1,n)).map (·.1)=_
  rw [List.map_set]
  have:(l.map (·.1))[i]? = some p.1:=by rw [List.getElem?_map,hg];rfl
  obtain ⟨q1,q2⟩:=List.getElem?_eq_some_iff.1 this;exact (congrArg (fun z=>(l.map (·.1)).set i z) q2.symm).trans (List.set_getElem_self q1)
theorem stepU_names {s:ASt} {r:RU}:(Zzb w s r).1.vars.map (·.1)=r.vars.map (·.1):=by
 unfold Zzb
 split
 ·rfl
 split
 ·rfl
 split
 ·rename_i h1 _ h2
  exact Zo5 fun q=>h1 ⟨h2,q⟩
 ·rfl
theorem Z9n:∀ (b:List ASt) (r:RU),(Z3f w b r).1.vars.map (·.1)=r.vars.map (·.1)
 | [],r=>rfl
 | s::t,r=>by
  rw [Z3f]
  split
  ·exact stepU_names
  ·rw [Z9n t,stepU_names]
theorem Zjs {i:Nat} {p:List UInt8 × Int}:∀ (b:List ASt) (r:RU),r.vars[i]? = some p→(∀ s∈b,s.kind≠1∨s.name≠p.1)→(Z3f w b r).1.vars[i]? = some p
 | [],r,h,_=>h
 | s::t,r,h,hs=>by
  have h1:(Zzb w s r).1.vars[i]? = some p:=by
   unfold Zzb
   split
   ·exact h
   split
   ·exact h
   split
   ·rename_i q1 _ q2
    cases hp:Zbg r.vars s.name with
    | none=>exact absurd ⟨q2,hp⟩ q1
    | some j =>
     obtain ⟨q,hg,hq⟩:=Z5l hp
     show (r.vars.set j _)[i]? = _
     rw [List.getElem?_set_ne]
     ·exact h
     ·rintro rfl
      rw [hg] at h;cases h
      rcases hs s (List.mem_cons_self ..) with q | q
      ·exact q q2
      ·exact q hq.symm
   ·exact h
  rw [Z3f]
  split
  ·exact h1
  ·exact Zjs t _ h1 fun x hx=>hs x (List.mem_cons_of_mem _ hx)
theorem Zao {P:List UInt8→Prop}:∀ (b:List ASt) (r:RU),(∀ p∈r.emits,P p.1)→(∀ s∈b,s.kind≠1→P s.name)→∀ p∈(Z3f w b r).1.emits,P p.1
 | [],r,h,_=>h
 | s::t,r,h,hs=>by
  have h1:∀ p∈(Zzb w s r).1.emits,P p.1:=by
   unfold Zzb
   split
   ·exact h
   split
   ·exact h
   split
   ·exact h
   ·rename_i q
    intro p hp
    rcases List.mem_append.1 hp with hp | hp
    ·exact h p hp
    ·rw [List.mem_singleton.1 hp];exact hs s (List.mem_cons_self ..) q
  rw [Z3f]
  split
  ·exact h1
  ·exact Zao t _ h1 fun x hx=>hs x (List.mem_cons_of_mem _ hx)
theorem Zqx {P:Int→Prop} {N:List (List UInt8)}:∀ (b:List ASt) (r:RU),r.vars.map (·.1)=N→(∀ p∈r.vars,Zsb p.2=true)→(∀ v,(∀ p∈v,Zsb p.2=true)→∀ s∈b,(w v s.x).fine)→(∀ s∈b,s.kind=1→s.name∈N) →
  (∀ v,v.map (·.1)=N→(∀ p∈v,Zsb p.2=true)→∀ s∈b,(w v s.x).er=0∨P (w v s.x).er)→(Z3f w b r).2=0∨P (Z3f w b r).2
 | [],r,_,_,_,_,_ => .inl rfl
 | s::t,r,hN,hfit,hw,hk,he=>by
  have h1:(Zzb w s r).2=0∨P (Zzb w s r).2:=by
   unfold Zzb
   split
   ·rename_i q
    exfalso
    have hm:=hk s (List.mem_cons_self ..) q.1;rw [← hN,List.mem_map] at hm;obtain ⟨p,hp,hps⟩:=hm;have:=List.findIdx?_eq_none_iff.1 q.2 p hp;simp [hps] at this
   split
   ·exact he _ hN hfit s (List.mem_cons_self ..)
   split
   ·exact .inl rfl
   ·exact .inl rfl
  rw [Z3f]
  split
  ·exact h1
  ·have hok:RuOk r.vars.length (max r.done r.emits.length) r:=⟨rfl,hfit,Nat.le_max_left ..,Nat.le_max_right ..⟩
   exact Zqx t _ (stepU_names.trans hN) (Z7k hok (hw _ hfit s (List.mem_cons_self ..))).fit (fun v hv x hx=>hw v hv x (List.mem_cons_of_mem _ hx)) (fun x hx=>hk x (List.mem_cons_of_mem _ hx)) (fun v h1 h2 x hx=>he v h1 h2 x (List.mem_cons_of_mem _ hx))
end Go.Hs
end

section
namespace Go.Hs
open Go.Proofs
set_option maxRecDepth 10000
set_option maxHeartbeats 1000000
theorem Z0r {arg:Int} {v:List (List UInt8 × Int)} {x:List XN} (h:Zxp (v.map (·.1)++[Zwr]) x=true):(worthU arg v x).er=0∨(worthU arg v x).er=60∨(worthU arg v x).er=61:=by
 unfold worthU
 by_cases hx:x=[]
 ·rw [if_pos hx];exact .inl rfl
 rw [if_neg hx];unfold Zxp at h;rw [Bool.or_eq_true,List.isEmpty_iff,beq_iff_eq] at h;have hk:(Zur (v.map (·.1)++[Zwr]) x).1=1:=h.resolve_left hx
 have he:(Zur (v.map (·.1)++[Zwr]) x).2.2=0:=by
  refine Classical.byContradiction fun q=>?_;rw [ofTP_e q] at hk;cases hk
 have hm:(v++[(Z3k,arg)]).map (·.1)=v.map (·.1)++[Zwr]:=by rw [List.map_append];rfl
 have ht:=Zz6 (env:=v++[(Z3k,arg)]) (l:=x) (by rw [hm];exact he);rw [hm,hk] at ht
 rcases ht with ⟨h1,_⟩ | h1 | h1
 ·generalize evL (v++[(Z3k,arg)]) x=y at h1
  cases y with
  | err e=>cases h1
  | num n=>exact .inl rfl
  | tru b=>cases h1
 ·rw [h1];exact .inr (.inl rfl)
 ·rw [h1];exact .inr (.inr rfl)
structure TyU (b:List ASt) (vs:List (List UInt8 × Int)) (events:List (List UInt8)) (q:RU × Int):Prop where
 len:q.1.vars.length=vs.length
 done:q.1.done≤b.length
 ok:q.2=0 ↔ q.1.done=b.length
 names:∀ (i:Nat) (p:List UInt8 × Int),vs[i]? = some p→∃ n,q.1.vars[i]? = some (p.1,n)
 kept:∀ (i:Nat) (p:List UInt8 × Int),vs[i]? = some p→(∀ s∈b,s.kind≠1∨s.name≠p.1)→q.1.vars[i]? = some p
 err:(Zik b (vs.map (·.1)) events).2=0→q.2=0∨q.2=60∨q.2=61
 em:(Zik b (vs.map (·.1)) events).2=0→∀ p∈q.1.emits,p.1∈events
theorem Zyy {s:Sl AM} {vs:List (List UInt8 × Int)} {arg:Int} (h:RunIn s vs arg) (events:List (List UInt8)) (hc:Z3a (s.l.map AM.v)=0):TyU (s.l.map AM.v) vs events (runB arg (s.l.map AM.v) vs):=by
 have hk:=Zgv h hc;obtain ⟨_,hall⟩:=Zih hc
 have hw:∀ v:List (List UInt8 × Int),(∀ p∈v,Zsb p.2=true)→∀ q∈s.l.map AM.v,(worthU arg v q.x).fine:=fun v hv q hq=>by
  obtain ⟨a,ha,rfl⟩:=List.mem_map.1 hq;exact Zlf (hall _ hq).2 (h.hn a ha) hv h.ha
 have e:runB arg (s.l.map AM.v) vs=Z3f (worthU arg) (s.l.map AM.v) ⟨vs,[],0⟩:=if_neg (by rw [hc];decide);rw [e] at hk ⊢;have hd:=Zks (w:=worthU arg) (s.l.map AM.v) ⟨vs,[],0⟩;have hnm:=Z9n (w:=worthU arg) (s.l.map AM.v) ⟨vs,[],0⟩
 have hty:∀ (hT:(Zik (s.l.map AM.v) (vs.map (·.1)) events).2=0),∀ q∈s.l.map AM.v,stT (vs.map (·.1)) events q=true:=by
  intro hT;unfold Zik at hT;rw [if_neg (by rw [hc];decide)] at hT;exact List.all_eq_true.1 ((Z5n _ _).1 hT)
 refine ⟨hk.len,?_,⟨fun h0=>?_,fun h0=>?_⟩,?_,?_,?_,?_⟩
 ·by_cases h0:(Z3f (worthU arg) (s.l.map AM.v) ⟨vs,[],0⟩).2=0
  ·have:=hd.1 h0;simp only [Nat.zero_add] at this;omega
  ·have:=hd.2 h0;simp only [Nat.zero_add] at this;omega
 ·have:=hd.1 h0;simpa using this
 ·refine Classical.byContradiction fun q=>?_
  have:=hd.2 q;simp only [Nat.zero_add] at this;omega
 ·intro i p hi
  have h1:(vs.map (·.1))[i]? = some p.1:=by rw [List.getElem?_map,hi];rfl
  rw [← hnm,List.getElem?_map] at h1
  cases hq:(Z3f (worthU arg) (s.l.map AM.v) ⟨vs,[],0⟩).1.vars[i]? with
  | none=>rw [hq] at h1;cases h1
  | some y =>
   rw [hq] at h1
   have h1:y.1=p.1:=by simpa using h1
   exact ⟨y.2,by rw [← h1]⟩
 ·intro i p hi hs
  exact Zjs (w:=worthU arg) _ ⟨vs,[],0⟩ hi hs
 ·intro hT
  have hst:=hty hT;refine Zqx (w:=worthU arg) (P:=fun e=>e=60∨e=61) (N:=vs.map (·.1)) _ ⟨vs,[],0⟩ rfl h.hf hw (fun q hq hk1=>?_) (fun v hN _ q hq=>?_)
  ·have:=hst q hq
   unfold stT at this;rw [Bool.and_eq_true,if_neg (by rw [hk1];decide)] at this;simpa [List.contains_eq_mem] using this.1
  ·have:=hst q hq
   unfold stT at this;rw [Bool.and_eq_true] at this;refine Z0r ?_;rw [hN];exact this.2
 ·intro hT
  have hst:=hty hT;refine Zao (w:=worthU arg) (P:=fun t=>t∈events) _ ⟨vs,[],0⟩ (fun p hp=>by cases hp) (fun q hq hk1=>?_);have hk2:q.kind=2:=((hall q hq).1).resolve_left hk1;have:=hst q hq;unfold stT at this;rw [Bool.and_eq_true,if_pos hk2] at this;simpa [List.contains_eq_mem] using this.1
end Go.Hs
end

section
namespace Go.Hs
open Go.Proofs
set_option maxRecDepth 10000
set_option maxHeartbeats 1000000
theorem Zpx {w:List (List UInt8 × Int)→List XN→EV}:∀ (b:List ASt) (r:RU),(∀ p∈r.vars,Zsb p.2=true)→(∀ v,(∀ p∈v,Zsb p.2=true)→∀ s∈b,(w v s.x).fine)→(Z3f w b r).2≠2
 | [],r,_,_=>by show (0:Int)≠2;decide
 | s::t,r,hf,hw=>by
  have hfin:=hw _ hf s (List.mem_cons_self ..)
  have h1:(Zzb w s r).2≠2:=by
   unfold Zzb
   split
   ·show (90:Int)≠2;decide
   split
   ·show (w r.vars s.x).er≠2
    cases hv:w r.vars s.x with
    | err e =>
     rw [hv] at hfin
     show e≠2
     rcases hfin with q | q | q<;>omega
    | num n=>show (0:Int)≠2;decide
    | tru b=>show (0:Int)≠2;decide
   split
   ·show (0:Int)≠2;decide
   ·show (0:Int)≠2;decide
  rw [Z3f]
  split
  ·exact h1
  ·have hok:RuOk r.vars.length (max r.done r.emits.length) r:=⟨rfl,hf,Nat.le_max_left ..,Nat.le_max_right ..⟩
   exact Zpx t _ (Z7k hok hfin).fit fun v hv x hx=>hw v hv x (List.mem_cons_of_mem _ hx)
theorem Zr5 {s:Sl AM} {vs:List (List UInt8 × Int)} {arg:Int} (h:RunIn s vs arg) (hc:Z3a (s.l.map AM.v)=0):(runB arg (s.l.map AM.v) vs).2≠2:=by
 obtain ⟨_,hall⟩:=Zih hc;have e:runB arg (s.l.map AM.v) vs=Z3f (worthU arg) (s.l.map AM.v) ⟨vs,[],0⟩:=if_neg (by rw [hc];decide);rw [e];refine Zpx _ ⟨vs,[],0⟩ h.hf fun v hv q hq=>?_;obtain ⟨a,ha,rfl⟩:=List.mem_map.1 hq;exact Zlf (hall _ hq).2 (h.hn a ha) hv h.ha
theorem Z32 (G:Nat→V) (hE:GExp G) (c c1 c2 c3:Col) (s:Sl AM) (hn:∀ a∈s.l,∀ n∈a.x.l,Zsb n.num=true) (vs:Sl (List UInt8 × Int)) (hf:∀ p∈vs.l,Zsb p.2=true) (arg:Int) (ha:Zsb arg=true) (ev:Sl (List UInt8)) :
  Spec Tryz.prog G 11 [.agg [Za c 3 (Zia c1) s],Za c2 2 Zz vs,.int .i64 arg,Za c3 1 V.str ev] Zk (fun v _=>v = .bool true):=by
 have hG:=hE.ok;have hW:=Z1r G hE;refine Zo 0 224 [.tmp 8] Tryz.func11 fun X=>?_;refine Z1 ?_;intro g4;refine Zob (fun (_:Unit)=>st [(1,Za c2 2 Zz vs),(2,.int .i64 arg),(3,Za c3 1 V.str ev),(4,.ptr 4 g4 0)] [(4,.cells .new g4 0 [Za c 3 (Zia c1) s])]) (fun _=>Few12 s.l vs.l∧ev.l.length≤10) (fun K1 hK1=>?_) ?_
 ·refine Z ?_
  refine CallA.pure hG (by kernel_rfl) ?_;refine Zs ?_;refine (Z7u G hG _ _ _ s vs).mono ?_;rintro _ _ ⟨b,rfl,hb⟩
  cases b with
  | false =>
   refine Zs ?_;refine Z ?_;refine Zc hG ?_ (s:=hW);exact Zr
  | true =>
   by_cases he:ev.l.length > 10
   ·have q:decide (((ev.l.length:Nat):Int) > 10)=true:=zT
    refine Zsf q ?_;refine Z ?_;refine Zc hG ?_ (s:=hW);exact Zr
   ·have q:decide (((ev.l.length:Nat):Int) > 10)=false:=zF
    refine Zsf q ?_;refine Z ?_;exact hK1 _ () ⟨hb rfl,by omega⟩ (Zg zp zp)
 rintro _ ⟨⟨f1,f2,f3,f4⟩,f5⟩;have hB:∀ a∈s.l,AmB a:=fun a ha=>⟨by have:=(f3 a ha).1;omega,by have:=(f3 a ha).2.1;omega,fun n hn=>by have:=(f3 a ha).2.2 n hn;omega⟩;have hIn:RunIn s vs.l arg:=⟨by omega,hB,hn,by omega,hf,ha⟩;refine Z1 ?_;refine Zob (fun (_:Unit)=>st [(1,Za c2 2 Zz vs),(2,.int .i64 arg),(3,Za c3 1 V.str ev),(4,.ptr 4 g4 0),(9,Za .new 1 V.str (Zba (vs.l.map (·.1))))] [(4,.cells .new g4 0 [Za c 3 (Zia c1) s])]) (fun _=>True) (fun K1 hK1=>?_) ?_
 ·refine Z ?_
  refine Zpb vs.l.length (fun k (gx:Nat)=>st [(1,Za c2 2 Zz vs),(2,.int .i64 arg),(3,Za c3 1 V.str ev),(4,.ptr 4 g4 0),(9,grown 43 gx 1 ((vs.l.take k).map (·.1))),(10,.int .i64 k)] [(4,.cells .new g4 0 [Za c 3 (Zia c1) s]),(43,Z2b gx V.str ((vs.l.take k).map (·.1)))])
   (fun k _=>True) 0 0 (Nat.zero_le _) trivial (Zg zp (by simp -implicitDefEqProofs only[go_sem,seval,↓reduceIte];first | rfl | exact ⟨rfl,rfl⟩)) ?_
  intro k gx hk _ L3 hL3
  by_cases hk1:k<vs.l.length
  ·have hg:=List.getElem?_eq_getElem hk1
   have htk:(vs.l.take (k+1)).map (·.1)=(vs.l.take k).map (·.1)++[(vs.l[k]).1]:=by rw [List.take_succ_eq_append_getElem hk1,List.map_append];rfl
   have hlt':((vs.l.take k).map (·.1)).length=k:=by rw [List.length_map,List.length_take];omega
   have hlt:decide ((k:Int)<(vs.l.length:Int))=true:=zT;have w1:IntKind.i64.wrap ((k:Int)+1)=(k:Int)+1:=w64 (by omega) (by omega);generalize vs.l[k]=p at hg htk;generalize (vs.l.take k).map (·.1)=ns at htk hlt' ⊢;refine Zf (zi hlt (zi hg Z1c)) ?_;intro g42;refine Znc (f:=V.str) (l:=ns) (l2:=[p.1]) (g:=gx) Zbf rfl rfl rfl zp (Zta (by omega) (by simp;omega)) fun g2=>?_;refine Zs ?_;refine Zf w1 ?_;exact hL3 _ ⟨hk1,g2,trivial,Zg (by simp -implicitDefEqProofs only[go_sem,seval,↓reduceIte];rw [htk];try (first | rfl | exact ⟨rfl,rfl⟩)) (by simp -implicitDefEqProofs only[go_sem,seval,↓reduceIte];rw [htk];try (first | rfl | exact ⟨rfl,rfl⟩))⟩
  have hke:k=vs.l.length:=by omega
  have hlt:decide ((k:Int)<(vs.l.length:Int))=false:=zF;rw [hke,List.take_length];rw [hke] at hlt;refine Zf hlt ?_;refine hK1 _ () trivial (Z8 (fun o=>o==43) ?_ ?_)
  ·simp -implicitDefEqProofs only[go_sem,seval,↓reduceIte]
   exact ⟨Zd _,Zd _,Zd _,Zd _,Z0e rfl zp Zbf⟩
  ·simp only [Zl,Zp,and_true]
   exact FzO.keep rfl zp
 intro _ _;refine Zob (fun (_:Unit)=>st [(1,Za c2 2 Zz vs),(2,.int .i64 arg),(3,Za c3 1 V.str ev),(4,.ptr 4 g4 0),(9,Za .new 1 V.str (Zba (vs.l.map (·.1))))] [(4,.cells .new g4 0 [Za c 3 (Zia c1) s])]) (fun _=>True) (fun K1 hK1=>?_) ?_
 ·refine Z ?_
  refine Zpb ev.l.length (fun k (_:Unit)=>st [(1,Za c2 2 Zz vs),(2,.int .i64 arg),(3,Za c3 1 V.str ev),(4,.ptr 4 g4 0),(9,Za .new 1 V.str (Zba (vs.l.map (·.1)))),(11,.int .i64 k)] [(4,.cells .new g4 0 [Za c 3 (Zia c1) s])])
   (fun k _=>True) 0 () (Nat.zero_le _) trivial (Zg zp zp) ?_
  intro k _ hk _ L3 hL3
  by_cases hk1:k<ev.l.length
  ·have hg:=List.getElem?_eq_getElem hk1
   have hlt:decide ((k:Int)<(ev.l.length:Int))=true:=zT;have w1:IntKind.i64.wrap ((k:Int)+1)=(k:Int)+1:=w64 (by omega) (by omega);generalize ev.l[k]=t at hg
   by_cases ht:t.length > 70
   ·have q:decide (((t.length:Nat):Int) > 70)=true:=zT
    refine Zf (zi hlt (zi hg q)) ?_;refine Zc hG ?_ (s:=hW);exact Zr
   ·have q:decide (((t.length:Nat):Int) > 70)=false:=zF
    refine Zf (zi hlt (zi hg (zi q w1))) ?_;exact hL3 _ ⟨hk1,(),trivial,Zg zp zp⟩
  have hlt:decide ((k:Int)<(ev.l.length:Int))=false:=zF;refine Zf hlt ?_;exact hK1 _ () trivial (Zg zp zp)
 intro _ _;have k1:=svR_l hIn;obtain ⟨k2,k3⟩:=Zcz hIn;have ht:∀ c c1 c2,Spec Tryz.prog G 32 [.agg [Za c 3 (Zia c1) s],Za c2 2 Zz vs,.int .i64 arg] Zk (fun v _=>v = .tuple [.agg [Za .new 2 Zz (svR (s.l.map AM.v) vs (runB arg (s.l.map AM.v) vs.l).1.vars),Za .new 2 Zz (Zba (runB arg (s.l.map AM.v) vs.l).1.emits),.int .i64 (runB arg (s.l.map AM.v) vs.l).1.done],.int .i64 (runB arg (s.l.map AM.v) vs.l).2]):=fun c c1 c2=>Zox G hE c c1 c2 s vs arg hIn;have hbad:Z3a (s.l.map AM.v)≠0→(runB arg (s.l.map AM.v) vs.l)=(⟨[],[],0⟩,2):=fun h=>if_pos h;have hne2:=Zr5 hIn;have hty:=Zyy hIn ev.l;generalize svR (s.l.map AM.v) vs (runB arg (s.l.map AM.v) vs.l).1.vars=sv at ht k1;generalize runB arg (s.l.map AM.v) vs.l=q at ht k1 k2 k3 hbad hne2 hty;refine Z ?_;refine Zc hG ?_ (s:=ht _ _ _);intro g12;refine Zs ?_;refine AW.weak (Z8 (fun o=>o==12) (l:=[(1,Za c2 2 Zz vs),(2,.int .i64 arg),(3,Za c3 1 V.str ev),(4,.ptr 4 g4 0),(9,Za .new 1 V.str (Zba (vs.l.map (·.1)))),(12,.view .new (.agg [Za .new 2 Zz sv,Za .new 2 Zz (Zba q.1.emits),.int .i64 q.1.done])),(13,.int .i64 q.2)]) (m:=[(4,.cells .new g4 0 [Za c 3 (Zia c1) s])]) ?_ ?_) ?_
 ·simp -implicitDefEqProofs only[go_sem,seval,↓reduceIte]
  exact ⟨Zd _,Zd _,Zd _,Zd _,Zd _,Fz.ptr (v := .agg [Za .new 2 Zz sv,Za .new 2 Zz (Zba q.1.emits),.int .i64 q.1.done]) (c := .new) (fz:=0) rfl zp,Zd _⟩
 ·simp only [Zl,Zp,and_true]
  exact FzO.keep rfl zp
 by_cases hc:Z3a (s.l.map AM.v)=0
 rotate_left
 ·have:=hbad hc
  subst this
  have hsv:sv.l.length=0:=by rw [k1];rfl
  have e0:((sv.l.length:Int)==0)=true:=by rw [hsv];rfl
  refine Zf e0 ?_;refine Zc hG ?_ (s:=hW);exact Zr
 have e2:(q.2==2)=false:=by simpa using hne2 hc
 have hT:=hty hc;have hTy:=fun c c1 c2 c3=>Zew G hE c c1 c2 c3 s (Zba (vs.l.map (·.1))) ev (by omega) hB (by rw [Zcb,List.length_map];omega) (by omega);rw [Zcb] at hTy;have herr:=hT.err;have hem:=hT.em;generalize Zik (s.l.map AM.v) (vs.l.map (·.1)) ev.l=T at hTy herr hem;have hTy':∀ c c1 c2 c3,Spec Tryz.prog G 38 [.agg [Za c 3 (Zia c1) s],Za c2 1 V.str (Zba (vs.l.map (·.1))),Za c3 1 V.str ev] Zk (fun v _=>v = .tuple [.int .i64 T.1,.int .i64 T.2]):=hTy;refine Zf e2 ?_;refine Zc hG ?_ (s:=hTy' _ _ _ _);refine Zs ?_;have hsl:(s.l.map AM.v).length=s.l.length:=List.length_map _;have hdn:=hT.done;have hok:=hT.ok;rw [hsl] at hdn hok;refine Zob (fun (_:Unit)=>st [(1,Za c2 2 Zz vs),(2,.int .i64 arg),(3,Za c3 1 V.str ev),(4,.ptr 4 g4 0),(12,.view .new (.agg [Za .new 2 Zz sv,Za .new 2 Zz (Zba q.1.emits),.int .i64 q.1.done])),(15,.int .i64 T.2)] [(4,.cells .new g4 0 [Za c 3 (Zia c1) s])]) (fun _=>True) (fun K1 hK1=>?_) ?_
 ·have r1:(((sv.l.length:Nat):Int) != ((vs.l.length:Nat):Int))=false:=by rw [k1,hT.len];simp
  have r2:decide ((q.1.done:Int)<0)=false:=zF;have r3:decide ((q.1.done:Int) > (s.l.length:Int))=false:=zF
  have r4:((q.2==0) != ((q.1.done:Int)==(s.l.length:Int)))=false:=by
   by_cases h0:q.2=0
   ·have h1:=hok.1 h0
    simp [h0,h1]
   ·have h1:¬ (q.1.done:Int)=(s.l.length:Int):=fun e=>h0 (hok.2 (by omega))
    rw [beq_eq_false_iff_ne.2 h0,beq_eq_false_iff_ne.2 h1];rfl
  by_cases hT0:T.2=0
  ·have f1:(T.2==0)=true:=by simpa using hT0
   rcases herr hT0 with h | h | h
   ·have g1:(q.2 != 0)=false:=by simp [h]
    refine Zf (zi f1 (zi g1 (zi r1 (zi r2 (zi r3 r4))))) ?_;exact hK1 _ () trivial (Zg zp zp)
   ·have g1:(q.2 != 0)=true:=by simp [h]
    have g2:(q.2 != 60)=false:=by simp [h]
    refine Zf (zi f1 (zi g1 (zi g2 (zi r1 (zi r2 (zi r3 r4)))))) ?_;exact hK1 _ () trivial (Zg zp zp)
   ·have g1:(q.2 != 0)=true:=by simp [h]
    have g2:(q.2 != 60)=true:=by simp [h]
    have g3:(q.2 != 61)=false:=by simp [h]
    refine Zf (zi f1 (zi g1 (zi g2 (zi g3 (zi r1 (zi r2 (zi r3 r4))))))) ?_;exact hK1 _ () trivial (Zg zp zp)
  ·have f1:(T.2==0)=false:=by simpa using hT0
   refine Zf (zi f1 (zi r1 (zi r2 (zi r3 r4)))) ?_;exact hK1 _ () trivial (Zg zp zp)
 intro _ _;have hel := @Zcb (List UInt8 × Int) q.1.emits;rw [← hel] at hem
 have hen:(Zba q.1.emits).l.length≤1000000:=by rw [hel];omega
 generalize Zba q.1.emits=es at hem hen ⊢;refine Zob (fun (_:Unit)=>st [(1,Za c2 2 Zz vs),(2,.int .i64 arg),(3,Za c3 1 V.str ev),(4,.ptr 4 g4 0),(12,.view .new (.agg [Za .new 2 Zz sv,Za .new 2 Zz es,.int .i64 q.1.done]))] [(4,.cells .new g4 0 [Za c 3 (Zia c1) s])]) (fun _=>True) (fun K1 hK1=>?_) ?_
 ·refine Z ?_
  refine Zpb es.l.length (fun k (_:Unit)=>st [(1,Za c2 2 Zz vs),(2,.int .i64 arg),(3,Za c3 1 V.str ev),(4,.ptr 4 g4 0),(12,.view .new (.agg [Za .new 2 Zz sv,Za .new 2 Zz es,.int .i64 q.1.done])),(15,.int .i64 T.2),(16,.int .i64 k)] [(4,.cells .new g4 0 [Za c 3 (Zia c1) s])])
   (fun k _=>True) 0 () (Nat.zero_le _) trivial (Zg zp zp) ?_
  intro k _ hk _ L3 hL3
  by_cases hk1:k<es.l.length
  ·have hg:=List.getElem?_eq_getElem hk1
   have hm:es.l[k]∈es.l:=List.getElem_mem hk1;have hlt:decide ((k:Int)<(es.l.length:Int))=true:=zT;have w1:IntKind.i64.wrap ((k:Int)+1)=(k:Int)+1:=w64 (by omega) (by omega);generalize es.l[k]=p at hg hm
   by_cases hT0:T.2=0
   ·have f1:(T.2==0)=true:=by simpa using hT0
    have ham:∀ c,Spec Tryz.prog G 39 [.str p.1,Za c 1 V.str ev] Zk (fun v _=>v = .bool true):=fun c=>by
     have:=Zot G hG c p.1 ev (by omega);rw [show ev.l.contains p.1=true from by rw [List.contains_eq_mem];exact decide_eq_true (hem hT0 p hm)] at this;exact this
    refine Zf (zi hlt (zi f1 (zi hg Z1c))) ?_;refine Zc hG ?_ (s:=ham _);refine Zf w1 ?_;exact hL3 _ ⟨hk1,(),trivial,Zg zp zp⟩
   ·have f1:(T.2==0)=false:=by simpa using hT0
    refine Zf (zi hlt (zi f1 w1)) ?_;exact hL3 _ ⟨hk1,(),trivial,Zg zp zp⟩
  have hlt:decide ((k:Int)<(es.l.length:Int))=false:=zF;refine Zf hlt ?_;exact hK1 _ () trivial (Zg zp zp)
 intro _ _;refine Z ?_;refine Zpb vs.l.length (fun i (_:Unit)=>st [(1,Za c2 2 Zz vs),(2,.int .i64 arg),(3,Za c3 1 V.str ev),(4,.ptr 4 g4 0),(12,.view .new (.agg [Za .new 2 Zz sv,Za .new 2 Zz es,.int .i64 q.1.done])),(17,.int .i64 i)] [(4,.cells .new g4 0 [Za c 3 (Zia c1) s])]) (fun i _=>True) 0 () (Nat.zero_le _) trivial (Zg zp zp) ?_;intro i _ hi _ L3 hL3;have w1:IntKind.i64.wrap ((i:Int)+1)=(i:Int)+1:=w64 (by omega) (by omega)
 by_cases hi1:i<vs.l.length
 rotate_left
 ·have hlt:decide ((i:Int)<(vs.l.length:Int))=false:=zF
  refine Zf hlt ?_;refine Zc hG ?_ (s:=hW);exact Zr
 have hlt:decide ((i:Int)<(vs.l.length:Int))=true:=zT;have hgv:=List.getElem?_eq_getElem hi1;generalize vs.l[i]=p at hgv;obtain ⟨n,hqn⟩:=hT.names i p hgv;have hkp:=hT.kept i p hgv;rw [← k1] at hqn hkp;have hi2:i<sv.l.length:=(List.getElem?_eq_some_iff.1 hqn).1;refine Zf hlt ?_;refine Zpb s.l.length (fun k (kb:Bool)=>st [(1,Za c2 2 Zz vs),(2,.int .i64 arg),(3,Za c3 1 V.str ev),(4,.ptr 4 g4 0),(12,.view .new (.agg [Za .new 2 Zz sv,Za .new 2 Zz es,.int .i64 q.1.done])),(17,.int .i64 i),(18,.bool kb),(19,.int .i64 k)] [(4,.cells .new g4 0 [Za c 3 (Zia c1) s])]) (fun k kb=>kb=true→∀ a∈s.l.take k,a.kind≠1∨a.name≠p.1) 0 true (Nat.zero_le _) (fun _ a h=>by simp at h) (Zg zp zp) ?_;intro k kb hk hR L7 hL7;have w2:IntKind.i64.wrap ((k:Int)+1)=(k:Int)+1:=w64 (by omega) (by omega)
 by_cases hk1:k<s.l.length
 ·have hg:=List.getElem?_eq_getElem hk1
  have htk:s.l.take (k+1)=s.l.take k++[s.l[k]]:=by rw [List.take_succ_eq_append_getElem hk1]
  have hlt2:decide ((k:Int)<(s.l.length:Int))=true:=zT;generalize s.l[k]=a at hg htk
  cases kb with
  | false =>
   refine Z1f hlt2 ?_;refine ZT hG ?_;refine Zf w2 ?_;exact hL7 _ ⟨hk1,false,fun h=>(by cases h),Zg zp zp⟩
  | true =>
   have hR':=hR rfl
   by_cases hkd:a.kind=1
   ·have u1:(a.kind != 1)=false:=by simp [hkd]
    by_cases hnm:a.name=p.1
    ·have u2:(a.name==p.1)=true:=by simp [hnm]
     refine Z1f hlt2 ?_;refine ZTf (zi u1 (zi u2 (zi hg (zi hgv (zi @Zvb (zi Z1c (zi hk1 (zi hi1 (zi @Int.natCast_nonneg @Int.ofNat_lt))))))))) hG ?_;refine Zf w2 ?_;exact hL7 _ ⟨hk1,false,fun h=>(by cases h),Zg zp zp⟩
    ·have u2:(a.name==p.1)=false:=by simpa using hnm
     refine Z1f hlt2 ?_;refine ZTf (zi u1 (zi u2 (zi hg (zi hgv (zi @Zvb (zi Z1c (zi hk1 (zi hi1 (zi @Int.natCast_nonneg @Int.ofNat_lt))))))))) hG ?_;refine Zf w2 ?_;refine hL7 _ ⟨hk1,true,fun _ b hb=>?_,Zg zp zp⟩;rw [htk,List.mem_append,List.mem_singleton] at hb
     rcases hb with hb | rfl
     ·exact hR' b hb
     ·exact .inr hnm
   ·have u1:(a.kind != 1)=true:=by simpa using hkd
    refine Z1f hlt2 ?_;refine ZTf (zi u1 (zi hg (zi @Zvb (zi hk1 (zi @Int.natCast_nonneg @Int.ofNat_lt))))) hG ?_;refine Zf w2 ?_;refine hL7 _ ⟨hk1,true,fun _ b hb=>?_,Zg zp zp⟩;rw [htk,List.mem_append,List.mem_singleton] at hb
    rcases hb with hb | rfl
    ·exact hR' b hb
    ·exact .inl hkd
 have hke:k=s.l.length:=by omega
 have hlt2:decide ((k:Int)<(s.l.length:Int))=false:=zF;rw [hke,List.take_length] at hR
 have b1:(p.1==p.1)=true:=by simp
 cases kb with
 | false =>
  refine Zf hlt2 ?_;refine ZTf (zi hqn (zi hgv (zi b1 (zi Z1c (zi hi1 (zi hi2 (zi @Int.natCast_nonneg @Int.ofNat_lt))))))) hG ?_;refine Zf w1 ?_;exact hL3 _ ⟨hi1,(),trivial,Zg zp zp⟩
 | true =>
  have hpp:=hkp (fun b hb=>by
   obtain ⟨a,ha,rfl⟩:=List.mem_map.1 hb
   exact hR rfl a ha)
  have b2:(p.2 != p.2)=false:=by simp
  refine Zf hlt2 ?_;refine ZTf (zi hpp (zi hgv (zi b1 (zi b2 (zi Z1c (zi hi1 (zi hi2 (zi @Int.natCast_nonneg @Int.ofNat_lt)))))))) hG ?_;refine Zf w1 ?_;exact hL3 _ ⟨hi1,(),trivial,Zg zp zp⟩
end Go.Hs
end

section
namespace Go.Proofs.YtnjcehngoajnnaaGreatDoor
open Go.RowKit Go.Hs
set_option maxRecDepth 100000
def Zkg:List (String × DataW Unit):=[("math/bits.deBruijn32tab",Rows.laid_math_bits_deBruijn32tab),("math/bits.deBruijn64tab",Rows.laid_math_bits_deBruijn64tab),("internal/strconv.uint64pow10",Rows.laid_internal_strconv_uint64pow10),("unicode/utf8.acceptRanges",Rows.laid_unicode_utf8_acceptRanges),("strconv.ErrRange",Rows.laid_strconv_ErrRange),("strconv.ErrSyntax",Rows.laid_strconv_ErrSyntax),("hopscotch/lex.signs",Rows.laid_hopscotch_lex_signs),("unicode/utf8.first",Rows.laid_unicode_utf8_first)]
noncomputable def low:Nat:=(World.holding Tryz.prog default ⟨#[],#[],[]⟩).heap.size
def b32:List Int:=[0,1,28,2,29,14,24,3,30,22,20,15,25,17,4,8,31,27,13,23,21,19,16,7,26,12,18,6,11,5,10,9]
def b64:List Int:=0::1::56::2::57::49::28::3::61::58::42::50::38::29::17::4::62::47::59::36::45::43::51::22::53::39::33::30::24::18::12::5::63::55::48::27::60::41::37::16::46::35::44::21::52::32::23::11::54::26::40::15::34::20::31::10::25::14::19::9::13::8::7::6::[]
def acR:List Int:=[128,191,160,191,128,159,144,191,128,143]++List.replicate 22 0
def errR:ByteArray:={ data := #[118,97,108,117,101,32,111,117,116,32,111,102,32,114,97,110,103,101] }
def errS:ByteArray:={ data := #[105,110,118,97,108,105,100,32,115,121,110,116,97,120] }
def Znd (cs:Array Value):Obj→Obj
 | .cells _ t frozen => .cells cs t frozen
 | o=>o
noncomputable def laidWorld (os:Os):World :=
 let w0:=World.holding Tryz.prog os ⟨#[.cells #[.string errR] 328,.cells #[.string errS] 328],#[],[]⟩
 { w0 with heap:=(((((((w0.heap.modify 2 (Znd #[.iface 326 (.pointer (some ⟨low,0,none⟩))])).modify 5 (Znd #[.iface 326 (.pointer (some ⟨low+1,0,none⟩))])).modify 6
   (Znd (Lib.pow10Tab.map (Value.int .u64)).toArray)).modify 7 (Znd (b32.map (Value.int .u8)).toArray)).modify 8 (Znd (b64.map (Value.int .u8)).toArray)).modify 4 (Znd (acR.map (Value.int .u8)).toArray)).modify
   0 (Znd (signsL.map fun s=>Value.string ⟨s.toArray⟩).toArray)).modify 3 (Znd (Pinned.utf8FirstZ.map fun (n:Nat)=>Value.int .u8 (n:Int)).toArray) }
theorem Zqp (os:Os) (args:Array Value):laidMet Tryz.prog Zkg ((laidWorld os).forCall (fun _ _=>0) ⟨#[],args,[]⟩).memory :=
 laidMet_of_run' 8 (by kernel_rfl) (by kernel_rfl)
end Go.Proofs.YtnjcehngoajnnaaGreatDoor
end

section
namespace Go.Proofs.YtnjcehngoajnnaaGreatDoor
open Go.RowKit Go.Hs
set_option maxRecDepth 100000
theorem Zqa {P:Program} {W:World} {x:String × DataW Unit} {r:List (String × DataW Unit)} (h:laidMet P (x::r) W):laidMet P r W:=by
 obtain ⟨n,d⟩:=x;obtain ⟨ps,⟨g0,t0,cs0,f0,p0,q0,hg0,ht0,hv0,hd0,hq,e0⟩,hnd,hrows⟩:=h;subst e0;exact ⟨q0,hq,(List.nodup_append.1 hnd).2.1,fun b off hm=>hrows b off (List.mem_append.2 (.inr hm))⟩
noncomputable def gE (m:Int):Nat→V:=fun g=>if g=2 then .view .old (.iface 326 (.view .old (.agg []))) else if g=6 then .view .old (.agg (Lib.pow10Tab.map (V.int .u64)))
 else if g=0 then .view .old (.agg (signsL.map V.str)) else if g=1 then .view .old (.int .i64 m) else .top
theorem Z4l (f:Col→Col):∀ l:List Int,Zja f (l.map (V.int .u64))=l.map (V.int .u64)
 | []=>rfl
 | x::r=>by simp only [List.map_cons,Zja];rw [Z4l f r]<;>rfl
theorem Z3l (f:Col→Col):∀ l:List (List UInt8),Zja f (l.map V.str)=l.map V.str
 | []=>rfl
 | x::r=>by simp only [List.map_cons,Zja];rw [Z3l f r]<;>rfl
theorem gE_ok (m:Int):GExp (gE m) where
 ok:=fun g=>by
  unfold gE
  split
  ·exact ⟨rfl,.view _ _ fun x hx=>by simp [V.cells] at hx;subst hx;exact .iface _ _ (.view _ _ fun x hx=>by simp [V.cells] at hx)⟩
  ·split
   ·refine ⟨by simp only [V.recol,Col.ent,Z4l],.view _ _ fun x hx=>?_⟩
    obtain ⟨n,_,rfl⟩:=List.mem_map.1 hx;exact .int _ _
   ·split
    ·refine ⟨by simp only [V.recol,Col.ent,Z3l],.view _ _ fun x hx=>?_⟩
     obtain ⟨n,_,rfl⟩:=List.mem_map.1 hx;exact .str _
    ·split
     ·exact ⟨rfl,.view _ _ fun x hx=>by simp [V.cells] at hx;subst hx;exact .int _ _⟩
     ·exact ⟨rfl,.top⟩
 er:=⟨_,_,_,rfl⟩
 tab:=⟨_,rfl⟩
 sg:=⟨_,rfl⟩
 ml:=⟨_,m,rfl⟩
theorem gER:Tryz.prog.globalNamed "strconv.ErrRange" = some 2:=by kernel_rfl
theorem gERType:(Tryz.prog.globals[2]?).map (·.type)=some 279:=by kernel_rfl
theorem Zb7:Tryz.prog.cellsOf 328=1:=by kernel_rfl
theorem Zh8:Tryz.prog.cellsOf 9=1:=by kernel_rfl
theorem star : "*" ++ "errors.errorString" = "*errors.errorString" := by decide
theorem row109 (u:TypeId) (h:Tryz.prog.typeName? 3 u=some "*errors.errorString"):u=326 :=
 typeName_ptr_named (nm := "errors.errorString") (by rw [star];kernel_rfl) (by kernel_rfl) (by decide) u (by rw [star];exact h)
theorem gTab:Tryz.prog.globalNamed "internal/strconv.uint64pow10" = some 6:=by kernel_rfl
theorem Zx6:∃ t n,(Tryz.prog.globals[6]?).map (·.type)=some t∧Tryz.prog.underlying t=some (.array n 262)∧Tryz.prog.cellsOf t=n∧n=20:=by
 refine ⟨(((Tryz.prog.globals[6]?).map (·.type)).getD 0),20,by kernel_rfl,by kernel_rfl,by kernel_rfl,rfl⟩
theorem Zm6 {W:World} (h:laidMet Tryz.prog Zkg W):Lib.TabIs Tryz.prog W "internal/strconv.uint64pow10" .u64 Lib.pow10Tab:=by
 obtain ⟨t,n,h1,h2,h3,rfl⟩:=Zx6
 have e:(Rows.laid_internal_strconv_uint64pow10:DataW Unit)=Lib.tabData .u64 Lib.pow10Tab:=by rfl
 have h4:=Zqa (Zqa h);rw [e] at h4;exact Lib.tabIs_of_head gTab h1 h2 Tryz.underlying262 (by kernel_rfl) h3 h4
theorem Zn6 {W:World} (h:laidMet Tryz.prog Zkg W):∃ b off,W.cell? ⟨2,0,none⟩=some (.iface 326 (.pointer (some ⟨b,off,none⟩))):=by
 obtain ⟨a,s,h1,h2,_,_⟩:=laid_sentinel (Zqa (Zqa (Zqa (Zqa h)))) gER gERType Tryz.underlying279 row109 Tryz.underlying326 Tryz.underlying328 rfl rfl Tryz.underlying9 Zb7 Zh8;have h0:=World.var?_cell gER h1 0;have hs:=World.cell?_spot h2;obtain ⟨b,off,sp⟩:=a;have hs:sp=none:=hs;subst hs;exact ⟨b,off,by simpa using h0⟩
def Zcv {H:Type} (zs:List (List UInt8)):DataW H := .agg (zs.map fun z => .lit (.string z))
theorem Z6p {H:Type} {enc:TypeId × Value→H} {P:Program} {w:World} {base:Nat} {sp:Nat→Bool} {held:Bool} {fuel:Nat} {t e:TypeId} {n:Nat} {cs:List Value} {zs:List (List UInt8)} {p:List MemPlace}
  (ht:P.underlying t=some (.array n e)) (he:P.underlying e=some .string) (hce:P.cellsOf e=1) (hct:P.cellsOf t=n)
  (h:DataW.trod enc P w base sp held fuel t cs=some (Zcv zs,p)):cs.length=zs.length∧∀ i (hi:i<zs.length),∃ s:ByteArray,cs[i]? = some (.string s)∧s.data.toList=zs[i]:=by
 cases fuel with
 | zero=>simp [DataW.trod] at h
 | succ fuel =>
  simp only [DataW.trod,ht,hce,hct,Nat.mul_one] at h
  split at h
  ·rename_i hl
   obtain ⟨xs,hm,hx⟩:=Option.map_eq_some_iff.1 h
   have hxs:xs.map (·.1)=zs.map fun z=>(DataW.lit (.string z):DataW H):=by
    have:=congrArg Prod.fst hx;simpa [Zcv] using this
   have hxl:xs.length=n:=by simpa using Lib.mapM_length hm
   have hzl:zs.length=n:=by
    have:=congrArg List.length hxs;simp at this;omega
   refine ⟨by omega,fun i hi=>?_⟩
   have hin:i<n:=by omega
   obtain ⟨b,hb,hf⟩:=Lib.mapM_at hm i i (by simp [hin]);obtain ⟨z,hc,rfl,_⟩:=DataW.trod_string he hf
   have h1:cs[i]? = some (.string z):=by
    have:=congrArg (·[0]?) hc;simpa [List.getElem?_take,List.getElem?_drop] using this
   have h2:(xs.map (·.1))[i]? = some (DataW.lit (.string z.data.toList):DataW H):=by simp [hb]
   rw [hxs,List.getElem?_map,List.getElem?_eq_getElem hi] at h2;refine ⟨z,h1,?_⟩;have h3:(DataW.lit (.string zs[i]):DataW H) = .lit (.string z.data.toList):=Option.some.inj h2
   injection h3 with h3
   injection h3 with h3
   exact h3.symm
  ·cases h
theorem gSg:Tryz.prog.globalNamed "hopscotch/lex.signs" = some 0:=by kernel_rfl
theorem gSgType:(Tryz.prog.globals[0]?).map (·.type)=some 212:=by kernel_rfl
theorem Z2z {W:World} (h:laidMet Tryz.prog Zkg W):∃ cs:Array Value,W.var? Tryz.prog "hopscotch/lex.signs" = some cs∧cs.size=14∧∀ i (hi:i<signsL.length),∃ s:ByteArray,cs[i]? = some (.string s)∧s.data.toList=signsL[i]:=by
 have e:(Rows.laid_hopscotch_lex_signs:DataW Unit)=Zcv signsL:=by rfl
 have h4:=Zqa (Zqa (Zqa (Zqa (Zqa (Zqa h)))));rw [e] at h4;obtain ⟨ps,⟨g',t',cs,fuel,p,q,hg',ht',hvar,hd,_,_⟩,_⟩:=h4;obtain rfl:=Option.some.inj (gSg.symm.trans hg');obtain rfl:=Option.some.inj (gSgType.symm.trans ht');obtain ⟨h1,h2⟩:=Z6p Tryz.underlying212 Tryz.underlying9 Zh8 (by kernel_rfl) hd;refine ⟨_,hvar,(by simpa using h1:cs.size=signsL.length).trans rfl,fun i hi=>?_⟩;obtain ⟨s,h3,h4⟩:=h2 i hi;exact ⟨s,by simpa using h3,h4⟩
theorem Zx2 {W:World} (h:W.ShapedOpen Tryz.prog):∃ m,W.cell? ⟨1,0,none⟩=some (.int .i64 m):=by
 obtain ⟨cs,hh,hs,hr⟩:=h.1 1 #[.int .i64 0] 3 (of_decide_eq_true (by kernel_rfl)) (by kernel_rfl);obtain ⟨ts,hts,_,hall⟩:=hr (by kernel_rfl);rw [show Tryz.prog.cellTypes Tryz.prog.depth 3=some [3] by kernel_rfl] at hts;cases hts
 have h1:0<cs.size:=by rw [hs];decide
 obtain ⟨u,hu',hok⟩:=hall 0 cs[0] (by simp [h1])
 have:u=3:=by simpa using hu'.symm
 subst this
 have hcell:W.cell? ⟨1,0,none⟩=some cs[0]:=by simp [World.cell?,hh,h1]
 rw [hcell];unfold Cell.ok at hok;rw [Tryz.underlying3] at hok
 cases hv:cs[0]<;>rw [hv] at hok<;>first | (obtain ⟨rfl,_⟩:=hok;exact ⟨_,rfl⟩) | simp at hok
theorem laid_G {W:World} (h:laidMet Tryz.prog Zkg W) (hS:W.ShapedOpen Tryz.prog):∃ m,∀ g,RelG (Zfb W) g (gE m g):=by
 obtain ⟨m,hml⟩:=Zx2 hS;refine ⟨m,fun g=>?_⟩;unfold gE
 split
 ·rename_i hg
  subst hg;obtain ⟨b,off,h1⟩:=Zn6 h;refine ⟨?_,trivial⟩;refine .view .old _ 2 0 (fun _ => .iface 326 (.pointer (some ⟨b,off,none⟩))) (fun i hi=>?_) (fun i hi=>?_)
  ·have:i=0:=by simpa [V.cells] using hi
   subst this;refine ⟨by show (W.cell? _).isSome=true;rw [h1]<;>rfl,World.block_lt_of_cell? _ _ h1,h1,rfl⟩
  ·have:i=0:=by simpa [V.cells] using hi
   subst this;exact .iface _ _ _ (.view .old _ b off (fun _ => .nilIface) (fun i hi=>by simp [V.cells] at hi) (fun i hi=>by simp [V.cells] at hi))
 ·split
  ·rename_i hg
   subst hg;have ht:=Zm6 h;have hc:∀ i (hi:i<Lib.pow10Tab.length),W.cell? ⟨6,i,none⟩=some (.int .u64 (Lib.pow10Tab.getD i 0)):=fun i hi=>ht.cell gTab i hi;have hlen:Lib.pow10Tab.length=20:=Lib.pow10Tab_length;have hlt:6<W.heap.size:=World.block_lt_of_cell? _ _ (hc 0 (by omega))
   have hv:W.var? Tryz.prog "internal/strconv.uint64pow10" = some (Lib.pow10Tab.map fun z=>Value.int .u64 z).toArray:=ht
   refine ⟨?_,?_⟩
   ·refine .view .old _ 6 0 (fun i => .int .u64 (Lib.pow10Tab.getD i 0)) (fun i hi=>?_) (fun i hi=>?_)
    ·have hi:i<Lib.pow10Tab.length:=by simpa [V.cells] using hi
     rw [Nat.zero_add];exact ⟨by show (W.cell? _).isSome=true;rw [hc i hi]<;>rfl,hlt,hc i hi,rfl⟩
    ·have hi':i<Lib.pow10Tab.length:=by simpa [V.cells] using hi
     have key:∀ v,v=V.int .u64 (Lib.pow10Tab.getD i 0)→Rel (Zfb W) (Value.int .u64 (Lib.pow10Tab.getD i 0)) v:=fun v e=>by rw [e];exact .int _ _
     exact key _ (by simp [V.cells,List.getD,hi'])
   ·refine ⟨hlt,?_⟩
    unfold World.var? at hv;rw [gTab] at hv;have hv:(match W.heap[6]? with | some (Obj.cells cs _ _)=>some cs | _=>none)=some (Lib.pow10Tab.map fun z=>Value.int .u64 z).toArray:=hv
    split at hv
    ·rename_i cs t fr hh
     cases hv;exact ⟨_,t,fr,hh,by simp⟩
    ·cases hv
  ·split
   ·rename_i hg
    subst hg;obtain ⟨cs,hv,hsz,hcs⟩:=Z2z h;have h0:=fun i=>World.var?_cell gSg hv i
    have hc:∀ i (hi:i<signsL.length),∃ s:ByteArray,W.cell? ⟨0,i,none⟩=some (.string s)∧s.data.toList=signsL[i]:=fun i hi=>by
     obtain ⟨s,h1,h2⟩:=hcs i hi;exact ⟨s,by rw [h0 i];exact h1,h2⟩
    have hlt:0<W.heap.size:=by
     obtain ⟨s,h1,_⟩:=hc 0 (by decide);exact World.block_lt_of_cell? _ _ h1
    refine ⟨?_,?_⟩
    ·refine .view .old _ 0 0 (fun i=>(cs[i]?).getD undef) (fun i hi=>?_) (fun i hi=>?_)
     ·have hi:i<signsL.length:=by simpa [V.cells] using hi
      obtain ⟨s,h1,_⟩:=hcs i hi;rw [Nat.zero_add,h1]
      have h2:W.cell? ⟨0,i,none⟩=some (.string s):=by rw [h0 i];exact h1
      exact ⟨by show (W.cell? _).isSome=true;rw [h2]<;>rfl,hlt,h2,rfl⟩
     ·have hi':i<signsL.length:=by simpa [V.cells] using hi
      obtain ⟨s,h1,h2⟩:=hcs i hi';rw [h1]
      have key:∀ v,v=V.str signsL[i]→Rel (Zfb W) (Value.string s) v:=fun v e=>by rw [e];exact .str _ _ h2
      exact key _ (by simp [V.cells])
    ·refine ⟨hlt,?_⟩
     unfold World.var? at hv;rw [gSg] at hv;have hv:(match W.heap[0]? with | some (Obj.cells cs _ _)=>some cs | _=>none)=some cs:=hv
     split at hv
     ·rename_i cs' t fr hh
      cases hv;exact ⟨_,t,fr,hh,by rw [hsz]<;>rfl⟩
     ·cases hv
   ·split
    ·rename_i hg
     subst hg;refine ⟨?_,trivial⟩;refine .view .old _ 1 0 (fun _ => .int .i64 m) (fun i hi=>?_) (fun i hi=>?_)
     ·have:i=0:=by simpa [V.cells] using hi
      subst this;refine ⟨by show (W.cell? _).isSome=true;rw [hml]<;>rfl,World.block_lt_of_cell? _ _ hml,hml,rfl⟩
     ·have:i=0:=by simpa [V.cells] using hi
      subst this;exact .int _ _
    ·exact ⟨.top _,trivial⟩
end Go.Proofs.YtnjcehngoajnnaaGreatDoor
end

section
namespace Go.Proofs.YtnjcehngoajnnaaGreatDoor
open Go.RowKit Go.Hs Go.ChangeShapes Go.WideShapes Go.ChangeAt
open Go.ChangeMaps (open_string shut_string)
set_option maxRecDepth 100000
theorem Zvi (W:World):Reads Tryz.prog W 9 1 (fun s:List UInt8=>[V.str s]):=by
 refine ⟨by kernel_rfl,fun _=>rfl,fun enc held fuel cs x h=>?_⟩;obtain ⟨s,rfl,_,_⟩:=DataW.trod_string Tryz.underlying9 h;exact ⟨s.data.toList,RelC.cons rfl (.str _ _ rfl) RelC.nil⟩
theorem Ziz (W:World):Reads Tryz.prog W 53 1 (fun s:Sl (List UInt8)=>[Za .any 1 V.str s]) :=
 Reads.slice Tryz.underlying53 (by kernel_rfl) (by decide) (Zvi W)
theorem Zgm {k:IntKind} {n:Int} (h:(Lit.int k n).wf=true):InK k n:=by
 simpa [Lit.wf,InK] using h
variable {W:World} {H:Type} {enc:TypeId × Value→H} {b0:Nat} {v:Value} {d:DataW H} {ps:List MemPlace}
theorem argL (hv:Value.okWide Tryz.prog W .any b0 53 v) (h:DataW.Trod enc Tryz.prog W 0 (fun _=>true) true 53 v d ps):∃ x:Sl (List UInt8),Rel (Zfb W) v (Za .old 1 V.str x):=by
 obtain ⟨fuel,h⟩:=h;obtain ⟨x,hx⟩:=(Ziz W).2.2 enc true fuel _ _ h
 have key:Rel (Zfb W) v (Za .any 1 V.str x):=by
  unfold Value.okWide at hv;rw [Tryz.underlying53] at hv
  have hc:v.cells = #[v]:=by
   unfold Cell.okWide Cell.ok at hv;rw [Tryz.underlying53] at hv
   cases v<;>first | rfl | (simp at hv)
  rw [hc] at hx;exact hx.rel 0 (by simp) (by simp)
 have h2:=key.ofW_old;refine ⟨x,?_⟩;simpa only [go_sem,List.map_cons,List.map_nil] using h2
theorem own:ownKnob Tryz.prog.godebug=none:=by kernel_rfl
theorem Zdm:laidOutB Tryz.prog=true:=by kernel_rfl
theorem Zzv {a:Assume} {C:Checked} {os:Os} {f:FuncId} {fn:Func} {H:Type} {enc:TypeId × Value→H} {s:ChangeSpec} {conds:List PathCond} {apart fresh handsOn again:Bool} {X:World→Array Value→Prop}
  (hX:∀ (w w':World) (args:Array Value),w.heap=w'.heap→X w args→X w' args)
  (ownk:ownKnob C.prog.godebug=none) (started:os.Started) (noInit:C.prog.inits.idxOf? f=none) (hfn:C.prog.funcs[f]? = some fn)
  (witness:∃ (w:World) (tape:Tape) (i:Input),w.os=os∧(w.forCall tape i).Shaped C.prog∧i.vars=[]∧Input.okWide C.prog (w.forCall tape i) .any w.heap.size f i ∧
   ((s.pre enc C.prog fn conds apart (w.forCall tape i).memory i.args∧X (w.forCall tape i).memory i.args)∧sizedMet enc C.prog fn (OpenSpec.ofChange s) apart (w.forCall tape i).memory i.args)∧a.holds C.prog (lone (Frame.enter C.prog f i.args .normal) [] (w.forCall tape i)))
  (contract:∀ (W:World) (base:Nat) (args:Array Value) (ds gs:List (DataW H)) (before:List MemPlace),W.ShapedOpen C.prog →
   (∀ (j:Nat) t v,fn.params[j]? = some t→args[j]? = some v→Value.okWide C.prog W .any base t v) →
   DataW.Whole enc C.prog fn.params.toList s.vars apart W args.toList ds gs before→X W args →
   Calls C.prog f args W fun e W'=>∃ v,e = .returned v∧s.post enc C.prog fn apart fresh handsOn again W args v W') :
  ReturnsInHanded a C os f .any (fun w args=>(s.pre enc C.prog fn conds apart w args∧X w args)∧sizedMet enc C.prog fn (OpenSpec.ofChange s) apart w args) (s.post enc C.prog fn apart fresh handsOn again):=by
 refine returnsInHanded_of_calls ownk started noInit witness ?_;intro w tape i _ hsh _ hok hpre _;obtain ⟨_,_,_,fn',hfn',_,_,_,_,hval⟩:=hok;have e:fn'=fn:=Option.some.inj (hfn'.symm.trans hfn);subst e;obtain ⟨⟨⟨ds,gs,before,hw,_⟩,hx⟩,_⟩:=hpre;have hw':=DataW.Whole.of_heap (w':=w.forCall tape i) (by rfl) hw;refine (contract (w.forCall tape i) w.heap.size i.args ds gs before hsh hval hw' (hX _ _ _ (by rfl) hx)).mono fun e W' ⟨v,he,hp⟩=>?_;subst he;exact ChangeSpec.post_blind hp
end Go.Proofs.YtnjcehngoajnnaaGreatDoor
end

section
namespace Go.Proofs.YtnjcehngoajnnaaGreatDoor
open Go.RowKit Go.Hs Go.ChangeShapes Go.WideShapes Go.ChangeAt
set_option maxRecDepth 100000
abbrev XNb:={ n:XN // InK .i64 n.num }
theorem Z71 (W:World):Reads Tryz.prog W 59 6 (fun n:XNb=>(Z3 n.1).cells):=by
 refine ⟨by kernel_rfl,fun _=>rfl,fun enc held fuel cs x h=>?_⟩;obtain ⟨xs,n,_,_,hl,hlen,hf⟩:=DataW.trod_struct Tryz.underlying59 h
 have e43:Tryz.prog.cellsOf 59=6:=by kernel_rfl
 rw [e43] at hl;have hx:xs.length=6:=hlen
 have rI:Reads Tryz.prog W 2 1 (fun n:{ n:Int // InK .i64 n }=>[V.int .i64 n.1]):=by
  refine ⟨by kernel_rfl,fun _=>rfl,fun enc held fuel cs x h=>?_⟩;obtain ⟨n,rfl,_,hw⟩:=DataW.trod_int Tryz.underlying2 h;exact ⟨⟨n,Zgm hw⟩,RelC.cons rfl (.int _ _) RelC.nil⟩
 obtain ⟨op,h0⟩:=Reads.field (Reads.int (W:=W) Tryz.underlying5 (by kernel_rfl)) (i:=0) (hf 0 _ rfl) (by omega);obtain ⟨num,h1⟩:=Reads.field rI (i:=1) (hf 1 _ rfl) (by omega);obtain ⟨name,h2⟩:=Reads.field (Zvi W) (i:=2) (hf 2 _ rfl) (by omega);obtain ⟨a,h3⟩:=Reads.field (Reads.int (W:=W) Tryz.underlying3 (by kernel_rfl)) (i:=3) (hf 3 _ rfl) (by omega);obtain ⟨b,h4⟩:=Reads.field (Reads.int (W:=W) Tryz.underlying3 (by kernel_rfl)) (i:=4) (hf 4 _ rfl) (by omega);obtain ⟨c,h5⟩:=Reads.field (Reads.int (W:=W) Tryz.underlying3 (by kernel_rfl)) (i:=5) (hf 5 _ rfl) (by omega)
 match cs,hl with
 | [c0,c1,c2,c3,c4,c5],_=>exact ⟨⟨⟨op,num.1,name,a,b,c⟩,num.2⟩,h0.append (h1.append (h2.append (h3.append (h4.append h5))))⟩
theorem Zhz (W:World):Reads Tryz.prog W 22 1 (fun s:Sl XNb=>[Za .any 6 (fun n:XNb=>Z3 n.1) s]) :=
 Reads.slice Tryz.underlying22 (by kernel_rfl) (by decide) (Z71 W)
theorem Zmv (W:World):Reads Tryz.prog W 24 1 (fun s:Sl XNb=>(V.agg [Za .any 6 (fun n:XNb=>Z3 n.1) s]).cells):=by
 refine ⟨by kernel_rfl,fun _=>rfl,fun enc held fuel cs x h=>?_⟩;obtain ⟨xs,n,_,_,hl,hlen,hf⟩:=DataW.trod_struct Tryz.underlying24 h
 have e24:Tryz.prog.cellsOf 24=1:=by kernel_rfl
 rw [e24] at hl;have hx:xs.length=1:=hlen;obtain ⟨s,h0⟩:=Reads.field (Zhz W) (i:=0) (hf 0 _ rfl) (by omega)
 match cs,hl with
 | [c0],_=>exact ⟨s,h0⟩
def unX:Sl XNb→Sl XN
 | .nil => .nil
 | .mk b l => .mk b (l.map (·.1))
theorem unX_in (s:Sl XNb):∀ n∈(unX s).l,InK .i64 n.num:=by
 cases s with
 | nil=>intro x hx;cases hx
 | mk b l =>
  intro x hx;obtain ⟨y,_,rfl⟩:=List.mem_map.1 hx;exact y.2
theorem unX_enc (c:Col) (s:Sl XNb):Za c 6 (fun n:XNb=>Z3 n.1) s=Za c 6 Z3 (unX s):=by
 cases s with
 | nil=>rfl
 | mk b l=>simp only [Za,unX,List.map_map];rfl
variable {W:World} {H:Type} {enc:TypeId × Value→H} {b0:Nat} {v:Value} {d:DataW H} {ps:List MemPlace}
end Go.Proofs.YtnjcehngoajnnaaGreatDoor
end

section
namespace Go.Proofs.YtnjcehngoajnnaaGreatDoor
open Go.RowKit Go.Hs Go.ChangeShapes Go.WideShapes Go.ChangeAt
set_option maxRecDepth 100000
structure AMr where
 kind:Int
 name:List UInt8
 x:Sl XNb
def AMr.am (a:AMr):AM:=⟨a.kind,a.name,unX a.x⟩
theorem Zjz (W:World):Reads Tryz.prog W 92 3 (fun a:AMr=>(Zia .any a.am).cells):=by
 refine ⟨by kernel_rfl,fun _=>rfl,fun enc held fuel cs x h=>?_⟩;obtain ⟨xs,n,_,_,hl,hlen,hf⟩:=DataW.trod_struct Tryz.underlying92 h
 have e43:Tryz.prog.cellsOf 92=3:=by kernel_rfl
 rw [e43] at hl;have hx:xs.length=3:=hlen;obtain ⟨k,h0⟩:=Reads.field (Reads.int (W:=W) Tryz.underlying5 (by kernel_rfl)) (i:=0) (hf 0 _ rfl) (by omega);obtain ⟨name,h1⟩:=Reads.field (Zvi W) (i:=1) (hf 1 _ rfl) (by omega);obtain ⟨s,h2⟩:=Reads.field (Zmv W) (i:=2) (hf 2 _ rfl) (by omega)
 match cs,hl with
 | [c0,c1,c2],_ =>
  refine ⟨⟨k,name,s⟩,?_⟩;have h2:RelC (Zfb W) [c2] [Za .any 6 (fun n:XNb=>Z3 n.1) s]:=h2;rw [unX_enc] at h2;exact h0.append (h1.append h2)
theorem Zlv (W:World):Reads Tryz.prog W 61 1 (fun s:Sl AMr=>[Za .any 3 (fun a:AMr=>Zia .any a.am) s]) :=
 Reads.slice Tryz.underlying61 (by kernel_rfl) (by decide) (Zjz W)
theorem Zkz (W:World):Reads Tryz.prog W 63 1 (fun s:Sl AMr=>(V.agg [Za .any 3 (fun a:AMr=>Zia .any a.am) s]).cells):=by
 refine ⟨by kernel_rfl,fun _=>rfl,fun enc held fuel cs x h=>?_⟩;obtain ⟨xs,n,_,_,hl,hlen,hf⟩:=DataW.trod_struct Tryz.underlying63 h
 have e24:Tryz.prog.cellsOf 63=1:=by kernel_rfl
 rw [e24] at hl;have hx:xs.length=1:=hlen;obtain ⟨s,h0⟩:=Reads.field (Zlv W) (i:=0) (hf 0 _ rfl) (by omega)
 match cs,hl with
 | [c0],_=>exact ⟨s,h0⟩
def unA:Sl AMr→Sl AM
 | .nil => .nil
 | .mk b l => .mk b (l.map AMr.am)
theorem unA_in (s:Sl AMr):∀ a∈(unA s).l,∀ n∈a.x.l,InK .i64 n.num:=by
 cases s with
 | nil=>intro x hx;cases hx
 | mk b l =>
  intro x hx;obtain ⟨y,_,rfl⟩:=List.mem_map.1 hx;exact unX_in y.x
theorem unA_enc (c:Col) (s:Sl AMr):Za c 3 (fun a:AMr=>Zia c a.am) s=Za c 3 (Zia c) (unA s):=by
 cases s with
 | nil=>rfl
 | mk b l=>simp only [Za,unA,List.map_map];rfl
variable {W:World} {H:Type} {enc:TypeId × Value→H} {b0:Nat} {v:Value} {d:DataW H} {ps:List MemPlace}
theorem argB (hv:Value.okWide Tryz.prog W .any b0 63 v) (h:DataW.Trod enc Tryz.prog W 0 (fun _=>true) true 63 v d ps):∃ x:Sl AM,(∀ a∈x.l,∀ n∈a.x.l,InK .i64 n.num)∧Rel (Zfb W) v (.agg [Za .old 3 (Zia .old) x]):=by
 obtain ⟨fuel,h⟩:=h;obtain ⟨x,hx⟩:=(Zkz W).2.2 enc true fuel _ _ h
 have key:Rel (Zfb W) v (.agg [Za .any 3 (Zia .any) (unA x)]):=by
  rw [← unA_enc];unfold Value.okWide at hv;rw [Tryz.underlying63] at hv;obtain ⟨cs,rfl,_,_⟩:=hv;have hx':RelC (Zfb W) (Value.agg cs).cells.toList [Za .any 3 (fun a:AMr=>Zia .any a.am) x]:=hx;exact Z4w hx'
 have h2:=key.ofW_old;refine ⟨unA x,unA_in x,?_⟩;simpa only [go_sem,Zti,List.map_cons,List.map_nil] using h2
end Go.Proofs.YtnjcehngoajnnaaGreatDoor
end

section
namespace Go.Proofs.YtnjcehngoajnnaaGreatDoor
open Go.RowKit Go.Hs Go.ChangeShapes Go.WideShapes Go.ChangeAt
set_option maxRecDepth 100000
theorem Zvp {n:Int} (h:InK .i64 n):Zsb n=true:=decide_eq_true h
abbrev BIb:={ p:List UInt8 × Int // InK .i64 p.2 }
theorem Z81 (W:World):Reads Tryz.prog W 55 2 (fun p:BIb=>(Zz p.1).cells):=by
 refine ⟨by kernel_rfl,fun _=>rfl,fun enc held fuel cs x h=>?_⟩;obtain ⟨xs,n,_,_,hl,hlen,hf⟩:=DataW.trod_struct Tryz.underlying55 h
 have e43:Tryz.prog.cellsOf 55=2:=by kernel_rfl
 rw [e43] at hl;have hx:xs.length=2:=hlen
 have rI:Reads Tryz.prog W 2 1 (fun n:{ n:Int // InK .i64 n }=>[V.int .i64 n.1]):=by
  refine ⟨by kernel_rfl,fun _=>rfl,fun enc held fuel cs x h=>?_⟩;obtain ⟨n,rfl,_,hw⟩:=DataW.trod_int Tryz.underlying2 h;exact ⟨⟨n,Zgm hw⟩,RelC.cons rfl (.int _ _) RelC.nil⟩
 obtain ⟨name,h0⟩:=Reads.field (Zvi W) (i:=0) (hf 0 _ rfl) (by omega);obtain ⟨num,h1⟩:=Reads.field rI (i:=1) (hf 1 _ rfl) (by omega)
 match cs,hl with
 | [c0,c1],_=>exact ⟨⟨(name,num.1),num.2⟩,h0.append h1⟩
theorem Zlz (W:World):Reads Tryz.prog W 25 1 (fun s:Sl BIb=>[Za .any 2 (fun p:BIb=>Zz p.1) s]) :=
 Reads.slice Tryz.underlying25 (by kernel_rfl) (by decide) (Z81 W)
def unB:Sl BIb→Sl (List UInt8 × Int)
 | .nil => .nil
 | .mk b l => .mk b (l.map (·.1))
theorem unB_in (s:Sl BIb):∀ n∈(unB s).l,Zsb n.2=true:=by
 cases s with
 | nil=>intro x hx;cases hx
 | mk b l =>
  intro x hx;obtain ⟨y,_,rfl⟩:=List.mem_map.1 hx;exact Zvp y.2
theorem unB_enc (c:Col) (s:Sl BIb):Za c 2 (fun p:BIb=>Zz p.1) s=Za c 2 Zz (unB s):=by
 cases s with
 | nil=>rfl
 | mk b l=>simp only [Za,unB,List.map_map];rfl
variable {W:World} {H:Type} {enc:TypeId × Value→H} {b0:Nat} {v:Value} {d:DataW H} {ps:List MemPlace}
theorem argN (hv:Value.okWide Tryz.prog W .any b0 25 v) (h:DataW.Trod enc Tryz.prog W 0 (fun _=>true) true 25 v d ps):∃ x:Sl (List UInt8 × Int),(∀ p∈x.l,Zsb p.2=true)∧Rel (Zfb W) v (Za .old 2 Zz x):=by
 obtain ⟨fuel,h⟩:=h;obtain ⟨x,hx⟩:=(Zlz W).2.2 enc true fuel _ _ h
 have key:Rel (Zfb W) v (Za .any 2 Zz (unB x)):=by
  rw [← unB_enc];unfold Value.okWide at hv;rw [Tryz.underlying25] at hv
  have hc:v.cells = #[v]:=by
   unfold Cell.okWide Cell.ok at hv;rw [Tryz.underlying25] at hv
   cases v<;>first | rfl | (simp at hv)
  rw [hc] at hx;exact hx.rel 0 (by simp) (by simp)
 have h2:=key.ofW_old;refine ⟨unB x,unB_in x,?_⟩;simpa only [go_sem,Zls,List.map_cons,List.map_nil] using h2
theorem argJ (hv:Value.okWide Tryz.prog W .any b0 2 v) (h:DataW.Trod enc Tryz.prog W 0 (fun _=>true) true 2 v d ps):∃ x:Int,Zsb x=true∧Rel (Zfb W) v (.int .i64 x):=by
 obtain ⟨n,rfl,_,_,hw⟩:=open_int Tryz.underlying2 hv h;exact ⟨n,Zvp (Zgm hw),.int _ _⟩
end Go.Proofs.YtnjcehngoajnnaaGreatDoor
end

section
namespace Go.Proofs.YtnjcehngoajnnaaGreatDoor
open Go.RowKit Go.Hs Go.ChangeShapes Go.WideShapes Go.ChangeAt
set_option maxRecDepth 100000
theorem Zh3 {x:Sl AM} (h:∀ a∈x.l,∀ n∈a.x.l,InK .i64 n.num):∀ a∈x.l,∀ n∈a.x.l,Zsb n.num=true:=fun a ha n hn=>Zvp (h a ha n hn)
variable {W:World} {H:Type} {enc:TypeId × Value→H} {b0:Nat} {v:Value} {d:DataW H} {ps:List MemPlace}
end Go.Proofs.YtnjcehngoajnnaaGreatDoor
end

section
namespace Go.Proofs.YtnjcehngoajnnaaGreatDoor
open Go.RowKit Go.Hs Go.ChangeShapes Go.WideShapes Go.ChangeAt
set_option maxRecDepth 100000
set_option maxHeartbeats 4000000
theorem sfMaps:mapsRowed Tryz.prog=true:=by kernel_rfl
theorem sfStops:(Tryz.prog.stops==[])=true:=by kernel_rfl
theorem sfKnobs:(Tryz.prog.stopKnobs==[])=true:=by kernel_rfl
theorem sfKeys:(Rows.evalTextsRow.plainKeys==Tryz.prog.plainKeys)=true:=by kernel_rfl
theorem sfHeard:Tryz.prog.stopsHeard=true:=by kernel_rfl
theorem sfEnter:Tryz.prog.mayEnter=true:=by kernel_rfl
theorem Zn5:(Rows.evalTextsRow.lifted==Tryz.prog.liftsFinal)=true:=by kernel_rfl
theorem sfMake:(Tryz.prog.make==some Rows.evalTextsRow.make)=true:=by kernel_rfl
end Go.Proofs.YtnjcehngoajnnaaGreatDoor
end
