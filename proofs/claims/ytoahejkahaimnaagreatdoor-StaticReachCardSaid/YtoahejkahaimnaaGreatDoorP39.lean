/- A part. No condition. -/
import Derived.Test.YtoahejkahaimnaaGreatDoorP36
import Derived.Test.YtoahejkahaimnaaGreatDoorP38
import Derived.Test.YtoahejkahaimnaaGreatDoorChecked
import Derived.Shelf.Spec.SlicesGrow
import Derived.Ground.Names7Prog
set_option linter.all false
section
namespace Go.Hs
open Go.Proofs
set_option maxHeartbeats 1000000
set_option maxRecDepth 10000
@[go_sem] theorem loadK_vptr(n:Nat)(ob:AObj)(q:Col)(o g off:Nat):Zng (some (false,n)) ob (.view q (.ptr o g off))=some (.ptr o g off):=rfl
structure PlW where
 parent:Int
 region:Int
 depth:Int
 state:Bool
 point:Bool
 out:Row
 into:Row
def Zmi(p:PlW):V:=.agg [.int .i64 p.parent,.int .i64 p.region,.int .i64 p.depth,.bool p.state,.bool p.point,p.out.v,p.into.v]
theorem plwC(p:PlW):(Zmi p).cells=[.int .i64 p.parent,.int .i64 p.region,.int .i64 p.depth,.bool p.state,.bool p.point,p.out.v,p.into.v]:=rfl
theorem Zyj(p:PlW):(Zmi p).cells.length=7:=by rw[plwC];rfl
structure PlIs(m:PM)(gx gp:Nat)(k o q:V)(ps:List PlW)(H:Heap):Prop where
 len:ps.length=m.vertices.length
 par:∀ (i:Nat) p,ps[i]?=some p->p.parent=m.around i
 x:H 138=.cells .new gx 0 [.msl 130 gp 0 ps.length 7,k,o,q]
 p:H 130=.cells .new gp 0 (flat (ps.map Zmi))
theorem up1M_it(G:Nat->V)(hG:GOk G)(m:PM)(a:m.Acy)(gx gp:Nat)(ko oo qo:V)(v:Int)(hv:v<m.vertices.length)(g2 g3:Nat)(H:Heap)(h2:H 52=.cells .new g2 0 [.ptr 138 gx 0])(h3:H 53=.cells .new g3 0 [.int .i64 v]):
  ItSp Tryz.prog G 100 111 [.ptr 53 g3 0,.ptr 52 g2 0] H (λk:Int=>[.int .i64 k]) (chL m v) (λH=>∃ ps,PlIs m gx gp ko oo qo ps H):=by
 refine Zdc .plain 0 19 3 [] Tryz.func111 λX t cl σ R dom nx s0 hy hd hR hP=>?_;refine AW.block ?_
 refine Zcd (fun(w:Int × σ × Heap)=>⟨Zfa emp [(0,.func t [] cl),(1,.ptr 53 g3 0),(2,.ptr 52 g2 0)],Zfa (Zia 100 w.2.2) [(52,.cells .new g2 0 [.ptr 138 gx 0]),(53,.cells .new g3 0 [.int .i64 w.1])]⟩)
  (λw=>w.1<m.vertices.length/\Z0o dom nx w.2.1 (chL m w.1)/\R w.2.1 (Zia 100 w.2.2)/\Zla nx s0 (chL m v)=Zla nx w.2.1 (chL m w.1)) (λw=>(chL m w.1).length) (v,s0,H) ⟨hv,hd,hR,rfl⟩ ?_ ?_
 exact Zva ⟨rfl,rfl,rfl,trivial⟩ ⟨h2,h3,trivial⟩ rfl;rintro⟨w,s,H1⟩ ⟨w1,wd,wR,we⟩ L hL;simp only at w1 wd wR we⊢
 by_cases h0:0<=w
 have q0:decide (w>=0)=true:=zT;rw[Z36 a h0 w1]at wd we;refine Z6 (Z6 (Zrb [5] zk (by rfl) ?_));simp -implicitDefEqProofs only[go_sem,seval,q0,Z7y];refine⟨_,rfl,Zvf hy s w zp zm wd.1 ?_ (λH2 hR2 hlow=>?_) zk (n:=5) rfl zp⟩;simp -implicitDefEqProofs only[go_sem,seval];exact wR;have e52:=hlow 52 zd;have e53:=hlow 53 zd;simp -implicitDefEqProofs only[go_sem,seval]at e52 e53;have wd2:=wd.2
 have we2:Zla nx s0 (chL m v)=if(nx s w).1=true then Zla nx (nx s w).2 (chL m (m.around w))else(false,(nx s w).2):=we
 generalize nx s w=r at hR2 we2 wd2⊢;obtain⟨bb,s2⟩:=r;refine Zs ?_;refine AW.weak (Zva (lo:=100) (B:=H2) (l:=[(0,.func t [] cl),(1,.ptr 53 g3 0),(2,.ptr 52 g2 0),(10,.bool bb)]) (m:=[(52,.cells .new g2 0 [.ptr 138 gx 0]),(53,.cells .new g3 0 [.int .i64 w])]) ⟨rfl,rfl,rfl,rfl,trivial⟩ ⟨e52,e53,trivial⟩ rfl) ?_;cases bb;refine Z ?_;rw[we2];refine⟨_,rfl,.inr trivial,?_⟩
 show R s2 _
 refine Zs ?_;exact hR2;obtain⟨ps,hps⟩:=hP _ _ hR2;obtain⟨k,rfl⟩:∃ k:Nat,w=(k:Int):=⟨w.toNat,zo⟩
 have hk:k<ps.length:=by rw[hps.len];omega
 have hg:=List.getElem?_eq_getElem hk;have hp:=hps.par k _ hg;have hpt:(flat (ps.map Zmi))[k*7]?=_:=Z7s Zyj (j:=0) (v:=.int .i64 ps[k].parent) zd hg (by rw[plwC];rfl);have hfl:=Zjb Zyj ps;have hle:k*7+1<=ps.length*7:=zo;have hle2:k*7<ps.length*7:=zo;rw[hp]at hpt;refine ZTf (zi hps.x (zi hps.p (zi hpt (zi hfl (zi hle (zi hle2 (zi hk (zi @Int.natCast_nonneg @Int.ofNat_lt)))))))) hG ?_;refine Zs ?_
 have hr:m.around k<m.vertices.length:=by rcases a.rng k h0 w1 with q|q<;>omega
 refine hL _ ⟨(m.around k,s2,H2),?_,⟨hr,wd2 rfl,hR2,by rw[we2];rfl⟩,Zva ⟨rfl,rfl,rfl,trivial⟩ ⟨zp,?_,trivial⟩ ?_⟩
 show(chL m (m.around k)).length<(chL m k).length
 rw[Z36 a h0 w1];exact Nat.lt_succ_self _;simp -implicitDefEqProofs only[go_sem,seval];simp -implicitDefEqProofs only[go_sem,seval];have q0:decide (w>=0)=false:=zF;have e0:chL m w=[]:=if_neg h0;rw[e0]at we;refine Zf q0 ?_;refine Zs ?_;rw[we];refine⟨_,rfl,.inr trivial,?_⟩
 show R s _
 refine Zs ?_;exact wR
end Go.Hs
end

section
namespace Go.Proofs
open Go.Shelf
def Zmp:Go.Shelf.Ren:=⟨fun|4=>219|n=>n,fun|22=>45|25=>3|3=>3|4=>4|9=>9|20=>20|0=>0|n=>n,fun|n=>n⟩
theorem Znp:Go.Proofs.Lays8.n4 Tryz.prog Zmp:={
 mixed:=by kernel_rfl
 f4:=⟨Tryz.f219.name,by decide,Tryz.func219.trans (congrArg some (by kernel_rfl))⟩
 t0:=Tryz.underlying0
 a0:=Tryz.isAgg0
 z0:=Tryz.sizeOf0
 v0:=Tryz.zeroValue0
 t3:=Tryz.underlying3
 a3:=Tryz.isAgg3
 z3:=Tryz.sizeOf3
 v3:=Tryz.zeroValue3
 t4:=Tryz.underlying4
 a4:=Tryz.isAgg4
 z4:=Tryz.sizeOf4
 v4:=Tryz.zeroValue4
 t9:=Tryz.underlying9
 a9:=Tryz.isAgg9
 z9:=Tryz.sizeOf9
 v9:=Tryz.zeroValue9
 t20:=Tryz.underlying20
 a20:=Tryz.isAgg20
 z20:=Tryz.sizeOf20
 v20:=Tryz.zeroValue20
 t22:=Tryz.underlying45
 a22:=Tryz.isAgg45
 z22:=Tryz.sizeOf45
 v22:=Tryz.zeroValue45 }
end Go.Proofs
end
