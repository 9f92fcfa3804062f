/- A part. No condition. -/
import Derived.Test.YtoahejkahaimnaaGreatDoorP36
import Derived.Test.YtoahejkahaimnaaGreatDoorP38
import Derived.Test.YtoahejkahaimnaaGreatDoorChecked
import Derived.Shelf.Spec.SlicesGrow
import Derived.Ground.Names7Prog
set_option linter.all false
section
namespace Go.Hs
open Go.Proofs
set_option maxHeartbeats 1000000
set_option maxRecDepth 10000
@[go_sem] theorem loadK_vptr(n:Nat)(ob:AObj)(q:Col)(o g off:Nat):Tz (some (false,n)) ob (.view q (.ptr o g off))=some (.ptr o g off):=rfl
structure PlW where
 parent:Int
 region:Int
 depth:Int
 state:Bool
 point:Bool
 out:Row
 into:Row
def Qu(p:PlW):V:=.agg [.int .i64 p.parent,.int .i64 p.region,.int .i64 p.depth,.bool p.state,.bool p.point,p.out.v,p.into.v]
theorem plwC(p:PlW):(Qu p).cells=[.int .i64 p.parent,.int .i64 p.region,.int .i64 p.depth,.bool p.state,.bool p.point,p.out.v,p.into.v]:=rfl
theorem Na(p:PlW):(Qu p).cells.length=7:=by rw[plwC]<;>rfl
structure PlIs(m:PM)(gx gp:Nat)(k o q:V)(ps:List PlW)(H:Heap):Prop where
 len:ps.length=m.vertices.length
 par:∀ (i:Nat) p,ps[i]?=some p->p.parent=m.around i
 x:H 138=.cells .new gx 0 [.msl 130 gp 0 ps.length 7,k,o,q]
 p:H 130=.cells .new gp 0 (flat (ps.map Qu))
theorem Z33(G:Nat->V)(hG:Y6 G)(m:PM)(a:m.Acy)(gx gp:Nat)(U T S:V)(v:Int)(Y:v<m.vertices.length)(g2 g3:Nat)(H:Heap)(h2:H 52=.cells .new g2 0 [.ptr 138 gx 0])(h3:H 53=.cells .new g3 0 [.int .i64 v]):
  Z5l Tryz.prog G 100 111 [.ptr 53 g3 0,.ptr 52 g2 0] H (λk:Int=>[.int .i64 k]) (Oy m v) (λH=>∃ ps,PlIs m gx gp U T S ps H):=by
 refine Vc .plain 0 19 3 [] Tryz.func111 λX t cl σ R K b E W hd hR hP=>?_;refine AW.block ?_
 refine Vz (fun(w:Int × σ × Heap)=>⟨Z6 emp [(0,.func t [] cl),(1,.ptr 53 g3 0),(2,.ptr 52 g2 0)],Z6 (Z7 100 w.2.2) [(52,.cells .new g2 0 [.ptr 138 gx 0]),(53,.cells .new g3 0 [.int .i64 w.1])]⟩)
  (λw=>w.1<m.vertices.length/\R9 K b w.2.1 (Oy m w.1)/\R w.2.1 (Z7 100 w.2.2)/\Yl b E (Oy m v)=Yl b w.2.1 (Oy m w.1)) (λw=>(Oy m w.1).length) (v,E,H) ⟨Y,hd,hR,rfl⟩ ?_ ?_
 exact Y5 ⟨rfl,rfl,rfl,trivial⟩ ⟨h2,h3,trivial⟩ rfl;rintro⟨w,s,H1⟩ ⟨A,z,D,g⟩ L hL;simp only at A z D g⊢
 by_cases C:0<=w
 have F:decide (w>=0)=true:=zT;rw[Zfb a C A]at z g;refine Z4 (Z4 (Wm [5] zk (by rfl) ?_));simp -implicitDefEqProofs only[go_sem,seval,F,My];refine⟨_,rfl,S8 W s w zp zm z.1 ?_ (λQ d e=>?_) zk (n:=5) rfl zp⟩;refine Zs ?_;exact D;have y:=e 52 zd;have u:=e 53 zd;simp -implicitDefEqProofs only[go_sem,seval]at y u;have h:=z.2
 have f:Yl b E (Oy m v)=if(b s w).1=true then Yl b (b s w).2 (Oy m (m.around w))else(false,(b s w).2):=g
 generalize b s w=r at d f h⊢;obtain⟨P,M⟩:=r;refine Zs ?_;refine AW.weak (Y5 (lo:=100) (B:=Q) (l:=[(0,.func t [] cl),(1,.ptr 53 g3 0),(2,.ptr 52 g2 0),(10,.bool P)]) (m:=[(52,.cells .new g2 0 [.ptr 138 gx 0]),(53,.cells .new g3 0 [.int .i64 w])]) ⟨rfl,rfl,rfl,rfl,trivial⟩ ⟨y,u,trivial⟩ rfl) ?_;cases P;refine Z ?_;rw[f];refine⟨_,rfl,.inr trivial,?_⟩
 show R M _
 refine Zs ?_;exact d;obtain⟨ps,c⟩:=hP _ _ d;obtain⟨k,rfl⟩:∃ k:Nat,w=(k:Int):=⟨w.toNat,zo⟩
 have N:k<ps.length:=by rw[c.len];omega
 have O:=List.getElem?_eq_getElem N;have hp:=c.par k _ O;have i:(flat (ps.map Qu))[k*7]?=_:=G8 Na (j:=0) (v:=.int .i64 ps[k].parent) zd O (by rw[plwC]<;>rfl);have J:=Xo Na ps;have I:k*7+1<=ps.length*7:=zo;have o:k*7<ps.length*7:=zo;rw[hp]at i;refine Ha (zi c.x (zi c.p (zi i (zi J (zi I (zi o (zi N (zi @Int.natCast_nonneg @Int.ofNat_lt)))))))) hG ?_;refine Zs ?_
 have hr:m.around k<m.vertices.length:=by rcases a.rng k C A with q|q<;>omega
 refine hL _ ⟨(m.around k,M,Q),?_,⟨hr,h rfl,d,by rw[f]<;>rfl⟩,Y5 ⟨rfl,rfl,rfl,trivial⟩ ⟨zp,?_,trivial⟩ ?_⟩
 show(Oy m (m.around k)).length<(Oy m k).length
 rw[Zfb a C A];exact Nat.lt_succ_self _;exact zp;exact zp;have F:decide (w>=0)=false:=zF;have e0:Oy m w=[]:=if_neg C;rw[e0]at g;refine Zf F ?_;refine Zs ?_;rw[g];refine⟨_,rfl,.inr trivial,?_⟩
 show R s _
 refine Zs ?_;exact D
end Go.Hs
end

section
namespace Go.Proofs
open Go.Shelf
def Gw:Go.Shelf.Ren:=⟨fun|4=>219|n=>n,fun|22=>45|25=>3|3=>3|4=>4|9=>9|20=>20|0=>0|n=>n,fun|n=>n⟩
theorem Gb:Go.Proofs.Lays8.n4 Tryz.prog Gw:={
 mixed:=by kernel_rfl
 f4:=⟨Tryz.f219.name,by decide,Tryz.func219.trans (congrArg some (by kernel_rfl))⟩
 t0:=Tryz.underlying0
 a0:=Tryz.isAgg0
 z0:=Tryz.sizeOf0
 v0:=Tryz.zeroValue0
 t3:=Tryz.underlying3
 a3:=Tryz.isAgg3
 z3:=Tryz.sizeOf3
 v3:=Tryz.zeroValue3
 t4:=Tryz.underlying4
 a4:=Tryz.isAgg4
 z4:=Tryz.sizeOf4
 v4:=Tryz.zeroValue4
 t9:=Tryz.underlying9
 a9:=Tryz.isAgg9
 z9:=Tryz.sizeOf9
 v9:=Tryz.zeroValue9
 t20:=Tryz.underlying20
 a20:=Tryz.isAgg20
 z20:=Tryz.sizeOf20
 v20:=Tryz.zeroValue20
 t22:=Tryz.underlying45
 a22:=Tryz.isAgg45
 z22:=Tryz.sizeOf45
 v22:=Tryz.zeroValue45 }
end Go.Proofs
end
