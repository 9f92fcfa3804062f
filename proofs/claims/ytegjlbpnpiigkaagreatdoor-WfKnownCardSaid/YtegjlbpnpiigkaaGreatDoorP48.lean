/- A part. No condition. -/
import Derived.Test.YtegjlbpnpiigkaaGreatDoorP47
set_option linter.all false
section
namespace Go.Hs
open Go.Proofs
set_option maxRecDepth 10000
set_option maxHeartbeats 4000000
def smallM:MdM:=⟨[77],.nil,.nil,.mk false [([],-1)],.mk false [⟨[],3,0,-1,[],[],.nil,[]⟩,⟨[115],1,0,-1,[],[],.nil,[]⟩],.mk false [⟨[],0,1,.nil,0,[],[],1⟩]⟩
theorem Zpj(G:Nat->V):InSp Tryz.prog G 37 [] (Zab Zk [(7002,.dead),(7005,.dead),(7007,.dead)])
  (λv H'=>∃ g2 g5 g7,v=.agg [.str smallM.name,.nils,.nils,.msl 7002 g2 0 1 2,.msl 7005 g5 0 2 8,.msl 7007 g7 0 1 8]/\H' 7002=.cells .new g2 0 (flat (smallM.regions.l.map Z3))/\H' 7005=.cells .new g5 0 (flat (smallM.verts.l.map (Zha .old)))/\H' 7007=.cells .new g7 0 (flat (smallM.ways.l.map (Zqa .old)))):=by
 refine Zfb 7000 9 [.cell 0 28] Tryz.func37 rfl rfl rfl rfl λX=>?_;simp only[Zab];refine Z ?_;intro g0;refine Z ?_;intro g2 g5 g7;refine Zs ?_;refine Z ?_;exact⟨g2,g5,g7,rfl,zr,zr,zr⟩
def sOne(s:List UInt8):Sl (List UInt8):=.mk false [s]
def doorM:MdM:=⟨[68,111,111,114],.mk false [([110],0),([109,111,115,116],3)],.mk false [[111,112,101,110],[99,108,111,115,101],[108,111,99,107]],
 .mk false [([116,111,112],-1),([108,101,97,102],1),([98,111,108,116],1)],
 .mk false [⟨[],3,0,-1,[],[],.nil,[]⟩,⟨[68,111,111,114],1,0,-1,[110,32,58,61,32,48,59],[],sOne [108,111,99,107],[]⟩,⟨[],3,1,-1,[],[],.nil,[]⟩,
  ⟨[83,104,117,116],1,1,-1,[],[110,32,58,61,32,110,32,43,32,49,59],.nil,[]⟩,⟨[87,105,100,101],1,1,-1,[],[],.nil,[]⟩,⟨[],3,2,-1,[],[],.nil,[]⟩,⟨[70,114,101,101],1,2,-1,[],[],.nil,[]⟩,
  ⟨[103,111,110,101],2,2,-1,[],[],.nil,[]⟩,⟨[],8,1,-1,[],[],.nil,[]⟩,⟨[105,110],10,-1,1,[],[],.nil,[]⟩,⟨[69,110,100],2,0,-1,[],[],.nil,[]⟩],
 .mk false [⟨[],0,1,.nil,0,[],[],1⟩,⟨[],2,3,.nil,0,[],[],1⟩,⟨[],3,4,sOne [111,112,101,110],0,[110,32,60,32,109,111,115,116],[],1⟩,⟨[],4,3,sOne [99,108,111,115,101],0,[],[101,109,105,116,32,108,111,99,107,40,110,41,59],1⟩,
  ⟨[],5,6,.nil,0,[],[],1⟩,⟨[],6,7,sOne [108,111,99,107],0,[],[],1⟩,⟨[108,97,116,101],4,10,.nil,5,[],[],1⟩,⟨[],1,1,sOne [111,112,101,110],0,[102,97,108,115,101],[],3⟩]⟩
theorem Fz.one{F:Nat->Bool}{H:Heap}{o g fz:Nat}{c:Col}{s:List UInt8}(hF:F o=true)(hH:H o=.cells c g fz [.str s]):Fz F H (.msl o g 0 1 1) (Zb c 1 V.str (sOne s)):=Z4c (f:=V.str) (l:=[s]) hF hH λ_=>rfl
theorem Z9r(G:Nat->V):InSp Tryz.prog G 19 [] (Zab Zk [(7103,.dead),(7104,.dead),(7108,.dead),(7121,.dead),(7134,.dead)])
  (λv H'=>∃ g1 g2 g3 g4 g5,v=.agg [.str doorM.name,.msl 7103 g1 0 2 2,.msl 7104 g2 0 3 1,.msl 7108 g3 0 3 2,.msl 7121 g4 0 11 8,.msl 7134 g5 0 8 8]/\H' 7103=.cells .new g1 0 (flat (doorM.vars.l.map Z3))/\H' 7104=.cells .new g2 0 (flat (doorM.events.l.map V.str)) /\
   H' 7108=.cells .new g3 0 (flat (doorM.regions.l.map Z3))/\H' 7121=.cells .new g4 0 (flat (doorM.verts.l.map (Zha .new)))/\H' 7134=.cells .new g5 0 (flat (doorM.ways.l.map (Zqa .new)))):=by
 refine Zfb 7100 36 [.cell 0 28] Tryz.func19 rfl rfl rfl rfl λX=>?_;simp only[Zab];refine Z1 ?_;intro g0;refine Z1 ?_;intro g3 g4 g8 g10 g21 g24 g26 g29 g32 g34
 refine AW.weak (Zt (λo=>o==7110||o==7124||o==7126||o==7129||o==7132) (l:=[(0,.ptr 7100 g0 0)])
  (m:=[(7100,.cells .new g0 0 [.str doorM.name,.msl 7103 g3 0 2 2,.msl 7104 g4 0 3 1,.msl 7108 g8 0 3 2,.msl 7121 g21 0 11 8,.msl 7134 g34 0 8 8]),(7103,.cells .new g3 0 (flat (doorM.vars.l.map Z3))),(7104,.cells .new g4 0 (flat (doorM.events.l.map V.str))),
   (7108,.cells .new g8 0 (flat (doorM.regions.l.map Z3))),(7121,.cells .new g21 0 (flat (doorM.verts.l.map (Zha .new)))),(7134,.cells .new g34 0 (flat (doorM.ways.l.map (Zqa .new))))]) ?_ ?_) ?_
 refine Zs ?_;exact Fz.same _
 .simp only[Zv,Zz,and_true]
  refine⟨FzO.keep rfl rfl,FzO.keep rfl rfl,FzO.keep rfl rfl,FzO.keep rfl rfl,FzO.of rfl rfl ?_,FzO.of rfl rfl ?_⟩<;>repeat first|exact trivial|refine⟨Fz.same _,?_⟩|refine⟨Fz.one rfl rfl,?_⟩
 refine Z ?_;exact⟨g3,g4,g8,g21,g34,rfl,rfl,rfl,rfl,rfl,rfl⟩
end Go.Hs
end

section
namespace Go.Hs
open Go.Proofs
set_option maxRecDepth 10000
set_option maxHeartbeats 4000000
structure OddM where
 nm:List UInt8
 vs:List (List UInt8×Int)
 es:List (List UInt8)
 rn:Bool
 rs:List (List UInt8×Int)
 xs:List VtM
 ws:List TrM
structure OdV(x:VtM):Prop where
 nm:x.name.length<=5000
 t1:x.entry.length<=5000
 t2:x.exit.length<=5000
 t3:x.sub.length<=5000
 dl:x.defers.l.length<=5
 ds:∀ s∈x.defers.l,s.length<=5000
structure OdW(x:TrM):Prop where
 nm:x.name.length<=5000
 t1:x.guard.length<=5000
 t2:x.effect.length<=5000
 dl:x.triggers.l.length<=5
 ds:∀ s∈x.triggers.l,s.length<=5000
structure OddOk(z:OddM):Prop where
 lv:z.vs.length=2
 le:z.es.length=3
 lr:z.rs.length=3
 lx:z.xs.length=11
 lw:z.ws.length=8
 nm:z.nm.length<=5000
 v:∀ p∈z.vs,p.1.length<=5000
 e:∀ s∈z.es,s.length<=5000
 r:∀ p∈z.rs,p.1.length<=5000
 x:∀ y∈z.xs,OdV y
 w:∀ y∈z.ws,OdW y
theorem Zym{α : Type}{m n:Nat}{f : α -> V}(hf:∀ x,(f x).cells.length=m){P : α -> Prop}{l:List α}(hl:l.length=n)(hP:∀ y∈l,P y){i j k:Nat}(hd:i<n/\j<m/\i*m+j=k){v:V}{g : α -> α}(hg:∀ y,(f (g y)).cells=(f y).cells.set j v)(hp:∀ y,P y->P (g y)):∃ l':List α,(flat (l.map f)).set k v=flat (l'.map f)/\l'.length=n/\∀ y∈l',P y:=by
 obtain⟨hi,hj,rfl⟩:=hd;have h1:i<l.length:=zo;refine⟨l.set i (g l[i]),Z7g hf hj (List.getElem?_eq_getElem h1) (hg _),(List.length_set ..).trans hl,λy hy=>?_⟩
 rcases List.mem_or_eq_of_mem_set hy with q|rfl
 exact hP y q;exact hp _ (hP _ (List.getElem_mem h1))
theorem OddOk.N{x:OddM}(h:OddOk x)(s:List UInt8)(hs:s.length<=5000:=by decide):OddOk { x with nm:=s }:=⟨h.lv,h.le,h.lr,h.lx,h.lw,hs,h.v,h.e,h.r,h.x,h.w⟩
theorem OddOk.Z{x:OddM}(h:OddOk x):OddOk { x with rn:=true }:=⟨h.lv,h.le,h.lr,h.lx,h.lw,h.nm,h.v,h.e,h.r,h.x,h.w⟩
theorem OddOk.U{x:OddM}(h:OddOk x)(i j k:Nat)(v:V)(g:List UInt8×Int->List UInt8×Int)(hp:∀ y,y.1.length<=5000->(g y).1.length<=5000:=by intro _ _;first|assumption|exact Nat.le_of_ble_eq_true rfl)(hd:i<2/\j<2/\i*2+j=k:=by decide)(hg:∀ y,(Z3 (g y)).cells=(Z3 y).cells.set j v:=by intro _;rfl):∃ l,(flat (x.vs.map Z3)).set k v=flat (l.map Z3)/\OddOk { x with vs:=l }:=
 (Zym Zqb h.lv h.v hd hg hp).imp λ_ q=>⟨q.1,q.2.1,h.le,h.lr,h.lx,h.lw,h.nm,q.2.2,h.e,h.r,h.x,h.w⟩
theorem OddOk.E{x:OddM}(h:OddOk x)(i:Nat)(s:List UInt8)(hd:i<3/\0<1/\i*1+0=i:=by decide)(hs:s.length<=5000:=by decide):∃ l,(flat (x.es.map V.str)).set i (.str s)=flat (l.map V.str)/\OddOk { x with es:=l }:=
 (Zym (f:=V.str) (m:=1) (λ_=>rfl) h.le h.e hd (g:=λ_=>s) (λ_=>rfl) (λ_ _=>hs)).imp λ_ q=>⟨q.1,h.lv,q.2.1,h.lr,h.lx,h.lw,h.nm,h.v,q.2.2,h.r,h.x,h.w⟩
theorem OddOk.R{x:OddM}(h:OddOk x)(i j k:Nat)(v:V)(g:List UInt8×Int->List UInt8×Int)(hp:∀ y,y.1.length<=5000->(g y).1.length<=5000:=by intro _ _;first|assumption|exact Nat.le_of_ble_eq_true rfl)(hd:i<3/\j<2/\i*2+j=k:=by decide)(hg:∀ y,(Z3 (g y)).cells=(Z3 y).cells.set j v:=by intro _;rfl):∃ l,(flat (x.rs.map Z3)).set k v=flat (l.map Z3)/\OddOk { x with rs:=l }:=
 (Zym Zqb h.lr h.r hd hg hp).imp λ_ q=>⟨q.1,h.lv,h.le,q.2.1,h.lx,h.lw,h.nm,h.v,h.e,q.2.2,h.x,h.w⟩
theorem OddOk.X{x:OddM}(h:OddOk x)(i j k:Nat)(v:V)(g:VtM->VtM)(hp:∀ y,OdV y->OdV (g y):=by rintro _ ⟨⟩;constructor<;>first|assumption|exact Nat.le_of_ble_eq_true rfl|(simp[Sl.l];done)|(simp;omega))(hd:i<11/\j<8/\i*8+j=k:=by decide)(hg:∀ y,(Zha .new (g y)).cells=(Zha .new y).cells.set j v:=by intro _;rfl):∃ l,(flat (x.xs.map (Zha .new))).set k v=flat (l.map (Zha .new))/\OddOk { x with xs:=l }:=
 (Zym (Zrc _) h.lx h.x hd hg hp).imp λ_ q=>⟨q.1,h.lv,h.le,h.lr,q.2.1,h.lw,h.nm,h.v,h.e,h.r,q.2.2,h.w⟩
theorem OddOk.W{x:OddM}(h:OddOk x)(i j k:Nat)(v:V)(g:TrM->TrM)(hp:∀ y,OdW y->OdW (g y):=by rintro _ ⟨⟩;constructor<;>first|assumption|exact Nat.le_of_ble_eq_true rfl|(simp[Sl.l];done)|(simp;omega))(hd:i<8/\j<8/\i*8+j=k:=by decide)(hg:∀ y,(Zqa .new (g y)).cells=(Zqa .new y).cells.set j v:=by intro _;rfl):∃ l,(flat (x.ws.map (Zqa .new))).set k v=flat (l.map (Zqa .new))/\OddOk { x with ws:=l }:=
 (Zym (Zse _) h.lw h.w hd hg hp).imp λ_ q=>⟨q.1,h.lv,h.le,h.lr,h.lx,q.2.1,h.nm,h.v,h.e,h.r,h.x,q.2.2⟩
theorem Zj8:∀ n,Z3o n [V.int .u8 0]=(List.replicate n (0:Int)).map (V.int .u8)
 |0=>rfl
 |n+1=>by rw[Zwv,Zj8 n]<;>rfl
theorem eqE{Q:Prop}(i k:Int)(h1:(i==k)=true->Q)(h2:(i==k)=false->Q):Q:=by
 cases h:i==k;exact h2 h;exact h1 h
def rnV(b:Bool)(g:Nat):V:=if b=true then .nils else .msl 7108 g 0 3 2
theorem rnT(g:Nat):rnV true g=.nils:=rfl
theorem FzO.kp{F:Nat->Bool}{H:Heap}{o g fz:Nat}{c:Col}{cs:List V}(hF:F o=false:=by rfl)(hH:H o=.cells c g fz cs:=by rfl):FzO F H o (.cells c g fz cs):=FzO.keep hF hH
theorem FzO.set{F:Nat->Bool}{H:Heap}{o g fz k:Nat}{c:Col}{L:List V}{a b:V}(hF:F o=false)(hH:H o=.cells c g fz (L.set k a))(hz:Fz F H a b):FzO F H o (.cells c g fz (L.set k b)):=by
 refine⟨c,fz,_,hH,.inl rfl,Nat.le_refl _,by rw[hF];simp,zS,λi h1 h2=>?_⟩
 by_cases e:k=i
 subst e;simp only[List.getElem_set_self];exact hz;simp only[List.getElem_set_ne e];exact Fz.same _
theorem Zi2(G:Nat->V)(hG:GOk G)(g1 g2 g3 g4 g5:Nat)(x:OddM)(ok:OddOk x)(i:Int)(hr7:x.rn=true->i=7)(long:List UInt8)(hl:long.length<=5000)(hl2:4096<=long.length):
  InSp Tryz.prog G 98 [.agg [.str x.nm,.msl 7103 g1 0 2 2,.msl 7104 g2 0 3 1,rnV x.rn g3,.msl 7121 g4 0 11 8,.msl 7134 g5 0 8 8],.int .i64 i,.str long] (Zab Zk [(7103,.cells .new g1 0 (flat (x.vs.map Z3))),(7104,.cells .new g2 0 (flat (x.es.map V.str))),(7108,.cells .new g3 0 (flat (x.rs.map Z3))),(7121,.cells .new g4 0 (flat (x.xs.map (Zha .new)))),(7134,.cells .new g5 0 (flat (x.ws.map (Zqa .new))))]) (λv H'=>∃ x,OddOk x/\v=.agg [.str x.nm,.msl 7103 g1 0 2 2,.msl 7104 g2 0 3 1,rnV x.rn g3,.msl 7121 g4 0 11 8,.msl 7134 g5 0 8 8]/\H' 7103=.cells .new g1 0 (flat (x.vs.map Z3))/\H' 7104=.cells .new g2 0 (flat (x.es.map V.str))/\H' 7108=.cells .new g3 0 (flat (x.rs.map Z3))/\H' 7121=.cells .new g4 0 (flat (x.xs.map (Zha .new)))/\H' 7134=.cells .new g5 0 (flat (x.ws.map (Zqa .new)))):=by
 have hfx:(flat (x.xs.map (Zha .new))).length=88:=by rw[Zya (Zrc _),ok.lx]
 have hfw:(flat (x.ws.map (Zqa .new))).length=64:=by rw[Zya (Zse _),ok.lw]
 have hcut:((4096:Int)).toNat<=long.length:=hl2;have hcl:decide ((4096:Int)<=(long.length:Int))=true:=zT;refine Zfb 7300 154 [.cell 6 28] Tryz.func98 rfl rfl rfl rfl λX=>?_;simp only[Zab];refine Z1 ?_;intro b3 b6;refine Zda (fun(x:OddM)=>st [(3,.ptr 7303 b3 0),(6,.ptr 7306 b6 0)] [(7303,.cells .new b3 0 [.str x.nm,.msl 7103 g1 0 2 2,.msl 7104 g2 0 3 1,rnV x.rn g3,.msl 7121 g4 0 11 8,.msl 7134 g5 0 8 8]),(7306,.cells .new b6 0 [.str [],.nils,.nils,.nils,.nils,.nils]),(7103,.cells .new g1 0 (flat (x.vs.map Z3))),(7104,.cells .new g2 0 (flat (x.es.map V.str))),(7108,.cells .new g3 0 (flat (x.rs.map Z3))),(7121,.cells .new g4 0 (flat (x.xs.map (Zha .new)))),(7134,.cells .new g5 0 (flat (x.ws.map (Zqa .new))))]) (λx=>OddOk x) (λK1 hK1=>?_) ?_;rotate_left;intro x ok;refine Z ?_;exact⟨x,ok,rfl,zp,zp,zp,zp,zp⟩;refine Z1 ?_;refine eqE i 21 (λu=>?_) λu=>?_;obtain⟨l,s,o⟩:=ok.X 0 6 6 (Zb .new 1 V.str (.mk false [[111,112,101,110]])) λy=>{ y with defers:=.mk false [[111,112,101,110]] };refine Zf (zi u hfx) ?_;intro g0;refine Zf hfx ?_;refine hK1 _ _ o (Zt (λo=>o==7312) ?_ ?_);refine Zs ?_;exact⟨Fz.same _,Fz.same _⟩;simp only[Zv,Zz,and_true];exact⟨.kp,.kp,.kp,.kp,.kp,(by rw[<- s];exact FzO.set rfl zp (Z4c (f:=V.str) (l:=[[111,112,101,110]]) rfl zp (λ_=>rfl))),.kp⟩;refine Z1f u ?_;refine eqE i 22 (λu=>?_) λu=>?_;obtain⟨l,s,o⟩:=ok.X 1 6 14 (Zb .new 1 V.str (.mk false [[111,112,101,110],[111,112,101,110]])) λy=>{ y with defers:=.mk false [[111,112,101,110],[111,112,101,110]] }
 refine Zf (zi u hfx) ?_;intro g0;refine Zf hfx ?_;refine hK1 _ _ o (Zt (λo=>o==7319) ?_ ?_);refine Zs ?_;exact⟨Fz.same _,Fz.same _⟩;simp only[Zv,Zz,and_true];exact⟨.kp,.kp,.kp,.kp,.kp,(by rw[<- s];exact FzO.set rfl zp (Z4c (f:=V.str) (l:=[[111,112,101,110],[111,112,101,110]]) rfl zp (λ_=>rfl))),.kp⟩;refine Z1f u ?_;refine eqE i 23 (λu=>?_) λu=>?_;obtain⟨l,s,o⟩:=ok.X 1 6 14 (Zb .new 1 V.str (.mk false [[110,111,110,101]])) λy=>{ y with defers:=.mk false [[110,111,110,101]] };refine Zf (zi u hfx) ?_;intro g0;refine Zf hfx ?_;refine hK1 _ _ o (Zt (λo=>o==7326) ?_ ?_);refine Zs ?_;exact⟨Fz.same _,Fz.same _⟩;simp only[Zv,Zz,and_true];exact⟨.kp,.kp,.kp,.kp,.kp,(by rw[<- s];exact FzO.set rfl zp (Z4c (f:=V.str) (l:=[[110,111,110,101]]) rfl zp (λ_=>rfl))),.kp⟩;refine Z1f u ?_;refine eqE i 24 (λu=>?_) λu=>?_;obtain⟨l,s,o⟩:=ok.X 4 1 33 (.int .u8 (0)) λy=>{ y with kind:=0 };refine Zf (zi u (zi s hfx)) ?_;exact hK1 _ _ o (Za zp zp);refine Z1f u ?_;refine eqE i 25 (λu=>?_) λu=>?_;obtain⟨l,s,o⟩:=ok.X 4 1 33 (.int .u8 (13)) λy=>{ y with kind:=13 };refine Zf (zi u (zi s hfx)) ?_;exact hK1 _ _ o (Za zp zp);refine Z1f u ?_;refine eqE i 26 (λu=>?_) λu=>?_;obtain⟨l,s,o⟩:=ok.X 4 5 37 (.str long) λy=>{ y with exit:=long };refine Zf (zi u (zi s hfx)) ?_;exact hK1 _ _ o (Za zp zp);refine Z1f u ?_;refine eqE i 27 (λu=>?_) λu=>?_;obtain⟨l,s,o⟩:=ok.X 4 4 36 (.str (long.take 4096)) λy=>{ y with entry:=long.take 4096 }
 refine Z1f u ?_;refine ZTf (zi s (zi hfx (zi hl2 (zi hcut hcl)))) hG ?_;exact hK1 _ _ o (Za zp zp);refine Z1f u ?_;refine eqE i 28 (λu=>?_) λu=>?_
 have hrn:x.rn=false:=by cases q:x.rn with
  |false=>rfl
  |true=>have:=hr7 q;have:=beq_iff_eq.mp u;omega
 have hrv:rnV x.rn g3=.msl 7108 g3 0 3 2:=by rw[hrn]<;>rfl
 have hfr:(flat (x.rs.map Z3)).length=6:=by rw[Zya Zqb,ok.lr]
 obtain⟨l1,s1,o1⟩:=ok.R 1 1 3 (.int .i64 (3)) λy=>(y.1,3);obtain⟨l2,s2,o2⟩:=o1.X 3 2 26 (.int .i64 (1)) λy=>{ y with region:=1 };simp only at s2;refine Zf (zi u (zi hrv (zi s1 (zi s2 (zi hfr hfx))))) ?_;exact hK1 _ _ o2 (Za (zpf hrv) (zpf hrv));refine Z1f u ?_;refine eqE i 29 (λu=>?_) λu=>?_;obtain⟨l,s,o⟩:=ok.W 2 1 17 (.int .i64 (-1)) λy=>{ y with source:=(-1) };refine Zf (zi u (zi s hfw)) ?_;exact hK1 _ _ o (Za zp zp);refine Z1f u ?_;refine eqE i 30 (λu=>?_) λu=>?_;obtain⟨l,s,o⟩:=ok.W 2 2 18 (.int .i64 (11)) λy=>{ y with target:=11 };refine Zf (zi u (zi s hfw)) ?_;exact hK1 _ _ o (Za zp zp);refine Z1f u ?_;refine eqE i 31 (λu=>?_) λu=>?_;obtain⟨l,s,o⟩:=ok.W 2 3 19 (Zb .new 1 V.str (.mk false [[111,112,101,110],[108,111,99,107],[111,112,101,110]])) λy=>{ y with triggers:=.mk false [[111,112,101,110],[108,111,99,107],[111,112,101,110]] };refine Zf (zi u hfw) ?_;intro g0;refine Zf hfw ?_;refine hK1 _ _ o (Zt (λo=>o==7382) ?_ ?_);refine Zs ?_;exact⟨Fz.same _,Fz.same _⟩;simp only[Zv,Zz,and_true];exact⟨.kp,.kp,.kp,.kp,.kp,.kp,(by rw[<- s];exact FzO.set rfl zp (Z4c (f:=V.str) (l:=[[111,112,101,110],[108,111,99,107],[111,112,101,110]]) rfl zp (λ_=>rfl)))⟩;refine Z1f u ?_;refine eqE i 32 (λu=>?_) λu=>?_;obtain⟨l,s,o⟩:=ok.W 2 4 20 (.int .i64 (1)) λy=>{ y with after:=1 };refine Zf (zi u (zi s hfw)) ?_;exact hK1 _ _ o (Za zp zp);refine Z1f u ?_;refine eqE i 33 (λu=>?_) λu=>?_
 obtain⟨l,s,o⟩:=ok.W 6 4 52 (.int .i64 (65535)) λy=>{ y with after:=65535 };refine Zf (zi u (zi s hfw)) ?_;exact hK1 _ _ o (Za zp zp);refine Z1f u ?_;refine eqE i 34 (λu=>?_) λu=>?_;obtain⟨l,s,o⟩:=ok.W 6 4 52 (.int .i64 (65536)) λy=>{ y with after:=65536 };refine Zf (zi u (zi s hfw)) ?_;exact hK1 _ _ o (Za zp zp);refine Z1f u ?_;refine eqE i 35 (λu=>?_) λu=>?_;obtain⟨l,s,o⟩:=ok.W 6 4 52 (.int .i64 (-1)) λy=>{ y with after:=(-1) };refine Zf (zi u (zi s hfw)) ?_;exact hK1 _ _ o (Za zp zp);refine Z1f u ?_;refine eqE i 36 (λu=>?_) λu=>?_;obtain⟨l,s,o⟩:=ok.W 0 7 7 (.int .u8 (0)) λy=>{ y with kind:=0 };refine Zf (zi u (zi s hfw)) ?_;exact hK1 _ _ o (Za zp zp);refine Z1f u ?_;refine eqE i 37 (λu=>?_) λu=>?_;obtain⟨l,s,o⟩:=ok.W 0 5 5 (.str long) λy=>{ y with guard:=long };refine Zf (zi u (zi s hfw)) ?_;exact hK1 _ _ o (Za zp zp);refine Z1f u ?_;refine eqE i 38 (λu=>?_) λu=>?_;obtain⟨l,s,o⟩:=ok.W 0 6 6 (.str long) λy=>{ y with effect:=long };refine Zf (zi u (zi s hfw)) ?_;exact hK1 _ _ o (Za zp zp);refine Z1f u ?_;refine eqE i 39 (λu=>?_) λu=>?_;obtain⟨l,s,o⟩:=ok.W 0 0 0 (.str [43]) λy=>{ y with name:=[43] };refine Zf (zi u (zi s hfw)) ?_;exact hK1 _ _ o (Za zp zp);refine Z1f u ?_;refine eqE i 40 (λu=>?_) λu=>?_;obtain⟨l,s,o⟩:=ok.X 10 0 80 (.str [195,169]) λy=>{ y with name:=[195,169] };refine Zf (zi u (zi s hfx)) ?_;exact hK1 _ _ o (Za zp zp);refine Z1f u ?_;refine eqE i 41 (λu=>?_) λu=>?_
 obtain⟨l,s,o⟩:=ok.X 9 1 73 (.int .u8 (11)) λy=>{ y with kind:=11 };refine Zf (zi u (zi s hfx)) ?_;exact hK1 _ _ o (Za zp zp);refine Z1f u ?_;refine eqE i 42 (λu=>?_) λu=>?_;obtain⟨l,s,o⟩:=ok.X 9 1 73 (.int .u8 (6)) λy=>{ y with kind:=6 };refine Zf (zi u (zi s hfx)) ?_;exact hK1 _ _ o (Za zp zp);refine Z1f u ?_;refine Z ?_;exact hK1 _ x ok (Za zp zp)
theorem Zhw(G:Nat->V)(hG:GOk G)(g1 g2 g3 g4 g5:Nat)(x:OddM)(ok:OddOk x)(hrn:x.rn=false)(i:Int):
  InSp Tryz.prog G 53 [.agg [.str x.nm,.msl 7103 g1 0 2 2,.msl 7104 g2 0 3 1,rnV x.rn g3,.msl 7121 g4 0 11 8,.msl 7134 g5 0 8 8],.int .i64 i] (Zab Zk [(7103,.cells .new g1 0 (flat (x.vs.map Z3))),(7104,.cells .new g2 0 (flat (x.es.map V.str))),(7108,.cells .new g3 0 (flat (x.rs.map Z3))),(7121,.cells .new g4 0 (flat (x.xs.map (Zha .new)))),(7134,.cells .new g5 0 (flat (x.ws.map (Zqa .new))))]) (λv H'=>∃ x,OddOk x/\v=.agg [.str x.nm,.msl 7103 g1 0 2 2,.msl 7104 g2 0 3 1,rnV x.rn g3,.msl 7121 g4 0 11 8,.msl 7134 g5 0 8 8]/\H' 7103=.cells .new g1 0 (flat (x.vs.map Z3))/\H' 7104=.cells .new g2 0 (flat (x.es.map V.str))/\H' 7108=.cells .new g3 0 (flat (x.rs.map Z3))/\H' 7121=.cells .new g4 0 (flat (x.xs.map (Zha .new)))/\H' 7134=.cells .new g5 0 (flat (x.ws.map (Zqa .new)))):=by
 have hfx:(flat (x.xs.map (Zha .new))).length=88:=by rw[Zya (Zrc _),ok.lx]
 have hfv:(flat (x.vs.map Z3)).length=4:=by rw[Zya Zqb,ok.lv]
 have hfr:(flat (x.rs.map Z3)).length=6:=by rw[Zya Zqb,ok.lr]
 have hfe:(flat (x.es.map V.str)).length=3:=by rw[Zya (m:=1) (λ_=>rfl),ok.le]
 have hrv:rnV x.rn g3=.msl 7108 g3 0 3 2:=by rw[hrn]<;>rfl
 have hno:x.rn=true->i=7:=λh=>absurd (hrn ▸ h) zd;refine Zfb 7200 122 [.cell 4 28] Tryz.func53 rfl rfl rfl rfl λX=>?_;simp only[Zab];refine Z1 ?_;intro b2 b4;refine Zda (fun(long:List UInt8)=>st [(1,.int .i64 i),(2,.ptr 7202 b2 0),(4,.ptr 7204 b4 0),(5,.str long)] [(7202,.cells .new b2 0 [.str x.nm,.msl 7103 g1 0 2 2,.msl 7104 g2 0 3 1,rnV x.rn g3,.msl 7121 g4 0 11 8,.msl 7134 g5 0 8 8]),(7204,.cells .new b4 0 [.str [],.nils,.nils,.nils,.nils,.nils]),(7103,.cells .new g1 0 (flat (x.vs.map Z3))),(7104,.cells .new g2 0 (flat (x.es.map V.str))),(7108,.cells .new g3 0 (flat (x.rs.map Z3))),(7121,.cells .new g4 0 (flat (x.xs.map (Zha .new)))),(7134,.cells .new g5 0 (flat (x.ws.map (Zqa .new))))]) (λl=>l.length=4097) (λK0 hK0=>?_) ?_;refine AW.regionB 1 7 (e:=5) zk rfl Tryz.underlying136 Tryz.underlying5 Tryz.underlying9 ?_;simp only[List.take_succ_cons,List.take_zero];obtain⟨xs,hx,hxl⟩:∃ xs:List Int,Z3o (4097:Int).toNat [V.int .u8 0]=xs.map (V.int .u8)/\xs.length=4097:=⟨_,Zj8 _,List.length_replicate⟩;rw[Zar,Zss];refine(Zboa (P:=Tryz.prog) 6 1 1 [V.int .u8 0] .i64 .i64 4097 4097).symm ▸ ?_;refine⟨zd,λg=>?_⟩;rw[hx];refine Zs ?_;exact⟨7206,g,_,_,xs,by rw[hxl],rfl,hK0 _ (xs.map λn=>UInt8.ofNat n.toNat) (by rw[List.length_map,hxl]) (Za zp zp)⟩;intro long hlong;have hl:long.length<=5000:=zo;have hl2:4096<=long.length:=zo;refine Zda (fun(x:OddM)=>st [(1,.int .i64 i),(2,.ptr 7202 b2 0),(4,.ptr 7204 b4 0),(5,.str long)] [(7202,.cells .new b2 0 [.str x.nm,.msl 7103 g1 0 2 2,.msl 7104 g2 0 3 1,rnV x.rn g3,.msl 7121 g4 0 11 8,.msl 7134 g5 0 8 8]),(7204,.cells .new b4 0 [.str [],.nils,.nils,.nils,.nils,.nils]),(7103,.cells .new g1 0 (flat (x.vs.map Z3))),(7104,.cells .new g2 0 (flat (x.es.map V.str))),(7108,.cells .new g3 0 (flat (x.rs.map Z3))),(7121,.cells .new g4 0 (flat (x.xs.map (Zha .new)))),(7134,.cells .new g5 0 (flat (x.ws.map (Zqa .new))))]) (λx=>OddOk x/\(x.rn=true->i=7)) (λK1 hK1=>?_) ?_;rotate_left
 rintro x ⟨ok,hr7⟩;refine Z1 ?_;refine CallA.inl [(7103,.cells .new g1 0 (flat (x.vs.map Z3))),(7104,.cells .new g2 0 (flat (x.es.map V.str))),(7108,.cells .new g3 0 (flat (x.rs.map Z3))),(7121,.cells .new g4 0 (flat (x.xs.map (Zha .new)))),(7134,.cells .new g5 0 (flat (x.ws.map (Zqa .new))))] zk ?_ ?_;intro p hp;simp only[List.mem_cons,List.not_mem_nil,or_false]at hp
 rcases hp with rfl|rfl|rfl|rfl|rfl<;>rfl
 refine(Zi2 G hG g1 g2 g3 g4 g5 x ok i hr7 long hl hl2).mono ?_;rintro _ H' ⟨x,ok,rfl,q1,q2,q3,q4,q5⟩;simp only[List.map_cons,List.map_nil,q1,q2,q3,q4,q5];refine Zu ?_;refine Z ?_;exact⟨x,ok,rfl,zp,zp,zp,zp,zp⟩;refine Z1 ?_;refine eqE i 1 (λu=>?_) λu=>?_;refine Zf u ?_;exact hK1 _ _ ⟨ok.N [],hno⟩ (Za (zpf hrv) (zpf hrv));refine Z1f u ?_;refine eqE i 2 (λu=>?_) λu=>?_;refine Zf u ?_;exact hK1 _ _ ⟨ok.N [97,32,98],hno⟩ (Za (zpf hrv) (zpf hrv));refine Z1f u ?_;refine eqE i 3 (λu=>?_) λu=>?_;obtain⟨l,s,o⟩:=ok.U 1 0 2 (.str [110]) λy=>([110],y.2);refine Zf (zi u (zi s (zi hfv hrv))) ?_;exact hK1 _ _ ⟨o,hno⟩ (Za (zpf hrv) (zpf hrv));refine Z1f u ?_;refine eqE i 4 (λu=>?_) λu=>?_;obtain⟨l,s,o⟩:=ok.U 0 0 0 (.str [97,114,103]) λy=>([97,114,103],y.2);refine Zf (zi u (zi s (zi hfv hrv))) ?_;exact hK1 _ _ ⟨o,hno⟩ (Za (zpf hrv) (zpf hrv));refine Z1f u ?_;refine eqE i 5 (λu=>?_) λu=>?_;obtain⟨l,s,o⟩:=ok.E 2 [111,112,101,110];refine Zf (zi u (zi s (zi hfe hrv))) ?_;exact hK1 _ _ ⟨o,hno⟩ (Za (zpf hrv) (zpf hrv));refine Z1f u ?_;refine eqE i 6 (λu=>?_) λu=>?_;obtain⟨l,s,o⟩:=ok.E 0 [105,102];refine Zf (zi u (zi s (zi hfe hrv))) ?_;exact hK1 _ _ ⟨o,hno⟩ (Za (zpf hrv) (zpf hrv));refine Z1f u ?_;refine eqE i 7 (λu=>?_) λu=>?_;refine Zf u ?_;exact hK1 _ _ ⟨ok.Z,λ_=>beq_iff_eq.mp u⟩ (Za (zpf (zi hrv rnT)) (zpf (zi hrv rnT)));refine Z1f u ?_;refine eqE i 8 (λu=>?_) λu=>?_;obtain⟨l,s,o⟩:=ok.R 0 1 1 (.int .i64 (1)) λy=>(y.1,1)
 refine Zf (zi u (zi s (zi hfr hrv))) ?_;exact hK1 _ _ ⟨o,hno⟩ (Za (zpf hrv) (zpf hrv));refine Z1f u ?_;refine eqE i 9 (λu=>?_) λu=>?_;obtain⟨l,s,o⟩:=ok.R 2 1 5 (.int .i64 (0)) λy=>(y.1,0);refine Zf (zi u (zi s (zi hfr hrv))) ?_;exact hK1 _ _ ⟨o,hno⟩ (Za (zpf hrv) (zpf hrv));refine Z1f u ?_;refine eqE i 10 (λu=>?_) λu=>?_;obtain⟨l,s,o⟩:=ok.R 1 1 3 (.int .i64 (11)) λy=>(y.1,11);refine Zf (zi u (zi s (zi hfr hrv))) ?_;exact hK1 _ _ ⟨o,hno⟩ (Za (zpf hrv) (zpf hrv));refine Z1f u ?_;refine eqE i 11 (λu=>?_) λu=>?_;obtain⟨l,s,o⟩:=ok.R 1 0 2 (.str [49]) λy=>([49],y.2);refine Zf (zi u (zi s (zi hfr hrv))) ?_;exact hK1 _ _ ⟨o,hno⟩ (Za (zpf hrv) (zpf hrv));refine Z1f u ?_;refine eqE i 12 (λu=>?_) λu=>?_;obtain⟨l,s,o⟩:=ok.X 1 7 15 (.str [79,116,104,101,114]) λy=>{ y with sub:=[79,116,104,101,114] };refine Zf (zi u (zi s (zi hfx hrv))) ?_;exact hK1 _ _ ⟨o,hno⟩ (Za (zpf hrv) (zpf hrv));refine Z1f u ?_;refine eqE i 13 (λu=>?_) λu=>?_;obtain⟨l,s,o⟩:=ok.X 6 7 55 (.str [79,116,104,101,114]) λy=>{ y with sub:=[79,116,104,101,114] };refine Zf (zi u (zi s (zi hfx hrv))) ?_;exact hK1 _ _ ⟨o,hno⟩ (Za (zpf hrv) (zpf hrv));refine Z1f u ?_;refine eqE i 14 (λu=>?_) λu=>?_;obtain⟨l,s,o⟩:=ok.X 6 7 55 (.str [110,111,32,110,97,109,101]) λy=>{ y with sub:=[110,111,32,110,97,109,101] };refine Zf (zi u (zi s (zi hfx hrv))) ?_;exact hK1 _ _ ⟨o,hno⟩ (Za (zpf hrv) (zpf hrv));refine Z1f u ?_;refine eqE i 15 (λu=>?_) λu=>?_
 obtain⟨l,s,o⟩:=ok.X 3 2 26 (.int .i64 (9)) λy=>{ y with region:=9 };refine Zf (zi u (zi s (zi hfx hrv))) ?_;exact hK1 _ _ ⟨o,hno⟩ (Za (zpf hrv) (zpf hrv));refine Z1f u ?_;refine eqE i 16 (λu=>?_) λu=>?_;obtain⟨l,s,o⟩:=ok.X 3 3 27 (.int .i64 (1)) λy=>{ y with of:=1 };refine Zf (zi u (zi s (zi hfx hrv))) ?_;exact hK1 _ _ ⟨o,hno⟩ (Za (zpf hrv) (zpf hrv));refine Z1f u ?_;refine eqE i 17 (λu=>?_) λu=>?_;obtain⟨l,s,o⟩:=ok.X 9 3 75 (.int .i64 (3)) λy=>{ y with of:=3 };refine Zf (zi u (zi s (zi hfx hrv))) ?_;exact hK1 _ _ ⟨o,hno⟩ (Za (zpf hrv) (zpf hrv));refine Z1f u ?_;refine eqE i 18 (λu=>?_) λu=>?_;obtain⟨l,s,o⟩:=ok.X 9 3 75 (.int .i64 (2)) λy=>{ y with of:=2 };refine Zf (zi u (zi s (zi hfx hrv))) ?_;exact hK1 _ _ ⟨o,hno⟩ (Za (zpf hrv) (zpf hrv));refine Z1f u ?_;refine eqE i 19 (λu=>?_) λu=>?_;obtain⟨l,s,o⟩:=ok.X 9 2 74 (.int .i64 (1)) λy=>{ y with region:=1 };refine Zf (zi u (zi s (zi hfx hrv))) ?_;exact hK1 _ _ ⟨o,hno⟩ (Za (zpf hrv) (zpf hrv));refine Z1f u ?_;refine eqE i 20 (λu=>?_) λu=>?_;obtain⟨l,s,o⟩:=ok.X 0 4 4 (.str [110,32,58,61,32,49,59]) λy=>{ y with entry:=[110,32,58,61,32,49,59] };refine Zf (zi u (zi s (zi hfx hrv))) ?_;exact hK1 _ _ ⟨o,hno⟩ (Za (zpf hrv) (zpf hrv));refine Z1f u ?_;refine Z ?_;exact hK1 _ x ⟨ok,hno⟩ (Za (zpf hrv) (zpf hrv))
end Go.Hs
end

section
namespace Go.Hs
open Go.Proofs
set_option maxRecDepth 10000
set_option maxHeartbeats 4000000
theorem Rd.row{α : Type}{H:Heap}{o g fz m:Nat}{c:Col}{f f' : α -> V}{l:List α}(hH:H o=.cells c g fz (flat (l.map f)))(hf:∀ x,(f x).cells.length=m)
  (hIm:∀ x,∀ y∈(f x).cells,y.Im) (hf':∀ x,(f x).recol Col.ent=f' x):Rd H (.msl o g 0 l.length m) (Zb .old m f' (.mk false l)):=by
 have:=Rd.msl (l:=l) (off:=0) (n:=l.length) (o:=o) (g:=g) hH hf hIm hf' zo;rw[List.drop_zero,List.take_length,Nat.zero_mul]at this;exact this
theorem Zri(l:Sl (Nat×Int))(e:Int):V.Nw (.tuple [Zb .new 2 Zub l,.int .i64 e]):=by
 refine .tuple _ λx hx=>?_;simp only[List.mem_cons,List.not_mem_nil,or_false]at hx
 rcases hx with rfl|rfl
 exact Nw.enc (λp y hy=>by
  simp only[Zah,V.cells,List.mem_cons,List.not_mem_nil,or_false]at hy
  rcases hy with rfl|rfl<;>exact .int _ _) l
 exact .int _ _
theorem Zin(p:List UInt8×Int):∀ y∈(Z3 p).cells,y.Im:=by
 intro y hy;simp only[Z2a,V.cells,List.mem_cons,List.not_mem_nil,or_false]at hy
 rcases hy with rfl|rfl<;>first|exact .str _|exact .int _ _
theorem Z88(s:List UInt8):∀ y∈(V.str s).cells,y.Im:=by
 intro y hy;simp only[V.cells,List.mem_cons,List.not_mem_nil,or_false]at hy;rw[hy];exact .str _
theorem Z2t(c:Col)(s:Sl (List UInt8)):(Zb c 1 V.str s).Im:=by
 cases s with
 |nil=>exact .nils
 |mk b l=>exact .slice _ _ _ _ (λx hx=>by obtain⟨v,hv,hx⟩:=List.mem_flatMap.1 hx;obtain⟨a,_,rfl⟩:=List.mem_map.1 hv;exact Z88 a x hx)
theorem Zpw(c:Col)(x:VtM):∀ y∈(Zha c x).cells,y.Im:=by
 intro y hy;simp only[Zp,V.cells,List.mem_cons,List.not_mem_nil,or_false]at hy
 rcases hy with rfl|rfl|rfl|rfl|rfl|rfl|rfl|rfl<;>first|exact .str _|exact .int _ _|exact Z2t _ _
theorem Zqw(c:Col)(x:TrM):∀ y∈(Zqa c x).cells,y.Im:=by
 intro y hy;simp only[Z7,V.cells,List.mem_cons,List.not_mem_nil,or_false]at hy
 rcases hy with rfl|rfl|rfl|rfl|rfl|rfl|rfl|rfl<;>first|exact .str _|exact .int _ _|exact Z2t _ _
def goW:List UInt8:=[103,111]
def small2:MdM:={ smallM with events:=sOne goW,ways:=.mk false [⟨[],0,1,sOne goW,0,[],[],1⟩] }
def small3:MdM:={ smallM with ways:=.mk false [⟨[],0,1,.nil,0,[],[],1⟩,⟨[],0,1,.nil,0,[],[],1⟩] }
def small4:MdM:={ smallM with verts:=.mk false [⟨[],3,0,-1,[],[],.nil,[]⟩,⟨[115],1,0,-1,[120,32,58,61,32,49,59],[],.nil,[]⟩] }
theorem Zr1:smallM.p.checkW Zba Z2=([],0):=by decide +kernel
theorem Znv:small2.p.checkW Zba Z2=([(9,0)],0):=by decide +kernel
theorem Zmv:small3.p.checkW Zba Z2=([(2,0)],0):=by decide +kernel
theorem Zlv:small4.p.checkW Zba Z2=([(13,1)],0):=by decide +kernel
theorem Zcca:doorM.p.checkW Zba Z2=([(8,9)],0):=by decide +kernel
theorem Zhja:doorM.p.inW 3 1=true/\doorM.p.inW 1 3=false:=by decide +kernel
theorem small_b:MdB smallM:=by constructor<;>decide
theorem Zfma:MdB small2:=by constructor<;>decide
theorem Zdma:MdB small3:=by constructor<;>decide
theorem Zbma:MdB small4:=by constructor<;>decide
theorem Zija:MdB doorM:=by constructor<;>decide
theorem small_t:MdT smallM:=by constructor<;>decide
theorem Zema:MdT small2:=by constructor<;>decide
theorem Zcma:MdT small3:=by constructor<;>decide
theorem Zama:MdT small4:=by constructor<;>decide
theorem door_t:MdT doorM:=by constructor<;>decide
end Go.Hs
end

section
namespace Go.Hs
open Go.Proofs
set_option maxRecDepth 10000
set_option maxHeartbeats 4000000
theorem Zfaa:flat (smallM.ways.l.map (Zqa .old))=[.str [],.int .i64 0,.int .i64 1,.nils,.int .i64 0,.str [],.str [],.int .u8 1]:=rfl
theorem Zq1:flat (smallM.verts.l.map (Zha .old))=[.str [],.int .u8 3,.int .i64 0,.int .i64 (-1),.str [],.str [],.nils,.str [],.str [115],.int .u8 1,.int .i64 0,.int .i64 (-1),.str [],.str [],.nils,.str []]:=rfl
theorem Zge(G:Nat->V)(hE:GExp G):Spec Tryz.prog G 12 [] Zk (λv _=>v=.bool true):=by
 have hG:=hE.ok
 have one9:∀ c,Spec Tryz.prog G 38 [Zb c 2 Zub (Zl [(9,0)]),.int .u8 9,.int .i64 0] Zk (λv _=>v=.bool true):=λc=>(Zkj G c _ 9 0).mono λv _ e=>by rw[e,Zm]<;>rfl
 have one2:∀ c,Spec Tryz.prog G 38 [Zb c 2 Zub (Zl [(2,0)]),.int .u8 2,.int .i64 0] Zk (λv _=>v=.bool true):=λc=>(Zkj G c _ 2 0).mono λv _ e=>by rw[e,Zm]<;>rfl
 have one13:∀ c,Spec Tryz.prog G 38 [Zb c 2 Zub (Zl [(13,1)]),.int .u8 13,.int .i64 1] Zk (λv _=>v=.bool true):=λc=>(Zkj G c _ 13 1).mono λv _ e=>by rw[e,Zm]<;>rfl
 refine Zo 0 85 [.tmp 0] Tryz.func12 λX=>?_;refine Z ?_;refine CallA.inl [(7002,.dead),(7005,.dead),(7007,.dead)] zk (by intro p hp;simp only[List.mem_cons,List.not_mem_nil,or_false]at hp;rcases hp with rfl|rfl|rfl<;>rfl) ?_;refine(Zpj G).mono ?_;rintro _ H' ⟨g2,g5,g7,rfl,q2,q5,q7⟩;simp only[List.map_cons,List.map_nil,q2,q5,q7];refine Zu ?_;intro g1;refine Z ?_;refine Z5b hG [Zx .old .old smallM] zk ⟨Rd.agg ⟨Z0a (.str _) rfl,Z0a .nils rfl,Z0a .nils rfl,Rd.row (l:=smallM.regions.l) zp Zqb Zin (λ_=>rfl),Rd.row (l:=smallM.verts.l) zp (Zrc _) (Zpw _) (Zde _ _),Rd.row (l:=smallM.ways.l) zp (Zse _) (Zqw _) (Zee _ _),trivial⟩,trivial⟩ ((Z7c G hE .old .old smallM small_b (λ_=>small_t)).mono ?_);rintro _ _ rfl;rw[Zr1];refine⟨Zri _ _,?_⟩;refine Zs ?_;refine Z1 ?_;intro g19;refine Z1 ?_;intro g23
 refine AW.weak (Zt (λo=>o==19||o==23) (l:=[(1,.ptr 1 g1 0),(2,Zb .new 2 Zub (Zl [])),(3,.int .i64 0)])
  (m:=[(1,.cells .new g1 0 [.str smallM.name,.nils,Zb .new 1 V.str (sOne goW),.msl 7002 g2 0 1 2,.msl 7005 g5 0 2 8,.msl 7007 g7 0 1 8]),(7002,.cells .new g2 0 (flat (small2.regions.l.map Z3))),(7005,.cells .new g5 0 (flat (small2.verts.l.map (Zha .old)))),(7007,.cells .new g7 0 (flat (small2.ways.l.map (Zqa .new))))]) ?_ ?_) ?_
 refine Zs ?_;exact⟨Fz.same _,Fz.same _,Fz.same _⟩
 .simp only[Zv,Zz,and_true]
  refine⟨FzO.of rfl rfl ?_,FzO.keep rfl rfl,FzO.keep rfl rfl,FzO.of rfl rfl ?_⟩<;>repeat first|exact trivial|refine⟨Fz.same _,?_⟩|refine⟨Fz.one rfl rfl,?_⟩
 refine Z ?_;refine Z5b hG [Zx .old .old small2] zk ⟨Rd.agg ⟨Z0a (.str _) rfl,Z0a .nils rfl,Z0a (Z2t _ _) rfl,Rd.row (l:=small2.regions.l) zp Zqb Zin (λ_=>rfl),Rd.row (l:=small2.verts.l) zp (Zrc _) (Zpw _) (Zde _ _),Rd.row (l:=small2.ways.l) zp (Zse _) (Zqw _) (Zee _ _),trivial⟩,trivial⟩ ((Z7c G hE .old .old small2 Zfma (λ_=>Zema)).mono ?_);rintro _ _ rfl;rw[Znv];refine⟨Zri _ _,?_⟩;refine Zs ?_;refine AW.weak (Za (l:=[(2,Zb .new 2 Zub (Zl [])),(3,.int .i64 0),(4,Zb .new 2 Zub (Zl [(9,0)]))]) (m:=[]) zp zp) ?_;refine Z ?_;refine CallA.inl [(7002,.dead),(7005,.dead),(7007,.dead)] zk (by intro p hp;simp only[List.mem_cons,List.not_mem_nil,or_false]at hp;rcases hp with rfl|rfl|rfl<;>rfl) ?_;refine(Zpj G).mono ?_;rintro _ H' ⟨n2,n5,n7,rfl,q2,q5,q7⟩;simp only[List.map_cons,List.map_nil,q2,q5,q7];refine Zu ?_;intro g6;refine ZTf Zfaa hG ?_;intro g38;refine⟨Z5 zo zo,λh7=>?_⟩;refine Z ?_;refine Z5b hG [Zx .old .old small3] zk ⟨Rd.agg ⟨Z0a (.str _) rfl,Z0a .nils rfl,Z0a .nils rfl,Rd.row (l:=small3.regions.l) zp Zqb Zin (λ_=>rfl),Rd.row (l:=small3.verts.l) zp (Zrc _) (Zpw _) (Zde _ _),Rd.row (f:=Zqa .old) (l:=small3.ways.l) zp (Zse _) (Zqw _) (Zee _ _),trivial⟩,trivial⟩ ((Z7c G hE .old .old small3 Zdma (λ_=>Zcma)).mono ?_);rintro _ _ rfl;rw[Zmv];refine⟨Zri _ _,?_⟩;refine Zs ?_;refine AW.weak (Za (l:=[(2,Zb .new 2 Zub (Zl [])),(3,.int .i64 0),(4,Zb .new 2 Zub (Zl [(9,0)])),(7,Zb .new 2 Zub (Zl [(2,0)]))]) (m:=[]) zp zp) ?_;refine Z ?_;refine CallA.inl [(7002,.dead),(7005,.dead),(7007,.dead)] zk (by intro p hp;simp only[List.mem_cons,List.not_mem_nil,or_false]at hp;rcases hp with rfl|rfl|rfl<;>rfl) ?_;refine(Zpj G).mono ?_;rintro _ H' ⟨k2,k5,k7,rfl,q2,q5,q7⟩;simp only[List.map_cons,List.map_nil,q2,q5,q7];refine Zu ?_;intro g9;refine Zf Zq1 ?_;refine Z5b hG [Zx .old .old small4] zk ⟨Rd.agg ⟨Z0a (.str _) rfl,Z0a .nils rfl,Z0a .nils rfl,Rd.row (l:=small4.regions.l) zp Zqb Zin (λ_=>rfl),Rd.row (f:=Zha .old) (l:=small4.verts.l) zp (Zrc _) (Zpw _) (Zde _ _),Rd.row (l:=small4.ways.l) zp (Zse _) (Zqw _) (Zee _ _),trivial⟩,trivial⟩ ((Z7c G hE .old .old small4 Zbma (λ_=>Zama)).mono ?_);rintro _ _ rfl;rw[Zlv];refine⟨Zri _ _,?_⟩;refine Zs ?_;refine AW.weak (Za (l:=[(2,Zb .new 2 Zub (Zl [])),(3,.int .i64 0),(4,Zb .new 2 Zub (Zl [(9,0)])),(7,Zb .new 2 Zub (Zl [(2,0)])),(10,Zb .new 2 Zub (Zl [(13,1)]))]) (m:=[]) zp zp) ?_;refine Z ?_;refine CallA.inl [(7103,.dead),(7104,.dead),(7108,.dead),(7121,.dead),(7134,.dead)] zk (by intro p hp;simp only[List.mem_cons,List.not_mem_nil,or_false]at hp;rcases hp with rfl|rfl|rfl|rfl|rfl<;>rfl) ?_;refine(Z9r G).mono ?_;rintro _ H' ⟨d1,d2,d3,d4,d5,rfl,q1,q2,q3,q4,q5⟩
 simp only[List.map_cons,List.map_nil,q1,q2,q3,q4,q5];refine Zu ?_;intro g12;refine Z ?_;refine Zc hG ?_ (s:=one9 _);refine Zc hG ?_ (s:=one2 _);refine Zc hG ?_ (s:=one13 _);refine Z5b hG [Zx .old .old doorM,.int .i64 3,.int .i64 1] zk ⟨Rd.agg ⟨Z0a (.str _) rfl,Rd.row (l:=doorM.vars.l) zp Zqb Zin (λ_=>rfl),Rd.row (l:=doorM.events.l) zp (λ_=>rfl) Z88 (λ_=>rfl),Rd.row (l:=doorM.regions.l) zp Zqb Zin (λ_=>rfl),Rd.row (l:=doorM.verts.l) zp (Zrc _) (Zpw _) (Zde _ _),Rd.row (l:=doorM.ways.l) zp (Zse _) (Zqw _) (Zee _ _),trivial⟩,Z0a (.int _ _) rfl,Z0a (.int _ _) rfl,trivial⟩ ((Zt2 G hE .old .old doorM Zija 3 1).mono ?_);rintro _ _ rfl;rw[Zhja.1];refine⟨.bool _,?_⟩;refine Zs ?_;refine Z5b hG [Zx .old .old doorM,.int .i64 1,.int .i64 3] zk ⟨Rd.agg ⟨Z0a (.str _) rfl,Rd.row (l:=doorM.vars.l) zp Zqb Zin (λ_=>rfl),Rd.row (l:=doorM.events.l) zp (λ_=>rfl) Z88 (λ_=>rfl),Rd.row (l:=doorM.regions.l) zp Zqb Zin (λ_=>rfl),Rd.row (l:=doorM.verts.l) zp (Zrc _) (Zpw _) (Zde _ _),Rd.row (l:=doorM.ways.l) zp (Zse _) (Zqw _) (Zee _ _),trivial⟩,Z0a (.int _ _) rfl,Z0a (.int _ _) rfl,trivial⟩ ((Zt2 G hE .old .old doorM Zija 1 3).mono ?_);rintro _ _ rfl;rw[Zhja.2];refine⟨.bool _,?_⟩;refine Zs ?_;exact Zr
end Go.Hs
end

section
namespace Go.Hs
open Go.Proofs
set_option maxHeartbeats 1000000
set_option maxRecDepth 10000
theorem Zxn(G:Nat->V)(hG:GOk G)(s:List UInt8)(hs:s.length<1000000000000000):Spec Tryz.prog G 70 [.str s] Zk (λv _=>v=.bool (isP s==2)):=by
 refine Zo 0 6 [.tmp 2] Tryz.func70 λX=>?_;refine Z ?_;refine Zc hG ?_ (s:=Z0g G hG s hs);rw[<- isI];exact Zr
theorem Z2g(G:Nat->V)(hG:GOk G)(s:List UInt8)(hs:s.length<1000000000000000):Spec Tryz.prog G 203 [.str s] Zk (λv _=>v=.bool (Zvc s)):=by
 refine Zo 0 9 [.tmp 2] Tryz.func203 λX=>?_;rw[Zvc]
 cases h:(s==[])with
 |true=>exact Zq h
 |false=>
  refine Zf h ?_;refine Zc hG ?_ (s:=Zxn G hG s hs);rw[Bool.false_or];exact Zr
theorem Zbu{l:List (List UInt8)}{s:List UInt8}(h:∀ y∈l,(y==s)=false):l.contains s=false:=by
 rw[List.contains_eq_any_beq,List.any_eq_false];intro y hy;rw[BEq.comm,h y hy];decide
theorem Zoj(G:Nat->V)(c:Col)(s:List UInt8)(l:Sl (List UInt8))(hl:l.l.length<1000000):Spec Tryz.prog G 128 [.str s,Zb c 1 V.str l] Zk (λv _=>v=.bool (l.l.contains s)):=by
 refine Zo 0 18 [.tmp 4] Tryz.func128 λX=>?_;refine Z ?_;refine Z9 l.l.length (λk (_:Unit)=>st [(0,.str s),(1,Zb c 1 V.str l),(5,.int .i64 k)] []) (λk _=>∀ y∈l.l.take k,(y==s)=false) 0 () (Nat.zero_le _) zS (Za zp zp) ?_;intro k _ hk hR L2 hL2
 by_cases hk1:k<l.l.length
 have hlt:decide ((k:Int)<(l.l.length:Int))=true:=zT;have hg:=List.getElem?_eq_getElem hk1;generalize l.l[k]=x at hg;have w1:IntKind.i64.wrap ((k:Int)+1)=(k:Int)+1:=w64 zo zo;cases h6:(x==s);refine Zf (zi hlt (zi hg (zi h6 w1))) ?_;exact hL2 _ ⟨hk1,(),Zce (p:=λy=>y==s) hg hR h6,Za zp zp⟩
 have:l.l.contains s=true:=by
  rw[List.contains_iff_mem,<- eq_of_beq h6];exact List.mem_of_getElem? hg
 rw[this];exact Zq (zi hlt (zi hg h6));have hke:k=l.l.length:=zo;have hlt:decide ((k:Int)<(l.l.length:Int))=false:=zF;rw[hke,List.take_length]at hR;rw[Zbu hR];exact Zq hlt
theorem Zzc(G:Nat->V)(i n:Int):Spec Tryz.prog G 99 [.int .i64 i,.int .i64 n] Zk (λv _=>v=.bool (decide (0<=i)&&decide (i<n))):=by
 refine Zo 0 12 [.tmp 4] Tryz.func99 λX=>?_
 by_cases h0:0<=i
 have q:decide (i>=0)=true:=zT;rw[decide_eq_true h0];exact Zq q;have q:decide (i>=0)=false:=zF;rw[decide_eq_false h0];exact Zq q
theorem Zvm(G:Nat->V)(hG:GOk G)(c d c1:Col)(m:MdM)(l:Sl (List UInt8))(he:m.events.l.length<1000000)(hl:l.l.length<1000000):
  Spec Tryz.prog G 204 [Zx c d m,Zb c1 1 V.str l] Zk (λw _=>w=.bool (evB m.events.l l.l)):=by
 refine Zo 0 30 [.tmp 4] Tryz.func204 λX=>?_;simp only[Zd];refine Z ?_;intro g2;refine AW.weak (Zt (λo=>o==2) (l:=[(1,Zb c1 1 V.str l),(2,.view .new (Zx c d m))]) (m:=[]) ?_ trivial) ?_;refine Zs ?_;exact⟨Fz.same _,Fz.ptr (v:=Zx c d m) (c:=.new) (fz:=0) zp zp⟩;refine Z ?_
 refine Z9 l.l.length (λk (_:Unit)=>st [(1,Zb c1 1 V.str l),(2,.view .new (Zx c d m)),(5,.int .i64 k)] [])
  (λk _=>∀ i s,i<k->l.l[i]?=some s->m.events.l.contains s=true/\(l.l.take i).contains s=false) 0 () (Nat.zero_le _) (λi s h=>absurd h (Nat.not_lt_zero _)) (Za zp zp) ?_
 intro k _ hk hR L3 hL3
 by_cases hk1:k<l.l.length
 .have hlt:decide ((k:Int)<(l.l.length:Int))=true:=zT
  have hg:=List.getElem?_eq_getElem hk1;generalize l.l[k]=x at hg;have w1:IntKind.i64.wrap ((k:Int)+1)=(k:Int)+1:=w64 zo zo;refine Z1f hlt ?_;have hsp2:=λc=>Zoj G c x (l.sub 0 k) (by rw[Z9i];simp;omega);rw[Z9i]at hsp2;have hsp1:=λc=>Zoj G c x m.events he
  cases h1:m.events.l.contains x with
  |false=>
   rw[h1]at hsp1
   repeat first
    |refine Z4 ?_
    |refine AW.block ?_
    |refine Ztc rfl ?_
    |refine Zbb rfl ?_
    |(refine AW.skip ?_;simp -implicitDefEqProofs only[go_sem,seval])
    |(refine AW.exit ?_;simp -implicitDefEqProofs only[go_sem,seval])
   refine Zw ⟨λi=>if i=6 then .bool false else .top,λ_=>.pure⟩ zk hG zk zk ?_;refine Zsf (zi hg @Zd) ?_;refine⟨⟨by kernel_rfl,by refine Zs ?_;exact(hsp1 _).mono (by rintro _ _ rfl;rfl)⟩,?_⟩
   have:evB m.events.l l.l=false:=by
    rw[Bool.eq_false_iff];intro h;have:=(Zls.1 h k x hg).1;rw[h1]at this;cases this
   rw[this];exact Zr
  |true=>
   rw[h1]at hsp1
   cases h2:(l.l.take k).contains x with
   |true=>
    rw[h2]at hsp2
    repeat first
     |refine Z4 ?_
     |refine AW.block ?_
     |refine Ztc rfl ?_
     |refine Zbb rfl ?_
     |(refine AW.skip ?_;simp -implicitDefEqProofs only[go_sem,seval])
     |(refine AW.exit ?_;simp -implicitDefEqProofs only[go_sem,seval])
    refine Zw ⟨λi=>if i=6 then .bool true else if i=16 then .bool true else .top,λ_=>.pure⟩ zk hG zk zk ?_;simp -implicitDefEqProofs only[go_sem,seval,hg,Zd,Nat.zero_le,Nat.le_of_lt hk1];refine⟨⟨by kernel_rfl,by refine Zs ?_;exact(hsp1 _).mono (by rintro _ _ rfl;rfl)⟩,⟨by kernel_rfl,by refine Zs ?_;exact(hsp2 _).mono (by rintro _ _ rfl;rfl)⟩,?_⟩
    have:evB m.events.l l.l=false:=by
     rw[Bool.eq_false_iff];intro h;have:=(Zls.1 h k x hg).2;rw[h2]at this;cases this
    rw[this];exact Zr
   |false=>
    rw[h2]at hsp2
    repeat first
     |refine Z4 ?_
     |refine AW.block ?_
     |refine Ztc rfl ?_
     |refine Zbb rfl ?_
     |(refine AW.skip ?_;simp -implicitDefEqProofs only[go_sem,seval])
     |(refine AW.exit ?_;simp -implicitDefEqProofs only[go_sem,seval])
    refine Zw ⟨λi=>if i=6 then .bool true else if i=16 then .bool false else .top,λ_=>.pure⟩ zk hG zk zk ?_;simp -implicitDefEqProofs only[go_sem,seval,hg,Zd,Nat.zero_le,Nat.le_of_lt hk1];refine⟨⟨by kernel_rfl,by refine Zs ?_;exact(hsp1 _).mono (by rintro _ _ rfl;rfl)⟩,⟨by kernel_rfl,by refine Zs ?_;exact(hsp2 _).mono (by rintro _ _ rfl;rfl)⟩,?_⟩;refine Zf w1 ?_;refine hL3 _ ⟨hk1,(),λi s hi hs=>?_,Za (zpf Zd) zp⟩
    by_cases h3:i=k
    subst h3;rw[hg]at hs;obtain rfl:=Option.some.inj hs;exact⟨h1,h2⟩;exact hR i s zo hs
 have hke:k=l.l.length:=zo;subst hke;have hlt:decide ((l.l.length:Int)<(l.l.length:Int))=false:=zS;rw[Zls.2 λi s hs=>hR i s (List.getElem?_eq_some_iff.1 hs).1 hs];exact Zq hlt
theorem Z4ga(G:Nat->V)(hG:GOk G)(c d:Col)(m:MdM)(hl:m.vars.l.length<1000000)(i:Nat){x:List UInt8×Int}(hg:m.vars.l[i]?=some x)(hx:x.1.length<1000000000000000):
  Spec Tryz.prog G 127 [Zx c d m,.int .i64 i] Zk (λv _=>v=.bool (m.p.varB i)):=by
 refine Zo 0 40 [.tmp 4] Tryz.func127 λX=>?_;have hi:i<m.vars.l.length:=(List.getElem?_eq_some_iff.1 hg).1
 have hn:m.p.nameAt i=x.1:=by
  show(m.vars.l.getD i ([],0)).1=x.1
  rw[List.getD_eq_getElem?_getD,hg]<;>rfl
 have hP:m.p.varB i=((isP x.1==2) && !(x.1==Zjh) && !((m.vars.l.take i).any λy=>y.1==x.1)):=by rw[PM.varB,hn]<;>rfl
 rw[hP];simp only[Zd];refine Z ?_;intro g2;refine AW.weak (Zt (λo=>o==2) (l:=[(1,.int .i64 i),(2,.view .new (Zx c d m))]) (m:=[]) ?_ trivial) ?_;refine Zs ?_;exact⟨Fz.same _,Fz.ptr (v:=Zx c d m) (c:=.new) (fz:=0) zp zp⟩;refine Z ?_;refine Z9 i (λk (_:Unit)=>st [(1,.int .i64 i),(2,.view .new (Zx c d m)),(5,.int .i64 k)] []) (λk _=>∀ y∈m.vars.l.take k,(y.1==x.1)=false) 0 () (Nat.zero_le _) zS (Za zp zp) ?_;intro k _ hk hR L3 hL3
 by_cases hk1:k<i
 have hlt:decide ((k:Int)<(i:Int))=true:=zT;have hkl:k<m.vars.l.length:=zo;have hgk:=List.getElem?_eq_getElem hkl;have hmem:m.vars.l[k]∈m.vars.l.take i:=List.mem_of_getElem? (i:=k) (by rw[List.getElem?_take,if_pos hk1];exact hgk);generalize m.vars.l[k]=y at hgk hmem;have w1:IntKind.i64.wrap ((k:Int)+1)=(k:Int)+1:=w64 zo zo;refine Z1f hlt ?_;refine ZTf (zi hg (zi hi (zi hgk (zi hkl (zi Z2a (zi Zd (zi @Int.natCast_nonneg @Int.ofNat_lt))))))) hG ?_;cases h6:(y.1==x.1);refine Zf (zi h6 w1) ?_;exact hL3 _ ⟨hk1,(),Zce (p:=λy=>y.1==x.1) hgk hR h6,Za (zpf Zd) zp⟩;rw[List.any_eq_true.2 ⟨y,hmem,h6⟩];simp only[Bool.not_true,Bool.and_false];exact Zq h6;have hke:k=i:=zo;subst hke;have hlt:decide ((k:Int)<(k:Int))=false:=zS;rw[List.any_eq_false.2 (λy hy=>by rw[hR y hy];decide),Bool.not_false,Bool.and_true];refine Z1f hlt ?_;refine Zf (zi hg (zi hi (zi Z2a (zi Zd (zi @Int.natCast_nonneg @Int.ofNat_lt))))) ?_;refine Zc hG ?_ (s:=Zxn G hG x.1 hx);cases h1:(isP x.1==2);exact Zh h1
 .have hb:(x.1 != [97,114,103]) = !(x.1==Zjh):=rfl
  refine Zg (zi h1 (zi hg (zi hi (zi Z2a (zi Zd (zi @Int.natCast_nonneg @Int.ofNat_lt)))))) ?_;rw[<- hb,Bool.true_and]
  try rfl
theorem Z5ga(G:Nat->V)(hG:GOk G)(c d:Col)(m:MdM)(i:Nat){x:List UInt8×Int}(hg:m.regions.l[i]?=some x)(hx:x.1.length<1000000000000000):
  Spec Tryz.prog G 129 [Zx c d m,.int .i64 i] Zk (λv _=>v=.bool (m.p.regionB i)):=by
 refine Zo 0 46 [.tmp 4] Tryz.func129 λX=>?_;have hi:i<m.regions.l.length:=(List.getElem?_eq_some_iff.1 hg).1
 have hn:(m.p.regions.getD i ([],0))=x:=by
  show m.regions.l.getD i ([],0)=x
  rw[List.getD_eq_getElem?_getD,hg]<;>rfl
 have ho:m.p.ow (i:Int)=x.2:=Zdl hg;rw[PM.regionB,hn];simp only[Zd];refine Z ?_;intro g2;refine Zf (zi hg (zi hi (zi Z2a (zi @Int.natCast_nonneg @Int.ofNat_lt)))) ?_;intro g5;refine Z ?_;refine Zc hG ?_ (s:=Z2g G hG x.1 hx);cases h1:Zvc x.1;exact Zh h1
 by_cases h:i=0
 rw[if_pos h];rw[h]at ho;rw[show m.p.ow 0=x.2 from ho]
 have q:((i:Int)==0)=true:=by simp[h]
 exact Zh (zi h1 q);rw[if_neg h,ho]
 have q:((i:Int)==0)=false:=by
  have:¬ (i:Int)=0:=zo;simpa using this
 refine Zg (zi h1 q) ?_;refine Zc hG ?_ (s:=Zzc G x.2 m.verts.l.length)
 have hS:m.p.stateB x.2=(decide (0<=x.2)&&decide (x.2<(m.verts.l.length:Int))&&((m.p.vx x.2).kind==1)):=by rw[PM.stateB,m.nv]
 rw[hS];cases h2:(decide (0<=x.2)&&decide (x.2<(m.verts.l.length:Int)));exact Zh h2;have h3:=h2;simp only[Bool.and_eq_true,decide_eq_true_eq]at h3;obtain⟨k,y,hk0,hk,hkg,hy⟩:=MdM.at h3.1 (by rw[m.nv];exact h3.2);rw[hy];have fk:=zi h2 (zi hk0 (zi hkg (zi hk (zi Zp (zi @Int.natCast_nonneg @Int.ofNat_lt)))));cases h4:(y.kind==1);have:(y.p.kind==1)=false:=h4;rw[this];exact Zh (zi fk h4);have:(y.p.kind==1)=true:=h4;rw[this];exact Zh (zi fk h4)
theorem Z5f(G:Nat->V)(hG:GOk G)(c d:Col)(m:MdM)(hm:m.p.Rt5)(v:Int)(h0:0<=v)(h1:v<m.p.vertices.length):
  Spec Tryz.prog G 174 [Zx c d m,.int .i64 v] Zk (λw _=>w=.int .i64 (m.p.around v)):=by
 refine Zo 0 29 [.tmp 4] Tryz.func174 λX=>?_;have hpt:=hm.pt h0 h1;obtain⟨k,x,rfl,hk,hg,hx⟩:=MdM.at h0 h1;rw[PM.around];rw[hx]at hpt⊢;simp only[Zd];have f:=zi hg (zi hk (zi Zp (zi @Int.natCast_nonneg @Int.ofNat_lt)));refine Z ?_;intro g2
 by_cases ho:0<=x.of
 have q:decide (x.of>=0)=true:=zT;refine Zf (zi f q) ?_
 rw[if_pos (show 0<=x.p.of from ho)]<;>rfl
 have q:decide (x.of>=0)=false:=zF;obtain⟨_,r0,r1,_⟩:=hpt.resolve_left (λh=>ho h.1);obtain⟨r,y,hr,hrk,hrg,hy⟩:=Zbo r0 r1;rw[if_neg (show ¬ 0<=x.p.of from ho),hy];have hr:x.region=(r:Int):=hr;refine Zf (zi f q) ?_;refine ZTf (zi f (zi hr (zi hrg (zi hrk Z2a)))) hG ?_;exact Zr
theorem Z4aa(G:Nat->V)(hG:GOk G)(c d:Col)(m:MdM)(hm:m.p.Rt5)(v:Int)(h0:0<=v)(h1:v<m.p.vertices.length):
  Spec Tryz.prog G 131 [Zx c d m,.int .i64 v] Zk (λw _=>w=.int .i64 (m.p.depth v)):=by
 refine Zo 0 20 [.tmp 4] Tryz.func131 λX=>?_;simp only[Zd];refine Z ?_;intro g2;refine AW.weak (Zt (λo=>o==2) (l:=[(1,.int .i64 v),(2,.view .new (Zx c d m))]) (m:=[]) ?_ trivial) ?_;refine Zs ?_;exact⟨Fz.same _,Fz.ptr (v:=Zx c d m) (c:=.new) (fz:=0) zp zp⟩;refine Z ?_
 refine Zpb (fun(y:Nat×Int)=>st [(1,.int .i64 y.2),(2,.view .new (Zx c d m)),(5,.int .i64 y.1)] [])
  (λy=>y.1<=65/\0<=y.2/\y.2<m.p.vertices.length/\m.p.depth v=y.1+(m.p.upsF (65-y.1) y.2).length) (λy=>65-y.1) (0,v) ⟨Nat.zero_le _,h0,h1,by rw[Nat.zero_add]<;>rfl⟩ (Za (zpf Zd) zp) ?_
 rintro⟨n,w⟩ ⟨hn,w0,w1,hd⟩ L7 hL7;simp only at hn w0 w1 hd
 by_cases hn2:n<65
 have q1:decide ((n:Int)<65)=true:=zT;refine Zf (zi q1 Zd) ?_;refine Zc hG ?_ (s:=Z5f G hG c.ent d.ent m hm w w0 w1)
 by_cases ha:0<=m.p.around w
 have q0:decide (m.p.around w>=0)=true:=zT;have e1:IntKind.i64.wrap ((n:Int)+1)=(n:Int)+1:=w64 zo zo
 have ha1:m.p.around w<m.p.vertices.length:=by
  rcases hm.rng w0 w1 with q|q
  omega;exact q.2
 refine Zg (zi q0 Zd) ?_;refine Zc hG ?_ (s:=Z5f G hG c.ent d.ent m hm w w0 w1);refine Zf e1 ?_;refine hL7 _ ⟨(n+1,m.p.around w),by show 65-(n+1)<65-n;omega,⟨by show n+1<=65;omega,ha,ha1,?_⟩,Za (zpf Zd) zp⟩
 show m.p.depth v=n+1+(m.p.upsF (65-(n+1)) (m.p.around w)).length
 rw[hd,show 65-n=(65-(n+1))+1 by omega,PM.upsF,if_neg zo,List.length_cons];omega;have q0:decide (m.p.around w>=0)=false:=zF
 have:m.p.upsF (65-n) w=[]:=by
  cases h:65-n with
  |zero=>rfl
  |succ f=>rw[PM.upsF,if_pos zo]
 rw[hd,this];exact Zh q0;have q1:decide ((n:Int)<65)=false:=zF;rw[hd,show 65-n=0 by omega];exact Zq q1
theorem gtL(n k:Nat):decide (((n:Nat):Int)>((k:Nat):Int)) = !decide (n<=k):=by
 rw[Bool.eq_iff_iff,Bool.not_eq_true',decide_eq_true_eq,decide_eq_false_iff_not];omega
theorem gtZ(n:Nat):decide (((n:Nat):Int)>0) = !decide (n=0):=by
 rw[Bool.eq_iff_iff,Bool.not_eq_true',decide_eq_true_eq,decide_eq_false_iff_not];omega
theorem eqZ(n:Nat):(((n:Nat):Int)==0)=decide (n=0):=by
 rw[Bool.eq_iff_iff,beq_iff_eq,decide_eq_true_eq];omega
theorem Z3ga(G:Nat->V)(hG:GOk G)(c d:Col)(m:MdM)(he:m.events.l.length<1000000)(i:Nat){x:VtM}(hg:m.verts.l[i]?=some x)(b1:x.name.length<1000000000000000)(b2:x.sub.length<1000000000000000)(b3:x.defers.l.length<1000000):
  Spec Tryz.prog G 130 [Zx c d m,.int .i64 i] Zk (λv _=>v=.bool (m.p.vertexB (m.p.vx i))):=by
 refine Zo 0 114 [.tmp 4] Tryz.func130 λX=>?_;have hi:i<m.verts.l.length:=(List.getElem?_eq_some_iff.1 hg).1;rw[Zxf hg]
 have hP:m.p.vertexB x.p=(Zvc x.name&&decide (1<=x.kind)&&decide (x.kind<=12)&&m.p.liesB x.p&&((x.entry==[]&&x.exit==[]&&decide (x.defers.l.length=0)&&x.sub==[])||x.kind==1)&&Zvc x.sub &&
  decide (x.entry.length<=4096)&&decide (x.exit.length<=4096)&&evB m.events.l x.defers.l):=rfl
 have hL:m.p.liesB x.p=if x.kind=10\/x.kind=11 then(x.region == -1)&&m.p.stateB x.of else(x.of == -1)&&decide (0<=x.region)&&decide (x.region<m.regions.l.length):=rfl
 have hS:m.p.stateB x.of=(decide (0<=x.of)&&decide (x.of<(m.verts.l.length:Int))&&((m.p.vx x.of).kind==1)):=by rw[PM.stateB,m.nv]
 generalize m.p.vertexB x.p=vb at hP⊢;generalize m.p.liesB x.p=lb at hP hL;simp only[Zd];refine Z ?_;intro g2;refine Zf (zi hg (zi hi (zi Zp (zi @Int.natCast_nonneg @Int.ofNat_lt)))) ?_;intro g5;refine AW.weak (Zt (λo=>o==5||o==2) (l:=[(2,.view .new (Zx c d m)),(5,.view .new (Zha d x))]) (m:=[]) ?_ trivial) ?_;refine Zs ?_;exact⟨Fz.ptr (v:=Zx c d m) (c:=.new) (fz:=0) zp zp,Fz.ptr (v:=Zha d x) (c:=.new) (fz:=0) zp zp⟩;refine Zf Zp ?_;refine Zc hG ?_ (s:=Z2g G hG x.name b1);cases q1:Zvc x.name
 have hN:vb=false:=by
  rw[hP];simp only[q1,Bool.and_false,Bool.false_and,Bool.or_false,Bool.false_or]
 rw[hN];exact Zh (q1);refine Zg (zi q1 Zp) ?_;refine Zc hG ?_ (s:=Z2g G hG x.sub b2);cases q2:Zvc x.sub
 have hN:vb=false:=by
  rw[hP];simp only[q2,Bool.and_false,Bool.false_and,Bool.or_false,Bool.false_or]
 rw[hN];exact Zh (q2)
 by_cases h3:1<=x.kind
 rotate_left;have f3:decide (x.kind<1)=true:=zT;have q3:=decide_eq_false h3
 have hN:vb=false:=by
  rw[hP];simp only[q3,Bool.and_false,Bool.false_and,Bool.or_false,Bool.false_or]
 rw[hN];exact Zh (zi q2 (zi f3 Zp));have f3:decide (x.kind<1)=false:=zF;have q3:=decide_eq_true h3
 by_cases h4:x.kind<=12
 rotate_left;have f4:decide (x.kind>12)=true:=zT;have q4:=decide_eq_false h4
 have hN:vb=false:=by
  rw[hP];simp only[q4,Bool.and_false,Bool.false_and,Bool.or_false,Bool.false_or]
 rw[hN];exact Zh (zi q2 (zi f3 (zi f4 Zp)));have f4:decide (x.kind>12)=false:=zF;have q4:=decide_eq_true h4;have f5:decide (((x.entry.length:Nat):Int)>4096) = !decide (x.entry.length<=4096):=gtL _ 4096;have f6:decide (((x.exit.length:Nat):Int)>4096) = !decide (x.exit.length<=4096):=gtL _ 4096;cases q5:decide (x.entry.length<=4096);rw[q5]at f5
 have hN:vb=false:=by
  rw[hP];simp only[q5,Bool.and_false,Bool.false_and,Bool.or_false,Bool.false_or]
 rw[hN];exact Zh (zi q2 (zi f3 (zi f4 (zi f5 Zp))));rw[q5]at f5;cases q6:decide (x.exit.length<=4096);rw[q6]at f6
 have hN:vb=false:=by
  rw[hP];simp only[q6,Bool.and_false,Bool.false_and,Bool.or_false,Bool.false_or]
 rw[hN];exact Zh (zi q2 (zi f3 (zi f4 (zi f5 (zi f6 Zp)))));rw[q6]at f6;refine Zg (zi q2 (zi f3 (zi f4 (zi f5 (zi f6 (zi Zp Zd)))))) ?_;refine Zc hG ?_ (s:=Zvm G hG c.ent d.ent d.ent m x.defers he b3);cases q7:evB m.events.l x.defers.l
 have hN:vb=false:=by
  rw[hP];simp only[q7,Bool.and_false,Bool.false_and,Bool.or_false,Bool.false_or]
 rw[hN];exact Zh (q7);rw[q1,q2,q3,q4,q5,q6,q7]at hP;simp only[Bool.true_and,Bool.and_true]at hP;have f8:=gtZ x.defers.l.length;have e1:(x.kind != 1) = !(x.kind==1):=rfl;refine Zsf q7 ?_;refine Z0 ?_;refine Zda (fun(_:Unit)=>st [(2,.view .new (Zx c d m)),(5,.view .new (Zha d x))] []) (λ_=>vb=lb) (λK1 hK1=>?_) ?_
 .cases r1:(x.kind==1)
  rotate_left;rw[r1]at hP e1;simp only[Bool.or_true,Bool.and_true]at hP;refine Zf (zi e1 Zp) ?_;exact hK1 _ () hP (Za (zpf (zi @Zp @Zd)) zp);rw[r1]at hP e1;simp only[Bool.or_false]at hP;cases r2:(x.entry==[])
  have hN:vb=false:=by
   rw[hP];simp only[r2,Bool.and_false,Bool.false_and,Bool.or_false,Bool.false_or]
  rw[hN];exact Zh (zi e1 (zi r2 Zp));cases r3:(x.exit==[])
  have hN:vb=false:=by
   rw[hP];simp only[r3,Bool.and_false,Bool.false_and,Bool.or_false,Bool.false_or]
  rw[hN];exact Zh (zi e1 (zi r2 (zi r3 Zp)));cases r5:decide (x.defers.l.length=0);rw[r5]at f8
  have hN:vb=false:=by
   rw[hP];simp only[r5,Bool.and_false,Bool.false_and,Bool.or_false,Bool.false_or]
  rw[hN];exact Zh (zi e1 (zi r2 (zi r3 (zi f8 Zp))));rw[r5]at f8;cases r4:(x.sub==[])
  have hN:vb=false:=by
   rw[hP];simp only[r4,Bool.and_false,Bool.false_and,Bool.or_false,Bool.false_or]
  rw[hN];exact Zh (zi e1 (zi r2 (zi r3 (zi f8 (zi r4 Zp)))));rw[r2,r3,r4,r5]at hP;simp only[Bool.and_true,Bool.true_and]at hP;refine Zf (zi e1 (zi r2 (zi r3 (zi f8 (zi r4 Zp))))) ?_;exact hK1 _ () hP (Za (zpf (zi @Zp @Zd)) zp)
 rintro _ rfl
 try clear hP
 refine Zda (fun(_:Unit)=>st [(2,.view .new (Zx c d m)),(5,.view .new (Zha d x))] []) (λ_=>¬ (x.kind=10\/x.kind=11)) (λK1 hK1=>?_) ?_;cases r1:(x.kind==10);cases r2:(x.kind==11);refine Zf (zi r1 (zi r2 Zp)) ?_;refine hK1 _ () (λh=>?_) (Za (zpf (zi @Zp @Zd)) zp)
 rcases h with h|h
 rw[h]at r1;cases r1;rw[h]at r2;cases r2;rw[if_pos (.inr (zu r2))]at hL;subst hL;cases p1:(x.region == -1);exact Zq (zi (zi r1 r2) (zi p1 Zp));refine Zf (zi (zi r1 r2) (zi p1 (zi Zp Zd))) ?_;refine Zc hG ?_ (s:=Zzc G x.of m.verts.l.length);rw[hS];cases p2:(decide (0<=x.of)&&decide (x.of<(m.verts.l.length:Int)));exact Zh p2;have h3:=p2;simp only[Bool.and_eq_true,decide_eq_true_eq]at h3;obtain⟨k,y,hk0,hk,hkg,hy⟩:=MdM.at h3.1 (by rw[m.nv];exact h3.2);rw[hy];have fk:=zi p2 (zi hk0 (zi hkg (zi hk (zi Zp (zi Zd (zi @Int.natCast_nonneg @Int.ofNat_lt))))));cases h4:(y.kind==1);have e4:(y.p.kind==1)=false:=h4;rw[e4];exact Zh (zi fk h4);have e4:(y.p.kind==1)=true:=h4;rw[e4];exact Zh (zi fk h4);rw[if_pos (.inl (zu r1))]at hL;subst hL;cases p1:(x.region == -1);exact Zq (zi (r1) (zi p1 Zp));refine Zf (zi (r1) (zi p1 (zi Zp Zd))) ?_;refine Zc hG ?_ (s:=Zzc G x.of m.verts.l.length);rw[hS];cases p2:(decide (0<=x.of)&&decide (x.of<(m.verts.l.length:Int)));exact Zh p2;have h3:=p2;simp only[Bool.and_eq_true,decide_eq_true_eq]at h3;obtain⟨k,y,hk0,hk,hkg,hy⟩:=MdM.at h3.1 (by rw[m.nv];exact h3.2);rw[hy];have fk:=zi p2 (zi hk0 (zi hkg (zi hk (zi Zp (zi Zd (zi @Int.natCast_nonneg @Int.ofNat_lt))))));cases h4:(y.kind==1);have e4:(y.p.kind==1)=false:=h4;rw[e4];exact Zh (zi fk h4);have e4:(y.p.kind==1)=true:=h4;rw[e4];exact Zh (zi fk h4);intro _ hz;rw[if_neg hz]at hL;subst hL;cases p1:(x.of == -1);exact Zq (zi p1 Zp)
 refine Zf (zi p1 (zi Zp Zd)) ?_;refine Zc hG ?_ (s:=Zzc G x.region m.regions.l.length);rw[Bool.true_and];exact Zr
theorem Z2ga(G:Nat->V)(hG:GOk G)(c d:Col)(m:MdM)(he:m.events.l.length<1000000)(i:Nat){x:TrM}(hg:m.ways.l[i]?=some x)(b1:x.name.length<1000000000000000)(b3:x.triggers.l.length<1000000):
  Spec Tryz.prog G 132 [Zx c d m,.int .i64 i] Zk (λv _=>v=.bool (m.p.wayB (m.p.wy i))):=by
 refine Zo 0 81 [.tmp 4] Tryz.func132 λX=>?_;have hi:i<m.ways.l.length:=(List.getElem?_eq_some_iff.1 hg).1;rw[Zai hg]
 have hV:∀ v:Int,m.p.inV v=(decide (0<=v)&&decide (v<(m.verts.l.length:Int))):=λv=>by rw[PM.inV,m.nv]
 have hP:m.p.wayB x.p=(Zvc x.name&&(decide (0<=x.source)&&decide (x.source<(m.verts.l.length:Int)))&&(decide (0<=x.target)&&decide (x.target<(m.verts.l.length:Int)))&&evB m.events.l x.triggers.l&&decide (0<=x.after)&&decide (x.after<=65535)&&(x.after==0||decide (x.triggers.l.length=0)) &&
  decide (1<=x.kind)&&decide (x.kind<=3)&&decide (x.guard.length<=4096)&&decide (x.effect.length<=4096)):=by rw[<- hV,<- hV]<;>rfl
 generalize m.p.wayB x.p=vb at hP⊢;simp only[Zd];refine Z ?_;intro g2;refine Zf (zi hg (zi hi (zi Z7 (zi @Int.natCast_nonneg @Int.ofNat_lt)))) ?_;intro g5;refine AW.weak (Zt (λo=>o==5||o==2) (l:=[(2,.view .new (Zx c d m)),(5,.view .new (Zqa d x))]) (m:=[]) ?_ trivial) ?_;refine Zs ?_;exact⟨Fz.ptr (v:=Zx c d m) (c:=.new) (fz:=0) zp zp,Fz.ptr (v:=Zqa d x) (c:=.new) (fz:=0) zp zp⟩;refine Zf (zi Z7 Zd) ?_;refine Zc hG ?_ (s:=Z2g G hG x.name b1);cases q1:Zvc x.name
 have hN:vb=false:=by
  rw[hP];simp only[q1,Bool.and_false,Bool.false_and,Bool.or_false,Bool.false_or]
 rw[hN];exact Zh (q1);refine Zg (zi q1 Z7) ?_;refine Zc hG ?_ (s:=Zzc G x.source m.verts.l.length);cases q2:(decide (0<=x.source)&&decide (x.source<(m.verts.l.length:Int)))
 have hN:vb=false:=by
  rw[hP];simp only[q2,Bool.and_false,Bool.false_and,Bool.or_false,Bool.false_or]
 rw[hN];exact Zh (q2);refine Zg (zi q2 Z7) ?_;refine Zc hG ?_ (s:=Zzc G x.target m.verts.l.length);cases q3:(decide (0<=x.target)&&decide (x.target<(m.verts.l.length:Int)))
 have hN:vb=false:=by
  rw[hP];simp only[q3,Bool.and_false,Bool.false_and,Bool.or_false,Bool.false_or]
 rw[hN];exact Zh (q3);refine Zg (zi q3 (zi Z7 Zd)) ?_;refine Zc hG ?_ (s:=Zvm G hG c.ent d.ent d.ent m x.triggers he b3);cases q4:evB m.events.l x.triggers.l
 have hN:vb=false:=by
  rw[hP];simp only[q4,Bool.and_false,Bool.false_and,Bool.or_false,Bool.false_or]
 rw[hN];exact Zh (q4)
 by_cases h5:1<=x.kind
 rotate_left;have f5:decide (x.kind<1)=true:=zT;have q5:=decide_eq_false h5
 have hN:vb=false:=by
  rw[hP];simp only[q5,Bool.and_false,Bool.false_and,Bool.or_false,Bool.false_or]
 rw[hN];exact Zh (zi q4 (zi f5 Z7));have f5:decide (x.kind<1)=false:=zF;have q5:=decide_eq_true h5
 by_cases h6:x.kind<=3
 rotate_left;have f6:decide (x.kind>3)=true:=zT;have q6:=decide_eq_false h6
 have hN:vb=false:=by
  rw[hP];simp only[q6,Bool.and_false,Bool.false_and,Bool.or_false,Bool.false_or]
 rw[hN];exact Zh (zi q4 (zi f5 (zi f6 Z7)));have f6:decide (x.kind>3)=false:=zF;have q6:=decide_eq_true h6;rw[q1,q2,q3,q4,q5,q6]at hP;simp only[Bool.true_and,Bool.and_true]at hP;refine Zsf (zi q4 (zi f5 (zi f6 Z7))) ?_;refine Z0 ?_;have f:=Z7
 by_cases h7:0<=x.after
 rotate_left;have f7:decide (x.after>=0)=false:=zF;have q7:=decide_eq_false h7
 have hN:vb=false:=by rw[hP,q7]<;>rfl
 rw[hN];exact Zq (zi f7 f);have f7:decide (x.after>=0)=true:=zT;rw[decide_eq_true h7,Bool.true_and]at hP;cases q8:decide (x.after<=65535)
 have hN:vb=false:=by rw[hP,q8]<;>rfl
 rw[hN];exact Zq (zi f7 (zi q8 f));rw[q8,Bool.true_and]at hP;have fb:decide (((x.guard.length:Nat):Int)<=4096)=decide (x.guard.length<=4096):=decide_eq_decide.2 zo;have fc:decide (((x.effect.length:Nat):Int)<=4096)=decide (x.effect.length<=4096):=decide_eq_decide.2 zo;have f8:=eqZ x.triggers.l.length;cases qa:(x.after==0);cases qb:decide (x.triggers.l.length=0)
 have hN:vb=false:=by rw[hP,qa,qb]<;>rfl
 rw[hN];rw[qb]at f8;exact Zq (zi f7 (zi q8 (zi qa (zi f8 f))));rw[qa,qb]at hP;rw[qb]at f8;simp only[Bool.or_true,Bool.true_and]at hP;rw[hP];cases qc:decide (x.guard.length<=4096);rw[qc]at fb;exact Zq (zi fb (zi f7 (zi q8 (zi qa (zi f8 f)))));rw[qc]at fb;exact Zq (zi fb (zi fc (zi f7 (zi q8 (zi qa (zi f8 f))))));rw[qa]at hP;simp only[Bool.true_or,Bool.true_and]at hP;rw[hP];cases qc:decide (x.guard.length<=4096);rw[qc]at fb;exact Zq (zi fb (zi f7 (zi q8 (zi qa f))));rw[qc]at fb;exact Zq (zi fb (zi fc (zi f7 (zi q8 (zi qa f)))))
theorem Z3aa(G:Nat->V)(hG:GOk G)(c d:Col)(m:MdM)(hb:MdB m)(i:Nat)(hi:i<m.vars.l.length):Spec Tryz.prog G 71 [Zx c d m,.int .i64 2,.int .i64 i] Zk (λv _=>v=.bool (m.p.varB i)):=by
 refine Zo 0 53 [.tmp 6] Tryz.func71 λX=>?_;simp only[Zd];refine Z ?_;intro g3;refine Z ?_;refine Zc hG ?_ (s:=Z4ga G hG c.ent d.ent m (by have:=hb.nv;omega) i (List.getElem?_eq_getElem hi) (hb.var _ (List.getElem_mem hi)));exact Zr
theorem Z2aa(G:Nat->V)(hG:GOk G)(c d:Col)(m:MdM)(hb:MdB m)(i:Nat)(hi:i<m.events.l.length):Spec Tryz.prog G 71 [Zx c d m,.int .i64 3,.int .i64 i] Zk (λv _=>v=.bool (m.p.signalB i)):=by
 refine Zo 0 53 [.tmp 6] Tryz.func71 λX=>?_;have hg:=List.getElem?_eq_getElem hi;have hx:=hb.ev _ (List.getElem_mem hi);generalize m.events.l[i]=x at hg hx;have hl:=hb.ne
 have hn:m.p.events.getD i []=x:=by
  show m.events.l.getD i []=x
  rw[List.getD_eq_getElem?_getD,hg]<;>rfl
 have hP:m.p.signalB i=((isP x==2) && !(m.events.l.take i).contains x):=by rw[PM.signalB,hn]<;>rfl
 rw[hP];simp only[Zd];refine Z ?_;intro g3;refine AW.weak (Zt (λo=>o==3) (l:=[(1,.int .i64 3),(2,.int .i64 i),(3,.view .new (Zx c d m))]) (m:=[]) ?_ trivial) ?_;refine Zs ?_;exact⟨Fz.same _,Fz.same _,Fz.ptr (v:=Zx c d m) (c:=.new) (fz:=0) zp zp⟩;refine Z ?_;have hsp1:=Zxn G hG x hx;have hsp2:=λc=>Zoj G c x (m.events.sub 0 i) (by rw[Z9i];simp;omega);rw[Z9i]at hsp2;cases h1:(isP x==2)
 .rw[h1]at hsp1
  repeat first
   |refine Z4 ?_
   |refine AW.block ?_
   |refine Ztc rfl ?_
   |refine Zbb rfl ?_
   |(refine AW.skip ?_;simp -implicitDefEqProofs only[go_sem,seval])
   |(refine AW.exit ?_;simp -implicitDefEqProofs only[go_sem,seval])
  refine Zw ⟨λi=>if i=5 then .bool false else .top,λ_=>.pure⟩ zk hG zk zk ?_;refine Zsf (zi hg @Zd) ?_;refine⟨⟨by kernel_rfl,by refine Zs ?_;exact hsp1.mono (by rintro _ _ rfl;rfl)⟩,?_⟩;exact Zr
 rw[h1]at hsp1;generalize(m.events.l.take i).contains x=bb at hsp2;cases bb
 .repeat first
   |refine Z4 ?_
   |refine AW.block ?_
   |refine Ztc rfl ?_
   |refine Zbb rfl ?_
   |(refine AW.skip ?_;simp -implicitDefEqProofs only[go_sem,seval])
   |(refine AW.exit ?_;simp -implicitDefEqProofs only[go_sem,seval])
  refine Zw ⟨λi=>if i=5 then .bool true else if i=16 then .bool false else .top,λ_=>.pure⟩ zk hG zk zk ?_;simp -implicitDefEqProofs only[go_sem,seval,hg,Zd,Nat.zero_le,Nat.le_of_lt hi];refine⟨⟨by kernel_rfl,by refine Zs ?_;exact hsp1.mono (by rintro _ _ rfl;rfl)⟩,⟨by kernel_rfl,by refine Zs ?_;exact(hsp2 _).mono (by rintro _ _ rfl;rfl)⟩,?_⟩;exact Zr
 .repeat first
   |refine Z4 ?_
   |refine AW.block ?_
   |refine Ztc rfl ?_
   |refine Zbb rfl ?_
   |(refine AW.skip ?_;simp -implicitDefEqProofs only[go_sem,seval])
   |(refine AW.exit ?_;simp -implicitDefEqProofs only[go_sem,seval])
  refine Zw ⟨λi=>if i=5 then .bool true else if i=16 then .bool true else .top,λ_=>.pure⟩ zk hG zk zk ?_;simp -implicitDefEqProofs only[go_sem,seval,hg,Zd,Nat.zero_le,Nat.le_of_lt hi];refine⟨⟨by kernel_rfl,by refine Zs ?_;exact hsp1.mono (by rintro _ _ rfl;rfl)⟩,⟨by kernel_rfl,by refine Zs ?_;exact(hsp2 _).mono (by rintro _ _ rfl;rfl)⟩,?_⟩;exact Zr
theorem Z1aa(G:Nat->V)(hG:GOk G)(c d:Col)(m:MdM)(hb:MdB m)(i:Nat)(hi:i<m.regions.l.length):Spec Tryz.prog G 71 [Zx c d m,.int .i64 4,.int .i64 i] Zk (λv _=>v=.bool (m.p.regionB i)):=by
 refine Zo 0 53 [.tmp 6] Tryz.func71 λX=>?_;simp only[Zd];refine Z ?_;intro g3;refine Z ?_;refine Zc hG ?_ (s:=Z5ga G hG c.ent d.ent m i (List.getElem?_eq_getElem hi) (hb.rg _ (List.getElem_mem hi)));exact Zr
theorem Z0aa(G:Nat->V)(hG:GOk G)(c d:Col)(m:MdM)(hb:MdB m)(i:Nat)(hi:i<m.verts.l.length):Spec Tryz.prog G 71 [Zx c d m,.int .i64 5,.int .i64 i] Zk (λv _=>v=.bool (m.p.vertexB (m.p.vx i))):=by
 refine Zo 0 53 [.tmp 6] Tryz.func71 λX=>?_;simp only[Zd];refine Z ?_;intro g3;refine Z ?_;obtain⟨b1,b2,b3⟩:=hb.vt _ (List.getElem_mem hi);refine Zc hG ?_ (s:=Z3ga G hG c.ent d.ent m (by have:=hb.ne;omega) i (List.getElem?_eq_getElem hi) b1 b2 b3);exact Zr
theorem Zzaa(G:Nat->V)(hG:GOk G)(c d:Col)(m:MdM)(hm:m.p.Rt5)(i:Nat)(hi:i<m.verts.l.length):Spec Tryz.prog G 71 [Zx c d m,.int .i64 6,.int .i64 i] Zk (λv _=>v=.bool (m.p.deepB i)):=by
 refine Zo 0 53 [.tmp 6] Tryz.func71 λX=>?_;simp only[Zd];refine Z ?_;intro g3;refine Z ?_;have hP:m.p.deepB i=decide (((m.p.depth i:Nat):Int)<=64):=decide_eq_decide.2 zo;rw[hP];refine Zc hG ?_ (s:=Z4aa G hG c.ent d.ent m hm i zo (by rw[m.nv];omega));exact Zr
theorem Zyaa(G:Nat->V)(hG:GOk G)(c d:Col)(m:MdM)(hb:MdB m)(i:Nat)(hi:i<m.ways.l.length):Spec Tryz.prog G 71 [Zx c d m,.int .i64 7,.int .i64 i] Zk (λv _=>v=.bool (m.p.wayB (m.p.wy i))):=by
 refine Zo 0 53 [.tmp 6] Tryz.func71 λX=>?_;simp only[Zd];refine Z ?_;intro g3;refine Z ?_;obtain⟨b1,b3⟩:=hb.wy _ (List.getElem_mem hi);refine Zc hG ?_ (s:=Z2ga G hG c.ent d.ent m (by have:=hb.ne;omega) i (List.getElem?_eq_getElem hi) b1 b3);exact Zr
def Zn2(m:MdM):List Int:=[0,0,m.vars.l.length,m.events.l.length,m.regions.l.length,m.verts.l.length,m.verts.l.length,m.ways.l.length]
def mostL:List Int:=[0,0,64,64,512,512,512,512]
def partL:List Int:=[0,0,2,3,4,5,5,6]
structure RuleAt(G:Nat->V)(m:MdM)(k n mo pt:Nat)(p:Nat->Bool):Prop where
 hn:(Zn2 m)[k]?=some (n:Int)
 hm:mostL[k]?=some (mo:Int)
 hp:partL[k]?=some (pt:Int)
 sc:m.p.ruleF (k-1)=Zwb pt mo p n
 lt:n<=600
 pz:pt≠0
 mlt:mo<=512
 may:∀ c d i,i<n->Spec Tryz.prog G 71 [Zx c d m,.int .i64 k,.int .i64 i] Zk (λv _=>v=.bool (p i))
theorem ruleAt(G:Nat->V)(hG:GOk G)(m:MdM)(hb:MdB m)(k:Nat)(h2:2<=k)(h7:k<8)(hr:∀ j,j<k-1->(m.p.ruleF j).1=0)(hz:k=4->m.regions.l≠[]):∃ n mo pt p,RuleAt G m k n mo pt p:=by
 have hk:k=2\/k=3\/k=4\/k=5\/k=6\/k=7:=zo
 rcases hk with rfl|rfl|rfl|rfl|rfl|rfl
 exact⟨_,_,_,_,rfl,rfl,rfl,rfl,hb.nv,zd,zd,λc d i hi=>Z3aa G hG c d m hb i hi⟩;exact⟨_,_,_,_,rfl,rfl,rfl,rfl,hb.ne,zd,zd,λc d i hi=>Z2aa G hG c d m hb i hi⟩;exact⟨_,_,_,_,rfl,rfl,rfl,if_neg (hz rfl),hb.nr,zd,zd,λc d i hi=>Z1aa G hG c d m hb i hi⟩;exact⟨_,_,_,_,rfl,rfl,rfl,by rw[<- m.nv]<;>rfl,hb.nx,zd,zd,λc d i hi=>Z0aa G hG c d m hb i hi⟩;exact⟨_,_,_,_,rfl,rfl,rfl,by rw[<- m.nv]<;>rfl,hb.nx,zd,zd,λc d i hi=>Zzaa G hG c d m (PM.rt_vt (hr 3 zd) (hr 4 zd)) i hi⟩;exact⟨_,_,_,_,rfl,rfl,rfl,by rw[<- m.nw]<;>rfl,hb.nw,zd,zd,λc d i hi=>Zyaa G hG c d m hb i hi⟩
theorem Znj(G:Nat->V)(hG:GOk G)(c d:Col)(m:MdM)(hb:MdB m):Spec Tryz.prog G 40 [Zx c d m] Zk (λv _=>v=.tuple [.int .u8 m.p.rightP.1,.int .i64 m.p.rightP.2.1,.int .i64 m.p.rightP.2.2]):=by
 refine Zo 0 76 [.tmp 2,.tmp 3,.tmp 4] Tryz.func40 λX=>?_;rw[Zzo]
 have h0:m.p.ruleF 0=if isP m.name=2 then(0,0,0)else(1,0,130):=rfl
 simp only[Zd];refine Z ?_;intro g1;refine Z ?_;refine Zc hG ?_ (s:=Zxn G hG m.name hb.nm);cases q:(isP m.name==2);rw[if_neg (zu q)]at h0;rw[Zrb (i:=0) zd (λj hj=>absurd hj (Nat.not_lt_zero _)) (by rw[h0];decide),h0];exact Zh q;rw[if_pos (zu q)]at h0;refine Zg q ?_;intro g32;refine Z ?_;intro g33;refine Z ?_;intro g34;refine Z ?_;refine AW.weak (Zt (λo=>o==1||o==32||o==33||o==34) (l:=[(1,.view .new (Zx c d m)),(5,Zb .new 1 (V.int .i64) (.mk false (Zn2 m))),(6,Zb .new 1 (V.int .i64) (.mk false mostL)),(7,Zb .new 1 (V.int .u8) (.mk false partL)),(8,.int .i64 2)]) (m:=[]) ?_ trivial) ?_;refine Zs ?_;exact⟨Fz.ptr (v:=Zx c d m) (c:=.new) (fz:=0) zp zp,Z4c (f:=V.int .i64) (l:=Zn2 m) (m:=1) (g:=g32) (fz:=0) (c:=.new) rfl zp (λ_=>rfl),Z4c (f:=V.int .i64) (l:=mostL) (m:=1) (g:=g33) (fz:=0) (c:=.new) rfl zp (λ_=>rfl),Z4c (f:=V.int .u8) (l:=partL) (m:=1) (g:=g34) (fz:=0) (c:=.new) rfl zp (λ_=>rfl),Fz.same _⟩
 refine Z9 8 (λk (_:Unit)=>st [(1,.view .new (Zx c d m)),(5,Zb .new 1 (V.int .i64) (.mk false (Zn2 m))),(6,Zb .new 1 (V.int .i64) (.mk false mostL)),(7,Zb .new 1 (V.int .u8) (.mk false partL)),(8,.int .i64 k)] []) (λk _=>2<=k/\∀ j,j<k-1->(m.p.ruleF j).1=0) 2 () zd ⟨Nat.le_refl _,λj hj=>by
  obtain rfl:j=0:=zo
  rw[h0]⟩ (Za zp zp) ?_
 rintro k _ hk ⟨hk2,hR⟩ L3 hL3
 by_cases hk1:k<8
 rotate_left;obtain rfl:k=8:=zo;rw[Zxj (λj hj=>hR j zo)];exact Zr;have hlt:decide ((k:Int)<8)=true:=zT;have w1:IntKind.i64.wrap ((k:Int)+1)=(k:Int)+1:=w64 zo zo;refine Z1f hlt ?_;refine Z0 ?_;refine Z4 ?_;refine AW.block ?_;refine Zda (fun(_:Unit)=>st [(1,.view .new (Zx c d m)),(5,Zb .new 1 (V.int .i64) (.mk false (Zn2 m))),(6,Zb .new 1 (V.int .i64) (.mk false mostL)),(7,Zb .new 1 (V.int .u8) (.mk false partL)),(8,.int .i64 k)] []) (λ_=>k=4->m.regions.l≠[]) (λK1 hK1=>?_) ?_
 by_cases h4:k=4
 have q4:((k:Int)==4)=true:=by simp[h4]
 by_cases hr:m.regions.l=[]
 have q5:(((m.regions.l.length:Nat):Int)==0)=true:=by rw[hr]<;>rfl
 have hF:m.p.ruleF 3=(4,0,130):=if_pos hr;rw[Zrb (i:=3) zd (λj hj=>hR j zo) (by rw[hF];decide),hF];exact Zq (zi q4 (zi q5 Zd))
 have q5:(((m.regions.l.length:Nat):Int)==0)=false:=by
  have:m.regions.l.length≠0:=λe=>hr (List.length_eq_zero_iff.1 e);have:¬ ((m.regions.l.length:Nat):Int)=0:=zo;simpa using this
 refine Zf (zi q4 (zi q5 Zd)) ?_;exact hK1 _ () (λ_=>hr) (Za (zpf Zd) zp)
 have q4:((k:Int)==4)=false:=by
  have:¬ (k:Int)=4:=by omega
  simpa using this
 refine Zf q4 ?_;exact hK1 _ () (λh=>absurd h h4) (Za zp zp);intro _ hz;obtain⟨n,mo,pt,p,hA⟩:=ruleAt G hG m hb k hk2 hk1 hR hz;have f:=zi hA.hn (zi hA.hm (zi hA.hp (zi (show k<(Zn2 m).length from hk1) (zi (show k<mostL.length from hk1) (zi (show k<partL.length from hk1) (zi @Int.natCast_nonneg @Int.ofNat_lt))))));refine Z ?_;refine Z9 n (λi (_:Unit)=>st [(1,.view .new (Zx c d m)),(5,Zb .new 1 (V.int .i64) (.mk false (Zn2 m))),(6,Zb .new 1 (V.int .i64) (.mk false mostL)),(7,Zb .new 1 (V.int .u8) (.mk false partL)),(8,.int .i64 k),(9,.int .i64 i)] []) (λi _=>∀ j,j<i->j≠mo/\p j=true) 0 () (Nat.zero_le _) (λi h=>absurd h (Nat.not_lt_zero _)) (Za zp zp) ?_;rintro i _ hi hS L9 hL9;have hnl:=hA.lt;have hsc:=hA.sc;have hfst:k-1<7:=zo
 by_cases hi1:i<n
 have hlt2:decide ((i:Int)<(n:Int))=true:=zT;have w2:IntKind.i64.wrap ((i:Int)+1)=(i:Int)+1:=w64 zo zo;have fl:=decide_eq_true hi1
 by_cases hm:i=mo
 have e1:=Z2b (part:=pt) hi1 hS (.inl hm);rw[Zrb hfst hR (by rw[hsc,e1];exact hA.pz),hsc,e1,if_pos hm]
 have qm:((i:Int)==(mo:Int))=true:=by simp[hm]
 exact Zq (zi hlt2 (zi fl (zi qm f)))
 have qm:((i:Int)==(mo:Int))=false:=by
  have:¬ (i:Int)=(mo:Int):=zo;simpa using this
 refine Zf (zi hlt2 (zi fl (zi qm (zi Zd f)))) ?_;refine Zc hG ?_ (s:=hA.may c.ent d.ent i hi1);cases hp:p i;have e1:=Z2b (part:=pt) hi1 hS (.inr hp);rw[Zrb hfst hR (by rw[hsc,e1];exact hA.pz),hsc,e1,if_neg hm];exact Zq f;refine Zf w2 ?_;refine hL9 _ ⟨hi1,(),λj hj=>?_,Za (zpf Zd) zp⟩
 by_cases h3:j=i
 rw[h3];exact⟨hm,hp⟩;exact hS j zo;have hie:i=n:=zo;subst hie;have hlt2:decide ((i:Int)<(i:Int))=false:=zS;have fl:decide (i<i)=false:=zS;rw[Z0e hS]at hsc;refine Zf (zi hlt2 (zi fl (zi w1 f))) ?_;refine hL3 _ ⟨hk1,(),⟨zo,λj hj=>?_⟩,Za zp zp⟩
 by_cases h3:j=k-1
 rw[h3,hsc];exact hR j zo
end Go.Hs
end

section
namespace Go.Hs
section
theorem Za9{α : Type}{p : α -> Bool}{l:List α}{i j:Nat}{x y : α}(hij:i<j)(hx:l[i]?=some x)(hy:l[j]?=some y)(px:p x=true)(py:p y=true):2<=(l.filter p).length:=by
 obtain⟨h1,e1⟩:=List.getElem?_eq_some_iff.1 hx
 have hd:l.drop i=x::l.drop (i+1):=by rw[List.drop_eq_getElem_cons h1,e1]
 have hm:y∈l.drop (i+1):=List.mem_of_getElem? (i:=j-(i+1)) (by rw[List.getElem?_drop,show i+1+(j-(i+1))=j by omega];exact hy)
 have e:l.filter p=(l.take i).filter p++x::(l.drop (i+1)).filter p:=by
  conv=>lhs;rw[<- List.take_append_drop i l,hd,List.filter_append,List.filter_cons_of_pos px]
 have:=List.length_pos_of_mem (List.mem_filter.2 ⟨hm,py⟩);rw[e,List.length_append,List.length_cons];omega
theorem Z9na{α : Type}{p : α -> Bool}{l:List α}{v:Nat}{x : α}(hx:l[v]?=some x)(px:p x=true)(h:∀ i y,l[i]?=some y->i≠v->p y=false):(l.filter p).length=1:=by
 obtain⟨h1,e1⟩:=List.getElem?_eq_some_iff.1 hx
 have hd:l.drop v=x::l.drop (v+1):=by rw[List.drop_eq_getElem_cons h1,e1]
 have e:l.filter p=(l.take v).filter p++x::(l.drop (v+1)).filter p:=by
  conv=>lhs;rw[<- List.take_append_drop v l,hd,List.filter_append,List.filter_cons_of_pos px]
 rw[e,List.filter_eq_nil_iff.2,List.filter_eq_nil_iff.2];rfl;intro y hy;obtain⟨i,hi⟩:=List.mem_iff_getElem?.1 hy;rw[List.getElem?_drop]at hi;rw[h _ y hi (by omega)];decide;intro y hy;obtain⟨i,hi⟩:=List.mem_iff_getElem?.1 hy;rw[List.getElem?_take]at hi
 split at hi
 rw[h i y hi (by omega)];decide;cases hi
namespace PM
variable{m:PM}
theorem Zsfa{i:Nat}(h:i<m.vertices.length):m.vertices[i]?=some (m.vx (i:Int)):=by
 rw[vx,List.getD_eq_getElem?_getD,Int.toNat_natCast,List.getElem?_eq_getElem h];rfl
theorem vx_eq{i:Nat}{x:VP}(h:m.vertices[i]?=some x):m.vx (i:Int)=x:=by
 rw[vx,List.getD_eq_getElem?_getD,Int.toNat_natCast,h];rfl
theorem twins_one{v:Nat}(hv:v<m.vertices.length)(h:∀ i:Nat,i<m.vertices.length->i≠v->((m.vx (i:Int)).kind==(m.vx (v:Int)).kind&&(m.vx (i:Int)).region==(m.vx (v:Int)).region)=false):m.twins v=1:=
 Z9na (v:=v) (Zsfa hv) (by rw[kd,beq_self_eq_true,beq_self_eq_true];rfl) λi y hy hi=>by
  have:=h i (List.getElem?_eq_some_iff.1 hy).1 hi;rw[vx_eq hy]at this;exact this
theorem twins_two{v i:Nat}(hv:v<m.vertices.length)(hi:i<m.vertices.length)(hne:i≠v)(h:((m.vx (i:Int)).kind==(m.vx (v:Int)).kind&&(m.vx (i:Int)).region==(m.vx (v:Int)).region)=true):m.twins v≠1:=by
 have px:((m.vx (v:Int)).kind==m.kd v&&(m.vx (v:Int)).region==(m.vx (v:Int)).region)=true:=by rw[kd,beq_self_eq_true,beq_self_eq_true];rfl
 have:=(Nat.lt_or_gt_of_ne hne).elim (λq=>Za9 (p:=λy:VP=>y.kind==m.kd v&&y.region==(m.vx (v:Int)).region) q (Zsfa hi) (Zsfa hv) h px) (λq=>Za9 (p:=λy:VP=>y.kind==m.kd v&&y.region==(m.vx (v:Int)).region) q (Zsfa hv) (Zsfa hi) px h);have e:m.twins v=(m.vertices.filter λy=>y.kind==m.kd v&&y.region==(m.vx (v:Int)).region).length:=rfl;omega
theorem Rt5.ow0(h:m.Rt5){r:Int}(h0:0<=r)(h1:r<m.regions.length):(m.ow r == -1)=(r==0):=by
 rcases h.own h0 h1 with ⟨q,q1⟩|⟨q,q1,_⟩
 rw[q1,q];rfl;rw[beq_eq_false_iff_ne.2 q,beq_eq_false_iff_ne.2 (by omega)]
def wysI(m:PM)(v:Int)(to:Bool)(n:Nat):List Int:=((List.range n).filter fun(i:Nat)=>(to&&(m.wy (i:Int)).target==v)||(!to&&(m.wy (i:Int)).source==v)).map fun(i:Nat)=>(i:Int)
theorem wysI_succ(v:Int)(to:Bool)(n:Nat):m.wysI v to (n+1)=m.wysI v to n++(if((to&&(m.wy (n:Int)).target==v)||(!to&&(m.wy (n:Int)).source==v))=true then[(n:Int)]else[]):=by
 rw[wysI,List.range_succ,List.filter_append,List.map_append,wysI]
 congr 1
 split
 rename_i h;rw[List.filter_cons,if_pos h];rfl;rename_i h;rw[List.filter_cons,if_neg h];rfl
theorem wysI_len(v:Int)(to:Bool)(n:Nat):(m.wysI v to n).length<=n:=by
 rw[wysI,List.length_map];exact Nat.le_trans (List.length_filter_le _ (List.range n)) (by rw[List.length_range];exact Nat.le_refl _)
theorem wysI_rng{v:Int}{to:Bool}{n:Nat}{i:Int}(h:i∈m.wysI v to n):0<=i/\i<n:=by
 obtain⟨k,hk,rfl⟩:=List.mem_map.1 h;have:=List.mem_range.1 (List.mem_filter.1 hk).1;omega
theorem Zii{α β : Type}(d : α)(p : α -> Bool)(f : α -> β):∀ l:List α,((List.range l.length).filter λi=>p (l.getD i d)).map (λi=>f (l.getD i d))=(l.filter p).map f
 |[]=>rfl
 |x::t=>by
  rw[List.length_cons,List.range_succ_eq_map,List.filter_cons,List.filter_map];have ih:=Zii d p f t
  have e:(λi=>p ((x::t).getD i d))∘Nat.succ=λi=>p (t.getD i d):=by funext i;rfl
  rw[e]
  by_cases h:p x=true
  rw[if_pos (show p ((x::t).getD 0 d)=true from h),List.filter_cons_of_pos h,List.map_cons,List.map_cons,List.map_map]
  congr 1
  rw[if_neg (show ¬ p ((x::t).getD 0 d)=true from h),List.filter_cons_of_neg h,List.map_map];exact ih
theorem wys_inc(v:Int):(m.wysI v true m.ways.length).map (λi=>(m.wy i).source)=m.inc v:=by
 rw[wysI,List.map_map,inc,<- Zii wy0 (λt=>t.target==v) (·.source) m.ways];simp only[Bool.true_and,Bool.not_true,Bool.false_and,Bool.or_false,wy,Int.toNat_natCast];rfl
theorem wys_out(v:Int):(m.wysI v false m.ways.length).map (λi=>(m.wy i).target)=m.out v:=by
 rw[wysI,List.map_map,out,<- Zii wy0 (λt=>t.source==v) (·.target) m.ways];simp only[Bool.true_and,Bool.not_false,Bool.false_and,Bool.false_or,wy,Int.toNat_natCast];rfl
theorem wys_els(v:Int):((m.wysI v false m.ways.length).filter λi=>Zoe (m.wy i).guard).length=m.elses v:=by
 have e:=Zii wy0 (λt:WP=>t.source==v&&Zoe t.guard) (λt=>t) m.ways;have e2:=congrArg List.length e;rw[List.length_map,List.length_map]at e2;rw[elses,<- e2,wysI,List.filter_map,List.length_map,List.filter_filter]
 congr 1
 refine List.filter_congr λi _=>?_;simp only[Bool.false_and,Bool.not_false,Bool.true_and,Bool.false_or,wy,Int.toNat_natCast,Function.comp];rw[Bool.and_comm]
end PM
end
end Go.Hs
end

section
namespace Go.Hs
open Go.Proofs
set_option maxHeartbeats 1000000
set_option maxRecDepth 10000
def Zaoa(c d e:Col)(m:MdM)(vs:Sl (List UInt8)):V:=.agg [.str m.name,Zb c 2 Z3 m.vars,Zb c 1 V.str m.events,Zb c 2 Z3 m.regions,Zb c 8 (Zha d) m.verts,Zb c 8 (Zqa d) m.ways,Zb e 1 V.str vs]
theorem Zeja(c d e:Col)(m:MdM)(vs:Sl (List UInt8)):Zaoa c d e m vs=.agg [.str m.name,Zb c 2 Z3 m.vars,Zb c 1 V.str m.events,Zb c 2 Z3 m.regions,Zb c 8 (Zha d) m.verts,Zb c 8 (Zqa d) m.ways,Zb e 1 V.str vs]:=rfl
def wdV(b c d e:Col)(m:MdM)(vs:Sl (List UInt8)):V:=.view b (Zaoa c d e m vs)
theorem Zjb(b c d e:Col)(m:MdM)(vs:Sl (List UInt8)):wdV b c d e m vs=.view b (.agg [.str m.name,Zb c 2 Z3 m.vars,Zb c 1 V.str m.events,Zb c 2 Z3 m.regions,Zb c 8 (Zha d) m.verts,Zb c 8 (Zqa d) m.ways,Zb e 1 V.str vs]):=rfl
@[go_sem] theorem Zwga(g:Col->Col)(b c d e:Col)(m:MdM)(vs:Sl (List UInt8)):(wdV b c d e m vs).recol g=wdV (g b) (g c) (g d) (g e) m vs:=by
 show(V.view b (Zaoa c d e m vs)).recol g=_
 simp only[Zeja,V.recol,Zdc,List.map_cons,List.map_nil,Zoc,Zgb,Zef,Zhk,Zik];rfl
theorem Zjl(G:Nat->V)(hG:GOk G)(c d:Col)(m:MdM)(hv:m.vars.l.length<=600):
  Spec Tryz.prog G 41 [Zx c d m] Zk (λw _=>w=wdV .new c d .new m (Zl m.p.vn)):=by
 refine Zo 0 31 [.tmp 2] Tryz.func41 λX=>?_;have hvn:m.p.vn=m.vars.l.map (·.1):=rfl
 have hvl:m.p.vn.length<=600:=by rw[hvn,List.length_map];exact hv
 simp only[Zd];refine Z ?_;intro g1;refine Z ?_;intro g7;refine Z ?_
 refine Z9 m.vars.l.length (λk (g:Nat)=>st [(1,.ptr 1 g1 0),(3,.ptr 7 g7 0),(4,.int .i64 k)]
   [(1,.cells .new g1 0 [.str m.name,Zb c 2 Z3 m.vars,Zb c 1 V.str m.events,Zb c 2 Z3 m.regions,Zb c 8 (Zha d) m.verts,Zb c 8 (Zqa d) m.ways]),(7,.cells .new g7 0 [.str m.name,Zb c 2 Z3 m.vars,Zb c 1 V.str m.events,Zb c 2 Z3 m.regions,Zb c 8 (Zha d) m.verts,Zb c 8 (Zqa d) m.ways,grown 27 g 1 (m.p.vn.take k)]),(27,Zza g V.str (m.p.vn.take k))])
  (λ_ _=>True) 0 0 (Nat.zero_le _) trivial (Za zp (by refine Zs ?_;exact⟨rfl,rfl⟩)) ?_
 intro k g hk _ L3 hL3
 by_cases hk1:k<m.vars.l.length
 have hlt:decide ((k:Int)<(m.vars.l.length:Int))=true:=zT;have hg:=List.getElem?_eq_getElem hk1
 have hkv:k<m.p.vn.length:=by rw[hvn,List.length_map];exact hk1
 have htk:m.p.vn.take (k+1)=m.p.vn.take k++[(m.vars.l[k]).1]:=by rw[List.take_succ_eq_append_getElem hkv];simp[hvn]
 have hlk:(m.p.vn.take k).length=k:=by rw[List.length_take];omega
 generalize m.vars.l[k]=x at hg htk;have w1:IntKind.i64.wrap ((k:Int)+1)=(k:Int)+1:=w64 zo zo;rw[htk]at hL3;generalize m.p.vn.take k=acc at hlk hL3;refine Z1f hlt ?_;refine ZTf (zi hg (zi Z2a (zi hk1 (zi @Int.natCast_nonneg @Int.ofNat_lt)))) hG ?_;intro g26;refine Zna (f:=V.str) (l:=acc) (l2:=[x.1]) (g:=g) (λ_=>rfl) rfl rfl rfl zp (Z5 zo zO) λg2=>?_;refine Zs ?_;refine Zf w1 ?_;exact hL3 _ ⟨hk1,g2,trivial,Za zp zp⟩;have hke:k=m.vars.l.length:=zo;subst hke;rw[List.take_of_length_le (by rw[hvn,List.length_map];exact Nat.le_refl _)];have hlt:decide ((m.vars.l.length:Int)<(m.vars.l.length:Int))=false:=zS;generalize m.p.vn=vn at hvl⊢;refine Z1f hlt ?_;refine AW.weak (Zt (λo=>o==27) (l:=[(3,.ptr 7 g7 0),(12,.bool false)]) (m:=[(7,.cells .new g7 0 [.str m.name,Zb c 2 Z3 m.vars,Zb c 1 V.str m.events,Zb c 2 Z3 m.regions,Zb c 8 (Zha d) m.verts,Zb c 8 (Zqa d) m.ways,Zb .new 1 V.str (Zl vn)])]) ?_ ?_) ?_;refine Zs ?_;exact⟨Fz.same _,Fz.same _⟩;simp only[Zv,Zz,and_true];exact FzO.of (c:=.new) (fz:=0) (cs:=[.str m.name,Zb c 2 Z3 m.vars,Zb c 1 V.str m.events,Zb c 2 Z3 m.regions,Zb c 8 (Zha d) m.verts,Zb c 8 (Zqa d) m.ways,grown 27 g 1 vn]) rfl zp ⟨Fz.same _,Fz.same _,Fz.same _,Fz.same _,Fz.same _,Fz.same _,Z3a rfl zp (λ_=>rfl),trivial⟩;refine AW.weak (Zt (λo=>o==7) (l:=[(3,wdV .new c d .new m (Zl vn)),(12,.bool false)]) (m:=[]) ?_ trivial) ?_;refine Zs ?_
 exact⟨Fz.ptr (v:=Zaoa c d .new m (Zl vn)) (c:=.new) (fz:=0) zp zp,Fz.same _⟩;exact Zr
theorem Zpn(G:Nat->V)(hG:GOk G)(m:MdM)(vs:Sl (List UInt8))(hm:m.p.Rt)(s:Int)(v:Int)(h0:0<=v)(h1:v<m.p.vertices.length):
  ∀ b c d e,Spec Tryz.prog G 100 [wdV b c d e m vs,.int .i64 v,.int .i64 s] Zk (λw _=>w=.bool (m.p.inB v s)):=by
 have key:∀ (v:Int),0<=v->v<m.p.vertices.length->(0<=m.p.around v->∀ b c d e,Spec Tryz.prog G 100 [wdV b c d e m vs,.int .i64 (m.p.around v),.int .i64 s] Zk (λw _=>w=.bool (m.p.inB (m.p.around v) s))) ->
   ∀ b c d e,Spec Tryz.prog G 100 [wdV b c d e m vs,.int .i64 v,.int .i64 s] Zk (λw _=>w=.bool (m.p.inB v s)):=by
  intro v h0 h1 ih b c d e;refine Zo 0 27 [.tmp 6] Tryz.func100 λX=>?_;refine Zf Zjb ?_;refine Zc hG ?_ (s:=Z5f G hG c.ent d.ent m hm.toRt5 v h0 h1)
  by_cases ha:0<=m.p.around v
  have q0:decide (m.p.around v>=0)=true:=zT;rw[hm.acy.inB_up h0 h1 ha];cases q1:(m.p.around v==s);refine Zf (zi q0 q1) ?_;refine Zc hG ?_ (s:=ih ha b.ent c.ent d.ent e.ent);rw[Bool.false_or];exact Zr;exact Zq (zi q0 q1);have q0:decide (m.p.around v>=0)=false:=zF;rw[PM.inB_nil zo];exact Zq q0
 exact hm.acy.ind (P:=λv=>∀ b c d e,Spec Tryz.prog G 100 [wdV b c d e m vs,.int .i64 v,.int .i64 s] Zk (λw _=>w=.bool (m.p.inB v s)))
  (λv h0 h1 hn=>key v h0 h1 (λh=>absurd h zo)) (λv h0 h1 _ _ ih=>key v h0 h1 (λ_=>ih)) h0 h1
theorem Zmh(G:Nat->V)(hG:GOk G)(m:MdM)(vs:Sl (List UInt8))(hm:m.p.Rt)(r:Int)(v:Int)(h0:0<=v)(h1:v<m.p.vertices.length):
  ∀ b c d e,Spec Tryz.prog G 134 [wdV b c d e m vs,.int .i64 v,.int .i64 r] Zk (λw _=>w=.bool (m.p.withinB v r)):=by
 have key:∀ (v:Int),0<=v->v<m.p.vertices.length->(0<=m.p.around v->∀ b c d e,Spec Tryz.prog G 134 [wdV b c d e m vs,.int .i64 (m.p.around v),.int .i64 r] Zk (λw _=>w=.bool (m.p.withinB (m.p.around v) r))) ->
   ∀ b c d e,Spec Tryz.prog G 134 [wdV b c d e m vs,.int .i64 v,.int .i64 r] Zk (λw _=>w=.bool (m.p.withinB v r)):=by
  intro v h0 h1 ih b c d e;refine Zo 0 33 [.tmp 6] Tryz.func134 λX=>?_;obtain⟨k,x,hv,hk,hg,hx⟩:=MdM.at h0 h1
  have hxr:((m.p.vx v).region==r)=(x.region==r):=by rw[hx]<;>rfl
  have f:=zi hg (zi hk (zi Zp (zi Zjb (zi @Int.natCast_nonneg @Int.ofNat_lt))));have hsp:=Z5f G hG c.ent d.ent m hm.toRt5 v h0 h1;cases q0:(x.region==r);rotate_left
  have:m.p.withinB v r=true:=by rw[PM.withinB,List.any_cons,hxr,q0]<;>rfl
  rw[this];exact Zq (zi hv (zi q0 f));rw[q0]at hxr
  by_cases ha:0<=m.p.around v
  .have q1:decide (m.p.around v>=0)=true:=zT
   rw[hm.acy.withinB_up h0 h1 ha,hxr,Bool.false_or];have ih2:=ih ha b.ent c.ent d.ent e.ent
   try clear ih
   generalize m.p.around v=a at hsp q1 ih2⊢;subst hv;refine Zf (zi q0 f) ?_;refine Zc hG ?_ (s:=hsp);refine Zf q1 ?_;refine Zc hG ?_ (s:=ih2);exact Zr
  have q1:decide (m.p.around v>=0)=false:=zF;rw[PM.withinB_nil zo,hxr];generalize m.p.around v=a at hsp q1;subst hv;refine Zf (zi q0 f) ?_;refine Zc hG ?_ (s:=hsp);exact Zq q1
 exact hm.acy.ind (P:=λv=>∀ b c d e,Spec Tryz.prog G 134 [wdV b c d e m vs,.int .i64 v,.int .i64 r] Zk (λw _=>w=.bool (m.p.withinB v r)))
  (λv h0 h1 hn=>key v h0 h1 (λh=>absurd h zo)) (λv h0 h1 _ _ ih=>key v h0 h1 (λ_=>ih)) h0 h1
def PM.regRk(m:PM)(v s:Int)(n:Nat):Int:=(List.range n).foldl (fun(a:Int) (r:Nat)=>if m.ow (r:Int)=s/\m.withinB v (r:Int)=true then(r:Int)else a) (-1)
theorem Zqu(m:PM)(v s:Int)(n:Nat):m.regRk v s (n+1)=if m.ow (n:Int)=s/\m.withinB v (n:Int)=true then(n:Int)else m.regRk v s n:=by
 rw[PM.regRk,List.range_succ,List.foldl_append]<;>rfl
theorem Zlca{l:List Int}{s:Int}(h:∀ y∈l,(y==s)=false):l.contains s=false:=by
 rw[List.contains_eq_any_beq,List.any_eq_false];intro y hy;rw[BEq.comm,h y hy];decide
theorem flI(k:IntKind)(l:List Int):flat (l.map (V.int k))=l.map (V.int k):=by
 induction l with
 |nil=>rfl
 |cons x r ih=>rw[List.map_cons,flat,List.flatMap_cons];exact congrArg (V.int k x :: ·) ih
theorem Zpm(G:Nat->V)(hG:GOk G)(b c d e c2:Col)(m:MdM)(vs:Sl (List UInt8))(hm:m.p.Rt)(hrl:m.regions.l.length<1000000)(l:Sl Int)(hll:l.l.length<1000000)(hr:∀ v∈l.l,0<=v/\v<m.p.vertices.length)(s:Int):
  Spec Tryz.prog G 206 [wdV b c d e m vs,Zb c2 1 (V.int .i64) l,.int .i64 s] Zk (λw _=>w=.bool (Zye [] (l.l.map (m.p.regR · s)))):=by
 refine Zo 0 67 [.tmp 6] Tryz.func206 λX=>?_;generalize hD:Zye [] (l.l.map (m.p.regR · s))=D;refine Z ?_
 refine Z9 l.l.length (λj (g:Nat)=>st [(0,wdV b c d e m vs),(1,Zb c2 1 (V.int .i64) l),(2,.int .i64 s),(7,grown 66 g 1 ((l.l.take j).map (m.p.regR · s))),(8,.int .i64 j)] [(66,Zza g (V.int .i64) ((l.l.take j).map (m.p.regR · s)))])
  (λj _=>Zye ((l.l.take j).map (m.p.regR · s)) ((l.l.drop j).map (m.p.regR · s))=D) 0 0 (Nat.zero_le _) hD (Za zp zp) ?_
 intro j g hj hR L3 hL3
 by_cases hj1:j<l.l.length
 rotate_left;have hje:j=l.l.length:=zo;have hlt:decide ((j:Int)<(l.l.length:Int))=false:=zF;rw[hje,List.drop_length]at hR;rw[<- hR];exact Zq hlt;have hlt:decide ((j:Int)<(l.l.length:Int))=true:=zT;have hg:=List.getElem?_eq_getElem hj1
 have htk:l.l.take (j+1)=l.l.take j++[l.l[j]]:=by rw[List.take_succ_eq_append_getElem hj1]
 have hdr:l.l.drop j=l.l[j]::l.l.drop (j+1):=List.drop_eq_getElem_cons hj1
 have hlj:((l.l.take j).map (m.p.regR · s)).length=j:=by rw[List.length_map,List.length_take];omega
 obtain⟨v0,v1⟩:=hr l.l[j] (List.getElem_mem hj1);generalize l.l[j]=v at hg htk hdr v0 v1;rw[hdr,List.map_cons,Zye]at hR;rw[htk,List.map_append]at hL3;simp only[List.map_cons,List.map_nil]at hL3;generalize(l.l.take j).map (m.p.regR · s)=acc at hR hL3 hlj⊢;have w1:IntKind.i64.wrap ((j:Int)+1)=(j:Int)+1:=w64 zo zo;refine Z1f hlt ?_;refine Z1 ?_;refine Zda (fun(_:Unit)=>st [(0,wdV b c d e m vs),(1,Zb c2 1 (V.int .i64) l),(2,.int .i64 s),(7,grown 66 g 1 acc),(8,.int .i64 j),(9,.int .i64 (m.p.regR v s))] [(66,Zza g (V.int .i64) acc)]) (λ_=>True) (λK1 hK1=>?_) ?_
 .refine Z ?_
  refine Z9 m.regions.l.length (λk (_:Unit)=>st [(0,wdV b c d e m vs),(1,Zb c2 1 (V.int .i64) l),(2,.int .i64 s),(7,grown 66 g 1 acc),(8,.int .i64 j),(9,.int .i64 (m.p.regRk v s k)),(10,.int .i64 k)] [(66,Zza g (V.int .i64) acc)]) (λ_ _=>True) 0 () (Nat.zero_le _) trivial (Za zp zp) ?_;intro k _ hk _ L4 hL4
  by_cases hk1:k<m.regions.l.length
  rotate_left;have hke:k=m.regions.l.length:=zo;have hlt2:decide ((k:Int)<(m.regions.l.length:Int))=false:=zF
  have:m.p.regRk v s k=m.p.regR v s:=by rw[hke]<;>rfl
  rw[this];refine Zf (zi hlt2 Zjb) ?_;exact hK1 _ () trivial (Za (zpf Zjb) zp);have hlt2:decide ((k:Int)<(m.regions.l.length:Int))=true:=zT;have hgk:=List.getElem?_eq_getElem hk1;generalize m.regions.l[k]=y at hgk;have hoy:m.p.ow (k:Int)=y.2:=Zdl hgk;have w2:IntKind.i64.wrap ((k:Int)+1)=(k:Int)+1:=w64 zo zo;rw[Zqu,hoy]at hL4;have hsp:=Zmh G hG m vs hm k v v0 v1 b.ent c.ent d.ent e.ent;generalize m.p.withinB v (k:Int)=bb at hsp hL4;refine Z1f (zi hlt2 Zjb) ?_;have f:=zi hgk (zi Z2a (zi Zjb (zi hk1 (zi @Int.natCast_nonneg @Int.ofNat_lt))));cases q:(y.2==s);rw[if_neg (λh=>by rw[beq_eq_false_iff_ne]at q;exact q h.1)]at hL4;refine Zf (zi q (zi w2 f)) ?_;exact hL4 _ ⟨hk1,(),trivial,Za (zpf Zjb) zp⟩;have qe:y.2=s:=zu q;refine Zf (zi q (zi f (zi hg hj1))) ?_;refine Zc hG ?_ (s:=hsp);cases bb;rw[if_neg (λh=>by cases h.2)]at hL4;refine Zf w2 ?_;exact hL4 _ ⟨hk1,(),trivial,Za (zpf Zjb) zp⟩;rw[if_pos ⟨qe,rfl⟩]at hL4;refine Zf w2 ?_;exact hL4 _ ⟨hk1,(),trivial,Za (zpf Zjb) zp⟩
 intro _ _;generalize m.p.regR v s=a at hR hL3
 by_cases ha:0<=a
 rotate_left;have q0:decide (a<0)=true:=zT;rw[decide_eq_false ha]at hR;rw[<- hR];exact Zq q0;have q0:decide (a<0)=false:=zF;rw[decide_eq_true ha,Bool.true_and]at hR;refine Z1f q0 ?_;refine Z0 ?_;refine Zda (fun(_:Unit)=>st [(0,wdV b c d e m vs),(1,Zb c2 1 (V.int .i64) l),(2,.int .i64 s),(7,grown 66 g 1 acc),(8,.int .i64 j),(9,.int .i64 a)] [(66,Zza g (V.int .i64) acc)]) (λ_=>acc.contains a=false) (λK1 hK1=>?_) ?_
 .refine Z ?_
  refine Z9 acc.length (λk (_:Unit)=>st [(0,wdV b c d e m vs),(1,Zb c2 1 (V.int .i64) l),(2,.int .i64 s),(7,grown 66 g 1 acc),(8,.int .i64 j),(9,.int .i64 a),(11,.int .i64 k)] [(66,Zza g (V.int .i64) acc)]) (λk _=>∀ y∈acc.take k,(y==a)=false) 0 () (Nat.zero_le _) zS (Za zp zp) ?_;intro k _ hk hS L4 hL4
  by_cases hk1:k<acc.length
  rotate_left;have hke:k=acc.length:=zo;have hlt2:decide ((k:Int)<(acc.length:Int))=false:=zF;rw[hke,List.take_length]at hS;refine Zf hlt2 ?_;exact hK1 _ () (Zlca hS) (Za zp zp);have hlt2:decide ((k:Int)<(acc.length:Int))=true:=zT;have hgk:=List.getElem?_eq_getElem hk1;have w2:IntKind.i64.wrap ((k:Int)+1)=(k:Int)+1:=w64 zo zo
  have hne:acc≠[]:=by rintro rfl;exact absurd hk1 (Nat.not_lt_zero _)
  generalize acc[k]=y at hgk;rw[Zlc _ _ _ hne,Z0c _ _ hne];rw[Zlc _ _ _ hne,Z0c _ _ hne]at hL4
  have hfl:(flat (acc.map (V.int .i64)))[k*1]?=some (.int .i64 y):=by rw[flI,Nat.mul_one,List.getElem?_map,hgk]<;>rfl
  have f:=zi hlt2 (zi hfl (zi hk1 (zi @Int.natCast_nonneg (zi @Int.ofNat_lt (decide_eq_true hk1)))));cases q:(y==a);refine Zf (zi q (zi w2 f)) ?_;exact hL4 _ ⟨hk1,(),Zce (p:=λy=>y==a) hgk hS q,Za zp zp⟩
  have hcon:acc.contains a=true:=by
   rw[List.contains_iff_mem,<- (show y=a by simpa using q)];exact List.mem_of_getElem? hgk
  rw[hcon]at hR;rw[<- hR];exact Zq (zi q f)
 intro _ hc;rw[hc,Bool.not_false,Bool.true_and]at hR;refine Z ?_;intro g65;refine Zna (f:=V.int .i64) (l:=acc) (l2:=[a]) (g:=g) (λ_=>rfl) rfl rfl rfl zp (Z5 zo zO) λg2=>?_;refine Zs ?_;refine Zf w1 ?_;exact hL3 _ ⟨hj1,g2,hR,Za zp zp⟩
theorem Zil(G:Nat->V)(hG:GOk G)(b c d e c2:Col)(m:MdM)(vs:Sl (List UInt8))(hm:m.p.Rt)(hrl:m.regions.l.length<1000000)(hvl:m.verts.l.length<1000000)(l:Sl Int)(hl:l.l≠[])(hll:l.l.length<1000000)(hr:∀ v∈l.l,0<=v/\v<m.p.vertices.length):
  Spec Tryz.prog G 135 [wdV b c d e m vs,Zb c2 1 (V.int .i64) l] Zk (λw _=>w=.bool (m.p.partU l.l)):=by
 refine Zo 0 20 [.tmp 4] Tryz.func135 λX=>?_
 have hP:m.p.partR l.l=(List.range m.verts.l.length).any λs=>Zye [] (l.l.map (m.p.regR · (s:Int))):=by rw[PM.partR,m.nv]
 rw[<- hm.acy.part_eq hl hr];generalize m.p.partR l.l=D at hP⊢;refine Z ?_;refine Z9 m.verts.l.length (λk (_:Unit)=>st [(0,wdV b c d e m vs),(1,Zb c2 1 (V.int .i64) l),(5,.int .i64 k)] []) (λk _=>∀ s:Nat,s<k->Zye [] (l.l.map (m.p.regR · (s:Int)))=false) 0 () (Nat.zero_le _) (λs h=>absurd h (Nat.not_lt_zero _)) (Za zp zp) ?_;intro k _ hk hR L3 hL3
 by_cases hk1:k<m.verts.l.length
 rotate_left;have hke:k=m.verts.l.length:=zo;have hlt:decide ((k:Int)<(m.verts.l.length:Int))=false:=zF;rw[List.any_eq_false.2 (λs hs=>by rw[hR s (by rw[hke];exact List.mem_range.1 hs)];decide)]at hP;rw[hP];exact Zq (zi hlt Zjb);have hlt:decide ((k:Int)<(m.verts.l.length:Int))=true:=zT;have w1:IntKind.i64.wrap ((k:Int)+1)=(k:Int)+1:=w64 zo zo;refine Z1f (zi hlt Zjb) ?_;refine Z ?_;have hsp:=λb c d e c2=>Zpm G hG b c d e c2 m vs hm hrl l hll hr (k:Int);generalize hd:Zye [] (l.l.map (m.p.regR · (k:Int)))=dd at hsp;refine Zcf Zjb hG ?_ (s:=hsp b.ent c.ent d.ent e.ent c2.ent);cases dd;refine Zf w1 ?_;refine hL3 _ ⟨hk1,(),λs hs=>?_,Za (zpf Zjb) zp⟩
 by_cases h:s=k
 rw[h,hd];exact hR s zo;rw[List.any_eq_true.2 ⟨k,List.mem_range.2 hk1,hd⟩]at hP;rw[hP];exact Zr
theorem Zhl(G:Nat->V)(hG:GOk G)(b c d e:Col)(m:MdM)(vs:Sl (List UInt8))(hw:m.ways.l.length<1000000)(v:Int)(to:Bool):
  Spec Tryz.prog G 205 [wdV b c d e m vs,.int .i64 v,.bool to] Zk (λw _=>w=Zb .new 1 (V.int .i64) (Zl (m.p.wysI v to m.p.ways.length))):=by
 refine Zo 0 50 [.tmp 6] Tryz.func205 λX=>?_;rw[m.nw];refine Z ?_
 refine Z9 m.ways.l.length (λk (g:Nat)=>st [(0,wdV b c d e m vs),(1,.int .i64 v),(2,.bool to),(7,grown 48 g 1 (m.p.wysI v to k)),(8,.int .i64 k)] [(48,Zza g (V.int .i64) (m.p.wysI v to k))])
  (λ_ _=>True) 0 0 (Nat.zero_le _) trivial (Za zp zp) ?_
 intro k g hk _ L3 hL3
 by_cases hk1:k<m.ways.l.length
 rotate_left;have hke:k=m.ways.l.length:=zo;subst hke;have hlt:decide ((m.ways.l.length:Int)<(m.ways.l.length:Int))=false:=zS;generalize m.p.wysI v to m.ways.l.length=acc;refine AW.weak (Zt (λo=>o==48) (l:=[(0,wdV b c d e m vs),(7,Zb .new 1 (V.int .i64) (Zl acc)),(8,.int .i64 m.ways.l.length)]) (m:=[]) ?_ trivial) ?_;refine Zs ?_;exact⟨Fz.same _,Z3a (l:=acc) (g:=g) (f:=V.int .i64) rfl zp (λ_=>rfl),Fz.same _⟩;exact Zq (zi hlt Zjb);have hlt:decide ((k:Int)<(m.ways.l.length:Int))=true:=zT;have hg:=List.getElem?_eq_getElem hk1;have hlen:=PM.wysI_len (m:=m.p) v to k;generalize m.ways.l[k]=x at hg;have hwy:m.p.wy (k:Int)=x.p:=Zai hg;rw[PM.wysI_succ,hwy]at hL3;have hL3:∀ s',(k<m.ways.l.length/\∃ x',True/\Weak ⟨X,Zk,50,0,G,none,[],.plain⟩ s' (st [(0,wdV b c d e m vs),(1,.int .i64 v),(2,.bool to),(7,grown 48 x' 1 (m.p.wysI v to k++if((to&&x.target==v)||(!to&&x.source==v))=true then[(k:Int)]else[])),(8,.int .i64 (k+1:Nat))] [(48,Zza x' (V.int .i64) (m.p.wysI v to k++if((to&&x.target==v)||(!to&&x.source==v))=true then[(k:Int)]else[]))]))->L3 s':=hL3;generalize m.p.wysI v to k=acc at hL3 hlen⊢;have w1:IntKind.i64.wrap ((k:Int)+1)=(k:Int)+1:=w64 zo zo;refine Z1f (zi hlt Zjb) ?_;refine Zf (zi hg (zi Z7 (zi Zjb (zi hk1 (zi @Int.natCast_nonneg @Int.ofNat_lt))))) ?_;intro g9;cases to;cases q:(x.source==v)
 have e0:(((false:Bool)&&x.target==v)||(!(false:Bool)&&x.source==v))=false:=by simp[q]
 rw[e0,if_neg zd,List.append_nil]at hL3;refine Zf (zi q (zi w1 Z7)) ?_;exact hL3 _ ⟨hk1,g,trivial,Za (zpf Zjb) zp⟩
 have e0:(((false:Bool)&&x.target==v)||(!(false:Bool)&&x.source==v))=true:=by simp[q]
 rw[e0,if_pos rfl]at hL3;refine Zf (zi q Z7) ?_;intro g47;refine Zna (f:=V.int .i64) (l:=acc) (l2:=[(k:Int)]) (g:=g) (λ_=>rfl) rfl rfl rfl zp (Z5 zo zO) λg2=>?_;refine Zs ?_;refine Zf w1 ?_;exact hL3 _ ⟨hk1,g2,trivial,Za (zpf Zjb) zp⟩;cases q:(x.target==v)
 have e0:(((true:Bool)&&x.target==v)||(!(true:Bool)&&x.source==v))=false:=by simp[q]
 rw[e0,if_neg zd,List.append_nil]at hL3;refine Zf (zi q (zi w1 Z7)) ?_;exact hL3 _ ⟨hk1,g,trivial,Za (zpf Zjb) zp⟩
 have e0:(((true:Bool)&&x.target==v)||(!(true:Bool)&&x.source==v))=true:=by simp[q]
 rw[e0,if_pos rfl]at hL3;refine Zf (zi q Z7) ?_;intro g47;refine Zna (f:=V.int .i64) (l:=acc) (l2:=[(k:Int)]) (g:=g) (λ_=>rfl) rfl rfl rfl zp (Z5 zo zO) λg2=>?_;refine Zs ?_;refine Zf w1 ?_;exact hL3 _ ⟨hk1,g2,trivial,Za (zpf Zjb) zp⟩
theorem Ze1(G:Nat->V)(hG:GOk G)(b c d e:Col)(m:MdM)(vs:Sl (List UInt8))(hw:m.ways.l.length<1000000)(v:Int):
  Spec Tryz.prog G 133 [wdV b c d e m vs,.int .i64 v,.bool true] Zk (λw _=>w=Zb .new 1 (V.int .i64) (Zl (m.p.inc v))):=by
 rw[<- PM.wys_inc];refine Zo 0 52 [.tmp 6] Tryz.func133 λX=>?_;have hrg:=λi (h:i∈m.p.wysI v true m.p.ways.length)=>PM.wysI_rng h;have hlw:=Nat.le_trans (PM.wysI_len (m:=m.p) v true m.p.ways.length) (Nat.le_of_eq m.nw);have hsp:=Zhl G hG b.ent c.ent d.ent e.ent m vs hw v true;generalize m.p.wysI v true m.p.ways.length=l at hrg hsp hlw⊢;refine Z ?_;refine Zc hG ?_ (s:=hsp);refine Z ?_
 refine Z9 l.length (λk (g:Nat)=>st [(0,wdV b c d e m vs),(2,.bool true),(7,Zb .new 1 (V.int .i64) (Zl l)),(8,grown 35 g 1 ((l.take k).map λi=>(m.p.wy i).source)),(9,.int .i64 k)] [(35,Zza g (V.int .i64) ((l.take k).map λi=>(m.p.wy i).source))])
  (λ_ _=>True) 0 0 (Nat.zero_le _) trivial (Za zp zp) ?_
 intro k g hk _ L3 hL3
 by_cases hk1:k<l.length
 rotate_left;have hke:k=l.length:=zo;subst hke;have hlt:decide ((l.length:Int)<(l.length:Int))=false:=zS;rw[List.take_length];generalize(l.map λi=>(m.p.wy i).source)=acc;refine AW.weak (Zt (λo=>o==35) (l:=[(7,Zb .new 1 (V.int .i64) (Zl l)),(8,Zb .new 1 (V.int .i64) (Zl acc)),(9,.int .i64 l.length)]) (m:=[]) ?_ trivial) ?_;refine Zs ?_;exact⟨Fz.same _,Z3a (l:=acc) (g:=g) (f:=V.int .i64) rfl zp (λ_=>rfl),Fz.same _⟩;exact Zq (zi hlt (@Zm Int l));have hlt:decide ((k:Int)<(l.length:Int))=true:=zT;have hg:=List.getElem?_eq_getElem hk1
 have htk:l.take (k+1)=l.take k++[l[k]]:=by rw[List.take_succ_eq_append_getElem hk1]
 obtain⟨i0,i1⟩:=hrg _ (List.getElem_mem hk1);obtain⟨j,x,hjk,hj,hgj,hxe⟩:=Zxd i0 i1;rw[htk,List.map_append,List.map_cons,List.map_nil,hxe,show x.p.source=x.source from rfl]at hL3;rw[hjk]at hg
 have hlk:((l.take k).map λi=>(m.p.wy i).source).length=k:=by rw[List.length_map,List.length_take];omega
 generalize((l.take k).map λi=>(m.p.wy i).source)=acc at hL3 hlk⊢;have w1:IntKind.i64.wrap ((k:Int)+1)=(k:Int)+1:=w64 zo zo;refine Z1f (zi hlt (@Zm Int l)) ?_;refine Zf (@Zm Int l) ?_;refine ZTf (zi hg (zi hk1 (zi hgj (zi hj (zi Z7 (zi Zjb (zi (@Zm Int l) (zi @Int.natCast_nonneg @Int.ofNat_lt)))))))) hG ?_;intro g34;refine Zna (f:=V.int .i64) (l:=acc) (l2:=[x.source]) (g:=g) (λ_=>rfl) rfl rfl rfl zp (Z5 zo zO) λg2=>?_;refine Zs ?_;refine Zf w1 ?_;exact hL3 _ ⟨hk1,g2,trivial,Za (zpf Zjb) zp⟩
theorem Zf1(G:Nat->V)(hG:GOk G)(b c d e:Col)(m:MdM)(vs:Sl (List UInt8))(hw:m.ways.l.length<1000000)(v:Int):
  Spec Tryz.prog G 133 [wdV b c d e m vs,.int .i64 v,.bool false] Zk (λw _=>w=Zb .new 1 (V.int .i64) (Zl (m.p.out v))):=by
 rw[<- PM.wys_out];refine Zo 0 52 [.tmp 6] Tryz.func133 λX=>?_;have hrg:=λi (h:i∈m.p.wysI v false m.p.ways.length)=>PM.wysI_rng h;have hlw:=Nat.le_trans (PM.wysI_len (m:=m.p) v false m.p.ways.length) (Nat.le_of_eq m.nw);have hsp:=Zhl G hG b.ent c.ent d.ent e.ent m vs hw v false;generalize m.p.wysI v false m.p.ways.length=l at hrg hsp hlw⊢;refine Z ?_;refine Zc hG ?_ (s:=hsp);refine Z ?_
 refine Z9 l.length (λk (g:Nat)=>st [(0,wdV b c d e m vs),(2,.bool false),(7,Zb .new 1 (V.int .i64) (Zl l)),(8,grown 50 g 1 ((l.take k).map λi=>(m.p.wy i).target)),(9,.int .i64 k)] [(50,Zza g (V.int .i64) ((l.take k).map λi=>(m.p.wy i).target))])
  (λ_ _=>True) 0 0 (Nat.zero_le _) trivial (Za zp zp) ?_
 intro k g hk _ L3 hL3
 by_cases hk1:k<l.length
 rotate_left;have hke:k=l.length:=zo;subst hke;have hlt:decide ((l.length:Int)<(l.length:Int))=false:=zS;rw[List.take_length];generalize(l.map λi=>(m.p.wy i).target)=acc;refine AW.weak (Zt (λo=>o==50) (l:=[(7,Zb .new 1 (V.int .i64) (Zl l)),(8,Zb .new 1 (V.int .i64) (Zl acc)),(9,.int .i64 l.length)]) (m:=[]) ?_ trivial) ?_;refine Zs ?_;exact⟨Fz.same _,Z3a (l:=acc) (g:=g) (f:=V.int .i64) rfl zp (λ_=>rfl),Fz.same _⟩;exact Zq (zi hlt (@Zm Int l));have hlt:decide ((k:Int)<(l.length:Int))=true:=zT;have hg:=List.getElem?_eq_getElem hk1
 have htk:l.take (k+1)=l.take k++[l[k]]:=by rw[List.take_succ_eq_append_getElem hk1]
 obtain⟨i0,i1⟩:=hrg _ (List.getElem_mem hk1);obtain⟨j,x,hjk,hj,hgj,hxe⟩:=Zxd i0 i1;rw[htk,List.map_append,List.map_cons,List.map_nil,hxe,show x.p.target=x.target from rfl]at hL3;rw[hjk]at hg
 have hlk:((l.take k).map λi=>(m.p.wy i).target).length=k:=by rw[List.length_map,List.length_take];omega
 generalize((l.take k).map λi=>(m.p.wy i).target)=acc at hL3 hlk⊢;have w1:IntKind.i64.wrap ((k:Int)+1)=(k:Int)+1:=w64 zo zo;refine Z1f (zi hlt (@Zm Int l)) ?_;refine Zf (@Zm Int l) ?_;refine ZTf (zi hg (zi hk1 (zi hgj (zi hj (zi Z7 (zi Zjb (zi (@Zm Int l) (zi @Int.natCast_nonneg @Int.ofNat_lt)))))))) hG ?_;intro g34;refine Zna (f:=V.int .i64) (l:=acc) (l2:=[x.target]) (g:=g) (λ_=>rfl) rfl rfl rfl zp (Z5 zo zO) λg2=>?_;refine Zs ?_;refine Zf w1 ?_;exact hL3 _ ⟨hk1,g2,trivial,Za (zpf Zjb) zp⟩
theorem Z3r(G:Nat->V)(hG:GOk G)(s:List UInt8)(hs:s.length<100000):Spec Tryz.prog G 207 [.str s] Zk (λv _=>v=.bool (Zoe s)):=by
 refine Zo 0 26 [.tmp 2] Tryz.func207 λX=>?_;rw[Zoe];refine Z ?_;refine Zn hG ?_ (s:=Zje G hG s hs);generalize Zja s=p;obtain⟨l,a,q⟩:=p;simp only[encTok,encTks];refine Zs ?_;cases q0:(q==0);exact Zh q0
 have e1:(((l.length:Nat):Int)==1)=(l.length==1):=by
  rw[Bool.eq_iff_iff,beq_iff_eq,beq_iff_eq];omega
 cases q1:(l.length==1);rw[q1]at e1;exact Zh (zi q0 (zi e1 (@Zm Tk l)));rw[q1]at e1;have h1:l.length=1:=zu q1;obtain⟨t,rfl⟩:∃ t,l=[t]:=List.length_eq_one_iff.1 h1;exact Zh (zi q0 Zdb)
theorem Zsl(G:Nat->V)(hG:GOk G)(b c d e:Col)(m:MdM)(vs:Sl (List UInt8))(s:List UInt8)(hs:s.length<=900)(hv:vs.l.length<100000)(hev:m.events.l.length<1000000):
  Spec Tryz.prog G 140 [wdV b c d e m vs,.str s] Zk (λw _=>w=.bool (Zba vs.l m.events.l s)):=by
 refine Zo 0 34 [.tmp 4] Tryz.func140 λX=>?_;have hbk:=Zfx hs;have hT:=λc c1 c2 c3=>Zl3 G hG c c1 c2 c3 (amS (Z7k s).1) vs m.events hbk.amok hv hev;rw[amS_v]at hT;have hp:=Zn3 G hG s zo;rw[Zba];generalize Z7k s=p at hT hp hbk;obtain⟨l,a,q⟩:=p;simp only at hT hbk;generalize Zbk l vs.l m.events.l=t at hT;refine Z ?_;refine Zn hG ?_ (s:=hp);simp only[encBR,Ze9,Z2w];refine Zs ?_;cases q0:(q==0);have q1:(q != 0)=true:=zu q0;exact Zq q1;have q1:(q != 0)=false:=zu q0;refine Z1f q1 ?_;refine Z0f q1 ?_;refine Z4 ?_;refine Zw ⟨λi=>if i=10 then .tuple [.int .i64 t.1,.int .i64 t.2]else .top,λ_=>.pure⟩ zk hG zk zk ?_;refine Zsf @Zjb ?_;refine⟨⟨by kernel_rfl,by refine Zs ?_;exact(hT _ _ _ _).mono (by rintro _ _ rfl;rfl)⟩,?_⟩;refine Z ?_;rw[Bool.true_and]
section
theorem Zlu{α : Type}(p : α -> Bool){l:List α}{k:Nat}{x : α}(h:l[k]?=some x)(ht:(l.take k).all p=true)(hx:p x=true):(l.take (k+1)).all p=true:=by
 rw[List.take_add_one,h,List.all_append,ht];simp[hx]
theorem Z4ja{α : Type}(p : α -> Bool){l:List α}{k:Nat}{x : α}(h:l[k]?=some x)(hx:p x=false):l.all p=false:=by
 rw[<- Bool.not_eq_true,List.all_eq_true];intro ha;rw[ha x (List.mem_of_getElem? h)]at hx;cases hx
set_option maxRecDepth 10000
set_option maxHeartbeats 1000000
theorem Zw9(G:Nat->V)(hG:GOk G)(b c d e c1 c2:Col)(m:MdM)(vs:Sl (List UInt8))(hm:m.p.Rt)(hb:MdB m)(l l2:Sl Int)(hll:l.l.length<1000000)(hr:∀ v∈l.l,0<=v/\v<m.p.vertices.length):
  Spec Tryz.prog G 136 [wdV b c d e m vs,Zb c1 1 (V.int .i64) l,Zb c2 1 (V.int .i64) l2] Zk (λw _=>w=.bool (l2.l.length==1&&decide (1<l.l.length)&&(l.l.all λu=>m.p.kd u==1)&&m.p.partU l.l)):=by
 refine Zo 0 40 [.tmp 6] Tryz.func136 λX=>?_;have b1:=hb.nr;have b2:=hb.nx;refine Z ?_;refine Z9 l.l.length (λk (_:Unit)=>st [(0,wdV b c d e m vs),(1,Zb c1 1 (V.int .i64) l),(2,Zb c2 1 (V.int .i64) l2),(7,.int .i64 k)] []) (λk _=>(l.l.take k).all (λu=>m.p.kd u==1)=true) 0 () (Nat.zero_le _) rfl (Za zp zp) ?_;intro k _ hk hR L3 hL3
 by_cases hk1:k<l.l.length
 rotate_left;have hke:k=l.l.length:=zo;have hlt:decide ((k:Int)<(l.l.length:Int))=false:=zF;rw[hke,List.take_length]at hR;rw[hR,Bool.and_true];have e1:((l2.l.length:Int)==1)=(l2.l.length==1):=eqN _ 1;have e2:decide ((l.l.length:Int)>=2)=decide (1<l.l.length):=decide_eq_decide.2 zo;cases q1:(l2.l.length==1);rw[q1]at e1;exact Zq (zi hlt e1);rw[q1]at e1;cases q2:decide (1<l.l.length);rw[q2]at e2;exact Zq (zi hlt (zi e1 e2));rw[q2]at e2;refine Zf (zi hlt (zi e1 e2)) ?_;refine Zc hG ?_ (s:=Zil G hG _ _ _ _ _ m vs hm zo zo l (Z2n q2) hll hr);rw[Bool.true_and,Bool.true_and];exact Zr;have hlt:decide ((k:Int)<(l.l.length:Int))=true:=zT;have hg:=List.getElem?_eq_getElem hk1;obtain⟨v0,v1⟩:=hr l.l[k] (List.getElem_mem hk1);have hmem:=List.getElem_mem hk1;generalize l.l[k]=u at hg v0 v1 hmem;have w1:IntKind.i64.wrap ((k:Int)+1)=(k:Int)+1:=w64 zo zo;obtain⟨j,x,hj,hjl,hgj,hx⟩:=MdM.at v0 v1
 have hkd:(m.p.kd u==1)=(x.kind==1):=by rw[PM.kd,hx]<;>rfl
 refine Z1f hlt ?_;have f:=zi hg (zi hk1 (zi hj (zi hgj (zi hjl (zi Zp (zi Zjb (zi @Int.natCast_nonneg @Int.ofNat_lt)))))));cases q:(x.kind==1)
 have q1:(x.kind != 1)=true:=by rw[bne,q]<;>rfl
 rw[Z4ja _ hg (by rw[hkd,q]),Bool.and_false,Bool.false_and];refine ZTf (zi q1 f) hG ?_;exact Zr
 have q1:(x.kind != 1)=false:=by rw[bne,q]<;>rfl
 refine ZTf (zi q1 f) hG ?_;refine Zf w1 ?_;exact hL3 _ ⟨hk1,(),Zlu _ hg hR (by rw[hkd,q]),Za (zpf Zjb) zp⟩
theorem Z3q(G:Nat->V)(hG:GOk G)(b c d e c1 c2:Col)(m:MdM)(vs:Sl (List UInt8))(hw:m.ways.l.length<1000000)(hgl:∀ t∈m.ways.l,t.guard.length<100000)(v:Int)(l l2:Sl Int):
  Spec Tryz.prog G 137 [wdV b c d e m vs,.int .i64 v,Zb c1 1 (V.int .i64) l,Zb c2 1 (V.int .i64) l2] Zk (λw _=>w=.bool (decide (0<l.l.length)&&decide (0<l2.l.length)&&decide (m.p.elses v<=1))):=by
 refine Zo 0 48 [.tmp 8] Tryz.func137 λX=>?_;rw[<- PM.wys_els];have hrg:=λi (h:i∈m.p.wysI v false m.p.ways.length)=>PM.wysI_rng h;have hlw:=Nat.le_trans (PM.wysI_len (m:=m.p) v false m.p.ways.length) (Nat.le_of_eq m.nw);have hsp:=Zhl G hG b.ent c.ent d.ent e.ent m vs hw v false;generalize m.p.wysI v false m.p.ways.length=ws at hrg hsp hlw⊢;refine Z ?_;refine Zc hG ?_ (s:=hsp);refine Z ?_
 refine Z9 ws.length (λk (_:Unit)=>st [(0,wdV b c d e m vs),(2,Zb c1 1 (V.int .i64) l),(3,Zb c2 1 (V.int .i64) l2),(9,.int .i64 ((ws.take k).filter λi=>Zoe (m.p.wy i).guard).length),(10,Zb .new 1 (V.int .i64) (Zl ws)),(11,.int .i64 k)] [])
  (λ_ _=>True) 0 () (Nat.zero_le _) trivial (Za zp zp) ?_
 intro k _ hk _ L3 hL3
 by_cases hk1:k<ws.length
 rotate_left;have hke:k=ws.length:=zo;have hlt:decide ((k:Int)<(ws.length:Int))=false:=zF;rw[hke,List.take_length];rw[hke]at hlt;generalize(ws.filter λi=>Zoe (m.p.wy i).guard).length=n;have e1:decide ((l.l.length:Int)>=1)=decide (0<l.l.length):=decide_eq_decide.2 zo;have e2:decide ((l2.l.length:Int)>=1)=decide (0<l2.l.length):=decide_eq_decide.2 zo;have e3:decide ((n:Int)<=1)=decide (n<=1):=decide_eq_decide.2 zo;have f:=zi hlt (@Zm Int ws);cases q1:decide (0<l.l.length);rw[q1]at e1;exact Zq (zi f e1);rw[q1]at e1;cases q2:decide (0<l2.l.length);rw[q2]at e2;exact Zq (zi f (zi e1 e2));rw[q2]at e2;exact Zq (zi f (zi e1 (zi e2 e3)));have hlt:decide ((k:Int)<(ws.length:Int))=true:=zT;have hg:=List.getElem?_eq_getElem hk1
 have htk:ws.take (k+1)=ws.take k++[ws[k]]:=by rw[List.take_succ_eq_append_getElem hk1]
 obtain⟨i0,i1⟩:=hrg _ (List.getElem_mem hk1);obtain⟨j,x,hjk,hj,hgj,hxe⟩:=Zxd i0 i1;have hn:((ws.take k).filter λi=>Zoe (m.p.wy i).guard).length<=k:=Nat.le_trans (List.length_filter_le _ _) (by rw[List.length_take];omega);rw[htk,List.filter_append,List.length_append,List.filter_cons,hxe]at hL3;have hxg:x.p.guard=x.guard:=rfl;rw[hxg]at hL3;rw[hjk]at hg;generalize((ws.take k).filter λi=>Zoe (m.p.wy i).guard).length=n at hn hL3⊢;have hsp2:=Z3r G hG x.guard (hgl x (List.mem_of_getElem? hgj));generalize Zoe x.guard=bb at hsp2 hL3;have w1:IntKind.i64.wrap ((k:Int)+1)=(k:Int)+1:=w64 zo zo;have w2:IntKind.i64.wrap ((n:Int)+1)=(n:Int)+1:=w64 zo zo;refine Z1f (zi hlt (@Zm Int ws)) ?_
 repeat first
  |refine Z4 ?_
  |refine AW.block ?_
  |refine Ztc rfl ?_
  |refine Zbb rfl ?_
  |(refine AW.skip ?_;simp -implicitDefEqProofs only[go_sem,seval])
  |(refine AW.exit ?_;simp -implicitDefEqProofs only[go_sem,seval])
 refine Zw ⟨λi=>if i=12 then .bool bb else .top,λ_=>.pure⟩ zk hG zk zk ?_;refine Zsf (zi hg (zi hk1 (zi hgj (zi hj (zi @Z7 (zi @Zjb (zi @Zm (zi @Int.natCast_nonneg @Int.ofNat_lt)))))))) ?_;refine⟨⟨by kernel_rfl,by refine Zs ?_;exact hsp2.mono (by rintro _ _ rfl;rfl)⟩,?_⟩;cases bb;rw[if_neg zd]at hL3;simp only[List.filter_nil,List.length_nil,Nat.add_zero]at hL3;refine Zf w1 ?_;exact hL3 _ ⟨hk1,(),trivial,Za (zpf Zjb) zp⟩;rw[if_pos rfl]at hL3;simp only[List.filter_nil,List.length_nil,List.length_cons,Nat.zero_add]at hL3;refine Zf (zi w1 w2) ?_;exact hL3 _ ⟨hk1,(),trivial,Za (by simp -implicitDefEqProofs only[go_sem,seval,Zjb];exact⟨rfl,rfl⟩) zp⟩
theorem Zd1(G:Nat->V)(hG:GOk G)(b c d e c2:Col)(m:MdM)(vs:Sl (List UInt8))(hm:m.p.Rt)(hrl:m.regions.l.length<1000000)(l:Sl Int)(hll:l.l.length<1000000)(hr:∀ v∈l.l,0<=v/\v<m.p.vertices.length)(s:Int)(hs:0<=s):
  Spec Tryz.prog G 139 [wdV b c d e m vs,Zb c2 1 (V.int .i64) l,.int .i64 s] Zk (λw _=>w=.bool (Zye [] (l.l.map (m.p.regU · s)))):=by
 refine Zo 0 11 [.tmp 6] Tryz.func139 λX=>?_;rw[<- show l.l.map (m.p.regR · s)=l.l.map (m.p.regU · s)from List.map_congr_left λv hv=>hm.acy.regR_eq (hr v hv).1 (hr v hv).2 hs];refine Z ?_;refine Zc hG ?_ (s:=Zpm G hG _ _ _ _ _ m vs hm hrl l hll hr s);exact Zr
theorem Z8u(G:Nat->V)(hG:GOk G)(b c d e c2:Col)(m:MdM)(vs:Sl (List UInt8))(hm:m.p.Rt)(hb:MdB m)(v:Nat)(h1:v<m.verts.l.length)(hkd:m.p.kd v=8\/m.p.kd v=9)(l:Sl Int)(hr:∀ v∈l.l,0<=v/\v<m.p.vertices.length):
  Spec Tryz.prog G 138 [wdV b c d e m vs,.int .i64 v,Zb c2 1 (V.int .i64) l] Zk (λw _=>w=.bool (!((m.p.vx v).region==0)&&m.p.twins v==1&&decide (l.l.length<=1)&&(l.l.length==0||m.p.withinB (l.l.headD 0) (m.p.vx v).region))):=by
 refine Zo 0 83 [.tmp 6] Tryz.func138 λX=>?_;have b2:=hb.nx
 have hvp:v<m.p.vertices.length:=by rw[m.nv];exact h1
 have hg:=List.getElem?_eq_getElem h1;have hpt:=hm.toRt5.pt (v:=v) zo zo;have hx:=Zxf hg;have t1:=PM.twins_one (m:=m.p) hvp;have t2:=λi=>PM.twins_two (m:=m.p) (v:=v) (i:=i) hvp;rw[PM.kd]at hkd;rw[hx]at hpt t1 t2 hkd⊢;generalize m.verts.l[v]=x at hg hx hpt t1 t2 hkd⊢;generalize m.p.twins v=tw at t1 t2⊢
 have hkx:¬ (x.kind=10\/x.kind=11):=by
  have:x.p.kind=x.kind:=rfl;omega
 obtain⟨_,r0,r1,_⟩:=hpt.resolve_left (λh=>hkx h.2.2.2.2);have r0:0<=x.region:=r0;have r1:x.region<m.p.regions.length:=r1;have hxr:x.p.region=x.region:=rfl;rw[hxr];refine Zf (zi hg (zi Zp (zi Zjb (zi h1 (zi @Int.natCast_nonneg @Int.ofNat_lt))))) ?_;intro g7;refine AW.weak (Zt (λo=>o==7) (l:=[(0,wdV b c d e m vs),(1,.int .i64 v),(2,Zb c2 1 (V.int .i64) l),(7,.view .new (Zha d x))]) (m:=[]) ?_ trivial) ?_;refine Zsf @Zjb ?_;exact⟨Fz.same _,Fz.same _,Fz.same _,Fz.ptr (v:=Zha d x) (c:=.new) (fz:=0) zp zp⟩;refine Z ?_
 refine Z9 m.verts.l.length (λk (_:Unit)=>st [(0,wdV b c d e m vs),(1,.int .i64 v),(2,Zb c2 1 (V.int .i64) l),(7,.view .new (Zha d x)),(8,.int .i64 k)] [])
  (λk _=>∀ i:Nat,i<k->i≠v->((m.p.vx (i:Int)).kind==x.kind&&(m.p.vx (i:Int)).region==x.region)=false) 0 () (Nat.zero_le _) (λi h=>absurd h (Nat.not_lt_zero _)) (Za zp zp) ?_
 intro k _ hk hR L3 hL3
 by_cases hk1:k<m.verts.l.length
 .have hlt:decide ((k:Int)<(m.verts.l.length:Int))=true:=zT
  have hgk:=List.getElem?_eq_getElem hk1;have hy:=Zxf hgk;generalize m.verts.l[k]=y at hgk hy;have w1:IntKind.i64.wrap ((k:Int)+1)=(k:Int)+1:=w64 zo zo;refine Z1f (zi hlt Zjb) ?_;refine Zf (zi hgk (zi hk1 (zi Zp (zi Zjb (zi @Int.natCast_nonneg @Int.ofNat_lt))))) ?_;intro g9
  have hgo:((k≠v->(y.kind==x.kind&&y.region==x.region)=false)->∀ s,Weak ⟨X,Zk,83,0,G,none,[],.plain⟩ s (st [(0,wdV b c d e m vs),(1,.int .i64 v),(2,Zb c2 1 (V.int .i64) l),(7,.view .new (Zha d x)),(8,.int .i64 (k+1:Nat))] [])->L3 s):=λh s hs=>by
   refine hL3 s ⟨hk1,(),λi hi hne=>?_,hs⟩
   by_cases h3:i=k
   rw[h3,hy];exact h (by rw[<- h3];exact hne);exact hR i zo hne
  try clear hL3
  by_cases q1:k=v
  have f1:((k:Int) != (v:Int))=false:=by simp[q1]
  refine Zf (zi f1 (zi w1 Zp)) ?_;exact hgo (λh=>absurd q1 h) _ (Za (zpf (zi Zjb @Zp)) zp)
  have f1:((k:Int) != (v:Int))=true:=by
   have:¬ (k:Int)=(v:Int):=zo;simpa using this
  cases q2:(y.kind==x.kind);refine Zf (zi f1 (zi q2 (zi w1 Zp))) ?_;exact hgo (λ_=>by rw[q2]<;>rfl) _ (Za (zpf (zi Zjb @Zp)) zp);cases q3:(y.region==x.region);refine Zf (zi f1 (zi q2 (zi q3 (zi w1 Zp)))) ?_;exact hgo (λ_=>by rw[q3,Bool.and_false]) _ (Za (zpf (zi Zjb @Zp)) zp)
  have hne:(tw==1)=false:=by
   have:=t2 k (by rw[m.nv];exact hk1) q1 (by rw[hy];show(y.kind==x.kind&&y.region==x.region)=true;rw[q2,q3]<;>rfl);simpa using this
  rw[hne];simp only[Bool.and_false,Bool.false_and];exact Zq (zi f1 (zi q2 (zi q3 Zp)))
 have hke:k=m.verts.l.length:=zo;have hlt:decide ((k:Int)<(m.verts.l.length:Int))=false:=zF;have htw:tw=1:=t1 λi hi hne=>hR i (by rw[m.nv]at hi;omega) hne;rw[htw];have e0:((1:Nat)==1)=true:=rfl;rw[e0,Bool.and_true];have how:=hm.toRt5.ow0 r0 r1;obtain⟨ri,y,hri,hrl,hgr,hor⟩:=Zbo r0 r1;rw[hor]at how;refine Z1f (zi hlt Zjb) ?_;have e2:decide ((l.l.length:Int)<=1)=decide (l.l.length<=1):=decide_eq_decide.2 zo;have e3:((l.l.length:Int)==0)=(l.l.length==0):=eqN _ 0
 have hne:(y.2 != -1) = !(x.region==0):=by rw[bne,how]
 cases q1:(x.region==0);rotate_left
 .rw[q1]at hne
  repeat first
   |refine Z4 ?_
   |refine AW.block ?_
   |refine Ztc rfl ?_
   |refine Zbb rfl ?_
   |(refine AW.skip ?_;simp -implicitDefEqProofs only[go_sem,seval])
   |(refine AW.exit ?_;simp -implicitDefEqProofs only[go_sem,seval])
  refine Zw ⟨λi=>.top,λ_=>.pure⟩ zk hG zk zk ?_;refine Zsf (zi hgr (zi hri (zi hrl (zi hne (zi @Z2a (zi @Zp (zi @Zjb (zi @Int.natCast_nonneg @Int.ofNat_lt)))))))) ?_;exact Zr
 rw[q1]at hne;cases q3:decide (l.l.length<=1)
 .rw[q3]at e2
  repeat first
   |refine Z4 ?_
   |refine AW.block ?_
   |refine Ztc rfl ?_
   |refine Zbb rfl ?_
   |(refine AW.skip ?_;simp -implicitDefEqProofs only[go_sem,seval])
   |(refine AW.exit ?_;simp -implicitDefEqProofs only[go_sem,seval])
  refine Zw ⟨λi=>.top,λ_=>.pure⟩ zk hG zk zk ?_;refine Zsf (zi hgr (zi hri (zi hrl (zi hne (zi e2 (zi @Z2a (zi @Zp (zi @Zjb (zi @Int.natCast_nonneg @Int.ofNat_lt))))))))) ?_;exact Zr
 rw[q3]at e2;cases q4:(l.l.length==0);rotate_left
 .rw[q4]at e3
  repeat first
   |refine Z4 ?_
   |refine AW.block ?_
   |refine Ztc rfl ?_
   |refine Zbb rfl ?_
   |(refine AW.skip ?_;simp -implicitDefEqProofs only[go_sem,seval])
   |(refine AW.exit ?_;simp -implicitDefEqProofs only[go_sem,seval])
  refine Zw ⟨λi=>.top,λ_=>.pure⟩ zk hG zk zk ?_;refine Zsf (zi hgr (zi hri (zi hrl (zi hne (zi e2 (zi e3 (zi @Z2a (zi @Zp (zi @Zjb (zi @Int.natCast_nonneg @Int.ofNat_lt)))))))))) ?_;exact Zr
 rw[q4]at e3
 have hlen:l.l.length=1:=by
  have:=of_decide_eq_true q3;have:l.l.length≠0:=zu q4;omega
 obtain⟨w,hw⟩:∃ w,l.l=[w]:=List.length_eq_one_iff.1 hlen;obtain⟨w0,w1⟩:=hr w (by rw[hw];exact List.mem_singleton.2 rfl)
 have hhd:l.l.headD 0=w:=by rw[hw]<;>rfl
 have hg0:l.l[0]?=some w:=by rw[hw]<;>rfl
 have hlen0:0<l.l.length:=zo;rw[hhd];have hsp:=λb c d e=>Zmh G hG m vs hm x.region w w0 w1 b c d e;generalize m.p.withinB w x.region=bb at hsp⊢
 repeat first
  |refine Z4 ?_
  |refine AW.block ?_
  |refine Ztc rfl ?_
  |refine Zbb rfl ?_
  |(refine AW.skip ?_;simp -implicitDefEqProofs only[go_sem,seval])
  |(refine AW.exit ?_;simp -implicitDefEqProofs only[go_sem,seval])
 refine Zw ⟨λi=>if i=27 then .bool bb else .top,λ_=>.pure⟩ zk hG zk zk ?_;refine Zsf (zi hgr (zi hri (zi hrl (zi hne (zi e2 (zi e3 (zi hg0 (zi hlen0 (zi @Z2a (zi @Zp (zi @Zjb (zi @Int.natCast_nonneg @Int.ofNat_lt)))))))))))) ?_;refine⟨⟨by kernel_rfl,by refine Zs ?_;rw[<- hri];exact(hsp _ _ _ _).mono (by rintro _ _ rfl;rfl)⟩,?_⟩;exact Zr
end
end Go.Hs
end

section
namespace Go.Hs
open Go.Proofs
set_option maxRecDepth 10000
set_option maxHeartbeats 4000000
theorem Zom(G:Nat->V)(hG:GOk G)(b c d e:Col)(m:MdM)(vs:Sl (List UInt8))(hm:m.p.Rt)(hb:MdB m)(ht:MdT m)(hvs:vs.l=m.p.vn)(r:Nat)(hr:r=2\/r=3\/r=4\/r=5\/r=6\/r=7\/r=8\/r=13)(v:Int)(h0:0<=v)(h1:v<m.p.vertices.length):
  Spec Tryz.prog G 73 [wdV b c d e m vs,.int .i64 r,.int .i64 v] Zk (λw _=>w=.bool (m.p.keep Zba Z2 r v)):=by
 refine Zo 0 190 [.tmp 6] Tryz.func73 λX=>?_;have b0:=hb.nv;have b1:=hb.nr;have b2:=hb.nx;have b3:=hb.nw;have b4:=hb.ne
 have hvl:m.p.vn.length<=600:=by
  show(m.vars.l.map _).length<=_
  rw[List.length_map];exact b0
 have hsl:vs.l.length<100000:=by rw[hvs];omega
 have ho:=hm.outR v;have hi:=hm.incR v;have hol:=Zdp m v;have hil:=Znia m v;have hpt:=hm.toRt5.pt h0 h1;have hsT:=λb c d e=>Ze1 G hG b c d e m vs zo v;have hsF:=λb c d e=>Zf1 G hG b c d e m vs zo v;obtain⟨k,x,rfl,hk,hg,hx⟩:=MdM.at h0 h1
 have hkd:m.p.kd (k:Int)=x.kind:=by rw[PM.kd,hx]<;>rfl
 refine Zf (zi hg (zi Zp (zi Zjb (zi hk (zi @Int.natCast_nonneg @Int.ofNat_lt))))) ?_;intro g7;refine AW.weak (Zt (λo=>o==7) (l:=[(0,wdV b c d e m vs),(1,.int .i64 r),(2,.int .i64 k),(6,.bool false),(7,.view .new (Zha d x))]) (m:=[]) ?_ trivial) ?_;refine Zsf @Zjb ?_;exact⟨Fz.same _,Fz.same _,Fz.same _,Fz.same _,Fz.ptr (v:=Zha d x) (c:=.new) (fz:=0) zp zp⟩;refine Z ?_;refine Zc hG ?_ (s:=hsT _ _ _ _);refine Z ?_;refine Zc hG ?_ (s:=hsF _ _ _ _);have fi := @Zm Int (m.p.inc k);have fo := @Zm Int (m.p.out k);have gi:=Zp
 rcases hr with rfl|rfl|rfl|rfl|rfl|rfl|rfl|rfl
 .have hK:m.p.keep Zba Z2 2 k=(!(x.kind==3)||((m.p.out k).length==1&&m.p.withinB ((m.p.out k).headD 0) x.region&&(m.p.inc k).length==0)):=by
   show m.p.k2 k=_
   rw[PM.k2,hkd,hx]<;>rfl
  rw[hK];cases q:(x.kind==3);exact Zq (zi q gi);refine Z1f (zi q gi) ?_;have e1:(((m.p.inc k).length:Int)==0)=((m.p.inc k).length==0):=eqN _ 0;have e2:(((m.p.out k).length:Int)==1)=((m.p.out k).length==1):=eqN _ 1;cases q1:((m.p.inc k).length==0)
  .rw[q1]at e1
   simp only[Bool.and_false]
   repeat first
    |refine Z4 ?_
    |refine AW.block ?_
    |refine Ztc rfl ?_
    |refine Zbb rfl ?_
    |(refine AW.skip ?_;simp -implicitDefEqProofs only[go_sem,seval])
    |(refine AW.exit ?_;simp -implicitDefEqProofs only[go_sem,seval])
   refine Zw ⟨λi=>.top,λ_=>.pure⟩ zk hG zk zk ?_;refine Zsf (zi fi e1) ?_;exact Zr
  rw[q1]at e1;cases q2:((m.p.out k).length==1)
  .rw[q2]at e2
   simp only[Bool.and_false,Bool.false_and]
   repeat first
    |refine Z4 ?_
    |refine AW.block ?_
    |refine Ztc rfl ?_
    |refine Zbb rfl ?_
    |(refine AW.skip ?_;simp -implicitDefEqProofs only[go_sem,seval])
    |(refine AW.exit ?_;simp -implicitDefEqProofs only[go_sem,seval])
   refine Zw ⟨λi=>.top,λ_=>.pure⟩ zk hG zk zk ?_;refine Zsf (zi fi (zi fo (zi e1 e2))) ?_;exact Zr
  rw[q2]at e2;obtain⟨w,hw⟩:∃ w,m.p.out k=[w]:=List.length_eq_one_iff.1 (zu q2);obtain⟨w0,w1⟩:=ho w (by rw[hw];exact List.mem_singleton.2 rfl)
  have hhd:(m.p.out k).headD 0=w:=by rw[hw]<;>rfl
  have hg0:(m.p.out k)[0]?=some w:=by rw[hw]<;>rfl
  have hl0:0<(m.p.out k).length:=by rw[hw];exact Nat.succ_pos _
  rw[hhd];have hsp:=λb c d e=>Zmh G hG m vs hm x.region w w0 w1 b c d e;generalize m.p.withinB w x.region=bb at hsp⊢
  repeat first
   |refine Z4 ?_
   |refine AW.block ?_
   |refine Ztc rfl ?_
   |refine Zbb rfl ?_
   |(refine AW.skip ?_;simp -implicitDefEqProofs only[go_sem,seval])
   |(refine AW.exit ?_;simp -implicitDefEqProofs only[go_sem,seval])
  refine Zw ⟨λi=>if i=15 then .bool bb else .top,λ_=>.pure⟩ zk hG zk zk ?_;refine Zsf (zi fi (zi fo (zi e1 (zi e2 (zi hg0 (zi hl0 @Zp)))))) ?_;refine⟨⟨by kernel_rfl,by refine Zs ?_;exact(hsp _ _ _ _).mono (by rintro _ _ rfl;rfl)⟩,?_⟩;simp only[Bool.not_true,Bool.false_or,Bool.true_and,Bool.and_true];exact Zr
 have hK:m.p.keep Zba Z2 3 k=(!(x.kind==2||x.kind==12)||(m.p.out k).length==0):=by
  show m.p.k3 k=_
  rw[PM.k3,hkd]
 rw[hK];have e2:(((m.p.out k).length:Int)==0)=((m.p.out k).length==0):=eqN _ 0;cases q:(x.kind==2);cases q1:(x.kind==12);exact Zq (zi q (zi q1 gi));simp only[Bool.not_true,Bool.false_or,Bool.or_true];exact Zq (zi q (zi q1 (zi gi (zi fo e2))));simp only[Bool.not_true,Bool.false_or,Bool.true_or];exact Zq (zi q (zi gi (zi fo e2)))
 have hK:m.p.keep Zba Z2 4 k=(!(x.kind==6)||((m.p.inc k).length==1&&decide (1<(m.p.out k).length)&&m.p.partU (m.p.out k))):=by
  show m.p.k4 k=_
  rw[PM.k4,hkd]
 rw[hK];cases q:(x.kind==6);exact Zq (zi q gi);have e1:(((m.p.inc k).length:Int)==1)=((m.p.inc k).length==1):=eqN _ 1;have e2:decide (((m.p.out k).length:Int)>=2)=decide (1<(m.p.out k).length):=decide_eq_decide.2 zo;simp only[Bool.not_true,Bool.false_or];cases q1:((m.p.inc k).length==1);rw[q1]at e1;exact Zq (zi q (zi gi (zi fi e1)));rw[q1]at e1;cases q2:decide (1<(m.p.out k).length);rw[q2]at e2;exact Zq (zi q (zi gi (zi fi (zi e1 (zi fo e2)))));rw[q2]at e2;refine Zf (zi q (zi gi (zi fi (zi e1 (zi fo e2))))) ?_;refine Zc hG ?_ (s:=Zil G hG _ _ _ _ _ m vs hm zo zo (Zl (m.p.out k)) (by rw[Zm];exact Z2n q2) (by rw[Zm];omega) (by rw[Zm];exact ho));exact Zr
 have hK:m.p.keep Zba Z2 5 k=(!(x.kind==7)||((m.p.out k).length==1&&decide (1<(m.p.inc k).length)&&((m.p.inc k).all λu=>m.p.kd u==1)&&m.p.partU (m.p.inc k))):=by
  show m.p.k5 k=_
  rw[PM.k5,hkd]
 rw[hK];cases q:(x.kind==7);exact Zq (zi q gi);simp only[Bool.not_true,Bool.false_or];refine Zf (zi q gi) ?_;refine Zc hG ?_ (s:=Zw9 G hG _ _ _ _ _ _ m vs hm hb (Zl (m.p.inc k)) (Zl (m.p.out k)) (by rw[Zm];omega) (by rw[Zm];exact hi));exact Zr
 have hK:m.p.keep Zba Z2 6 k=(!(x.kind==4||x.kind==5)||(decide (0<(m.p.inc k).length)&&decide (0<(m.p.out k).length)&&decide (m.p.elses k<=1))):=by
  show m.p.k6 k=_
  rw[PM.k6,hkd]
 rw[hK]
 have hgl:∀ t∈m.ways.l,t.guard.length<100000:=λt h=>by have:=ht.gu t h;omega
 have hsp:=λb c d e c1 c2=>Z3q G hG b c d e c1 c2 m vs zo hgl k (Zl (m.p.inc k)) (Zl (m.p.out k));rw[fi,fo]at hsp;cases q:(x.kind==4);cases q1:(x.kind==5);exact Zq (zi q (zi q1 gi));simp only[Bool.not_true,Bool.false_or,Bool.or_true];refine Zf (zi q (zi q1 gi)) ?_;refine Zc hG ?_ (s:=hsp _ _ _ _ _ _);exact Zr;simp only[Bool.not_true,Bool.false_or,Bool.true_or];refine Zf (zi q gi) ?_;refine Zc hG ?_ (s:=hsp _ _ _ _ _ _);exact Zr
 have hK:m.p.keep Zba Z2 7 k=(!(x.kind==8||x.kind==9)||(!((m.p.vx k).region==0)&&m.p.twins k==1&&decide ((m.p.out k).length<=1)&&((m.p.out k).length==0||m.p.withinB ((m.p.out k).headD 0) (m.p.vx k).region))):=by
  show m.p.k7 k=_
  rw[PM.k7,hkd]
 rw[hK];have hsp:=λb c d e c2 h=>Z8u G hG b c d e c2 m vs hm hb k hk h (Zl (m.p.out k)) (by rw[Zm];exact ho);rw[fo,hkd]at hsp;generalize(!((m.p.vx k).region==0)&&m.p.twins k==1&&decide ((m.p.out k).length<=1)&&((m.p.out k).length==0||m.p.withinB ((m.p.out k).headD 0) (m.p.vx k).region))=bb at hsp⊢;cases q:(x.kind==8);cases q1:(x.kind==9);exact Zq (zi q (zi q1 gi));simp only[Bool.not_true,Bool.false_or,Bool.or_true];refine Zf (zi q (zi q1 gi)) ?_;refine Zc hG ?_ (s:=hsp _ _ _ _ _ (.inr (zu q1)));exact Zr;simp only[Bool.not_true,Bool.false_or,Bool.true_or];refine Zf (zi q gi) ?_;refine Zc hG ?_ (s:=hsp _ _ _ _ _ (.inl (zu q)));exact Zr
 .have hK:m.p.keep Zba Z2 8 k=(if x.kind=11 then(m.p.out k).length==1 && !m.p.inB ((m.p.out k).headD 0) x.of else if x.kind=10 then Zye [] ((m.p.out k).map (m.p.regU · x.of))&&decide (0<(m.p.out k).length)else true):=by
   show m.p.k8 k=_
   rw[PM.k8,hkd,hx]<;>rfl
  rw[hK];rw[hx]at hpt
  by_cases hk10:x.kind=10
  have hof:0<=x.of:=by
   rcases hpt with h|h
   exact h.1;exact absurd (.inl hk10) h.2.2.2
  rw[if_neg zo,if_pos hk10];have q:(x.kind==10)=true:=zu hk10;have e1:decide (((m.p.out k).length:Int)>0)=decide (0<(m.p.out k).length):=decide_eq_decide.2 zo;cases q1:decide (0<(m.p.out k).length);rw[q1]at e1;simp only[Bool.and_false];exact Zq (zi q (zi gi (zi fo e1)));rw[q1]at e1;have hsp:=λb c d e c2=>Zd1 G hG b c d e c2 m vs hm zo (Zl (m.p.out k)) (by rw[Zm];omega) (by rw[Zm];exact ho) x.of hof;rw[fo]at hsp;rw[Bool.and_true];refine Zf (zi q (zi gi (zi fo e1))) ?_;refine Zc hG ?_ (s:=hsp _ _ _ _ _);exact Zr;have q:(x.kind==10)=false:=zu hk10
  by_cases hk11:x.kind=11
  rotate_left;rw[if_neg hk11,if_neg hk10];have q1:(x.kind==11)=false:=zu hk11;exact Zq (zi q (zi q1 gi));rw[if_pos hk11];have q1:(x.kind==11)=true:=zu hk11;have e2:(((m.p.out k).length:Int)==1)=((m.p.out k).length==1):=eqN _ 1;cases q2:((m.p.out k).length==1)
  .rw[q2]at e2
   refine Zf (zi q (zi q1 gi)) ?_
   repeat first
    |refine Z4 ?_
    |refine AW.block ?_
    |refine Ztc rfl ?_
    |refine Zbb rfl ?_
    |(refine AW.skip ?_;simp -implicitDefEqProofs only[go_sem,seval])
    |(refine AW.exit ?_;simp -implicitDefEqProofs only[go_sem,seval])
   refine Zw ⟨λi=>.top,λ_=>.pure⟩ zk hG zk zk ?_;refine Zsf (zi fo e2) ?_;exact Zr
  rw[q2]at e2;obtain⟨w,hw⟩:∃ w,m.p.out k=[w]:=List.length_eq_one_iff.1 (zu q2);obtain⟨w0,w1⟩:=ho w (by rw[hw];exact List.mem_singleton.2 rfl)
  have hhd:(m.p.out k).headD 0=w:=by rw[hw]<;>rfl
  have hg0:(m.p.out k)[0]?=some w:=by rw[hw]<;>rfl
  have hl0:0<(m.p.out k).length:=by rw[hw];exact Nat.succ_pos _
  rw[hhd,Bool.true_and];have hsp:=λb c d e=>Zpn G hG m vs hm x.of w w0 w1 b c d e;generalize m.p.inB w x.of=bb at hsp⊢;refine Zf (zi q (zi q1 gi)) ?_
  repeat first
   |refine Z4 ?_
   |refine AW.block ?_
   |refine Ztc rfl ?_
   |refine Zbb rfl ?_
   |(refine AW.skip ?_;simp -implicitDefEqProofs only[go_sem,seval])
   |(refine AW.exit ?_;simp -implicitDefEqProofs only[go_sem,seval])
  refine Zw ⟨λi=>if i=10 then .bool bb else .top,λ_=>.pure⟩ zk hG zk zk ?_;refine Zsf (zi fo (zi e2 (zi hg0 (zi hl0 @Zp)))) ?_;refine⟨⟨by kernel_rfl,by refine Zs ?_;exact(hsp _ _ _ _).mono (by rintro _ _ rfl;rfl)⟩,?_⟩;exact Zr
 have hK:m.p.keep Zba Z2 13 k=(!(x.kind==1)||(Zba vs.l m.events.l x.entry&&Zba vs.l m.events.l x.exit)):=by
  show m.p.k13 Zba k=_
  rw[PM.k13,hkd,hx,PM.body,PM.body,<- hvs]<;>rfl
 rw[hK];obtain⟨n1,n2⟩:=ht.en x (List.mem_of_getElem? hg);cases q:(x.kind==1);exact Zq (zi q gi);simp only[Bool.not_true,Bool.false_or];refine Zf (zi q gi) ?_;refine Zc hG ?_ (s:=Zsl G hG _ _ _ _ m vs x.entry n1 hsl zo);cases q1:Zba vs.l m.events.l x.entry;exact Zh q1;refine Zg (zi q1 gi) ?_;refine Zc hG ?_ (s:=Zsl G hG _ _ _ _ m vs x.exit n2 hsl zo);exact Zr
end Go.Hs
end

section
namespace Go.Hs
open Go.Proofs
set_option maxHeartbeats 1000000
set_option maxRecDepth 10000
theorem Z5v(G:Nat->V)(hG:GOk G)(c1:Col)(s:List UInt8)(names:Sl (List UInt8))(hs:s.length<100000)(hnl:names.l.length<1000000):
  Spec Tryz.prog G 210 [.str s,Zb c1 1 V.str names] Zk (λv _=>v=encRr .new (Zte s names.l)):=by
 refine Zo 0 55 [.tmp 4,.tmp 5,.tmp 6] Tryz.func210 λX=>?_
 have hP:Zte s names.l=if(Zja s).2.2=0/\(Zja s).1.length=0 then([tr1],0,0)
  else if(Zjd s).2.2≠0 then([],(Zjd s).2.1,(Zjd s).2.2)
  else if(Z4i names.l (Zjd s).1).2.2≠0\/(Z4i names.l (Zjd s).1).1≠2 then([],0,90)else((Zjd s).1,0,0):=rfl
 generalize Zte s names.l=res at hP⊢;have hl:=Zje G hG s hs;have hx:=Z1v G hG s hs;have hb:=Z1w hs;have ho:=λc c1=>Z3v G hG c c1 (Zl (Zjd s).1) names (by rw[Zm];omega) (by rw[Zm];exact hb.2) hnl;simp only[Zm]at ho;generalize Zja s=t at hP hl;generalize Zjd s=p at hP hx ho;obtain⟨l,at0,e0⟩:=t;obtain⟨ns,i,e⟩:=p;simp only at hP ho;generalize Z4i names.l ns=o at hP ho;obtain⟨k,j,e2⟩:=o;simp only at hP;refine Z1 ?_;refine Z1 ?_;refine Zn hG ?_ (s:=hl);refine Zsf (zi @encTok.eq_1 (zi @encTks.eq_1 @Zta)) ?_;refine Zda (fun(_:Unit)=>st [(0,.str s),(1,Zb c1 1 V.str names)] []) (λ_=>¬ (e0=0/\l.length=0)) (λK1 hK1=>?_) ?_
 .by_cases h01:e0=0
  rotate_left;have q1:(e0==0)=false:=zu h01;refine Z1f q1 ?_;refine Z0 ?_;exact hK1 _ () (λh=>h01 h.1) (Za zp zp);have q1:(e0==0)=true:=zu h01
  by_cases h02:l.length=0
  rw[if_pos ⟨h01,h02⟩]at hP
  have q2:(((l.length:Nat):Int)==0)=true:=by simp[h02]
  refine Z1f (zi q1 q2) ?_;refine Zi rfl (λh25=>?_) (λh25=>?_);refine Z1 ?_;intro g30;refine AW.weak (Zt (λo=>o==30) (l:=[(4,encXs .new [tr1]),(5,.int .i64 0),(6,.int .i64 0)]) (m:=[]) ?_ trivial) ?_;refine Zs ?_;exact⟨Z4c (f:=Zxa) (l:=[tr1]) (m:=6) (g:=g30) (fz:=0) (c:=.new) rfl zp Z9d,Fz.same _⟩;refine Z ?_
  rw[hP]<;>rfl
  cases h25
  have q2:(((l.length:Nat):Int)==0)=false:=by rw[beq_eq_false_iff_ne];omega
  refine Z1f (zi q1 q2) ?_;refine Z0 ?_;exact hK1 _ () (λh=>h02 h.2) (Za zp zp)
 rintro _ h0;rw[if_neg h0]at hP;refine Z1 ?_;refine Zn hG ?_ (s:=hx);refine Zsf (zi @encRr.eq_1 (zi @encXs.eq_1 @Zfa)) ?_;refine Z1 ?_
 by_cases he:e=0
 rotate_left;have q1:(e != 0)=true:=zu he;rw[if_pos he]at hP;rw[q1];refine Zi rfl (λh36=>?_) (λh36=>?_);refine Z ?_
 rw[hP]<;>rfl
 cases h36;have q1:(e != 0)=false:=zu he;rw[if_neg (zu he)]at hP;rw[q1];refine Z1 ?_;refine Znf @Zfa hG ?_ (s:=(ho _ _));refine Zsf @encO3.eq_1 ?_;refine Z4 ?_
 by_cases h2:e2=0
 rotate_left;have q2:(e2 != 0)=true:=zu h2;rw[if_pos (.inl h2)]at hP;refine Z1f q2 ?_;refine Zi rfl (λh52=>?_) (λh52=>?_);refine Z ?_
 rw[hP]<;>rfl
 cases h52;have q2:(e2 != 0)=false:=zu h2
 by_cases hk:k=2
 rotate_left;have q3:(k != 2)=true:=zu hk;rw[if_pos (.inr hk)]at hP;refine Z1f (zi q2 q3) ?_;refine Zi rfl (λh52=>?_) (λh52=>?_);refine Z ?_
 rw[hP]<;>rfl
 cases h52;have q3:(k != 2)=false:=zu hk;rw[if_neg (by rintro(h|h);exact h h2;exact h hk)]at hP;refine Zf (zi q2 q3) ?_
 rw[hP]<;>rfl
theorem Ziia{p q:List (List UInt8)}(h:∀ n,p.contains n=q.contains n)(n:XN)(ks:List Int):Zeg p n ks=Zeg q n ks:=by rw[Zeg,Zeg,h]
theorem Zsia{p q:List (List UInt8)}(h:∀ n,p.contains n=q.contains n):∀ (l:List XN) (i:Int) (acc:List Int),goN p l i acc=goN q l i acc
 |[],_,_=>rfl
 |n::r,i,acc=>by rw[goN,goN,Ziia h,Zsia h r]
theorem Z6ba{p q:List (List UInt8)}(h:∀ n,p.contains n=q.contains n)(s:List UInt8):Zte s p=Zte s q:=by
 have k:∀ l,Ztb p l=Ztb q l:=λl=>by rw[Ztb,Ztb,Zsia h]
 have o:∀ l,Z4i p l=Z4i q l:=λl=>by rw[Z4i,Z4i,k]
 rw[Zte,Zte,o]
theorem Zvha(l:List (List UInt8))(n:List UInt8):(Zjh::l).contains n=(l++[Zjh]).contains n:=by
 rw[Bool.eq_iff_iff,List.contains_iff_mem,List.contains_iff_mem,List.mem_append,List.mem_cons,List.mem_singleton,or_comm]
def gdK(names:List (List UInt8))(s:List UInt8)(kind:Int):Bool:=
 ((kind==4||kind==5)&&Zoe s)||(Z2 names s==0&&((Zja s).1.length==0||kind==1||kind==4||kind==5))
theorem Z61(G:Nat->V)(hG:GOk G)(b c d e:Col)(m:MdM)(vs:Sl (List UInt8))(hvl:vs.l.length<100000)(s:List UInt8)(hs:s.length<100000)(kind:Int):
  Spec Tryz.prog G 141 [wdV b c d e m vs,.str s,.int .u8 kind] Zk (λw _=>w=.bool (gdK (vs.l++[Zjh]) s kind)):=by
 refine Zo 0 60 [.tmp 6] Tryz.func141 λX=>?_;rw[gdK,Z2,<- Z6ba (Zvha vs.l) s];generalize hfr:(kind==4||kind==5)=fr;refine Z1 ?_;refine Zda (fun(_:Unit)=>st [(0,wdV b c d e m vs),(1,.str s),(2,.int .u8 kind),(6,.bool false),(7,.bool fr)] []) (λ_=>True) (λK1 hK1=>?_) ?_;cases q4:(kind==4);rw[q4,Bool.false_or]at hfr;refine Zf q4 ?_;exact hK1 _ () trivial (Za (zpf hfr) zp);rw[q4,Bool.true_or]at hfr;subst hfr;refine Zf q4 ?_;exact hK1 _ () trivial (Za zp zp);intro _ _;refine Zda (fun(_:Unit)=>st [(0,wdV b c d e m vs),(1,.str s),(2,.int .u8 kind),(6,.bool false),(7,.bool fr)] []) (λ_=>(fr&&Zoe s)=false) (λK1 hK1=>?_) ?_;cases fr;refine Z ?_;exact hK1 _ () rfl (Za zp zp);refine Z ?_;refine Zc hG ?_ (s:=Z3r G hG s hs);cases q:Zoe s;refine Zg q ?_;exact hK1 _ () (by rw[q]<;>rfl) (Za zp zp);exact Zh q;intro _ hz;rw[hz,Bool.false_or];refine Z ?_;intro g26;refine Zf Zjb ?_;refine⟨Z5 zo zo,λg2=>?_⟩
 have e1:1+vs.l.length=(Zjh::vs.l).length:=by rw[List.length_cons];omega
 rw[e1];have hgs:Spec Tryz.prog G 210 [.str s,Zb .old 1 V.str (.mk false (Zjh::vs.l))] Zk (λv _=>v=encRr .new (Zte s (Zjh::vs.l))):=Z5v G hG .old s (.mk false (Zjh::vs.l)) hs (by show vs.l.length+1<_;omega);refine AW.weak (Zt (λo=>o==26) (l:=[(1,.str s),(2,.int .u8 kind),(7,.bool fr),(8,Zb .new 1 V.str (.mk false (Zjh::vs.l)))]) (m:=[]) ?_ trivial) ?_;refine Zs ?_;exact⟨Fz.same _,Fz.same _,Fz.same _,Z4c (f:=V.str) (l:=Zjh::vs.l) (m:=1) (g:=g2) (fz:=0) (c:=.new) rfl zp (λ_=>rfl)⟩;generalize Zte s (Zjh::vs.l)=p at hgs⊢;obtain⟨pl,pa,pe⟩:=p;have hts:=Zje G hG s hs;generalize Zja s=t at hts⊢;obtain⟨tl,ta,te⟩:=t;simp only[encTok,encTks]at hts;simp only[encRr,encXs]at hgs;refine Z ?_;refine Zn hG ?_ (s:=hgs);refine Zs ?_;refine Z ?_;refine Zn hG ?_ (s:=hts);refine Zs ?_;have f := @Zm Tk tl;have e2:((tl.length:Int)==0)=(tl.length==0):=eqN _ 0
 show AW _ _ _ (Zln _ _ λw _=>w=.bool (pe==0&&(tl.length==0||kind==1||kind==4||kind==5))) _
 rw[Bool.or_assoc (tl.length==0||kind==1),hfr];cases q1:(pe==0);exact Zq q1;cases fr;rw[Bool.or_false];cases q2:(kind==1);rw[Bool.or_false];exact Zq (zi q1 (zi q2 (zi f e2)));rw[Bool.or_true];exact Zq (zi q1 (zi q2 (zi f e2)));rw[Bool.or_true];exact Zq (zi q1 (zi f e2))
end Go.Hs
end

section
namespace Go.Hs
open Go.Proofs
set_option maxRecDepth 10000
set_option maxHeartbeats 4000000
theorem wdIm(b c d e:Col)(m:MdM)(vs:Sl (List UInt8)):(wdV b c d e m vs).Im:=.view _ _ λy hy=>by
 simp only[Zeja,V.cells,List.mem_cons,List.not_mem_nil,or_false]at hy
 rcases hy with rfl|rfl|rfl|rfl|rfl|rfl|rfl
 exact .str _;exact Z3c vrIm _;exact Z3c stIm _;exact Z3c vrIm _;exact Z3c (vtIm d) _;exact Z3c (trIm d) _;exact Z3c stIm _
theorem Zrfa(G:Nat->V)(hG:GOk G)(b c d e:Col)(m:MdM)(vs:Sl (List UInt8))(hm:m.p.Rt)(hb:MdB m)(ht:MdT m)(hvs:vs.l=m.p.vn)(r:Nat)(hr:r=9\/r=10\/r=11\/r=12\/r=14\/r=15)(t:Int)(h0:0<=t)(h1:t<m.p.ways.length):
  Spec Tryz.prog G 74 [wdV b c d e m vs,.int .i64 r,.int .i64 t] Zk (λw _=>w=.bool (m.p.keep Zba Z2 r t)):=by
 refine Zo 0 141 [.tmp 6] Tryz.func74 λX=>?_;have b0:=hb.nv;have b1:=hb.nr;have b2:=hb.nx;have b4:=hb.ne
 have hvl:m.p.vn.length<=600:=by
  show(m.vars.l.map _).length<=_
  rw[List.length_map];exact b0
 have hsl:vs.l.length<100000:=by rw[hvs];omega
 obtain⟨k,x,rfl,hk,hg,hxe⟩:=Zxd h0 h1;obtain⟨⟨s0,s1⟩,t0,t1⟩:=hm.wayAt x.p (List.mem_of_getElem? (i:=k) (by show(m.ways.l.map TrM.p)[k]?=_;rw[List.getElem?_map,hg]<;>rfl));have s0:0<=x.source:=s0;have s1:x.source<m.p.vertices.length:=s1;have t0:0<=x.target:=t0;have t1:x.target<m.p.vertices.length:=t1;obtain⟨ks,xs,hks,hksl,hgs,hxs⟩:=MdM.at s0 s1;obtain⟨kt,xt,hkt,hktl,hgt,hxt⟩:=MdM.at t0 t1
 have hkd:m.p.kd x.source=xs.kind:=by rw[PM.kd,hxs]<;>rfl
 have hkx:m.p.kd x.target=xt.kind:=by rw[PM.kd,hxt]<;>rfl
 have hsI:=λs b c d e=>Zpn G hG m vs hm s x.source s0 s1 b c d e;have hsJ:=λs b c d e=>Zpn G hG m vs hm s x.target t0 t1 b c d e;refine Zf (zi hg (zi Z7 (zi Zjb (zi hk (zi @Int.natCast_nonneg @Int.ofNat_lt))))) ?_;intro g7;refine AW.weak (Zt (λo=>o==7) (l:=[(0,wdV b c d e m vs),(1,.int .i64 r),(6,.bool false),(7,.view .new (Zqa d x))]) (m:=[]) ?_ trivial) ?_;refine Zsf @Zjb ?_;exact⟨Fz.same _,Fz.same _,Fz.same _,Fz.ptr (v:=Zqa d x) (c:=.new) (fz:=0) zp zp⟩;refine Z4 ?_;refine Zw ⟨λ_=>.top,λi=>if i=4 then .lend else if i=6 then .lend else if i=8 then .lend else if i=13 then .lend else if i=15 then .lend else if i=17 then .lend else .pure⟩ zk hG zk zk ?_;refine Zsf (zi hks (zi hkt (zi hgs (zi hgt (zi hksl (zi hktl (zi @Z7 (zi @Zp (zi @Zjb (zi @Int.natCast_nonneg @Int.ofNat_lt)))))))))) ?_;intro g8 g9;refine AW.weak (Zt (λo=>o==8||o==9) (l:=[(0,wdV b c d e m vs),(1,.int .i64 r),(6,.bool false),(7,.view .new (Zqa d x)),(8,.view .new (Zha d xs)),(9,.view .new (Zha d xt))]) (m:=[]) ?_ trivial) ?_;refine Zsf (zi @Zjb @Z7) ?_;rw[<- hks,<- hkt];exact⟨Fz.same _,Fz.same _,Fz.same _,Fz.same _,Fz.ptr (v:=Zha d xs) (c:=.new) (fz:=0) zp zp,Fz.ptr (v:=Zha d xt) (c:=.new) (fz:=0) zp zp⟩
 try clear hks hkt
 have gt:=Z7;have gv:=Zp;refine Z1f gv ?_
 rcases hr with rfl|rfl|rfl|rfl|rfl|rfl
 .have hK:m.p.keep Zba Z2 9 k=((x.triggers.l.length==0&&x.after==0)||xs.kind==1):=by
   show m.p.k9 k=_
   rw[PM.k9,hxe,<- hkd]<;>rfl
  rw[hK];have e1:((x.triggers.l.length:Int)==0)=(x.triggers.l.length==0):=eqN _ 0;cases q:(xs.kind==1);rotate_left;rw[Bool.or_true];exact Zq q;rw[Bool.or_false];cases q1:(x.triggers.l.length==0);rw[q1]at e1;exact Zq (zi q (zi e1 gt));rw[q1]at e1;exact Zq (zi q (zi e1 gt))
 have hK:m.p.keep Zba Z2 10 k=gdK (vs.l++[Zjh]) x.guard xs.kind:=by
  show m.p.k10 Z2 k=_
  rw[PM.k10,hxe,gdK,hvs,<- hkd]<;>rfl
 rw[hK];have hgl:=ht.gu x (List.mem_of_getElem? hg);refine Zf (zi gt gv) ?_;refine Zc hG ?_ (s:=Z61 G hG _ _ _ _ m vs hsl x.guard zo xs.kind);exact Zr
 .have hway:=hm.way k (by rw[m.nw];exact hk)
  rw[hxe]at hway;simp only[PM.wayB,Bool.and_eq_true,decide_eq_true_eq]at hway;have k1:1<=x.kind:=hway.1.1.1.2;have k3:x.kind<=3:=hway.1.1.2
  have hK:m.p.keep Zba Z2 11 k=(if x.kind=3 then x.source==x.target&&xs.kind==1 else if x.kind=2 then xs.kind==1&&m.p.inB x.target x.source else true):=by
   show m.p.k11 k=_
   rw[PM.k11,hxe,<- hkd]<;>rfl
  rw[hK]
  by_cases h3:x.kind=3
  rw[if_pos h3];have q3:(x.kind==3)=true:=zu h3;cases q:(xs.kind==1);rw[Bool.and_false];exact Zq (zi q (zi q3 gt));rw[Bool.and_true];exact Zq (zi q (zi q3 gt));rw[if_neg h3];have q3:(x.kind==3)=false:=zu h3
  by_cases h2:x.kind=2
  rotate_left;rw[if_neg h2]
  have q1:(x.kind==1)=true:=by
   have:x.kind=1:=zo;simpa using this
  exact Zq (zi q3 (zi q1 gt));rw[if_pos h2]
  have q1:(x.kind==1)=false:=by
   have:¬ x.kind=1:=zo;simpa using this
  cases q:(xs.kind==1);exact Zq (zi q3 (zi q1 (zi q gt)));rw[Bool.true_and];refine Zf (zi q3 (zi q1 (zi q gt))) ?_;refine Zc hG ?_ (s:=hsJ x.source _ _ _ _);exact Zr
 have hK:m.p.keep Zba Z2 12 k=Zba vs.l m.events.l x.effect:=by
  show m.p.k12 Zba k=_
  rw[PM.k12,hxe,PM.body,<- hvs]<;>rfl
 rw[hK];refine Zf gt ?_;refine Zc hG ?_ (s:=Zsl G hG _ _ _ _ m vs x.effect (ht.ef x (List.mem_of_getElem? hg)) hsl zo);exact Zr
 have hK:m.p.keep Zba Z2 14 k = !m.p.partU [x.source,x.target]:=by
  show m.p.k14 k=_
  rw[PM.k14,hxe]<;>rfl
 rw[hK];refine Zf gt ?_;intro g103;refine Zs ?_;refine Zua hG [wdV b.ent c.ent d.ent e.ent m vs,Zb .old 1 (V.int .i64) (.mk false [x.source,x.target])] zk ⟨Z0a (wdIm b c d e m vs) (Zwga _ _ _ _ _ _ _),Rd.i64 (l:=[x.source,x.target]) zp rfl,trivial⟩ ?_;refine(Zil G hG _ _ _ _ .old m vs hm zo zo (.mk false [x.source,x.target]) (by intro h;cases h) (by show 2<1000000;decide) (λv hv=>?_)).mono ?_;have hv:v∈[x.source,x.target]:=hv;simp only[List.mem_cons,List.not_mem_nil,or_false]at hv
 rcases hv with rfl|rfl
 exact⟨s0,s1⟩;exact⟨t0,t1⟩;rintro _ _ rfl;refine⟨.bool _,?_⟩;refine Zs ?_;exact Zr
 .have hK:m.p.keep Zba Z2 15 k=(if xt.kind=10 then !(x.source==xt.of) && !m.p.inB x.source xt.of else if xt.kind=11 then m.p.inB x.source xt.of && !(xs.of==xt.of)else true):=by
   show m.p.k15 k=_
   rw[PM.k15,hxe]
   show(if m.p.kd x.target=10 then !(x.source==(m.p.vx x.target).of) && !m.p.inB x.source (m.p.vx x.target).of else if m.p.kd x.target=11 then m.p.inB x.source (m.p.vx x.target).of && !((m.p.vx x.source).of==(m.p.vx x.target).of)else true)=_
   rw[hkx,hxt,hxs]<;>rfl
  rw[hK]
  by_cases h10:xt.kind=10
  .rw[if_pos h10]
   have q:(xt.kind==10)=true:=zu h10;cases q1:(x.source==xt.of);rotate_left
   have q2:(x.source != xt.of)=false:=by rw[bne,q1]<;>rfl
   exact Zq (zi q (zi q2 (zi gt gv)))
   have q2:(x.source != xt.of)=true:=by rw[bne,q1]<;>rfl
   refine Zf (zi q (zi q2 (zi gt gv))) ?_;refine Zc hG ?_ (s:=hsI xt.of _ _ _ _);exact Zr
  rw[if_neg h10];have q:(xt.kind==10)=false:=zu h10
  by_cases h11:xt.kind=11
  rotate_left;rw[if_neg h11];have q1:(xt.kind != 11)=true:=zu h11;exact Zq (zi q (zi q1 (zi gt gv)));rw[if_pos h11]
  have q1:(xt.kind != 11)=false:=by simp[h11]
  have hsp:=hsI xt.of;generalize m.p.inB x.source xt.of=bb at hsp⊢;refine Zf (zi q (zi q1 (zi gt gv))) ?_;refine Zc hG ?_ (s:=hsp _ _ _ _);cases bb;exact Zr;rw[Bool.true_and];exact Zq (zi gt gv)
end Go.Hs
end

section
namespace Go.Hs
open Go.Proofs
set_option maxHeartbeats 1000000
set_option maxRecDepth 10000
theorem Z7u(G:Nat->V)(hG:GOk G)(b c d e:Col)(m:MdM)(vs:Sl (List UInt8))(hl:m.verts.l.length<1000000)(r:Int):
  Spec Tryz.prog G 72 [wdV b c d e m vs,.int .i64 r] Zk (λw _=>w=.bool (m.p.k1 r)):=by
 refine Zo 0 44 [.tmp 4] Tryz.func72 λX=>?_
 have hP:m.p.k1 r=((m.verts.l.filter λx=>x.kind==3&&x.region==r).length==1):=by
  show(((m.verts.l.map VtM.p).filter _).length==1)=_
  rw[List.filter_map,List.length_map]<;>rfl
 rw[hP];refine Z ?_
 refine Z9 m.verts.l.length (λk (_:Unit)=>st [(0,wdV b c d e m vs),(1,.int .i64 r),(5,.int .i64 ((m.verts.l.take k).filter λx=>x.kind==3&&x.region==r).length),(6,.int .i64 k)] [])
  (λ_ _=>True) 0 () (Nat.zero_le _) trivial (Za zp zp) ?_
 intro k _ hk _ L3 hL3
 by_cases hk1:k<m.verts.l.length
 have hlt:decide ((k:Int)<(m.verts.l.length:Int))=true:=zT;have hg:=List.getElem?_eq_getElem hk1
 have htk:m.verts.l.take (k+1)=m.verts.l.take k++[m.verts.l[k]]:=by rw[List.take_succ_eq_append_getElem hk1]
 have hn:((m.verts.l.take k).filter λx=>x.kind==3&&x.region==r).length<=k:=Nat.le_trans (List.length_filter_le _ _) (by rw[List.length_take];omega);generalize m.verts.l[k]=x at hg htk;rw[htk,List.filter_append,List.length_append,List.filter_cons]at hL3;generalize((m.verts.l.take k).filter λx=>x.kind==3&&x.region==r).length=n at hn hL3;have w1:IntKind.i64.wrap ((k:Int)+1)=(k:Int)+1:=w64 zo zo;have w2:IntKind.i64.wrap ((n:Int)+1)=(n:Int)+1:=w64 zo zo;refine Z1f (zi hlt Zjb) ?_;have f:=zi hg (zi hk1 (zi Zp (zi Zjb (zi @Int.natCast_nonneg @Int.ofNat_lt))));cases q1:(x.kind==3);rw[q1,Bool.false_and,if_neg zd]at hL3;simp only[List.filter_nil,List.length_nil,Nat.add_zero]at hL3;refine Zf (zi q1 (zi w1 f)) ?_;exact hL3 _ ⟨hk1,(),trivial,Za (zpf Zjb) zp⟩;cases q2:(x.region==r);rw[q1,q2,if_neg zd]at hL3;simp only[List.filter_nil,List.length_nil,Nat.add_zero]at hL3;refine Zf (zi q1 (zi q2 (zi w1 f))) ?_;exact hL3 _ ⟨hk1,(),trivial,Za (zpf Zjb) zp⟩;rw[q1,q2,Bool.true_and,if_pos rfl]at hL3;simp only[List.filter_nil,List.length_nil,List.length_cons,Nat.zero_add]at hL3;refine Zf (zi q1 (zi q2 (zi w1 (zi w2 f)))) ?_;exact hL3 _ ⟨hk1,(),trivial,Za (by simp -implicitDefEqProofs only[go_sem,seval,Zjb];exact⟨rfl,rfl⟩) zp⟩;have hke:k=m.verts.l.length:=zo;subst hke;rw[List.take_length];have hlt:decide ((m.verts.l.length:Int)<(m.verts.l.length:Int))=false:=zS;generalize(m.verts.l.filter λx=>x.kind==3&&x.region==r).length=n;rw[<- show((n:Int)==1)=(n==1)from eqN _ 1];exact Zq (zi hlt Zjb)
theorem Znh(G:Nat->V)(b c d e:Col)(m:MdM)(vs:Sl (List UInt8))(k:Nat):
  Spec Tryz.prog G 42 [wdV b c d e m vs,.int .i64 k] Zk (λw _=>w=.int .i64 (m.p.places k)):=by
 refine Zo 0 33 [.tmp 4] Tryz.func42 λX=>?_;rw[PM.places,m.nv,m.nw];have f:=Zjb
 by_cases h1:k=1
 rw[if_pos h1]
 have q:((k:Int)==1)=true:=by simp[h1]
 exact Zq (zi q f);rw[if_neg h1];have q:((k:Int)==1)=false:=(eqN k 1).trans (zu h1)
 by_cases h2:k<=8
 rw[if_pos (.inl h2)];have q2:decide ((k:Int)<=8)=true:=zT;exact Zq (zi q (zi q2 f));have q2:decide ((k:Int)<=8)=false:=zF
 by_cases h3:k=13
 rw[if_pos (.inr h3)]
 have q3:((k:Int)==13)=true:=by simp[h3]
 exact Zq (zi q (zi q2 (zi q3 f)));rw[if_neg (λh=>h.elim h2 h3)];have q3:((k:Int)==13)=false:=(eqN k 13).trans (zu h3);exact Zq (zi q (zi q2 (zi q3 f)))
theorem Zho(G:Nat->V)(hG:GOk G)(b c d e:Col)(m:MdM)(vs:Sl (List UInt8))(hb:MdB m)(hm:m.p.Rt)(ht:MdT m)(hvs:vs.l=m.p.vn)(k:Nat)(h1:1<=k)(h2:k<=15)(t:Int)(t0:0<=t)(t1:t<m.p.places k):
  Spec Tryz.prog G 43 [wdV b c d e m vs,.int .i64 k,.int .i64 t] Zk (λw _=>w=.bool (m.p.keep Zba Z2 k t)):=by
 refine Zo 0 28 [.tmp 6] Tryz.func43 λX=>?_;have b2:=hb.nx
 by_cases k1:k=1
 subst k1;refine Z ?_;refine Zc hG ?_ (s:=Z7u G hG _ _ _ _ m vs zo t);exact Zr;have q:((k:Int)==1)=false:=(eqN k 1).trans (zu k1)
 by_cases k8:k<=8
 have q2:decide ((k:Int)<=8)=true:=zT
 have hp:m.p.places k=m.p.vertices.length:=by rw[PM.places,if_neg k1,if_pos (.inl k8)]
 rw[hp]at t1;refine Zf (zi q q2) ?_;refine Zc hG ?_ (s:=Zom G hG _ _ _ _ m vs hm hb ht hvs k zo t t0 t1);exact Zr;have q2:decide ((k:Int)<=8)=false:=zF
 by_cases k13:k=13
 have q3:((k:Int)==13)=true:=by simp[k13]
 have hp:m.p.places k=m.p.vertices.length:=by rw[PM.places,if_neg k1,if_pos (.inr k13)]
 rw[hp]at t1;refine Zf (zi q (zi q2 q3)) ?_;refine Zc hG ?_ (s:=Zom G hG _ _ _ _ m vs hm hb ht hvs k zo t t0 t1);exact Zr;have q3:((k:Int)==13)=false:=(eqN k 13).trans (zu k13)
 have hp:m.p.places k=m.p.ways.length:=by rw[PM.places,if_neg k1,if_neg (λh=>h.elim k8 k13)]
 rw[hp]at t1;refine Zf (zi q (zi q2 q3)) ?_;refine Zc hG ?_ (s:=Zrfa G hG _ _ _ _ m vs hm hb ht hvs k zo t t0 t1);exact Zr
theorem Z71(G:Nat->V)(hG:GOk G)(c d:Col)(m:MdM)(hb:MdB m)(ht:m.p.Rt->MdT m):
  Spec Tryz.prog G 13 [Zx c d m] Zk (λw _=>w=.tuple [Zb .new 2 Zub (Zl (m.p.checkW Zba Z2).1),.int .i64 (m.p.checkW Zba Z2).2]):=by
 refine Zo 0 46 [.tmp 2,.tmp 3] Tryz.func13 λX=>?_;rw[PM.checkW];simp only[Zd];refine Z ?_;intro g3;refine AW.weak (Zt (λo=>o==1) (l:=[(1,.view .new (Zx c d m))]) (m:=[]) ?_ trivial) ?_;refine Zs ?_;exact Fz.ptr (v:=Zx c d m) (c:=.new) (fz:=0) zp zp;refine Zf Zd ?_;refine Zn hG ?_ (s:=Znj G hG c.ent d.ent m hb);have hr:=PM.right_er (m:=m.p);have hrt:=λh=>PM.rt_of (m:=m.p) h;generalize m.p.rightP=rp at hr hrt;refine Zs ?_
 by_cases h:rp.2.2=0
 rotate_left;rw[if_pos h];have q:(rp.2.2 != 0)=true:=zu h;exact Zq q;rw[if_neg (λk=>k h)]
 have q:(rp.2.2 != 0)=false:=by simp[h]
 have hm:m.p.Rt:=hrt (hr.1 h);have hT:=ht hm;refine Zf (zi q Zd) ?_;refine Zc hG ?_ (s:=Zjl G hG c.ent d.ent m hb.nv);refine Z ?_;have b1:=hb.nr;have b2:=hb.nx;have b3:=hb.nw
 have hpl:∀ k,m.p.places k<=1800:=λk=>by
  have:=m.p.places_le k;have e1:m.p.regions.length=m.regions.l.length:=rfl;have e2:=m.nv;have e3:=m.nw;omega
 refine Z9 16 (λr (g:Nat)=>st [(7,wdV .new c.ent.bk d.ent.bk .new m (Zl m.p.vn)),(8,grown 44 g 2 (m.p.badL Zba Z2 (r-1))),(9,.int .i64 r)] [(44,Zza g Zub (m.p.badL Zba Z2 (r-1)))])
  (λr _=>1<=r/\(m.p.badL Zba Z2 (r-1)).length<=1800*r) 1 0 zd ⟨Nat.le_refl _,Nat.zero_le _⟩ (Za zp zp) ?_
 rintro r g hr1 ⟨hr0,hR⟩ L3 hL3
 by_cases hr2:r<16
 rotate_left;obtain rfl:r=16:=zo;have e15:m.p.badL Zba Z2 (16-1)=m.p.badL Zba Z2 15:=rfl;rw[e15];generalize m.p.badL Zba Z2 15=acc;refine AW.weak (Zt (λo=>o==44) (l:=[(8,Zb .new 2 Zub (Zl acc)),(9,.int .i64 (16:Nat))]) (m:=[]) ?_ trivial) ?_;refine Zs ?_;exact⟨Z3a (l:=acc) (g:=g) (f:=Zub) rfl zp Z4t,Fz.same _⟩;exact Zr;have hlt:decide ((r:Int)<=15)=true:=zT;have w1:IntKind.i64.wrap ((r:Int)+1)=(r:Int)+1:=w64 zo zo;have hwr:IntKind.u8.wrap (r:Int)=(r:Int):=wu8R zo zo;refine Zf hlt ?_;have hbl:∀ a,(m.p.badAt Zba Z2 r a).length<=a:=λa=>PM.badAt_len r a
 have hnx:(m.p.badL Zba Z2 (r-1))++m.p.badAt Zba Z2 r (m.p.places r)=m.p.badL Zba Z2 (r+1-1):=by
  obtain⟨r,rfl⟩:∃ r',r=r'+1:=⟨r-1,zo⟩;rw[Nat.add_sub_cancel,Nat.add_sub_cancel,PM.badL_succ]
 have hba:∀ a,m.p.badAt Zba Z2 r (a+1)=m.p.badAt Zba Z2 r a++(if m.p.keep Zba Z2 r (a:Int)=true then[]else[(r,(a:Int))]):=λa=>PM.badAt_succ r a;have hks:=λb c d e vs (h:vs.l=m.p.vn)=>Zho G hG b c d e m vs hb hm hT h r hr0 zo;have hpr:=hpl r;generalize m.p.badL Zba Z2 (r-1)=acc at hR hnx
 refine Z9 (m.p.places r) (λa (g:Nat)=>st [(7,wdV .new c.ent.bk d.ent.bk .new m (Zl m.p.vn)),(8,grown 44 g 2 (acc++m.p.badAt Zba Z2 r a)),(9,.int .i64 r),(10,.int .i64 a)] [(44,Zza g Zub (acc++m.p.badAt Zba Z2 r a))])
  (λa _=>True) 0 g (Nat.zero_le _) trivial (Za ?_ ?_) ?_
 rw[show acc++m.p.badAt Zba Z2 r 0=acc from List.append_nil _];exact zp;rw[show acc++m.p.badAt Zba Z2 r 0=acc from List.append_nil _];exact zp;intro a g ha _ L7 hL7
 by_cases ha1:a<m.p.places r
 rotate_left;have hae:a=m.p.places r:=zo;have q1:decide ((a:Int)<(m.p.places r:Int))=false:=zF;have hbp:=hbl (m.p.places r);rw[hae]at q1;rw[hae,hnx];refine Z ?_;refine Zc hG ?_ (s:=Znh G _ _ _ _ m _ r);refine Zg (zi q1 w1) ?_;refine hL3 _ ⟨hr2,g,⟨zo,?_⟩,Za zp zp⟩;rw[<- hnx,List.length_append];omega;have q1:decide ((a:Int)<(m.p.places r:Int))=true:=zT;have w2:IntKind.i64.wrap ((a:Int)+1)=(a:Int)+1:=w64 zo zo;rw[hba a]at hL7;have hal:=hbl a;generalize m.p.badAt Zba Z2 r a=bl at hL7 hal⊢;refine Z ?_;refine Zc hG ?_ (s:=Znh G _ _ _ _ m _ r);refine Zg q1 ?_;have hsp:=λb c d e=>hks b c d e (Zl m.p.vn) (Zm _) a (Int.natCast_nonneg a) zo;refine Zc hG ?_ (s:=hsp _ _ _ _);cases hk:m.p.keep Zba Z2 r (a:Int);rw[hk,if_neg zd,<- List.append_assoc]at hL7;refine Zf (zi hk hwr) ?_;intro g43;refine Zna (f:=Zub) (l:=acc++bl) (l2:=[(r,(a:Int))]) (g:=g) Z4t rfl rfl rfl zp (Z5 zo (by simp only[List.length_append,List.length_cons,List.length_nil];omega)) λg2=>?_;refine Zs ?_;refine Zf w2 ?_;exact hL7 _ ⟨ha1,g2,trivial,Za zp zp⟩;rw[hk,if_pos rfl,List.append_nil]at hL7;refine Zf (zi hk w2) ?_;exact hL7 _ ⟨ha1,g,trivial,Za zp zp⟩
theorem Zxaa(G:Nat->V)(hG:GOk G)(c d:Col)(m:MdM)(hb:MdB m)(ht:m.p.Rt->MdT m)(rule at_:Int)(hr0:0<=rule)(hr1:rule<256):
  Spec Tryz.prog G 54 [Zx c d m,.int .u8 rule,.int .i64 at_] Zk (λw _=>w=.bool (m.p.ruleW Zba Z2 rule at_)):=by
 refine Zo 0 46 [.tmp 6] Tryz.func54 λX=>?_;rw[PM.ruleW];simp only[Zd];refine Z ?_;intro g3;refine AW.weak (Zt (λo=>o==3) (l:=[(1,.int .u8 rule),(2,.int .i64 at_),(3,.view .new (Zx c d m))]) (m:=[]) ?_ trivial) ?_;refine Zs ?_;exact⟨Fz.same _,Fz.same _,Fz.ptr (v:=Zx c d m) (c:=.new) (fz:=0) zp zp⟩;refine Zf Zd ?_;refine Zn hG ?_ (s:=Znj G hG c.ent d.ent m hb);have hr:=PM.right_er (m:=m.p);have hrt:=λh=>PM.rt_of (m:=m.p) h;generalize m.p.rightP=rp at hr hrt;refine Zs ?_
 by_cases h:rp.2.2=0
 rotate_left;rw[decide_eq_false h];simp only[Bool.false_and];have q:(rp.2.2 != 0)=true:=zu h;exact Zq q;rw[decide_eq_true h,Bool.true_and]
 have q:(rp.2.2 != 0)=false:=by simp[h]
 have hm:m.p.Rt:=hrt (hr.1 h);have hT:=ht hm
 by_cases h1:1<=rule
 rotate_left;rw[decide_eq_false h1];simp only[Bool.false_and];have f1:decide (rule<1)=true:=zT;exact Zq (zi q f1);rw[decide_eq_true h1,Bool.true_and];have f1:decide (rule<1)=false:=zF
 by_cases h2:rule<=15
 rotate_left;rw[decide_eq_false h2];simp only[Bool.false_and];have f2:decide (rule>15)=true:=zT;exact Zq (zi q (zi f1 f2));rw[decide_eq_true h2,Bool.true_and];have f2:decide (rule>15)=false:=zF
 by_cases h3:0<=at_
 rotate_left;rw[decide_eq_false h3];simp only[Bool.false_and];have f3:decide (at_<0)=true:=zT;exact Zq (zi q (zi f1 (zi f2 f3)));rw[decide_eq_true h3,Bool.true_and];have f3:decide (at_<0)=false:=zF;obtain⟨k,rfl⟩:∃ k:Nat,rule=(k:Int):=⟨rule.toNat,zo⟩;have w1:IntKind.i64.wrap (k:Int)=(k:Int):=w64 zo zo;rw[Int.toNat_natCast];refine Zf (zi q (zi f1 (zi f2 (zi f3 Zd)))) ?_;refine Zc hG ?_ (s:=Zjl G hG c.ent d.ent m hb.nv);refine Zf w1 ?_;refine Zc hG ?_ (s:=Znh G _ _ _ _ m _ k);cases h4:decide (at_<(m.p.places k:Int));exact Zh h4;rw[Bool.true_and];refine Zg (zi h4 w1) ?_;have hsp:=λb c d e=>Zho G hG b c d e m (Zl m.p.vn) hb hm hT (Zm _) k zo zo at_ h3 (of_decide_eq_true h4);refine Zc hG ?_ (s:=hsp _ _ _ _);exact Zr
theorem Zzma(G:Nat->V)(hG:GOk G)(c d:Col)(m:MdM)(hb:MdB m)(v s:Int):
  Spec Tryz.prog G 55 [Zx c d m,.int .i64 v,.int .i64 s] Zk (λw _=>w=.bool (m.p.inW v s)):=by
 refine Zo 0 48 [.tmp 6] Tryz.func55 λX=>?_;rw[PM.inW];simp only[Zd];refine Z ?_;intro g3;refine AW.weak (Zt (λo=>o==3) (l:=[(1,.int .i64 v),(2,.int .i64 s),(3,.view .new (Zx c d m))]) (m:=[]) ?_ trivial) ?_;refine Zs ?_;exact⟨Fz.same _,Fz.same _,Fz.ptr (v:=Zx c d m) (c:=.new) (fz:=0) zp zp⟩;refine Zf Zd ?_;refine Zn hG ?_ (s:=Znj G hG c.ent d.ent m hb);have hr:=PM.right_er (m:=m.p);have hrt:=λh=>PM.rt_of (m:=m.p) h;generalize m.p.rightP=rp at hr hrt;refine Zs ?_
 have hV:∀ v:Int,m.p.inV v=(decide (0<=v)&&decide (v<(m.verts.l.length:Int))):=λv=>by rw[PM.inV,m.nv]
 by_cases h:rp.2.2=0
 rotate_left;rw[decide_eq_false h];simp only[Bool.false_and];have q:(rp.2.2==0)=false:=zu h;exact Zq (zi q Zd);rw[decide_eq_true h,Bool.true_and]
 have q:(rp.2.2==0)=true:=by simp[h]
 have hm:m.p.Rt:=hrt (hr.1 h);refine Zf (zi q Zd) ?_;refine Zc hG ?_ (s:=Zzc G v m.verts.l.length);rw[<- hV];cases h1:m.p.inV v;exact Zh h1;rw[Bool.true_and];refine Zg h1 ?_;refine Zc hG ?_ (s:=Zzc G s m.verts.l.length);rw[<- hV];cases h2:m.p.inV s;exact Zh h2;rw[Bool.true_and];have hv1:=h1;have hs1:=h2;simp only[PM.inV,Bool.and_eq_true,decide_eq_true_eq]at hv1 hs1;have hin:=λb c d e=>Zpn G hG m (Zl m.p.vn) hm s v hv1.1 hv1.2 b c d e;obtain⟨k,x,rfl,hk,hg,hx⟩:=MdM.at hs1.1 hs1.2;rw[hx];have hxk:(x.p.kind==1)=(x.kind==1):=rfl;rw[hxk];have f:=zi h2 (zi hg (zi hk (zi Zp (zi Zd (zi @Int.natCast_nonneg @Int.ofNat_lt)))));cases h3:(x.kind==1);exact Zh (zi f h3);rw[Bool.true_and];refine Zg (zi f h3) ?_;refine Zc hG ?_ (s:=Zjl G hG c.ent d.ent m hb.nv);refine Z ?_;refine Zc hG ?_ (s:=hin _ _ _ _);exact Zr
end Go.Hs
end
