/- A part. No condition. -/
import Derived.Test.YtjplgaebbfabnaaGreatDoorP45
import Derived.Test.YtjplgaebbfabnaaGreatDoorP47
import Derived.Shelf.Spec.SlicesGrow
import Derived.Ground.Names7Prog
set_option linter.all false
section
namespace Go.Hs
open Go.Proofs
set_option maxHeartbeats 1000000
set_option maxRecDepth 10000
@[go_sem] theorem loadK_vptr(n:Nat)(ob:AObj)(q:Col)(o g off:Nat):Ty (some (false,n)) ob (.view q (.ptr o g off))=some (.ptr o g off):=rfl
structure PlW where
 parent:Int
 region:Int
 depth:Int
 state:Bool
 point:Bool
 out:Row
 into:Row
def P3(p:PlW):V:=.agg [.int .i64 p.parent,.int .i64 p.region,.int .i64 p.depth,.bool p.state,.bool p.point,p.out.v,p.into.v]
theorem plwC(p:PlW):(P3 p).cells=[.int .i64 p.parent,.int .i64 p.region,.int .i64 p.depth,.bool p.state,.bool p.point,p.out.v,p.into.v]:=rfl
theorem Mq(p:PlW):(P3 p).cells.length=7:=by rw[plwC]<;>rfl
structure PlIs(m:PM)(gx gp:Nat)(k o q:V)(ps:List PlW)(H:Heap):Prop where
 len:ps.length=m.vertices.length
 par:∀ (i:Nat) p,ps[i]?=some p->p.parent=m.around i
 x:H 138=.cells .new gx 0 [.msl 130 gp 0 ps.length 7,k,o,q]
 p:H 130=.cells .new gp 0 (flat (ps.map P3))
theorem Zw9(G:Nat->V)(hG:Y6 G)(m:PM)(a:m.Acy)(gx gp:Nat)(T S Q:V)(v:Int)(W:v<m.vertices.length)(g2 g3:Nat)(H:Heap)(h2:H 52=.cells .new g2 0 [.ptr 138 gx 0])(h3:H 53=.cells .new g3 0 [.int .i64 v]):
  Eh Tryz.prog G 100 110 [.ptr 53 g3 0,.ptr 52 g2 0] H (λk:Int=>[.int .i64 k]) (Ma m v) (λH=>∃ ps,PlIs m gx gp T S Q ps H):=by
 refine Wz .plain 0 19 3 [] Tryz.func110 λX t cl σ R J b s0 U hd hR hP=>?_;refine AW.block ?_
 refine Vs (fun(w:Int × σ × Heap)=>⟨Z5 La [(0,.func t [] cl),(1,.ptr 53 g3 0),(2,.ptr 52 g2 0)],Z5 (Z9 100 w.2.2) [(52,.cells .new g2 0 [.ptr 138 gx 0]),(53,.cells .new g3 0 [.int .i64 w.1])]⟩)
  (λw=>w.1<m.vertices.length/\R6 J b w.2.1 (Ma m w.1)/\R w.2.1 (Z9 100 w.2.2)/\Yx b s0 (Ma m v)=Yx b w.2.1 (Ma m w.1)) (λw=>(Ma m w.1).length) (v,s0,H) ⟨W,hd,hR,rfl⟩ ?_ ?_
 exact Y7 ⟨rfl,rfl,rfl,trivial⟩ ⟨h2,h3,trivial⟩ rfl;rintro⟨w,s,H1⟩ ⟨A,z,D,g⟩ L hL;simp only at A z D g⊢
 by_cases C:0<=w
 have E:decide (w>=0)=true:=zT;rw[Zjd a C A]at z g;refine Z6 (Z6 (Wh [5] zk (by rfl) ?_));simp -implicitDefEqProofs only[go_sem,seval,E,Mf];refine⟨_,rfl,T7 U s w zp zm z.1 ?_ (λP d e=>?_) zk (n:=5) rfl zp⟩;refine Zs ?_;exact D;have y:=e 52 zd;have u:=e 53 zd;simp -implicitDefEqProofs only[go_sem,seval]at y u;have h:=z.2
 have f:Yx b s0 (Ma m v)=if(b s w).1=true then Yx b (b s w).2 (Ma m (m.around w))else(false,(b s w).2):=g
 generalize b s w=r at d f h⊢;obtain⟨O,K⟩:=r;refine Zs ?_;refine AW.weak (Y7 (lo:=100) (B:=P) (l:=[(0,.func t [] cl),(1,.ptr 53 g3 0),(2,.ptr 52 g2 0),(10,.bool O)]) (m:=[(52,.cells .new g2 0 [.ptr 138 gx 0]),(53,.cells .new g3 0 [.int .i64 w])]) ⟨rfl,rfl,rfl,rfl,trivial⟩ ⟨y,u,trivial⟩ rfl) ?_;cases O;refine Z ?_;rw[f];refine⟨_,rfl,.inr trivial,?_⟩
 show R K _
 refine Zs ?_;exact d;obtain⟨ps,c⟩:=hP _ _ d;obtain⟨k,rfl⟩:∃ k:Nat,w=(k:Int):=⟨w.toNat,zo⟩
 have M:k<ps.length:=by rw[c.len];omega
 have N:=List.getElem?_eq_getElem M;have hp:=c.par k _ N;have i:(flat (ps.map P3))[k*7]?=_:=Lx Mq (j:=0) (v:=.int .i64 ps[k].parent) zd N (by rw[plwC]<;>rfl);have I:=Xu Mq ps;have F:k*7+1<=ps.length*7:=zo;have o:k*7<ps.length*7:=zo;rw[hp]at i;refine I7 (zi c.x (zi c.p (zi i (zi I (zi F (zi o (zi M Yh))))))) hG ?_;refine Zs ?_
 have Y:m.around k<m.vertices.length:=by rcases a.rng k C A with q|q<;>omega
 refine hL _ ⟨(m.around k,K,P),?_,⟨Y,h rfl,d,by rw[f]<;>rfl⟩,Y7 ⟨rfl,rfl,rfl,trivial⟩ ⟨zp,?_,trivial⟩ ?_⟩
 show(Ma m (m.around k)).length<(Ma m k).length
 rw[Zjd a C A];exact Nat.lt_succ_self _;exact zp;exact zp;have E:decide (w>=0)=false:=zF;have e0:Ma m w=[]:=if_neg C;rw[e0]at g;refine Zf E ?_;refine Zs ?_;rw[g];refine⟨_,rfl,.inr trivial,?_⟩
 show R s _
 refine Zs ?_;exact D
end Go.Hs
end

section
namespace Go.Proofs
open Go.Shelf
def Ef:Go.Shelf.Ren:=⟨fun|4=>117|n=>n,fun|22=>29|25=>3|3=>3|4=>4|9=>9|20=>20|0=>0|n=>n,fun|n=>n⟩
theorem Fs:Go.Proofs.Lays8.n4 Tryz.prog Ef:={
 mixed:=by kernel_rfl
 f4:=⟨Tryz.f117.name,by decide,Tryz.func117.trans (congrArg some (by kernel_rfl))⟩
 t0:=Tryz.underlying0
 a0:=Tryz.isAgg0
 z0:=Tryz.sizeOf0
 v0:=Tryz.zeroValue0
 t3:=Tryz.underlying3
 a3:=Tryz.isAgg3
 z3:=Tryz.sizeOf3
 v3:=Tryz.zeroValue3
 t4:=Tryz.underlying4
 a4:=Tryz.isAgg4
 z4:=Tryz.sizeOf4
 v4:=Tryz.zeroValue4
 t9:=Tryz.underlying9
 a9:=Tryz.isAgg9
 z9:=Tryz.sizeOf9
 v9:=Tryz.zeroValue9
 t20:=Tryz.underlying20
 a20:=Tryz.isAgg20
 z20:=Tryz.sizeOf20
 v20:=Tryz.zeroValue20
 t22:=Tryz.underlying29
 a22:=Tryz.isAgg29
 z22:=Tryz.sizeOf29
 v22:=Tryz.zeroValue29 }
end Go.Proofs
end

section
namespace Go.Hs
open Go.Proofs
set_option maxHeartbeats 2000000
set_option maxRecDepth 10000
theorem Zbx(z:Array Value)(n:Nat)(h:z.size=1):(Builtin.zeroCells z n).size=n:=by
 simp[Builtin.zeroCells,h]
theorem Zg1{G:Nat->V}(N:Y6 G)(o n:Nat)(M:n<=1000000000){H:Heap}{K:V->Heap->Prop}(d:n=0->K .nils H)(B:n≠0->∀ g,K (.msl o g 0 0 1) (Ya H o (.cells .new g 0 []))):
  CallA Tryz.prog G 117 [.nils,.int .i64 n] H K:=by
 refine⟨zk,λX m q _ A=>?_⟩;obtain⟨x,y,rfl,s,r⟩:=A.two;cases s;cases r
 by_cases j:n=0
 subst j;refine(show Calls Tryz.prog 117 _ _ _ from Any8.slices_Grow_room Fs none 0 0 0 X.w zo zo zo zo).mono ?_;rintro e w' ⟨rfl,rfl⟩;exact⟨_,.nils,H,X,rfl,rfl,Goes.refl q,.nils,d rfl⟩
 obtain⟨c,l,f,L,z,b,k⟩:∃ c,Tryz.prog.info? 3=some c/\c.bytes=8/\c.size=1/\∃ z,c.zero=some z/\z.cells.size=1:=by
  have f:P4 Tryz.prog 3=some 8:=zk;have j:Yw Tryz.prog 3=some 1:=zk;have d:((Tryz.prog.info? 3).bind λi=>i.zero.map λz=>z.cells.size)=some 1:=zk;unfold P4 at f;unfold Yw at j
  cases p:Tryz.prog.info? 3 with
  |none=>rw[p]at f;cases f
  |some c=>
   rw[p]at f j d;simp only[Option.map_some,Option.some.injEq,Option.bind_some]at f j d
   cases b:c.zero with
   |none=>rw[b]at d;cases d
   |some z=>
    rw[b]at d;simp only[Option.map_some,Option.some.injEq]at d;exact⟨c,rfl,f,j,z,b,d⟩
 refine(show Calls Tryz.prog 117 _ _ _ from Any8.slices_Grow_grow Fs c z l b zo none 0 0 n [] X.w zo zo (by rw[f];omega) zo zS (λ_=>rfl) (λa u=>by cases u)).mono ?_;rintro e w' ⟨rfl,rfl⟩;have t:=grownCap_ge X.w (0+n) 0 3
 obtain⟨v,J,Y,I,F,D,C⟩:=Pe q o (E:=1) (need:=0) (cap:=grownCap X.w (0+n) 0 3) (xs:=[]) (cs:=[]) ⟨rfl,λ_ h=>by simp at h,λi h=>by simp at h⟩ rfl (Nat.zero_le _) 3
  (Builtin.zeroCells z.cells (0+n-0)++Builtin.zeroCells z.cells (grownCap X.w (0+n) 0 3-(0+n))) (by rw[Array.size_append,Zbx _ _ k,Zbx _ _ k];omega) .new (.inl rfl) 0 (B j)
 refine⟨_,v,J,Y,rfl,?_,F,D,C⟩;rw[I];simp;rfl
theorem Gg(l:List (Int)):flat (l.map (V.int .i64))=l.map (V.int .i64):=by
 induction l with
 |nil=>rfl
 |cons x r ih=>unfold flat at ih⊢;rw[List.map_cons,List.flatMap_cons,ih]<;>rfl
def Zkk(c:Col)(s:Sl (Col×Sl Int)):V:=Za c 1 (λt=>Za t.1 1 (V.int .i64) t.2) s
def Sf(l:List (Col×Sl Int)):List Int:=l.flatMap (·.2.l)
theorem Ff:∀ t:Col×Sl Int,(Za t.1 1 (V.int .i64) t.2).cells.length=1:=λt=>by obtain⟨_,t⟩:=t;cases t<;>rfl
theorem Zdb{l:List (Col×Sl Int)}{k:Nat}{t:Col×Sl Int}(h:l[k]?=some t):Sf (l.take (k+1))=Sf (l.take k)++t.2.l:=by
 unfold Sf;rw[List.take_add_one,h,List.flatMap_append];simp
theorem Zvk{l:List (Col×Sl Int)}{k:Nat}:(Sf (l.take k)).length<=(Sf l).length:=by
 unfold Sf
 conv=>rhs;rw[<- List.take_append_drop k l,List.flatMap_append,List.length_append]
 omega
theorem If(G:Nat->V)(B:Y6 G)(c:Col)(s:Sl (Col×Sl Int))(D:s.l.length<1000000)(E:(Sf s.l).length<1000000)(q:(Sf s.l).length≠0):
  Spec Tryz.prog G 74 [Zkk c s] Zj (λv _=>v=Za .new 1 (V.int .i64) (.mk false (Sf s.l))):=by
 refine Zo 0 36 [.tmp 2] Tryz.func74 λX=>?_;unfold Zkk;refine Z1 ?_;refine Z1 ?_;refine Z1 ?_;refine AW.block ?_
 refine Yc s.l.length (λk (_:Unit)=>st [(0,Za c 1 (λt=>Za t.1 1 (V.int .i64) t.2) s),(3,.int .i64 (Sf (s.l.take k)).length),(9,Za c 1 (λt=>Za t.1 1 (V.int .i64) t.2) s),(10,.int .i64 s.l.length),(11,.int .i64 k)] [])
  (λ_ _=>True) 0 () (Nat.zero_le _) trivial (Weak.st zp zp) ?_
 intro k _ A _ H x;refine Z1 ?_;refine Z6 ?_;refine Z2 rfl (λj=>?_) (λj=>?_);have a:k<s.l.length:=zu j;have e:=List.getElem?_eq_getElem a;have b:=Zdb e;have r:=Zvk (l:=s.l) (k:=k+1);generalize s.l[k]=t at e b;refine Z0 ?_;refine Z6 ?_;refine AW.block ?_
 have d:(Sf (s.l.take (k+1))).length=(Sf (s.l.take k)).length+t.2.l.length:=by rw[b,List.length_append]
 have z:IntKind.i64.wrap (((Sf (s.l.take k)).length:Int)+(t.2.l.length:Int))=(((Sf (s.l.take k)).length+t.2.l.length:Nat):Int):=by rw[Wy zo zo];omega
 have p:decide ((((Sf (s.l.take k)).length+t.2.l.length:Nat):Int)<0)=false:=zF;refine Xm e ?_;refine Xm z ?_;refine Xm p ?_;refine Z1 ?_;refine x _ ⟨a,(),trivial,Weak.st (by rw[d];refine Zs ?_;exact congrArg _ (Wy zo zo)) zp⟩
 have a:k=s.l.length:=by simp at j;omega
 refine Z0 ?_;rw[a,List.take_length];refine Z1 ?_;refine Zg1 B 1024 (Sf s.l).length zo (λh=>absurd h q) λ_ y=>?_;refine Zs ?_;refine Z1 ?_;refine AW.block ?_
 refine Yc s.l.length (λk (g:Nat)=>st [(0,Za c 1 (λt=>Za t.1 1 (V.int .i64) t.2) s),(6,.msl 1024 g 0 (Sf (s.l.take k)).length 1),(25,Za c 1 (λt=>Za t.1 1 (V.int .i64) t.2) s),(26,.int .i64 s.l.length),(27,.int .i64 k)] [(1024,.cells .new g 0 (flat ((Sf (s.l.take k)).map (V.int .i64))))])
  (λ_ _=>True) 0 y (Nat.zero_le _) trivial (Weak.st zp zp) ?_
 intro k g A _ F w;refine Z1 ?_;refine Z6 ?_;refine Z2 rfl (λi=>?_) (λi=>?_);have a:k<s.l.length:=zu i;have e:=List.getElem?_eq_getElem a;have b:=Zdb e;have r:=Zvk (l:=s.l) (k:=k+1);generalize s.l[k]=t at e b
 have d:(Sf (s.l.take (k+1))).length=(Sf (s.l.take k)).length+t.2.l.length:=by rw[b,List.length_append]
 refine Xm e ?_;refine Z1 ?_
 have n:∀ l:List (Int),(flat (l.map (V.int .i64))).length=l.length:=λl=>by rw[Gg,List.length_map]
 have u:List.take ((Sf (s.l.take k)).length*1) (flat ((Sf (s.l.take k)).map (V.int .i64)))++flat (t.2.l.map (V.int .i64))=flat ((Sf (s.l.take (k+1))).map (V.int .i64)):=by
  rw[b,List.map_append,U6,Nat.mul_one,List.take_of_length_le (by rw[n];omega)]
 refine⟨Z4 zo zo,by rw[n];omega,zo,λC=>?_⟩;rw[u,<- d];refine Z1 ?_;refine w _ ⟨a,C,trivial,Weak.st zw zp⟩
 have a:k=s.l.length:=by simp at i;omega
 refine Z0 ?_;rw[a,List.take_length];refine AW.weak (Zl (λo=>o==1024) (l:=[(6,Za .new 1 (V.int .i64) (.mk false (Sf s.l)))]) (m:=[]) ?_ trivial) ?_;refine Zs ?_;exact Xa (f:=(V.int .i64)) (l:=Sf s.l) (m:=1) (g:=g) (fz:=0) (c:=.new) rfl zp (λ_=>rfl);exact Zr
theorem Ha(G:Nat->V)(d:Y6 G)(c c1:Col)(l a:Sl Int)(j:l.l.length<400000)(i:a.l.length<400000)(b:l.l.length+a.l.length≠0):
  Spec Tryz.prog G 140 [Za c 1 (V.int .i64) l,Za c1 1 (V.int .i64) a] Zj (λv _=>v=Za .new 1 (V.int .i64) (.mk false (l.l++a.l))):=by
 refine Zo 0 9 [.tmp 4] Tryz.func140 λX=>?_;refine Z ?_;intro h
 have e:Sf [(c.ent,l),(c1.ent,a)]=l.l++a.l:=by simp[Sf]
 refine Wf (λo=>o==7) [Zkk .new (.mk false [(c,l),(c1,a)])] [] ⟨?_,trivial⟩ trivial ?_;exact Xa (f:=λt:Col×Sl Int=>Za t.1 1 (V.int .i64) t.2) (l:=[(c,l),(c1,a)]) (m:=1) (g:=h) (fz:=0) (c:=.new) rfl (by cases l<;>cases a<;>rfl) Ff;refine Zc (r:=Za .new 1 (V.int .i64) (.mk false (l.l++a.l))) d ?_ (args':=[Zkk Col.new.ent (.mk false [(c.ent,l),(c1.ent,a)])]) (ha:=?_) (s:=?_);exact Zr;rw[List.map_cons,List.map_nil];refine congrArg (λv=>[v]) ?_
 show V.recol Col.ent (.slice .new false 1 [Za c 1 (V.int .i64) l,Za c1 1 (V.int .i64) a])=.slice Col.new.ent false 1 [Za c.ent 1 (V.int .i64) l,Za c1.ent 1 (V.int .i64) a]
 simp only[V.recol,Yv,Y1];have:=If G d Col.new.ent (.mk false [(c.ent,l),(c1.ent,a)]) (show(2:Nat)<1000000 by decide) (by show(Sf [(c.ent,l),(c1.ent,a)]).length<_;rw[e,List.length_append];omega) (by show(Sf [(c.ent,l),(c1.ent,a)]).length≠0;rw[e,List.length_append];exact b);rw[show Sf (Sl.mk false [(c.ent,l),(c1.ent,a)]).l=_ from e]at this;exact this
def Bg(c d e:Col)(m:MdM)(ns vs:Sl (List UInt8)):V:=.agg [.str m.name,Za c 2 Z3 m.vars,Za c 1 V.str m.events,Za c 2 Z3 m.regions,Za c 8 (Yf d) m.verts,Za c 8 (Yn d) m.ways,Za e 1 V.str ns,Za e 1 V.str vs]
theorem Zjy(c d e:Col)(m:MdM)(a vs:Sl (List UInt8)):Bg c d e m a vs=.agg [.str m.name,Za c 2 Z3 m.vars,Za c 1 V.str m.events,Za c 2 Z3 m.regions,Za c 8 (Yf d) m.verts,Za c 8 (Yn d) m.ways,Za e 1 V.str a,Za e 1 V.str vs]:=rfl
theorem Z25(g:Col->Col)(c d e:Col)(m:MdM)(a vs:Sl (List UInt8)):(Bg c d e m a vs).recol g=Bg (g c) (g d) (g e) m a vs:=by simp only[Zjy,Xl,List.map_cons,List.map_nil,Vf,Xy,Uq,Qt,Qu]
def V6(b c d e:Col)(m:MdM)(ns vs:Sl (List UInt8)):V:=.view b (Bg c d e m ns vs)
theorem Xv(b c d e:Col)(m:MdM)(a vs:Sl (List UInt8)):V6 b c d e m a vs=.view b (.agg [.str m.name,Za c 2 Z3 m.vars,Za c 1 V.str m.events,Za c 2 Z3 m.regions,Za c 8 (Yf d) m.verts,Za c 8 (Yn d) m.ways,Za e 1 V.str a,Za e 1 V.str vs]):=rfl
@[go_sem] theorem Of(g:Col->Col)(b c d e:Col)(m:MdM)(a vs:Sl (List UInt8)):(V6 b c d e m a vs).recol g=V6 (g b) (g c) (g d) (g e) m a vs:=by
 show(V.view b (Bg c d e m a vs)).recol g=_
 simp only[V.recol,Z25];rfl
theorem Zv9(p:List UInt8×Int):∀ y∈(Z3 p).cells,y.Im:=λy a=>by
 simp only[Wb,V.cells,List.mem_cons,List.not_mem_nil,or_false]at a
 rcases a with rfl|rfl<;>first|exact .int _ _|exact .str _
theorem Z4y(s:List UInt8):∀ y∈(V.str s).cells,y.Im:=λy a=>by
 simp only[V.cells,List.mem_cons,List.not_mem_nil,or_false]at a;rw[a];exact .str _
theorem vtIm(c:Col)(x:VtM):∀ y∈(Yf c x).cells,y.Im:=λy a=>by
 simp only[Zz,V.cells,List.mem_cons,List.not_mem_nil,or_false]at a
 rcases a with rfl|rfl|rfl|rfl|rfl|rfl|rfl|rfl<;>first|exact .int _ _|exact .str _|exact Uu Z4y _
theorem trIm(c:Col)(x:TrM):∀ y∈(Yn c x).cells,y.Im:=λy a=>by
 simp only[Yg,V.cells,List.mem_cons,List.not_mem_nil,or_false]at a
 rcases a with rfl|rfl|rfl|rfl|rfl|rfl|rfl|rfl<;>first|exact .int _ _|exact .str _|exact Uu Z4y _
theorem N1(b c d e:Col)(m:MdM)(f vs:Sl (List UInt8)):(V6 b c d e m f vs).Im:=.view _ _ λy a=>by
 simp only[Zjy,V.cells,List.mem_cons,List.not_mem_nil,or_false]at a
 rcases a with rfl|rfl|rfl|rfl|rfl|rfl|rfl|rfl
 exact .str _;exact Uu Zv9 _;exact Uu Z4y _;exact Uu Zv9 _;exact Uu (vtIm d) _;exact Uu (trIm d) _;exact Uu Z4y _;exact Uu Z4y _
theorem Uh(G:Nat->V)(E:Y6 G)(b c d e:Col)(m:MdM)(u vs:Sl (List UInt8))(B:m.p.Rt5)(v:Int)(o:0<=v)(n:v<m.p.vertices.length):
  Spec Tryz.prog G 227 [V6 b c d e m u vs,.int .i64 v] Zj (λw _=>w=.int .i64 (m.p.around v)):=by
 refine Zo 0 36 [.tmp 4] Tryz.func227 λX=>?_;have a:=B.pt o n;obtain⟨k,x,rfl,C,D,A⟩:=MdM.at o n;rw[PM.around];rw[A]at a⊢;simp only[Xv];have f:=zi D (zi C (zi Zz Yh));refine Zf f ?_;intro F
 by_cases l:0<=x.of
 have q:decide (x.of>=0)=true:=zT;refine Zf (zi f q) ?_
 rw[if_pos (show 0<=x.p.of from l)]<;>rfl
 have q:decide (x.of>=0)=false:=zF;obtain⟨_,t,s,_⟩:=a.resolve_left (λh=>l h.1);obtain⟨r,y,j,g,i,z⟩:=I3 t s;rw[if_neg (show ¬ 0<=x.p.of from l),z];have j:x.region=(r:Int):=j;refine Zf q ?_;refine I7 (zi f (zi j (zi i (zi g Wb)))) E ?_;exact Zr
theorem Iv(G:Nat->V)(n:Y6 G)(b c d e:Col)(m:MdM)(k vs:Sl (List UInt8))(f:m.p.Rt)(v s:Int)(y:0<=v)(x:v<m.p.vertices.length):
  Spec Tryz.prog G 194 [V6 b c d e m k vs,.int .i64 v,.int .i64 s] Zj (λw _=>w=.bool (m.p.inB v s)):=by
 refine Zo 0 18 [.tmp 6] Tryz.func194 λX=>?_;refine Z ?_;refine Zc n ?_ (s:=Uh G n _ _ _ _ m k vs f.toRt5 v y x);refine Z ?_;refine Vs (fun(w:Int)=>st [(0,V6 b c d e m k vs),(1,.int .i64 (m.p.around w)),(2,.int .i64 s)] []) (λw=>0<=w/\w<m.p.vertices.length/\m.p.inB v s=m.p.inB w s) (λw=>(m.p.ups w).length) v ⟨y,x,rfl⟩ (Weak.st zp zp) ?_;rintro w ⟨r,o,t⟩ z u
 by_cases l:0<=m.p.around w
 have j:decide (m.p.around w>=0)=true:=zT
 have h:m.p.around w<m.p.vertices.length:=by
  rcases f.acy.rng w r o with q|q
  omega;exact q.2
 have g:=congrArg List.length (f.acy.ups_cons r o l);rw[List.length_cons]at g;have a:=f.acy.inB_up (s:=s) r o l;cases i:(m.p.around w==s);rw[i,Bool.false_or]at a;refine Zf (zi j i) ?_;refine Zc n ?_ (s:=Uh G n _ _ _ _ m k vs f.toRt5 (m.p.around w) l h);refine Z ?_;exact u _ ⟨m.p.around w,zo,⟨l,h,by rw[t,a]⟩,Weak.st zp zp⟩;rw[i,Bool.true_or]at a;rw[t,a];exact Zq (zi j i);have j:decide (m.p.around w>=0)=false:=zF;rw[t,PM.inB_nil zo];exact Zq j
theorem It(G:Nat->V)(o:Y6 G)(b c d e:Col)(m:MdM)(l vs:Sl (List UInt8))(h:m.p.Rt)(v s:Int)(I:0<=v)(H:v<m.p.vertices.length)(D:0<=s):
  Spec Tryz.prog G 195 [V6 b c d e m l vs,.int .i64 v,.int .i64 s] Zj (λw _=>w=.int .i64 (m.p.regU v s)):=by
 refine Zo 0 30 [.tmp 6] Tryz.func195 λX=>?_;refine Z ?_;refine Vs (fun(w:Int)=>st [(0,V6 b c d e m l vs),(1,.int .i64 w),(2,.int .i64 s)] []) (λw=>(w = -1/\m.p.regU v s = -1)\/(0<=w/\w<m.p.vertices.length/\m.p.regU v s=m.p.regU w s)) (λw=>if w<0 then 0 else(m.p.ups w).length+1) v (.inr ⟨I,H,rfl⟩) (Weak.st zp zp) ?_;rintro w g J j
 rcases g with ⟨rfl,g⟩|⟨f,a,g⟩
 rw[g];exact Zr;have B:decide (w>=0)=true:=zT;refine Zf B ?_;refine Zc o ?_ (s:=Uh G o _ _ _ _ m l vs h.toRt5 w f a)
 by_cases n:m.p.around w=s
 rw[g,PM.Acy.regU_at n];obtain⟨k,x,t,E,F,C⟩:=MdM.at f a;rw[C];subst t
 have r:(m.p.around (k:Int) != s)=false:=by simp[n]
 have A:decide ((k:Int)<0)=false:=zF;exact Zh (zi r (zi A (zi F (zi E (zi Zz (zi Xv Yh))))));have r:(m.p.around w != s)=true:=zu n;refine Zg r ?_;refine Zc o ?_ (s:=Uh G o _ _ _ _ m l vs h.toRt5 w f a);refine Z ?_
 by_cases z:0<=m.p.around w
 have y:m.p.around w<m.p.vertices.length:=by
  rcases h.acy.rng w f a with q|q
  omega;exact q.2
 have i:=congrArg List.length (h.acy.ups_cons f a z);rw[List.length_cons]at i;refine j _ ⟨m.p.around w,by simp only[if_neg (show ¬ m.p.around w<0 by omega),if_neg (show ¬ w<0 by omega)];omega,.inr ⟨z,y,by rw[g,h.acy.regU_up f a z n]⟩,Weak.st zp zp⟩
 have u:m.p.around w = -1:=by
  rcases h.acy.rng w f a with q|q
  exact q;omega
 rw[u];refine j _ ⟨-1,by simp only[if_neg (show ¬ w<0 by omega)];exact Nat.succ_pos _,.inl ⟨rfl,by rw[g,PM.regU_nil zo D]⟩,Weak.st zp zp⟩
theorem Is(G:Nat->V)(F:Y6 G)(b c d e:Col)(m:MdM)(u vs:Sl (List UInt8))(i:m.p.Rt)(v r:Int)(K:0<=v)(J:v<m.p.vertices.length):
  Spec Tryz.prog G 189 [V6 b c d e m u vs,.int .i64 v,.int .i64 r] Zj (λw _=>w=.bool (m.p.withinB v r)):=by
 refine Zo 0 27 [.tmp 6] Tryz.func189 λX=>?_;refine Z ?_;refine Vs (fun(w:Int)=>st [(0,V6 b c d e m u vs),(1,.int .i64 w),(2,.int .i64 r)] []) (λw=>(w = -1/\m.p.withinB v r=false)\/(0<=w/\w<m.p.vertices.length/\m.p.withinB v r=m.p.withinB w r)) (λw=>if w<0 then 0 else(m.p.ups w).length+1) v (.inr ⟨K,J,rfl⟩) (Weak.st zp zp) ?_;rintro w f M l
 rcases f with ⟨rfl,f⟩|⟨g,a,f⟩
 rw[f];exact Zr;have L:decide (w>=0)=true:=zT;obtain⟨k,x,h,D,E,C⟩:=MdM.at g a
 by_cases n:x.region=r
 have t:(x.region != r)=false:=by simp[n]
 have I:m.p.withinB w r=true:=by
  rw[PM.withinB,List.any_cons,C,show(x.p.region==r)=true from beq_iff_eq.2 n,Bool.true_or]
 rw[f,I];subst h;have o:decide ((k:Int)>=0)=true:=zT;exact Zq (zi o (zi t (zi E (zi D (zi Zz (zi Xv Yh))))));have t:(x.region != r)=true:=zu n
 have B:((m.p.vx w).region==r)=false:=by rw[C];exact beq_eq_false_iff_ne.2 n
 subst h;have o:decide ((k:Int)>=0)=true:=zT;refine Zf (zi o (zi t (zi E (zi D (zi Zz (zi Xv Yh)))))) ?_;refine Zc F ?_ (s:=Uh G F _ _ _ _ m u vs i.toRt5 k g a);refine Z ?_
 by_cases A:0<=m.p.around k
 have H:=a
 have z:m.p.around k<m.p.vertices.length:=by
  rcases i.acy.rng k g a with q|q
  omega;exact q.2
 have j:=congrArg List.length (i.acy.ups_cons g a A);rw[List.length_cons]at j;refine l _ ⟨m.p.around k,by simp only[if_neg (show ¬ m.p.around k<0 by omega),if_neg (show ¬ (k:Int)<0 by omega)];omega,.inr ⟨A,z,by rw[f,i.acy.withinB_up g a A,B,Bool.false_or]⟩,Weak.st zp zp⟩
 have y:m.p.around k = -1:=by
  rcases i.acy.rng k g a with q|q
  exact q;omega
 rw[y];refine l _ ⟨-1,by simp only[if_neg (show ¬ (k:Int)<0 by omega)];exact Nat.succ_pos _,.inl ⟨rfl,by rw[f,PM.withinB_nil zo,B]⟩,Weak.st zp zp⟩
theorem Zb1(G:Nat->V)(c:Col)(t:Int)(s:Sl Int)(j:s.l.length<1000000):Spec Tryz.prog G 78 [Za c 1 (V.int .i64) s,.int .i64 t] Zj (λv _=>v=.int .i64 (Rz (t == ·) s.l)):=by
  refine Zo 0 19 [.tmp 4] Tryz.func78 λX=>?_;refine Z ?_;refine Yc s.l.length (λk (_:Unit)=>st [(0,Za c 1 (V.int .i64) s),(1,.int .i64 t),(7,.int .i64 s.l.length),(8,.int .i64 k)] []) (λk _=>∀ y∈s.l.take k,(t==y)=false) 0 () (Nat.zero_le _) zS (Weak.st zp zp) ?_;intro k _ m e n h
  by_cases b:k<s.l.length
  have a:decide ((k:Int)<(s.l.length:Int))=true:=zT;have d:=List.getElem?_eq_getElem b;generalize s.l[k]=x at d;have i:IntKind.i64.wrap ((k:Int)+1)=(k:Int)+1:=Wy zo zo;cases f:(t==x);refine Zf (zi a (zi d (zi f i))) ?_;exact h _ ⟨b,(),take_all d e f,Weak.st zp zp⟩;refine Zf (zi a (zi d f)) ?_;rw[V2 (p:=λy=>t==y) d e f];have g:k=s.l.length:=zo;have a:decide ((k:Int)<(s.l.length:Int))=false:=zF;rw[g,List.take_length]at e;refine Zf a ?_;rw[V3 (p:=λy=>t==y) e]
theorem Z90(G:Nat->V)(c:Col)(t:Int)(s:Sl Int)(j:s.l.length<1000000):Spec Tryz.prog G 197 [Za c 1 (V.int .u8) s,.int .u8 t] Zj (λv _=>v=.int .i64 (Rz (t == ·) s.l)):=by
  refine Zo 0 19 [.tmp 4] Tryz.func197 λX=>?_;refine Z ?_;refine Yc s.l.length (λk (_:Unit)=>st [(0,Za c 1 (V.int .u8) s),(1,.int .u8 t),(7,.int .i64 s.l.length),(8,.int .i64 k)] []) (λk _=>∀ y∈s.l.take k,(t==y)=false) 0 () (Nat.zero_le _) zS (Weak.st zp zp) ?_;intro k _ m e n h
  by_cases b:k<s.l.length
  have a:decide ((k:Int)<(s.l.length:Int))=true:=zT;have d:=List.getElem?_eq_getElem b;generalize s.l[k]=x at d;have i:IntKind.i64.wrap ((k:Int)+1)=(k:Int)+1:=Wy zo zo;cases f:(t==x);refine Zf (zi a (zi d (zi f i))) ?_;exact h _ ⟨b,(),take_all d e f,Weak.st zp zp⟩;refine Zf (zi a (zi d f)) ?_;rw[V2 (p:=λy=>t==y) d e f];have g:k=s.l.length:=zo;have a:decide ((k:Int)<(s.l.length:Int))=false:=zF;rw[g,List.take_length]at e;refine Zf a ?_;rw[V3 (p:=λy=>t==y) e]
theorem O0(G:Nat->V)(b:Y6 G)(c:Col)(t:Int)(s:Sl Int)(a:s.l.length<1000000):Spec Tryz.prog G 39 [Za c 1 (V.int .i64) s,.int .i64 t] Zj (λv _=>v=.bool (s.l.contains t)):=by
 refine Zo 0 9 [.tmp 4] Tryz.func39 λX=>?_;refine Z ?_;refine Zc b ?_ (s:=Zb1 G _ t s a);refine Z ?_;rw[Ot,<- List.contains_eq_any_beq]
theorem Gj(G:Nat->V)(b:Y6 G)(c:Col)(t:Int)(s:Sl Int)(a:s.l.length<1000000):Spec Tryz.prog G 137 [Za c 1 (V.int .u8) s,.int .u8 t] Zj (λv _=>v=.bool (s.l.contains t)):=by
 refine Zo 0 9 [.tmp 4] Tryz.func137 λX=>?_;refine Z ?_;refine Zc b ?_ (s:=Z90 G _ t s a);refine Z ?_;rw[Ot,<- List.contains_eq_any_beq]
theorem Wv(G:Nat->V)(g:Y6 G)(b c d e f:Col)(m:MdM)(h vs:Sl (List UInt8))(v:Int)(o:0<=v)(n:v<m.p.vertices.length)(ks:Sl Int)(a:ks.l.length<1000000):
  Spec Tryz.prog G 187 [V6 b c d e m h vs,.int .i64 v,Za f 1 (V.int .u8) ks] Zj (λw _=>w=.bool (ks.l.contains (m.p.kd v))):=by
 refine Zo 0 18 [.tmp 6] Tryz.func187 λX=>?_;obtain⟨k,x,rfl,a,j,i⟩:=MdM.at o n;rw[PM.kd,i];simp only[Xv];refine Zf (zi j (zi a (zi Zz Yh))) ?_;refine Zc g ?_ (s:=Gj G g _ x.kind ks (by assumption));exact Zr
theorem Z7x(m:MdM)(v:Int):m.p.inc v=(m.ways.l.filter λt=>t.target==v).map (·.source):=by
 show((m.ways.l.map TrM.p).filter _).map _=_
 rw[List.filter_map,List.map_map]<;>rfl
theorem Ztx(m:MdM)(v:Int):m.p.out v=(m.ways.l.filter λt=>t.source==v).map (·.target):=by
 show((m.ways.l.map TrM.p).filter _).map _=_
 rw[List.filter_map,List.map_map]<;>rfl
theorem L9(G:Nat->V)(E:Y6 G)(b c d e:Col)(m:MdM)(s vs:Sl (List UInt8))(C:m.ways.l.length<1000000)(v:Int):
  Spec Tryz.prog G 190 [V6 b c d e m s vs,.int .i64 v] Zj (λw _=>w=Za .new 1 (V.int .i64) (Zd (m.p.inc v))):=by
 rw[Z7x];refine Zo 0 28 [.tmp 4] Tryz.func190 λX=>?_;simp only[Xv];refine Z ?_
 refine Yc m.ways.l.length (λk (g:Nat)=>st [(0,V6 b c d e m s vs),(1,.int .i64 v),(4,grown 25 g 1 (((m.ways.l.take k).filter λt=>t.target==v).map (·.source))),(11,Za c 8 (Yn d) m.ways),(12,.int .i64 m.ways.l.length),(13,.int .i64 k)] [(25,Yb g (V.int .i64) (((m.ways.l.take k).filter λt=>t.target==v).map (·.source)))])
  (λ_ _=>True) 0 0 (Nat.zero_le _) trivial (Weak.st (T9 @Xv) zp) ?_
 intro k g D _ H a
 by_cases h:k<m.ways.l.length
 have j:decide ((k:Int)<(m.ways.l.length:Int))=true:=zT;have z:=List.getElem?_eq_getElem h
 have n:m.ways.l.take (k+1)=m.ways.l.take k++[m.ways.l[k]]:=by rw[List.take_succ_eq_append_getElem h]
 have r:(((m.ways.l.take k).filter λt=>t.target==v).map (·.source)).length<=k:=by
  rw[List.length_map];exact Nat.le_trans (List.length_filter_le _ _) (by rw[List.length_take];omega)
 generalize m.ways.l[k]=x at z n;have y:IntKind.i64.wrap ((k:Int)+1)=(k:Int)+1:=Wy zo zo;rw[n]at a;simp only[List.filter_append,List.map_append]at a;generalize((m.ways.l.take k).filter λt=>t.target==v).map (·.source)=i at r a;refine Zf (zi j (zi z Yg)) ?_;intro F;cases q:(x.target==v);rw[List.filter_cons_of_neg (by simp[q])]at a;simp only[List.filter_nil,List.map_nil,List.append_nil]at a;refine Zf (zi q y) ?_;exact a _ ⟨h,g,trivial,Weak.st (T9 @Xv) zp⟩;rw[List.filter_cons_of_pos (by simp[q])]at a;simp only[List.filter_nil,List.map_nil,List.map_cons]at a;refine Zf (zi q Yg) ?_;intro A;refine Ys (f:=V.int .i64) (l:=i) (l2:=[x.source]) (g:=g) (λ_=>rfl) rfl rfl rfl zp (Z4 zo zO) λB=>?_;refine Zs ?_;refine Zf y ?_;exact a _ ⟨h,B,trivial,Weak.st (T9 @Xv) zp⟩;have u:k=m.ways.l.length:=zo;subst u;rw[List.take_length];have j:decide ((m.ways.l.length:Int)<(m.ways.l.length:Int))=false:=zS;generalize(m.ways.l.filter λt=>t.target==v).map (·.source)=i;refine AW.weak (Zl (λo=>o==25) (l:=[(0,V6 b c d e m s vs),(4,Za .new 1 (V.int .i64) (Zd i)),(12,.int .i64 m.ways.l.length),(13,.int .i64 m.ways.l.length)]) (m:=[]) ?_ trivial) ?_;refine Zs ?_;exact⟨Zb,Y5 (l:=i) (g:=g) (f:=V.int .i64) rfl zp (λ_=>rfl),Zb⟩;exact Zq j
theorem Rm(G:Nat->V)(E:Y6 G)(b c d e:Col)(m:MdM)(s vs:Sl (List UInt8))(C:m.ways.l.length<1000000)(v:Int):
  Spec Tryz.prog G 188 [V6 b c d e m s vs,.int .i64 v] Zj (λw _=>w=Za .new 1 (V.int .i64) (Zd (m.p.out v))):=by
 rw[Ztx];refine Zo 0 28 [.tmp 4] Tryz.func188 λX=>?_;simp only[Xv];refine Z ?_
 refine Yc m.ways.l.length (λk (g:Nat)=>st [(0,V6 b c d e m s vs),(1,.int .i64 v),(4,grown 25 g 1 (((m.ways.l.take k).filter λt=>t.source==v).map (·.target))),(11,Za c 8 (Yn d) m.ways),(12,.int .i64 m.ways.l.length),(13,.int .i64 k)] [(25,Yb g (V.int .i64) (((m.ways.l.take k).filter λt=>t.source==v).map (·.target)))])
  (λ_ _=>True) 0 0 (Nat.zero_le _) trivial (Weak.st (T9 @Xv) zp) ?_
 intro k g D _ H a
 by_cases h:k<m.ways.l.length
 have j:decide ((k:Int)<(m.ways.l.length:Int))=true:=zT;have z:=List.getElem?_eq_getElem h
 have n:m.ways.l.take (k+1)=m.ways.l.take k++[m.ways.l[k]]:=by rw[List.take_succ_eq_append_getElem h]
 have r:(((m.ways.l.take k).filter λt=>t.source==v).map (·.target)).length<=k:=by
  rw[List.length_map];exact Nat.le_trans (List.length_filter_le _ _) (by rw[List.length_take];omega)
 generalize m.ways.l[k]=x at z n;have y:IntKind.i64.wrap ((k:Int)+1)=(k:Int)+1:=Wy zo zo;rw[n]at a;simp only[List.filter_append,List.map_append]at a;generalize((m.ways.l.take k).filter λt=>t.source==v).map (·.target)=i at r a;refine Zf (zi j (zi z Yg)) ?_;intro F;cases q:(x.source==v);rw[List.filter_cons_of_neg (by simp[q])]at a;simp only[List.filter_nil,List.map_nil,List.append_nil]at a;refine Zf (zi q y) ?_;exact a _ ⟨h,g,trivial,Weak.st (T9 @Xv) zp⟩;rw[List.filter_cons_of_pos (by simp[q])]at a;simp only[List.filter_nil,List.map_nil,List.map_cons]at a;refine Zf (zi q Yg) ?_;intro A;refine Ys (f:=V.int .i64) (l:=i) (l2:=[x.target]) (g:=g) (λ_=>rfl) rfl rfl rfl zp (Z4 zo zO) λB=>?_;refine Zs ?_;refine Zf y ?_;exact a _ ⟨h,B,trivial,Weak.st (T9 @Xv) zp⟩;have u:k=m.ways.l.length:=zo;subst u;rw[List.take_length];have j:decide ((m.ways.l.length:Int)<(m.ways.l.length:Int))=false:=zS;generalize(m.ways.l.filter λt=>t.source==v).map (·.target)=i;refine AW.weak (Zl (λo=>o==25) (l:=[(0,V6 b c d e m s vs),(4,Za .new 1 (V.int .i64) (Zd i)),(12,.int .i64 m.ways.l.length),(13,.int .i64 m.ways.l.length)]) (m:=[]) ?_ trivial) ?_;refine Zs ?_;exact⟨Zb,Y5 (l:=i) (g:=g) (f:=V.int .i64) rfl zp (λ_=>rfl),Zb⟩;exact Zq j
def Wl(b c d e f g:Col)(m:MdM)(x:IxM):V:=.view b (.agg [.str m.name,Za c 2 Z3 m.vars,Za c 1 V.str m.events,Za c 2 Z3 m.regions,Za c 8 (Yf d) m.verts,Za c 8 (Yn d) m.ways,Uj e f g x])
theorem Uz(b c d e f g:Col)(m:MdM)(x:IxM):Wl b c d e f g m x=.view b (.agg [.str m.name,Za c 2 Z3 m.vars,Za c 1 V.str m.events,Za c 2 Z3 m.regions,Za c 8 (Yf d) m.verts,Za c 8 (Yn d) m.ways,Uj e f g x]):=rfl
theorem Tv(q:Col->Col)(b c d e f g:Col)(m:MdM)(x:IxM):(Wl b c d e f g m x).recol q=Wl (q b) (q c) (q d) (q e) (q f) (q g) m (x.rc q):=by
 simp only[Uz,V.recol,Yv,Xy,Uq,Qt,Qu,Q2]
theorem Zi8(b c d e f g:Col)(m:MdM)(x:IxM):(Wl b c d e f g m x).cells=[Wl b c d e f g m x]:=rfl
theorem Zj5(b c d e f g:Col)(m:MdM)(x:IxM):(Wl b c d e f g m x).solid=true:=rfl
theorem Z96(n:Nat)(ob:AObj)(q b c d:Col)(x:IxM):Ty (some (false,n)) ob (.view q (Uj b c d x))=some (Uj b c d x):=rfl
attribute[go_sem]Tv Zi8 Zj5 Z96
theorem Ti(G:Nat->V)(a:Y6 G)(b c d e f g c1:Col)(m:MdM)(x:IxM)(v:Int)(o:0<=v)(n:v<m.p.vertices.length)(s:Sl Int)(h:s.l.length<1000000):
  Spec Tryz.prog G 91 [Wl b c d e f g m x,.int .i64 v,Za c1 1 (V.int .u8) s] Zj (λw _=>w=.bool (s.l.contains (m.p.kd v))):=by
 refine Zo 0 18 [.tmp 6] Tryz.func91 λX=>?_;obtain⟨k,y,rfl,i,j,r⟩:=m.at o n
 have q:m.p.kd (k:Int)=y.kind:=by rw[PM.kd,r]<;>rfl
 rw[q];refine Zf (zi j (zi i (zi Zz (zi Uz Yh)))) ?_;refine Zc a ?_ (s:=Gj G a _ _ _ h);exact Zr
theorem Ax(k a:Int):[a].contains k=(k==a):=by
 show List.elem k [a]=_
 simp only[List.elem]
 cases k==a<;>rfl
theorem con2(k a b:Int):[a,b].contains k=(k==a||k==b):=by
 show List.elem k [a,b]=_
 simp only[List.elem]
 cases k==a<;>cases k==b<;>rfl
theorem Z6i(G:Nat->V)(a:Y6 G)(b c d e f g:Col)(m:MdM)(x:IxM)(r:IxP m.p x)(t:m.p.ways.length<1000000)(v:Int)(j:0<=v)(i:v<m.p.vertices.length):
  Spec Tryz.prog G 229 [Wl b c d e f g m x,.int .i64 v] Zj (λw _=>w=.bool (m.p.oneP v)):=by
 refine Zo 0 25 [.tmp 4] Tryz.func229 λX=>?_;rw[PM.oneP];refine Z ?_;intro y;refine Wf (λo=>o==7) [Wl b c d e f g m x,.int .i64 v,Za .new 1 (V.int .u8) (.mk false [5,11])] [] ⟨Zb,Zb,?_,trivial⟩ trivial ?_;exact Xa (f:=V.int .u8) (l:=[5,11]) (m:=1) (g:=y) (fz:=0) (c:=.new) rfl zp λ_=>rfl;refine Zc a ?_ (s:=Ti G a _ _ _ _ _ _ _ m _ v j i _ zd);rw[con2];cases q:(m.p.kd v==5||m.p.kd v==11);refine Zg q ?_;intro k;refine Wf (λo=>o==12) [Wl b c d e f g m x,.int .i64 v,Za .new 1 (V.int .u8) (.mk false [10])] [] ⟨Zb,Zb,?_,trivial⟩ trivial ?_;exact Xa (f:=V.int .u8) (l:=[10]) (m:=1) (g:=k) (fz:=0) (c:=.new) rfl zp λ_=>rfl;refine Zc a ?_ (s:=Ti G a _ _ _ _ _ _ _ m _ v j i _ zd);rw[Ax];cases n:(m.p.kd v==10);refine Zg n ?_;rfl
 .refine Zg (zi n Uz) ?_
  refine Ze a (λw h=>?_) (s:=Gd G a _ _ _ _ m.p (r.rc _) t v j i);obtain⟨s,u,rfl⟩:=h;refine Zg u ?_;rw[Bool.false_or,Bool.true_and];refine congrArg V.bool ?_;rw[Bool.eq_iff_iff];simp
  try omega
 refine Zg q ?_;rfl
theorem Ztr(G:Nat->V)(a:Y6 G)(b c d e f g:Col)(m:MdM)(x:IxM)(r:IxP m.p x)(t:m.p.ways.length<1000000)(v:Int)(j:0<=v)(i:v<m.p.vertices.length):
  Spec Tryz.prog G 141 [Wl b c d e f g m x,.int .i64 v] Zj (λw _=>w=.bool (m.p.allP v)):=by
 refine Zo 0 25 [.tmp 4] Tryz.func141 λX=>?_;rw[PM.allP];refine Z ?_;intro y;refine Wf (λo=>o==7) [Wl b c d e f g m x,.int .i64 v,Za .new 1 (V.int .u8) (.mk false [6])] [] ⟨Zb,Zb,?_,trivial⟩ trivial ?_;exact Xa (f:=V.int .u8) (l:=[6]) (m:=1) (g:=y) (fz:=0) (c:=.new) rfl zp λ_=>rfl;refine Zc a ?_ (s:=Ti G a _ _ _ _ _ _ _ m _ v j i _ zd);rw[Ax];cases q:(m.p.kd v==6);refine Zg q ?_;intro k;refine Wf (λo=>o==12) [Wl b c d e f g m x,.int .i64 v,Za .new 1 (V.int .u8) (.mk false [10])] [] ⟨Zb,Zb,?_,trivial⟩ trivial ?_;exact Xa (f:=V.int .u8) (l:=[10]) (m:=1) (g:=k) (fz:=0) (c:=.new) rfl zp λ_=>rfl;refine Zc a ?_ (s:=Ti G a _ _ _ _ _ _ _ m _ v j i _ zd);rw[Ax];cases n:(m.p.kd v==10);refine Zg n ?_;rfl
 .refine Zg (zi n Uz) ?_
  refine Ze a (λw h=>?_) (s:=Gd G a _ _ _ _ m.p (r.rc _) t v j i);obtain⟨s,u,rfl⟩:=h;refine Zg u ?_;rw[Bool.false_or,Bool.true_and];refine congrArg V.bool ?_;rw[Bool.eq_iff_iff];simp
  try omega
 refine Zg q ?_;rfl
def encW(p:List Int×Int):List V:=[Za .new 1 (V.int .i64) (.mk false p.1),.int .i64 p.2]
theorem Zd8(p:List Int)(v:Int):encW (p,v)=[Za .new 1 (V.int .i64) (.mk false p),.int .i64 v]:=rfl
theorem Qw{σ κ : Type}(a : σ -> κ -> Bool × σ)(s : σ)(k : κ):Yx a s [k]=a s k:=by
 rw[Yx,Yx];generalize a s k=r;obtain⟨b,c⟩:=r
 cases b<;>rfl
theorem Lw{σ κ : Type}(c : σ -> κ -> Bool × σ):∀ (a b:List κ) (s : σ),Yx c s (a++b)=if(Yx c s a).1=true then Yx c (Yx c s a).2 b else(false,(Yx c s a).2)
 |[],b,s=>rfl
 |k::r,b,s=>by
  rw[List.cons_append,Yx,Yx];cases q:(c s k).1;rfl;simp only[if_true];exact Lw c r b _
theorem Lb{σ κ : Type}{c : σ -> κ -> Prop}{d : σ -> κ -> Bool × σ}:∀ {a b:List κ} {s : σ},R6 c d s (a++b)->R6 c d s a/\((Yx d s a).1=true->R6 c d (Yx d s a).2 b)
 |[],b,s,h=>⟨trivial,λ_=>h⟩
 |k::r,b,s,h=>by
  obtain⟨g,f⟩:=h;refine⟨⟨g,λq=>(Lb (f q)).1⟩,λq=>?_⟩;rw[Yx]at q⊢;cases e:(d s k).1;rw[e]at q;simp at q;rw[e]at q;simp only[if_true]at q⊢;exact(Lb (f e)).2 q
theorem Rp{E:Ent}{lo:Nat}{τ : Nat->V}{H B:Heap}{l:List (Nat×V)}{m:List (Nat×AObj)}(h:Iy (λ_=>false) H τ l)(b:S8 H m)(d:Z9 lo H=Z9 lo B):Weak E ⟨τ,H⟩ (Hs.stM lo B l m):=by
 refine Tc (λ_=>false) (λt=>Jq t h) (λo=>?_)
 show FzO _ H o (Z5 (Z9 lo B) m o)
 rcases Ww (τ := Z9 lo B) (f:=H) o m (W9 b)with a|a
 rw[a,<- d]
 rcases Nat.lt_or_ge o lo with q|q
 rw[Xi q];trivial
 .rw[W6 q]
  have:=FzO.same (F:=λ_=>false) (H:=H) (o:=o) rfl
  cases c:H o with
  |mp=>trivial
  |_=>rw[c]at this;exact this
 rw[a];exact FzO.same rfl
theorem Z6w{P:Program}{lo:Nat}(F:Nat->Bool){G:Nat->V}{f:FuncId}{args:List V}{H:Heap}{K:V->Heap->Prop}(B:Heap)(args':List V)(a:FzL F H args args')(d:Z9 lo H=Z9 lo B)(c:∀ o,lo<=o->F o=false)(h:CallA P G f args' (Z9 lo B) K):CallA P G f args H K:=
 Kc F a.get.1 a.get.2 (λo=>by
  rcases Nat.lt_or_ge o lo with q|q
  rw[Xi q];trivial
  .rw[<- d,W6 q]
   have:=FzO.same (H:=H) (c o q)
   cases b:H o with
   |mp=>trivial
   |_=>rw[b]at this;exact this) h
def PM.walkG(m:PM)(f:Nat)(path:List Int)(t:Int):List (List Int×Int):=if path.contains t=true then[(path++[t],-1)]else m.walkF f (m.tg t) (path++[t])
theorem Ko(m:PM)(f:Nat)(v:Int)(a:List Int):m.walkF (f+1) v a=if m.oneP v=true then(m.outI v).flatMap (m.walkG f a)else[(a,v)]:=rfl
theorem Zt9(G:Nat->V)(M:Y6 G)(m:MdM)(x:IxM)(hx:IxP m.p x)(hw:m.p.ways.length<100000)(hr:∀ t:Int,0<=t->t<m.p.ways.length->0<=m.p.tg t/\m.p.tg t<m.p.vertices.length):
  ∀ (f:Nat) (path:List Int) (v:Int) (b c d e f' g:Col) (H:Heap),0<=v->v<m.p.vertices.length->path.Nodup->(∀ t∈path,0<=t/\t<m.p.ways.length)->m.p.ways.length+1-path.length<=f ->
   YfSp Tryz.prog G 100 199 (λy=>[Wl b c d e f' g m x,.int .i64 v,Za .new 1 (V.int .i64) (.mk false path),y]) H encW (m.p.walkF f v path) V.bool:=by
 intro N
 induction N with
 |zero=>
  intro path v b c d e f' g H h0 h1 F E hf;have:=PM.nodup_len F E;omega
 |succ N ih=>
  intro path v b c d e f' g H h0 h1 F E hf;have hpl:path.length<=m.p.ways.length:=PM.nodup_len F E;refine Wz .plain 0 57 4 [.tmp 8] Tryz.func199 λX t cl σ R dom C s0 hy K hR hP=>?_;refine AW.weak (Y7 (lo:=100) (B:=H) (l:=[(0,Wl b c d e f' g m x),(1,.int .i64 v),(2,Za .new 1 (V.int .i64) (.mk false path)),(3,.func t [] cl)]) (m:=[]) ⟨rfl,rfl,rfl,rfl,trivial⟩ trivial rfl) ?_;refine Z ?_;refine Zc M ?_ (s:=Z6i G M _ _ _ _ _ _ m _ (hx.rc _) zo v h0 h1);rw[Ko]at K⊢;cases q:m.p.oneP v;rw[q]at K;simp only[Bool.false_eq_true,if_false]at K⊢;refine Xr q ?_;refine T8 rfl ?_;refine Z6 (Wh [3] zk (by rfl) ?_);simp -implicitDefEqProofs only[go_sem,seval,Mf];refine⟨_,rfl,T7 hy s0 (path,v) zp zm K.1 ?_ (λY h T=>?_) zk (n:=3) rfl zp⟩;refine Zs ?_;exact hR;refine Zs ?_;refine Z ?_;rw[Qw];exact⟨.inl rfl,h⟩
  .rw[q]at K
   simp only[if_true]at K⊢;refine Xr (zi q Uz) ?_;refine Ve rfl ?_;refine AW.skip ?_;refine Xr Uz ?_;refine Z6 (Ua zk ?_);refine Xr @Uz ?_;refine Ze M (λw hw'=>?_) (s:=Gd G M _ _ _ _ m.p (hx.rc _) zo v h0 h1);obtain⟨out,j,rfl⟩:=hw'
   have hol:out.l.length<=m.p.ways.length:=by rw[j];exact PM.wysI_len _ _ _
   have hor:∀ t∈out.l,0<=t/\t<m.p.ways.length:=λt D=>by rw[j]at D;exact(PM.mem_out.1 D).1
   rw[<- j]at K⊢
   try clear j
   refine Zs ?_;refine AW.block ?_
   refine Yc out.l.length (λk (w : σ × Heap)=>Hs.stM 100 w.2 [(0,Wl b c d e f' g m x),(1,.int .i64 v),(2,Za .new 1 (V.int .i64) (.mk false path)),(3,.func t [] cl),(25,Za .new 1 (V.int .i64) out),(26,.int .i64 out.l.length),(27,.int .i64 k)] [])
    (λk w=>R6 dom C w.1 ((out.l.drop k).flatMap (m.p.walkG N path))/\R w.1 (Z9 100 w.2)/\Yx C s0 (out.l.flatMap (m.p.walkG N path))=Yx C w.1 ((out.l.drop k).flatMap (m.p.walkG N path))) 0 (s0,H) (Nat.zero_le _) ⟨K,hR,rfl⟩
    (Y7 ⟨rfl,rfl,rfl,rfl,zp,zp,zp,trivial⟩ trivial zp) ?_
   rintro k ⟨I,Hk⟩ hk ⟨A,W,i⟩ L hL;simp only at A W i
   by_cases u:k<out.l.length
   have P:decide ((k:Int)<(out.l.length:Int))=true:=zT;have hg:=List.getElem?_eq_getElem u;have J:=List.getElem_mem u;rw[List.drop_eq_getElem_cons u,List.flatMap_cons]at A i;generalize out.l[k]=z at hg J A i;obtain⟨O,tr1⟩:=hor z J;refine Zf (zi P (zi hg (zi u Yh))) ?_;intro g33;refine Z6w (lo:=100) (λo=>o==33) Hk [Za .new 1 (V.int .i64) (.mk false path),Za .new 1 (V.int .i64) (.mk false [z])] ⟨Zb,Xa (f:=V.int .i64) (l:=[z]) (m:=1) (g:=g33) (fz:=0) (c:=.new) rfl zp (λ_=>rfl),trivial⟩ zp (λo ho=>zO) ?_;refine Zc M ?_ (s:=Ha G M _ _ _ _ (by show path.length<_;omega) (by show(1:Nat)<_;omega) (by show path.length+1≠0;omega));refine Zs ?_
   refine AW.weak (Rp (lo:=100) (B:=Hk) (l:=[(0,Wl b c d e f' g m x),(1,.int .i64 v),(2,Za .new 1 (V.int .i64) (.mk false path)),(3,.func t [] cl),(10,.int .i64 z),(11,Za .new 1 (V.int .i64) (.mk false (path++[z]))),(25,Za .new 1 (V.int .i64) out),(26,.int .i64 out.l.length),(27,.int .i64 k)]) (m:=[])
    (by refine Zs ?_;exact⟨Zb,Zb,Zb,Zb,Zb,Zb,Zb,Zb,Zb⟩) trivial zp) ?_
   refine Z6 (Ua zk ?_);refine Zs ?_;refine Zc M ?_ (s:=O0 G M _ _ (.mk false path) (by show path.length<_;omega));rw[PM.walkG]at A i;have w1:IntKind.i64.wrap ((k:Int)+1)=(k:Int)+1:=Wy zo zo;cases S:path.contains z;rw[S]at A i;simp only[Bool.false_eq_true,if_false]at A i;refine Xr S ?_;refine Ve rfl ?_;refine AW.skip ?_;refine Zs ?_;obtain⟨n,y,rfl,hn,hgy,ey⟩:=m.wyAt O tr1
   have etg:m.p.tg (n:Int)=y.target:=by rw[PM.tg,ey]<;>rfl
   obtain⟨tg0,tg1⟩:=hr _ O tr1;obtain⟨da,db⟩:=Lb A;refine Z6 (Wh [12] zk (by rfl) ?_);simp -implicitDefEqProofs only[go_sem,seval,Mf,hgy,hn,Uz,Yg,@Int.natCast_nonneg,@Int.ofNat_lt];refine⟨_,rfl,I4 100 (Nat.le_refl _) (ih (path++[(n:Int)]) (m.p.tg n) b c d e f' g _ tg0 tg1 ?_ ?_ ?_) zk (λX' hle=>hy.at hle) I rfl ?_ da ?_ (λY h _=>?_) zk (n:=12) rfl zp (λ_ _ _=>trivial)⟩;rw[List.nodup_append];refine⟨F,List.pairwise_singleton ..,λa ha b' hb e=>?_⟩;rw[List.mem_singleton]at hb;subst hb e;rw[List.contains_iff_mem.2 ha]at S;cases S;intro t D
   rcases List.mem_append.1 D with D|D
   exact E t D;rw[List.mem_singleton]at D;subst D;exact⟨O,tr1⟩;rw[List.length_append]
   show _-(path.length+1)<=_
   omega;exact T9 (zi etg @Uz);refine Zs ?_;exact W;refine Zs ?_;rw[Lw]at i;generalize Yx C I (m.p.walkF N (m.p.tg (n:Int)) (path++[(n:Int)]))=r at h db i⊢;obtain⟨bb,s2⟩:=r;cases bb;refine Z ?_;rw[i];exact⟨.inl rfl,h⟩;refine Zf w1 ?_;exact hL _ ⟨u,(s2,Y),⟨db rfl,h,i⟩,Y7 ⟨rfl,rfl,rfl,rfl,zp,zp,zp,trivial⟩ trivial rfl⟩;rw[S]at A i;simp only[if_true]at A i;refine Xr S ?_;refine T8 rfl ?_;refine Z6 (Z6 (Wh [2] zk (by rfl) ?_));simp -implicitDefEqProofs only[go_sem,seval,Mf];refine⟨_,rfl,T7 hy I (path++[z],-1) zp zm A.1 ?_ (λY h T=>?_) zk (n:=2) rfl zp⟩;refine Zs ?_;exact W;refine Zs ?_;have U:=A.2
   have Q:Yx C s0 (out.l.flatMap (m.p.walkG N path))=if(C I (path++[z],-1)).1=true then Yx C (C I (path++[z],-1)).2 ((out.l.drop (k+1)).flatMap (m.p.walkG N path))else(false,(C I (path++[z],-1)).2):=i
   generalize C I (path++[z],-1)=r at h U Q⊢;obtain⟨bb,s2⟩:=r;cases bb;refine Z ?_;rw[Q];exact⟨.inl rfl,h⟩;refine Zf w1 ?_;exact hL _ ⟨u,(s2,Y),⟨U rfl,h,Q⟩,Y7 ⟨rfl,rfl,rfl,rfl,zp,zp,zp,trivial⟩ trivial rfl⟩;have hke:k=out.l.length:=zo;have P:decide ((k:Int)<(out.l.length:Int))=false:=zF;rw[hke,List.drop_length]at i;refine Zf P ?_;refine Z ?_;rw[i];refine⟨.inl rfl,?_⟩
   show R I _
   refine Zs ?_;exact W
theorem Zda(G:Nat->V)(b c d e f g:Col)(m:MdM)(x:IxM)(v:Int)(p:Sl Int):InSp Tryz.prog G 139 [Wl b c d e f g m x,.int .i64 v,Za .new 1 (V.int .i64) p] (Z5 Zj [(63,.dead),(64,.dead),(65,.dead)])
  (λw H'=>∃ g3 g4 g5,w=.func (.func 198) [] [.ptr 63 g3 0,.ptr 64 g4 0,.ptr 65 g5 0]/\H' 63=.cells .new g3 0 [Wl b c d e f g m x]/\H' 64=.cells .new g4 0 [.int .i64 v]/\H' 65=.cells .new g5 0 [Za .new 1 (V.int .i64) p]):=by
 refine Yr 60 8 [.tmp 6] Tryz.func139 rfl rfl rfl rfl λX=>?_;simp only[Z5];refine Z ?_;intro g3 g4 g5;refine Z ?_;exact⟨g3,g4,g5,rfl,zr,zr,zr⟩
theorem Zqh(G:Nat->V)(z:Y6 G)(b c d e f g:Col)(m:MdM)(x:IxM)(u:IxP m.p x)(v:m.p.ways.length<100000)(r:∀ t:Int,0<=t->t<m.p.ways.length->0<=m.p.tg t/\m.p.tg t<m.p.vertices.length)
  (t:Int) (t0:0<=t) (t1:t<m.p.ways.length) (g3 h a:Nat) (H:Heap) (D:H 63=.cells .new g3 0 [Wl b c d e f g m x]) (C:H 64=.cells .new h 0 [.int .i64 (m.p.tg t)]) (A:H 65=.cells .new a 0 [Za .new 1 (V.int .i64) (.mk false [t])]):
  Eh Tryz.prog G 100 198 [.ptr 63 g3 0,.ptr 64 h 0,.ptr 65 a 0] H encW (m.p.waysL t):=by
 refine Wz .plain 0 10 4 [] Tryz.func198 λX ty cl σ R E I s0 s w y _=>?_;obtain⟨j,i⟩:=r _ t0 t1;refine AW.weak (Y7 (lo:=100) (B:=H) (l:=[(0,.func ty [] cl),(1,.ptr 63 g3 0),(2,.ptr 64 h 0),(3,.ptr 65 a 0)]) (m:=[(63,.cells .new g3 0 [Wl b c d e f g m x]),(64,.cells .new h 0 [.int .i64 (m.p.tg t)]),(65,.cells .new a 0 [Za .new 1 (V.int .i64) (.mk false [t])])]) ⟨rfl,rfl,rfl,rfl,trivial⟩ ⟨D,C,A,trivial⟩ rfl) ?_;refine Wh [4] zk (by rfl) ?_;simp -implicitDefEqProofs only[go_sem,seval,Mf];refine⟨_,rfl,I4 100 (Nat.le_refl _) (Zt9 G z m x u v r (m.p.ways.length+1-[t].length) [t] (m.p.tg t) b c d e f g _ j i (List.pairwise_singleton ..) ?_ (Nat.le_refl _)) zk (λJ k=>s.at k) s0 rfl ?_ w ?_ (λK o _=>?_) zk (n:=4) rfl zp (λ_ _ _=>trivial)⟩;intro F q;rw[List.mem_singleton]at q;subst q;exact⟨t0,t1⟩;exact zp;refine Zs ?_;exact y;refine Z ?_;exact⟨_,rfl,.inr trivial,o⟩
end Go.Hs
end
