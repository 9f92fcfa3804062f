/- Part 49 of a proof; no condition. -/
import Derived.Test.YtegjlbpnpiigkaaGreatDoorPart47
import Derived.Test.YtegjlbpnpiigkaaGreatDoorPart48
set_option linter.unusedSimpArgs false
set_option linter.unusedVariables false
section
namespace Go.Hs
open Go.Proofs
set_option maxRecDepth 10000
set_option maxHeartbeats 4000000
def smallM:MdM:=⟨[77],.nil,.nil,.mk false [([],-1)],.mk false [⟨[],3,0,-1,[],[],.nil,[]⟩,⟨[115],1,0,-1,[],[],.nil,[]⟩],.mk false [⟨[],0,1,.nil,0,[],[],1⟩]⟩
theorem Z7i (G:Nat→V):InSp Tryz.prog G 37 [] (Zob Zl [(7002,.dead),(7005,.dead),(7007,.dead)])
  (fun v H'=>∃ g2 g5 g7,v = .agg [.str smallM.name,.nils,.nils,.msl 7002 g2 0 1 2,.msl 7005 g5 0 2 8,.msl 7007 g7 0 1 8]∧H' 7002 = .cells .new g2 0 (flat (smallM.regions.l.map Zja))∧H' 7005 = .cells .new g5 0 (flat (smallM.verts.l.map (Zwa .old)))∧H' 7007 = .cells .new g7 0 (flat (smallM.ways.l.map (Zhb .old)))):=by
 refine Zqe 7000 9 [.cell 0 28] Tryz.func37 rfl rfl rfl rfl fun X=>?_;simp only [Zob];refine Z ?_;intro g0;refine Z ?_;intro g2 g5 g7;refine Zs ?_;refine Z ?_;exact ⟨g2,g5,g7,rfl,zr,zr,zr⟩
def Zf6 (s:List UInt8):Sl (List UInt8) := .mk false [s]
def doorM:MdM:=⟨[68,111,111,114],.mk false [([110],0),([109,111,115,116],3)],.mk false [[111,112,101,110],[99,108,111,115,101],[108,111,99,107]],
 .mk false [([116,111,112],-1),([108,101,97,102],1),([98,111,108,116],1)],
 .mk false [⟨[],3,0,-1,[],[],.nil,[]⟩,⟨[68,111,111,114],1,0,-1,[110,32,58,61,32,48,59],[],Zf6 [108,111,99,107],[]⟩,⟨[],3,1,-1,[],[],.nil,[]⟩,
  ⟨[83,104,117,116],1,1,-1,[],[110,32,58,61,32,110,32,43,32,49,59],.nil,[]⟩,⟨[87,105,100,101],1,1,-1,[],[],.nil,[]⟩,⟨[],3,2,-1,[],[],.nil,[]⟩,⟨[70,114,101,101],1,2,-1,[],[],.nil,[]⟩,
  ⟨[103,111,110,101],2,2,-1,[],[],.nil,[]⟩,⟨[],8,1,-1,[],[],.nil,[]⟩,⟨[105,110],10,-1,1,[],[],.nil,[]⟩,⟨[69,110,100],2,0,-1,[],[],.nil,[]⟩],
 .mk false [⟨[],0,1,.nil,0,[],[],1⟩,⟨[],2,3,.nil,0,[],[],1⟩,⟨[],3,4,Zf6 [111,112,101,110],0,[110,32,60,32,109,111,115,116],[],1⟩,⟨[],4,3,Zf6 [99,108,111,115,101],0,[],[101,109,105,116,32,108,111,99,107,40,110,41,59],1⟩,
  ⟨[],5,6,.nil,0,[],[],1⟩,⟨[],6,7,Zf6 [108,111,99,107],0,[],[],1⟩,⟨[108,97,116,101],4,10,.nil,5,[],[],1⟩,⟨[],1,1,Zf6 [111,112,101,110],0,[102,97,108,115,101],[],3⟩]⟩
theorem Fz.one {F:Nat→Bool} {H:Heap} {o g fz:Nat} {c:Col} {s:List UInt8} (hF:F o=true) (hH:H o = .cells c g fz [.str s]):Fz F H (.msl o g 0 1 1) (Zb c 1 V.str (Zf6 s)):=Zxd (f:=V.str) (l:=[s]) hF hH fun _=>rfl
theorem Zg0 (G:Nat→V):InSp Tryz.prog G 19 [] (Zob Zl [(7103,.dead),(7104,.dead),(7108,.dead),(7121,.dead),(7134,.dead)])
  (fun v H'=>∃ g1 g2 g3 g4 g5,v = .agg [.str doorM.name,.msl 7103 g1 0 2 2,.msl 7104 g2 0 3 1,.msl 7108 g3 0 3 2,.msl 7121 g4 0 11 8,.msl 7134 g5 0 8 8]∧H' 7103 = .cells .new g1 0 (flat (doorM.vars.l.map Zja))∧H' 7104 = .cells .new g2 0 (flat (doorM.events.l.map V.str)) ∧
   H' 7108 = .cells .new g3 0 (flat (doorM.regions.l.map Zja))∧H' 7121 = .cells .new g4 0 (flat (doorM.verts.l.map (Zwa .new)))∧H' 7134 = .cells .new g5 0 (flat (doorM.ways.l.map (Zhb .new)))):=by
 refine Zqe 7100 36 [.cell 0 28] Tryz.func19 rfl rfl rfl rfl fun X=>?_;simp only [Zob];refine Z1 ?_;intro g0;refine Z1 ?_;intro g3 g4 g8 g10 g21 g24 g26 g29 g32 g34
 refine AW.weak (Zv (fun o=>o==7110 || o==7124 || o==7126 || o==7129 || o==7132) (l:=[(0,.ptr 7100 g0 0)])
  (m:=[(7100,.cells .new g0 0 [.str doorM.name,.msl 7103 g3 0 2 2,.msl 7104 g4 0 3 1,.msl 7108 g8 0 3 2,.msl 7121 g21 0 11 8,.msl 7134 g34 0 8 8]),(7103,.cells .new g3 0 (flat (doorM.vars.l.map Zja))),(7104,.cells .new g4 0 (flat (doorM.events.l.map V.str))),
   (7108,.cells .new g8 0 (flat (doorM.regions.l.map Zja))),(7121,.cells .new g21 0 (flat (doorM.verts.l.map (Zwa .new)))),(7134,.cells .new g34 0 (flat (doorM.ways.l.map (Zhb .new))))]) ?_ ?_) ?_
 ·refine Zs ?_
  exact Zd _
 ·simp only [Zx,Zz,and_true]
  refine ⟨FzO.keep rfl rfl,FzO.keep rfl rfl,FzO.keep rfl rfl,FzO.keep rfl rfl,FzO.of rfl rfl ?_,FzO.of rfl rfl ?_⟩<;>repeat first | exact trivial | refine ⟨Zd _,?_⟩ | refine ⟨Fz.one rfl rfl,?_⟩
 refine Z ?_;exact ⟨g3,g4,g8,g21,g34,rfl,rfl,rfl,rfl,rfl,rfl⟩
end Go.Hs
end

section
namespace Go.Hs
open Go.Proofs
set_option maxRecDepth 10000
set_option maxHeartbeats 4000000
theorem Rd.row {α : Type} {H:Heap} {o g fz m:Nat} {c:Col} {f f' : α → V} {l:List α} (hH:H o = .cells c g fz (flat (l.map f))) (hf:∀ x,(f x).cells.length=m)
  (hIm:∀ x,∀ y∈(f x).cells,y.Im) (hf':∀ x,(f x).recol Col.ent=f' x):Rd H (.msl o g 0 l.length m) (Zb .old m f' (.mk false l)):=by
 have:=Rd.msl (l:=l) (off:=0) (n:=l.length) (o:=o) (g:=g) hH hf hIm hf' (by omega);rw [List.drop_zero,List.take_length,Nat.zero_mul] at this;exact this
theorem Z0m (l:Sl (Nat × Int)) (e:Int):V.Nw (.tuple [Zb .new 2 Zwb l,.int .i64 e]):=by
 refine .tuple _ fun x hx=>?_;simp only [List.mem_cons,List.not_mem_nil,or_false] at hx
 rcases hx with rfl | rfl
 ·exact Nw.enc (fun p y hy=>by
   simp only [Zhj,V.cells,List.mem_cons,List.not_mem_nil,or_false] at hy
   rcases hy with rfl | rfl<;>exact .int _ _) l
 ·exact .int _ _
theorem Z9t (p:List UInt8 × Int):∀ y∈(Zja p).cells,y.Im:=by
 intro y hy;simp only [Zza,V.cells,List.mem_cons,List.not_mem_nil,or_false] at hy
 rcases hy with rfl | rfl<;>first | exact .str _ | exact .int _ _
theorem Zz3 (s:List UInt8):∀ y∈(V.str s).cells,y.Im:=by
 intro y hy;simp only [V.cells,List.mem_cons,List.not_mem_nil,or_false] at hy;rw [hy];exact .str _
theorem Zuw (c:Col) (s:Sl (List UInt8)):(Zb c 1 V.str s).Im:=by
 cases s with
 | nil=>exact .nils
 | mk b l=>exact .slice _ _ _ _ (fun x hx=>by obtain ⟨v,hv,hx⟩:=List.mem_flatMap.1 hx;obtain ⟨a,_,rfl⟩:=List.mem_map.1 hv;exact Zz3 a x hx)
theorem Zx0 (c:Col) (x:VtM):∀ y∈(Zwa c x).cells,y.Im:=by
 intro y hy;simp only [Zt,V.cells,List.mem_cons,List.not_mem_nil,or_false] at hy
 rcases hy with rfl | rfl | rfl | rfl | rfl | rfl | rfl | rfl<;>first | exact .str _ | exact .int _ _ | exact Zuw _ _
theorem Zy0 (c:Col) (x:TrM):∀ y∈(Zhb c x).cells,y.Im:=by
 intro y hy;simp only [Z9,V.cells,List.mem_cons,List.not_mem_nil,or_false] at hy
 rcases hy with rfl | rfl | rfl | rfl | rfl | rfl | rfl | rfl<;>first | exact .str _ | exact .int _ _ | exact Zuw _ _
def goW:List UInt8:=[103,111]
def small2:MdM:={ smallM with events:=Zf6 goW,ways := .mk false [⟨[],0,1,Zf6 goW,0,[],[],1⟩] }
def small3:MdM:={ smallM with ways := .mk false [⟨[],0,1,.nil,0,[],[],1⟩,⟨[],0,1,.nil,0,[],[],1⟩] }
def small4:MdM:={ smallM with verts := .mk false [⟨[],3,0,-1,[],[],.nil,[]⟩,⟨[115],1,0,-1,[120,32,58,61,32,49,59],[],.nil,[]⟩] }
theorem Zzv:smallM.p.checkW Zea Z4=([],0):=by decide +kernel
theorem Zct:small2.p.checkW Zea Z4=([(9,0)],0):=by decide +kernel
theorem Zbt:small3.p.checkW Zea Z4=([(2,0)],0):=by decide +kernel
theorem Zat:small4.p.checkW Zea Z4=([(13,1)],0):=by decide +kernel
theorem Zp4:doorM.p.inW 3 1=true∧doorM.p.inW 1 3=false:=by decide +kernel
theorem small_b:MdB smallM:=by constructor<;>decide
theorem Zb6:MdB small2:=by constructor<;>decide
theorem Z95:MdB small3:=by constructor<;>decide
theorem Z75:MdB small4:=by constructor<;>decide
theorem Zv8:MdB doorM:=by constructor<;>decide
theorem small_t:MdT smallM:=by constructor<;>decide
theorem Za6:MdT small2:=by constructor<;>decide
theorem Z85:MdT small3:=by constructor<;>decide
theorem Z65:MdT small4:=by constructor<;>decide
end Go.Hs
end

section
namespace Go.Hs
open Go.Proofs
set_option maxRecDepth 10000
set_option maxHeartbeats 4000000
theorem Zuz:flat (smallM.ways.l.map (Zhb .old))=[.str [],.int .i64 0,.int .i64 1,.nils,.int .i64 0,.str [],.str [],.int .u8 1]:=rfl
theorem Zyv:flat (smallM.verts.l.map (Zwa .old))=[.str [],.int .u8 3,.int .i64 0,.int .i64 (-1),.str [],.str [],.nils,.str [],.str [115],.int .u8 1,.int .i64 0,.int .i64 (-1),.str [],.str [],.nils,.str []]:=rfl
theorem Z1l (G:Nat→V) (hE:GExp G):Spec Tryz.prog G 12 [] Zl (fun v _=>v = .bool true):=by
 have hG:=hE.ok
 have one9:∀ c,Spec Tryz.prog G 38 [Zb c 2 Zwb (Zm [(9,0)]),.int .u8 9,.int .i64 0] Zl (fun v _=>v = .bool true):=fun c=>(Z3i G c _ 9 0).mono fun v _ e=>by rw [e,Zp]<;>rfl
 have one2:∀ c,Spec Tryz.prog G 38 [Zb c 2 Zwb (Zm [(2,0)]),.int .u8 2,.int .i64 0] Zl (fun v _=>v = .bool true):=fun c=>(Z3i G c _ 2 0).mono fun v _ e=>by rw [e,Zp]<;>rfl
 have one13:∀ c,Spec Tryz.prog G 38 [Zb c 2 Zwb (Zm [(13,1)]),.int .u8 13,.int .i64 1] Zl (fun v _=>v = .bool true):=fun c=>(Z3i G c _ 13 1).mono fun v _ e=>by rw [e,Zp]<;>rfl
 refine Zo 0 85 [.tmp 0] Tryz.func12 fun X=>?_;refine Z ?_;refine CallA.inl [(7002,.dead),(7005,.dead),(7007,.dead)] zk (by intro p hp;simp only [List.mem_cons,List.not_mem_nil,or_false] at hp;rcases hp with rfl | rfl | rfl<;>rfl) ?_;refine (Z7i G).mono ?_;rintro _ H' ⟨g2,g5,g7,rfl,q2,q5,q7⟩;simp only [List.map_cons,List.map_nil,q2,q5,q7];refine Zu ?_;intro g1;refine Z ?_;refine Zze hG [Z2 .old .old smallM] zk ⟨Rd.agg ⟨Z3a (.str _) rfl,Z3a .nils rfl,Z3a .nils rfl,Rd.row (l:=smallM.regions.l) zp Zle Z9t (fun _=>rfl),Rd.row (l:=smallM.verts.l) zp (Zfh _) (Zx0 _) (Zng _ _),Rd.row (l:=smallM.ways.l) zp (Zih _) (Zy0 _) (Zog _ _),trivial⟩,trivial⟩ ((Zxe G hE .old .old smallM small_b (fun _=>small_t)).mono ?_);rintro _ _ rfl;rw [Zzv];refine ⟨Z0m _ _,?_⟩;refine Zs ?_;refine Z1 ?_;intro g19;refine Z1 ?_;intro g23
 refine AW.weak (Zv (fun o=>o==19 || o==23) (l:=[(1,.ptr 1 g1 0),(2,Zb .new 2 Zwb (Zm [])),(3,.int .i64 0)])
  (m:=[(1,.cells .new g1 0 [.str smallM.name,.nils,Zb .new 1 V.str (Zf6 goW),.msl 7002 g2 0 1 2,.msl 7005 g5 0 2 8,.msl 7007 g7 0 1 8]),(7002,.cells .new g2 0 (flat (small2.regions.l.map Zja))),(7005,.cells .new g5 0 (flat (small2.verts.l.map (Zwa .old)))),(7007,.cells .new g7 0 (flat (small2.ways.l.map (Zhb .new))))]) ?_ ?_) ?_
 ·refine Zs ?_
  exact ⟨Zd _,Zd _,Zd _⟩
 ·simp only [Zx,Zz,and_true]
  refine ⟨FzO.of rfl rfl ?_,FzO.keep rfl rfl,FzO.keep rfl rfl,FzO.of rfl rfl ?_⟩<;>repeat first | exact trivial | refine ⟨Zd _,?_⟩ | refine ⟨Fz.one rfl rfl,?_⟩
 refine Z ?_;refine Zze hG [Z2 .old .old small2] zk ⟨Rd.agg ⟨Z3a (.str _) rfl,Z3a .nils rfl,Z3a (Zuw _ _) rfl,Rd.row (l:=small2.regions.l) zp Zle Z9t (fun _=>rfl),Rd.row (l:=small2.verts.l) zp (Zfh _) (Zx0 _) (Zng _ _),Rd.row (l:=small2.ways.l) zp (Zih _) (Zy0 _) (Zog _ _),trivial⟩,trivial⟩ ((Zxe G hE .old .old small2 Zb6 (fun _=>Za6)).mono ?_);rintro _ _ rfl;rw [Zct];refine ⟨Z0m _ _,?_⟩;refine Zs ?_;refine AW.weak (Za (l:=[(2,Zb .new 2 Zwb (Zm [])),(3,.int .i64 0),(4,Zb .new 2 Zwb (Zm [(9,0)]))]) (m:=[]) zp zp) ?_;refine Z ?_;refine CallA.inl [(7002,.dead),(7005,.dead),(7007,.dead)] zk (by intro p hp;simp only [List.mem_cons,List.not_mem_nil,or_false] at hp;rcases hp with rfl | rfl | rfl<;>rfl) ?_;refine (Z7i G).mono ?_;rintro _ H' ⟨n2,n5,n7,rfl,q2,q5,q7⟩;simp only [List.map_cons,List.map_nil,q2,q5,q7];refine Zu ?_;intro g6;refine ZTf Zuz hG ?_;intro g38;refine ⟨Zaa (by omega) (by omega),fun h7=>?_⟩;refine Z ?_;refine Zze hG [Z2 .old .old small3] zk ⟨Rd.agg ⟨Z3a (.str _) rfl,Z3a .nils rfl,Z3a .nils rfl,Rd.row (l:=small3.regions.l) zp Zle Z9t (fun _=>rfl),Rd.row (l:=small3.verts.l) zp (Zfh _) (Zx0 _) (Zng _ _),Rd.row (f:=Zhb .old) (l:=small3.ways.l) zp (Zih _) (Zy0 _) (Zog _ _),trivial⟩,trivial⟩ ((Zxe G hE .old .old small3 Z95 (fun _=>Z85)).mono ?_);rintro _ _ rfl;rw [Zbt];refine ⟨Z0m _ _,?_⟩
 refine Zs ?_;refine AW.weak (Za (l:=[(2,Zb .new 2 Zwb (Zm [])),(3,.int .i64 0),(4,Zb .new 2 Zwb (Zm [(9,0)])),(7,Zb .new 2 Zwb (Zm [(2,0)]))]) (m:=[]) zp zp) ?_;refine Z ?_;refine CallA.inl [(7002,.dead),(7005,.dead),(7007,.dead)] zk (by intro p hp;simp only [List.mem_cons,List.not_mem_nil,or_false] at hp;rcases hp with rfl | rfl | rfl<;>rfl) ?_;refine (Z7i G).mono ?_;rintro _ H' ⟨k2,k5,k7,rfl,q2,q5,q7⟩;simp only [List.map_cons,List.map_nil,q2,q5,q7];refine Zu ?_;intro g9;refine Zf Zyv ?_;refine Zze hG [Z2 .old .old small4] zk ⟨Rd.agg ⟨Z3a (.str _) rfl,Z3a .nils rfl,Z3a .nils rfl,Rd.row (l:=small4.regions.l) zp Zle Z9t (fun _=>rfl),Rd.row (f:=Zwa .old) (l:=small4.verts.l) zp (Zfh _) (Zx0 _) (Zng _ _),Rd.row (l:=small4.ways.l) zp (Zih _) (Zy0 _) (Zog _ _),trivial⟩,trivial⟩ ((Zxe G hE .old .old small4 Z75 (fun _=>Z65)).mono ?_);rintro _ _ rfl;rw [Zat];refine ⟨Z0m _ _,?_⟩;refine Zs ?_;refine AW.weak (Za (l:=[(2,Zb .new 2 Zwb (Zm [])),(3,.int .i64 0),(4,Zb .new 2 Zwb (Zm [(9,0)])),(7,Zb .new 2 Zwb (Zm [(2,0)])),(10,Zb .new 2 Zwb (Zm [(13,1)]))]) (m:=[]) zp zp) ?_;refine Z ?_;refine CallA.inl [(7103,.dead),(7104,.dead),(7108,.dead),(7121,.dead),(7134,.dead)] zk (by intro p hp;simp only [List.mem_cons,List.not_mem_nil,or_false] at hp;rcases hp with rfl | rfl | rfl | rfl | rfl<;>rfl) ?_;refine (Zg0 G).mono ?_;rintro _ H' ⟨d1,d2,d3,d4,d5,rfl,q1,q2,q3,q4,q5⟩
 simp only [List.map_cons,List.map_nil,q1,q2,q3,q4,q5];refine Zu ?_;intro g12;refine Z ?_;refine Zc hG ?_ (s:=one9 _);refine Zc hG ?_ (s:=one2 _);refine Zc hG ?_ (s:=one13 _);refine Zze hG [Z2 .old .old doorM,.int .i64 3,.int .i64 1] zk ⟨Rd.agg ⟨Z3a (.str _) rfl,Rd.row (l:=doorM.vars.l) zp Zle Z9t (fun _=>rfl),Rd.row (l:=doorM.events.l) zp (fun _=>rfl) Zz3 (fun _=>rfl),Rd.row (l:=doorM.regions.l) zp Zle Z9t (fun _=>rfl),Rd.row (l:=doorM.verts.l) zp (Zfh _) (Zx0 _) (Zng _ _),Rd.row (l:=doorM.ways.l) zp (Zih _) (Zy0 _) (Zog _ _),trivial⟩,Z3a (.int _ _) rfl,Z3a (.int _ _) rfl,trivial⟩ ((Zy3 G hE .old .old doorM Zv8 3 1).mono ?_);rintro _ _ rfl;rw [Zp4.1];refine ⟨.bool _,?_⟩;refine Zs ?_;refine Zze hG [Z2 .old .old doorM,.int .i64 1,.int .i64 3] zk ⟨Rd.agg ⟨Z3a (.str _) rfl,Rd.row (l:=doorM.vars.l) zp Zle Z9t (fun _=>rfl),Rd.row (l:=doorM.events.l) zp (fun _=>rfl) Zz3 (fun _=>rfl),Rd.row (l:=doorM.regions.l) zp Zle Z9t (fun _=>rfl),Rd.row (l:=doorM.verts.l) zp (Zfh _) (Zx0 _) (Zng _ _),Rd.row (l:=doorM.ways.l) zp (Zih _) (Zy0 _) (Zog _ _),trivial⟩,Z3a (.int _ _) rfl,Z3a (.int _ _) rfl,trivial⟩ ((Zy3 G hE .old .old doorM Zv8 1 3).mono ?_);rintro _ _ rfl;rw [Zp4.2];refine ⟨.bool _,?_⟩;refine Zs ?_;exact Zr
end Go.Hs
end

section
namespace Go.Hs
open Go.Proofs
set_option maxHeartbeats 1000000
set_option maxRecDepth 10000
theorem Zzm (G:Nat→V) (hG:GOk G) (s:List UInt8) (hs:s.length<1000000000000000):Spec Tryz.prog G 70 [.str s] Zl (fun v _=>v = .bool (isP s==2)):=by
 refine Zo 0 6 [.tmp 2] Tryz.func70 fun X=>?_;refine Z ?_;refine Zc hG ?_ (s:=Zqg G hG s hs);rw [← isI];exact Zr
theorem Zsg (G:Nat→V) (hG:GOk G) (s:List UInt8) (hs:s.length<1000000000000000):Spec Tryz.prog G 203 [.str s] Zl (fun v _=>v = .bool (Zrc s)):=by
 refine Zo 0 9 [.tmp 2] Tryz.func203 fun X=>?_;rw [Zrc]
 cases h:(s==[]) with
 | true=>exact Zq h
 | false =>
  refine Zf h ?_;refine Zc hG ?_ (s:=Zzm G hG s hs);rw [Bool.false_or];exact Zr
theorem Z6r {l:List (List UInt8)} {s:List UInt8} (h:∀ y∈l,(y==s)=false):l.contains s=false:=by
 rw [List.contains_eq_any_beq,List.any_eq_false];intro y hy;rw [BEq.comm,h y hy];decide
theorem Z6i (G:Nat→V) (c:Col) (s:List UInt8) (l:Sl (List UInt8)) (hl:l.l.length<1000000):Spec Tryz.prog G 128 [.str s,Zb c 1 V.str l] Zl (fun v _=>v = .bool (l.l.contains s)):=by
 refine Zo 0 18 [.tmp 4] Tryz.func128 fun X=>?_;refine Z ?_;refine Zda l.l.length (fun k (_:Unit)=>st [(0,.str s),(1,Zb c 1 V.str l),(5,.int .i64 k)] []) (fun k _=>∀ y∈l.l.take k,(y==s)=false) 0 () (Nat.zero_le _) (by simp) (Za zp zp) ?_;intro k _ hk hR L2 hL2
 by_cases hk1:k<l.l.length
 ·have hlt:decide ((k:Int)<(l.l.length:Int))=true:=zT
  have hg:=List.getElem?_eq_getElem hk1;generalize l.l[k]=x at hg;have w1:IntKind.i64.wrap ((k:Int)+1)=(k:Int)+1:=w64 (by omega) (by omega);cases h6:(x==s)
  ·refine Zf (zi hlt (zi hg (zi h6 w1))) ?_
   exact hL2 _ ⟨hk1,(),Zae (p:=fun y=>y==s) hg hR h6,Za zp zp⟩
  ·have:l.l.contains s=true:=by
    rw [List.contains_iff_mem,← eq_of_beq h6];exact List.mem_of_getElem? hg
   rw [this];exact Zq (zi hlt (zi hg h6))
 ·have hke:k=l.l.length:=by omega
  have hlt:decide ((k:Int)<(l.l.length:Int))=false:=zF;rw [hke,List.take_length] at hR;rw [Z6r hR];exact Zq hlt
theorem Z1d (G:Nat→V) (i n:Int):Spec Tryz.prog G 99 [.int .i64 i,.int .i64 n] Zl (fun v _=>v = .bool (decide (0≤i) && decide (i<n))):=by
 refine Zo 0 12 [.tmp 4] Tryz.func99 fun X=>?_
 by_cases h0:0≤i
 ·have q:decide (i≥0)=true:=zT
  rw [decide_eq_true h0];exact Zq q
 ·have q:decide (i≥0)=false:=zF
  rw [decide_eq_false h0];exact Zq q
theorem Z9l (G:Nat→V) (hG:GOk G) (c d c1:Col) (m:MdM) (l:Sl (List UInt8)) (he:m.events.l.length<1000000) (hl:l.l.length<1000000) :
  Spec Tryz.prog G 204 [Z2 c d m,Zb c1 1 V.str l] Zl (fun w _=>w = .bool (evB m.events.l l.l)):=by
 refine Zo 0 30 [.tmp 4] Tryz.func204 fun X=>?_;simp only [Zj];refine Z ?_;intro g2;refine AW.weak (Zv (fun o=>o==2) (l:=[(1,Zb c1 1 V.str l),(2,.view .new (Z2 c d m))]) (m:=[]) ?_ trivial) ?_
 ·refine Zs ?_
  exact ⟨Zd _,Fz.ptr (v:=Z2 c d m) (c := .new) (fz:=0) zp zp⟩
 refine Z ?_
 refine Zda l.l.length (fun k (_:Unit)=>st [(1,Zb c1 1 V.str l),(2,.view .new (Z2 c d m)),(5,.int .i64 k)] [])
  (fun k _=>∀ i s,i<k→l.l[i]? = some s→m.events.l.contains s=true∧(l.l.take i).contains s=false) 0 () (Nat.zero_le _) (fun i s h=>absurd h (Nat.not_lt_zero _)) (Za zp zp) ?_
 intro k _ hk hR L3 hL3
 by_cases hk1:k<l.l.length
 ·have hlt:decide ((k:Int)<(l.l.length:Int))=true:=zT
  have hg:=List.getElem?_eq_getElem hk1;generalize l.l[k]=x at hg;have w1:IntKind.i64.wrap ((k:Int)+1)=(k:Int)+1:=w64 (by omega) (by omega);refine Z1f hlt ?_;have hsp2:=fun c=>Z6i G c x (l.sub 0 k) (by rw [Zqi];simp;omega);rw [Zqi] at hsp2;have hsp1:=fun c=>Z6i G c x m.events he
  cases h1:m.events.l.contains x with
  | false =>
   rw [h1] at hsp1
   repeat first
    | refine Z5 ?_
    | refine AW.block ?_
    | refine Zpc rfl ?_
    | refine Z9a rfl ?_
    | (refine AW.skip ?_;simp -implicitDefEqProofs only[go_sem,seval])
    | (refine AW.exit ?_;simp -implicitDefEqProofs only[go_sem,seval])
   refine Zw ⟨fun i=>if i=6 then .bool false else .top,fun _ => .pure⟩ zk hG zk zk ?_;refine Zsf (zi hg @Zj) ?_;refine ⟨⟨by kernel_rfl,by simp -implicitDefEqProofs only[go_sem,seval];exact (hsp1 _).mono (by rintro _ _ rfl;rfl)⟩,?_⟩
   have:evB m.events.l l.l=false:=by
    rw [Bool.eq_false_iff];intro h;have:=(Zvq.1 h k x hg).1;rw [h1] at this;cases this
   rw [this];exact Zr
  | true =>
   rw [h1] at hsp1
   cases h2:(l.l.take k).contains x with
   | true =>
    rw [h2] at hsp2
    repeat first
     | refine Z5 ?_
     | refine AW.block ?_
     | refine Zpc rfl ?_
     | refine Z9a rfl ?_
     | (refine AW.skip ?_;simp -implicitDefEqProofs only[go_sem,seval])
     | (refine AW.exit ?_;simp -implicitDefEqProofs only[go_sem,seval])
    refine Zw ⟨fun i=>if i=6 then .bool true else if i=16 then .bool true else .top,fun _ => .pure⟩ zk hG zk zk ?_;simp -implicitDefEqProofs only[go_sem,seval,hg,Zj,Nat.zero_le,Nat.le_of_lt hk1];refine ⟨⟨by kernel_rfl,by simp -implicitDefEqProofs only[go_sem,seval];exact (hsp1 _).mono (by rintro _ _ rfl;rfl)⟩,⟨by kernel_rfl,by simp -implicitDefEqProofs only[go_sem,seval];exact (hsp2 _).mono (by rintro _ _ rfl;rfl)⟩,?_⟩
    have:evB m.events.l l.l=false:=by
     rw [Bool.eq_false_iff];intro h;have:=(Zvq.1 h k x hg).2;rw [h2] at this;cases this
    rw [this];exact Zr
   | false =>
    rw [h2] at hsp2
    repeat first
     | refine Z5 ?_
     | refine AW.block ?_
     | refine Zpc rfl ?_
     | refine Z9a rfl ?_
     | (refine AW.skip ?_;simp -implicitDefEqProofs only[go_sem,seval])
     | (refine AW.exit ?_;simp -implicitDefEqProofs only[go_sem,seval])
    refine Zw ⟨fun i=>if i=6 then .bool true else if i=16 then .bool false else .top,fun _ => .pure⟩ zk hG zk zk ?_;simp -implicitDefEqProofs only[go_sem,seval,hg,Zj,Nat.zero_le,Nat.le_of_lt hk1];refine ⟨⟨by kernel_rfl,by simp -implicitDefEqProofs only[go_sem,seval];exact (hsp1 _).mono (by rintro _ _ rfl;rfl)⟩,⟨by kernel_rfl,by simp -implicitDefEqProofs only[go_sem,seval];exact (hsp2 _).mono (by rintro _ _ rfl;rfl)⟩,?_⟩;refine Zf w1 ?_;refine hL3 _ ⟨hk1,(),fun i s hi hs=>?_,Za (zpf Zj) zp⟩
    by_cases h3:i=k
    ·subst h3
     rw [hg] at hs;obtain rfl:=Option.some.inj hs;exact ⟨h1,h2⟩
    ·exact hR i s (by omega) hs
 have hke:k=l.l.length:=by omega
 subst hke
 have hlt:decide ((l.l.length:Int)<(l.l.length:Int))=false:=by simp
 rw [Zvq.2 fun i s hs=>hR i s (List.getElem?_eq_some_iff.1 hs).1 hs];exact Zq hlt
theorem Zv2 (G:Nat→V) (hG:GOk G) (c d:Col) (m:MdM) (hl:m.vars.l.length<1000000) (i:Nat) {x:List UInt8 × Int} (hg:m.vars.l[i]? = some x) (hx:x.1.length<1000000000000000) :
  Spec Tryz.prog G 127 [Z2 c d m,.int .i64 i] Zl (fun v _=>v = .bool (m.p.varB i)):=by
 refine Zo 0 40 [.tmp 4] Tryz.func127 fun X=>?_;have hi:i<m.vars.l.length:=(List.getElem?_eq_some_iff.1 hg).1
 have hn:m.p.nameAt i=x.1:=by
  show (m.vars.l.getD i ([],0)).1=x.1
  rw [List.getD_eq_getElem?_getD,hg]<;>rfl
 have hP:m.p.varB i=((isP x.1==2) && !(x.1==Z9g) && !((m.vars.l.take i).any fun y=>y.1==x.1)):=by rw [PM.varB,hn]<;>rfl
 rw [hP];simp only [Zj];refine Z ?_;intro g2;refine AW.weak (Zv (fun o=>o==2) (l:=[(1,.int .i64 i),(2,.view .new (Z2 c d m))]) (m:=[]) ?_ trivial) ?_
 ·refine Zs ?_
  exact ⟨Zd _,Fz.ptr (v:=Z2 c d m) (c := .new) (fz:=0) zp zp⟩
 refine Z ?_;refine Zda i (fun k (_:Unit)=>st [(1,.int .i64 i),(2,.view .new (Z2 c d m)),(5,.int .i64 k)] []) (fun k _=>∀ y∈m.vars.l.take k,(y.1==x.1)=false) 0 () (Nat.zero_le _) (by simp) (Za zp zp) ?_;intro k _ hk hR L3 hL3
 by_cases hk1:k<i
 ·have hlt:decide ((k:Int)<(i:Int))=true:=zT
  have hkl:k<m.vars.l.length:=by omega
  have hgk:=List.getElem?_eq_getElem hkl;have hmem:m.vars.l[k]∈m.vars.l.take i:=List.mem_of_getElem? (i:=k) (by rw [List.getElem?_take,if_pos hk1];exact hgk);generalize m.vars.l[k]=y at hgk hmem;have w1:IntKind.i64.wrap ((k:Int)+1)=(k:Int)+1:=w64 (by omega) (by omega);refine Z1f hlt ?_;refine ZTf (zi hg (zi hi (zi hgk (zi hkl (zi Zza (zi Zj (zi @Int.natCast_nonneg @Int.ofNat_lt))))))) hG ?_;cases h6:(y.1==x.1)
  ·refine Zf (zi h6 w1) ?_
   exact hL3 _ ⟨hk1,(),Zae (p:=fun y=>y.1==x.1) hgk hR h6,Za (zpf Zj) zp⟩
  ·rw [List.any_eq_true.2 ⟨y,hmem,h6⟩]
   simp only [Bool.not_true,Bool.and_false];exact Zq h6
 ·have hke:k=i:=by omega
  subst hke
  have hlt:decide ((k:Int)<(k:Int))=false:=by simp
  rw [List.any_eq_false.2 (fun y hy=>by rw [hR y hy];decide),Bool.not_false,Bool.and_true];refine Z1f hlt ?_;refine Zf (zi hg (zi hi (zi Zza (zi Zj (zi @Int.natCast_nonneg @Int.ofNat_lt))))) ?_;refine Zc hG ?_ (s:=Zzm G hG x.1 hx);cases h1:(isP x.1==2)
  ·exact Zh h1
  ·have hb:(x.1 != [97,114,103]) = !(x.1==Z9g):=rfl
   refine Zg (zi h1 (zi hg (zi hi (zi Zza (zi Zj (zi @Int.natCast_nonneg @Int.ofNat_lt)))))) ?_;rw [← hb,Bool.true_and]
   try rfl
theorem Zw2 (G:Nat→V) (hG:GOk G) (c d:Col) (m:MdM) (i:Nat) {x:List UInt8 × Int} (hg:m.regions.l[i]? = some x) (hx:x.1.length<1000000000000000) :
  Spec Tryz.prog G 129 [Z2 c d m,.int .i64 i] Zl (fun v _=>v = .bool (m.p.regionB i)):=by
 refine Zo 0 46 [.tmp 4] Tryz.func129 fun X=>?_;have hi:i<m.regions.l.length:=(List.getElem?_eq_some_iff.1 hg).1
 have hn:(m.p.regions.getD i ([],0))=x:=by
  show m.regions.l.getD i ([],0)=x
  rw [List.getD_eq_getElem?_getD,hg]<;>rfl
 have ho:m.p.ow (i:Int)=x.2:=Zzk hg;rw [PM.regionB,hn];simp only [Zj];refine Z ?_;intro g2;refine Zf (zi hg (zi hi (zi Zza (zi @Int.natCast_nonneg @Int.ofNat_lt)))) ?_;intro g5;refine Z ?_;refine Zc hG ?_ (s:=Zsg G hG x.1 hx);cases h1:Zrc x.1
 ·exact Zh h1
 by_cases h:i=0
 ·rw [if_pos h]
  rw [h] at ho;rw [show m.p.ow 0=x.2 from ho]
  have q:((i:Int)==0)=true:=by simp [h]
  exact Zh (zi h1 q)
 ·rw [if_neg h,ho]
  have q:((i:Int)==0)=false:=by
   have:¬ (i:Int)=0:=by omega
   simpa using this
  refine Zg (zi h1 q) ?_;refine Zc hG ?_ (s:=Z1d G x.2 m.verts.l.length)
  have hS:m.p.stateB x.2=(decide (0≤x.2) && decide (x.2<(m.verts.l.length:Int)) && ((m.p.vx x.2).kind==1)):=by rw [PM.stateB,m.nv]
  rw [hS];cases h2:(decide (0≤x.2) && decide (x.2<(m.verts.l.length:Int)))
  ·exact Zh h2
  ·have h3:=h2
   simp only [Bool.and_eq_true,decide_eq_true_eq] at h3;obtain ⟨k,y,hk0,hk,hkg,hy⟩:=MdM.at h3.1 (by rw [m.nv];exact h3.2);rw [hy];have fk:=zi h2 (zi hk0 (zi hkg (zi hk (zi Zt (zi @Int.natCast_nonneg @Int.ofNat_lt)))));cases h4:(y.kind==1)
   ·have:(y.p.kind==1)=false:=h4
    rw [this];exact Zh (zi fk h4)
   ·have:(y.p.kind==1)=true:=h4
    rw [this];exact Zh (zi fk h4)
theorem Zwf (G:Nat→V) (hG:GOk G) (c d:Col) (m:MdM) (hm:m.p.Rt5) (v:Int) (h0:0≤v) (h1:v<m.p.vertices.length) :
  Spec Tryz.prog G 174 [Z2 c d m,.int .i64 v] Zl (fun w _=>w = .int .i64 (m.p.around v)):=by
 refine Zo 0 29 [.tmp 4] Tryz.func174 fun X=>?_;have hpt:=hm.pt h0 h1;obtain ⟨k,x,rfl,hk,hg,hx⟩:=MdM.at h0 h1;rw [PM.around];rw [hx] at hpt ⊢;simp only [Zj];have f:=zi hg (zi hk (zi Zt (zi @Int.natCast_nonneg @Int.ofNat_lt)));refine Z ?_;intro g2
 by_cases ho:0≤x.of
 ·have q:decide (x.of≥0)=true:=zT
  refine Zf (zi f q) ?_
  rw [if_pos (show 0≤x.p.of from ho)]<;>rfl
 ·have q:decide (x.of≥0)=false:=zF
  obtain ⟨_,r0,r1,_⟩:=hpt.resolve_left (fun h=>ho h.1);obtain ⟨r,y,hr,hrk,hrg,hy⟩:=Z8m r0 r1;rw [if_neg (show ¬ 0≤x.p.of from ho),hy];have hr:x.region=(r:Int):=hr;refine Zf (zi f q) ?_;refine ZTf (zi f (zi hr (zi hrg (zi hrk Zza)))) hG ?_;exact Zr
theorem Za0 (G:Nat→V) (hG:GOk G) (c d:Col) (m:MdM) (hm:m.p.Rt5) (v:Int) (h0:0≤v) (h1:v<m.p.vertices.length) :
  Spec Tryz.prog G 131 [Z2 c d m,.int .i64 v] Zl (fun w _=>w = .int .i64 (m.p.depth v)):=by
 refine Zo 0 20 [.tmp 4] Tryz.func131 fun X=>?_;simp only [Zj];refine Z ?_;intro g2;refine AW.weak (Zv (fun o=>o==2) (l:=[(1,.int .i64 v),(2,.view .new (Z2 c d m))]) (m:=[]) ?_ trivial) ?_
 ·refine Zs ?_
  exact ⟨Zd _,Fz.ptr (v:=Z2 c d m) (c := .new) (fz:=0) zp zp⟩
 refine Z ?_
 refine Zlb (fun (y:Nat × Int)=>st [(1,.int .i64 y.2),(2,.view .new (Z2 c d m)),(5,.int .i64 y.1)] [])
  (fun y=>y.1≤65∧0≤y.2∧y.2<m.p.vertices.length∧m.p.depth v=y.1+(m.p.upsF (65-y.1) y.2).length) (fun y=>65-y.1) (0,v) ⟨Nat.zero_le _,h0,h1,by rw [Nat.zero_add]<;>rfl⟩ (Za (zpf Zj) zp) ?_
 rintro ⟨n,w⟩ ⟨hn,w0,w1,hd⟩ L7 hL7;simp only at hn w0 w1 hd
 by_cases hn2:n<65
 ·have q1:decide ((n:Int)<65)=true:=zT
  refine Zf (zi q1 Zj) ?_;refine Zc hG ?_ (s:=Zwf G hG c.ent d.ent m hm w w0 w1)
  by_cases ha:0≤m.p.around w
  ·have q0:decide (m.p.around w≥0)=true:=zT
   have e1:IntKind.i64.wrap ((n:Int)+1)=(n:Int)+1:=w64 (by omega) (by omega)
   have ha1:m.p.around w<m.p.vertices.length:=by
    rcases hm.rng w0 w1 with q | q
    ·omega
    ·exact q.2
   refine Zg (zi q0 Zj) ?_;refine Zc hG ?_ (s:=Zwf G hG c.ent d.ent m hm w w0 w1);refine Zf e1 ?_;refine hL7 _ ⟨(n+1,m.p.around w),by show 65-(n+1)<65-n;omega,⟨by show n+1≤65;omega,ha,ha1,?_⟩,Za (zpf Zj) zp⟩
   show m.p.depth v=n+1+(m.p.upsF (65-(n+1)) (m.p.around w)).length
   rw [hd,show 65-n=(65-(n+1))+1 by omega,PM.upsF,if_neg (by omega),List.length_cons];omega
  ·have q0:decide (m.p.around w≥0)=false:=zF
   have:m.p.upsF (65-n) w=[]:=by
    cases h:65-n with
    | zero=>rfl
    | succ f=>rw [PM.upsF,if_pos (by omega)]
   rw [hd,this];exact Zh q0
 ·have q1:decide ((n:Int)<65)=false:=zF
  rw [hd,show 65-n=0 by omega];exact Zq q1
theorem gtL (n k:Nat):decide (((n:Nat):Int) > ((k:Nat):Int)) = !decide (n≤k):=by
 rw [Bool.eq_iff_iff,Bool.not_eq_true',decide_eq_true_eq,decide_eq_false_iff_not];omega
theorem gtZ (n:Nat):decide (((n:Nat):Int) > 0) = !decide (n=0):=by
 rw [Bool.eq_iff_iff,Bool.not_eq_true',decide_eq_true_eq,decide_eq_false_iff_not];omega
theorem eqZ (n:Nat):(((n:Nat):Int)==0)=decide (n=0):=by
 rw [Bool.eq_iff_iff,beq_iff_eq,decide_eq_true_eq];omega
theorem Zu2 (G:Nat→V) (hG:GOk G) (c d:Col) (m:MdM) (he:m.events.l.length<1000000) (i:Nat) {x:VtM} (hg:m.verts.l[i]? = some x) (b1:x.name.length<1000000000000000) (b2:x.sub.length<1000000000000000) (b3:x.defers.l.length<1000000) :
  Spec Tryz.prog G 130 [Z2 c d m,.int .i64 i] Zl (fun v _=>v = .bool (m.p.vertexB (m.p.vx i))):=by
 refine Zo 0 114 [.tmp 4] Tryz.func130 fun X=>?_;have hi:i<m.verts.l.length:=(List.getElem?_eq_some_iff.1 hg).1;rw [Zpf hg]
 have hP:m.p.vertexB x.p=(Zrc x.name && decide (1≤x.kind) && decide (x.kind≤12) && m.p.liesB x.p && ((x.entry==[] && x.exit==[] && decide (x.defers.l.length=0) && x.sub==[]) || x.kind==1) && Zrc x.sub &&
  decide (x.entry.length≤4096) && decide (x.exit.length≤4096) && evB m.events.l x.defers.l):=rfl
 have hL:m.p.liesB x.p=if x.kind=10∨x.kind=11 then (x.region == -1) && m.p.stateB x.of else (x.of == -1) && decide (0≤x.region) && decide (x.region<m.regions.l.length):=rfl
 have hS:m.p.stateB x.of=(decide (0≤x.of) && decide (x.of<(m.verts.l.length:Int)) && ((m.p.vx x.of).kind==1)):=by rw [PM.stateB,m.nv]
 generalize m.p.vertexB x.p=vb at hP ⊢;generalize m.p.liesB x.p=lb at hP hL;simp only [Zj];refine Z ?_;intro g2;refine Zf (zi hg (zi hi (zi Zt (zi @Int.natCast_nonneg @Int.ofNat_lt)))) ?_;intro g5;refine AW.weak (Zv (fun o=>o==5 || o==2) (l:=[(2,.view .new (Z2 c d m)),(5,.view .new (Zwa d x))]) (m:=[]) ?_ trivial) ?_
 ·refine Zs ?_
  exact ⟨Fz.ptr (v:=Z2 c d m) (c := .new) (fz:=0) zp zp,Fz.ptr (v:=Zwa d x) (c := .new) (fz:=0) zp zp⟩
 refine Zf Zt ?_;refine Zc hG ?_ (s:=Zsg G hG x.name b1);cases q1:Zrc x.name
 ·have hN:vb=false:=by
   rw [hP];simp only [q1,Bool.and_false,Bool.false_and,Bool.or_false,Bool.false_or]
  rw [hN];exact Zh (q1)
 refine Zg (zi q1 Zt) ?_;refine Zc hG ?_ (s:=Zsg G hG x.sub b2);cases q2:Zrc x.sub
 ·have hN:vb=false:=by
   rw [hP];simp only [q2,Bool.and_false,Bool.false_and,Bool.or_false,Bool.false_or]
  rw [hN];exact Zh (q2)
 by_cases h3:1≤x.kind
 rotate_left
 ·have f3:decide (x.kind<1)=true:=zT
  have q3:=decide_eq_false h3
  have hN:vb=false:=by
   rw [hP];simp only [q3,Bool.and_false,Bool.false_and,Bool.or_false,Bool.false_or]
  rw [hN];exact Zh (zi q2 (zi f3 Zt))
 have f3:decide (x.kind<1)=false:=zF;have q3:=decide_eq_true h3
 by_cases h4:x.kind≤12
 rotate_left
 ·have f4:decide (x.kind > 12)=true:=zT
  have q4:=decide_eq_false h4
  have hN:vb=false:=by
   rw [hP];simp only [q4,Bool.and_false,Bool.false_and,Bool.or_false,Bool.false_or]
  rw [hN];exact Zh (zi q2 (zi f3 (zi f4 Zt)))
 have f4:decide (x.kind > 12)=false:=zF;have q4:=decide_eq_true h4;have f5:decide (((x.entry.length:Nat):Int) > 4096) = !decide (x.entry.length≤4096):=gtL _ 4096;have f6:decide (((x.exit.length:Nat):Int) > 4096) = !decide (x.exit.length≤4096):=gtL _ 4096;cases q5:decide (x.entry.length≤4096)
 ·rw [q5] at f5
  have hN:vb=false:=by
   rw [hP];simp only [q5,Bool.and_false,Bool.false_and,Bool.or_false,Bool.false_or]
  rw [hN];exact Zh (zi q2 (zi f3 (zi f4 (zi f5 Zt))))
 rw [q5] at f5;cases q6:decide (x.exit.length≤4096)
 ·rw [q6] at f6
  have hN:vb=false:=by
   rw [hP];simp only [q6,Bool.and_false,Bool.false_and,Bool.or_false,Bool.false_or]
  rw [hN];exact Zh (zi q2 (zi f3 (zi f4 (zi f5 (zi f6 Zt)))))
 rw [q6] at f6;refine Zg (zi q2 (zi f3 (zi f4 (zi f5 (zi f6 (zi Zt Zj)))))) ?_;refine Zc hG ?_ (s:=Z9l G hG c.ent d.ent d.ent m x.defers he b3);cases q7:evB m.events.l x.defers.l
 ·have hN:vb=false:=by
   rw [hP];simp only [q7,Bool.and_false,Bool.false_and,Bool.or_false,Bool.false_or]
  rw [hN];exact Zh (q7)
 rw [q1,q2,q3,q4,q5,q6,q7] at hP;simp only [Bool.true_and,Bool.and_true] at hP;have f8:=gtZ x.defers.l.length;have e1:(x.kind != 1) = !(x.kind==1):=rfl;refine Zsf q7 ?_;refine Z0 ?_;refine Zia (fun (_:Unit)=>st [(2,.view .new (Z2 c d m)),(5,.view .new (Zwa d x))] []) (fun _=>vb=lb) (fun K1 hK1=>?_) ?_
 ·cases r1:(x.kind==1)
  rotate_left
  ·rw [r1] at hP e1
   simp only [Bool.or_true,Bool.and_true] at hP;refine Zf (zi e1 Zt) ?_;exact hK1 _ () hP (Za (zpf (zi @Zt @Zj)) zp)
  rw [r1] at hP e1;simp only [Bool.or_false] at hP;cases r2:(x.entry==[])
  ·have hN:vb=false:=by
    rw [hP];simp only [r2,Bool.and_false,Bool.false_and,Bool.or_false,Bool.false_or]
   rw [hN];exact Zh (zi e1 (zi r2 Zt))
  cases r3:(x.exit==[])
  ·have hN:vb=false:=by
    rw [hP];simp only [r3,Bool.and_false,Bool.false_and,Bool.or_false,Bool.false_or]
   rw [hN];exact Zh (zi e1 (zi r2 (zi r3 Zt)))
  cases r5:decide (x.defers.l.length=0)
  ·rw [r5] at f8
   have hN:vb=false:=by
    rw [hP];simp only [r5,Bool.and_false,Bool.false_and,Bool.or_false,Bool.false_or]
   rw [hN];exact Zh (zi e1 (zi r2 (zi r3 (zi f8 Zt))))
  rw [r5] at f8;cases r4:(x.sub==[])
  ·have hN:vb=false:=by
    rw [hP];simp only [r4,Bool.and_false,Bool.false_and,Bool.or_false,Bool.false_or]
   rw [hN];exact Zh (zi e1 (zi r2 (zi r3 (zi f8 (zi r4 Zt)))))
  rw [r2,r3,r4,r5] at hP;simp only [Bool.and_true,Bool.true_and] at hP;refine Zf (zi e1 (zi r2 (zi r3 (zi f8 (zi r4 Zt))))) ?_;exact hK1 _ () hP (Za (zpf (zi @Zt @Zj)) zp)
 rintro _ rfl
 try clear hP
 refine Zia (fun (_:Unit)=>st [(2,.view .new (Z2 c d m)),(5,.view .new (Zwa d x))] []) (fun _=>¬ (x.kind=10∨x.kind=11)) (fun K1 hK1=>?_) ?_
 ·cases r1:(x.kind==10)
  ·cases r2:(x.kind==11)
   ·refine Zf (zi r1 (zi r2 Zt)) ?_
    refine hK1 _ () (fun h=>?_) (Za (zpf (zi @Zt @Zj)) zp)
    rcases h with h | h
    ·rw [h] at r1;cases r1
    ·rw [h] at r2;cases r2
   ·rw [if_pos (.inr (by simpa using r2))] at hL
    subst hL;cases p1:(x.region == -1)
    ·exact Zq (zi (zi r1 r2) (zi p1 Zt))
    refine Zf (zi (zi r1 r2) (zi p1 (zi Zt Zj))) ?_;refine Zc hG ?_ (s:=Z1d G x.of m.verts.l.length);rw [hS];cases p2:(decide (0≤x.of) && decide (x.of<(m.verts.l.length:Int)))
    ·exact Zh p2
    have h3:=p2;simp only [Bool.and_eq_true,decide_eq_true_eq] at h3;obtain ⟨k,y,hk0,hk,hkg,hy⟩:=MdM.at h3.1 (by rw [m.nv];exact h3.2);rw [hy];have fk:=zi p2 (zi hk0 (zi hkg (zi hk (zi Zt (zi Zj (zi @Int.natCast_nonneg @Int.ofNat_lt))))));cases h4:(y.kind==1)
    ·have e4:(y.p.kind==1)=false:=h4
     rw [e4];exact Zh (zi fk h4)
    ·have e4:(y.p.kind==1)=true:=h4
     rw [e4];exact Zh (zi fk h4)
  ·rw [if_pos (.inl (by simpa using r1))] at hL
   subst hL;cases p1:(x.region == -1)
   ·exact Zq (zi (r1) (zi p1 Zt))
   refine Zf (zi (r1) (zi p1 (zi Zt Zj))) ?_;refine Zc hG ?_ (s:=Z1d G x.of m.verts.l.length);rw [hS];cases p2:(decide (0≤x.of) && decide (x.of<(m.verts.l.length:Int)))
   ·exact Zh p2
   have h3:=p2;simp only [Bool.and_eq_true,decide_eq_true_eq] at h3;obtain ⟨k,y,hk0,hk,hkg,hy⟩:=MdM.at h3.1 (by rw [m.nv];exact h3.2);rw [hy];have fk:=zi p2 (zi hk0 (zi hkg (zi hk (zi Zt (zi Zj (zi @Int.natCast_nonneg @Int.ofNat_lt))))));cases h4:(y.kind==1)
   ·have e4:(y.p.kind==1)=false:=h4
    rw [e4];exact Zh (zi fk h4)
   ·have e4:(y.p.kind==1)=true:=h4
    rw [e4];exact Zh (zi fk h4)
 intro _ hz;rw [if_neg hz] at hL;subst hL;cases p1:(x.of == -1)
 ·exact Zq (zi p1 Zt)
 refine Zf (zi p1 (zi Zt Zj)) ?_;refine Zc hG ?_ (s:=Z1d G x.region m.regions.l.length);rw [Bool.true_and];exact Zr
theorem Zt2 (G:Nat→V) (hG:GOk G) (c d:Col) (m:MdM) (he:m.events.l.length<1000000) (i:Nat) {x:TrM} (hg:m.ways.l[i]? = some x) (b1:x.name.length<1000000000000000) (b3:x.triggers.l.length<1000000) :
  Spec Tryz.prog G 132 [Z2 c d m,.int .i64 i] Zl (fun v _=>v = .bool (m.p.wayB (m.p.wy i))):=by
 refine Zo 0 81 [.tmp 4] Tryz.func132 fun X=>?_;have hi:i<m.ways.l.length:=(List.getElem?_eq_some_iff.1 hg).1;rw [Zxh hg]
 have hV:∀ v:Int,m.p.inV v=(decide (0≤v) && decide (v<(m.verts.l.length:Int))):=fun v=>by rw [PM.inV,m.nv]
 have hP:m.p.wayB x.p=(Zrc x.name && (decide (0≤x.source) && decide (x.source<(m.verts.l.length:Int))) && (decide (0≤x.target) && decide (x.target<(m.verts.l.length:Int))) && evB m.events.l x.triggers.l && decide (0≤x.after) && decide (x.after≤65535) && (x.after==0 || decide (x.triggers.l.length=0)) &&
  decide (1≤x.kind) && decide (x.kind≤3) && decide (x.guard.length≤4096) && decide (x.effect.length≤4096)):=by rw [← hV,← hV]<;>rfl
 generalize m.p.wayB x.p=vb at hP ⊢;simp only [Zj];refine Z ?_;intro g2;refine Zf (zi hg (zi hi (zi Z9 (zi @Int.natCast_nonneg @Int.ofNat_lt)))) ?_;intro g5;refine AW.weak (Zv (fun o=>o==5 || o==2) (l:=[(2,.view .new (Z2 c d m)),(5,.view .new (Zhb d x))]) (m:=[]) ?_ trivial) ?_
 ·refine Zs ?_
  exact ⟨Fz.ptr (v:=Z2 c d m) (c := .new) (fz:=0) zp zp,Fz.ptr (v:=Zhb d x) (c := .new) (fz:=0) zp zp⟩
 refine Zf (zi Z9 Zj) ?_;refine Zc hG ?_ (s:=Zsg G hG x.name b1);cases q1:Zrc x.name
 ·have hN:vb=false:=by
   rw [hP];simp only [q1,Bool.and_false,Bool.false_and,Bool.or_false,Bool.false_or]
  rw [hN];exact Zh (q1)
 refine Zg (zi q1 Z9) ?_;refine Zc hG ?_ (s:=Z1d G x.source m.verts.l.length);cases q2:(decide (0≤x.source) && decide (x.source<(m.verts.l.length:Int)))
 ·have hN:vb=false:=by
   rw [hP];simp only [q2,Bool.and_false,Bool.false_and,Bool.or_false,Bool.false_or]
  rw [hN];exact Zh (q2)
 refine Zg (zi q2 Z9) ?_;refine Zc hG ?_ (s:=Z1d G x.target m.verts.l.length);cases q3:(decide (0≤x.target) && decide (x.target<(m.verts.l.length:Int)))
 ·have hN:vb=false:=by
   rw [hP];simp only [q3,Bool.and_false,Bool.false_and,Bool.or_false,Bool.false_or]
  rw [hN];exact Zh (q3)
 refine Zg (zi q3 (zi Z9 Zj)) ?_;refine Zc hG ?_ (s:=Z9l G hG c.ent d.ent d.ent m x.triggers he b3);cases q4:evB m.events.l x.triggers.l
 ·have hN:vb=false:=by
   rw [hP];simp only [q4,Bool.and_false,Bool.false_and,Bool.or_false,Bool.false_or]
  rw [hN];exact Zh (q4)
 by_cases h5:1≤x.kind
 rotate_left
 ·have f5:decide (x.kind<1)=true:=zT
  have q5:=decide_eq_false h5
  have hN:vb=false:=by
   rw [hP];simp only [q5,Bool.and_false,Bool.false_and,Bool.or_false,Bool.false_or]
  rw [hN];exact Zh (zi q4 (zi f5 Z9))
 have f5:decide (x.kind<1)=false:=zF;have q5:=decide_eq_true h5
 by_cases h6:x.kind≤3
 rotate_left
 ·have f6:decide (x.kind > 3)=true:=zT
  have q6:=decide_eq_false h6
  have hN:vb=false:=by
   rw [hP];simp only [q6,Bool.and_false,Bool.false_and,Bool.or_false,Bool.false_or]
  rw [hN];exact Zh (zi q4 (zi f5 (zi f6 Z9)))
 have f6:decide (x.kind > 3)=false:=zF;have q6:=decide_eq_true h6;rw [q1,q2,q3,q4,q5,q6] at hP;simp only [Bool.true_and,Bool.and_true] at hP;refine Zsf (zi q4 (zi f5 (zi f6 Z9))) ?_;refine Z0 ?_;have f:=Z9
 by_cases h7:0≤x.after
 rotate_left
 ·have f7:decide (x.after≥0)=false:=zF
  have q7:=decide_eq_false h7
  have hN:vb=false:=by rw [hP,q7]<;>rfl
  rw [hN];exact Zq (zi f7 f)
 have f7:decide (x.after≥0)=true:=zT;rw [decide_eq_true h7,Bool.true_and] at hP;cases q8:decide (x.after≤65535)
 ·have hN:vb=false:=by rw [hP,q8]<;>rfl
  rw [hN];exact Zq (zi f7 (zi q8 f))
 rw [q8,Bool.true_and] at hP;have fb:decide (((x.guard.length:Nat):Int)≤4096)=decide (x.guard.length≤4096):=decide_eq_decide.2 (by omega);have fc:decide (((x.effect.length:Nat):Int)≤4096)=decide (x.effect.length≤4096):=decide_eq_decide.2 (by omega);have f8:=eqZ x.triggers.l.length;cases qa:(x.after==0)
 ·cases qb:decide (x.triggers.l.length=0)
  ·have hN:vb=false:=by rw [hP,qa,qb]<;>rfl
   rw [hN];rw [qb] at f8;exact Zq (zi f7 (zi q8 (zi qa (zi f8 f))))
  ·rw [qa,qb] at hP
   rw [qb] at f8;simp only [Bool.or_true,Bool.true_and] at hP;rw [hP];cases qc:decide (x.guard.length≤4096)
   ·rw [qc] at fb
    exact Zq (zi fb (zi f7 (zi q8 (zi qa (zi f8 f)))))
   rw [qc] at fb;exact Zq (zi fb (zi fc (zi f7 (zi q8 (zi qa (zi f8 f))))))
 ·rw [qa] at hP
  simp only [Bool.true_or,Bool.true_and] at hP;rw [hP];cases qc:decide (x.guard.length≤4096)
  ·rw [qc] at fb
   exact Zq (zi fb (zi f7 (zi q8 (zi qa f))))
  rw [qc] at fb;exact Zq (zi fb (zi fc (zi f7 (zi q8 (zi qa f)))))
theorem Z9z (G:Nat→V) (hG:GOk G) (c d:Col) (m:MdM) (hb:MdB m) (i:Nat) (hi:i<m.vars.l.length):Spec Tryz.prog G 71 [Z2 c d m,.int .i64 2,.int .i64 i] Zl (fun v _=>v = .bool (m.p.varB i)):=by
 refine Zo 0 53 [.tmp 6] Tryz.func71 fun X=>?_;simp only [Zj];refine Z ?_;intro g3;refine Z ?_;refine Zc hG ?_ (s:=Zv2 G hG c.ent d.ent m (by have:=hb.nv;omega) i (List.getElem?_eq_getElem hi) (hb.var _ (List.getElem_mem hi)));exact Zr
theorem Z8z (G:Nat→V) (hG:GOk G) (c d:Col) (m:MdM) (hb:MdB m) (i:Nat) (hi:i<m.events.l.length):Spec Tryz.prog G 71 [Z2 c d m,.int .i64 3,.int .i64 i] Zl (fun v _=>v = .bool (m.p.signalB i)):=by
 refine Zo 0 53 [.tmp 6] Tryz.func71 fun X=>?_;have hg:=List.getElem?_eq_getElem hi;have hx:=hb.ev _ (List.getElem_mem hi);generalize m.events.l[i]=x at hg hx;have hl:=hb.ne
 have hn:m.p.events.getD i []=x:=by
  show m.events.l.getD i []=x
  rw [List.getD_eq_getElem?_getD,hg]<;>rfl
 have hP:m.p.signalB i=((isP x==2) && !(m.events.l.take i).contains x):=by rw [PM.signalB,hn]<;>rfl
 rw [hP];simp only [Zj];refine Z ?_;intro g3;refine AW.weak (Zv (fun o=>o==3) (l:=[(1,.int .i64 3),(2,.int .i64 i),(3,.view .new (Z2 c d m))]) (m:=[]) ?_ trivial) ?_
 ·refine Zs ?_
  exact ⟨Zd _,Zd _,Fz.ptr (v:=Z2 c d m) (c := .new) (fz:=0) zp zp⟩
 refine Z ?_;have hsp1:=Zzm G hG x hx;have hsp2:=fun c=>Z6i G c x (m.events.sub 0 i) (by rw [Zqi];simp;omega);rw [Zqi] at hsp2;cases h1:(isP x==2)
 ·rw [h1] at hsp1
  repeat first
   | refine Z5 ?_
   | refine AW.block ?_
   | refine Zpc rfl ?_
   | refine Z9a rfl ?_
   | (refine AW.skip ?_;simp -implicitDefEqProofs only[go_sem,seval])
   | (refine AW.exit ?_;simp -implicitDefEqProofs only[go_sem,seval])
  refine Zw ⟨fun i=>if i=5 then .bool false else .top,fun _ => .pure⟩ zk hG zk zk ?_;refine Zsf (zi hg @Zj) ?_;refine ⟨⟨by kernel_rfl,by simp -implicitDefEqProofs only[go_sem,seval];exact hsp1.mono (by rintro _ _ rfl;rfl)⟩,?_⟩;exact Zr
 ·rw [h1] at hsp1
  generalize (m.events.l.take i).contains x=bb at hsp2;cases bb
  ·repeat first
    | refine Z5 ?_
    | refine AW.block ?_
    | refine Zpc rfl ?_
    | refine Z9a rfl ?_
    | (refine AW.skip ?_;simp -implicitDefEqProofs only[go_sem,seval])
    | (refine AW.exit ?_;simp -implicitDefEqProofs only[go_sem,seval])
   refine Zw ⟨fun i=>if i=5 then .bool true else if i=16 then .bool false else .top,fun _ => .pure⟩ zk hG zk zk ?_;simp -implicitDefEqProofs only[go_sem,seval,hg,Zj,Nat.zero_le,Nat.le_of_lt hi];refine ⟨⟨by kernel_rfl,by simp -implicitDefEqProofs only[go_sem,seval];exact hsp1.mono (by rintro _ _ rfl;rfl)⟩,⟨by kernel_rfl,by simp -implicitDefEqProofs only[go_sem,seval];exact (hsp2 _).mono (by rintro _ _ rfl;rfl)⟩,?_⟩;exact Zr
  ·repeat first
    | refine Z5 ?_
    | refine AW.block ?_
    | refine Zpc rfl ?_
    | refine Z9a rfl ?_
    | (refine AW.skip ?_;simp -implicitDefEqProofs only[go_sem,seval])
    | (refine AW.exit ?_;simp -implicitDefEqProofs only[go_sem,seval])
   refine Zw ⟨fun i=>if i=5 then .bool true else if i=16 then .bool true else .top,fun _ => .pure⟩ zk hG zk zk ?_;simp -implicitDefEqProofs only[go_sem,seval,hg,Zj,Nat.zero_le,Nat.le_of_lt hi];refine ⟨⟨by kernel_rfl,by simp -implicitDefEqProofs only[go_sem,seval];exact hsp1.mono (by rintro _ _ rfl;rfl)⟩,⟨by kernel_rfl,by simp -implicitDefEqProofs only[go_sem,seval];exact (hsp2 _).mono (by rintro _ _ rfl;rfl)⟩,?_⟩;exact Zr
theorem Z7z (G:Nat→V) (hG:GOk G) (c d:Col) (m:MdM) (hb:MdB m) (i:Nat) (hi:i<m.regions.l.length):Spec Tryz.prog G 71 [Z2 c d m,.int .i64 4,.int .i64 i] Zl (fun v _=>v = .bool (m.p.regionB i)):=by
 refine Zo 0 53 [.tmp 6] Tryz.func71 fun X=>?_;simp only [Zj];refine Z ?_;intro g3;refine Z ?_;refine Zc hG ?_ (s:=Zw2 G hG c.ent d.ent m i (List.getElem?_eq_getElem hi) (hb.rg _ (List.getElem_mem hi)));exact Zr
theorem Z6z (G:Nat→V) (hG:GOk G) (c d:Col) (m:MdM) (hb:MdB m) (i:Nat) (hi:i<m.verts.l.length):Spec Tryz.prog G 71 [Z2 c d m,.int .i64 5,.int .i64 i] Zl (fun v _=>v = .bool (m.p.vertexB (m.p.vx i))):=by
 refine Zo 0 53 [.tmp 6] Tryz.func71 fun X=>?_;simp only [Zj];refine Z ?_;intro g3;refine Z ?_;obtain ⟨b1,b2,b3⟩:=hb.vt _ (List.getElem_mem hi);refine Zc hG ?_ (s:=Zu2 G hG c.ent d.ent m (by have:=hb.ne;omega) i (List.getElem?_eq_getElem hi) b1 b2 b3);exact Zr
theorem Z5z (G:Nat→V) (hG:GOk G) (c d:Col) (m:MdM) (hm:m.p.Rt5) (i:Nat) (hi:i<m.verts.l.length):Spec Tryz.prog G 71 [Z2 c d m,.int .i64 6,.int .i64 i] Zl (fun v _=>v = .bool (m.p.deepB i)):=by
 refine Zo 0 53 [.tmp 6] Tryz.func71 fun X=>?_;simp only [Zj];refine Z ?_;intro g3;refine Z ?_;have hP:m.p.deepB i=decide (((m.p.depth i:Nat):Int)≤64):=decide_eq_decide.2 (by omega);rw [hP];refine Zc hG ?_ (s:=Za0 G hG c.ent d.ent m hm i (by omega) (by rw [m.nv];omega));exact Zr
theorem Z4z (G:Nat→V) (hG:GOk G) (c d:Col) (m:MdM) (hb:MdB m) (i:Nat) (hi:i<m.ways.l.length):Spec Tryz.prog G 71 [Z2 c d m,.int .i64 7,.int .i64 i] Zl (fun v _=>v = .bool (m.p.wayB (m.p.wy i))):=by
 refine Zo 0 53 [.tmp 6] Tryz.func71 fun X=>?_;simp only [Zj];refine Z ?_;intro g3;refine Z ?_;obtain ⟨b1,b3⟩:=hb.wy _ (List.getElem_mem hi);refine Zc hG ?_ (s:=Zt2 G hG c.ent d.ent m (by have:=hb.ne;omega) i (List.getElem?_eq_getElem hi) b1 b3);exact Zr
def Znw (m:MdM):List Int:=[0,0,m.vars.l.length,m.events.l.length,m.regions.l.length,m.verts.l.length,m.verts.l.length,m.ways.l.length]
def mostL:List Int:=[0,0,64,64,512,512,512,512]
def partL:List Int:=[0,0,2,3,4,5,5,6]
structure RuleAt (G:Nat→V) (m:MdM) (k n mo pt:Nat) (p:Nat→Bool):Prop where
 hn:(Znw m)[k]? = some (n:Int)
 hm:mostL[k]? = some (mo:Int)
 hp:partL[k]? = some (pt:Int)
 sc:m.p.ruleF (k-1)=Zsb pt mo p n
 lt:n≤600
 pz:pt≠0
 mlt:mo≤512
 may:∀ c d i,i<n→Spec Tryz.prog G 71 [Z2 c d m,.int .i64 k,.int .i64 i] Zl (fun v _=>v = .bool (p i))
theorem ruleAt (G:Nat→V) (hG:GOk G) (m:MdM) (hb:MdB m) (k:Nat) (h2:2≤k) (h7:k<8) (hr:∀ j,j<k-1→(m.p.ruleF j).1=0) (hz:k=4→m.regions.l≠[]):∃ n mo pt p,RuleAt G m k n mo pt p:=by
 have hk:k=2∨k=3∨k=4∨k=5∨k=6∨k=7:=by omega
 rcases hk with rfl | rfl | rfl | rfl | rfl | rfl
 ·exact ⟨_,_,_,_,rfl,rfl,rfl,rfl,hb.nv,by decide,by decide,fun c d i hi=>Z9z G hG c d m hb i hi⟩
 ·exact ⟨_,_,_,_,rfl,rfl,rfl,rfl,hb.ne,by decide,by decide,fun c d i hi=>Z8z G hG c d m hb i hi⟩
 ·exact ⟨_,_,_,_,rfl,rfl,rfl,if_neg (hz rfl),hb.nr,by decide,by decide,fun c d i hi=>Z7z G hG c d m hb i hi⟩
 ·exact ⟨_,_,_,_,rfl,rfl,rfl,by rw [← m.nv]<;>rfl,hb.nx,by decide,by decide,fun c d i hi=>Z6z G hG c d m hb i hi⟩
 ·exact ⟨_,_,_,_,rfl,rfl,rfl,by rw [← m.nv]<;>rfl,hb.nx,by decide,by decide,fun c d i hi=>Z5z G hG c d m (PM.rt_vt (hr 3 (by decide)) (hr 4 (by decide))) i hi⟩
 ·exact ⟨_,_,_,_,rfl,rfl,rfl,by rw [← m.nw]<;>rfl,hb.nw,by decide,by decide,fun c d i hi=>Z4z G hG c d m hb i hi⟩
theorem Zcw (G:Nat→V) (hG:GOk G) (c d:Col) (m:MdM) (hb:MdB m):Spec Tryz.prog G 40 [Z2 c d m] Zl (fun v _=>v = .tuple [.int .u8 m.p.rightP.1,.int .i64 m.p.rightP.2.1,.int .i64 m.p.rightP.2.2]):=by
 refine Zo 0 76 [.tmp 2,.tmp 3,.tmp 4] Tryz.func40 fun X=>?_;rw [Zun]
 have h0:m.p.ruleF 0=if isP m.name=2 then (0,0,0) else (1,0,130):=rfl
 simp only [Zj];refine Z ?_;intro g1;refine Z ?_;refine Zc hG ?_ (s:=Zzm G hG m.name hb.nm);cases q:(isP m.name==2)
 ·rw [if_neg (by simpa using q)] at h0
  rw [Zmb (i:=0) (by decide) (fun j hj=>absurd hj (Nat.not_lt_zero _)) (by rw [h0];decide),h0];exact Zh q
 rw [if_pos (by simpa using q)] at h0;refine Zg q ?_;intro g32;refine Z ?_;intro g33;refine Z ?_;intro g34;refine Z ?_;refine AW.weak (Zv (fun o=>o==1 || o==32 || o==33 || o==34) (l:=[(1,.view .new (Z2 c d m)),(5,Zb .new 1 (V.int .i64) (.mk false (Znw m))),(6,Zb .new 1 (V.int .i64) (.mk false mostL)),(7,Zb .new 1 (V.int .u8) (.mk false partL)),(8,.int .i64 2)]) (m:=[]) ?_ trivial) ?_
 ·refine Zs ?_
  exact ⟨Fz.ptr (v:=Z2 c d m) (c := .new) (fz:=0) zp zp,Zxd (f:=V.int .i64) (l:=Znw m) (m:=1) (g:=g32) (fz:=0) (c := .new) rfl zp (fun _=>rfl),Zxd (f:=V.int .i64) (l:=mostL) (m:=1) (g:=g33) (fz:=0) (c := .new) rfl zp (fun _=>rfl),Zxd (f:=V.int .u8) (l:=partL) (m:=1) (g:=g34) (fz:=0) (c := .new) rfl zp (fun _=>rfl),Zd _⟩
 refine Zda 8 (fun k (_:Unit)=>st [(1,.view .new (Z2 c d m)),(5,Zb .new 1 (V.int .i64) (.mk false (Znw m))),(6,Zb .new 1 (V.int .i64) (.mk false mostL)),(7,Zb .new 1 (V.int .u8) (.mk false partL)),(8,.int .i64 k)] []) (fun k _=>2≤k∧∀ j,j<k-1→(m.p.ruleF j).1=0) 2 () (by decide) ⟨Nat.le_refl _,fun j hj=>by
  obtain rfl:j=0:=by omega
  rw [h0]⟩ (Za zp zp) ?_
 rintro k _ hk ⟨hk2,hR⟩ L3 hL3
 by_cases hk1:k<8
 rotate_left
 ·obtain rfl:k=8:=by omega
  rw [Zfj (fun j hj=>hR j (by omega))];exact Zr
 have hlt:decide ((k:Int)<8)=true:=zT;have w1:IntKind.i64.wrap ((k:Int)+1)=(k:Int)+1:=w64 (by omega) (by omega);refine Z1f hlt ?_;refine Z0 ?_;refine Z5 ?_;refine AW.block ?_;refine Zia (fun (_:Unit)=>st [(1,.view .new (Z2 c d m)),(5,Zb .new 1 (V.int .i64) (.mk false (Znw m))),(6,Zb .new 1 (V.int .i64) (.mk false mostL)),(7,Zb .new 1 (V.int .u8) (.mk false partL)),(8,.int .i64 k)] []) (fun _=>k=4→m.regions.l≠[]) (fun K1 hK1=>?_) ?_
 ·by_cases h4:k=4
  ·have q4:((k:Int)==4)=true:=by simp [h4]
   by_cases hr:m.regions.l=[]
   ·have q5:(((m.regions.l.length:Nat):Int)==0)=true:=by rw [hr]<;>rfl
    have hF:m.p.ruleF 3=(4,0,130):=if_pos hr;rw [Zmb (i:=3) (by decide) (fun j hj=>hR j (by omega)) (by rw [hF];decide),hF];exact Zq (zi q4 (zi q5 Zj))
   ·have q5:(((m.regions.l.length:Nat):Int)==0)=false:=by
     have:m.regions.l.length≠0:=fun e=>hr (List.length_eq_zero_iff.1 e)
     have:¬ ((m.regions.l.length:Nat):Int)=0:=by omega
     simpa using this
    refine Zf (zi q4 (zi q5 Zj)) ?_;exact hK1 _ () (fun _=>hr) (Za (zpf Zj) zp)
  ·have q4:((k:Int)==4)=false:=by
    have:¬ (k:Int)=4:=by omega
    simpa using this
   refine Zf q4 ?_;exact hK1 _ () (fun h=>absurd h h4) (Za zp zp)
 intro _ hz;obtain ⟨n,mo,pt,p,hA⟩:=ruleAt G hG m hb k hk2 hk1 hR hz;have f:=zi hA.hn (zi hA.hm (zi hA.hp (zi (show k<(Znw m).length from hk1) (zi (show k<mostL.length from hk1) (zi (show k<partL.length from hk1) (zi @Int.natCast_nonneg @Int.ofNat_lt))))));refine Z ?_;refine Zda n (fun i (_:Unit)=>st [(1,.view .new (Z2 c d m)),(5,Zb .new 1 (V.int .i64) (.mk false (Znw m))),(6,Zb .new 1 (V.int .i64) (.mk false mostL)),(7,Zb .new 1 (V.int .u8) (.mk false partL)),(8,.int .i64 k),(9,.int .i64 i)] []) (fun i _=>∀ j,j<i→j≠mo∧p j=true) 0 () (Nat.zero_le _) (fun i h=>absurd h (Nat.not_lt_zero _)) (Za zp zp) ?_;rintro i _ hi hS L9 hL9;have hnl:=hA.lt;have hsc:=hA.sc
 have hfst:k-1<7:=by omega
 by_cases hi1:i<n
 ·have hlt2:decide ((i:Int)<(n:Int))=true:=zT
  have w2:IntKind.i64.wrap ((i:Int)+1)=(i:Int)+1:=w64 (by omega) (by omega);have fl:=decide_eq_true hi1
  by_cases hm:i=mo
  ·have e1:=Z1b (part:=pt) hi1 hS (.inl hm)
   rw [Zmb hfst hR (by rw [hsc,e1];exact hA.pz),hsc,e1,if_pos hm]
   have qm:((i:Int)==(mo:Int))=true:=by simp [hm]
   exact Zq (zi hlt2 (zi fl (zi qm f)))
  have qm:((i:Int)==(mo:Int))=false:=by
   have:¬ (i:Int)=(mo:Int):=by omega
   simpa using this
  refine Zf (zi hlt2 (zi fl (zi qm (zi Zj f)))) ?_;refine Zc hG ?_ (s:=hA.may c.ent d.ent i hi1);cases hp:p i
  ·have e1:=Z1b (part:=pt) hi1 hS (.inr hp)
   rw [Zmb hfst hR (by rw [hsc,e1];exact hA.pz),hsc,e1,if_neg hm];exact Zq f
  refine Zf w2 ?_;refine hL9 _ ⟨hi1,(),fun j hj=>?_,Za (zpf Zj) zp⟩
  by_cases h3:j=i
  ·rw [h3];exact ⟨hm,hp⟩
  ·exact hS j (by omega)
 have hie:i=n:=by omega
 subst hie
 have hlt2:decide ((i:Int)<(i:Int))=false:=by simp
 have fl:decide (i<i)=false:=by simp
 rw [Zre hS] at hsc;refine Zf (zi hlt2 (zi fl (zi w1 f))) ?_;refine hL3 _ ⟨hk1,(),⟨by omega,fun j hj=>?_⟩,Za zp zp⟩
 by_cases h3:j=k-1
 ·rw [h3,hsc]
 ·exact hR j (by omega)
end Go.Hs
end

section
namespace Go.Hs
section
theorem Zyy {α : Type} {p : α → Bool} {l:List α} {i j:Nat} {x y : α} (hij:i<j) (hx:l[i]? = some x) (hy:l[j]? = some y) (px:p x=true) (py:p y=true):2≤(l.filter p).length:=by
 obtain ⟨h1,e1⟩:=List.getElem?_eq_some_iff.1 hx
 have hd:l.drop i=x::l.drop (i+1):=by rw [List.drop_eq_getElem_cons h1,e1]
 have hm:y∈l.drop (i+1):=List.mem_of_getElem? (i:=j-(i+1)) (by rw [List.getElem?_drop,show i+1+(j-(i+1))=j by omega];exact hy)
 have e:l.filter p=(l.take i).filter p++x::(l.drop (i+1)).filter p:=by
  conv=>lhs;rw [← List.take_append_drop i l,hd,List.filter_append,List.filter_cons_of_pos px]
 have:=List.length_pos_of_mem (List.mem_filter.2 ⟨hm,py⟩);rw [e,List.length_append,List.length_cons];omega
theorem Zn7 {α : Type} {p : α → Bool} {l:List α} {v:Nat} {x : α} (hx:l[v]? = some x) (px:p x=true) (h:∀ i y,l[i]? = some y→i≠v→p y=false):(l.filter p).length=1:=by
 obtain ⟨h1,e1⟩:=List.getElem?_eq_some_iff.1 hx
 have hd:l.drop v=x::l.drop (v+1):=by rw [List.drop_eq_getElem_cons h1,e1]
 have e:l.filter p=(l.take v).filter p++x::(l.drop (v+1)).filter p:=by
  conv=>lhs;rw [← List.take_append_drop v l,hd,List.filter_append,List.filter_cons_of_pos px]
 rw [e,List.filter_eq_nil_iff.2,List.filter_eq_nil_iff.2]
 ·rfl
 ·intro y hy
  obtain ⟨i,hi⟩:=List.mem_iff_getElem?.1 hy;rw [List.getElem?_drop] at hi;rw [h _ y hi (by omega)];decide
 ·intro y hy
  obtain ⟨i,hi⟩:=List.mem_iff_getElem?.1 hy;rw [List.getElem?_take] at hi
  split at hi
  ·rw [h i y hi (by omega)];decide
  ·cases hi
namespace PM
variable {m:PM}
theorem Zr1 {i:Nat} (h:i<m.vertices.length):m.vertices[i]? = some (m.vx (i:Int)):=by
 rw [vx,List.getD_eq_getElem?_getD,Int.toNat_natCast,List.getElem?_eq_getElem h];rfl
theorem vx_eq {i:Nat} {x:VP} (h:m.vertices[i]? = some x):m.vx (i:Int)=x:=by
 rw [vx,List.getD_eq_getElem?_getD,Int.toNat_natCast,h];rfl
theorem twins_one {v:Nat} (hv:v<m.vertices.length) (h:∀ i:Nat,i<m.vertices.length→i≠v→((m.vx (i:Int)).kind==(m.vx (v:Int)).kind && (m.vx (i:Int)).region==(m.vx (v:Int)).region)=false):m.twins v=1 :=
 Zn7 (v:=v) (Zr1 hv) (by rw [kd,beq_self_eq_true,beq_self_eq_true];rfl) fun i y hy hi=>by
  have:=h i (List.getElem?_eq_some_iff.1 hy).1 hi;rw [vx_eq hy] at this;exact this
theorem twins_two {v i:Nat} (hv:v<m.vertices.length) (hi:i<m.vertices.length) (hne:i≠v) (h:((m.vx (i:Int)).kind==(m.vx (v:Int)).kind && (m.vx (i:Int)).region==(m.vx (v:Int)).region)=true):m.twins v≠1:=by
 have px:((m.vx (v:Int)).kind==m.kd v && (m.vx (v:Int)).region==(m.vx (v:Int)).region)=true:=by rw [kd,beq_self_eq_true,beq_self_eq_true];rfl
 have:=(Nat.lt_or_gt_of_ne hne).elim (fun q=>Zyy (p:=fun y:VP=>y.kind==m.kd v && y.region==(m.vx (v:Int)).region) q (Zr1 hi) (Zr1 hv) h px) (fun q=>Zyy (p:=fun y:VP=>y.kind==m.kd v && y.region==(m.vx (v:Int)).region) q (Zr1 hv) (Zr1 hi) px h);have e:m.twins v=(m.vertices.filter fun y=>y.kind==m.kd v && y.region==(m.vx (v:Int)).region).length:=rfl;omega
theorem Rt5.ow0 (h:m.Rt5) {r:Int} (h0:0≤r) (h1:r<m.regions.length):(m.ow r == -1)=(r==0):=by
 rcases h.own h0 h1 with ⟨q,q1⟩ | ⟨q,q1,_⟩
 ·rw [q1,q];rfl
 ·rw [beq_eq_false_iff_ne.2 q,beq_eq_false_iff_ne.2 (by omega)]
def wysI (m:PM) (v:Int) (to:Bool) (n:Nat):List Int:=((List.range n).filter fun (i:Nat)=>(to && (m.wy (i:Int)).target==v) || (!to && (m.wy (i:Int)).source==v)).map fun (i:Nat)=>(i:Int)
theorem wysI_succ (v:Int) (to:Bool) (n:Nat):m.wysI v to (n+1)=m.wysI v to n++(if ((to && (m.wy (n:Int)).target==v) || (!to && (m.wy (n:Int)).source==v))=true then [(n:Int)] else []):=by
 rw [wysI,List.range_succ,List.filter_append,List.map_append,wysI]
 congr 1
 split
 ·rename_i h;rw [List.filter_cons,if_pos h];rfl
 ·rename_i h;rw [List.filter_cons,if_neg h];rfl
theorem wysI_len (v:Int) (to:Bool) (n:Nat):(m.wysI v to n).length≤n:=by
 rw [wysI,List.length_map];exact Nat.le_trans (List.length_filter_le _ (List.range n)) (by rw [List.length_range];exact Nat.le_refl _)
theorem wysI_rng {v:Int} {to:Bool} {n:Nat} {i:Int} (h:i∈m.wysI v to n):0≤i∧i<n:=by
 obtain ⟨k,hk,rfl⟩:=List.mem_map.1 h;have:=List.mem_range.1 (List.mem_filter.1 hk).1;omega
theorem Z4h {α β : Type} (d : α) (p : α → Bool) (f : α → β):∀ l:List α,((List.range l.length).filter fun i=>p (l.getD i d)).map (fun i=>f (l.getD i d))=(l.filter p).map f
 | []=>rfl
 | x::t=>by
  rw [List.length_cons,List.range_succ_eq_map,List.filter_cons,List.filter_map];have ih:=Z4h d p f t
  have e:(fun i=>p ((x::t).getD i d)) ∘ Nat.succ=fun i=>p (t.getD i d):=by funext i;rfl
  rw [e]
  by_cases h:p x=true
  ·rw [if_pos (show p ((x::t).getD 0 d)=true from h),List.filter_cons_of_pos h,List.map_cons,List.map_cons,List.map_map]
   congr 1
  ·rw [if_neg (show ¬ p ((x::t).getD 0 d)=true from h),List.filter_cons_of_neg h,List.map_map]
   exact ih
theorem wys_inc (v:Int):(m.wysI v true m.ways.length).map (fun i=>(m.wy i).source)=m.inc v:=by
 rw [wysI,List.map_map,inc,← Z4h wy0 (fun t=>t.target==v) (·.source) m.ways];simp only [Bool.true_and,Bool.not_true,Bool.false_and,Bool.or_false,wy,Int.toNat_natCast];rfl
theorem wys_out (v:Int):(m.wysI v false m.ways.length).map (fun i=>(m.wy i).target)=m.out v:=by
 rw [wysI,List.map_map,out,← Z4h wy0 (fun t=>t.source==v) (·.target) m.ways];simp only [Bool.true_and,Bool.not_false,Bool.false_and,Bool.false_or,wy,Int.toNat_natCast];rfl
theorem wys_els (v:Int):((m.wysI v false m.ways.length).filter fun i=>Zie (m.wy i).guard).length=m.elses v:=by
 have e:=Z4h wy0 (fun t:WP=>t.source==v && Zie t.guard) (fun t=>t) m.ways;have e2:=congrArg List.length e;rw [List.length_map,List.length_map] at e2;rw [elses,← e2,wysI,List.filter_map,List.length_map,List.filter_filter]
 congr 1
 refine List.filter_congr fun i _=>?_;simp only [Bool.false_and,Bool.not_false,Bool.true_and,Bool.false_or,wy,Int.toNat_natCast,Function.comp];rw [Bool.and_comm]
end PM
end
end Go.Hs
end

section
namespace Go.Hs
open Go.Proofs
set_option maxHeartbeats 1000000
set_option maxRecDepth 10000
def Zp7 (c d e:Col) (m:MdM) (vs:Sl (List UInt8)):V := .agg [.str m.name,Zb c 2 Zja m.vars,Zb c 1 V.str m.events,Zb c 2 Zja m.regions,Zb c 8 (Zwa d) m.verts,Zb c 8 (Zhb d) m.ways,Zb e 1 V.str vs]
theorem Zm4 (c d e:Col) (m:MdM) (vs:Sl (List UInt8)):Zp7 c d e m vs = .agg [.str m.name,Zb c 2 Zja m.vars,Zb c 1 V.str m.events,Zb c 2 Zja m.regions,Zb c 8 (Zwa d) m.verts,Zb c 8 (Zhb d) m.ways,Zb e 1 V.str vs]:=rfl
def wdV (b c d e:Col) (m:MdM) (vs:Sl (List UInt8)):V := .view b (Zp7 c d e m vs)
theorem Zeb (b c d e:Col) (m:MdM) (vs:Sl (List UInt8)):wdV b c d e m vs = .view b (.agg [.str m.name,Zb c 2 Zja m.vars,Zb c 1 V.str m.events,Zb c 2 Zja m.regions,Zb c 8 (Zwa d) m.verts,Zb c 8 (Zhb d) m.ways,Zb e 1 V.str vs]):=rfl
@[go_sem] theorem Zo2 (g:Col→Col) (b c d e:Col) (m:MdM) (vs:Sl (List UInt8)):(wdV b c d e m vs).recol g=wdV (g b) (g c) (g d) (g e) m vs:=by
 show (V.view b (Zp7 c d e m vs)).recol g=_
 simp only [Zm4,V.recol,Zkc,List.map_cons,List.map_nil,Zwc,Zid,Z0n,Zzn,Z1n];rfl
theorem Zjz (G:Nat→V) (hG:GOk G) (c d:Col) (m:MdM) (hv:m.vars.l.length≤600) :
  Spec Tryz.prog G 41 [Z2 c d m] Zl (fun w _=>w=wdV .new c d .new m (Zm m.p.vn)):=by
 refine Zo 0 31 [.tmp 2] Tryz.func41 fun X=>?_;have hvn:m.p.vn=m.vars.l.map (·.1):=rfl
 have hvl:m.p.vn.length≤600:=by rw [hvn,List.length_map];exact hv
 simp only [Zj];refine Z ?_;intro g1;refine Z ?_;intro g7;refine Z ?_
 refine Zda m.vars.l.length (fun k (g:Nat)=>st [(1,.ptr 1 g1 0),(3,.ptr 7 g7 0),(4,.int .i64 k)]
   [(1,.cells .new g1 0 [.str m.name,Zb c 2 Zja m.vars,Zb c 1 V.str m.events,Zb c 2 Zja m.regions,Zb c 8 (Zwa d) m.verts,Zb c 8 (Zhb d) m.ways]),(7,.cells .new g7 0 [.str m.name,Zb c 2 Zja m.vars,Zb c 1 V.str m.events,Zb c 2 Zja m.regions,Zb c 8 (Zwa d) m.verts,Zb c 8 (Zhb d) m.ways,grown 27 g 1 (m.p.vn.take k)]),(27,Zxa g V.str (m.p.vn.take k))])
  (fun _ _=>True) 0 0 (Nat.zero_le _) trivial (Za zp (by simp -implicitDefEqProofs only[go_sem,seval];exact ⟨rfl,rfl⟩)) ?_
 intro k g hk _ L3 hL3
 by_cases hk1:k<m.vars.l.length
 ·have hlt:decide ((k:Int)<(m.vars.l.length:Int))=true:=zT
  have hg:=List.getElem?_eq_getElem hk1
  have hkv:k<m.p.vn.length:=by rw [hvn,List.length_map];exact hk1
  have htk:m.p.vn.take (k+1)=m.p.vn.take k++[(m.vars.l[k]).1]:=by rw [List.take_succ_eq_append_getElem hkv];simp [hvn]
  have hlk:(m.p.vn.take k).length=k:=by rw [List.length_take];omega
  generalize m.vars.l[k]=x at hg htk;have w1:IntKind.i64.wrap ((k:Int)+1)=(k:Int)+1:=w64 (by omega) (by omega);rw [htk] at hL3;generalize m.p.vn.take k=acc at hlk hL3;refine Z1f hlt ?_;refine ZTf (zi hg (zi Zza (zi hk1 (zi @Int.natCast_nonneg @Int.ofNat_lt)))) hG ?_;intro g26;refine Zma (f:=V.str) (l:=acc) (l2:=[x.1]) (g:=g) (fun _=>rfl) rfl rfl rfl zp (Zaa (by omega) (by simp;omega)) fun g2=>?_;refine Zs ?_;refine Zf w1 ?_;exact hL3 _ ⟨hk1,g2,trivial,Za zp zp⟩
 have hke:k=m.vars.l.length:=by omega
 subst hke;rw [List.take_of_length_le (by rw [hvn,List.length_map];exact Nat.le_refl _)]
 have hlt:decide ((m.vars.l.length:Int)<(m.vars.l.length:Int))=false:=by simp
 generalize m.p.vn=vn at hvl ⊢;refine Z1f hlt ?_;refine AW.weak (Zv (fun o=>o==27) (l:=[(3,.ptr 7 g7 0),(12,.bool false)]) (m:=[(7,.cells .new g7 0 [.str m.name,Zb c 2 Zja m.vars,Zb c 1 V.str m.events,Zb c 2 Zja m.regions,Zb c 8 (Zwa d) m.verts,Zb c 8 (Zhb d) m.ways,Zb .new 1 V.str (Zm vn)])]) ?_ ?_) ?_
 ·refine Zs ?_
  exact ⟨Zd _,Zd _⟩
 ·simp only [Zx,Zz,and_true]
  exact FzO.of (c := .new) (fz:=0) (cs:=[.str m.name,Zb c 2 Zja m.vars,Zb c 1 V.str m.events,Zb c 2 Zja m.regions,Zb c 8 (Zwa d) m.verts,Zb c 8 (Zhb d) m.ways,grown 27 g 1 vn]) rfl zp ⟨Zd _,Zd _,Zd _,Zd _,Zd _,Zd _,Z0a rfl zp (fun _=>rfl),trivial⟩
 refine AW.weak (Zv (fun o=>o==7) (l:=[(3,wdV .new c d .new m (Zm vn)),(12,.bool false)]) (m:=[]) ?_ trivial) ?_
 ·refine Zs ?_
  exact ⟨Fz.ptr (v:=Zp7 c d .new m (Zm vn)) (c := .new) (fz:=0) zp zp,Zd _⟩
 exact Zr
theorem Z9q (G:Nat→V) (hG:GOk G) (m:MdM) (vs:Sl (List UInt8)) (hm:m.p.Rt) (s:Int) (v:Int) (h0:0≤v) (h1:v<m.p.vertices.length) :
  ∀ b c d e,Spec Tryz.prog G 100 [wdV b c d e m vs,.int .i64 v,.int .i64 s] Zl (fun w _=>w = .bool (m.p.inB v s)):=by
 have key:∀ (v:Int),0≤v→v<m.p.vertices.length→(0≤m.p.around v→∀ b c d e,Spec Tryz.prog G 100 [wdV b c d e m vs,.int .i64 (m.p.around v),.int .i64 s] Zl (fun w _=>w = .bool (m.p.inB (m.p.around v) s))) →
   ∀ b c d e,Spec Tryz.prog G 100 [wdV b c d e m vs,.int .i64 v,.int .i64 s] Zl (fun w _=>w = .bool (m.p.inB v s)):=by
  intro v h0 h1 ih b c d e;refine Zo 0 27 [.tmp 6] Tryz.func100 fun X=>?_;refine Zf Zeb ?_;refine Zc hG ?_ (s:=Zwf G hG c.ent d.ent m hm.toRt5 v h0 h1)
  by_cases ha:0≤m.p.around v
  ·have q0:decide (m.p.around v≥0)=true:=zT
   rw [hm.acy.inB_up h0 h1 ha];cases q1:(m.p.around v==s)
   ·refine Zf (zi q0 q1) ?_
    refine Zc hG ?_ (s:=ih ha b.ent c.ent d.ent e.ent);rw [Bool.false_or];exact Zr
   ·exact Zq (zi q0 q1)
  ·have q0:decide (m.p.around v≥0)=false:=zF
   rw [PM.inB_nil (by omega)];exact Zq q0
 exact hm.acy.ind (P:=fun v=>∀ b c d e,Spec Tryz.prog G 100 [wdV b c d e m vs,.int .i64 v,.int .i64 s] Zl (fun w _=>w = .bool (m.p.inB v s)))
  (fun v h0 h1 hn=>key v h0 h1 (fun h=>absurd h (by omega))) (fun v h0 h1 _ _ ih=>key v h0 h1 (fun _=>ih)) h0 h1
theorem Zeh (G:Nat→V) (hG:GOk G) (m:MdM) (vs:Sl (List UInt8)) (hm:m.p.Rt) (r:Int) (v:Int) (h0:0≤v) (h1:v<m.p.vertices.length) :
  ∀ b c d e,Spec Tryz.prog G 134 [wdV b c d e m vs,.int .i64 v,.int .i64 r] Zl (fun w _=>w = .bool (m.p.withinB v r)):=by
 have key:∀ (v:Int),0≤v→v<m.p.vertices.length→(0≤m.p.around v→∀ b c d e,Spec Tryz.prog G 134 [wdV b c d e m vs,.int .i64 (m.p.around v),.int .i64 r] Zl (fun w _=>w = .bool (m.p.withinB (m.p.around v) r))) →
   ∀ b c d e,Spec Tryz.prog G 134 [wdV b c d e m vs,.int .i64 v,.int .i64 r] Zl (fun w _=>w = .bool (m.p.withinB v r)):=by
  intro v h0 h1 ih b c d e;refine Zo 0 33 [.tmp 6] Tryz.func134 fun X=>?_;obtain ⟨k,x,hv,hk,hg,hx⟩:=MdM.at h0 h1
  have hxr:((m.p.vx v).region==r)=(x.region==r):=by rw [hx]<;>rfl
  have f:=zi hg (zi hk (zi Zt (zi Zeb (zi @Int.natCast_nonneg @Int.ofNat_lt))));have hsp:=Zwf G hG c.ent d.ent m hm.toRt5 v h0 h1;cases q0:(x.region==r);rotate_left
  ·have:m.p.withinB v r=true:=by rw [PM.withinB,List.any_cons,hxr,q0]<;>rfl
   rw [this];exact Zq (zi hv (zi q0 f))
  rw [q0] at hxr
  by_cases ha:0≤m.p.around v
  ·have q1:decide (m.p.around v≥0)=true:=zT
   rw [hm.acy.withinB_up h0 h1 ha,hxr,Bool.false_or];have ih2:=ih ha b.ent c.ent d.ent e.ent
   try clear ih
   generalize m.p.around v=a at hsp q1 ih2 ⊢;subst hv;refine Zf (zi q0 f) ?_;refine Zc hG ?_ (s:=hsp);refine Zf q1 ?_;refine Zc hG ?_ (s:=ih2);exact Zr
  ·have q1:decide (m.p.around v≥0)=false:=zF
   rw [PM.withinB_nil (by omega),hxr];generalize m.p.around v=a at hsp q1;subst hv;refine Zf (zi q0 f) ?_;refine Zc hG ?_ (s:=hsp);exact Zq q1
 exact hm.acy.ind (P:=fun v=>∀ b c d e,Spec Tryz.prog G 134 [wdV b c d e m vs,.int .i64 v,.int .i64 r] Zl (fun w _=>w = .bool (m.p.withinB v r)))
  (fun v h0 h1 hn=>key v h0 h1 (fun h=>absurd h (by omega))) (fun v h0 h1 _ _ ih=>key v h0 h1 (fun _=>ih)) h0 h1
def PM.regRk (m:PM) (v s:Int) (n:Nat):Int:=(List.range n).foldl (fun (a:Int) (r:Nat)=>if m.ow (r:Int)=s∧m.withinB v (r:Int)=true then (r:Int) else a) (-1)
theorem Zjs (m:PM) (v s:Int) (n:Nat):m.regRk v s (n+1)=if m.ow (n:Int)=s∧m.withinB v (n:Int)=true then (n:Int) else m.regRk v s n:=by
 rw [PM.regRk,List.range_succ,List.foldl_append]<;>rfl
theorem Zb1 {l:List Int} {s:Int} (h:∀ y∈l,(y==s)=false):l.contains s=false:=by
 rw [List.contains_eq_any_beq,List.any_eq_false];intro y hy;rw [BEq.comm,h y hy];decide
theorem flI (k:IntKind) (l:List Int):flat (l.map (V.int k))=l.map (V.int k):=by
 induction l with
 | nil=>rfl
 | cons x r ih=>rw [List.map_cons,flat,List.flatMap_cons];exact congrArg (V.int k x :: ·) ih
theorem Z4l (G:Nat→V) (hG:GOk G) (b c d e c2:Col) (m:MdM) (vs:Sl (List UInt8)) (hm:m.p.Rt) (hrl:m.regions.l.length<1000000) (l:Sl Int) (hll:l.l.length<1000000) (hr:∀ v∈l.l,0≤v∧v<m.p.vertices.length) (s:Int) :
  Spec Tryz.prog G 206 [wdV b c d e m vs,Zb c2 1 (V.int .i64) l,.int .i64 s] Zl (fun w _=>w = .bool (Zpe [] (l.l.map (m.p.regR · s)))):=by
 refine Zo 0 67 [.tmp 6] Tryz.func206 fun X=>?_;generalize hD:Zpe [] (l.l.map (m.p.regR · s))=D;refine Z ?_
 refine Zda l.l.length (fun j (g:Nat)=>st [(0,wdV b c d e m vs),(1,Zb c2 1 (V.int .i64) l),(2,.int .i64 s),(7,grown 66 g 1 ((l.l.take j).map (m.p.regR · s))),(8,.int .i64 j)] [(66,Zxa g (V.int .i64) ((l.l.take j).map (m.p.regR · s)))])
  (fun j _=>Zpe ((l.l.take j).map (m.p.regR · s)) ((l.l.drop j).map (m.p.regR · s))=D) 0 0 (Nat.zero_le _) hD (Za zp zp) ?_
 intro j g hj hR L3 hL3
 by_cases hj1:j<l.l.length
 rotate_left
 ·have hje:j=l.l.length:=by omega
  have hlt:decide ((j:Int)<(l.l.length:Int))=false:=zF;rw [hje,List.drop_length] at hR;rw [← hR];exact Zq hlt
 have hlt:decide ((j:Int)<(l.l.length:Int))=true:=zT;have hg:=List.getElem?_eq_getElem hj1
 have htk:l.l.take (j+1)=l.l.take j++[l.l[j]]:=by rw [List.take_succ_eq_append_getElem hj1]
 have hdr:l.l.drop j=l.l[j]::l.l.drop (j+1):=List.drop_eq_getElem_cons hj1
 have hlj:((l.l.take j).map (m.p.regR · s)).length=j:=by rw [List.length_map,List.length_take];omega
 obtain ⟨v0,v1⟩:=hr l.l[j] (List.getElem_mem hj1);generalize l.l[j]=v at hg htk hdr v0 v1;rw [hdr,List.map_cons,Zpe] at hR;rw [htk,List.map_append] at hL3;simp only [List.map_cons,List.map_nil] at hL3;generalize (l.l.take j).map (m.p.regR · s)=acc at hR hL3 hlj ⊢;have w1:IntKind.i64.wrap ((j:Int)+1)=(j:Int)+1:=w64 (by omega) (by omega);refine Z1f hlt ?_;refine Z1 ?_;refine Zia (fun (_:Unit)=>st [(0,wdV b c d e m vs),(1,Zb c2 1 (V.int .i64) l),(2,.int .i64 s),(7,grown 66 g 1 acc),(8,.int .i64 j),(9,.int .i64 (m.p.regR v s))] [(66,Zxa g (V.int .i64) acc)]) (fun _=>True) (fun K1 hK1=>?_) ?_
 ·refine Z ?_
  refine Zda m.regions.l.length (fun k (_:Unit)=>st [(0,wdV b c d e m vs),(1,Zb c2 1 (V.int .i64) l),(2,.int .i64 s),(7,grown 66 g 1 acc),(8,.int .i64 j),(9,.int .i64 (m.p.regRk v s k)),(10,.int .i64 k)] [(66,Zxa g (V.int .i64) acc)]) (fun _ _=>True) 0 () (Nat.zero_le _) trivial (Za zp zp) ?_;intro k _ hk _ L4 hL4
  by_cases hk1:k<m.regions.l.length
  rotate_left
  ·have hke:k=m.regions.l.length:=by omega
   have hlt2:decide ((k:Int)<(m.regions.l.length:Int))=false:=zF
   have:m.p.regRk v s k=m.p.regR v s:=by rw [hke]<;>rfl
   rw [this];refine Zf (zi hlt2 Zeb) ?_;exact hK1 _ () trivial (Za (zpf Zeb) zp)
  have hlt2:decide ((k:Int)<(m.regions.l.length:Int))=true:=zT;have hgk:=List.getElem?_eq_getElem hk1;generalize m.regions.l[k]=y at hgk;have hoy:m.p.ow (k:Int)=y.2:=Zzk hgk;have w2:IntKind.i64.wrap ((k:Int)+1)=(k:Int)+1:=w64 (by omega) (by omega);rw [Zjs,hoy] at hL4;have hsp:=Zeh G hG m vs hm k v v0 v1 b.ent c.ent d.ent e.ent;generalize m.p.withinB v (k:Int)=bb at hsp hL4;refine Z1f (zi hlt2 Zeb) ?_;have f:=zi hgk (zi Zza (zi Zeb (zi hk1 (zi @Int.natCast_nonneg @Int.ofNat_lt))));cases q:(y.2==s)
  ·rw [if_neg (fun h=>by rw [beq_eq_false_iff_ne] at q;exact q h.1)] at hL4
   refine Zf (zi q (zi w2 f)) ?_;exact hL4 _ ⟨hk1,(),trivial,Za (zpf Zeb) zp⟩
  have qe:y.2=s:=by simpa using q
  refine Zf (zi q (zi f (zi hg hj1))) ?_;refine Zc hG ?_ (s:=hsp);cases bb
  ·rw [if_neg (fun h=>by cases h.2)] at hL4
   refine Zf w2 ?_;exact hL4 _ ⟨hk1,(),trivial,Za (zpf Zeb) zp⟩
  ·rw [if_pos ⟨qe,rfl⟩] at hL4
   refine Zf w2 ?_;exact hL4 _ ⟨hk1,(),trivial,Za (zpf Zeb) zp⟩
 intro _ _;generalize m.p.regR v s=a at hR hL3
 by_cases ha:0≤a
 rotate_left
 ·have q0:decide (a<0)=true:=zT
  rw [decide_eq_false ha] at hR;rw [← hR];exact Zq q0
 have q0:decide (a<0)=false:=zF;rw [decide_eq_true ha,Bool.true_and] at hR;refine Z1f q0 ?_;refine Z0 ?_;refine Zia (fun (_:Unit)=>st [(0,wdV b c d e m vs),(1,Zb c2 1 (V.int .i64) l),(2,.int .i64 s),(7,grown 66 g 1 acc),(8,.int .i64 j),(9,.int .i64 a)] [(66,Zxa g (V.int .i64) acc)]) (fun _=>acc.contains a=false) (fun K1 hK1=>?_) ?_
 ·refine Z ?_
  refine Zda acc.length (fun k (_:Unit)=>st [(0,wdV b c d e m vs),(1,Zb c2 1 (V.int .i64) l),(2,.int .i64 s),(7,grown 66 g 1 acc),(8,.int .i64 j),(9,.int .i64 a),(11,.int .i64 k)] [(66,Zxa g (V.int .i64) acc)]) (fun k _=>∀ y∈acc.take k,(y==a)=false) 0 () (Nat.zero_le _) (by simp) (Za zp zp) ?_;intro k _ hk hS L4 hL4
  by_cases hk1:k<acc.length
  rotate_left
  ·have hke:k=acc.length:=by omega
   have hlt2:decide ((k:Int)<(acc.length:Int))=false:=zF;rw [hke,List.take_length] at hS;refine Zf hlt2 ?_;exact hK1 _ () (Zb1 hS) (Za zp zp)
  have hlt2:decide ((k:Int)<(acc.length:Int))=true:=zT;have hgk:=List.getElem?_eq_getElem hk1;have w2:IntKind.i64.wrap ((k:Int)+1)=(k:Int)+1:=w64 (by omega) (by omega)
  have hne:acc≠[]:=by rintro rfl;exact absurd hk1 (Nat.not_lt_zero _)
  generalize acc[k]=y at hgk;rw [Zfc _ _ _ hne,Zxc _ _ hne];rw [Zfc _ _ _ hne,Zxc _ _ hne] at hL4
  have hfl:(flat (acc.map (V.int .i64)))[k * 1]? = some (.int .i64 y):=by rw [flI,Nat.mul_one,List.getElem?_map,hgk]<;>rfl
  have f:=zi hlt2 (zi hfl (zi hk1 (zi @Int.natCast_nonneg (zi @Int.ofNat_lt (decide_eq_true hk1)))));cases q:(y==a)
  ·refine Zf (zi q (zi w2 f)) ?_
   exact hL4 _ ⟨hk1,(),Zae (p:=fun y=>y==a) hgk hS q,Za zp zp⟩
  ·have hcon:acc.contains a=true:=by
    rw [List.contains_iff_mem,← (show y=a by simpa using q)];exact List.mem_of_getElem? hgk
   rw [hcon] at hR;rw [← hR];exact Zq (zi q f)
 intro _ hc;rw [hc,Bool.not_false,Bool.true_and] at hR;refine Z ?_;intro g65;refine Zma (f:=V.int .i64) (l:=acc) (l2:=[a]) (g:=g) (fun _=>rfl) rfl rfl rfl zp (Zaa (by omega) (by simp;omega)) fun g2=>?_;refine Zs ?_;refine Zf w1 ?_;exact hL3 _ ⟨hj1,g2,hR,Za zp zp⟩
theorem Z5k (G:Nat→V) (hG:GOk G) (b c d e c2:Col) (m:MdM) (vs:Sl (List UInt8)) (hm:m.p.Rt) (hrl:m.regions.l.length<1000000) (hvl:m.verts.l.length<1000000) (l:Sl Int) (hl:l.l≠[]) (hll:l.l.length<1000000) (hr:∀ v∈l.l,0≤v∧v<m.p.vertices.length) :
  Spec Tryz.prog G 135 [wdV b c d e m vs,Zb c2 1 (V.int .i64) l] Zl (fun w _=>w = .bool (m.p.partU l.l)):=by
 refine Zo 0 20 [.tmp 4] Tryz.func135 fun X=>?_
 have hP:m.p.partR l.l=(List.range m.verts.l.length).any fun s=>Zpe [] (l.l.map (m.p.regR · (s:Int))):=by rw [PM.partR,m.nv]
 rw [← hm.acy.part_eq hl hr];generalize m.p.partR l.l=D at hP ⊢;refine Z ?_;refine Zda m.verts.l.length (fun k (_:Unit)=>st [(0,wdV b c d e m vs),(1,Zb c2 1 (V.int .i64) l),(5,.int .i64 k)] []) (fun k _=>∀ s:Nat,s<k→Zpe [] (l.l.map (m.p.regR · (s:Int)))=false) 0 () (Nat.zero_le _) (fun s h=>absurd h (Nat.not_lt_zero _)) (Za zp zp) ?_;intro k _ hk hR L3 hL3
 by_cases hk1:k<m.verts.l.length
 rotate_left
 ·have hke:k=m.verts.l.length:=by omega
  have hlt:decide ((k:Int)<(m.verts.l.length:Int))=false:=zF;rw [List.any_eq_false.2 (fun s hs=>by rw [hR s (by rw [hke];exact List.mem_range.1 hs)];decide)] at hP;rw [hP];exact Zq (zi hlt Zeb)
 have hlt:decide ((k:Int)<(m.verts.l.length:Int))=true:=zT;have w1:IntKind.i64.wrap ((k:Int)+1)=(k:Int)+1:=w64 (by omega) (by omega);refine Z1f (zi hlt Zeb) ?_;refine Z ?_;have hsp:=fun b c d e c2=>Z4l G hG b c d e c2 m vs hm hrl l hll hr (k:Int);generalize hd:Zpe [] (l.l.map (m.p.regR · (k:Int)))=dd at hsp;refine Zcf Zeb hG ?_ (s:=hsp b.ent c.ent d.ent e.ent c2.ent);cases dd
 ·refine Zf w1 ?_
  refine hL3 _ ⟨hk1,(),fun s hs=>?_,Za (zpf Zeb) zp⟩
  by_cases h:s=k
  ·rw [h,hd]
  ·exact hR s (by omega)
 ·rw [List.any_eq_true.2 ⟨k,List.mem_range.2 hk1,hd⟩] at hP
  rw [hP];exact Zr
theorem Z4k (G:Nat→V) (hG:GOk G) (b c d e:Col) (m:MdM) (vs:Sl (List UInt8)) (hw:m.ways.l.length<1000000) (v:Int) (to:Bool) :
  Spec Tryz.prog G 205 [wdV b c d e m vs,.int .i64 v,.bool to] Zl (fun w _=>w=Zb .new 1 (V.int .i64) (Zm (m.p.wysI v to m.p.ways.length))):=by
 refine Zo 0 50 [.tmp 6] Tryz.func205 fun X=>?_;rw [m.nw];refine Z ?_
 refine Zda m.ways.l.length (fun k (g:Nat)=>st [(0,wdV b c d e m vs),(1,.int .i64 v),(2,.bool to),(7,grown 48 g 1 (m.p.wysI v to k)),(8,.int .i64 k)] [(48,Zxa g (V.int .i64) (m.p.wysI v to k))])
  (fun _ _=>True) 0 0 (Nat.zero_le _) trivial (Za zp zp) ?_
 intro k g hk _ L3 hL3
 by_cases hk1:k<m.ways.l.length
 rotate_left
 ·have hke:k=m.ways.l.length:=by omega
  subst hke
  have hlt:decide ((m.ways.l.length:Int)<(m.ways.l.length:Int))=false:=by simp
  generalize m.p.wysI v to m.ways.l.length=acc;refine AW.weak (Zv (fun o=>o==48) (l:=[(0,wdV b c d e m vs),(7,Zb .new 1 (V.int .i64) (Zm acc)),(8,.int .i64 m.ways.l.length)]) (m:=[]) ?_ trivial) ?_
  ·refine Zs ?_
   exact ⟨Zd _,Z0a (l:=acc) (g:=g) (f:=V.int .i64) rfl zp (fun _=>rfl),Zd _⟩
  exact Zq (zi hlt Zeb)
 have hlt:decide ((k:Int)<(m.ways.l.length:Int))=true:=zT;have hg:=List.getElem?_eq_getElem hk1;have hlen:=PM.wysI_len (m:=m.p) v to k;generalize m.ways.l[k]=x at hg;have hwy:m.p.wy (k:Int)=x.p:=Zxh hg;rw [PM.wysI_succ,hwy] at hL3;have hL3:∀ s',(k<m.ways.l.length∧∃ x',True∧Weak ⟨X,Zl,50,0,G,none,[]⟩ s' (st [(0,wdV b c d e m vs),(1,.int .i64 v),(2,.bool to),(7,grown 48 x' 1 (m.p.wysI v to k++if ((to && x.target==v) || (!to && x.source==v))=true then [(k:Int)] else [])),(8,.int .i64 (k+1:Nat))] [(48,Zxa x' (V.int .i64) (m.p.wysI v to k++if ((to && x.target==v) || (!to && x.source==v))=true then [(k:Int)] else []))]))→L3 s':=hL3;generalize m.p.wysI v to k=acc at hL3 hlen ⊢;have w1:IntKind.i64.wrap ((k:Int)+1)=(k:Int)+1:=w64 (by omega) (by omega);refine Z1f (zi hlt Zeb) ?_;refine Zf (zi hg (zi Z9 (zi Zeb (zi hk1 (zi @Int.natCast_nonneg @Int.ofNat_lt))))) ?_;intro g9;cases to
 ·cases q:(x.source==v)
  ·have e0:(((false:Bool) && x.target==v) || (!(false:Bool) && x.source==v))=false:=by simp [q]
   rw [e0,if_neg (by decide),List.append_nil] at hL3;refine Zf (zi q (zi w1 Z9)) ?_;exact hL3 _ ⟨hk1,g,trivial,Za (zpf Zeb) zp⟩
  ·have e0:(((false:Bool) && x.target==v) || (!(false:Bool) && x.source==v))=true:=by simp [q]
   rw [e0,if_pos rfl] at hL3;refine Zf (zi q Z9) ?_;intro g47;refine Zma (f:=V.int .i64) (l:=acc) (l2:=[(k:Int)]) (g:=g) (fun _=>rfl) rfl rfl rfl zp (Zaa (by omega) (by simp;omega)) fun g2=>?_;refine Zs ?_;refine Zf w1 ?_;exact hL3 _ ⟨hk1,g2,trivial,Za (zpf Zeb) zp⟩
 ·cases q:(x.target==v)
  ·have e0:(((true:Bool) && x.target==v) || (!(true:Bool) && x.source==v))=false:=by simp [q]
   rw [e0,if_neg (by decide),List.append_nil] at hL3;refine Zf (zi q (zi w1 Z9)) ?_;exact hL3 _ ⟨hk1,g,trivial,Za (zpf Zeb) zp⟩
  ·have e0:(((true:Bool) && x.target==v) || (!(true:Bool) && x.source==v))=true:=by simp [q]
   rw [e0,if_pos rfl] at hL3;refine Zf (zi q Z9) ?_;intro g47;refine Zma (f:=V.int .i64) (l:=acc) (l2:=[(k:Int)]) (g:=g) (fun _=>rfl) rfl rfl rfl zp (Zaa (by omega) (by simp;omega)) fun g2=>?_;refine Zs ?_;refine Zf w1 ?_;exact hL3 _ ⟨hk1,g2,trivial,Za (zpf Zeb) zp⟩
theorem Znv (G:Nat→V) (hG:GOk G) (b c d e:Col) (m:MdM) (vs:Sl (List UInt8)) (hw:m.ways.l.length<1000000) (v:Int) :
  Spec Tryz.prog G 133 [wdV b c d e m vs,.int .i64 v,.bool true] Zl (fun w _=>w=Zb .new 1 (V.int .i64) (Zm (m.p.inc v))):=by
 rw [← PM.wys_inc];refine Zo 0 52 [.tmp 6] Tryz.func133 fun X=>?_;have hrg:=fun i (h:i∈m.p.wysI v true m.p.ways.length)=>PM.wysI_rng h;have hlw:=Nat.le_trans (PM.wysI_len (m:=m.p) v true m.p.ways.length) (Nat.le_of_eq m.nw);have hsp:=Z4k G hG b.ent c.ent d.ent e.ent m vs hw v true;generalize m.p.wysI v true m.p.ways.length=l at hrg hsp hlw ⊢;refine Z ?_;refine Zc hG ?_ (s:=hsp);refine Z ?_
 refine Zda l.length (fun k (g:Nat)=>st [(0,wdV b c d e m vs),(2,.bool true),(7,Zb .new 1 (V.int .i64) (Zm l)),(8,grown 35 g 1 ((l.take k).map fun i=>(m.p.wy i).source)),(9,.int .i64 k)] [(35,Zxa g (V.int .i64) ((l.take k).map fun i=>(m.p.wy i).source))])
  (fun _ _=>True) 0 0 (Nat.zero_le _) trivial (Za zp zp) ?_
 intro k g hk _ L3 hL3
 by_cases hk1:k<l.length
 rotate_left
 ·have hke:k=l.length:=by omega
  subst hke
  have hlt:decide ((l.length:Int)<(l.length:Int))=false:=by simp
  rw [List.take_length];generalize (l.map fun i=>(m.p.wy i).source)=acc;refine AW.weak (Zv (fun o=>o==35) (l:=[(7,Zb .new 1 (V.int .i64) (Zm l)),(8,Zb .new 1 (V.int .i64) (Zm acc)),(9,.int .i64 l.length)]) (m:=[]) ?_ trivial) ?_
  ·refine Zs ?_
   exact ⟨Zd _,Z0a (l:=acc) (g:=g) (f:=V.int .i64) rfl zp (fun _=>rfl),Zd _⟩
  exact Zq (zi hlt (@Zp Int l))
 have hlt:decide ((k:Int)<(l.length:Int))=true:=zT;have hg:=List.getElem?_eq_getElem hk1
 have htk:l.take (k+1)=l.take k++[l[k]]:=by rw [List.take_succ_eq_append_getElem hk1]
 obtain ⟨i0,i1⟩:=hrg _ (List.getElem_mem hk1);obtain ⟨j,x,hjk,hj,hgj,hxe⟩:=Zud i0 i1;rw [htk,List.map_append,List.map_cons,List.map_nil,hxe,show x.p.source=x.source from rfl] at hL3;rw [hjk] at hg
 have hlk:((l.take k).map fun i=>(m.p.wy i).source).length=k:=by rw [List.length_map,List.length_take];omega
 generalize ((l.take k).map fun i=>(m.p.wy i).source)=acc at hL3 hlk ⊢;have w1:IntKind.i64.wrap ((k:Int)+1)=(k:Int)+1:=w64 (by omega) (by omega);refine Z1f (zi hlt (@Zp Int l)) ?_;refine Zf (@Zp Int l) ?_;refine ZTf (zi hg (zi hk1 (zi hgj (zi hj (zi Z9 (zi Zeb (zi (@Zp Int l) (zi @Int.natCast_nonneg @Int.ofNat_lt)))))))) hG ?_;intro g34;refine Zma (f:=V.int .i64) (l:=acc) (l2:=[x.source]) (g:=g) (fun _=>rfl) rfl rfl rfl zp (Zaa (by omega) (by simp;omega)) fun g2=>?_;refine Zs ?_;refine Zf w1 ?_;exact hL3 _ ⟨hk1,g2,trivial,Za (zpf Zeb) zp⟩
theorem Zov (G:Nat→V) (hG:GOk G) (b c d e:Col) (m:MdM) (vs:Sl (List UInt8)) (hw:m.ways.l.length<1000000) (v:Int) :
  Spec Tryz.prog G 133 [wdV b c d e m vs,.int .i64 v,.bool false] Zl (fun w _=>w=Zb .new 1 (V.int .i64) (Zm (m.p.out v))):=by
 rw [← PM.wys_out];refine Zo 0 52 [.tmp 6] Tryz.func133 fun X=>?_;have hrg:=fun i (h:i∈m.p.wysI v false m.p.ways.length)=>PM.wysI_rng h;have hlw:=Nat.le_trans (PM.wysI_len (m:=m.p) v false m.p.ways.length) (Nat.le_of_eq m.nw);have hsp:=Z4k G hG b.ent c.ent d.ent e.ent m vs hw v false;generalize m.p.wysI v false m.p.ways.length=l at hrg hsp hlw ⊢;refine Z ?_;refine Zc hG ?_ (s:=hsp);refine Z ?_
 refine Zda l.length (fun k (g:Nat)=>st [(0,wdV b c d e m vs),(2,.bool false),(7,Zb .new 1 (V.int .i64) (Zm l)),(8,grown 50 g 1 ((l.take k).map fun i=>(m.p.wy i).target)),(9,.int .i64 k)] [(50,Zxa g (V.int .i64) ((l.take k).map fun i=>(m.p.wy i).target))])
  (fun _ _=>True) 0 0 (Nat.zero_le _) trivial (Za zp zp) ?_
 intro k g hk _ L3 hL3
 by_cases hk1:k<l.length
 rotate_left
 ·have hke:k=l.length:=by omega
  subst hke
  have hlt:decide ((l.length:Int)<(l.length:Int))=false:=by simp
  rw [List.take_length];generalize (l.map fun i=>(m.p.wy i).target)=acc;refine AW.weak (Zv (fun o=>o==50) (l:=[(7,Zb .new 1 (V.int .i64) (Zm l)),(8,Zb .new 1 (V.int .i64) (Zm acc)),(9,.int .i64 l.length)]) (m:=[]) ?_ trivial) ?_
  ·refine Zs ?_
   exact ⟨Zd _,Z0a (l:=acc) (g:=g) (f:=V.int .i64) rfl zp (fun _=>rfl),Zd _⟩
  exact Zq (zi hlt (@Zp Int l))
 have hlt:decide ((k:Int)<(l.length:Int))=true:=zT;have hg:=List.getElem?_eq_getElem hk1
 have htk:l.take (k+1)=l.take k++[l[k]]:=by rw [List.take_succ_eq_append_getElem hk1]
 obtain ⟨i0,i1⟩:=hrg _ (List.getElem_mem hk1);obtain ⟨j,x,hjk,hj,hgj,hxe⟩:=Zud i0 i1;rw [htk,List.map_append,List.map_cons,List.map_nil,hxe,show x.p.target=x.target from rfl] at hL3;rw [hjk] at hg
 have hlk:((l.take k).map fun i=>(m.p.wy i).target).length=k:=by rw [List.length_map,List.length_take];omega
 generalize ((l.take k).map fun i=>(m.p.wy i).target)=acc at hL3 hlk ⊢;have w1:IntKind.i64.wrap ((k:Int)+1)=(k:Int)+1:=w64 (by omega) (by omega);refine Z1f (zi hlt (@Zp Int l)) ?_;refine Zf (@Zp Int l) ?_;refine ZTf (zi hg (zi hk1 (zi hgj (zi hj (zi Z9 (zi Zeb (zi (@Zp Int l) (zi @Int.natCast_nonneg @Int.ofNat_lt)))))))) hG ?_;intro g34;refine Zma (f:=V.int .i64) (l:=acc) (l2:=[x.target]) (g:=g) (fun _=>rfl) rfl rfl rfl zp (Zaa (by omega) (by simp;omega)) fun g2=>?_;refine Zs ?_;refine Zf w1 ?_;exact hL3 _ ⟨hk1,g2,trivial,Za (zpf Zeb) zp⟩
theorem Zdq (G:Nat→V) (hG:GOk G) (s:List UInt8) (hs:s.length<100000):Spec Tryz.prog G 207 [.str s] Zl (fun v _=>v = .bool (Zie s)):=by
 refine Zo 0 26 [.tmp 2] Tryz.func207 fun X=>?_;rw [Zie];refine Z ?_;refine Zn hG ?_ (s:=Zee G hG s hs);generalize Zka s=p;obtain ⟨l,a,q⟩:=p;simp only [encTok,encTks];refine Zs ?_;cases q0:(q==0)
 ·exact Zh q0
 have e1:(((l.length:Nat):Int)==1)=(l.length==1):=by
  rw [Bool.eq_iff_iff,beq_iff_eq,beq_iff_eq];omega
 cases q1:(l.length==1)
 ·rw [q1] at e1
  exact Zh (zi q0 (zi e1 (@Zp Tk l)))
 rw [q1] at e1
 have h1:l.length=1:=by simpa using q1
 obtain ⟨t,rfl⟩:∃ t,l=[t]:=List.length_eq_one_iff.1 h1;exact Zh (zi q0 Zbb)
theorem Zdl (G:Nat→V) (hG:GOk G) (b c d e:Col) (m:MdM) (vs:Sl (List UInt8)) (s:List UInt8) (hs:s.length≤900) (hv:vs.l.length<100000) (hev:m.events.l.length<1000000) :
  Spec Tryz.prog G 140 [wdV b c d e m vs,.str s] Zl (fun w _=>w = .bool (Zea vs.l m.events.l s)):=by
 refine Zo 0 34 [.tmp 4] Tryz.func140 fun X=>?_;have hbk:=Zuu hs;have hT:=fun c c1 c2 c3=>Zex G hG c c1 c2 c3 (amS (Ztk s).1) vs m.events hbk.amok hv hev;rw [amS_v] at hT;have hp:=Zgx G hG s (by omega);rw [Zea];generalize Ztk s=p at hT hp hbk;obtain ⟨l,a,q⟩:=p;simp only at hT hbk;generalize Zwj l vs.l m.events.l=t at hT;refine Z ?_;refine Zn hG ?_ (s:=hp);simp only [encBR,Z2y,Zju];refine Zs ?_;cases q0:(q==0)
 ·have q1:(q != 0)=true:=by simpa using q0
  exact Zq q1
 have q1:(q != 0)=false:=by simpa using q0
 refine Z1f q1 ?_;refine Z0f q1 ?_;refine Z5 ?_;refine Zw ⟨fun i=>if i=10 then .tuple [.int .i64 t.1,.int .i64 t.2] else .top,fun _ => .pure⟩ zk hG zk zk ?_;refine Zsf @Zeb ?_;refine ⟨⟨by kernel_rfl,by simp -implicitDefEqProofs only[go_sem,seval];exact (hT _ _ _ _).mono (by rintro _ _ rfl;rfl)⟩,?_⟩;refine Z ?_;rw [Bool.true_and]
section
theorem Zfs {α : Type} (p : α → Bool) {l:List α} {k:Nat} {x : α} (h:l[k]? = some x) (ht:(l.take k).all p=true) (hx:p x=true):(l.take (k+1)).all p=true:=by
 rw [List.take_add_one,h,List.all_append,ht];simp [hx]
theorem Z74 {α : Type} (p : α → Bool) {l:List α} {k:Nat} {x : α} (h:l[k]? = some x) (hx:p x=false):l.all p=false:=by
 rw [← Bool.not_eq_true,List.all_eq_true];intro ha;rw [ha x (List.mem_of_getElem? h)] at hx;cases hx
set_option maxRecDepth 10000
set_option maxHeartbeats 1000000
theorem Zkz (G:Nat→V) (hG:GOk G) (b c d e c1 c2:Col) (m:MdM) (vs:Sl (List UInt8)) (hm:m.p.Rt) (hb:MdB m) (l l2:Sl Int) (hll:l.l.length<1000000) (hr:∀ v∈l.l,0≤v∧v<m.p.vertices.length) :
  Spec Tryz.prog G 136 [wdV b c d e m vs,Zb c1 1 (V.int .i64) l,Zb c2 1 (V.int .i64) l2] Zl (fun w _=>w = .bool (l2.l.length==1 && decide (1<l.l.length) && (l.l.all fun u=>m.p.kd u==1) && m.p.partU l.l)):=by
 refine Zo 0 40 [.tmp 6] Tryz.func136 fun X=>?_;have b1:=hb.nr;have b2:=hb.nx;refine Z ?_;refine Zda l.l.length (fun k (_:Unit)=>st [(0,wdV b c d e m vs),(1,Zb c1 1 (V.int .i64) l),(2,Zb c2 1 (V.int .i64) l2),(7,.int .i64 k)] []) (fun k _=>(l.l.take k).all (fun u=>m.p.kd u==1)=true) 0 () (Nat.zero_le _) rfl (Za zp zp) ?_;intro k _ hk hR L3 hL3
 by_cases hk1:k<l.l.length
 rotate_left
 ·have hke:k=l.l.length:=by omega
  have hlt:decide ((k:Int)<(l.l.length:Int))=false:=zF;rw [hke,List.take_length] at hR;rw [hR,Bool.and_true];have e1:((l2.l.length:Int)==1)=(l2.l.length==1):=eqN _ 1;have e2:decide ((l.l.length:Int)≥2)=decide (1<l.l.length):=decide_eq_decide.2 (by omega);cases q1:(l2.l.length==1)
  ·rw [q1] at e1
   exact Zq (zi hlt e1)
  rw [q1] at e1;cases q2:decide (1<l.l.length)
  ·rw [q2] at e2
   exact Zq (zi hlt (zi e1 e2))
  rw [q2] at e2;refine Zf (zi hlt (zi e1 e2)) ?_;refine Zc hG ?_ (s:=Z5k G hG _ _ _ _ _ m vs hm (by omega) (by omega) l (Z2m q2) hll hr);rw [Bool.true_and,Bool.true_and];exact Zr
 have hlt:decide ((k:Int)<(l.l.length:Int))=true:=zT;have hg:=List.getElem?_eq_getElem hk1;obtain ⟨v0,v1⟩:=hr l.l[k] (List.getElem_mem hk1);have hmem:=List.getElem_mem hk1;generalize l.l[k]=u at hg v0 v1 hmem;have w1:IntKind.i64.wrap ((k:Int)+1)=(k:Int)+1:=w64 (by omega) (by omega);obtain ⟨j,x,hj,hjl,hgj,hx⟩:=MdM.at v0 v1
 have hkd:(m.p.kd u==1)=(x.kind==1):=by rw [PM.kd,hx]<;>rfl
 refine Z1f hlt ?_;have f:=zi hg (zi hk1 (zi hj (zi hgj (zi hjl (zi Zt (zi Zeb (zi @Int.natCast_nonneg @Int.ofNat_lt)))))));cases q:(x.kind==1)
 ·have q1:(x.kind != 1)=true:=by rw [bne,q]<;>rfl
  rw [Z74 _ hg (by rw [hkd,q]),Bool.and_false,Bool.false_and];refine ZTf (zi q1 f) hG ?_;exact Zr
 ·have q1:(x.kind != 1)=false:=by rw [bne,q]<;>rfl
  refine ZTf (zi q1 f) hG ?_;refine Zf w1 ?_;exact hL3 _ ⟨hk1,(),Zfs _ hg hR (by rw [hkd,q]),Za (zpf Zeb) zp⟩
theorem Zkp (G:Nat→V) (hG:GOk G) (b c d e c1 c2:Col) (m:MdM) (vs:Sl (List UInt8)) (hw:m.ways.l.length<1000000) (hgl:∀ t∈m.ways.l,t.guard.length<100000) (v:Int) (l l2:Sl Int) :
  Spec Tryz.prog G 137 [wdV b c d e m vs,.int .i64 v,Zb c1 1 (V.int .i64) l,Zb c2 1 (V.int .i64) l2] Zl (fun w _=>w = .bool (decide (0<l.l.length) && decide (0<l2.l.length) && decide (m.p.elses v≤1))):=by
 refine Zo 0 48 [.tmp 8] Tryz.func137 fun X=>?_;rw [← PM.wys_els];have hrg:=fun i (h:i∈m.p.wysI v false m.p.ways.length)=>PM.wysI_rng h;have hlw:=Nat.le_trans (PM.wysI_len (m:=m.p) v false m.p.ways.length) (Nat.le_of_eq m.nw);have hsp:=Z4k G hG b.ent c.ent d.ent e.ent m vs hw v false;generalize m.p.wysI v false m.p.ways.length=ws at hrg hsp hlw ⊢;refine Z ?_;refine Zc hG ?_ (s:=hsp);refine Z ?_
 refine Zda ws.length (fun k (_:Unit)=>st [(0,wdV b c d e m vs),(2,Zb c1 1 (V.int .i64) l),(3,Zb c2 1 (V.int .i64) l2),(9,.int .i64 ((ws.take k).filter fun i=>Zie (m.p.wy i).guard).length),(10,Zb .new 1 (V.int .i64) (Zm ws)),(11,.int .i64 k)] [])
  (fun _ _=>True) 0 () (Nat.zero_le _) trivial (Za zp zp) ?_
 intro k _ hk _ L3 hL3
 by_cases hk1:k<ws.length
 rotate_left
 ·have hke:k=ws.length:=by omega
  have hlt:decide ((k:Int)<(ws.length:Int))=false:=zF;rw [hke,List.take_length];rw [hke] at hlt;generalize (ws.filter fun i=>Zie (m.p.wy i).guard).length=n;have e1:decide ((l.l.length:Int)≥1)=decide (0<l.l.length):=decide_eq_decide.2 (by omega);have e2:decide ((l2.l.length:Int)≥1)=decide (0<l2.l.length):=decide_eq_decide.2 (by omega);have e3:decide ((n:Int)≤1)=decide (n≤1):=decide_eq_decide.2 (by omega);have f:=zi hlt (@Zp Int ws);cases q1:decide (0<l.l.length)
  ·rw [q1] at e1
   exact Zq (zi f e1)
  rw [q1] at e1;cases q2:decide (0<l2.l.length)
  ·rw [q2] at e2
   exact Zq (zi f (zi e1 e2))
  rw [q2] at e2;exact Zq (zi f (zi e1 (zi e2 e3)))
 have hlt:decide ((k:Int)<(ws.length:Int))=true:=zT;have hg:=List.getElem?_eq_getElem hk1
 have htk:ws.take (k+1)=ws.take k++[ws[k]]:=by rw [List.take_succ_eq_append_getElem hk1]
 obtain ⟨i0,i1⟩:=hrg _ (List.getElem_mem hk1);obtain ⟨j,x,hjk,hj,hgj,hxe⟩:=Zud i0 i1;have hn:((ws.take k).filter fun i=>Zie (m.p.wy i).guard).length≤k:=Nat.le_trans (List.length_filter_le _ _) (by rw [List.length_take];omega);rw [htk,List.filter_append,List.length_append,List.filter_cons,hxe] at hL3;have hxg:x.p.guard=x.guard:=rfl;rw [hxg] at hL3;rw [hjk] at hg;generalize ((ws.take k).filter fun i=>Zie (m.p.wy i).guard).length=n at hn hL3 ⊢;have hsp2:=Zdq G hG x.guard (hgl x (List.mem_of_getElem? hgj));generalize Zie x.guard=bb at hsp2 hL3;have w1:IntKind.i64.wrap ((k:Int)+1)=(k:Int)+1:=w64 (by omega) (by omega);have w2:IntKind.i64.wrap ((n:Int)+1)=(n:Int)+1:=w64 (by omega) (by omega);refine Z1f (zi hlt (@Zp Int ws)) ?_
 repeat first
  | refine Z5 ?_
  | refine AW.block ?_
  | refine Zpc rfl ?_
  | refine Z9a rfl ?_
  | (refine AW.skip ?_;simp -implicitDefEqProofs only[go_sem,seval])
  | (refine AW.exit ?_;simp -implicitDefEqProofs only[go_sem,seval])
 refine Zw ⟨fun i=>if i=12 then .bool bb else .top,fun _ => .pure⟩ zk hG zk zk ?_;refine Zsf (zi hg (zi hk1 (zi hgj (zi hj (zi @Z9 (zi @Zeb (zi @Zp (zi @Int.natCast_nonneg @Int.ofNat_lt)))))))) ?_;refine ⟨⟨by kernel_rfl,by simp -implicitDefEqProofs only[go_sem,seval];exact hsp2.mono (by rintro _ _ rfl;rfl)⟩,?_⟩;cases bb
 ·rw [if_neg (by decide)] at hL3
  simp only [List.filter_nil,List.length_nil,Nat.add_zero] at hL3;refine Zf w1 ?_;exact hL3 _ ⟨hk1,(),trivial,Za (zpf Zeb) zp⟩
 ·rw [if_pos rfl] at hL3
  simp only [List.filter_nil,List.length_nil,List.length_cons,Nat.zero_add] at hL3;refine Zf (zi w1 w2) ?_;exact hL3 _ ⟨hk1,(),trivial,Za (by simp -implicitDefEqProofs only[go_sem,seval,Zeb];exact ⟨rfl,rfl⟩) zp⟩
theorem Zmv (G:Nat→V) (hG:GOk G) (b c d e c2:Col) (m:MdM) (vs:Sl (List UInt8)) (hm:m.p.Rt) (hrl:m.regions.l.length<1000000) (l:Sl Int) (hll:l.l.length<1000000) (hr:∀ v∈l.l,0≤v∧v<m.p.vertices.length) (s:Int) (hs:0≤s) :
  Spec Tryz.prog G 139 [wdV b c d e m vs,Zb c2 1 (V.int .i64) l,.int .i64 s] Zl (fun w _=>w = .bool (Zpe [] (l.l.map (m.p.regU · s)))):=by
 refine Zo 0 11 [.tmp 6] Tryz.func139 fun X=>?_;rw [← show l.l.map (m.p.regR · s)=l.l.map (m.p.regU · s) from List.map_congr_left fun v hv=>hm.acy.regR_eq (hr v hv).1 (hr v hv).2 hs];refine Z ?_;refine Zc hG ?_ (s:=Z4l G hG _ _ _ _ _ m vs hm hrl l hll hr s);exact Zr
theorem Z0s (G:Nat→V) (hG:GOk G) (b c d e c2:Col) (m:MdM) (vs:Sl (List UInt8)) (hm:m.p.Rt) (hb:MdB m) (v:Nat) (h1:v<m.verts.l.length) (hkd:m.p.kd v=8∨m.p.kd v=9) (l:Sl Int) (hr:∀ v∈l.l,0≤v∧v<m.p.vertices.length) :
  Spec Tryz.prog G 138 [wdV b c d e m vs,.int .i64 v,Zb c2 1 (V.int .i64) l] Zl (fun w _=>w = .bool (!((m.p.vx v).region==0) && m.p.twins v==1 && decide (l.l.length≤1) && (l.l.length==0 || m.p.withinB (l.l.headD 0) (m.p.vx v).region))):=by
 refine Zo 0 83 [.tmp 6] Tryz.func138 fun X=>?_;have b2:=hb.nx
 have hvp:v<m.p.vertices.length:=by rw [m.nv];exact h1
 have hg:=List.getElem?_eq_getElem h1;have hpt:=hm.toRt5.pt (v:=v) (by omega) (by omega);have hx:=Zpf hg;have t1:=PM.twins_one (m:=m.p) hvp;have t2:=fun i=>PM.twins_two (m:=m.p) (v:=v) (i:=i) hvp;rw [PM.kd] at hkd;rw [hx] at hpt t1 t2 hkd ⊢;generalize m.verts.l[v]=x at hg hx hpt t1 t2 hkd ⊢;generalize m.p.twins v=tw at t1 t2 ⊢
 have hkx:¬ (x.kind=10∨x.kind=11):=by
  have:x.p.kind=x.kind:=rfl;omega
 obtain ⟨_,r0,r1,_⟩:=hpt.resolve_left (fun h=>hkx h.2.2.2.2);have r0:0≤x.region:=r0;have r1:x.region<m.p.regions.length:=r1;have hxr:x.p.region=x.region:=rfl;rw [hxr];refine Zf (zi hg (zi Zt (zi Zeb (zi h1 (zi @Int.natCast_nonneg @Int.ofNat_lt))))) ?_;intro g7;refine AW.weak (Zv (fun o=>o==7) (l:=[(0,wdV b c d e m vs),(1,.int .i64 v),(2,Zb c2 1 (V.int .i64) l),(7,.view .new (Zwa d x))]) (m:=[]) ?_ trivial) ?_
 ·refine Zsf @Zeb ?_
  exact ⟨Zd _,Zd _,Zd _,Fz.ptr (v:=Zwa d x) (c := .new) (fz:=0) zp zp⟩
 refine Z ?_
 refine Zda m.verts.l.length (fun k (_:Unit)=>st [(0,wdV b c d e m vs),(1,.int .i64 v),(2,Zb c2 1 (V.int .i64) l),(7,.view .new (Zwa d x)),(8,.int .i64 k)] [])
  (fun k _=>∀ i:Nat,i<k→i≠v→((m.p.vx (i:Int)).kind==x.kind && (m.p.vx (i:Int)).region==x.region)=false) 0 () (Nat.zero_le _) (fun i h=>absurd h (Nat.not_lt_zero _)) (Za zp zp) ?_
 intro k _ hk hR L3 hL3
 by_cases hk1:k<m.verts.l.length
 ·have hlt:decide ((k:Int)<(m.verts.l.length:Int))=true:=zT
  have hgk:=List.getElem?_eq_getElem hk1;have hy:=Zpf hgk;generalize m.verts.l[k]=y at hgk hy;have w1:IntKind.i64.wrap ((k:Int)+1)=(k:Int)+1:=w64 (by omega) (by omega);refine Z1f (zi hlt Zeb) ?_;refine Zf (zi hgk (zi hk1 (zi Zt (zi Zeb (zi @Int.natCast_nonneg @Int.ofNat_lt))))) ?_;intro g9
  have hgo:((k≠v→(y.kind==x.kind && y.region==x.region)=false)→∀ s,Weak ⟨X,Zl,83,0,G,none,[]⟩ s (st [(0,wdV b c d e m vs),(1,.int .i64 v),(2,Zb c2 1 (V.int .i64) l),(7,.view .new (Zwa d x)),(8,.int .i64 (k+1:Nat))] [])→L3 s):=fun h s hs=>by
   refine hL3 s ⟨hk1,(),fun i hi hne=>?_,hs⟩
   by_cases h3:i=k
   ·rw [h3,hy];exact h (by rw [← h3];exact hne)
   ·exact hR i (by omega) hne
  try clear hL3
  by_cases q1:k=v
  ·have f1:((k:Int) != (v:Int))=false:=by simp [q1]
   refine Zf (zi f1 (zi w1 Zt)) ?_;exact hgo (fun h=>absurd q1 h) _ (Za (zpf (zi Zeb @Zt)) zp)
  have f1:((k:Int) != (v:Int))=true:=by
   have:¬ (k:Int)=(v:Int):=by omega
   simpa using this
  cases q2:(y.kind==x.kind)
  ·refine Zf (zi f1 (zi q2 (zi w1 Zt))) ?_
   exact hgo (fun _=>by rw [q2]<;>rfl) _ (Za (zpf (zi Zeb @Zt)) zp)
  cases q3:(y.region==x.region)
  ·refine Zf (zi f1 (zi q2 (zi q3 (zi w1 Zt)))) ?_
   exact hgo (fun _=>by rw [q3,Bool.and_false]) _ (Za (zpf (zi Zeb @Zt)) zp)
  have hne:(tw==1)=false:=by
   have:=t2 k (by rw [m.nv];exact hk1) q1 (by rw [hy];show (y.kind==x.kind && y.region==x.region)=true;rw [q2,q3]<;>rfl);simpa using this
  rw [hne];simp only [Bool.and_false,Bool.false_and];exact Zq (zi f1 (zi q2 (zi q3 Zt)))
 have hke:k=m.verts.l.length:=by omega
 have hlt:decide ((k:Int)<(m.verts.l.length:Int))=false:=zF;have htw:tw=1:=t1 fun i hi hne=>hR i (by rw [m.nv] at hi;omega) hne;rw [htw];have e0:((1:Nat)==1)=true:=rfl;rw [e0,Bool.and_true];have how:=hm.toRt5.ow0 r0 r1;obtain ⟨ri,y,hri,hrl,hgr,hor⟩:=Z8m r0 r1;rw [hor] at how;refine Z1f (zi hlt Zeb) ?_;have e2:decide ((l.l.length:Int)≤1)=decide (l.l.length≤1):=decide_eq_decide.2 (by omega);have e3:((l.l.length:Int)==0)=(l.l.length==0):=eqN _ 0
 have hne:(y.2 != -1) = !(x.region==0):=by rw [bne,how]
 cases q1:(x.region==0);rotate_left
 ·rw [q1] at hne
  repeat first
   | refine Z5 ?_
   | refine AW.block ?_
   | refine Zpc rfl ?_
   | refine Z9a rfl ?_
   | (refine AW.skip ?_;simp -implicitDefEqProofs only[go_sem,seval])
   | (refine AW.exit ?_;simp -implicitDefEqProofs only[go_sem,seval])
  refine Zw ⟨fun i => .top,fun _ => .pure⟩ zk hG zk zk ?_;refine Zsf (zi hgr (zi hri (zi hrl (zi hne (zi @Zza (zi @Zt (zi @Zeb (zi @Int.natCast_nonneg @Int.ofNat_lt)))))))) ?_;exact Zr
 rw [q1] at hne;cases q3:decide (l.l.length≤1)
 ·rw [q3] at e2
  repeat first
   | refine Z5 ?_
   | refine AW.block ?_
   | refine Zpc rfl ?_
   | refine Z9a rfl ?_
   | (refine AW.skip ?_;simp -implicitDefEqProofs only[go_sem,seval])
   | (refine AW.exit ?_;simp -implicitDefEqProofs only[go_sem,seval])
  refine Zw ⟨fun i => .top,fun _ => .pure⟩ zk hG zk zk ?_;refine Zsf (zi hgr (zi hri (zi hrl (zi hne (zi e2 (zi @Zza (zi @Zt (zi @Zeb (zi @Int.natCast_nonneg @Int.ofNat_lt))))))))) ?_;exact Zr
 rw [q3] at e2;cases q4:(l.l.length==0);rotate_left
 ·rw [q4] at e3
  repeat first
   | refine Z5 ?_
   | refine AW.block ?_
   | refine Zpc rfl ?_
   | refine Z9a rfl ?_
   | (refine AW.skip ?_;simp -implicitDefEqProofs only[go_sem,seval])
   | (refine AW.exit ?_;simp -implicitDefEqProofs only[go_sem,seval])
  refine Zw ⟨fun i => .top,fun _ => .pure⟩ zk hG zk zk ?_;refine Zsf (zi hgr (zi hri (zi hrl (zi hne (zi e2 (zi e3 (zi @Zza (zi @Zt (zi @Zeb (zi @Int.natCast_nonneg @Int.ofNat_lt)))))))))) ?_;exact Zr
 rw [q4] at e3
 have hlen:l.l.length=1:=by
  have:=of_decide_eq_true q3
  have:l.l.length≠0:=by simpa using q4
  omega
 obtain ⟨w,hw⟩:∃ w,l.l=[w]:=List.length_eq_one_iff.1 hlen;obtain ⟨w0,w1⟩:=hr w (by rw [hw];exact List.mem_singleton.2 rfl)
 have hhd:l.l.headD 0=w:=by rw [hw]<;>rfl
 have hg0:l.l[0]? = some w:=by rw [hw]<;>rfl
 have hlen0:0<l.l.length:=by omega
 rw [hhd];have hsp:=fun b c d e=>Zeh G hG m vs hm x.region w w0 w1 b c d e;generalize m.p.withinB w x.region=bb at hsp ⊢
 repeat first
  | refine Z5 ?_
  | refine AW.block ?_
  | refine Zpc rfl ?_
  | refine Z9a rfl ?_
  | (refine AW.skip ?_;simp -implicitDefEqProofs only[go_sem,seval])
  | (refine AW.exit ?_;simp -implicitDefEqProofs only[go_sem,seval])
 refine Zw ⟨fun i=>if i=27 then .bool bb else .top,fun _ => .pure⟩ zk hG zk zk ?_;refine Zsf (zi hgr (zi hri (zi hrl (zi hne (zi e2 (zi e3 (zi hg0 (zi hlen0 (zi @Zza (zi @Zt (zi @Zeb (zi @Int.natCast_nonneg @Int.ofNat_lt)))))))))))) ?_;refine ⟨⟨by kernel_rfl,by simp -implicitDefEqProofs only[go_sem,seval];rw [← hri];exact (hsp _ _ _ _).mono (by rintro _ _ rfl;rfl)⟩,?_⟩;exact Zr
end
end Go.Hs
end

section
namespace Go.Hs
open Go.Proofs
set_option maxRecDepth 10000
set_option maxHeartbeats 4000000
theorem Z2l (G:Nat→V) (hG:GOk G) (b c d e:Col) (m:MdM) (vs:Sl (List UInt8)) (hm:m.p.Rt) (hb:MdB m) (ht:MdT m) (hvs:vs.l=m.p.vn) (r:Nat) (hr:r=2∨r=3∨r=4∨r=5∨r=6∨r=7∨r=8∨r=13) (v:Int) (h0:0≤v) (h1:v<m.p.vertices.length) :
  Spec Tryz.prog G 73 [wdV b c d e m vs,.int .i64 r,.int .i64 v] Zl (fun w _=>w = .bool (m.p.keep Zea Z4 r v)):=by
 refine Zo 0 190 [.tmp 6] Tryz.func73 fun X=>?_;have b0:=hb.nv;have b1:=hb.nr;have b2:=hb.nx;have b3:=hb.nw;have b4:=hb.ne
 have hvl:m.p.vn.length≤600:=by
  show (m.vars.l.map _).length≤_
  rw [List.length_map];exact b0
 have hsl:vs.l.length<100000:=by rw [hvs];omega
 have ho:=hm.outR v;have hi:=hm.incR v;have hol:=Zao m v;have hil:=Zx3 m v;have hpt:=hm.toRt5.pt h0 h1;have hsT:=fun b c d e=>Znv G hG b c d e m vs (by omega) v;have hsF:=fun b c d e=>Zov G hG b c d e m vs (by omega) v;obtain ⟨k,x,rfl,hk,hg,hx⟩:=MdM.at h0 h1
 have hkd:m.p.kd (k:Int)=x.kind:=by rw [PM.kd,hx]<;>rfl
 refine Zf (zi hg (zi Zt (zi Zeb (zi hk (zi @Int.natCast_nonneg @Int.ofNat_lt))))) ?_;intro g7;refine AW.weak (Zv (fun o=>o==7) (l:=[(0,wdV b c d e m vs),(1,.int .i64 r),(2,.int .i64 k),(6,.bool false),(7,.view .new (Zwa d x))]) (m:=[]) ?_ trivial) ?_
 ·refine Zsf @Zeb ?_
  exact ⟨Zd _,Zd _,Zd _,Zd _,Fz.ptr (v:=Zwa d x) (c := .new) (fz:=0) zp zp⟩
 refine Z ?_;refine Zc hG ?_ (s:=hsT _ _ _ _);refine Z ?_;refine Zc hG ?_ (s:=hsF _ _ _ _);have fi := @Zp Int (m.p.inc k);have fo := @Zp Int (m.p.out k);have gi:=Zt
 rcases hr with rfl | rfl | rfl | rfl | rfl | rfl | rfl | rfl
 ·have hK:m.p.keep Zea Z4 2 k=(!(x.kind==3) || ((m.p.out k).length==1 && m.p.withinB ((m.p.out k).headD 0) x.region && (m.p.inc k).length==0)):=by
   show m.p.k2 k=_
   rw [PM.k2,hkd,hx]<;>rfl
  rw [hK];cases q:(x.kind==3)
  ·exact Zq (zi q gi)
  refine Z1f (zi q gi) ?_;have e1:(((m.p.inc k).length:Int)==0)=((m.p.inc k).length==0):=eqN _ 0;have e2:(((m.p.out k).length:Int)==1)=((m.p.out k).length==1):=eqN _ 1;cases q1:((m.p.inc k).length==0)
  ·rw [q1] at e1
   simp only [Bool.and_false]
   repeat first
    | refine Z5 ?_
    | refine AW.block ?_
    | refine Zpc rfl ?_
    | refine Z9a rfl ?_
    | (refine AW.skip ?_;simp -implicitDefEqProofs only[go_sem,seval])
    | (refine AW.exit ?_;simp -implicitDefEqProofs only[go_sem,seval])
   refine Zw ⟨fun i => .top,fun _ => .pure⟩ zk hG zk zk ?_;refine Zsf (zi fi e1) ?_;exact Zr
  rw [q1] at e1;cases q2:((m.p.out k).length==1)
  ·rw [q2] at e2
   simp only [Bool.and_false,Bool.false_and]
   repeat first
    | refine Z5 ?_
    | refine AW.block ?_
    | refine Zpc rfl ?_
    | refine Z9a rfl ?_
    | (refine AW.skip ?_;simp -implicitDefEqProofs only[go_sem,seval])
    | (refine AW.exit ?_;simp -implicitDefEqProofs only[go_sem,seval])
   refine Zw ⟨fun i => .top,fun _ => .pure⟩ zk hG zk zk ?_;refine Zsf (zi fi (zi fo (zi e1 e2))) ?_;exact Zr
  rw [q2] at e2;obtain ⟨w,hw⟩:∃ w,m.p.out k=[w]:=List.length_eq_one_iff.1 (by simpa using q2);obtain ⟨w0,w1⟩:=ho w (by rw [hw];exact List.mem_singleton.2 rfl)
  have hhd:(m.p.out k).headD 0=w:=by rw [hw]<;>rfl
  have hg0:(m.p.out k)[0]? = some w:=by rw [hw]<;>rfl
  have hl0:0<(m.p.out k).length:=by rw [hw];exact Nat.succ_pos _
  rw [hhd];have hsp:=fun b c d e=>Zeh G hG m vs hm x.region w w0 w1 b c d e;generalize m.p.withinB w x.region=bb at hsp ⊢
  repeat first
   | refine Z5 ?_
   | refine AW.block ?_
   | refine Zpc rfl ?_
   | refine Z9a rfl ?_
   | (refine AW.skip ?_;simp -implicitDefEqProofs only[go_sem,seval])
   | (refine AW.exit ?_;simp -implicitDefEqProofs only[go_sem,seval])
  refine Zw ⟨fun i=>if i=15 then .bool bb else .top,fun _ => .pure⟩ zk hG zk zk ?_;refine Zsf (zi fi (zi fo (zi e1 (zi e2 (zi hg0 (zi hl0 @Zt)))))) ?_;refine ⟨⟨by kernel_rfl,by simp -implicitDefEqProofs only[go_sem,seval];exact (hsp _ _ _ _).mono (by rintro _ _ rfl;rfl)⟩,?_⟩;simp only [Bool.not_true,Bool.false_or,Bool.true_and,Bool.and_true];exact Zr
 ·have hK:m.p.keep Zea Z4 3 k=(!(x.kind==2 || x.kind==12) || (m.p.out k).length==0):=by
   show m.p.k3 k=_
   rw [PM.k3,hkd]
  rw [hK];have e2:(((m.p.out k).length:Int)==0)=((m.p.out k).length==0):=eqN _ 0;cases q:(x.kind==2)
  ·cases q1:(x.kind==12)
   ·exact Zq (zi q (zi q1 gi))
   ·simp only [Bool.not_true,Bool.false_or,Bool.or_true]
    exact Zq (zi q (zi q1 (zi gi (zi fo e2))))
  ·simp only [Bool.not_true,Bool.false_or,Bool.true_or]
   exact Zq (zi q (zi gi (zi fo e2)))
 ·have hK:m.p.keep Zea Z4 4 k=(!(x.kind==6) || ((m.p.inc k).length==1 && decide (1<(m.p.out k).length) && m.p.partU (m.p.out k))):=by
   show m.p.k4 k=_
   rw [PM.k4,hkd]
  rw [hK];cases q:(x.kind==6)
  ·exact Zq (zi q gi)
  have e1:(((m.p.inc k).length:Int)==1)=((m.p.inc k).length==1):=eqN _ 1;have e2:decide (((m.p.out k).length:Int)≥2)=decide (1<(m.p.out k).length):=decide_eq_decide.2 (by omega);simp only [Bool.not_true,Bool.false_or];cases q1:((m.p.inc k).length==1)
  ·rw [q1] at e1
   exact Zq (zi q (zi gi (zi fi e1)))
  rw [q1] at e1;cases q2:decide (1<(m.p.out k).length)
  ·rw [q2] at e2
   exact Zq (zi q (zi gi (zi fi (zi e1 (zi fo e2)))))
  rw [q2] at e2;refine Zf (zi q (zi gi (zi fi (zi e1 (zi fo e2))))) ?_;refine Zc hG ?_ (s:=Z5k G hG _ _ _ _ _ m vs hm (by omega) (by omega) (Zm (m.p.out k)) (by rw [Zp];exact Z2m q2) (by rw [Zp];omega) (by rw [Zp];exact ho));exact Zr
 ·have hK:m.p.keep Zea Z4 5 k=(!(x.kind==7) || ((m.p.out k).length==1 && decide (1<(m.p.inc k).length) && ((m.p.inc k).all fun u=>m.p.kd u==1) && m.p.partU (m.p.inc k))):=by
   show m.p.k5 k=_
   rw [PM.k5,hkd]
  rw [hK];cases q:(x.kind==7)
  ·exact Zq (zi q gi)
  simp only [Bool.not_true,Bool.false_or];refine Zf (zi q gi) ?_;refine Zc hG ?_ (s:=Zkz G hG _ _ _ _ _ _ m vs hm hb (Zm (m.p.inc k)) (Zm (m.p.out k)) (by rw [Zp];omega) (by rw [Zp];exact hi));exact Zr
 ·have hK:m.p.keep Zea Z4 6 k=(!(x.kind==4 || x.kind==5) || (decide (0<(m.p.inc k).length) && decide (0<(m.p.out k).length) && decide (m.p.elses k≤1))):=by
   show m.p.k6 k=_
   rw [PM.k6,hkd]
  rw [hK]
  have hgl:∀ t∈m.ways.l,t.guard.length<100000:=fun t h=>by have:=ht.gu t h;omega
  have hsp:=fun b c d e c1 c2=>Zkp G hG b c d e c1 c2 m vs (by omega) hgl k (Zm (m.p.inc k)) (Zm (m.p.out k));rw [fi,fo] at hsp;cases q:(x.kind==4)
  ·cases q1:(x.kind==5)
   ·exact Zq (zi q (zi q1 gi))
   ·simp only [Bool.not_true,Bool.false_or,Bool.or_true]
    refine Zf (zi q (zi q1 gi)) ?_;refine Zc hG ?_ (s:=hsp _ _ _ _ _ _);exact Zr
  ·simp only [Bool.not_true,Bool.false_or,Bool.true_or]
   refine Zf (zi q gi) ?_;refine Zc hG ?_ (s:=hsp _ _ _ _ _ _);exact Zr
 ·have hK:m.p.keep Zea Z4 7 k=(!(x.kind==8 || x.kind==9) || (!((m.p.vx k).region==0) && m.p.twins k==1 && decide ((m.p.out k).length≤1) && ((m.p.out k).length==0 || m.p.withinB ((m.p.out k).headD 0) (m.p.vx k).region))):=by
   show m.p.k7 k=_
   rw [PM.k7,hkd]
  rw [hK];have hsp:=fun b c d e c2 h=>Z0s G hG b c d e c2 m vs hm hb k hk h (Zm (m.p.out k)) (by rw [Zp];exact ho);rw [fo,hkd] at hsp;generalize (!((m.p.vx k).region==0) && m.p.twins k==1 && decide ((m.p.out k).length≤1) && ((m.p.out k).length==0 || m.p.withinB ((m.p.out k).headD 0) (m.p.vx k).region))=bb at hsp ⊢;cases q:(x.kind==8)
  ·cases q1:(x.kind==9)
   ·exact Zq (zi q (zi q1 gi))
   ·simp only [Bool.not_true,Bool.false_or,Bool.or_true]
    refine Zf (zi q (zi q1 gi)) ?_;refine Zc hG ?_ (s:=hsp _ _ _ _ _ (.inr (by simpa using q1)));exact Zr
  ·simp only [Bool.not_true,Bool.false_or,Bool.true_or]
   refine Zf (zi q gi) ?_;refine Zc hG ?_ (s:=hsp _ _ _ _ _ (.inl (by simpa using q)));exact Zr
 ·have hK:m.p.keep Zea Z4 8 k=(if x.kind=11 then (m.p.out k).length==1 && !m.p.inB ((m.p.out k).headD 0) x.of else if x.kind=10 then Zpe [] ((m.p.out k).map (m.p.regU · x.of)) && decide (0<(m.p.out k).length) else true):=by
   show m.p.k8 k=_
   rw [PM.k8,hkd,hx]<;>rfl
  rw [hK];rw [hx] at hpt
  by_cases hk10:x.kind=10
  ·have hof:0≤x.of:=by
    rcases hpt with h | h
    ·exact h.1
    ·exact absurd (.inl hk10) h.2.2.2
   rw [if_neg (by omega),if_pos hk10]
   have q:(x.kind==10)=true:=by simpa using hk10
   have e1:decide (((m.p.out k).length:Int) > 0)=decide (0<(m.p.out k).length):=decide_eq_decide.2 (by omega);cases q1:decide (0<(m.p.out k).length)
   ·rw [q1] at e1
    simp only [Bool.and_false];exact Zq (zi q (zi gi (zi fo e1)))
   rw [q1] at e1;have hsp:=fun b c d e c2=>Zmv G hG b c d e c2 m vs hm (by omega) (Zm (m.p.out k)) (by rw [Zp];omega) (by rw [Zp];exact ho) x.of hof;rw [fo] at hsp;rw [Bool.and_true];refine Zf (zi q (zi gi (zi fo e1))) ?_;refine Zc hG ?_ (s:=hsp _ _ _ _ _);exact Zr
  have q:(x.kind==10)=false:=by simpa using hk10
  by_cases hk11:x.kind=11
  rotate_left
  ·rw [if_neg hk11,if_neg hk10]
   have q1:(x.kind==11)=false:=by simpa using hk11
   exact Zq (zi q (zi q1 gi))
  rw [if_pos hk11]
  have q1:(x.kind==11)=true:=by simpa using hk11
  have e2:(((m.p.out k).length:Int)==1)=((m.p.out k).length==1):=eqN _ 1;cases q2:((m.p.out k).length==1)
  ·rw [q2] at e2
   refine Zf (zi q (zi q1 gi)) ?_
   repeat first
    | refine Z5 ?_
    | refine AW.block ?_
    | refine Zpc rfl ?_
    | refine Z9a rfl ?_
    | (refine AW.skip ?_;simp -implicitDefEqProofs only[go_sem,seval])
    | (refine AW.exit ?_;simp -implicitDefEqProofs only[go_sem,seval])
   refine Zw ⟨fun i => .top,fun _ => .pure⟩ zk hG zk zk ?_;refine Zsf (zi fo e2) ?_;exact Zr
  rw [q2] at e2;obtain ⟨w,hw⟩:∃ w,m.p.out k=[w]:=List.length_eq_one_iff.1 (by simpa using q2);obtain ⟨w0,w1⟩:=ho w (by rw [hw];exact List.mem_singleton.2 rfl)
  have hhd:(m.p.out k).headD 0=w:=by rw [hw]<;>rfl
  have hg0:(m.p.out k)[0]? = some w:=by rw [hw]<;>rfl
  have hl0:0<(m.p.out k).length:=by rw [hw];exact Nat.succ_pos _
  rw [hhd,Bool.true_and];have hsp:=fun b c d e=>Z9q G hG m vs hm x.of w w0 w1 b c d e;generalize m.p.inB w x.of=bb at hsp ⊢;refine Zf (zi q (zi q1 gi)) ?_
  repeat first
   | refine Z5 ?_
   | refine AW.block ?_
   | refine Zpc rfl ?_
   | refine Z9a rfl ?_
   | (refine AW.skip ?_;simp -implicitDefEqProofs only[go_sem,seval])
   | (refine AW.exit ?_;simp -implicitDefEqProofs only[go_sem,seval])
  refine Zw ⟨fun i=>if i=10 then .bool bb else .top,fun _ => .pure⟩ zk hG zk zk ?_;refine Zsf (zi fo (zi e2 (zi hg0 (zi hl0 @Zt)))) ?_;refine ⟨⟨by kernel_rfl,by simp -implicitDefEqProofs only[go_sem,seval];exact (hsp _ _ _ _).mono (by rintro _ _ rfl;rfl)⟩,?_⟩;exact Zr
 ·have hK:m.p.keep Zea Z4 13 k=(!(x.kind==1) || (Zea vs.l m.events.l x.entry && Zea vs.l m.events.l x.exit)):=by
   show m.p.k13 Zea k=_
   rw [PM.k13,hkd,hx,PM.body,PM.body,← hvs]<;>rfl
  rw [hK];obtain ⟨n1,n2⟩:=ht.en x (List.mem_of_getElem? hg);cases q:(x.kind==1)
  ·exact Zq (zi q gi)
  simp only [Bool.not_true,Bool.false_or];refine Zf (zi q gi) ?_;refine Zc hG ?_ (s:=Zdl G hG _ _ _ _ m vs x.entry n1 hsl (by omega));cases q1:Zea vs.l m.events.l x.entry
  ·exact Zh q1
  refine Zg (zi q1 gi) ?_;refine Zc hG ?_ (s:=Zdl G hG _ _ _ _ m vs x.exit n2 hsl (by omega));exact Zr
end Go.Hs
end

section
namespace Go.Hs
open Go.Proofs
set_option maxHeartbeats 1000000
set_option maxRecDepth 10000
theorem Zst (G:Nat→V) (hG:GOk G) (c1:Col) (s:List UInt8) (names:Sl (List UInt8)) (hs:s.length<100000) (hnl:names.l.length<1000000) :
  Spec Tryz.prog G 210 [.str s,Zb c1 1 V.str names] Zl (fun v _=>v=encRr .new (Zme s names.l)):=by
 refine Zo 0 55 [.tmp 4,.tmp 5,.tmp 6] Tryz.func210 fun X=>?_
 have hP:Zme s names.l=if (Zka s).2.2=0∧(Zka s).1.length=0 then ([tr1],0,0)
  else if (Zed s).2.2≠0 then ([],(Zed s).2.1,(Zed s).2.2)
  else if (Zmi names.l (Zed s).1).2.2≠0∨(Zmi names.l (Zed s).1).1≠2 then ([],0,90) else ((Zed s).1,0,0):=rfl
 generalize Zme s names.l=res at hP ⊢;have hl:=Zee G hG s hs;have hx:=Zot G hG s hs;have hb:=Ziu hs;have ho:=fun c c1=>Zqt G hG c c1 (Zm (Zed s).1) names (by rw [Zp];omega) (by rw [Zp];exact hb.2) hnl;simp only [Zp] at ho;generalize Zka s=t at hP hl;generalize Zed s=p at hP hx ho;obtain ⟨l,at0,e0⟩:=t;obtain ⟨ns,i,e⟩:=p;simp only at hP ho;generalize Zmi names.l ns=o at hP ho;obtain ⟨k,j,e2⟩:=o;simp only at hP;refine Z1 ?_;refine Z1 ?_;refine Zn hG ?_ (s:=hl);refine Zsf (zi @encTok.eq_1 (zi @encTks.eq_1 @Zsa)) ?_;refine Zia (fun (_:Unit)=>st [(0,.str s),(1,Zb c1 1 V.str names)] []) (fun _=>¬ (e0=0∧l.length=0)) (fun K1 hK1=>?_) ?_
 ·by_cases h01:e0=0
  rotate_left
  ·have q1:(e0==0)=false:=by simpa using h01
   refine Z1f q1 ?_;refine Z0 ?_;exact hK1 _ () (fun h=>h01 h.1) (Za zp zp)
  have q1:(e0==0)=true:=by simpa using h01
  by_cases h02:l.length=0
  ·rw [if_pos ⟨h01,h02⟩] at hP
   have q2:(((l.length:Nat):Int)==0)=true:=by simp [h02]
   refine Z1f (zi q1 q2) ?_;refine Zi rfl (fun h25=>?_) (fun h25=>?_)
   ·refine Z1 ?_
    intro g30;refine AW.weak (Zv (fun o=>o==30) (l:=[(4,encXs .new [tr1]),(5,.int .i64 0),(6,.int .i64 0)]) (m:=[]) ?_ trivial) ?_
    ·refine Zs ?_
     exact ⟨Zxd (f:=Zva) (l:=[tr1]) (m:=6) (g:=g30) (fz:=0) (c := .new) rfl zp Z6d,Zd _⟩
    refine Z ?_
    rw [hP]<;>rfl
   ·cases h25
  have q2:(((l.length:Nat):Int)==0)=false:=by rw [beq_eq_false_iff_ne];omega
  refine Z1f (zi q1 q2) ?_;refine Z0 ?_;exact hK1 _ () (fun h=>h02 h.2) (Za zp zp)
 rintro _ h0;rw [if_neg h0] at hP;refine Z1 ?_;refine Zn hG ?_ (s:=hx);refine Zsf (zi @encRr.eq_1 (zi @encXs.eq_1 @Zfa)) ?_;refine Z1 ?_
 by_cases he:e=0
 rotate_left
 ·have q1:(e != 0)=true:=by simpa using he
  rw [if_pos he] at hP;rw [q1];refine Zi rfl (fun h36=>?_) (fun h36=>?_)
  ·refine Z ?_
   rw [hP]<;>rfl
  ·cases h36
 have q1:(e != 0)=false:=by simpa using he
 rw [if_neg (by simpa using he)] at hP;rw [q1];refine Z1 ?_;refine Znf @Zfa hG ?_ (s:=(ho _ _));refine Zsf @encO3.eq_1 ?_;refine Z5 ?_
 by_cases h2:e2=0
 rotate_left
 ·have q2:(e2 != 0)=true:=by simpa using h2
  rw [if_pos (.inl h2)] at hP;refine Z1f q2 ?_;refine Zi rfl (fun h52=>?_) (fun h52=>?_)
  ·refine Z ?_
   rw [hP]<;>rfl
  ·cases h52
 have q2:(e2 != 0)=false:=by simpa using h2
 by_cases hk:k=2
 rotate_left
 ·have q3:(k != 2)=true:=by simpa using hk
  rw [if_pos (.inr hk)] at hP;refine Z1f (zi q2 q3) ?_;refine Zi rfl (fun h52=>?_) (fun h52=>?_)
  ·refine Z ?_
   rw [hP]<;>rfl
  ·cases h52
 have q3:(k != 2)=false:=by simpa using hk
 rw [if_neg (by rintro (h | h);exact h h2;exact h hk)] at hP;refine Zf (zi q2 q3) ?_
 rw [hP]<;>rfl
theorem Zs3 {p q:List (List UInt8)} (h:∀ n,p.contains n=q.contains n) (n:XN) (ks:List Int):Z6f p n ks=Z6f q n ks:=by rw [Z6f,Z6f,h]
theorem Z43 {p q:List (List UInt8)} (h:∀ n,p.contains n=q.contains n):∀ (l:List XN) (i:Int) (acc:List Int),goN p l i acc=goN q l i acc
 | [],_,_=>rfl
 | n::r,i,acc=>by rw [goN,goN,Zs3 h,Z43 h r]
theorem Z00 {p q:List (List UInt8)} (h:∀ n,p.contains n=q.contains n) (s:List UInt8):Zme s p=Zme s q:=by
 have k:∀ l,Zpb p l=Zpb q l:=fun l=>by rw [Zpb,Zpb,Z43 h]
 have o:∀ l,Zmi p l=Zmi q l:=fun l=>by rw [Zmi,Zmi,k]
 rw [Zme,Zme,o]
theorem Ze3 (l:List (List UInt8)) (n:List UInt8):(Z9g::l).contains n=(l++[Z9g]).contains n:=by
 rw [Bool.eq_iff_iff,List.contains_iff_mem,List.contains_iff_mem,List.mem_append,List.mem_cons,List.mem_singleton,or_comm]
def gdK (names:List (List UInt8)) (s:List UInt8) (kind:Int):Bool :=
 ((kind==4 || kind==5) && Zie s) || (Z4 names s==0 && ((Zka s).1.length==0 || kind==1 || kind==4 || kind==5))
theorem Zdw (G:Nat→V) (hG:GOk G) (b c d e:Col) (m:MdM) (vs:Sl (List UInt8)) (hvl:vs.l.length<100000) (s:List UInt8) (hs:s.length<100000) (kind:Int) :
  Spec Tryz.prog G 141 [wdV b c d e m vs,.str s,.int .u8 kind] Zl (fun w _=>w = .bool (gdK (vs.l++[Z9g]) s kind)):=by
 refine Zo 0 60 [.tmp 6] Tryz.func141 fun X=>?_;rw [gdK,Z4,← Z00 (Ze3 vs.l) s];generalize hfr:(kind==4 || kind==5)=fr;refine Z1 ?_;refine Zia (fun (_:Unit)=>st [(0,wdV b c d e m vs),(1,.str s),(2,.int .u8 kind),(6,.bool false),(7,.bool fr)] []) (fun _=>True) (fun K1 hK1=>?_) ?_
 ·cases q4:(kind==4)
  ·rw [q4,Bool.false_or] at hfr
   refine Zf q4 ?_;exact hK1 _ () trivial (Za (zpf hfr) zp)
  ·rw [q4,Bool.true_or] at hfr
   subst hfr;refine Zf q4 ?_;exact hK1 _ () trivial (Za zp zp)
 intro _ _;refine Zia (fun (_:Unit)=>st [(0,wdV b c d e m vs),(1,.str s),(2,.int .u8 kind),(6,.bool false),(7,.bool fr)] []) (fun _=>(fr && Zie s)=false) (fun K1 hK1=>?_) ?_
 ·cases fr
  ·refine Z ?_
   exact hK1 _ () rfl (Za zp zp)
  ·refine Z ?_
   refine Zc hG ?_ (s:=Zdq G hG s hs);cases q:Zie s
   ·refine Zg q ?_
    exact hK1 _ () (by rw [q]<;>rfl) (Za zp zp)
   ·exact Zh q
 intro _ hz;rw [hz,Bool.false_or];refine Z ?_;intro g26;refine Zf Zeb ?_;refine ⟨Zaa (by omega) (by omega),fun g2=>?_⟩
 have e1:1+vs.l.length=(Z9g::vs.l).length:=by rw [List.length_cons];omega
 rw [e1];have hgs:Spec Tryz.prog G 210 [.str s,Zb .old 1 V.str (.mk false (Z9g::vs.l))] Zl (fun v _=>v=encRr .new (Zme s (Z9g::vs.l))):=Zst G hG .old s (.mk false (Z9g::vs.l)) hs (by show vs.l.length+1<_;omega);refine AW.weak (Zv (fun o=>o==26) (l:=[(1,.str s),(2,.int .u8 kind),(7,.bool fr),(8,Zb .new 1 V.str (.mk false (Z9g::vs.l)))]) (m:=[]) ?_ trivial) ?_
 ·refine Zs ?_
  exact ⟨Zd _,Zd _,Zd _,Zxd (f:=V.str) (l:=Z9g::vs.l) (m:=1) (g:=g2) (fz:=0) (c := .new) rfl zp (fun _=>rfl)⟩
 generalize Zme s (Z9g::vs.l)=p at hgs ⊢;obtain ⟨pl,pa,pe⟩:=p;have hts:=Zee G hG s hs;generalize Zka s=t at hts ⊢;obtain ⟨tl,ta,te⟩:=t;simp only [encTok,encTks] at hts;simp only [encRr,encXs] at hgs;refine Z ?_;refine Zn hG ?_ (s:=hgs);refine Zs ?_;refine Z ?_;refine Zn hG ?_ (s:=hts);refine Zs ?_;have f := @Zp Tk tl;have e2:((tl.length:Int)==0)=(tl.length==0):=eqN _ 0
 show AW _ _ _ (Zuk _ _ fun w _=>w = .bool (pe==0 && (tl.length==0 || kind==1 || kind==4 || kind==5))) _
 rw [Bool.or_assoc (tl.length==0 || kind==1),hfr];cases q1:(pe==0)
 ·exact Zq q1
 cases fr
 ·rw [Bool.or_false]
  cases q2:(kind==1)
  ·rw [Bool.or_false]
   exact Zq (zi q1 (zi q2 (zi f e2)))
  ·rw [Bool.or_true]
   exact Zq (zi q1 (zi q2 (zi f e2)))
 ·rw [Bool.or_true]
  exact Zq (zi q1 (zi f e2))
end Go.Hs
end

section
namespace Go.Hs
open Go.Proofs
set_option maxRecDepth 10000
set_option maxHeartbeats 4000000
theorem wdIm (b c d e:Col) (m:MdM) (vs:Sl (List UInt8)):(wdV b c d e m vs).Im := .view _ _ fun y hy=>by
 simp only [Zm4,V.cells,List.mem_cons,List.not_mem_nil,or_false] at hy
 rcases hy with rfl | rfl | rfl | rfl | rfl | rfl | rfl
 ·exact .str _
 ·exact Z3c vrIm _
 ·exact Z3c Z77 _
 ·exact Z3c vrIm _
 ·exact Z3c (vtIm d) _
 ·exact Z3c (trIm d) _
 ·exact Z3c Z77 _
theorem Zq1 (G:Nat→V) (hG:GOk G) (b c d e:Col) (m:MdM) (vs:Sl (List UInt8)) (hm:m.p.Rt) (hb:MdB m) (ht:MdT m) (hvs:vs.l=m.p.vn) (r:Nat) (hr:r=9∨r=10∨r=11∨r=12∨r=14∨r=15) (t:Int) (h0:0≤t) (h1:t<m.p.ways.length) :
  Spec Tryz.prog G 74 [wdV b c d e m vs,.int .i64 r,.int .i64 t] Zl (fun w _=>w = .bool (m.p.keep Zea Z4 r t)):=by
 refine Zo 0 141 [.tmp 6] Tryz.func74 fun X=>?_;have b0:=hb.nv;have b1:=hb.nr;have b2:=hb.nx;have b4:=hb.ne
 have hvl:m.p.vn.length≤600:=by
  show (m.vars.l.map _).length≤_
  rw [List.length_map];exact b0
 have hsl:vs.l.length<100000:=by rw [hvs];omega
 obtain ⟨k,x,rfl,hk,hg,hxe⟩:=Zud h0 h1;obtain ⟨⟨s0,s1⟩,t0,t1⟩:=hm.wayAt x.p (List.mem_of_getElem? (i:=k) (by show (m.ways.l.map TrM.p)[k]? = _;rw [List.getElem?_map,hg]<;>rfl));have s0:0≤x.source:=s0;have s1:x.source<m.p.vertices.length:=s1;have t0:0≤x.target:=t0;have t1:x.target<m.p.vertices.length:=t1;obtain ⟨ks,xs,hks,hksl,hgs,hxs⟩:=MdM.at s0 s1;obtain ⟨kt,xt,hkt,hktl,hgt,hxt⟩:=MdM.at t0 t1
 have hkd:m.p.kd x.source=xs.kind:=by rw [PM.kd,hxs]<;>rfl
 have hkx:m.p.kd x.target=xt.kind:=by rw [PM.kd,hxt]<;>rfl
 have hsI:=fun s b c d e=>Z9q G hG m vs hm s x.source s0 s1 b c d e;have hsJ:=fun s b c d e=>Z9q G hG m vs hm s x.target t0 t1 b c d e;refine Zf (zi hg (zi Z9 (zi Zeb (zi hk (zi @Int.natCast_nonneg @Int.ofNat_lt))))) ?_;intro g7;refine AW.weak (Zv (fun o=>o==7) (l:=[(0,wdV b c d e m vs),(1,.int .i64 r),(6,.bool false),(7,.view .new (Zhb d x))]) (m:=[]) ?_ trivial) ?_
 ·refine Zsf @Zeb ?_
  exact ⟨Zd _,Zd _,Zd _,Fz.ptr (v:=Zhb d x) (c := .new) (fz:=0) zp zp⟩
 refine Z5 ?_;refine Zw ⟨fun _ => .top,fun i=>if i=4 then .lend else if i=6 then .lend else if i=8 then .lend else if i=13 then .lend else if i=15 then .lend else if i=17 then .lend else .pure⟩ zk hG zk zk ?_;refine Zsf (zi hks (zi hkt (zi hgs (zi hgt (zi hksl (zi hktl (zi @Z9 (zi @Zt (zi @Zeb (zi @Int.natCast_nonneg @Int.ofNat_lt)))))))))) ?_;intro g8 g9;refine AW.weak (Zv (fun o=>o==8 || o==9) (l:=[(0,wdV b c d e m vs),(1,.int .i64 r),(6,.bool false),(7,.view .new (Zhb d x)),(8,.view .new (Zwa d xs)),(9,.view .new (Zwa d xt))]) (m:=[]) ?_ trivial) ?_
 ·refine Zsf (zi @Zeb @Z9) ?_
  rw [← hks,← hkt];exact ⟨Zd _,Zd _,Zd _,Zd _,Fz.ptr (v:=Zwa d xs) (c := .new) (fz:=0) zp zp,Fz.ptr (v:=Zwa d xt) (c := .new) (fz:=0) zp zp⟩
 try clear hks hkt
 have gt:=Z9;have gv:=Zt;refine Z1f gv ?_
 rcases hr with rfl | rfl | rfl | rfl | rfl | rfl
 ·have hK:m.p.keep Zea Z4 9 k=((x.triggers.l.length==0 && x.after==0) || xs.kind==1):=by
   show m.p.k9 k=_
   rw [PM.k9,hxe,← hkd]<;>rfl
  rw [hK];have e1:((x.triggers.l.length:Int)==0)=(x.triggers.l.length==0):=eqN _ 0;cases q:(xs.kind==1);rotate_left
  ·rw [Bool.or_true]
   exact Zq q
  rw [Bool.or_false];cases q1:(x.triggers.l.length==0)
  ·rw [q1] at e1
   exact Zq (zi q (zi e1 gt))
  rw [q1] at e1;exact Zq (zi q (zi e1 gt))
 ·have hK:m.p.keep Zea Z4 10 k=gdK (vs.l++[Z9g]) x.guard xs.kind:=by
   show m.p.k10 Z4 k=_
   rw [PM.k10,hxe,gdK,hvs,← hkd]<;>rfl
  rw [hK];have hgl:=ht.gu x (List.mem_of_getElem? hg);refine Zf (zi gt gv) ?_;refine Zc hG ?_ (s:=Zdw G hG _ _ _ _ m vs hsl x.guard (by omega) xs.kind);exact Zr
 ·have hway:=hm.way k (by rw [m.nw];exact hk)
  rw [hxe] at hway;simp only [PM.wayB,Bool.and_eq_true,decide_eq_true_eq] at hway;have k1:1≤x.kind:=hway.1.1.1.2;have k3:x.kind≤3:=hway.1.1.2
  have hK:m.p.keep Zea Z4 11 k=(if x.kind=3 then x.source==x.target && xs.kind==1 else if x.kind=2 then xs.kind==1 && m.p.inB x.target x.source else true):=by
   show m.p.k11 k=_
   rw [PM.k11,hxe,← hkd]<;>rfl
  rw [hK]
  by_cases h3:x.kind=3
  ·rw [if_pos h3]
   have q3:(x.kind==3)=true:=by simpa using h3
   cases q:(xs.kind==1)
   ·rw [Bool.and_false]
    exact Zq (zi q (zi q3 gt))
   ·rw [Bool.and_true]
    exact Zq (zi q (zi q3 gt))
  rw [if_neg h3]
  have q3:(x.kind==3)=false:=by simpa using h3
  by_cases h2:x.kind=2
  rotate_left
  ·rw [if_neg h2]
   have q1:(x.kind==1)=true:=by
    have:x.kind=1:=by omega
    simpa using this
   exact Zq (zi q3 (zi q1 gt))
  rw [if_pos h2]
  have q1:(x.kind==1)=false:=by
   have:¬ x.kind=1:=by omega
   simpa using this
  cases q:(xs.kind==1)
  ·exact Zq (zi q3 (zi q1 (zi q gt)))
  rw [Bool.true_and];refine Zf (zi q3 (zi q1 (zi q gt))) ?_;refine Zc hG ?_ (s:=hsJ x.source _ _ _ _);exact Zr
 ·have hK:m.p.keep Zea Z4 12 k=Zea vs.l m.events.l x.effect:=by
   show m.p.k12 Zea k=_
   rw [PM.k12,hxe,PM.body,← hvs]<;>rfl
  rw [hK];refine Zf gt ?_;refine Zc hG ?_ (s:=Zdl G hG _ _ _ _ m vs x.effect (ht.ef x (List.mem_of_getElem? hg)) hsl (by omega));exact Zr
 ·have hK:m.p.keep Zea Z4 14 k = !m.p.partU [x.source,x.target]:=by
   show m.p.k14 k=_
   rw [PM.k14,hxe]<;>rfl
  rw [hK];refine Zf gt ?_;intro g103;refine Zs ?_;refine Zta hG [wdV b.ent c.ent d.ent e.ent m vs,Zb .old 1 (V.int .i64) (.mk false [x.source,x.target])] zk ⟨Z3a (wdIm b c d e m vs) (Zo2 _ _ _ _ _ _ _),Rd.i64 (l:=[x.source,x.target]) zp rfl,trivial⟩ ?_;refine (Z5k G hG _ _ _ _ .old m vs hm (by omega) (by omega) (.mk false [x.source,x.target]) (by intro h;cases h) (by show 2<1000000;decide) (fun v hv=>?_)).mono ?_
  ·have hv:v∈[x.source,x.target]:=hv
   simp only [List.mem_cons,List.not_mem_nil,or_false] at hv
   rcases hv with rfl | rfl
   ·exact ⟨s0,s1⟩
   ·exact ⟨t0,t1⟩
  rintro _ _ rfl;refine ⟨.bool _,?_⟩;refine Zs ?_;exact Zr
 ·have hK:m.p.keep Zea Z4 15 k=(if xt.kind=10 then !(x.source==xt.of) && !m.p.inB x.source xt.of else if xt.kind=11 then m.p.inB x.source xt.of && !(xs.of==xt.of) else true):=by
   show m.p.k15 k=_
   rw [PM.k15,hxe]
   show (if m.p.kd x.target=10 then !(x.source==(m.p.vx x.target).of) && !m.p.inB x.source (m.p.vx x.target).of else if m.p.kd x.target=11 then m.p.inB x.source (m.p.vx x.target).of && !((m.p.vx x.source).of==(m.p.vx x.target).of) else true)=_
   rw [hkx,hxt,hxs]<;>rfl
  rw [hK]
  by_cases h10:xt.kind=10
  ·rw [if_pos h10]
   have q:(xt.kind==10)=true:=by simpa using h10
   cases q1:(x.source==xt.of);rotate_left
   ·have q2:(x.source != xt.of)=false:=by rw [bne,q1]<;>rfl
    exact Zq (zi q (zi q2 (zi gt gv)))
   have q2:(x.source != xt.of)=true:=by rw [bne,q1]<;>rfl
   refine Zf (zi q (zi q2 (zi gt gv))) ?_;refine Zc hG ?_ (s:=hsI xt.of _ _ _ _);exact Zr
  rw [if_neg h10]
  have q:(xt.kind==10)=false:=by simpa using h10
  by_cases h11:xt.kind=11
  rotate_left
  ·rw [if_neg h11]
   have q1:(xt.kind != 11)=true:=by simpa using h11
   exact Zq (zi q (zi q1 (zi gt gv)))
  rw [if_pos h11]
  have q1:(xt.kind != 11)=false:=by simp [h11]
  have hsp:=hsI xt.of;generalize m.p.inB x.source xt.of=bb at hsp ⊢;refine Zf (zi q (zi q1 (zi gt gv))) ?_;refine Zc hG ?_ (s:=hsp _ _ _ _);cases bb
  ·exact Zr
  ·rw [Bool.true_and]
   exact Zq (zi gt gv)
end Go.Hs
end

section
namespace Go.Hs
open Go.Proofs
set_option maxHeartbeats 1000000
set_option maxRecDepth 10000
theorem Zzs (G:Nat→V) (hG:GOk G) (b c d e:Col) (m:MdM) (vs:Sl (List UInt8)) (hl:m.verts.l.length<1000000) (r:Int) :
  Spec Tryz.prog G 72 [wdV b c d e m vs,.int .i64 r] Zl (fun w _=>w = .bool (m.p.k1 r)):=by
 refine Zo 0 44 [.tmp 4] Tryz.func72 fun X=>?_
 have hP:m.p.k1 r=((m.verts.l.filter fun x=>x.kind==3 && x.region==r).length==1):=by
  show (((m.verts.l.map VtM.p).filter _).length==1)=_
  rw [List.filter_map,List.length_map]<;>rfl
 rw [hP];refine Z ?_
 refine Zda m.verts.l.length (fun k (_:Unit)=>st [(0,wdV b c d e m vs),(1,.int .i64 r),(5,.int .i64 ((m.verts.l.take k).filter fun x=>x.kind==3 && x.region==r).length),(6,.int .i64 k)] [])
  (fun _ _=>True) 0 () (Nat.zero_le _) trivial (Za zp zp) ?_
 intro k _ hk _ L3 hL3
 by_cases hk1:k<m.verts.l.length
 ·have hlt:decide ((k:Int)<(m.verts.l.length:Int))=true:=zT
  have hg:=List.getElem?_eq_getElem hk1
  have htk:m.verts.l.take (k+1)=m.verts.l.take k++[m.verts.l[k]]:=by rw [List.take_succ_eq_append_getElem hk1]
  have hn:((m.verts.l.take k).filter fun x=>x.kind==3 && x.region==r).length≤k:=Nat.le_trans (List.length_filter_le _ _) (by rw [List.length_take];omega);generalize m.verts.l[k]=x at hg htk;rw [htk,List.filter_append,List.length_append,List.filter_cons] at hL3;generalize ((m.verts.l.take k).filter fun x=>x.kind==3 && x.region==r).length=n at hn hL3;have w1:IntKind.i64.wrap ((k:Int)+1)=(k:Int)+1:=w64 (by omega) (by omega);have w2:IntKind.i64.wrap ((n:Int)+1)=(n:Int)+1:=w64 (by omega) (by omega);refine Z1f (zi hlt Zeb) ?_;have f:=zi hg (zi hk1 (zi Zt (zi Zeb (zi @Int.natCast_nonneg @Int.ofNat_lt))));cases q1:(x.kind==3)
  ·rw [q1,Bool.false_and,if_neg (by decide)] at hL3
   simp only [List.filter_nil,List.length_nil,Nat.add_zero] at hL3;refine Zf (zi q1 (zi w1 f)) ?_;exact hL3 _ ⟨hk1,(),trivial,Za (zpf Zeb) zp⟩
  cases q2:(x.region==r)
  ·rw [q1,q2,if_neg (by decide)] at hL3
   simp only [List.filter_nil,List.length_nil,Nat.add_zero] at hL3;refine Zf (zi q1 (zi q2 (zi w1 f))) ?_;exact hL3 _ ⟨hk1,(),trivial,Za (zpf Zeb) zp⟩
  rw [q1,q2,Bool.true_and,if_pos rfl] at hL3;simp only [List.filter_nil,List.length_nil,List.length_cons,Nat.zero_add] at hL3;refine Zf (zi q1 (zi q2 (zi w1 (zi w2 f)))) ?_;exact hL3 _ ⟨hk1,(),trivial,Za (by simp -implicitDefEqProofs only[go_sem,seval,Zeb];exact ⟨rfl,rfl⟩) zp⟩
 have hke:k=m.verts.l.length:=by omega
 subst hke;rw [List.take_length]
 have hlt:decide ((m.verts.l.length:Int)<(m.verts.l.length:Int))=false:=by simp
 generalize (m.verts.l.filter fun x=>x.kind==3 && x.region==r).length=n;rw [← show ((n:Int)==1)=(n==1) from eqN _ 1];exact Zq (zi hlt Zeb)
theorem Z3l (G:Nat→V) (b c d e:Col) (m:MdM) (vs:Sl (List UInt8)) (k:Nat) :
  Spec Tryz.prog G 42 [wdV b c d e m vs,.int .i64 k] Zl (fun w _=>w = .int .i64 (m.p.places k)):=by
 refine Zo 0 33 [.tmp 4] Tryz.func42 fun X=>?_;rw [PM.places,m.nv,m.nw];have f:=Zeb
 by_cases h1:k=1
 ·rw [if_pos h1]
  have q:((k:Int)==1)=true:=by simp [h1]
  exact Zq (zi q f)
 rw [if_neg h1];have q:((k:Int)==1)=false:=(eqN k 1).trans (by simpa using h1)
 by_cases h2:k≤8
 ·rw [if_pos (.inl h2)]
  have q2:decide ((k:Int)≤8)=true:=zT;exact Zq (zi q (zi q2 f))
 have q2:decide ((k:Int)≤8)=false:=zF
 by_cases h3:k=13
 ·rw [if_pos (.inr h3)]
  have q3:((k:Int)==13)=true:=by simp [h3]
  exact Zq (zi q (zi q2 (zi q3 f)))
 rw [if_neg (fun h=>h.elim h2 h3)];have q3:((k:Int)==13)=false:=(eqN k 13).trans (by simpa using h3);exact Zq (zi q (zi q2 (zi q3 f)))
theorem Zlv (G:Nat→V) (hG:GOk G) (b c d e:Col) (m:MdM) (vs:Sl (List UInt8)) (hb:MdB m) (hm:m.p.Rt) (ht:MdT m) (hvs:vs.l=m.p.vn) (k:Nat) (h1:1≤k) (h2:k≤15) (t:Int) (t0:0≤t) (t1:t<m.p.places k) :
  Spec Tryz.prog G 43 [wdV b c d e m vs,.int .i64 k,.int .i64 t] Zl (fun w _=>w = .bool (m.p.keep Zea Z4 k t)):=by
 refine Zo 0 28 [.tmp 6] Tryz.func43 fun X=>?_;have b2:=hb.nx
 by_cases k1:k=1
 ·subst k1
  refine Z ?_;refine Zc hG ?_ (s:=Zzs G hG _ _ _ _ m vs (by omega) t);exact Zr
 have q:((k:Int)==1)=false:=(eqN k 1).trans (by simpa using k1)
 by_cases k8:k≤8
 ·have q2:decide ((k:Int)≤8)=true:=zT
  have hp:m.p.places k=m.p.vertices.length:=by rw [PM.places,if_neg k1,if_pos (.inl k8)]
  rw [hp] at t1;refine Zf (zi q q2) ?_;refine Zc hG ?_ (s:=Z2l G hG _ _ _ _ m vs hm hb ht hvs k (by omega) t t0 t1);exact Zr
 have q2:decide ((k:Int)≤8)=false:=zF
 by_cases k13:k=13
 ·have q3:((k:Int)==13)=true:=by simp [k13]
  have hp:m.p.places k=m.p.vertices.length:=by rw [PM.places,if_neg k1,if_pos (.inr k13)]
  rw [hp] at t1;refine Zf (zi q (zi q2 q3)) ?_;refine Zc hG ?_ (s:=Z2l G hG _ _ _ _ m vs hm hb ht hvs k (by omega) t t0 t1);exact Zr
 have q3:((k:Int)==13)=false:=(eqN k 13).trans (by simpa using k13)
 have hp:m.p.places k=m.p.ways.length:=by rw [PM.places,if_neg k1,if_neg (fun h=>h.elim k8 k13)]
 rw [hp] at t1;refine Zf (zi q (zi q2 q3)) ?_;refine Zc hG ?_ (s:=Zq1 G hG _ _ _ _ m vs hm hb ht hvs k (by omega) t t0 t1);exact Zr
theorem Zew (G:Nat→V) (hG:GOk G) (c d:Col) (m:MdM) (hb:MdB m) (ht:m.p.Rt→MdT m) :
  Spec Tryz.prog G 13 [Z2 c d m] Zl (fun w _=>w = .tuple [Zb .new 2 Zwb (Zm (m.p.checkW Zea Z4).1),.int .i64 (m.p.checkW Zea Z4).2]):=by
 refine Zo 0 46 [.tmp 2,.tmp 3] Tryz.func13 fun X=>?_;rw [PM.checkW];simp only [Zj];refine Z ?_;intro g3;refine AW.weak (Zv (fun o=>o==1) (l:=[(1,.view .new (Z2 c d m))]) (m:=[]) ?_ trivial) ?_
 ·refine Zs ?_
  exact Fz.ptr (v:=Z2 c d m) (c := .new) (fz:=0) zp zp
 refine Zf Zj ?_;refine Zn hG ?_ (s:=Zcw G hG c.ent d.ent m hb);have hr:=PM.right_er (m:=m.p);have hrt:=fun h=>PM.rt_of (m:=m.p) h;generalize m.p.rightP=rp at hr hrt;refine Zs ?_
 by_cases h:rp.2.2=0
 rotate_left
 ·rw [if_pos h]
  have q:(rp.2.2 != 0)=true:=by simpa using h
  exact Zq q
 rw [if_neg (fun k=>k h)]
 have q:(rp.2.2 != 0)=false:=by simp [h]
 have hm:m.p.Rt:=hrt (hr.1 h);have hT:=ht hm;refine Zf (zi q Zj) ?_;refine Zc hG ?_ (s:=Zjz G hG c.ent d.ent m hb.nv);refine Z ?_;have b1:=hb.nr;have b2:=hb.nx;have b3:=hb.nw
 have hpl:∀ k,m.p.places k≤1800:=fun k=>by
  have:=m.p.places_le k;have e1:m.p.regions.length=m.regions.l.length:=rfl;have e2:=m.nv;have e3:=m.nw;omega
 refine Zda 16 (fun r (g:Nat)=>st [(7,wdV .new c.ent.bk d.ent.bk .new m (Zm m.p.vn)),(8,grown 44 g 2 (m.p.badL Zea Z4 (r-1))),(9,.int .i64 r)] [(44,Zxa g Zwb (m.p.badL Zea Z4 (r-1)))])
  (fun r _=>1≤r∧(m.p.badL Zea Z4 (r-1)).length≤1800 * r) 1 0 (by decide) ⟨Nat.le_refl _,Nat.zero_le _⟩ (Za zp zp) ?_
 rintro r g hr1 ⟨hr0,hR⟩ L3 hL3
 by_cases hr2:r<16
 rotate_left
 ·obtain rfl:r=16:=by omega
  have e15:m.p.badL Zea Z4 (16-1)=m.p.badL Zea Z4 15:=rfl;rw [e15];generalize m.p.badL Zea Z4 15=acc;refine AW.weak (Zv (fun o=>o==44) (l:=[(8,Zb .new 2 Zwb (Zm acc)),(9,.int .i64 (16:Nat))]) (m:=[]) ?_ trivial) ?_
  ·refine Zs ?_
   exact ⟨Z0a (l:=acc) (g:=g) (f:=Zwb) rfl zp Z1r,Zd _⟩
  exact Zr
 have hlt:decide ((r:Int)≤15)=true:=zT;have w1:IntKind.i64.wrap ((r:Int)+1)=(r:Int)+1:=w64 (by omega) (by omega);have hwr:IntKind.u8.wrap (r:Int)=(r:Int):=wu8R (by omega) (by omega);refine Zf hlt ?_;have hbl:∀ a,(m.p.badAt Zea Z4 r a).length≤a:=fun a=>PM.badAt_len r a
 have hnx:(m.p.badL Zea Z4 (r-1))++m.p.badAt Zea Z4 r (m.p.places r)=m.p.badL Zea Z4 (r+1-1):=by
  obtain ⟨r,rfl⟩:∃ r',r=r'+1:=⟨r-1,by omega⟩;rw [Nat.add_sub_cancel,Nat.add_sub_cancel,PM.badL_succ]
 have hba:∀ a,m.p.badAt Zea Z4 r (a+1)=m.p.badAt Zea Z4 r a++(if m.p.keep Zea Z4 r (a:Int)=true then [] else [(r,(a:Int))]):=fun a=>PM.badAt_succ r a;have hks:=fun b c d e vs (h:vs.l=m.p.vn)=>Zlv G hG b c d e m vs hb hm hT h r hr0 (by omega);have hpr:=hpl r;generalize m.p.badL Zea Z4 (r-1)=acc at hR hnx
 refine Zda (m.p.places r) (fun a (g:Nat)=>st [(7,wdV .new c.ent.bk d.ent.bk .new m (Zm m.p.vn)),(8,grown 44 g 2 (acc++m.p.badAt Zea Z4 r a)),(9,.int .i64 r),(10,.int .i64 a)] [(44,Zxa g Zwb (acc++m.p.badAt Zea Z4 r a))])
  (fun a _=>True) 0 g (Nat.zero_le _) trivial (Za ?_ ?_) ?_
 ·rw [show acc++m.p.badAt Zea Z4 r 0=acc from List.append_nil _]
  exact zp
 ·rw [show acc++m.p.badAt Zea Z4 r 0=acc from List.append_nil _]
  exact zp
 intro a g ha _ L7 hL7
 by_cases ha1:a<m.p.places r
 rotate_left
 ·have hae:a=m.p.places r:=by omega
  have q1:decide ((a:Int)<(m.p.places r:Int))=false:=zF;have hbp:=hbl (m.p.places r);rw [hae] at q1;rw [hae,hnx];refine Z ?_;refine Zc hG ?_ (s:=Z3l G _ _ _ _ m _ r);refine Zg (zi q1 w1) ?_;refine hL3 _ ⟨hr2,g,⟨by omega,?_⟩,Za zp zp⟩;rw [← hnx,List.length_append];omega
 have q1:decide ((a:Int)<(m.p.places r:Int))=true:=zT;have w2:IntKind.i64.wrap ((a:Int)+1)=(a:Int)+1:=w64 (by omega) (by omega);rw [hba a] at hL7;have hal:=hbl a;generalize m.p.badAt Zea Z4 r a=bl at hL7 hal ⊢;refine Z ?_;refine Zc hG ?_ (s:=Z3l G _ _ _ _ m _ r);refine Zg q1 ?_;have hsp:=fun b c d e=>hks b c d e (Zm m.p.vn) (Zp _) a (Int.natCast_nonneg a) (by omega);refine Zc hG ?_ (s:=hsp _ _ _ _);cases hk:m.p.keep Zea Z4 r (a:Int)
 ·rw [hk,if_neg (by decide),← List.append_assoc] at hL7
  refine Zf (zi hk hwr) ?_;intro g43;refine Zma (f:=Zwb) (l:=acc++bl) (l2:=[(r,(a:Int))]) (g:=g) Z1r rfl rfl rfl zp (Zaa (by omega) (by simp only [List.length_append,List.length_cons,List.length_nil];omega)) fun g2=>?_;refine Zs ?_;refine Zf w2 ?_;exact hL7 _ ⟨ha1,g2,trivial,Za zp zp⟩
 ·rw [hk,if_pos rfl,List.append_nil] at hL7
  refine Zf (zi hk w2) ?_;exact hL7 _ ⟨ha1,g,trivial,Za zp zp⟩
end Go.Hs
end
