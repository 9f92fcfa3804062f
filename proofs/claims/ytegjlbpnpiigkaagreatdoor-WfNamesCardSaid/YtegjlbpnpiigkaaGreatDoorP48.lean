/- A part. No condition. -/
import Derived.Test.YtegjlbpnpiigkaaGreatDoorP47
set_option linter.all false
section
namespace Go.Hs
open Go.Proofs
set_option maxRecDepth 10000
set_option maxHeartbeats 4000000
def smallM:MdM:=⟨[77],.nil,.nil,.mk false [([],-1)],.mk false [⟨[],3,0,-1,[],[],.nil,[]⟩,⟨[115],1,0,-1,[],[],.nil,[]⟩],.mk false [⟨[],0,1,.nil,0,[],[],1⟩]⟩
theorem Z0g(G:Nat->V):InSp Tryz.prog G 37 [] (Z4a Zk [(7002,.dead),(7005,.dead),(7007,.dead)])
  (λv H'=>∃ g2 g5 g7,v=.agg [.str smallM.name,.nils,.nils,.msl 7002 g2 0 1 2,.msl 7005 g5 0 2 8,.msl 7007 g7 0 1 8]/\H' 7002=.cells .new g2 0 (flat (smallM.regions.l.map Zaa))/\H' 7005=.cells .new g5 0 (flat (smallM.verts.l.map (Zra .old)))/\H' 7007=.cells .new g7 0 (flat (smallM.ways.l.map (Z6a .old)))):=by
 refine Zdb 7000 9 [.cell 0 28] Tryz.func37 rfl rfl rfl rfl λX=>?_;simp only[Z4a];refine Z ?_;intro g0;refine Z ?_;intro g2 g5 g7;refine Zs ?_;refine Z ?_;exact⟨g2,g5,g7,rfl,zr,zr,zr⟩
def sOne(s:List UInt8):Sl (List UInt8):=.mk false [s]
def doorM:MdM:=⟨[68,111,111,114],.mk false [([110],0),([109,111,115,116],3)],.mk false [[111,112,101,110],[99,108,111,115,101],[108,111,99,107]],
 .mk false [([116,111,112],-1),([108,101,97,102],1),([98,111,108,116],1)],
 .mk false [⟨[],3,0,-1,[],[],.nil,[]⟩,⟨[68,111,111,114],1,0,-1,[110,32,58,61,32,48,59],[],sOne [108,111,99,107],[]⟩,⟨[],3,1,-1,[],[],.nil,[]⟩,
  ⟨[83,104,117,116],1,1,-1,[],[110,32,58,61,32,110,32,43,32,49,59],.nil,[]⟩,⟨[87,105,100,101],1,1,-1,[],[],.nil,[]⟩,⟨[],3,2,-1,[],[],.nil,[]⟩,⟨[70,114,101,101],1,2,-1,[],[],.nil,[]⟩,
  ⟨[103,111,110,101],2,2,-1,[],[],.nil,[]⟩,⟨[],8,1,-1,[],[],.nil,[]⟩,⟨[105,110],10,-1,1,[],[],.nil,[]⟩,⟨[69,110,100],2,0,-1,[],[],.nil,[]⟩],
 .mk false [⟨[],0,1,.nil,0,[],[],1⟩,⟨[],2,3,.nil,0,[],[],1⟩,⟨[],3,4,sOne [111,112,101,110],0,[110,32,60,32,109,111,115,116],[],1⟩,⟨[],4,3,sOne [99,108,111,115,101],0,[],[101,109,105,116,32,108,111,99,107,40,110,41,59],1⟩,
  ⟨[],5,6,.nil,0,[],[],1⟩,⟨[],6,7,sOne [108,111,99,107],0,[],[],1⟩,⟨[108,97,116,101],4,10,.nil,5,[],[],1⟩,⟨[],1,1,sOne [111,112,101,110],0,[102,97,108,115,101],[],3⟩]⟩
theorem Fz.one{F:Nat->Bool}{H:Heap}{o g fz:Nat}{c:Col}{s:List UInt8}(hF:F o=true)(hH:H o=.cells c g fz [.str s]):Fz F H (.msl o g 0 1 1) (Za c 1 V.str (sOne s)):=Zdf (f:=V.str) (l:=[s]) hF hH λ_=>rfl
theorem Zs1(G:Nat->V):InSp Tryz.prog G 19 [] (Z4a Zk [(7103,.dead),(7104,.dead),(7108,.dead),(7121,.dead),(7134,.dead)])
  (λv H'=>∃ g1 g2 g3 g4 g5,v=.agg [.str doorM.name,.msl 7103 g1 0 2 2,.msl 7104 g2 0 3 1,.msl 7108 g3 0 3 2,.msl 7121 g4 0 11 8,.msl 7134 g5 0 8 8]/\H' 7103=.cells .new g1 0 (flat (doorM.vars.l.map Zaa))/\H' 7104=.cells .new g2 0 (flat (doorM.events.l.map V.str)) /\
   H' 7108=.cells .new g3 0 (flat (doorM.regions.l.map Zaa))/\H' 7121=.cells .new g4 0 (flat (doorM.verts.l.map (Zra .new)))/\H' 7134=.cells .new g5 0 (flat (doorM.ways.l.map (Z6a .new)))):=by
 refine Zdb 7100 36 [.cell 0 28] Tryz.func19 rfl rfl rfl rfl λX=>?_;simp only[Z4a];refine Z1 ?_;intro g0;refine Z1 ?_;intro g3 g4 g8 g10 g21 g24 g26 g29 g32 g34
 refine AW.weak (Zx (λo=>o==7110||o==7124||o==7126||o==7129||o==7132) (l:=[(0,.ptr 7100 g0 0)])
  (m:=[(7100,.cells .new g0 0 [.str doorM.name,.msl 7103 g3 0 2 2,.msl 7104 g4 0 3 1,.msl 7108 g8 0 3 2,.msl 7121 g21 0 11 8,.msl 7134 g34 0 8 8]),(7103,.cells .new g3 0 (flat (doorM.vars.l.map Zaa))),(7104,.cells .new g4 0 (flat (doorM.events.l.map V.str))),
   (7108,.cells .new g8 0 (flat (doorM.regions.l.map Zaa))),(7121,.cells .new g21 0 (flat (doorM.verts.l.map (Zra .new)))),(7134,.cells .new g34 0 (flat (doorM.ways.l.map (Z6a .new))))]) ?_ ?_) ?_
 refine Zs ?_;exact Fz.same _
 .simp only[Zp,Zy,and_true]
  refine⟨FzO.keep rfl rfl,FzO.keep rfl rfl,FzO.keep rfl rfl,FzO.keep rfl rfl,FzO.of rfl rfl ?_,FzO.of rfl rfl ?_⟩<;>repeat first|exact trivial|refine⟨Fz.same _,?_⟩|refine⟨Fz.one rfl rfl,?_⟩
 refine Z ?_;exact⟨g3,g4,g8,g21,g34,rfl,rfl,rfl,rfl,rfl,rfl⟩
end Go.Hs
end

section
namespace Go.Hs
open Go.Proofs
set_option maxRecDepth 10000
set_option maxHeartbeats 4000000
theorem Rd.row{α : Type}{H:Heap}{o g fz m:Nat}{c:Col}{f f' : α -> V}{l:List α}(hH:H o=.cells c g fz (flat (l.map f)))(hf:∀ x,(f x).cells.length=m)
  (hIm:∀ x,∀ y∈(f x).cells,y.Im) (hf':∀ x,(f x).recol Col.ent=f' x):Rd H (.msl o g 0 l.length m) (Za .old m f' (.mk false l)):=by
 have:=Rd.msl (l:=l) (off:=0) (n:=l.length) (o:=o) (g:=g) hH hf hIm hf' zo;rw[List.drop_zero,List.take_length,Nat.zero_mul]at this;exact this
theorem Zxh(l:Sl (Nat×Int))(e:Int):V.Nw (.tuple [Za .new 2 Zvc l,.int .i64 e]):=by
 refine .tuple _ λx hx=>?_;simp only[List.mem_cons,List.not_mem_nil,or_false]at hx
 rcases hx with rfl|rfl
 exact Nw.enc (λp y hy=>by
  simp only[Z9o,V.cells,List.mem_cons,List.not_mem_nil,or_false]at hy
  rcases hy with rfl|rfl<;>exact .int _ _) l
 exact .int _ _
theorem Z0m(p:List UInt8×Int):∀ y∈(Zaa p).cells,y.Im:=by
 intro y hy;simp only[Zmb,V.cells,List.mem_cons,List.not_mem_nil,or_false]at hy
 rcases hy with rfl|rfl<;>first|exact .str _|exact .int _ _
theorem Zl7(s:List UInt8):∀ y∈(V.str s).cells,y.Im:=by
 intro y hy;simp only[V.cells,List.mem_cons,List.not_mem_nil,or_false]at hy;rw[hy];exact .str _
theorem Z6o(c:Col)(s:Sl (List UInt8)):(Za c 1 V.str s).Im:=by
 cases s with
 |nil=>exact .nils
 |mk b l=>exact .slice _ _ _ _ (λx hx=>by obtain⟨v,hv,hx⟩:=List.mem_flatMap.1 hx;obtain⟨a,_,rfl⟩:=List.mem_map.1 hv;exact Zl7 a x hx)
theorem Zfv(c:Col)(x:VtM):∀ y∈(Zra c x).cells,y.Im:=by
 intro y hy;simp only[Zm,V.cells,List.mem_cons,List.not_mem_nil,or_false]at hy
 rcases hy with rfl|rfl|rfl|rfl|rfl|rfl|rfl|rfl<;>first|exact .str _|exact .int _ _|exact Z6o _ _
theorem Zgv(c:Col)(x:TrM):∀ y∈(Z6a c x).cells,y.Im:=by
 intro y hy;simp only[Z6,V.cells,List.mem_cons,List.not_mem_nil,or_false]at hy
 rcases hy with rfl|rfl|rfl|rfl|rfl|rfl|rfl|rfl<;>first|exact .str _|exact .int _ _|exact Z6o _ _
def goW:List UInt8:=[103,111]
def small2:MdM:={ smallM with events:=sOne goW,ways:=.mk false [⟨[],0,1,sOne goW,0,[],[],1⟩] }
def small3:MdM:={ smallM with ways:=.mk false [⟨[],0,1,.nil,0,[],[],1⟩,⟨[],0,1,.nil,0,[],[],1⟩] }
def small4:MdM:={ smallM with verts:=.mk false [⟨[],3,0,-1,[],[],.nil,[]⟩,⟨[115],1,0,-1,[120,32,58,61,32,49,59],[],.nil,[]⟩] }
theorem Zou:smallM.p.checkW Z9a Zoa=([],0):=by decide +kernel
theorem Zeq:small2.p.checkW Z9a Zoa=([(9,0)],0):=by decide +kernel
theorem Zdq:small3.p.checkW Z9a Zoa=([(2,0)],0):=by decide +kernel
theorem Zcq:small4.p.checkW Z9a Zoa=([(13,1)],0):=by decide +kernel
theorem Zi8:doorM.p.inW 3 1=true/\doorM.p.inW 1 3=false:=by decide +kernel
theorem small_b:MdB smallM:=by constructor<;>decide
theorem Zwaa:MdB small2:=by constructor<;>decide
theorem Zuaa:MdB small3:=by constructor<;>decide
theorem Zsaa:MdB small4:=by constructor<;>decide
theorem Zrda:MdB doorM:=by constructor<;>decide
theorem small_t:MdT smallM:=by constructor<;>decide
theorem Zvaa:MdT small2:=by constructor<;>decide
theorem Ztaa:MdT small3:=by constructor<;>decide
theorem Zraa:MdT small4:=by constructor<;>decide
end Go.Hs
end

section
namespace Go.Hs
open Go.Proofs
set_option maxRecDepth 10000
set_option maxHeartbeats 4000000
theorem Zw0:flat (smallM.ways.l.map (Z6a .old))=[.str [],.int .i64 0,.int .i64 1,.nils,.int .i64 0,.str [],.str [],.int .u8 1]:=rfl
theorem Znu:flat (smallM.verts.l.map (Zra .old))=[.str [],.int .u8 3,.int .i64 0,.int .i64 (-1),.str [],.str [],.nils,.str [],.str [115],.int .u8 1,.int .i64 0,.int .i64 (-1),.str [],.str [],.nils,.str []]:=rfl
theorem Z2p(G:Nat->V)(hE:GExp G):Spec Tryz.prog G 12 [] Zk (λv _=>v=.bool true):=by
 have hG:=hE.ok
 have one9:∀ c,Spec Tryz.prog G 38 [Za c 2 Zvc (Zt [(9,0)]),.int .u8 9,.int .i64 0] Zk (λv _=>v=.bool true):=λc=>(Zxg G c _ 9 0).mono λv _ e=>by rw[e,Zl]<;>rfl
 have one2:∀ c,Spec Tryz.prog G 38 [Za c 2 Zvc (Zt [(2,0)]),.int .u8 2,.int .i64 0] Zk (λv _=>v=.bool true):=λc=>(Zxg G c _ 2 0).mono λv _ e=>by rw[e,Zl]<;>rfl
 have one13:∀ c,Spec Tryz.prog G 38 [Za c 2 Zvc (Zt [(13,1)]),.int .u8 13,.int .i64 1] Zk (λv _=>v=.bool true):=λc=>(Zxg G c _ 13 1).mono λv _ e=>by rw[e,Zl]<;>rfl
 refine Zo 0 85 [.tmp 0] Tryz.func12 λX=>?_;refine Z ?_;refine CallA.inl [(7002,.dead),(7005,.dead),(7007,.dead)] zk (by intro p hp;simp only[List.mem_cons,List.not_mem_nil,or_false]at hp;rcases hp with rfl|rfl|rfl<;>rfl) ?_;refine(Z0g G).mono ?_;rintro _ H' ⟨g2,g5,g7,rfl,q2,q5,q7⟩;simp only[List.map_cons,List.map_nil,q2,q5,q7];refine Zu ?_;intro g1;refine Z ?_;refine Z6c hG [Z3 .old .old smallM] zk ⟨Rd.agg ⟨Zka (.str _) rfl,Zka .nils rfl,Zka .nils rfl,Rd.row (l:=smallM.regions.l) zp Zhd Z0m (λ_=>rfl),Rd.row (l:=smallM.verts.l) zp (Zhi _) (Zfv _) (Zmd _ _),Rd.row (l:=smallM.ways.l) zp (Zji _) (Zgv _) (Znd _ _),trivial⟩,trivial⟩ ((Ztd G hE .old .old smallM small_b (λ_=>small_t)).mono ?_);rintro _ _ rfl;rw[Zou];refine⟨Zxh _ _,?_⟩;refine Zs ?_;refine Z1 ?_;intro g19;refine Z1 ?_;intro g23
 refine AW.weak (Zx (λo=>o==19||o==23) (l:=[(1,.ptr 1 g1 0),(2,Za .new 2 Zvc (Zt [])),(3,.int .i64 0)])
  (m:=[(1,.cells .new g1 0 [.str smallM.name,.nils,Za .new 1 V.str (sOne goW),.msl 7002 g2 0 1 2,.msl 7005 g5 0 2 8,.msl 7007 g7 0 1 8]),(7002,.cells .new g2 0 (flat (small2.regions.l.map Zaa))),(7005,.cells .new g5 0 (flat (small2.verts.l.map (Zra .old)))),(7007,.cells .new g7 0 (flat (small2.ways.l.map (Z6a .new))))]) ?_ ?_) ?_
 refine Zs ?_;exact⟨Fz.same _,Fz.same _,Fz.same _⟩
 .simp only[Zp,Zy,and_true]
  refine⟨FzO.of rfl rfl ?_,FzO.keep rfl rfl,FzO.keep rfl rfl,FzO.of rfl rfl ?_⟩<;>repeat first|exact trivial|refine⟨Fz.same _,?_⟩|refine⟨Fz.one rfl rfl,?_⟩
 refine Z ?_;refine Z6c hG [Z3 .old .old small2] zk ⟨Rd.agg ⟨Zka (.str _) rfl,Zka .nils rfl,Zka (Z6o _ _) rfl,Rd.row (l:=small2.regions.l) zp Zhd Z0m (λ_=>rfl),Rd.row (l:=small2.verts.l) zp (Zhi _) (Zfv _) (Zmd _ _),Rd.row (l:=small2.ways.l) zp (Zji _) (Zgv _) (Znd _ _),trivial⟩,trivial⟩ ((Ztd G hE .old .old small2 Zwaa (λ_=>Zvaa)).mono ?_);rintro _ _ rfl;rw[Zeq];refine⟨Zxh _ _,?_⟩;refine Zs ?_;refine AW.weak (Zb (l:=[(2,Za .new 2 Zvc (Zt [])),(3,.int .i64 0),(4,Za .new 2 Zvc (Zt [(9,0)]))]) (m:=[]) zp zp) ?_;refine Z ?_;refine CallA.inl [(7002,.dead),(7005,.dead),(7007,.dead)] zk (by intro p hp;simp only[List.mem_cons,List.not_mem_nil,or_false]at hp;rcases hp with rfl|rfl|rfl<;>rfl) ?_;refine(Z0g G).mono ?_;rintro _ H' ⟨n2,n5,n7,rfl,q2,q5,q7⟩;simp only[List.map_cons,List.map_nil,q2,q5,q7];refine Zu ?_;intro g6;refine ZTf Zw0 hG ?_;intro g38;refine⟨Zca zo zo,λh7=>?_⟩;refine Z ?_;refine Z6c hG [Z3 .old .old small3] zk ⟨Rd.agg ⟨Zka (.str _) rfl,Zka .nils rfl,Zka .nils rfl,Rd.row (l:=small3.regions.l) zp Zhd Z0m (λ_=>rfl),Rd.row (l:=small3.verts.l) zp (Zhi _) (Zfv _) (Zmd _ _),Rd.row (f:=Z6a .old) (l:=small3.ways.l) zp (Zji _) (Zgv _) (Znd _ _),trivial⟩,trivial⟩ ((Ztd G hE .old .old small3 Zuaa (λ_=>Ztaa)).mono ?_);rintro _ _ rfl;rw[Zdq];refine⟨Zxh _ _,?_⟩;refine Zs ?_;refine AW.weak (Zb (l:=[(2,Za .new 2 Zvc (Zt [])),(3,.int .i64 0),(4,Za .new 2 Zvc (Zt [(9,0)])),(7,Za .new 2 Zvc (Zt [(2,0)]))]) (m:=[]) zp zp) ?_;refine Z ?_;refine CallA.inl [(7002,.dead),(7005,.dead),(7007,.dead)] zk (by intro p hp;simp only[List.mem_cons,List.not_mem_nil,or_false]at hp;rcases hp with rfl|rfl|rfl<;>rfl) ?_;refine(Z0g G).mono ?_;rintro _ H' ⟨k2,k5,k7,rfl,q2,q5,q7⟩;simp only[List.map_cons,List.map_nil,q2,q5,q7];refine Zu ?_;intro g9;refine Zf Znu ?_;refine Z6c hG [Z3 .old .old small4] zk ⟨Rd.agg ⟨Zka (.str _) rfl,Zka .nils rfl,Zka .nils rfl,Rd.row (l:=small4.regions.l) zp Zhd Z0m (λ_=>rfl),Rd.row (f:=Zra .old) (l:=small4.verts.l) zp (Zhi _) (Zfv _) (Zmd _ _),Rd.row (l:=small4.ways.l) zp (Zji _) (Zgv _) (Znd _ _),trivial⟩,trivial⟩ ((Ztd G hE .old .old small4 Zsaa (λ_=>Zraa)).mono ?_);rintro _ _ rfl;rw[Zcq];refine⟨Zxh _ _,?_⟩;refine Zs ?_;refine AW.weak (Zb (l:=[(2,Za .new 2 Zvc (Zt [])),(3,.int .i64 0),(4,Za .new 2 Zvc (Zt [(9,0)])),(7,Za .new 2 Zvc (Zt [(2,0)])),(10,Za .new 2 Zvc (Zt [(13,1)]))]) (m:=[]) zp zp) ?_;refine Z ?_;refine CallA.inl [(7103,.dead),(7104,.dead),(7108,.dead),(7121,.dead),(7134,.dead)] zk (by intro p hp;simp only[List.mem_cons,List.not_mem_nil,or_false]at hp;rcases hp with rfl|rfl|rfl|rfl|rfl<;>rfl) ?_;refine(Zs1 G).mono ?_;rintro _ H' ⟨d1,d2,d3,d4,d5,rfl,q1,q2,q3,q4,q5⟩
 simp only[List.map_cons,List.map_nil,q1,q2,q3,q4,q5];refine Zu ?_;intro g12;refine Z ?_;refine Zc hG ?_ (s:=one9 _);refine Zc hG ?_ (s:=one2 _);refine Zc hG ?_ (s:=one13 _);refine Z6c hG [Z3 .old .old doorM,.int .i64 3,.int .i64 1] zk ⟨Rd.agg ⟨Zka (.str _) rfl,Rd.row (l:=doorM.vars.l) zp Zhd Z0m (λ_=>rfl),Rd.row (l:=doorM.events.l) zp (λ_=>rfl) Zl7 (λ_=>rfl),Rd.row (l:=doorM.regions.l) zp Zhd Z0m (λ_=>rfl),Rd.row (l:=doorM.verts.l) zp (Zhi _) (Zfv _) (Zmd _ _),Rd.row (l:=doorM.ways.l) zp (Zji _) (Zgv _) (Znd _ _),trivial⟩,Zka (.int _ _) rfl,Zka (.int _ _) rfl,trivial⟩ ((Zk7 G hE .old .old doorM Zrda 3 1).mono ?_);rintro _ _ rfl;rw[Zi8.1];refine⟨.bool _,?_⟩;refine Zs ?_;refine Z6c hG [Z3 .old .old doorM,.int .i64 1,.int .i64 3] zk ⟨Rd.agg ⟨Zka (.str _) rfl,Rd.row (l:=doorM.vars.l) zp Zhd Z0m (λ_=>rfl),Rd.row (l:=doorM.events.l) zp (λ_=>rfl) Zl7 (λ_=>rfl),Rd.row (l:=doorM.regions.l) zp Zhd Z0m (λ_=>rfl),Rd.row (l:=doorM.verts.l) zp (Zhi _) (Zfv _) (Zmd _ _),Rd.row (l:=doorM.ways.l) zp (Zji _) (Zgv _) (Znd _ _),trivial⟩,Zka (.int _ _) rfl,Zka (.int _ _) rfl,trivial⟩ ((Zk7 G hE .old .old doorM Zrda 1 3).mono ?_);rintro _ _ rfl;rw[Zi8.2];refine⟨.bool _,?_⟩;refine Zs ?_;exact Zr
end Go.Hs
end

section
namespace Go.Hs
open Go.Proofs
set_option maxRecDepth 10000
set_option maxHeartbeats 4000000
theorem FewM.b{m:MdM}(f:FewM m)(r:MdR m):MdB m:=by
 have h1:=f.nv;have h2:=f.ne;have h3:=f.nr;have h4:=f.nx;have h5:=f.nw;refine⟨?_,?_,?_,?_,?_,?_,h1,h2,h3,h4,h5⟩;have:=r.nm;unfold txR at this;omega;intro p hp;have:=r.var.2 p hp;unfold txR at this;omega;intro p hp;have:=r.ev.2 p hp;unfold txR at this;omega;intro p hp;have:=r.rg.2 p hp;unfold txR at this;omega;intro x hx;obtain⟨q1,_,_,q2,_⟩:=r.vt.2 x hx;have q3:=(f.vt x hx).2.2;unfold txR at q1 q2;exact⟨zo,zo,zo⟩;intro x hx;obtain⟨q1,_⟩:=r.wy.2 x hx;have q3:=(f.wy x hx).2.2;unfold txR at q1;exact⟨zo,zo⟩
theorem Z3j{s:List UInt8}(h:Zxb s=true)(h2:s.length<=4096):s.length<=900:=by
 simp only[Zxb,Bool.or_eq_true,decide_eq_true_eq]at h;omega
theorem FewM.t{m:MdM}(f:FewM m)(r:m.p.Rt):MdT m:=by
 have wy:∀ t∈m.ways.l,t.guard.length<=4096/\t.effect.length<=4096:=λt ht=>by
  obtain⟨i,hi,rfl⟩:=List.getElem_of_mem ht;have:=r.way i (by rw[m.nw];exact hi);rw[Zmm (List.getElem?_eq_getElem hi)]at this;simp only[PM.wayB,Bool.and_eq_true,decide_eq_true_eq]at this;exact⟨this.1.2,this.2⟩
 have vt:∀ x∈m.verts.l,x.entry.length<=4096/\x.exit.length<=4096:=λt ht=>by
  obtain⟨i,hi,rfl⟩:=List.getElem_of_mem ht;have:=r.vtx i (by rw[m.nv];exact hi);rw[Zdi (List.getElem?_eq_getElem hi)]at this;simp only[PM.vertexB,Bool.and_eq_true,decide_eq_true_eq]at this;exact⟨this.1.1.2,this.1.2⟩
 exact⟨λt ht=>Z3j (f.wy t ht).2.1 (wy t ht).2,λt ht=>Z3j (f.wy t ht).1 (wy t ht).1,λx hx=>⟨Z3j (f.vt x hx).1 (vt x hx).1,Z3j (f.vt x hx).2.1 (vt x hx).2⟩⟩
end Go.Hs
end

section
namespace Go.Hs
open Go.Proofs
set_option maxRecDepth 10000
set_option maxHeartbeats 4000000
@[go_sem] theorem recol_ft(g:Col->Col)(c:Col)(s:Sl (Nat×Int)):(Za c 2 Zvc s).recol g=Za (g c) 2 Zvc s:=Zdc g c 2 (λp=>by simp only[Z9o,Zrb,List.map_cons,List.map_nil,Zqb]) s
theorem PM.checkW_len(m:PM){bd:List (List UInt8)->List (List UInt8)->List UInt8->Bool}{gd:List (List UInt8)->List UInt8->Int}(h1:m.vertices.length<=600)(h2:m.ways.length<=600)(h3:m.regions.length<=600):(m.checkW bd gd).1.length<=100000:=by
 have key:∀ k:Nat,(m.badL bd gd k).length<=k*600:=by
  intro k
  induction k with
  |zero=>exact Nat.zero_le _
  |succ k ih=>
   rw[PM.badL_succ,List.length_append];have:=PM.badAt_len (m:=m) (bd:=bd) (gd:=gd) (k+1) (m.places (k+1))
   have:m.places (k+1)<=600:=by unfold PM.places;split<;>(try split)<;>omega
   omega
 unfold PM.checkW
 split
 exact Nat.zero_le _
 have:=key 15;show(m.badL bd gd 15).length<=_;omega
end Go.Hs
end
