/- A part. No condition. -/
import Derived.Test.YtegjlbpnpiigkaaGreatDoorP48
import Derived.Test.YtegjlbpnpiigkaaGreatDoorP49
set_option linter.all false
section
namespace Go.Hs
open Go.Proofs
set_option maxRecDepth 10000
set_option maxHeartbeats 4000000
theorem FewM.b{m:MdM}(f:FewM m)(r:MdR m):MdB m:=by
 have h1:=f.nv;have h2:=f.ne;have h3:=f.nr;have h4:=f.nx;have h5:=f.nw;refine⟨?_,?_,?_,?_,?_,?_,h1,h2,h3,h4,h5⟩;have:=r.nm;unfold txR at this;omega;intro p hp;have:=r.var.2 p hp;unfold txR at this;omega;intro p hp;have:=r.ev.2 p hp;unfold txR at this;omega;intro p hp;have:=r.rg.2 p hp;unfold txR at this;omega;intro x hx;obtain⟨q1,_,_,q2,_⟩:=r.vt.2 x hx;have q3:=(f.vt x hx).2.2;unfold txR at q1 q2;exact⟨zo,zo,zo⟩;intro x hx;obtain⟨q1,_⟩:=r.wy.2 x hx;have q3:=(f.wy x hx).2.2;unfold txR at q1;exact⟨zo,zo⟩
theorem Zqn{s:List UInt8}(h:Zsc s=true)(h2:s.length<=4096):s.length<=900:=by
 simp only[Zsc,Bool.or_eq_true,decide_eq_true_eq]at h;omega
theorem FewM.t{m:MdM}(f:FewM m)(r:m.p.Rt):MdT m:=by
 have wy:∀ t∈m.ways.l,t.guard.length<=4096/\t.effect.length<=4096:=λt ht=>by
  obtain⟨i,hi,rfl⟩:=List.getElem_of_mem ht;have:=r.way i (by rw[m.nw];exact hi);rw[Zai (List.getElem?_eq_getElem hi)]at this;simp only[PM.wayB,Bool.and_eq_true,decide_eq_true_eq]at this;exact⟨this.1.2,this.2⟩
 have vt:∀ x∈m.verts.l,x.entry.length<=4096/\x.exit.length<=4096:=λt ht=>by
  obtain⟨i,hi,rfl⟩:=List.getElem_of_mem ht;have:=r.vtx i (by rw[m.nv];exact hi);rw[Zxf (List.getElem?_eq_getElem hi)]at this;simp only[PM.vertexB,Bool.and_eq_true,decide_eq_true_eq]at this;exact⟨this.1.1.2,this.1.2⟩
 exact⟨λt ht=>Zqn (f.wy t ht).2.1 (wy t ht).2,λt ht=>Zqn (f.wy t ht).1 (wy t ht).1,λx hx=>⟨Zqn (f.vt x hx).1 (vt x hx).1,Zqn (f.vt x hx).2.1 (vt x hx).2⟩⟩
theorem MdB.gr{m:MdM}(b:MdB m):MdB m.gr:=by
 refine⟨b.nm,?_,?_,?_,?_,?_,?_,?_,?_,?_,?_⟩<;>simp only[MdM.gr,Zm,List.length_map]
 exact b.var;exact b.ev;exact b.rg;intro x hx;obtain⟨y,hy,rfl⟩:=List.mem_map.1 hx;have:=b.vt y hy;simp only[VtM.gr,Zm];exact this;intro x hx;obtain⟨y,hy,rfl⟩:=List.mem_map.1 hx;have:=b.wy y hy;simp only[TrM.gr,Zm];exact this;exact b.nv;exact b.ne;exact b.nr;exact b.nx;exact b.nw
theorem MdT.gr{m:MdM}(t:MdT m):MdT m.gr:=by
 refine⟨?_,?_,?_⟩<;>simp only[MdM.gr,Zm]
 intro x hx;obtain⟨y,hy,rfl⟩:=List.mem_map.1 hx;exact t.ef y hy;intro x hx;obtain⟨y,hy,rfl⟩:=List.mem_map.1 hx;exact t.gu y hy;intro x hx;obtain⟨y,hy,rfl⟩:=List.mem_map.1 hx;exact t.en y hy
def Z12(p:Int×Int):V:=.agg [.int .u8 p.1,.int .i64 p.2]
def ftI(s:Sl (Nat×Int)):Sl (Int×Int):=match s with|.nil=>.nil|.mk b l=>.mk b (l.map λp=>((p.1:Int),p.2))
theorem ftI_l(s:Sl (Nat×Int)):(ftI s).l.length=s.l.length:=by cases s<;>simp[ftI,Sl.l]
theorem ftI_v(c:Col)(s:Sl (Nat×Int)):Zb c 2 Zub s=Zb c 2 Z12 (ftI s):=by
 cases s with
 |nil=>rfl
 |mk b l=>show V.slice c b 2 _=V.slice c b 2 _;rw[List.map_map]<;>rfl
def shF(i:Nat):Sh:=if i=0 then .int .u8 else .int .i64
def shFs(M:Nat):Sh:=.row true 2 M shF
theorem free_Fs(M:Nat):(shFs M).free:=by
 intro j _
 show(shF j).free
 unfold shF
 split<;>trivial
theorem shFs_of{M:Nat}{s:Sl (Int×Int)}(h:s.l.length<=M):ShV .new .new (shFs M) (Zb .new 2 Z12 s):=by
 cases s with
 |nil=>exact .inl rfl
 |mk b l=>
  refine .inr ⟨b,l.map Z12,rfl,by rw[List.length_map];exact h,?_⟩;intro u hu;obtain⟨n,_,rfl⟩:=List.mem_map.1 hu;refine⟨rfl,rfl,λi hi=>?_⟩;have hi:i<2:=hi
  match i,hi with
  |0,_=>exact⟨_,rfl⟩
  |1,_=>exact⟨_,rfl⟩
end Go.Hs
end

section
namespace Go.Hs
open Go.Proofs
set_option maxRecDepth 10000
set_option maxHeartbeats 4000000
@[go_sem] theorem recol_ft(g:Col->Col)(c:Col)(s:Sl (Nat×Int)):(Zb c 2 Zub s).recol g=Zb (g c) 2 Zub s:=Zdd g c 2 (λp=>by simp only[Zah,Zdc,List.map_cons,List.map_nil,Zcc]) s
theorem shFs_to{M:Nat}{v:V}(h:ShV .new .new (shFs M) v):∃ s:Sl (Int×Int),v=Zb .new 2 Z12 s/\s.l.length<=M:=by
 rcases h with rfl|⟨clip,l,rfl,hl,hu⟩
 exact⟨.nil,rfl,Nat.zero_le _⟩
 .have:∃ ns:List (Int×Int),l=ns.map Z12:=by
   try clear hl
   induction l with
   |nil=>exact⟨[],rfl⟩
   |cons u r ih=>
    obtain⟨ns,rfl⟩:=ih λx hx=>hu x (by simp[hx]);obtain⟨h1,h2,h3⟩:=hu u zS;obtain⟨t,ht⟩:=h3 0 zo;obtain⟨n,hn⟩:=h3 1 zo;refine⟨(t,n)::ns,?_⟩
    have hc:u.cells=[.int .u8 t,.int .i64 n]:=by
     match hq:u.cells,h1 with
     |[y,z],_=>
      have e0:u.cells[0]'zo=y:=by simp[hq]
      have e1:u.cells[1]'zo=z:=by simp[hq]
      rw[e0]at ht;rw[e1]at hn;rw[ht,hn]
    rw[h2,hc]<;>rfl
  obtain⟨ns,rfl⟩:=this;exact⟨.mk clip ns,rfl,by rw[List.length_map]at hl;exact hl⟩
theorem Zpt(s:Sl (List UInt8)):V.Old (Zb .old 1 V.str s):=Zyq (λn y hy=>by simp[V.cells]at hy;subst hy;exact .str _) s
theorem old_md(m:MdM):V.Old (.view .old (Zx .old .old m)):=by
 refine .view _ λx hx=>?_;simp only[Zd,V.cells,List.mem_cons,List.not_mem_nil,or_false]at hx
 have vr:∀ s:Sl (List UInt8×Int),V.Old (Zb .old 2 Z3 s):=Zyq λn y hy=>by
  simp only[Z2a,V.cells,List.mem_cons,List.not_mem_nil,or_false]at hy
  rcases hy with rfl|rfl<;>first|exact .str _|exact .int _ _
 rcases hx with rfl|rfl|rfl|rfl|rfl|rfl
 exact .str _;exact vr _;exact Zpt _;exact vr _
 exact Zyq (λn y hy=>by
  simp only[Zp,V.cells,List.mem_cons,List.not_mem_nil,or_false]at hy
  rcases hy with rfl|rfl|rfl|rfl|rfl|rfl|rfl|rfl<;>first|exact .str _|exact .int _ _|exact Zpt _) _
 exact Zyq (λn y hy=>by
  simp only[Z7,V.cells,List.mem_cons,List.not_mem_nil,or_false]at hy
  rcases hy with rfl|rfl|rfl|rfl|rfl|rfl|rfl|rfl<;>first|exact .str _|exact .int _ _|exact Zpt _) _
theorem old_ft(s:Sl (Nat×Int)):V.Old (Zb .old 2 Zub s):=Zyq (λn y hy=>by
 simp only[Zah,V.cells,List.mem_cons,List.not_mem_nil,or_false]at hy
 rcases hy with rfl|rfl<;>exact .int _ _) s
theorem PM.checkW_len(m:PM){bd:List (List UInt8)->List (List UInt8)->List UInt8->Bool}{gd:List (List UInt8)->List UInt8->Int}(h1:m.vertices.length<=600)(h2:m.ways.length<=600)(h3:m.regions.length<=600):(m.checkW bd gd).1.length<=100000:=by
 have key:∀ k:Nat,(m.badL bd gd k).length<=k*600:=by
  intro k
  induction k with
  |zero=>exact Nat.zero_le _
  |succ k ih=>
   rw[PM.badL_succ,List.length_append];have:=PM.badAt_len (m:=m) (bd:=bd) (gd:=gd) (k+1) (m.places (k+1))
   have:m.places (k+1)<=600:=by unfold PM.places;split<;>(try split)<;>omega
   omega
 unfold PM.checkW
 split
 exact Nat.zero_le _
 have:=key 15;show(m.badL bd gd 15).length<=_;omega
theorem Zti(G:Nat->V)(hE:GExp G)(hGo:∀ g,(G g).Old)(m:MdM)(hr:MdR m):
  Spec Tryz.prog G 3 [Zx .old .old m] Zk (λv _=>v=.bool true):=by
 have hG:=hE.ok;have hW:=Zge G hE;refine Zo 0 62 [.tmp 2] Tryz.func3 λX=>?_;simp only[Zd];refine Z ?_;intro g1;refine AW.weak (Zt (λo=>o==1) (l:=[(1,.view .new (Zx .old .old m))]) (m:=[]) ?_ trivial) ?_;refine Zs ?_;exact Fz.ptr (v:=Zx .old .old m) (c:=.new) (fz:=0) zp zp;refine Zf Zd ?_;refine Ze hG ?_ (s:=Zqk G hG .old .old m hr);rintro _ ⟨b,rfl,hb⟩
 cases b with
 |false=>
  refine Zf Zd ?_;refine Zc hG ?_ (s:=hW);exact Zr
 |true=>
 have hf:=hb rfl;have hB:=hf.b hr;have n3:=hf.nr;have n4:=hf.nx;have n5:=hf.nw;have w1:IntKind.i64.wrap ((m.ways.l.length:Int)+(m.verts.l.length:Int))=(m.ways.l.length:Int)+(m.verts.l.length:Int):=w64 zo zo;have w2:IntKind.i64.wrap ((m.ways.l.length:Int)+(m.verts.l.length:Int)+(m.regions.l.length:Int))=(m.ways.l.length:Int)+(m.verts.l.length:Int)+(m.regions.l.length:Int):=w64 zo zo
 by_cases hs:m.ways.l.length+m.verts.l.length+m.regions.l.length>120
 have q:decide ((m.ways.l.length:Int)+(m.verts.l.length:Int)+(m.regions.l.length:Int)>120)=true:=zT;refine Zg (zi w1 (zi w2 (zi q Zd))) ?_;refine Zc hG ?_ (s:=hW);exact Zr;have q:decide ((m.ways.l.length:Int)+(m.verts.l.length:Int)+(m.regions.l.length:Int)>120)=false:=zF;have hck:=λc d=>Z7c G hE c d m hB hf.t;have hqk:=λc d=>Z71 G hG c d m.gr hB.gr (λr=>(hf.t (by rw[<- m.gr_p];exact r)).gr);rw[m.gr_p]at hqk;have hWl:(m.p.checkW Zba Z2).1.length<=100000:=m.p.checkW_len (by rw[m.nv];omega) (by rw[m.nw];omega) (by show m.regions.l.length<=_;omega);generalize m.p.checkW Zba Z2=pr at hck hqk hWl;obtain⟨W,e⟩:=pr;simp only at hck hqk hWl;refine Zg (zi w1 (zi w2 (zi q Zd))) ?_;refine Zc hG ?_ (s:=Zgw G hG _ _ m hB);refine Zc hG ?_ (s:=hqk _ _);refine AW.weak (Za (l:=[(1,.view .new (Zx .old .old m)),(3,Zb .new 2 Zub (Zl W)),(4,.int .i64 e)]) (m:=[]) (zpf Zd) zp) ?_;refine Zjla hG λX1 H1 hb1 hI1=>?_;simp -implicitDefEqProofs only[go_sem,seval,List.map_cons,List.map_nil,recol_cells,Zsh];refine Z ?_;refine Z9 2 (λk (_:Unit)=>st [(1,.view .old (Zx .old .old m)),(3,Zb .old 2 Zub (Zl W)),(4,.int .i64 e),(5,.int .i64 k)] []) (λ_ _=>True) 0 () (Nat.zero_le _) trivial (Za zp zp) ?_;intro k _ hk _ L3 hL3;have wk:IntKind.i64.wrap ((k:Int)+1)=(k:Int)+1:=w64 zo zo
 by_cases hk1:k<2
 have hlt:decide ((k:Int)<2)=true:=zT;have u:(e != e)=false:=zS;refine Zf (zi hlt Zd) ?_;refine Zc hG ?_ (s:=hck _ _);refine Zf u ?_;refine Zc hG ?_ (s:=Z6u G hG _ _ (Zl W) (Zl W) rfl (by rw[Zm];exact hWl));refine Z1 ?_;refine AW.weak (Za (l:=[(1,.view .old (Zx .old .old m)),(3,Zb .old 2 Zub (Zl W)),(4,.int .i64 e),(5,.int .i64 k),(6,Zb .new 2 Z12 (ftI (Zl W))),(8,.int .i64 0)]) (m:=[]) (by refine Zs ?_;exact⟨rfl,ftI_v _ _⟩) zp) ?_;refine AW.block ?_
 refine Zpb (fun(y:Sl (Int×Int)×Nat)=>st [(1,.view .old (Zx .old .old m)),(3,Zb .old 2 Zub (Zl W)),(4,.int .i64 e),(5,.int .i64 k),(6,Zb .new 2 Z12 y.1),(8,.int .i64 y.2)] [])
  (λy=>y.1.l.length<=100000/\y.2<=100000) (λy=>100001-y.2) (ftI (Zl W),0) ⟨by rw[ftI_l,Zm];exact hWl,Nat.zero_le _⟩ (Za zp zp) ?_
 rintro⟨ya,i⟩ ⟨hya,hi⟩ L7 hL7
 replace hya:ya.l.length<=100000:=hya
 replace hi:i<=100000:=hi
 by_cases hi1:i<ya.l.length
 have hg:=List.getElem?_eq_getElem hi1;have hlt2:decide ((i:Int)<(ya.l.length:Int))=true:=zT;have w3:IntKind.i64.wrap ((i:Int)+1)=(i:Int)+1:=w64 zo zo;refine Z1f hlt2 ?_;refine Z0 ?_;refine Z4 ?_;refine AW.block ?_;refine Zila [(1,.view .old (Zx .old .old m)),(3,Zb .old 2 Zub (Zl W)),(4,.int .i64 e),(5,.int .i64 k),(8,.int .i64 i)] [] [(6,shFs 100000)] hb1 hI1 hGo (by intro p hp;simp at hp;subst hp;exact free_Fs _) zk zk rfl ?_ ?_ ?_;refine Zs ?_;exact⟨old_md _,old_ft _,.int _ _,.int _ _,.int _ _⟩;exact zp;simp -implicitDefEqProofs only[go_sem,seval,List.dropLast,hg];refine⟨⟨_,rfl,rfl,by kernel_rfl,⟨rfl,rfl,trivial⟩,zd⟩,shFs_of hya,?_⟩;rintro _ ⟨v,_,rfl,hv,rfl⟩;obtain⟨ya2,rfl,h1⟩:=shFs_to hv;refine Zs ?_;refine Zf w3 ?_;exact hL7 _ ⟨(ya2,i+1),by show 100001-(i+1)<100001-i;omega,⟨h1,by show i+1<=100000;omega⟩,Za zp zp⟩;have hlt2:decide ((i:Int)<(ya.l.length:Int))=false:=zF;refine Zf (zi hlt2 wk) ?_;exact hL3 _ ⟨hk1,(),trivial,Za zp zp⟩;have hlt:decide ((k:Int)<2)=false:=zF;refine Zf hlt ?_;refine Zc hG ?_ (s:=hW);exact Zr
end Go.Hs
end

section
namespace Go.Hs
open Go.Proofs
set_option maxRecDepth 10000
set_option maxHeartbeats 4000000
theorem lWfRule(G:Nat->V)(hE:GExp G)(m:MdM)(hr:MdR m)(rule at_ state:Int)(hu:InK .u8 rule):
  Spec Tryz.prog G 21 [Zx .old .old m,.int .u8 rule,.int .i64 at_,.int .i64 state] Zk (λv _=>v=.bool true):=by
 have hG:=hE.ok;have hW:=Zge G hE
 have hr0:0<=rule/\rule<256:=by
  have e1:IntKind.u8.min=0:=rfl;have e2:IntKind.u8.max=255:=rfl;obtain⟨q1,q2⟩:=hu;omega
 refine Zo 0 53 [.tmp 8] Tryz.func21 λX=>?_;simp only[Zd];refine Z ?_;intro g1;refine AW.weak (Zt (λo=>o==4) (l:=[(1,.int .u8 rule),(2,.int .i64 at_),(3,.int .i64 state),(4,.view .new (Zx .old .old m))]) (m:=[]) ?_ trivial) ?_;refine Zs ?_;exact⟨Fz.same _,Fz.same _,Fz.same _,Fz.ptr (v:=Zx .old .old m) (c:=.new) (fz:=0) zp zp⟩;refine Zf Zd ?_;refine Ze hG ?_ (s:=Zqk G hG .old .old m hr);rintro _ ⟨b,rfl,hb⟩
 cases b with
 |false=>
  refine Zg Zd ?_;refine Zc hG ?_ (s:=hW);exact Zr
 |true=>
 have hf:=hb rfl;have hB:=hf.b hr;have n3:=hf.nr;have n4:=hf.nx;have n5:=hf.nw;have w1:IntKind.i64.wrap ((m.ways.l.length:Int)+(m.verts.l.length:Int))=(m.ways.l.length:Int)+(m.verts.l.length:Int):=w64 zo zo;have w2:IntKind.i64.wrap ((m.ways.l.length:Int)+(m.verts.l.length:Int)+(m.regions.l.length:Int))=(m.ways.l.length:Int)+(m.verts.l.length:Int)+(m.regions.l.length:Int):=w64 zo zo
 by_cases hs:m.ways.l.length+m.verts.l.length+m.regions.l.length>120
 have q:decide ((m.ways.l.length:Int)+(m.verts.l.length:Int)+(m.regions.l.length:Int)>120)=true:=zT;refine Zg (zi w1 (zi w2 (zi q Zd))) ?_;refine Zc hG ?_ (s:=hW);exact Zr;have q:decide ((m.ways.l.length:Int)+(m.verts.l.length:Int)+(m.regions.l.length:Int)>120)=false:=zF;have hck:=λc d=>Ztv G hE c d m hB hf.t rule at_ hr0.1 hr0.2;have hqk:=λc d=>Zxaa G hG c d m.gr hB.gr (λr=>(hf.t (by rw[<- m.gr_p];exact r)).gr) rule at_ hr0.1 hr0.2;have hin:=λc d=>Zt2 G hE c d m hB at_ state;have hqi:=λc d=>Zzma G hG c d m.gr hB.gr at_ state;rw[m.gr_p]at hqk hqi;generalize m.p.ruleW Zba Z2 rule at_=b1 at hck hqk;generalize m.p.inW at_ state=b2 at hin hqi;refine Zg (zi w1 (zi w2 (zi q Zd))) ?_;refine Zc hG ?_ (s:=Zgw G hG _ _ m hB);intro g9;refine AW.weak (Zt (λo=>o==9) (l:=[(1,.int .u8 rule),(2,.int .i64 at_),(3,.int .i64 state),(4,.view .new (Zx .old .old m)),(9,.view .new (Zx .new .new m.gr))]) (m:=[]) ?_ trivial) ?_;refine Zs ?_;exact⟨Fz.same _,Fz.same _,Fz.same _,Fz.same _,Fz.ptr (v:=Zx .new .new m.gr) (c:=.new) (fz:=0) zp zp⟩;have e1:(b1==b1)=true:=zS;have e2:(b2==b2)=true:=zS;refine Z4 ?_;refine Zw ⟨λj=>if j=3 then .bool b1 else if j=7 then .bool b1 else if j=13 then .bool b2 else if j=17 then .bool b2 else if j=21 then .bool true else .top,λ_=>.pure⟩ zk hG zk zk ?_;refine Zsf (zi e1 (zi e2 @Zd)) ?_;have hW2:Z7i Tryz.prog G 12 [] (.bool true):=⟨by kernel_rfl,hW.mono λv _ e=>by rw[e]<;>rfl⟩;have p1:∀ c d,Z7i Tryz.prog G 17 [Zx c d m,.int .u8 rule,.int .i64 at_] (.bool b1):=λc d=>⟨by kernel_rfl,by simp -implicitDefEqProofs only[go_sem,seval,List.map_cons,List.map_nil,Z4f];exact(hck _ _).mono λv _ e=>by rw[e]<;>rfl⟩;have p2:∀ c d,Z7i Tryz.prog G 54 [Zx c d m.gr,.int .u8 rule,.int .i64 at_] (.bool b1):=λc d=>⟨by kernel_rfl,by simp -implicitDefEqProofs only[go_sem,seval,List.map_cons,List.map_nil,Z4f];exact(hqk _ _).mono λv _ e=>by rw[e]<;>rfl⟩;have p3:∀ c d,Z7i Tryz.prog G 39 [Zx c d m,.int .i64 at_,.int .i64 state] (.bool b2):=λc d=>⟨by kernel_rfl,by simp -implicitDefEqProofs only[go_sem,seval,List.map_cons,List.map_nil,Z4f];exact(hin _ _).mono λv _ e=>by rw[e]<;>rfl⟩;have p4:∀ c d,Z7i Tryz.prog G 55 [Zx c d m.gr,.int .i64 at_,.int .i64 state] (.bool b2):=λc d=>⟨by kernel_rfl,by simp -implicitDefEqProofs only[go_sem,seval,List.map_cons,List.map_nil,Z4f];exact(hqi _ _).mono λv _ e=>by rw[e]<;>rfl⟩;refine⟨p1 .old .old,p2 .new .new,p3 .old .old,p4 .new .new,hW2,?_⟩;exact Zr
end Go.Hs
end

section
namespace Go.Hs
section
namespace PM
variable{m:PM}{bd:List (List UInt8)->List (List UInt8)->List UInt8->Bool}{gd:List (List UInt8)->List UInt8->Int}
theorem Zhq(rule a:Nat):∀ n,a<n->∃ t,m.badAt bd gd rule n=m.badAt bd gd rule a++(if m.keep bd gd rule (a:Int)=true then[]else[(rule,(a:Int))])++t/\∀ x∈t,x.1=rule/\(a:Int)<x.2
 |0,h=>absurd h (Nat.not_lt_zero _)
 |n+1,h=>by
  rcases Nat.lt_or_ge a n with q|q
  obtain⟨t,e,ht⟩:=Zhq rule a n q;rw[badAt_succ,e];refine⟨_,List.append_assoc _ _ _,λx hx=>?_⟩
  rcases List.mem_append.1 hx with hx|hx
  exact ht x hx
  split at hx
  cases hx;rw[List.mem_singleton.1 hx];exact⟨rfl,by show(a:Int)<(n:Int);omega⟩
  obtain rfl:a=n:=by omega
  exact⟨[],by rw[badAt_succ,List.append_nil],λx hx=>by cases hx⟩
theorem Zqs(r:Nat):∀ k,r<=k->∃ t,m.badL bd gd k=m.badL bd gd r++t/\∀ x∈t,r<x.1
 |0,h=>by
  obtain rfl:r=0:=by omega
  exact⟨[],(List.append_nil _).symm,λx hx=>by cases hx⟩
 |k+1,h=>by
  rcases Nat.lt_or_ge r (k+1)with q|q
  obtain⟨t,e,ht⟩:=Zqs r k (by omega);rw[badL_succ,e];refine⟨_,List.append_assoc _ _ _,λx hx=>?_⟩
  rcases List.mem_append.1 hx with hx|hx
  exact ht x hx;rw[badAt]at hx;obtain⟨i,_,rfl⟩:=List.mem_map.1 hx;exact q
  obtain rfl:r=k+1:=by omega
  exact⟨[],(List.append_nil _).symm,λx hx=>by cases hx⟩
def ahead(m:PM)(bd:List (List UInt8)->List (List UInt8)->List UInt8->Bool)(gd:List (List UInt8)->List UInt8->Int)(rule a:Nat):Nat:=(m.badL bd gd (rule-1)).length+(m.badAt bd gd rule a).length
theorem ahead_succ(rule a:Nat):m.ahead bd gd rule (a+1)=m.ahead bd gd rule a+if m.keep bd gd rule (a:Int)=true then 0 else 1:=by
 rw[ahead,ahead,badAt_succ,List.length_append]
 split<;>simp only[List.length_nil,List.length_cons]<;>omega
theorem ahead_next{rule:Nat}(h:1<=rule):m.ahead bd gd rule (m.places rule)=m.ahead bd gd (rule+1) 0:=by
 obtain⟨r,rfl⟩:∃ r,rule=r+1:=⟨rule-1,by omega⟩;rw[ahead,ahead,Nat.add_sub_cancel,Nat.add_sub_cancel,badL_succ,List.length_append];rfl
theorem told_eq{rule a:Nat}(h1:1<=rule)(h2:rule<=15)(ha:a<m.places rule):
  (m.keep bd gd rule (a:Int)=false/\(m.badL bd gd 15)[m.ahead bd gd rule a]?=some (rule,(a:Int)))\/(m.keep bd gd rule (a:Int)=true/\(m.badL bd gd 15)[m.ahead bd gd rule a]?≠some (rule,(a:Int))):=by
 obtain⟨r,rfl⟩:∃ r,rule=r+1:=⟨rule-1,by omega⟩;obtain⟨t,e,ht⟩:=Zqs (m:=m) (bd:=bd) (gd:=gd) (r+1) 15 h2;obtain⟨u,f,hu⟩:=Zhq (m:=m) (bd:=bd) (gd:=gd) (r+1) a _ ha;rw[badL_succ r,f]at e;rw[e,ahead,Nat.add_sub_cancel]
 cases hk:m.keep bd gd (r+1) (a:Int)with
 |false=>
  refine .inl ⟨rfl,?_⟩;rw[if_neg (by decide),List.append_assoc,List.append_assoc,List.append_assoc,List.getElem?_append_right (Nat.le_add_right _ _),List.getElem?_append_right (by omega)];rw[show(m.badL bd gd r).length+(m.badAt bd gd (r+1) a).length-(m.badL bd gd r).length-(m.badAt bd gd (r+1) a).length=0 by omega];rfl
 |true=>
  refine .inr ⟨rfl,λh=>?_⟩;rw[if_pos rfl,List.append_nil,List.append_assoc,List.append_assoc,List.getElem?_append_right (Nat.le_add_right _ _),List.getElem?_append_right (by omega)]at h;have:=List.mem_of_getElem? h
  rcases List.mem_append.1 this with q|q
  have:=(hu _ q).2;simp only at this;omega;have:=ht _ q;simp only at this;omega
theorem ahead_end:m.ahead bd gd 15 (m.places 15)=(m.badL bd gd 15).length:=by
 rw[ahead_next (by decide),ahead];rfl
theorem ahead_zero:m.ahead bd gd 1 0=0:=rfl
end PM
end
end Go.Hs
end

section
namespace Go.Hs
open Go.Proofs
set_option maxRecDepth 10000
set_option maxHeartbeats 4000000
def PM.aheadR(m:PM)(r:Nat):Nat:=if r=0 then 0 else if r<=15 then m.ahead Zba Z2 r 0 else(m.badL Zba Z2 15).length
def PM.spots(m:PM)(r:Nat):Nat:=if r=1 then m.regions.length else if r<=8\/r=13 then m.vertices.length else m.ways.length
def PM.aheadA(m:PM)(r j:Nat):Nat:=if 1<=r/\r<=15 then m.ahead Zba Z2 r (min (j-1) (m.spots r))else m.aheadR r
theorem Zgh{m:PM}{r:Nat}(h:1<=r):m.spots r=m.places r:=by
 unfold PM.spots PM.places;rfl
theorem Zlr(m:PM)(r:Nat):m.aheadA r 0=m.aheadR r:=by
 unfold PM.aheadA PM.aheadR
 split
 rename_i h;rw[if_neg zo,if_pos h.2,Nat.zero_sub,Nat.zero_min];rfl
theorem Zru(m:PM){r:Nat}(h:r<17):m.aheadA r (m.spots r+2)=m.aheadR (r+1):=by
 unfold PM.aheadA
 by_cases h1:1<=r/\r<=15
 rw[if_pos h1,Nat.min_eq_right zo,Zgh h1.1]
 by_cases h2:r=15
 subst h2;rw[PM.ahead_end]<;>rfl
 rw[PM.ahead_next h1.1];unfold PM.aheadR;rw[if_neg zo,if_pos zo];rw[if_neg h1];have:r=0\/r=16:=zo
 rcases this with rfl|rfl
 exact PM.ahead_zero.symm;rfl
theorem PM.aheadA_skip(m:PM){r j:Nat}(h:r<1\/15<r\/j=0\/j=m.spots r+1):m.aheadA r (j+1)=m.aheadA r j:=by
 unfold PM.aheadA
 split
 congr 1
 rcases h with h|h|rfl|rfl<;>omega
 rfl
theorem PM.ruleW_no(m:PM){r j:Nat}(h:r<1\/15<r\/j=0\/j=m.spots r+1):m.ruleW Zba Z2 (r:Int) ((j:Int)-1)=false:=by
 rw[PM.ruleW,Int.toNat_natCast]
 rcases h with h|h|rfl|rfl
 rw[decide_eq_false (p:=1<=(r:Int)) zo];simp;rw[decide_eq_false (p:=(r:Int)<=15) zo];simp;rw[decide_eq_false (p:=0<=((0:Nat):Int)-1) zo];simp
 by_cases h1:1<=r
 rw[decide_eq_false (p:=(((m.spots r+1:Nat)):Int)-1<m.places r) (by rw[<- Zgh h1];omega)];simp;rw[decide_eq_false (p:=1<=(r:Int)) zo];simp
theorem PM.ruleW_at(m:PM)(he:(m.rightP).2.2=0){r a:Nat}(h1:1<=r)(h2:r<=15)(ha:a<m.spots r):m.ruleW Zba Z2 (r:Int) (a:Int)=m.keep Zba Z2 r (a:Int):=by
 rw[PM.ruleW,Int.toNat_natCast,decide_eq_true he,decide_eq_true (p:=1<=(r:Int)) zo,decide_eq_true (p:=(r:Int)<=15) zo,decide_eq_true (p:=0<=(a:Int)) zo,decide_eq_true (p:=(a:Int)<m.places r) (by rw[<- Zgh h1];omega)];simp
theorem PM.aheadA_at(m:PM){r a:Nat}(h1:1<=r)(h2:r<=15)(ha:a<m.spots r):m.aheadA r (a+1)=m.ahead Zba Z2 r a/\m.aheadA r (a+2)=m.ahead Zba Z2 r a+if m.keep Zba Z2 r (a:Int)=true then 0 else 1:=by
 unfold PM.aheadA;rw[if_pos ⟨h1,h2⟩,if_pos ⟨h1,h2⟩,<- PM.ahead_succ];exact⟨by congr 1;omega,by congr 1;omega⟩
theorem Zcia(G:Nat->V)(hE:GExp G)(m:MdM)(hr:MdR m):Spec Tryz.prog G 4 [Zx .old .old m] Zk (λv _=>v=.bool true):=by
 have hG:=hE.ok;have hW:=Zge G hE;refine Zo 0 124 [.tmp 2] Tryz.func4 λX=>?_;simp only[Zd];refine Z ?_;intro g1;refine AW.weak (Zt (λo=>o==1) (l:=[(1,.view .new (Zx .old .old m))]) (m:=[]) ?_ trivial) ?_;refine Zs ?_;exact Fz.ptr (v:=Zx .old .old m) (c:=.new) (fz:=0) zp zp;refine Zf Zd ?_;refine Ze hG ?_ (s:=Zqk G hG .old .old m hr);rintro _ ⟨b,rfl,hb⟩
 cases b with
 |false=>
  refine Zg Zd ?_;refine Zc hG ?_ (s:=hW);exact Zr
 |true=>
 have hf:=hb rfl;have hB:=hf.b hr;have n3:=hf.nr;have n4:=hf.nx;have n5:=hf.nw
 by_cases h1:m.ways.l.length>15
 have q:decide ((m.ways.l.length:Int)>15)=true:=zT;refine Zg (zi q Zd) ?_;refine Zc hG ?_ (s:=hW);exact Zr;have q1:decide ((m.ways.l.length:Int)>15)=false:=zF
 by_cases h2:m.verts.l.length>15
 have q:decide ((m.verts.l.length:Int)>15)=true:=zT;refine Zg (zi q1 (zi q Zd)) ?_;refine Zc hG ?_ (s:=hW);exact Zr;have q2:decide ((m.verts.l.length:Int)>15)=false:=zF
 by_cases h3:m.regions.l.length>15
 have q:decide ((m.regions.l.length:Int)>15)=true:=zT;refine Zg (zi q1 (zi q2 (zi q Zd))) ?_;refine Zc hG ?_ (s:=hW);exact Zr;have q3:decide ((m.regions.l.length:Int)>15)=false:=zF;refine Zg (zi q1 (zi q2 (zi q3 Zd))) ?_;have hck:=λc d=>Z7c G hE c d m hB hf.t;have hrl:=λc d r a h h'=>Ztv G hE c d m hB hf.t r a h h'
 by_cases he:(m.p.rightP).2.2=0
 rotate_left
 have hcw:m.p.checkW Zba Z2=([],(m.p.rightP).2.2):=by rw[PM.checkW,if_pos he]
 have hrw:m.p.ruleW Zba Z2 1 0=false:=by rw[PM.ruleW,decide_eq_false he];simp
 rw[hcw]at hck;have u:((m.p.rightP).2.2 != 0)=true:=zu he;have hr1:=λc d=>hrl c d 1 0 zd zd;rw[hrw]at hr1;refine Zc hG ?_ (s:=hck _ _);refine Zf (zi u Zd) ?_;refine Zc hG ?_ (s:=hr1 _ _);refine Zc hG ?_ (s:=hW);exact Zr
 have hcw:m.p.checkW Zba Z2=(m.p.badL Zba Z2 15,0):=by rw[PM.checkW,if_neg (by rw[he];simp)]
 have hWl:(m.p.badL Zba Z2 15).length<=100000:=by
  have:=m.p.checkW_len (bd:=Zba) (gd:=Z2) (by rw[m.nv];omega) (by rw[m.nw];omega) (by show m.regions.l.length<=_;omega);rw[hcw]at this;exact this
 rw[hcw]at hck;refine Zc hG ?_ (s:=hck _ _);have hz:((0:Int) != 0)=false:=rfl;refine Z ?_;refine Z9 17 (λr (_:Unit)=>st [(1,.view .new (Zx .old .old m)),(3,Zb .new 2 Zub (Zl (m.p.badL Zba Z2 15))),(5,.int .i64 (m.p.aheadR r)),(6,.int .u8 r)] []) (λ_ _=>True) 0 () (Nat.zero_le _) trivial (Za (zpf Zd) zp) ?_;intro r _ hk _ L3 hL3
 by_cases hr1:r<17
 rotate_left;have hke:r=17:=zo;subst hke;have hlt:decide (((17:Nat):Int)<17)=false:=rfl;have hke:m.p.aheadR 17=(m.p.badL Zba Z2 15).length:=rfl;have u:(((m.p.badL Zba Z2 15).length:Int)==((m.p.badL Zba Z2 15).length:Int))=true:=zS;refine Zf (zi hlt (zi hke u)) ?_;refine Zc hG ?_ (s:=hW);exact Zr;have hlt:decide ((r:Int)<17)=true:=zT;refine Z1f hlt ?_;refine Z1f Zd ?_;refine Zda (fun(_:Unit)=>st [(1,.view .new (Zx .old .old m)),(3,Zb .new 2 Zub (Zl (m.p.badL Zba Z2 15))),(5,.int .i64 (m.p.aheadR r)),(6,.int .u8 r),(7,.int .i64 (m.p.spots r))] []) (λ_=>True) (λK1 hK1=>?_) ?_
 by_cases c1:r=1
 have u:((r:Int)==1)=true:=by rw[c1]<;>rfl
 refine Zf (zi u Zd) ?_;exact hK1 _ () trivial (Za (by simp -implicitDefEqProofs only[go_sem,seval,Zd];rw[c1]<;>rfl) zp)
 have u:((r:Int)==1)=false:=by rw[beq_eq_false_iff_ne];omega
 by_cases c2:r<=8
 have u2:decide ((r:Int)<=8)=true:=zT;refine Zf (zi u (zi u2 Zd)) ?_;exact hK1 _ () trivial (Za (by simp -implicitDefEqProofs only[go_sem,seval,Zd];unfold PM.spots;rw[if_neg c1,if_pos (.inl c2),m.nv]) zp);have u2:decide ((r:Int)<=8)=false:=zF
 by_cases c3:r=13
 have u3:((r:Int)==13)=true:=by rw[c3]<;>rfl
 refine Zf (zi u (zi u2 (zi u3 Zd))) ?_;exact hK1 _ () trivial (Za (by simp -implicitDefEqProofs only[go_sem,seval,Zd];unfold PM.spots;rw[if_neg c1,if_pos (.inr c3),m.nv]) zp)
 have u3:((r:Int)==13)=false:=by rw[beq_eq_false_iff_ne];omega
 refine Zf (zi u (zi u2 (zi u3 Zd))) ?_;exact hK1 _ () trivial (Za (by simp -implicitDefEqProofs only[go_sem,seval,Zd];unfold PM.spots;rw[if_neg c1,if_neg zo,m.nw]) zp);intro _ _;refine Z ?_
 have hsp:m.p.spots r<=15:=by
  unfold PM.spots;have e1:m.p.vertices.length=m.verts.l.length:=m.nv;have e2:m.p.ways.length=m.ways.l.length:=m.nw;have e3:m.p.regions.length=m.regions.l.length:=rfl
  split<;>(try split)<;>omega
 refine Z9 (m.p.spots r+2) (λj (_:Unit)=>st [(1,.view .new (Zx .old .old m)),(3,Zb .new 2 Zub (Zl (m.p.badL Zba Z2 15))),(5,.int .i64 (m.p.aheadA r j)),(6,.int .u8 r),(7,.int .i64 (m.p.spots r)),(8,.int .i64 ((j:Int)-1))] []) (λ_ _=>True) 0 () (Nat.zero_le _) trivial (Za (by refine Zs ?_;rw[Zlr];try rfl) zp) ?_;intro j _ hj _ L5 hL5
 have w1:IntKind.i64.wrap ((j:Int)-1+1)=(j:Int):=by rw[w64 zo zo];omega
 have w8:IntKind.u8.wrap ((r:Int)+1)=(r:Int)+1:=wu8R zo zo
 by_cases hj1:j<m.p.spots r+2
 rotate_left;have hje:j=m.p.spots r+2:=zo;subst hje;have hlt2:decide (((m.p.spots r+2:Nat):Int)-1<=(m.p.spots r:Int))=false:=zF;rw[Zru m.p hr1]at *;refine Zf (zi hlt2 w8) ?_;exact hL3 _ ⟨hr1,(),trivial,Za zp zp⟩;have hlt2:decide ((j:Int)-1<=(m.p.spots r:Int))=true:=zT;have hkr:=λc d=>hrl c d (r:Int) ((j:Int)-1) zo zo;have e8:(((j+1:Nat):Int)-1)=(j:Int):=zo
 by_cases hno:r<1\/15<r\/j=0\/j=m.p.spots r+1
 have hsk:=m.p.aheadA_skip hno;rw[m.p.ruleW_no hno]at hkr;refine Zf (zi hlt2 Zd) ?_;refine Zc hG ?_ (s:=hkr _ _)
 by_cases a1:r<1
 have u1:decide ((r:Int)<1)=true:=zT;refine Zf (zi u1 w1) ?_;exact hL5 _ ⟨hj1,(),trivial,Za (zpf (zi hsk e8)) zp⟩;have u1:decide ((r:Int)<1)=false:=zF
 by_cases a2:15<r
 have u2:decide ((r:Int)>15)=true:=zT;refine Zf (zi u1 (zi u2 w1)) ?_;exact hL5 _ ⟨hj1,(),trivial,Za (zpf (zi hsk e8)) zp⟩;have u2:decide ((r:Int)>15)=false:=zF
 by_cases a3:j=0
 have u3:decide ((j:Int)-1<0)=true:=zT;refine Zf (zi u1 (zi u2 (zi u3 w1))) ?_;exact hL5 _ ⟨hj1,(),trivial,Za (zpf (zi hsk e8)) zp⟩;have u3:decide ((j:Int)-1<0)=false:=zF
 have u4:(((j:Int)-1)==(m.p.spots r:Int))=true:=by rw[beq_iff_eq];omega
 refine Zf (zi u1 (zi u2 (zi u3 (zi u4 w1)))) ?_;exact hL5 _ ⟨hj1,(),trivial,Za (zpf (zi hsk e8)) zp⟩;obtain⟨a,rfl⟩:∃ a,j=a+1:=⟨j-1,zo⟩;have ha:a<m.p.spots r:=zo;have r1:1<=r:=zo;have r2:r<=15:=zo;have ea:(((a+1:Nat):Int)-1)=(a:Int):=zo;rw[ea]at hkr hlt2 w1⊢;rw[m.p.ruleW_at he r1 r2 ha]at hkr;obtain⟨hA1,hA2⟩:=m.p.aheadA_at r1 r2 ha;have u1:decide ((r:Int)<1)=false:=zF;have u2:decide ((r:Int)>15)=false:=zF;have u3:decide ((a:Int)<0)=false:=zF
 have u4:((a:Int)==(m.p.spots r:Int))=false:=by rw[beq_eq_false_iff_ne];omega
 have htd:=PM.told_eq (m:=m.p) (bd:=Zba) (gd:=Z2) r1 r2 (a:=a) (by rw[<- Zgh r1];exact ha);rw[hA1];have hL6:∀ s',Weak _ s' (st [(1,.view .new (Zx .old .old m)),(3,Zb .new 2 Zub (Zl (m.p.badL Zba Z2 15))),(5,.int .i64 (m.p.aheadA r (a+2))),(6,.int .u8 r),(7,.int .i64 (m.p.spots r)),(8,.int .i64 (((a+2:Nat):Int)-1))] [])->L5 s':=λs' h=>hL5 _ ⟨hj1,(),trivial,h⟩;rw[hA2,e8]at hL6;generalize m.p.ahead Zba Z2 r a=K at htd hL6 hA1 hA2⊢;have hgl := @Zm (Nat×Int) (m.p.badL Zba Z2 15);generalize m.p.badL Zba Z2 15=W at htd hL6 hgl hWl⊢
 rcases htd with ⟨hkp,hat⟩|⟨hkp,hat⟩
 rw[hkp]at hkr hL6;have hlk:=(List.getElem?_eq_some_iff.1 hat).1;have q1:decide ((K:Int)<(W.length:Int))=true:=zT;have q2:((r:Int)==(r:Int))=true:=zS;have q3:((a:Int)==(a:Int))=true:=zS;have wK:IntKind.i64.wrap ((K:Int)+1)=(K:Int)+1:=w64 zo zo;refine Zf (zi hlt2 Zd) ?_;refine Zc hG ?_ (s:=hkr _ _);refine Zf (zi u1 (zi u2 (zi u3 (zi u4 (zi hgl (zi q1 (zi hat (zi hlk (zi q2 (zi q3 (zi w1 (zi wK (zi Zah (zi @Int.natCast_nonneg @Int.ofNat_lt)))))))))))))) ?_;exact hL6 _ (Za (zpf Zd) zp);rw[hkp]at hkr hL6;refine Zf (zi hlt2 Zd) ?_;refine Zc hG ?_ (s:=hkr _ _)
 by_cases hlk:K<W.length
 have hg:=List.getElem?_eq_getElem hlk;have q1:decide ((K:Int)<(W.length:Int))=true:=zT
 have q2:((((W[K]).1:Int)==(r:Int))&&((W[K]).2==(a:Int)&&true))=false:=by
  rw[Bool.and_true];refine Bool.eq_false_iff.2 λh=>hat ?_;simp only[Bool.and_eq_true,beq_iff_eq]at h;rw[hg];exact congrArg some (Prod.ext zo h.2)
 generalize W[K]=p at hg q2;refine Zf (zi u1 (zi u2 (zi u3 (zi u4 (zi hgl (zi q1 (zi hg (zi hlk (zi q2 (zi w1 (zi Zah (zi @Int.natCast_nonneg @Int.ofNat_lt)))))))))))) ?_;exact hL6 _ (Za (zpf Zd) zp);have q1:decide ((K:Int)<(W.length:Int))=false:=zF;refine Zf (zi u1 (zi u2 (zi u3 (zi u4 (zi hgl (zi q1 w1)))))) ?_;exact hL6 _ (Za (zpf Zd) zp)
end Go.Hs
end
