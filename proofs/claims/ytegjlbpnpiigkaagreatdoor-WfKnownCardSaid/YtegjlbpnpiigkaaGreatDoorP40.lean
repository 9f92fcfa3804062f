/- A part. No condition. -/
import Derived.Test.YtegjlbpnpiigkaaGreatDoorP38
import Derived.Test.YtegjlbpnpiigkaaGreatDoorP39
set_option linter.all false
section
namespace Go.Hs
open Go.Proofs
set_option maxHeartbeats 1000000
set_option maxRecDepth 10000
structure MdB(m:MdM):Prop where
 nm:m.name.length<1000000000000000
 var:∀ p∈m.vars.l,p.1.length<1000000000000000
 ev:∀ s∈m.events.l,s.length<1000000000000000
 rg:∀ p∈m.regions.l,p.1.length<1000000000000000
 vt:∀ x∈m.verts.l,x.name.length<1000000000000000/\x.sub.length<1000000000000000/\x.defers.l.length<1000000
 wy:∀ t∈m.ways.l,t.name.length<1000000000000000/\t.triggers.l.length<1000000
 nv:m.vars.l.length<=600
 ne:m.events.l.length<=600
 nr:m.regions.l.length<=600
 nx:m.verts.l.length<=600
 nw:m.ways.l.length<=600
theorem Z5d(G:Nat->V)(hE:GExp G)(s:List UInt8)(hs:s.length<1000000000000000):Spec Tryz.prog G 152 [.str s] Zk (λv _=>v=.bool (Zvc s)):=by
 have hG:=hE.ok;refine Zo 0 10 [.tmp 2] Tryz.func152 λX=>?_;rw[Zvc]
 cases h:(s==[])with
 |true=>exact Zq h
 |false=>
  refine Zf h ?_;refine Zc hG ?_ (s:=Z7f G hE s hs);refine Z ?_;rw[Bool.false_or,show((isP s:Int)==2)=(isP s==2)from by rw[Bool.eq_iff_iff,beq_iff_eq,beq_iff_eq];omega]
theorem Ztj(G:Nat->V)(c d:Col)(m:MdM)(v:Int):Spec Tryz.prog G 153 [Zx c d m,.int .i64 v] Zk (λw _=>w=.bool (m.p.stateB v)):=by
 refine Zo 0 23 [.tmp 4] Tryz.func153 λX=>?_;simp only[Zd];refine Z1 ?_;intro g2;rw[PM.stateB]
 by_cases h0:0<=v
 by_cases h1:v<m.p.vertices.length
 obtain⟨k,x,rfl,hk,hg,hx⟩:=MdM.at h0 h1;rw[hx,decide_eq_true h0,decide_eq_true h1,Bool.true_and,Bool.true_and];have q0:decide ((k:Int)>=0)=true:=zT;have q1:decide ((k:Int)<(m.verts.l.length:Int))=true:=zT;refine Zf (zi hg (zi hk (zi Zp (zi @Int.natCast_nonneg (zi @Int.ofNat_lt (zi q0 q1)))))) ?_;rfl;have q0:decide (v>=0)=true:=zT;have q1:decide (v<(m.verts.l.length:Int))=false:=decide_eq_false (by rw[<- m.nv];exact h1);rw[decide_eq_false h1,Bool.and_false,Bool.false_and];exact Zq (zi q0 q1);have q0:decide (v>=0)=false:=zF;rw[decide_eq_false h0,Bool.false_and,Bool.false_and];exact Zq q0
theorem Zls{ev l:List (List UInt8)}:evB ev l=true↔∀ i s,l[i]?=some s->ev.contains s=true/\(l.take i).contains s=false:=by
 rw[evB,List.all_eq_true]
 constructor
 intro h i s hs;have hi:i<l.length:=(List.getElem?_eq_some_iff.1 hs).1;have:=h i (List.mem_range.2 hi);rw[List.getD_eq_getElem?_getD,hs]at this;simpa using this;intro h i hi;have hi:=List.mem_range.1 hi;obtain⟨a,b⟩:=h i _ (List.getElem?_eq_getElem hi);rw[List.getD_eq_getElem?_getD,List.getElem?_eq_getElem hi]
 show(ev.contains l[i] && !(l.take i).contains l[i])=true
 rw[a,b]<;>rfl
theorem Z9i{α : Type}(s:Sl α)(k:Nat):(s.sub 0 k).l=s.l.take k:=by
 cases s with
 |nil=>simp[Sl.sub,Sl.l]
 |mk b l=>simp[Sl.sub,Sl.l]
theorem Zvh(G:Nat->V)(hG:GOk G)(c d c1:Col)(m:MdM)(l:Sl (List UInt8))(he:m.events.l.length<1000000)(hl:l.l.length<1000000):
  Spec Tryz.prog G 157 [Zx c d m,Zb c1 1 V.str l] Zk (λw _=>w=.bool (evB m.events.l l.l)):=by
 refine Zo 0 27 [.tmp 4] Tryz.func157 λX=>?_;simp only[Zd];refine Z ?_;intro g2;refine AW.weak (Zt (λo=>o==2) (l:=[(1,Zb c1 1 V.str l),(2,.view .new (Zx c d m)),(4,.bool false)]) (m:=[]) ?_ trivial) ?_;refine Zs ?_;exact⟨Fz.same _,Fz.ptr (v:=Zx c d m) (c:=.new) (fz:=0) zp zp,Fz.same _⟩;simp only[Zd];refine Z ?_
 refine Z9 l.l.length (λk (_:Unit)=>st [(1,Zb c1 1 V.str l),(2,.view .new (Zx c d m)),(7,Zb c1 1 V.str l),(8,.int .i64 l.l.length),(9,.int .i64 k)] [])
  (λk _=>∀ i s,i<k->l.l[i]?=some s->m.events.l.contains s=true/\(l.l.take i).contains s=false) 0 () (Nat.zero_le _) (λi s h=>absurd h (Nat.not_lt_zero _)) (Za (zpf Zd) zp) ?_
 intro k _ hk hR L3 hL3
 by_cases hk1:k<l.l.length
 .have hlt:decide ((k:Int)<(l.l.length:Int))=true:=zT
  have hg:=List.getElem?_eq_getElem hk1;generalize l.l[k]=x at hg;have w1:IntKind.i64.wrap ((k:Int)+1)=(k:Int)+1:=w64 zo zo;refine Zf (zi hlt (zi hg Zd)) ?_;refine Zc hG ?_ (s:=Zcd G hG _ x m.events he)
  cases h1:m.events.l.contains x with
  |false=>
   refine Zs ?_;refine Z ?_
   have:evB m.events.l l.l=false:=by
    rw[Bool.eq_false_iff];intro h;have:=(Zls.1 h k x hg).1;rw[h1]at this;cases this
   rw[this]
  |true=>
   refine Zs ?_;refine Zsf (zi (Nat.zero_le k) (Nat.le_of_lt hk1)) ?_;have hSp:=Zcd G hG c1.ent x (l.sub 0 k) (by rw[Z9i];simp;omega);rw[Z9i]at hSp;refine Zc hG ?_ (s:=hSp)
   cases h2:(l.l.take k).contains x with
   |true=>
    refine Z ?_
    have:evB m.events.l l.l=false:=by
     rw[Bool.eq_false_iff];intro h;have:=(Zls.1 h k x hg).2;rw[h2]at this;cases this
    rw[this]
   |false=>
    refine Zf w1 ?_;refine hL3 _ ⟨hk1,(),λi s hi hs=>?_,Za (zpf Zd) zp⟩
    by_cases h3:i=k
    subst h3;rw[hg]at hs;obtain rfl:=Option.some.inj hs;exact⟨h1,h2⟩;exact hR i s zo hs
 have hke:k=l.l.length:=zo;subst hke;have hlt:decide ((l.l.length:Int)<(l.l.length:Int))=false:=zS;refine Zf hlt ?_;rw[Zls.2 λi s hs=>hR i s (List.getElem?_eq_some_iff.1 hs).1 hs]
theorem Zsba(G:Nat->V)(hG:GOk G)(c d e:Col)(m:MdM)(x:VtM):Spec Tryz.prog G 156 [Zx c d m,Zha e x] Zk (λw _=>w=.bool (m.p.liesB x.p)):=by
 refine Zo 0 38 [.tmp 4] Tryz.func156 λX=>?_;simp only[Zd,Zp];refine Z ?_;intro g2 g3;rw[PM.liesB]
 cases h10:(x.kind==10)with
 |true=>
  have e1:x.kind=10:=zu h10;rw[if_pos (show x.p.kind=10\/x.p.kind=11 from .inl e1)]
  show AW _ _ _ (Zln _ _ λw _=>w=.bool ((x.region == -1)&&m.p.stateB x.of)) _
  cases h2:(x.region == -1)with
  |false=>exact Zq (zi h10 (zi Zp h2))
  |true=>
   refine Zf (zi h10 (zi Zp h2)) ?_;refine Zc hG ?_ (s:=Ztj G c.ent d.ent m x.of);refine Z ?_;rw[Bool.true_and]
 |false=>
  have e1:¬ x.kind=10:=zu h10
  cases h11:(x.kind==11)with
  |true=>
   have e2:x.kind=11:=zu h11;rw[if_pos (show x.p.kind=10\/x.p.kind=11 from .inr e2)]
   show AW _ _ _ (Zln _ _ λw _=>w=.bool ((x.region == -1)&&m.p.stateB x.of)) _
   cases h2:(x.region == -1)with
   |false=>exact Zq (zi (zi h10 h11) (zi Zp h2))
   |true=>
    refine Zf (zi (zi h10 h11) (zi Zp h2)) ?_;refine Zc hG ?_ (s:=Ztj G c.ent d.ent m x.of);refine Z ?_;rw[Bool.true_and]
  |false=>
   have e2:¬ x.kind=11:=zu h11;rw[if_neg (show ¬ (x.p.kind=10\/x.p.kind=11)from λh=>h.elim e1 e2)]
   show AW _ _ _ (Zln _ _ λw _=>w=.bool ((x.of == -1)&&decide (0<=x.region)&&decide (x.region<m.regions.l.length))) _
   have f:=zi h10 (zi h11 Zp)
   cases h2:(x.of == -1)with
   |false=>exact Zq (zi f h2)
   |true=>
    by_cases h3:0<=x.region
    have q:decide (x.region>=0)=true:=zT;rw[decide_eq_true h3];exact Zq (zi f (zi h2 q));have q:decide (x.region>=0)=false:=zF;rw[decide_eq_false h3];exact Zq (zi f (zi h2 q))
theorem Zo2(G:Nat->V)(hG:GOk G)(c d:Col)(m:MdM)(hm:m.p.Rt5)(v:Int)(h0:0<=v)(h1:v<m.p.vertices.length):
  Spec Tryz.prog G 159 [Zx c d m,.int .i64 v] Zk (λw _=>w=.int .i64 (m.p.depth v)):=by
 refine Zo 0 21 [.tmp 4] Tryz.func159 λX=>?_;simp only[Zd];refine Z ?_;intro g2;refine AW.weak (Zt (λo=>o==2) (l:=[(1,.int .i64 v),(2,.view .new (Zx c d m))]) (m:=[]) ?_ trivial) ?_;refine Zs ?_;exact⟨Fz.same _,Fz.ptr (v:=Zx c d m) (c:=.new) (fz:=0) zp zp⟩;simp only[Zd];refine Z ?_;refine Zc hG ?_ (s:=Z1m G hG c.ent d.ent m hm v h0 h1);refine Z ?_
 refine Zpb (fun(y:Nat×Int)=>st [(1,.int .i64 (m.p.around y.2)),(2,.view .new (Zx c d m)),(5,.int .i64 y.1)] [])
  (λy=>y.1<=65/\0<=y.2/\y.2<m.p.vertices.length/\m.p.depth v=y.1+(m.p.upsF (65-y.1) y.2).length) (λy=>65-y.1) (0,v) ⟨Nat.zero_le _,h0,h1,by rw[Nat.zero_add]<;>rfl⟩ (Za (zpf Zd) zp) ?_
 rintro⟨n,w⟩ ⟨hn,w0,w1,hd⟩ L7 hL7;simp only at hn w0 w1 hd
 by_cases ha:0<=m.p.around w
 have q0:decide (m.p.around w>=0)=true:=zT
 by_cases hn2:n<=64
 have q1:decide ((n:Int)<=64)=true:=zT;have e1:IntKind.i64.wrap ((n:Int)+1)=(n:Int)+1:=w64 zo zo
 have ha1:m.p.around w<m.p.vertices.length:=by
  rcases hm.rng w0 w1 with q|q
  omega;exact q.2
 refine Zf (zi q0 (zi q1 (zi e1 Zd))) ?_;refine Zc hG ?_ (s:=Z1m G hG c.ent d.ent m hm (m.p.around w) ha ha1);refine Z ?_;refine hL7 _ ⟨(n+1,m.p.around w),by show 65-(n+1)<65-n;omega,⟨by show n+1<=65;omega,ha,ha1,?_⟩,Za (zpf Zd) zp⟩
 show m.p.depth v=n+1+(m.p.upsF (65-(n+1)) (m.p.around w)).length
 rw[hd,show 65-n=(65-(n+1))+1 by omega,PM.upsF,if_neg zo,List.length_cons];omega;have q1:decide ((n:Int)<=64)=false:=zF;refine Zf (zi q0 q1) ?_
 rw[hd,show 65-n=0 by omega]<;>rfl
 have q0:decide (m.p.around w>=0)=false:=zF;refine Zf q0 ?_
 have:m.p.upsF (65-n) w=[]:=by
  cases h:65-n with
  |zero=>rfl
  |succ f=>rw[PM.upsF,if_pos zo]
 rw[hd,this]<;>rfl
def Z22(c d e:Col)(m:MdM)(ns vs:Sl (List UInt8)):V:=.agg [.str m.name,Zb c 2 Z3 m.vars,Zb c 1 V.str m.events,Zb c 2 Z3 m.regions,Zb c 8 (Zha d) m.verts,Zb c 8 (Zqa d) m.ways,Zb e 1 V.str ns,Zb e 1 V.str vs]
theorem Zfja(c d e:Col)(m:MdM)(ns vs:Sl (List UInt8)):Z22 c d e m ns vs=.agg [.str m.name,Zb c 2 Z3 m.vars,Zb c 1 V.str m.events,Zb c 2 Z3 m.regions,Zb c 8 (Zha d) m.verts,Zb c 8 (Zqa d) m.ways,Zb e 1 V.str ns,Zb e 1 V.str vs]:=rfl
theorem Zpma(g:Col->Col)(c d e:Col)(m:MdM)(ns vs:Sl (List UInt8)):(Z22 c d e m ns vs).recol g=Z22 (g c) (g d) (g e) m ns vs:=by simp only[Zfja,Zdc,List.map_cons,List.map_nil,Zoc,Zgb,Zef,Zhk,Zik]
def ckV(b c d e:Col)(m:MdM)(ns vs:Sl (List UInt8)):V:=.view b (Z22 c d e m ns vs)
theorem Z1b(b c d e:Col)(m:MdM)(ns vs:Sl (List UInt8)):ckV b c d e m ns vs=.view b (.agg [.str m.name,Zb c 2 Z3 m.vars,Zb c 1 V.str m.events,Zb c 2 Z3 m.regions,Zb c 8 (Zha d) m.verts,Zb c 8 (Zqa d) m.ways,Zb e 1 V.str ns,Zb e 1 V.str vs]):=rfl
@[go_sem] theorem Zth(g:Col->Col)(b c d e:Col)(m:MdM)(ns vs:Sl (List UInt8)):(ckV b c d e m ns vs).recol g=ckV (g b) (g c) (g d) (g e) m ns vs:=by
 show(V.view b (Z22 c d e m ns vs)).recol g=_
 simp only[V.recol,Zpma];rfl
theorem vrIm(p:List UInt8×Int):∀ y∈(Z3 p).cells,y.Im:=λy hy=>by
 simp only[Z2a,V.cells,List.mem_cons,List.not_mem_nil,or_false]at hy
 rcases hy with rfl|rfl<;>first|exact .int _ _|exact .str _
theorem stIm(s:List UInt8):∀ y∈(V.str s).cells,y.Im:=λy hy=>by
 simp only[V.cells,List.mem_cons,List.not_mem_nil,or_false]at hy;rw[hy];exact .str _
theorem vtIm(c:Col)(x:VtM):∀ y∈(Zha c x).cells,y.Im:=λy hy=>by
 simp only[Zp,V.cells,List.mem_cons,List.not_mem_nil,or_false]at hy
 rcases hy with rfl|rfl|rfl|rfl|rfl|rfl|rfl|rfl<;>first|exact .int _ _|exact .str _|exact Z3c stIm _
theorem trIm(c:Col)(x:TrM):∀ y∈(Zqa c x).cells,y.Im:=λy hy=>by
 simp only[Z7,V.cells,List.mem_cons,List.not_mem_nil,or_false]at hy
 rcases hy with rfl|rfl|rfl|rfl|rfl|rfl|rfl|rfl<;>first|exact .int _ _|exact .str _|exact Z3c stIm _
theorem Zcu(b c d e:Col)(m:MdM)(ns vs:Sl (List UInt8)):(ckV b c d e m ns vs).Im:=.view _ _ λy hy=>by
 simp only[Zfja,V.cells,List.mem_cons,List.not_mem_nil,or_false]at hy
 rcases hy with rfl|rfl|rfl|rfl|rfl|rfl|rfl|rfl
 exact .str _;exact Z3c vrIm _;exact Z3c stIm _;exact Z3c vrIm _;exact Z3c (vtIm d) _;exact Z3c (trIm d) _;exact Z3c stIm _;exact Z3c stIm _
theorem Z1c(G:Nat->V)(hG:GOk G)(b c d e:Col)(m:MdM)(ns vs:Sl (List UInt8))(hm:m.p.Rt5)(v:Int)(h0:0<=v)(h1:v<m.p.vertices.length):
  Spec Tryz.prog G 125 [ckV b c d e m ns vs,.int .i64 v] Zk (λw _=>w=.int .i64 (m.p.around v)):=by
 refine Zo 0 36 [.tmp 4] Tryz.func125 λX=>?_;have hpt:=hm.pt h0 h1;obtain⟨k,x,rfl,hk,hg,hx⟩:=MdM.at h0 h1;rw[PM.around];rw[hx]at hpt⊢;simp only[Z1b];have f:=zi hg (zi hk (zi Zp (zi @Int.natCast_nonneg @Int.ofNat_lt)));refine Zf f ?_;intro g5
 by_cases ho:0<=x.of
 have q:decide (x.of>=0)=true:=zT;refine Zf (zi f q) ?_
 rw[if_pos (show 0<=x.p.of from ho)]<;>rfl
 have q:decide (x.of>=0)=false:=zF;obtain⟨_,r0,r1,_⟩:=hpt.resolve_left (λh=>ho h.1);obtain⟨r,y,hr,hrk,hrg,hy⟩:=Zbo r0 r1;rw[if_neg (show ¬ 0<=x.p.of from ho),hy];have hr:x.region=(r:Int):=hr;refine Zf q ?_;refine ZTf (zi f (zi hr (zi hrg (zi hrk Z2a)))) hG ?_;exact Zr
theorem Z6k(G:Nat->V)(hG:GOk G)(b c d e:Col)(m:MdM)(ns vs:Sl (List UInt8))(hm:m.p.Rt)(v s:Int)(h0:0<=v)(h1:v<m.p.vertices.length):
  Spec Tryz.prog G 69 [ckV b c d e m ns vs,.int .i64 v,.int .i64 s] Zk (λw _=>w=.bool (m.p.inB v s)):=by
 refine Zo 0 18 [.tmp 6] Tryz.func69 λX=>?_;refine Z ?_;refine Zc hG ?_ (s:=Z1c G hG _ _ _ _ m ns vs hm.toRt5 v h0 h1);refine Z ?_;refine Zpb (fun(w:Int)=>st [(0,ckV b c d e m ns vs),(1,.int .i64 (m.p.around w)),(2,.int .i64 s)] []) (λw=>0<=w/\w<m.p.vertices.length/\m.p.inB v s=m.p.inB w s) (λw=>(m.p.ups w).length) v ⟨h0,h1,rfl⟩ (Za zp zp) ?_;rintro w ⟨w0,w1,hw⟩ L7 hL7
 by_cases ha:0<=m.p.around w
 have q0:decide (m.p.around w>=0)=true:=zT
 have ha1:m.p.around w<m.p.vertices.length:=by
  rcases hm.acy.rng w w0 w1 with q|q
  omega;exact q.2
 have hlen:=congrArg List.length (hm.acy.ups_cons w0 w1 ha);rw[List.length_cons]at hlen;have hin:=hm.acy.inB_up (s:=s) w0 w1 ha;cases q1:(m.p.around w==s);rw[q1,Bool.false_or]at hin;refine Zf (zi q0 q1) ?_;refine Zc hG ?_ (s:=Z1c G hG _ _ _ _ m ns vs hm.toRt5 (m.p.around w) ha ha1);refine Z ?_;exact hL7 _ ⟨m.p.around w,zo,⟨ha,ha1,by rw[hw,hin]⟩,Za zp zp⟩;rw[q1,Bool.true_or]at hin;rw[hw,hin];exact Zq (zi q0 q1);have q0:decide (m.p.around w>=0)=false:=zF;rw[hw,PM.inB_nil zo];exact Zq q0
theorem Z6m(G:Nat->V)(hG:GOk G)(b c d e:Col)(m:MdM)(ns vs:Sl (List UInt8))(hm:m.p.Rt)(v s:Int)(h0:0<=v)(h1:v<m.p.vertices.length)(hs:0<=s):
  Spec Tryz.prog G 170 [ckV b c d e m ns vs,.int .i64 v,.int .i64 s] Zk (λw _=>w=.int .i64 (m.p.regU v s)):=by
 refine Zo 0 30 [.tmp 6] Tryz.func170 λX=>?_;refine Z ?_;refine Zpb (fun(w:Int)=>st [(0,ckV b c d e m ns vs),(1,.int .i64 w),(2,.int .i64 s)] []) (λw=>(w = -1/\m.p.regU v s = -1)\/(0<=w/\w<m.p.vertices.length/\m.p.regU v s=m.p.regU w s)) (λw=>if w<0 then 0 else(m.p.ups w).length+1) v (.inr ⟨h0,h1,rfl⟩) (Za zp zp) ?_;rintro w hw L7 hL7
 rcases hw with ⟨rfl,hw⟩|⟨w0,w1,hw⟩
 rw[hw];exact Zr;have q0:decide (w>=0)=true:=zT;refine Zf q0 ?_;refine Zc hG ?_ (s:=Z1c G hG _ _ _ _ m ns vs hm.toRt5 w w0 w1)
 by_cases hq:m.p.around w=s
 rw[hw,PM.Acy.regU_at hq];obtain⟨k,x,hwk,hk,hg,hx⟩:=MdM.at w0 w1;rw[hx];subst hwk
 have q1:(m.p.around (k:Int) != s)=false:=by simp[hq]
 have q2:decide ((k:Int)<0)=false:=zF;exact Zh (zi q1 (zi q2 (zi hg (zi hk (zi Zp (zi Z1b (zi @Int.natCast_nonneg @Int.ofNat_lt)))))));have q1:(m.p.around w != s)=true:=zu hq;refine Zg q1 ?_;refine Zc hG ?_ (s:=Z1c G hG _ _ _ _ m ns vs hm.toRt5 w w0 w1);refine Z ?_
 by_cases ha:0<=m.p.around w
 have ha1:m.p.around w<m.p.vertices.length:=by
  rcases hm.acy.rng w w0 w1 with q|q
  omega;exact q.2
 have hlen:=congrArg List.length (hm.acy.ups_cons w0 w1 ha);rw[List.length_cons]at hlen;refine hL7 _ ⟨m.p.around w,by simp only[if_neg (show ¬ m.p.around w<0 by omega),if_neg (show ¬ w<0 by omega)];omega,.inr ⟨ha,ha1,by rw[hw,hm.acy.regU_up w0 w1 ha hq]⟩,Za zp zp⟩
 have ha2:m.p.around w = -1:=by
  rcases hm.acy.rng w w0 w1 with q|q
  exact q;omega
 rw[ha2];refine hL7 _ ⟨-1,by simp only[if_neg (show ¬ w<0 by omega)];exact Nat.succ_pos _,.inl ⟨rfl,by rw[hw,PM.regU_nil zo hs]⟩,Za zp zp⟩
theorem Z5m(G:Nat->V)(hG:GOk G)(b c d e:Col)(m:MdM)(ns vs:Sl (List UInt8))(hm:m.p.Rt)(v r:Int)(h0:0<=v)(h1:v<m.p.vertices.length):
  Spec Tryz.prog G 165 [ckV b c d e m ns vs,.int .i64 v,.int .i64 r] Zk (λw _=>w=.bool (m.p.withinB v r)):=by
 refine Zo 0 27 [.tmp 6] Tryz.func165 λX=>?_;refine Z ?_;refine Zpb (fun(w:Int)=>st [(0,ckV b c d e m ns vs),(1,.int .i64 w),(2,.int .i64 r)] []) (λw=>(w = -1/\m.p.withinB v r=false)\/(0<=w/\w<m.p.vertices.length/\m.p.withinB v r=m.p.withinB w r)) (λw=>if w<0 then 0 else(m.p.ups w).length+1) v (.inr ⟨h0,h1,rfl⟩) (Za zp zp) ?_;rintro w hw L7 hL7
 rcases hw with ⟨rfl,hw⟩|⟨w0,w1,hw⟩
 rw[hw];exact Zr;have q0:decide (w>=0)=true:=zT;obtain⟨k,x,hwk,hk,hg,hx⟩:=MdM.at w0 w1
 by_cases hq:x.region=r
 have q1:(x.region != r)=false:=by simp[hq]
 have hy:m.p.withinB w r=true:=by
  rw[PM.withinB,List.any_cons,hx,show(x.p.region==r)=true from beq_iff_eq.2 hq,Bool.true_or]
 rw[hw,hy];subst hwk;have q3:decide ((k:Int)>=0)=true:=zT;exact Zq (zi q3 (zi q1 (zi hg (zi hk (zi Zp (zi Z1b (zi @Int.natCast_nonneg @Int.ofNat_lt)))))));have q1:(x.region != r)=true:=zu hq
 have hz:((m.p.vx w).region==r)=false:=by rw[hx];exact beq_eq_false_iff_ne.2 hq
 subst hwk;have q3:decide ((k:Int)>=0)=true:=zT;refine Zf (zi q3 (zi q1 (zi hg (zi hk (zi Zp (zi Z1b (zi @Int.natCast_nonneg @Int.ofNat_lt))))))) ?_;refine Zc hG ?_ (s:=Z1c G hG _ _ _ _ m ns vs hm.toRt5 k w0 w1);refine Z ?_
 by_cases ha:0<=m.p.around k
 have w1':=w1
 have ha1:m.p.around k<m.p.vertices.length:=by
  rcases hm.acy.rng k w0 w1 with q|q
  omega;exact q.2
 have hlen:=congrArg List.length (hm.acy.ups_cons w0 w1 ha);rw[List.length_cons]at hlen;refine hL7 _ ⟨m.p.around k,by simp only[if_neg (show ¬ m.p.around k<0 by omega),if_neg (show ¬ (k:Int)<0 by omega)];omega,.inr ⟨ha,ha1,by rw[hw,hm.acy.withinB_up w0 w1 ha,hz,Bool.false_or]⟩,Za zp zp⟩
 have ha2:m.p.around k = -1:=by
  rcases hm.acy.rng k w0 w1 with q|q
  exact q;omega
 rw[ha2];refine hL7 _ ⟨-1,by simp only[if_neg (show ¬ (k:Int)<0 by omega)];exact Nat.succ_pos _,.inl ⟨rfl,by rw[hw,PM.withinB_nil zo,hz]⟩,Za zp zp⟩
def Zqf(r:Nat×Int×Int):V:=.agg [.int .u8 r.1,.int .i64 r.2.1,.int .i64 r.2.2]
structure FnW{α : Type}(G:Nat->V)(f:FuncId)(cap:List V)(enc : α -> V)(l:List α)(p:Nat->Bool):Prop where
 en:Zia Tryz.prog f=true
 rc:cap.map (V.recol Col.ent)=cap
 sp:∀ (i:Nat) (x : α),l[i]?=some x->Spec Tryz.prog G f (.int .i64 i::enc x::cap) Zk (λv _=>v=.bool (p i))
theorem Zyu(G:Nat->V)(hG:GOk G)(c:Col)(part most:Nat)(s:Sl (List UInt8×Int))(hs:s.l.length<1000000){f:FuncId}{cap:List V}{p:Nat->Bool}(hf:FnW G f cap Z3 s.l p):
  Spec Tryz.prog G 143 [.int .u8 part,Zb c 2 Z3 s,.int .i64 most,.func (.func f) [] cap] Zk (λv _=>v=Zqf (Zwb part most p s.l.length)):=by
  refine Zo 0 36 [.cell 8 140] Tryz.func143 λX=>?_;refine Z ?_;intro g8;refine Z ?_
  refine Z9 s.l.length (λk (_:Unit)=>st [(0,.int .u8 part),(1,Zb c 2 Z3 s),(2,.int .i64 most),(3,.func (.func f) [] cap),(8,.ptr 8 g8 0),(11,Zb c 2 Z3 s),(12,.int .i64 s.l.length),(13,.int .i64 k)] [(8,.cells .new g8 0 [.int .u8 0,.int .i64 0,.int .i64 0])])
   (λk _=>∀ i,i<k->i≠most/\p i=true) 0 () (Nat.zero_le _) (λi h=>absurd h (Nat.not_lt_zero _)) (Za zp zp) ?_
  intro k _ hk hR L3 hL3
  by_cases hk1:k<s.l.length
  have hlt:decide ((k:Int)<(s.l.length:Int))=true:=zT;have hg:=List.getElem?_eq_getElem hk1;generalize s.l[k]=x at hg;have w1:IntKind.i64.wrap ((k:Int)+1)=(k:Int)+1:=w64 zo zo;refine Zf (zi hlt (zi hg Z2a)) ?_;intro g10
  by_cases hm:k=most
  have q:((k:Int)==(most:Int))=true:=by simp[hm]
  rw[Z2b hk1 hR (.inl hm),if_pos hm,hm];exact Zh q
  .have q:((k:Int)==(most:Int))=false:=by
    have:¬ (k:Int)=(most:Int):=zo;simpa using this
   refine Zg q ?_;refine Zcf hf.rc hG ?_ (e:=hf.en) (s:=hf.sp k x hg)
   cases hp:p k with
   |false=>
    rw[Z2b hk1 hR (.inr hp),if_neg hm];exact Zr
   |true=>
    refine Zf w1 ?_;refine hL3 _ ⟨hk1,(),λi hi=>?_,Za zp zp⟩
    by_cases h3:i=k
    rw[h3];exact⟨hm,hp⟩;exact hR i zo
  have hke:k=s.l.length:=zo;subst hke;have hlt:decide ((s.l.length:Int)<(s.l.length:Int))=false:=zS;rw[Z0e hR];exact Zq hlt
theorem Z0u(G:Nat->V)(hG:GOk G)(c:Col)(part most:Nat)(s:Sl (List UInt8))(hs:s.l.length<1000000){f:FuncId}{cap:List V}{p:Nat->Bool}(hf:FnW G f cap V.str s.l p):
  Spec Tryz.prog G 147 [.int .u8 part,Zb c 1 V.str s,.int .i64 most,.func (.func f) [] cap] Zk (λv _=>v=Zqf (Zwb part most p s.l.length)):=by
  refine Zo 0 36 [.cell 8 140] Tryz.func147 λX=>?_;refine Z ?_;intro g8;refine Z ?_
  refine Z9 s.l.length (λk (_:Unit)=>st [(0,.int .u8 part),(1,Zb c 1 V.str s),(2,.int .i64 most),(3,.func (.func f) [] cap),(8,.ptr 8 g8 0),(11,Zb c 1 V.str s),(12,.int .i64 s.l.length),(13,.int .i64 k)] [(8,.cells .new g8 0 [.int .u8 0,.int .i64 0,.int .i64 0])])
   (λk _=>∀ i,i<k->i≠most/\p i=true) 0 () (Nat.zero_le _) (λi h=>absurd h (Nat.not_lt_zero _)) (Za zp zp) ?_
  intro k _ hk hR L3 hL3
  by_cases hk1:k<s.l.length
  have hlt:decide ((k:Int)<(s.l.length:Int))=true:=zT;have hg:=List.getElem?_eq_getElem hk1;generalize s.l[k]=x at hg;have w1:IntKind.i64.wrap ((k:Int)+1)=(k:Int)+1:=w64 zo zo;refine Zf (zi hlt (zi hg hg)) ?_
  skip
  by_cases hm:k=most
  have q:((k:Int)==(most:Int))=true:=by simp[hm]
  rw[Z2b hk1 hR (.inl hm),if_pos hm,hm];exact Zh q
  .have q:((k:Int)==(most:Int))=false:=by
    have:¬ (k:Int)=(most:Int):=zo;simpa using this
   refine Zg q ?_;refine Zcf hf.rc hG ?_ (e:=hf.en) (s:=hf.sp k x hg)
   cases hp:p k with
   |false=>
    rw[Z2b hk1 hR (.inr hp),if_neg hm];exact Zr
   |true=>
    refine Zf w1 ?_;refine hL3 _ ⟨hk1,(),λi hi=>?_,Za zp zp⟩
    by_cases h3:i=k
    rw[h3];exact⟨hm,hp⟩;exact hR i zo
  have hke:k=s.l.length:=zo;subst hke;have hlt:decide ((s.l.length:Int)<(s.l.length:Int))=false:=zS;rw[Z0e hR];exact Zq hlt
theorem Z1u(G:Nat->V)(hG:GOk G)(c:Col)(part most:Nat)(s:Sl (List UInt8×Int))(hs:s.l.length<1000000){f:FuncId}{cap:List V}{p:Nat->Bool}(hf:FnW G f cap Z3 s.l p):
  Spec Tryz.prog G 150 [.int .u8 part,Zb c 2 Z3 s,.int .i64 most,.func (.func f) [] cap] Zk (λv _=>v=Zqf (Zwb part most p s.l.length)):=by
  refine Zo 0 36 [.cell 8 140] Tryz.func150 λX=>?_;refine Z ?_;intro g8;refine Z ?_
  refine Z9 s.l.length (λk (_:Unit)=>st [(0,.int .u8 part),(1,Zb c 2 Z3 s),(2,.int .i64 most),(3,.func (.func f) [] cap),(8,.ptr 8 g8 0),(11,Zb c 2 Z3 s),(12,.int .i64 s.l.length),(13,.int .i64 k)] [(8,.cells .new g8 0 [.int .u8 0,.int .i64 0,.int .i64 0])])
   (λk _=>∀ i,i<k->i≠most/\p i=true) 0 () (Nat.zero_le _) (λi h=>absurd h (Nat.not_lt_zero _)) (Za zp zp) ?_
  intro k _ hk hR L3 hL3
  by_cases hk1:k<s.l.length
  have hlt:decide ((k:Int)<(s.l.length:Int))=true:=zT;have hg:=List.getElem?_eq_getElem hk1;generalize s.l[k]=x at hg;have w1:IntKind.i64.wrap ((k:Int)+1)=(k:Int)+1:=w64 zo zo;refine Zf (zi hlt (zi hg Z2a)) ?_;intro g10
  by_cases hm:k=most
  have q:((k:Int)==(most:Int))=true:=by simp[hm]
  rw[Z2b hk1 hR (.inl hm),if_pos hm,hm];exact Zh q
  .have q:((k:Int)==(most:Int))=false:=by
    have:¬ (k:Int)=(most:Int):=zo;simpa using this
   refine Zg q ?_;refine Zcf hf.rc hG ?_ (e:=hf.en) (s:=hf.sp k x hg)
   cases hp:p k with
   |false=>
    rw[Z2b hk1 hR (.inr hp),if_neg hm];exact Zr
   |true=>
    refine Zf w1 ?_;refine hL3 _ ⟨hk1,(),λi hi=>?_,Za zp zp⟩
    by_cases h3:i=k
    rw[h3];exact⟨hm,hp⟩;exact hR i zo
  have hke:k=s.l.length:=zo;subst hke;have hlt:decide ((s.l.length:Int)<(s.l.length:Int))=false:=zS;rw[Z0e hR];exact Zq hlt
theorem Znm(G:Nat->V)(hG:GOk G)(c d:Col)(part most:Nat)(s:Sl VtM)(hs:s.l.length<1000000){f:FuncId}{cap:List V}{p:Nat->Bool}(hf:FnW G f cap (Zha d.ent) s.l p):
  Spec Tryz.prog G 154 [.int .u8 part,Zb c 8 (Zha d) s,.int .i64 most,.func (.func f) [] cap] Zk (λv _=>v=Zqf (Zwb part most p s.l.length)):=by
  refine Zo 0 36 [.cell 8 140] Tryz.func154 λX=>?_;refine Z ?_;intro g8;refine Z ?_
  refine Z9 s.l.length (λk (_:Unit)=>st [(0,.int .u8 part),(1,Zb c 8 (Zha d) s),(2,.int .i64 most),(3,.func (.func f) [] cap),(8,.ptr 8 g8 0),(11,Zb c 8 (Zha d) s),(12,.int .i64 s.l.length),(13,.int .i64 k)] [(8,.cells .new g8 0 [.int .u8 0,.int .i64 0,.int .i64 0])])
   (λk _=>∀ i,i<k->i≠most/\p i=true) 0 () (Nat.zero_le _) (λi h=>absurd h (Nat.not_lt_zero _)) (Za zp zp) ?_
  intro k _ hk hR L3 hL3
  by_cases hk1:k<s.l.length
  have hlt:decide ((k:Int)<(s.l.length:Int))=true:=zT;have hg:=List.getElem?_eq_getElem hk1;generalize s.l[k]=x at hg;have w1:IntKind.i64.wrap ((k:Int)+1)=(k:Int)+1:=w64 zo zo;refine Zf (zi hlt (zi hg Zp)) ?_;intro g10
  by_cases hm:k=most
  have q:((k:Int)==(most:Int))=true:=by simp[hm]
  rw[Z2b hk1 hR (.inl hm),if_pos hm,hm];exact Zh q
  .have q:((k:Int)==(most:Int))=false:=by
    have:¬ (k:Int)=(most:Int):=zo;simpa using this
   refine Zg q ?_;refine Zcf hf.rc hG ?_ (e:=hf.en) (s:=hf.sp k x hg)
   cases hp:p k with
   |false=>
    rw[Z2b hk1 hR (.inr hp),if_neg hm];exact Zr
   |true=>
    refine Zf w1 ?_;refine hL3 _ ⟨hk1,(),λi hi=>?_,Za zp zp⟩
    by_cases h3:i=k
    rw[h3];exact⟨hm,hp⟩;exact hR i zo
  have hke:k=s.l.length:=zo;subst hke;have hlt:decide ((s.l.length:Int)<(s.l.length:Int))=false:=zS;rw[Z0e hR];exact Zq hlt
theorem Zzu(G:Nat->V)(hG:GOk G)(c d:Col)(part most:Nat)(s:Sl TrM)(hs:s.l.length<1000000){f:FuncId}{cap:List V}{p:Nat->Bool}(hf:FnW G f cap (Zqa d.ent) s.l p):
  Spec Tryz.prog G 161 [.int .u8 part,Zb c 8 (Zqa d) s,.int .i64 most,.func (.func f) [] cap] Zk (λv _=>v=Zqf (Zwb part most p s.l.length)):=by
  refine Zo 0 36 [.cell 8 140] Tryz.func161 λX=>?_;refine Z ?_;intro g8;refine Z ?_
  refine Z9 s.l.length (λk (_:Unit)=>st [(0,.int .u8 part),(1,Zb c 8 (Zqa d) s),(2,.int .i64 most),(3,.func (.func f) [] cap),(8,.ptr 8 g8 0),(11,Zb c 8 (Zqa d) s),(12,.int .i64 s.l.length),(13,.int .i64 k)] [(8,.cells .new g8 0 [.int .u8 0,.int .i64 0,.int .i64 0])])
   (λk _=>∀ i,i<k->i≠most/\p i=true) 0 () (Nat.zero_le _) (λi h=>absurd h (Nat.not_lt_zero _)) (Za zp zp) ?_
  intro k _ hk hR L3 hL3
  by_cases hk1:k<s.l.length
  have hlt:decide ((k:Int)<(s.l.length:Int))=true:=zT;have hg:=List.getElem?_eq_getElem hk1;generalize s.l[k]=x at hg;have w1:IntKind.i64.wrap ((k:Int)+1)=(k:Int)+1:=w64 zo zo;refine Zf (zi hlt (zi hg Z7)) ?_;intro g10
  by_cases hm:k=most
  have q:((k:Int)==(most:Int))=true:=by simp[hm]
  rw[Z2b hk1 hR (.inl hm),if_pos hm,hm];exact Zh q
  .have q:((k:Int)==(most:Int))=false:=by
    have:¬ (k:Int)=(most:Int):=zo;simpa using this
   refine Zg q ?_;refine Zcf hf.rc hG ?_ (e:=hf.en) (s:=hf.sp k x hg)
   cases hp:p k with
   |false=>
    rw[Z2b hk1 hR (.inr hp),if_neg hm];exact Zr
   |true=>
    refine Zf w1 ?_;refine hL3 _ ⟨hk1,(),λi hi=>?_,Za zp zp⟩
    by_cases h3:i=k
    rw[h3];exact⟨hm,hp⟩;exact hR i zo
  have hke:k=s.l.length:=zo;subst hke;have hlt:decide ((s.l.length:Int)<(s.l.length:Int))=false:=zS;rw[Z0e hR];exact Zq hlt
theorem Zkaa(G:Nat->V)(p:List UInt8×Int)(c:Col)(a:List UInt8×Int):Spec Tryz.prog G 146 [Z3 p,.view c (Z3 a)] Zk (λv _=>v=.bool (p.1==a.1)):=by
 refine Zo 0 9 [.tmp 3] Tryz.func146 λX=>?_;simp only[Z2a];refine Z ?_;intro g2;exact Zr
theorem Zoia(G:Nat->V)(hG:GOk G)(c c1:Col)(s:Sl (List UInt8×Int))(hs:s.l.length<1000000)(a:List UInt8×Int):
  Spec Tryz.prog G 213 [Zb c 2 Z3 s,.func (.func 146) [] [.view c1 (Z3 a)]] Zk (λv _=>v=.int .i64 (Zwu (λp=>p.1==a.1) s.l)):=by
 refine Zo 0 19 [.tmp 4] Tryz.func213 λX=>?_;refine Z ?_
 refine Z9 s.l.length (λk (_:Unit)=>st [(0,Zb c 2 Z3 s),(1,.func (.func 146) [] [.view c1 (Z3 a)]),(7,.int .i64 s.l.length),(8,.int .i64 k)] []) (λk _=>∀ y∈s.l.take k,(y.1==a.1)=false) 0 () (Nat.zero_le _) zS
  (Za zp zp) ?_
 intro k _ hk hR L2 hL2
 by_cases hk1:k<s.l.length
 .have hlt:decide ((k:Int)<(s.l.length:Int))=true:=zT
  have hg:=List.getElem?_eq_getElem hk1;generalize s.l[k]=x at hg;refine Zf (zi hlt (zi hg Z2a)) ?_;refine Zcf @Z2a hG ?_ (s:=Zkaa G x c1.ent a)
  cases h6:(x.1==a.1)with
  |true=>
   refine Z ?_;rw[Zif (p:=λp:List UInt8×Int=>p.1==a.1) hg hR h6]
  |false=>
   have w1:IntKind.i64.wrap ((k:Int)+1)=(k:Int)+1:=w64 zo zo;refine Zf w1 ?_;exact hL2 _ ⟨hk1,(),Zce hg hR h6,Za (zpf @Z2a) zp⟩
 have hke:k=s.l.length:=zo;have hlt:decide ((k:Int)<(s.l.length:Int))=false:=zF;rw[hke,List.take_length]at hR;refine Zf hlt ?_;rw[Zjf (p:=λp:List UInt8×Int=>p.1==a.1) hR]
theorem Z4n{α : Type}(p : α -> Bool)(l:List α):decide (Zwu p l>=0)=l.any p:=by
 unfold Zwu
 cases h:l.findIdx? p with
 |none=>
  rw[List.findIdx?_eq_none_iff]at h;rw[List.any_eq_false.2 (λx hx=>by rw[h x hx];decide)];rfl
 |some i=>
  obtain⟨h1,h2,_⟩:=List.findIdx?_eq_some_iff_getElem.1 h;rw[List.any_eq_true.2 ⟨_,List.getElem_mem h1,h2⟩];exact decide_eq_true (Int.natCast_nonneg i)
theorem Zlja(G:Nat->V)(hG:GOk G)(c c1:Col)(s:Sl (List UInt8×Int))(hs:s.l.length<1000000)(a:List UInt8×Int):
  Spec Tryz.prog G 145 [Zb c 2 Z3 s,.func (.func 146) [] [.view c1 (Z3 a)]] Zk (λv _=>v=.bool (s.l.any λp=>p.1==a.1)):=by
 refine Zo 0 9 [.tmp 4] Tryz.func145 λX=>?_;refine Z ?_;refine Zcf @Z2a hG ?_ (s:=Zoia G hG c.ent c1.ent s hs a);refine Z ?_;rw[Z4n]
theorem Zria(G:Nat->V)(c:Col)(t:Int)(s:Sl Int)(hs:s.l.length<1000000):Spec Tryz.prog G 124 [Zb c 1 (V.int .i64) s,.int .i64 t] Zk (λv _=>v=.int .i64 (Zwu (t == ·) s.l)):=by
  refine Zo 0 19 [.tmp 4] Tryz.func124 λX=>?_;refine Z ?_;refine Z9 s.l.length (λk (_:Unit)=>st [(0,Zb c 1 (V.int .i64) s),(1,.int .i64 t),(7,.int .i64 s.l.length),(8,.int .i64 k)] []) (λk _=>∀ y∈s.l.take k,(t==y)=false) 0 () (Nat.zero_le _) zS (Za zp zp) ?_;intro k _ hk hR L2 hL2
  by_cases hk1:k<s.l.length
  have hlt:decide ((k:Int)<(s.l.length:Int))=true:=zT;have hg:=List.getElem?_eq_getElem hk1;generalize s.l[k]=x at hg;have w1:IntKind.i64.wrap ((k:Int)+1)=(k:Int)+1:=w64 zo zo;cases h6:(t==x);refine Zf (zi hlt (zi hg (zi h6 w1))) ?_;exact hL2 _ ⟨hk1,(),Zce hg hR h6,Za zp zp⟩;refine Zf (zi hlt (zi hg h6)) ?_;rw[Zif (p:=λy=>t==y) hg hR h6];have hke:k=s.l.length:=zo;have hlt:decide ((k:Int)<(s.l.length:Int))=false:=zF;rw[hke,List.take_length]at hR;refine Zf hlt ?_;rw[Zjf (p:=λy=>t==y) hR]
theorem Zpia(G:Nat->V)(c:Col)(t:Int)(s:Sl Int)(hs:s.l.length<1000000):Spec Tryz.prog G 221 [Zb c 1 (V.int .u8) s,.int .u8 t] Zk (λv _=>v=.int .i64 (Zwu (t == ·) s.l)):=by
  refine Zo 0 19 [.tmp 4] Tryz.func221 λX=>?_;refine Z ?_;refine Z9 s.l.length (λk (_:Unit)=>st [(0,Zb c 1 (V.int .u8) s),(1,.int .u8 t),(7,.int .i64 s.l.length),(8,.int .i64 k)] []) (λk _=>∀ y∈s.l.take k,(t==y)=false) 0 () (Nat.zero_le _) zS (Za zp zp) ?_;intro k _ hk hR L2 hL2
  by_cases hk1:k<s.l.length
  have hlt:decide ((k:Int)<(s.l.length:Int))=true:=zT;have hg:=List.getElem?_eq_getElem hk1;generalize s.l[k]=x at hg;have w1:IntKind.i64.wrap ((k:Int)+1)=(k:Int)+1:=w64 zo zo;cases h6:(t==x);refine Zf (zi hlt (zi hg (zi h6 w1))) ?_;exact hL2 _ ⟨hk1,(),Zce hg hR h6,Za zp zp⟩;refine Zf (zi hlt (zi hg h6)) ?_;rw[Zif (p:=λy=>t==y) hg hR h6];have hke:k=s.l.length:=zo;have hlt:decide ((k:Int)<(s.l.length:Int))=false:=zF;rw[hke,List.take_length]at hR;refine Zf hlt ?_;rw[Zjf (p:=λy=>t==y) hR]
theorem Z9w(G:Nat->V)(hG:GOk G)(c:Col)(t:Int)(s:Sl Int)(hs:s.l.length<1000000):Spec Tryz.prog G 65 [Zb c 1 (V.int .i64) s,.int .i64 t] Zk (λv _=>v=.bool (s.l.contains t)):=by
 refine Zo 0 9 [.tmp 4] Tryz.func65 λX=>?_;refine Z ?_;refine Zc hG ?_ (s:=Zria G _ t s hs);refine Z ?_;rw[Z4n,<- List.contains_eq_any_beq]
theorem Zmja(G:Nat->V)(hG:GOk G)(c:Col)(t:Int)(s:Sl Int)(hs:s.l.length<1000000):Spec Tryz.prog G 188 [Zb c 1 (V.int .u8) s,.int .u8 t] Zk (λv _=>v=.bool (s.l.contains t)):=by
 refine Zo 0 9 [.tmp 4] Tryz.func188 λX=>?_;refine Z ?_;refine Zc hG ?_ (s:=Zpia G _ t s hs);refine Z ?_;rw[Z4n,<- List.contains_eq_any_beq]
theorem Zzb(G:Nat->V)(hG:GOk G)(b c d e f:Col)(m:MdM)(ns vs:Sl (List UInt8))(v:Int)(h0:0<=v)(h1:v<m.p.vertices.length)(ks:Sl Int)(hk:ks.l.length<1000000):
  Spec Tryz.prog G 163 [ckV b c d e m ns vs,.int .i64 v,Zb f 1 (V.int .u8) ks] Zk (λw _=>w=.bool (ks.l.contains (m.p.kd v))):=by
 refine Zo 0 18 [.tmp 6] Tryz.func163 λX=>?_;obtain⟨k,x,rfl,hk,hg,hx⟩:=MdM.at h0 h1;rw[PM.kd,hx];simp only[Z1b];refine Zf (zi hg (zi hk (zi Zp (zi @Int.natCast_nonneg @Int.ofNat_lt)))) ?_;refine Zc hG ?_ (s:=Zmja G hG _ x.kind ks (by assumption));exact Zr
theorem Zmia(m:MdM)(v:Int):m.p.inc v=(m.ways.l.filter λt=>t.target==v).map (·.source):=by
 show((m.ways.l.map TrM.p).filter _).map _=_
 rw[List.filter_map,List.map_map]<;>rfl
theorem Zbha(m:MdM)(v:Int):m.p.out v=(m.ways.l.filter λt=>t.source==v).map (·.target):=by
 show((m.ways.l.map TrM.p).filter _).map _=_
 rw[List.filter_map,List.map_map]<;>rfl
theorem Z5k(G:Nat->V)(hG:GOk G)(b c d e:Col)(m:MdM)(ns vs:Sl (List UInt8))(hw:m.ways.l.length<1000000)(v:Int):
  Spec Tryz.prog G 166 [ckV b c d e m ns vs,.int .i64 v] Zk (λw _=>w=Zb .new 1 (V.int .i64) (Zl (m.p.inc v))):=by
 rw[Zmia];refine Zo 0 28 [.tmp 4] Tryz.func166 λX=>?_;simp only[Z1b];refine Z ?_
 refine Z9 m.ways.l.length (λk (g:Nat)=>st [(0,ckV b c d e m ns vs),(1,.int .i64 v),(4,grown 25 g 1 (((m.ways.l.take k).filter λt=>t.target==v).map (·.source))),(11,Zb c 8 (Zqa d) m.ways),(12,.int .i64 m.ways.l.length),(13,.int .i64 k)] [(25,Zza g (V.int .i64) (((m.ways.l.take k).filter λt=>t.target==v).map (·.source)))])
  (λ_ _=>True) 0 0 (Nat.zero_le _) trivial (Za (zpf @Z1b) zp) ?_
 intro k g hk _ L3 hL3
 by_cases hk1:k<m.ways.l.length
 have hlt:decide ((k:Int)<(m.ways.l.length:Int))=true:=zT;have hg:=List.getElem?_eq_getElem hk1
 have htk:m.ways.l.take (k+1)=m.ways.l.take k++[m.ways.l[k]]:=by rw[List.take_succ_eq_append_getElem hk1]
 have hlen:(((m.ways.l.take k).filter λt=>t.target==v).map (·.source)).length<=k:=by
  rw[List.length_map];exact Nat.le_trans (List.length_filter_le _ _) (by rw[List.length_take];omega)
 generalize m.ways.l[k]=x at hg htk;have w1:IntKind.i64.wrap ((k:Int)+1)=(k:Int)+1:=w64 zo zo;rw[htk]at hL3;simp only[List.filter_append,List.map_append]at hL3;generalize((m.ways.l.take k).filter λt=>t.target==v).map (·.source)=acc at hlen hL3;refine Zf (zi hlt (zi hg Z7)) ?_;intro g6;cases q:(x.target==v);rw[List.filter_cons_of_neg (by simp[q])]at hL3;simp only[List.filter_nil,List.map_nil,List.append_nil]at hL3;refine Zf (zi q w1) ?_;exact hL3 _ ⟨hk1,g,trivial,Za (zpf @Z1b) zp⟩;rw[List.filter_cons_of_pos (by simp[q])]at hL3;simp only[List.filter_nil,List.map_nil,List.map_cons]at hL3;refine Zf (zi q Z7) ?_;intro g24;refine Zna (f:=V.int .i64) (l:=acc) (l2:=[x.source]) (g:=g) (λ_=>rfl) rfl rfl rfl zp (Z5 zo zO) λg2=>?_;refine Zs ?_;refine Zf w1 ?_;exact hL3 _ ⟨hk1,g2,trivial,Za (zpf @Z1b) zp⟩;have hke:k=m.ways.l.length:=zo;subst hke;rw[List.take_length];have hlt:decide ((m.ways.l.length:Int)<(m.ways.l.length:Int))=false:=zS;generalize(m.ways.l.filter λt=>t.target==v).map (·.source)=acc;refine AW.weak (Zt (λo=>o==25) (l:=[(0,ckV b c d e m ns vs),(4,Zb .new 1 (V.int .i64) (Zl acc)),(12,.int .i64 m.ways.l.length),(13,.int .i64 m.ways.l.length)]) (m:=[]) ?_ trivial) ?_;refine Zs ?_;exact⟨Fz.same _,Z3a (l:=acc) (g:=g) (f:=V.int .i64) rfl zp (λ_=>rfl),Fz.same _⟩;exact Zq hlt
theorem Zwf(G:Nat->V)(hG:GOk G)(b c d e:Col)(m:MdM)(ns vs:Sl (List UInt8))(hw:m.ways.l.length<1000000)(v:Int):
  Spec Tryz.prog G 164 [ckV b c d e m ns vs,.int .i64 v] Zk (λw _=>w=Zb .new 1 (V.int .i64) (Zl (m.p.out v))):=by
 rw[Zbha];refine Zo 0 28 [.tmp 4] Tryz.func164 λX=>?_;simp only[Z1b];refine Z ?_
 refine Z9 m.ways.l.length (λk (g:Nat)=>st [(0,ckV b c d e m ns vs),(1,.int .i64 v),(4,grown 25 g 1 (((m.ways.l.take k).filter λt=>t.source==v).map (·.target))),(11,Zb c 8 (Zqa d) m.ways),(12,.int .i64 m.ways.l.length),(13,.int .i64 k)] [(25,Zza g (V.int .i64) (((m.ways.l.take k).filter λt=>t.source==v).map (·.target)))])
  (λ_ _=>True) 0 0 (Nat.zero_le _) trivial (Za (zpf @Z1b) zp) ?_
 intro k g hk _ L3 hL3
 by_cases hk1:k<m.ways.l.length
 have hlt:decide ((k:Int)<(m.ways.l.length:Int))=true:=zT;have hg:=List.getElem?_eq_getElem hk1
 have htk:m.ways.l.take (k+1)=m.ways.l.take k++[m.ways.l[k]]:=by rw[List.take_succ_eq_append_getElem hk1]
 have hlen:(((m.ways.l.take k).filter λt=>t.source==v).map (·.target)).length<=k:=by
  rw[List.length_map];exact Nat.le_trans (List.length_filter_le _ _) (by rw[List.length_take];omega)
 generalize m.ways.l[k]=x at hg htk;have w1:IntKind.i64.wrap ((k:Int)+1)=(k:Int)+1:=w64 zo zo;rw[htk]at hL3;simp only[List.filter_append,List.map_append]at hL3;generalize((m.ways.l.take k).filter λt=>t.source==v).map (·.target)=acc at hlen hL3;refine Zf (zi hlt (zi hg Z7)) ?_;intro g6;cases q:(x.source==v);rw[List.filter_cons_of_neg (by simp[q])]at hL3;simp only[List.filter_nil,List.map_nil,List.append_nil]at hL3;refine Zf (zi q w1) ?_;exact hL3 _ ⟨hk1,g,trivial,Za (zpf @Z1b) zp⟩;rw[List.filter_cons_of_pos (by simp[q])]at hL3;simp only[List.filter_nil,List.map_nil,List.map_cons]at hL3;refine Zf (zi q Z7) ?_;intro g24;refine Zna (f:=V.int .i64) (l:=acc) (l2:=[x.target]) (g:=g) (λ_=>rfl) rfl rfl rfl zp (Z5 zo zO) λg2=>?_;refine Zs ?_;refine Zf w1 ?_;exact hL3 _ ⟨hk1,g2,trivial,Za (zpf @Z1b) zp⟩;have hke:k=m.ways.l.length:=zo;subst hke;rw[List.take_length];have hlt:decide ((m.ways.l.length:Int)<(m.ways.l.length:Int))=false:=zS;generalize(m.ways.l.filter λt=>t.source==v).map (·.target)=acc;refine AW.weak (Zt (λo=>o==25) (l:=[(0,ckV b c d e m ns vs),(4,Zb .new 1 (V.int .i64) (Zl acc)),(12,.int .i64 m.ways.l.length),(13,.int .i64 m.ways.l.length)]) (m:=[]) ?_ trivial) ?_;refine Zs ?_;exact⟨Fz.same _,Z3a (l:=acc) (g:=g) (f:=V.int .i64) rfl zp (λ_=>rfl),Fz.same _⟩;exact Zq hlt
theorem Zvr:∀ (l acc:List Int) (r:Int),Z3i acc (l++[r])=if 0<=r/\(Z3i acc l).contains r=false then Z3i acc l++[r]else Z3i acc l
 |[],acc,r=>rfl
 |x::t,acc,r=>by
  rw[List.cons_append,Z3i,Z3i];exact Zvr t _ r
theorem inIm(x:Int):∀ y∈(V.int .i64 x).cells,y.Im:=λy hy=>by
 simp only[V.cells,List.mem_cons,List.not_mem_nil,or_false]at hy;rw[hy];exact .int _ _
theorem Zam(G:Nat->V)(hG:GOk G)(b c d e c2:Col)(m:MdM)(ns vs:Sl (List UInt8))(hm:m.p.Rt)(l:Sl Int)(hl:l.l≠[])(hll:l.l.length<1000000)(hr:∀ v∈l.l,0<=v/\v<m.p.vertices.length):
  Spec Tryz.prog G 167 [ckV b c d e m ns vs,Zb c2 1 (V.int .i64) l] Zk (λw _=>w=.bool (m.p.partU l.l)):=by
 refine Zo 0 48 [.tmp 4] Tryz.func167 λX=>?_;have hl0:0<l.l.length:=List.length_pos_iff.2 hl;have hg0:=List.getElem?_eq_getElem hl0
 have hhd:l.l.headD 0=l.l[0]:=by rw[List.headD_eq_head?_getD,List.head?_eq_getElem?,hg0]<;>rfl
 obtain⟨v0,v1⟩:=hr l.l[0] (List.getElem_mem hl0);rw[PM.partU,hhd];generalize l.l[0]=v at hg0 v0 v1;refine Zf (zi hg0 hl0) ?_;refine Zc hG ?_ (s:=Z1c G hG _ _ _ _ m ns vs hm.toRt5 v v0 v1);refine Z ?_;refine Zpb (fun(w:Int)=>st [(0,ckV b c d e m ns vs),(1,Zb c2 1 (V.int .i64) l),(5,.int .i64 (m.p.around w))] []) (λw=>0<=w/\w<m.p.vertices.length/\(m.p.ups v).any (λs=>Zye [] (l.l.map (m.p.regU · s)))=(m.p.ups w).any λs=>Zye [] (l.l.map (m.p.regU · s))) (λw=>(m.p.ups w).length) v ⟨v0,v1,rfl⟩ (Za zp zp) ?_;rintro w ⟨w0,w1,hw⟩ L7 hL7
 by_cases ha:0<=m.p.around w
 rotate_left;have q0:decide (m.p.around w>=0)=false:=zF;rw[hw,PM.Acy.ups_nil zo];exact Zq q0;have q0:decide (m.p.around w>=0)=true:=zT
 have ha1:m.p.around w<m.p.vertices.length:=by
  rcases hm.acy.rng w w0 w1 with q|q
  omega;exact q.2
 have hup:=hm.acy.ups_cons w0 w1 ha;have hlen:=congrArg List.length hup;rw[List.length_cons]at hlen;rw[hup,List.any_cons]at hw;refine Zf q0 ?_;generalize hae:m.p.around w=a at ha ha1 hw hlen
 refine Z9 l.l.length (λk (g:Nat)=>st [(0,ckV b c d e m ns vs),(1,Zb c2 1 (V.int .i64) l),(5,.int .i64 a),(6,grown 41 g 1 (Z3i [] ((l.l.take k).map (m.p.regU · a)))),(20,Zb c2 1 (V.int .i64) l),(21,.int .i64 l.l.length),(22,.int .i64 k)] [(41,Zza g (V.int .i64) (Z3i [] ((l.l.take k).map (m.p.regU · a))))])
  (λ_ _=>True) 0 0 (Nat.zero_le _) trivial (Za zp zp) ?_
 intro k g hk _ L3 hL3
 by_cases hk1:k<l.l.length
 .have hlt:decide ((k:Int)<(l.l.length:Int))=true:=zT
  have hg:=List.getElem?_eq_getElem hk1
  have htk:l.l.take (k+1)=l.l.take k++[l.l[k]]:=by rw[List.take_succ_eq_append_getElem hk1]
  obtain⟨x0,x1⟩:=hr l.l[k] (List.getElem_mem hk1);have hsl:=Z9s ((l.l.take k).map (m.p.regU · a)) [];rw[List.length_map,List.length_take]at hsl;generalize l.l[k]=x at hg htk x0 x1;have w2:IntKind.i64.wrap ((k:Int)+1)=(k:Int)+1:=w64 zo zo;rw[htk,List.map_append]at hL3;simp only[List.map_cons,List.map_nil,Zvr]at hL3;generalize Z3i [] ((l.l.take k).map (m.p.regU · a))=acc at hsl hL3
  have hsl:acc.length<=k:=by simp only[List.length_nil]at hsl;omega
  refine Zf (zi hlt hg) ?_;refine Zc hG ?_ (s:=Z6m G hG _ _ _ _ m ns vs hm x a x0 x1 ha);generalize m.p.regU x a=r at hL3
  by_cases hr0:0<=r
  rotate_left;have q1:decide (r>=0)=false:=zF;rw[if_neg (λh=>hr0 h.1)]at hL3;refine Zg (zi q1 w2) ?_;exact hL3 _ ⟨hk1,g,trivial,Za zp zp⟩;have q1:decide (r>=0)=true:=zT;refine Zg q1 ?_;refine Zua hG [Zb .old 1 (V.int .i64) (Zl acc),.int .i64 r] zk ⟨Zpu zp (λ_=>rfl) inIm (λ_=>rfl),Z0a (.int _ _) rfl,trivial⟩ ?_;refine(Z9w G hG .old r (Zl acc) (by rw[Zm];omega)).mono ?_;rintro _ _ rfl;rw[Zm];refine⟨.bool _,?_⟩;cases hc:acc.contains r;rw[if_pos ⟨hr0,hc⟩]at hL3;refine Zs ?_;refine Z ?_;intro g40;refine Zna (f:=V.int .i64) (l:=acc) (l2:=[r]) (g:=g) (λ_=>rfl) rfl rfl rfl zp (Z5 zo zO) λg2=>?_;refine Zs ?_;refine Zf w2 ?_;exact hL3 _ ⟨hk1,g2,trivial,Za zp zp⟩;rw[if_neg (λh=>by rw[hc]at h;cases h.2)]at hL3;refine Zs ?_;refine Zf w2 ?_;exact hL3 _ ⟨hk1,g,trivial,Za zp zp⟩
 have hke:k=l.l.length:=zo;subst hke;rw[List.take_length];have hlt:decide ((l.l.length:Int)<(l.l.length:Int))=false:=zS;have hall:=Zvo (l.l.map (m.p.regU · a)) [];rw[List.length_nil,Nat.zero_add,List.length_map]at hall;rw[<- hall]at hw;generalize Z3i [] (l.l.map (m.p.regU · a))=acc at hw
 have e1:(((acc.length:Nat):Int)==((l.l.length:Nat):Int))=decide (acc.length=l.l.length):=by
  rw[Bool.eq_iff_iff,beq_iff_eq,decide_eq_true_eq];omega
 cases h:decide (acc.length=l.l.length);rw[h]at e1 hw;rw[Bool.false_or]at hw;refine Zf (zi hlt e1) ?_;refine Zc hG ?_ (s:=Z1c G hG _ _ _ _ m ns vs hm.toRt5 a ha ha1);refine Z ?_;exact hL7 _ ⟨a,zo,⟨ha,ha1,hw⟩,Za zp zp⟩;rw[h]at e1 hw;rw[hw,Bool.true_or];exact Zq (zi hlt e1)
def Zwm(t:List UInt8)(below:Bool):Int×Int:=
 if t=[]\/(t.head?=some 48/\(t.length>1\/below=true))\/t.all Zoa=false then(0,2)
 else Z80 (if below then -(val (t.reverse.map Zyi):Int)else val (t.reverse.map Zyi))
theorem Z5ma(s:List UInt8):Zec s=Zwm (if(s.head? == some 45)=true then s.drop 1 else s) (s.head? == some 45):=rfl
theorem u8_eq(c:UInt8)(n:Nat)(hn:n<256):((c.toNat:Int)==(n:Int))=(c==UInt8.ofNat n):=by
 by_cases h:c.toNat=n
 have h1:c=UInt8.ofNat n:=by
  apply UInt8.toNat_inj.1;rw[UInt8.toNat_ofNat',h];omega
 rw[h1];simp;omega
 have h1:¬ c=UInt8.ofNat n:=by
  intro e;apply h;rw[e,UInt8.toNat_ofNat'];omega
 have h2:¬ (c.toNat:Int)=(n:Int):=zo;rw[show(c==UInt8.ofNat n)=false by simpa using h1,show((c.toNat:Int)==(n:Int))=false from beq_eq_false_iff_ne.2 h2]
theorem u8_45(c:UInt8):((c.toNat:Int)==45)=(c==45):=u8_eq c 45 zd
theorem Ztla(c:UInt8):((c.toNat:Int)==48)=(c==48):=u8_eq c 48 zd
theorem Z21(G:Nat->V)(hG:GOk G)(s:List UInt8)(hs:s.length<1000000):Spec Tryz.prog G 341 [.str s] Zk (λv _=>v=encR (Zec s)):=by
 rw[Z5ma];generalize hb0:(s.head? == some 45)=b0;generalize ht0:(if b0=true then s.drop 1 else s)=t0;refine Zo 0 64 [.tmp 2,.tmp 3] Tryz.func341 λX=>?_;refine Z1 ?_;refine Zda (fun(_:Unit)=>st [(0,.str s),(4,.bool b0)] []) (λ_=>True) (λK1 hK1=>?_) ?_
 .cases s with
  |nil=>
   refine Z1 ?_;exact hK1 _ () trivial (Za (by refine Zs ?_;rw[<- hb0]<;>rfl) zp)
  |cons c r=>
   refine Z1f @u8_45 ?_;exact hK1 _ () trivial (Za (by refine Zs ?_;rw[<- hb0]<;>rfl) zp)
 intro _ _;refine Zda (fun(_:Unit)=>st [(0,.str t0),(4,.bool b0)] []) (λ_=>True) (λK2 hK2=>?_) ?_;refine Z1 ?_;refine Zi rfl (λh2=>?_) (λh2=>?_);subst h2
 have h1:1<=s.length:=by
  cases s with
  |nil=>simp at hb0
  |cons _ _=>simp
 refine Z1f (zi h1 @Nat.le_refl) ?_;refine hK2 _ () trivial ?_;exact(Za (by refine Zs ?_;rw[<- ht0];simp;try exact List.take_of_length_le zS) zp);subst h2;refine Z0 ?_;exact hK2 _ () trivial (Za (by refine Zs ?_;rw[<- ht0];simp) zp);intro _ _
 have htl:t0.length<=s.length:=by rw[<- ht0];split<;>simp
 try clear ht0 hb0
 refine Zda (fun(_:Unit)=>st [(0,.str t0),(4,.bool b0)] []) (λ_=>t0≠[]/\¬ (t0.head?=some 48/\(t0.length>1\/b0=true))) (λK3 hK3=>?_) ?_
 .cases t0 with
  |nil=>
   refine Z1 ?_;refine Zi rfl (λh4=>?_) (λh4=>?_)
   .refine Z ?_
    rw[Zwm,if_pos (.inl rfl)]
    try rfl
   cases h4
  |cons c r=>
   by_cases hc:c=48
   have hc1:(c==48)=true:=zu hc
   by_cases hl:r.length=0
   .have hl1:decide (((r.length+1:Nat):Int)>1)=false:=zF
    cases b0 with
    |true=>
     refine Z1f (zi @Ztla (zi hc1 hl1)) ?_;refine Zi rfl (λh4=>?_) (λh4=>?_)
     .refine Z ?_
      rw[Zwm,if_pos (.inr (.inl ⟨by simp[hc],.inr rfl⟩))]
      try rfl
     cases h4
    |false=>
     refine Z1f (zi @Ztla (zi hc1 hl1)) ?_;refine Zbb rfl ?_;refine Z0 ?_;exact hK3 _ () ⟨zS,by simp[hl]⟩ (Za zp zp)
   have hl1:decide (((r.length+1:Nat):Int)>1)=true:=zT;refine Z1f (zi @Ztla (zi hc1 hl1)) ?_;refine Zi rfl (λh4=>?_) (λh4=>?_)
   .refine Z ?_
    rw[Zwm,if_pos (.inr (.inl ⟨by simp[hc],.inl zO⟩))]
    try rfl
   cases h4;have hc1:(c==48)=false:=zu hc;refine Z1f (zi @Ztla hc1) ?_;refine Zbb rfl ?_;refine Z0 ?_;exact hK3 _ () ⟨zS,by simp[hc]⟩ (Za zp zp)
 rintro _ ⟨hne,hno⟩;refine Z1 ?_;refine Z1 ?_;refine AW.block ?_
 refine Z9 t0.length (λk (x:Nat)=>st [(0,.str t0),(4,.bool b0),(5,grown 56 x 1 (Zvu ((t0.drop (t0.length-k)).reverse.map Zyi))),(6,.int .i64 ((t0.length:Int)-1-k))] [(56,Zza x (V.int .i64) (Zvu ((t0.drop (t0.length-k)).reverse.map Zyi)))])
  (λk _=>(t0.drop (t0.length-k)).all Zoa=true) 0 0 (Nat.zero_le _) (by rw[List.drop_eq_nil_of_le zo]<;>rfl)
  (Za (by rw[List.drop_eq_nil_of_le zo];refine Zs ?_;exact⟨rfl,congrArg _ (by rw[w64 zo zo];omega)⟩) (by rw[List.drop_eq_nil_of_le zo];simp -implicitDefEqProofs only[go_sem,seval];try rfl)) ?_
 intro k gx hk hI L2 hL2;refine Z1 ?_;refine Zi rfl (λh4=>?_) (λh4=>?_)
 have hk1:k<t0.length:=by have:=of_decide_eq_true h4;omega
 refine Z0 ?_;obtain⟨i,hi⟩:∃ i,i=t0.length-1-k:=⟨_,rfl⟩;have e0:((t0.length:Int)-1-k)=(i:Int):=zo;have hi1:i<t0.length:=zo;have g2:=List.getElem?_eq_getElem hi1;have hdr:t0.drop i=t0[i]::t0.drop (i+1):=List.drop_eq_getElem_cons hi1
 have hall:t0.all Zoa=((t0.take i).all Zoa&&(Zoa t0[i]&&(t0.drop (i+1)).all Zoa)):=by
  rw[<- List.all_cons,<- hdr,<- List.all_append,List.take_append_drop]
 generalize t0[i]=c at g2 hdr hall;rw[show t0.length-k=i+1 by omega]at hI⊢;rw[e0];have hlen:((t0.drop (i+1)).reverse.map Zyi).length<1000000:=zO;refine Z4 ?_;refine AW.block ?_;refine Z4 ?_
 by_cases hc:Zoa c=true
 have hc2:48<=c.toNat/\c.toNat<=57:=by unfold Zoa at hc;simpa using hc
 have b1:decide ((c.toNat:Int)<48)=false:=zF;have b2:decide ((c.toNat:Int)>57)=false:=zF
 have hdv:IntKind.i64.wrap ((c.toNat:Int)-48)=((Zyi c:Nat):Int):=by rw[w64 zo zo];unfold Zyi;omega
 have hwc:IntKind.i64.wrap (c.toNat:Int)=(c.toNat:Int):=w64 zo zo;refine Z1f (zi g2 (zi b1 b2)) ?_;refine Zbb rfl ?_;refine Z1f (zi g2 (zi hwc hdv)) ?_;intro g55;refine Zna (f:=V.int .i64) (l:=Zvu ((t0.drop (i+1)).reverse.map Zyi)) (l2:=[((Zyi c:Nat):Int)]) (g:=gx) (λ_=>rfl) rfl rfl rfl rfl (Z5 zo zO) λg56=>?_;refine Zs ?_;refine Z1 ?_
 have hnew:(t0.drop (t0.length-(k+1))).reverse.map Zyi=(t0.drop (i+1)).reverse.map Zyi++[Zyi c]:=by
  rw[show t0.length-(k+1)=i by omega,hdr];simp
 refine hL2 _ ⟨hk1,g56,?_,Za (by rw[hnew];simp -implicitDefEqProofs only[go_sem,seval,Z1t];exact⟨rfl,congrArg _ (by rw[w64 zo zo];omega)⟩) (by rw[hnew];simp -implicitDefEqProofs only[go_sem,seval,Z1t];try rfl)⟩
 rw[show t0.length-(k+1)=i by omega,hdr,List.all_cons,hc,hI]<;>rfl
 have hcf:Zoa c=false:=zu hc
 have hbad:t0.all Zoa=false:=by rw[hall,hcf];simp
 have hc2:c.toNat<48\/57<c.toNat:=by
  rcases Nat.lt_or_ge c.toNat 48 with h|h
  exact .inl h
  rcases Nat.lt_or_ge 57 c.toNat with h1|h1
  exact .inr h1;exact absurd (by unfold Zoa;simp[h,h1]) hc
 have hP:Zwm t0 b0=(0,2):=by rw[Zwm,if_pos (.inr (.inr hbad))]
 rcases hc2 with h|h
 have b1:decide ((c.toNat:Int)<48)=true:=zT;refine Z1f (zi g2 b1) ?_;refine Zi rfl (λh7=>?_) (λh7=>?_);refine Z ?_
 rw[hP]<;>rfl
 cases h7;have b1:decide ((c.toNat:Int)<48)=false:=zF;have b2:decide ((c.toNat:Int)>57)=true:=zT;refine Z1f (zi g2 (zi b1 b2)) ?_;refine Zi rfl (λh7=>?_) (λh7=>?_);refine Z ?_
 rw[hP]<;>rfl
 cases h7
 .have hk1:k=t0.length:=by have:=of_decide_eq_false h4;omega
  subst hk1;rw[Nat.sub_self,List.drop_zero]at hI⊢
  have hP:Zwm t0 b0=Z80 (sgn b0 (val (t0.reverse.map Zyi))):=by
   rw[Zwm,if_neg (by rw[hI];simp[hne,hno])]
   try rfl
  have hdig:Dig (t0.reverse.map Zyi):=by
   intro d hd;obtain⟨c,h1,rfl⟩:=List.mem_map.1 hd;have:=List.all_eq_true.1 hI c (List.mem_reverse.1 h1);unfold Zoa at this;unfold Zyi;simp at this;omega
  have hol:(t0.reverse.map Zyi).length<1000000:=zO;generalize t0.reverse.map Zyi=out at hdig hol hP;refine Z0 ?_;refine AW.weak (Zt (λo=>o==56) (l:=[(4,.bool b0),(5,Zb .new 1 (V.int .i64) (slD (decide (out=[])) out))]) (m:=[]) ?_ trivial) ?_;refine Zs ?_;rw[<- Zw2 rfl];exact⟨Fz.same _,Z3a rfl rfl (λ_=>rfl)⟩;refine Z1 ?_;refine Zn hG ?_ (s:=(Z1fa G hG _ (decide (out=[])) out zS zo));rw[Z67 _ _ (Nat.le_refl _) hdig]
  have hnl:decide (out=[])=true->dg (val out)=[]:=by
   intro h;have:=of_decide_eq_true h;subst this;rfl
  have hvl:(dg (val out)).length<1000000:=by
   have:=dg_len (Z3oa hdig);omega
  refine Zs ?_;refine CallA.pure hG zk ?_;refine Zs ?_;rw[<- Z0p];refine(Zvaa G hG _ _ _ _ hnl (dig_dg _) hvl).mono ?_;rintro _ _ rfl;rw[val_dg];refine Zsf @encR.eq_1 ?_;refine Z ?_;rw[hP]
  try rfl
theorem Zki(G:Nat->V)(hG:GOk G)(sl:Sl Tk)(hT:TkOk sl.l)(g:Nat)(r:RS)(hr:r.i<1000000):RdS 1012 [] G 328 [] sl g r (.str (Zea sl.l r.i).text) r:=by
 intro gx;refine Zo 1000 50 [.tmp 2] Tryz.func328 λX=>?_;simp only[Zab,Zva];refine Z1 ?_;refine Z4 ?_
 by_cases hi:r.i<sl.l.length
 have h1:decide ((r.i:Int)>=sl.l.length)=false:=zF;have hg:=List.getElem?_eq_getElem hi;have hm:=hT.text _ (List.getElem_mem hi);generalize sl.l[r.i]=t at hg hm;have hP:=Zbs hg
 have p1:Z7i Tryz.prog G 126 [.str t.text] (.int .u8 (isP t.text)):=⟨by kernel_rfl,by
  refine Zs ?_;refine(Z0g G hG t.text zo).mono ?_;rintro _ _ rfl
  rfl⟩
 by_cases hk:(isP t.text:Int)=t.kind
 rw[if_pos hk]at hP;have e1:((isP t.text:Int) != t.kind)=false:=zu hk
 refine Z4<|Zw ⟨λi=>if i=22 then .int .u8 (isP t.text)else .top,λ_=>.pure⟩ zk hG zk zk ?_
 refine Zsf (zi h1 (zi hg (zi @Zdb e1))) ?_;refine⟨p1,?_⟩;refine Zbb rfl ?_;refine Z0 ?_;refine ZTf (zi hg @Zdb) hG ?_;refine Z ?_;exact⟨by rw[hP],gx,zp,zp⟩;rw[if_neg hk]at hP;have e1:((isP t.text:Int) != t.kind)=true:=zu hk
 refine Z4<|Zw ⟨λi=>if i=22 then .int .u8 (isP t.text)else .top,λ_=>.pure⟩ zk hG zk zk ?_
 refine Zsf (zi h1 (zi hg (zi @Zdb e1))) ?_;refine⟨p1,?_⟩;refine Zi rfl (λh2=>?_) (λh2=>?_);refine Z ?_;exact⟨by rw[hP],gx,zp,zp⟩;cases h2;have h1:decide ((r.i:Int)>=sl.l.length)=true:=zT;have hP:=Zyl (l:=sl.l) (i:=r.i) zo;refine ZTf h1 hG ?_;refine Zi rfl (λh2=>?_) (λh2=>?_);refine Z ?_;exact⟨by rw[hP],gx,zp,zp⟩;cases h2
theorem Z2e(G:Nat->V)(hG:GOk G)(sl:Sl Tk)(g:Nat)(r:RS)(hr:r.nodes.length<1000000):RdS 1012 [] G 312 [] sl g r (.int .i64 r.last) r:=by
 intro gx;refine Zo 1000 9 [.tmp 2] Tryz.func312 λX=>?_;simp only[Zab,Zva];refine Z ?_;exact⟨by rw[w64 zo zo]<;>rfl,gx,zp,zp⟩
theorem Zji(G:Nat->V)(hG:GOk G)(sl:Sl Tk)(g:Nat)(r:RS)(hr:r.nodes.length<1000000)(n:XN):
  RdS 1012 [] G 313 [Zxa n] sl g r (.bool true) (r.put n):=by
 intro gx;refine Zo 1000 15 [.tmp 4] Tryz.func313 λX=>?_;simp only[Zab,Zva,Z5a];refine Z1 ?_;intro g3
 refine AW.weak (Zt (λo=>o==1003) (l:=[(0,.ptr 8 g 0),(3,.view .new (Zxa n))])
  (m:=[(8,rdO 1012 [] sl g gx r),(1012,ndO gx r.nodes)]) ?_ ?_) ?_
 refine Zs ?_;exact⟨Fz.same _,Fz.ptr (v:=Zxa n) (c:=.new) (fz:=0) rfl zp⟩;simp only[Zv,Zz,and_true];exact⟨FzO.keep rfl zp,FzO.keep rfl zp⟩;simp only[Z5a];refine AW.later ?_;refine ZTf @Zva hG ?_;intro g11;refine Zrs (f:=Zxa) (l:=r.nodes) (l2:=[n]) (g:=gx) Z9d rfl rfl rfl zp (Z5 zo zO) λc2 g2=>?_;refine Zs ?_;refine Z1 ?_;refine AW.ret ?_;refine Zs ?_;refine⟨st [(4,.bool true)] [(8,rdO 1012 [] sl g g2 (r.put n)),(1012,ndO g2 (r.nodes++[n]))],Zt (λ_=>false) ?_ ?_,?_⟩;refine Zs ?_;exact Fz.same _;simp only[Zv,Zz,and_true];exact⟨FzO.keep rfl zp,Zvs (c:=c2) rfl zp⟩;refine Zs ?_;exact Z7a ⟨rfl,g2,zp,zp⟩
theorem Zli(G:Nat->V)(hG:GOk G)(sl:Sl Tk)(g:Nat)(r:RS)(hi:r.i<1000000)(hr:r.nodes.length<1000000)(op num:Int)(name:List UInt8)(x y z:Int):
  RdS 1012 [] G 331 [Zxa ⟨op,num,name,x,y,z⟩] sl g r (.bool true) (Z5g r op num name).2:=by
 intro gx;refine Zo 1000 18 [.tmp 4] Tryz.func331 λX=>?_
 have hw:IntKind.i64.wrap ((r.i:Int)+1)=((r.i+1:Nat):Int):=by rw[w64 zo zo];omega
 simp only[Zab,Zva,Z5a];refine Z1 ?_;intro g3;refine Z1f hw ?_;refine Z1 ?_;refine Z1 ?_;refine Z1 ?_;refine Z1 ?_;rw[<- Z5a ⟨op,num,name,-1,-1,-1⟩];refine Zca hG (Zji G hG sl g r.adv hr ⟨op,num,name,-1,-1,-1⟩) (gx:=gx) λgx'=>?_;refine Zu ?_;refine Z ?_;exact⟨rfl,gx',zp,zp⟩
theorem Zni(G:Nat->V)(hG:GOk G)(sl:Sl Tk)(hT:TkOk sl.l)(g:Nat)(r:RS)(hi:r.i<1000000)(w:List UInt8):
  RdS 1012 [] G 329 [.str w] sl g r (.bool (Z2p sl.l w r).1) (Z2p sl.l w r).2:=by
 intro gx;refine Zo 1000 19 [.tmp 4] Tryz.func329 λX=>?_
 have hw:IntKind.i64.wrap ((r.i:Int)+1)=((r.i+1:Nat):Int):=by rw[w64 zo zo];omega
 have hP:Z2p sl.l w r=if(Zea sl.l r.i).text≠w then(false,r.err 80)else(true,r.adv):=rfl
 refine Z1 ?_;refine Z1 ?_;refine Zca hG (Zki G hG sl hT g r hi) (gx:=gx) λgx'=>?_;refine Zu ?_;generalize Zea sl.l r.i=t at hP⊢
 by_cases ht:t.text=w
 rw[if_neg (zu ht)]at hP;refine Zi rfl (λh2=>?_) (λh2=>?_);rw[ht]at h2;simp at h2;refine Zf (zi @Zva hw) ?_;rw[hP];exact⟨rfl,gx',zp,zp⟩;rw[if_pos ht]at hP;refine Zi rfl (λh2=>?_) (λh2=>?_);refine Zf @Zva ?_;rw[hP];exact⟨rfl,gx',zp,zp⟩;have h2:t.text=w:=zu h2;exact absurd h2 ht
theorem Zcv:∀ t:List UInt8,(Zph t).length<=t.length
 |[]=>Nat.le_refl _
 |[c]=>Nat.le_refl _
 |c::d::r=>by
  rw[Zph]
  split
  have:=Zcv (d::r);simp only[List.length_cons]at this⊢;omega;exact Nat.le_refl _
theorem Zyfa(c:UInt8):((c.toNat:Int)==48)=(c==48):=by
 have:=Zav (λc=>((c.toNat:Int)==48)==(c==48)) (by decide +kernel) c;simpa using this
theorem Z2v(G:Nat->V)(hG:GOk G)(sl:Sl Tk)(g:Nat)(r:RS)(hi:r.i<1000000)(hr:r.nodes.length<1000000)(t:List UInt8)(ht:t.length<100000):
  RdS 1012 [] G 332 [.str t] sl g r (.bool (Zqj r t).1) (Zqj r t).2:=by
 intro gx;refine Zo 1000 31 [.tmp 4] Tryz.func332 λX=>?_
 have hP:Zqj r t=if(Zec (Zph t)).2≠0 then(false,r.err 60)else Z5g r 1 (Zec (Zph t)).1 []:=rfl
 have hl:=Zcv t;refine Z1 ?_;refine Zda (fun(_:Unit)=>st [(0,.ptr 8 g 0),(1,.str (Zph t))] [(8,rdO 1012 [] sl g gx r),(1012,ndO gx r.nodes)]) (λ_=>True) (λK1 hK1=>?_) ?_
 .refine AW.block ?_
  refine Zpb (fun(s:List UInt8)=>st [(0,.ptr 8 g 0),(1,.str s)] [(8,rdO 1012 [] sl g gx r),(1012,ndO gx r.nodes)])
   (λs=>Zph s=Zph t/\s.length<=t.length) (λs=>s.length) t ⟨rfl,Nat.le_refl _⟩ (Za zp (by simp -implicitDefEqProofs only[go_sem,seval,Zab];try rfl)) ?_
  rintro s ⟨hs,hsl⟩ L2 hL2;refine Z4 ?_
  by_cases hlen:s.length>1
  rotate_left;have h1:decide ((s.length:Int)>1)=false:=zF
  have he:Zph s=s:=by
   match s,hlen with
   |[],_=>rfl
   |[c],_=>rfl
   |c::d::r,h=>simp at h
  refine Z1f h1 ?_;refine Z0 ?_;exact hK1 _ () trivial (Za (by rw[<- hs,he];simp -implicitDefEqProofs only[go_sem,seval];try rfl) zp);have h1:decide ((s.length:Int)>1)=true:=zT
  obtain⟨c,d,q,hq⟩:∃ c d q,s=c::d::q:=by
   match s,hlen with
   |c::d::q,_=>exact⟨c,d,q,rfl⟩
  have hg:s[0]?=some c:=by rw[hq]<;>rfl
  have hdr:(s.drop 1).take (s.length-1)=d::q:=by rw[hq];simp
  have hT:Zph s=if c=48 then Zph (d::q)else s:=by rw[hq]<;>rfl
  have hll:(d::q).length+1=s.length:=by rw[hq];simp
  by_cases hc:c=48
  have e1:(c==48)=true:=zu hc;rw[if_pos hc]at hT;refine Z1f (zi h1 (zi hg (zi @Zyfa e1))) ?_;refine Z0 ?_;refine AW.block ?_;have hb:1<=s.length:=zo;refine Z1f (zi hb (zi hdr @Nat.le_refl)) ?_;exact hL2 _ ⟨d::q,zo,⟨by rw[<- hT];exact hs,zo⟩,Za zp zp⟩;have e1:(c==48)=false:=zu hc;rw[if_neg hc]at hT;refine Z1f (zi h1 (zi hg (zi @Zyfa e1))) ?_;refine Z0 ?_;exact hK1 _ () trivial (Za (by rw[<- hs,hT];simp -implicitDefEqProofs only[go_sem,seval];try rfl) zp)
 intro _ _;generalize Zph t=s at hP hl⊢;refine Z1 ?_;refine Zn hG ?_ (s:=(Z21 G hG s zo));generalize Zec s=q at hP⊢;obtain⟨n,e⟩:=q;simp only at hP;refine Zsf @encR.eq_1 ?_;refine Z4 ?_
 by_cases he:e=0
 have e1:(e==0)=true:=zu he;rw[if_neg (show ¬ e≠0 by simpa using he)]at hP;refine Zhc zk ?_;simp -implicitDefEqProofs only[go_sem,seval,bne,e1];refine Zbb rfl ?_;refine Z1 ?_;rw[<- Z5a ⟨1,n,[],0,0,0⟩];refine Zca hG (Zli G hG sl g r hi hr 1 n [] 0 0 0) (gx:=gx) λgx'=>?_;refine Zu ?_;refine Z ?_;rw[hP];exact⟨rfl,gx',zp,zp⟩;have e1:(e==0)=false:=zu he;rw[if_pos he]at hP;refine Zhc zk ?_;simp -implicitDefEqProofs only[go_sem,seval,bne,e1];refine Zi rfl (λh4=>?_) (λh4=>?_);refine Zf @Zva ?_;rw[hP];exact⟨rfl,gx,zp,zp⟩;cases h4
structure InnR(G:Nat->V)(sl:Sl Tk)(g:Nat)(inner:Inner)(i0:Nat):Prop where
 lev:∀ n r,1<=n->n<=9->i0<r.i->Zel sl.l r->RdS 1012 [] G 291 [.int .i64 n] sl g r (.bool (inner n r).1) (inner n r).2
 un:∀ r,i0<r.i->Zel sl.l r->RdS 1012 [] G 310 [] sl g r (.bool (inner 9 r).1) (inner 9 r).2
theorem Zina{l:List Tk}(hT:TkOk l)(i:Nat):(Zea l i).text.length<100000:=by
 unfold Zea
 split
 rename_i t h
 split
 exact hT.text _ (List.mem_of_getElem? h);exact Nat.zero_lt_succ _;exact Nat.zero_lt_succ _
theorem Z7t(l:List Tk){w:List UInt8}(hw:isP w≠0)(r:RS):Bal l 0 r (Z2p l w r).2/\((Z2p l w r).1=true->Bal l 1 r (Z2p l w r).2)/\((Z2p l w r).1=true->(Z2p l w r).2=r.adv):=by
 rw[Z3w l hw];refine⟨(Zxe l w r).1,(Zxe l w r).2,?_⟩;unfold Zxi
 split
 intro h;cases h;exact λ_=>rfl
theorem Z5q(G:Nat->V)(hG:GOk G)(sl:Sl Tk)(hT:TkOk sl.l)(g:Nat)(r:RS)(hr:Zel sl.l r)(hlt:r.i<sl.l.length)(inner:Inner)(hin:InnR G sl g inner r.i)(hb:Bals sl.l inner):
  RdS 1012 [] G 330 [] sl g r (.bool (Zqe sl.l inner r).1) (Zqe sl.l inner r).2:=by
 have hTl:=hT.len;intro gx;refine Zo 1000 47 [.tmp 2] Tryz.func330 λX=>?_
 have hP:Zqe sl.l inner r=andThen (inner 1 r.adv) λa=>andThen (Z2p sl.l Zdn a) λr2=>andThen (inner 1 r2) λb=>
  andThen (Z2p sl.l Zen b) λr3=>andThen (inner 1 r3) λc=>andThen (Z2p sl.l Zjg c) λr4=>(true,r4.put ⟨22,0,[],a.last,b.last,c.last⟩):=rfl
 generalize Zqe sl.l inner r=res at hP⊢;have had:Zel sl.l r.adv:=(Bal.adv hlt).ok hr
 have hw:IntKind.i64.wrap ((r.i:Int)+1)=((r.i+1:Nat):Int):=by rw[w64 zo zo];omega
 have c1:=hin.lev 1 r.adv zd zd (Nat.lt_succ_self _) had;have b1:=hb 1 r.adv;generalize inner 1 r.adv=x1 at hP c1 b1;obtain⟨t1,a⟩:=x1;simp only at c1 b1;have ha:=b1.ok had;have hau:r.i+1<=a.i:=b1.up;refine Z1 ?_;refine Z1f (zi @Zva hw) ?_;refine Z4 ?_
 cases t1 with
 |false=>
  rw[Zsa]at hP;refine Z1f @Zva ?_;refine Zca hG (c1) (gx:=gx) λgx1=>?_;refine Zu ?_;refine Zi rfl (λh19=>?_) (λh19=>?_);refine Z ?_;rw[hP];exact⟨rfl,gx1,zr,zr⟩;cases h19
 |true=>
 rw[Zla]at hP
 have hai:a.i<1000000:=by have:=ha.1;omega
 have han:a.nodes.length<1000000:=by have:=ha.1;have:=ha.2;omega
 have c2:=Zni G hG sl hT g a hai Zdn;have b2:=Z7t sl.l (w:=Zdn) (by decide +kernel) a;generalize Z2p sl.l Zdn a=x2 at hP c2 b2;obtain⟨t2,r2⟩:=x2;simp only at c2 b2
 cases t2 with
 |false=>
  rw[Zsa]at hP;refine Z1f @Zva ?_;refine Zca hG (c1) (gx:=gx) λgx1=>?_;refine Zu ?_;refine Zsf @Zva ?_;refine Zca hG (c2) (gx:=gx1) λgx2=>?_;refine Zu ?_;refine Zi rfl (λh19=>?_) (λh19=>?_);refine Z ?_;rw[hP];exact⟨rfl,gx2,zr,zr⟩;cases h19
 |true=>
 rw[Zla]at hP;have hr2:=(b2.2.1 rfl).ok ha;have e2:=b2.2.2 rfl
 have h2n:r2.nodes=a.nodes:=by rw[e2]<;>rfl
 have h2l:r2.last=a.last:=by rw[e2]<;>rfl
 have h2i:r2.i=a.i+1:=by rw[e2]<;>rfl
 have c3:=hin.lev 1 r2 zd zd zo hr2;have b3:=hb 1 r2;generalize inner 1 r2=x3 at hP c3 b3;obtain⟨t3,b⟩:=x3;simp only at c3 b3;have hbo:=b3.ok hr2;have hbu:r2.i<=b.i:=b3.up
 have hbi:b.i<1000000:=by have:=hbo.1;omega
 have hbn:b.nodes.length<1000000:=by have:=hbo.1;have:=hbo.2;omega
 refine Z1f @Zva ?_;refine Zca hG (c1) (gx:=gx) λgx1=>?_;refine Zu ?_;refine Zsf @Zva ?_;refine Zca hG (c2) (gx:=gx1) λgx2=>?_;refine Zu ?_;refine Z1f @Zva ?_
 have h2nn:r2.nodes.length<1000000:=by rw[h2n];exact han
 refine Zca hG (Z2e G hG sl g r2 h2nn) (gx:=gx2) λgx3=>?_;refine Zu ?_;rw[h2l];refine Z4 ?_
 cases t3 with
 |false=>
  rw[Zsa]at hP;refine Z1f @Zva ?_;refine Zca hG (c3) (gx:=gx3) λgx4=>?_;refine Zu ?_;refine Zi rfl (λh29=>?_) (λh29=>?_);refine Z ?_;rw[hP];exact⟨rfl,gx4,zr,zr⟩;cases h29
 |true=>
 rw[Zla]at hP;have c4:=Zni G hG sl hT g b hbi Zen;have b4:=Z7t sl.l (w:=Zen) (by decide +kernel) b;generalize Z2p sl.l Zen b=x4 at hP c4 b4;obtain⟨t4,r3⟩:=x4;simp only at c4 b4
 cases t4 with
 |false=>
  rw[Zsa]at hP;refine Z1f @Zva ?_;refine Zca hG (c3) (gx:=gx3) λgx4=>?_;refine Zu ?_;refine Zsf @Zva ?_;refine Zca hG (c4) (gx:=gx4) λgx5=>?_;refine Zu ?_;refine Zi rfl (λh29=>?_) (λh29=>?_);refine Z ?_;rw[hP];exact⟨rfl,gx5,zr,zr⟩;cases h29
 |true=>
 rw[Zla]at hP;have hr3:=(b4.2.1 rfl).ok hbo;have e3:=b4.2.2 rfl
 have h3n:r3.nodes=b.nodes:=by rw[e3]<;>rfl
 have h3l:r3.last=b.last:=by rw[e3]<;>rfl
 have h3i:r3.i=b.i+1:=by rw[e3]<;>rfl
 have c5:=hin.lev 1 r3 zd zd zo hr3;have b5:=hb 1 r3;generalize inner 1 r3=x5 at hP c5 b5;obtain⟨t5,c⟩:=x5;simp only at c5 b5;have hco:=b5.ok hr3
 have hci:c.i<1000000:=by have:=hco.1;omega
 refine Z1f @Zva ?_;refine Zca hG (c3) (gx:=gx3) λgx4=>?_;refine Zu ?_;refine Zsf @Zva ?_;refine Zca hG (c4) (gx:=gx4) λgx5=>?_;refine Zu ?_;refine Z1f @Zva ?_
 have h3nn:r3.nodes.length<1000000:=by rw[h3n];exact hbn
 refine Zca hG (Z2e G hG sl g r3 h3nn) (gx:=gx5) λgx6=>?_;refine Zu ?_;rw[h3l]
 cases t5 with
 |false=>
  rw[Zsa]at hP;refine Z1f @Zva ?_;refine Zca hG (c5) (gx:=gx6) λgx7=>?_;refine Zu ?_;refine Z ?_;rw[hP];exact⟨rfl,gx7,zr,zr⟩
 |true=>
 rw[Zla]at hP;have c6:=Zni G hG sl hT g c hci Zjg;have b6:=Z7t sl.l (w:=Zjg) (by decide +kernel) c;generalize Z2p sl.l Zjg c=x6 at hP c6 b6;obtain⟨t6,r4⟩:=x6;simp only at c6 b6
 cases t6 with
 |false=>
  rw[Zsa]at hP;refine Z1f @Zva ?_;refine Zca hG (c5) (gx:=gx6) λgx7=>?_;refine Zu ?_;refine Zsf @Zva ?_;refine Zca hG (c6) (gx:=gx7) λgx8=>?_;refine Zu ?_;refine Z ?_;rw[hP];exact⟨rfl,gx8,zr,zr⟩
 |true=>
 rw[Zla]at hP;have hr4:=(b6.2.1 rfl).ok hco;have e4:=b6.2.2 rfl
 have h4l:r4.last=c.last:=by rw[e4]<;>rfl
 have h4n:r4.nodes.length<1000000:=by have:=hr4.1;have:=hr4.2;omega
 refine Z1f @Zva ?_;refine Zca hG (c5) (gx:=gx6) λgx7=>?_;refine Zu ?_;refine Zsf @Zva ?_;refine Zca hG (c6) (gx:=gx7) λgx8=>?_;refine Zu ?_;refine Zsf @Zva ?_;refine Zca hG (Z2e G hG sl g r4 h4n) (gx:=gx8) λgx9=>?_;refine Zu ?_;rw[h4l];refine Zsf @Zva ?_;rw[<- Z5a ⟨22,0,[],a.last,b.last,c.last⟩];refine Zca hG (Zji G hG sl g r4 h4n ⟨22,0,[],a.last,b.last,c.last⟩) (gx:=gx9) λgxa=>?_;refine Zu ?_;refine Z ?_;rw[hP];exact⟨rfl,gxa,zr,zr⟩
theorem Zet(G:Nat->V)(hG:GOk G)(sl:Sl Tk)(hT:TkOk sl.l)(g:Nat)(r:RS)(hr:Zel sl.l r)(inner:Inner)(hin:InnR G sl g inner r.i)(hb:Bals sl.l inner):
  RdS 1012 [] G 309 [] sl g r (.bool (Z7v sl.l inner r).1) (Z7v sl.l inner r).2:=by
 have hTl:=hT.len
 have hri:r.i<1000000:=by have:=hr.1;omega
 have hrn:r.nodes.length<1000000:=by have:=hr.2;omega
 have hw:IntKind.i64.wrap ((r.i:Int)+1)=((r.i+1:Nat):Int):=by rw[w64 zo zo];omega
 intro gx;refine Zo 1000 83 [.tmp 2] Tryz.func309 λX=>?_
 have hP:Z7v sl.l inner r=if(Zea sl.l r.i).text=[40]then andThen (inner 1 r.adv) (Z2p sl.l [41])
  else if(Zea sl.l r.i).text=wIf then Zqe sl.l inner r
  else if(Zea sl.l r.i).text=[116,114,117,101]then Z5g r 3 0 []
  else if(Zea sl.l r.i).text=[102,97,108,115,101]then Z5g r 4 0 []
  else if(Zea sl.l r.i).text≠[]/\(Zea sl.l r.i).kind=1 then Zqj r (Zea sl.l r.i).text
  else if(Zea sl.l r.i).text≠[]/\(Zea sl.l r.i).kind=2 then Z5g r 2 0 (Zea sl.l r.i).text
  else(false,r.err 80):=rfl
 have htl:=Zina hT r.i;have hbr:=λh=>Z5q G hG sl hT g r hr h inner hin hb
 have hne:(Zea sl.l r.i).text≠[]->∃ t,sl.l[r.i]?=some t/\Zea sl.l r.i=t/\r.i<sl.l.length:=by
  intro h;unfold Zea at h⊢
  cases hg:sl.l[r.i]? with
  |none=>rw[hg]at h;exact absurd rfl h
  |some t=>
   rw[hg]at h;simp only at h
   split at h
   rename_i q;refine⟨t,rfl,?_,(List.getElem?_eq_some_iff.1 hg).1⟩;simp only;rw[if_pos q];exact absurd rfl h
 have hadv:(Zea sl.l r.i).text≠[]->Zel sl.l r.adv:=λh=>by
  obtain⟨t,_,_,q⟩:=hne h;exact(Bal.adv q).ok hr
 generalize Z7v sl.l inner r=res at hP⊢;refine Z1 ?_;refine Z1 ?_;refine Zca hG (Zki G hG sl hT g r hri) (gx:=gx) λgx1=>?_;refine Zu ?_;generalize Zea sl.l r.i=t at hP htl hadv hne⊢;obtain⟨k,t,p⟩:=t;simp only at hP htl hadv hne;refine Zda (fun(_:Unit)=>st [(0,.ptr 8 g 0)] [(8,rdO 1012 [] sl g gx1 r),(1012,ndO gx1 r.nodes)]) (λ_=>res=(false,r.err 80)) (λK1 hK1=>?_) ?_;rotate_left;intro _ hP;refine Zf @Zva ?_;rw[hP];exact⟨rfl,gx1,zr,zr⟩;refine AW.block ?_
 by_cases c1:t=[40]
 .have e1:(t==[40])=true:=zu c1
  have htn:t≠[]:=by rw[c1];simp
  rw[if_pos c1]at hP;have hc:=hin.lev 1 r.adv zd zd (Nat.lt_succ_self _) (hadv htn);have hbl:=(hb 1 r.adv).ok (hadv htn);generalize inner 1 r.adv=x at hc hP hbl;obtain⟨b,a⟩:=x;simp only at hc hbl
  have hai:a.i<1000000:=by have:=hbl.1;omega
  refine Z1f e1 ?_;refine Z1f (zi @Zva hw) ?_
  cases b with
  |false=>
   rw[Zsa]at hP;refine Z1f @Zva ?_;refine Zca hG (hc) (gx:=gx1) λgx2=>?_;refine Zu ?_;refine Z ?_;rw[hP];exact⟨rfl,gx2,zr,zr⟩
  |true=>
   rw[Zla]at hP;refine Z1f @Zva ?_;refine Zca hG (hc) (gx:=gx1) λgx2=>?_;refine Zu ?_;refine Zsf @Zva ?_;refine Zca hG (Zni G hG sl hT g a hai [41]) (gx:=gx2) λgx3=>?_;refine Zu ?_;generalize Z2p sl.l [41] a=y at hP⊢;obtain⟨b,a2⟩:=y
   cases b with
   |true=>
    refine Zs ?_;refine Z ?_;rw[hP];exact⟨rfl,gx3,zr,zr⟩
   |false=>
    refine Zs ?_;refine Z ?_;rw[hP];exact⟨rfl,gx3,zr,zr⟩
 have e1:(t==[40])=false:=zu c1;rw[if_neg c1]at hP;refine Z1f e1 ?_;refine Zbb rfl ?_
 try clear h2
 by_cases c2:t=wIf
 have e2:(t==[105,102])=true:=by rw[c2]<;>rfl
 have htn:t≠[]:=by rw[c2];decide
 obtain⟨_,_,_,hlt⟩:=hne htn;rw[if_pos c2]at hP;refine Z1f e2 ?_;refine Z1 ?_;refine Zca hG (hbr hlt) (gx:=gx1) λgx2=>?_;refine Zu ?_;refine Z ?_;rw[hP];exact⟨rfl,gx2,zr,zr⟩
 have e2:(t==[105,102])=false:=by rw[beq_eq_false_iff_ne];exact c2
 rw[if_neg c2]at hP;refine Z1f e2 ?_;refine Zbb rfl ?_
 try clear h2
 by_cases c3:t=[116,114,117,101]
 have e3:(t==[116,114,117,101])=true:=zu c3;rw[if_pos c3]at hP;refine Z1f e3 ?_;refine Z1 ?_;rw[<- Z5a ⟨3,0,[],0,0,0⟩];refine Zca hG (Zli G hG sl g r hri hrn 3 0 [] 0 0 0) (gx:=gx1) λgx2=>?_;refine Zu ?_;refine Z ?_;rw[hP];exact⟨rfl,gx2,zr,zr⟩;have e3:(t==[116,114,117,101])=false:=zu c3;rw[if_neg c3]at hP;refine Z1f e3 ?_;refine Zbb rfl ?_
 try clear h2
 by_cases c4:t=[102,97,108,115,101]
 have e4:(t==[102,97,108,115,101])=true:=zu c4;rw[if_pos c4]at hP;refine Z1f e4 ?_;refine Z1 ?_;rw[<- Z5a ⟨4,0,[],0,0,0⟩];refine Zca hG (Zli G hG sl g r hri hrn 4 0 [] 0 0 0) (gx:=gx1) λgx2=>?_;refine Zu ?_;refine Z ?_;rw[hP];exact⟨rfl,gx2,zr,zr⟩;have e4:(t==[102,97,108,115,101])=false:=zu c4;rw[if_neg c4]at hP;refine Z1f e4 ?_;refine Zbb rfl ?_
 try clear h2
 by_cases c5:t=[]
 .have e5:(t==[])=true:=by rw[c5]<;>rfl
  rw[if_neg (λh=>h.1 c5),if_neg (λh=>h.1 c5)]at hP;refine ZTf e5 hG ?_;refine Zbb rfl ?_
  try clear h2
  refine ZTf e5 hG ?_;refine Z0 ?_;exact hK1 _ () hP (Za zp zp)
 have e5:(t==[])=false:=zu c5;obtain⟨t0,hg,ht0,hlt⟩:=hne c5
 have hgk:sl.l[r.i]?=some ⟨k,t,p⟩:=by rw[hg,ht0]
 by_cases k1:k=1
 have q1:(k==1)=true:=zu k1;rw[if_pos ⟨c5,k1⟩]at hP;refine ZTf (zi e5 (zi @Zva (zi hgk (zi @Zdb q1)))) hG ?_;refine Z1f @Zva ?_;refine Zca hG (Z2v G hG sl g r hri hrn t htl) (gx:=gx1) λgx2=>?_;refine Zu ?_;refine Z ?_;rw[hP];exact⟨rfl,gx2,zr,zr⟩;have q1:(k==1)=false:=zu k1;rw[if_neg (λh=>k1 h.2)]at hP;refine ZTf (zi e5 (zi @Zva (zi hgk (zi @Zdb q1)))) hG ?_;refine Zbb rfl ?_
 try clear h2
 by_cases k2:k=2
 have q2:(k==2)=true:=zu k2;rw[if_pos ⟨c5,k2⟩]at hP;refine ZTf (zi e5 (zi @Zva (zi hgk (zi @Zdb q2)))) hG ?_;refine Z1f @Zva ?_;rw[<- Z5a ⟨2,0,t,0,0,0⟩];refine Zca hG (Zli G hG sl g r hri hrn 2 0 t 0 0 0) (gx:=gx1) λgx2=>?_;refine Zu ?_;refine Z ?_;rw[hP];exact⟨rfl,gx2,zr,zr⟩;have q2:(k==2)=false:=zu k2;rw[if_neg (λh=>k2 h.2)]at hP;refine ZTf (zi e5 (zi @Zva (zi hgk (zi @Zdb q2)))) hG ?_;refine Z0 ?_;exact hK1 _ () hP (Za zp (zpf @Zva))
end Go.Hs
end

section
namespace Go.Hs
def sgT(op:Nat):List UInt8:=(tabL.getD op ⟨[],0,0⟩).text
def wNot:List UInt8:=[110,111,116]
def wTrue:List UInt8:=[116,114,117,101]
def wFalse:List UInt8:=[102,97,108,115,101]
inductive Gr:Int->List (List UInt8)->X->Prop where
 |num {n:Int} {t:List UInt8} {v:Int}:isP t=1->Zec (Zrd t)=(v,0)->Gr n [t] (.leaf 1 v [])
 |name {n:Int} {t:List UInt8}:isP t=2->Gr n [t] (.leaf 2 0 t)
 |tr {n:Int}:Gr n [wTrue] (.leaf 3 0 [])
 |fa {n:Int}:Gr n [wFalse] (.leaf 4 0 [])
 |neg {n:Int} {ts:List (List UInt8)} {a:X}:n<=9->Gr 9 ts a->Gr n ([45]::ts) (.un 5 a)
 |not {n:Int} {ts:List (List UInt8)} {a:X}:n<=9->Gr 9 ts a->Gr n (wNot::ts) (.un 6 a)
 |par {n:Int} {ts:List (List UInt8)} {a:X}:Gr 1 ts a->Gr n ([40]::(ts++[[41]])) a
 |bin {n:Int} {op:Nat} {ta tb:List (List UInt8)} {a b:X}:7<=op->op<=21->n<=lvl op->Gr (lvl op) ta a->Gr (lvl op+1) tb b->Gr n (ta++sgT op::tb) (.bin op a b)
 |ite {n:Int} {ta tb tc:List (List UInt8)} {a b c:X}:Gr 1 ta a->Gr 1 tb b->Gr 1 tc c->Gr n (wIf::(ta++Zdn::(tb++Zen::(tc++[Zjg])))) (.ite a b c)
theorem Gr.mono{n m:Int}{ts:List (List UInt8)}{x:X}(h:Gr n ts x)(hm:m<=n):Gr m ts x:=by
 cases h with
 |num h1 h2=>exact .num h1 h2
 |name h1=>exact .name h1
 |tr=>exact .tr
 |fa=>exact .fa
 |neg h1 h2=>exact .neg (by omega) h2
 |not h1 h2=>exact .not (by omega) h2
 |par h1=>exact .par h1
 |bin h1 h2 h3 h4 h5=>exact .bin h1 h2 (by omega) h4 h5
 |ite h1 h2 h3=>exact .ite h1 h2 h3
theorem lvl_rng:∀ op,7<=op->op<=21->1<=lvl op/\lvl op<=8/\ofI (sgT op) 2=some op/\isP (sgT op)≠0:=by
 have:((List.range 22).all λop=>decide (7<=op->1<=lvl op/\lvl op<=8/\ofI (sgT op) 2=some op/\isP (sgT op)≠0))=true:=by decide +kernel
 intro op h1 h2;have:=List.all_eq_true.1 this op (List.mem_range.2 (by omega));simp only[decide_eq_true_eq]at this;exact this h1
theorem Gr.pos{n:Int}{ts:List (List UInt8)}{x:X}(h:Gr n ts x):0<ts.length:=by
 cases h<;>simp<;>omega
def wdOf(t:Tk):List UInt8:=if(isP t.text:Int)=t.kind then t.text else[]
theorem next_wd{l:List Tk}{i:Nat}{w:List UInt8}(h:(l.map wdOf)[i]?=some w):(Zea l i).text=w/\(Zea l i).kind=isP w:=by
 have hk:=Zsi l i
 have:(Zea l i).text=w:=by
  rw[List.getElem?_map]at h;unfold Zea
  cases hg:l[i]? with
  |none=>rw[hg]at h;cases h
  |some t=>
   rw[hg]at h;simp only[Option.map_some,Option.some.injEq]at h;simp only;rw[<- h];unfold wdOf
   split<;>rfl
 exact⟨this,by rw[<- hk,this]⟩
theorem Ztha{l:List Tk}{i:Nat}(h:i<l.length):(l.map wdOf)[i]?=some (Zea l i).text:=by
 have hg:(l.map wdOf)[i]?=some (wdOf l[i]):=by rw[List.getElem?_map,List.getElem?_eq_getElem h];rfl
 rw[hg,(next_wd hg).1]
def Seg(l:List Tk)(i:Nat)(ts:List (List UInt8)):Prop:=∃ pre post,l.map wdOf=pre++(ts++post)/\pre.length=i
theorem Seg.le{l:List Tk}{i:Nat}{b:List (List UInt8)}(h:Seg l i b):i+b.length<=l.length:=by
 obtain⟨pre,post,e,hp⟩:=h;have:=congrArg List.length e;simp only[List.length_map,List.length_append]at this;omega
theorem Seg.app{l:List Tk}{i:Nat}{a b:List (List UInt8)}(h:Seg l i a)(h2:Seg l (i+a.length) b):Seg l i (a++b):=by
 obtain⟨pre,post,e,hp⟩:=h;obtain⟨pre2,post2,e2,hp2⟩:=h2;refine⟨pre,post2,?_,hp⟩;rw[e]at e2
 have h1:pre++(a++post)=(pre++a)++post:=by simp
 rw[h1]at e2;obtain⟨q1,q2⟩:=List.append_inj e2 (by simp[hp,hp2]);rw[e,q2];simp
theorem Seg.one{l:List Tk}{i:Nat}{w:List UInt8}(hi:i<l.length)(h:(Zea l i).text=w):Seg l i [w]:=by
 have hg:=Ztha hi;rw[h]at hg;obtain⟨q1,q2⟩:=List.getElem?_eq_some_iff.1 hg;refine⟨(l.map wdOf).take i,(l.map wdOf).drop (i+1),?_,?_⟩;rw[<- q2,List.singleton_append,<- List.drop_eq_getElem_cons q1,List.take_append_drop];rw[List.length_take];omega
def after(r:RS)(k:Nat)(x:X):RS:=⟨r.i+k,r.nodes++x.row r.nodes.length,r.e⟩
theorem Z9ga{t:List UInt8}(h:isP t=1):0<=(Zec (Zrd t)).1:=by
 have hd:=(Zkia h).2
 have h1:(Zrd t).all Zoa=true/\Zrd t≠[]:=by
  unfold Zrd
  split
  exact⟨by decide,by simp⟩;rename_i hn;refine⟨?_,hn⟩;rw[List.all_eq_true]at hd⊢;exact λx hx=>hd x ((List.dropWhile_sublist _).mem hx)
 obtain⟨h1,h2⟩:=h1;generalize Zrd t=s at h1 h2
 have hh':(s.head? == some 45)=false:=by
  cases s with
  |nil=>exact absurd rfl h2
  |cons c r=>
   rw[beq_eq_false_iff_ne];intro hc
   have hc:c=45:=by simpa using hc
   subst hc;rw[List.all_cons]at h1
   revert h1
   simp[Zoa]
 unfold Zec;rw[hh'];simp only[Bool.false_eq_true,if_false,or_false]
 split
 exact Int.le_refl _;unfold Z80
 split
 exact Int.natCast_nonneg _;exact Int.le_refl _
theorem Gr.ok{n:Int}{ts:List (List UInt8)}{x:X}(h:Gr n ts x):x.ok=true:=by
 induction h with
 |@num n t v h1 h2=>
  have hp:=Z9ga h1;rw[h2]at hp;have hp:0<=v:=hp
  have:Zqd ⟨1,v,[],-1,-1,-1⟩=true:=by
   unfold Zqd;rw[if_neg (by simp;omega),if_neg (by simp)];rfl
  simp only[X.ok,this,Bool.true_and];rfl
 |@name n t h1=>
  have:Zqd ⟨2,0,t,-1,-1,-1⟩=true:=by
   unfold Zqd;rw[if_neg (by simp),if_pos rfl,h1];rfl
  simp only[X.ok,this,Bool.true_and];rfl
 |tr=>rfl
 |fa=>rfl
 |neg _ _ ih=>simp only[X.ok,ih,Bool.and_true];rfl
 |not _ _ ih=>simp only[X.ok,ih,Bool.and_true];rfl
 |par _ ih=>exact ih
 |bin h1 h2 _ _ _ ih1 ih2=>
  simp only[X.ok,ih1,ih2,Bool.and_true,Bool.and_eq_true,decide_eq_true_eq];omega
 |ite _ _ _ i1 i2 i3=>simp only[X.ok,i1,i2,i3];rfl
theorem sgT_of{t:List UInt8}{op:Nat}(h:ofI t 2=some op):sgT op=t:=by
 obtain⟨s,h1,h2,_⟩:=Zpk h;unfold sgT;rw[List.getD_eq_getElem?_getD,h1];exact h2
end Go.Hs
end

section
namespace Go.Hs
open Go.Proofs
set_option maxRecDepth 10000
def sgnR:List (List UInt8):=[[],[],[],[],[],[45],[110,111,116],[42],[100,105,118],[109,111,100],[43],[45],[60],[60,61],[62],[62,61],[61],[60,62],[97,110,100],[111,114],[120,111,114],[105,109,112,108,105,101,115]]
theorem Zgma(op:Nat)(h:5<=op)(h2:op<=21):sgnR[op]?=some (sgT op):=by
 have:((List.range 22).all λop=>decide (op<5)||sgnR[op]? == some (sgT op))=true:=by decide +kernel
 have:=List.all_eq_true.1 this op (List.mem_range.2 zo);simp only[Bool.or_eq_true,decide_eq_true_eq,beq_iff_eq]at this
 rcases this with h|h
 omega;exact h
theorem Z11(G:Nat->V)(hG:GOk G):Spec Tryz.prog G 333 [] Zk (λv _=>v=Zb .new 1 V.str (.mk false sgnR)):=by
 refine Zo 0 2 [.tmp 0] Tryz.func333 λX=>?_;refine Z1 ?_;refine Z1 ?_;intro g1;refine AW.weak (Zt (λo=>o==1) (l:=[(0,Zb .new 1 V.str (.mk false sgnR))]) (m:=[]) ?_ trivial) ?_;refine Zs ?_;exact Z4c (f:=V.str) (l:=sgnR) (m:=1) (g:=g1) (fz:=0) (c:=.new) rfl zp (λ_=>rfl);exact Zr
def levL:List V:=[.int .i64 0,.int .i64 10,.int .i64 10,.int .i64 10,.int .i64 10,.int .i64 9,.int .i64 9,.int .i64 8,.int .i64 8,.int .i64 8,.int .i64 7,.int .i64 7,.int .i64 6,.int .i64 6,.int .i64 6,.int .i64 6,.int .i64 5,.int .i64 5,.int .i64 4,.int .i64 3,.int .i64 2,.int .i64 1,.int .i64 10]
theorem Zmna(op:Nat)(h:op<23):levL[op]?=some (.int .i64 (lvl op)):=by
 match op,h with
 |0,_=>rfl
 |1,_=>rfl
 |2,_=>rfl
 |3,_=>rfl
 |4,_=>rfl
 |5,_=>rfl
 |6,_=>rfl
 |7,_=>rfl
 |8,_=>rfl
 |9,_=>rfl
 |10,_=>rfl
 |11,_=>rfl
 |12,_=>rfl
 |13,_=>rfl
 |14,_=>rfl
 |15,_=>rfl
 |16,_=>rfl
 |17,_=>rfl
 |18,_=>rfl
 |19,_=>rfl
 |20,_=>rfl
 |21,_=>rfl
 |22,_=>rfl
 |n+23,h=>exact absurd h zo
theorem Z1ga(G:Nat->V)(hG:GOk G)(op:Nat)(hop:op<23):Spec Tryz.prog G 334 [.int .u8 op] Zk (λv _=>v=.int .i64 (lvl op)):=by
 refine Zo 0 7 [.tmp 2] Tryz.func334 λX=>?_;have hg:=Zmna op hop;unfold levL at hg;have h23:(op:Int)<23:=zo;refine Z1 ?_;refine Z1f (zi hg (zi h23 (zi @Int.natCast_nonneg (zi @Nat.mul_one @Nat.zero_add)))) ?_;intro g3;exact Zr
theorem Zzfa{t:List UInt8}{op:Nat}(h1:7<=op)(h2:op<=21):(t≠[]/\sgT op=t)↔ofI t 2=some op:=by
 constructor
 rintro⟨_,rfl⟩;exact(lvl_rng op h1 h2).2.2.1;intro h;exact⟨(Zpk h).choose_spec.2.2.2,sgT_of h⟩
theorem wu8R{z:Int}(h:0<=z)(h2:z<256):IntKind.u8.wrap z=z:=by
 unfold IntKind.wrap;simp[IntKind.signed,IntKind.bits];omega
theorem Z31(G:Nat->V)(hG:GOk G)(sl:Sl Tk)(hT:TkOk sl.l)(g:Nat)(r:RS)(hr:r.i<1000000)(n:Int):
  RdS 1012 [] G 311 [.int .i64 n] sl g r (.int .u8 (Z70 sl.l n r.i)) r:=by
 intro gx;refine Zo 1000 32 [.tmp 4] Tryz.func311 λX=>?_
 have hP:Z70 sl.l n r.i=match ofI (Zea sl.l r.i).text 2 with|some op=>if lvl op=n then op else 0|none=>0:=rfl
 generalize Z70 sl.l n r.i=res at hP⊢;refine Z1 ?_;refine Z1 ?_;refine Zca hG (Zki G hG sl hT g r hr) (gx:=gx) λgx1=>?_;refine Zu ?_;generalize(Zea sl.l r.i).text=t at hP⊢;refine Z1 ?_;refine Zc hG ?_ (s:=(Z11 G hG));refine Z1 ?_;refine AW.block ?_
 refine Z9 22 (λk (_:Unit)=>st [(0,.ptr 8 g 0),(1,.int .i64 n),(5,.str t),(6,Zb .new 1 V.str (.mk false sgnR)),(7,.int .u8 k)] [(8,rdO 1012 [] sl g gx1 r),(1012,ndO gx1 r.nodes)])
  (λk _=>7<=k/\∀ j,7<=j->j<k->¬ (ofI t 2=some j/\lvl j=n)) 7 () zd ⟨Nat.le_refl _,λj h1 h2=>zo⟩
  (Za zp zp) ?_
 rintro k _ hk ⟨hk7,hR⟩ L3 hL3;refine Z1 ?_;refine Zi rfl (λh12=>?_) (λh12=>?_)
 .have hk1:k<=21:=by have h12:decide ((k:Int)<=21)=true:=h12;simp at h12;omega
  have hg:=Zgma k zo hk1
  have hnext:¬ (ofI t 2=some k/\lvl k=n)->∀ j,7<=j->j<k+1->¬ (ofI t 2=some j/\lvl j=n):=by
   intro h j h1 h2
   by_cases q:j=k
   subst q;exact h;exact hR j h1 zo
  have hwr:IntKind.u8.wrap ((k:Int)+1)=((k+1:Nat):Int):=by rw[wu8R zo zo];omega
  refine Z0 ?_;refine Z4 ?_;refine AW.block ?_
  by_cases ht:t=[]
  have e1:(t==[])=true:=by rw[ht]<;>rfl
  refine Z1f e1 ?_;refine Z1f hwr ?_;exact hL3 _ ⟨zo,(),⟨zo,hnext (λh=>(Zzfa hk7 hk1).2 h.1 |>.1 ht)⟩,Za zp zp⟩;have e1:(t==[])=false:=zu ht
  by_cases hs:sgT k=t
  rotate_left;have e2:(sgT k==t)=false:=zu hs;refine Z1f (zi e1 (zi hg e2)) ?_;refine Z1f hwr ?_;exact hL3 _ ⟨zo,(),⟨zo,hnext (λh=>hs ((Zzfa hk7 hk1).2 h.1).2)⟩,Za zp zp⟩;have e2:(sgT k==t)=true:=zu hs;have ho:=(Zzfa hk7 hk1).1 ⟨ht,hs⟩;refine Z1f (zi e1 (zi hg e2)) ?_;refine Zc hG ?_ (s:=(Z1ga G hG k zo));rw[ho]at hP;simp only at hP
  by_cases hl:lvl k=n
  rw[if_pos hl]at hP;have e3:(lvl k==n)=true:=zu hl;rw[e3];refine Z ?_;rw[hP];exact⟨rfl,gx1,zr,zr⟩;have e3:(lvl k==n)=false:=zu hl;rw[e3];refine Z1f hwr ?_;exact hL3 _ ⟨zo,(),⟨zo,hnext (λh=>hl h.2)⟩,Za zp zp⟩
 have hk1:k=22:=by have h12:decide ((k:Int)<=21)=false:=h12;simp at h12;omega
 refine Z0 ?_
 have hP:res=0:=by
  rw[hP]
  cases ho:ofI t 2 with
  |none=>rfl
  |some op=>
   simp only;rw[if_neg];intro hl;have:=Zqt ho;exact hR op this.1 zo ⟨ho,hl⟩
 refine Z ?_;rw[hP];exact⟨rfl,gx1,zr,zr⟩
theorem Z01(G:Nat->V)(hG:GOk G)(sl:Sl Tk)(hT:TkOk sl.l)(g:Nat)(r:RS)(hr:Zel sl.l r)(inner:Inner)(hin:InnR G sl g inner r.i)(hb:Bals sl.l inner):
  RdS 1012 [] G 310 [] sl g r (.bool (unR sl.l inner r).1) (unR sl.l inner r).2:=by
 have hTl:=hT.len
 have hri:r.i<1000000:=by have:=hr.1;omega
 have hw:IntKind.i64.wrap ((r.i:Int)+1)=((r.i+1:Nat):Int):=by rw[w64 zo zo];omega
 intro gx;refine Zo 1000 29 [.tmp 2] Tryz.func310 λX=>?_
 have hP:unR sl.l inner r=if(Zea sl.l r.i).text=[45]then andThen (inner 9 r.adv) λa=>(true,a.put ⟨5,0,[],a.last,-1,-1⟩)
  else if(Zea sl.l r.i).text=[110,111,116]then andThen (inner 9 r.adv) λa=>(true,a.put ⟨6,0,[],a.last,-1,-1⟩)
  else Z7v sl.l inner r:=rfl
 have hpr:=Zet G hG sl hT g r hr inner hin hb
 have hlt:(Zea sl.l r.i).text≠[]->r.i<sl.l.length:=by
  intro h;rw[<- Nat.not_le];intro h2;apply h;rw[Zyl h2]
 generalize unR sl.l inner r=res at hP⊢;generalize Z7v sl.l inner r=pr at hP hpr;refine Z1 ?_;refine Z1 ?_;refine Zda (fun(x:Nat×Int)=>st [(0,.ptr 8 g 0),(3,.int .u8 x.2)] [(8,rdO 1012 [] sl g x.1 r),(1012,ndO x.1 r.nodes)]) (λx=>r.i<sl.l.length/\res=andThen (inner 9 r.adv) λa=>(true,a.put ⟨x.2,0,[],a.last,-1,-1⟩)) (λK1 hK1=>?_) ?_
 .refine Z1 ?_
  refine Zca hG (Zki G hG sl hT g r hri) (gx:=gx) λgx1=>?_;refine Zu ?_;generalize(Zea sl.l r.i).text=t at hP hlt⊢;refine AW.block ?_
  by_cases c1:t=[45]
  have e1:(t==[45])=true:=zu c1;rw[if_pos c1]at hP;refine Z1f e1 ?_;refine Z1 ?_;exact hK1 _ (gx1,5) ⟨hlt (by rw[c1];simp),hP⟩ (Za zp zp);have e1:(t==[45])=false:=zu c1;rw[if_neg c1]at hP;refine Z1f e1 ?_;refine Zbb rfl ?_
  try clear h2
  by_cases c2:t=[110,111,116]
  have e2:(t==[110,111,116])=true:=zu c2;rw[if_pos c2]at hP;refine Z1f e2 ?_;refine Z1 ?_;exact hK1 _ (gx1,6) ⟨hlt (by rw[c2];simp),hP⟩ (Za zp zp);have e2:(t==[110,111,116])=false:=zu c2;rw[if_neg c2]at hP;refine Z1f e2 ?_;refine Z1 ?_;refine Zca hG (hpr) (gx:=gx1) λgx2=>?_;refine Zu ?_;refine Z ?_;rw[hP];exact⟨rfl,gx2,zr,zr⟩
 rintro⟨gx,op⟩ ⟨hl,hP⟩
 replace hP:res=andThen (inner 9 r.adv) λa=>(true,a.put ⟨op,0,[],a.last,-1,-1⟩):=hP
 have had:Zel sl.l r.adv:=(Bal.adv hl).ok hr;have hc:=hin.un r.adv (Nat.lt_succ_self _) had;have hbl:=(hb 9 r.adv).ok had;generalize inner 9 r.adv=x at hc hP hbl;obtain⟨b,a⟩:=x;simp only at hc hbl
 have han:a.nodes.length<1000000:=by have:=hbl.1;have:=hbl.2;omega
 refine Z1f (zi @Zva hw) ?_
 cases b with
 |false=>
  rw[Zsa]at hP;refine Z1f @Zva ?_;refine Zca hG (hc) (gx:=gx) λgx2=>?_;refine Zu ?_;refine Z ?_;rw[hP];exact⟨rfl,gx2,zr,zr⟩
 |true=>
  rw[Zla]at hP;refine Z1f @Zva ?_;refine Zca hG (hc) (gx:=gx) λgx2=>?_;refine Zu ?_;refine Zsf @Zva ?_;refine Zca hG (Z2e G hG sl g a han) (gx:=gx2) λgx3=>?_;refine Zu ?_;refine Zsf @Zva ?_;rw[<- Z5a ⟨op,0,[],a.last,-1,-1⟩];refine Zca hG (Zji G hG sl g a han ⟨op,0,[],a.last,-1,-1⟩) (gx:=gx3) λgx4=>?_;refine Zu ?_;refine Z ?_;rw[hP];exact⟨rfl,gx4,zr,zr⟩
theorem Znna{l:List Tk}{f:Nat}(k:Nat)(r:RS):Bal l 0 r (Zq2 l (Zga l f) k r).2:=by
 rw[Z3l (Zvf l f) (λ_ _=>Zbq)];exact Zhd (Z0i (Z4b l f) r) λ_=>(Z0i (Z4b l f) r).trans (Znp (Z4b l f) _ _ _)
theorem Z19(l:List Tk)(inner:Inner)(n:Int)(m:Nat)(r:RS):Zkg l inner n (m+1) r=if Z70 l n r.i=0 then(true,r)else andThen (inner (n+1) r.adv) λa=>Zkg l inner n m (a.put ⟨Z70 l n r.i,0,[],r.last,a.last,-1⟩):=rfl
theorem twoR_op{l:List Tk}{n:Int}{i:Nat}(h:Z70 l n i≠0):i<l.length/\Z70 l n i<=21:=by
 unfold Z70 at h⊢
 cases ho:ofI (Zea l i).text 2 with
 |none=>rw[ho]at h;exact absurd rfl h
 |some op=>
  have h2:=Zqt ho
  have:Zxm l i=some op:=by rw[Z0n,ho]
  refine⟨Zxl this,?_⟩;simp only
  split<;>omega
theorem Z41(G:Nat->V)(hG:GOk G)(sl:Sl Tk)(hT:TkOk sl.l)(g:Nat):∀ (f:Nat) (r:RS),sl.l.length<f+r.i->Zel sl.l r ->
  (∀ n,1<=n->n<=9->RdS 1012 [] G 291 [.int .i64 n] sl g r (.bool (Zga sl.l f n r).1) (Zga sl.l f n r).2) /\
  RdS 1012 [] G 310 [] sl g r (.bool (Zga sl.l f 9 r).1) (Zga sl.l f 9 r).2:=by
 have hTl:=hT.len;intro f
 induction f with
 |zero=>intro r hf hr;have:=hr.1;omega
 |succ f ih=>
 intro r hf hr;have hin:InnR G sl g (Zga sl.l f) r.i:=⟨λn r' h1 h9 hi hr'=>(ih r' zo hr').1 n h1 h9,λr' hi hr'=>(ih r' zo hr').2⟩;have hbs:=Z4b sl.l f;have hun:=Z01 G hG sl hT g r hr _ hin hbs
 have hcl:∀ k:Nat,Zga sl.l (f+1) (9-k) r=Zq2 sl.l (Zga sl.l f) k r:=by
  intro k
  rw[Z3l (Zvf sl.l f) (λ_ _=>Zbq)]<;>rfl
 have h9:Zga sl.l (f+1) 9 r=unR sl.l (Zga sl.l f) r:=hcl 0;rw[h9];refine⟨?_,hun⟩
 suffices h:∀ k:Nat,k<=8->RdS 1012 [] G 291 [.int .i64 (9-k)] sl g r (.bool (Zq2 sl.l (Zga sl.l f) k r).1) (Zq2 sl.l (Zga sl.l f) k r).2 by
  intro n h1 hn9;have:=h (9-n).toNat zo;rw[<- hcl,show(9:Int)-((9-n).toNat:Nat)=n by omega]at this;exact this
 intro k
 induction k with
 |zero=>
  intro _ gx;refine Zo 1000 46 [.tmp 4] Tryz.func291 λX=>?_;have hP:Zq2 sl.l (Zga sl.l f) 0 r=unR sl.l (Zga sl.l f) r:=rfl;generalize Zq2 sl.l (Zga sl.l f) 0 r=res at hP⊢;generalize unR sl.l (Zga sl.l f) r=y at hP hun;refine Z1 ?_;refine Z1 ?_;refine Z1 ?_;refine Z1 ?_;refine Zca hG (hun) (gx:=gx) λgx1=>?_;refine Zu ?_;refine Z ?_;rw[hP];exact⟨rfl,gx1,zr,zr⟩
 |succ k ihk=>
  intro hk gx;have ihk:=ihk zo;obtain⟨n,hn⟩:∃ n:Int,n=8-k:=⟨_,rfl⟩;have e9:(9:Int)-((k+1:Nat):Int)=n:=zo;have e9k:(9:Int)-(k:Int)=n+1:=zo;have hn1:1<=n/\n<=8:=zo;rw[e9];rw[e9k]at ihk;refine Zo 1000 46 [.tmp 4] Tryz.func291 λX=>?_
  have hP:Zq2 sl.l (Zga sl.l f) (k+1) r=andThen (Zq2 sl.l (Zga sl.l f) k r) (Zkg sl.l (Zga sl.l f) n (sl.l.length+1)):=by rw[Zq2,hn]
  have hlb:=Znna (l:=sl.l) (f:=f) k r;generalize Zq2 sl.l (Zga sl.l f) (k+1) r=res at hP⊢;generalize Zq2 sl.l (Zga sl.l f) k r=y at hP ihk hlb;obtain⟨b,q0⟩:=y;simp only at ihk hlb
  have q10:(n==10)=false:=by rw[beq_eq_false_iff_ne];omega
  have q9:(n==9)=false:=by rw[beq_eq_false_iff_ne];omega
  have hw1:IntKind.i64.wrap (n+1)=n+1:=w64 zo zo;refine Z1 ?_;refine Z1f q10 ?_;refine Z1f q9 ?_;refine Z0 ?_;refine Z4 ?_
  cases b with
  |false=>
   rw[Zsa]at hP;refine Z1f hw1 ?_;refine Zca hG (ihk) (gx:=gx) λgx1=>?_;refine Zu ?_;refine Z ?_;rw[hP];exact⟨rfl,gx1,zr,zr⟩
  |true=>
  rw[Zla]at hP;have hq0:=hlb.ok hr;refine Z1f hw1 ?_;refine Zca hG (ihk) (gx:=gx) λgx1=>?_;refine Zu ?_;refine Z0 ?_;refine AW.block ?_
  refine Zpb (fun(x:Nat×Nat×RS)=>st [(0,.ptr 8 g 0),(1,.int .i64 n)] [(8,rdO 1012 [] sl g x.1 x.2.2),(1012,ndO x.1 x.2.2.nodes)])
   (λx=>res=Zkg sl.l (Zga sl.l f) n x.2.1 x.2.2/\Zel sl.l x.2.2/\r.i<=x.2.2.i/\sl.l.length<x.2.1+x.2.2.i) (λx=>x.2.1) (gx1,sl.l.length+1,q0) ⟨hP,hq0,hlb.up,Nat.lt_add_right _ (Nat.lt_succ_self _)⟩
   (Za zp zp) ?_
  try clear hP
  rintro⟨gy,m,q⟩ ⟨hP,hq,hqi,hm⟩ L3 hL3
  replace hP:res=Zkg sl.l (Zga sl.l f) n m q:=hP
  replace hq:Zel sl.l q:=hq
  replace hqi:r.i<=q.i:=hqi
  replace hm:sl.l.length<m+q.i:=hm
  obtain⟨m,rfl⟩:∃ m',m=m'+1:=⟨m-1,by have:=hq.1;omega⟩
  have hqI:q.i<1000000:=by have:=hq.1;omega
  have hqn:q.nodes.length<1000000:=by have:=hq.1;have:=hq.2;omega
  rw[Z19]at hP;have htw:=twoR_op (l:=sl.l) (n:=n) (i:=q.i);refine Z1 ?_;refine Zca hG (Z31 G hG sl hT g q hqI n) (gx:=gy) λgz=>?_;refine Zu ?_;generalize Z70 sl.l n q.i=op at hP htw⊢;refine Z1 ?_
  by_cases ho:op=0
  have e1:(((op:Nat):Int)==0)=true:=by rw[ho]<;>rfl
  rw[if_pos ho]at hP;rw[e1];refine Z ?_;rw[hP];exact⟨rfl,gz,zr,zr⟩
  have e1:(((op:Nat):Int)==0)=false:=by rw[beq_eq_false_iff_ne];omega
  rw[if_neg ho]at hP;rw[e1];refine Z0 ?_;obtain⟨hil,hop21⟩:=htw ho
  have hw:IntKind.i64.wrap ((q.i:Int)+1)=((q.i+1:Nat):Int):=by rw[w64 zo zo];omega
  have hadv:Zel sl.l q.adv:=(Bal.adv hil).ok hq;have hc:=hin.lev (n+1) q.adv zo zo (by show r.i<q.i+1;omega) hadv;have hcb:=hbs (n+1) q.adv;generalize Zga sl.l f (n+1) q.adv=z at hP hc hcb;obtain⟨b,a⟩:=z;simp only at hc hcb;have ha:=hcb.ok hadv;have haup:q.i+1<=a.i:=hcb.up
  have han:a.nodes.length<1000000:=by have:=ha.1;have:=ha.2;omega
  refine Z1 ?_;refine Zca hG (Z2e G hG sl g q hqn) (gx:=gz) λgz1=>?_;refine Zu ?_;refine Z1f (zi @Zva hw) ?_;refine Z4 ?_
  cases b with
  |false=>
   rw[Zsa]at hP;refine Z1f (zi @Zva hw1) ?_;refine Zca hG (hc) (gx:=gz1) λgz2=>?_;refine Zu ?_;refine Zi rfl (λh11=>?_) (λh11=>?_);refine Z ?_;rw[hP];exact⟨rfl,gz2,zr,zr⟩;cases h11
  |true=>
   rw[Zla]at hP;refine Z1f (zi @Zva hw1) ?_;refine Zca hG (hc) (gx:=gz1) λgz2=>?_;refine Zu ?_;refine Z1 ?_;refine Zca hG (Z2e G hG sl g a han) (gx:=gz2) λgz3=>?_;refine Zu ?_;refine Zsf @Zva ?_;rw[<- Z5a ⟨op,0,[],q.last,a.last,-1⟩];refine Zca hG (Zji G hG sl g a han ⟨op,0,[],q.last,a.last,-1⟩) (gx:=gz3) λgz4=>?_;refine Zu ?_
   have hres:Zel sl.l (a.put ⟨op,0,[],q.last,a.last,-1⟩):=⟨ha.1,by
    have h1:=hcb.cnt;have h2:=hq.2
    show(a.nodes++[_]).length<=a.i
    rw[List.length_append,List.length_singleton];have h3:a.nodes.length+(q.i+1)+0<=q.nodes.length+a.i:=h1
    omega⟩
   refine hL3 _ ⟨(gz4,m,a.put ⟨op,0,[],q.last,a.last,-1⟩),Nat.lt_succ_self _,⟨hP,hres,?_,?_⟩,Za zp (by simp -implicitDefEqProofs only[go_sem,seval];try exact⟨rfl,rfl⟩)⟩
   show r.i<=a.i
   omega
   show sl.l.length<m+a.i
   omega
def encRr(c:Col)(p:List XN×Int×Int):V:=.tuple [encXs c p.1,.int .i64 p.2.1,.int .i64 p.2.2]
theorem Z2r(G:Nat->V)(hG:GOk G)(c:Col)(sl:Sl Tk)(hT:TkOk sl.l):Spec Tryz.prog G 273 [Zb c 3 Zeb sl] Zk (λv _=>v=encRr .new (Zhb sl.l)):=by
 have hTl:=hT.len;refine Zo 0 34 [.tmp 2,.tmp 3,.tmp 4] Tryz.func273 λX=>?_
 have hP:Zhb sl.l=if(Zga sl.l (sl.l.length+1) 1 ⟨0,[],0⟩).1=false then(([]:List XN),((Zga sl.l (sl.l.length+1) 1 ⟨0,[],0⟩).2.i:Int),(Zga sl.l (sl.l.length+1) 1 ⟨0,[],0⟩).2.e)
  else if Zkb (Zga sl.l (sl.l.length+1) 1 ⟨0,[],0⟩).2.nodes>64 then([],0,3)else((Zga sl.l (sl.l.length+1) 1 ⟨0,[],0⟩).2.nodes,((Zga sl.l (sl.l.length+1) 1 ⟨0,[],0⟩).2.i:Int),(0:Int)):=rfl
 have hr0:Zel sl.l ⟨0,[],0⟩:=⟨Nat.zero_le _,Nat.le_refl _⟩;have hcl:=λg=>(Z41 G hG sl hT g (sl.l.length+1) ⟨0,[],0⟩ (Nat.lt_succ_self _) hr0).1 1 zd zd;have hnm2:=Zch hT;have hok:=(Z4b sl.l (sl.l.length+1) 1 ⟨0,[],0⟩);generalize Zhb sl.l=res at hP⊢;generalize Zga sl.l (sl.l.length+1) 1 ⟨0,[],0⟩=y at hP hcl hok hnm2;obtain⟨b,r⟩:=y;simp only at hP hcl hok hnm2
 have hrl:r.nodes.length<1000000:=by have:=(hok.ok hr0);have h1:=this.1;have h2:=this.2;omega
 refine Z1 ?_;refine Z1 ?_;intro g8;refine AW.weak (Zt (λ_=>false) (l:=[(5,.ptr 8 g8 0)]) (m:=[(8,.cells .new g8 0 [Zb .any 3 Zeb sl,.int .i64 0,.nils,.int .i64 0])]) ?_ ?_) ?_;refine Zs ?_;exact Fz.same _;simp only[Zv,Zz,and_true];exact FzO.of (c:=.new) (fz:=0) (cs:=[Zb c 3 Zeb sl,.int .i64 0,.nils,.int .i64 0]) rfl zp ⟨Fz.any (Zta _ _ _),Fz.same _,Fz.same _,Fz.same _,trivial⟩;refine Z1 ?_;refine Z10 hG (hcl g8) zk (λF=>rfl) rfl rfl rfl _ zp (by simp only[Z8,List.map_cons,List.map_nil,Zta];rfl) zp λgx=>?_;refine Zu ?_
 cases b with
 |false=>
  refine Ztc rfl ?_;refine AW.weak (Zt (λo=>o==8) (l:=[(5,.view .new (.agg [Zb .any 3 Zeb sl,.int .i64 r.i,grown 1012 gx 6 r.nodes,.int .i64 r.e]))]) (m:=[]) ?_ trivial) ?_;refine Zs ?_;exact Fz.ptr (v:=.agg [Zb .any 3 Zeb sl,.int .i64 r.i,grown 1012 gx 6 r.nodes,.int .i64 r.e]) (c:=.new) (fz:=0) rfl zp;refine ZT hG ?_;refine Z ?_
  rw[hP]<;>rfl
 |true=>
 refine Z0 ?_;refine AW.weak (Zt (λo=>o==1012) (l:=[(5,.ptr 8 g8 0)]) (m:=[(8,.cells .new g8 0 [Zb .any 3 Zeb sl,.int .i64 r.i,encXs .new r.nodes,.int .i64 r.e])]) ?_ ?_) ?_;refine Zs ?_;exact Fz.same _;simp only[Zv,Zz,and_true];exact FzO.of (c:=.new) (fz:=0) (cs:=[Zb .any 3 Zeb sl,.int .i64 r.i,grown 1012 gx 6 r.nodes,.int .i64 r.e]) rfl zp ⟨Fz.same _,Fz.same _,Z3a rfl zp Z9d,Fz.same _,trivial⟩;rw[if_neg zS]at hP;refine Z1f @encXs.eq_1 ?_;refine Znf @Zfa hG ?_ (s:=(Zum G hG _ (Zl r.nodes) (by rw[Zm];exact hrl) (by rw[Zm];exact hnm2)));rw[Zm];refine Zs ?_;refine Zi rfl (λh26=>?_) (λh26=>?_);have h26:Zkb r.nodes>64:=zu h26;rw[if_pos h26]at hP;refine Z ?_
 rw[hP]<;>rfl
 have h26:¬ Zkb r.nodes>64:=zu h26;rw[if_neg h26]at hP;refine Z0 ?_;refine AW.weak (Zt (λo=>o==8) (l:=[(5,.view .new (.agg [Zb .any 3 Zeb sl,.int .i64 r.i,encXs .new r.nodes,.int .i64 r.e]))]) (m:=[]) ?_ trivial) ?_;refine Zs ?_;exact Fz.ptr (v:=.agg [Zb .any 3 Zeb sl,.int .i64 r.i,encXs .new r.nodes,.int .i64 r.e]) (c:=.new) (fz:=0) rfl zp;refine ZTf @encXs.eq_1 hG ?_;refine Z ?_
 rw[hP]<;>rfl
theorem Z1v(G:Nat->V)(hG:GOk G)(s:List UInt8)(hs:s.length<100000):Spec Tryz.prog G 246 [.str s] Zk (λv _=>v=encRr .new (Zjd s)):=by
 refine Zo 0 50 [.tmp 2,.tmp 3,.tmp 4] Tryz.func246 λX=>?_
 have hP:Zjd s=if(Zja s).2.2≠0 then(([]:List XN),(Zja s).2.1,(Zja s).2.2)
  else if(Zhb (Zja s).1).2.2=3 then([],0,3)
  else if(Zhb (Zja s).1).2.2=0/\(Zhb (Zja s).1).2.1=((Zja s).1.length:Nat)then((Zhb (Zja s).1).1,0,0)
  else([],if(Zhb (Zja s).1).2.1=((Zja s).1.length:Nat)then(s.length:Int)else((Zja s).1.getD (Zhb (Zja s).1).2.1.toNat ⟨0,[],0⟩).pos,if(Zhb (Zja s).1).2.2=0 then 80 else(Zhb (Zja s).1).2.2):=rfl
 generalize Zjd s=res at hP⊢;have hT:=Zml hs;have hl:=Zje G hG s hs;have hfr:=λc=>Z2r G hG c (Zl (Zja s).1) (by rw[Zm];exact hT);simp only[Zm]at hfr;have hb:=Zlf (l:=(Zja s).1);generalize Zja s=t at hP hT hl hfr hb;generalize Zhb t.1=p at hP hfr hb;obtain⟨l,at0,e0⟩:=t;obtain⟨ns,i,e⟩:=p;simp only at hP hT hfr hb;refine Z1 ?_;refine Z1 ?_;refine Zn hG ?_ (s:=hl);refine Zsf (zi @encTok.eq_1 (zi @encTks.eq_1 @Zta)) ?_;refine Z1 ?_
 by_cases he0:e0=0
 rotate_left;have q1:(e0 != 0)=true:=zu he0;rw[if_pos he0]at hP;rw[q1];refine Zi rfl (λh17=>?_) (λh17=>?_);refine Z ?_
 rw[hP]<;>rfl
 cases h17;have q1:(e0 != 0)=false:=zu he0;rw[if_neg (zu he0)]at hP;rw[q1];refine Z1 ?_;refine Znf @Zta hG ?_ (s:=(hfr _));refine Zsf (zi @encRr.eq_1 (zi @encXs.eq_1 @Zfa)) ?_;refine Z1 ?_
 by_cases he3:e=3
 have q3:(e==3)=true:=zu he3;rw[if_pos he3]at hP;rw[q3];refine Zi rfl (λh27=>?_) (λh27=>?_);refine Z ?_
 rw[hP]<;>rfl
 cases h27;have q3:(e==3)=false:=zu he3;rw[if_neg he3]at hP;rw[q3];refine Z1 ?_;obtain⟨m,rfl⟩:∃ m:Nat,i=m:=⟨i.toNat,zo⟩
 have hP2:res=if e≠0 then([],(if(m:Int)=(l.length:Nat)then(s.length:Int)else(l.getD m ⟨0,[],0⟩).pos),e)else if m<l.length then([],(if(m:Int)=(l.length:Nat)then(s.length:Int)else(l.getD m ⟨0,[],0⟩).pos),80)else(ns,0,0):=by
  rw[hP,Int.toNat_natCast]
  by_cases he:e=0
  rw[if_neg (show ¬ e≠0 by simpa using he)]
  by_cases hm:m<l.length
  rw[if_neg zo,if_pos hm,if_pos he];rw[if_pos ⟨he,zo⟩,if_neg hm];rw[if_pos he,if_neg (λh=>he h.1),if_neg he]
 try clear hP
 generalize hpl:(if(m:Int)=(l.length:Nat)then(s.length:Int)else(l.getD m ⟨0,[],0⟩).pos)=pl at hP2;refine Zda (fun(_:Unit)=>st [(0,.str s),(5,Zb .new 3 Zeb (Zl l)),(7,.int .i64 e),(8,Zb .new 6 Zxa (Zl ns)),(9,.int .i64 m),(10,.int .i64 pl)] []) (λ_=>True) (λK3 hK3=>?_) ?_;refine Z1 ?_
 by_cases hm:m<l.length
 have q4:decide (((m:Nat):Int)<((l.length:Nat):Int))=true:=zT;obtain⟨tk,htk⟩:∃ tk,l[m]?=some tk:=⟨_,List.getElem?_eq_getElem hm⟩
 have hgd:l.getD m ⟨0,[],0⟩=tk:=by rw[List.getD_eq_getElem?_getD,htk]<;>rfl
 rw[if_neg zo,hgd]at hpl;rw[q4];refine Z1f (zi htk @Zdb) ?_;exact hK3 _ () trivial (Za (by rw[<- hpl];simp -implicitDefEqProofs only[go_sem,seval];try rfl) zp);have q4:decide (((m:Nat):Int)<((l.length:Nat):Int))=false:=zF;rw[if_pos zo]at hpl;rw[q4];refine Z0 ?_;exact hK3 _ () trivial (Za (by rw[<- hpl];simp -implicitDefEqProofs only[go_sem,seval];try rfl) zp);intro _ _;refine Z1 ?_
 by_cases he:e=0
 rotate_left;have q5:(e != 0)=true:=zu he;rw[if_pos he]at hP2;rw[q5];refine Zi rfl (λh41=>?_) (λh41=>?_);refine Z ?_
 rw[hP2]<;>rfl
 cases h41;have q5:(e != 0)=false:=zu he;rw[if_neg (zu he)]at hP2;rw[q5];refine Z1 ?_
 by_cases hm:m<l.length
 have q4:decide (((m:Nat):Int)<((l.length:Nat):Int))=true:=zT;rw[if_pos hm]at hP2;rw[q4];refine Zi rfl (λh47=>?_) (λh47=>?_);refine Z ?_
 rw[hP2]<;>rfl
 cases h47;have q4:decide (((m:Nat):Int)<((l.length:Nat):Int))=false:=zF;rw[if_neg hm]at hP2;rw[q4];refine Z ?_
 rw[hP2]<;>rfl
theorem Z1i(G:Nat->V)(hG:GOk G)(c:Col)(s:Sl Tk)(i:Nat):
  Spec Tryz.prog G 271 [Zb c 3 Zeb s,.int .i64 i] Zk (λv _=>v=.str (Zkc s.l i)):=by
 refine Zo 0 14 [.tmp 4] Tryz.func271 λX=>?_;refine Z1 ?_;refine Z4 ?_
 by_cases hi:i<s.l.length
 have h1:decide ((i:Int)<s.l.length)=true:=zT;have hg:=List.getElem?_eq_getElem hi;generalize s.l[i]=t at hg;rw[Zck hg];refine Z1f h1 ?_;refine Zi rfl (λh8=>?_) (λh8=>?_);exact Zq (zi hg @Zdb);cases h8;have h1:decide ((i:Int)<s.l.length)=false:=zF;refine Zf h1 ?_;rw[Zoh zo]
theorem Zqx(G:Nat->V)(hG:GOk G)(c:Col)(s:Sl Tk)(i:Nat):
  Spec Tryz.prog G 272 [Zb c 3 Zeb s,.int .i64 i] Zk (λv _=>v=.bool (Zsk s.l i)):=by
 refine Zo 0 17 [.tmp 4] Tryz.func272 λX=>?_;refine Z1 ?_
 by_cases hi:i<s.l.length
 have h1:decide ((i:Int)<s.l.length)=true:=zT;have hg:=List.getElem?_eq_getElem hi;generalize s.l[i]=t at hg;rw[Zzl hg];exact Zq (zi h1 (zi hg @Zdb));have h1:decide ((i:Int)<s.l.length)=false:=zF;rw[Zqg zo];exact Zq h1
def Zbh(c:Col)(s:ASt):V:=.agg [.int .u8 s.kind,.str s.name,Zb c 6 Zxa (Zl s.x)]
theorem Zzj(c:Col)(s:ASt):Zbh c s=.agg [.int .u8 s.kind,.str s.name,Zb c 6 Zxa (Zl s.x)]:=rfl
def encSR(r:ASt×Int×Int):V:=.tuple [Zbh .new r.1,.int .i64 r.2.1,.int .i64 r.2.2]
theorem Z5ca(G:Nat->V)(hG:GOk G)(c:Col)(sl:Sl Tk)(hT:TkOk sl.l)(i:Nat)(hi:i<=sl.l.length):
  Spec Tryz.prog G 242 [Zb c 3 Zeb sl,.int .i64 i] Zk (λv _=>v=encSR (Zsd sl.l i)):=by
 have hP:Zsd sl.l i=if Zkc sl.l i=Z5i then Zve sl.l 2 [40] [[41],[59]] (i+1)else Zve sl.l 1 [58,61] [[59]] i:=rfl
 generalize Zsd sl.l i=res at hP⊢;have hTl:=hT.len;refine Zo 0 98 [.cell 4 269,.tmp 5,.tmp 6] Tryz.func242 λX=>?_;refine Z1 ?_;intro g4;refine Z1 ?_;intro g7;refine Z1 ?_;intro g15;refine Z1 ?_;intro g16
 refine Zda (fun(x:(Nat×Int)×List UInt8×List (List UInt8))=>st [(0,Zb c 3 Zeb sl),(1,.int .i64 x.1.1),(4,.ptr 4 g4 0),(7,.ptr 7 g7 0),(8,Zb .new 1 V.str (.mk false [x.2.1])),(9,Zb .new 1 V.str (.mk false x.2.2))] [(4,.cells .new g4 0 [.int .u8 0,.str [],.nils]),(7,.cells .new g7 0 [.int .u8 x.1.2,.str [],.nils])])
  (λx=>x.1.1<=sl.l.length+1/\(x.1.2=1\/x.1.2=2)/\x.2.2.length<=2/\x.2.1≠[]/\res=Zve sl.l x.1.2 x.2.1 x.2.2 x.1.1) (λK1 hK1=>?_) ?_
 refine Z1 ?_;refine Znf @Zta hG ?_ (s:=(Z1i G hG _ sl i))
 by_cases he:Zkc sl.l i=Z5i
 rw[if_pos he]at hP;rw[he];unfold Z5i;have q1:(([101,109,105,116]:List UInt8)==[101,109,105,116])=true:=rfl;refine Zsf q1 ?_;refine Z1 ?_;refine Z1 ?_;intro g22;refine Z1 ?_;intro g23
 have hw:IntKind.i64.wrap ((i:Int)+1)=((i+1:Nat):Int):=by rw[w64 zo zo];omega
 refine Z1f hw ?_;refine hK1 _ ((i+1,2),[40],[[41],[59]]) ⟨by show i+1<=_;omega,.inr rfl,by show(2:Nat)<=2;decide,by show([40]:List UInt8)≠[];decide,hP⟩ (Zt (λo=>o==22||o==23) ?_ ?_);refine Zs ?_;exact⟨Fz.same _,Fz.same _,Fz.same _,Fz.same _,Z4c (f:=V.str) (l:=[[40]]) (m:=1) (g:=g22) (fz:=0) (c:=.new) rfl zp (λ_=>rfl),Z4c (f:=V.str) (l:=[[41],[59]]) (m:=1) (g:=g23) (fz:=0) (c:=.new) rfl zp (λ_=>rfl)⟩;simp only[Zv,Zz,and_true];exact⟨FzO.keep rfl zp,FzO.keep rfl zp⟩;rw[if_neg he]at hP
 have q1:(Zkc sl.l i==[101,109,105,116])=false:=by rw[beq_eq_false_iff_ne];exact he
 refine Zsf q1 ?_;refine Z0 ?_;refine hK1 _ ((i,1),[58,61],[[59]]) ⟨by show i<=_;omega,.inl rfl,by show(1:Nat)<=2;decide,by show([58,61]:List UInt8)≠[];decide,hP⟩ (Zt (λo=>o==15||o==16) ?_ ?_);refine Zs ?_;exact⟨Fz.same _,Fz.same _,Fz.same _,Fz.same _,Z4c (f:=V.str) (l:=[[58,61]]) (m:=1) (g:=g15) (fz:=0) (c:=.new) rfl zp (λ_=>rfl),Z4c (f:=V.str) (l:=[[59]]) (m:=1) (g:=g16) (fz:=0) (c:=.new) rfl zp (λ_=>rfl)⟩;simp only[Zv,Zz,and_true];exact⟨FzO.keep rfl zp,FzO.keep rfl zp⟩
 try clear hP
 rintro⟨⟨j,k⟩,w,ws⟩ ⟨hj,hk,hws,hwne,hP⟩;simp only at hj hk hws hwne hP;have hl1:(Sl.mk false [w]).l=[w]:=rfl;refine Z1 ?_;refine Znf @Zta hG ?_ (s:=(Zqx G hG _ sl j));unfold Zve at hP
 cases hn:Zsk sl.l j with
 |false=>
  rw[if_pos hn]at hP;refine Zs ?_;refine Z ?_
  rw[hP]<;>rfl
 |true=>
 rw[if_neg (by rw[hn];decide)]at hP
 have hjl:j<sl.l.length:=by
  refine Classical.byContradiction λh=>?_;rw[Zqg zo]at hn;cases hn
 have hg:=List.getElem?_eq_getElem hjl;generalize sl.l[j]=t at hg;rw[Zck hg]at hP;refine Zs ?_;refine Z0 ?_
 have hw:IntKind.i64.wrap ((j:Int)+1)=((j+1:Nat):Int):=by rw[w64 zo zo];omega
 have hw2:IntKind.i64.wrap (((j+1:Nat):Int)+1)=((j+2:Nat):Int):=by rw[w64 zo zo];omega
 refine Z1f (zi hg @Zdb) ?_;refine Z1f hw ?_
 have p1:Z7i Tryz.prog G 271 [Zb c 3 Zeb sl,.int .i64 ((j+1:Nat):Int)] (.str (Zkc sl.l (j+1))):=⟨by kernel_rfl,by
  refine Zsf @Zta ?_;refine(Z1i G hG _ sl (j+1)).mono ?_;rintro _ _ rfl
  rfl⟩
 refine Z4 ?_
 refine Z4<|Zw ⟨λi=>if i=2 then .str (Zkc sl.l (j+1))else .top,λ_=>.pure⟩ zk hG zk zk ?_
 simp -implicitDefEqProofs only[go_sem,seval,hl1,List.getElem?_cons_zero];refine⟨p1,?_⟩
 by_cases hw1:Zkc sl.l (j+1)=w
 rotate_left;rw[if_pos hw1]at hP;have q1:(Zkc sl.l (j+1)==w)=false:=zu hw1;rw[q1];refine Z ?_
 rw[hP]<;>rfl
 rw[if_neg (zu hw1)]at hP;have q1:(Zkc sl.l (j+1)==w)=true:=zu hw1;rw[q1]
 try clear p1
 refine Z0 ?_
 have hjl1:j+1<sl.l.length:=by
  refine Classical.byContradiction λh=>?_;rw[Zoh zo]at hw1;exact hwne hw1.symm
 refine Z1f hw2 ?_
 refine Zda (fun(x:Nat×List XN)=>st [(0,Zb c 3 Zeb sl),(1,.int .i64 x.1),(4,.ptr 4 g4 0),(7,.ptr 7 g7 0),(9,Zb .new 1 V.str (.mk false ws))] [(4,.cells .new g4 0 [.int .u8 0,.str [],.nils]),(7,.cells .new g7 0 [.int .u8 k,.str t.text,Zb .new 6 Zxa (Zl x.2)])])
  (λx=>x.1<=sl.l.length+2/\res=Zto sl.l ⟨k,t.text,x.2⟩ ws x.1) (λK4 hK4=>?_) ?_
 .refine Zda (fun(b:Bool)=>st [(0,Zb c 3 Zeb sl),(1,.int .i64 ((j+2:Nat):Int)),(4,.ptr 4 g4 0),(7,.ptr 7 g7 0),(9,Zb .new 1 V.str (.mk false ws)),(59,.bool b)] [(4,.cells .new g4 0 [.int .u8 0,.str [],.nils]),(7,.cells .new g7 0 [.int .u8 k,.str t.text,.nils])])
   (λb=>b=true↔¬ (k=2/\Zkc sl.l (j+2)=[41])) (λK5 hK5=>?_) ?_
  rcases hk with rfl|rfl
  refine AW.region zk ?_;have q2:((1:Int)==1)=true:=rfl;refine Zsf q2 ?_;exact hK5 _ true ⟨λ_ h=>absurd h.1 zd,λ_=>rfl⟩ (Za zp zp);refine AW.region zk ?_;have q2:((2:Int)==1)=false:=rfl;refine Zsf q2 ?_;refine Zcf @Zta hG ?_ (s:=(Z1i G hG _ sl (j+2)));refine hK5 _ (!(Zkc sl.l (j+2)==[41])) ⟨λh h2=>?_,λh=>?_⟩ (Za zp zp);rw[h2.2]at h;cases h;have:¬ Zkc sl.l (j+2)=[41]:=λh3=>h ⟨rfl,h3⟩;simpa using this;intro b hb
  cases b with
  |false=>
   have hq:k=2/\Zkc sl.l (j+2)=[41]:=Classical.byContradiction λh=>by have:=hb.2 h;cases this
   rw[if_pos hq]at hP;refine Z0 ?_;exact hK4 _ (j+2,[]) ⟨by show j+2<=_;omega,hP⟩ (Za zp zp)
  |true=>
  have hq:=hb.1 rfl;rw[if_neg hq]at hP;unfold Z6t at hP;refine Ztc rfl ?_;have hj2:j+2<=sl.l.length:=hjl1
  have hsub:(sl.sub (j+2) sl.l.length).l=sl.l.drop (j+2):=by rw[Zr9];exact List.take_of_length_le (by rw[List.length_drop];omega)
  have hfr:=λc=>Z2r G hG c (sl.sub (j+2) sl.l.length) (by rw[hsub];exact⟨by rw[List.length_drop];omega,λt ht=>hT.text t (List.mem_of_mem_drop ht)⟩);have hbd:=Zlf (l:=sl.l.drop (j+2));rw[hsub]at hfr;rw[List.length_drop]at hbd;generalize Zhb (sl.l.drop (j+2))=p at hP hfr hbd;obtain⟨xs,n,e⟩:=p;simp only at hP hbd
  have hw3:IntKind.i64.wrap (((j+2:Nat):Int)+n)=((j+2+n.toNat:Nat):Int):=by rw[w64 zo zo];omega
  have hll:sl.l.length<=sl.l.length:=Nat.le_refl _;refine Zhc zk ?_;simp -implicitDefEqProofs only[go_sem,seval,hj2,hll,and_self];refine Znf @Zta hG ?_ (s:=(hfr _));refine Zsf (zi @encRr.eq_1 (zi @encXs.eq_1 @Zfa)) ?_;refine Z1f hw3 ?_;refine Z4 ?_
  by_cases he:e=0
  rotate_left;rw[if_pos he]at hP;have q2:(e==0)=false:=zu he;refine Zhc zk ?_;simp -implicitDefEqProofs only[go_sem,seval,bne,q2];refine Z ?_
  rw[hP,show((j+2:Nat):Int)+n=((j+2+n.toNat:Nat):Int) by omega]<;>rfl
  rw[if_neg (zu he)]at hP;have q2:(e==0)=true:=zu he;refine Zhc zk ?_;simp -implicitDefEqProofs only[go_sem,seval,bne,q2];refine Z1 ?_;exact hK4 _ (j+2+n.toNat,xs) ⟨by show j+2+n.toNat<=_;omega,hP⟩ (Za zp zp)
 rintro⟨i2,xs⟩ ⟨hi2,hP⟩;simp only at hi2 hP;unfold Zto at hP;refine Z6 λK5 hK5=>?_;refine Z1 ?_;refine AW.block ?_
 refine Z9 ws.length (λm (_:Unit)=>st [(0,Zb c 3 Zeb sl),(1,.int .i64 ((i2+m:Nat):Int)),(4,.ptr 4 g4 0),(7,.ptr 7 g7 0),(9,Zb .new 1 V.str (.mk false ws)),(13,.int .i64 m)] [(4,.cells .new g4 0 [.int .u8 0,.str [],.nils]),(7,.cells .new g7 0 [.int .u8 k,.str t.text,Zb .new 6 Zxa (Zl xs)])])
  (λm _=>Zpd sl.l ws i2=Zpd sl.l (ws.drop m) (i2+m)) 0 () (Nat.zero_le _) rfl (Za zp zp) ?_
 intro m _ hm hR L7 hL7;refine Z4 ?_;have hwl:(Sl.mk false ws).l=ws:=rfl;refine Z1f hwl ?_;refine Zi rfl (λh81=>?_) (λh81=>?_);rotate_left
 have hm2:m=ws.length:=by have:=zN h81;omega
 rw[List.drop_eq_nil_of_le zo]at hR;refine Z0 ?_;refine hK5 _ ?_;refine Z ?_;rw[hP,hR]
 show _=encSR (_,((i2+m:Nat):Int),if true=true then 0 else 110)
 rfl;have hm1:m<ws.length:=zL h81;have hgm:ws[m]?=some ws[m]:=List.getElem?_eq_getElem hm1;have hdr:ws.drop m=ws[m]::ws.drop (m+1):=List.drop_eq_getElem_cons hm1;generalize ws[m]=w2 at hgm hdr;rw[hdr,Zpd]at hR;refine Z0 ?_
 have p2:Z7i Tryz.prog G 271 [Zb c 3 Zeb sl,.int .i64 ((i2+m:Nat):Int)] (.str (Zkc sl.l (i2+m))):=⟨by kernel_rfl,by
  refine Zsf @Zta ?_;refine(Z1i G hG _ sl (i2+m)).mono ?_;rintro _ _ rfl
  rfl⟩
 refine Z4 ?_;refine AW.block ?_;refine Z4 ?_
 refine Z4<|Zw ⟨λi=>if i=2 then .str (Zkc sl.l (i2+m))else .top,λ_=>.pure⟩ zk hG zk zk ?_
 refine Zsf (zi hwl hgm) ?_;refine⟨p2,?_⟩
 try clear p2
 by_cases hw4:Zkc sl.l (i2+m)=w2
 rotate_left;rw[if_neg hw4]at hR;have q2:(Zkc sl.l (i2+m)==w2)=false:=zu hw4;rw[q2];refine Z ?_
 rw[hP,hR]<;>rfl
 rw[if_pos hw4]at hR;have q2:(Zkc sl.l (i2+m)==w2)=true:=zu hw4;rw[q2];refine Z0 ?_
 have hw5:IntKind.i64.wrap (((i2+m:Nat):Int)+1)=((i2+(m+1):Nat):Int):=by rw[w64 zo zo];omega
 have hw6:IntKind.i64.wrap ((m:Int)+1)=((m+1:Nat):Int):=by rw[w64 zo zo];omega
 refine Z1f hw5 ?_;refine Z1f hw6 ?_;exact hL7 _ ⟨hm1,(),hR,Za zp zp⟩
end Go.Hs
end
