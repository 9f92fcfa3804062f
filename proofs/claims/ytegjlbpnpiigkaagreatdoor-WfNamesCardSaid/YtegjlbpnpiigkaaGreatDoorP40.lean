/- A part. No condition. -/
import Derived.Test.YtegjlbpnpiigkaaGreatDoorP38
import Derived.Test.YtegjlbpnpiigkaaGreatDoorP39
set_option linter.all false
section
namespace Go.Hs
open Go.Proofs
set_option maxHeartbeats 1000000
set_option maxRecDepth 10000
structure MdB(m:MdM):Prop where
 nm:m.name.length<1000000000000000
 var:∀ p∈m.vars.l,p.1.length<1000000000000000
 ev:∀ s∈m.events.l,s.length<1000000000000000
 rg:∀ p∈m.regions.l,p.1.length<1000000000000000
 vt:∀ x∈m.verts.l,x.name.length<1000000000000000/\x.sub.length<1000000000000000/\x.defers.l.length<1000000
 wy:∀ t∈m.ways.l,t.name.length<1000000000000000/\t.triggers.l.length<1000000
 nv:m.vars.l.length<=600
 ne:m.events.l.length<=600
 nr:m.regions.l.length<=600
 nx:m.verts.l.length<=600
 nw:m.ways.l.length<=600
theorem Z2c(G:Nat->V)(hE:GExp G)(s:List UInt8)(hs:s.length<1000000000000000):Spec Tryz.prog G 152 [.str s] Zk (λv _=>v=.bool (Zzd s)):=by
 have hG:=hE.ok;refine Zo 0 10 [.tmp 2] Tryz.func152 λX=>?_;rw[Zzd]
 cases h:(s==[])with
 |true=>exact Zq h
 |false=>
  refine Zf h ?_;refine Zc hG ?_ (s:=Zfe G hE s hs);refine Z ?_;rw[Bool.false_or,show((isP s:Int)==2)=(isP s==2)from by rw[Bool.eq_iff_iff,beq_iff_eq,beq_iff_eq];omega]
theorem Z3g(G:Nat->V)(c d:Col)(m:MdM)(v:Int):Spec Tryz.prog G 153 [Z3 c d m,.int .i64 v] Zk (λw _=>w=.bool (m.p.stateB v)):=by
 refine Zo 0 23 [.tmp 4] Tryz.func153 λX=>?_;simp only[Zi];refine Z1 ?_;intro g2;rw[PM.stateB]
 by_cases h0:0<=v
 by_cases h1:v<m.p.vertices.length
 obtain⟨k,x,rfl,hk,hg,hx⟩:=MdM.at h0 h1;rw[hx,decide_eq_true h0,decide_eq_true h1,Bool.true_and,Bool.true_and];have q0:decide ((k:Int)>=0)=true:=zT;have q1:decide ((k:Int)<(m.verts.l.length:Int))=true:=zT;refine Zf (zi hg (zi hk (zi Zm (zi @Int.natCast_nonneg (zi @Int.ofNat_lt (zi q0 q1)))))) ?_;rfl;have q0:decide (v>=0)=true:=zT;have q1:decide (v<(m.verts.l.length:Int))=false:=decide_eq_false (by rw[<- m.nv];exact h1);rw[decide_eq_false h1,Bool.and_false,Bool.false_and];exact Zq (zi q0 q1);have q0:decide (v>=0)=false:=zF;rw[decide_eq_false h0,Bool.false_and,Bool.false_and];exact Zq q0
theorem Z87{ev l:List (List UInt8)}:evB ev l=true↔∀ i s,l[i]?=some s->ev.contains s=true/\(l.take i).contains s=false:=by
 rw[evB,List.all_eq_true]
 constructor
 intro h i s hs;have hi:i<l.length:=(List.getElem?_eq_some_iff.1 hs).1;have:=h i (List.mem_range.2 hi);rw[List.getD_eq_getElem?_getD,hs]at this;simpa using this;intro h i hi;have hi:=List.mem_range.1 hi;obtain⟨a,b⟩:=h i _ (List.getElem?_eq_getElem hi);rw[List.getD_eq_getElem?_getD,List.getElem?_eq_getElem hi]
 show(ev.contains l[i] && !(l.take i).contains l[i])=true
 rw[a,b]<;>rfl
theorem Zdn{α : Type}(s:Sl α)(k:Nat):(s.sub 0 k).l=s.l.take k:=by
 cases s with
 |nil=>simp[Sl.sub,Sl.l]
 |mk b l=>simp[Sl.sub,Sl.l]
theorem Zrf(G:Nat->V)(hG:GOk G)(c d c1:Col)(m:MdM)(l:Sl (List UInt8))(he:m.events.l.length<1000000)(hl:l.l.length<1000000):
  Spec Tryz.prog G 157 [Z3 c d m,Za c1 1 V.str l] Zk (λw _=>w=.bool (evB m.events.l l.l)):=by
 refine Zo 0 27 [.tmp 4] Tryz.func157 λX=>?_;simp only[Zi];refine Z ?_;intro g2;refine AW.weak (Zx (λo=>o==2) (l:=[(1,Za c1 1 V.str l),(2,.view .new (Z3 c d m)),(4,.bool false)]) (m:=[]) ?_ trivial) ?_;refine Zs ?_;exact⟨Fz.same _,Fz.ptr (v:=Z3 c d m) (c:=.new) (fz:=0) zp zp,Fz.same _⟩;simp only[Zi];refine Z ?_
 refine Zfa l.l.length (λk (_:Unit)=>st [(1,Za c1 1 V.str l),(2,.view .new (Z3 c d m)),(7,Za c1 1 V.str l),(8,.int .i64 l.l.length),(9,.int .i64 k)] [])
  (λk _=>∀ i s,i<k->l.l[i]?=some s->m.events.l.contains s=true/\(l.l.take i).contains s=false) 0 () (Nat.zero_le _) (λi s h=>absurd h (Nat.not_lt_zero _)) (Zb (zpf Zi) zp) ?_
 intro k _ hk hR L3 hL3
 by_cases hk1:k<l.l.length
 .have hlt:decide ((k:Int)<(l.l.length:Int))=true:=zT
  have hg:=List.getElem?_eq_getElem hk1;generalize l.l[k]=x at hg;have w1:IntKind.i64.wrap ((k:Int)+1)=(k:Int)+1:=w64 zo zo;refine Zf (zi hlt (zi hg Zi)) ?_;refine Zc hG ?_ (s:=Zcc G hG _ x m.events he)
  cases h1:m.events.l.contains x with
  |false=>
   refine Zs ?_;refine Z ?_
   have:evB m.events.l l.l=false:=by
    rw[Bool.eq_false_iff];intro h;have:=(Z87.1 h k x hg).1;rw[h1]at this;cases this
   rw[this]
  |true=>
   refine Zs ?_;refine Zsf (zi (Nat.zero_le k) (Nat.le_of_lt hk1)) ?_;have hSp:=Zcc G hG c1.ent x (l.sub 0 k) (by rw[Zdn];simp;omega);rw[Zdn]at hSp;refine Zc hG ?_ (s:=hSp)
   cases h2:(l.l.take k).contains x with
   |true=>
    refine Z ?_
    have:evB m.events.l l.l=false:=by
     rw[Bool.eq_false_iff];intro h;have:=(Z87.1 h k x hg).2;rw[h2]at this;cases this
    rw[this]
   |false=>
    refine Zf w1 ?_;refine hL3 _ ⟨hk1,(),λi s hi hs=>?_,Zb (zpf Zi) zp⟩
    by_cases h3:i=k
    subst h3;rw[hg]at hs;obtain rfl:=Option.some.inj hs;exact⟨h1,h2⟩;exact hR i s zo hs
 have hke:k=l.l.length:=zo;subst hke;have hlt:decide ((l.l.length:Int)<(l.l.length:Int))=false:=zS;refine Zf hlt ?_;rw[Z87.2 λi s hs=>hR i s (List.getElem?_eq_some_iff.1 hs).1 hs]
theorem Z21(G:Nat->V)(hG:GOk G)(c d e:Col)(m:MdM)(x:VtM):Spec Tryz.prog G 156 [Z3 c d m,Zra e x] Zk (λw _=>w=.bool (m.p.liesB x.p)):=by
 refine Zo 0 38 [.tmp 4] Tryz.func156 λX=>?_;simp only[Zi,Zm];refine Z ?_;intro g2 g3;rw[PM.liesB]
 cases h10:(x.kind==10)with
 |true=>
  have e1:x.kind=10:=zu h10;rw[if_pos (show x.p.kind=10\/x.p.kind=11 from .inl e1)]
  show AW _ _ _ (Z6l _ _ λw _=>w=.bool ((x.region == -1)&&m.p.stateB x.of)) _
  cases h2:(x.region == -1)with
  |false=>exact Zq (zi h10 (zi Zm h2))
  |true=>
   refine Zf (zi h10 (zi Zm h2)) ?_;refine Zc hG ?_ (s:=Z3g G c.ent d.ent m x.of);refine Z ?_;rw[Bool.true_and]
 |false=>
  have e1:¬ x.kind=10:=zu h10
  cases h11:(x.kind==11)with
  |true=>
   have e2:x.kind=11:=zu h11;rw[if_pos (show x.p.kind=10\/x.p.kind=11 from .inr e2)]
   show AW _ _ _ (Z6l _ _ λw _=>w=.bool ((x.region == -1)&&m.p.stateB x.of)) _
   cases h2:(x.region == -1)with
   |false=>exact Zq (zi (zi h10 h11) (zi Zm h2))
   |true=>
    refine Zf (zi (zi h10 h11) (zi Zm h2)) ?_;refine Zc hG ?_ (s:=Z3g G c.ent d.ent m x.of);refine Z ?_;rw[Bool.true_and]
  |false=>
   have e2:¬ x.kind=11:=zu h11;rw[if_neg (show ¬ (x.p.kind=10\/x.p.kind=11)from λh=>h.elim e1 e2)]
   show AW _ _ _ (Z6l _ _ λw _=>w=.bool ((x.of == -1)&&decide (0<=x.region)&&decide (x.region<m.regions.l.length))) _
   have f:=zi h10 (zi h11 Zm)
   cases h2:(x.of == -1)with
   |false=>exact Zq (zi f h2)
   |true=>
    by_cases h3:0<=x.region
    have q:decide (x.region>=0)=true:=zT;rw[decide_eq_true h3];exact Zq (zi f (zi h2 q));have q:decide (x.region>=0)=false:=zF;rw[decide_eq_false h3];exact Zq (zi f (zi h2 q))
theorem Zbv(G:Nat->V)(hG:GOk G)(c d:Col)(m:MdM)(hm:m.p.Rt5)(v:Int)(h0:0<=v)(h1:v<m.p.vertices.length):
  Spec Tryz.prog G 159 [Z3 c d m,.int .i64 v] Zk (λw _=>w=.int .i64 (m.p.depth v)):=by
 refine Zo 0 21 [.tmp 4] Tryz.func159 λX=>?_;simp only[Zi];refine Z ?_;intro g2;refine AW.weak (Zx (λo=>o==2) (l:=[(1,.int .i64 v),(2,.view .new (Z3 c d m))]) (m:=[]) ?_ trivial) ?_;refine Zs ?_;exact⟨Fz.same _,Fz.ptr (v:=Z3 c d m) (c:=.new) (fz:=0) zp zp⟩;simp only[Zi];refine Z ?_;refine Zc hG ?_ (s:=Zhj G hG c.ent d.ent m hm v h0 h1);refine Z ?_
 refine Zqd (fun(y:Nat×Int)=>st [(1,.int .i64 (m.p.around y.2)),(2,.view .new (Z3 c d m)),(5,.int .i64 y.1)] [])
  (λy=>y.1<=65/\0<=y.2/\y.2<m.p.vertices.length/\m.p.depth v=y.1+(m.p.upsF (65-y.1) y.2).length) (λy=>65-y.1) (0,v) ⟨Nat.zero_le _,h0,h1,by rw[Nat.zero_add]<;>rfl⟩ (Zb (zpf Zi) zp) ?_
 rintro⟨n,w⟩ ⟨hn,w0,w1,hd⟩ L7 hL7;simp only at hn w0 w1 hd
 by_cases ha:0<=m.p.around w
 have q0:decide (m.p.around w>=0)=true:=zT
 by_cases hn2:n<=64
 have q1:decide ((n:Int)<=64)=true:=zT;have e1:IntKind.i64.wrap ((n:Int)+1)=(n:Int)+1:=w64 zo zo
 have ha1:m.p.around w<m.p.vertices.length:=by
  rcases hm.rng w0 w1 with q|q
  omega;exact q.2
 refine Zf (zi q0 (zi q1 (zi e1 Zi))) ?_;refine Zc hG ?_ (s:=Zhj G hG c.ent d.ent m hm (m.p.around w) ha ha1);refine Z ?_;refine hL7 _ ⟨(n+1,m.p.around w),by show 65-(n+1)<65-n;omega,⟨by show n+1<=65;omega,ha,ha1,?_⟩,Zb (zpf Zi) zp⟩
 show m.p.depth v=n+1+(m.p.upsF (65-(n+1)) (m.p.around w)).length
 rw[hd,show 65-n=(65-(n+1))+1 by omega,PM.upsF,if_neg zo,List.length_cons];omega;have q1:decide ((n:Int)<=64)=false:=zF;refine Zf (zi q0 q1) ?_
 rw[hd,show 65-n=0 by omega]<;>rfl
 have q0:decide (m.p.around w>=0)=false:=zF;refine Zf q0 ?_
 have:m.p.upsF (65-n) w=[]:=by
  cases h:65-n with
  |zero=>rfl
  |succ f=>rw[PM.upsF,if_pos zo]
 rw[hd,this]<;>rfl
def Znv(c d e:Col)(m:MdM)(ns vs:Sl (List UInt8)):V:=.agg [.str m.name,Za c 2 Zaa m.vars,Za c 1 V.str m.events,Za c 2 Zaa m.regions,Za c 8 (Zra d) m.verts,Za c 8 (Z6a d) m.ways,Za e 1 V.str ns,Za e 1 V.str vs]
theorem Zf8(c d e:Col)(m:MdM)(ns vs:Sl (List UInt8)):Znv c d e m ns vs=.agg [.str m.name,Za c 2 Zaa m.vars,Za c 1 V.str m.events,Za c 2 Zaa m.regions,Za c 8 (Zra d) m.verts,Za c 8 (Z6a d) m.ways,Za e 1 V.str ns,Za e 1 V.str vs]:=rfl
theorem Z8aa(g:Col->Col)(c d e:Col)(m:MdM)(ns vs:Sl (List UInt8)):(Znv c d e m ns vs).recol g=Znv (g c) (g d) (g e) m ns vs:=by simp only[Zf8,Zrb,List.map_cons,List.map_nil,Z0b,Z1a,Zte,Z4k,Z5k]
def ckV(b c d e:Col)(m:MdM)(ns vs:Sl (List UInt8)):V:=.view b (Znv c d e m ns vs)
theorem Z8a(b c d e:Col)(m:MdM)(ns vs:Sl (List UInt8)):ckV b c d e m ns vs=.view b (.agg [.str m.name,Za c 2 Zaa m.vars,Za c 1 V.str m.events,Za c 2 Zaa m.regions,Za c 8 (Zra d) m.verts,Za c 8 (Z6a d) m.ways,Za e 1 V.str ns,Za e 1 V.str vs]):=rfl
@[go_sem] theorem Zof(g:Col->Col)(b c d e:Col)(m:MdM)(ns vs:Sl (List UInt8)):(ckV b c d e m ns vs).recol g=ckV (g b) (g c) (g d) (g e) m ns vs:=by
 show(V.view b (Znv c d e m ns vs)).recol g=_
 simp only[V.recol,Z8aa];rfl
theorem vrIm(p:List UInt8×Int):∀ y∈(Zaa p).cells,y.Im:=λy hy=>by
 simp only[Zmb,V.cells,List.mem_cons,List.not_mem_nil,or_false]at hy
 rcases hy with rfl|rfl<;>first|exact .int _ _|exact .str _
theorem stIm(s:List UInt8):∀ y∈(V.str s).cells,y.Im:=λy hy=>by
 simp only[V.cells,List.mem_cons,List.not_mem_nil,or_false]at hy;rw[hy];exact .str _
theorem vtIm(c:Col)(x:VtM):∀ y∈(Zra c x).cells,y.Im:=λy hy=>by
 simp only[Zm,V.cells,List.mem_cons,List.not_mem_nil,or_false]at hy
 rcases hy with rfl|rfl|rfl|rfl|rfl|rfl|rfl|rfl<;>first|exact .int _ _|exact .str _|exact Zgd stIm _
theorem trIm(c:Col)(x:TrM):∀ y∈(Z6a c x).cells,y.Im:=λy hy=>by
 simp only[Z6,V.cells,List.mem_cons,List.not_mem_nil,or_false]at hy
 rcases hy with rfl|rfl|rfl|rfl|rfl|rfl|rfl|rfl<;>first|exact .int _ _|exact .str _|exact Zgd stIm _
theorem Zcp(b c d e:Col)(m:MdM)(ns vs:Sl (List UInt8)):(ckV b c d e m ns vs).Im:=.view _ _ λy hy=>by
 simp only[Zf8,V.cells,List.mem_cons,List.not_mem_nil,or_false]at hy
 rcases hy with rfl|rfl|rfl|rfl|rfl|rfl|rfl|rfl
 exact .str _;exact Zgd vrIm _;exact Zgd stIm _;exact Zgd vrIm _;exact Zgd (vtIm d) _;exact Zgd (trIm d) _;exact Zgd stIm _;exact Zgd stIm _
theorem Z2b(G:Nat->V)(hG:GOk G)(b c d e:Col)(m:MdM)(ns vs:Sl (List UInt8))(hm:m.p.Rt5)(v:Int)(h0:0<=v)(h1:v<m.p.vertices.length):
  Spec Tryz.prog G 125 [ckV b c d e m ns vs,.int .i64 v] Zk (λw _=>w=.int .i64 (m.p.around v)):=by
 refine Zo 0 36 [.tmp 4] Tryz.func125 λX=>?_;have hpt:=hm.pt h0 h1;obtain⟨k,x,rfl,hk,hg,hx⟩:=MdM.at h0 h1;rw[PM.around];rw[hx]at hpt⊢;simp only[Z8a];have f:=zi hg (zi hk (zi Zm (zi @Int.natCast_nonneg @Int.ofNat_lt)));refine Zf f ?_;intro g5
 by_cases ho:0<=x.of
 have q:decide (x.of>=0)=true:=zT;refine Zf (zi f q) ?_
 rw[if_pos (show 0<=x.p.of from ho)]<;>rfl
 have q:decide (x.of>=0)=false:=zF;obtain⟨_,r0,r1,_⟩:=hpt.resolve_left (λh=>ho h.1);obtain⟨r,y,hr,hrk,hrg,hy⟩:=Zc0 r0 r1;rw[if_neg (show ¬ 0<=x.p.of from ho),hy];have hr:x.region=(r:Int):=hr;refine Zf q ?_;refine ZTf (zi f (zi hr (zi hrg (zi hrk Zmb)))) hG ?_;exact Zr
theorem Z9h(G:Nat->V)(hG:GOk G)(b c d e:Col)(m:MdM)(ns vs:Sl (List UInt8))(hm:m.p.Rt)(v s:Int)(h0:0<=v)(h1:v<m.p.vertices.length):
  Spec Tryz.prog G 69 [ckV b c d e m ns vs,.int .i64 v,.int .i64 s] Zk (λw _=>w=.bool (m.p.inB v s)):=by
 refine Zo 0 18 [.tmp 6] Tryz.func69 λX=>?_;refine Z ?_;refine Zc hG ?_ (s:=Z2b G hG _ _ _ _ m ns vs hm.toRt5 v h0 h1);refine Z ?_;refine Zqd (fun(w:Int)=>st [(0,ckV b c d e m ns vs),(1,.int .i64 (m.p.around w)),(2,.int .i64 s)] []) (λw=>0<=w/\w<m.p.vertices.length/\m.p.inB v s=m.p.inB w s) (λw=>(m.p.ups w).length) v ⟨h0,h1,rfl⟩ (Zb zp zp) ?_;rintro w ⟨w0,w1,hw⟩ L7 hL7
 by_cases ha:0<=m.p.around w
 have q0:decide (m.p.around w>=0)=true:=zT
 have ha1:m.p.around w<m.p.vertices.length:=by
  rcases hm.acy.rng w w0 w1 with q|q
  omega;exact q.2
 have hlen:=congrArg List.length (hm.acy.ups_cons w0 w1 ha);rw[List.length_cons]at hlen;have hin:=hm.acy.inB_up (s:=s) w0 w1 ha;cases q1:(m.p.around w==s);rw[q1,Bool.false_or]at hin;refine Zf (zi q0 q1) ?_;refine Zc hG ?_ (s:=Z2b G hG _ _ _ _ m ns vs hm.toRt5 (m.p.around w) ha ha1);refine Z ?_;exact hL7 _ ⟨m.p.around w,zo,⟨ha,ha1,by rw[hw,hin]⟩,Zb zp zp⟩;rw[q1,Bool.true_or]at hin;rw[hw,hin];exact Zq (zi q0 q1);have q0:decide (m.p.around w>=0)=false:=zF;rw[hw,PM.inB_nil zo];exact Zq q0
theorem Znj(G:Nat->V)(hG:GOk G)(b c d e:Col)(m:MdM)(ns vs:Sl (List UInt8))(hm:m.p.Rt)(v s:Int)(h0:0<=v)(h1:v<m.p.vertices.length)(hs:0<=s):
  Spec Tryz.prog G 170 [ckV b c d e m ns vs,.int .i64 v,.int .i64 s] Zk (λw _=>w=.int .i64 (m.p.regU v s)):=by
 refine Zo 0 30 [.tmp 6] Tryz.func170 λX=>?_;refine Z ?_;refine Zqd (fun(w:Int)=>st [(0,ckV b c d e m ns vs),(1,.int .i64 w),(2,.int .i64 s)] []) (λw=>(w = -1/\m.p.regU v s = -1)\/(0<=w/\w<m.p.vertices.length/\m.p.regU v s=m.p.regU w s)) (λw=>if w<0 then 0 else(m.p.ups w).length+1) v (.inr ⟨h0,h1,rfl⟩) (Zb zp zp) ?_;rintro w hw L7 hL7
 rcases hw with ⟨rfl,hw⟩|⟨w0,w1,hw⟩
 rw[hw];exact Zr;have q0:decide (w>=0)=true:=zT;refine Zf q0 ?_;refine Zc hG ?_ (s:=Z2b G hG _ _ _ _ m ns vs hm.toRt5 w w0 w1)
 by_cases hq:m.p.around w=s
 rw[hw,PM.Acy.regU_at hq];obtain⟨k,x,hwk,hk,hg,hx⟩:=MdM.at w0 w1;rw[hx];subst hwk
 have q1:(m.p.around (k:Int) != s)=false:=by simp[hq]
 have q2:decide ((k:Int)<0)=false:=zF;exact Zh (zi q1 (zi q2 (zi hg (zi hk (zi Zm (zi Z8a (zi @Int.natCast_nonneg @Int.ofNat_lt)))))));have q1:(m.p.around w != s)=true:=zu hq;refine Zg q1 ?_;refine Zc hG ?_ (s:=Z2b G hG _ _ _ _ m ns vs hm.toRt5 w w0 w1);refine Z ?_
 by_cases ha:0<=m.p.around w
 have ha1:m.p.around w<m.p.vertices.length:=by
  rcases hm.acy.rng w w0 w1 with q|q
  omega;exact q.2
 have hlen:=congrArg List.length (hm.acy.ups_cons w0 w1 ha);rw[List.length_cons]at hlen;refine hL7 _ ⟨m.p.around w,by simp only[if_neg (show ¬ m.p.around w<0 by omega),if_neg (show ¬ w<0 by omega)];omega,.inr ⟨ha,ha1,by rw[hw,hm.acy.regU_up w0 w1 ha hq]⟩,Zb zp zp⟩
 have ha2:m.p.around w = -1:=by
  rcases hm.acy.rng w w0 w1 with q|q
  exact q;omega
 rw[ha2];refine hL7 _ ⟨-1,by simp only[if_neg (show ¬ w<0 by omega)];exact Nat.succ_pos _,.inl ⟨rfl,by rw[hw,PM.regU_nil zo hs]⟩,Zb zp zp⟩
theorem Zmj(G:Nat->V)(hG:GOk G)(b c d e:Col)(m:MdM)(ns vs:Sl (List UInt8))(hm:m.p.Rt)(v r:Int)(h0:0<=v)(h1:v<m.p.vertices.length):
  Spec Tryz.prog G 165 [ckV b c d e m ns vs,.int .i64 v,.int .i64 r] Zk (λw _=>w=.bool (m.p.withinB v r)):=by
 refine Zo 0 27 [.tmp 6] Tryz.func165 λX=>?_;refine Z ?_;refine Zqd (fun(w:Int)=>st [(0,ckV b c d e m ns vs),(1,.int .i64 w),(2,.int .i64 r)] []) (λw=>(w = -1/\m.p.withinB v r=false)\/(0<=w/\w<m.p.vertices.length/\m.p.withinB v r=m.p.withinB w r)) (λw=>if w<0 then 0 else(m.p.ups w).length+1) v (.inr ⟨h0,h1,rfl⟩) (Zb zp zp) ?_;rintro w hw L7 hL7
 rcases hw with ⟨rfl,hw⟩|⟨w0,w1,hw⟩
 rw[hw];exact Zr;have q0:decide (w>=0)=true:=zT;obtain⟨k,x,hwk,hk,hg,hx⟩:=MdM.at w0 w1
 by_cases hq:x.region=r
 have q1:(x.region != r)=false:=by simp[hq]
 have hy:m.p.withinB w r=true:=by
  rw[PM.withinB,List.any_cons,hx,show(x.p.region==r)=true from beq_iff_eq.2 hq,Bool.true_or]
 rw[hw,hy];subst hwk;have q3:decide ((k:Int)>=0)=true:=zT;exact Zq (zi q3 (zi q1 (zi hg (zi hk (zi Zm (zi Z8a (zi @Int.natCast_nonneg @Int.ofNat_lt)))))));have q1:(x.region != r)=true:=zu hq
 have hz:((m.p.vx w).region==r)=false:=by rw[hx];exact beq_eq_false_iff_ne.2 hq
 subst hwk;have q3:decide ((k:Int)>=0)=true:=zT;refine Zf (zi q3 (zi q1 (zi hg (zi hk (zi Zm (zi Z8a (zi @Int.natCast_nonneg @Int.ofNat_lt))))))) ?_;refine Zc hG ?_ (s:=Z2b G hG _ _ _ _ m ns vs hm.toRt5 k w0 w1);refine Z ?_
 by_cases ha:0<=m.p.around k
 have w1':=w1
 have ha1:m.p.around k<m.p.vertices.length:=by
  rcases hm.acy.rng k w0 w1 with q|q
  omega;exact q.2
 have hlen:=congrArg List.length (hm.acy.ups_cons w0 w1 ha);rw[List.length_cons]at hlen;refine hL7 _ ⟨m.p.around k,by simp only[if_neg (show ¬ m.p.around k<0 by omega),if_neg (show ¬ (k:Int)<0 by omega)];omega,.inr ⟨ha,ha1,by rw[hw,hm.acy.withinB_up w0 w1 ha,hz,Bool.false_or]⟩,Zb zp zp⟩
 have ha2:m.p.around k = -1:=by
  rcases hm.acy.rng k w0 w1 with q|q
  exact q;omega
 rw[ha2];refine hL7 _ ⟨-1,by simp only[if_neg (show ¬ (k:Int)<0 by omega)];exact Nat.succ_pos _,.inl ⟨rfl,by rw[hw,PM.withinB_nil zo,hz]⟩,Zb zp zp⟩
def Z7d(r:Nat×Int×Int):V:=.agg [.int .u8 r.1,.int .i64 r.2.1,.int .i64 r.2.2]
structure FnW{α : Type}(G:Nat->V)(f:FuncId)(cap:List V)(enc : α -> V)(l:List α)(p:Nat->Bool):Prop where
 en:Z4 Tryz.prog f=true
 rc:cap.map (V.recol Col.ent)=cap
 sp:∀ (i:Nat) (x : α),l[i]?=some x->Spec Tryz.prog G f (.int .i64 i::enc x::cap) Zk (λv _=>v=.bool (p i))
theorem Zwp(G:Nat->V)(hG:GOk G)(c:Col)(part most:Nat)(s:Sl (List UInt8×Int))(hs:s.l.length<1000000){f:FuncId}{cap:List V}{p:Nat->Bool}(hf:FnW G f cap Zaa s.l p):
  Spec Tryz.prog G 143 [.int .u8 part,Za c 2 Zaa s,.int .i64 most,.func (.func f) [] cap] Zk (λv _=>v=Z7d (Z0a part most p s.l.length)):=by
  refine Zo 0 36 [.cell 8 140] Tryz.func143 λX=>?_;refine Z ?_;intro g8;refine Z ?_
  refine Zfa s.l.length (λk (_:Unit)=>st [(0,.int .u8 part),(1,Za c 2 Zaa s),(2,.int .i64 most),(3,.func (.func f) [] cap),(8,.ptr 8 g8 0),(11,Za c 2 Zaa s),(12,.int .i64 s.l.length),(13,.int .i64 k)] [(8,.cells .new g8 0 [.int .u8 0,.int .i64 0,.int .i64 0])])
   (λk _=>∀ i,i<k->i≠most/\p i=true) 0 () (Nat.zero_le _) (λi h=>absurd h (Nat.not_lt_zero _)) (Zb zp zp) ?_
  intro k _ hk hR L3 hL3
  by_cases hk1:k<s.l.length
  have hlt:decide ((k:Int)<(s.l.length:Int))=true:=zT;have hg:=List.getElem?_eq_getElem hk1;generalize s.l[k]=x at hg;have w1:IntKind.i64.wrap ((k:Int)+1)=(k:Int)+1:=w64 zo zo;refine Zf (zi hlt (zi hg Zmb)) ?_;intro g10
  by_cases hm:k=most
  have q:((k:Int)==(most:Int))=true:=by simp[hm]
  rw[Zwb hk1 hR (.inl hm),if_pos hm,hm];exact Zh q
  .have q:((k:Int)==(most:Int))=false:=by
    have:¬ (k:Int)=(most:Int):=zo;simpa using this
   refine Zg q ?_;refine Zcf hf.rc hG ?_ (e:=hf.en) (s:=hf.sp k x hg)
   cases hp:p k with
   |false=>
    rw[Zwb hk1 hR (.inr hp),if_neg hm];exact Zr
   |true=>
    refine Zf w1 ?_;refine hL3 _ ⟨hk1,(),λi hi=>?_,Zb zp zp⟩
    by_cases h3:i=k
    rw[h3];exact⟨hm,hp⟩;exact hR i zo
  have hke:k=s.l.length:=zo;subst hke;have hlt:decide ((s.l.length:Int)<(s.l.length:Int))=false:=zS;rw[Zqe hR];exact Zq hlt
theorem Zyp(G:Nat->V)(hG:GOk G)(c:Col)(part most:Nat)(s:Sl (List UInt8))(hs:s.l.length<1000000){f:FuncId}{cap:List V}{p:Nat->Bool}(hf:FnW G f cap V.str s.l p):
  Spec Tryz.prog G 147 [.int .u8 part,Za c 1 V.str s,.int .i64 most,.func (.func f) [] cap] Zk (λv _=>v=Z7d (Z0a part most p s.l.length)):=by
  refine Zo 0 36 [.cell 8 140] Tryz.func147 λX=>?_;refine Z ?_;intro g8;refine Z ?_
  refine Zfa s.l.length (λk (_:Unit)=>st [(0,.int .u8 part),(1,Za c 1 V.str s),(2,.int .i64 most),(3,.func (.func f) [] cap),(8,.ptr 8 g8 0),(11,Za c 1 V.str s),(12,.int .i64 s.l.length),(13,.int .i64 k)] [(8,.cells .new g8 0 [.int .u8 0,.int .i64 0,.int .i64 0])])
   (λk _=>∀ i,i<k->i≠most/\p i=true) 0 () (Nat.zero_le _) (λi h=>absurd h (Nat.not_lt_zero _)) (Zb zp zp) ?_
  intro k _ hk hR L3 hL3
  by_cases hk1:k<s.l.length
  have hlt:decide ((k:Int)<(s.l.length:Int))=true:=zT;have hg:=List.getElem?_eq_getElem hk1;generalize s.l[k]=x at hg;have w1:IntKind.i64.wrap ((k:Int)+1)=(k:Int)+1:=w64 zo zo;refine Zf (zi hlt (zi hg hg)) ?_
  skip
  by_cases hm:k=most
  have q:((k:Int)==(most:Int))=true:=by simp[hm]
  rw[Zwb hk1 hR (.inl hm),if_pos hm,hm];exact Zh q
  .have q:((k:Int)==(most:Int))=false:=by
    have:¬ (k:Int)=(most:Int):=zo;simpa using this
   refine Zg q ?_;refine Zcf hf.rc hG ?_ (e:=hf.en) (s:=hf.sp k x hg)
   cases hp:p k with
   |false=>
    rw[Zwb hk1 hR (.inr hp),if_neg hm];exact Zr
   |true=>
    refine Zf w1 ?_;refine hL3 _ ⟨hk1,(),λi hi=>?_,Zb zp zp⟩
    by_cases h3:i=k
    rw[h3];exact⟨hm,hp⟩;exact hR i zo
  have hke:k=s.l.length:=zo;subst hke;have hlt:decide ((s.l.length:Int)<(s.l.length:Int))=false:=zS;rw[Zqe hR];exact Zq hlt
theorem Zzp(G:Nat->V)(hG:GOk G)(c:Col)(part most:Nat)(s:Sl (List UInt8×Int))(hs:s.l.length<1000000){f:FuncId}{cap:List V}{p:Nat->Bool}(hf:FnW G f cap Zaa s.l p):
  Spec Tryz.prog G 150 [.int .u8 part,Za c 2 Zaa s,.int .i64 most,.func (.func f) [] cap] Zk (λv _=>v=Z7d (Z0a part most p s.l.length)):=by
  refine Zo 0 36 [.cell 8 140] Tryz.func150 λX=>?_;refine Z ?_;intro g8;refine Z ?_
  refine Zfa s.l.length (λk (_:Unit)=>st [(0,.int .u8 part),(1,Za c 2 Zaa s),(2,.int .i64 most),(3,.func (.func f) [] cap),(8,.ptr 8 g8 0),(11,Za c 2 Zaa s),(12,.int .i64 s.l.length),(13,.int .i64 k)] [(8,.cells .new g8 0 [.int .u8 0,.int .i64 0,.int .i64 0])])
   (λk _=>∀ i,i<k->i≠most/\p i=true) 0 () (Nat.zero_le _) (λi h=>absurd h (Nat.not_lt_zero _)) (Zb zp zp) ?_
  intro k _ hk hR L3 hL3
  by_cases hk1:k<s.l.length
  have hlt:decide ((k:Int)<(s.l.length:Int))=true:=zT;have hg:=List.getElem?_eq_getElem hk1;generalize s.l[k]=x at hg;have w1:IntKind.i64.wrap ((k:Int)+1)=(k:Int)+1:=w64 zo zo;refine Zf (zi hlt (zi hg Zmb)) ?_;intro g10
  by_cases hm:k=most
  have q:((k:Int)==(most:Int))=true:=by simp[hm]
  rw[Zwb hk1 hR (.inl hm),if_pos hm,hm];exact Zh q
  .have q:((k:Int)==(most:Int))=false:=by
    have:¬ (k:Int)=(most:Int):=zo;simpa using this
   refine Zg q ?_;refine Zcf hf.rc hG ?_ (e:=hf.en) (s:=hf.sp k x hg)
   cases hp:p k with
   |false=>
    rw[Zwb hk1 hR (.inr hp),if_neg hm];exact Zr
   |true=>
    refine Zf w1 ?_;refine hL3 _ ⟨hk1,(),λi hi=>?_,Zb zp zp⟩
    by_cases h3:i=k
    rw[h3];exact⟨hm,hp⟩;exact hR i zo
  have hke:k=s.l.length:=zo;subst hke;have hlt:decide ((s.l.length:Int)<(s.l.length:Int))=false:=zS;rw[Zqe hR];exact Zq hlt
theorem Z9i(G:Nat->V)(hG:GOk G)(c d:Col)(part most:Nat)(s:Sl VtM)(hs:s.l.length<1000000){f:FuncId}{cap:List V}{p:Nat->Bool}(hf:FnW G f cap (Zra d.ent) s.l p):
  Spec Tryz.prog G 154 [.int .u8 part,Za c 8 (Zra d) s,.int .i64 most,.func (.func f) [] cap] Zk (λv _=>v=Z7d (Z0a part most p s.l.length)):=by
  refine Zo 0 36 [.cell 8 140] Tryz.func154 λX=>?_;refine Z ?_;intro g8;refine Z ?_
  refine Zfa s.l.length (λk (_:Unit)=>st [(0,.int .u8 part),(1,Za c 8 (Zra d) s),(2,.int .i64 most),(3,.func (.func f) [] cap),(8,.ptr 8 g8 0),(11,Za c 8 (Zra d) s),(12,.int .i64 s.l.length),(13,.int .i64 k)] [(8,.cells .new g8 0 [.int .u8 0,.int .i64 0,.int .i64 0])])
   (λk _=>∀ i,i<k->i≠most/\p i=true) 0 () (Nat.zero_le _) (λi h=>absurd h (Nat.not_lt_zero _)) (Zb zp zp) ?_
  intro k _ hk hR L3 hL3
  by_cases hk1:k<s.l.length
  have hlt:decide ((k:Int)<(s.l.length:Int))=true:=zT;have hg:=List.getElem?_eq_getElem hk1;generalize s.l[k]=x at hg;have w1:IntKind.i64.wrap ((k:Int)+1)=(k:Int)+1:=w64 zo zo;refine Zf (zi hlt (zi hg Zm)) ?_;intro g10
  by_cases hm:k=most
  have q:((k:Int)==(most:Int))=true:=by simp[hm]
  rw[Zwb hk1 hR (.inl hm),if_pos hm,hm];exact Zh q
  .have q:((k:Int)==(most:Int))=false:=by
    have:¬ (k:Int)=(most:Int):=zo;simpa using this
   refine Zg q ?_;refine Zcf hf.rc hG ?_ (e:=hf.en) (s:=hf.sp k x hg)
   cases hp:p k with
   |false=>
    rw[Zwb hk1 hR (.inr hp),if_neg hm];exact Zr
   |true=>
    refine Zf w1 ?_;refine hL3 _ ⟨hk1,(),λi hi=>?_,Zb zp zp⟩
    by_cases h3:i=k
    rw[h3];exact⟨hm,hp⟩;exact hR i zo
  have hke:k=s.l.length:=zo;subst hke;have hlt:decide ((s.l.length:Int)<(s.l.length:Int))=false:=zS;rw[Zqe hR];exact Zq hlt
theorem Zxp(G:Nat->V)(hG:GOk G)(c d:Col)(part most:Nat)(s:Sl TrM)(hs:s.l.length<1000000){f:FuncId}{cap:List V}{p:Nat->Bool}(hf:FnW G f cap (Z6a d.ent) s.l p):
  Spec Tryz.prog G 161 [.int .u8 part,Za c 8 (Z6a d) s,.int .i64 most,.func (.func f) [] cap] Zk (λv _=>v=Z7d (Z0a part most p s.l.length)):=by
  refine Zo 0 36 [.cell 8 140] Tryz.func161 λX=>?_;refine Z ?_;intro g8;refine Z ?_
  refine Zfa s.l.length (λk (_:Unit)=>st [(0,.int .u8 part),(1,Za c 8 (Z6a d) s),(2,.int .i64 most),(3,.func (.func f) [] cap),(8,.ptr 8 g8 0),(11,Za c 8 (Z6a d) s),(12,.int .i64 s.l.length),(13,.int .i64 k)] [(8,.cells .new g8 0 [.int .u8 0,.int .i64 0,.int .i64 0])])
   (λk _=>∀ i,i<k->i≠most/\p i=true) 0 () (Nat.zero_le _) (λi h=>absurd h (Nat.not_lt_zero _)) (Zb zp zp) ?_
  intro k _ hk hR L3 hL3
  by_cases hk1:k<s.l.length
  have hlt:decide ((k:Int)<(s.l.length:Int))=true:=zT;have hg:=List.getElem?_eq_getElem hk1;generalize s.l[k]=x at hg;have w1:IntKind.i64.wrap ((k:Int)+1)=(k:Int)+1:=w64 zo zo;refine Zf (zi hlt (zi hg Z6)) ?_;intro g10
  by_cases hm:k=most
  have q:((k:Int)==(most:Int))=true:=by simp[hm]
  rw[Zwb hk1 hR (.inl hm),if_pos hm,hm];exact Zh q
  .have q:((k:Int)==(most:Int))=false:=by
    have:¬ (k:Int)=(most:Int):=zo;simpa using this
   refine Zg q ?_;refine Zcf hf.rc hG ?_ (e:=hf.en) (s:=hf.sp k x hg)
   cases hp:p k with
   |false=>
    rw[Zwb hk1 hR (.inr hp),if_neg hm];exact Zr
   |true=>
    refine Zf w1 ?_;refine hL3 _ ⟨hk1,(),λi hi=>?_,Zb zp zp⟩
    by_cases h3:i=k
    rw[h3];exact⟨hm,hp⟩;exact hR i zo
  have hke:k=s.l.length:=zo;subst hke;have hlt:decide ((s.l.length:Int)<(s.l.length:Int))=false:=zS;rw[Zqe hR];exact Zq hlt
theorem Z10(G:Nat->V)(p:List UInt8×Int)(c:Col)(a:List UInt8×Int):Spec Tryz.prog G 146 [Zaa p,.view c (Zaa a)] Zk (λv _=>v=.bool (p.1==a.1)):=by
 refine Zo 0 9 [.tmp 3] Tryz.func146 λX=>?_;simp only[Zmb];refine Z ?_;intro g2;exact Zr
theorem Zm7(G:Nat->V)(hG:GOk G)(c c1:Col)(s:Sl (List UInt8×Int))(hs:s.l.length<1000000)(a:List UInt8×Int):
  Spec Tryz.prog G 213 [Za c 2 Zaa s,.func (.func 146) [] [.view c1 (Zaa a)]] Zk (λv _=>v=.int .i64 (Zup (λp=>p.1==a.1) s.l)):=by
 refine Zo 0 19 [.tmp 4] Tryz.func213 λX=>?_;refine Z ?_
 refine Zfa s.l.length (λk (_:Unit)=>st [(0,Za c 2 Zaa s),(1,.func (.func 146) [] [.view c1 (Zaa a)]),(7,.int .i64 s.l.length),(8,.int .i64 k)] []) (λk _=>∀ y∈s.l.take k,(y.1==a.1)=false) 0 () (Nat.zero_le _) zS
  (Zb zp zp) ?_
 intro k _ hk hR L2 hL2
 by_cases hk1:k<s.l.length
 .have hlt:decide ((k:Int)<(s.l.length:Int))=true:=zT
  have hg:=List.getElem?_eq_getElem hk1;generalize s.l[k]=x at hg;refine Zf (zi hlt (zi hg Zmb)) ?_;refine Zcf @Zmb hG ?_ (s:=Z10 G x c1.ent a)
  cases h6:(x.1==a.1)with
  |true=>
   refine Z ?_;rw[Z1d (p:=λp:List UInt8×Int=>p.1==a.1) hg hR h6]
  |false=>
   have w1:IntKind.i64.wrap ((k:Int)+1)=(k:Int)+1:=w64 zo zo;refine Zf w1 ?_;exact hL2 _ ⟨hk1,(),Z1e hg hR h6,Zb (zpf @Zmb) zp⟩
 have hke:k=s.l.length:=zo;have hlt:decide ((k:Int)<(s.l.length:Int))=false:=zF;rw[hke,List.take_length]at hR;refine Zf hlt ?_;rw[Z2d (p:=λp:List UInt8×Int=>p.1==a.1) hR]
theorem Zbk{α : Type}(p : α -> Bool)(l:List α):decide (Zup p l>=0)=l.any p:=by
 unfold Zup
 cases h:l.findIdx? p with
 |none=>
  rw[List.findIdx?_eq_none_iff]at h;rw[List.any_eq_false.2 (λx hx=>by rw[h x hx];decide)];rfl
 |some i=>
  obtain⟨h1,h2,_⟩:=List.findIdx?_eq_some_iff_getElem.1 h;rw[List.any_eq_true.2 ⟨_,List.getElem_mem h1,h2⟩];exact decide_eq_true (Int.natCast_nonneg i)
theorem Zl8(G:Nat->V)(hG:GOk G)(c c1:Col)(s:Sl (List UInt8×Int))(hs:s.l.length<1000000)(a:List UInt8×Int):
  Spec Tryz.prog G 145 [Za c 2 Zaa s,.func (.func 146) [] [.view c1 (Zaa a)]] Zk (λv _=>v=.bool (s.l.any λp=>p.1==a.1)):=by
 refine Zo 0 9 [.tmp 4] Tryz.func145 λX=>?_;refine Z ?_;refine Zcf @Zmb hG ?_ (s:=Zm7 G hG c.ent c1.ent s hs a);refine Z ?_;rw[Zbk]
theorem Zp7(G:Nat->V)(c:Col)(t:Int)(s:Sl Int)(hs:s.l.length<1000000):Spec Tryz.prog G 124 [Za c 1 (V.int .i64) s,.int .i64 t] Zk (λv _=>v=.int .i64 (Zup (t == ·) s.l)):=by
  refine Zo 0 19 [.tmp 4] Tryz.func124 λX=>?_;refine Z ?_;refine Zfa s.l.length (λk (_:Unit)=>st [(0,Za c 1 (V.int .i64) s),(1,.int .i64 t),(7,.int .i64 s.l.length),(8,.int .i64 k)] []) (λk _=>∀ y∈s.l.take k,(t==y)=false) 0 () (Nat.zero_le _) zS (Zb zp zp) ?_;intro k _ hk hR L2 hL2
  by_cases hk1:k<s.l.length
  have hlt:decide ((k:Int)<(s.l.length:Int))=true:=zT;have hg:=List.getElem?_eq_getElem hk1;generalize s.l[k]=x at hg;have w1:IntKind.i64.wrap ((k:Int)+1)=(k:Int)+1:=w64 zo zo;cases h6:(t==x);refine Zf (zi hlt (zi hg (zi h6 w1))) ?_;exact hL2 _ ⟨hk1,(),Z1e hg hR h6,Zb zp zp⟩;refine Zf (zi hlt (zi hg h6)) ?_;rw[Z1d (p:=λy=>t==y) hg hR h6];have hke:k=s.l.length:=zo;have hlt:decide ((k:Int)<(s.l.length:Int))=false:=zF;rw[hke,List.take_length]at hR;refine Zf hlt ?_;rw[Z2d (p:=λy=>t==y) hR]
theorem Zn7(G:Nat->V)(c:Col)(t:Int)(s:Sl Int)(hs:s.l.length<1000000):Spec Tryz.prog G 221 [Za c 1 (V.int .u8) s,.int .u8 t] Zk (λv _=>v=.int .i64 (Zup (t == ·) s.l)):=by
  refine Zo 0 19 [.tmp 4] Tryz.func221 λX=>?_;refine Z ?_;refine Zfa s.l.length (λk (_:Unit)=>st [(0,Za c 1 (V.int .u8) s),(1,.int .u8 t),(7,.int .i64 s.l.length),(8,.int .i64 k)] []) (λk _=>∀ y∈s.l.take k,(t==y)=false) 0 () (Nat.zero_le _) zS (Zb zp zp) ?_;intro k _ hk hR L2 hL2
  by_cases hk1:k<s.l.length
  have hlt:decide ((k:Int)<(s.l.length:Int))=true:=zT;have hg:=List.getElem?_eq_getElem hk1;generalize s.l[k]=x at hg;have w1:IntKind.i64.wrap ((k:Int)+1)=(k:Int)+1:=w64 zo zo;cases h6:(t==x);refine Zf (zi hlt (zi hg (zi h6 w1))) ?_;exact hL2 _ ⟨hk1,(),Z1e hg hR h6,Zb zp zp⟩;refine Zf (zi hlt (zi hg h6)) ?_;rw[Z1d (p:=λy=>t==y) hg hR h6];have hke:k=s.l.length:=zo;have hlt:decide ((k:Int)<(s.l.length:Int))=false:=zF;rw[hke,List.take_length]at hR;refine Zf hlt ?_;rw[Z2d (p:=λy=>t==y) hR]
theorem Zcr(G:Nat->V)(hG:GOk G)(c:Col)(t:Int)(s:Sl Int)(hs:s.l.length<1000000):Spec Tryz.prog G 65 [Za c 1 (V.int .i64) s,.int .i64 t] Zk (λv _=>v=.bool (s.l.contains t)):=by
 refine Zo 0 9 [.tmp 4] Tryz.func65 λX=>?_;refine Z ?_;refine Zc hG ?_ (s:=Zp7 G _ t s hs);refine Z ?_;rw[Zbk,<- List.contains_eq_any_beq]
theorem Zm8(G:Nat->V)(hG:GOk G)(c:Col)(t:Int)(s:Sl Int)(hs:s.l.length<1000000):Spec Tryz.prog G 188 [Za c 1 (V.int .u8) s,.int .u8 t] Zk (λv _=>v=.bool (s.l.contains t)):=by
 refine Zo 0 9 [.tmp 4] Tryz.func188 λX=>?_;refine Z ?_;refine Zc hG ?_ (s:=Zn7 G _ t s hs);refine Z ?_;rw[Zbk,<- List.contains_eq_any_beq]
theorem Z5a(G:Nat->V)(hG:GOk G)(b c d e f:Col)(m:MdM)(ns vs:Sl (List UInt8))(v:Int)(h0:0<=v)(h1:v<m.p.vertices.length)(ks:Sl Int)(hk:ks.l.length<1000000):
  Spec Tryz.prog G 163 [ckV b c d e m ns vs,.int .i64 v,Za f 1 (V.int .u8) ks] Zk (λw _=>w=.bool (ks.l.contains (m.p.kd v))):=by
 refine Zo 0 18 [.tmp 6] Tryz.func163 λX=>?_;obtain⟨k,x,rfl,hk,hg,hx⟩:=MdM.at h0 h1;rw[PM.kd,hx];simp only[Z8a];refine Zf (zi hg (zi hk (zi Zm (zi @Int.natCast_nonneg @Int.ofNat_lt)))) ?_;refine Zc hG ?_ (s:=Zm8 G hG _ x.kind ks (by assumption));exact Zr
theorem Zj7(m:MdM)(v:Int):m.p.inc v=(m.ways.l.filter λt=>t.target==v).map (·.source):=by
 show((m.ways.l.map TrM.p).filter _).map _=_
 rw[List.filter_map,List.map_map]<;>rfl
theorem Zg6(m:MdM)(v:Int):m.p.out v=(m.ways.l.filter λt=>t.source==v).map (·.target):=by
 show((m.ways.l.map TrM.p).filter _).map _=_
 rw[List.filter_map,List.map_map]<;>rfl
theorem Z8h(G:Nat->V)(hG:GOk G)(b c d e:Col)(m:MdM)(ns vs:Sl (List UInt8))(hw:m.ways.l.length<1000000)(v:Int):
  Spec Tryz.prog G 166 [ckV b c d e m ns vs,.int .i64 v] Zk (λw _=>w=Za .new 1 (V.int .i64) (Zt (m.p.inc v))):=by
 rw[Zj7];refine Zo 0 28 [.tmp 4] Tryz.func166 λX=>?_;simp only[Z8a];refine Z ?_
 refine Zfa m.ways.l.length (λk (g:Nat)=>st [(0,ckV b c d e m ns vs),(1,.int .i64 v),(4,grown 25 g 1 (((m.ways.l.take k).filter λt=>t.target==v).map (·.source))),(11,Za c 8 (Z6a d) m.ways),(12,.int .i64 m.ways.l.length),(13,.int .i64 k)] [(25,Ztb g (V.int .i64) (((m.ways.l.take k).filter λt=>t.target==v).map (·.source)))])
  (λ_ _=>True) 0 0 (Nat.zero_le _) trivial (Zb (zpf @Z8a) zp) ?_
 intro k g hk _ L3 hL3
 by_cases hk1:k<m.ways.l.length
 have hlt:decide ((k:Int)<(m.ways.l.length:Int))=true:=zT;have hg:=List.getElem?_eq_getElem hk1
 have htk:m.ways.l.take (k+1)=m.ways.l.take k++[m.ways.l[k]]:=by rw[List.take_succ_eq_append_getElem hk1]
 have hlen:(((m.ways.l.take k).filter λt=>t.target==v).map (·.source)).length<=k:=by
  rw[List.length_map];exact Nat.le_trans (List.length_filter_le _ _) (by rw[List.length_take];omega)
 generalize m.ways.l[k]=x at hg htk;have w1:IntKind.i64.wrap ((k:Int)+1)=(k:Int)+1:=w64 zo zo;rw[htk]at hL3;simp only[List.filter_append,List.map_append]at hL3;generalize((m.ways.l.take k).filter λt=>t.target==v).map (·.source)=acc at hlen hL3;refine Zf (zi hlt (zi hg Z6)) ?_;intro g6;cases q:(x.target==v);rw[List.filter_cons_of_neg (by simp[q])]at hL3;simp only[List.filter_nil,List.map_nil,List.append_nil]at hL3;refine Zf (zi q w1) ?_;exact hL3 _ ⟨hk1,g,trivial,Zb (zpf @Z8a) zp⟩;rw[List.filter_cons_of_pos (by simp[q])]at hL3;simp only[List.filter_nil,List.map_nil,List.map_cons]at hL3;refine Zf (zi q Z6) ?_;intro g24;refine Zvb (f:=V.int .i64) (l:=acc) (l2:=[x.source]) (g:=g) (λ_=>rfl) rfl rfl rfl zp (Zca zo zO) λg2=>?_;refine Zs ?_;refine Zf w1 ?_;exact hL3 _ ⟨hk1,g2,trivial,Zb (zpf @Z8a) zp⟩;have hke:k=m.ways.l.length:=zo;subst hke;rw[List.take_length];have hlt:decide ((m.ways.l.length:Int)<(m.ways.l.length:Int))=false:=zS;generalize(m.ways.l.filter λt=>t.target==v).map (·.source)=acc;refine AW.weak (Zx (λo=>o==25) (l:=[(0,ckV b c d e m ns vs),(4,Za .new 1 (V.int .i64) (Zt acc)),(12,.int .i64 m.ways.l.length),(13,.int .i64 m.ways.l.length)]) (m:=[]) ?_ trivial) ?_;refine Zs ?_;exact⟨Fz.same _,Zpd (l:=acc) (g:=g) (f:=V.int .i64) rfl zp (λ_=>rfl),Fz.same _⟩;exact Zq hlt
theorem Z8d(G:Nat->V)(hG:GOk G)(b c d e:Col)(m:MdM)(ns vs:Sl (List UInt8))(hw:m.ways.l.length<1000000)(v:Int):
  Spec Tryz.prog G 164 [ckV b c d e m ns vs,.int .i64 v] Zk (λw _=>w=Za .new 1 (V.int .i64) (Zt (m.p.out v))):=by
 rw[Zg6];refine Zo 0 28 [.tmp 4] Tryz.func164 λX=>?_;simp only[Z8a];refine Z ?_
 refine Zfa m.ways.l.length (λk (g:Nat)=>st [(0,ckV b c d e m ns vs),(1,.int .i64 v),(4,grown 25 g 1 (((m.ways.l.take k).filter λt=>t.source==v).map (·.target))),(11,Za c 8 (Z6a d) m.ways),(12,.int .i64 m.ways.l.length),(13,.int .i64 k)] [(25,Ztb g (V.int .i64) (((m.ways.l.take k).filter λt=>t.source==v).map (·.target)))])
  (λ_ _=>True) 0 0 (Nat.zero_le _) trivial (Zb (zpf @Z8a) zp) ?_
 intro k g hk _ L3 hL3
 by_cases hk1:k<m.ways.l.length
 have hlt:decide ((k:Int)<(m.ways.l.length:Int))=true:=zT;have hg:=List.getElem?_eq_getElem hk1
 have htk:m.ways.l.take (k+1)=m.ways.l.take k++[m.ways.l[k]]:=by rw[List.take_succ_eq_append_getElem hk1]
 have hlen:(((m.ways.l.take k).filter λt=>t.source==v).map (·.target)).length<=k:=by
  rw[List.length_map];exact Nat.le_trans (List.length_filter_le _ _) (by rw[List.length_take];omega)
 generalize m.ways.l[k]=x at hg htk;have w1:IntKind.i64.wrap ((k:Int)+1)=(k:Int)+1:=w64 zo zo;rw[htk]at hL3;simp only[List.filter_append,List.map_append]at hL3;generalize((m.ways.l.take k).filter λt=>t.source==v).map (·.target)=acc at hlen hL3;refine Zf (zi hlt (zi hg Z6)) ?_;intro g6;cases q:(x.source==v);rw[List.filter_cons_of_neg (by simp[q])]at hL3;simp only[List.filter_nil,List.map_nil,List.append_nil]at hL3;refine Zf (zi q w1) ?_;exact hL3 _ ⟨hk1,g,trivial,Zb (zpf @Z8a) zp⟩;rw[List.filter_cons_of_pos (by simp[q])]at hL3;simp only[List.filter_nil,List.map_nil,List.map_cons]at hL3;refine Zf (zi q Z6) ?_;intro g24;refine Zvb (f:=V.int .i64) (l:=acc) (l2:=[x.target]) (g:=g) (λ_=>rfl) rfl rfl rfl zp (Zca zo zO) λg2=>?_;refine Zs ?_;refine Zf w1 ?_;exact hL3 _ ⟨hk1,g2,trivial,Zb (zpf @Z8a) zp⟩;have hke:k=m.ways.l.length:=zo;subst hke;rw[List.take_length];have hlt:decide ((m.ways.l.length:Int)<(m.ways.l.length:Int))=false:=zS;generalize(m.ways.l.filter λt=>t.source==v).map (·.target)=acc;refine AW.weak (Zx (λo=>o==25) (l:=[(0,ckV b c d e m ns vs),(4,Za .new 1 (V.int .i64) (Zt acc)),(12,.int .i64 m.ways.l.length),(13,.int .i64 m.ways.l.length)]) (m:=[]) ?_ trivial) ?_;refine Zs ?_;exact⟨Fz.same _,Zpd (l:=acc) (g:=g) (f:=V.int .i64) rfl zp (λ_=>rfl),Fz.same _⟩;exact Zq hlt
theorem Zfn:∀ (l acc:List Int) (r:Int),Zmg acc (l++[r])=if 0<=r/\(Zmg acc l).contains r=false then Zmg acc l++[r]else Zmg acc l
 |[],acc,r=>rfl
 |x::t,acc,r=>by
  rw[List.cons_append,Zmg,Zmg];exact Zfn t _ r
theorem inIm(x:Int):∀ y∈(V.int .i64 x).cells,y.Im:=λy hy=>by
 simp only[V.cells,List.mem_cons,List.not_mem_nil,or_false]at hy;rw[hy];exact .int _ _
theorem Z0i(G:Nat->V)(hG:GOk G)(b c d e c2:Col)(m:MdM)(ns vs:Sl (List UInt8))(hm:m.p.Rt)(l:Sl Int)(hl:l.l≠[])(hll:l.l.length<1000000)(hr:∀ v∈l.l,0<=v/\v<m.p.vertices.length):
  Spec Tryz.prog G 167 [ckV b c d e m ns vs,Za c2 1 (V.int .i64) l] Zk (λw _=>w=.bool (m.p.partU l.l)):=by
 refine Zo 0 48 [.tmp 4] Tryz.func167 λX=>?_;have hl0:0<l.l.length:=List.length_pos_iff.2 hl;have hg0:=List.getElem?_eq_getElem hl0
 have hhd:l.l.headD 0=l.l[0]:=by rw[List.headD_eq_head?_getD,List.head?_eq_getElem?,hg0]<;>rfl
 obtain⟨v0,v1⟩:=hr l.l[0] (List.getElem_mem hl0);rw[PM.partU,hhd];generalize l.l[0]=v at hg0 v0 v1;refine Zf (zi hg0 hl0) ?_;refine Zc hG ?_ (s:=Z2b G hG _ _ _ _ m ns vs hm.toRt5 v v0 v1);refine Z ?_;refine Zqd (fun(w:Int)=>st [(0,ckV b c d e m ns vs),(1,Za c2 1 (V.int .i64) l),(5,.int .i64 (m.p.around w))] []) (λw=>0<=w/\w<m.p.vertices.length/\(m.p.ups v).any (λs=>Zyi [] (l.l.map (m.p.regU · s)))=(m.p.ups w).any λs=>Zyi [] (l.l.map (m.p.regU · s))) (λw=>(m.p.ups w).length) v ⟨v0,v1,rfl⟩ (Zb zp zp) ?_;rintro w ⟨w0,w1,hw⟩ L7 hL7
 by_cases ha:0<=m.p.around w
 rotate_left;have q0:decide (m.p.around w>=0)=false:=zF;rw[hw,PM.Acy.ups_nil zo];exact Zq q0;have q0:decide (m.p.around w>=0)=true:=zT
 have ha1:m.p.around w<m.p.vertices.length:=by
  rcases hm.acy.rng w w0 w1 with q|q
  omega;exact q.2
 have hup:=hm.acy.ups_cons w0 w1 ha;have hlen:=congrArg List.length hup;rw[List.length_cons]at hlen;rw[hup,List.any_cons]at hw;refine Zf q0 ?_;generalize hae:m.p.around w=a at ha ha1 hw hlen
 refine Zfa l.l.length (λk (g:Nat)=>st [(0,ckV b c d e m ns vs),(1,Za c2 1 (V.int .i64) l),(5,.int .i64 a),(6,grown 41 g 1 (Zmg [] ((l.l.take k).map (m.p.regU · a)))),(20,Za c2 1 (V.int .i64) l),(21,.int .i64 l.l.length),(22,.int .i64 k)] [(41,Ztb g (V.int .i64) (Zmg [] ((l.l.take k).map (m.p.regU · a))))])
  (λ_ _=>True) 0 0 (Nat.zero_le _) trivial (Zb zp zp) ?_
 intro k g hk _ L3 hL3
 by_cases hk1:k<l.l.length
 .have hlt:decide ((k:Int)<(l.l.length:Int))=true:=zT
  have hg:=List.getElem?_eq_getElem hk1
  have htk:l.l.take (k+1)=l.l.take k++[l.l[k]]:=by rw[List.take_succ_eq_append_getElem hk1]
  obtain⟨x0,x1⟩:=hr l.l[k] (List.getElem_mem hk1);have hsl:=Zjo ((l.l.take k).map (m.p.regU · a)) [];rw[List.length_map,List.length_take]at hsl;generalize l.l[k]=x at hg htk x0 x1;have w2:IntKind.i64.wrap ((k:Int)+1)=(k:Int)+1:=w64 zo zo;rw[htk,List.map_append]at hL3;simp only[List.map_cons,List.map_nil,Zfn]at hL3;generalize Zmg [] ((l.l.take k).map (m.p.regU · a))=acc at hsl hL3
  have hsl:acc.length<=k:=by simp only[List.length_nil]at hsl;omega
  refine Zf (zi hlt hg) ?_;refine Zc hG ?_ (s:=Znj G hG _ _ _ _ m ns vs hm x a x0 x1 ha);generalize m.p.regU x a=r at hL3
  by_cases hr0:0<=r
  rotate_left;have q1:decide (r>=0)=false:=zF;rw[if_neg (λh=>hr0 h.1)]at hL3;refine Zg (zi q1 w2) ?_;exact hL3 _ ⟨hk1,g,trivial,Zb zp zp⟩;have q1:decide (r>=0)=true:=zT;refine Zg q1 ?_;refine Zha hG [Za .old 1 (V.int .i64) (Zt acc),.int .i64 r] zk ⟨Zpp zp (λ_=>rfl) inIm (λ_=>rfl),Zka (.int _ _) rfl,trivial⟩ ?_;refine(Zcr G hG .old r (Zt acc) (by rw[Zl];omega)).mono ?_;rintro _ _ rfl;rw[Zl];refine⟨.bool _,?_⟩;cases hc:acc.contains r;rw[if_pos ⟨hr0,hc⟩]at hL3;refine Zs ?_;refine Z ?_;intro g40;refine Zvb (f:=V.int .i64) (l:=acc) (l2:=[r]) (g:=g) (λ_=>rfl) rfl rfl rfl zp (Zca zo zO) λg2=>?_;refine Zs ?_;refine Zf w2 ?_;exact hL3 _ ⟨hk1,g2,trivial,Zb zp zp⟩;rw[if_neg (λh=>by rw[hc]at h;cases h.2)]at hL3;refine Zs ?_;refine Zf w2 ?_;exact hL3 _ ⟨hk1,g,trivial,Zb zp zp⟩
 have hke:k=l.l.length:=zo;subst hke;rw[List.take_length];have hlt:decide ((l.l.length:Int)<(l.l.length:Int))=false:=zS;have hall:=Zxk (l.l.map (m.p.regU · a)) [];rw[List.length_nil,Nat.zero_add,List.length_map]at hall;rw[<- hall]at hw;generalize Zmg [] (l.l.map (m.p.regU · a))=acc at hw
 have e1:(((acc.length:Nat):Int)==((l.l.length:Nat):Int))=decide (acc.length=l.l.length):=by
  rw[Bool.eq_iff_iff,beq_iff_eq,decide_eq_true_eq];omega
 cases h:decide (acc.length=l.l.length);rw[h]at e1 hw;rw[Bool.false_or]at hw;refine Zf (zi hlt e1) ?_;refine Zc hG ?_ (s:=Z2b G hG _ _ _ _ m ns vs hm.toRt5 a ha ha1);refine Z ?_;exact hL7 _ ⟨a,zo,⟨ha,ha1,hw⟩,Zb zp zp⟩;rw[h]at e1 hw;rw[hw,Bool.true_or];exact Zq (zi hlt e1)
end Go.Hs
end

section
namespace Go.Hs
def sgT(op:Nat):List UInt8:=(tabL.getD op ⟨[],0,0⟩).text
def wNot:List UInt8:=[110,111,116]
def wTrue:List UInt8:=[116,114,117,101]
def wFalse:List UInt8:=[102,97,108,115,101]
inductive Gr:Int->List (List UInt8)->X->Prop where
 |num {n:Int} {t:List UInt8} {v:Int}:isP t=1->Zbd (Zkf t)=(v,0)->Gr n [t] (.leaf 1 v [])
 |name {n:Int} {t:List UInt8}:isP t=2->Gr n [t] (.leaf 2 0 t)
 |tr {n:Int}:Gr n [wTrue] (.leaf 3 0 [])
 |fa {n:Int}:Gr n [wFalse] (.leaf 4 0 [])
 |neg {n:Int} {ts:List (List UInt8)} {a:X}:n<=9->Gr 9 ts a->Gr n ([45]::ts) (.un 5 a)
 |not {n:Int} {ts:List (List UInt8)} {a:X}:n<=9->Gr 9 ts a->Gr n (wNot::ts) (.un 6 a)
 |par {n:Int} {ts:List (List UInt8)} {a:X}:Gr 1 ts a->Gr n ([40]::(ts++[[41]])) a
 |bin {n:Int} {op:Nat} {ta tb:List (List UInt8)} {a b:X}:7<=op->op<=21->n<=lvl op->Gr (lvl op) ta a->Gr (lvl op+1) tb b->Gr n (ta++sgT op::tb) (.bin op a b)
 |ite {n:Int} {ta tb tc:List (List UInt8)} {a b c:X}:Gr 1 ta a->Gr 1 tb b->Gr 1 tc c->Gr n (wIf::(ta++Zg0::(tb++Zh0::(tc++[Zlk])))) (.ite a b c)
theorem Gr.mono{n m:Int}{ts:List (List UInt8)}{x:X}(h:Gr n ts x)(hm:m<=n):Gr m ts x:=by
 cases h with
 |num h1 h2=>exact .num h1 h2
 |name h1=>exact .name h1
 |tr=>exact .tr
 |fa=>exact .fa
 |neg h1 h2=>exact .neg (by omega) h2
 |not h1 h2=>exact .not (by omega) h2
 |par h1=>exact .par h1
 |bin h1 h2 h3 h4 h5=>exact .bin h1 h2 (by omega) h4 h5
 |ite h1 h2 h3=>exact .ite h1 h2 h3
theorem Gr.pos{n:Int}{ts:List (List UInt8)}{x:X}(h:Gr n ts x):0<ts.length:=by
 cases h<;>simp<;>omega
def wdOf(t:Tk):List UInt8:=if(isP t.text:Int)=t.kind then t.text else[]
theorem next_wd{l:List Tk}{i:Nat}{w:List UInt8}(h:(l.map wdOf)[i]?=some w):(Zea l i).text=w/\(Zea l i).kind=isP w:=by
 have hk:=Zvo l i
 have:(Zea l i).text=w:=by
  rw[List.getElem?_map]at h;unfold Zea
  cases hg:l[i]? with
  |none=>rw[hg]at h;cases h
  |some t=>
   rw[hg]at h;simp only[Option.map_some,Option.some.injEq]at h;simp only;rw[<- h];unfold wdOf
   split<;>rfl
 exact⟨this,by rw[<- hk,this]⟩
theorem Zx6{l:List Tk}{i:Nat}(h:i<l.length):(l.map wdOf)[i]?=some (Zea l i).text:=by
 have hg:(l.map wdOf)[i]?=some (wdOf l[i]):=by rw[List.getElem?_map,List.getElem?_eq_getElem h];rfl
 rw[hg,(next_wd hg).1]
def Seg(l:List Tk)(i:Nat)(ts:List (List UInt8)):Prop:=∃ pre post,l.map wdOf=pre++(ts++post)/\pre.length=i
theorem Seg.le{l:List Tk}{i:Nat}{b:List (List UInt8)}(h:Seg l i b):i+b.length<=l.length:=by
 obtain⟨pre,post,e,hp⟩:=h;have:=congrArg List.length e;simp only[List.length_map,List.length_append]at this;omega
theorem Seg.app{l:List Tk}{i:Nat}{a b:List (List UInt8)}(h:Seg l i a)(h2:Seg l (i+a.length) b):Seg l i (a++b):=by
 obtain⟨pre,post,e,hp⟩:=h;obtain⟨pre2,post2,e2,hp2⟩:=h2;refine⟨pre,post2,?_,hp⟩;rw[e]at e2
 have h1:pre++(a++post)=(pre++a)++post:=by simp
 rw[h1]at e2;obtain⟨q1,q2⟩:=List.append_inj e2 (by simp[hp,hp2]);rw[e,q2];simp
theorem Seg.one{l:List Tk}{i:Nat}{w:List UInt8}(hi:i<l.length)(h:(Zea l i).text=w):Seg l i [w]:=by
 have hg:=Zx6 hi;rw[h]at hg;obtain⟨q1,q2⟩:=List.getElem?_eq_some_iff.1 hg;refine⟨(l.map wdOf).take i,(l.map wdOf).drop (i+1),?_,?_⟩;rw[<- q2,List.singleton_append,<- List.drop_eq_getElem_cons q1,List.take_append_drop];rw[List.length_take];omega
def after(r:RS)(k:Nat)(x:X):RS:=⟨r.i+k,r.nodes++x.row r.nodes.length,r.e⟩
theorem Ze6{t:List UInt8}(h:isP t=1):0<=(Zbd (Zkf t)).1:=by
 have hd:=(isP_dig h).2
 have h1:(Zkf t).all Z2a=true/\Zkf t≠[]:=by
  unfold Zkf
  split
  exact⟨by decide,by simp⟩;rename_i hn;refine⟨?_,hn⟩;rw[List.all_eq_true]at hd⊢;exact λx hx=>hd x ((List.dropWhile_sublist _).mem hx)
 obtain⟨h1,h2⟩:=h1;generalize Zkf t=s at h1 h2
 have hh':(s.head? == some 45)=false:=by
  cases s with
  |nil=>exact absurd rfl h2
  |cons c r=>
   rw[beq_eq_false_iff_ne];intro hc
   have hc:c=45:=by simpa using hc
   subst hc;rw[List.all_cons]at h1
   revert h1
   simp[Z2a]
 unfold Zbd;rw[hh'];simp only[Bool.false_eq_true,if_false,or_false]
 split
 exact Int.le_refl _;unfold told
 split
 exact Int.natCast_nonneg _;exact Int.le_refl _
theorem Gr.ok{n:Int}{ts:List (List UInt8)}{x:X}(h:Gr n ts x):x.ok=true:=by
 induction h with
 |@num n t v h1 h2=>
  have hp:=Ze6 h1;rw[h2]at hp;have hp:0<=v:=hp
  have:Zhf ⟨1,v,[],-1,-1,-1⟩=true:=by
   unfold Zhf;rw[if_neg (by simp;omega),if_neg (by simp)];rfl
  simp only[X.ok,this,Bool.true_and];rfl
 |@name n t h1=>
  have:Zhf ⟨2,0,t,-1,-1,-1⟩=true:=by
   unfold Zhf;rw[if_neg (by simp),if_pos rfl,h1];rfl
  simp only[X.ok,this,Bool.true_and];rfl
 |tr=>rfl
 |fa=>rfl
 |neg _ _ ih=>simp only[X.ok,ih,Bool.and_true];rfl
 |not _ _ ih=>simp only[X.ok,ih,Bool.and_true];rfl
 |par _ ih=>exact ih
 |bin h1 h2 _ _ _ ih1 ih2=>
  simp only[X.ok,ih1,ih2,Bool.and_true,Bool.and_eq_true,decide_eq_true_eq];omega
 |ite _ _ _ i1 i2 i3=>simp only[X.ok,i1,i2,i3];rfl
end Go.Hs
end

section
namespace Go.Hs
open Go.Proofs
set_option maxRecDepth 10000
theorem wu8R{z:Int}(h:0<=z)(h2:z<256):IntKind.u8.wrap z=z:=by
 unfold IntKind.wrap;simp[IntKind.signed,IntKind.bits];omega
def Z9g(c:Col)(s:ASt):V:=.agg [.int .u8 s.kind,.str s.name,Za c 6 Zxa (Zt s.x)]
theorem Zwi(c:Col)(s:ASt):Z9g c s=.agg [.int .u8 s.kind,.str s.name,Za c 6 Zxa (Zt s.x)]:=rfl
end Go.Hs
end
