/- Part 41 of a proof; no condition. -/
import Derived.Test.YtegjlbpnpiigkaaGreatDoorPart39
import Derived.Test.YtegjlbpnpiigkaaGreatDoorPart40
set_option linter.unusedSimpArgs false
set_option linter.unusedVariables false
section
namespace Go.Hs
open Go.Proofs
set_option maxHeartbeats 1000000
set_option maxRecDepth 10000
structure MdB (m:MdM):Prop where
 nm:m.name.length<1000000000000000
 var:∀ p∈m.vars.l,p.1.length<1000000000000000
 ev:∀ s∈m.events.l,s.length<1000000000000000
 rg:∀ p∈m.regions.l,p.1.length<1000000000000000
 vt:∀ x∈m.verts.l,x.name.length<1000000000000000∧x.sub.length<1000000000000000∧x.defers.l.length<1000000
 wy:∀ t∈m.ways.l,t.name.length<1000000000000000∧t.triggers.l.length<1000000
 nv:m.vars.l.length≤600
 ne:m.events.l.length≤600
 nr:m.regions.l.length≤600
 nx:m.verts.l.length≤600
 nw:m.ways.l.length≤600
theorem Z3d (G:Nat→V) (hE:GExp G) (s:List UInt8) (hs:s.length<1000000000000000):Spec Tryz.prog G 152 [.str s] Zl (fun v _=>v = .bool (Zrc s)):=by
 have hG:=hE.ok;refine Zo 0 10 [.tmp 2] Tryz.func152 fun X=>?_;rw [Zrc]
 cases h:(s==[]) with
 | true=>exact Zq h
 | false =>
  refine Zf h ?_;refine Zc hG ?_ (s:=Zyf G hE s hs);refine Z ?_;rw [Bool.false_or,show ((isP s:Int)==2)=(isP s==2) from by rw [Bool.eq_iff_iff,beq_iff_eq,beq_iff_eq];omega]
theorem Zbj (G:Nat→V) (c d:Col) (m:MdM) (v:Int):Spec Tryz.prog G 153 [Z2 c d m,.int .i64 v] Zl (fun w _=>w = .bool (m.p.stateB v)):=by
 refine Zo 0 23 [.tmp 4] Tryz.func153 fun X=>?_;simp only [Zj];refine Z1 ?_;intro g2;rw [PM.stateB]
 by_cases h0:0≤v
 ·by_cases h1:v<m.p.vertices.length
  ·obtain ⟨k,x,rfl,hk,hg,hx⟩:=MdM.at h0 h1
   rw [hx,decide_eq_true h0,decide_eq_true h1,Bool.true_and,Bool.true_and];have q0:decide ((k:Int)≥0)=true:=zT;have q1:decide ((k:Int)<(m.verts.l.length:Int))=true:=zT;refine Zf (zi hg (zi hk (zi Zt (zi @Int.natCast_nonneg (zi @Int.ofNat_lt (zi q0 q1)))))) ?_;rfl
  ·have q0:decide (v≥0)=true:=zT
   have q1:decide (v<(m.verts.l.length:Int))=false:=decide_eq_false (by rw [← m.nv];exact h1);rw [decide_eq_false h1,Bool.and_false,Bool.false_and];exact Zq (zi q0 q1)
 ·have q0:decide (v≥0)=false:=zF
  rw [decide_eq_false h0,Bool.false_and,Bool.false_and];exact Zq q0
theorem Zvq {ev l:List (List UInt8)}:evB ev l=true ↔ ∀ i s,l[i]? = some s→ev.contains s=true∧(l.take i).contains s=false:=by
 rw [evB,List.all_eq_true]
 constructor
 ·intro h i s hs
  have hi:i<l.length:=(List.getElem?_eq_some_iff.1 hs).1;have:=h i (List.mem_range.2 hi);rw [List.getD_eq_getElem?_getD,hs] at this;simpa using this
 ·intro h i hi
  have hi:=List.mem_range.1 hi;obtain ⟨a,b⟩:=h i _ (List.getElem?_eq_getElem hi);rw [List.getD_eq_getElem?_getD,List.getElem?_eq_getElem hi]
  show (ev.contains l[i] && !(l.take i).contains l[i])=true
  rw [a,b]<;>rfl
theorem Zqi {α : Type} (s:Sl α) (k:Nat):(s.sub 0 k).l=s.l.take k:=by
 cases s with
 | nil=>simp [Sl.sub,Sl.l]
 | mk b l=>simp [Sl.sub,Sl.l]
theorem Zoh (G:Nat→V) (hG:GOk G) (c d c1:Col) (m:MdM) (l:Sl (List UInt8)) (he:m.events.l.length<1000000) (hl:l.l.length<1000000) :
  Spec Tryz.prog G 157 [Z2 c d m,Zb c1 1 V.str l] Zl (fun w _=>w = .bool (evB m.events.l l.l)):=by
 refine Zo 0 27 [.tmp 4] Tryz.func157 fun X=>?_;simp only [Zj];refine Z ?_;intro g2;refine AW.weak (Zv (fun o=>o==2) (l:=[(1,Zb c1 1 V.str l),(2,.view .new (Z2 c d m)),(4,.bool false)]) (m:=[]) ?_ trivial) ?_
 ·refine Zs ?_
  exact ⟨Zd _,Fz.ptr (v:=Z2 c d m) (c := .new) (fz:=0) zp zp,Zd _⟩
 simp only [Zj];refine Z ?_
 refine Zda l.l.length (fun k (_:Unit)=>st [(1,Zb c1 1 V.str l),(2,.view .new (Z2 c d m)),(7,Zb c1 1 V.str l),(8,.int .i64 l.l.length),(9,.int .i64 k)] [])
  (fun k _=>∀ i s,i<k→l.l[i]? = some s→m.events.l.contains s=true∧(l.l.take i).contains s=false) 0 () (Nat.zero_le _) (fun i s h=>absurd h (Nat.not_lt_zero _)) (Za (zpf Zj) zp) ?_
 intro k _ hk hR L3 hL3
 by_cases hk1:k<l.l.length
 ·have hlt:decide ((k:Int)<(l.l.length:Int))=true:=zT
  have hg:=List.getElem?_eq_getElem hk1;generalize l.l[k]=x at hg;have w1:IntKind.i64.wrap ((k:Int)+1)=(k:Int)+1:=w64 (by omega) (by omega);refine Zf (zi hlt (zi hg Zj)) ?_;refine Zc hG ?_ (s:=Z6c G hG _ x m.events he)
  cases h1:m.events.l.contains x with
  | false =>
   refine Zs ?_;refine Z ?_
   have:evB m.events.l l.l=false:=by
    rw [Bool.eq_false_iff];intro h;have:=(Zvq.1 h k x hg).1;rw [h1] at this;cases this
   rw [this]
  | true =>
   refine Zs ?_;refine Zsf (zi (Nat.zero_le k) (Nat.le_of_lt hk1)) ?_;have hSp:=Z6c G hG c1.ent x (l.sub 0 k) (by rw [Zqi];simp;omega);rw [Zqi] at hSp;refine Zc hG ?_ (s:=hSp)
   cases h2:(l.l.take k).contains x with
   | true =>
    refine Z ?_
    have:evB m.events.l l.l=false:=by
     rw [Bool.eq_false_iff];intro h;have:=(Zvq.1 h k x hg).2;rw [h2] at this;cases this
    rw [this]
   | false =>
    refine Zf w1 ?_;refine hL3 _ ⟨hk1,(),fun i s hi hs=>?_,Za (zpf Zj) zp⟩
    by_cases h3:i=k
    ·subst h3
     rw [hg] at hs;obtain rfl:=Option.some.inj hs;exact ⟨h1,h2⟩
    ·exact hR i s (by omega) hs
 have hke:k=l.l.length:=by omega
 subst hke
 have hlt:decide ((l.l.length:Int)<(l.l.length:Int))=false:=by simp
 refine Zf hlt ?_;rw [Zvq.2 fun i s hs=>hR i s (List.getElem?_eq_some_iff.1 hs).1 hs]
theorem Zn0 (G:Nat→V) (hG:GOk G) (c d e:Col) (m:MdM) (x:VtM):Spec Tryz.prog G 156 [Z2 c d m,Zwa e x] Zl (fun w _=>w = .bool (m.p.liesB x.p)):=by
 refine Zo 0 38 [.tmp 4] Tryz.func156 fun X=>?_;simp only [Zj,Zt];refine Z ?_;intro g2 g3;rw [PM.liesB]
 cases h10:(x.kind==10) with
 | true =>
  have e1:x.kind=10:=by simpa using h10
  rw [if_pos (show x.p.kind=10∨x.p.kind=11 from .inl e1)]
  show AW _ _ _ (Zuk _ _ fun w _=>w = .bool ((x.region == -1) && m.p.stateB x.of)) _
  cases h2:(x.region == -1) with
  | false=>exact Zq (zi h10 (zi Zt h2))
  | true =>
   refine Zf (zi h10 (zi Zt h2)) ?_;refine Zc hG ?_ (s:=Zbj G c.ent d.ent m x.of);refine Z ?_;rw [Bool.true_and]
 | false =>
  have e1:¬ x.kind=10:=by simpa using h10
  cases h11:(x.kind==11) with
  | true =>
   have e2:x.kind=11:=by simpa using h11
   rw [if_pos (show x.p.kind=10∨x.p.kind=11 from .inr e2)]
   show AW _ _ _ (Zuk _ _ fun w _=>w = .bool ((x.region == -1) && m.p.stateB x.of)) _
   cases h2:(x.region == -1) with
   | false=>exact Zq (zi (zi h10 h11) (zi Zt h2))
   | true =>
    refine Zf (zi (zi h10 h11) (zi Zt h2)) ?_;refine Zc hG ?_ (s:=Zbj G c.ent d.ent m x.of);refine Z ?_;rw [Bool.true_and]
  | false =>
   have e2:¬ x.kind=11:=by simpa using h11
   rw [if_neg (show ¬ (x.p.kind=10∨x.p.kind=11) from fun h=>h.elim e1 e2)]
   show AW _ _ _ (Zuk _ _ fun w _=>w = .bool ((x.of == -1) && decide (0≤x.region) && decide (x.region<m.regions.l.length))) _
   have f:=zi h10 (zi h11 Zt)
   cases h2:(x.of == -1) with
   | false=>exact Zq (zi f h2)
   | true =>
    by_cases h3:0≤x.region
    ·have q:decide (x.region≥0)=true:=zT
     rw [decide_eq_true h3];exact Zq (zi f (zi h2 q))
    ·have q:decide (x.region≥0)=false:=zF
     rw [decide_eq_false h3];exact Zq (zi f (zi h2 q))
theorem Zow (G:Nat→V) (hG:GOk G) (c d:Col) (m:MdM) (hm:m.p.Rt5) (v:Int) (h0:0≤v) (h1:v<m.p.vertices.length) :
  Spec Tryz.prog G 159 [Z2 c d m,.int .i64 v] Zl (fun w _=>w = .int .i64 (m.p.depth v)):=by
 refine Zo 0 21 [.tmp 4] Tryz.func159 fun X=>?_;simp only [Zj];refine Z ?_;intro g2;refine AW.weak (Zv (fun o=>o==2) (l:=[(1,.int .i64 v),(2,.view .new (Z2 c d m))]) (m:=[]) ?_ trivial) ?_
 ·refine Zs ?_
  exact ⟨Zd _,Fz.ptr (v:=Z2 c d m) (c := .new) (fz:=0) zp zp⟩
 simp only [Zj];refine Z ?_;refine Zc hG ?_ (s:=Zdm G hG c.ent d.ent m hm v h0 h1);refine Z ?_
 refine Zlb (fun (y:Nat × Int)=>st [(1,.int .i64 (m.p.around y.2)),(2,.view .new (Z2 c d m)),(5,.int .i64 y.1)] [])
  (fun y=>y.1≤65∧0≤y.2∧y.2<m.p.vertices.length∧m.p.depth v=y.1+(m.p.upsF (65-y.1) y.2).length) (fun y=>65-y.1) (0,v) ⟨Nat.zero_le _,h0,h1,by rw [Nat.zero_add]<;>rfl⟩ (Za (zpf Zj) zp) ?_
 rintro ⟨n,w⟩ ⟨hn,w0,w1,hd⟩ L7 hL7;simp only at hn w0 w1 hd
 by_cases ha:0≤m.p.around w
 ·have q0:decide (m.p.around w≥0)=true:=zT
  by_cases hn2:n≤64
  ·have q1:decide ((n:Int)≤64)=true:=zT
   have e1:IntKind.i64.wrap ((n:Int)+1)=(n:Int)+1:=w64 (by omega) (by omega)
   have ha1:m.p.around w<m.p.vertices.length:=by
    rcases hm.rng w0 w1 with q | q
    ·omega
    ·exact q.2
   refine Zf (zi q0 (zi q1 (zi e1 Zj))) ?_;refine Zc hG ?_ (s:=Zdm G hG c.ent d.ent m hm (m.p.around w) ha ha1);refine Z ?_;refine hL7 _ ⟨(n+1,m.p.around w),by show 65-(n+1)<65-n;omega,⟨by show n+1≤65;omega,ha,ha1,?_⟩,Za (zpf Zj) zp⟩
   show m.p.depth v=n+1+(m.p.upsF (65-(n+1)) (m.p.around w)).length
   rw [hd,show 65-n=(65-(n+1))+1 by omega,PM.upsF,if_neg (by omega),List.length_cons];omega
  ·have q1:decide ((n:Int)≤64)=false:=zF
   refine Zf (zi q0 q1) ?_
   rw [hd,show 65-n=0 by omega]<;>rfl
 ·have q0:decide (m.p.around w≥0)=false:=zF
  refine Zf q0 ?_
  have:m.p.upsF (65-n) w=[]:=by
   cases h:65-n with
   | zero=>rfl
   | succ f=>rw [PM.upsF,if_pos (by omega)]
  rw [hd,this]<;>rfl
def Z0w (c d e:Col) (m:MdM) (ns vs:Sl (List UInt8)):V := .agg [.str m.name,Zb c 2 Zja m.vars,Zb c 1 V.str m.events,Zb c 2 Zja m.regions,Zb c 8 (Zwa d) m.verts,Zb c 8 (Zhb d) m.ways,Zb e 1 V.str ns,Zb e 1 V.str vs]
theorem Zn4 (c d e:Col) (m:MdM) (ns vs:Sl (List UInt8)):Z0w c d e m ns vs = .agg [.str m.name,Zb c 2 Zja m.vars,Zb c 1 V.str m.events,Zb c 2 Zja m.regions,Zb c 8 (Zwa d) m.verts,Zb c 8 (Zhb d) m.ways,Zb e 1 V.str ns,Zb e 1 V.str vs]:=rfl
theorem Zj6 (g:Col→Col) (c d e:Col) (m:MdM) (ns vs:Sl (List UInt8)):(Z0w c d e m ns vs).recol g=Z0w (g c) (g d) (g e) m ns vs:=by simp only [Zn4,Zkc,List.map_cons,List.map_nil,Zwc,Zid,Z0n,Zzn,Z1n]
def ckV (b c d e:Col) (m:MdM) (ns vs:Sl (List UInt8)):V := .view b (Z0w c d e m ns vs)
theorem Zzb (b c d e:Col) (m:MdM) (ns vs:Sl (List UInt8)):ckV b c d e m ns vs = .view b (.agg [.str m.name,Zb c 2 Zja m.vars,Zb c 1 V.str m.events,Zb c 2 Zja m.regions,Zb c 8 (Zwa d) m.verts,Zb c 8 (Zhb d) m.ways,Zb e 1 V.str ns,Zb e 1 V.str vs]):=rfl
@[go_sem] theorem Zkh (g:Col→Col) (b c d e:Col) (m:MdM) (ns vs:Sl (List UInt8)):(ckV b c d e m ns vs).recol g=ckV (g b) (g c) (g d) (g e) m ns vs:=by
 show (V.view b (Z0w c d e m ns vs)).recol g=_
 simp only [V.recol,Zj6];rfl
theorem vrIm (p:List UInt8 × Int):∀ y∈(Zja p).cells,y.Im:=fun y hy=>by
 simp only [Zza,V.cells,List.mem_cons,List.not_mem_nil,or_false] at hy
 rcases hy with rfl | rfl<;>first | exact .int _ _ | exact .str _
theorem Z77 (s:List UInt8):∀ y∈(V.str s).cells,y.Im:=fun y hy=>by
 simp only [V.cells,List.mem_cons,List.not_mem_nil,or_false] at hy;rw [hy];exact .str _
theorem vtIm (c:Col) (x:VtM):∀ y∈(Zwa c x).cells,y.Im:=fun y hy=>by
 simp only [Zt,V.cells,List.mem_cons,List.not_mem_nil,or_false] at hy
 rcases hy with rfl | rfl | rfl | rfl | rfl | rfl | rfl | rfl<;>first | exact .int _ _ | exact .str _ | exact Z3c Z77 _
theorem trIm (c:Col) (x:TrM):∀ y∈(Zhb c x).cells,y.Im:=fun y hy=>by
 simp only [Z9,V.cells,List.mem_cons,List.not_mem_nil,or_false] at hy
 rcases hy with rfl | rfl | rfl | rfl | rfl | rfl | rfl | rfl<;>first | exact .int _ _ | exact .str _ | exact Z3c Z77 _
theorem Z7r (b c d e:Col) (m:MdM) (ns vs:Sl (List UInt8)):(ckV b c d e m ns vs).Im := .view _ _ fun y hy=>by
 simp only [Zn4,V.cells,List.mem_cons,List.not_mem_nil,or_false] at hy
 rcases hy with rfl | rfl | rfl | rfl | rfl | rfl | rfl | rfl
 ·exact .str _
 ·exact Z3c vrIm _
 ·exact Z3c Z77 _
 ·exact Z3c vrIm _
 ·exact Z3c (vtIm d) _
 ·exact Z3c (trIm d) _
 ·exact Z3c Z77 _
 ·exact Z3c Z77 _
theorem Zyc (G:Nat→V) (hG:GOk G) (b c d e:Col) (m:MdM) (ns vs:Sl (List UInt8)) (hm:m.p.Rt5) (v:Int) (h0:0≤v) (h1:v<m.p.vertices.length) :
  Spec Tryz.prog G 125 [ckV b c d e m ns vs,.int .i64 v] Zl (fun w _=>w = .int .i64 (m.p.around v)):=by
 refine Zo 0 36 [.tmp 4] Tryz.func125 fun X=>?_;have hpt:=hm.pt h0 h1;obtain ⟨k,x,rfl,hk,hg,hx⟩:=MdM.at h0 h1;rw [PM.around];rw [hx] at hpt ⊢;simp only [Zzb];have f:=zi hg (zi hk (zi Zt (zi @Int.natCast_nonneg @Int.ofNat_lt)));refine Zf f ?_;intro g5
 by_cases ho:0≤x.of
 ·have q:decide (x.of≥0)=true:=zT
  refine Zf (zi f q) ?_
  rw [if_pos (show 0≤x.p.of from ho)]<;>rfl
 ·have q:decide (x.of≥0)=false:=zF
  obtain ⟨_,r0,r1,_⟩:=hpt.resolve_left (fun h=>ho h.1);obtain ⟨r,y,hr,hrk,hrg,hy⟩:=Z8m r0 r1;rw [if_neg (show ¬ 0≤x.p.of from ho),hy];have hr:x.region=(r:Int):=hr;refine Zf q ?_;refine ZTf (zi f (zi hr (zi hrg (zi hrk Zza)))) hG ?_;exact Zr
theorem Zsk (G:Nat→V) (hG:GOk G) (b c d e:Col) (m:MdM) (ns vs:Sl (List UInt8)) (hm:m.p.Rt) (v s:Int) (h0:0≤v) (h1:v<m.p.vertices.length) :
  Spec Tryz.prog G 69 [ckV b c d e m ns vs,.int .i64 v,.int .i64 s] Zl (fun w _=>w = .bool (m.p.inB v s)):=by
 refine Zo 0 18 [.tmp 6] Tryz.func69 fun X=>?_;refine Z ?_;refine Zc hG ?_ (s:=Zyc G hG _ _ _ _ m ns vs hm.toRt5 v h0 h1);refine Z ?_;refine Zlb (fun (w:Int)=>st [(0,ckV b c d e m ns vs),(1,.int .i64 (m.p.around w)),(2,.int .i64 s)] []) (fun w=>0≤w∧w<m.p.vertices.length∧m.p.inB v s=m.p.inB w s) (fun w=>(m.p.ups w).length) v ⟨h0,h1,rfl⟩ (Za zp zp) ?_;rintro w ⟨w0,w1,hw⟩ L7 hL7
 by_cases ha:0≤m.p.around w
 ·have q0:decide (m.p.around w≥0)=true:=zT
  have ha1:m.p.around w<m.p.vertices.length:=by
   rcases hm.acy.rng w w0 w1 with q | q
   ·omega
   ·exact q.2
  have hlen:=congrArg List.length (hm.acy.ups_cons w0 w1 ha);rw [List.length_cons] at hlen;have hin:=hm.acy.inB_up (s:=s) w0 w1 ha;cases q1:(m.p.around w==s)
  ·rw [q1,Bool.false_or] at hin
   refine Zf (zi q0 q1) ?_;refine Zc hG ?_ (s:=Zyc G hG _ _ _ _ m ns vs hm.toRt5 (m.p.around w) ha ha1);refine Z ?_;exact hL7 _ ⟨m.p.around w,by omega,⟨ha,ha1,by rw [hw,hin]⟩,Za zp zp⟩
  ·rw [q1,Bool.true_or] at hin
   rw [hw,hin];exact Zq (zi q0 q1)
 ·have q0:decide (m.p.around w≥0)=false:=zF
  rw [hw,PM.inB_nil (by omega)];exact Zq q0
theorem Zhm (G:Nat→V) (hG:GOk G) (b c d e:Col) (m:MdM) (ns vs:Sl (List UInt8)) (hm:m.p.Rt) (v s:Int) (h0:0≤v) (h1:v<m.p.vertices.length) (hs:0≤s) :
  Spec Tryz.prog G 170 [ckV b c d e m ns vs,.int .i64 v,.int .i64 s] Zl (fun w _=>w = .int .i64 (m.p.regU v s)):=by
 refine Zo 0 30 [.tmp 6] Tryz.func170 fun X=>?_;refine Z ?_;refine Zlb (fun (w:Int)=>st [(0,ckV b c d e m ns vs),(1,.int .i64 w),(2,.int .i64 s)] []) (fun w=>(w = -1∧m.p.regU v s = -1)∨(0≤w∧w<m.p.vertices.length∧m.p.regU v s=m.p.regU w s)) (fun w=>if w<0 then 0 else (m.p.ups w).length+1) v (.inr ⟨h0,h1,rfl⟩) (Za zp zp) ?_;rintro w hw L7 hL7
 rcases hw with ⟨rfl,hw⟩ | ⟨w0,w1,hw⟩
 ·rw [hw]
  exact Zr
 have q0:decide (w≥0)=true:=zT;refine Zf q0 ?_;refine Zc hG ?_ (s:=Zyc G hG _ _ _ _ m ns vs hm.toRt5 w w0 w1)
 by_cases hq:m.p.around w=s
 ·rw [hw,PM.Acy.regU_at hq]
  obtain ⟨k,x,hwk,hk,hg,hx⟩:=MdM.at w0 w1;rw [hx];subst hwk
  have q1:(m.p.around (k:Int) != s)=false:=by simp [hq]
  have q2:decide ((k:Int)<0)=false:=zF;exact Zh (zi q1 (zi q2 (zi hg (zi hk (zi Zt (zi Zzb (zi @Int.natCast_nonneg @Int.ofNat_lt)))))))
 ·have q1:(m.p.around w != s)=true:=by simpa using hq
  refine Zg q1 ?_;refine Zc hG ?_ (s:=Zyc G hG _ _ _ _ m ns vs hm.toRt5 w w0 w1);refine Z ?_
  by_cases ha:0≤m.p.around w
  ·have ha1:m.p.around w<m.p.vertices.length:=by
    rcases hm.acy.rng w w0 w1 with q | q
    ·omega
    ·exact q.2
   have hlen:=congrArg List.length (hm.acy.ups_cons w0 w1 ha);rw [List.length_cons] at hlen;refine hL7 _ ⟨m.p.around w,by simp only [if_neg (show ¬ m.p.around w<0 by omega),if_neg (show ¬ w<0 by omega)];omega,.inr ⟨ha,ha1,by rw [hw,hm.acy.regU_up w0 w1 ha hq]⟩,Za zp zp⟩
  ·have ha2:m.p.around w = -1:=by
    rcases hm.acy.rng w w0 w1 with q | q
    ·exact q
    ·omega
   rw [ha2];refine hL7 _ ⟨-1,by simp only [if_neg (show ¬ w<0 by omega)];exact Nat.succ_pos _,.inl ⟨rfl,by rw [hw,PM.regU_nil (by omega) hs]⟩,Za zp zp⟩
theorem Zgm (G:Nat→V) (hG:GOk G) (b c d e:Col) (m:MdM) (ns vs:Sl (List UInt8)) (hm:m.p.Rt) (v r:Int) (h0:0≤v) (h1:v<m.p.vertices.length) :
  Spec Tryz.prog G 165 [ckV b c d e m ns vs,.int .i64 v,.int .i64 r] Zl (fun w _=>w = .bool (m.p.withinB v r)):=by
 refine Zo 0 27 [.tmp 6] Tryz.func165 fun X=>?_;refine Z ?_;refine Zlb (fun (w:Int)=>st [(0,ckV b c d e m ns vs),(1,.int .i64 w),(2,.int .i64 r)] []) (fun w=>(w = -1∧m.p.withinB v r=false)∨(0≤w∧w<m.p.vertices.length∧m.p.withinB v r=m.p.withinB w r)) (fun w=>if w<0 then 0 else (m.p.ups w).length+1) v (.inr ⟨h0,h1,rfl⟩) (Za zp zp) ?_;rintro w hw L7 hL7
 rcases hw with ⟨rfl,hw⟩ | ⟨w0,w1,hw⟩
 ·rw [hw]
  exact Zr
 have q0:decide (w≥0)=true:=zT;obtain ⟨k,x,hwk,hk,hg,hx⟩:=MdM.at w0 w1
 by_cases hq:x.region=r
 ·have q1:(x.region != r)=false:=by simp [hq]
  have hy:m.p.withinB w r=true:=by
   rw [PM.withinB,List.any_cons,hx,show (x.p.region==r)=true from beq_iff_eq.2 hq,Bool.true_or]
  rw [hw,hy];subst hwk;have q3:decide ((k:Int)≥0)=true:=zT;exact Zq (zi q3 (zi q1 (zi hg (zi hk (zi Zt (zi Zzb (zi @Int.natCast_nonneg @Int.ofNat_lt)))))))
 ·have q1:(x.region != r)=true:=by simpa using hq
  have hz:((m.p.vx w).region==r)=false:=by rw [hx];exact beq_eq_false_iff_ne.2 hq
  subst hwk;have q3:decide ((k:Int)≥0)=true:=zT;refine Zf (zi q3 (zi q1 (zi hg (zi hk (zi Zt (zi Zzb (zi @Int.natCast_nonneg @Int.ofNat_lt))))))) ?_;refine Zc hG ?_ (s:=Zyc G hG _ _ _ _ m ns vs hm.toRt5 k w0 w1);refine Z ?_
  by_cases ha:0≤m.p.around k
  ·have w1':=w1
   have ha1:m.p.around k<m.p.vertices.length:=by
    rcases hm.acy.rng k w0 w1 with q | q
    ·omega
    ·exact q.2
   have hlen:=congrArg List.length (hm.acy.ups_cons w0 w1 ha);rw [List.length_cons] at hlen;refine hL7 _ ⟨m.p.around k,by simp only [if_neg (show ¬ m.p.around k<0 by omega),if_neg (show ¬ (k:Int)<0 by omega)];omega,.inr ⟨ha,ha1,by rw [hw,hm.acy.withinB_up w0 w1 ha,hz,Bool.false_or]⟩,Za zp zp⟩
  ·have ha2:m.p.around k = -1:=by
    rcases hm.acy.rng k w0 w1 with q | q
    ·exact q
    ·omega
   rw [ha2];refine hL7 _ ⟨-1,by simp only [if_neg (show ¬ (k:Int)<0 by omega)];exact Nat.succ_pos _,.inl ⟨rfl,by rw [hw,PM.withinB_nil (by omega),hz]⟩,Za zp zp⟩
def Zjf (r:Nat × Int × Int):V := .agg [.int .u8 r.1,.int .i64 r.2.1,.int .i64 r.2.2]
structure FnW {α : Type} (G:Nat→V) (f:FuncId) (cap:List V) (enc : α → V) (l:List α) (p:Nat→Bool):Prop where
 en:Zha Tryz.prog f=true
 rc:cap.map (V.recol Col.ent)=cap
 sp:∀ (i:Nat) (x : α),l[i]? = some x→Spec Tryz.prog G f (.int .i64 i::enc x::cap) Zl (fun v _=>v = .bool (p i))
theorem Zrs (G:Nat→V) (hG:GOk G) (c:Col) (part most:Nat) (s:Sl (List UInt8 × Int)) (hs:s.l.length<1000000) {f:FuncId} {cap:List V} {p:Nat→Bool} (hf:FnW G f cap Zja s.l p) :
  Spec Tryz.prog G 143 [.int .u8 part,Zb c 2 Zja s,.int .i64 most,.func (.func f) [] cap] Zl (fun v _=>v=Zjf (Zsb part most p s.l.length)):=by
  refine Zo 0 36 [.cell 8 140] Tryz.func143 fun X=>?_;refine Z ?_;intro g8;refine Z ?_
  refine Zda s.l.length (fun k (_:Unit)=>st [(0,.int .u8 part),(1,Zb c 2 Zja s),(2,.int .i64 most),(3,.func (.func f) [] cap),(8,.ptr 8 g8 0),(11,Zb c 2 Zja s),(12,.int .i64 s.l.length),(13,.int .i64 k)] [(8,.cells .new g8 0 [.int .u8 0,.int .i64 0,.int .i64 0])])
   (fun k _=>∀ i,i<k→i≠most∧p i=true) 0 () (Nat.zero_le _) (fun i h=>absurd h (Nat.not_lt_zero _)) (Za zp zp) ?_
  intro k _ hk hR L3 hL3
  by_cases hk1:k<s.l.length
  ·have hlt:decide ((k:Int)<(s.l.length:Int))=true:=zT
   have hg:=List.getElem?_eq_getElem hk1;generalize s.l[k]=x at hg;have w1:IntKind.i64.wrap ((k:Int)+1)=(k:Int)+1:=w64 (by omega) (by omega);refine Zf (zi hlt (zi hg Zza)) ?_;intro g10
   by_cases hm:k=most
   ·have q:((k:Int)==(most:Int))=true:=by simp [hm]
    rw [Z1b hk1 hR (.inl hm),if_pos hm,hm];exact Zh q
   ·have q:((k:Int)==(most:Int))=false:=by
     have:¬ (k:Int)=(most:Int):=by omega
     simpa using this
    refine Zg q ?_;refine Zcf hf.rc hG ?_ (e:=hf.en) (s:=hf.sp k x hg)
    cases hp:p k with
    | false =>
     rw [Z1b hk1 hR (.inr hp),if_neg hm];exact Zr
    | true =>
     refine Zf w1 ?_;refine hL3 _ ⟨hk1,(),fun i hi=>?_,Za zp zp⟩
     by_cases h3:i=k
     ·rw [h3];exact ⟨hm,hp⟩
     ·exact hR i (by omega)
  have hke:k=s.l.length:=by omega
  subst hke
  have hlt:decide ((s.l.length:Int)<(s.l.length:Int))=false:=by simp
  rw [Zre hR];exact Zq hlt
theorem Zts (G:Nat→V) (hG:GOk G) (c:Col) (part most:Nat) (s:Sl (List UInt8)) (hs:s.l.length<1000000) {f:FuncId} {cap:List V} {p:Nat→Bool} (hf:FnW G f cap V.str s.l p) :
  Spec Tryz.prog G 147 [.int .u8 part,Zb c 1 V.str s,.int .i64 most,.func (.func f) [] cap] Zl (fun v _=>v=Zjf (Zsb part most p s.l.length)):=by
  refine Zo 0 36 [.cell 8 140] Tryz.func147 fun X=>?_;refine Z ?_;intro g8;refine Z ?_
  refine Zda s.l.length (fun k (_:Unit)=>st [(0,.int .u8 part),(1,Zb c 1 V.str s),(2,.int .i64 most),(3,.func (.func f) [] cap),(8,.ptr 8 g8 0),(11,Zb c 1 V.str s),(12,.int .i64 s.l.length),(13,.int .i64 k)] [(8,.cells .new g8 0 [.int .u8 0,.int .i64 0,.int .i64 0])])
   (fun k _=>∀ i,i<k→i≠most∧p i=true) 0 () (Nat.zero_le _) (fun i h=>absurd h (Nat.not_lt_zero _)) (Za zp zp) ?_
  intro k _ hk hR L3 hL3
  by_cases hk1:k<s.l.length
  ·have hlt:decide ((k:Int)<(s.l.length:Int))=true:=zT
   have hg:=List.getElem?_eq_getElem hk1;generalize s.l[k]=x at hg;have w1:IntKind.i64.wrap ((k:Int)+1)=(k:Int)+1:=w64 (by omega) (by omega);refine Zf (zi hlt (zi hg hg)) ?_
   skip
   by_cases hm:k=most
   ·have q:((k:Int)==(most:Int))=true:=by simp [hm]
    rw [Z1b hk1 hR (.inl hm),if_pos hm,hm];exact Zh q
   ·have q:((k:Int)==(most:Int))=false:=by
     have:¬ (k:Int)=(most:Int):=by omega
     simpa using this
    refine Zg q ?_;refine Zcf hf.rc hG ?_ (e:=hf.en) (s:=hf.sp k x hg)
    cases hp:p k with
    | false =>
     rw [Z1b hk1 hR (.inr hp),if_neg hm];exact Zr
    | true =>
     refine Zf w1 ?_;refine hL3 _ ⟨hk1,(),fun i hi=>?_,Za zp zp⟩
     by_cases h3:i=k
     ·rw [h3];exact ⟨hm,hp⟩
     ·exact hR i (by omega)
  have hke:k=s.l.length:=by omega
  subst hke
  have hlt:decide ((s.l.length:Int)<(s.l.length:Int))=false:=by simp
  rw [Zre hR];exact Zq hlt
theorem Zus (G:Nat→V) (hG:GOk G) (c:Col) (part most:Nat) (s:Sl (List UInt8 × Int)) (hs:s.l.length<1000000) {f:FuncId} {cap:List V} {p:Nat→Bool} (hf:FnW G f cap Zja s.l p) :
  Spec Tryz.prog G 150 [.int .u8 part,Zb c 2 Zja s,.int .i64 most,.func (.func f) [] cap] Zl (fun v _=>v=Zjf (Zsb part most p s.l.length)):=by
  refine Zo 0 36 [.cell 8 140] Tryz.func150 fun X=>?_;refine Z ?_;intro g8;refine Z ?_
  refine Zda s.l.length (fun k (_:Unit)=>st [(0,.int .u8 part),(1,Zb c 2 Zja s),(2,.int .i64 most),(3,.func (.func f) [] cap),(8,.ptr 8 g8 0),(11,Zb c 2 Zja s),(12,.int .i64 s.l.length),(13,.int .i64 k)] [(8,.cells .new g8 0 [.int .u8 0,.int .i64 0,.int .i64 0])])
   (fun k _=>∀ i,i<k→i≠most∧p i=true) 0 () (Nat.zero_le _) (fun i h=>absurd h (Nat.not_lt_zero _)) (Za zp zp) ?_
  intro k _ hk hR L3 hL3
  by_cases hk1:k<s.l.length
  ·have hlt:decide ((k:Int)<(s.l.length:Int))=true:=zT
   have hg:=List.getElem?_eq_getElem hk1;generalize s.l[k]=x at hg;have w1:IntKind.i64.wrap ((k:Int)+1)=(k:Int)+1:=w64 (by omega) (by omega);refine Zf (zi hlt (zi hg Zza)) ?_;intro g10
   by_cases hm:k=most
   ·have q:((k:Int)==(most:Int))=true:=by simp [hm]
    rw [Z1b hk1 hR (.inl hm),if_pos hm,hm];exact Zh q
   ·have q:((k:Int)==(most:Int))=false:=by
     have:¬ (k:Int)=(most:Int):=by omega
     simpa using this
    refine Zg q ?_;refine Zcf hf.rc hG ?_ (e:=hf.en) (s:=hf.sp k x hg)
    cases hp:p k with
    | false =>
     rw [Z1b hk1 hR (.inr hp),if_neg hm];exact Zr
    | true =>
     refine Zf w1 ?_;refine hL3 _ ⟨hk1,(),fun i hi=>?_,Za zp zp⟩
     by_cases h3:i=k
     ·rw [h3];exact ⟨hm,hp⟩
     ·exact hR i (by omega)
  have hke:k=s.l.length:=by omega
  subst hke
  have hlt:decide ((s.l.length:Int)<(s.l.length:Int))=false:=by simp
  rw [Zre hR];exact Zq hlt
theorem Z0l (G:Nat→V) (hG:GOk G) (c d:Col) (part most:Nat) (s:Sl VtM) (hs:s.l.length<1000000) {f:FuncId} {cap:List V} {p:Nat→Bool} (hf:FnW G f cap (Zwa d.ent) s.l p) :
  Spec Tryz.prog G 154 [.int .u8 part,Zb c 8 (Zwa d) s,.int .i64 most,.func (.func f) [] cap] Zl (fun v _=>v=Zjf (Zsb part most p s.l.length)):=by
  refine Zo 0 36 [.cell 8 140] Tryz.func154 fun X=>?_;refine Z ?_;intro g8;refine Z ?_
  refine Zda s.l.length (fun k (_:Unit)=>st [(0,.int .u8 part),(1,Zb c 8 (Zwa d) s),(2,.int .i64 most),(3,.func (.func f) [] cap),(8,.ptr 8 g8 0),(11,Zb c 8 (Zwa d) s),(12,.int .i64 s.l.length),(13,.int .i64 k)] [(8,.cells .new g8 0 [.int .u8 0,.int .i64 0,.int .i64 0])])
   (fun k _=>∀ i,i<k→i≠most∧p i=true) 0 () (Nat.zero_le _) (fun i h=>absurd h (Nat.not_lt_zero _)) (Za zp zp) ?_
  intro k _ hk hR L3 hL3
  by_cases hk1:k<s.l.length
  ·have hlt:decide ((k:Int)<(s.l.length:Int))=true:=zT
   have hg:=List.getElem?_eq_getElem hk1;generalize s.l[k]=x at hg;have w1:IntKind.i64.wrap ((k:Int)+1)=(k:Int)+1:=w64 (by omega) (by omega);refine Zf (zi hlt (zi hg Zt)) ?_;intro g10
   by_cases hm:k=most
   ·have q:((k:Int)==(most:Int))=true:=by simp [hm]
    rw [Z1b hk1 hR (.inl hm),if_pos hm,hm];exact Zh q
   ·have q:((k:Int)==(most:Int))=false:=by
     have:¬ (k:Int)=(most:Int):=by omega
     simpa using this
    refine Zg q ?_;refine Zcf hf.rc hG ?_ (e:=hf.en) (s:=hf.sp k x hg)
    cases hp:p k with
    | false =>
     rw [Z1b hk1 hR (.inr hp),if_neg hm];exact Zr
    | true =>
     refine Zf w1 ?_;refine hL3 _ ⟨hk1,(),fun i hi=>?_,Za zp zp⟩
     by_cases h3:i=k
     ·rw [h3];exact ⟨hm,hp⟩
     ·exact hR i (by omega)
  have hke:k=s.l.length:=by omega
  subst hke
  have hlt:decide ((s.l.length:Int)<(s.l.length:Int))=false:=by simp
  rw [Zre hR];exact Zq hlt
theorem Zss (G:Nat→V) (hG:GOk G) (c d:Col) (part most:Nat) (s:Sl TrM) (hs:s.l.length<1000000) {f:FuncId} {cap:List V} {p:Nat→Bool} (hf:FnW G f cap (Zhb d.ent) s.l p) :
  Spec Tryz.prog G 161 [.int .u8 part,Zb c 8 (Zhb d) s,.int .i64 most,.func (.func f) [] cap] Zl (fun v _=>v=Zjf (Zsb part most p s.l.length)):=by
  refine Zo 0 36 [.cell 8 140] Tryz.func161 fun X=>?_;refine Z ?_;intro g8;refine Z ?_
  refine Zda s.l.length (fun k (_:Unit)=>st [(0,.int .u8 part),(1,Zb c 8 (Zhb d) s),(2,.int .i64 most),(3,.func (.func f) [] cap),(8,.ptr 8 g8 0),(11,Zb c 8 (Zhb d) s),(12,.int .i64 s.l.length),(13,.int .i64 k)] [(8,.cells .new g8 0 [.int .u8 0,.int .i64 0,.int .i64 0])])
   (fun k _=>∀ i,i<k→i≠most∧p i=true) 0 () (Nat.zero_le _) (fun i h=>absurd h (Nat.not_lt_zero _)) (Za zp zp) ?_
  intro k _ hk hR L3 hL3
  by_cases hk1:k<s.l.length
  ·have hlt:decide ((k:Int)<(s.l.length:Int))=true:=zT
   have hg:=List.getElem?_eq_getElem hk1;generalize s.l[k]=x at hg;have w1:IntKind.i64.wrap ((k:Int)+1)=(k:Int)+1:=w64 (by omega) (by omega);refine Zf (zi hlt (zi hg Z9)) ?_;intro g10
   by_cases hm:k=most
   ·have q:((k:Int)==(most:Int))=true:=by simp [hm]
    rw [Z1b hk1 hR (.inl hm),if_pos hm,hm];exact Zh q
   ·have q:((k:Int)==(most:Int))=false:=by
     have:¬ (k:Int)=(most:Int):=by omega
     simpa using this
    refine Zg q ?_;refine Zcf hf.rc hG ?_ (e:=hf.en) (s:=hf.sp k x hg)
    cases hp:p k with
    | false =>
     rw [Z1b hk1 hR (.inr hp),if_neg hm];exact Zr
    | true =>
     refine Zf w1 ?_;refine hL3 _ ⟨hk1,(),fun i hi=>?_,Za zp zp⟩
     by_cases h3:i=k
     ·rw [h3];exact ⟨hm,hp⟩
     ·exact hR i (by omega)
  have hke:k=s.l.length:=by omega
  subst hke
  have hlt:decide ((s.l.length:Int)<(s.l.length:Int))=false:=by simp
  rw [Zre hR];exact Zq hlt
theorem Zyz (G:Nat→V) (p:List UInt8 × Int) (c:Col) (a:List UInt8 × Int):Spec Tryz.prog G 146 [Zja p,.view c (Zja a)] Zl (fun v _=>v = .bool (p.1==a.1)):=by
 refine Zo 0 9 [.tmp 3] Tryz.func146 fun X=>?_;simp only [Zza];refine Z ?_;intro g2;exact Zr
theorem Z03 (G:Nat→V) (hG:GOk G) (c c1:Col) (s:Sl (List UInt8 × Int)) (hs:s.l.length<1000000) (a:List UInt8 × Int) :
  Spec Tryz.prog G 213 [Zb c 2 Zja s,.func (.func 146) [] [.view c1 (Zja a)]] Zl (fun v _=>v = .int .i64 (Zps (fun p=>p.1==a.1) s.l)):=by
 refine Zo 0 19 [.tmp 4] Tryz.func213 fun X=>?_;refine Z ?_
 refine Zda s.l.length (fun k (_:Unit)=>st [(0,Zb c 2 Zja s),(1,.func (.func 146) [] [.view c1 (Zja a)]),(7,.int .i64 s.l.length),(8,.int .i64 k)] []) (fun k _=>∀ y∈s.l.take k,(y.1==a.1)=false) 0 () (Nat.zero_le _) (by simp)
  (Za zp zp) ?_
 intro k _ hk hR L2 hL2
 by_cases hk1:k<s.l.length
 ·have hlt:decide ((k:Int)<(s.l.length:Int))=true:=zT
  have hg:=List.getElem?_eq_getElem hk1;generalize s.l[k]=x at hg;refine Zf (zi hlt (zi hg Zza)) ?_;refine Zcf @Zza hG ?_ (s:=Zyz G x c1.ent a)
  cases h6:(x.1==a.1) with
  | true =>
   refine Z ?_;rw [Zbf (p:=fun p:List UInt8 × Int=>p.1==a.1) hg hR h6]
  | false =>
   have w1:IntKind.i64.wrap ((k:Int)+1)=(k:Int)+1:=w64 (by omega) (by omega);refine Zf w1 ?_;exact hL2 _ ⟨hk1,(),Zae hg hR h6,Za (zpf @Zza) zp⟩
 ·have hke:k=s.l.length:=by omega
  have hlt:decide ((k:Int)<(s.l.length:Int))=false:=zF;rw [hke,List.take_length] at hR;refine Zf hlt ?_;rw [Zdf (p:=fun p:List UInt8 × Int=>p.1==a.1) hR]
theorem Z4m {α : Type} (p : α → Bool) (l:List α):decide (Zps p l≥0)=l.any p:=by
 unfold Zps
 cases h:l.findIdx? p with
 | none =>
  rw [List.findIdx?_eq_none_iff] at h;rw [List.any_eq_false.2 (fun x hx=>by rw [h x hx];decide)];rfl
 | some i =>
  obtain ⟨h1,h2,_⟩:=List.findIdx?_eq_some_iff_getElem.1 h;rw [List.any_eq_true.2 ⟨_,List.getElem_mem h1,h2⟩];exact decide_eq_true (Int.natCast_nonneg i)
theorem Zs4 (G:Nat→V) (hG:GOk G) (c c1:Col) (s:Sl (List UInt8 × Int)) (hs:s.l.length<1000000) (a:List UInt8 × Int) :
  Spec Tryz.prog G 145 [Zb c 2 Zja s,.func (.func 146) [] [.view c1 (Zja a)]] Zl (fun v _=>v = .bool (s.l.any fun p=>p.1==a.1)):=by
 refine Zo 0 9 [.tmp 4] Tryz.func145 fun X=>?_;refine Z ?_;refine Zcf @Zza hG ?_ (s:=Z03 G hG c.ent c1.ent s hs a);refine Z ?_;rw [Z4m]
theorem Z33 (G:Nat→V) (c:Col) (t:Int) (s:Sl Int) (hs:s.l.length<1000000):Spec Tryz.prog G 124 [Zb c 1 (V.int .i64) s,.int .i64 t] Zl (fun v _=>v = .int .i64 (Zps (t == ·) s.l)):=by
  refine Zo 0 19 [.tmp 4] Tryz.func124 fun X=>?_;refine Z ?_;refine Zda s.l.length (fun k (_:Unit)=>st [(0,Zb c 1 (V.int .i64) s),(1,.int .i64 t),(7,.int .i64 s.l.length),(8,.int .i64 k)] []) (fun k _=>∀ y∈s.l.take k,(t==y)=false) 0 () (Nat.zero_le _) (by simp) (Za zp zp) ?_;intro k _ hk hR L2 hL2
  by_cases hk1:k<s.l.length
  ·have hlt:decide ((k:Int)<(s.l.length:Int))=true:=zT
   have hg:=List.getElem?_eq_getElem hk1;generalize s.l[k]=x at hg;have w1:IntKind.i64.wrap ((k:Int)+1)=(k:Int)+1:=w64 (by omega) (by omega);cases h6:(t==x)
   ·refine Zf (zi hlt (zi hg (zi h6 w1))) ?_
    exact hL2 _ ⟨hk1,(),Zae hg hR h6,Za zp zp⟩
   ·refine Zf (zi hlt (zi hg h6)) ?_
    rw [Zbf (p:=fun y=>t==y) hg hR h6]
  ·have hke:k=s.l.length:=by omega
   have hlt:decide ((k:Int)<(s.l.length:Int))=false:=zF;rw [hke,List.take_length] at hR;refine Zf hlt ?_;rw [Zdf (p:=fun y=>t==y) hR]
theorem Z13 (G:Nat→V) (c:Col) (t:Int) (s:Sl Int) (hs:s.l.length<1000000):Spec Tryz.prog G 221 [Zb c 1 (V.int .u8) s,.int .u8 t] Zl (fun v _=>v = .int .i64 (Zps (t == ·) s.l)):=by
  refine Zo 0 19 [.tmp 4] Tryz.func221 fun X=>?_;refine Z ?_;refine Zda s.l.length (fun k (_:Unit)=>st [(0,Zb c 1 (V.int .u8) s),(1,.int .u8 t),(7,.int .i64 s.l.length),(8,.int .i64 k)] []) (fun k _=>∀ y∈s.l.take k,(t==y)=false) 0 () (Nat.zero_le _) (by simp) (Za zp zp) ?_;intro k _ hk hR L2 hL2
  by_cases hk1:k<s.l.length
  ·have hlt:decide ((k:Int)<(s.l.length:Int))=true:=zT
   have hg:=List.getElem?_eq_getElem hk1;generalize s.l[k]=x at hg;have w1:IntKind.i64.wrap ((k:Int)+1)=(k:Int)+1:=w64 (by omega) (by omega);cases h6:(t==x)
   ·refine Zf (zi hlt (zi hg (zi h6 w1))) ?_
    exact hL2 _ ⟨hk1,(),Zae hg hR h6,Za zp zp⟩
   ·refine Zf (zi hlt (zi hg h6)) ?_
    rw [Zbf (p:=fun y=>t==y) hg hR h6]
  ·have hke:k=s.l.length:=by omega
   have hlt:decide ((k:Int)<(s.l.length:Int))=false:=zF;rw [hke,List.take_length] at hR;refine Zf hlt ?_;rw [Zdf (p:=fun y=>t==y) hR]
theorem Zqu (G:Nat→V) (hG:GOk G) (c:Col) (t:Int) (s:Sl Int) (hs:s.l.length<1000000):Spec Tryz.prog G 65 [Zb c 1 (V.int .i64) s,.int .i64 t] Zl (fun v _=>v = .bool (s.l.contains t)):=by
 refine Zo 0 9 [.tmp 4] Tryz.func65 fun X=>?_;refine Z ?_;refine Zc hG ?_ (s:=Z33 G _ t s hs);refine Z ?_;rw [Z4m,← List.contains_eq_any_beq]
theorem Zt4 (G:Nat→V) (hG:GOk G) (c:Col) (t:Int) (s:Sl Int) (hs:s.l.length<1000000):Spec Tryz.prog G 188 [Zb c 1 (V.int .u8) s,.int .u8 t] Zl (fun v _=>v = .bool (s.l.contains t)):=by
 refine Zo 0 9 [.tmp 4] Tryz.func188 fun X=>?_;refine Z ?_;refine Zc hG ?_ (s:=Z13 G _ t s hs);refine Z ?_;rw [Z4m,← List.contains_eq_any_beq]
theorem Zxb (G:Nat→V) (hG:GOk G) (b c d e f:Col) (m:MdM) (ns vs:Sl (List UInt8)) (v:Int) (h0:0≤v) (h1:v<m.p.vertices.length) (ks:Sl Int) (hk:ks.l.length<1000000) :
  Spec Tryz.prog G 163 [ckV b c d e m ns vs,.int .i64 v,Zb f 1 (V.int .u8) ks] Zl (fun w _=>w = .bool (ks.l.contains (m.p.kd v))):=by
 refine Zo 0 18 [.tmp 6] Tryz.func163 fun X=>?_;obtain ⟨k,x,rfl,hk,hg,hx⟩:=MdM.at h0 h1;rw [PM.kd,hx];simp only [Zzb];refine Zf (zi hg (zi hk (zi Zt (zi @Int.natCast_nonneg @Int.ofNat_lt)))) ?_;refine Zc hG ?_ (s:=Zt4 G hG _ x.kind ks (by assumption));exact Zr
theorem Zw3 (m:MdM) (v:Int):m.p.inc v=(m.ways.l.filter fun t=>t.target==v).map (·.source):=by
 show ((m.ways.l.map TrM.p).filter _).map _=_
 rw [List.filter_map,List.map_map]<;>rfl
theorem Z22 (m:MdM) (v:Int):m.p.out v=(m.ways.l.filter fun t=>t.source==v).map (·.target):=by
 show ((m.ways.l.map TrM.p).filter _).map _=_
 rw [List.filter_map,List.map_map]<;>rfl
theorem Zrk (G:Nat→V) (hG:GOk G) (b c d e:Col) (m:MdM) (ns vs:Sl (List UInt8)) (hw:m.ways.l.length<1000000) (v:Int) :
  Spec Tryz.prog G 166 [ckV b c d e m ns vs,.int .i64 v] Zl (fun w _=>w=Zb .new 1 (V.int .i64) (Zm (m.p.inc v))):=by
 rw [Zw3];refine Zo 0 28 [.tmp 4] Tryz.func166 fun X=>?_;simp only [Zzb];refine Z ?_
 refine Zda m.ways.l.length (fun k (g:Nat)=>st [(0,ckV b c d e m ns vs),(1,.int .i64 v),(4,grown 25 g 1 (((m.ways.l.take k).filter fun t=>t.target==v).map (·.source))),(11,Zb c 8 (Zhb d) m.ways),(12,.int .i64 m.ways.l.length),(13,.int .i64 k)] [(25,Zxa g (V.int .i64) (((m.ways.l.take k).filter fun t=>t.target==v).map (·.source)))])
  (fun _ _=>True) 0 0 (Nat.zero_le _) trivial (Za (zpf @Zzb) zp) ?_
 intro k g hk _ L3 hL3
 by_cases hk1:k<m.ways.l.length
 ·have hlt:decide ((k:Int)<(m.ways.l.length:Int))=true:=zT
  have hg:=List.getElem?_eq_getElem hk1
  have htk:m.ways.l.take (k+1)=m.ways.l.take k++[m.ways.l[k]]:=by rw [List.take_succ_eq_append_getElem hk1]
  have hlen:(((m.ways.l.take k).filter fun t=>t.target==v).map (·.source)).length≤k:=by
   rw [List.length_map];exact Nat.le_trans (List.length_filter_le _ _) (by rw [List.length_take];omega)
  generalize m.ways.l[k]=x at hg htk;have w1:IntKind.i64.wrap ((k:Int)+1)=(k:Int)+1:=w64 (by omega) (by omega);rw [htk] at hL3;simp only [List.filter_append,List.map_append] at hL3;generalize ((m.ways.l.take k).filter fun t=>t.target==v).map (·.source)=acc at hlen hL3;refine Zf (zi hlt (zi hg Z9)) ?_;intro g6;cases q:(x.target==v)
  ·rw [List.filter_cons_of_neg (by simp [q])] at hL3
   simp only [List.filter_nil,List.map_nil,List.append_nil] at hL3;refine Zf (zi q w1) ?_;exact hL3 _ ⟨hk1,g,trivial,Za (zpf @Zzb) zp⟩
  ·rw [List.filter_cons_of_pos (by simp [q])] at hL3
   simp only [List.filter_nil,List.map_nil,List.map_cons] at hL3;refine Zf (zi q Z9) ?_;intro g24;refine Zma (f:=V.int .i64) (l:=acc) (l2:=[x.source]) (g:=g) (fun _=>rfl) rfl rfl rfl zp (Zaa (by omega) (by simp;omega)) fun g2=>?_;refine Zs ?_;refine Zf w1 ?_;exact hL3 _ ⟨hk1,g2,trivial,Za (zpf @Zzb) zp⟩
 have hke:k=m.ways.l.length:=by omega
 subst hke;rw [List.take_length]
 have hlt:decide ((m.ways.l.length:Int)<(m.ways.l.length:Int))=false:=by simp
 generalize (m.ways.l.filter fun t=>t.target==v).map (·.source)=acc;refine AW.weak (Zv (fun o=>o==25) (l:=[(0,ckV b c d e m ns vs),(4,Zb .new 1 (V.int .i64) (Zm acc)),(12,.int .i64 m.ways.l.length),(13,.int .i64 m.ways.l.length)]) (m:=[]) ?_ trivial) ?_
 ·refine Zs ?_
  exact ⟨Zd _,Z0a (l:=acc) (g:=g) (f:=V.int .i64) rfl zp (fun _=>rfl),Zd _⟩
 exact Zq hlt
theorem Zof (G:Nat→V) (hG:GOk G) (b c d e:Col) (m:MdM) (ns vs:Sl (List UInt8)) (hw:m.ways.l.length<1000000) (v:Int) :
  Spec Tryz.prog G 164 [ckV b c d e m ns vs,.int .i64 v] Zl (fun w _=>w=Zb .new 1 (V.int .i64) (Zm (m.p.out v))):=by
 rw [Z22];refine Zo 0 28 [.tmp 4] Tryz.func164 fun X=>?_;simp only [Zzb];refine Z ?_
 refine Zda m.ways.l.length (fun k (g:Nat)=>st [(0,ckV b c d e m ns vs),(1,.int .i64 v),(4,grown 25 g 1 (((m.ways.l.take k).filter fun t=>t.source==v).map (·.target))),(11,Zb c 8 (Zhb d) m.ways),(12,.int .i64 m.ways.l.length),(13,.int .i64 k)] [(25,Zxa g (V.int .i64) (((m.ways.l.take k).filter fun t=>t.source==v).map (·.target)))])
  (fun _ _=>True) 0 0 (Nat.zero_le _) trivial (Za (zpf @Zzb) zp) ?_
 intro k g hk _ L3 hL3
 by_cases hk1:k<m.ways.l.length
 ·have hlt:decide ((k:Int)<(m.ways.l.length:Int))=true:=zT
  have hg:=List.getElem?_eq_getElem hk1
  have htk:m.ways.l.take (k+1)=m.ways.l.take k++[m.ways.l[k]]:=by rw [List.take_succ_eq_append_getElem hk1]
  have hlen:(((m.ways.l.take k).filter fun t=>t.source==v).map (·.target)).length≤k:=by
   rw [List.length_map];exact Nat.le_trans (List.length_filter_le _ _) (by rw [List.length_take];omega)
  generalize m.ways.l[k]=x at hg htk;have w1:IntKind.i64.wrap ((k:Int)+1)=(k:Int)+1:=w64 (by omega) (by omega);rw [htk] at hL3;simp only [List.filter_append,List.map_append] at hL3;generalize ((m.ways.l.take k).filter fun t=>t.source==v).map (·.target)=acc at hlen hL3;refine Zf (zi hlt (zi hg Z9)) ?_;intro g6;cases q:(x.source==v)
  ·rw [List.filter_cons_of_neg (by simp [q])] at hL3
   simp only [List.filter_nil,List.map_nil,List.append_nil] at hL3;refine Zf (zi q w1) ?_;exact hL3 _ ⟨hk1,g,trivial,Za (zpf @Zzb) zp⟩
  ·rw [List.filter_cons_of_pos (by simp [q])] at hL3
   simp only [List.filter_nil,List.map_nil,List.map_cons] at hL3;refine Zf (zi q Z9) ?_;intro g24;refine Zma (f:=V.int .i64) (l:=acc) (l2:=[x.target]) (g:=g) (fun _=>rfl) rfl rfl rfl zp (Zaa (by omega) (by simp;omega)) fun g2=>?_;refine Zs ?_;refine Zf w1 ?_;exact hL3 _ ⟨hk1,g2,trivial,Za (zpf @Zzb) zp⟩
 have hke:k=m.ways.l.length:=by omega
 subst hke;rw [List.take_length]
 have hlt:decide ((m.ways.l.length:Int)<(m.ways.l.length:Int))=false:=by simp
 generalize (m.ways.l.filter fun t=>t.source==v).map (·.target)=acc;refine AW.weak (Zv (fun o=>o==25) (l:=[(0,ckV b c d e m ns vs),(4,Zb .new 1 (V.int .i64) (Zm acc)),(12,.int .i64 m.ways.l.length),(13,.int .i64 m.ways.l.length)]) (m:=[]) ?_ trivial) ?_
 ·refine Zs ?_
  exact ⟨Zd _,Z0a (l:=acc) (g:=g) (f:=V.int .i64) rfl zp (fun _=>rfl),Zd _⟩
 exact Zq hlt
theorem Z4p:∀ (l acc:List Int) (r:Int),Zli acc (l++[r])=if 0≤r∧(Zli acc l).contains r=false then Zli acc l++[r] else Zli acc l
 | [],acc,r=>rfl
 | x::t,acc,r=>by
  rw [List.cons_append,Zli,Zli];exact Z4p t _ r
theorem inIm (x:Int):∀ y∈(V.int .i64 x).cells,y.Im:=fun y hy=>by
 simp only [V.cells,List.mem_cons,List.not_mem_nil,or_false] at hy;rw [hy];exact .int _ _
theorem Zsl (G:Nat→V) (hG:GOk G) (b c d e c2:Col) (m:MdM) (ns vs:Sl (List UInt8)) (hm:m.p.Rt) (l:Sl Int) (hl:l.l≠[]) (hll:l.l.length<1000000) (hr:∀ v∈l.l,0≤v∧v<m.p.vertices.length) :
  Spec Tryz.prog G 167 [ckV b c d e m ns vs,Zb c2 1 (V.int .i64) l] Zl (fun w _=>w = .bool (m.p.partU l.l)):=by
 refine Zo 0 48 [.tmp 4] Tryz.func167 fun X=>?_;have hl0:0<l.l.length:=List.length_pos_iff.2 hl;have hg0:=List.getElem?_eq_getElem hl0
 have hhd:l.l.headD 0=l.l[0]:=by rw [List.headD_eq_head?_getD,List.head?_eq_getElem?,hg0]<;>rfl
 obtain ⟨v0,v1⟩:=hr l.l[0] (List.getElem_mem hl0);rw [PM.partU,hhd];generalize l.l[0]=v at hg0 v0 v1;refine Zf (zi hg0 hl0) ?_;refine Zc hG ?_ (s:=Zyc G hG _ _ _ _ m ns vs hm.toRt5 v v0 v1);refine Z ?_;refine Zlb (fun (w:Int)=>st [(0,ckV b c d e m ns vs),(1,Zb c2 1 (V.int .i64) l),(5,.int .i64 (m.p.around w))] []) (fun w=>0≤w∧w<m.p.vertices.length∧(m.p.ups v).any (fun s=>Zpe [] (l.l.map (m.p.regU · s)))=(m.p.ups w).any fun s=>Zpe [] (l.l.map (m.p.regU · s))) (fun w=>(m.p.ups w).length) v ⟨v0,v1,rfl⟩ (Za zp zp) ?_;rintro w ⟨w0,w1,hw⟩ L7 hL7
 by_cases ha:0≤m.p.around w
 rotate_left
 ·have q0:decide (m.p.around w≥0)=false:=zF
  rw [hw,PM.Acy.ups_nil (by omega)];exact Zq q0
 have q0:decide (m.p.around w≥0)=true:=zT
 have ha1:m.p.around w<m.p.vertices.length:=by
  rcases hm.acy.rng w w0 w1 with q | q
  ·omega
  ·exact q.2
 have hup:=hm.acy.ups_cons w0 w1 ha;have hlen:=congrArg List.length hup;rw [List.length_cons] at hlen;rw [hup,List.any_cons] at hw;refine Zf q0 ?_;generalize hae:m.p.around w=a at ha ha1 hw hlen
 refine Zda l.l.length (fun k (g:Nat)=>st [(0,ckV b c d e m ns vs),(1,Zb c2 1 (V.int .i64) l),(5,.int .i64 a),(6,grown 41 g 1 (Zli [] ((l.l.take k).map (m.p.regU · a)))),(20,Zb c2 1 (V.int .i64) l),(21,.int .i64 l.l.length),(22,.int .i64 k)] [(41,Zxa g (V.int .i64) (Zli [] ((l.l.take k).map (m.p.regU · a))))])
  (fun _ _=>True) 0 0 (Nat.zero_le _) trivial (Za zp zp) ?_
 intro k g hk _ L3 hL3
 by_cases hk1:k<l.l.length
 ·have hlt:decide ((k:Int)<(l.l.length:Int))=true:=zT
  have hg:=List.getElem?_eq_getElem hk1
  have htk:l.l.take (k+1)=l.l.take k++[l.l[k]]:=by rw [List.take_succ_eq_append_getElem hk1]
  obtain ⟨x0,x1⟩:=hr l.l[k] (List.getElem_mem hk1);have hsl:=Zir ((l.l.take k).map (m.p.regU · a)) [];rw [List.length_map,List.length_take] at hsl;generalize l.l[k]=x at hg htk x0 x1;have w2:IntKind.i64.wrap ((k:Int)+1)=(k:Int)+1:=w64 (by omega) (by omega);rw [htk,List.map_append] at hL3;simp only [List.map_cons,List.map_nil,Z4p] at hL3;generalize Zli [] ((l.l.take k).map (m.p.regU · a))=acc at hsl hL3
  have hsl:acc.length≤k:=by simp only [List.length_nil] at hsl;omega
  refine Zf (zi hlt hg) ?_;refine Zc hG ?_ (s:=Zhm G hG _ _ _ _ m ns vs hm x a x0 x1 ha);generalize m.p.regU x a=r at hL3
  by_cases hr0:0≤r
  rotate_left
  ·have q1:decide (r≥0)=false:=zF
   rw [if_neg (fun h=>hr0 h.1)] at hL3;refine Zg (zi q1 w2) ?_;exact hL3 _ ⟨hk1,g,trivial,Za zp zp⟩
  have q1:decide (r≥0)=true:=zT;refine Zg q1 ?_;refine Zta hG [Zb .old 1 (V.int .i64) (Zm acc),.int .i64 r] zk ⟨Zis zp (fun _=>rfl) inIm (fun _=>rfl),Z3a (.int _ _) rfl,trivial⟩ ?_;refine (Zqu G hG .old r (Zm acc) (by rw [Zp];omega)).mono ?_;rintro _ _ rfl;rw [Zp];refine ⟨.bool _,?_⟩;cases hc:acc.contains r
  ·rw [if_pos ⟨hr0,hc⟩] at hL3
   refine Zs ?_;refine Z ?_;intro g40;refine Zma (f:=V.int .i64) (l:=acc) (l2:=[r]) (g:=g) (fun _=>rfl) rfl rfl rfl zp (Zaa (by omega) (by simp;omega)) fun g2=>?_;refine Zs ?_;refine Zf w2 ?_;exact hL3 _ ⟨hk1,g2,trivial,Za zp zp⟩
  ·rw [if_neg (fun h=>by rw [hc] at h;cases h.2)] at hL3
   refine Zs ?_;refine Zf w2 ?_;exact hL3 _ ⟨hk1,g,trivial,Za zp zp⟩
 have hke:k=l.l.length:=by omega
 subst hke;rw [List.take_length]
 have hlt:decide ((l.l.length:Int)<(l.l.length:Int))=false:=by simp
 have hall:=Zqn (l.l.map (m.p.regU · a)) [];rw [List.length_nil,Nat.zero_add,List.length_map] at hall;rw [← hall] at hw;generalize Zli [] (l.l.map (m.p.regU · a))=acc at hw
 have e1:(((acc.length:Nat):Int)==((l.l.length:Nat):Int))=decide (acc.length=l.l.length):=by
  rw [Bool.eq_iff_iff,beq_iff_eq,decide_eq_true_eq];omega
 cases h:decide (acc.length=l.l.length)
 ·rw [h] at e1 hw
  rw [Bool.false_or] at hw;refine Zf (zi hlt e1) ?_;refine Zc hG ?_ (s:=Zyc G hG _ _ _ _ m ns vs hm.toRt5 a ha ha1);refine Z ?_;exact hL7 _ ⟨a,by omega,⟨ha,ha1,hw⟩,Za zp zp⟩
 ·rw [h] at e1 hw
  rw [hw,Bool.true_or];exact Zq (zi hlt e1)
def Zam (t:List UInt8) (below:Bool):Int × Int :=
 if t=[]∨(t.head? = some 48∧(t.length > 1∨below=true))∨t.all Zna=false then (0,2)
 else Zfv (if below then -(val (t.reverse.map Zgi):Int) else val (t.reverse.map Zgi))
theorem Zu6 (s:List UInt8):Zbc s=Zam (if (s.head? == some 45)=true then s.drop 1 else s) (s.head? == some 45):=rfl
theorem u8_eq (c:UInt8) (n:Nat) (hn:n<256):((c.toNat:Int)==(n:Int))=(c==UInt8.ofNat n):=by
 by_cases h:c.toNat=n
 ·have h1:c=UInt8.ofNat n:=by
   apply UInt8.toNat_inj.1;rw [UInt8.toNat_ofNat',h];omega
  rw [h1];simp;omega
 ·have h1:¬ c=UInt8.ofNat n:=by
   intro e;apply h;rw [e,UInt8.toNat_ofNat'];omega
  have h2:¬ (c.toNat:Int)=(n:Int):=by omega
  rw [show (c==UInt8.ofNat n)=false by simpa using h1,show ((c.toNat:Int)==(n:Int))=false from beq_eq_false_iff_ne.2 h2]
theorem u8_45 (c:UInt8):((c.toNat:Int)==45)=(c==45):=u8_eq c 45 (by decide)
theorem Zv5 (c:UInt8):((c.toNat:Int)==48)=(c==48):=u8_eq c 48 (by decide)
theorem Z8v (G:Nat→V) (hG:GOk G) (s:List UInt8) (hs:s.length<1000000):Spec Tryz.prog G 341 [.str s] Zl (fun v _=>v=encR (Zbc s)):=by
 rw [Zu6];generalize hb0:(s.head? == some 45)=b0;generalize ht0:(if b0=true then s.drop 1 else s)=t0;refine Zo 0 64 [.tmp 2,.tmp 3] Tryz.func341 fun X=>?_;refine Z1 ?_;refine Zia (fun (_:Unit)=>st [(0,.str s),(4,.bool b0)] []) (fun _=>True) (fun K1 hK1=>?_) ?_
 ·cases s with
  | nil =>
   refine Z1 ?_;exact hK1 _ () trivial (Za (by simp -implicitDefEqProofs only[go_sem,seval];rw [← hb0]<;>rfl) zp)
  | cons c r =>
   refine Z1f @u8_45 ?_;exact hK1 _ () trivial (Za (by simp -implicitDefEqProofs only[go_sem,seval];rw [← hb0]<;>rfl) zp)
 intro _ _;refine Zia (fun (_:Unit)=>st [(0,.str t0),(4,.bool b0)] []) (fun _=>True) (fun K2 hK2=>?_) ?_
 ·refine Z1 ?_
  refine Zi rfl (fun h2=>?_) (fun h2=>?_)
  ·subst h2
   have h1:1≤s.length:=by
    cases s with
    | nil=>simp at hb0
    | cons _ _=>simp
   refine Z1f (zi h1 @Nat.le_refl) ?_;refine hK2 _ () trivial ?_;exact (Za (by simp -implicitDefEqProofs only[go_sem,seval];rw [← ht0];simp;try exact List.take_of_length_le (by simp)) zp)
  ·subst h2
   refine Z0 ?_;exact hK2 _ () trivial (Za (by simp -implicitDefEqProofs only[go_sem,seval];rw [← ht0];simp) zp)
 intro _ _
 have htl:t0.length≤s.length:=by rw [← ht0];split<;>simp
 try clear ht0 hb0
 refine Zia (fun (_:Unit)=>st [(0,.str t0),(4,.bool b0)] []) (fun _=>t0≠[]∧¬ (t0.head? = some 48∧(t0.length > 1∨b0=true))) (fun K3 hK3=>?_) ?_
 ·cases t0 with
  | nil =>
   refine Z1 ?_;refine Zi rfl (fun h4=>?_) (fun h4=>?_)
   ·refine Z ?_
    rw [Zam,if_pos (.inl rfl)]
    try rfl
   ·cases h4
  | cons c r =>
   by_cases hc:c=48
   ·have hc1:(c==48)=true:=by simpa using hc
    by_cases hl:r.length=0
    ·have hl1:decide (((r.length+1:Nat):Int) > 1)=false:=zF
     cases b0 with
     | true =>
      refine Z1f (zi @Zv5 (zi hc1 hl1)) ?_;refine Zi rfl (fun h4=>?_) (fun h4=>?_)
      ·refine Z ?_
       rw [Zam,if_pos (.inr (.inl ⟨by simp [hc],.inr rfl⟩))]
       try rfl
      ·cases h4
     | false =>
      refine Z1f (zi @Zv5 (zi hc1 hl1)) ?_;refine Z9a rfl ?_
      ·refine Z0 ?_
       exact hK3 _ () ⟨by simp,by simp [hl]⟩ (Za zp zp)
    ·have hl1:decide (((r.length+1:Nat):Int) > 1)=true:=zT
     refine Z1f (zi @Zv5 (zi hc1 hl1)) ?_;refine Zi rfl (fun h4=>?_) (fun h4=>?_)
     ·refine Z ?_
      rw [Zam,if_pos (.inr (.inl ⟨by simp [hc],.inl (by simp;omega)⟩))]
      try rfl
     ·cases h4
   ·have hc1:(c==48)=false:=by simpa using hc
    refine Z1f (zi @Zv5 hc1) ?_;refine Z9a rfl ?_
    ·refine Z0 ?_
     exact hK3 _ () ⟨by simp,by simp [hc]⟩ (Za zp zp)
 rintro _ ⟨hne,hno⟩;refine Z1 ?_;refine Z1 ?_;refine AW.block ?_
 refine Zda t0.length (fun k (x:Nat)=>st [(0,.str t0),(4,.bool b0),(5,grown 56 x 1 (Zos ((t0.drop (t0.length-k)).reverse.map Zgi))),(6,.int .i64 ((t0.length:Int)-1-k))] [(56,Zxa x (V.int .i64) (Zos ((t0.drop (t0.length-k)).reverse.map Zgi)))])
  (fun k _=>(t0.drop (t0.length-k)).all Zna=true) 0 0 (Nat.zero_le _) (by rw [List.drop_eq_nil_of_le (by omega)]<;>rfl)
  (Za (by rw [List.drop_eq_nil_of_le (by omega)];simp -implicitDefEqProofs only[go_sem,seval];exact ⟨rfl,congrArg _ (by rw [w64 (by omega) (by omega)];omega)⟩) (by rw [List.drop_eq_nil_of_le (by omega)];simp -implicitDefEqProofs only[go_sem,seval];try rfl)) ?_
 intro k gx hk hI L2 hL2;refine Z1 ?_;refine Zi rfl (fun h4=>?_) (fun h4=>?_)
 ·have hk1:k<t0.length:=by have:=of_decide_eq_true h4;omega
  refine Z0 ?_;obtain ⟨i,hi⟩:∃ i,i=t0.length-1-k:=⟨_,rfl⟩
  have e0:((t0.length:Int)-1-k)=(i:Int):=by omega
  have hi1:i<t0.length:=by omega
  have g2:=List.getElem?_eq_getElem hi1;have hdr:t0.drop i=t0[i]::t0.drop (i+1):=List.drop_eq_getElem_cons hi1
  have hall:t0.all Zna=((t0.take i).all Zna && (Zna t0[i] && (t0.drop (i+1)).all Zna)):=by
   rw [← List.all_cons,← hdr,← List.all_append,List.take_append_drop]
  generalize t0[i]=c at g2 hdr hall;rw [show t0.length-k=i+1 by omega] at hI ⊢;rw [e0]
  have hlen:((t0.drop (i+1)).reverse.map Zgi).length<1000000:=by simp;omega
  refine Z5 ?_;refine AW.block ?_;refine Z5 ?_
  by_cases hc:Zna c=true
  ·have hc2:48≤c.toNat∧c.toNat≤57:=by unfold Zna at hc;simpa using hc
   have b1:decide ((c.toNat:Int)<48)=false:=zF;have b2:decide ((c.toNat:Int) > 57)=false:=zF
   have hdv:IntKind.i64.wrap ((c.toNat:Int)-48)=((Zgi c:Nat):Int):=by rw [w64 (by omega) (by omega)];unfold Zgi;omega
   have hwc:IntKind.i64.wrap (c.toNat:Int)=(c.toNat:Int):=w64 (by omega) (by omega);refine Z1f (zi g2 (zi b1 b2)) ?_;refine Z9a rfl ?_
   ·refine Z1f (zi g2 (zi hwc hdv)) ?_
    intro g55;refine Zma (f:=V.int .i64) (l:=Zos ((t0.drop (i+1)).reverse.map Zgi)) (l2:=[((Zgi c:Nat):Int)]) (g:=gx) (fun _=>rfl) rfl rfl rfl rfl (Zaa (by omega) (by simp;omega)) fun g56=>?_;refine Zs ?_;refine Z1 ?_
    have hnew:(t0.drop (t0.length-(k+1))).reverse.map Zgi=(t0.drop (i+1)).reverse.map Zgi++[Zgi c]:=by
     rw [show t0.length-(k+1)=i by omega,hdr];simp
    refine hL2 _ ⟨hk1,g56,?_,Za (by rw [hnew];simp -implicitDefEqProofs only[go_sem,seval,Z0r];exact ⟨rfl,congrArg _ (by rw [w64 (by omega) (by omega)];omega)⟩) (by rw [hnew];simp -implicitDefEqProofs only[go_sem,seval,Z0r];try rfl)⟩
    rw [show t0.length-(k+1)=i by omega,hdr,List.all_cons,hc,hI]<;>rfl
  ·have hcf:Zna c=false:=by simpa using hc
   have hbad:t0.all Zna=false:=by rw [hall,hcf];simp
   have hc2:c.toNat<48∨57<c.toNat:=by
    rcases Nat.lt_or_ge c.toNat 48 with h | h
    ·exact .inl h
    ·rcases Nat.lt_or_ge 57 c.toNat with h1 | h1
     ·exact .inr h1
     ·exact absurd (by unfold Zna;simp [h,h1]) hc
   have hP:Zam t0 b0=(0,2):=by rw [Zam,if_pos (.inr (.inr hbad))]
   rcases hc2 with h | h
   ·have b1:decide ((c.toNat:Int)<48)=true:=zT
    refine Z1f (zi g2 b1) ?_;refine Zi rfl (fun h7=>?_) (fun h7=>?_)
    ·refine Z ?_
     rw [hP]<;>rfl
    ·cases h7
   ·have b1:decide ((c.toNat:Int)<48)=false:=zF
    have b2:decide ((c.toNat:Int) > 57)=true:=zT;refine Z1f (zi g2 (zi b1 b2)) ?_;refine Zi rfl (fun h7=>?_) (fun h7=>?_)
    ·refine Z ?_
     rw [hP]<;>rfl
    ·cases h7
 ·have hk1:k=t0.length:=by have:=of_decide_eq_false h4;omega
  subst hk1;rw [Nat.sub_self,List.drop_zero] at hI ⊢
  have hP:Zam t0 b0=Zfv (sgn b0 (val (t0.reverse.map Zgi))):=by
   rw [Zam,if_neg (by rw [hI];simp [hne,hno])]
   try rfl
  have hdig:Dig (t0.reverse.map Zgi):=by
   intro d hd;obtain ⟨c,h1,rfl⟩:=List.mem_map.1 hd;have:=List.all_eq_true.1 hI c (List.mem_reverse.1 h1);unfold Zna at this;unfold Zgi;simp at this;omega
  have hol:(t0.reverse.map Zgi).length<1000000:=by simp;omega
  generalize t0.reverse.map Zgi=out at hdig hol hP;refine Z0 ?_;refine AW.weak (Zv (fun o=>o==56) (l:=[(4,.bool b0),(5,Zb .new 1 (V.int .i64) (slD (decide (out=[])) out))]) (m:=[]) ?_ trivial) ?_
  ·refine Zs ?_
   rw [← Zvw rfl];exact ⟨Zd _,Z0a rfl rfl (fun _=>rfl)⟩
  refine Z1 ?_;refine Zn hG ?_ (s:=(Zz1 G hG _ (decide (out=[])) out (by simp) (by omega)));rw [Z0x _ _ (Nat.le_refl _) hdig]
  have hnl:decide (out=[])=true→dg (val out)=[]:=by
   intro h;have:=of_decide_eq_true h;subst this;rfl
  have hvl:(dg (val out)).length<1000000:=by
   have:=dg_len (Z57 hdig);omega
  refine Zs ?_;refine CallA.pure hG zk ?_;refine Zs ?_;rw [← Zpo];refine (Z2z G hG _ _ _ _ hnl (dig_dg _) hvl).mono ?_;rintro _ _ rfl;rw [val_dg];refine Zsf @encR.eq_1 ?_;refine Z ?_;rw [hP]
  try rfl
theorem Z6h (G:Nat→V) (hG:GOk G) (sl:Sl Tk) (hT:TkOk sl.l) (g:Nat) (r:RS) (hr:r.i<1000000):RdS 1012 [] G 328 [] sl g r (.str (Zba sl.l r.i).text) r:=by
 intro gx;refine Zo 1000 50 [.tmp 2] Tryz.func328 fun X=>?_;simp only [Zob,Zua];refine Z1 ?_;refine Z5 ?_
 by_cases hi:r.i<sl.l.length
 ·have h1:decide ((r.i:Int)≥sl.l.length)=false:=zF
  have hg:=List.getElem?_eq_getElem hi;have hm:=hT.text _ (List.getElem_mem hi);generalize sl.l[r.i]=t at hg hm;have hP:=Zjq hg
  have p1:Zep Tryz.prog G 126 [.str t.text] (.int .u8 (isP t.text)):=⟨by kernel_rfl,by
   refine Zs ?_;refine (Zqg G hG t.text (by omega)).mono ?_;rintro _ _ rfl
   rfl⟩
  by_cases hk:(isP t.text:Int)=t.kind
  ·rw [if_pos hk] at hP
   have e1:((isP t.text:Int) != t.kind)=false:=by simpa using hk
   refine Z5 <| Zw ⟨fun i=>if i=22 then .int .u8 (isP t.text) else .top,fun _ => .pure⟩ zk hG zk zk ?_
   refine Zsf (zi h1 (zi hg (zi @Zbb e1))) ?_;refine ⟨p1,?_⟩;refine Z9a rfl ?_
   ·refine Z0 ?_
    refine ZTf (zi hg @Zbb) hG ?_;refine Z ?_;exact ⟨by rw [hP],gx,zp,zp⟩
  ·rw [if_neg hk] at hP
   have e1:((isP t.text:Int) != t.kind)=true:=by simpa using hk
   refine Z5 <| Zw ⟨fun i=>if i=22 then .int .u8 (isP t.text) else .top,fun _ => .pure⟩ zk hG zk zk ?_
   refine Zsf (zi h1 (zi hg (zi @Zbb e1))) ?_;refine ⟨p1,?_⟩;refine Zi rfl (fun h2=>?_) (fun h2=>?_)
   ·refine Z ?_
    exact ⟨by rw [hP],gx,zp,zp⟩
   ·cases h2
 ·have h1:decide ((r.i:Int)≥sl.l.length)=true:=zT
  have hP:=Zjl (l:=sl.l) (i:=r.i) (by omega);refine ZTf h1 hG ?_;refine Zi rfl (fun h2=>?_) (fun h2=>?_)
  ·refine Z ?_
   exact ⟨by rw [hP],gx,zp,zp⟩
  ·cases h2
theorem Zse (G:Nat→V) (hG:GOk G) (sl:Sl Tk) (g:Nat) (r:RS) (hr:r.nodes.length<1000000):RdS 1012 [] G 312 [] sl g r (.int .i64 r.last) r:=by
 intro gx;refine Zo 1000 9 [.tmp 2] Tryz.func312 fun X=>?_;simp only [Zob,Zua];refine Z ?_;exact ⟨by rw [w64 (by omega) (by omega)]<;>rfl,gx,zp,zp⟩
theorem Z5h (G:Nat→V) (hG:GOk G) (sl:Sl Tk) (g:Nat) (r:RS) (hr:r.nodes.length<1000000) (n:XN) :
  RdS 1012 [] G 313 [Zva n] sl g r (.bool true) (r.put n):=by
 intro gx;refine Zo 1000 15 [.tmp 4] Tryz.func313 fun X=>?_;simp only [Zob,Zua,Z4a];refine Z1 ?_;intro g3
 refine AW.weak (Zv (fun o=>o==1003) (l:=[(0,.ptr 8 g 0),(3,.view .new (Zva n))])
  (m:=[(8,rdO 1012 [] sl g gx r),(1012,ndO gx r.nodes)]) ?_ ?_) ?_
 ·refine Zs ?_
  exact ⟨Zd _,Fz.ptr (v:=Zva n) (c := .new) (fz:=0) rfl zp⟩
 ·simp only [Zx,Zz,and_true]
  exact ⟨FzO.keep rfl zp,FzO.keep rfl zp⟩
 simp only [Z4a];refine AW.later ?_;refine ZTf @Zua hG ?_;intro g11;refine Z1q (f:=Zva) (l:=r.nodes) (l2:=[n]) (g:=gx) Z6d rfl rfl rfl zp (Zaa (by omega) (by simp;omega)) fun c2 g2=>?_;refine Zs ?_;refine Z1 ?_;refine AW.ret ?_;refine Zs ?_;refine ⟨st [(4,.bool true)] [(8,rdO 1012 [] sl g g2 (r.put n)),(1012,ndO g2 (r.nodes++[n]))],Zv (fun _=>false) ?_ ?_,?_⟩
 ·refine Zs ?_
  exact Zd _
 ·simp only [Zx,Zz,and_true]
  exact ⟨FzO.keep rfl zp,Z4q (c:=c2) rfl zp⟩
 ·refine Zs ?_
  exact Z6a ⟨rfl,g2,zp,zp⟩
theorem Z7h (G:Nat→V) (hG:GOk G) (sl:Sl Tk) (g:Nat) (r:RS) (hi:r.i<1000000) (hr:r.nodes.length<1000000) (op num:Int) (name:List UInt8) (x y z:Int) :
  RdS 1012 [] G 331 [Zva ⟨op,num,name,x,y,z⟩] sl g r (.bool true) (Zvg r op num name).2:=by
 intro gx;refine Zo 1000 18 [.tmp 4] Tryz.func331 fun X=>?_
 have hw:IntKind.i64.wrap ((r.i:Int)+1)=((r.i+1:Nat):Int):=by rw [w64 (by omega) (by omega)];omega
 simp only [Zob,Zua,Z4a];refine Z1 ?_;intro g3;refine Z1f hw ?_;refine Z1 ?_;refine Z1 ?_;refine Z1 ?_;refine Z1 ?_;rw [← Z4a ⟨op,num,name,-1,-1,-1⟩];refine Zca hG (Z5h G hG sl g r.adv hr ⟨op,num,name,-1,-1,-1⟩) (gx:=gx) fun gx'=>?_;refine Zu ?_;refine Z ?_;exact ⟨rfl,gx',zp,zp⟩
theorem Z9h (G:Nat→V) (hG:GOk G) (sl:Sl Tk) (hT:TkOk sl.l) (g:Nat) (r:RS) (hi:r.i<1000000) (w:List UInt8) :
  RdS 1012 [] G 329 [.str w] sl g r (.bool (Zro sl.l w r).1) (Zro sl.l w r).2:=by
 intro gx;refine Zo 1000 19 [.tmp 4] Tryz.func329 fun X=>?_
 have hw:IntKind.i64.wrap ((r.i:Int)+1)=((r.i+1:Nat):Int):=by rw [w64 (by omega) (by omega)];omega
 have hP:Zro sl.l w r=if (Zba sl.l r.i).text≠w then (false,r.err 80) else (true,r.adv):=rfl
 refine Z1 ?_;refine Z1 ?_;refine Zca hG (Z6h G hG sl hT g r hi) (gx:=gx) fun gx'=>?_;refine Zu ?_;generalize Zba sl.l r.i=t at hP ⊢
 by_cases ht:t.text=w
 ·rw [if_neg (by simpa using ht)] at hP
  refine Zi rfl (fun h2=>?_) (fun h2=>?_)
  ·rw [ht] at h2;simp at h2
  ·refine Zf (zi @Zua hw) ?_
   rw [hP];exact ⟨rfl,gx',zp,zp⟩
 ·rw [if_pos ht] at hP
  refine Zi rfl (fun h2=>?_) (fun h2=>?_)
  ·refine Zf @Zua ?_
   rw [hP];exact ⟨rfl,gx',zp,zp⟩
  ·have h2:t.text=w:=by simpa using h2
   exact absurd h2 ht
theorem Z4s:∀ t:List UInt8,(Zhh t).length≤t.length
 | []=>Nat.le_refl _
 | [c]=>Nat.le_refl _
 | c::d::r=>by
  rw [Zhh]
  split
  ·have:=Z4s (d::r)
   simp only [List.length_cons] at this ⊢;omega
  ·exact Nat.le_refl _
theorem Zw1 (c:UInt8):((c.toNat:Int)==48)=(c==48):=by
 have:=Z2s (fun c=>((c.toNat:Int)==48)==(c==48)) (by decide +kernel) c;simpa using this
theorem Zpt (G:Nat→V) (hG:GOk G) (sl:Sl Tk) (g:Nat) (r:RS) (hi:r.i<1000000) (hr:r.nodes.length<1000000) (t:List UInt8) (ht:t.length<100000) :
  RdS 1012 [] G 332 [.str t] sl g r (.bool (Z8i r t).1) (Z8i r t).2:=by
 intro gx;refine Zo 1000 31 [.tmp 4] Tryz.func332 fun X=>?_
 have hP:Z8i r t=if (Zbc (Zhh t)).2≠0 then (false,r.err 60) else Zvg r 1 (Zbc (Zhh t)).1 []:=rfl
 have hl:=Z4s t;refine Z1 ?_;refine Zia (fun (_:Unit)=>st [(0,.ptr 8 g 0),(1,.str (Zhh t))] [(8,rdO 1012 [] sl g gx r),(1012,ndO gx r.nodes)]) (fun _=>True) (fun K1 hK1=>?_) ?_
 ·refine AW.block ?_
  refine Zlb (fun (s:List UInt8)=>st [(0,.ptr 8 g 0),(1,.str s)] [(8,rdO 1012 [] sl g gx r),(1012,ndO gx r.nodes)])
   (fun s=>Zhh s=Zhh t∧s.length≤t.length) (fun s=>s.length) t ⟨rfl,Nat.le_refl _⟩ (Za zp (by simp -implicitDefEqProofs only[go_sem,seval,Zob];try rfl)) ?_
  rintro s ⟨hs,hsl⟩ L2 hL2;refine Z5 ?_
  by_cases hlen:s.length > 1
  rotate_left
  ·have h1:decide ((s.length:Int) > 1)=false:=zF
   have he:Zhh s=s:=by
    match s,hlen with
    | [],_=>rfl
    | [c],_=>rfl
    | c::d::r,h=>simp at h
   refine Z1f h1 ?_;refine Z0 ?_;exact hK1 _ () trivial (Za (by rw [← hs,he];simp -implicitDefEqProofs only[go_sem,seval];try rfl) zp)
  have h1:decide ((s.length:Int) > 1)=true:=zT
  obtain ⟨c,d,q,hq⟩:∃ c d q,s=c::d::q:=by
   match s,hlen with
   | c::d::q,_=>exact ⟨c,d,q,rfl⟩
  have hg:s[0]? = some c:=by rw [hq]<;>rfl
  have hdr:(s.drop 1).take (s.length-1)=d::q:=by rw [hq];simp
  have hT:Zhh s=if c=48 then Zhh (d::q) else s:=by rw [hq]<;>rfl
  have hll:(d::q).length+1=s.length:=by rw [hq];simp
  by_cases hc:c=48
  ·have e1:(c==48)=true:=by simpa using hc
   rw [if_pos hc] at hT;refine Z1f (zi h1 (zi hg (zi @Zw1 e1))) ?_;refine Z0 ?_;refine AW.block ?_
   have hb:1≤s.length:=by omega
   refine Z1f (zi hb (zi hdr @Nat.le_refl)) ?_;exact hL2 _ ⟨d::q,by omega,⟨by rw [← hT];exact hs,by omega⟩,Za zp zp⟩
  ·have e1:(c==48)=false:=by simpa using hc
   rw [if_neg hc] at hT;refine Z1f (zi h1 (zi hg (zi @Zw1 e1))) ?_;refine Z0 ?_;exact hK1 _ () trivial (Za (by rw [← hs,hT];simp -implicitDefEqProofs only[go_sem,seval];try rfl) zp)
 intro _ _;generalize Zhh t=s at hP hl ⊢;refine Z1 ?_;refine Zn hG ?_ (s:=(Z8v G hG s (by omega)));generalize Zbc s=q at hP ⊢;obtain ⟨n,e⟩:=q;simp only at hP;refine Zsf @encR.eq_1 ?_;refine Z5 ?_
 by_cases he:e=0
 ·have e1:(e==0)=true:=by simpa using he
  rw [if_neg (show ¬ e≠0 by simpa using he)] at hP;refine Zdc zk ?_;simp -implicitDefEqProofs only[go_sem,seval,bne,e1];refine Z9a rfl ?_
  ·refine Z1 ?_
   rw [← Z4a ⟨1,n,[],0,0,0⟩];refine Zca hG (Z7h G hG sl g r hi hr 1 n [] 0 0 0) (gx:=gx) fun gx'=>?_;refine Zu ?_;refine Z ?_;rw [hP];exact ⟨rfl,gx',zp,zp⟩
 ·have e1:(e==0)=false:=by simpa using he
  rw [if_pos he] at hP;refine Zdc zk ?_;simp -implicitDefEqProofs only[go_sem,seval,bne,e1];refine Zi rfl (fun h4=>?_) (fun h4=>?_)
  ·refine Zf @Zua ?_
   rw [hP];exact ⟨rfl,gx,zp,zp⟩
  ·cases h4
structure InnR (G:Nat→V) (sl:Sl Tk) (g:Nat) (inner:Inner) (i0:Nat):Prop where
 lev:∀ n r,1≤n→n≤9→i0<r.i→Z0k sl.l r→RdS 1012 [] G 291 [.int .i64 n] sl g r (.bool (inner n r).1) (inner n r).2
 un:∀ r,i0<r.i→Z0k sl.l r→RdS 1012 [] G 310 [] sl g r (.bool (inner 9 r).1) (inner 9 r).2
theorem Z06 {l:List Tk} (hT:TkOk l) (i:Nat):(Zba l i).text.length<100000:=by
 unfold Zba
 split
 ·rename_i t h
  split
  ·exact hT.text _ (List.mem_of_getElem? h)
  ·exact Nat.zero_lt_succ _
 ·exact Nat.zero_lt_succ _
theorem Z4r (l:List Tk) {w:List UInt8} (hw:isP w≠0) (r:RS):Bal l 0 r (Zro l w r).2∧((Zro l w r).1=true→Bal l 1 r (Zro l w r).2)∧((Zro l w r).1=true→(Zro l w r).2=r.adv):=by
 rw [Zku l hw];refine ⟨(Zoe l w r).1,(Zoe l w r).2,?_⟩;unfold Zah
 split
 ·intro h;cases h
 ·exact fun _=>rfl
theorem Zmp (G:Nat→V) (hG:GOk G) (sl:Sl Tk) (hT:TkOk sl.l) (g:Nat) (r:RS) (hr:Z0k sl.l r) (hlt:r.i<sl.l.length) (inner:Inner) (hin:InnR G sl g inner r.i) (hb:Z27 sl.l inner) :
  RdS 1012 [] G 330 [] sl g r (.bool (Zje sl.l inner r).1) (Zje sl.l inner r).2:=by
 have hTl:=hT.len;intro gx;refine Zo 1000 47 [.tmp 2] Tryz.func330 fun X=>?_
 have hP:Zje sl.l inner r=andThen (inner 1 r.adv) fun a=>andThen (Zro sl.l Ztj a) fun r2=>andThen (inner 1 r2) fun b =>
  andThen (Zro sl.l Zuj b) fun r3=>andThen (inner 1 r3) fun c=>andThen (Zro sl.l Z1e c) fun r4=>(true,r4.put ⟨22,0,[],a.last,b.last,c.last⟩):=rfl
 generalize Zje sl.l inner r=res at hP ⊢;have had:Z0k sl.l r.adv:=(Bal.adv hlt).ok hr
 have hw:IntKind.i64.wrap ((r.i:Int)+1)=((r.i+1:Nat):Int):=by rw [w64 (by omega) (by omega)];omega
 have c1:=hin.lev 1 r.adv (by decide) (by decide) (Nat.lt_succ_self _) had;have b1:=hb 1 r.adv;generalize inner 1 r.adv=x1 at hP c1 b1;obtain ⟨t1,a⟩:=x1;simp only at c1 b1;have ha:=b1.ok had;have hau:r.i+1≤a.i:=b1.up;refine Z1 ?_;refine Z1f (zi @Zua hw) ?_;refine Z5 ?_
 cases t1 with
 | false =>
  rw [Zra] at hP;refine Z1f @Zua ?_;refine Zca hG (c1) (gx:=gx) fun gx1=>?_;refine Zu ?_;refine Zi rfl (fun h19=>?_) (fun h19=>?_)
  ·refine Z ?_
   rw [hP];exact ⟨rfl,gx1,zr,zr⟩
  ·cases h19
 | true =>
 rw [Z6] at hP
 have hai:a.i<1000000:=by have:=ha.1;omega
 have han:a.nodes.length<1000000:=by have:=ha.1;have:=ha.2;omega
 have c2:=Z9h G hG sl hT g a hai Ztj;have b2:=Z4r sl.l (w:=Ztj) (by decide +kernel) a;generalize Zro sl.l Ztj a=x2 at hP c2 b2;obtain ⟨t2,r2⟩:=x2;simp only at c2 b2
 cases t2 with
 | false =>
  rw [Zra] at hP;refine Z1f @Zua ?_;refine Zca hG (c1) (gx:=gx) fun gx1=>?_;refine Zu ?_;refine Zsf @Zua ?_;refine Zca hG (c2) (gx:=gx1) fun gx2=>?_;refine Zu ?_;refine Zi rfl (fun h19=>?_) (fun h19=>?_)
  ·refine Z ?_
   rw [hP];exact ⟨rfl,gx2,zr,zr⟩
  ·cases h19
 | true =>
 rw [Z6] at hP;have hr2:=(b2.2.1 rfl).ok ha;have e2:=b2.2.2 rfl
 have h2n:r2.nodes=a.nodes:=by rw [e2]<;>rfl
 have h2l:r2.last=a.last:=by rw [e2]<;>rfl
 have h2i:r2.i=a.i+1:=by rw [e2]<;>rfl
 have c3:=hin.lev 1 r2 (by decide) (by decide) (by omega) hr2;have b3:=hb 1 r2;generalize inner 1 r2=x3 at hP c3 b3;obtain ⟨t3,b⟩:=x3;simp only at c3 b3;have hbo:=b3.ok hr2;have hbu:r2.i≤b.i:=b3.up
 have hbi:b.i<1000000:=by have:=hbo.1;omega
 have hbn:b.nodes.length<1000000:=by have:=hbo.1;have:=hbo.2;omega
 refine Z1f @Zua ?_;refine Zca hG (c1) (gx:=gx) fun gx1=>?_;refine Zu ?_;refine Zsf @Zua ?_;refine Zca hG (c2) (gx:=gx1) fun gx2=>?_;refine Zu ?_;refine Z1f @Zua ?_
 have h2nn:r2.nodes.length<1000000:=by rw [h2n];exact han
 refine Zca hG (Zse G hG sl g r2 h2nn) (gx:=gx2) fun gx3=>?_;refine Zu ?_;rw [h2l];refine Z5 ?_
 cases t3 with
 | false =>
  rw [Zra] at hP;refine Z1f @Zua ?_;refine Zca hG (c3) (gx:=gx3) fun gx4=>?_;refine Zu ?_;refine Zi rfl (fun h29=>?_) (fun h29=>?_)
  ·refine Z ?_
   rw [hP];exact ⟨rfl,gx4,zr,zr⟩
  ·cases h29
 | true =>
 rw [Z6] at hP;have c4:=Z9h G hG sl hT g b hbi Zuj;have b4:=Z4r sl.l (w:=Zuj) (by decide +kernel) b;generalize Zro sl.l Zuj b=x4 at hP c4 b4;obtain ⟨t4,r3⟩:=x4;simp only at c4 b4
 cases t4 with
 | false =>
  rw [Zra] at hP;refine Z1f @Zua ?_;refine Zca hG (c3) (gx:=gx3) fun gx4=>?_;refine Zu ?_;refine Zsf @Zua ?_;refine Zca hG (c4) (gx:=gx4) fun gx5=>?_;refine Zu ?_;refine Zi rfl (fun h29=>?_) (fun h29=>?_)
  ·refine Z ?_
   rw [hP];exact ⟨rfl,gx5,zr,zr⟩
  ·cases h29
 | true =>
 rw [Z6] at hP;have hr3:=(b4.2.1 rfl).ok hbo;have e3:=b4.2.2 rfl
 have h3n:r3.nodes=b.nodes:=by rw [e3]<;>rfl
 have h3l:r3.last=b.last:=by rw [e3]<;>rfl
 have h3i:r3.i=b.i+1:=by rw [e3]<;>rfl
 have c5:=hin.lev 1 r3 (by decide) (by decide) (by omega) hr3;have b5:=hb 1 r3;generalize inner 1 r3=x5 at hP c5 b5;obtain ⟨t5,c⟩:=x5;simp only at c5 b5;have hco:=b5.ok hr3
 have hci:c.i<1000000:=by have:=hco.1;omega
 refine Z1f @Zua ?_;refine Zca hG (c3) (gx:=gx3) fun gx4=>?_;refine Zu ?_;refine Zsf @Zua ?_;refine Zca hG (c4) (gx:=gx4) fun gx5=>?_;refine Zu ?_;refine Z1f @Zua ?_
 have h3nn:r3.nodes.length<1000000:=by rw [h3n];exact hbn
 refine Zca hG (Zse G hG sl g r3 h3nn) (gx:=gx5) fun gx6=>?_;refine Zu ?_;rw [h3l]
 cases t5 with
 | false =>
  rw [Zra] at hP;refine Z1f @Zua ?_;refine Zca hG (c5) (gx:=gx6) fun gx7=>?_;refine Zu ?_;refine Z ?_;rw [hP];exact ⟨rfl,gx7,zr,zr⟩
 | true =>
 rw [Z6] at hP;have c6:=Z9h G hG sl hT g c hci Z1e;have b6:=Z4r sl.l (w:=Z1e) (by decide +kernel) c;generalize Zro sl.l Z1e c=x6 at hP c6 b6;obtain ⟨t6,r4⟩:=x6;simp only at c6 b6
 cases t6 with
 | false =>
  rw [Zra] at hP;refine Z1f @Zua ?_;refine Zca hG (c5) (gx:=gx6) fun gx7=>?_;refine Zu ?_;refine Zsf @Zua ?_;refine Zca hG (c6) (gx:=gx7) fun gx8=>?_;refine Zu ?_;refine Z ?_;rw [hP];exact ⟨rfl,gx8,zr,zr⟩
 | true =>
 rw [Z6] at hP;have hr4:=(b6.2.1 rfl).ok hco;have e4:=b6.2.2 rfl
 have h4l:r4.last=c.last:=by rw [e4]<;>rfl
 have h4n:r4.nodes.length<1000000:=by have:=hr4.1;have:=hr4.2;omega
 refine Z1f @Zua ?_;refine Zca hG (c5) (gx:=gx6) fun gx7=>?_;refine Zu ?_;refine Zsf @Zua ?_;refine Zca hG (c6) (gx:=gx7) fun gx8=>?_;refine Zu ?_;refine Zsf @Zua ?_;refine Zca hG (Zse G hG sl g r4 h4n) (gx:=gx8) fun gx9=>?_;refine Zu ?_;rw [h4l];refine Zsf @Zua ?_;rw [← Z4a ⟨22,0,[],a.last,b.last,c.last⟩];refine Zca hG (Z5h G hG sl g r4 h4n ⟨22,0,[],a.last,b.last,c.last⟩) (gx:=gx9) fun gxa=>?_;refine Zu ?_;refine Z ?_;rw [hP];exact ⟨rfl,gxa,zr,zr⟩
theorem Znr (G:Nat→V) (hG:GOk G) (sl:Sl Tk) (hT:TkOk sl.l) (g:Nat) (r:RS) (hr:Z0k sl.l r) (inner:Inner) (hin:InnR G sl g inner r.i) (hb:Z27 sl.l inner) :
  RdS 1012 [] G 309 [] sl g r (.bool (Zut sl.l inner r).1) (Zut sl.l inner r).2:=by
 have hTl:=hT.len
 have hri:r.i<1000000:=by have:=hr.1;omega
 have hrn:r.nodes.length<1000000:=by have:=hr.2;omega
 have hw:IntKind.i64.wrap ((r.i:Int)+1)=((r.i+1:Nat):Int):=by rw [w64 (by omega) (by omega)];omega
 intro gx;refine Zo 1000 83 [.tmp 2] Tryz.func309 fun X=>?_
 have hP:Zut sl.l inner r=if (Zba sl.l r.i).text=[40] then andThen (inner 1 r.adv) (Zro sl.l [41])
  else if (Zba sl.l r.i).text=wIf then Zje sl.l inner r
  else if (Zba sl.l r.i).text=[116,114,117,101] then Zvg r 3 0 []
  else if (Zba sl.l r.i).text=[102,97,108,115,101] then Zvg r 4 0 []
  else if (Zba sl.l r.i).text≠[]∧(Zba sl.l r.i).kind=1 then Z8i r (Zba sl.l r.i).text
  else if (Zba sl.l r.i).text≠[]∧(Zba sl.l r.i).kind=2 then Zvg r 2 0 (Zba sl.l r.i).text
  else (false,r.err 80):=rfl
 have htl:=Z06 hT r.i;have hbr:=fun h=>Zmp G hG sl hT g r hr h inner hin hb
 have hne:(Zba sl.l r.i).text≠[]→∃ t,sl.l[r.i]? = some t∧Zba sl.l r.i=t∧r.i<sl.l.length:=by
  intro h;unfold Zba at h ⊢
  cases hg:sl.l[r.i]? with
  | none=>rw [hg] at h;exact absurd rfl h
  | some t =>
   rw [hg] at h;simp only at h
   split at h
   ·rename_i q
    refine ⟨t,rfl,?_,(List.getElem?_eq_some_iff.1 hg).1⟩;simp only;rw [if_pos q]
   ·exact absurd rfl h
 have hadv:(Zba sl.l r.i).text≠[]→Z0k sl.l r.adv:=fun h=>by
  obtain ⟨t,_,_,q⟩:=hne h;exact (Bal.adv q).ok hr
 generalize Zut sl.l inner r=res at hP ⊢;refine Z1 ?_;refine Z1 ?_;refine Zca hG (Z6h G hG sl hT g r hri) (gx:=gx) fun gx1=>?_;refine Zu ?_;generalize Zba sl.l r.i=t at hP htl hadv hne ⊢;obtain ⟨k,t,p⟩:=t;simp only at hP htl hadv hne;refine Zia (fun (_:Unit)=>st [(0,.ptr 8 g 0)] [(8,rdO 1012 [] sl g gx1 r),(1012,ndO gx1 r.nodes)]) (fun _=>res=(false,r.err 80)) (fun K1 hK1=>?_) ?_;rotate_left
 ·intro _ hP
  refine Zf @Zua ?_;rw [hP];exact ⟨rfl,gx1,zr,zr⟩
 refine AW.block ?_
 by_cases c1:t=[40]
 ·have e1:(t==[40])=true:=by simpa using c1
  have htn:t≠[]:=by rw [c1];simp
  rw [if_pos c1] at hP;have hc:=hin.lev 1 r.adv (by decide) (by decide) (Nat.lt_succ_self _) (hadv htn);have hbl:=(hb 1 r.adv).ok (hadv htn);generalize inner 1 r.adv=x at hc hP hbl;obtain ⟨b,a⟩:=x;simp only at hc hbl
  have hai:a.i<1000000:=by have:=hbl.1;omega
  refine Z1f e1 ?_;refine Z1f (zi @Zua hw) ?_
  cases b with
  | false =>
   rw [Zra] at hP;refine Z1f @Zua ?_;refine Zca hG (hc) (gx:=gx1) fun gx2=>?_;refine Zu ?_;refine Z ?_;rw [hP];exact ⟨rfl,gx2,zr,zr⟩
  | true =>
   rw [Z6] at hP;refine Z1f @Zua ?_;refine Zca hG (hc) (gx:=gx1) fun gx2=>?_;refine Zu ?_;refine Zsf @Zua ?_;refine Zca hG (Z9h G hG sl hT g a hai [41]) (gx:=gx2) fun gx3=>?_;refine Zu ?_;generalize Zro sl.l [41] a=y at hP ⊢;obtain ⟨b,a2⟩:=y
   cases b with
   | true =>
    refine Zs ?_;refine Z ?_;rw [hP];exact ⟨rfl,gx3,zr,zr⟩
   | false =>
    refine Zs ?_;refine Z ?_;rw [hP];exact ⟨rfl,gx3,zr,zr⟩
 have e1:(t==[40])=false:=by simpa using c1
 rw [if_neg c1] at hP;refine Z1f e1 ?_;refine Z9a rfl ?_
 try clear h2
 by_cases c2:t=wIf
 ·have e2:(t==[105,102])=true:=by rw [c2]<;>rfl
  have htn:t≠[]:=by rw [c2];decide
  obtain ⟨_,_,_,hlt⟩:=hne htn;rw [if_pos c2] at hP;refine Z1f e2 ?_;refine Z1 ?_;refine Zca hG (hbr hlt) (gx:=gx1) fun gx2=>?_;refine Zu ?_;refine Z ?_;rw [hP];exact ⟨rfl,gx2,zr,zr⟩
 have e2:(t==[105,102])=false:=by rw [beq_eq_false_iff_ne];exact c2
 rw [if_neg c2] at hP;refine Z1f e2 ?_;refine Z9a rfl ?_
 try clear h2
 by_cases c3:t=[116,114,117,101]
 ·have e3:(t==[116,114,117,101])=true:=by simpa using c3
  rw [if_pos c3] at hP;refine Z1f e3 ?_;refine Z1 ?_;rw [← Z4a ⟨3,0,[],0,0,0⟩];refine Zca hG (Z7h G hG sl g r hri hrn 3 0 [] 0 0 0) (gx:=gx1) fun gx2=>?_;refine Zu ?_;refine Z ?_;rw [hP];exact ⟨rfl,gx2,zr,zr⟩
 have e3:(t==[116,114,117,101])=false:=by simpa using c3
 rw [if_neg c3] at hP;refine Z1f e3 ?_;refine Z9a rfl ?_
 try clear h2
 by_cases c4:t=[102,97,108,115,101]
 ·have e4:(t==[102,97,108,115,101])=true:=by simpa using c4
  rw [if_pos c4] at hP;refine Z1f e4 ?_;refine Z1 ?_;rw [← Z4a ⟨4,0,[],0,0,0⟩];refine Zca hG (Z7h G hG sl g r hri hrn 4 0 [] 0 0 0) (gx:=gx1) fun gx2=>?_;refine Zu ?_;refine Z ?_;rw [hP];exact ⟨rfl,gx2,zr,zr⟩
 have e4:(t==[102,97,108,115,101])=false:=by simpa using c4
 rw [if_neg c4] at hP;refine Z1f e4 ?_;refine Z9a rfl ?_
 try clear h2
 by_cases c5:t=[]
 ·have e5:(t==[])=true:=by rw [c5]<;>rfl
  rw [if_neg (fun h=>h.1 c5),if_neg (fun h=>h.1 c5)] at hP;refine ZTf e5 hG ?_;refine Z9a rfl ?_
  try clear h2
  refine ZTf e5 hG ?_;refine Z0 ?_;exact hK1 _ () hP (Za zp zp)
 have e5:(t==[])=false:=by simpa using c5
 obtain ⟨t0,hg,ht0,hlt⟩:=hne c5
 have hgk:sl.l[r.i]? = some ⟨k,t,p⟩:=by rw [hg,ht0]
 by_cases k1:k=1
 ·have q1:(k==1)=true:=by simpa using k1
  rw [if_pos ⟨c5,k1⟩] at hP;refine ZTf (zi e5 (zi @Zua (zi hgk (zi @Zbb q1)))) hG ?_;refine Z1f @Zua ?_;refine Zca hG (Zpt G hG sl g r hri hrn t htl) (gx:=gx1) fun gx2=>?_;refine Zu ?_;refine Z ?_;rw [hP];exact ⟨rfl,gx2,zr,zr⟩
 have q1:(k==1)=false:=by simpa using k1
 rw [if_neg (fun h=>k1 h.2)] at hP;refine ZTf (zi e5 (zi @Zua (zi hgk (zi @Zbb q1)))) hG ?_;refine Z9a rfl ?_
 try clear h2
 by_cases k2:k=2
 ·have q2:(k==2)=true:=by simpa using k2
  rw [if_pos ⟨c5,k2⟩] at hP;refine ZTf (zi e5 (zi @Zua (zi hgk (zi @Zbb q2)))) hG ?_;refine Z1f @Zua ?_;rw [← Z4a ⟨2,0,t,0,0,0⟩];refine Zca hG (Z7h G hG sl g r hri hrn 2 0 t 0 0 0) (gx:=gx1) fun gx2=>?_;refine Zu ?_;refine Z ?_;rw [hP];exact ⟨rfl,gx2,zr,zr⟩
 have q2:(k==2)=false:=by simpa using k2
 rw [if_neg (fun h=>k2 h.2)] at hP;refine ZTf (zi e5 (zi @Zua (zi hgk (zi @Zbb q2)))) hG ?_;refine Z0 ?_;exact hK1 _ () hP (Za zp (zpf @Zua))
end Go.Hs
end

section
namespace Go.Hs
def sgT (op:Nat):List UInt8:=(tabL.getD op ⟨[],0,0⟩).text
def wNot:List UInt8:=[110,111,116]
def wTrue:List UInt8:=[116,114,117,101]
def wFalse:List UInt8:=[102,97,108,115,101]
inductive Gr:Int→List (List UInt8)→X→Prop where
 | num {n:Int} {t:List UInt8} {v:Int}:isP t=1→Zbc (Zld t)=(v,0)→Gr n [t] (.leaf 1 v [])
 | name {n:Int} {t:List UInt8}:isP t=2→Gr n [t] (.leaf 2 0 t)
 | tr {n:Int}:Gr n [wTrue] (.leaf 3 0 [])
 | fa {n:Int}:Gr n [wFalse] (.leaf 4 0 [])
 | neg {n:Int} {ts:List (List UInt8)} {a:X}:n≤9→Gr 9 ts a→Gr n ([45]::ts) (.un 5 a)
 | not {n:Int} {ts:List (List UInt8)} {a:X}:n≤9→Gr 9 ts a→Gr n (wNot::ts) (.un 6 a)
 | par {n:Int} {ts:List (List UInt8)} {a:X}:Gr 1 ts a→Gr n ([40]::(ts++[[41]])) a
 | bin {n:Int} {op:Nat} {ta tb:List (List UInt8)} {a b:X}:7≤op→op≤21→n≤lvl op→Gr (lvl op) ta a→Gr (lvl op+1) tb b→Gr n (ta++sgT op::tb) (.bin op a b)
 | ite {n:Int} {ta tb tc:List (List UInt8)} {a b c:X}:Gr 1 ta a→Gr 1 tb b→Gr 1 tc c→Gr n (wIf::(ta++Ztj::(tb++Zuj::(tc++[Z1e])))) (.ite a b c)
theorem Gr.mono {n m:Int} {ts:List (List UInt8)} {x:X} (h:Gr n ts x) (hm:m≤n):Gr m ts x:=by
 cases h with
 | num h1 h2=>exact .num h1 h2
 | name h1=>exact .name h1
 | tr=>exact .tr
 | fa=>exact .fa
 | neg h1 h2=>exact .neg (by omega) h2
 | not h1 h2=>exact .not (by omega) h2
 | par h1=>exact .par h1
 | bin h1 h2 h3 h4 h5=>exact .bin h1 h2 (by omega) h4 h5
 | ite h1 h2 h3=>exact .ite h1 h2 h3
theorem Zj3:∀ op,7≤op→op≤21→1≤lvl op∧lvl op≤8∧ofI (sgT op) 2=some op∧isP (sgT op)≠0:=by
 have:((List.range 22).all fun op=>decide (7≤op→1≤lvl op∧lvl op≤8∧ofI (sgT op) 2=some op∧isP (sgT op)≠0))=true:=by decide +kernel
 intro op h1 h2;have:=List.all_eq_true.1 this op (List.mem_range.2 (by omega));simp only [decide_eq_true_eq] at this;exact this h1
theorem Gr.pos {n:Int} {ts:List (List UInt8)} {x:X} (h:Gr n ts x):0<ts.length:=by
 cases h<;>simp<;>omega
def Z3k (t:Tk):List UInt8:=if (isP t.text:Int)=t.kind then t.text else []
theorem Zb3 {l:List Tk} {i:Nat} {w:List UInt8} (h:(l.map Z3k)[i]? = some w):(Zba l i).text=w∧(Zba l i).kind=isP w:=by
 have hk:=Zei l i
 have:(Zba l i).text=w:=by
  rw [List.getElem?_map] at h;unfold Zba
  cases hg:l[i]? with
  | none=>rw [hg] at h;cases h
  | some t =>
   rw [hg] at h;simp only [Option.map_some,Option.some.injEq] at h;simp only;rw [← h];unfold Z3k
   split<;>rfl
 exact ⟨this,by rw [← hk,this]⟩
theorem Zc3 {l:List Tk} {i:Nat} (h:i<l.length):(l.map Z3k)[i]? = some (Zba l i).text:=by
 have hg:(l.map Z3k)[i]? = some (Z3k l[i]):=by rw [List.getElem?_map,List.getElem?_eq_getElem h];rfl
 rw [hg,(Zb3 hg).1]
def Seg (l:List Tk) (i:Nat) (ts:List (List UInt8)):Prop:=∃ pre post,l.map Z3k=pre++(ts++post)∧pre.length=i
theorem Seg.left {l:List Tk} {i:Nat} {a b:List (List UInt8)} (h:Seg l i (a++b)):Seg l i a:=by
 obtain ⟨pre,post,e,hp⟩:=h;exact ⟨pre,b++post,by rw [e];simp,hp⟩
theorem Seg.right {l:List Tk} {i:Nat} {a b:List (List UInt8)} (h:Seg l i (a++b)):Seg l (i+a.length) b:=by
 obtain ⟨pre,post,e,hp⟩:=h;exact ⟨pre++a,post,by rw [e];simp,by simp [hp]⟩
theorem Seg.head {l:List Tk} {i:Nat} {w:List UInt8} {b:List (List UInt8)} (h:Seg l i (w::b)):(Zba l i).text=w∧(Zba l i).kind=isP w:=by
 obtain ⟨pre,post,e,hp⟩:=h;refine Zb3 ?_;rw [e,List.getElem?_append_right (by omega),hp,Nat.sub_self];rfl
theorem Seg.tail {l:List Tk} {i:Nat} {w:List UInt8} {b:List (List UInt8)} (h:Seg l i (w::b)):Seg l (i+1) b:=Seg.right (a:=[w]) h
theorem Seg.le {l:List Tk} {i:Nat} {b:List (List UInt8)} (h:Seg l i b):i+b.length≤l.length:=by
 obtain ⟨pre,post,e,hp⟩:=h;have:=congrArg List.length e;simp only [List.length_map,List.length_append] at this;omega
theorem Seg.app {l:List Tk} {i:Nat} {a b:List (List UInt8)} (h:Seg l i a) (h2:Seg l (i+a.length) b):Seg l i (a++b):=by
 obtain ⟨pre,post,e,hp⟩:=h;obtain ⟨pre2,post2,e2,hp2⟩:=h2;refine ⟨pre,post2,?_,hp⟩;rw [e] at e2
 have h1:pre++(a++post)=(pre++a)++post:=by simp
 rw [h1] at e2;obtain ⟨q1,q2⟩:=List.append_inj e2 (by simp [hp,hp2]);rw [e,q2];simp
theorem Seg.one {l:List Tk} {i:Nat} {w:List UInt8} (hi:i<l.length) (h:(Zba l i).text=w):Seg l i [w]:=by
 have hg:=Zc3 hi;rw [h] at hg;obtain ⟨q1,q2⟩:=List.getElem?_eq_some_iff.1 hg;refine ⟨(l.map Z3k).take i,(l.map Z3k).drop (i+1),?_,?_⟩
 ·rw [← q2,List.singleton_append,← List.drop_eq_getElem_cons q1,List.take_append_drop]
 ·rw [List.length_take];omega
theorem Zlq {l:List Tk} {inner:Inner} (h:Z07 inner) (n:Int):∀ (m m':Nat) (r:RS),l.length<m+r.i→l.length<m'+r.i→Z9b l inner n m r=Z9b l inner n m' r
 | 0,m',r,h1,_=>by
  cases m' with
  | zero=>rfl
  | succ m' =>
   rw [Z9b,Z9b]
   cases ho:Znh l r.i with
   | none=>rfl
   | some op=>have:=Zmh ho;omega
 | m+1,0,r,_,h2=>by
  rw [Z9b,Z9b]
  cases ho:Znh l r.i with
  | none=>rfl
  | some op=>have:=Zmh ho;omega
 | m+1,m'+1,r,h1,h2=>by
  rw [Z9b,Z9b]
  cases ho:Znh l r.i with
  | none=>rfl
  | some op =>
   simp only
   split
   ·rfl
   ·refine Zhc fun _=>?_
    have h3:r.i+1≤_:=h (lvl op+1) r.adv;exact Zlq h n m m' _ (by simp only [Z6g];omega) (by simp only [Z6g];omega)
def after (r:RS) (k:Nat) (x:X):RS:=⟨r.i+k,r.nodes++x.row r.nodes.length,r.e⟩
theorem Z9d (r:RS) (k:Nat) (x:X):(after r k x).last=(r.nodes.length:Int)+x.size-1:=by
 show (((r.nodes++x.row r.nodes.length).length:Nat):Int)-1=_
 rw [List.length_append,X.row_len];omega
theorem Z5t {l:List Tk} {inner:Inner} {n:Int} {m:Nat} {r:RS} (h:Zp5 l n r.i):Z9b l inner n m r=(true,r):=by
 cases m with
 | zero=>rfl
 | succ m =>
  rw [Z9b]
  cases ho:Znh l r.i with
  | none=>rfl
  | some op=>simp only;rw [if_pos (h op ho)]
theorem Zzt {l:List Tk} {i:Nat} {w:List UInt8} (h:(Zba l i).text=w):Znh l i=ofI w 2:=by rw [Zak,h]
theorem Zsh {l:List Tk} {i:Nat} {w:List UInt8} (n:Int) (h:(Zba l i).text=w) (hw:ofI w 2=none):Zp5 l n i:=by
 intro op ho;rw [Zzt h,hw] at ho;cases ho
theorem Zlu {l:List Tk} {r:RS} {w:List UInt8} (h:(Zba l r.i).text=w∧(Zba l r.i).kind=isP w) (hw:isP w≠0):Zah l w r=(true,r.adv):=by
 unfold Zah;rw [if_neg];rintro (q | q)
 ·rw [h.2] at q;omega
 ·exact q h.1
theorem Gr.climb {l:List Tk} {k:Int} {ts:List (List UInt8)} {x:X} (h:Gr k ts x):∀ (n:Int) (f M:Nat) (r:RS),Seg l r.i ts→n≤k→n≤9→l.length≤f+r.i→l.length<M+r.i →
  (∀ op,Znh l (r.i+ts.length)=some op→lvl op≤k)→andThen (Z8a l (Z8 l f) r) (Z9b l (Z8 l f) n M)=Z9b l (Z8 l f) n M (after r ts.length x):=by
 have inner:∀ {k:Int} {ts:List (List UInt8)} {x:X},(∀ (n:Int) (f M:Nat) (r:RS),Seg l r.i ts→n≤k→n≤9→l.length≤f+r.i→l.length<M+r.i →
   (∀ op,Znh l (r.i+ts.length)=some op→lvl op≤k)→andThen (Z8a l (Z8 l f) r) (Z9b l (Z8 l f) n M)=Z9b l (Z8 l f) n M (after r ts.length x)) →
   ∀ (f:Nat) (r:RS),Seg l r.i ts→k≤9→l.length+1≤f+r.i→Zp5 l k (r.i+ts.length)→Z8 l f k r=(true,after r ts.length x):=by
  intro k ts x ih f r hs hk hf he
  cases f with
  | zero=>have:=hs.le;omega
  | succ f =>
   rw [Z8,ih k f (l.length+1) r hs (Int.le_refl _) hk (by omega) (by omega) (fun op ho=>by have:=he op ho;omega)];exact Z5t he
 have ends9:∀ i,Zp5 l 9 i:=fun i op ho=>by have:=Zky ho;omega
 induction h with
 | @num k t v h1 h2 =>
  intro n f M r hs _ _ _ _ _;obtain ⟨e1,e2⟩:=hs.head
  have:Z8a l (Z8 l f) r=(true,after r 1 (.leaf 1 v [])):=by
   unfold Z8a;rw [e2,e1,h1,if_pos (by decide)];unfold Znd;rw [h2,if_neg (by simp)];rfl
  rw [this];rfl
 | @name k t h1 =>
  intro n f M r hs _ _ _ _ _;obtain ⟨e1,e2⟩:=hs.head
  have:Z8a l (Z8 l f) r=(true,after r 1 (.leaf 2 0 t)):=by
   unfold Z8a;rw [e2,e1,h1,if_neg (by decide),if_pos (by decide)];rfl
  rw [this];rfl
 | @tr k =>
  intro n f M r hs _ _ _ _ _;obtain ⟨e1,e2⟩:=hs.head
  have:Z8a l (Z8 l f) r=(true,after r 1 (.leaf 3 0 [])):=by
   unfold Z8a;rw [e2,e1];rfl
  rw [this];rfl
 | @fa k =>
  intro n f M r hs _ _ _ _ _;obtain ⟨e1,e2⟩:=hs.head
  have:Z8a l (Z8 l f) r=(true,after r 1 (.leaf 4 0 [])):=by
   unfold Z8a;rw [e2,e1];rfl
  rw [this];rfl
 | @neg k ts a h1 h2 ih =>
  intro n f M r hs _ _ hf _ _;obtain ⟨e1,e2⟩:=hs.head;have hc:=inner ih f r.adv hs.tail (Int.le_refl _) (by show _≤f+(r.i+1);omega) (ends9 _)
  have:Z8a l (Z8 l f) r=(true,after r (ts.length+1) (.un 5 a)):=by
   have:Z8a l (Z8 l f) r=andThen (Z8 l f 9 r.adv) fun a=>(true,a.put ⟨5,0,[],a.last,-1,-1⟩):=by
    unfold Z8a;rw [e2,e1];rfl
   rw [this,hc,Z6,Z9d]
   show (true,RS.mk _ _ _)=(true,RS.mk _ _ _)
   congr 2
   ·show r.i+1+ts.length=r.i+(ts.length+1);omega
   ·show (r.nodes++_)++[_]=r.nodes++(_++[_])
    rw [List.append_assoc];rfl
  rw [this];rfl
 | @not k ts a h1 h2 ih =>
  intro n f M r hs _ _ hf _ _;obtain ⟨e1,e2⟩:=hs.head;have hc:=inner ih f r.adv hs.tail (Int.le_refl _) (by show _≤f+(r.i+1);omega) (ends9 _)
  have:Z8a l (Z8 l f) r=(true,after r (ts.length+1) (.un 6 a)):=by
   have:Z8a l (Z8 l f) r=andThen (Z8 l f 9 r.adv) fun a=>(true,a.put ⟨6,0,[],a.last,-1,-1⟩):=by
    unfold Z8a;rw [e2,e1];rfl
   rw [this,hc,Z6,Z9d]
   show (true,RS.mk _ _ _)=(true,RS.mk _ _ _)
   congr 2
   ·show r.i+1+ts.length=r.i+(ts.length+1);omega
   ·show (r.nodes++_)++[_]=r.nodes++(_++[_])
    rw [List.append_assoc];rfl
  rw [this];rfl
 | @par k ts a h1 ih =>
  intro n f M r hs _ _ hf _ _;obtain ⟨e1,e2⟩:=hs.head;have h41:=hs.tail.right.head;have hc:=inner ih f r.adv hs.tail.left (by decide) (by show _≤f+(r.i+1);omega) (Zsh 1 h41.1 (by decide +kernel))
  have:Z8a l (Z8 l f) r=(true,after r (ts.length+2) a):=by
   have:Z8a l (Z8 l f) r=andThen (Z8 l f 1 r.adv) (Zah l [41]):=by
    unfold Z8a;rw [e2,e1];rfl
   rw [this,hc,Z6,Zlu h41 (by decide +kernel)]
   show (true,RS.mk _ _ _)=(true,RS.mk _ _ _)
   congr 2
   show r.i+1+ts.length+1=r.i+(ts.length+2);omega
  rw [this,Z6]
  congr 1
  show RS.mk _ _ _=RS.mk _ _ _
  congr 1
  simp only [List.length_cons,List.length_append,List.length_nil]
 | @bin k op ta tb a b h1 h2 h3 h4 h5 iha ihb =>
  intro n f M r hs hn hn9 hf hM ho;obtain ⟨l1,l2,l3,l4⟩:=Zj3 op h1 h2;have hso:=hs.right.head
  have hop:Znh l (r.i+ta.length)=some op:=by rw [Zzt hso.1,l3]
  rw [iha n f M r hs.left (by omega) hn9 hf hM (fun op' ho'=>by rw [hop] at ho';cases ho';exact Int.le_refl _)];have hle:=hs.le;simp only [List.length_append,List.length_cons] at hle;obtain ⟨M,rfl⟩:∃ m,M=m+1:=⟨M-1,by omega⟩;rw [Z9b];have:Znh l (after r ta.length a).i=some op:=hop;rw [this];simp only;rw [if_neg (by omega)]
  have hend:Zp5 l (lvl op+1) (r.i+ta.length+1+tb.length):=by
   intro op' ho';have:=ho op' (by rw [← ho'];congr 1;simp only [List.length_append,List.length_cons];omega);omega
  have hc:=inner ihb f (after r ta.length a).adv hs.right.tail (by omega) (by show _≤f+(r.i+ta.length+1);omega) hend;rw [hc,Z6,Z9d,Z9d]
  have hL:l.length<M+(r.i+ta.length+1+tb.length):=by omega
  have he:RS.put (after (after r ta.length a).adv tb.length b) ⟨(op:Int),0,[],(r.nodes.length:Int)+a.size-1,((after r ta.length a).adv.nodes.length:Int)+b.size-1,-1⟩=after r (ta++sgT op::tb).length (.bin op a b):=by
   have hl:(after r ta.length a).adv.nodes=r.nodes++a.row r.nodes.length:=rfl
   show RS.mk _ _ _=RS.mk _ _ _
   congr 1
   ·show r.i+ta.length+1+tb.length=r.i+(ta++sgT op::tb).length
    simp only [List.length_append,List.length_cons];omega
   ·show (after r ta.length a).adv.nodes++b.row ((after r ta.length a).adv.nodes.length:Nat)++[_]=_
    rw [hl,List.length_append,X.row_len];simp only [X.row,List.append_assoc,Int.natCast_add]
  rw [he];exact Zlq (Z7d l f) n M (M+1) _ (by show _<M+(r.i+_);simp only [List.length_append,List.length_cons];omega) (by show _<M+1+(r.i+_);simp only [List.length_append,List.length_cons];omega)
 | @ite k ta tb tc a b c h1 h2 h3 iha ihb ihc =>
  intro n f M r hs _ _ hf _ _;obtain ⟨e1,e2⟩:=hs.head;have s1:=hs.tail;have s2:=s1.right;have s3:=s2.tail.right;have s4:=s3.tail.right;have c1:=inner iha f r.adv s1.left (by decide) (by show _≤f+(r.i+1);omega) (Zsh 1 s2.head.1 (by decide +kernel));have c2:=inner ihb f (after r.adv ta.length a).adv s2.tail.left (by decide) (by show _≤f+(r.i+1+ta.length+1);omega) (Zsh 1 s3.head.1 (by decide +kernel));have c3:=inner ihc f (after (after r.adv ta.length a).adv tb.length b).adv s3.tail.left (by decide) (by show _≤f+(r.i+1+ta.length+1+tb.length+1);omega) (Zsh 1 s4.head.1 (by decide +kernel))
  have:Z8a l (Z8 l f) r=(true,after r (wIf::(ta++Ztj::(tb++Zuj::(tc++[Z1e])))).length (.ite a b c)):=by
   have:Z8a l (Z8 l f) r=Zib l (Z8 l f) r:=by
    unfold Z8a;rw [e2,e1];rfl
   rw [this];unfold Zib
   rw [Zlu ⟨e1,e2⟩ (by decide +kernel),Z6,c1,Z6,Zlu s2.head (by decide +kernel),Z6,c2,Z6,Zlu s3.head (by decide +kernel),Z6,c3,Z6,
    Zlu s4.head (by decide +kernel),Z6,Z9d,Z9d,Z9d]
   show (true,RS.mk _ _ _)=(true,RS.mk _ _ _)
   congr 2
   ·show r.i+1+ta.length+1+tb.length+1+tc.length+1=_
    simp only [List.length_append,List.length_cons,List.length_nil];omega
   ·have q1:(after r.adv ta.length a).adv.nodes=r.nodes++a.row r.nodes.length:=rfl
    have q2:(after (after r.adv ta.length a).adv tb.length b).adv.nodes=(after r.adv ta.length a).adv.nodes++b.row ((after r.adv ta.length a).adv.nodes.length:Nat):=rfl
    show (after (after r.adv ta.length a).adv tb.length b).adv.nodes++c.row ((after (after r.adv ta.length a).adv tb.length b).adv.nodes.length:Nat)++[_]=_
    have q3:r.adv.nodes=r.nodes:=rfl;simp only [q2,q1,q3,List.length_append,X.row_len,X.row,List.append_assoc,Int.natCast_add,Int.add_assoc]
  rw [this];rfl
theorem Z02 {t:List UInt8} (h:isP t=1):0≤(Zbc (Zld t)).1:=by
 have hd:=(Zu3 h).2
 have h1:(Zld t).all Zna=true∧Zld t≠[]:=by
  unfold Zld
  split
  ·exact ⟨by decide,by simp⟩
  ·rename_i hn
   refine ⟨?_,hn⟩;rw [List.all_eq_true] at hd ⊢;exact fun x hx=>hd x ((List.dropWhile_sublist _).mem hx)
 obtain ⟨h1,h2⟩:=h1;generalize Zld t=s at h1 h2
 have hh':(s.head? == some 45)=false:=by
  cases s with
  | nil=>exact absurd rfl h2
  | cons c r =>
   rw [beq_eq_false_iff_ne];intro hc
   have hc:c=45:=by simpa using hc
   subst hc;rw [List.all_cons] at h1
   revert h1
   simp [Zna]
 unfold Zbc;rw [hh'];simp only [Bool.false_eq_true,if_false,or_false]
 split
 ·exact Int.le_refl _
 ·unfold Zfv
  split
  ·exact Int.natCast_nonneg _
  ·exact Int.le_refl _
theorem Gr.ok {n:Int} {ts:List (List UInt8)} {x:X} (h:Gr n ts x):x.ok=true:=by
 induction h with
 | @num n t v h1 h2 =>
  have hp:=Z02 h1;rw [h2] at hp;have hp:0≤v:=hp
  have:Zkd ⟨1,v,[],-1,-1,-1⟩=true:=by
   unfold Zkd;rw [if_neg (by simp;omega),if_neg (by simp)];rfl
  simp only [X.ok,this,Bool.true_and];rfl
 | @name n t h1 =>
  have:Zkd ⟨2,0,t,-1,-1,-1⟩=true:=by
   unfold Zkd;rw [if_neg (by simp),if_pos rfl,h1];rfl
  simp only [X.ok,this,Bool.true_and];rfl
 | tr=>rfl
 | fa=>rfl
 | neg _ _ ih=>simp only [X.ok,ih,Bool.and_true];rfl
 | not _ _ ih=>simp only [X.ok,ih,Bool.and_true];rfl
 | par _ ih=>exact ih
 | bin h1 h2 _ _ _ ih1 ih2 =>
  simp only [X.ok,ih1,ih2,Bool.and_true,Bool.and_eq_true,decide_eq_true_eq];omega
 | ite _ _ _ i1 i2 i3=>simp only [X.ok,i1,i2,i3];rfl
theorem sgT_of {t:List UInt8} {op:Nat} (h:ofI t 2=some op):sgT op=t:=by
 obtain ⟨s,h1,h2,_⟩:=Zck h;unfold sgT;rw [List.getD_eq_getElem?_getD,h1];exact h2
end Go.Hs
end

section
namespace Go.Hs
open Go.Proofs
set_option maxRecDepth 10000
def sgnR:List (List UInt8):=[[],[],[],[],[],[45],[110,111,116],[42],[100,105,118],[109,111,100],[43],[45],[60],[60,61],[62],[62,61],[61],[60,62],[97,110,100],[111,114],[120,111,114],[105,109,112,108,105,101,115]]
theorem Zd6 (op:Nat) (h:5≤op) (h2:op≤21):sgnR[op]? = some (sgT op):=by
 have:((List.range 22).all fun op=>decide (op<5) || sgnR[op]? == some (sgT op))=true:=by decide +kernel
 have:=List.all_eq_true.1 this op (List.mem_range.2 (by omega));simp only [Bool.or_eq_true,decide_eq_true_eq,beq_iff_eq] at this
 rcases this with h | h
 ·omega
 ·exact h
theorem Z7v (G:Nat→V) (hG:GOk G):Spec Tryz.prog G 333 [] Zl (fun v _=>v=Zb .new 1 V.str (.mk false sgnR)):=by
 refine Zo 0 2 [.tmp 0] Tryz.func333 fun X=>?_;refine Z1 ?_;refine Z1 ?_;intro g1;refine AW.weak (Zv (fun o=>o==1) (l:=[(0,Zb .new 1 V.str (.mk false sgnR))]) (m:=[]) ?_ trivial) ?_
 ·refine Zs ?_
  exact Zxd (f:=V.str) (l:=sgnR) (m:=1) (g:=g1) (fz:=0) (c := .new) rfl zp (fun _=>rfl)
 exact Zr
def levL:List V:=[.int .i64 0,.int .i64 10,.int .i64 10,.int .i64 10,.int .i64 10,.int .i64 9,.int .i64 9,.int .i64 8,.int .i64 8,.int .i64 8,.int .i64 7,.int .i64 7,.int .i64 6,.int .i64 6,.int .i64 6,.int .i64 6,.int .i64 5,.int .i64 5,.int .i64 4,.int .i64 3,.int .i64 2,.int .i64 1,.int .i64 10]
theorem Z26 (op:Nat) (h:op<23):levL[op]? = some (.int .i64 (lvl op)):=by
 match op,h with
 | 0,_=>rfl
 | 1,_=>rfl
 | 2,_=>rfl
 | 3,_=>rfl
 | 4,_=>rfl
 | 5,_=>rfl
 | 6,_=>rfl
 | 7,_=>rfl
 | 8,_=>rfl
 | 9,_=>rfl
 | 10,_=>rfl
 | 11,_=>rfl
 | 12,_=>rfl
 | 13,_=>rfl
 | 14,_=>rfl
 | 15,_=>rfl
 | 16,_=>rfl
 | 17,_=>rfl
 | 18,_=>rfl
 | 19,_=>rfl
 | 20,_=>rfl
 | 21,_=>rfl
 | 22,_=>rfl
 | n+23,h=>exact absurd h (by omega)
theorem Zs2 (G:Nat→V) (hG:GOk G) (op:Nat) (hop:op<23):Spec Tryz.prog G 334 [.int .u8 op] Zl (fun v _=>v = .int .i64 (lvl op)):=by
 refine Zo 0 7 [.tmp 2] Tryz.func334 fun X=>?_;have hg:=Z26 op hop;unfold levL at hg
 have h23:(op:Int)<23:=by omega
 refine Z1 ?_;refine Z1f (zi hg (zi h23 (zi @Int.natCast_nonneg (zi @Nat.mul_one @Nat.zero_add)))) ?_;intro g3;exact Zr
theorem Zy1 {t:List UInt8} {op:Nat} (h1:7≤op) (h2:op≤21):(t≠[]∧sgT op=t) ↔ ofI t 2=some op:=by
 constructor
 ·rintro ⟨_,rfl⟩
  exact (Zj3 op h1 h2).2.2.1
 ·intro h
  exact ⟨(Zck h).choose_spec.2.2.2,sgT_of h⟩
theorem wu8R {z:Int} (h:0≤z) (h2:z<256):IntKind.u8.wrap z=z:=by
 unfold IntKind.wrap;simp [IntKind.signed,IntKind.bits];omega
theorem Z9v (G:Nat→V) (hG:GOk G) (sl:Sl Tk) (hT:TkOk sl.l) (g:Nat) (r:RS) (hr:r.i<1000000) (n:Int) :
  RdS 1012 [] G 311 [.int .i64 n] sl g r (.int .u8 (Zev sl.l n r.i)) r:=by
 intro gx;refine Zo 1000 32 [.tmp 4] Tryz.func311 fun X=>?_
 have hP:Zev sl.l n r.i=match ofI (Zba sl.l r.i).text 2 with | some op=>if lvl op=n then op else 0 | none=>0:=rfl
 generalize Zev sl.l n r.i=res at hP ⊢;refine Z1 ?_;refine Z1 ?_;refine Zca hG (Z6h G hG sl hT g r hr) (gx:=gx) fun gx1=>?_;refine Zu ?_;generalize (Zba sl.l r.i).text=t at hP ⊢;refine Z1 ?_;refine Zc hG ?_ (s:=(Z7v G hG));refine Z1 ?_;refine AW.block ?_
 refine Zda 22 (fun k (_:Unit)=>st [(0,.ptr 8 g 0),(1,.int .i64 n),(5,.str t),(6,Zb .new 1 V.str (.mk false sgnR)),(7,.int .u8 k)] [(8,rdO 1012 [] sl g gx1 r),(1012,ndO gx1 r.nodes)])
  (fun k _=>7≤k∧∀ j,7≤j→j<k→¬ (ofI t 2=some j∧lvl j=n)) 7 () (by decide) ⟨Nat.le_refl _,fun j h1 h2=>by omega⟩
  (Za zp zp) ?_
 rintro k _ hk ⟨hk7,hR⟩ L3 hL3;refine Z1 ?_;refine Zi rfl (fun h12=>?_) (fun h12=>?_)
 ·have hk1:k≤21:=by have h12:decide ((k:Int)≤21)=true:=h12;simp at h12;omega
  have hg:=Zd6 k (by omega) hk1
  have hnext:¬ (ofI t 2=some k∧lvl k=n)→∀ j,7≤j→j<k+1→¬ (ofI t 2=some j∧lvl j=n):=by
   intro h j h1 h2
   by_cases q:j=k
   ·subst q;exact h
   ·exact hR j h1 (by omega)
  have hwr:IntKind.u8.wrap ((k:Int)+1)=((k+1:Nat):Int):=by rw [wu8R (by omega) (by omega)];omega
  refine Z0 ?_;refine Z5 ?_;refine AW.block ?_
  by_cases ht:t=[]
  ·have e1:(t==[])=true:=by rw [ht]<;>rfl
   refine Z1f e1 ?_;refine Z1f hwr ?_;exact hL3 _ ⟨by omega,(),⟨by omega,hnext (fun h=>(Zy1 hk7 hk1).2 h.1 |>.1 ht)⟩,Za zp zp⟩
  have e1:(t==[])=false:=by simpa using ht
  by_cases hs:sgT k=t
  rotate_left
  ·have e2:(sgT k==t)=false:=by simpa using hs
   refine Z1f (zi e1 (zi hg e2)) ?_;refine Z1f hwr ?_;exact hL3 _ ⟨by omega,(),⟨by omega,hnext (fun h=>hs ((Zy1 hk7 hk1).2 h.1).2)⟩,Za zp zp⟩
  have e2:(sgT k==t)=true:=by simpa using hs
  have ho:=(Zy1 hk7 hk1).1 ⟨ht,hs⟩;refine Z1f (zi e1 (zi hg e2)) ?_;refine Zc hG ?_ (s:=(Zs2 G hG k (by omega)));rw [ho] at hP;simp only at hP
  by_cases hl:lvl k=n
  ·rw [if_pos hl] at hP
   have e3:(lvl k==n)=true:=by simpa using hl
   rw [e3];refine Z ?_;rw [hP];exact ⟨rfl,gx1,zr,zr⟩
  ·have e3:(lvl k==n)=false:=by simpa using hl
   rw [e3];refine Z1f hwr ?_;exact hL3 _ ⟨by omega,(),⟨by omega,hnext (fun h=>hl h.2)⟩,Za zp zp⟩
 ·have hk1:k=22:=by have h12:decide ((k:Int)≤21)=false:=h12;simp at h12;omega
  refine Z0 ?_
  have hP:res=0:=by
   rw [hP]
   cases ho:ofI t 2 with
   | none=>rfl
   | some op =>
    simp only;rw [if_neg];intro hl;have:=Zur ho;exact hR op this.1 (by omega) ⟨ho,hl⟩
  refine Z ?_;rw [hP];exact ⟨rfl,gx1,zr,zr⟩
theorem Z6v (G:Nat→V) (hG:GOk G) (sl:Sl Tk) (hT:TkOk sl.l) (g:Nat) (r:RS) (hr:Z0k sl.l r) (inner:Inner) (hin:InnR G sl g inner r.i) (hb:Z27 sl.l inner) :
  RdS 1012 [] G 310 [] sl g r (.bool (unR sl.l inner r).1) (unR sl.l inner r).2:=by
 have hTl:=hT.len
 have hri:r.i<1000000:=by have:=hr.1;omega
 have hw:IntKind.i64.wrap ((r.i:Int)+1)=((r.i+1:Nat):Int):=by rw [w64 (by omega) (by omega)];omega
 intro gx;refine Zo 1000 29 [.tmp 2] Tryz.func310 fun X=>?_
 have hP:unR sl.l inner r=if (Zba sl.l r.i).text=[45] then andThen (inner 9 r.adv) fun a=>(true,a.put ⟨5,0,[],a.last,-1,-1⟩)
  else if (Zba sl.l r.i).text=[110,111,116] then andThen (inner 9 r.adv) fun a=>(true,a.put ⟨6,0,[],a.last,-1,-1⟩)
  else Zut sl.l inner r:=rfl
 have hpr:=Znr G hG sl hT g r hr inner hin hb
 have hlt:(Zba sl.l r.i).text≠[]→r.i<sl.l.length:=by
  intro h;rw [← Nat.not_le];intro h2;apply h;rw [Zjl h2]
 generalize unR sl.l inner r=res at hP ⊢;generalize Zut sl.l inner r=pr at hP hpr;refine Z1 ?_;refine Z1 ?_;refine Zia (fun (x:Nat × Int)=>st [(0,.ptr 8 g 0),(3,.int .u8 x.2)] [(8,rdO 1012 [] sl g x.1 r),(1012,ndO x.1 r.nodes)]) (fun x=>r.i<sl.l.length∧res=andThen (inner 9 r.adv) fun a=>(true,a.put ⟨x.2,0,[],a.last,-1,-1⟩)) (fun K1 hK1=>?_) ?_
 ·refine Z1 ?_
  refine Zca hG (Z6h G hG sl hT g r hri) (gx:=gx) fun gx1=>?_;refine Zu ?_;generalize (Zba sl.l r.i).text=t at hP hlt ⊢;refine AW.block ?_
  by_cases c1:t=[45]
  ·have e1:(t==[45])=true:=by simpa using c1
   rw [if_pos c1] at hP;refine Z1f e1 ?_;refine Z1 ?_;exact hK1 _ (gx1,5) ⟨hlt (by rw [c1];simp),hP⟩ (Za zp zp)
  have e1:(t==[45])=false:=by simpa using c1
  rw [if_neg c1] at hP;refine Z1f e1 ?_;refine Z9a rfl ?_
  try clear h2
  by_cases c2:t=[110,111,116]
  ·have e2:(t==[110,111,116])=true:=by simpa using c2
   rw [if_pos c2] at hP;refine Z1f e2 ?_;refine Z1 ?_;exact hK1 _ (gx1,6) ⟨hlt (by rw [c2];simp),hP⟩ (Za zp zp)
  have e2:(t==[110,111,116])=false:=by simpa using c2
  rw [if_neg c2] at hP;refine Z1f e2 ?_;refine Z1 ?_;refine Zca hG (hpr) (gx:=gx1) fun gx2=>?_;refine Zu ?_;refine Z ?_;rw [hP];exact ⟨rfl,gx2,zr,zr⟩
 rintro ⟨gx,op⟩ ⟨hl,hP⟩
 replace hP:res=andThen (inner 9 r.adv) fun a=>(true,a.put ⟨op,0,[],a.last,-1,-1⟩):=hP
 have had:Z0k sl.l r.adv:=(Bal.adv hl).ok hr;have hc:=hin.un r.adv (Nat.lt_succ_self _) had;have hbl:=(hb 9 r.adv).ok had;generalize inner 9 r.adv=x at hc hP hbl;obtain ⟨b,a⟩:=x;simp only at hc hbl
 have han:a.nodes.length<1000000:=by have:=hbl.1;have:=hbl.2;omega
 refine Z1f (zi @Zua hw) ?_
 cases b with
 | false =>
  rw [Zra] at hP;refine Z1f @Zua ?_;refine Zca hG (hc) (gx:=gx) fun gx2=>?_;refine Zu ?_;refine Z ?_;rw [hP];exact ⟨rfl,gx2,zr,zr⟩
 | true =>
  rw [Z6] at hP;refine Z1f @Zua ?_;refine Zca hG (hc) (gx:=gx) fun gx2=>?_;refine Zu ?_;refine Zsf @Zua ?_;refine Zca hG (Zse G hG sl g a han) (gx:=gx2) fun gx3=>?_;refine Zu ?_;refine Zsf @Zua ?_;rw [← Z4a ⟨op,0,[],a.last,-1,-1⟩];refine Zca hG (Z5h G hG sl g a han ⟨op,0,[],a.last,-1,-1⟩) (gx:=gx3) fun gx4=>?_;refine Zu ?_;refine Z ?_;rw [hP];exact ⟨rfl,gx4,zr,zr⟩
theorem Z36 {l:List Tk} {f:Nat} (k:Nat) (r:RS):Bal l 0 r (Zqw l (Z8 l f) k r).2:=by
 rw [Zml (Z7d l f) (fun _ _=>Zxo)];exact Zbd (Zii (Z3b l f) r) fun _=>(Zii (Z3b l f) r).trans (Zdo (Z3b l f) _ _ _)
theorem Zmz (l:List Tk) (inner:Inner) (n:Int) (m:Nat) (r:RS):Zbg l inner n (m+1) r=if Zev l n r.i=0 then (true,r) else andThen (inner (n+1) r.adv) fun a=>Zbg l inner n m (a.put ⟨Zev l n r.i,0,[],r.last,a.last,-1⟩):=rfl
theorem twoR_op {l:List Tk} {n:Int} {i:Nat} (h:Zev l n i≠0):i<l.length∧Zev l n i≤21:=by
 unfold Zev at h ⊢
 cases ho:ofI (Zba l i).text 2 with
 | none=>rw [ho] at h;exact absurd rfl h
 | some op =>
  have h2:=Zur ho
  have:Znh l i=some op:=by rw [Zak,ho]
  refine ⟨Zmh this,?_⟩;simp only
  split<;>omega
theorem Zaw (G:Nat→V) (hG:GOk G) (sl:Sl Tk) (hT:TkOk sl.l) (g:Nat):∀ (f:Nat) (r:RS),sl.l.length<f+r.i→Z0k sl.l r →
  (∀ n,1≤n→n≤9→RdS 1012 [] G 291 [.int .i64 n] sl g r (.bool (Z8 sl.l f n r).1) (Z8 sl.l f n r).2) ∧
  RdS 1012 [] G 310 [] sl g r (.bool (Z8 sl.l f 9 r).1) (Z8 sl.l f 9 r).2:=by
 have hTl:=hT.len;intro f
 induction f with
 | zero=>intro r hf hr;have:=hr.1;omega
 | succ f ih =>
 intro r hf hr;have hin:InnR G sl g (Z8 sl.l f) r.i:=⟨fun n r' h1 h9 hi hr'=>(ih r' (by omega) hr').1 n h1 h9,fun r' hi hr'=>(ih r' (by omega) hr').2⟩;have hbs:=Z3b sl.l f;have hun:=Z6v G hG sl hT g r hr _ hin hbs
 have hcl:∀ k:Nat,Z8 sl.l (f+1) (9-k) r=Zqw sl.l (Z8 sl.l f) k r:=by
  intro k
  rw [Zml (Z7d sl.l f) (fun _ _=>Zxo)]<;>rfl
 have h9:Z8 sl.l (f+1) 9 r=unR sl.l (Z8 sl.l f) r:=hcl 0;rw [h9];refine ⟨?_,hun⟩
 suffices h:∀ k:Nat,k≤8→RdS 1012 [] G 291 [.int .i64 (9-k)] sl g r (.bool (Zqw sl.l (Z8 sl.l f) k r).1) (Zqw sl.l (Z8 sl.l f) k r).2 by
  intro n h1 hn9;have:=h (9-n).toNat (by omega);rw [← hcl,show (9:Int)-((9-n).toNat:Nat)=n by omega] at this;exact this
 intro k
 induction k with
 | zero =>
  intro _ gx;refine Zo 1000 46 [.tmp 4] Tryz.func291 fun X=>?_;have hP:Zqw sl.l (Z8 sl.l f) 0 r=unR sl.l (Z8 sl.l f) r:=rfl;generalize Zqw sl.l (Z8 sl.l f) 0 r=res at hP ⊢;generalize unR sl.l (Z8 sl.l f) r=y at hP hun;refine Z1 ?_;refine Z1 ?_;refine Z1 ?_;refine Z1 ?_;refine Zca hG (hun) (gx:=gx) fun gx1=>?_;refine Zu ?_;refine Z ?_;rw [hP];exact ⟨rfl,gx1,zr,zr⟩
 | succ k ihk =>
  intro hk gx;have ihk:=ihk (by omega);obtain ⟨n,hn⟩:∃ n:Int,n=8-k:=⟨_,rfl⟩
  have e9:(9:Int)-((k+1:Nat):Int)=n:=by omega
  have e9k:(9:Int)-(k:Int)=n+1:=by omega
  have hn1:1≤n∧n≤8:=by omega
  rw [e9];rw [e9k] at ihk;refine Zo 1000 46 [.tmp 4] Tryz.func291 fun X=>?_
  have hP:Zqw sl.l (Z8 sl.l f) (k+1) r=andThen (Zqw sl.l (Z8 sl.l f) k r) (Zbg sl.l (Z8 sl.l f) n (sl.l.length+1)):=by rw [Zqw,hn]
  have hlb:=Z36 (l:=sl.l) (f:=f) k r;generalize Zqw sl.l (Z8 sl.l f) (k+1) r=res at hP ⊢;generalize Zqw sl.l (Z8 sl.l f) k r=y at hP ihk hlb;obtain ⟨b,q0⟩:=y;simp only at ihk hlb
  have q10:(n==10)=false:=by rw [beq_eq_false_iff_ne];omega
  have q9:(n==9)=false:=by rw [beq_eq_false_iff_ne];omega
  have hw1:IntKind.i64.wrap (n+1)=n+1:=w64 (by omega) (by omega);refine Z1 ?_;refine Z1f q10 ?_;refine Z1f q9 ?_;refine Z0 ?_;refine Z5 ?_
  cases b with
  | false =>
   rw [Zra] at hP;refine Z1f hw1 ?_;refine Zca hG (ihk) (gx:=gx) fun gx1=>?_;refine Zu ?_;refine Z ?_;rw [hP];exact ⟨rfl,gx1,zr,zr⟩
  | true =>
  rw [Z6] at hP;have hq0:=hlb.ok hr;refine Z1f hw1 ?_;refine Zca hG (ihk) (gx:=gx) fun gx1=>?_;refine Zu ?_;refine Z0 ?_;refine AW.block ?_
  refine Zlb (fun (x:Nat × Nat × RS)=>st [(0,.ptr 8 g 0),(1,.int .i64 n)] [(8,rdO 1012 [] sl g x.1 x.2.2),(1012,ndO x.1 x.2.2.nodes)])
   (fun x=>res=Zbg sl.l (Z8 sl.l f) n x.2.1 x.2.2∧Z0k sl.l x.2.2∧r.i≤x.2.2.i∧sl.l.length<x.2.1+x.2.2.i) (fun x=>x.2.1) (gx1,sl.l.length+1,q0) ⟨hP,hq0,hlb.up,Nat.lt_add_right _ (Nat.lt_succ_self _)⟩
   (Za zp zp) ?_
  try clear hP
  rintro ⟨gy,m,q⟩ ⟨hP,hq,hqi,hm⟩ L3 hL3
  replace hP:res=Zbg sl.l (Z8 sl.l f) n m q:=hP
  replace hq:Z0k sl.l q:=hq
  replace hqi:r.i≤q.i:=hqi
  replace hm:sl.l.length<m+q.i:=hm
  obtain ⟨m,rfl⟩:∃ m',m=m'+1:=⟨m-1,by have:=hq.1;omega⟩
  have hqI:q.i<1000000:=by have:=hq.1;omega
  have hqn:q.nodes.length<1000000:=by have:=hq.1;have:=hq.2;omega
  rw [Zmz] at hP;have htw:=twoR_op (l:=sl.l) (n:=n) (i:=q.i);refine Z1 ?_;refine Zca hG (Z9v G hG sl hT g q hqI n) (gx:=gy) fun gz=>?_;refine Zu ?_;generalize Zev sl.l n q.i=op at hP htw ⊢;refine Z1 ?_
  by_cases ho:op=0
  ·have e1:(((op:Nat):Int)==0)=true:=by rw [ho]<;>rfl
   rw [if_pos ho] at hP;rw [e1];refine Z ?_;rw [hP];exact ⟨rfl,gz,zr,zr⟩
  have e1:(((op:Nat):Int)==0)=false:=by rw [beq_eq_false_iff_ne];omega
  rw [if_neg ho] at hP;rw [e1];refine Z0 ?_;obtain ⟨hil,hop21⟩:=htw ho
  have hw:IntKind.i64.wrap ((q.i:Int)+1)=((q.i+1:Nat):Int):=by rw [w64 (by omega) (by omega)];omega
  have hadv:Z0k sl.l q.adv:=(Bal.adv hil).ok hq;have hc:=hin.lev (n+1) q.adv (by omega) (by omega) (by show r.i<q.i+1;omega) hadv;have hcb:=hbs (n+1) q.adv;generalize Z8 sl.l f (n+1) q.adv=z at hP hc hcb;obtain ⟨b,a⟩:=z;simp only at hc hcb;have ha:=hcb.ok hadv;have haup:q.i+1≤a.i:=hcb.up
  have han:a.nodes.length<1000000:=by have:=ha.1;have:=ha.2;omega
  refine Z1 ?_;refine Zca hG (Zse G hG sl g q hqn) (gx:=gz) fun gz1=>?_;refine Zu ?_;refine Z1f (zi @Zua hw) ?_;refine Z5 ?_
  cases b with
  | false =>
   rw [Zra] at hP;refine Z1f (zi @Zua hw1) ?_;refine Zca hG (hc) (gx:=gz1) fun gz2=>?_;refine Zu ?_;refine Zi rfl (fun h11=>?_) (fun h11=>?_)
   ·refine Z ?_
    rw [hP];exact ⟨rfl,gz2,zr,zr⟩
   ·cases h11
  | true =>
   rw [Z6] at hP;refine Z1f (zi @Zua hw1) ?_;refine Zca hG (hc) (gx:=gz1) fun gz2=>?_;refine Zu ?_;refine Z1 ?_;refine Zca hG (Zse G hG sl g a han) (gx:=gz2) fun gz3=>?_;refine Zu ?_;refine Zsf @Zua ?_;rw [← Z4a ⟨op,0,[],q.last,a.last,-1⟩];refine Zca hG (Z5h G hG sl g a han ⟨op,0,[],q.last,a.last,-1⟩) (gx:=gz3) fun gz4=>?_;refine Zu ?_
   have hres:Z0k sl.l (a.put ⟨op,0,[],q.last,a.last,-1⟩):=⟨ha.1,by
    have h1:=hcb.cnt;have h2:=hq.2
    show (a.nodes++[_]).length≤a.i
    rw [List.length_append,List.length_singleton];have h3:a.nodes.length+(q.i+1)+0≤q.nodes.length+a.i:=h1
    omega⟩
   refine hL3 _ ⟨(gz4,m,a.put ⟨op,0,[],q.last,a.last,-1⟩),Nat.lt_succ_self _,⟨hP,hres,?_,?_⟩,Za zp (by simp -implicitDefEqProofs only[go_sem,seval];try exact ⟨rfl,rfl⟩)⟩
   ·show r.i≤a.i
    omega
   ·show sl.l.length<m+a.i
    omega
def encRr (c:Col) (p:List XN × Int × Int):V := .tuple [encXs c p.1,.int .i64 p.2.1,.int .i64 p.2.2]
theorem Zcq (G:Nat→V) (hG:GOk G) (c:Col) (sl:Sl Tk) (hT:TkOk sl.l):Spec Tryz.prog G 273 [Zb c 3 Zcb sl] Zl (fun v _=>v=encRr .new (Z5a sl.l)):=by
 have hTl:=hT.len;refine Zo 0 34 [.tmp 2,.tmp 3,.tmp 4] Tryz.func273 fun X=>?_
 have hP:Z5a sl.l=if (Z8 sl.l (sl.l.length+1) 1 ⟨0,[],0⟩).1=false then (([]:List XN),((Z8 sl.l (sl.l.length+1) 1 ⟨0,[],0⟩).2.i:Int),(Z8 sl.l (sl.l.length+1) 1 ⟨0,[],0⟩).2.e)
  else if Zgb (Z8 sl.l (sl.l.length+1) 1 ⟨0,[],0⟩).2.nodes > 64 then ([],0,3) else ((Z8 sl.l (sl.l.length+1) 1 ⟨0,[],0⟩).2.nodes,((Z8 sl.l (sl.l.length+1) 1 ⟨0,[],0⟩).2.i:Int),(0:Int)):=rfl
 have hr0:Z0k sl.l ⟨0,[],0⟩:=⟨Nat.zero_le _,Nat.le_refl _⟩;have hcl:=fun g=>(Zaw G hG sl hT g (sl.l.length+1) ⟨0,[],0⟩ (Nat.lt_succ_self _) hr0).1 1 (by decide) (by decide);have hnm2:=Z3g hT;have hok:=(Z3b sl.l (sl.l.length+1) 1 ⟨0,[],0⟩);generalize Z5a sl.l=res at hP ⊢;generalize Z8 sl.l (sl.l.length+1) 1 ⟨0,[],0⟩=y at hP hcl hok hnm2;obtain ⟨b,r⟩:=y;simp only at hP hcl hok hnm2
 have hrl:r.nodes.length<1000000:=by have:=(hok.ok hr0);have h1:=this.1;have h2:=this.2;omega
 refine Z1 ?_;refine Z1 ?_;intro g8;refine AW.weak (Zv (fun _=>false) (l:=[(5,.ptr 8 g8 0)]) (m:=[(8,.cells .new g8 0 [Zb .any 3 Zcb sl,.int .i64 0,.nils,.int .i64 0])]) ?_ ?_) ?_
 ·refine Zs ?_
  exact Zd _
 ·simp only [Zx,Zz,and_true]
  exact FzO.of (c := .new) (fz:=0) (cs:=[Zb c 3 Zcb sl,.int .i64 0,.nils,.int .i64 0]) rfl zp ⟨Fz.any (Zsa _ _ _),Zd _,Zd _,Zd _,trivial⟩
 refine Z1 ?_;refine Z9u hG (hcl g8) zk (fun F=>rfl) rfl rfl rfl _ zp (by simp only [Z3,List.map_cons,List.map_nil,Zsa];rfl) zp fun gx=>?_;refine Zu ?_
 cases b with
 | false =>
  refine Zpc rfl ?_;refine AW.weak (Zv (fun o=>o==8) (l:=[(5,.view .new (.agg [Zb .any 3 Zcb sl,.int .i64 r.i,grown 1012 gx 6 r.nodes,.int .i64 r.e]))]) (m:=[]) ?_ trivial) ?_
  ·refine Zs ?_
   exact Fz.ptr (v := .agg [Zb .any 3 Zcb sl,.int .i64 r.i,grown 1012 gx 6 r.nodes,.int .i64 r.e]) (c := .new) (fz:=0) rfl zp
  refine ZT hG ?_;refine Z ?_
  rw [hP]<;>rfl
 | true =>
 refine Z0 ?_;refine AW.weak (Zv (fun o=>o==1012) (l:=[(5,.ptr 8 g8 0)]) (m:=[(8,.cells .new g8 0 [Zb .any 3 Zcb sl,.int .i64 r.i,encXs .new r.nodes,.int .i64 r.e])]) ?_ ?_) ?_
 ·refine Zs ?_
  exact Zd _
 ·simp only [Zx,Zz,and_true]
  exact FzO.of (c := .new) (fz:=0) (cs:=[Zb .any 3 Zcb sl,.int .i64 r.i,grown 1012 gx 6 r.nodes,.int .i64 r.e]) rfl zp ⟨Zd _,Zd _,Z0a rfl zp Z6d,Zd _,trivial⟩
 rw [if_neg (by simp)] at hP;refine Z1f @encXs.eq_1 ?_;refine Znf @Zfa hG ?_ (s:=(Z8l G hG _ (Zm r.nodes) (by rw [Zp];exact hrl) (by rw [Zp];exact hnm2)));rw [Zp];refine Zs ?_;refine Zi rfl (fun h26=>?_) (fun h26=>?_)
 ·have h26:Zgb r.nodes > 64:=by simpa using h26
  rw [if_pos h26] at hP;refine Z ?_
  rw [hP]<;>rfl
 have h26:¬ Zgb r.nodes > 64:=by simpa using h26
 rw [if_neg h26] at hP;refine Z0 ?_;refine AW.weak (Zv (fun o=>o==8) (l:=[(5,.view .new (.agg [Zb .any 3 Zcb sl,.int .i64 r.i,encXs .new r.nodes,.int .i64 r.e]))]) (m:=[]) ?_ trivial) ?_
 ·refine Zs ?_
  exact Fz.ptr (v := .agg [Zb .any 3 Zcb sl,.int .i64 r.i,encXs .new r.nodes,.int .i64 r.e]) (c := .new) (fz:=0) rfl zp
 refine ZTf @encXs.eq_1 hG ?_;refine Z ?_
 rw [hP]<;>rfl
theorem Zot (G:Nat→V) (hG:GOk G) (s:List UInt8) (hs:s.length<100000):Spec Tryz.prog G 246 [.str s] Zl (fun v _=>v=encRr .new (Zed s)):=by
 refine Zo 0 50 [.tmp 2,.tmp 3,.tmp 4] Tryz.func246 fun X=>?_
 have hP:Zed s=if (Zka s).2.2≠0 then (([]:List XN),(Zka s).2.1,(Zka s).2.2)
  else if (Z5a (Zka s).1).2.2=3 then ([],0,3)
  else if (Z5a (Zka s).1).2.2=0∧(Z5a (Zka s).1).2.1=((Zka s).1.length:Nat) then ((Z5a (Zka s).1).1,0,0)
  else ([],if (Z5a (Zka s).1).2.1=((Zka s).1.length:Nat) then (s.length:Int) else ((Zka s).1.getD (Z5a (Zka s).1).2.1.toNat ⟨0,[],0⟩).pos,if (Z5a (Zka s).1).2.2=0 then 80 else (Z5a (Zka s).1).2.2):=rfl
 generalize Zed s=res at hP ⊢;have hT:=Z7k hs;have hl:=Zee G hG s hs;have hfr:=fun c=>Zcq G hG c (Zm (Zka s).1) (by rw [Zp];exact hT);simp only [Zp] at hfr;have hb:=Zff (l:=(Zka s).1);generalize Zka s=t at hP hT hl hfr hb;generalize Z5a t.1=p at hP hfr hb;obtain ⟨l,at0,e0⟩:=t;obtain ⟨ns,i,e⟩:=p;simp only at hP hT hfr hb;refine Z1 ?_;refine Z1 ?_;refine Zn hG ?_ (s:=hl);refine Zsf (zi @encTok.eq_1 (zi @encTks.eq_1 @Zsa)) ?_;refine Z1 ?_
 by_cases he0:e0=0
 rotate_left
 ·have q1:(e0 != 0)=true:=by simpa using he0
  rw [if_pos he0] at hP;rw [q1];refine Zi rfl (fun h17=>?_) (fun h17=>?_)
  ·refine Z ?_
   rw [hP]<;>rfl
  ·cases h17
 have q1:(e0 != 0)=false:=by simpa using he0
 rw [if_neg (by simpa using he0)] at hP;rw [q1];refine Z1 ?_;refine Znf @Zsa hG ?_ (s:=(hfr _));refine Zsf (zi @encRr.eq_1 (zi @encXs.eq_1 @Zfa)) ?_;refine Z1 ?_
 by_cases he3:e=3
 ·have q3:(e==3)=true:=by simpa using he3
  rw [if_pos he3] at hP;rw [q3];refine Zi rfl (fun h27=>?_) (fun h27=>?_)
  ·refine Z ?_
   rw [hP]<;>rfl
  ·cases h27
 have q3:(e==3)=false:=by simpa using he3
 rw [if_neg he3] at hP;rw [q3];refine Z1 ?_;obtain ⟨m,rfl⟩:∃ m:Nat,i=m:=⟨i.toNat,by omega⟩
 have hP2:res=if e≠0 then ([],(if (m:Int)=(l.length:Nat) then (s.length:Int) else (l.getD m ⟨0,[],0⟩).pos),e) else if m<l.length then ([],(if (m:Int)=(l.length:Nat) then (s.length:Int) else (l.getD m ⟨0,[],0⟩).pos),80) else (ns,0,0):=by
  rw [hP,Int.toNat_natCast]
  by_cases he:e=0
  ·rw [if_neg (show ¬ e≠0 by simpa using he)]
   by_cases hm:m<l.length
   ·rw [if_neg (by omega),if_pos hm,if_pos he]
   ·rw [if_pos ⟨he,by omega⟩,if_neg hm]
  ·rw [if_pos he,if_neg (fun h=>he h.1),if_neg he]
 try clear hP
 generalize hpl:(if (m:Int)=(l.length:Nat) then (s.length:Int) else (l.getD m ⟨0,[],0⟩).pos)=pl at hP2;refine Zia (fun (_:Unit)=>st [(0,.str s),(5,Zb .new 3 Zcb (Zm l)),(7,.int .i64 e),(8,Zb .new 6 Zva (Zm ns)),(9,.int .i64 m),(10,.int .i64 pl)] []) (fun _=>True) (fun K3 hK3=>?_) ?_
 ·refine Z1 ?_
  by_cases hm:m<l.length
  ·have q4:decide (((m:Nat):Int)<((l.length:Nat):Int))=true:=zT
   obtain ⟨tk,htk⟩:∃ tk,l[m]? = some tk:=⟨_,List.getElem?_eq_getElem hm⟩
   have hgd:l.getD m ⟨0,[],0⟩=tk:=by rw [List.getD_eq_getElem?_getD,htk]<;>rfl
   rw [if_neg (by omega),hgd] at hpl;rw [q4];refine Z1f (zi htk @Zbb) ?_;exact hK3 _ () trivial (Za (by rw [← hpl];simp -implicitDefEqProofs only[go_sem,seval];try rfl) zp)
  ·have q4:decide (((m:Nat):Int)<((l.length:Nat):Int))=false:=zF
   rw [if_pos (by omega)] at hpl;rw [q4];refine Z0 ?_;exact hK3 _ () trivial (Za (by rw [← hpl];simp -implicitDefEqProofs only[go_sem,seval];try rfl) zp)
 intro _ _;refine Z1 ?_
 by_cases he:e=0
 rotate_left
 ·have q5:(e != 0)=true:=by simpa using he
  rw [if_pos he] at hP2;rw [q5];refine Zi rfl (fun h41=>?_) (fun h41=>?_)
  ·refine Z ?_
   rw [hP2]<;>rfl
  ·cases h41
 have q5:(e != 0)=false:=by simpa using he
 rw [if_neg (by simpa using he)] at hP2;rw [q5];refine Z1 ?_
 by_cases hm:m<l.length
 ·have q4:decide (((m:Nat):Int)<((l.length:Nat):Int))=true:=zT
  rw [if_pos hm] at hP2;rw [q4];refine Zi rfl (fun h47=>?_) (fun h47=>?_)
  ·refine Z ?_
   rw [hP2]<;>rfl
  ·cases h47
 have q4:decide (((m:Nat):Int)<((l.length:Nat):Int))=false:=zF;rw [if_neg hm] at hP2;rw [q4];refine Z ?_
 rw [hP2]<;>rfl
theorem Zji (G:Nat→V) (hG:GOk G) (c:Col) (s:Sl Tk) (i:Nat) :
  Spec Tryz.prog G 271 [Zb c 3 Zcb s,.int .i64 i] Zl (fun v _=>v = .str (Z5b s.l i)):=by
 refine Zo 0 14 [.tmp 4] Tryz.func271 fun X=>?_;refine Z1 ?_;refine Z5 ?_
 by_cases hi:i<s.l.length
 ·have h1:decide ((i:Int)<s.l.length)=true:=zT
  have hg:=List.getElem?_eq_getElem hi;generalize s.l[i]=t at hg;rw [Z2e hg];refine Z1f h1 ?_;refine Zi rfl (fun h8=>?_) (fun h8=>?_)
  ·exact Zq (zi hg @Zbb)
  ·cases h8
 ·have h1:decide ((i:Int)<s.l.length)=false:=zF
  refine Zf h1 ?_;rw [Zgh (by omega)]
theorem Z2u (G:Nat→V) (hG:GOk G) (c:Col) (s:Sl Tk) (i:Nat) :
  Spec Tryz.prog G 272 [Zb c 3 Zcb s,.int .i64 i] Zl (fun v _=>v = .bool (Zni s.l i)):=by
 refine Zo 0 17 [.tmp 4] Tryz.func272 fun X=>?_;refine Z1 ?_
 by_cases hi:i<s.l.length
 ·have h1:decide ((i:Int)<s.l.length)=true:=zT
  have hg:=List.getElem?_eq_getElem hi;generalize s.l[i]=t at hg;rw [Zfg hg];exact Zq (zi h1 (zi hg @Zbb))
 ·have h1:decide ((i:Int)<s.l.length)=false:=zF
  rw [Zue (by omega)];exact Zq h1
def Z1g (c:Col) (s:ASt):V := .agg [.int .u8 s.kind,.str s.name,Zb c 6 Zva (Zm s.x)]
theorem Zij (c:Col) (s:ASt):Z1g c s = .agg [.int .u8 s.kind,.str s.name,Zb c 6 Zva (Zm s.x)]:=rfl
def encSR (r:ASt × Int × Int):V := .tuple [Z1g .new r.1,.int .i64 r.2.1,.int .i64 r.2.2]
theorem Zh1 (G:Nat→V) (hG:GOk G) (c:Col) (sl:Sl Tk) (hT:TkOk sl.l) (i:Nat) (hi:i≤sl.l.length) :
  Spec Tryz.prog G 242 [Zb c 3 Zcb sl,.int .i64 i] Zl (fun v _=>v=encSR (Z5c sl.l i)):=by
 have hP:Z5c sl.l i=if Z5b sl.l i=Z2g then Zzd sl.l 2 [40] [[41],[59]] (i+1) else Zzd sl.l 1 [58,61] [[59]] i:=rfl
 generalize Z5c sl.l i=res at hP ⊢;have hTl:=hT.len;refine Zo 0 98 [.cell 4 269,.tmp 5,.tmp 6] Tryz.func242 fun X=>?_;refine Z1 ?_;intro g4;refine Z1 ?_;intro g7;refine Z1 ?_;intro g15;refine Z1 ?_;intro g16
 refine Zia (fun (x:(Nat × Int) × List UInt8 × List (List UInt8))=>st [(0,Zb c 3 Zcb sl),(1,.int .i64 x.1.1),(4,.ptr 4 g4 0),(7,.ptr 7 g7 0),(8,Zb .new 1 V.str (.mk false [x.2.1])),(9,Zb .new 1 V.str (.mk false x.2.2))] [(4,.cells .new g4 0 [.int .u8 0,.str [],.nils]),(7,.cells .new g7 0 [.int .u8 x.1.2,.str [],.nils])])
  (fun x=>x.1.1≤sl.l.length+1∧(x.1.2=1∨x.1.2=2)∧x.2.2.length≤2∧x.2.1≠[]∧res=Zzd sl.l x.1.2 x.2.1 x.2.2 x.1.1) (fun K1 hK1=>?_) ?_
 ·refine Z1 ?_
  refine Znf @Zsa hG ?_ (s:=(Zji G hG _ sl i))
  by_cases he:Z5b sl.l i=Z2g
  ·rw [if_pos he] at hP
   rw [he];unfold Z2g;have q1:(([101,109,105,116]:List UInt8)==[101,109,105,116])=true:=rfl;refine Zsf q1 ?_;refine Z1 ?_;refine Z1 ?_;intro g22;refine Z1 ?_;intro g23
   have hw:IntKind.i64.wrap ((i:Int)+1)=((i+1:Nat):Int):=by rw [w64 (by omega) (by omega)];omega
   refine Z1f hw ?_;refine hK1 _ ((i+1,2),[40],[[41],[59]]) ⟨by show i+1≤_;omega,.inr rfl,by show (2:Nat)≤2;decide,by show ([40]:List UInt8)≠[];decide,hP⟩ (Zv (fun o=>o==22 || o==23) ?_ ?_)
   ·refine Zs ?_
    exact ⟨Zd _,Zd _,Zd _,Zd _,Zxd (f:=V.str) (l:=[[40]]) (m:=1) (g:=g22) (fz:=0) (c := .new) rfl zp (fun _=>rfl),Zxd (f:=V.str) (l:=[[41],[59]]) (m:=1) (g:=g23) (fz:=0) (c := .new) rfl zp (fun _=>rfl)⟩
   ·simp only [Zx,Zz,and_true]
    exact ⟨FzO.keep rfl zp,FzO.keep rfl zp⟩
  ·rw [if_neg he] at hP
   have q1:(Z5b sl.l i==[101,109,105,116])=false:=by rw [beq_eq_false_iff_ne];exact he
   refine Zsf q1 ?_;refine Z0 ?_;refine hK1 _ ((i,1),[58,61],[[59]]) ⟨by show i≤_;omega,.inl rfl,by show (1:Nat)≤2;decide,by show ([58,61]:List UInt8)≠[];decide,hP⟩ (Zv (fun o=>o==15 || o==16) ?_ ?_)
   ·refine Zs ?_
    exact ⟨Zd _,Zd _,Zd _,Zd _,Zxd (f:=V.str) (l:=[[58,61]]) (m:=1) (g:=g15) (fz:=0) (c := .new) rfl zp (fun _=>rfl),Zxd (f:=V.str) (l:=[[59]]) (m:=1) (g:=g16) (fz:=0) (c := .new) rfl zp (fun _=>rfl)⟩
   ·simp only [Zx,Zz,and_true]
    exact ⟨FzO.keep rfl zp,FzO.keep rfl zp⟩
 try clear hP
 rintro ⟨⟨j,k⟩,w,ws⟩ ⟨hj,hk,hws,hwne,hP⟩;simp only at hj hk hws hwne hP;have hl1:(Sl.mk false [w]).l=[w]:=rfl;refine Z1 ?_;refine Znf @Zsa hG ?_ (s:=(Z2u G hG _ sl j));unfold Zzd at hP
 cases hn:Zni sl.l j with
 | false =>
  rw [if_pos hn] at hP;refine Zs ?_;refine Z ?_
  rw [hP]<;>rfl
 | true =>
 rw [if_neg (by rw [hn];decide)] at hP
 have hjl:j<sl.l.length:=by
  refine Classical.byContradiction fun h=>?_;rw [Zue (by omega)] at hn;cases hn
 have hg:=List.getElem?_eq_getElem hjl;generalize sl.l[j]=t at hg;rw [Z2e hg] at hP;refine Zs ?_;refine Z0 ?_
 have hw:IntKind.i64.wrap ((j:Int)+1)=((j+1:Nat):Int):=by rw [w64 (by omega) (by omega)];omega
 have hw2:IntKind.i64.wrap (((j+1:Nat):Int)+1)=((j+2:Nat):Int):=by rw [w64 (by omega) (by omega)];omega
 refine Z1f (zi hg @Zbb) ?_;refine Z1f hw ?_
 have p1:Zep Tryz.prog G 271 [Zb c 3 Zcb sl,.int .i64 ((j+1:Nat):Int)] (.str (Z5b sl.l (j+1))):=⟨by kernel_rfl,by
  refine Zsf @Zsa ?_;refine (Zji G hG _ sl (j+1)).mono ?_;rintro _ _ rfl
  rfl⟩
 refine Z5 ?_
 refine Z5 <| Zw ⟨fun i=>if i=2 then .str (Z5b sl.l (j+1)) else .top,fun _ => .pure⟩ zk hG zk zk ?_
 simp -implicitDefEqProofs only[go_sem,seval,hl1,List.getElem?_cons_zero];refine ⟨p1,?_⟩
 by_cases hw1:Z5b sl.l (j+1)=w
 rotate_left
 ·rw [if_pos hw1] at hP
  have q1:(Z5b sl.l (j+1)==w)=false:=by simpa using hw1
  rw [q1];refine Z ?_
  rw [hP]<;>rfl
 rw [if_neg (by simpa using hw1)] at hP
 have q1:(Z5b sl.l (j+1)==w)=true:=by simpa using hw1
 rw [q1]
 try clear p1
 refine Z0 ?_
 have hjl1:j+1<sl.l.length:=by
  refine Classical.byContradiction fun h=>?_;rw [Zgh (by omega)] at hw1;exact hwne hw1.symm
 refine Z1f hw2 ?_
 refine Zia (fun (x:Nat × List XN)=>st [(0,Zb c 3 Zcb sl),(1,.int .i64 x.1),(4,.ptr 4 g4 0),(7,.ptr 7 g7 0),(9,Zb .new 1 V.str (.mk false ws))] [(4,.cells .new g4 0 [.int .u8 0,.str [],.nils]),(7,.cells .new g7 0 [.int .u8 k,.str t.text,Zb .new 6 Zva (Zm x.2)])])
  (fun x=>x.1≤sl.l.length+2∧res=Z0j sl.l ⟨k,t.text,x.2⟩ ws x.1) (fun K4 hK4=>?_) ?_
 ·refine Zia (fun (b:Bool)=>st [(0,Zb c 3 Zcb sl),(1,.int .i64 ((j+2:Nat):Int)),(4,.ptr 4 g4 0),(7,.ptr 7 g7 0),(9,Zb .new 1 V.str (.mk false ws)),(59,.bool b)] [(4,.cells .new g4 0 [.int .u8 0,.str [],.nils]),(7,.cells .new g7 0 [.int .u8 k,.str t.text,.nils])])
   (fun b=>b=true ↔ ¬ (k=2∧Z5b sl.l (j+2)=[41])) (fun K5 hK5=>?_) ?_
  ·rcases hk with rfl | rfl
   ·refine AW.region zk ?_
    have q2:((1:Int)==1)=true:=rfl;refine Zsf q2 ?_;exact hK5 _ true ⟨fun _ h=>absurd h.1 (by decide),fun _=>rfl⟩ (Za zp zp)
   ·refine AW.region zk ?_
    have q2:((2:Int)==1)=false:=rfl;refine Zsf q2 ?_;refine Zcf @Zsa hG ?_ (s:=(Zji G hG _ sl (j+2)));refine hK5 _ (!(Z5b sl.l (j+2)==[41])) ⟨fun h h2=>?_,fun h=>?_⟩ (Za zp zp)
    ·rw [h2.2] at h;cases h
    ·have:¬ Z5b sl.l (j+2)=[41]:=fun h3=>h ⟨rfl,h3⟩
     simpa using this
  intro b hb
  cases b with
  | false =>
   have hq:k=2∧Z5b sl.l (j+2)=[41]:=Classical.byContradiction fun h=>by have:=hb.2 h;cases this
   rw [if_pos hq] at hP;refine Z0 ?_;exact hK4 _ (j+2,[]) ⟨by show j+2≤_;omega,hP⟩ (Za zp zp)
  | true =>
  have hq:=hb.1 rfl;rw [if_neg hq] at hP;unfold Zoo at hP;refine Zpc rfl ?_;have hj2:j+2≤sl.l.length:=hjl1
  have hsub:(sl.sub (j+2) sl.l.length).l=sl.l.drop (j+2):=by rw [Zez];exact List.take_of_length_le (by rw [List.length_drop];omega)
  have hfr:=fun c=>Zcq G hG c (sl.sub (j+2) sl.l.length) (by rw [hsub];exact ⟨by rw [List.length_drop];omega,fun t ht=>hT.text t (List.mem_of_mem_drop ht)⟩);have hbd:=Zff (l:=sl.l.drop (j+2));rw [hsub] at hfr;rw [List.length_drop] at hbd;generalize Z5a (sl.l.drop (j+2))=p at hP hfr hbd;obtain ⟨xs,n,e⟩:=p;simp only at hP hbd
  have hw3:IntKind.i64.wrap (((j+2:Nat):Int)+n)=((j+2+n.toNat:Nat):Int):=by rw [w64 (by omega) (by omega)];omega
  have hll:sl.l.length≤sl.l.length:=Nat.le_refl _;refine Zdc zk ?_;simp -implicitDefEqProofs only[go_sem,seval,hj2,hll,and_self];refine Znf @Zsa hG ?_ (s:=(hfr _));refine Zsf (zi @encRr.eq_1 (zi @encXs.eq_1 @Zfa)) ?_;refine Z1f hw3 ?_;refine Z5 ?_
  by_cases he:e=0
  rotate_left
  ·rw [if_pos he] at hP
   have q2:(e==0)=false:=by simpa using he
   refine Zdc zk ?_;simp -implicitDefEqProofs only[go_sem,seval,bne,q2];refine Z ?_
   rw [hP,show ((j+2:Nat):Int)+n=((j+2+n.toNat:Nat):Int) by omega]<;>rfl
  rw [if_neg (by simpa using he)] at hP
  have q2:(e==0)=true:=by simpa using he
  refine Zdc zk ?_;simp -implicitDefEqProofs only[go_sem,seval,bne,q2];refine Z1 ?_;exact hK4 _ (j+2+n.toNat,xs) ⟨by show j+2+n.toNat≤_;omega,hP⟩ (Za zp zp)
 rintro ⟨i2,xs⟩ ⟨hi2,hP⟩;simp only at hi2 hP;unfold Z0j at hP;refine Z7 fun K5 hK5=>?_;refine Z1 ?_;refine AW.block ?_
 refine Zda ws.length (fun m (_:Unit)=>st [(0,Zb c 3 Zcb sl),(1,.int .i64 ((i2+m:Nat):Int)),(4,.ptr 4 g4 0),(7,.ptr 7 g7 0),(9,Zb .new 1 V.str (.mk false ws)),(13,.int .i64 m)] [(4,.cells .new g4 0 [.int .u8 0,.str [],.nils]),(7,.cells .new g7 0 [.int .u8 k,.str t.text,Zb .new 6 Zva (Zm xs)])])
  (fun m _=>Ztc sl.l ws i2=Ztc sl.l (ws.drop m) (i2+m)) 0 () (Nat.zero_le _) rfl (Za zp zp) ?_
 intro m _ hm hR L7 hL7;refine Z5 ?_;have hwl:(Sl.mk false ws).l=ws:=rfl;refine Z1f hwl ?_;refine Zi rfl (fun h81=>?_) (fun h81=>?_);rotate_left
 ·have hm2:m=ws.length:=by have:=zN h81;omega
  rw [List.drop_eq_nil_of_le (by omega)] at hR;refine Z0 ?_;refine hK5 _ ?_;refine Z ?_;rw [hP,hR]
  show _=encSR (_,((i2+m:Nat):Int),if true=true then 0 else 110)
  rfl
 have hm1:m<ws.length:=zL h81;have hgm:ws[m]? = some ws[m]:=List.getElem?_eq_getElem hm1;have hdr:ws.drop m=ws[m]::ws.drop (m+1):=List.drop_eq_getElem_cons hm1;generalize ws[m]=w2 at hgm hdr;rw [hdr,Ztc] at hR;refine Z0 ?_
 have p2:Zep Tryz.prog G 271 [Zb c 3 Zcb sl,.int .i64 ((i2+m:Nat):Int)] (.str (Z5b sl.l (i2+m))):=⟨by kernel_rfl,by
  refine Zsf @Zsa ?_;refine (Zji G hG _ sl (i2+m)).mono ?_;rintro _ _ rfl
  rfl⟩
 refine Z5 ?_;refine AW.block ?_;refine Z5 ?_
 refine Z5 <| Zw ⟨fun i=>if i=2 then .str (Z5b sl.l (i2+m)) else .top,fun _ => .pure⟩ zk hG zk zk ?_
 refine Zsf (zi hwl hgm) ?_;refine ⟨p2,?_⟩
 try clear p2
 by_cases hw4:Z5b sl.l (i2+m)=w2
 rotate_left
 ·rw [if_neg hw4] at hR
  have q2:(Z5b sl.l (i2+m)==w2)=false:=by simpa using hw4
  rw [q2];refine Z ?_
  rw [hP,hR]<;>rfl
 rw [if_pos hw4] at hR
 have q2:(Z5b sl.l (i2+m)==w2)=true:=by simpa using hw4
 rw [q2];refine Z0 ?_
 have hw5:IntKind.i64.wrap (((i2+m:Nat):Int)+1)=((i2+(m+1):Nat):Int):=by rw [w64 (by omega) (by omega)];omega
 have hw6:IntKind.i64.wrap ((m:Int)+1)=((m+1:Nat):Int):=by rw [w64 (by omega) (by omega)];omega
 refine Z1f hw5 ?_;refine Z1f hw6 ?_;exact hL7 _ ⟨hm1,(),hR,Za zp zp⟩
end Go.Hs
end
