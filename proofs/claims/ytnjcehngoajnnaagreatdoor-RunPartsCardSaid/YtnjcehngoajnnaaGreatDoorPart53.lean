/- Part 53 of the proof of a statement of seat YtnjcehngoajnnaaGreatDoor: HsGRuL HsGRuM HsGExpLaid HsGExpLaidG HsGExpArgs HsGExpArgs2 HsGActArgs HsGEvArgs HsGRuArgs HsGSeatF HsGRuN HsGRuO. -/
import Derived.Test.YtnjcehngoajnnaaGreatDoorPart51
import Derived.Test.YtnjcehngoajnnaaGreatDoorPart52
import Derived.Test.YtnjcehngoajnnaaGreatDoorPart44
import Derived.Test.YtnjcehngoajnnaaGreatDoorPart41
import Derived.Test.YtnjcehngoajnnaaGreatDoorPart37
import Derived.Test.YtnjcehngoajnnaaGreatDoorPart47
import Derived.Test.YtnjcehngoajnnaaGreatDoorRows
import Derived.ProofKit
import Derived.OpenShut
import Derived.LaidLaws
import Derived.Stop.LaidErr
import Derived.Lib.LaidTab
import Derived.Handed
import Derived.Laws.StructEq
import Derived.ChangeMaps5
import Derived.Test.YtnjcehngoajnnaaGreatDoorCards
set_option linter.unusedSimpArgs false
set_option linter.unusedVariables false
section
namespace Go.Hs
open Go.Proofs
set_option maxRecDepth 10000
set_option maxHeartbeats 1000000
def shB (i:Nat):Sh:=if i=0 then .str else .int .i64
def Ztaa (M:Nat):Sh := .row true 2 M shB
def shR (M:Nat):Sh := .ptr true false 3 (fun i=>if i=2 then .int .i64 else Ztaa M)
theorem Zbda (M:Nat):(shR M).free:=by
 refine ⟨rfl,fun i _=>?_⟩
 show Sh.free (if i=2 then .int .i64 else Ztaa M)
 split
 ·trivial
 ·intro j _
  show (shB j).free
  unfold shB
  split<;>trivial
theorem Zl2 {M:Nat} {s:Sl (List UInt8 × Int)} (h:s.l.length≤M):ShV .new .new (Ztaa M) (Za .new 2 Zj s):=by
 cases s with
 | nil=>exact .inl rfl
 | mk b l =>
  refine .inr ⟨b,l.map Zj,rfl,by rw [List.length_map];exact h,?_⟩;intro u hu;obtain ⟨n,_,rfl⟩:=List.mem_map.1 hu;refine ⟨rfl,rfl,fun i hi=>?_⟩;have hi:i<2:=hi
  match i,hi with
  | 0,_=>exact ⟨_,rfl⟩
  | 1,_=>exact ⟨_,rfl⟩
theorem Zk2 {M:Nat} {v:V} (h:ShV .new .new (Ztaa M) v):∃ s:Sl (List UInt8 × Int),v=Za .new 2 Zj s∧s.l.length≤M:=by
 rcases h with rfl | ⟨clip,l,rfl,hl,hu⟩
 ·exact ⟨.nil,rfl,Nat.zero_le _⟩
 ·have:∃ ns:List (List UInt8 × Int),l=ns.map Zj:=by
   clear hl
   induction l with
   | nil=>exact ⟨[],rfl⟩
   | cons u r ih =>
    obtain ⟨ns,rfl⟩:=ih fun x hx=>hu x (by simp [hx]);obtain ⟨h1,h2,h3⟩:=hu u (by simp);obtain ⟨t,ht⟩:=h3 0 (by omega);obtain ⟨n,hn⟩:=h3 1 (by omega);refine ⟨(t,n)::ns,?_⟩
    have hc:u.cells=[.str t,.int .i64 n]:=by
     match hq:u.cells,h1 with
     | [y,z],_ =>
      have e0:u.cells[0]'(by omega)=y:=by simp [hq]
      have e1:u.cells[1]'(by omega)=z:=by simp [hq]
      rw [e0] at ht;rw [e1] at hn;rw [ht,hn]
    rw [h2,hc];rfl
  obtain ⟨ns,rfl⟩:=this;exact ⟨.mk clip ns,rfl,by rw [List.length_map] at hl;exact hl⟩
theorem Ztca {M:Nat} {sa ea:Sl (List UInt8 × Int)} {d:Int} (h1:sa.l.length≤M) (h2:ea.l.length≤M):ShV .new .new (shR M) (.view .new (.agg [Za .new 2 Zj sa,Za .new 2 Zj ea,.int .i64 d])) :=
 ⟨_,rfl,rfl,rfl,fun i hi=>by
  have hi:i<3:=hi
  match i,hi with
  | 0,_=>exact Zl2 h1
  | 1,_=>exact Zl2 h2
  | 2,_=>exact ⟨_,rfl⟩⟩
theorem Zsca {M:Nat} {v:V} (h:ShV .new .new (shR M) v):∃ (sa ea:Sl (List UInt8 × Int)) (d:Int),v = .view .new (.agg [Za .new 2 Zj sa,Za .new 2 Zj ea,.int .i64 d])∧sa.l.length≤M∧ea.l.length≤M:=by
 obtain ⟨u,rfl,h1,h2,h3⟩:=h;obtain ⟨sa,e0,ha⟩:=Zk2 (M:=M) (h3 0 (by omega));obtain ⟨ea,e1,he⟩:=Zk2 (M:=M) (h3 1 (by omega));obtain ⟨d,e2⟩:=h3 2 (by omega);refine ⟨sa,ea,d,?_,ha,he⟩
 have hc:u.cells=[Za .new 2 Zj sa,Za .new 2 Zj ea,.int .i64 d]:=by
  match hq:u.cells,h1 with
  | [x,y,z],_ =>
   have f0:u.cells[0]'(by omega)=x:=by simp [hq]
   have f1:u.cells[1]'(by omega)=y:=by simp [hq]
   have f2:u.cells[2]'(by omega)=z:=by simp [hq]
   rw [f0] at e0;rw [f1] at e1;rw [f2] at e2;rw [e0,e1,e2]
 rw [h2,hc];rfl
theorem Zpm (s:Sl (List UInt8 × Int)):V.Old (Za .old 2 Zj s):=Z31 (fun n y hy=>by
 simp only [Zwc,V.cells,List.mem_cons,List.not_mem_nil,or_false] at hy
 rcases hy with rfl | rfl<;>first | exact .int _ _ | exact .str _) s
theorem Zt7 (s:Sl AM):V.Old (Za .old 3 (Zia .old) s):=Z31 (fun n y hy=>by
 simp only [Zlb,V.cells,List.mem_cons,List.not_mem_nil,or_false] at hy
 rcases hy with rfl | rfl | rfl
 ·exact .int _ _
 ·exact .str _
 ·exact Z31 (fun n z hz=>by
   simp only [Zg,V.cells,List.mem_cons,List.not_mem_nil,or_false] at hz
   rcases hz with rfl | rfl | rfl | rfl | rfl | rfl<;>first | exact .int _ _ | exact .str _) _) s
theorem Zs7 (sa ea:Sl (List UInt8 × Int)) (d:Int):V.Old (.view .old (.agg [Za .old 2 Zj sa,Za .old 2 Zj ea,.int .i64 d])):=by
 refine .view _ fun y hy=>?_;simp only [V.cells,List.mem_cons,List.not_mem_nil,or_false] at hy
 rcases hy with rfl | rfl | rfl
 ·exact Zpm _
 ·exact Zpm _
 ·exact .int _ _
theorem RunIn.ref {s:Sl AM} {vs:List (List UInt8 × Int)} {arg:Int} (h:RunIn s vs arg):RunIn (amU (s.l.map AM.v)) vs arg:=by
 have key:∀ a∈(amU (s.l.map AM.v)).l,∃ b∈s.l,a=toAU b.v:=by
  intro a ha;rw [Zg9,List.map_map,List.mem_map] at ha;obtain ⟨b,hb,rfl⟩:=ha;exact ⟨b,hb,rfl⟩
 refine ⟨by rw [Zg9,List.length_map,List.length_map];exact h.hs,fun a ha=>?_,fun a ha n hn=>?_,h.hv,h.hf,h.ha⟩
 ·obtain ⟨b,hb,rfl⟩:=key a ha
  have hB:=h.hb b hb;exact ⟨hB.n,by show (Zu b.x.l).l.length<_;rw [Zha];exact hB.l,fun n hn=>hB.x n (by have hn:n∈(Zu b.x.l).l:=hn;rwa [Zha] at hn)⟩
 ·obtain ⟨b,hb,rfl⟩:=key a ha
  have hn:n∈(Zu b.x.l).l:=hn;rw [Zha] at hn;exact h.hn b hb n hn
end Go.Hs
end

section
namespace Go.Hs
open Go.Proofs
set_option maxRecDepth 10000
set_option maxHeartbeats 1000000
theorem Zoba (G:Nat→V) (hE:GExp G) (hGo:∀ g,(G g).Old) (s:Sl AM) (hn:∀ a∈s.l,∀ n∈a.x.l,Zec n.num=true) (vs:Sl (List UInt8 × Int)) (hf:∀ p∈vs.l,Zec p.2=true) (arg:Int) (ha:Zec arg=true) :
  Spec Tryz.prog G 8 [.agg [Za .old 3 (Zia .old) s],Za .old 2 Zj vs,.int .i64 arg] Zp (fun v _=>v = .bool true):=by
 have hG:=hE.ok;have hW:=Zai G hE;refine Zo 0 94 [.tmp 6] Tryz.func8 fun X=>?_;refine Z1 ?_;intro g3;refine Zva (fun (_:Unit)=>st [(1,Za .old 2 Zj vs),(2,.int .i64 arg),(3,.ptr 3 g3 0)] [(3,.cells .new g3 0 [Za .old 3 (Zia .old) s])]) (fun _=>Few12 s.l vs.l) (fun K1 hK1=>?_) ?_
 ·refine Z ?_
  refine CallA.pure hG (by kernel_rfl) ?_;refine Zs ?_;refine (Zbk G hG .old .old .old s vs).mono ?_;rintro _ _ ⟨b,rfl,hb⟩
  cases b with
  | false =>
   refine Zs ?_;refine Z ?_;refine Zc hG ?_ (s:=hW);exact Zr
  | true =>
   refine Zs ?_;refine Z ?_;exact hK1 _ () (hb rfl) (Ze zp zp)
 rintro _ ⟨f1,f2,f3,f4⟩;have hIn:RunIn s vs.l arg:=⟨by omega,fun a ha=>⟨by have:=(f3 a ha).1;omega,by have:=(f3 a ha).2.1;omega,fun n hn=>by have:=(f3 a ha).2.2 n hn;omega⟩,hn,by omega,hf,ha⟩;have k1:=svR_l hIn;obtain ⟨k2,k3⟩:=Z5r hIn;have hc:=Zsj (s.l.map AM.v)
 have k4:(runB arg (s.l.map AM.v) vs.l).1.emits.length≤100000:=by
  rcases hc with hc | hc
  ·have:=(Zkm hIn hc).em;omega
  ·unfold runB;rw [if_pos (by rw [hc];decide)];exact Nat.zero_le _
 have ht:∀ c c1 c2,Spec Tryz.prog G 32 [.agg [Za c 3 (Zia c1) s],Za c2 2 Zj vs,.int .i64 arg] Zp (fun v _=>v = .tuple [.agg [Za .new 2 Zj (svR (s.l.map AM.v) vs (runB arg (s.l.map AM.v) vs.l).1.vars),Za .new 2 Zj (Zu (runB arg (s.l.map AM.v) vs.l).1.emits),.int .i64 (runB arg (s.l.map AM.v) vs.l).1.done],.int .i64 (runB arg (s.l.map AM.v) vs.l).2]):=fun c c1 c2=>Zjt G hE c c1 c2 s vs arg hIn
 have hr:∀ c c1 c2,Spec Tryz.prog G 30 [Za c 3 (Zia c1) (amU (s.l.map AM.v)),Za c2 2 Zj (Zu vs.l),.int .i64 arg] Zp (fun v _=>v = .tuple [.agg [Za .new 2 Zj (Zu (runB arg (s.l.map AM.v) vs.l).1.vars),Za .new 2 Zj (Zu (runB arg (s.l.map AM.v) vs.l).1.emits),.int .i64 (runB arg (s.l.map AM.v) vs.l).1.done],.int .i64 (runB arg (s.l.map AM.v) vs.l).2]):=fun c c1 c2=>by
  have:=Z6r G hG c c1 c2 (amU (s.l.map AM.v)) (Zu vs.l) arg (by rw [Zha];exact hIn.ref);rw [Zgca,Zha] at this;exact this
 have hrf:∀ c c1,Spec Tryz.prog G 31 [.agg [Za c 3 (Zia c1) s]] Zp (fun v _=>v=Za .new 3 (Zia .new) (amU (s.l.map AM.v))):=fun c c1=>by
  have:=Z0z G hG c c1 s (by omega) (fun a ha=>by have:=(f3 a ha).2.1;omega);rw [Z1m] at this;exact this
 generalize svR (s.l.map AM.v) vs (runB arg (s.l.map AM.v) vs.l).1.vars=sv at ht k1;generalize runB arg (s.l.map AM.v) vs.l=r at ht hr k1 k2 k3 k4;refine Z ?_;refine Zc hG ?_ (s:=Z8e G hG _ vs (by omega));refine Z ?_;refine Zc hG ?_ (s:=hrf _ _);refine Zc hG ?_ (s:=hr _ _ _);intro g8;refine Zs ?_;refine AW.weak (Zz (fun o=>o==8) (l:=[(1,Za .old 2 Zj vs),(2,.int .i64 arg),(3,.ptr 3 g3 0),(7,Za .new 2 Zj (Zu vs.l)),(8,.view .new (.agg [Za .new 2 Zj (Zu r.1.vars),Za .new 2 Zj (Zu r.1.emits),.int .i64 r.1.done])),(9,.int .i64 r.2)]) (m:=[(3,.cells .new g3 0 [Za .old 3 (Zia .old) s])]) ?_ ?_) ?_
 ·simp -implicitDefEqProofs only[go_sem,seval,↓reduceIte]
  exact ⟨Zb _,Zb _,Zb _,Zb _,Fz.ptr (v := .agg [Za .new 2 Zj (Zu r.1.vars),Za .new 2 Zj (Zu r.1.emits),.int .i64 r.1.done]) (c := .new) (fz:=0) rfl zp,Zb _⟩
 ·simp only [Zm,Zt,and_true]
  exact FzO.keep rfl zp
 refine Zu9 hG fun X1 H1 hb1 hI1=>?_;simp -implicitDefEqProofs only[go_sem,seval,↓reduceIte,List.map_cons,List.map_nil,recol_cells,Zgl];refine Z ?_;refine Z6a 2 (fun k (_:Unit)=>st [(1,Za .old 2 Zj vs),(2,.int .i64 arg),(3,.ptr 3 g3 0),(7,Za .old 2 Zj (Zu vs.l)),(8,.view .old (.agg [Za .old 2 Zj (Zu r.1.vars),Za .old 2 Zj (Zu r.1.emits),.int .i64 r.1.done])),(9,.int .i64 r.2),(10,.int .i64 k)] [(3,.cells .old g3 0 [Za .old 3 (Zia .old) s])]) (fun _ _=>True) 0 () (Nat.zero_le _) trivial (Ze zp zp) ?_;intro k _ hk _ L3 hL3;have w2:IntKind.i64.wrap ((k:Int)+1)=(k:Int)+1:=w64 (by omega) (by omega)
 by_cases hk1:k<2
 ·have hlt:decide ((k:Int)<2)=true:=zT
  refine Zf hlt ?_;refine Zc hG ?_ (s:=ht _ _ _);intro g11;refine Z ?_;refine Zc hG ?_ (s:=Zxp G hG _ _ _ _ sv (Zu r.1.vars) (Zu r.1.emits) (Zu r.1.emits) r.1.done (by rw [k1,Zha]) rfl (by rw [k1];omega) (by rw [Zha];omega))
  have e:(r.2 != r.2)=false:=by simp
  refine Zsf e ?_;refine AW.weak (Zz (fun o=>o==11) (l:=[(1,Za .old 2 Zj vs),(2,.int .i64 arg),(3,.ptr 3 g3 0),(7,Za .old 2 Zj (Zu vs.l)),(8,.view .old (.agg [Za .old 2 Zj (Zu r.1.vars),Za .old 2 Zj (Zu r.1.emits),.int .i64 r.1.done])),(9,.int .i64 r.2),(10,.int .i64 k),(11,.view .new (.agg [Za .new 2 Zj sv,Za .new 2 Zj (Zu r.1.emits),.int .i64 r.1.done])),(51,.bool false)]) (m:=[(3,.cells .old g3 0 [Za .old 3 (Zia .old) s])]) ?_ ?_) ?_
  ·simp -implicitDefEqProofs only[go_sem,seval,↓reduceIte]
   exact ⟨Zb _,Zb _,Zb _,Zb _,Zb _,Zb _,Zb _,Fz.ptr (v := .agg [Za .new 2 Zj sv,Za .new 2 Zj (Zu r.1.emits),.int .i64 r.1.done]) (c := .new) (fz:=0) rfl zp,Zb _⟩
  ·simp only [Zm,Zt,and_true]
   exact FzO.keep rfl zp
  refine Z ?_
  have q1:sv.l.length≤100000:=by rw [k1];omega
  have q2:(Zu r.1.emits).l.length≤100000:=by rw [Zha];exact k4
  refine Zhc (fun (y:Sl (List UInt8 × Int) × Sl (List UInt8 × Int) × Int × Nat)=>st [(1,Za .old 2 Zj vs),(2,.int .i64 arg),(3,.ptr 3 g3 0),(7,Za .old 2 Zj (Zu vs.l)),(8,.view .old (.agg [Za .old 2 Zj (Zu r.1.vars),Za .old 2 Zj (Zu r.1.emits),.int .i64 r.1.done])),(9,.int .i64 r.2),(10,.int .i64 k),(11,.view .new (.agg [Za .new 2 Zj y.1,Za .new 2 Zj y.2.1,.int .i64 y.2.2.1])),(13,.int .i64 y.2.2.2)] [(3,.cells .old g3 0 [Za .old 3 (Zia .old) s])])
   (fun y=>y.1.l.length≤100000∧y.2.1.l.length≤100000∧y.2.2.2≤100000) (fun y=>100001-y.2.2.2) (sv,Zu r.1.emits,(r.1.done:Int),0) ⟨q1,q2,Nat.zero_le _⟩ (Ze zp zp) ?_
  rintro ⟨ya,ye,yd,i⟩ ⟨hya,hye,hi⟩ L7 hL7
  replace hya:ya.l.length≤100000:=hya
  replace hye:ye.l.length≤100000:=hye
  replace hi:i≤100000:=hi
  by_cases hi1:i<ya.l.length
  ·have hg:=List.getElem?_eq_getElem hi1
   have hlt2:decide ((i:Int)<(ya.l.length:Int))=true:=zT;refine Z1f hlt2 ?_;refine Z0 ?_;refine Z2 ?_;refine AW.block ?_;refine Zvz [(1,Za .old 2 Zj vs),(2,.int .i64 arg),(3,.ptr 3 g3 0),(7,Za .old 2 Zj (Zu vs.l)),(8,.view .old (.agg [Za .old 2 Zj (Zu r.1.vars),Za .old 2 Zj (Zu r.1.emits),.int .i64 r.1.done])),(9,.int .i64 r.2),(10,.int .i64 k),(13,.int .i64 i)] [(3,.cells .old g3 0 [Za .old 3 (Zia .old) s])] [(11,shR 100000)] hb1 hI1 hGo (by intro p hp;simp at hp;subst hp;exact Zbda _) (by kernel_rfl) (by kernel_rfl) rfl ?_ ?_ ?_
   ·simp -implicitDefEqProofs only[go_sem,seval,↓reduceIte]
    exact ⟨Zpm _,.int _ _,.ptr _ _ _,Zpm _,Zs7 _ _ _,.int _ _,.int _ _,.int _ _⟩
   ·simp -implicitDefEqProofs only[go_sem,seval,↓reduceIte]
    simp only [List.mem_singleton,forall_eq];exact Zt7 s
   simp -implicitDefEqProofs only[go_sem,seval,↓reduceIte,List.dropLast,hg];refine ⟨⟨_,rfl,rfl,by kernel_rfl,⟨trivial,rfl,trivial⟩,by decide⟩,Ztca hya hye,?_⟩;rintro _ ⟨v,_,rfl,hv,rfl⟩;obtain ⟨ya2,ye2,d2,rfl,h1,h2⟩:=Zsca hv;have w3:IntKind.i64.wrap ((i:Int)+1)=(i:Int)+1:=w64 (by omega) (by omega);refine Zs ?_;refine Zf w3 ?_;exact hL7 _ ⟨(ya2,ye2,d2,i+1),by show 100001-(i+1)<100001-i;omega,⟨h1,h2,by show i+1≤100000;omega⟩,Ze zp zp⟩
  have hlt2:decide ((i:Int)<(ya.l.length:Int))=false:=zF;refine Zf hlt2 ?_;clear hL7 L7 hlt2 hi1 hi
  refine Zhc (fun (y:Sl (List UInt8 × Int) × Sl (List UInt8 × Int) × Int × Nat)=>st [(1,Za .old 2 Zj vs),(2,.int .i64 arg),(3,.ptr 3 g3 0),(7,Za .old 2 Zj (Zu vs.l)),(8,.view .old (.agg [Za .old 2 Zj (Zu r.1.vars),Za .old 2 Zj (Zu r.1.emits),.int .i64 r.1.done])),(9,.int .i64 r.2),(10,.int .i64 k),(11,.view .new (.agg [Za .new 2 Zj y.1,Za .new 2 Zj y.2.1,.int .i64 y.2.2.1])),(14,.int .i64 y.2.2.2)] [(3,.cells .old g3 0 [Za .old 3 (Zia .old) s])])
   (fun y=>y.1.l.length≤100000∧y.2.1.l.length≤100000∧y.2.2.2≤100000) (fun y=>100001-y.2.2.2) (ya,ye,yd,0) ⟨hya,hye,Nat.zero_le _⟩ (Ze zp zp) ?_
  rintro ⟨ya,ye,yd,i⟩ ⟨hya,hye,hi⟩ L7 hL7
  replace hya:ya.l.length≤100000:=hya
  replace hye:ye.l.length≤100000:=hye
  replace hi:i≤100000:=hi
  by_cases hi1:i<ye.l.length
  ·have hg:=List.getElem?_eq_getElem hi1
   have hlt2:decide ((i:Int)<(ye.l.length:Int))=true:=zT;refine Z1f hlt2 ?_;refine Z0 ?_;refine Z2 ?_;refine AW.block ?_;refine Zvz [(1,Za .old 2 Zj vs),(2,.int .i64 arg),(3,.ptr 3 g3 0),(7,Za .old 2 Zj (Zu vs.l)),(8,.view .old (.agg [Za .old 2 Zj (Zu r.1.vars),Za .old 2 Zj (Zu r.1.emits),.int .i64 r.1.done])),(9,.int .i64 r.2),(10,.int .i64 k),(14,.int .i64 i)] [(3,.cells .old g3 0 [Za .old 3 (Zia .old) s])] [(11,shR 100000)] hb1 hI1 hGo (by intro p hp;simp at hp;subst hp;exact Zbda _) (by kernel_rfl) (by kernel_rfl) rfl ?_ ?_ ?_
   ·simp -implicitDefEqProofs only[go_sem,seval,↓reduceIte]
    exact ⟨Zpm _,.int _ _,.ptr _ _ _,Zpm _,Zs7 _ _ _,.int _ _,.int _ _,.int _ _⟩
   ·simp -implicitDefEqProofs only[go_sem,seval,↓reduceIte]
    simp only [List.mem_singleton,forall_eq];exact Zt7 s
   simp -implicitDefEqProofs only[go_sem,seval,↓reduceIte,List.dropLast,hg];refine ⟨⟨_,rfl,rfl,by kernel_rfl,⟨trivial,rfl,trivial⟩,by decide⟩,Ztca hya hye,?_⟩;rintro _ ⟨v,_,rfl,hv,rfl⟩;obtain ⟨ya2,ye2,d2,rfl,h1,h2⟩:=Zsca hv;have w3:IntKind.i64.wrap ((i:Int)+1)=(i:Int)+1:=w64 (by omega) (by omega);refine Zs ?_;refine Zf w3 ?_;exact hL7 _ ⟨(ya2,ye2,d2,i+1),by show 100001-(i+1)<100001-i;omega,⟨h1,h2,by show i+1≤100000;omega⟩,Ze zp zp⟩
  have hlt2:decide ((i:Int)<(ye.l.length:Int))=false:=zF;refine Zf (zi hlt2 w2) ?_;exact hL3 _ ⟨hk1,(),trivial,Ze zp zp⟩
 have hlt:decide ((k:Int)<2)=false:=zF;refine Zf hlt ?_;refine Zc hG ?_ (s:=Z8e G hG _ vs (by omega));refine Z ?_;clear hL3 L3 hlt hk1 hk w2;have hgl := @Zha (List UInt8 × Int) vs.l;generalize Zu vs.l=u at hgl ⊢;refine Z6a vs.l.length (fun k (_:Unit)=>st [(7,Za .old 2 Zj u),(15,Za .new 2 Zj u),(16,.int .i64 k)] []) (fun _ _=>True) 0 () (Nat.zero_le _) trivial (Ze zp zp) ?_;intro k _ hk _ L3 hL3;rw [← hgl] at hk hL3
 by_cases hk1:k<u.l.length
 ·have hlt:decide ((k:Int)<(u.l.length:Int))=true:=zT
  have hg:=List.getElem?_eq_getElem hk1
  have hul:u.l.length≤20:=by rw [hgl];exact f2
  generalize u.l[k]=p at hg;have w1:IntKind.i64.wrap ((k:Int)+1)=(k:Int)+1:=w64 (by omega) (by omega);refine Z1f hlt ?_;refine ZTf (zi hg (zi Zwc (zi hk1 (zi @Int.natCast_nonneg @Int.ofNat_lt)))) hG ?_
  have b1:(p.1 != p.1)=false:=by simp
  have b2:(p.2 != p.2)=false:=by simp
  have b3:(p.1==p.1)=true:=by simp
  have b4:(p.2==p.2)=true:=by simp
  refine Zsf (zi b1 (zi b2 (zi b3 b4))) ?_;refine Zf w1 ?_;exact hL3 _ ⟨hk1,(),trivial,Ze zp zp⟩
 have hlt:decide ((k:Int)<(u.l.length:Int))=false:=zF;refine Zf hlt ?_;refine Zc hG ?_ (s:=hW);exact Zr
end Go.Hs
end

section
namespace Go.Proofs.YtnjcehngoajnnaaGreatDoor
open Go.RowKit Go.Hs
set_option maxRecDepth 100000
def Zae:List (String × DataW Unit):=[("math/bits.deBruijn32tab",Rows.laid_math_bits_deBruijn32tab),("math/bits.deBruijn64tab",Rows.laid_math_bits_deBruijn64tab),("internal/strconv.uint64pow10",Rows.laid_internal_strconv_uint64pow10),("unicode/utf8.acceptRanges",Rows.laid_unicode_utf8_acceptRanges),("strconv.ErrRange",Rows.laid_strconv_ErrRange),("strconv.ErrSyntax",Rows.laid_strconv_ErrSyntax),("hopscotch/lex.signs",Rows.laid_hopscotch_lex_signs),("unicode/utf8.first",Rows.laid_unicode_utf8_first)]
noncomputable def low:Nat:=(World.holding Tryz.prog default ⟨#[],#[],[]⟩).heap.size
def b32:List Int:=[0,1,28,2,29,14,24,3,30,22,20,15,25,17,4,8,31,27,13,23,21,19,16,7,26,12,18,6,11,5,10,9]
def b64:List Int:=0::1::56::2::57::49::28::3::61::58::42::50::38::29::17::4::62::47::59::36::45::43::51::22::53::39::33::30::24::18::12::5::63::55::48::27::60::41::37::16::46::35::44::21::52::32::23::11::54::26::40::15::34::20::31::10::25::14::19::9::13::8::7::6::[]
def acR:List Int:=[128,191,160,191,128,159,144,191,128,143]++List.replicate 22 0
def errR:ByteArray:={ data := #[118,97,108,117,101,32,111,117,116,32,111,102,32,114,97,110,103,101] }
def errS:ByteArray:={ data := #[105,110,118,97,108,105,100,32,115,121,110,116,97,120] }
def Zwe (cs:Array Value):Obj→Obj
 | .cells _ t frozen => .cells cs t frozen
 | o=>o
noncomputable def laidWorld (os:Os):World :=
 let w0:=World.holding Tryz.prog os ⟨#[.cells #[.string errR] 328,.cells #[.string errS] 328],#[],[]⟩
 { w0 with heap:=(((((((w0.heap.modify 2 (Zwe #[.iface 326 (.pointer (some ⟨low,0,none⟩))])).modify 5 (Zwe #[.iface 326 (.pointer (some ⟨low+1,0,none⟩))])).modify 6
   (Zwe (Lib.pow10Tab.map (Value.int .u64)).toArray)).modify 7 (Zwe (b32.map (Value.int .u8)).toArray)).modify 8 (Zwe (b64.map (Value.int .u8)).toArray)).modify 4 (Zwe (acR.map (Value.int .u8)).toArray)).modify
   0 (Zwe (signsL.map fun s=>Value.string ⟨s.toArray⟩).toArray)).modify 3 (Zwe (Pinned.utf8FirstZ.map fun (n:Nat)=>Value.int .u8 (n:Int)).toArray) }
theorem Zrh (os:Os) (args:Array Value):laidMet Tryz.prog Zae ((laidWorld os).forCall (fun _ _=>0) ⟨#[],args,[]⟩).memory :=
 laidMet_of_run' 8 (by kernel_rfl) (by kernel_rfl)
end Go.Proofs.YtnjcehngoajnnaaGreatDoor
end

section
namespace Go.Proofs.YtnjcehngoajnnaaGreatDoor
open Go.RowKit Go.Hs
set_option maxRecDepth 100000
theorem Zjb {P:Program} {W:World} {x:String × DataW Unit} {r:List (String × DataW Unit)} (h:laidMet P (x::r) W):laidMet P r W:=by
 obtain ⟨n,d⟩:=x;obtain ⟨ps,⟨g0,t0,cs0,f0,p0,q0,hg0,ht0,hv0,hd0,hq,e0⟩,hnd,hrows⟩:=h;subst e0;exact ⟨q0,hq,(List.nodup_append.1 hnd).2.1,fun b off hm=>hrows b off (List.mem_append.2 (.inr hm))⟩
noncomputable def gE (m:Int):Nat→V:=fun g=>if g=2 then .view .old (.iface 326 (.view .old (.agg []))) else if g=6 then .view .old (.agg (Lib.pow10Tab.map (V.int .u64)))
 else if g=0 then .view .old (.agg (signsL.map V.str)) else if g=1 then .view .old (.int .i64 m) else .top
theorem Zap (f:Col→Col):∀ l:List Int,Z3a f (l.map (V.int .u64))=l.map (V.int .u64)
 | []=>rfl
 | x::r=>by simp only [List.map_cons,Z3a];rw [Zap f r]<;>rfl
theorem Z9o (f:Col→Col):∀ l:List (List UInt8),Z3a f (l.map V.str)=l.map V.str
 | []=>rfl
 | x::r=>by simp only [List.map_cons,Z3a];rw [Z9o f r]<;>rfl
theorem gE_ok (m:Int):GExp (gE m) where
 ok:=fun g=>by
  unfold gE
  split
  ·exact ⟨rfl,.view _ _ fun x hx=>by simp [V.cells] at hx;subst hx;exact .iface _ _ (.view _ _ fun x hx=>by simp [V.cells] at hx)⟩
  ·split
   ·refine ⟨by simp only [V.recol,Col.ent,Zap],.view _ _ fun x hx=>?_⟩
    obtain ⟨n,_,rfl⟩:=List.mem_map.1 hx;exact .int _ _
   ·split
    ·refine ⟨by simp only [V.recol,Col.ent,Z9o],.view _ _ fun x hx=>?_⟩
     obtain ⟨n,_,rfl⟩:=List.mem_map.1 hx;exact .str _
    ·split
     ·exact ⟨rfl,.view _ _ fun x hx=>by simp [V.cells] at hx;subst hx;exact .int _ _⟩
     ·exact ⟨rfl,.top⟩
 er:=⟨_,_,_,rfl⟩
 tab:=⟨_,rfl⟩
 sg:=⟨_,rfl⟩
 ml:=⟨_,m,rfl⟩
theorem gE_old (m:Int) (g:Nat):(gE m g).Old:=by
 unfold gE
 split
 ·exact .view _ fun x hx=>by simp [V.cells] at hx;subst hx;exact .iface _ _ (.view _ fun x hx=>by simp [V.cells] at hx)
 ·split
  ·refine .view _ fun x hx=>?_
   obtain ⟨n,_,rfl⟩:=List.mem_map.1 hx;exact .int _ _
  ·split
   ·refine .view _ fun x hx=>?_
    obtain ⟨n,_,rfl⟩:=List.mem_map.1 hx;exact .str _
   ·split
    ·exact .view _ fun x hx=>by simp [V.cells] at hx;subst hx;exact .int _ _
    ·exact .top
theorem gER:Tryz.prog.globalNamed "strconv.ErrRange" = some 2:=by kernel_rfl
theorem gERType:(Tryz.prog.globals[2]?).map (·.type)=some 279:=by kernel_rfl
theorem Z9ba:Tryz.prog.cellsOf 328=1:=by kernel_rfl
theorem Zgda:Tryz.prog.cellsOf 9=1:=by kernel_rfl
theorem star : "*" ++ "errors.errorString" = "*errors.errorString" := by decide
theorem row109 (u:TypeId) (h:Tryz.prog.typeName? 3 u=some "*errors.errorString"):u=326 :=
 typeName_ptr_named (nm := "errors.errorString") (by rw [star];kernel_rfl) (by kernel_rfl) (by decide) u (by rw [star];exact h)
theorem gTab:Tryz.prog.globalNamed "internal/strconv.uint64pow10" = some 6:=by kernel_rfl
theorem Zwba:∃ t n,(Tryz.prog.globals[6]?).map (·.type)=some t∧Tryz.prog.underlying t=some (.array n 262)∧Tryz.prog.cellsOf t=n∧n=20:=by
 refine ⟨(((Tryz.prog.globals[6]?).map (·.type)).getD 0),20,by kernel_rfl,by kernel_rfl,by kernel_rfl,rfl⟩
theorem Zmba {W:World} (h:laidMet Tryz.prog Zae W):Lib.TabIs Tryz.prog W "internal/strconv.uint64pow10" .u64 Lib.pow10Tab:=by
 obtain ⟨t,n,h1,h2,h3,rfl⟩:=Zwba
 have e:(Rows.laid_internal_strconv_uint64pow10:DataW Unit)=Lib.tabData .u64 Lib.pow10Tab:=by rfl
 have h4:=Zjb (Zjb h);rw [e] at h4;exact Lib.tabIs_of_head gTab h1 h2 Tryz.underlying262 (by kernel_rfl) h3 h4
theorem Znba {W:World} (h:laidMet Tryz.prog Zae W):∃ b off,W.cell? ⟨2,0,none⟩=some (.iface 326 (.pointer (some ⟨b,off,none⟩))):=by
 obtain ⟨a,s,h1,h2,_,_⟩:=laid_sentinel (Zjb (Zjb (Zjb (Zjb h)))) gER gERType Tryz.underlying279 row109 Tryz.underlying326 Tryz.underlying328 rfl rfl Tryz.underlying9 Z9ba Zgda;have h0:=World.var?_cell gER h1 0;have hs:=World.cell?_spot h2;obtain ⟨b,off,sp⟩:=a;have hs:sp=none:=hs;subst hs;exact ⟨b,off,by simpa using h0⟩
def Z6z {H:Type} (zs:List (List UInt8)):DataW H := .agg (zs.map fun z => .lit (.string z))
theorem Zau {H:Type} {enc:TypeId × Value→H} {P:Program} {w:World} {base:Nat} {sp:Nat→Bool} {held:Bool} {fuel:Nat} {t e:TypeId} {n:Nat} {cs:List Value} {zs:List (List UInt8)} {p:List MemPlace}
  (ht:P.underlying t=some (.array n e)) (he:P.underlying e=some .string) (hce:P.cellsOf e=1) (hct:P.cellsOf t=n)
  (h:DataW.trod enc P w base sp held fuel t cs=some (Z6z zs,p)):cs.length=zs.length∧∀ i (hi:i<zs.length),∃ s:ByteArray,cs[i]? = some (.string s)∧s.data.toList=zs[i]:=by
 cases fuel with
 | zero=>simp [DataW.trod] at h
 | succ fuel =>
  simp only [DataW.trod,ht,hce,hct,Nat.mul_one] at h
  split at h
  ·rename_i hl
   obtain ⟨xs,hm,hx⟩:=Option.map_eq_some_iff.1 h
   have hxs:xs.map (·.1)=zs.map fun z=>(DataW.lit (.string z):DataW H):=by
    have:=congrArg Prod.fst hx;simpa [Z6z] using this
   have hxl:xs.length=n:=by simpa using Lib.mapM_length hm
   have hzl:zs.length=n:=by
    have:=congrArg List.length hxs;simp at this;omega
   refine ⟨by omega,fun i hi=>?_⟩
   have hin:i<n:=by omega
   obtain ⟨b,hb,hf⟩:=Lib.mapM_at hm i i (by simp [hin]);obtain ⟨z,hc,rfl,_⟩:=DataW.trod_string he hf
   have h1:cs[i]? = some (.string z):=by
    have:=congrArg (·[0]?) hc;simpa [List.getElem?_take,List.getElem?_drop] using this
   have h2:(xs.map (·.1))[i]? = some (DataW.lit (.string z.data.toList):DataW H):=by simp [hb]
   rw [hxs,List.getElem?_map,List.getElem?_eq_getElem hi] at h2;refine ⟨z,h1,?_⟩;have h3:(DataW.lit (.string zs[i]):DataW H) = .lit (.string z.data.toList):=Option.some.inj h2
   injection h3 with h3
   injection h3 with h3
   exact h3.symm
  ·cases h
theorem gSg:Tryz.prog.globalNamed "hopscotch/lex.signs" = some 0:=by kernel_rfl
theorem gSgType:(Tryz.prog.globals[0]?).map (·.type)=some 212:=by kernel_rfl
theorem Z44 {W:World} (h:laidMet Tryz.prog Zae W):∃ cs:Array Value,W.var? Tryz.prog "hopscotch/lex.signs" = some cs∧cs.size=14∧∀ i (hi:i<signsL.length),∃ s:ByteArray,cs[i]? = some (.string s)∧s.data.toList=signsL[i]:=by
 have e:(Rows.laid_hopscotch_lex_signs:DataW Unit)=Z6z signsL:=by rfl
 have h4:=Zjb (Zjb (Zjb (Zjb (Zjb (Zjb h)))));rw [e] at h4;obtain ⟨ps,⟨g',t',cs,fuel,p,q,hg',ht',hvar,hd,_,_⟩,_⟩:=h4;obtain rfl:=Option.some.inj (gSg.symm.trans hg');obtain rfl:=Option.some.inj (gSgType.symm.trans ht');obtain ⟨h1,h2⟩:=Zau Tryz.underlying212 Tryz.underlying9 Zgda (by kernel_rfl) hd;refine ⟨_,hvar,(by simpa using h1:cs.size=signsL.length).trans rfl,fun i hi=>?_⟩;obtain ⟨s,h3,h4⟩:=h2 i hi;exact ⟨s,by simpa using h3,h4⟩
theorem Zd8 {W:World} (h:W.ShapedOpen Tryz.prog):∃ m,W.cell? ⟨1,0,none⟩=some (.int .i64 m):=by
 obtain ⟨cs,hh,hs,hr⟩:=h.1 1 #[.int .i64 0] 3 (of_decide_eq_true (by kernel_rfl)) (by kernel_rfl);obtain ⟨ts,hts,_,hall⟩:=hr (by kernel_rfl);rw [show Tryz.prog.cellTypes Tryz.prog.depth 3=some [3] by kernel_rfl] at hts;cases hts
 have h1:0<cs.size:=by rw [hs];decide
 obtain ⟨u,hu',hok⟩:=hall 0 cs[0] (by simp [h1])
 have:u=3:=by simpa using hu'.symm
 subst this
 have hcell:W.cell? ⟨1,0,none⟩=some cs[0]:=by simp [World.cell?,hh,h1]
 rw [hcell];unfold Cell.ok at hok;rw [Tryz.underlying3] at hok
 cases hv:cs[0]<;>rw [hv] at hok<;>first | (obtain ⟨rfl,_⟩:=hok;exact ⟨_,rfl⟩) | simp at hok
theorem Zk8 {W:World} (h:laidMet Tryz.prog Zae W) (hS:W.ShapedOpen Tryz.prog):∃ m,∀ g,RelG (Z8b W) g (gE m g):=by
 obtain ⟨m,hml⟩:=Zd8 hS;refine ⟨m,fun g=>?_⟩;unfold gE
 split
 ·rename_i hg
  subst hg;obtain ⟨b,off,h1⟩:=Znba h;refine ⟨?_,trivial⟩;refine .view .old _ 2 0 (fun _ => .iface 326 (.pointer (some ⟨b,off,none⟩))) (fun i hi=>?_) (fun i hi=>?_)
  ·have:i=0:=by simpa [V.cells] using hi
   subst this;refine ⟨by show (W.cell? _).isSome=true;rw [h1]<;>rfl,World.block_lt_of_cell? _ _ h1,h1,rfl⟩
  ·have:i=0:=by simpa [V.cells] using hi
   subst this;exact .iface _ _ _ (.view .old _ b off (fun _ => .nilIface) (fun i hi=>by simp [V.cells] at hi) (fun i hi=>by simp [V.cells] at hi))
 ·split
  ·rename_i hg
   subst hg;have ht:=Zmba h;have hc:∀ i (hi:i<Lib.pow10Tab.length),W.cell? ⟨6,i,none⟩=some (.int .u64 (Lib.pow10Tab.getD i 0)):=fun i hi=>ht.cell gTab i hi;have hlen:Lib.pow10Tab.length=20:=Lib.pow10Tab_length;have hlt:6<W.heap.size:=World.block_lt_of_cell? _ _ (hc 0 (by omega))
   have hv:W.var? Tryz.prog "internal/strconv.uint64pow10" = some (Lib.pow10Tab.map fun z=>Value.int .u64 z).toArray:=ht
   refine ⟨?_,?_⟩
   ·refine .view .old _ 6 0 (fun i => .int .u64 (Lib.pow10Tab.getD i 0)) (fun i hi=>?_) (fun i hi=>?_)
    ·have hi:i<Lib.pow10Tab.length:=by simpa [V.cells] using hi
     rw [Nat.zero_add];exact ⟨by show (W.cell? _).isSome=true;rw [hc i hi]<;>rfl,hlt,hc i hi,rfl⟩
    ·have hi':i<Lib.pow10Tab.length:=by simpa [V.cells] using hi
     have key:∀ v,v=V.int .u64 (Lib.pow10Tab.getD i 0)→Rel (Z8b W) (Value.int .u64 (Lib.pow10Tab.getD i 0)) v:=fun v e=>by rw [e];exact .int _ _
     exact key _ (by simp [V.cells,List.getD,hi'])
   ·refine ⟨hlt,?_⟩
    unfold World.var? at hv;rw [gTab] at hv;have hv:(match W.heap[6]? with | some (Obj.cells cs _ _)=>some cs | _=>none)=some (Lib.pow10Tab.map fun z=>Value.int .u64 z).toArray:=hv
    split at hv
    ·rename_i cs t fr hh
     cases hv;exact ⟨_,t,fr,hh,by simp⟩
    ·cases hv
  ·split
   ·rename_i hg
    subst hg;obtain ⟨cs,hv,hsz,hcs⟩:=Z44 h;have h0:=fun i=>World.var?_cell gSg hv i
    have hc:∀ i (hi:i<signsL.length),∃ s:ByteArray,W.cell? ⟨0,i,none⟩=some (.string s)∧s.data.toList=signsL[i]:=fun i hi=>by
     obtain ⟨s,h1,h2⟩:=hcs i hi;exact ⟨s,by rw [h0 i];exact h1,h2⟩
    have hlt:0<W.heap.size:=by
     obtain ⟨s,h1,_⟩:=hc 0 (by decide);exact World.block_lt_of_cell? _ _ h1
    refine ⟨?_,?_⟩
    ·refine .view .old _ 0 0 (fun i=>(cs[i]?).getD undef) (fun i hi=>?_) (fun i hi=>?_)
     ·have hi:i<signsL.length:=by simpa [V.cells] using hi
      obtain ⟨s,h1,_⟩:=hcs i hi;rw [Nat.zero_add,h1]
      have h2:W.cell? ⟨0,i,none⟩=some (.string s):=by rw [h0 i];exact h1
      exact ⟨by show (W.cell? _).isSome=true;rw [h2]<;>rfl,hlt,h2,rfl⟩
     ·have hi':i<signsL.length:=by simpa [V.cells] using hi
      obtain ⟨s,h1,h2⟩:=hcs i hi';rw [h1]
      have key:∀ v,v=V.str signsL[i]→Rel (Z8b W) (Value.string s) v:=fun v e=>by rw [e];exact .str _ _ h2
      exact key _ (by simp [V.cells])
    ·refine ⟨hlt,?_⟩
     unfold World.var? at hv;rw [gSg] at hv;have hv:(match W.heap[0]? with | some (Obj.cells cs _ _)=>some cs | _=>none)=some cs:=hv
     split at hv
     ·rename_i cs' t fr hh
      cases hv;exact ⟨_,t,fr,hh,by rw [hsz]<;>rfl⟩
     ·cases hv
   ·split
    ·rename_i hg
     subst hg;refine ⟨?_,trivial⟩;refine .view .old _ 1 0 (fun _ => .int .i64 m) (fun i hi=>?_) (fun i hi=>?_)
     ·have:i=0:=by simpa [V.cells] using hi
      subst this;refine ⟨by show (W.cell? _).isSome=true;rw [hml]<;>rfl,World.block_lt_of_cell? _ _ hml,hml,rfl⟩
     ·have:i=0:=by simpa [V.cells] using hi
      subst this;exact .int _ _
    ·exact ⟨.top _,trivial⟩
end Go.Proofs.YtnjcehngoajnnaaGreatDoor
end

section
namespace Go.Proofs.YtnjcehngoajnnaaGreatDoor
open Go.RowKit Go.Hs Go.ChangeShapes Go.WideShapes Go.ChangeAt
open Go.ChangeMaps (open_string shut_string)
set_option maxRecDepth 100000
theorem Zbp (W:World):Reads Tryz.prog W 9 1 (fun s:List UInt8=>[V.str s]):=by
 refine ⟨by kernel_rfl,fun _=>rfl,fun enc held fuel cs x h=>?_⟩;obtain ⟨s,rfl,_,_⟩:=DataW.trod_string Tryz.underlying9 h;exact ⟨s.data.toList,RelC.cons rfl (.str _ _ rfl) RelC.nil⟩
theorem Zvl {k:IntKind} {n:Int} (h:(Lit.int k n).wf=true):InK k n:=by
 simpa [Lit.wf,InK] using h
variable {W:World} {H:Type} {enc:TypeId × Value→H} {b0:Nat} {v:Value} {d:DataW H} {ps:List MemPlace}
theorem argS (hv:Value.okWide Tryz.prog W .any b0 9 v) (h:DataW.Trod enc Tryz.prog W 0 (fun _=>true) true 9 v d ps):∃ x:List UInt8,Rel (Z8b W) v (.str x):=by
 obtain ⟨s,rfl,_,_,_⟩:=open_string Tryz.underlying9 hv h;exact ⟨_,.str s _ rfl⟩
theorem own:ownKnob Tryz.prog.godebug=none:=by kernel_rfl
theorem Zpe:laidOutB Tryz.prog=true:=by kernel_rfl
theorem Zkk {a:Assume} {C:Checked} {os:Os} {f:FuncId} {fn:Func} {H:Type} {enc:TypeId × Value→H} {s:ChangeSpec} {conds:List PathCond} {apart fresh handsOn again:Bool} {X:World→Array Value→Prop}
  (hX:∀ (w w':World) (args:Array Value),w.heap=w'.heap→X w args→X w' args)
  (ownk:ownKnob C.prog.godebug=none) (started:os.Started) (noInit:C.prog.inits.idxOf? f=none) (hfn:C.prog.funcs[f]? = some fn)
  (witness:∃ (w:World) (tape:Tape) (i:Input),w.os=os∧(w.forCall tape i).Shaped C.prog∧i.vars=[]∧Input.okWide C.prog (w.forCall tape i) .any w.heap.size f i ∧
   ((s.pre enc C.prog fn conds apart (w.forCall tape i).memory i.args∧X (w.forCall tape i).memory i.args)∧sizedMet enc C.prog fn (OpenSpec.ofChange s) apart (w.forCall tape i).memory i.args)∧a.holds C.prog (lone (Frame.enter C.prog f i.args .normal) [] (w.forCall tape i)))
  (contract:∀ (W:World) (base:Nat) (args:Array Value) (ds gs:List (DataW H)) (before:List MemPlace),W.ShapedOpen C.prog →
   (∀ (j:Nat) t v,fn.params[j]? = some t→args[j]? = some v→Value.okWide C.prog W .any base t v) →
   DataW.Whole enc C.prog fn.params.toList s.vars apart W args.toList ds gs before→X W args →
   Calls C.prog f args W fun e W'=>∃ v,e = .returned v∧s.post enc C.prog fn apart fresh handsOn again W args v W') :
  ReturnsInHanded a C os f .any (fun w args=>(s.pre enc C.prog fn conds apart w args∧X w args)∧sizedMet enc C.prog fn (OpenSpec.ofChange s) apart w args) (s.post enc C.prog fn apart fresh handsOn again):=by
 refine returnsInHanded_of_calls ownk started noInit witness ?_;intro w tape i _ hsh _ hok hpre _;obtain ⟨_,_,_,fn',hfn',_,_,_,_,hval⟩:=hok;have e:fn'=fn:=Option.some.inj (hfn'.symm.trans hfn);subst e;obtain ⟨⟨⟨ds,gs,before,hw,_⟩,hx⟩,_⟩:=hpre;have hw':=DataW.Whole.of_heap (w':=w.forCall tape i) (by rfl) hw;refine (contract (w.forCall tape i) w.heap.size i.args ds gs before hsh hval hw' (hX _ _ _ (by rfl) hx)).mono fun e W' ⟨v,he,hp⟩=>?_;subst he;exact ChangeSpec.post_blind hp
end Go.Proofs.YtnjcehngoajnnaaGreatDoor
end

section
namespace Go.Proofs.YtnjcehngoajnnaaGreatDoor
open Go.RowKit Go.Hs Go.ChangeShapes Go.WideShapes Go.ChangeAt
set_option maxRecDepth 100000
abbrev XNb:={ n:XN // InK .i64 n.num }
theorem Zh7 (W:World):Reads Tryz.prog W 59 6 (fun n:XNb=>(Z6 n.1).cells):=by
 refine ⟨by kernel_rfl,fun _=>rfl,fun enc held fuel cs x h=>?_⟩;obtain ⟨xs,n,_,_,hl,hlen,hf⟩:=DataW.trod_struct Tryz.underlying59 h
 have e43:Tryz.prog.cellsOf 59=6:=by kernel_rfl
 rw [e43] at hl;have hx:xs.length=6:=hlen
 have rI:Reads Tryz.prog W 2 1 (fun n:{ n:Int // InK .i64 n }=>[V.int .i64 n.1]):=by
  refine ⟨by kernel_rfl,fun _=>rfl,fun enc held fuel cs x h=>?_⟩;obtain ⟨n,rfl,_,hw⟩:=DataW.trod_int Tryz.underlying2 h;exact ⟨⟨n,Zvl hw⟩,RelC.cons rfl (.int _ _) RelC.nil⟩
 obtain ⟨op,h0⟩:=Reads.field (Reads.int (W:=W) Tryz.underlying5 (by kernel_rfl)) (i:=0) (hf 0 _ rfl) (by omega);obtain ⟨num,h1⟩:=Reads.field rI (i:=1) (hf 1 _ rfl) (by omega);obtain ⟨name,h2⟩:=Reads.field (Zbp W) (i:=2) (hf 2 _ rfl) (by omega);obtain ⟨a,h3⟩:=Reads.field (Reads.int (W:=W) Tryz.underlying3 (by kernel_rfl)) (i:=3) (hf 3 _ rfl) (by omega);obtain ⟨b,h4⟩:=Reads.field (Reads.int (W:=W) Tryz.underlying3 (by kernel_rfl)) (i:=4) (hf 4 _ rfl) (by omega);obtain ⟨c,h5⟩:=Reads.field (Reads.int (W:=W) Tryz.underlying3 (by kernel_rfl)) (i:=5) (hf 5 _ rfl) (by omega)
 match cs,hl with
 | [c0,c1,c2,c3,c4,c5],_=>exact ⟨⟨⟨op,num.1,name,a,b,c⟩,num.2⟩,h0.append (h1.append (h2.append (h3.append (h4.append h5))))⟩
theorem Zc4 (W:World):Reads Tryz.prog W 22 1 (fun s:Sl XNb=>[Za .any 6 (fun n:XNb=>Z6 n.1) s]) :=
 Reads.slice Tryz.underlying22 (by kernel_rfl) (by decide) (Zh7 W)
theorem Zg0 (W:World):Reads Tryz.prog W 24 1 (fun s:Sl XNb=>(V.agg [Za .any 6 (fun n:XNb=>Z6 n.1) s]).cells):=by
 refine ⟨by kernel_rfl,fun _=>rfl,fun enc held fuel cs x h=>?_⟩;obtain ⟨xs,n,_,_,hl,hlen,hf⟩:=DataW.trod_struct Tryz.underlying24 h
 have e24:Tryz.prog.cellsOf 24=1:=by kernel_rfl
 rw [e24] at hl;have hx:xs.length=1:=hlen;obtain ⟨s,h0⟩:=Reads.field (Zc4 W) (i:=0) (hf 0 _ rfl) (by omega)
 match cs,hl with
 | [c0],_=>exact ⟨s,h0⟩
def unX:Sl XNb→Sl XN
 | .nil => .nil
 | .mk b l => .mk b (l.map (·.1))
theorem unX_in (s:Sl XNb):∀ n∈(unX s).l,InK .i64 n.num:=by
 cases s with
 | nil=>intro x hx;cases hx
 | mk b l =>
  intro x hx;obtain ⟨y,_,rfl⟩:=List.mem_map.1 hx;exact y.2
theorem unX_enc (c:Col) (s:Sl XNb):Za c 6 (fun n:XNb=>Z6 n.1) s=Za c 6 Z6 (unX s):=by
 cases s with
 | nil=>rfl
 | mk b l=>simp only [Za,unX,List.map_map];rfl
variable {W:World} {H:Type} {enc:TypeId × Value→H} {b0:Nat} {v:Value} {d:DataW H} {ps:List MemPlace}
end Go.Proofs.YtnjcehngoajnnaaGreatDoor
end

section
namespace Go.Proofs.YtnjcehngoajnnaaGreatDoor
open Go.RowKit Go.Hs Go.ChangeShapes Go.WideShapes Go.ChangeAt
set_option maxRecDepth 100000
structure AMr where
 kind:Int
 name:List UInt8
 x:Sl XNb
def AMr.am (a:AMr):AM:=⟨a.kind,a.name,unX a.x⟩
theorem Zd4 (W:World):Reads Tryz.prog W 92 3 (fun a:AMr=>(Zia .any a.am).cells):=by
 refine ⟨by kernel_rfl,fun _=>rfl,fun enc held fuel cs x h=>?_⟩;obtain ⟨xs,n,_,_,hl,hlen,hf⟩:=DataW.trod_struct Tryz.underlying92 h
 have e43:Tryz.prog.cellsOf 92=3:=by kernel_rfl
 rw [e43] at hl;have hx:xs.length=3:=hlen;obtain ⟨k,h0⟩:=Reads.field (Reads.int (W:=W) Tryz.underlying5 (by kernel_rfl)) (i:=0) (hf 0 _ rfl) (by omega);obtain ⟨name,h1⟩:=Reads.field (Zbp W) (i:=1) (hf 1 _ rfl) (by omega);obtain ⟨s,h2⟩:=Reads.field (Zg0 W) (i:=2) (hf 2 _ rfl) (by omega)
 match cs,hl with
 | [c0,c1,c2],_ =>
  refine ⟨⟨k,name,s⟩,?_⟩;have h2:RelC (Z8b W) [c2] [Za .any 6 (fun n:XNb=>Z6 n.1) s]:=h2;rw [unX_enc] at h2;exact h0.append (h1.append h2)
theorem Zf0 (W:World):Reads Tryz.prog W 61 1 (fun s:Sl AMr=>[Za .any 3 (fun a:AMr=>Zia .any a.am) s]) :=
 Reads.slice Tryz.underlying61 (by kernel_rfl) (by decide) (Zd4 W)
theorem Ze4 (W:World):Reads Tryz.prog W 63 1 (fun s:Sl AMr=>(V.agg [Za .any 3 (fun a:AMr=>Zia .any a.am) s]).cells):=by
 refine ⟨by kernel_rfl,fun _=>rfl,fun enc held fuel cs x h=>?_⟩;obtain ⟨xs,n,_,_,hl,hlen,hf⟩:=DataW.trod_struct Tryz.underlying63 h
 have e24:Tryz.prog.cellsOf 63=1:=by kernel_rfl
 rw [e24] at hl;have hx:xs.length=1:=hlen;obtain ⟨s,h0⟩:=Reads.field (Zf0 W) (i:=0) (hf 0 _ rfl) (by omega)
 match cs,hl with
 | [c0],_=>exact ⟨s,h0⟩
def unA:Sl AMr→Sl AM
 | .nil => .nil
 | .mk b l => .mk b (l.map AMr.am)
theorem unA_in (s:Sl AMr):∀ a∈(unA s).l,∀ n∈a.x.l,InK .i64 n.num:=by
 cases s with
 | nil=>intro x hx;cases hx
 | mk b l =>
  intro x hx;obtain ⟨y,_,rfl⟩:=List.mem_map.1 hx;exact unX_in y.x
theorem unA_enc (c:Col) (s:Sl AMr):Za c 3 (fun a:AMr=>Zia c a.am) s=Za c 3 (Zia c) (unA s):=by
 cases s with
 | nil=>rfl
 | mk b l=>simp only [Za,unA,List.map_map];rfl
variable {W:World} {H:Type} {enc:TypeId × Value→H} {b0:Nat} {v:Value} {d:DataW H} {ps:List MemPlace}
theorem argB (hv:Value.okWide Tryz.prog W .any b0 63 v) (h:DataW.Trod enc Tryz.prog W 0 (fun _=>true) true 63 v d ps):∃ x:Sl AM,(∀ a∈x.l,∀ n∈a.x.l,InK .i64 n.num)∧Rel (Z8b W) v (.agg [Za .old 3 (Zia .old) x]):=by
 obtain ⟨fuel,h⟩:=h;obtain ⟨x,hx⟩:=(Ze4 W).2.2 enc true fuel _ _ h
 have key:Rel (Z8b W) v (.agg [Za .any 3 (Zia .any) (unA x)]):=by
  rw [← unA_enc];unfold Value.okWide at hv;rw [Tryz.underlying63] at hv;obtain ⟨cs,rfl,_,_⟩:=hv;have hx':RelC (Z8b W) (Value.agg cs).cells.toList [Za .any 3 (fun a:AMr=>Zia .any a.am) x]:=hx;exact Z21 hx'
 have h2:=key.ofW_old;refine ⟨unA x,unA_in x,?_⟩;simpa only [go_sem,Z8o,List.map_cons,List.map_nil] using h2
end Go.Proofs.YtnjcehngoajnnaaGreatDoor
end

section
namespace Go.Proofs.YtnjcehngoajnnaaGreatDoor
open Go.RowKit Go.Hs Go.ChangeShapes Go.WideShapes Go.ChangeAt
set_option maxRecDepth 100000
theorem Z3t {n:Int} (h:InK .i64 n):Zec n=true:=decide_eq_true h
abbrev BIb:={ p:List UInt8 × Int // InK .i64 p.2 }
theorem Zi7 (W:World):Reads Tryz.prog W 55 2 (fun p:BIb=>(Zj p.1).cells):=by
 refine ⟨by kernel_rfl,fun _=>rfl,fun enc held fuel cs x h=>?_⟩;obtain ⟨xs,n,_,_,hl,hlen,hf⟩:=DataW.trod_struct Tryz.underlying55 h
 have e43:Tryz.prog.cellsOf 55=2:=by kernel_rfl
 rw [e43] at hl;have hx:xs.length=2:=hlen
 have rI:Reads Tryz.prog W 2 1 (fun n:{ n:Int // InK .i64 n }=>[V.int .i64 n.1]):=by
  refine ⟨by kernel_rfl,fun _=>rfl,fun enc held fuel cs x h=>?_⟩;obtain ⟨n,rfl,_,hw⟩:=DataW.trod_int Tryz.underlying2 h;exact ⟨⟨n,Zvl hw⟩,RelC.cons rfl (.int _ _) RelC.nil⟩
 obtain ⟨name,h0⟩:=Reads.field (Zbp W) (i:=0) (hf 0 _ rfl) (by omega);obtain ⟨num,h1⟩:=Reads.field rI (i:=1) (hf 1 _ rfl) (by omega)
 match cs,hl with
 | [c0,c1],_=>exact ⟨⟨(name,num.1),num.2⟩,h0.append h1⟩
theorem Zf4 (W:World):Reads Tryz.prog W 25 1 (fun s:Sl BIb=>[Za .any 2 (fun p:BIb=>Zj p.1) s]) :=
 Reads.slice Tryz.underlying25 (by kernel_rfl) (by decide) (Zi7 W)
def unB:Sl BIb→Sl (List UInt8 × Int)
 | .nil => .nil
 | .mk b l => .mk b (l.map (·.1))
theorem unB_in (s:Sl BIb):∀ n∈(unB s).l,Zec n.2=true:=by
 cases s with
 | nil=>intro x hx;cases hx
 | mk b l =>
  intro x hx;obtain ⟨y,_,rfl⟩:=List.mem_map.1 hx;exact Z3t y.2
theorem unB_enc (c:Col) (s:Sl BIb):Za c 2 (fun p:BIb=>Zj p.1) s=Za c 2 Zj (unB s):=by
 cases s with
 | nil=>rfl
 | mk b l=>simp only [Za,unB,List.map_map];rfl
variable {W:World} {H:Type} {enc:TypeId × Value→H} {b0:Nat} {v:Value} {d:DataW H} {ps:List MemPlace}
theorem argN (hv:Value.okWide Tryz.prog W .any b0 25 v) (h:DataW.Trod enc Tryz.prog W 0 (fun _=>true) true 25 v d ps):∃ x:Sl (List UInt8 × Int),(∀ p∈x.l,Zec p.2=true)∧Rel (Z8b W) v (Za .old 2 Zj x):=by
 obtain ⟨fuel,h⟩:=h;obtain ⟨x,hx⟩:=(Zf4 W).2.2 enc true fuel _ _ h
 have key:Rel (Z8b W) v (Za .any 2 Zj (unB x)):=by
  rw [← unB_enc];unfold Value.okWide at hv;rw [Tryz.underlying25] at hv
  have hc:v.cells = #[v]:=by
   unfold Cell.okWide Cell.ok at hv;rw [Tryz.underlying25] at hv
   cases v<;>first | rfl | (simp at hv)
  rw [hc] at hx;exact hx.rel 0 (by simp) (by simp)
 have h2:=key.ofW_old;refine ⟨unB x,unB_in x,?_⟩;simpa only [go_sem,Zx,List.map_cons,List.map_nil] using h2
theorem argJ (hv:Value.okWide Tryz.prog W .any b0 2 v) (h:DataW.Trod enc Tryz.prog W 0 (fun _=>true) true 2 v d ps):∃ x:Int,Zec x=true∧Rel (Z8b W) v (.int .i64 x):=by
 obtain ⟨n,rfl,_,_,hw⟩:=open_int Tryz.underlying2 hv h;exact ⟨n,Z3t (Zvl hw),.int _ _⟩
end Go.Proofs.YtnjcehngoajnnaaGreatDoor
end

section
namespace Go.Proofs.YtnjcehngoajnnaaGreatDoor
open Go.RowKit Go.Hs Go.ChangeShapes Go.WideShapes Go.ChangeAt
set_option maxRecDepth 100000
theorem Zqx {x:Sl AM} (h:∀ a∈x.l,∀ n∈a.x.l,InK .i64 n.num):∀ a∈x.l,∀ n∈a.x.l,Zec n.num=true:=fun a ha n hn=>Z3t (h a ha n hn)
variable {W:World} {H:Type} {enc:TypeId × Value→H} {b0:Nat} {v:Value} {d:DataW H} {ps:List MemPlace}
theorem argU (hv:Value.okWide Tryz.prog W .any b0 5 v) (h:DataW.Trod enc Tryz.prog W 0 (fun _=>true) true 5 v d ps):∃ x:Int,(0≤x∧x<256)∧Rel (Z8b W) v (.int .u8 x):=by
 obtain ⟨n,rfl,_,_,hw⟩:=open_int Tryz.underlying5 hv h;have hk:InK .u8 n:=Zvl hw;have e1:IntKind.u8.min=0:=rfl;have e2:IntKind.u8.max=255:=rfl;refine ⟨n,?_,.int _ _⟩;unfold InK at hk;omega
end Go.Proofs.YtnjcehngoajnnaaGreatDoor
end

section
namespace Go.Proofs.YtnjcehngoajnnaaGreatDoor
open Go.RowKit Go.Hs Go.ChangeShapes Go.WideShapes Go.ChangeAt
set_option maxRecDepth 100000
set_option maxHeartbeats 4000000
theorem Z66:mapsRowed Tryz.prog=true:=by kernel_rfl
theorem Za0:(Tryz.prog.stops==[])=true:=by kernel_rfl
theorem Zb0:(Tryz.prog.stopKnobs==[])=true:=by kernel_rfl
theorem Z86:(Rows.evalTextsRow.plainKeys==Tryz.prog.plainKeys)=true:=by kernel_rfl
theorem Zc0:Tryz.prog.stopsHeard=true:=by kernel_rfl
theorem Zd0:Tryz.prog.mayEnter=true:=by kernel_rfl
theorem Zgt:(Rows.evalTextsRow.lifted==Tryz.prog.liftsFinal)=true:=by kernel_rfl
theorem Z76:(Tryz.prog.make==some Rows.evalTextsRow.make)=true:=by kernel_rfl
end Go.Proofs.YtnjcehngoajnnaaGreatDoor
end

section
namespace Go.Hs
open Go.Proofs
set_option maxRecDepth 10000
set_option maxHeartbeats 1000000
theorem Zzo (G:Nat→V) (hG:GOk G) (c1 c2 d1 d2:Col) (sa sb ea eb:Sl (List UInt8 × Int)) (d:Int) (h1:sa.l=sb.l) (h2:ea.l=eb.l) (hs:sa.l.length<1000000) (he:ea.l.length<1000000) :
  Spec Tryz.prog G 37 [.agg [Za c1 2 Zj sa,Za c2 2 Zj ea,.int .i64 d],.agg [Za d1 2 Zj sb,Za d2 2 Zj eb,.int .i64 d]] Zp (fun v _=>v = .bool true):=by
 refine Zo 0 41 [.tmp 4] Tryz.func37 fun X=>?_;refine Z1 ?_;intro g2 g3;refine Zs ?_;refine AW.weak (Zz (fun o=>o==2 || o==3) (l:=[(2,.view .new (.agg [Za c1 2 Zj sa,Za c2 2 Zj ea,.int .i64 d])),(3,.view .new (.agg [Za d1 2 Zj sb,Za d2 2 Zj eb,.int .i64 d]))]) (m:=[]) ?_ trivial) ?_
 ·simp -implicitDefEqProofs only[go_sem,seval,↓reduceIte]
  exact ⟨Fz.ptr (v := .agg [Za c1 2 Zj sa,Za c2 2 Zj ea,.int .i64 d]) (c := .new) (fz:=0) rfl zp,Fz.ptr (v := .agg [Za d1 2 Zj sb,Za d2 2 Zj eb,.int .i64 d]) (c := .new) (fz:=0) rfl zp⟩
 have hb:=Z8e G hG d1.ent sb (by rw [← h1];exact hs);refine Z2 ?_;refine Zv ⟨fun i=>if i=2 then Za .new 2 Zj (Zu sb.l) else .top,fun _ => .pure⟩ (by kernel_rfl) hG (by kernel_rfl) (by kernel_rfl) ?_;simp -implicitDefEqProofs only[go_sem,seval,↓reduceIte];refine ⟨⟨by kernel_rfl,?_⟩,?_⟩
 ·simp -implicitDefEqProofs only[go_sem,seval,↓reduceIte,List.map_nil,List.map_cons]
  refine hb.mono ?_;rintro _ _ rfl;exact zp
 intro g5;refine Zs ?_;refine Z ?_
 refine Z6a eb.l.length (fun k (gx:Nat)=>st [(2,.view .new (.agg [Za c1 2 Zj sa,Za c2 2 Zj ea,.int .i64 d])),(3,.view .new (.agg [Za d1 2 Zj sb,Za d2 2 Zj eb,.int .i64 d])),(5,.ptr 5 g5 0),(6,.int .i64 k)] [(5,.cells .new g5 0 [Za .new 2 Zj (Zu sb.l),grown 36 gx 2 (eb.l.take k),.int .i64 d]),(36,Zta gx Zj (eb.l.take k))])
  (fun k _=>True) 0 0 (Nat.zero_le _) trivial (Ze zp (by simp -implicitDefEqProofs only[go_sem,seval,↓reduceIte];exact ⟨rfl,rfl⟩)) ?_
 intro k gx hk _ L3 hL3;rw [h2] at he
 by_cases hk1:k<eb.l.length
 ·have hg:=List.getElem?_eq_getElem hk1
  have htk:eb.l.take (k+1)=eb.l.take k++[eb.l[k]]:=by rw [List.take_succ_eq_append_getElem hk1]
  have hlt':(eb.l.take k).length=k:=by rw [List.length_take];omega
  have hlt:decide ((k:Int)<(eb.l.length:Int))=true:=zT;have w1:IntKind.i64.wrap ((k:Int)+1)=(k:Int)+1:=w64 (by omega) (by omega);generalize eb.l[k]=n at hg htk;generalize eb.l.take k=ns at htk hlt' ⊢;refine Z1f hlt ?_;refine ZTf (zi hg (zi Zwc (zi hk1 (zi @Int.natCast_nonneg @Int.ofNat_lt)))) hG ?_;intro g35;refine Z1a (f:=Zj) (l:=ns) (l2:=[n]) (g:=gx) Zoa rfl rfl rfl zp (Zca (by omega) (by simp;omega)) fun g2=>?_;refine Zs ?_;refine Zf w1 ?_;exact hL3 _ ⟨hk1,g2,trivial,Ze zp (by simp -implicitDefEqProofs only[go_sem,seval,↓reduceIte];rw [htk];exact ⟨rfl,rfl⟩)⟩
 have hke:k=eb.l.length:=by omega
 have hlt:decide ((k:Int)<(eb.l.length:Int))=false:=zF;rw [hke,List.take_length];rw [hke] at hlt;refine AW.weak (Zz (fun o=>o==36) (l:=[(2,.view .new (.agg [Za c1 2 Zj sa,Za c2 2 Zj ea,.int .i64 d])),(3,.view .new (.agg [Za d1 2 Zj sb,Za d2 2 Zj eb,.int .i64 d])),(5,.ptr 5 g5 0),(6,.int .i64 eb.l.length)]) (m:=[(5,.cells .new g5 0 [Za .new 2 Zj (Zu sb.l),Za .new 2 Zj (Zu eb.l),.int .i64 d])]) ?_ ?_) ?_
 ·simp -implicitDefEqProofs only[go_sem,seval,↓reduceIte]
  exact ⟨Zb _,Zb _,Zb _,Zb _⟩
 ·simp only [Zm,Zt,and_true]
  exact Zch (c := .new) (fz:=0) (cs:=[Za .new 2 Zj (Zu sb.l),grown 36 gx 2 eb.l,.int .i64 d]) rfl zp ⟨Zb _,Z4a rfl zp Zoa,Zb _,trivial⟩
 refine Zf hlt ?_;refine Zc hG ?_ (s:=Zxp G hG _ _ _ _ sa (Zu sb.l) ea (Zu eb.l) d (by rw [Zha];exact h1) (by rw [Zha];exact h2) hs (by rw [h2];exact he));exact Zr
theorem Zdq {b:List ASt} (h:Zob b=0) (k:Nat):Zob (b.take k)=0∧Zob (b.drop k)=0:=by
 unfold Zob at h
 split at h
 ·cases h
 split at h
 ·rename_i h1 h2
  rw [List.all_eq_true] at h2;unfold Zob;refine ⟨?_,?_⟩
  ·rw [if_neg (by rw [List.length_take];omega),if_pos (List.all_eq_true.2 fun s hs=>h2 s (List.mem_of_mem_take hs))]
  ·rw [if_neg (by rw [List.length_drop];omega),if_pos (List.all_eq_true.2 fun s hs=>h2 s (List.mem_of_mem_drop hs))]
 ·cases h
theorem Zbba (nq:Bool) (l:List (List UInt8 × Int)):Z9h (svU nq l)=nq:=by cases nq<;>rfl
theorem Zv6 {s:Sl AM} (i j:Nat):((s.sub i j).l.map AM.v)=((s.l.map AM.v).drop i).take (j-i):=by
 rw [Z0h,List.map_take,List.map_drop]
theorem Z83 {arg:Int} {b:List ASt} (hc:Zob b=0) (k:Nat) (vs:List (List UInt8 × Int)):((runB arg (b.take k) vs).2≠0→runB arg b vs=runB arg (b.take k) vs) ∧
  ((runB arg (b.take k) vs).2=0→runB arg b vs=Zzj (runB arg (b.take k) vs).1.emits (runB arg (b.take k) vs).1.done (runB arg (b.drop k) (runB arg (b.take k) vs).1.vars)):=by
 obtain ⟨h1,h2⟩:=Zdq hc k;have e0:∀ v,runB arg b v=Zhi (worthU arg) b ⟨v,[],0⟩:=fun v=>if_neg (by rw [hc];decide);have e1:∀ v,runB arg (b.take k) v=Zhi (worthU arg) (b.take k) ⟨v,[],0⟩:=fun v=>if_neg (by rw [h1];decide);have e2:∀ v,runB arg (b.drop k) v=Zhi (worthU arg) (b.drop k) ⟨v,[],0⟩:=fun v=>if_neg (by rw [h2];decide);have ha:=Z1o (w:=worthU arg) (b.take k) (b.drop k) ⟨vs,[],0⟩;rw [List.take_append_drop] at ha;rw [e0,e1,e2];refine ⟨fun h=>by rw [ha,if_pos h],fun h=>?_⟩;rw [ha,if_neg (fun q=>q h)];have:=Z4r (w:=worthU arg) (Zhi (worthU arg) (b.take k) ⟨vs,[],0⟩).1.emits (Zhi (worthU arg) (b.take k) ⟨vs,[],0⟩).1.done (b.drop k) ⟨(Zhi (worthU arg) (b.take k) ⟨vs,[],0⟩).1.vars,[],0⟩;rw [List.append_nil,Nat.add_zero] at this;exact this
theorem RunIn.sub {s:Sl AM} {vs:List (List UInt8 × Int)} {arg:Int} (h:RunIn s vs arg) (i j:Nat) {v:List (List UInt8 × Int)} (hl:v.length<100000) (hf:∀ p∈v,Zec p.2=true):RunIn (s.sub i j) v arg:=by
 have hm:∀ a∈(s.sub i j).l,a∈s.l:=fun a ha=>by
  rw [Z0h] at ha;exact List.mem_of_mem_drop (List.mem_of_mem_take ha)
 refine ⟨?_,fun a ha=>h.hb a (hm a ha),fun a ha=>h.hn a (hm a ha),hl,hf,h.ha⟩;rw [Z0h,List.length_take,List.length_drop];have:=h.hs;omega
end Go.Hs
end

section
namespace Go.Hs
open Go.Proofs
set_option maxRecDepth 10000
set_option maxHeartbeats 1000000
theorem Z2o (G:Nat→V) (hE:GExp G) (c c1 c2:Col) (s:Sl AM) (vs:Sl (List UInt8 × Int)) (arg:Int) (h:RunIn s vs.l arg) {b:List ASt} (hb:s.l.map AM.v=b) (hc:Zob b=0) :
  Spec Tryz.prog G 32 [.agg [Za c 3 (Zia c1) s],Za c2 2 Zj vs,.int .i64 arg] Zp (fun v _=>v = .tuple [.agg [Za .new 2 Zj (svU (Z9h vs) (runB arg b vs.l).1.vars),Za .new 2 Zj (Zu (runB arg b vs.l).1.emits),.int .i64 (runB arg b vs.l).1.done],.int .i64 (runB arg b vs.l).2]):=by
 subst hb;have:=Zjt G hE c c1 c2 s vs arg h;have e:svR (s.l.map AM.v) vs (runB arg (s.l.map AM.v) vs.l).1.vars=svU (Z9h vs) (runB arg (s.l.map AM.v) vs.l).1.vars:=if_neg (by rw [hc];decide);rw [e] at this;exact this
theorem Zm8 (G:Nat→V) (hE:GExp G) (c c1 c2:Col) (s:Sl AM) (hn:∀ a∈s.l,∀ n∈a.x.l,Zec n.num=true) (vs:Sl (List UInt8 × Int)) (hf:∀ p∈vs.l,Zec p.2=true) (arg:Int) (ha:Zec arg=true) (n:Int) (hu:0≤n∧n<256) :
  Spec Tryz.prog G 10 [.agg [Za c 3 (Zia c1) s],Za c2 2 Zj vs,.int .i64 arg,.int .u8 n] Zp (fun v _=>v = .bool true):=by
 have hG:=hE.ok;have hW:=Zai G hE;refine Zo 0 104 [.tmp 8] Tryz.func10 fun X=>?_;refine Z1 ?_;intro g4;refine Zva (fun (_:Unit)=>st [(1,Za c2 2 Zj vs),(2,.int .i64 arg),(3,.int .u8 n),(4,.ptr 4 g4 0)] [(4,.cells .new g4 0 [Za c 3 (Zia c1) s])]) (fun _=>Few12 s.l vs.l∧Zob (s.l.map AM.v)=0) (fun K1 hK1=>?_) ?_
 ·refine Z ?_
  refine CallA.pure hG (by kernel_rfl) ?_;refine Zs ?_;refine (Zbk G hG _ _ _ s vs).mono ?_;rintro _ _ ⟨b,rfl,hb⟩
  cases b with
  | false =>
   refine Zs ?_;refine Z ?_;refine Zc hG ?_ (s:=hW);exact Zr
  | true =>
   obtain ⟨f1,f2,f3,f4⟩:=hb rfl;refine Zs ?_;refine Zc hG ?_ (s:=Zjq G hE _ _ s (by omega) (fun a ha=>⟨by have:=(f3 a ha).1;omega,by have:=(f3 a ha).2.1;omega,fun n hn=>by have:=(f3 a ha).2.2 n hn;omega⟩))
   rcases Zsj (s.l.map AM.v) with hc | hc
   ·rw [hc]
    refine Zs ?_;refine Z ?_;exact hK1 _ () ⟨⟨f1,f2,f3,f4⟩,hc⟩ (Ze zp zp)
   ·rw [hc]
    refine Zs ?_;refine Z ?_;refine Zc hG ?_ (s:=hW);exact Zr
 rintro _ ⟨⟨f1,f2,f3,f4⟩,hc⟩;have hIn:RunIn s vs.l arg:=⟨by omega,fun a ha=>⟨by have:=(f3 a ha).1;omega,by have:=(f3 a ha).2.1;omega,fun n hn=>by have:=(f3 a ha).2.2 n hn;omega⟩,hn,by omega,hf,ha⟩;have hsl:=hIn.hs
 obtain ⟨k,hk,hkl⟩:∃ k:Nat,n.tmod ((s.l.length:Int)+1)=(k:Int)∧k≤s.l.length:=by
  refine ⟨n.toNat % (s.l.length+1),?_,Nat.lt_succ_iff.1 (Nat.mod_lt n.toNat (Nat.succ_pos s.l.length))⟩;rw [Int.tmod_eq_emod_of_nonneg hu.1,Int.natCast_emod,Int.toNat_of_nonneg hu.1];rfl
 have w1:IntKind.i64.wrap n=n:=w64 (by omega) (by omega);have w2:IntKind.i64.wrap ((s.l.length:Int)+1)=(s.l.length:Int)+1:=w64 (by omega) (by omega);have hne:(((s.l.length:Int)+1)=0)=False:=eq_false (by omega);obtain ⟨p1,p2⟩:=Z83 (arg:=arg) hc k vs.l;obtain ⟨hc1,hc2⟩:=Zdq hc k
 have e1:(s.sub 0 k).l.map AM.v=(s.l.map AM.v).take k:=by rw [Zv6];simp
 have e2:(s.sub k s.l.length).l.map AM.v=(s.l.map AM.v).drop k:=by
  rw [Zv6,List.take_of_length_le (by rw [List.length_drop,List.length_map];exact Nat.le_refl _)]
 have hIn1:=hIn.sub 0 k hIn.hv hIn.hf;have ok1:=Zkm hIn1 (by rw [e1];exact hc1);rw [e1] at ok1;have hIn2:=hIn.sub k s.l.length (by rw [ok1.len];exact hIn.hv) ok1.fit;have hA:=fun c c1 c2=>Z2o G hE c c1 c2 s vs arg hIn rfl hc;have hB:=fun c c1 c2=>Z2o G hE c c1 c2 (s.sub 0 k) vs arg hIn1 e1 hc1;have hnv:∀ l:List (List UInt8 × Int),l.length=vs.l.length→(svU (Z9h vs) l).l=l:=fun l hl=>Z5z fun q=>List.length_eq_zero_iff.1 (by rw [hl,Zz7 q];rfl);have hV1:=hnv _ ok1.len;have hC:=fun c c1 c2=>Z2o G hE c c1 c2 (s.sub k s.l.length) (svU (Z9h vs) (runB arg ((s.l.map AM.v).take k) vs.l).1.vars) arg (by rw [hV1];exact hIn2) e2 hc2;have ok2:=Zkm hIn2 (by rw [e2];exact hc2);rw [e2] at ok2;rw [hV1,Zbba] at hC;have ok0:=Zkm hIn hc;generalize runB arg (s.l.map AM.v) vs.l=q0 at hA p1 p2 ok0;generalize runB arg ((s.l.map AM.v).take k) vs.l=q1 at hB hC p1 p2 ok1 ok2 hV1 hIn2;generalize runB arg ((s.l.map AM.v).drop k) q1.1.vars=q2 at hC p2 ok2;refine Z1f (zi w1 (zi w2 (zi hne hk))) ?_;refine Z1 ?_;refine Zc hG ?_ (s:=hA _ _ _);intro g10;refine Zs ?_
 have hkk:(k:Int)≤(s.l.length:Int):=by omega
 refine Zf (zi hkl (zi hkk (zi @Int.natCast_nonneg (zi @Int.toNat_natCast @Nat.zero_le)))) ?_;refine Zc hG ?_ (s:=hB _ _ _);intro g12;refine Zs ?_;have hl0:=hnv _ ok0.len;have hsl20:=f1
 have hsub1:(s.sub 0 k).l.length≤20:=by rw [Z0h,List.length_take,List.length_drop];omega
 have hsub2:(s.sub k s.l.length).l.length≤20:=by rw [Z0h,List.length_take,List.length_drop];omega
 have em0:=ok0.em;have em1:=ok1.em;have em2:=ok2.em;have dn1:=ok1.done;have dn2:=ok2.done
 by_cases hq:q1.2=0
 rotate_left
 ·have q6:(q1.2 != 0)=true:=by simpa using hq
  have hq01:=p1 hq;subst hq01
  have e9:(q0.2==q0.2)=true:=by simp
  refine Zf q6 ?_;refine Zc hG ?_ (s:=Zzo G hG _ _ _ _ (svU (Z9h vs) q0.1.vars) (svU (Z9h vs) q0.1.vars) (Zu q0.1.emits) (Zu q0.1.emits) q0.1.done rfl rfl (by rw [hl0,ok0.len];omega) (by rw [Zha];omega));refine Zsf e9 ?_;refine Zc hG ?_ (s:=hW);exact Zr
 have q6:(q1.2 != 0)=false:=by simp [hq]
 have hq0:=p2 hq;refine AW.weak (Zz (fun o=>o==10 || o==12) (l:=[(2,.int .i64 arg),(4,.ptr 4 g4 0),(9,.int .i64 k),(10,.view .new (.agg [Za .new 2 Zj (svU (Z9h vs) q0.1.vars),Za .new 2 Zj (Zu q0.1.emits),.int .i64 q0.1.done])),(11,.int .i64 q0.2),(12,.view .new (.agg [Za .new 2 Zj (svU (Z9h vs) q1.1.vars),Za .new 2 Zj (Zu q1.1.emits),.int .i64 q1.1.done])),(13,.int .i64 q1.2)]) (m:=[(4,.cells .new g4 0 [Za c 3 (Zia c1) s])]) ?_ ?_) ?_
 ·simp -implicitDefEqProofs only[go_sem,seval,↓reduceIte]
  exact ⟨Zb _,Zb _,Zb _,Fz.ptr (v := .agg [Za .new 2 Zj (svU (Z9h vs) q0.1.vars),Za .new 2 Zj (Zu q0.1.emits),.int .i64 q0.1.done]) (c := .new) (fz:=0) rfl zp,Zb _,Fz.ptr (v := .agg [Za .new 2 Zj (svU (Z9h vs) q1.1.vars),Za .new 2 Zj (Zu q1.1.emits),.int .i64 q1.1.done]) (c := .new) (fz:=0) rfl zp,Zb _⟩
 ·simp only [Zm,Zt,and_true]
  exact FzO.keep rfl zp
 refine Z1f q6 ?_;refine Z0 ?_;refine Z2 ?_;refine Zv ⟨fun i=>if i=8 then .tuple [.agg [Za .new 2 Zj (svU (Z9h vs) q2.1.vars),Za .new 2 Zj (Zu q2.1.emits),.int .i64 q2.1.done],.int .i64 q2.2] else .top,fun _ => .pure⟩ (by kernel_rfl) hG (by kernel_rfl) (by kernel_rfl) ?_;simp -implicitDefEqProofs only[go_sem,seval,↓reduceIte,hkl,hkk,Int.natCast_nonneg,Int.toNat_natCast,Nat.zero_le,Nat.le_refl];refine ⟨⟨by kernel_rfl,?_⟩,?_⟩
 ·simp -implicitDefEqProofs only[go_sem,seval,↓reduceIte,List.map_nil,List.map_cons]
  refine (hC _ _ _).mono ?_;rintro _ _ rfl;exact zp
 intro g14;refine AW.weak (Ze (l:=[(10,.view .new (.agg [Za .new 2 Zj (svU (Z9h vs) q0.1.vars),Za .new 2 Zj (Zu q0.1.emits),.int .i64 q0.1.done])),(11,.int .i64 q0.2),(12,.view .new (.agg [Za .new 2 Zj (svU (Z9h vs) q1.1.vars),Za .new 2 Zj (Zu q1.1.emits),.int .i64 q1.1.done])),(14,.ptr 14 g14 0),(15,.int .i64 q2.2)]) (m:=[(14,.cells .new g14 0 [Za .new 2 Zj (svU (Z9h vs) q2.1.vars),Za .new 2 Zj (Zu q2.1.emits),.int .i64 q2.1.done])]) zp zp) ?_;refine Z1 ?_;refine Z ?_;refine Z1a (f:=Zj) (l:=[]) (l2:=q1.1.emits) (g:=0) Zoa rfl rfl rfl zp (Zca (by omega) (by simp;omega)) fun g2=>?_;rw [List.nil_append];refine Zs ?_;refine Zva (fun (_:Unit)=>st [(10,.view .new (.agg [Za .new 2 Zj (svU (Z9h vs) q0.1.vars),Za .new 2 Zj (Zu q0.1.emits),.int .i64 q0.1.done])),(11,.int .i64 q0.2),(12,.view .new (.agg [Za .new 2 Zj (svU (Z9h vs) q1.1.vars),Za .new 2 Zj (Zu q1.1.emits),.int .i64 q1.1.done])),(14,.ptr 14 g14 0),(15,.int .i64 q2.2),(16,Za .new 2 Zj (Zu (q1.1.emits++q2.1.emits)))] [(14,.cells .new g14 0 [Za .new 2 Zj (svU (Z9h vs) q2.1.vars),Za .new 2 Zj (Zu q2.1.emits),.int .i64 q2.1.done])]) (fun _=>True) (fun K4 hK4=>?_) ?_
 ·refine Z ?_
  refine Zws (f:=Zj) (l:=q1.1.emits) (l2:=q2.1.emits) (o:=80) (g:=g2) Zoa rfl rfl rfl zp (Zca (by omega) (by omega)) fun o2 g2 ho2=>?_
  rcases ho2 with rfl | rfl
  ·refine Zs ?_
   refine hK4 _ () trivial (Zz (fun o=>o==80) ?_ ?_)
   ·simp -implicitDefEqProofs only[go_sem,seval,↓reduceIte]
    exact ⟨Zb _,Zb _,Zb _,Zb _,Zb _,Z4a rfl zp Zoa⟩
   ·simp only [Zm,Zt,and_true]
    exact FzO.keep rfl zp
  ·refine Zs ?_
   refine hK4 _ () trivial (Zz (fun o=>o==84) ?_ ?_)
   ·simp -implicitDefEqProofs only[go_sem,seval,↓reduceIte]
    exact ⟨Zb _,Zb _,Zb _,Zb _,Zb _,Z4a rfl zp Zoa⟩
   ·simp only [Zm,Zt,and_true]
    exact FzO.keep rfl zp
 intro _ _;have w3:IntKind.i64.wrap ((q2.1.done:Int)+(q1.1.done:Int))=(q2.1.done:Int)+(q1.1.done:Int):=w64 (by omega) (by omega);refine Zf w3 ?_
 have e9:(q2.2==q2.2)=true:=by simp
 subst hq0
 have hd:(((Zzj q1.1.emits q1.1.done q2).1.done:Nat):Int)=(q2.1.done:Int)+(q1.1.done:Int):=by show ((q1.1.done+q2.1.done:Nat):Int)=_;omega
 have e8:((Zzj q1.1.emits q1.1.done q2).2==q2.2)=true:=e9;rw [hd];refine Zc hG ?_ (s:=Zzo G hG _ _ _ _ (svU (Z9h vs) (Zzj q1.1.emits q1.1.done q2).1.vars) (svU (Z9h vs) q2.1.vars) (Zu (Zzj q1.1.emits q1.1.done q2).1.emits) (Zu (q1.1.emits++q2.1.emits)) ((q2.1.done:Int)+(q1.1.done:Int)) rfl rfl (by rw [hl0,ok0.len];omega) (by rw [Zha];omega));refine Zsf e8 ?_;refine Zc hG ?_ (s:=hW);exact Zr
end Go.Hs
end
