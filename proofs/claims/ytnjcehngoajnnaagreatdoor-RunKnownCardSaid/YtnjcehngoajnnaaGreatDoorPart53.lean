/- Part 53 of a proof; no condition. -/
import Derived.Test.YtnjcehngoajnnaaGreatDoorPart51
import Derived.Test.YtnjcehngoajnnaaGreatDoorPart52
import Derived.Test.YtnjcehngoajnnaaGreatDoorRows
import Derived.ProofKit
import Derived.OpenShut
import Derived.LaidLaws
import Derived.Stop.LaidErr
import Derived.Lib.LaidTab
import Derived.Handed
import Derived.ChangeMaps5
import Derived.Test.YtnjcehngoajnnaaGreatDoorCards
set_option linter.unusedSimpArgs false
set_option linter.unusedVariables false
section
namespace Go.Hs
open Go.Proofs
set_option maxHeartbeats 1000000
set_option maxRecDepth 10000
def shB (i:Nat):Sh:=if i=0 then .str else .int .i64
def Zeca (M:Nat):Sh := .row true 2 M shB
def shR (M:Nat):Sh := .ptr true false 3 (fun i=>if i=2 then .int .i64 else Zeca M)
theorem Z5ea (M:Nat):(shR M).free:=by
 refine ⟨rfl,fun i _=>?_⟩
 show Sh.free (if i=2 then .int .i64 else Zeca M)
 split
 ·trivial
 ·intro j _
  show (shB j).free
  unfold shB
  split<;>trivial
theorem Zq3 {M:Nat} {s:Sl (List UInt8 × Int)} (h:s.l.length≤M):ShV .new .new (Zeca M) (Za .new 2 Zi s):=by
 cases s with
 | nil=>exact .inl rfl
 | mk b l =>
  refine .inr ⟨b,l.map Zi,rfl,by rw [List.length_map];exact h,?_⟩;intro u hu;obtain ⟨n,_,rfl⟩:=List.mem_map.1 hu;refine ⟨rfl,rfl,fun i hi=>?_⟩;have hi:i<2:=hi
  match i,hi with
  | 0,_=>exact ⟨_,rfl⟩
  | 1,_=>exact ⟨_,rfl⟩
theorem Zp3 {M:Nat} {v:V} (h:ShV .new .new (Zeca M) v):∃ s:Sl (List UInt8 × Int),v=Za .new 2 Zi s∧s.l.length≤M:=by
 rcases h with rfl | ⟨clip,l,rfl,hl,hu⟩
 ·exact ⟨.nil,rfl,Nat.zero_le _⟩
 ·have:∃ ns:List (List UInt8 × Int),l=ns.map Zi:=by
   clear hl
   induction l with
   | nil=>exact ⟨[],rfl⟩
   | cons u r ih =>
    obtain ⟨ns,rfl⟩:=ih fun x hx=>hu x (by simp [hx]);obtain ⟨h1,h2,h3⟩:=hu u (by simp);obtain ⟨t,ht⟩:=h3 0 (by omega);obtain ⟨n,hn⟩:=h3 1 (by omega);refine ⟨(t,n)::ns,?_⟩
    have hc:u.cells=[.str t,.int .i64 n]:=by
     match hq:u.cells,h1 with
     | [y,z],_ =>
      have e0:u.cells[0]'(by omega)=y:=by simp [hq]
      have e1:u.cells[1]'(by omega)=z:=by simp [hq]
      rw [e0] at ht;rw [e1] at hn;rw [ht,hn]
    rw [h2,hc];rfl
  obtain ⟨ns,rfl⟩:=this;exact ⟨.mk clip ns,rfl,by rw [List.length_map] at hl;exact hl⟩
theorem Zlea {M:Nat} {sa ea:Sl (List UInt8 × Int)} {d:Int} (h1:sa.l.length≤M) (h2:ea.l.length≤M):ShV .new .new (shR M) (.view .new (.agg [Za .new 2 Zi sa,Za .new 2 Zi ea,.int .i64 d])) :=
 ⟨_,rfl,rfl,rfl,fun i hi=>by
  have hi:i<3:=hi
  match i,hi with
  | 0,_=>exact Zq3 h1
  | 1,_=>exact Zq3 h2
  | 2,_=>exact ⟨_,rfl⟩⟩
theorem Zkea {M:Nat} {v:V} (h:ShV .new .new (shR M) v):∃ (sa ea:Sl (List UInt8 × Int)) (d:Int),v = .view .new (.agg [Za .new 2 Zi sa,Za .new 2 Zi ea,.int .i64 d])∧sa.l.length≤M∧ea.l.length≤M:=by
 obtain ⟨u,rfl,h1,h2,h3⟩:=h;obtain ⟨sa,e0,ha⟩:=Zp3 (M:=M) (h3 0 (by omega));obtain ⟨ea,e1,he⟩:=Zp3 (M:=M) (h3 1 (by omega));obtain ⟨d,e2⟩:=h3 2 (by omega);refine ⟨sa,ea,d,?_,ha,he⟩
 have hc:u.cells=[Za .new 2 Zi sa,Za .new 2 Zi ea,.int .i64 d]:=by
  match hq:u.cells,h1 with
  | [x,y,z],_ =>
   have f0:u.cells[0]'(by omega)=x:=by simp [hq]
   have f1:u.cells[1]'(by omega)=y:=by simp [hq]
   have f2:u.cells[2]'(by omega)=z:=by simp [hq]
   rw [f0] at e0;rw [f1] at e1;rw [f2] at e2;rw [e0,e1,e2]
 rw [h2,hc];rfl
theorem Z4m (s:Sl (List UInt8 × Int)):V.Old (Za .old 2 Zi s):=Z82 (fun n y hy=>by
 simp only [Zzb,V.cells,List.mem_cons,List.not_mem_nil,or_false] at hy
 rcases hy with rfl | rfl<;>first | exact .int _ _ | exact .str _) s
theorem Zy8 (s:Sl AM):V.Old (Za .old 3 (Zda .old) s):=Z82 (fun n y hy=>by
 simp only [Z7a,V.cells,List.mem_cons,List.not_mem_nil,or_false] at hy
 rcases hy with rfl | rfl | rfl
 ·exact .int _ _
 ·exact .str _
 ·exact Z82 (fun n z hz=>by
   simp only [Zp,V.cells,List.mem_cons,List.not_mem_nil,or_false] at hz
   rcases hz with rfl | rfl | rfl | rfl | rfl | rfl<;>first | exact .int _ _ | exact .str _) _) s
theorem Zx8 (sa ea:Sl (List UInt8 × Int)) (d:Int):V.Old (.view .old (.agg [Za .old 2 Zi sa,Za .old 2 Zi ea,.int .i64 d])):=by
 refine .view _ fun y hy=>?_;simp only [V.cells,List.mem_cons,List.not_mem_nil,or_false] at hy
 rcases hy with rfl | rfl | rfl
 ·exact Z4m _
 ·exact Z4m _
 ·exact .int _ _
theorem RunIn.ref {s:Sl AM} {vs:List (List UInt8 × Int)} {arg:Int} (h:RunIn s vs arg):RunIn (amU (s.l.map AM.v)) vs arg:=by
 have key:∀ a∈(amU (s.l.map AM.v)).l,∃ b∈s.l,a=toAU b.v:=by
  intro a ha;rw [Zxaa,List.map_map,List.mem_map] at ha;obtain ⟨b,hb,rfl⟩:=ha;exact ⟨b,hb,rfl⟩
 refine ⟨by rw [Zxaa,List.length_map,List.length_map];exact h.hs,fun a ha=>?_,fun a ha n hn=>?_,h.hv,h.hf,h.ha⟩
 ·obtain ⟨b,hb,rfl⟩:=key a ha
  have hB:=h.hb b hb;exact ⟨hB.n,by show (Zv b.x.l).l.length<_;rw [Zea];exact hB.l,fun n hn=>hB.x n (by have hn:n∈(Zv b.x.l).l:=hn;rwa [Zea] at hn)⟩
 ·obtain ⟨b,hb,rfl⟩:=key a ha
  have hn:n∈(Zv b.x.l).l:=hn;rw [Zea] at hn;exact h.hn b hb n hn
theorem Zcu (G:Nat→V) (hE:GExp G) (hGo:∀ g,(G g).Old) (s:Sl AM) (hn:∀ a∈s.l,∀ n∈a.x.l,Z2b n.num=true) (vs:Sl (List UInt8 × Int)) (hf:∀ p∈vs.l,Z2b p.2=true) (arg:Int) (ha:Z2b arg=true) :
  Spec Tryz.prog G 8 [.agg [Za .old 3 (Zda .old) s],Za .old 2 Zi vs,.int .i64 arg] Zm (fun v _=>v = .bool true):=by
 have hG:=hE.ok;have hW:=Zve G hE;refine Zo 0 94 [.tmp 6] Tryz.func8 fun X=>?_;refine Z1 ?_;intro g3;refine Zha (fun (_:Unit)=>st [(1,Za .old 2 Zi vs),(2,.int .i64 arg),(3,.ptr 3 g3 0)] [(3,.cells .new g3 0 [Za .old 3 (Zda .old) s])]) (fun _=>Zeea s.l vs.l) (fun K1 hK1=>?_) ?_
 ·refine Z ?_
  refine CallA.pure hG zk ?_;refine Zs ?_;refine (Zsh G hG .old .old .old s vs).mono ?_;rintro _ _ ⟨b,rfl,hb⟩
  cases b with
  | false =>
   refine Zs ?_;refine Z ?_;refine Zc hG ?_ (s:=hW);exact Zr
  | true =>
   refine Zs ?_;refine Z ?_;exact hK1 _ () (hb rfl) (Zb zp zp)
 rintro _ ⟨f1,f2,f3,f4⟩;have hIn:RunIn s vs.l arg:=⟨by omega,fun a ha=>⟨by have:=(f3 a ha).1;omega,by have:=(f3 a ha).2.1;omega,fun n hn=>by have:=(f3 a ha).2.2 n hn;omega⟩,hn,by omega,hf,ha⟩;have k1:=svR_l hIn;obtain ⟨k2,k3⟩:=Zym hIn;have hc:=Z0j (s.l.map AM.v)
 have k4:(runB arg (s.l.map AM.v) vs.l).1.emits.length≤100000:=by
  rcases hc with hc | hc
  ·have:=(Zok hIn hc).em;omega
  ·unfold runB;rw [if_pos (by rw [hc];decide)];exact Nat.zero_le _
 have ht:∀ c c1 c2,Spec Tryz.prog G 32 [.agg [Za c 3 (Zda c1) s],Za c2 2 Zi vs,.int .i64 arg] Zm (fun v _=>v = .tuple [.agg [Za .new 2 Zi (svR (s.l.map AM.v) vs (runB arg (s.l.map AM.v) vs.l).1.vars),Za .new 2 Zi (Zv (runB arg (s.l.map AM.v) vs.l).1.emits),.int .i64 (runB arg (s.l.map AM.v) vs.l).1.done],.int .i64 (runB arg (s.l.map AM.v) vs.l).2]):=fun c c1 c2=>Zjo G hE c c1 c2 s vs arg hIn
 have hr:∀ c c1 c2,Spec Tryz.prog G 30 [Za c 3 (Zda c1) (amU (s.l.map AM.v)),Za c2 2 Zi (Zv vs.l),.int .i64 arg] Zm (fun v _=>v = .tuple [.agg [Za .new 2 Zi (Zv (runB arg (s.l.map AM.v) vs.l).1.vars),Za .new 2 Zi (Zv (runB arg (s.l.map AM.v) vs.l).1.emits),.int .i64 (runB arg (s.l.map AM.v) vs.l).1.done],.int .i64 (runB arg (s.l.map AM.v) vs.l).2]):=fun c c1 c2=>by
  have:=Zjs G hG c c1 c2 (amU (s.l.map AM.v)) (Zv vs.l) arg (by rw [Zea];exact hIn.ref);rw [Z7da,Zea] at this;exact this
 have hrf:∀ c c1,Spec Tryz.prog G 31 [.agg [Za c 3 (Zda c1) s]] Zm (fun v _=>v=Za .new 3 (Zda .new) (amU (s.l.map AM.v))):=fun c c1=>by
  have:=Z20 G hG c c1 s (by omega) (fun a ha=>by have:=(f3 a ha).2.1;omega);rw [Zyj] at this;exact this
 generalize svR (s.l.map AM.v) vs (runB arg (s.l.map AM.v) vs.l).1.vars=sv at ht k1;generalize runB arg (s.l.map AM.v) vs.l=r at ht hr k1 k2 k3 k4;refine Z ?_;refine Zc hG ?_ (s:=Zef G hG _ vs (by omega));refine Z ?_;refine Zc hG ?_ (s:=hrf _ _);refine Zc hG ?_ (s:=hr _ _ _);intro g8;refine Zs ?_;refine AW.weak (Zz (fun o=>o==8) (l:=[(1,Za .old 2 Zi vs),(2,.int .i64 arg),(3,.ptr 3 g3 0),(7,Za .new 2 Zi (Zv vs.l)),(8,.view .new (.agg [Za .new 2 Zi (Zv r.1.vars),Za .new 2 Zi (Zv r.1.emits),.int .i64 r.1.done])),(9,.int .i64 r.2)]) (m:=[(3,.cells .new g3 0 [Za .old 3 (Zda .old) s])]) ?_ ?_) ?_
 ·simp -implicitDefEqProofs only[go_sem,seval]
  exact ⟨Zd _,Zd _,Zd _,Zd _,Fz.ptr (v := .agg [Za .new 2 Zi (Zv r.1.vars),Za .new 2 Zi (Zv r.1.emits),.int .i64 r.1.done]) (c := .new) (fz:=0) rfl zp,Zd _⟩
 ·simp only [Zl,Zt,and_true]
  exact FzO.keep rfl zp
 refine Zbba hG fun X1 H1 hb1 hI1=>?_;simp -implicitDefEqProofs only[go_sem,seval,List.map_cons,List.map_nil,recol_cells,Zul];refine Z ?_;refine Zwa 2 (fun k (_:Unit)=>st [(1,Za .old 2 Zi vs),(2,.int .i64 arg),(3,.ptr 3 g3 0),(7,Za .old 2 Zi (Zv vs.l)),(8,.view .old (.agg [Za .old 2 Zi (Zv r.1.vars),Za .old 2 Zi (Zv r.1.emits),.int .i64 r.1.done])),(9,.int .i64 r.2),(10,.int .i64 k)] [(3,.cells .old g3 0 [Za .old 3 (Zda .old) s])]) (fun _ _=>True) 0 () (Nat.zero_le _) trivial (Zb zp zp) ?_;intro k _ hk _ L3 hL3;have w2:IntKind.i64.wrap ((k:Int)+1)=(k:Int)+1:=w64 (by omega) (by omega)
 by_cases hk1:k<2
 ·have hlt:decide ((k:Int)<2)=true:=zT
  refine Zf hlt ?_;refine Zc hG ?_ (s:=ht _ _ _);intro g11;refine Z ?_;refine Zc hG ?_ (s:=Zbq G hG _ _ _ _ sv (Zv r.1.vars) (Zv r.1.emits) (Zv r.1.emits) r.1.done (by rw [k1,Zea]) rfl (by rw [k1];omega) (by rw [Zea];omega))
  have e:(r.2 != r.2)=false:=by simp
  refine Zsf e ?_;refine AW.weak (Zz (fun o=>o==11) (l:=[(1,Za .old 2 Zi vs),(2,.int .i64 arg),(3,.ptr 3 g3 0),(7,Za .old 2 Zi (Zv vs.l)),(8,.view .old (.agg [Za .old 2 Zi (Zv r.1.vars),Za .old 2 Zi (Zv r.1.emits),.int .i64 r.1.done])),(9,.int .i64 r.2),(10,.int .i64 k),(11,.view .new (.agg [Za .new 2 Zi sv,Za .new 2 Zi (Zv r.1.emits),.int .i64 r.1.done])),(51,.bool false)]) (m:=[(3,.cells .old g3 0 [Za .old 3 (Zda .old) s])]) ?_ ?_) ?_
  ·simp -implicitDefEqProofs only[go_sem,seval]
   exact ⟨Zd _,Zd _,Zd _,Zd _,Zd _,Zd _,Zd _,Fz.ptr (v := .agg [Za .new 2 Zi sv,Za .new 2 Zi (Zv r.1.emits),.int .i64 r.1.done]) (c := .new) (fz:=0) rfl zp,Zd _⟩
  ·simp only [Zl,Zt,and_true]
   exact FzO.keep rfl zp
  refine Z ?_
  have q1:sv.l.length≤100000:=by rw [k1];omega
  have q2:(Zv r.1.emits).l.length≤100000:=by rw [Zea];exact k4
  refine Zhc (fun (y:Sl (List UInt8 × Int) × Sl (List UInt8 × Int) × Int × Nat)=>st [(1,Za .old 2 Zi vs),(2,.int .i64 arg),(3,.ptr 3 g3 0),(7,Za .old 2 Zi (Zv vs.l)),(8,.view .old (.agg [Za .old 2 Zi (Zv r.1.vars),Za .old 2 Zi (Zv r.1.emits),.int .i64 r.1.done])),(9,.int .i64 r.2),(10,.int .i64 k),(11,.view .new (.agg [Za .new 2 Zi y.1,Za .new 2 Zi y.2.1,.int .i64 y.2.2.1])),(13,.int .i64 y.2.2.2)] [(3,.cells .old g3 0 [Za .old 3 (Zda .old) s])])
   (fun y=>y.1.l.length≤100000∧y.2.1.l.length≤100000∧y.2.2.2≤100000) (fun y=>100001-y.2.2.2) (sv,Zv r.1.emits,(r.1.done:Int),0) ⟨q1,q2,Nat.zero_le _⟩ (Zb zp zp) ?_
  rintro ⟨ya,ye,yd,i⟩ ⟨hya,hye,hi⟩ L7 hL7
  replace hya:ya.l.length≤100000:=hya
  replace hye:ye.l.length≤100000:=hye
  replace hi:i≤100000:=hi
  by_cases hi1:i<ya.l.length
  ·have hg:=List.getElem?_eq_getElem hi1
   have hlt2:decide ((i:Int)<(ya.l.length:Int))=true:=zT;refine Z1f hlt2 ?_;refine Z0 ?_;refine Z5 ?_;refine AW.block ?_;refine Zx0 [(1,Za .old 2 Zi vs),(2,.int .i64 arg),(3,.ptr 3 g3 0),(7,Za .old 2 Zi (Zv vs.l)),(8,.view .old (.agg [Za .old 2 Zi (Zv r.1.vars),Za .old 2 Zi (Zv r.1.emits),.int .i64 r.1.done])),(9,.int .i64 r.2),(10,.int .i64 k),(13,.int .i64 i)] [(3,.cells .old g3 0 [Za .old 3 (Zda .old) s])] [(11,shR 100000)] hb1 hI1 hGo (by intro p hp;simp at hp;subst hp;exact Z5ea _) zk zk rfl ?_ ?_ ?_
   ·simp -implicitDefEqProofs only[go_sem,seval]
    exact ⟨Z4m _,.int _ _,.ptr _ _ _,Z4m _,Zx8 _ _ _,.int _ _,.int _ _,.int _ _⟩
   ·simp -implicitDefEqProofs only[go_sem,seval]
    simp only [List.mem_singleton,forall_eq];exact Zy8 s
   simp -implicitDefEqProofs only[go_sem,seval,List.dropLast,hg];refine ⟨⟨_,rfl,rfl,by kernel_rfl,⟨trivial,rfl,trivial⟩,by decide⟩,Zlea hya hye,?_⟩;rintro _ ⟨v,_,rfl,hv,rfl⟩;obtain ⟨ya2,ye2,d2,rfl,h1,h2⟩:=Zkea hv;have w3:IntKind.i64.wrap ((i:Int)+1)=(i:Int)+1:=w64 (by omega) (by omega);refine Zs ?_;refine Zf w3 ?_;exact hL7 _ ⟨(ya2,ye2,d2,i+1),by show 100001-(i+1)<100001-i;omega,⟨h1,h2,by show i+1≤100000;omega⟩,Zb zp zp⟩
  have hlt2:decide ((i:Int)<(ya.l.length:Int))=false:=zF;refine Zf hlt2 ?_;clear hL7 L7 hlt2 hi1 hi
  refine Zhc (fun (y:Sl (List UInt8 × Int) × Sl (List UInt8 × Int) × Int × Nat)=>st [(1,Za .old 2 Zi vs),(2,.int .i64 arg),(3,.ptr 3 g3 0),(7,Za .old 2 Zi (Zv vs.l)),(8,.view .old (.agg [Za .old 2 Zi (Zv r.1.vars),Za .old 2 Zi (Zv r.1.emits),.int .i64 r.1.done])),(9,.int .i64 r.2),(10,.int .i64 k),(11,.view .new (.agg [Za .new 2 Zi y.1,Za .new 2 Zi y.2.1,.int .i64 y.2.2.1])),(14,.int .i64 y.2.2.2)] [(3,.cells .old g3 0 [Za .old 3 (Zda .old) s])])
   (fun y=>y.1.l.length≤100000∧y.2.1.l.length≤100000∧y.2.2.2≤100000) (fun y=>100001-y.2.2.2) (ya,ye,yd,0) ⟨hya,hye,Nat.zero_le _⟩ (Zb zp zp) ?_
  rintro ⟨ya,ye,yd,i⟩ ⟨hya,hye,hi⟩ L7 hL7
  replace hya:ya.l.length≤100000:=hya
  replace hye:ye.l.length≤100000:=hye
  replace hi:i≤100000:=hi
  by_cases hi1:i<ye.l.length
  ·have hg:=List.getElem?_eq_getElem hi1
   have hlt2:decide ((i:Int)<(ye.l.length:Int))=true:=zT;refine Z1f hlt2 ?_;refine Z0 ?_;refine Z5 ?_;refine AW.block ?_;refine Zx0 [(1,Za .old 2 Zi vs),(2,.int .i64 arg),(3,.ptr 3 g3 0),(7,Za .old 2 Zi (Zv vs.l)),(8,.view .old (.agg [Za .old 2 Zi (Zv r.1.vars),Za .old 2 Zi (Zv r.1.emits),.int .i64 r.1.done])),(9,.int .i64 r.2),(10,.int .i64 k),(14,.int .i64 i)] [(3,.cells .old g3 0 [Za .old 3 (Zda .old) s])] [(11,shR 100000)] hb1 hI1 hGo (by intro p hp;simp at hp;subst hp;exact Z5ea _) zk zk rfl ?_ ?_ ?_
   ·simp -implicitDefEqProofs only[go_sem,seval]
    exact ⟨Z4m _,.int _ _,.ptr _ _ _,Z4m _,Zx8 _ _ _,.int _ _,.int _ _,.int _ _⟩
   ·simp -implicitDefEqProofs only[go_sem,seval]
    simp only [List.mem_singleton,forall_eq];exact Zy8 s
   simp -implicitDefEqProofs only[go_sem,seval,List.dropLast,hg];refine ⟨⟨_,rfl,rfl,by kernel_rfl,⟨trivial,rfl,trivial⟩,by decide⟩,Zlea hya hye,?_⟩;rintro _ ⟨v,_,rfl,hv,rfl⟩;obtain ⟨ya2,ye2,d2,rfl,h1,h2⟩:=Zkea hv;have w3:IntKind.i64.wrap ((i:Int)+1)=(i:Int)+1:=w64 (by omega) (by omega);refine Zs ?_;refine Zf w3 ?_;exact hL7 _ ⟨(ya2,ye2,d2,i+1),by show 100001-(i+1)<100001-i;omega,⟨h1,h2,by show i+1≤100000;omega⟩,Zb zp zp⟩
  have hlt2:decide ((i:Int)<(ye.l.length:Int))=false:=zF;refine Zf (zi hlt2 w2) ?_;exact hL3 _ ⟨hk1,(),trivial,Zb zp zp⟩
 have hlt:decide ((k:Int)<2)=false:=zF;refine Zf hlt ?_;refine Zc hG ?_ (s:=Zef G hG _ vs (by omega));refine Z ?_;clear hL3 L3 hlt hk1 hk w2;have hgl := @Zea (List UInt8 × Int) vs.l;generalize Zv vs.l=u at hgl ⊢;refine Zwa vs.l.length (fun k (_:Unit)=>st [(7,Za .old 2 Zi u),(15,Za .new 2 Zi u),(16,.int .i64 k)] []) (fun _ _=>True) 0 () (Nat.zero_le _) trivial (Zb zp zp) ?_;intro k _ hk _ L3 hL3;rw [← hgl] at hk hL3
 by_cases hk1:k<u.l.length
 ·have hlt:decide ((k:Int)<(u.l.length:Int))=true:=zT
  have hg:=List.getElem?_eq_getElem hk1
  have hul:u.l.length≤20:=by rw [hgl];exact f2
  generalize u.l[k]=p at hg;have w1:IntKind.i64.wrap ((k:Int)+1)=(k:Int)+1:=w64 (by omega) (by omega);refine Z1f hlt ?_;refine ZTf (zi hg (zi Zzb (zi hk1 (zi @Int.natCast_nonneg @Int.ofNat_lt)))) hG ?_
  have b1:(p.1 != p.1)=false:=by simp
  have b2:(p.2 != p.2)=false:=by simp
  have b3:(p.1==p.1)=true:=by simp
  have b4:(p.2==p.2)=true:=by simp
  refine Zsf (zi b1 (zi b2 (zi b3 b4))) ?_;refine Zf w1 ?_;exact hL3 _ ⟨hk1,(),trivial,Zb zp zp⟩
 have hlt:decide ((k:Int)<(u.l.length:Int))=false:=zF;refine Zf hlt ?_;refine Zc hG ?_ (s:=hW);exact Zr
theorem Zcp (G:Nat→V) (hG:GOk G) (c1 c2 d1 d2:Col) (sa sb ea eb:Sl (List UInt8 × Int)) (d:Int) (h1:sa.l=sb.l) (h2:ea.l=eb.l) (hs:sa.l.length<1000000) (he:ea.l.length<1000000) :
  Spec Tryz.prog G 37 [.agg [Za c1 2 Zi sa,Za c2 2 Zi ea,.int .i64 d],.agg [Za d1 2 Zi sb,Za d2 2 Zi eb,.int .i64 d]] Zm (fun v _=>v = .bool true):=by
 refine Zo 0 41 [.tmp 4] Tryz.func37 fun X=>?_;refine Z1 ?_;intro g2 g3;refine Zs ?_;refine AW.weak (Zz (fun o=>o==2 || o==3) (l:=[(2,.view .new (.agg [Za c1 2 Zi sa,Za c2 2 Zi ea,.int .i64 d])),(3,.view .new (.agg [Za d1 2 Zi sb,Za d2 2 Zi eb,.int .i64 d]))]) (m:=[]) ?_ trivial) ?_
 ·simp -implicitDefEqProofs only[go_sem,seval]
  exact ⟨Fz.ptr (v := .agg [Za c1 2 Zi sa,Za c2 2 Zi ea,.int .i64 d]) (c := .new) (fz:=0) rfl zp,Fz.ptr (v := .agg [Za d1 2 Zi sb,Za d2 2 Zi eb,.int .i64 d]) (c := .new) (fz:=0) rfl zp⟩
 have hb:=Zef G hG d1.ent sb (by rw [← h1];exact hs);refine Z5 ?_;refine Zy ⟨fun i=>if i=2 then Za .new 2 Zi (Zv sb.l) else .top,fun _ => .pure⟩ zk hG zk zk ?_;simp -implicitDefEqProofs only[go_sem,seval];refine ⟨⟨by kernel_rfl,?_⟩,?_⟩
 ·simp -implicitDefEqProofs only[go_sem,seval,List.map_nil,List.map_cons]
  refine hb.mono ?_;rintro _ _ rfl;exact zp
 intro g5;refine Zs ?_;refine Z ?_
 refine Zwa eb.l.length (fun k (gx:Nat)=>st [(2,.view .new (.agg [Za c1 2 Zi sa,Za c2 2 Zi ea,.int .i64 d])),(3,.view .new (.agg [Za d1 2 Zi sb,Za d2 2 Zi eb,.int .i64 d])),(5,.ptr 5 g5 0),(6,.int .i64 k)] [(5,.cells .new g5 0 [Za .new 2 Zi (Zv sb.l),grown 36 gx 2 (eb.l.take k),.int .i64 d]),(36,Zua gx Zi (eb.l.take k))])
  (fun k _=>True) 0 0 (Nat.zero_le _) trivial (Zb zp (by simp -implicitDefEqProofs only[go_sem,seval];exact ⟨rfl,rfl⟩)) ?_
 intro k gx hk _ L3 hL3;rw [h2] at he
 by_cases hk1:k<eb.l.length
 ·have hg:=List.getElem?_eq_getElem hk1
  have htk:eb.l.take (k+1)=eb.l.take k++[eb.l[k]]:=by rw [List.take_succ_eq_append_getElem hk1]
  have hlt':(eb.l.take k).length=k:=by rw [List.length_take];omega
  have hlt:decide ((k:Int)<(eb.l.length:Int))=true:=zT;have w1:IntKind.i64.wrap ((k:Int)+1)=(k:Int)+1:=w64 (by omega) (by omega);generalize eb.l[k]=n at hg htk;generalize eb.l.take k=ns at htk hlt' ⊢;refine Z1f hlt ?_;refine ZTf (zi hg (zi Zzb (zi hk1 (zi @Int.natCast_nonneg @Int.ofNat_lt)))) hG ?_;intro g35;refine Zza (f:=Zi) (l:=ns) (l2:=[n]) (g:=gx) Zsa rfl rfl rfl zp (Zca (by omega) (by simp;omega)) fun g2=>?_;refine Zs ?_;refine Zf w1 ?_;exact hL3 _ ⟨hk1,g2,trivial,Zb zp (by simp -implicitDefEqProofs only[go_sem,seval];rw [htk];exact ⟨rfl,rfl⟩)⟩
 have hke:k=eb.l.length:=by omega
 have hlt:decide ((k:Int)<(eb.l.length:Int))=false:=zF;rw [hke,List.take_length];rw [hke] at hlt;refine AW.weak (Zz (fun o=>o==36) (l:=[(2,.view .new (.agg [Za c1 2 Zi sa,Za c2 2 Zi ea,.int .i64 d])),(3,.view .new (.agg [Za d1 2 Zi sb,Za d2 2 Zi eb,.int .i64 d])),(5,.ptr 5 g5 0),(6,.int .i64 eb.l.length)]) (m:=[(5,.cells .new g5 0 [Za .new 2 Zi (Zv sb.l),Za .new 2 Zi (Zv eb.l),.int .i64 d])]) ?_ ?_) ?_
 ·simp -implicitDefEqProofs only[go_sem,seval]
  exact ⟨Zd _,Zd _,Zd _,Zd _⟩
 ·simp only [Zl,Zt,and_true]
  exact Zlh (c := .new) (fz:=0) (cs:=[Za .new 2 Zi (Zv sb.l),grown 36 gx 2 eb.l,.int .i64 d]) rfl zp ⟨Zd _,Z1a rfl zp Zsa,Zd _,trivial⟩
 refine Zf hlt ?_;refine Zc hG ?_ (s:=Zbq G hG _ _ _ _ sa (Zv sb.l) ea (Zv eb.l) d (by rw [Zea];exact h1) (by rw [Zea];exact h2) hs (by rw [h2];exact he));exact Zr
theorem Zpq {b:List ASt} (h:Z3a b=0) (k:Nat):Z3a (b.take k)=0∧Z3a (b.drop k)=0:=by
 unfold Z3a at h
 split at h
 ·cases h
 split at h
 ·rename_i h1 h2
  rw [List.all_eq_true] at h2;unfold Z3a;refine ⟨?_,?_⟩
  ·rw [if_neg (by rw [List.length_take];omega),if_pos (List.all_eq_true.2 fun s hs=>h2 s (List.mem_of_mem_take hs))]
  ·rw [if_neg (by rw [List.length_drop];omega),if_pos (List.all_eq_true.2 fun s hs=>h2 s (List.mem_of_mem_drop hs))]
 ·cases h
theorem Z5ca (nq:Bool) (l:List (List UInt8 × Int)):Zfi (svU nq l)=nq:=by cases nq<;>rfl
theorem Z17 {s:Sl AM} (i j:Nat):((s.sub i j).l.map AM.v)=((s.l.map AM.v).drop i).take (j-i):=by
 rw [Z8h,List.map_take,List.map_drop]
theorem Zf5 {arg:Int} {b:List ASt} (hc:Z3a b=0) (k:Nat) (vs:List (List UInt8 × Int)):((runB arg (b.take k) vs).2≠0→runB arg b vs=runB arg (b.take k) vs) ∧
  ((runB arg (b.take k) vs).2=0→runB arg b vs=Zak (runB arg (b.take k) vs).1.emits (runB arg (b.take k) vs).1.done (runB arg (b.drop k) (runB arg (b.take k) vs).1.vars)):=by
 obtain ⟨h1,h2⟩:=Zpq hc k;have e0:∀ v,runB arg b v=Zne (worthU arg) b ⟨v,[],0⟩:=fun v=>if_neg (by rw [hc];decide);have e1:∀ v,runB arg (b.take k) v=Zne (worthU arg) (b.take k) ⟨v,[],0⟩:=fun v=>if_neg (by rw [h1];decide);have e2:∀ v,runB arg (b.drop k) v=Zne (worthU arg) (b.drop k) ⟨v,[],0⟩:=fun v=>if_neg (by rw [h2];decide);have ha:=Zep (w:=worthU arg) (b.take k) (b.drop k) ⟨vs,[],0⟩;rw [List.take_append_drop] at ha;rw [e0,e1,e2];refine ⟨fun h=>by rw [ha,if_pos h],fun h=>?_⟩;rw [ha,if_neg (fun q=>q h)];have:=Zgs (w:=worthU arg) (Zne (worthU arg) (b.take k) ⟨vs,[],0⟩).1.emits (Zne (worthU arg) (b.take k) ⟨vs,[],0⟩).1.done (b.drop k) ⟨(Zne (worthU arg) (b.take k) ⟨vs,[],0⟩).1.vars,[],0⟩;rw [List.append_nil,Nat.add_zero] at this;exact this
theorem RunIn.sub {s:Sl AM} {vs:List (List UInt8 × Int)} {arg:Int} (h:RunIn s vs arg) (i j:Nat) {v:List (List UInt8 × Int)} (hl:v.length<100000) (hf:∀ p∈v,Z2b p.2=true):RunIn (s.sub i j) v arg:=by
 have hm:∀ a∈(s.sub i j).l,a∈s.l:=fun a ha=>by
  rw [Z8h] at ha;exact List.mem_of_mem_drop (List.mem_of_mem_take ha)
 refine ⟨?_,fun a ha=>h.hb a (hm a ha),fun a ha=>h.hn a (hm a ha),hl,hf,h.ha⟩;rw [Z8h,List.length_take,List.length_drop];have:=h.hs;omega
theorem Zfp (G:Nat→V) (hE:GExp G) (c c1 c2:Col) (s:Sl AM) (vs:Sl (List UInt8 × Int)) (arg:Int) (h:RunIn s vs.l arg) {b:List ASt} (hb:s.l.map AM.v=b) (hc:Z3a b=0) :
  Spec Tryz.prog G 32 [.agg [Za c 3 (Zda c1) s],Za c2 2 Zi vs,.int .i64 arg] Zm (fun v _=>v = .tuple [.agg [Za .new 2 Zi (svU (Zfi vs) (runB arg b vs.l).1.vars),Za .new 2 Zi (Zv (runB arg b vs.l).1.emits),.int .i64 (runB arg b vs.l).1.done],.int .i64 (runB arg b vs.l).2]):=by
 subst hb;have:=Zjo G hE c c1 c2 s vs arg h;have e:svR (s.l.map AM.v) vs (runB arg (s.l.map AM.v) vs.l).1.vars=svU (Zfi vs) (runB arg (s.l.map AM.v) vs.l).1.vars:=if_neg (by rw [hc];decide);rw [e] at this;exact this
theorem Zq9 (G:Nat→V) (hE:GExp G) (c c1 c2:Col) (s:Sl AM) (hn:∀ a∈s.l,∀ n∈a.x.l,Z2b n.num=true) (vs:Sl (List UInt8 × Int)) (hf:∀ p∈vs.l,Z2b p.2=true) (arg:Int) (ha:Z2b arg=true) (n:Int) (hu:0≤n∧n<256) :
  Spec Tryz.prog G 10 [.agg [Za c 3 (Zda c1) s],Za c2 2 Zi vs,.int .i64 arg,.int .u8 n] Zm (fun v _=>v = .bool true):=by
 have hG:=hE.ok;have hW:=Zve G hE;refine Zo 0 104 [.tmp 8] Tryz.func10 fun X=>?_;refine Z1 ?_;intro g4;refine Zha (fun (_:Unit)=>st [(1,Za c2 2 Zi vs),(2,.int .i64 arg),(3,.int .u8 n),(4,.ptr 4 g4 0)] [(4,.cells .new g4 0 [Za c 3 (Zda c1) s])]) (fun _=>Zeea s.l vs.l∧Z3a (s.l.map AM.v)=0) (fun K1 hK1=>?_) ?_
 ·refine Z ?_
  refine CallA.pure hG zk ?_;refine Zs ?_;refine (Zsh G hG _ _ _ s vs).mono ?_;rintro _ _ ⟨b,rfl,hb⟩
  cases b with
  | false =>
   refine Zs ?_;refine Z ?_;refine Zc hG ?_ (s:=hW);exact Zr
  | true =>
   obtain ⟨f1,f2,f3,f4⟩:=hb rfl;refine Zs ?_;refine Zc hG ?_ (s:=Z6k G hE _ _ s (by omega) (fun a ha=>⟨by have:=(f3 a ha).1;omega,by have:=(f3 a ha).2.1;omega,fun n hn=>by have:=(f3 a ha).2.2 n hn;omega⟩))
   rcases Z0j (s.l.map AM.v) with hc | hc
   ·rw [hc]
    refine Zs ?_;refine Z ?_;exact hK1 _ () ⟨⟨f1,f2,f3,f4⟩,hc⟩ (Zb zp zp)
   ·rw [hc]
    refine Zs ?_;refine Z ?_;refine Zc hG ?_ (s:=hW);exact Zr
 rintro _ ⟨⟨f1,f2,f3,f4⟩,hc⟩;have hIn:RunIn s vs.l arg:=⟨by omega,fun a ha=>⟨by have:=(f3 a ha).1;omega,by have:=(f3 a ha).2.1;omega,fun n hn=>by have:=(f3 a ha).2.2 n hn;omega⟩,hn,by omega,hf,ha⟩;have hsl:=hIn.hs
 obtain ⟨k,hk,hkl⟩:∃ k:Nat,n.tmod ((s.l.length:Int)+1)=(k:Int)∧k≤s.l.length:=by
  refine ⟨n.toNat % (s.l.length+1),?_,Nat.lt_succ_iff.1 (Nat.mod_lt n.toNat (Nat.succ_pos s.l.length))⟩;rw [Int.tmod_eq_emod_of_nonneg hu.1,Int.natCast_emod,Int.toNat_of_nonneg hu.1];rfl
 have w1:IntKind.i64.wrap n=n:=w64 (by omega) (by omega);have w2:IntKind.i64.wrap ((s.l.length:Int)+1)=(s.l.length:Int)+1:=w64 (by omega) (by omega);have hne:(((s.l.length:Int)+1)=0)=False:=eq_false (by omega);obtain ⟨p1,p2⟩:=Zf5 (arg:=arg) hc k vs.l;obtain ⟨hc1,hc2⟩:=Zpq hc k
 have e1:(s.sub 0 k).l.map AM.v=(s.l.map AM.v).take k:=by rw [Z17];simp
 have e2:(s.sub k s.l.length).l.map AM.v=(s.l.map AM.v).drop k:=by
  rw [Z17,List.take_of_length_le (by rw [List.length_drop,List.length_map];exact Nat.le_refl _)]
 have hIn1:=hIn.sub 0 k hIn.hv hIn.hf;have ok1:=Zok hIn1 (by rw [e1];exact hc1);rw [e1] at ok1;have hIn2:=hIn.sub k s.l.length (by rw [ok1.len];exact hIn.hv) ok1.fit;have hA:=fun c c1 c2=>Zfp G hE c c1 c2 s vs arg hIn rfl hc;have hB:=fun c c1 c2=>Zfp G hE c c1 c2 (s.sub 0 k) vs arg hIn1 e1 hc1;have hnv:∀ l:List (List UInt8 × Int),l.length=vs.l.length→(svU (Zfi vs) l).l=l:=fun l hl=>Za1 fun q=>List.length_eq_zero_iff.1 (by rw [hl,Z48 q];rfl);have hV1:=hnv _ ok1.len;have hC:=fun c c1 c2=>Zfp G hE c c1 c2 (s.sub k s.l.length) (svU (Zfi vs) (runB arg ((s.l.map AM.v).take k) vs.l).1.vars) arg (by rw [hV1];exact hIn2) e2 hc2;have ok2:=Zok hIn2 (by rw [e2];exact hc2);rw [e2] at ok2;rw [hV1,Z5ca] at hC;have ok0:=Zok hIn hc;generalize runB arg (s.l.map AM.v) vs.l=q0 at hA p1 p2 ok0;generalize runB arg ((s.l.map AM.v).take k) vs.l=q1 at hB hC p1 p2 ok1 ok2 hV1 hIn2;generalize runB arg ((s.l.map AM.v).drop k) q1.1.vars=q2 at hC p2 ok2;refine Z1f (zi w1 (zi w2 (zi hne hk))) ?_;refine Z1 ?_;refine Zc hG ?_ (s:=hA _ _ _);intro g10;refine Zs ?_
 have hkk:(k:Int)≤(s.l.length:Int):=by omega
 refine Zf (zi hkl (zi hkk (zi @Int.natCast_nonneg (zi @Int.toNat_natCast @Nat.zero_le)))) ?_;refine Zc hG ?_ (s:=hB _ _ _);intro g12;refine Zs ?_;have hl0:=hnv _ ok0.len;have hsl20:=f1
 have hsub1:(s.sub 0 k).l.length≤20:=by rw [Z8h,List.length_take,List.length_drop];omega
 have hsub2:(s.sub k s.l.length).l.length≤20:=by rw [Z8h,List.length_take,List.length_drop];omega
 have em0:=ok0.em;have em1:=ok1.em;have em2:=ok2.em;have dn1:=ok1.done;have dn2:=ok2.done
 by_cases hq:q1.2=0
 rotate_left
 ·have q6:(q1.2 != 0)=true:=by simpa using hq
  have hq01:=p1 hq;subst hq01
  have e9:(q0.2==q0.2)=true:=by simp
  refine Zf q6 ?_;refine Zc hG ?_ (s:=Zcp G hG _ _ _ _ (svU (Zfi vs) q0.1.vars) (svU (Zfi vs) q0.1.vars) (Zv q0.1.emits) (Zv q0.1.emits) q0.1.done rfl rfl (by rw [hl0,ok0.len];omega) (by rw [Zea];omega));refine Zsf e9 ?_;refine Zc hG ?_ (s:=hW);exact Zr
 have q6:(q1.2 != 0)=false:=by simp [hq]
 have hq0:=p2 hq;refine AW.weak (Zz (fun o=>o==10 || o==12) (l:=[(2,.int .i64 arg),(4,.ptr 4 g4 0),(9,.int .i64 k),(10,.view .new (.agg [Za .new 2 Zi (svU (Zfi vs) q0.1.vars),Za .new 2 Zi (Zv q0.1.emits),.int .i64 q0.1.done])),(11,.int .i64 q0.2),(12,.view .new (.agg [Za .new 2 Zi (svU (Zfi vs) q1.1.vars),Za .new 2 Zi (Zv q1.1.emits),.int .i64 q1.1.done])),(13,.int .i64 q1.2)]) (m:=[(4,.cells .new g4 0 [Za c 3 (Zda c1) s])]) ?_ ?_) ?_
 ·simp -implicitDefEqProofs only[go_sem,seval]
  exact ⟨Zd _,Zd _,Zd _,Fz.ptr (v := .agg [Za .new 2 Zi (svU (Zfi vs) q0.1.vars),Za .new 2 Zi (Zv q0.1.emits),.int .i64 q0.1.done]) (c := .new) (fz:=0) rfl zp,Zd _,Fz.ptr (v := .agg [Za .new 2 Zi (svU (Zfi vs) q1.1.vars),Za .new 2 Zi (Zv q1.1.emits),.int .i64 q1.1.done]) (c := .new) (fz:=0) rfl zp,Zd _⟩
 ·simp only [Zl,Zt,and_true]
  exact FzO.keep rfl zp
 refine Z1f q6 ?_;refine Z0 ?_;refine Z5 ?_;refine Zy ⟨fun i=>if i=8 then .tuple [.agg [Za .new 2 Zi (svU (Zfi vs) q2.1.vars),Za .new 2 Zi (Zv q2.1.emits),.int .i64 q2.1.done],.int .i64 q2.2] else .top,fun _ => .pure⟩ zk hG zk zk ?_;simp -implicitDefEqProofs only[go_sem,seval,hkl,hkk,Int.natCast_nonneg,Int.toNat_natCast,Nat.zero_le,Nat.le_refl];refine ⟨⟨by kernel_rfl,?_⟩,?_⟩
 ·simp -implicitDefEqProofs only[go_sem,seval,List.map_nil,List.map_cons]
  refine (hC _ _ _).mono ?_;rintro _ _ rfl;exact zp
 intro g14;refine AW.weak (Zb (l:=[(10,.view .new (.agg [Za .new 2 Zi (svU (Zfi vs) q0.1.vars),Za .new 2 Zi (Zv q0.1.emits),.int .i64 q0.1.done])),(11,.int .i64 q0.2),(12,.view .new (.agg [Za .new 2 Zi (svU (Zfi vs) q1.1.vars),Za .new 2 Zi (Zv q1.1.emits),.int .i64 q1.1.done])),(14,.ptr 14 g14 0),(15,.int .i64 q2.2)]) (m:=[(14,.cells .new g14 0 [Za .new 2 Zi (svU (Zfi vs) q2.1.vars),Za .new 2 Zi (Zv q2.1.emits),.int .i64 q2.1.done])]) zp zp) ?_;refine Z1 ?_;refine Z ?_;refine Zza (f:=Zi) (l:=[]) (l2:=q1.1.emits) (g:=0) Zsa rfl rfl rfl zp (Zca (by omega) (by simp;omega)) fun g2=>?_;rw [List.nil_append];refine Zs ?_;refine Zha (fun (_:Unit)=>st [(10,.view .new (.agg [Za .new 2 Zi (svU (Zfi vs) q0.1.vars),Za .new 2 Zi (Zv q0.1.emits),.int .i64 q0.1.done])),(11,.int .i64 q0.2),(12,.view .new (.agg [Za .new 2 Zi (svU (Zfi vs) q1.1.vars),Za .new 2 Zi (Zv q1.1.emits),.int .i64 q1.1.done])),(14,.ptr 14 g14 0),(15,.int .i64 q2.2),(16,Za .new 2 Zi (Zv (q1.1.emits++q2.1.emits)))] [(14,.cells .new g14 0 [Za .new 2 Zi (svU (Zfi vs) q2.1.vars),Za .new 2 Zi (Zv q2.1.emits),.int .i64 q2.1.done])]) (fun _=>True) (fun K4 hK4=>?_) ?_
 ·refine Z ?_
  refine Zat (f:=Zi) (l:=q1.1.emits) (l2:=q2.1.emits) (o:=80) (g:=g2) Zsa rfl rfl rfl zp (Zca (by omega) (by omega)) fun o2 g2 ho2=>?_
  rcases ho2 with rfl | rfl
  ·refine Zs ?_
   refine hK4 _ () trivial (Zz (fun o=>o==80) ?_ ?_)
   ·simp -implicitDefEqProofs only[go_sem,seval]
    exact ⟨Zd _,Zd _,Zd _,Zd _,Zd _,Z1a rfl zp Zsa⟩
   ·simp only [Zl,Zt,and_true]
    exact FzO.keep rfl zp
  ·refine Zs ?_
   refine hK4 _ () trivial (Zz (fun o=>o==84) ?_ ?_)
   ·simp -implicitDefEqProofs only[go_sem,seval]
    exact ⟨Zd _,Zd _,Zd _,Zd _,Zd _,Z1a rfl zp Zsa⟩
   ·simp only [Zl,Zt,and_true]
    exact FzO.keep rfl zp
 intro _ _;have w3:IntKind.i64.wrap ((q2.1.done:Int)+(q1.1.done:Int))=(q2.1.done:Int)+(q1.1.done:Int):=w64 (by omega) (by omega);refine Zf w3 ?_
 have e9:(q2.2==q2.2)=true:=by simp
 subst hq0
 have hd:(((Zak q1.1.emits q1.1.done q2).1.done:Nat):Int)=(q2.1.done:Int)+(q1.1.done:Int):=by show ((q1.1.done+q2.1.done:Nat):Int)=_;omega
 have e8:((Zak q1.1.emits q1.1.done q2).2==q2.2)=true:=e9;rw [hd];refine Zc hG ?_ (s:=Zcp G hG _ _ _ _ (svU (Zfi vs) (Zak q1.1.emits q1.1.done q2).1.vars) (svU (Zfi vs) q2.1.vars) (Zv (Zak q1.1.emits q1.1.done q2).1.emits) (Zv (q1.1.emits++q2.1.emits)) ((q2.1.done:Int)+(q1.1.done:Int)) rfl rfl (by rw [hl0,ok0.len];omega) (by rw [Zea];omega));refine Zsf e8 ?_;refine Zc hG ?_ (s:=hW);exact Zr
def Z3w:List UInt8:=[97,114,103]
def Zju (names:List (List UInt8)) (x:List XN):Bool:=x.isEmpty || (Z1w names x).1==1
def stT (vars events:List (List UInt8)) (s:ASt):Bool:=(if s.kind=2 then events.contains s.name else vars.contains s.name) && Zju (vars++[Z3w]) s.x
def Z9j (vars events:List (List UInt8)):List ASt→Int→Int × Int
 | [],_=>(0,0)
 | s::r,i=>if stT vars events s=true then Z9j vars events r (i+1) else (i,90)
def Zqn (b:List ASt) (vars events:List (List UInt8)):Int × Int:=if Z3a b≠0 then (0,2) else Z9j vars events b 0
theorem Z9r {vars events:List (List UInt8)}:∀ (b:List ASt) (i:Int),(Z9j vars events b i).2=0 ↔ b.all (stT vars events)=true
 | [],i=>by simp [Z9j]
 | s::r,i=>by
  rw [Z9j,List.all_cons]
  by_cases h:stT vars events s=true
  ·rw [if_pos h,h,Bool.true_and];exact Z9r r (i+1)
  ·rw [if_neg h]
   simp only [h,Bool.false_and]
   constructor
   ·intro q;cases q
   ·intro q;cases q
theorem Z50 {vars events:List (List UInt8)} {b:List ASt} {k:Nat} {s:ASt} (h:b[k]? = some s):Z9j vars events (b.drop k) k=if stT vars events s=true then Z9j vars events (b.drop (k+1)) (k+1:Nat) else ((k:Int),90):=by
 obtain ⟨q1,q2⟩:=List.getElem?_eq_some_iff.1 h
 rw [List.drop_eq_getElem_cons q1,q2,Z9j]<;>rfl
theorem Zkaa {b:List ASt} (h:Z3a b=0):b.length≤512∧∀ s∈b,Z6j s=true:=by
 unfold Z3a at h
 split at h
 ·cases h
 ·split at h
  ·rename_i h1 h2
   rw [List.all_eq_true] at h2;exact ⟨by omega,h2⟩
  ·cases h
theorem Zlaa (l:List ASt):Z3a l=0∨Z3a l=2:=by
 unfold Z3a
 split
 ·exact .inr rfl
 ·split
  ·exact .inl rfl
  ·exact .inr rfl
theorem Zxe (w:List UInt8):(V.str w).cells.length=1:=rfl
def encTy (r:Int × Int):V := .tuple [.int .i64 r.1,.int .i64 r.2]
theorem ofTP_e {names:List (List UInt8)} {l:List XN} (h:(Z1w names l).2.2≠0):(Z1w names l).1=0:=by
 unfold Z1w at h ⊢
 split
 ·rfl
 ·rename_i h1
  rw [if_neg h1] at h;exact absurd rfl h
theorem Z57 {s:ASt} (h:Z6j s=true):s.kind=1∨s.kind=2:=by
 simp only [Z6j,Bool.and_eq_true,Bool.or_eq_true,beq_iff_eq] at h;exact h.1.1
theorem Zb2 (G:Nat→V) (c:Col) (s:Sl (List UInt8)) (hs:s.l.length<1000000):InSp Tryz.prog G 61 [Za c 1 V.str s] (Zcb Zm [(5005,.dead)])
  (fun v H'=>(s = .nil∧v = .nils∧H' 5005 = .dead)∨(∃ g,v = .msl 5005 g 0 s.l.length 1∧H' 5005 = .cells .new g 0 (flat (s.l.map V.str)))):=by
 refine Zjf 5000 8 [.tmp 2] Tryz.func61 rfl rfl rfl rfl fun X=>?_;simp only [Zcb]
 cases s with
 | nil =>
  refine Z1 ?_;refine Z5 ?_;simp only [Za];refine Z ?_;exact .inl (by first | rfl | exact ⟨rfl,rfl,rfl⟩ | exact ⟨rfl,rfl⟩)
 | mk b l =>
  refine Z1 ?_;refine Z5 ?_;have hq:(Za c 1 V.str (.mk b l)) = .slice c b 1 (l.map V.str):=rfl;rw [hq];refine Z1 ?_;refine Z1 ?_;have hl:l.length<1000000:=hs;intro g;refine ⟨Zca (by omega) (by rw [List.length_map];omega),fun g2=>?_⟩;refine Z ?_;exact .inr ⟨g2,by rw [List.length_map],zr⟩
theorem Zg2 (G:Nat→V) (hE:GExp G) (c c1 c2 c3:Col) (s:Sl AM) (vars events:Sl (List UInt8)) (hs:s.l.length<1000000) (hb:∀ a∈s.l,AmB a) (hv:vars.l.length<100000) (hev:events.l.length<1000000) :
  Spec Tryz.prog G 38 [.agg [Za c 3 (Zda c1) s],Za c2 1 V.str vars,Za c3 1 V.str events] Zm (fun v _=>v=encTy (Zqn (s.l.map AM.v) vars.l events.l)):=by
 have hG:=hE.ok;refine Zo 0 57 [.tmp 6,.tmp 7] Tryz.func38 fun X=>?_
 have hP:Zqn (s.l.map AM.v) vars.l events.l=if Z3a (s.l.map AM.v)≠0 then (0,2) else Z9j vars.l events.l ((s.l.map AM.v).drop 0) (0:Nat):=rfl
 generalize Zqn (s.l.map AM.v) vars.l events.l=res at hP ⊢;have hck:=fun c=>Z6k G hE c c1.ent s hs hb;have hok := @Zkaa (s.l.map AM.v);have h02:=Zlaa (s.l.map AM.v);generalize Z3a (s.l.map AM.v)=ck at hP hck hok h02;refine Z1 ?_;intro g3;refine Z1 ?_;refine Znf @Zmp hG ?_ (s:=(hck _))
 rcases h02 with rfl | rfl
 rotate_left
 ·refine Zs ?_
  refine Z ?_
  rw [hP]<;>rfl
 refine Zs ?_;refine Z0 ?_;obtain ⟨_,hall⟩:=hok rfl;rw [if_neg (by decide)] at hP
 have hfin:∀ (NS:Sl (List UInt8)),NS.l=vars.l++[Z3w]→∀ x,Z1w NS.l x=Z1w (vars.l++[Z3w]) x:=fun NS h x=>by rw [h]
 refine Zha (fun (NS:Sl (List UInt8))=>st [(1,Za c2 1 V.str vars),(2,Za c3 1 V.str events),(3,.ptr 3 g3 0),(8,Za .new 1 V.str NS)] [(3,.cells .new g3 0 [Za c 3 (Zda c1) s])]) (fun NS=>NS.l=vars.l++[Z3w]) (fun K2 hK2=>?_) ?_
 ·refine Z1 ?_
  refine CallA.inl [(5005,.dead)] zk ?_ ?_
  ·intro p hp
   rw [List.mem_singleton] at hp;subst hp;exact zp
  refine (Zb2 G c2 vars (by omega)).mono ?_;rintro _ H' (⟨rfl,rfl,q⟩ | ⟨g5,rfl,q⟩)
  ·simp only [List.map_cons,List.map_nil,q]
   refine Zu ?_;intro g18;refine ⟨Zca (by omega) (by omega),fun h=>absurd h (by decide),fun _ g19=>?_⟩;refine Zs ?_;refine hK2 _ (.mk false [Z3w]) rfl (Zz (fun o=>o==19) ?_ ?_)
   ·refine Zs ?_
    refine ⟨Zd _,Zd _,Zd _,?_⟩;exact Zaf (f:=V.str) (l:=[Z3w]) (m:=1) (g:=g19) (fz:=0) (c := .new) rfl zp Zxe
   ·simp only [Zl,Zt,and_true]
    exact FzO.keep rfl zp
  ·simp only [List.map_cons,List.map_nil,q]
   refine Zu ?_;intro g18
   have hcells:List.take (vars.l.length * 1) (flat (List.map V.str vars.l))++[V.str [97,114,103]]=flat ((vars.l++[Z3w]).map V.str):=by
    rw [List.take_of_length_le (by rw [Zqb Zxe];exact Nat.le_refl _),List.map_append,Zxg];rfl
   have e1:vars.l.length+1=(vars.l++[Z3w]).length:=by rw [List.length_append]<;>rfl
   refine ⟨Zca (by omega) (by omega),by rw [Zqb Zxe];exact Nat.le_refl _,Nat.zero_le _,fun g19=>?_⟩;rw [hcells];refine hK2 _ (.mk false (vars.l++[Z3w])) rfl (Zz (fun o=>o==5005) ?_ ?_)
   ·refine Zs ?_
    refine ⟨Zd _,Zd _,Zd _,?_⟩;rw [e1];exact Zaf (f:=V.str) (l:=vars.l++[Z3w]) (m:=1) (g:=g19) (fz:=0) (c := .new) rfl zp Zxe
   ·simp only [Zl,Zt,and_true]
    exact FzO.keep rfl zp
 intro NS hNl;have hcg:=hfin NS hNl;have hof:=fun c c1 (x:Sl XN) (h1:x.l.length<1000000) h2=>Z7ba G hE c c1 x NS h1 h2 (by rw [hNl,List.length_append];show _+1<_;omega)
 try clear hfin
 refine Zx fun K2 hK2=>?_;refine Z1 ?_;refine AW.block ?_
 refine Zwa s.l.length (fun k (_:Unit)=>st [(1,Za c2 1 V.str vars),(2,Za c3 1 V.str events),(8,Za .new 1 V.str NS),(21,Za c 3 (Zda c1) s),(22,.int .i64 s.l.length),(23,.int .i64 k)] [])
  (fun k _=>Z9j vars.l events.l ((s.l.map AM.v).drop k) (k:Nat)=res) 0 () (Nat.zero_le _) hP.symm
  (Zb zp zp) ?_
 rintro k _ hk hR L3 hL3;refine Z1 ?_;refine Z5 ?_;refine Ze rfl (fun h24=>?_) (fun h24=>?_);rotate_left
 ·have hk1:k=s.l.length:=by have:=zN h24;omega
  refine Z0 ?_;refine hK2 _ ?_;rw [List.drop_of_length_le (by rw [List.length_map];omega)] at hR;refine Z ?_
  rw [← hR]<;>rfl
 have hk1:k<s.l.length:=zL h24;have hg:=List.getElem?_eq_getElem hk1;have hba:=hb _ (List.getElem_mem hk1);have hsta:=hall _ (List.mem_map_of_mem (f:=AM.v) (List.getElem_mem hk1))
 have hgv:(s.l.map AM.v)[k]? = some (s.l[k]).v:=by rw [List.getElem?_map,hg]<;>rfl
 rw [Z50 hgv] at hR;generalize s.l[k]=a at hg hba hsta hR;have hkd:=Z57 hsta;have hst:stT vars.l events.l a.v=((if a.kind=2 then events.l.contains a.name else vars.l.contains a.name) && Zju (vars.l++[Z3w]) a.x.l):=rfl;refine Z1f (zi hg @Z7a) ?_;intro g10;refine Z1 ?_
 refine Zha (fun (NK:Sl (List UInt8))=>st [(1,Za c2 1 V.str vars),(2,Za c3 1 V.str events),(8,Za .new 1 V.str NS),(9,.int .i64 k),(10,.ptr 10 g10 0),(11,Za (if a.kind=2 then c3 else c2) 1 V.str NK),(21,Za c 3 (Zda c1) s),(22,.int .i64 s.l.length),(23,.int .i64 k)] [(10,.cells .new g10 0 [.int .u8 a.kind,.str a.name,Za c1 6 Z8 a.x])])
  (fun NK=>NK.l.length<1000000∧NK.l.contains a.name=(if a.kind=2 then events.l.contains a.name else vars.l.contains a.name)) (fun K6 hK6=>?_) ?_
 ·rcases hkd with hk0 | hk0
  ·have hk0:a.kind=1:=hk0
   have q2:(a.kind==2)=false:=by rw [hk0]<;>rfl
   rw [if_neg (by rw [hk0];decide),if_neg (by rw [hk0];decide)] at hK6;refine Z1f q2 ?_;refine Z0 ?_;exact hK6 _ vars ⟨by omega,rfl⟩ (Zb zp zp)
  ·have hk0:a.kind=2:=hk0
   have q2:(a.kind==2)=true:=by simpa using hk0
   rw [if_pos hk0,if_pos hk0] at hK6;refine Z1f q2 ?_;refine Z1 ?_;exact hK6 _ events ⟨hev,rfl⟩ (Zb zp zp)
 rintro NK ⟨hNK,hNKc⟩;generalize (if a.kind=2 then c3 else c2)=cK;rw [← hNKc] at hst;refine Z1 ?_
 refine Zha (fun (kd0:Int)=>st [(1,Za c2 1 V.str vars),(2,Za c3 1 V.str events),(8,Za .new 1 V.str NS),(9,.int .i64 k),(10,.ptr 10 g10 0),(11,Za cK 1 V.str NK),(12,.int .u8 kd0),(21,Za c 3 (Zda c1) s),(22,.int .i64 s.l.length),(23,.int .i64 k)] [(10,.cells .new g10 0 [.int .u8 a.kind,.str a.name,Za c1 6 Z8 a.x])])
  (fun kd0=>(kd0==1)=Zju (vars.l++[Z3w]) a.x.l) (fun K7 hK7=>?_) ?_
 ·by_cases hx0:a.x.l.length=0
  ·have hxe:Zju (vars.l++[Z3w]) a.x.l=true:=by unfold Zju;rw [List.length_eq_zero_iff.1 hx0]<;>rfl
   have q5:decide ((a.x.l.length:Int) > 0)=false:=zF;refine Z1f q5 ?_;refine Z0 ?_;exact hK7 _ 1 (by rw [hxe]<;>rfl) (Zb zp zp)
  have q5:decide ((a.x.l.length:Int) > 0)=true:=zT
  have hxe:Zju (vars.l++[Z3w]) a.x.l=((Z1w NS.l a.x.l).1==1):=by
   unfold Zju;rw [← hcg]
   cases hq:a.x.l with
   | nil=>rw [hq] at hx0;exact absurd rfl hx0
   | cons=>rfl
  refine Z1f q5 ?_;refine Z1 ?_;refine Znf @Zk hG ?_ (s:=(hof _ _ a.x hba.l hba.x));generalize Z1w NS.l a.x.l=r at hxe;obtain ⟨kd0,i0,e0⟩:=r;refine Zsf @encO3.eq_1 ?_;exact hK7 _ kd0 hxe.symm (Zb zp zp)
 intro kd0 hkd0
 cases q6:(kd0==1) with
 | false =>
  rw [← hkd0,q6,Bool.and_false] at hst;rw [if_neg (by rw [hst];decide)] at hR;refine Z5c zk ?_;simp -implicitDefEqProofs only[go_sem,seval,bne,q6];refine Z ?_
  rw [← hR]<;>rfl
 | true =>
  rw [← hkd0,q6,Bool.and_true] at hst;refine Z5c zk ?_;simp -implicitDefEqProofs only[go_sem,seval,bne,q6];refine Zc hG ?_ (s:=(Zbk G hG _ a.name NK hNK))
  cases q7:NK.l.contains a.name with
  | false =>
   rw [q7] at hst;rw [if_neg (by rw [hst];decide)] at hR;refine Z ?_
   rw [← hR]<;>rfl
  | true =>
   rw [q7] at hst;rw [if_pos hst] at hR;refine Z1 ?_;exact hL3 _ ⟨hk1,(),hR,Zb zw zp⟩
theorem Za6 {names:List (List UInt8)} {x:X} (h:x.ok=true) (hc:Zra (x.row 0)=0):Zdd names (x.row 0)=goX names (Zmc x) 0 []:=by
 unfold Zdd;rw [if_neg (by simpa using hc)];have:=Z29 (names:=names) x x.size 0 (by omega);simp only [List.drop_zero,List.take_zero,List.map_nil] at this;exact this
theorem Z41 {names:List (List UInt8)} {l:List XN} (h:(Zdd names l).2.2=0):∃ x:X,x.ok=true∧l=x.row 0∧Zra (x.row 0)=0∧(∀ y∈Zmc x,Z5b names y≠0)∧Zdd names l=((Zmc x).map (Z5b names),0,0):=by
 have hc:Zra l=0:=by
  unfold Zdd at h
  by_cases hc:Zra l=0
  ·exact hc
  ·rw [if_pos hc] at h;exact absurd h hc
 have hdep:Znb l≠0:=by
  intro hd;rw [Zra,if_pos hd] at hc;cases hc
 obtain ⟨x,hx,rfl⟩:=Zin hdep;rw [Za6 hx hc] at h ⊢;obtain ⟨h1,h2⟩:=Z4ea _ _ _ h;exact ⟨x,hx,rfl,hc,h1,h2⟩
theorem Z1ba (x:X):x∈Zmc x:=(Sub.refl x).mem
theorem Z2ca {N:List (List UInt8)} {l:List XN} (h:(Z1w N l).2.2=0):∃ x:X,x.ok=true∧l=x.row 0∧Zra (x.row 0)=0∧(∀ y∈Zmc x,Z5b N y≠0)∧(Z1w N l).1=Z5b N x:=by
 unfold Z1w at h ⊢
 by_cases hk:(Zdd N l).2.2=0
 ·rw [if_neg (by simpa using hk)]
  obtain ⟨x,hx,hl,hc,hs,he⟩:=Z41 hk;refine ⟨x,hx,hl,hc,hs,?_⟩;rw [he]
  show ((Zmc x).map (Z5b N)).getD (((Zmc x).map (Z5b N)).length-1) 0=_
  rw [List.length_map,Zvb,List.getD_eq_getElem?_getD,List.getElem?_map,Zl3]
  try rfl
 ·rw [if_pos hk] at h
  exact absurd h hk
theorem Zsda {env:List (List UInt8 × Int)} {l:List XN} (h:(Z1w (env.map (·.1)) l).2.2=0):((evL env l).kind=(Z1w (env.map (·.1)) l).1∧(evL env l).kind≠0)∨evL env l = .err 60∨evL env l = .err 61:=by
 obtain ⟨x,hx,rfl,hc,hs,hk⟩:=Z2ca h;rw [hk,Zen hx hc]
 rcases ev_kind hx hs with h | h
 ·exact .inl ⟨h,by rw [h];exact hs x (Z1ba x)⟩
 ·exact .inr h
end Go.Hs
end

section
namespace Go.Hs
section
variable {w:List (List UInt8 × Int)→List XN→EV}
theorem Z84 {s:ASt} {r:RU}:((Zfc w s r).2=0→(Zfc w s r).1.done=r.done+1)∧((Zfc w s r).2≠0→(Zfc w s r).1=r):=by
 unfold Zfc
 split
 ·exact ⟨fun h=>(by cases h),fun _=>rfl⟩
 split
 ·rename_i h;exact ⟨fun q=>absurd q h,fun _=>rfl⟩
 split
 ·exact ⟨fun _=>rfl,fun h=>absurd rfl h⟩
 ·exact ⟨fun _=>rfl,fun h=>absurd rfl h⟩
theorem Zwx:∀ (b:List ASt) (r:RU),((Zne w b r).2=0→(Zne w b r).1.done=r.done+b.length)∧((Zne w b r).2≠0→(Zne w b r).1.done<r.done+b.length)
 | [],r=>⟨fun _=>rfl,fun h=>absurd rfl h⟩
 | s::t,r=>by
  have h1:=Z84 (w:=w) (s:=s) (r:=r);rw [Zne,List.length_cons]
  split
  ·rename_i h
   exact ⟨fun q=>absurd q h,fun _=>by rw [h1.2 h];omega⟩
  ·rename_i h
   have h2:=h1.1 (Classical.byContradiction h);have h3:=Zwx t (Zfc w s r).1;rw [h2] at h3;exact ⟨fun q=>by rw [h3.1 q];omega,fun q=>by have:=h3.2 q;omega⟩
theorem Zhca {l:List (List UInt8 × Int)} {s:List UInt8} {n:Int} (h:Z0e l s≠none):(l.set ((Z0e l s).getD 0) (s,n)).map (·.1)=l.map (·.1):=by
 cases hp:Z0e l s with
 | none=>exact absurd hp h
 | some i =>
  obtain ⟨p,hg,rfl⟩:=Zwl hp
  show (l.set i (p.1,n)).map (·.1)=_
  rw [List.map_set]
  have:(l.map (·.1))[i]? = some p.1:=by rw [List.getElem?_map,hg];rfl
  obtain ⟨q1,q2⟩:=List.getElem?_eq_some_iff.1 this;exact (congrArg (fun z=>(l.map (·.1)).set i z) q2.symm).trans (List.set_getElem_self q1)
theorem stepU_names {s:ASt} {r:RU}:(Zfc w s r).1.vars.map (·.1)=r.vars.map (·.1):=by
 unfold Zfc
 split
 ·rfl
 split
 ·rfl
 split
 ·rename_i h1 _ h2
  exact Zhca fun q=>h1 ⟨h2,q⟩
 ·rfl
theorem Zhs:∀ (b:List ASt) (r:RU),(Zne w b r).1.vars.map (·.1)=r.vars.map (·.1)
 | [],r=>rfl
 | s::t,r=>by
  rw [Zne]
  split
  ·exact stepU_names
  ·rw [Zhs t,stepU_names]
theorem Zux {i:Nat} {p:List UInt8 × Int}:∀ (b:List ASt) (r:RU),r.vars[i]? = some p→(∀ s∈b,s.kind≠1∨s.name≠p.1)→(Zne w b r).1.vars[i]? = some p
 | [],r,h,_=>h
 | s::t,r,h,hs=>by
  have h1:(Zfc w s r).1.vars[i]? = some p:=by
   unfold Zfc
   split
   ·exact h
   split
   ·exact h
   split
   ·rename_i q1 _ q2
    cases hp:Z0e r.vars s.name with
    | none=>exact absurd ⟨q2,hp⟩ q1
    | some j =>
     obtain ⟨q,hg,hq⟩:=Zwl hp
     show (r.vars.set j _)[i]? = _
     rw [List.getElem?_set_ne]
     ·exact h
     ·rintro rfl
      rw [hg] at h;cases h
      rcases hs s (List.mem_cons_self ..) with q | q
      ·exact q q2
      ·exact q hq.symm
   ·exact h
  rw [Zne]
  split
  ·exact h1
  ·exact Zux t _ h1 fun x hx=>hs x (List.mem_cons_of_mem _ hx)
theorem Zis {P:List UInt8→Prop}:∀ (b:List ASt) (r:RU),(∀ p∈r.emits,P p.1)→(∀ s∈b,s.kind≠1→P s.name)→∀ p∈(Zne w b r).1.emits,P p.1
 | [],r,h,_=>h
 | s::t,r,h,hs=>by
  have h1:∀ p∈(Zfc w s r).1.emits,P p.1:=by
   unfold Zfc
   split
   ·exact h
   split
   ·exact h
   split
   ·exact h
   ·rename_i q
    intro p hp
    rcases List.mem_append.1 hp with hp | hp
    ·exact h p hp
    ·rw [List.mem_singleton.1 hp];exact hs s (List.mem_cons_self ..) q
  rw [Zne]
  split
  ·exact h1
  ·exact Zis t _ h1 fun x hx=>hs x (List.mem_cons_of_mem _ hx)
theorem Zs3 {P:Int→Prop} {N:List (List UInt8)}:∀ (b:List ASt) (r:RU),r.vars.map (·.1)=N→(∀ p∈r.vars,Z2b p.2=true)→(∀ v,(∀ p∈v,Z2b p.2=true)→∀ s∈b,(w v s.x).fine)→(∀ s∈b,s.kind=1→s.name∈N) →
  (∀ v,v.map (·.1)=N→(∀ p∈v,Z2b p.2=true)→∀ s∈b,(w v s.x).er=0∨P (w v s.x).er)→(Zne w b r).2=0∨P (Zne w b r).2
 | [],r,_,_,_,_,_ => .inl rfl
 | s::t,r,hN,hfit,hw,hk,he=>by
  have h1:(Zfc w s r).2=0∨P (Zfc w s r).2:=by
   unfold Zfc
   split
   ·rename_i q
    exfalso
    have hm:=hk s (List.mem_cons_self ..) q.1;rw [← hN,List.mem_map] at hm;obtain ⟨p,hp,hps⟩:=hm;have:=List.findIdx?_eq_none_iff.1 q.2 p hp;simp [hps] at this
   split
   ·exact he _ hN hfit s (List.mem_cons_self ..)
   split
   ·exact .inl rfl
   ·exact .inl rfl
  rw [Zne]
  split
  ·exact h1
  ·have hok:RuOk r.vars.length (max r.done r.emits.length) r:=⟨rfl,hfit,Nat.le_max_left ..,Nat.le_max_right ..⟩
   exact Zs3 t _ (stepU_names.trans hN) (Zkl hok (hw _ hfit s (List.mem_cons_self ..))).fit (fun v hv x hx=>hw v hv x (List.mem_cons_of_mem _ hx)) (fun x hx=>hk x (List.mem_cons_of_mem _ hx)) (fun v h1 h2 x hx=>he v h1 h2 x (List.mem_cons_of_mem _ hx))
end
end Go.Hs
end

section
namespace Go.Hs
open Go.Proofs
set_option maxHeartbeats 1000000
set_option maxRecDepth 10000
theorem Z7w {arg:Int} {v:List (List UInt8 × Int)} {x:List XN} (h:Zju (v.map (·.1)++[Z3w]) x=true):(worthU arg v x).er=0∨(worthU arg v x).er=60∨(worthU arg v x).er=61:=by
 unfold worthU
 by_cases hx:x=[]
 ·rw [if_pos hx];exact .inl rfl
 rw [if_neg hx];unfold Zju at h;rw [Bool.or_eq_true,List.isEmpty_iff,beq_iff_eq] at h;have hk:(Z1w (v.map (·.1)++[Z3w]) x).1=1:=h.resolve_left hx
 have he:(Z1w (v.map (·.1)++[Z3w]) x).2.2=0:=by
  refine Classical.byContradiction fun q=>?_;rw [ofTP_e q] at hk;cases hk
 have hm:(v++[(Zdl,arg)]).map (·.1)=v.map (·.1)++[Z3w]:=by rw [List.map_append];rfl
 have ht:=Zsda (env:=v++[(Zdl,arg)]) (l:=x) (by rw [hm];exact he);rw [hm,hk] at ht
 rcases ht with ⟨h1,_⟩ | h1 | h1
 ·generalize evL (v++[(Zdl,arg)]) x=y at h1
  cases y with
  | err e=>cases h1
  | num n=>exact .inl rfl
  | tru b=>cases h1
 ·rw [h1];exact .inr (.inl rfl)
 ·rw [h1];exact .inr (.inr rfl)
structure TyU (b:List ASt) (vs:List (List UInt8 × Int)) (events:List (List UInt8)) (q:RU × Int):Prop where
 len:q.1.vars.length=vs.length
 done:q.1.done≤b.length
 ok:q.2=0 ↔ q.1.done=b.length
 names:∀ (i:Nat) (p:List UInt8 × Int),vs[i]? = some p→∃ n,q.1.vars[i]? = some (p.1,n)
 kept:∀ (i:Nat) (p:List UInt8 × Int),vs[i]? = some p→(∀ s∈b,s.kind≠1∨s.name≠p.1)→q.1.vars[i]? = some p
 err:(Zqn b (vs.map (·.1)) events).2=0→q.2=0∨q.2=60∨q.2=61
 em:(Zqn b (vs.map (·.1)) events).2=0→∀ p∈q.1.emits,p.1∈events
theorem Z14 {s:Sl AM} {vs:List (List UInt8 × Int)} {arg:Int} (h:RunIn s vs arg) (events:List (List UInt8)) (hc:Z3a (s.l.map AM.v)=0):TyU (s.l.map AM.v) vs events (runB arg (s.l.map AM.v) vs):=by
 have hk:=Zok h hc;obtain ⟨_,hall⟩:=Zjh hc
 have hw:∀ v:List (List UInt8 × Int),(∀ p∈v,Z2b p.2=true)→∀ q∈s.l.map AM.v,(worthU arg v q.x).fine:=fun v hv q hq=>by
  obtain ⟨a,ha,rfl⟩:=List.mem_map.1 hq;exact Zxf (hall _ hq).2 (h.hn a ha) hv h.ha
 have e:runB arg (s.l.map AM.v) vs=Zne (worthU arg) (s.l.map AM.v) ⟨vs,[],0⟩:=if_neg (by rw [hc];decide);rw [e] at hk ⊢;have hd:=Zwx (w:=worthU arg) (s.l.map AM.v) ⟨vs,[],0⟩;have hnm:=Zhs (w:=worthU arg) (s.l.map AM.v) ⟨vs,[],0⟩
 have hty:∀ (hT:(Zqn (s.l.map AM.v) (vs.map (·.1)) events).2=0),∀ q∈s.l.map AM.v,stT (vs.map (·.1)) events q=true:=by
  intro hT;unfold Zqn at hT;rw [if_neg (by rw [hc];decide)] at hT;exact List.all_eq_true.1 ((Z9r _ _).1 hT)
 refine ⟨hk.len,?_,⟨fun h0=>?_,fun h0=>?_⟩,?_,?_,?_,?_⟩
 ·by_cases h0:(Zne (worthU arg) (s.l.map AM.v) ⟨vs,[],0⟩).2=0
  ·have:=hd.1 h0;simp only [Nat.zero_add] at this;omega
  ·have:=hd.2 h0;simp only [Nat.zero_add] at this;omega
 ·have:=hd.1 h0;simpa using this
 ·refine Classical.byContradiction fun q=>?_
  have:=hd.2 q;simp only [Nat.zero_add] at this;omega
 ·intro i p hi
  have h1:(vs.map (·.1))[i]? = some p.1:=by rw [List.getElem?_map,hi];rfl
  rw [← hnm,List.getElem?_map] at h1
  cases hq:(Zne (worthU arg) (s.l.map AM.v) ⟨vs,[],0⟩).1.vars[i]? with
  | none=>rw [hq] at h1;cases h1
  | some y =>
   rw [hq] at h1
   have h1:y.1=p.1:=by simpa using h1
   exact ⟨y.2,by rw [← h1]⟩
 ·intro i p hi hs
  exact Zux (w:=worthU arg) _ ⟨vs,[],0⟩ hi hs
 ·intro hT
  have hst:=hty hT;refine Zs3 (w:=worthU arg) (P:=fun e=>e=60∨e=61) (N:=vs.map (·.1)) _ ⟨vs,[],0⟩ rfl h.hf hw (fun q hq hk1=>?_) (fun v hN _ q hq=>?_)
  ·have:=hst q hq
   unfold stT at this;rw [Bool.and_eq_true,if_neg (by rw [hk1];decide)] at this;simpa [List.contains_eq_mem] using this.1
  ·have:=hst q hq
   unfold stT at this;rw [Bool.and_eq_true] at this;refine Z7w ?_;rw [hN];exact this.2
 ·intro hT
  have hst:=hty hT;refine Zis (w:=worthU arg) (P:=fun t=>t∈events) _ ⟨vs,[],0⟩ (fun p hp=>by cases hp) (fun q hq hk1=>?_);have hk2:q.kind=2:=((hall q hq).1).resolve_left hk1;have:=hst q hq;unfold stT at this;rw [Bool.and_eq_true,if_pos hk2] at this;simpa [List.contains_eq_mem] using this.1
theorem Zr3 {w:List (List UInt8 × Int)→List XN→EV}:∀ (b:List ASt) (r:RU),(∀ p∈r.vars,Z2b p.2=true)→(∀ v,(∀ p∈v,Z2b p.2=true)→∀ s∈b,(w v s.x).fine)→(Zne w b r).2≠2
 | [],r,_,_=>by show (0:Int)≠2;decide
 | s::t,r,hf,hw=>by
  have hfin:=hw _ hf s (List.mem_cons_self ..)
  have h1:(Zfc w s r).2≠2:=by
   unfold Zfc
   split
   ·show (90:Int)≠2;decide
   split
   ·show (w r.vars s.x).er≠2
    cases hv:w r.vars s.x with
    | err e =>
     rw [hv] at hfin
     show e≠2
     rcases hfin with q | q | q<;>omega
    | num n=>show (0:Int)≠2;decide
    | tru b=>show (0:Int)≠2;decide
   split
   ·show (0:Int)≠2;decide
   ·show (0:Int)≠2;decide
  rw [Zne]
  split
  ·exact h1
  ·have hok:RuOk r.vars.length (max r.done r.emits.length) r:=⟨rfl,hf,Nat.le_max_left ..,Nat.le_max_right ..⟩
   exact Zr3 t _ (Zkl hok hfin).fit fun v hv x hx=>hw v hv x (List.mem_cons_of_mem _ hx)
theorem Zjca {s:Sl AM} {vs:List (List UInt8 × Int)} {arg:Int} (h:RunIn s vs arg) (hc:Z3a (s.l.map AM.v)=0):(runB arg (s.l.map AM.v) vs).2≠2:=by
 obtain ⟨_,hall⟩:=Zjh hc;have e:runB arg (s.l.map AM.v) vs=Zne (worthU arg) (s.l.map AM.v) ⟨vs,[],0⟩:=if_neg (by rw [hc];decide);rw [e];refine Zr3 _ ⟨vs,[],0⟩ h.hf fun v hv q hq=>?_;obtain ⟨a,ha,rfl⟩:=List.mem_map.1 hq;exact Zxf (hall _ hq).2 (h.hn a ha) hv h.ha
theorem Zmy (G:Nat→V) (hE:GExp G) (c c1 c2 c3:Col) (s:Sl AM) (hn:∀ a∈s.l,∀ n∈a.x.l,Z2b n.num=true) (vs:Sl (List UInt8 × Int)) (hf:∀ p∈vs.l,Z2b p.2=true) (arg:Int) (ha:Z2b arg=true) (ev:Sl (List UInt8)) :
  Spec Tryz.prog G 11 [.agg [Za c 3 (Zda c1) s],Za c2 2 Zi vs,.int .i64 arg,Za c3 1 V.str ev] Zm (fun v _=>v = .bool true):=by
 have hG:=hE.ok;have hW:=Zve G hE;refine Zo 0 224 [.tmp 8] Tryz.func11 fun X=>?_;refine Z1 ?_;intro g4;refine Zha (fun (_:Unit)=>st [(1,Za c2 2 Zi vs),(2,.int .i64 arg),(3,Za c3 1 V.str ev),(4,.ptr 4 g4 0)] [(4,.cells .new g4 0 [Za c 3 (Zda c1) s])]) (fun _=>Zeea s.l vs.l∧ev.l.length≤10) (fun K1 hK1=>?_) ?_
 ·refine Z ?_
  refine CallA.pure hG zk ?_;refine Zs ?_;refine (Zsh G hG _ _ _ s vs).mono ?_;rintro _ _ ⟨b,rfl,hb⟩
  cases b with
  | false =>
   refine Zs ?_;refine Z ?_;refine Zc hG ?_ (s:=hW);exact Zr
  | true =>
   by_cases he:ev.l.length > 10
   ·have q:decide (((ev.l.length:Nat):Int) > 10)=true:=zT
    refine Zsf q ?_;refine Z ?_;refine Zc hG ?_ (s:=hW);exact Zr
   ·have q:decide (((ev.l.length:Nat):Int) > 10)=false:=zF
    refine Zsf q ?_;refine Z ?_;exact hK1 _ () ⟨hb rfl,by omega⟩ (Zb zp zp)
 rintro _ ⟨⟨f1,f2,f3,f4⟩,f5⟩;have hB:∀ a∈s.l,AmB a:=fun a ha=>⟨by have:=(f3 a ha).1;omega,by have:=(f3 a ha).2.1;omega,fun n hn=>by have:=(f3 a ha).2.2 n hn;omega⟩;have hIn:RunIn s vs.l arg:=⟨by omega,hB,hn,by omega,hf,ha⟩;refine Z1 ?_;refine Zha (fun (_:Unit)=>st [(1,Za c2 2 Zi vs),(2,.int .i64 arg),(3,Za c3 1 V.str ev),(4,.ptr 4 g4 0),(9,Za .new 1 V.str (Zv (vs.l.map (·.1))))] [(4,.cells .new g4 0 [Za c 3 (Zda c1) s])]) (fun _=>True) (fun K1 hK1=>?_) ?_
 ·refine Z ?_
  refine Zwa vs.l.length (fun k (gx:Nat)=>st [(1,Za c2 2 Zi vs),(2,.int .i64 arg),(3,Za c3 1 V.str ev),(4,.ptr 4 g4 0),(9,grown 43 gx 1 ((vs.l.take k).map (·.1))),(10,.int .i64 k)] [(4,.cells .new g4 0 [Za c 3 (Zda c1) s]),(43,Zua gx V.str ((vs.l.take k).map (·.1)))])
   (fun k _=>True) 0 0 (Nat.zero_le _) trivial (Zb zp (by simp -implicitDefEqProofs only[go_sem,seval];first | rfl | exact ⟨rfl,rfl⟩)) ?_
  intro k gx hk _ L3 hL3
  by_cases hk1:k<vs.l.length
  ·have hg:=List.getElem?_eq_getElem hk1
   have htk:(vs.l.take (k+1)).map (·.1)=(vs.l.take k).map (·.1)++[(vs.l[k]).1]:=by rw [List.take_succ_eq_append_getElem hk1,List.map_append];rfl
   have hlt':((vs.l.take k).map (·.1)).length=k:=by rw [List.length_map,List.length_take];omega
   have hlt:decide ((k:Int)<(vs.l.length:Int))=true:=zT;have w1:IntKind.i64.wrap ((k:Int)+1)=(k:Int)+1:=w64 (by omega) (by omega);generalize vs.l[k]=p at hg htk;generalize (vs.l.take k).map (·.1)=ns at htk hlt' ⊢;refine Zf (zi hlt (zi hg Zzb)) ?_;intro g42;refine Zza (f:=V.str) (l:=ns) (l2:=[p.1]) (g:=gx) Zxe rfl rfl rfl zp (Zca (by omega) (by simp;omega)) fun g2=>?_;refine Zs ?_;refine Zf w1 ?_;exact hL3 _ ⟨hk1,g2,trivial,Zb (by simp -implicitDefEqProofs only[go_sem,seval];rw [htk];try (first | rfl | exact ⟨rfl,rfl⟩)) (by simp -implicitDefEqProofs only[go_sem,seval];rw [htk];try (first | rfl | exact ⟨rfl,rfl⟩))⟩
  have hke:k=vs.l.length:=by omega
  have hlt:decide ((k:Int)<(vs.l.length:Int))=false:=zF;rw [hke,List.take_length];rw [hke] at hlt;refine Zf hlt ?_;refine hK1 _ () trivial (Zz (fun o=>o==43) ?_ ?_)
  ·simp -implicitDefEqProofs only[go_sem,seval]
   exact ⟨Zd _,Zd _,Zd _,Zd _,Z1a rfl zp Zxe⟩
  ·simp only [Zl,Zt,and_true]
   exact FzO.keep rfl zp
 intro _ _;refine Zha (fun (_:Unit)=>st [(1,Za c2 2 Zi vs),(2,.int .i64 arg),(3,Za c3 1 V.str ev),(4,.ptr 4 g4 0),(9,Za .new 1 V.str (Zv (vs.l.map (·.1))))] [(4,.cells .new g4 0 [Za c 3 (Zda c1) s])]) (fun _=>True) (fun K1 hK1=>?_) ?_
 ·refine Z ?_
  refine Zwa ev.l.length (fun k (_:Unit)=>st [(1,Za c2 2 Zi vs),(2,.int .i64 arg),(3,Za c3 1 V.str ev),(4,.ptr 4 g4 0),(9,Za .new 1 V.str (Zv (vs.l.map (·.1)))),(11,.int .i64 k)] [(4,.cells .new g4 0 [Za c 3 (Zda c1) s])])
   (fun k _=>True) 0 () (Nat.zero_le _) trivial (Zb zp zp) ?_
  intro k _ hk _ L3 hL3
  by_cases hk1:k<ev.l.length
  ·have hg:=List.getElem?_eq_getElem hk1
   have hlt:decide ((k:Int)<(ev.l.length:Int))=true:=zT;have w1:IntKind.i64.wrap ((k:Int)+1)=(k:Int)+1:=w64 (by omega) (by omega);generalize ev.l[k]=t at hg
   by_cases ht:t.length > 70
   ·have q:decide (((t.length:Nat):Int) > 70)=true:=zT
    refine Zf (zi hlt (zi hg q)) ?_;refine Zc hG ?_ (s:=hW);exact Zr
   ·have q:decide (((t.length:Nat):Int) > 70)=false:=zF
    refine Zf (zi hlt (zi hg (zi q w1))) ?_;exact hL3 _ ⟨hk1,(),trivial,Zb zp zp⟩
  have hlt:decide ((k:Int)<(ev.l.length:Int))=false:=zF;refine Zf hlt ?_;exact hK1 _ () trivial (Zb zp zp)
 intro _ _;have k1:=svR_l hIn;obtain ⟨k2,k3⟩:=Zym hIn;have ht:∀ c c1 c2,Spec Tryz.prog G 32 [.agg [Za c 3 (Zda c1) s],Za c2 2 Zi vs,.int .i64 arg] Zm (fun v _=>v = .tuple [.agg [Za .new 2 Zi (svR (s.l.map AM.v) vs (runB arg (s.l.map AM.v) vs.l).1.vars),Za .new 2 Zi (Zv (runB arg (s.l.map AM.v) vs.l).1.emits),.int .i64 (runB arg (s.l.map AM.v) vs.l).1.done],.int .i64 (runB arg (s.l.map AM.v) vs.l).2]):=fun c c1 c2=>Zjo G hE c c1 c2 s vs arg hIn;have hbad:Z3a (s.l.map AM.v)≠0→(runB arg (s.l.map AM.v) vs.l)=(⟨[],[],0⟩,2):=fun h=>if_pos h;have hne2:=Zjca hIn;have hty:=Z14 hIn ev.l;generalize svR (s.l.map AM.v) vs (runB arg (s.l.map AM.v) vs.l).1.vars=sv at ht k1;generalize runB arg (s.l.map AM.v) vs.l=q at ht k1 k2 k3 hbad hne2 hty;refine Z ?_;refine Zc hG ?_ (s:=ht _ _ _);intro g12;refine Zs ?_;refine AW.weak (Zz (fun o=>o==12) (l:=[(1,Za c2 2 Zi vs),(2,.int .i64 arg),(3,Za c3 1 V.str ev),(4,.ptr 4 g4 0),(9,Za .new 1 V.str (Zv (vs.l.map (·.1)))),(12,.view .new (.agg [Za .new 2 Zi sv,Za .new 2 Zi (Zv q.1.emits),.int .i64 q.1.done])),(13,.int .i64 q.2)]) (m:=[(4,.cells .new g4 0 [Za c 3 (Zda c1) s])]) ?_ ?_) ?_
 ·simp -implicitDefEqProofs only[go_sem,seval]
  exact ⟨Zd _,Zd _,Zd _,Zd _,Zd _,Fz.ptr (v := .agg [Za .new 2 Zi sv,Za .new 2 Zi (Zv q.1.emits),.int .i64 q.1.done]) (c := .new) (fz:=0) rfl zp,Zd _⟩
 ·simp only [Zl,Zt,and_true]
  exact FzO.keep rfl zp
 by_cases hc:Z3a (s.l.map AM.v)=0
 rotate_left
 ·have:=hbad hc
  subst this
  have hsv:sv.l.length=0:=by rw [k1];rfl
  have e0:((sv.l.length:Int)==0)=true:=by rw [hsv];rfl
  refine Zf e0 ?_;refine Zc hG ?_ (s:=hW);exact Zr
 have e2:(q.2==2)=false:=by simpa using hne2 hc
 have hT:=hty hc;have hTy:=fun c c1 c2 c3=>Zg2 G hE c c1 c2 c3 s (Zv (vs.l.map (·.1))) ev (by omega) hB (by rw [Zea,List.length_map];omega) (by omega);rw [Zea] at hTy;have herr:=hT.err;have hem:=hT.em;generalize Zqn (s.l.map AM.v) (vs.l.map (·.1)) ev.l=T at hTy herr hem;have hTy':∀ c c1 c2 c3,Spec Tryz.prog G 38 [.agg [Za c 3 (Zda c1) s],Za c2 1 V.str (Zv (vs.l.map (·.1))),Za c3 1 V.str ev] Zm (fun v _=>v = .tuple [.int .i64 T.1,.int .i64 T.2]):=hTy;refine Zf e2 ?_;refine Zc hG ?_ (s:=hTy' _ _ _ _);refine Zs ?_;have hsl:(s.l.map AM.v).length=s.l.length:=List.length_map _;have hdn:=hT.done;have hok:=hT.ok;rw [hsl] at hdn hok;refine Zha (fun (_:Unit)=>st [(1,Za c2 2 Zi vs),(2,.int .i64 arg),(3,Za c3 1 V.str ev),(4,.ptr 4 g4 0),(12,.view .new (.agg [Za .new 2 Zi sv,Za .new 2 Zi (Zv q.1.emits),.int .i64 q.1.done])),(15,.int .i64 T.2)] [(4,.cells .new g4 0 [Za c 3 (Zda c1) s])]) (fun _=>True) (fun K1 hK1=>?_) ?_
 ·have r1:(((sv.l.length:Nat):Int) != ((vs.l.length:Nat):Int))=false:=by rw [k1,hT.len];simp
  have r2:decide ((q.1.done:Int)<0)=false:=zF;have r3:decide ((q.1.done:Int) > (s.l.length:Int))=false:=zF
  have r4:((q.2==0) != ((q.1.done:Int)==(s.l.length:Int)))=false:=by
   by_cases h0:q.2=0
   ·have h1:=hok.1 h0
    simp [h0,h1]
   ·have h1:¬ (q.1.done:Int)=(s.l.length:Int):=fun e=>h0 (hok.2 (by omega))
    rw [beq_eq_false_iff_ne.2 h0,beq_eq_false_iff_ne.2 h1];rfl
  by_cases hT0:T.2=0
  ·have f1:(T.2==0)=true:=by simpa using hT0
   rcases herr hT0 with h | h | h
   ·have g1:(q.2 != 0)=false:=by simp [h]
    refine Zf (zi f1 (zi g1 (zi r1 (zi r2 (zi r3 r4))))) ?_;exact hK1 _ () trivial (Zb zp zp)
   ·have g1:(q.2 != 0)=true:=by simp [h]
    have g2:(q.2 != 60)=false:=by simp [h]
    refine Zf (zi f1 (zi g1 (zi g2 (zi r1 (zi r2 (zi r3 r4)))))) ?_;exact hK1 _ () trivial (Zb zp zp)
   ·have g1:(q.2 != 0)=true:=by simp [h]
    have g2:(q.2 != 60)=true:=by simp [h]
    have g3:(q.2 != 61)=false:=by simp [h]
    refine Zf (zi f1 (zi g1 (zi g2 (zi g3 (zi r1 (zi r2 (zi r3 r4))))))) ?_;exact hK1 _ () trivial (Zb zp zp)
  ·have f1:(T.2==0)=false:=by simpa using hT0
   refine Zf (zi f1 (zi r1 (zi r2 (zi r3 r4)))) ?_;exact hK1 _ () trivial (Zb zp zp)
 intro _ _;have hel := @Zea (List UInt8 × Int) q.1.emits;rw [← hel] at hem
 have hen:(Zv q.1.emits).l.length≤1000000:=by rw [hel];omega
 generalize Zv q.1.emits=es at hem hen ⊢;refine Zha (fun (_:Unit)=>st [(1,Za c2 2 Zi vs),(2,.int .i64 arg),(3,Za c3 1 V.str ev),(4,.ptr 4 g4 0),(12,.view .new (.agg [Za .new 2 Zi sv,Za .new 2 Zi es,.int .i64 q.1.done]))] [(4,.cells .new g4 0 [Za c 3 (Zda c1) s])]) (fun _=>True) (fun K1 hK1=>?_) ?_
 ·refine Z ?_
  refine Zwa es.l.length (fun k (_:Unit)=>st [(1,Za c2 2 Zi vs),(2,.int .i64 arg),(3,Za c3 1 V.str ev),(4,.ptr 4 g4 0),(12,.view .new (.agg [Za .new 2 Zi sv,Za .new 2 Zi es,.int .i64 q.1.done])),(15,.int .i64 T.2),(16,.int .i64 k)] [(4,.cells .new g4 0 [Za c 3 (Zda c1) s])])
   (fun k _=>True) 0 () (Nat.zero_le _) trivial (Zb zp zp) ?_
  intro k _ hk _ L3 hL3
  by_cases hk1:k<es.l.length
  ·have hg:=List.getElem?_eq_getElem hk1
   have hm:es.l[k]∈es.l:=List.getElem_mem hk1;have hlt:decide ((k:Int)<(es.l.length:Int))=true:=zT;have w1:IntKind.i64.wrap ((k:Int)+1)=(k:Int)+1:=w64 (by omega) (by omega);generalize es.l[k]=p at hg hm
   by_cases hT0:T.2=0
   ·have f1:(T.2==0)=true:=by simpa using hT0
    have ham:∀ c,Spec Tryz.prog G 39 [.str p.1,Za c 1 V.str ev] Zm (fun v _=>v = .bool true):=fun c=>by
     have:=Z7y G hG c p.1 ev (by omega);rw [show ev.l.contains p.1=true from by rw [List.contains_eq_mem];exact decide_eq_true (hem hT0 p hm)] at this;exact this
    refine Zf (zi hlt (zi f1 (zi hg Zzb))) ?_;refine Zc hG ?_ (s:=ham _);refine Zf w1 ?_;exact hL3 _ ⟨hk1,(),trivial,Zb zp zp⟩
   ·have f1:(T.2==0)=false:=by simpa using hT0
    refine Zf (zi hlt (zi f1 w1)) ?_;exact hL3 _ ⟨hk1,(),trivial,Zb zp zp⟩
  have hlt:decide ((k:Int)<(es.l.length:Int))=false:=zF;refine Zf hlt ?_;exact hK1 _ () trivial (Zb zp zp)
 intro _ _;refine Z ?_;refine Zwa vs.l.length (fun i (_:Unit)=>st [(1,Za c2 2 Zi vs),(2,.int .i64 arg),(3,Za c3 1 V.str ev),(4,.ptr 4 g4 0),(12,.view .new (.agg [Za .new 2 Zi sv,Za .new 2 Zi es,.int .i64 q.1.done])),(17,.int .i64 i)] [(4,.cells .new g4 0 [Za c 3 (Zda c1) s])]) (fun i _=>True) 0 () (Nat.zero_le _) trivial (Zb zp zp) ?_;intro i _ hi _ L3 hL3;have w1:IntKind.i64.wrap ((i:Int)+1)=(i:Int)+1:=w64 (by omega) (by omega)
 by_cases hi1:i<vs.l.length
 rotate_left
 ·have hlt:decide ((i:Int)<(vs.l.length:Int))=false:=zF
  refine Zf hlt ?_;refine Zc hG ?_ (s:=hW);exact Zr
 have hlt:decide ((i:Int)<(vs.l.length:Int))=true:=zT;have hgv:=List.getElem?_eq_getElem hi1;generalize vs.l[i]=p at hgv;obtain ⟨n,hqn⟩:=hT.names i p hgv;have hkp:=hT.kept i p hgv;rw [← k1] at hqn hkp;have hi2:i<sv.l.length:=(List.getElem?_eq_some_iff.1 hqn).1;refine Zf hlt ?_;refine Zwa s.l.length (fun k (kb:Bool)=>st [(1,Za c2 2 Zi vs),(2,.int .i64 arg),(3,Za c3 1 V.str ev),(4,.ptr 4 g4 0),(12,.view .new (.agg [Za .new 2 Zi sv,Za .new 2 Zi es,.int .i64 q.1.done])),(17,.int .i64 i),(18,.bool kb),(19,.int .i64 k)] [(4,.cells .new g4 0 [Za c 3 (Zda c1) s])]) (fun k kb=>kb=true→∀ a∈s.l.take k,a.kind≠1∨a.name≠p.1) 0 true (Nat.zero_le _) (fun _ a h=>by simp at h) (Zb zp zp) ?_;intro k kb hk hR L7 hL7;have w2:IntKind.i64.wrap ((k:Int)+1)=(k:Int)+1:=w64 (by omega) (by omega)
 by_cases hk1:k<s.l.length
 ·have hg:=List.getElem?_eq_getElem hk1
  have htk:s.l.take (k+1)=s.l.take k++[s.l[k]]:=by rw [List.take_succ_eq_append_getElem hk1]
  have hlt2:decide ((k:Int)<(s.l.length:Int))=true:=zT;generalize s.l[k]=a at hg htk
  cases kb with
  | false =>
   refine Z1f hlt2 ?_;refine ZT hG ?_;refine Zf w2 ?_;exact hL7 _ ⟨hk1,false,fun h=>(by cases h),Zb zp zp⟩
  | true =>
   have hR':=hR rfl
   by_cases hkd:a.kind=1
   ·have u1:(a.kind != 1)=false:=by simp [hkd]
    by_cases hnm:a.name=p.1
    ·have u2:(a.name==p.1)=true:=by simp [hnm]
     refine Z1f hlt2 ?_;refine ZTf (zi u1 (zi u2 (zi hg (zi hgv (zi @Z7a (zi Zzb (zi hk1 (zi hi1 (zi @Int.natCast_nonneg @Int.ofNat_lt))))))))) hG ?_;refine Zf w2 ?_;exact hL7 _ ⟨hk1,false,fun h=>(by cases h),Zb zp zp⟩
    ·have u2:(a.name==p.1)=false:=by simpa using hnm
     refine Z1f hlt2 ?_;refine ZTf (zi u1 (zi u2 (zi hg (zi hgv (zi @Z7a (zi Zzb (zi hk1 (zi hi1 (zi @Int.natCast_nonneg @Int.ofNat_lt))))))))) hG ?_;refine Zf w2 ?_;refine hL7 _ ⟨hk1,true,fun _ b hb=>?_,Zb zp zp⟩;rw [htk,List.mem_append,List.mem_singleton] at hb
     rcases hb with hb | rfl
     ·exact hR' b hb
     ·exact .inr hnm
   ·have u1:(a.kind != 1)=true:=by simpa using hkd
    refine Z1f hlt2 ?_;refine ZTf (zi u1 (zi hg (zi @Z7a (zi hk1 (zi @Int.natCast_nonneg @Int.ofNat_lt))))) hG ?_;refine Zf w2 ?_;refine hL7 _ ⟨hk1,true,fun _ b hb=>?_,Zb zp zp⟩;rw [htk,List.mem_append,List.mem_singleton] at hb
    rcases hb with hb | rfl
    ·exact hR' b hb
    ·exact .inl hkd
 have hke:k=s.l.length:=by omega
 have hlt2:decide ((k:Int)<(s.l.length:Int))=false:=zF;rw [hke,List.take_length] at hR
 have b1:(p.1==p.1)=true:=by simp
 cases kb with
 | false =>
  refine Zf hlt2 ?_;refine ZTf (zi hqn (zi hgv (zi b1 (zi Zzb (zi hi1 (zi hi2 (zi @Int.natCast_nonneg @Int.ofNat_lt))))))) hG ?_;refine Zf w1 ?_;exact hL3 _ ⟨hi1,(),trivial,Zb zp zp⟩
 | true =>
  have hpp:=hkp (fun b hb=>by
   obtain ⟨a,ha,rfl⟩:=List.mem_map.1 hb
   exact hR rfl a ha)
  have b2:(p.2 != p.2)=false:=by simp
  refine Zf hlt2 ?_;refine ZTf (zi hpp (zi hgv (zi b1 (zi b2 (zi Zzb (zi hi1 (zi hi2 (zi @Int.natCast_nonneg @Int.ofNat_lt)))))))) hG ?_;refine Zf w1 ?_;exact hL3 _ ⟨hi1,(),trivial,Zb zp zp⟩
def knV:List (List UInt8 × Int):=[([110],2),([109,111,115,116],9223372036854775807),([110],9),([103,111],4)]
def knL:List (List UInt8):=[[110,32,58,61,32,110,32,43,32,97,114,103,59],[101,109,105,116,32,103,111,40,110,41,59],[101,109,105,116,32,103,111,40,41,59],[101,109,105,116,32,117,112,40,109,111,115,116,32,43,32,49,41,59],[110,32,58,61,32,110,32,100,105,118,32,48,59],[109,32,58,61,32,49,32,100,105,118,32,48,59],[103,111,32,58,61,32,103,111,32,42,32,103,111,59],[110,32,58,61,32,116,114,117,101,59],[101,109,105,116,32,103,111,40,110,32,60,32,49,41,59],[110,32,58,61,32,119,59],[97,114,103,32,58,61,32,49,59],[109,111,115,116,32,58,61,32,45,32,109,111,115,116,32,45,32,49,59],[110,32,58,61,32,105,102,32,110,32,61,32,50,32,116,104,101,110,32,109,111,115,116,32,101,108,115,101,32,48,32,101,110,100,105,102,59],[],[110,32,58,61,32,59],[101,109,105,116,32,103,111,59]]
theorem Ztj:∀ p∈(Sl.mk false knV).l,Z2b p.2=true:=by decide
theorem knL_len:∀ p∈knL,p.length<100:=by decide
theorem lenR {n:Nat} (h:n<100000):¬ ((n:Int) > IntKind.i64.max):=by
 show ¬ ((n:Int) > 9223372036854775807)
 omega
theorem imBo (c:Col) (s:Sl AM):(V.agg [Za c 3 (Zda c) s]).Im := .agg _ fun y hy=>by
 rw [List.mem_singleton.1 hy];exact Zet (fun n z hz=>imAM c n z hz) _
theorem imBs (c:Col) (s:Sl (List UInt8 × Int)):(Za c 2 Zi s).Im:=Zet (fun n z hz=>biIm n z hz) _
theorem mslS {H:Heap} {o g n:Nat} {l:List (List UInt8)} (h:H o = .cells .new g 0 (flat (l.map V.str))) (hn:l.length=n):Rd H (.msl o g 0 n 1) (Za .old 1 V.str (.mk false l)):=by
 subst hn;have:=Rd.msl (l:=l) (off:=0) (n:=l.length) (f:=V.str) (f':=V.str) (g:=g) (fz:=0) (c := .new) h Zxe (fun x y hy=>by simp [V.cells] at hy;subst hy;exact .str _) (fun _=>rfl) (by omega);rw [List.drop_zero,List.take_length,Nat.zero_mul] at this;exact this
theorem mslBo {H:Heap} {o g n:Nat} {l:List AM} (h:H o = .cells .new g 0 (flat (l.map (Zda .new)))) (hn:l.length=n):Rd H (.agg [.msl o g 0 n 3]) (.agg [Za .old 3 (Zda .old) (.mk false l)]):=by
 subst hn;refine Cv.agg _ _ rfl fun i h1 h2=>?_
 have h0:i=0:=by simp only [List.length_cons,List.length_nil] at h1;omega
 subst h0;have:=Rd.msl (l:=l) (off:=0) (n:=l.length) (f:=Zda .new) (f':=Zda .old) (g:=g) (fz:=0) (c := .new) h (Za2 _) (imAM .new) (Zce _ _) (by omega);rw [List.drop_zero,List.take_length,Nat.zero_mul] at this;exact this
theorem bare (k:Int) (nm:List UInt8):∀ a∈(Sl.mk false [(⟨k,nm,.nil⟩:AM)]).l,∀ n∈a.x.l,Z2b n.num=true:=by
 intro a ha n hn;rw [Sl.l_mk,List.mem_singleton] at ha;subst ha;cases hn
theorem Zr9 (G:Nat→V) (hE:GExp G) (hGo:∀ g,(G g).Old):Spec Tryz.prog G 12 [] Zm (fun v _=>v = .bool true):=by
 have hG:=hE.ok;have hW:=Zve G hE;refine Zo 0 102 [.tmp 0] Tryz.func12 fun X=>?_;refine Z1 ?_;refine Z1 ?_;intro g13;refine Zs ?_;refine Z1 ?_;intro g14;refine Zs ?_;refine AW.weak (Zz (fun o=>o==13 || o==14) (l:=[(1,Za .new 2 Zi (.mk false knV)),(2,Za .new 1 V.str (.mk false knL))]) (m:=[]) ?_ trivial) ?_
 ·simp -implicitDefEqProofs only[go_sem,seval]
  exact ⟨Zaf (f:=Zi) (l:=knV) (m:=2) (g:=g13) (fz:=0) (c := .new) rfl zp Zsa,Zaf (f:=V.str) (l:=knL) (m:=1) (g:=g14) (fz:=0) (c := .new) rfl zp Zxe⟩
 have h16:knL.length=16:=rfl;have hlen:=knL_len;generalize knL=u at h16 hlen ⊢;refine Z ?_;refine Zwa u.length (fun i (_:Unit)=>st [(1,Za .new 2 Zi (.mk false knV)),(2,Za .new 1 V.str (.mk false u)),(3,.int .i64 i)] []) (fun _ _=>True) 0 () (Nat.zero_le _) trivial (Zb zp zp) ?_;intro i _ hi _ L3 hL3;have w1:IntKind.i64.wrap ((i:Int)+1)=(i:Int)+1:=w64 (by omega) (by omega)
 by_cases hi1:i<u.length
 rotate_left
 ·have hlt:decide ((i:Int)<(u.length:Int))=false:=zF
  refine Zf hlt ?_;intro g83;refine Ztc hG [.agg [Za .old 3 (Zda .old) (.mk false [⟨0,[],.nil⟩])],Za .old 2 Zi (.mk false knV),.int .i64 1] zk ⟨mslBo (l:=[⟨0,[],.nil⟩]) zp rfl,Z7e (imBs _ _) (Z2 _ _ _),Z7e (.int _ _) rfl,trivial⟩ ?_;refine (Zcu G hE hGo (.mk false [⟨0,[],.nil⟩]) (bare _ _) (.mk false knV) Ztj 1 (by decide)).mono ?_;rintro _ _ rfl;refine ⟨.bool _,?_⟩;refine Zs ?_;intro g89;refine Ztc hG [.agg [Za .old 3 (Zda .old) (.mk false [⟨2,[103,111],.nil⟩])],Za .old 2 Zi .nil,.int .i64 1] zk ⟨mslBo (l:=[⟨2,[103,111],.nil⟩]) zp rfl,Z7e .nils rfl,Z7e (.int _ _) rfl,trivial⟩ ?_;refine (Zcu G hE hGo (.mk false [⟨2,[103,111],.nil⟩]) (bare _ _) .nil (fun p hp=>by cases hp) 1 (by decide)).mono ?_;rintro _ _ rfl;refine ⟨.bool _,?_⟩;refine Zs ?_;intro g95;refine Ztc hG [.agg [Za .old 3 (Zda .old) (.mk false [⟨3,[],.nil⟩])],Za .old 2 Zi .nil,.int .i64 1,Za .old 1 V.str .nil] zk ⟨mslBo (l:=[⟨3,[],.nil⟩]) zp rfl,Z7e .nils rfl,Z7e (.int _ _) rfl,Z7e .nils rfl,trivial⟩ ?_;refine (Zmy G hE .old .old .old .old (.mk false [⟨3,[],.nil⟩]) (bare _ _) .nil (fun p hp=>by cases hp) 1 (by decide) .nil).mono ?_;rintro _ _ rfl;refine ⟨.bool _,?_⟩;refine Zs ?_;refine Zc hG ?_ (s:=hW);exact Zr
 have hlt:decide ((i:Int)<(u.length:Int))=true:=zT;refine Zf hlt ?_;refine Zwa u.length (fun k (_:Unit)=>st [(1,Za .new 2 Zi (.mk false knV)),(2,Za .new 1 V.str (.mk false u)),(3,.int .i64 i),(4,.int .i64 k)] []) (fun _ _=>True) 0 () (Nat.zero_le _) trivial (Zb zp zp) ?_;intro k _ hk _ L7 hL7;have w2:IntKind.i64.wrap ((k:Int)+1)=(k:Int)+1:=w64 (by omega) (by omega)
 by_cases hk1:k<u.length
 rotate_left
 ·have hlt2:decide ((k:Int)<(u.length:Int))=false:=zF
  refine Zf (zi hlt2 w1) ?_;exact hL3 _ ⟨hi1,(),trivial,Zb zp zp⟩
 have hlt2:decide ((k:Int)<(u.length:Int))=true:=zT;have w3:IntKind.i64.wrap ((i:Int)+(k:Int))=(i:Int)+(k:Int):=w64 (by omega) (by omega)
 obtain ⟨m,hm,hml⟩:∃ m:Nat,((i:Int)+(k:Int)).tmod (u.length:Int)=(m:Int)∧m<u.length:=by
  refine ⟨(i+k) % u.length,?_,Nat.mod_lt _ (by omega)⟩;rw [Int.tmod_eq_emod_of_nonneg (by omega),Int.natCast_emod];rfl
 have hgi:u[i]? = some (u[i]'hi1):=List.getElem?_eq_getElem hi1;have hgk:u[k]? = some (u[k]'hk1):=List.getElem?_eq_getElem hk1;have hgm:u[m]? = some (u[m]'hml):=List.getElem?_eq_getElem hml;have li:=hlen _ (List.getElem_mem (l:=u) hi1);have lk:=hlen _ (List.getElem_mem (l:=u) hk1);have lm:=hlen _ (List.getElem_mem (l:=u) hml);generalize u[i]'hi1=ti at hgi li;generalize u[k]'hk1=tk at hgk lk;generalize u[m]'hml=tm at hgm lm;have hne:((u.length:Int)=0)=False:=eq_false (by omega);have a1:=lenR (n:=ti.length+tk.length) (by omega);have a2:=lenR (n:=ti.length+tk.length+tm.length) (by omega);have a3:(ti++tk).length=ti.length+tk.length:=List.length_append
 have a4:((ti++tk)++tm).length=ti.length+tk.length+tm.length:=by rw [List.length_append,a3]
 have htl:(ti++tk++tm).length<400:=by rw [a4];omega
 refine Z1f hlt2 ?_;refine ZTf (zi a1 (zi a2 (zi a3 (zi a4 (zi hgi (zi hgk (zi hgm (zi w3 (zi hm (zi hi1 (zi hk1 (zi hml (zi hne (zi @Int.natCast_nonneg @Int.ofNat_lt)))))))))))))) hG ?_;generalize ti++tk++tm=w at htl ⊢;have hpa:=Zvq G hE w (by omega);have hin:=(VarIn.txt (vs:=knV) (arg:=3) ⟨by decide,Ztj,by decide⟩ (s:=w) (by omega)).hn;generalize Zzc w=p at hpa hin;obtain ⟨b,wi,we⟩:=p
 have hpe:Zdaa (b,wi,we) = .tuple [.agg [Za .new 3 (Zda .new) (amU b)],.int .i64 wi,.int .i64 we]:=by unfold Zdaa;rw [Zyj]
 rw [hpe] at hpa;have hfk:Z2b (k:Int)=true:=decide_eq_true ⟨by omega,by omega⟩
 have hk256:IntKind.u8.wrap (k:Int)=(k:Int):=by
  unfold IntKind.wrap;simp [IntKind.signed,IntKind.bits];omega
 refine Z ?_;refine Zc hG ?_ (s:=hpa);intro g6;refine Z ?_;refine Zc hG ?_ (s:=Zp9 G hE _ w (.mk false knV) Ztj 3 (by decide))
 by_cases he:we=0
 rotate_left
 ·have q:(we==0)=false:=by simpa using he
  refine Zsf q ?_;refine Zf w2 ?_;exact hL7 _ ⟨hk1,(),trivial,Zb zp zp⟩
 have q:(we==0)=true:=by simpa using he
 refine Zsf q ?_;refine Zc hG ?_ (s:=Zcu G hE hGo (amU b) hin (.mk false knV) Ztj k hfk);intro g68;refine Ztc hG [.agg [Za .old 3 (Zda .old) (amU b)],Za .old 2 Zi (.mk false knV),.int .i64 1,Za .old 1 V.str (.mk false [[103,111],[117,112]])] zk ⟨Z7e (imBo .new _) zp,Z7e (imBs _ _) (Z2 _ _ _),Z7e (.int _ _) rfl,mslS zp rfl,trivial⟩ ?_;refine (Zmy G hE .old .old .old .old (amU b) hin (.mk false knV) Ztj 1 (by decide) (.mk false [[103,111],[117,112]])).mono ?_;rintro _ _ rfl;refine ⟨.bool _,?_⟩;refine Zsf hk256 ?_;refine Zc hG ?_ (s:=Zq9 G hE _ _ _ (amU b) hin (.mk false knV) Ztj (-1) (by decide) k ⟨by omega,by omega⟩);refine Zs ?_;refine Zf w2 ?_;exact hL7 _ ⟨hk1,(),trivial,Zb zp zp⟩
end Go.Hs
end

section
namespace Go.Proofs.YtnjcehngoajnnaaGreatDoor
open Go.RowKit Go.Hs
set_option maxRecDepth 100000
def Zri:List (String × DataW Unit):=[("math/bits.deBruijn32tab",Rows.laid_math_bits_deBruijn32tab),("math/bits.deBruijn64tab",Rows.laid_math_bits_deBruijn64tab),("internal/strconv.uint64pow10",Rows.laid_internal_strconv_uint64pow10),("unicode/utf8.acceptRanges",Rows.laid_unicode_utf8_acceptRanges),("strconv.ErrRange",Rows.laid_strconv_ErrRange),("strconv.ErrSyntax",Rows.laid_strconv_ErrSyntax),("hopscotch/lex.signs",Rows.laid_hopscotch_lex_signs),("unicode/utf8.first",Rows.laid_unicode_utf8_first)]
noncomputable def low:Nat:=(World.holding Tryz.prog default ⟨#[],#[],[]⟩).heap.size
def b32:List Int:=[0,1,28,2,29,14,24,3,30,22,20,15,25,17,4,8,31,27,13,23,21,19,16,7,26,12,18,6,11,5,10,9]
def b64:List Int:=0::1::56::2::57::49::28::3::61::58::42::50::38::29::17::4::62::47::59::36::45::43::51::22::53::39::33::30::24::18::12::5::63::55::48::27::60::41::37::16::46::35::44::21::52::32::23::11::54::26::40::15::34::20::31::10::25::14::19::9::13::8::7::6::[]
def acR:List Int:=[128,191,160,191,128,159,144,191,128,143]++List.replicate 22 0
def errR:ByteArray:={ data := #[118,97,108,117,101,32,111,117,116,32,111,102,32,114,97,110,103,101] }
def errS:ByteArray:={ data := #[105,110,118,97,108,105,100,32,115,121,110,116,97,120] }
def Zwe (cs:Array Value):Obj→Obj
 | .cells _ t frozen => .cells cs t frozen
 | o=>o
noncomputable def laidWorld (os:Os):World :=
 let w0:=World.holding Tryz.prog os ⟨#[.cells #[.string errR] 328,.cells #[.string errS] 328],#[],[]⟩
 { w0 with heap:=(((((((w0.heap.modify 2 (Zwe #[.iface 326 (.pointer (some ⟨low,0,none⟩))])).modify 5 (Zwe #[.iface 326 (.pointer (some ⟨low+1,0,none⟩))])).modify 6
   (Zwe (Lib.pow10Tab.map (Value.int .u64)).toArray)).modify 7 (Zwe (b32.map (Value.int .u8)).toArray)).modify 8 (Zwe (b64.map (Value.int .u8)).toArray)).modify 4 (Zwe (acR.map (Value.int .u8)).toArray)).modify
   0 (Zwe (signsL.map fun s=>Value.string ⟨s.toArray⟩).toArray)).modify 3 (Zwe (Pinned.utf8FirstZ.map fun (n:Nat)=>Value.int .u8 (n:Int)).toArray) }
theorem Zbu (os:Os) (args:Array Value):laidMet Tryz.prog Zri ((laidWorld os).forCall (fun _ _=>0) ⟨#[],args,[]⟩).memory :=
 laidMet_of_run' 8 (by kernel_rfl) (by kernel_rfl)
end Go.Proofs.YtnjcehngoajnnaaGreatDoor
end

section
namespace Go.Proofs.YtnjcehngoajnnaaGreatDoor
open Go.RowKit Go.Hs
set_option maxRecDepth 100000
theorem Zjb {P:Program} {W:World} {x:String × DataW Unit} {r:List (String × DataW Unit)} (h:laidMet P (x::r) W):laidMet P r W:=by
 obtain ⟨n,d⟩:=x;obtain ⟨ps,⟨g0,t0,cs0,f0,p0,q0,hg0,ht0,hv0,hd0,hq,e0⟩,hnd,hrows⟩:=h;subst e0;exact ⟨q0,hq,(List.nodup_append.1 hnd).2.1,fun b off hm=>hrows b off (List.mem_append.2 (.inr hm))⟩
noncomputable def gE (m:Int):Nat→V:=fun g=>if g=2 then .view .old (.iface 326 (.view .old (.agg []))) else if g=6 then .view .old (.agg (Lib.pow10Tab.map (V.int .u64)))
 else if g=0 then .view .old (.agg (signsL.map V.str)) else if g=1 then .view .old (.int .i64 m) else .top
theorem Zop (f:Col→Col):∀ l:List Int,Z6a f (l.map (V.int .u64))=l.map (V.int .u64)
 | []=>rfl
 | x::r=>by simp only [List.map_cons,Z6a];rw [Zop f r]<;>rfl
theorem Znp (f:Col→Col):∀ l:List (List UInt8),Z6a f (l.map V.str)=l.map V.str
 | []=>rfl
 | x::r=>by simp only [List.map_cons,Z6a];rw [Znp f r]<;>rfl
theorem gE_ok (m:Int):GExp (gE m) where
 ok:=fun g=>by
  unfold gE
  split
  ·exact ⟨rfl,.view _ _ fun x hx=>by simp [V.cells] at hx;subst hx;exact .iface _ _ (.view _ _ fun x hx=>by simp [V.cells] at hx)⟩
  ·split
   ·refine ⟨by simp only [V.recol,Col.ent,Zop],.view _ _ fun x hx=>?_⟩
    obtain ⟨n,_,rfl⟩:=List.mem_map.1 hx;exact .int _ _
   ·split
    ·refine ⟨by simp only [V.recol,Col.ent,Znp],.view _ _ fun x hx=>?_⟩
     obtain ⟨n,_,rfl⟩:=List.mem_map.1 hx;exact .str _
    ·split
     ·exact ⟨rfl,.view _ _ fun x hx=>by simp [V.cells] at hx;subst hx;exact .int _ _⟩
     ·exact ⟨rfl,.top⟩
 er:=⟨_,_,_,rfl⟩
 tab:=⟨_,rfl⟩
 sg:=⟨_,rfl⟩
 ml:=⟨_,m,rfl⟩
theorem gE_old (m:Int) (g:Nat):(gE m g).Old:=by
 unfold gE
 split
 ·exact .view _ fun x hx=>by simp [V.cells] at hx;subst hx;exact .iface _ _ (.view _ fun x hx=>by simp [V.cells] at hx)
 ·split
  ·refine .view _ fun x hx=>?_
   obtain ⟨n,_,rfl⟩:=List.mem_map.1 hx;exact .int _ _
  ·split
   ·refine .view _ fun x hx=>?_
    obtain ⟨n,_,rfl⟩:=List.mem_map.1 hx;exact .str _
   ·split
    ·exact .view _ fun x hx=>by simp [V.cells] at hx;subst hx;exact .int _ _
    ·exact .top
theorem gER:Tryz.prog.globalNamed "strconv.ErrRange" = some 2:=by kernel_rfl
theorem gERType:(Tryz.prog.globals[2]?).map (·.type)=some 279:=by kernel_rfl
theorem Z1da:Tryz.prog.cellsOf 328=1:=by kernel_rfl
theorem Zafa:Tryz.prog.cellsOf 9=1:=by kernel_rfl
theorem star : "*" ++ "errors.errorString" = "*errors.errorString" := by decide
theorem row109 (u:TypeId) (h:Tryz.prog.typeName? 3 u=some "*errors.errorString"):u=326 :=
 typeName_ptr_named (nm := "errors.errorString") (by rw [star];kernel_rfl) (by kernel_rfl) (by decide) u (by rw [star];exact h)
theorem gTab:Tryz.prog.globalNamed "internal/strconv.uint64pow10" = some 6:=by kernel_rfl
theorem Zqda:∃ t n,(Tryz.prog.globals[6]?).map (·.type)=some t∧Tryz.prog.underlying t=some (.array n 262)∧Tryz.prog.cellsOf t=n∧n=20:=by
 refine ⟨(((Tryz.prog.globals[6]?).map (·.type)).getD 0),20,by kernel_rfl,by kernel_rfl,by kernel_rfl,rfl⟩
theorem Zfda {W:World} (h:laidMet Tryz.prog Zri W):Lib.TabIs Tryz.prog W "internal/strconv.uint64pow10" .u64 Lib.pow10Tab:=by
 obtain ⟨t,n,h1,h2,h3,rfl⟩:=Zqda
 have e:(Rows.laid_internal_strconv_uint64pow10:DataW Unit)=Lib.tabData .u64 Lib.pow10Tab:=by rfl
 have h4:=Zjb (Zjb h);rw [e] at h4;exact Lib.tabIs_of_head gTab h1 h2 Tryz.underlying262 (by kernel_rfl) h3 h4
theorem Zgda {W:World} (h:laidMet Tryz.prog Zri W):∃ b off,W.cell? ⟨2,0,none⟩=some (.iface 326 (.pointer (some ⟨b,off,none⟩))):=by
 obtain ⟨a,s,h1,h2,_,_⟩:=laid_sentinel (Zjb (Zjb (Zjb (Zjb h)))) gER gERType Tryz.underlying279 row109 Tryz.underlying326 Tryz.underlying328 rfl rfl Tryz.underlying9 Z1da Zafa;have h0:=World.var?_cell gER h1 0;have hs:=World.cell?_spot h2;obtain ⟨b,off,sp⟩:=a;have hs:sp=none:=hs;subst hs;exact ⟨b,off,by simpa using h0⟩
def Zb1 {H:Type} (zs:List (List UInt8)):DataW H := .agg (zs.map fun z => .lit (.string z))
theorem Zpu {H:Type} {enc:TypeId × Value→H} {P:Program} {w:World} {base:Nat} {sp:Nat→Bool} {held:Bool} {fuel:Nat} {t e:TypeId} {n:Nat} {cs:List Value} {zs:List (List UInt8)} {p:List MemPlace}
  (ht:P.underlying t=some (.array n e)) (he:P.underlying e=some .string) (hce:P.cellsOf e=1) (hct:P.cellsOf t=n)
  (h:DataW.trod enc P w base sp held fuel t cs=some (Zb1 zs,p)):cs.length=zs.length∧∀ i (hi:i<zs.length),∃ s:ByteArray,cs[i]? = some (.string s)∧s.data.toList=zs[i]:=by
 cases fuel with
 | zero=>simp [DataW.trod] at h
 | succ fuel =>
  simp only [DataW.trod,ht,hce,hct,Nat.mul_one] at h
  split at h
  ·rename_i hl
   obtain ⟨xs,hm,hx⟩:=Option.map_eq_some_iff.1 h
   have hxs:xs.map (·.1)=zs.map fun z=>(DataW.lit (.string z):DataW H):=by
    have:=congrArg Prod.fst hx;simpa [Zb1] using this
   have hxl:xs.length=n:=by simpa using Lib.mapM_length hm
   have hzl:zs.length=n:=by
    have:=congrArg List.length hxs;simp at this;omega
   refine ⟨by omega,fun i hi=>?_⟩
   have hin:i<n:=by omega
   obtain ⟨b,hb,hf⟩:=Lib.mapM_at hm i i (by simp [hin]);obtain ⟨z,hc,rfl,_⟩:=DataW.trod_string he hf
   have h1:cs[i]? = some (.string z):=by
    have:=congrArg (·[0]?) hc;simpa [List.getElem?_take,List.getElem?_drop] using this
   have h2:(xs.map (·.1))[i]? = some (DataW.lit (.string z.data.toList):DataW H):=by simp [hb]
   rw [hxs,List.getElem?_map,List.getElem?_eq_getElem hi] at h2;refine ⟨z,h1,?_⟩;have h3:(DataW.lit (.string zs[i]):DataW H) = .lit (.string z.data.toList):=Option.some.inj h2
   injection h3 with h3
   injection h3 with h3
   exact h3.symm
  ·cases h
theorem gSg:Tryz.prog.globalNamed "hopscotch/lex.signs" = some 0:=by kernel_rfl
theorem gSgType:(Tryz.prog.globals[0]?).map (·.type)=some 212:=by kernel_rfl
theorem Z75 {W:World} (h:laidMet Tryz.prog Zri W):∃ cs:Array Value,W.var? Tryz.prog "hopscotch/lex.signs" = some cs∧cs.size=14∧∀ i (hi:i<signsL.length),∃ s:ByteArray,cs[i]? = some (.string s)∧s.data.toList=signsL[i]:=by
 have e:(Rows.laid_hopscotch_lex_signs:DataW Unit)=Zb1 signsL:=by rfl
 have h4:=Zjb (Zjb (Zjb (Zjb (Zjb (Zjb h)))));rw [e] at h4;obtain ⟨ps,⟨g',t',cs,fuel,p,q,hg',ht',hvar,hd,_,_⟩,_⟩:=h4;obtain rfl:=Option.some.inj (gSg.symm.trans hg');obtain rfl:=Option.some.inj (gSgType.symm.trans ht');obtain ⟨h1,h2⟩:=Zpu Tryz.underlying212 Tryz.underlying9 Zafa (by kernel_rfl) hd;refine ⟨_,hvar,(by simpa using h1:cs.size=signsL.length).trans rfl,fun i hi=>?_⟩;obtain ⟨s,h3,h4⟩:=h2 i hi;exact ⟨s,by simpa using h3,h4⟩
theorem Zi9 {W:World} (h:W.ShapedOpen Tryz.prog):∃ m,W.cell? ⟨1,0,none⟩=some (.int .i64 m):=by
 obtain ⟨cs,hh,hs,hr⟩:=h.1 1 #[.int .i64 0] 3 (of_decide_eq_true (by kernel_rfl)) (by kernel_rfl);obtain ⟨ts,hts,_,hall⟩:=hr (by kernel_rfl);rw [show Tryz.prog.cellTypes Tryz.prog.depth 3=some [3] by kernel_rfl] at hts;cases hts
 have h1:0<cs.size:=by rw [hs];decide
 obtain ⟨u,hu',hok⟩:=hall 0 cs[0] (by simp [h1])
 have:u=3:=by simpa using hu'.symm
 subst this
 have hcell:W.cell? ⟨1,0,none⟩=some cs[0]:=by simp [World.cell?,hh,h1]
 rw [hcell];unfold Cell.ok at hok;rw [Tryz.underlying3] at hok
 cases hv:cs[0]<;>rw [hv] at hok<;>first | (obtain ⟨rfl,_⟩:=hok;exact ⟨_,rfl⟩) | simp at hok
theorem laid_G {W:World} (h:laidMet Tryz.prog Zri W) (hS:W.ShapedOpen Tryz.prog):∃ m,∀ g,RelG (Zbf W) g (gE m g):=by
 obtain ⟨m,hml⟩:=Zi9 hS;refine ⟨m,fun g=>?_⟩;unfold gE
 split
 ·rename_i hg
  subst hg;obtain ⟨b,off,h1⟩:=Zgda h;refine ⟨?_,trivial⟩;refine .view .old _ 2 0 (fun _ => .iface 326 (.pointer (some ⟨b,off,none⟩))) (fun i hi=>?_) (fun i hi=>?_)
  ·have:i=0:=by simpa [V.cells] using hi
   subst this;refine ⟨by show (W.cell? _).isSome=true;rw [h1]<;>rfl,World.block_lt_of_cell? _ _ h1,h1,rfl⟩
  ·have:i=0:=by simpa [V.cells] using hi
   subst this;exact .iface _ _ _ (.view .old _ b off (fun _ => .nilIface) (fun i hi=>by simp [V.cells] at hi) (fun i hi=>by simp [V.cells] at hi))
 ·split
  ·rename_i hg
   subst hg;have ht:=Zfda h;have hc:∀ i (hi:i<Lib.pow10Tab.length),W.cell? ⟨6,i,none⟩=some (.int .u64 (Lib.pow10Tab.getD i 0)):=fun i hi=>ht.cell gTab i hi;have hlen:Lib.pow10Tab.length=20:=Lib.pow10Tab_length;have hlt:6<W.heap.size:=World.block_lt_of_cell? _ _ (hc 0 (by omega))
   have hv:W.var? Tryz.prog "internal/strconv.uint64pow10" = some (Lib.pow10Tab.map fun z=>Value.int .u64 z).toArray:=ht
   refine ⟨?_,?_⟩
   ·refine .view .old _ 6 0 (fun i => .int .u64 (Lib.pow10Tab.getD i 0)) (fun i hi=>?_) (fun i hi=>?_)
    ·have hi:i<Lib.pow10Tab.length:=by simpa [V.cells] using hi
     rw [Nat.zero_add];exact ⟨by show (W.cell? _).isSome=true;rw [hc i hi]<;>rfl,hlt,hc i hi,rfl⟩
    ·have hi':i<Lib.pow10Tab.length:=by simpa [V.cells] using hi
     have key:∀ v,v=V.int .u64 (Lib.pow10Tab.getD i 0)→Rel (Zbf W) (Value.int .u64 (Lib.pow10Tab.getD i 0)) v:=fun v e=>by rw [e];exact .int _ _
     exact key _ (by simp [V.cells,List.getD,hi'])
   ·refine ⟨hlt,?_⟩
    unfold World.var? at hv;rw [gTab] at hv;have hv:(match W.heap[6]? with | some (Obj.cells cs _ _)=>some cs | _=>none)=some (Lib.pow10Tab.map fun z=>Value.int .u64 z).toArray:=hv
    split at hv
    ·rename_i cs t fr hh
     cases hv;exact ⟨_,t,fr,hh,by simp⟩
    ·cases hv
  ·split
   ·rename_i hg
    subst hg;obtain ⟨cs,hv,hsz,hcs⟩:=Z75 h;have h0:=fun i=>World.var?_cell gSg hv i
    have hc:∀ i (hi:i<signsL.length),∃ s:ByteArray,W.cell? ⟨0,i,none⟩=some (.string s)∧s.data.toList=signsL[i]:=fun i hi=>by
     obtain ⟨s,h1,h2⟩:=hcs i hi;exact ⟨s,by rw [h0 i];exact h1,h2⟩
    have hlt:0<W.heap.size:=by
     obtain ⟨s,h1,_⟩:=hc 0 (by decide);exact World.block_lt_of_cell? _ _ h1
    refine ⟨?_,?_⟩
    ·refine .view .old _ 0 0 (fun i=>(cs[i]?).getD undef) (fun i hi=>?_) (fun i hi=>?_)
     ·have hi:i<signsL.length:=by simpa [V.cells] using hi
      obtain ⟨s,h1,_⟩:=hcs i hi;rw [Nat.zero_add,h1]
      have h2:W.cell? ⟨0,i,none⟩=some (.string s):=by rw [h0 i];exact h1
      exact ⟨by show (W.cell? _).isSome=true;rw [h2]<;>rfl,hlt,h2,rfl⟩
     ·have hi':i<signsL.length:=by simpa [V.cells] using hi
      obtain ⟨s,h1,h2⟩:=hcs i hi';rw [h1]
      have key:∀ v,v=V.str signsL[i]→Rel (Zbf W) (Value.string s) v:=fun v e=>by rw [e];exact .str _ _ h2
      exact key _ (by simp [V.cells])
    ·refine ⟨hlt,?_⟩
     unfold World.var? at hv;rw [gSg] at hv;have hv:(match W.heap[0]? with | some (Obj.cells cs _ _)=>some cs | _=>none)=some cs:=hv
     split at hv
     ·rename_i cs' t fr hh
      cases hv;exact ⟨_,t,fr,hh,by rw [hsz]<;>rfl⟩
     ·cases hv
   ·split
    ·rename_i hg
     subst hg;refine ⟨?_,trivial⟩;refine .view .old _ 1 0 (fun _ => .int .i64 m) (fun i hi=>?_) (fun i hi=>?_)
     ·have:i=0:=by simpa [V.cells] using hi
      subst this;refine ⟨by show (W.cell? _).isSome=true;rw [hml]<;>rfl,World.block_lt_of_cell? _ _ hml,hml,rfl⟩
     ·have:i=0:=by simpa [V.cells] using hi
      subst this;exact .int _ _
    ·exact ⟨.top _,trivial⟩
end Go.Proofs.YtnjcehngoajnnaaGreatDoor
end

section
namespace Go.Proofs.YtnjcehngoajnnaaGreatDoor
open Go.RowKit Go.Hs Go.ChangeShapes Go.WideShapes Go.ChangeAt
open Go.ChangeMaps (open_string shut_string)
set_option maxRecDepth 100000
variable {W:World} {H:Type} {enc:TypeId × Value→H} {b0:Nat} {v:Value} {d:DataW H} {ps:List MemPlace}
theorem own:ownKnob Tryz.prog.godebug=none:=by kernel_rfl
theorem laidOut:laidOutB Tryz.prog=true:=by kernel_rfl
theorem Z21 {a:Assume} {C:Checked} {os:Os} {f:FuncId} {fn:Func} {H:Type} {enc:TypeId × Value→H} {s:ChangeSpec} {conds:List PathCond} {apart fresh handsOn again:Bool} {X:World→Array Value→Prop}
  (hX:∀ (w w':World) (args:Array Value),w.heap=w'.heap→X w args→X w' args)
  (ownk:ownKnob C.prog.godebug=none) (started:os.Started) (noInit:C.prog.inits.idxOf? f=none) (hfn:C.prog.funcs[f]? = some fn)
  (witness:∃ (w:World) (tape:Tape) (i:Input),w.os=os∧(w.forCall tape i).Shaped C.prog∧i.vars=[]∧Input.okWide C.prog (w.forCall tape i) .any w.heap.size f i ∧
   ((s.pre enc C.prog fn conds apart (w.forCall tape i).memory i.args∧X (w.forCall tape i).memory i.args)∧sizedMet enc C.prog fn (OpenSpec.ofChange s) apart (w.forCall tape i).memory i.args)∧a.holds C.prog (lone (Frame.enter C.prog f i.args .normal) [] (w.forCall tape i)))
  (contract:∀ (W:World) (base:Nat) (args:Array Value) (ds gs:List (DataW H)) (before:List MemPlace),W.ShapedOpen C.prog →
   (∀ (j:Nat) t v,fn.params[j]? = some t→args[j]? = some v→Value.okWide C.prog W .any base t v) →
   DataW.Whole enc C.prog fn.params.toList s.vars apart W args.toList ds gs before→X W args →
   Calls C.prog f args W fun e W'=>∃ v,e = .returned v∧s.post enc C.prog fn apart fresh handsOn again W args v W') :
  ReturnsInHanded a C os f .any (fun w args=>(s.pre enc C.prog fn conds apart w args∧X w args)∧sizedMet enc C.prog fn (OpenSpec.ofChange s) apart w args) (s.post enc C.prog fn apart fresh handsOn again):=by
 refine returnsInHanded_of_calls ownk started noInit witness ?_;intro w tape i _ hsh _ hok hpre _;obtain ⟨_,_,_,fn',hfn',_,_,_,_,hval⟩:=hok;have e:fn'=fn:=Option.some.inj (hfn'.symm.trans hfn);subst e;obtain ⟨⟨⟨ds,gs,before,hw,_⟩,hx⟩,_⟩:=hpre;have hw':=DataW.Whole.of_heap (w':=w.forCall tape i) (by rfl) hw;refine (contract (w.forCall tape i) w.heap.size i.args ds gs before hsh hval hw' (hX _ _ _ (by rfl) hx)).mono fun e W' ⟨v,he,hp⟩=>?_;subst he;exact ChangeSpec.post_blind hp
end Go.Proofs.YtnjcehngoajnnaaGreatDoor
end

section
namespace Go.Proofs.YtnjcehngoajnnaaGreatDoor
open Go.RowKit Go.Hs Go.ChangeShapes Go.WideShapes Go.ChangeAt
set_option maxRecDepth 100000
set_option maxHeartbeats 4000000
theorem sfMaps:mapsRowed Tryz.prog=true:=by kernel_rfl
theorem sfStops:(Tryz.prog.stops==[])=true:=by kernel_rfl
theorem sfKnobs:(Tryz.prog.stopKnobs==[])=true:=by kernel_rfl
theorem sfKeys:(Rows.evalTextsRow.plainKeys==Tryz.prog.plainKeys)=true:=by kernel_rfl
theorem sfHeard:Tryz.prog.stopsHeard=true:=by kernel_rfl
theorem sfEnter:Tryz.prog.mayEnter=true:=by kernel_rfl
theorem Zgca:(Rows.evalTextsRow.lifted==Tryz.prog.liftsFinal)=true:=by kernel_rfl
theorem sfMake:(Tryz.prog.make==some Rows.evalTextsRow.make)=true:=by kernel_rfl
end Go.Proofs.YtnjcehngoajnnaaGreatDoor
end
