/- Part 44 of the proof of a statement of seat YtpoiceejhcpnaaaGreatDoor: HsEExpL2 HsEExpL3 HsEExpL4 HsExprSub HsTypLaw HsETypKinds HsTypLaw2 HsTypLaw3 HsETypL3 HsETypM5 HsEExpK1 HsEExpK2 HsEExpK3 HsEExpLaid HsEExpLaidG HsEExpArgs HsEExpArgs2. -/
import Derived.Test.YtpoiceejhcpnaaaGreatDoorPart42
import Derived.Test.YtpoiceejhcpnaaaGreatDoorPart43
import Derived.Test.YtpoiceejhcpnaaaGreatDoorPart39
import Derived.Test.YtpoiceejhcpnaaaGreatDoorPart41
import Derived.Test.YtpoiceejhcpnaaaGreatDoorPart36
import Derived.Laws.StructEq
import Derived.Test.YtpoiceejhcpnaaaGreatDoorPart34
import Derived.Test.YtpoiceejhcpnaaaGreatDoorPart40
import Derived.Test.YtpoiceejhcpnaaaGreatDoorRows
import Derived.ProofKit
import Derived.OpenShut
import Derived.LaidLaws
import Derived.Stop.LaidErr
import Derived.Lib.LaidTab
import Derived.Handed
import Derived.ChangeMaps5
set_option linter.unusedSimpArgs false
set_option linter.unusedVariables false
section
namespace Go.Hs
open Go.Proofs
set_option maxRecDepth 10000
def shXn:Nat→Sh
 | 0 => .int .u8
 | 2 => .str
 | _ => .int .i64
def shXs (M:Nat):Sh := .row true 6 M shXn
theorem shXn_free (i:Nat):(shXn i).free:=by
 match i with
 | 0=>trivial
 | 1=>trivial
 | 2=>trivial
 | n+3=>trivial
theorem shXs_of {M:Nat} {s:Sl XN} (h:s.l.length≤M):ShV .new .new (shXs M) (encSl .new 6 encXN s):=by
 cases s with
 | nil=>exact .inl rfl
 | mk b l =>
  refine .inr ⟨b,l.map encXN,rfl,by rw [List.length_map];exact h,?_⟩
  intro u hu
  obtain ⟨n,_,rfl⟩:=List.mem_map.1 hu
  refine ⟨rfl,rfl,fun i hi=>?_⟩
  have hi:i<6:=hi
  match i,hi with
  | 0,_=>exact ⟨n.op,rfl⟩
  | 1,_=>exact ⟨n.num,rfl⟩
  | 2,_=>exact ⟨n.name,rfl⟩
  | 3,_=>exact ⟨n.a,rfl⟩
  | 4,_=>exact ⟨n.b,rfl⟩
  | 5,_=>exact ⟨n.c,rfl⟩
theorem shXs_to {M:Nat} {v:V} (h:ShV .new .new (shXs M) v):∃ s:Sl XN,v=encSl .new 6 encXN s∧s.l.length≤M:=by
 rcases h with rfl | ⟨clip,l,rfl,hl,hu⟩
 ·exact ⟨.nil,rfl,Nat.zero_le _⟩
 ·have:∃ ns:List XN,l=ns.map encXN:=by
   clear hl
   induction l with
   | nil=>exact ⟨[],rfl⟩
   | cons u r ih =>
    obtain ⟨ns,rfl⟩:=ih fun x hx=>hu x (by simp [hx])
    obtain ⟨h1,h2,h3⟩:=hu u (by simp)
    obtain ⟨a,ha⟩:=h3 0 (by omega)
    obtain ⟨b,hb⟩:=h3 1 (by omega)
    obtain ⟨c,hc⟩:=h3 2 (by omega)
    obtain ⟨d,hd⟩:=h3 3 (by omega)
    obtain ⟨e,he⟩:=h3 4 (by omega)
    obtain ⟨f,hf⟩:=h3 5 (by omega)
    refine ⟨⟨a,b,c,d,e,f⟩::ns,?_⟩
    have hcl:u.cells=[.int .u8 a,.int .i64 b,.str c,.int .i64 d,.int .i64 e,.int .i64 f]:=by
     refine List.ext_getElem h1 fun i k1 k2=>?_
     have k3:i<6:=by omega
     match i,k3 with
     | 0,_=>exact ha
     | 1,_=>exact hb
     | 2,_=>exact hc
     | 3,_=>exact hd
     | 4,_=>exact he
     | 5,_=>exact hf
    rw [h2,hcl];rfl
  obtain ⟨ns,rfl⟩:=this
  exact ⟨.mk clip ns,rfl,by rw [List.length_map] at hl;exact hl⟩
def shXp (M:Nat):Sh := .ptr true false 1 (fun _=>shXs M)
theorem shXp_free (M:Nat):(shXp M).free:=⟨rfl,fun _ _ i _=>shXn_free i⟩
theorem shXp_of {M:Nat} {s:Sl XN} (h:s.l.length≤M):ShV .new .new (shXp M) (.view .new (.agg [encSl .new 6 encXN s])):=by
 refine ⟨.agg [encSl .new 6 encXN s],rfl,rfl,rfl,fun i hi=>?_⟩
 have:i=0:=by simp [V.cells] at hi;omega
 subst this
 exact shXs_of h
theorem shXp_to {M:Nat} {v:V} (h:ShV .new .new (shXp M) v):∃ s:Sl XN,v = .view .new (.agg [encSl .new 6 encXN s])∧s.l.length≤M:=by
 obtain ⟨u,rfl,h1,h2,h3⟩:=h
 obtain ⟨s,hs,hl⟩:=shXs_to (h3 0 (by omega))
 have hc:u.cells=[encSl .new 6 encXN s]:=by
  match hq:u.cells,h1 with
  | [y],_ =>
   have:u.cells[0]'(by omega)=y:=by simp [hq]
   rw [this] at hs
   rw [hs]
 rw [h2,hc]
 exact ⟨s,rfl,hl⟩
theorem exprP_bnd8 {s:List UInt8} (hs:s.length<100000):(exprP s).1.length<100000∧∀ n∈(exprP s).1,n.name.length<100000:=by
 have hT:=toks_ok hs
 have hnm:=climb_names hT
 have hok:=((climbP_bal (toksP s).1 ((toksP s).1.length+1) 1 ⟨0,[],0⟩).ok ⟨Nat.zero_le _,Nat.le_refl _⟩)
 have hfr:(fromP (toksP s).1).1.length<100000∧∀ n∈(fromP (toksP s).1).1,n.name.length<100000:=by
  unfold fromP
  split
  ·exact ⟨Nat.zero_lt_succ _,fun n hn=>by cases hn⟩
  ·split
   ·exact ⟨Nat.zero_lt_succ _,fun n hn=>by cases hn⟩
   ·have:=hok.1;have:=hok.2;have:=hT.len
    exact ⟨by show (climbP _ _ _ _).2.nodes.length<_;omega,hnm⟩
 unfold exprP
 split
 ·exact ⟨Nat.zero_lt_succ _,fun n hn=>by cases hn⟩
 split
 ·exact ⟨Nat.zero_lt_succ _,fun n hn=>by cases hn⟩
 split
 ·exact hfr
 ·exact ⟨Nat.zero_lt_succ _,fun n hn=>by cases hn⟩
theorem oldV_xns (s:Sl XN):V.Old (encSl .old 6 encXN s):=Old.enc (fun n y hy=>by
 simp only [encXN_K,V.cells,List.mem_cons,List.not_mem_nil,or_false] at hy
 rcases hy with rfl | rfl | rfl | rfl | rfl | rfl<;>first | exact .int _ _ | exact .str _) s
theorem lExprReads (G:Nat→V) (hE:GExp G) (hGo:∀ g,(G g).Old) (s:List UInt8) :
  Spec Tryz.prog G 8 [.str s] hNone (fun v _=>v = .bool true):=by
 have hG:=hE.ok
 refine Spec.of_code' 0 58 [.tmp 2] Tryz.func8 rfl rfl rfl rfl fun X=>?_
 refine AW.seq_k fun K hK=>AW.region (by kernel_rfl) ?_
 simp -implicitDefEqProofs only[go_sem,seval,↓reduceIte]
 refine hK _ ?_
 clear hK K
 refine AW.seq_k fun K1 hK1=>?_
 refine AW.seq_k fun K hK=>AW.region (by kernel_rfl) ?_
 simp -implicitDefEqProofs only[go_sem,seval,↓reduceIte]
 refine hK _ ?_
 clear hK K
 by_cases hl:s.length > 400
 ·have q1:decide (((s.length:Nat):Int) > 400)=true:=by rw [decide_eq_true_iff];omega
  rw [q1]
  refine AW.condS (by simp -implicitDefEqProofs only[go_sem,seval,↓reduceIte];rfl) (fun h13=>?_) (fun h13=>?_)
  rotate_left
  ·cases h13
  refine AW.seq_k fun K hK=>AW.region (by kernel_rfl) ?_
  simp -implicitDefEqProofs only[go_sem,seval,↓reduceIte]
  refine CallA.pure hG (by kernel_rfl) ?_
  simp -implicitDefEqProofs only[go_sem,seval,↓reduceIte,List.map_nil]
  refine (vWorks_spec G hE).mono ?_
  rintro _ _ rfl
  simp -implicitDefEqProofs only[go_sem,seval,↓reduceIte]
  refine hK _ ?_
  clear hK K
  refine AW.ret ?_
  simp -implicitDefEqProofs only[go_sem,seval,↓reduceIte]
  refine endK_some ?_
  rfl
 have q1:decide (((s.length:Nat):Int) > 400)=false:=by rw [decide_eq_false_iff_not];omega
 rw [q1]
 refine AW.condS (by simp -implicitDefEqProofs only[go_sem,seval,↓reduceIte];rfl) (fun h13=>?_) (fun h13=>?_)
 ·cases h13
 refine AW.skip ?_
 simp -implicitDefEqProofs only[go_sem,seval,↓reduceIte]
 refine hK1 _ ?_
 have hx:=xParse_spec G hE s (by omega)
 have hr:=rParse8_spec G hG s (by omega)
 have hb:=(exprP_bnd8 (s:=s) (by omega))
 generalize exprP s=p at hx hr hb
 obtain ⟨ns,wi,we⟩:=p
 simp only at hb
 refine AW.seq_k fun K hK=>AW.region (by kernel_rfl) ?_
 simp -implicitDefEqProofs only[go_sem,seval,↓reduceIte]
 refine CallA.pure hG (by kernel_rfl) ?_
 simp -implicitDefEqProofs only[go_sem,seval,↓reduceIte]
 refine hr.mono ?_
 rintro _ _ rfl
 simp -implicitDefEqProofs only[go_sem,seval,↓reduceIte,encRr,encXs,recol_xns]
 refine hK _ ?_
 clear hK K
 refine AW.weak (Weak.stF (fun _=>false) (l:=[(0,.str s),(3,encSl .new 6 encXN (grownS ns)),(4,.int .i64 wi),(5,.int .i64 we)]) (m:=[]) ?_ trivial) ?_
 ·simp -implicitDefEqProofs only[go_sem,seval,↓reduceIte]
  exact ⟨Fz.same _,Fz.same _,Fz.same _,Fz.same _⟩
 refine AW.rebase hG fun X1 H1 hb1 hI1=>?_
 simp -implicitDefEqProofs only[go_sem,seval,↓reduceIte,List.map_cons,List.map_nil,recol_cells,recol_ptr,recol_xns]
 refine AW.weak (Weak.stF (fun _=>false) (l:=[(0,.str s),(3,encSl .old 6 encXN (grownS ns)),(4,.int .i64 wi),(5,.int .i64 we)]) (m:=[]) ?_ trivial) ?_
 ·simp -implicitDefEqProofs only[go_sem,seval,↓reduceIte]
  exact ⟨Fz.same _,Fz.same _,Fz.same _,Fz.same _⟩
 refine AW.seq_k fun K2 hK2=>?_
 refine AW.seq_k fun K hK=>AW.region (by kernel_rfl) ?_
 simp -implicitDefEqProofs only[go_sem,seval,↓reduceIte]
 refine hK _ ?_
 clear hK K
 refine AW.block ?_
 refine AW.for 2 (fun k (_:Unit)=>st [(0,.str s),(3,encSl .old 6 encXN (grownS ns)),(4,.int .i64 wi),(5,.int .i64 we),(6,.int .i64 k)] [])
  (fun _ _=>True) 0 () (Nat.zero_le _) trivial (Weak.st (by simp -implicitDefEqProofs only[go_sem,seval,↓reduceIte];try rfl) (by simp -implicitDefEqProofs only[go_sem,seval,↓reduceIte];try rfl)) ?_
 intro k _ hk _ L3 hL3
 refine AW.seq_k fun K4 hK4=>?_
 refine AW.seq_k fun K hK=>AW.region (by kernel_rfl) ?_
 simp -implicitDefEqProofs only[go_sem,seval,↓reduceIte]
 refine hK _ ?_
 clear hK K
 refine AW.condS (by simp -implicitDefEqProofs only[go_sem,seval,↓reduceIte];rfl) (fun h22=>?_) (fun h22=>?_)
 ·have hk1:k<2:=by have:decide ((k:Int)<2)=true:=h22;simp at this;omega
  refine AW.skip ?_
  simp -implicitDefEqProofs only[go_sem,seval,↓reduceIte]
  refine hK4 _ ?_
  refine AW.seq_k fun K5 hK5=>?_
  refine AW.block ?_
  refine AW.seq_k fun K hK=>AW.region (by kernel_rfl) ?_
  simp -implicitDefEqProofs only[go_sem,seval,↓reduceIte]
  refine CallA.pure hG (by kernel_rfl) ?_
  simp -implicitDefEqProofs only[go_sem,seval,↓reduceIte]
  refine hx.mono ?_
  rintro _ _ rfl
  simp -implicitDefEqProofs only[go_sem,seval,↓reduceIte,encFr,encXs,recol_xns]
  intro g7
  refine hK _ ?_
  clear hK K
  refine AW.weak (Weak.stF (fun o=>o==7) (l:=[(0,.str s),(3,encSl .old 6 encXN (grownS ns)),(4,.int .i64 wi),(5,.int .i64 we),(6,.int .i64 k),(7,.view .new (.agg [encSl .new 6 encXN (grownS ns)])),(8,.int .i64 wi),(9,.int .i64 we)]) (m:=[]) ?_ trivial) ?_
  ·simp -implicitDefEqProofs only[go_sem,seval,↓reduceIte]
   exact ⟨Fz.same _,Fz.same _,Fz.same _,Fz.same _,Fz.same _,Fz.ptr (v := .agg [encSl .new 6 encXN (grownS ns)]) (c := .new) (fz:=0) rfl (by simp -implicitDefEqProofs only[go_sem,seval,↓reduceIte];try rfl),Fz.same _,Fz.same _⟩
  refine AW.seq_k fun K6 hK6=>?_
  have e5:((grownS ns).l==(grownS ns).l)=true:=by simp
  have hb2:(wi != wi)=false:=by simp
  have hb3:(we != we)=false:=by simp
  refine AW.seq_k fun K hK=>AW.region (by kernel_rfl) ?_
  simp -implicitDefEqProofs only[go_sem,seval,↓reduceIte]
  refine CallA.pure hG (by kernel_rfl) ?_
  simp -implicitDefEqProofs only[go_sem,seval,↓reduceIte,recol_xns]
  refine (vSame_spec G hG _ _ (grownS ns) (grownS ns) (by rw [grownS_l];omega)).mono ?_
  rintro _ _ rfl
  rw [e5]
  simp -implicitDefEqProofs only[go_sem,seval,↓reduceIte,hb2,hb3]
  refine hK _ ?_
  clear hK K
  refine AW.condS (by simp -implicitDefEqProofs only[go_sem,seval,↓reduceIte];rfl) (fun h44=>?_) (fun h44=>?_)
  ·cases h44
  refine AW.skip ?_
  simp -implicitDefEqProofs only[go_sem,seval,↓reduceIte]
  refine hK6 _ ?_
  refine AW.seq_k fun K hK=>AW.region (by kernel_rfl) ?_
  simp -implicitDefEqProofs only[go_sem,seval,↓reduceIte]
  refine hK _ ?_
  clear hK K
  refine AW.block ?_
  refine AW.while (fun (y:Sl XN × Nat)=>st [(0,.str s),(3,encSl .old 6 encXN (grownS ns)),(4,.int .i64 wi),(5,.int .i64 we),(6,.int .i64 k),(7,.view .new (.agg [encSl .new 6 encXN y.1])),(10,.int .i64 y.2)] [])
   (fun y=>y.1.l.length≤100000∧y.2≤100000) (fun y=>100001-y.2) (grownS ns,0) ⟨by show (grownS ns).l.length≤100000;rw [grownS_l];omega,Nat.zero_le _⟩ (Weak.st (by simp -implicitDefEqProofs only[go_sem,seval,↓reduceIte];try rfl) (by simp -implicitDefEqProofs only[go_sem,seval,↓reduceIte];try rfl)) ?_
  rintro ⟨y,i⟩ ⟨hy,hi⟩ L7 hL7
  replace hy:y.l.length≤100000:=hy
  replace hi:i≤100000:=hi
  refine AW.seq_k fun K8 hK8=>?_
  refine AW.seq_k fun K hK=>AW.region (by kernel_rfl) ?_
  simp -implicitDefEqProofs only[go_sem,seval,↓reduceIte]
  refine hK _ ?_
  clear hK K
  refine AW.condS (by simp -implicitDefEqProofs only[go_sem,seval,↓reduceIte];rfl) (fun h49=>?_) (fun h49=>?_)
  ·have hi1:i<y.l.length:=by simpa using h49
   have hg:=List.getElem?_eq_getElem hi1
   refine AW.skip ?_
   simp -implicitDefEqProofs only[go_sem,seval,↓reduceIte]
   refine hK8 _ ?_
   refine AW.seq_k fun K9 hK9=>?_
   refine AW.block ?_
   refine AW.storeN [(0,.str s),(3,encSl .old 6 encXN (grownS ns)),(4,.int .i64 wi),(5,.int .i64 we),(6,.int .i64 k),(10,.int .i64 i)] [] [(7,shXp 100000)] hb1 hI1 hGo (by intro p hp;simp at hp;subst hp;exact shXp_free _) (by kernel_rfl) (by kernel_rfl) rfl ?_ ?_ ?_
   ·simp -implicitDefEqProofs only[go_sem,seval,↓reduceIte]
    exact ⟨.str _,oldV_xns _,.int _ _,.int _ _,.int _ _,.int _ _⟩
   ·first | trivial | (intro p hp;cases hp) | (simp -implicitDefEqProofs only[go_sem,seval,↓reduceIte];simp)
   simp -implicitDefEqProofs only[go_sem,seval,↓reduceIte,List.dropLast,hg,encXN_K]
   refine ⟨⟨_,rfl,rfl,by kernel_rfl,⟨rfl,rfl,trivial,rfl,rfl,rfl,trivial⟩,by decide⟩,shXp_of hy,?_⟩
   rintro _ ⟨v,_,rfl,hv,rfl⟩
   obtain ⟨y2,rfl,hy2⟩:=shXp_to hv
   simp -implicitDefEqProofs only[go_sem,seval,↓reduceIte]
   refine hK9 _ ?_
   refine AW.region (by kernel_rfl) ?_
   simp -implicitDefEqProofs only[go_sem,seval,↓reduceIte]
   exact hL7 _ ⟨(y2,i+1),by show 100001-(i+1)<100001-i;omega,⟨hy2,by show i+1≤100000;omega⟩,Weak.st (by simp -implicitDefEqProofs only[go_sem,seval,↓reduceIte];exact congrArg _ (w64 (by omega) (by omega))) (by simp -implicitDefEqProofs only[go_sem,seval,↓reduceIte];try rfl)⟩
  ·refine AW.exit ?_
   simp -implicitDefEqProofs only[go_sem,seval,↓reduceIte]
   refine hK5 _ ?_
   refine AW.region (by kernel_rfl) ?_
   simp -implicitDefEqProofs only[go_sem,seval,↓reduceIte]
   exact hL3 _ ⟨hk1,(),trivial,Weak.st (by simp -implicitDefEqProofs only[go_sem,seval,↓reduceIte];exact congrArg _ (w64 (by omega) (by omega))) (by simp -implicitDefEqProofs only[go_sem,seval,↓reduceIte];try rfl)⟩
 refine AW.exit ?_
 simp -implicitDefEqProofs only[go_sem,seval,↓reduceIte]
 refine hK2 _ ?_
 refine AW.seq_k fun K hK=>AW.region (by kernel_rfl) ?_
 simp -implicitDefEqProofs only[go_sem,seval,↓reduceIte]
 refine CallA.pure hG (by kernel_rfl) ?_
 simp -implicitDefEqProofs only[go_sem,seval,↓reduceIte,List.map_nil]
 refine (vWorks_spec G hE).mono ?_
 rintro _ _ rfl
 simp -implicitDefEqProofs only[go_sem,seval,↓reduceIte]
 refine hK _ ?_
 clear hK K
 refine AW.ret ?_
 simp -implicitDefEqProofs only[go_sem,seval,↓reduceIte]
 refine endK_some ?_
 rfl
end Go.Hs
end

section
namespace Go.Hs
open Go.Proofs
set_option maxRecDepth 10000
theorem row_fit:∀ (x:X) (k:Int),x.fit→∀ n∈x.row k,n.num≤9223372036854775807
 | .leaf op num name,k,h=>by
  intro n hn
  rw [X.row,List.mem_singleton] at hn
  rw [hn];exact h
 | .un op a,k,h=>by
  intro n hn
  rw [X.row,List.mem_append,List.mem_singleton] at hn
  rcases hn with q | q
  ·exact row_fit a k h n q
  ·rw [q];show (0:Int)≤_;decide
 | .bin op a b,k,h=>by
  intro n hn
  rw [X.row,List.mem_append,List.mem_append,List.mem_singleton] at hn
  rcases hn with (q | q) | q
  ·exact row_fit a k h.1 n q
  ·exact row_fit b _ h.2 n q
  ·rw [q];show (0:Int)≤_;decide
 | .ite a b c,k,h=>by
  intro n hn
  rw [X.row,List.mem_append,List.mem_append,List.mem_append,List.mem_singleton] at hn
  rcases hn with ((q | q) | q) | q
  ·exact row_fit a k h.1 n q
  ·exact row_fit b _ h.2.1 n q
  ·exact row_fit c _ h.2.2 n q
  ·rw [q];show (0:Int)≤_;decide
theorem ok_names:∀ (x:X) (k:Int),x.ok=true→∀ n∈x.row k,n.name.length<100000:=by
 intro x k h n hn
 have hd:depthP (x.row 0)≠0:=by rw [depth_row h];have:=x.depth_pos;omega
 have key:∀ (x:X) (k:Int),x.ok=true→∀ n∈x.row k,n.name.length≤64:=by
  intro x
  induction x with
  | leaf op num name =>
   intro k h n hn
   rw [X.row,List.mem_singleton] at hn
   rw [hn]
   rcases leaf_cases h with ⟨_,_,h⟩ | ⟨_,_,h⟩ | ⟨_,_,h⟩ | ⟨_,_,h⟩
   ·rw [h];exact Nat.zero_le _
   ·exact (isP_first (w:=name) (by omega)).2.2
   ·rw [h];exact Nat.zero_le _
   ·rw [h];exact Nat.zero_le _
  | un op a ih =>
   intro k h n hn
   simp only [X.ok,Bool.and_eq_true] at h
   rw [X.row,List.mem_append,List.mem_singleton] at hn
   rcases hn with q | q
   ·exact ih k h.2 n q
   ·rw [q];exact Nat.zero_le _
  | bin op a b iha ihb =>
   intro k h n hn
   simp only [X.ok,Bool.and_eq_true] at h
   rw [X.row,List.mem_append,List.mem_append,List.mem_singleton] at hn
   rcases hn with (q | q) | q
   ·exact iha k h.1.2 n q
   ·exact ihb _ h.2 n q
   ·rw [q];exact Nat.zero_le _
  | ite a b c iha ihb ihc =>
   intro k h n hn
   simp only [X.ok,Bool.and_eq_true] at h
   rw [X.row,List.mem_append,List.mem_append,List.mem_append,List.mem_singleton] at hn
   rcases hn with ((q | q) | q) | q
   ·exact iha k h.1.1 n q
   ·exact ihb _ h.1.2 n q
   ·exact ihc _ h.2 n q
   ·rw [q];exact Nat.zero_le _
 have:=key x k h n hn
 omega
theorem expr_bad {s:List UInt8} (h:(exprP s).2.2≠0):(exprP s).1=[]:=by
 unfold exprP at h ⊢
 split
 ·rfl
 ·split
  ·rfl
  ·split
   ·rename_i h1 h2 h3
    rw [if_neg h1,if_neg h2,if_pos h3] at h
    exact absurd rfl h
   ·rfl
theorem checkP_tree {x:X} (h:x.ok=true) (hd:x.depth≤64):checkP (x.row 0)=0:=by
 have:=x.depth_pos
 unfold checkP
 rw [depth_row h,if_neg (by omega),if_neg (by omega)]
theorem lExprBack (G:Nat→V) (hE:GExp G) (s o:Sl XN) (t:List UInt8) (hns:∀ n∈s.l,n.num≤9223372036854775807) (hno:∀ n∈o.l,n.num≤9223372036854775807) :
  Spec Tryz.prog G 11 [.agg [encSl .old 6 encXN s],.agg [encSl .old 6 encXN o],.str t] hNone (fun v _=>v = .bool true):=by
 have hG:=hE.ok
 refine Spec.of_code' 0 148 [.tmp 6] Tryz.func11 rfl rfl rfl rfl fun X0=>?_
 refine AW.seq_k fun K hK=>AW.region (by kernel_rfl) ?_
 simp -implicitDefEqProofs only[go_sem,seval,↓reduceIte]
 intro g3 g4
 refine hK _ ?_
 clear hK K
 refine AW.weak (Weak.stF (fun o=>o==3 || o==4) (l:=[(2,.str t),(3,.view .new (.agg [encSl .old 6 encXN s])),(4,.view .new (.agg [encSl .old 6 encXN o]))]) (m:=[]) ?_ trivial) ?_
 ·simp -implicitDefEqProofs only[go_sem,seval,↓reduceIte]
  exact ⟨Fz.same _,Fz.ptr (v := .agg [encSl .old 6 encXN s]) (c := .new) (fz:=0) rfl (by simp -implicitDefEqProofs only[go_sem,seval,↓reduceIte];try rfl),Fz.ptr (v := .agg [encSl .old 6 encXN o]) (c := .new) (fz:=0) rfl (by simp -implicitDefEqProofs only[go_sem,seval,↓reduceIte];try rfl)⟩
 refine AW.seqJ (fun (_:Unit)=>st [(2,.str t),(3,.view .new (.agg [encSl .old 6 encXN s])),(4,.view .new (.agg [encSl .old 6 encXN o]))] []) (fun _=>fewE s.l=true∧fewE o.l=true∧t.length≤400) (fun K1 hK1=>?_) ?_
 ·refine AW.seq_k fun K hK=>AW.region (by kernel_rfl) ?_
  simp -implicitDefEqProofs only[go_sem,seval,↓reduceIte]
  refine CallA.pure hG (by kernel_rfl) ?_
  simp -implicitDefEqProofs only[go_sem,seval,↓reduceIte,recol_xns]
  refine (vFew_spec G hG _ s).mono ?_
  rintro _ _ rfl
  cases hf:fewE s.l with
  | false =>
   simp -implicitDefEqProofs only[go_sem,seval,↓reduceIte]
   refine hK _ ?_
   clear hK K
   refine AW.condS (by simp -implicitDefEqProofs only[go_sem,seval,↓reduceIte];rfl) (fun h37=>?_) (fun h37=>?_)
   rotate_left
   ·cases h37
   refine AW.seq_k fun K hK=>AW.region (by kernel_rfl) ?_
   simp -implicitDefEqProofs only[go_sem,seval,↓reduceIte]
   refine CallA.pure hG (by kernel_rfl) ?_
   simp -implicitDefEqProofs only[go_sem,seval,↓reduceIte,List.map_nil]
   refine (vWorks_spec G hE).mono ?_
   rintro _ _ rfl
   simp -implicitDefEqProofs only[go_sem,seval,↓reduceIte]
   refine hK _ ?_
   clear hK K
   refine AW.ret ?_
   simp -implicitDefEqProofs only[go_sem,seval,↓reduceIte]
   refine endK_some ?_
   rfl
  | true =>
  simp -implicitDefEqProofs only[go_sem,seval,↓reduceIte]
  refine CallA.pure hG (by kernel_rfl) ?_
  simp -implicitDefEqProofs only[go_sem,seval,↓reduceIte,recol_xns]
  refine (vFew_spec G hG _ o).mono ?_
  rintro _ _ rfl
  cases hf2:fewE o.l with
  | false =>
   simp -implicitDefEqProofs only[go_sem,seval,↓reduceIte]
   refine hK _ ?_
   clear hK K
   refine AW.condS (by simp -implicitDefEqProofs only[go_sem,seval,↓reduceIte];rfl) (fun h37=>?_) (fun h37=>?_)
   rotate_left
   ·cases h37
   refine AW.seq_k fun K hK=>AW.region (by kernel_rfl) ?_
   simp -implicitDefEqProofs only[go_sem,seval,↓reduceIte]
   refine CallA.pure hG (by kernel_rfl) ?_
   simp -implicitDefEqProofs only[go_sem,seval,↓reduceIte,List.map_nil]
   refine (vWorks_spec G hE).mono ?_
   rintro _ _ rfl
   simp -implicitDefEqProofs only[go_sem,seval,↓reduceIte]
   refine hK _ ?_
   clear hK K
   refine AW.ret ?_
   simp -implicitDefEqProofs only[go_sem,seval,↓reduceIte]
   refine endK_some ?_
   rfl
  | true =>
  by_cases hz:t.length > 400
  ·have q1:decide (((t.length:Nat):Int) > 400)=true:=by rw [decide_eq_true_iff];omega
   simp -implicitDefEqProofs only[go_sem,seval,↓reduceIte,q1]
   refine hK _ ?_
   clear hK K
   refine AW.condS (by simp -implicitDefEqProofs only[go_sem,seval,↓reduceIte];rfl) (fun h37=>?_) (fun h37=>?_)
   rotate_left
   ·cases h37
   refine AW.seq_k fun K hK=>AW.region (by kernel_rfl) ?_
   simp -implicitDefEqProofs only[go_sem,seval,↓reduceIte]
   refine CallA.pure hG (by kernel_rfl) ?_
   simp -implicitDefEqProofs only[go_sem,seval,↓reduceIte,List.map_nil]
   refine (vWorks_spec G hE).mono ?_
   rintro _ _ rfl
   simp -implicitDefEqProofs only[go_sem,seval,↓reduceIte]
   refine hK _ ?_
   clear hK K
   refine AW.ret ?_
   simp -implicitDefEqProofs only[go_sem,seval,↓reduceIte]
   refine endK_some ?_
   rfl
  have q1:decide (((t.length:Nat):Int) > 400)=false:=by rw [decide_eq_false_iff_not];omega
  simp -implicitDefEqProofs only[go_sem,seval,↓reduceIte,q1]
  refine hK _ ?_
  clear hK K
  refine AW.condS (by simp -implicitDefEqProofs only[go_sem,seval,↓reduceIte];rfl) (fun h37=>?_) (fun h37=>?_)
  ·cases h37
  refine AW.skip ?_
  simp -implicitDefEqProofs only[go_sem,seval,↓reduceIte]
  exact hK1 _ () ⟨hf,hf2,by omega⟩ (Weak.st (by simp -implicitDefEqProofs only[go_sem,seval,↓reduceIte];try rfl) (by simp -implicitDefEqProofs only[go_sem,seval,↓reduceIte];try rfl))
 rintro _ ⟨hf,hf2,hz⟩
 obtain ⟨hsl,hs70⟩:=fewE_true hf
 obtain ⟨hol,ho70⟩:=fewE_true hf2
 have hnm:∀ n∈s.l,n.name.length<100000:=fun n hn=>by have:=hs70 n hn;omega
 have hnm2:∀ n∈o.l,n.name.length<100000:=fun n hn=>by have:=ho70 n hn;omega
 refine AW.seq_k fun K hK=>AW.region (by kernel_rfl) ?_
 simp -implicitDefEqProofs only[go_sem,seval,↓reduceIte]
 refine CallA.pure hG (by kernel_rfl) ?_
 simp -implicitDefEqProofs only[go_sem,seval,↓reduceIte,recol_xns]
 refine (xPrint_spec G hE _ s (by omega) hnm hns).mono ?_
 rintro _ _ ⟨r,rfl,hr⟩
 obtain ⟨tx,e⟩:=r
 simp -implicitDefEqProofs only[go_sem,seval,↓reduceIte,encPr]
 refine hK _ ?_
 clear hK K
 refine AW.seqJ (fun (_:Unit)=>st [(2,.str t)] []) (fun _=>True) (fun K2 hK2=>?_) ?_
 ·by_cases he:e=0
  rotate_left
  ·have q1:(e==0)=false:=by simpa using he
   refine AW.seq_k fun K hK=>AW.region (by kernel_rfl) ?_
   simp -implicitDefEqProofs only[go_sem,seval,↓reduceIte,q1]
   refine hK _ ?_
   clear hK K
   refine AW.condS (by simp -implicitDefEqProofs only[go_sem,seval,↓reduceIte];rfl) (fun h45=>?_) (fun h45=>?_)
   ·cases h45
   refine AW.skip ?_
   simp -implicitDefEqProofs only[go_sem,seval,↓reduceIte]
   exact hK2 _ () trivial (Weak.st (by simp -implicitDefEqProofs only[go_sem,seval,↓reduceIte];try rfl) (by simp -implicitDefEqProofs only[go_sem,seval,↓reduceIte];try rfl))
  subst he
  have hck:checkP s.l=0:=by
   by_cases hck:checkP s.l=0
   ·exact hck
   ·have:=congrArg Prod.snd (hr.1 hck)
    exact absurd this.symm hck
  obtain ⟨x,hx,hlx,hdx⟩:=checkP_ok hck
  have hfx:x.fit:=fit_of x 0 (by rw [← hlx];exact hns)
  have hszx:x.size≤200:=by rw [← X.row_len x 0,← hlx];exact hsl
  obtain rfl:tx=joinW (x.W 0):=congrArg Prod.fst (hr.2 x hx hlx hck)
  have hpar:=expr_print hx hfx (by omega) hdx
  have hjl:=print_len hx hfx
  have hxp:=xParse_spec G hE (joinW (x.W 0)) (by omega)
  rw [hpar,← hlx] at hxp
  have hdep:depthP s.l=x.depth:=by rw [hlx,depth_row hx]
  have hdp:=x.depth_pos
  refine AW.seq_k fun K hK=>AW.region (by kernel_rfl) ?_
  simp -implicitDefEqProofs only[go_sem,seval,↓reduceIte]
  refine hK _ ?_
  clear hK K
  refine AW.condS (by simp -implicitDefEqProofs only[go_sem,seval,↓reduceIte];rfl) (fun h45=>?_) (fun h45=>?_)
  rotate_left
  ·cases h45
  refine AW.seq_k fun K hK=>AW.region (by kernel_rfl) ?_
  simp -implicitDefEqProofs only[go_sem,seval,↓reduceIte]
  refine CallA.pure hG (by kernel_rfl) ?_
  simp -implicitDefEqProofs only[go_sem,seval,↓reduceIte]
  refine hxp.mono ?_
  rintro _ _ rfl
  simp -implicitDefEqProofs only[go_sem,seval,↓reduceIte,encFr,encXs,recol_xns]
  intro g9
  refine hK _ ?_
  clear hK K
  have e5:(s.l==(grownS s.l).l)=true:=by rw [grownS_l];simp
  have d1:decide ((depthP s.l:Int)<1)=false:=by rw [decide_eq_false_iff_not,hdep];omega
  have d2:decide ((depthP s.l:Int) > 64)=false:=by rw [decide_eq_false_iff_not,hdep];omega
  refine AW.seq_k fun K3 hK3=>?_
  refine AW.seq_k fun K hK=>AW.region (by kernel_rfl) ?_
  simp -implicitDefEqProofs only[go_sem,seval,↓reduceIte]
  refine CallA.pure hG (by kernel_rfl) ?_
  simp -implicitDefEqProofs only[go_sem,seval,↓reduceIte,recol_xns]
  refine (xSame_spec G hG _ _ s (grownS s.l) (by omega)).mono ?_
  rintro _ _ rfl
  rw [e5]
  simp -implicitDefEqProofs only[go_sem,seval,↓reduceIte]
  refine CallA.pure hG (by kernel_rfl) ?_
  simp -implicitDefEqProofs only[go_sem,seval,↓reduceIte,recol_xns]
  refine (xDepth_spec G hE _ s (by omega) hnm).mono ?_
  rintro _ _ rfl
  simp -implicitDefEqProofs only[go_sem,seval,↓reduceIte,d1]
  refine CallA.pure hG (by kernel_rfl) ?_
  simp -implicitDefEqProofs only[go_sem,seval,↓reduceIte,recol_xns]
  refine (xDepth_spec G hE _ s (by omega) hnm).mono ?_
  rintro _ _ rfl
  simp -implicitDefEqProofs only[go_sem,seval,↓reduceIte,d2]
  refine hK _ ?_
  clear hK K
  refine AW.condS (by simp -implicitDefEqProofs only[go_sem,seval,↓reduceIte];rfl) (fun h69=>?_) (fun h69=>?_)
  ·cases h69
  refine AW.skip ?_
  simp -implicitDefEqProofs only[go_sem,seval,↓reduceIte]
  refine hK3 _ ?_
  refine AW.seq_k fun K hK=>AW.region (by kernel_rfl) ?_
  simp -implicitDefEqProofs only[go_sem,seval,↓reduceIte]
  refine CallA.pure hG (by kernel_rfl) ?_
  simp -implicitDefEqProofs only[go_sem,seval,↓reduceIte,recol_xns]
  refine (xPrint_spec G hE _ o (by omega) hnm2 hno).mono ?_
  rintro _ _ ⟨r2,rfl,hr2⟩
  obtain ⟨tu,eu⟩:=r2
  simp -implicitDefEqProofs only[go_sem,seval,↓reduceIte,encPr]
  refine hK _ ?_
  clear hK K
  by_cases heu:eu=0
  rotate_left
  ·have q1:(eu==0)=false:=by simpa using heu
   refine AW.seq_k fun K hK=>AW.region (by kernel_rfl) ?_
   simp -implicitDefEqProofs only[go_sem,seval,↓reduceIte,q1]
   refine hK _ ?_
   clear hK K
   refine AW.condS (by simp -implicitDefEqProofs only[go_sem,seval,↓reduceIte];rfl) (fun h85=>?_) (fun h85=>?_)
   ·cases h85
   refine AW.skip ?_
   simp -implicitDefEqProofs only[go_sem,seval,↓reduceIte]
   exact hK2 _ () trivial (Weak.st (by simp -implicitDefEqProofs only[go_sem,seval,↓reduceIte];try rfl) (by simp -implicitDefEqProofs only[go_sem,seval,↓reduceIte];try rfl))
  subst heu
  have hck2:checkP o.l=0:=by
   by_cases hck2:checkP o.l=0
   ·exact hck2
   ·have:=congrArg Prod.snd (hr2.1 hck2)
    exact absurd this.symm hck2
  obtain ⟨z,hzk,hlz,hdz⟩:=checkP_ok hck2
  have hfz:z.fit:=fit_of z 0 (by rw [← hlz];exact hno)
  have hszz:z.size≤200:=by rw [← X.row_len z 0,← hlz];exact hol
  obtain rfl:tu=joinW (z.W 0):=congrArg Prod.fst (hr2.2 z hzk hlz hck2)
  have hpar2:=expr_print hzk hfz (by omega) hdz
  have heq:(joinW (x.W 0)==joinW (z.W 0))=(s.l==o.l):=by
   rw [Bool.eq_iff_iff]
   simp only [beq_iff_eq]
   constructor
   ·intro h
    rw [h,hpar2] at hpar
    rw [hlx,hlz]
    exact (congrArg Prod.fst hpar).symm
   ·intro h
    rw [hlx,hlz] at h
    rw [row_inj x z 0 hx hzk h]
  have hbb:∀ b:Bool,(b != b)=false:=fun b=>by cases b<;>rfl
  refine AW.seq_k fun K hK=>AW.region (by kernel_rfl) ?_
  simp -implicitDefEqProofs only[go_sem,seval,↓reduceIte]
  refine CallA.pure hG (by kernel_rfl) ?_
  simp -implicitDefEqProofs only[go_sem,seval,↓reduceIte,recol_xns]
  refine (xSame_spec G hG _ _ s o (by omega)).mono ?_
  rintro _ _ rfl
  rw [← heq]
  simp -implicitDefEqProofs only[go_sem,seval,↓reduceIte,hbb]
  refine hK _ ?_
  clear hK K
  refine AW.condS (by simp -implicitDefEqProofs only[go_sem,seval,↓reduceIte];rfl) (fun h85=>?_) (fun h85=>?_)
  ·cases h85
  refine AW.skip ?_
  simp -implicitDefEqProofs only[go_sem,seval,↓reduceIte]
  exact hK2 _ () trivial (Weak.st (by simp -implicitDefEqProofs only[go_sem,seval,↓reduceIte];try rfl) (by simp -implicitDefEqProofs only[go_sem,seval,↓reduceIte];try rfl))
 intro _ _
 clear hr
 have hxp:=xParse_spec G hE t (by omega)
 have hbad:=expr_bad (s:=t)
 have htree:=expr_tree (s:=t)
 have hparen:=expr_paren (s:=t)
 refine AW.seq_k fun K hK=>AW.region (by kernel_rfl) ?_
 simp -implicitDefEqProofs only[go_sem,seval,↓reduceIte]
 refine CallA.pure hG (by kernel_rfl) ?_
 simp -implicitDefEqProofs only[go_sem,seval,↓reduceIte]
 refine hxp.mono ?_
 rintro _ _ rfl
 by_cases he:(exprP t).2.2=0
 rotate_left
 ·have hns0:=hbad he
  have hq:encFr .new (exprP t)=encFr .new ([],(exprP t).2.1,(exprP t).2.2):=by rw [← hns0]
  rw [hq]
  generalize (exprP t).2.2=e at he
  generalize (exprP t).2.1=i
  simp -implicitDefEqProofs only[go_sem,seval,↓reduceIte,encFr,encXs,recol_xns]
  intro g14
  refine hK _ ?_
  clear hK K
  have q1:(e != 0)=true:=by simpa using he
  refine AW.seq_k fun K3 hK3=>?_
  refine AW.seq_k fun K hK=>AW.region (by kernel_rfl) ?_
  simp -implicitDefEqProofs only[go_sem,seval,↓reduceIte,q1]
  refine hK _ ?_
  clear hK K
  refine AW.condS (by simp -implicitDefEqProofs only[go_sem,seval,↓reduceIte];rfl) (fun h93=>?_) (fun h93=>?_)
  rotate_left
  ·cases h93
  have q2:((((grownS ([]:List XN)).l.length:Nat):Int)==0)=true:=rfl
  refine AW.seq_k fun K hK=>AW.region (by kernel_rfl) ?_
  simp -implicitDefEqProofs only[go_sem,seval,↓reduceIte,q2]
  refine CallA.pure hG (by kernel_rfl) ?_
  simp -implicitDefEqProofs only[go_sem,seval,↓reduceIte,List.map_nil]
  refine (vWorks_spec G hE).mono ?_
  rintro _ _ rfl
  simp -implicitDefEqProofs only[go_sem,seval,↓reduceIte]
  refine hK _ ?_
  clear hK K
  refine AW.ret ?_
  simp -implicitDefEqProofs only[go_sem,seval,↓reduceIte]
  refine endK_some ?_
  rfl
 obtain ⟨x,hx,hfx,hszx,hdx,hpx⟩:=htree he
 have hpp:=hparen he (by omega)
 rw [hpx] at hpp ⊢
 have hck:=checkP_tree hx hdx
 have hjl:=print_len hx hfx
 have hpar:=expr_print hx hfx (by omega) hdx
 have hln:(x.row 0).length=x.size:=X.row_len x 0
 have hxp2:=xParse_spec G hE (joinW (x.W 0)) (by omega)
 have hxp3:=xParse_spec G hE (40::(t++[10,41])) (by simp only [List.length_cons,List.length_append,List.length_nil];omega)
 rw [hpar] at hxp2
 rw [hpp] at hxp3
 have hgl:(grownS (x.row 0)).l=x.row 0:=grownS_l _
 have hPr:=fun c=>xPrint_spec G hE c (grownS (x.row 0)) (by rw [hgl];omega) (by rw [hgl];exact ok_names x 0 hx) (by rw [hgl];exact row_fit x 0 hfx)
 have hCh:=fun c=>xCheck_spec G hE c (grownS (x.row 0)) (by rw [hgl];omega) (by rw [hgl];exact ok_names x 0 hx)
 have hSa:=fun c c1=>xSame_spec G hG c c1 (grownS (x.row 0)) (grownS (x.row 0)) (by rw [hgl];omega)
 simp only [hgl,hck,beq_self_eq_true] at hPr hCh hSa
 have hxr:∀ r,PrintS (x.row 0) r→r=(joinW (x.W 0),0):=fun r h=>h.2 x hx rfl hck
 generalize joinW (x.W 0)=tp at hxp2 hxr hjl
 generalize x.row 0=ns at hxp2 hxp3 hPr hCh hSa hxr
 simp -implicitDefEqProofs only[go_sem,seval,↓reduceIte,encFr,encXs,recol_xns]
 intro g14
 refine hK _ ?_
 clear hK K
 refine AW.seq_k fun K3 hK3=>?_
 refine AW.seq_k fun K hK=>AW.region (by kernel_rfl) ?_
 simp -implicitDefEqProofs only[go_sem,seval,↓reduceIte]
 refine hK _ ?_
 clear hK K
 refine AW.condS (by simp -implicitDefEqProofs only[go_sem,seval,↓reduceIte];rfl) (fun h93=>?_) (fun h93=>?_)
 ·cases h93
 refine AW.skip ?_
 simp -implicitDefEqProofs only[go_sem,seval,↓reduceIte]
 refine hK3 _ ?_
 refine AW.seq_k fun K hK=>AW.region (by kernel_rfl) ?_
 simp -implicitDefEqProofs only[go_sem,seval,↓reduceIte]
 refine CallA.pure hG (by kernel_rfl) ?_
 simp -implicitDefEqProofs only[go_sem,seval,↓reduceIte,recol_xns]
 refine (hPr _).mono ?_
 rintro _ _ ⟨r,rfl,hr⟩
 obtain rfl:=hxr r hr
 simp -implicitDefEqProofs only[go_sem,seval,↓reduceIte,encPr]
 refine hK _ ?_
 clear hK K
 refine AW.seq_k fun K hK=>AW.region (by kernel_rfl) ?_
 simp -implicitDefEqProofs only[go_sem,seval,↓reduceIte]
 refine CallA.pure hG (by kernel_rfl) ?_
 simp -implicitDefEqProofs only[go_sem,seval,↓reduceIte]
 refine hxp2.mono ?_
 rintro _ _ rfl
 simp -implicitDefEqProofs only[go_sem,seval,↓reduceIte,encFr,encXs,recol_xns]
 intro g19
 refine hK _ ?_
 clear hK K
 have l1:¬ (((1+t.length:Nat):Int) > IntKind.i64.max):=by rw [show IntKind.i64.max=9223372036854775807 from rfl];omega
 have l2:¬ (((t.length+1+2:Nat):Int) > IntKind.i64.max):=by rw [show IntKind.i64.max=9223372036854775807 from rfl];omega
 refine AW.seq_k fun K hK=>AW.region (by kernel_rfl) ?_
 simp -implicitDefEqProofs only[go_sem,seval,↓reduceIte,l1,l2]
 refine CallA.pure hG (by kernel_rfl) ?_
 simp -implicitDefEqProofs only[go_sem,seval,↓reduceIte]
 refine hxp3.mono ?_
 rintro _ _ rfl
 simp -implicitDefEqProofs only[go_sem,seval,↓reduceIte,encFr,encXs,recol_xns]
 intro g22
 refine hK _ ?_
 clear hK K
 refine AW.seq_k fun K hK=>AW.region (by kernel_rfl) ?_
 simp -implicitDefEqProofs only[go_sem,seval,↓reduceIte]
 refine CallA.pure hG (by kernel_rfl) ?_
 simp -implicitDefEqProofs only[go_sem,seval,↓reduceIte,recol_xns]
 refine (hCh _).mono ?_
 rintro _ _ rfl
 simp -implicitDefEqProofs only[go_sem,seval,↓reduceIte]
 refine CallA.pure hG (by kernel_rfl) ?_
 simp -implicitDefEqProofs only[go_sem,seval,↓reduceIte,recol_xns]
 refine (hSa _ _).mono ?_
 rintro _ _ rfl
 simp -implicitDefEqProofs only[go_sem,seval,↓reduceIte]
 refine CallA.pure hG (by kernel_rfl) ?_
 simp -implicitDefEqProofs only[go_sem,seval,↓reduceIte,recol_xns]
 refine (hSa _ _).mono ?_
 rintro _ _ rfl
 simp -implicitDefEqProofs only[go_sem,seval,↓reduceIte]
 refine CallA.pure hG (by kernel_rfl) ?_
 simp -implicitDefEqProofs only[go_sem,seval,↓reduceIte,List.map_nil]
 refine (vWorks_spec G hE).mono ?_
 rintro _ _ rfl
 simp -implicitDefEqProofs only[go_sem,seval,↓reduceIte]
 refine hK _ ?_
 clear hK K
 refine AW.ret ?_
 simp -implicitDefEqProofs only[go_sem,seval,↓reduceIte]
 refine endK_some ?_
 rfl
end Go.Hs
end

section
namespace Go.Hs
open Go.Proofs
set_option maxRecDepth 10000
theorem u8q40 (c:UInt8):((c.toNat:Int)==40)=(c==40):=u8q c 40 (by decide)
theorem u8q41 (c:UInt8):((c.toNat:Int)==41)=(c==41):=u8q c 41 (by decide)
theorem cut_erase (t:List UInt8) (i k:Nat) (h:i<k) (hk:k<t.length):t.take i++(t.drop (i+1)).take (k-(i+1))++t.drop (k+1)=(t.eraseIdx k).eraseIdx i:=by
 rw [List.eraseIdx_eq_take_drop_succ,List.eraseIdx_eq_take_drop_succ (l:=t),List.take_append_of_le_length (by rw [List.length_take];omega),List.take_take,Nat.min_eq_left (by omega),List.drop_append_of_le_length (by rw [List.length_take];omega),List.drop_take,List.append_assoc]
theorem lExprLeast (G:Nat→V) (hE:GExp G) (s:Sl XN) (hns:∀ n∈s.l,n.num≤9223372036854775807) :
  Spec Tryz.prog G 12 [.agg [encSl .old 6 encXN s]] hNone (fun v _=>v = .bool true):=by
 have hG:=hE.ok
 refine Spec.of_code' 0 91 [.tmp 2] Tryz.func12 rfl rfl rfl rfl fun X0=>?_
 refine AW.seq_k fun K hK=>AW.region (by kernel_rfl) ?_
 simp -implicitDefEqProofs only[go_sem,seval,↓reduceIte]
 intro g1
 refine hK _ ?_
 clear hK K
 refine AW.weak (Weak.stF (fun o=>o==1) (l:=[(1,.view .new (.agg [encSl .old 6 encXN s]))]) (m:=[]) ?_ trivial) ?_
 ·simp -implicitDefEqProofs only[go_sem,seval,↓reduceIte]
  exact Fz.ptr (v := .agg [encSl .old 6 encXN s]) (c := .new) (fz:=0) rfl (by simp -implicitDefEqProofs only[go_sem,seval,↓reduceIte];try rfl)
 refine AW.seq_k fun K1 hK1=>?_
 refine AW.seq_k fun K hK=>AW.region (by kernel_rfl) ?_
 simp -implicitDefEqProofs only[go_sem,seval,↓reduceIte]
 refine CallA.pure hG (by kernel_rfl) ?_
 simp -implicitDefEqProofs only[go_sem,seval,↓reduceIte,recol_xns]
 refine (vFew_spec G hG _ s).mono ?_
 rintro _ _ rfl
 cases hf:fewE s.l with
 | false =>
  simp -implicitDefEqProofs only[go_sem,seval,↓reduceIte]
  refine hK _ ?_
  clear hK K
  refine AW.condS (by simp -implicitDefEqProofs only[go_sem,seval,↓reduceIte];rfl) (fun h19=>?_) (fun h19=>?_)
  rotate_left
  ·cases h19
  refine AW.seq_k fun K hK=>AW.region (by kernel_rfl) ?_
  simp -implicitDefEqProofs only[go_sem,seval,↓reduceIte]
  refine CallA.pure hG (by kernel_rfl) ?_
  simp -implicitDefEqProofs only[go_sem,seval,↓reduceIte,List.map_nil]
  refine (vWorks_spec G hE).mono ?_
  rintro _ _ rfl
  simp -implicitDefEqProofs only[go_sem,seval,↓reduceIte]
  refine hK _ ?_
  clear hK K
  refine AW.ret ?_
  simp -implicitDefEqProofs only[go_sem,seval,↓reduceIte]
  refine endK_some ?_
  rfl
 | true =>
 by_cases hz:s.l.length > 60
 ·have q1:decide (((s.l.length:Nat):Int) > 60)=true:=by rw [decide_eq_true_iff];omega
  simp -implicitDefEqProofs only[go_sem,seval,↓reduceIte,q1]
  refine hK _ ?_
  clear hK K
  refine AW.condS (by simp -implicitDefEqProofs only[go_sem,seval,↓reduceIte];rfl) (fun h19=>?_) (fun h19=>?_)
  rotate_left
  ·cases h19
  refine AW.seq_k fun K hK=>AW.region (by kernel_rfl) ?_
  simp -implicitDefEqProofs only[go_sem,seval,↓reduceIte]
  refine CallA.pure hG (by kernel_rfl) ?_
  simp -implicitDefEqProofs only[go_sem,seval,↓reduceIte,List.map_nil]
  refine (vWorks_spec G hE).mono ?_
  rintro _ _ rfl
  simp -implicitDefEqProofs only[go_sem,seval,↓reduceIte]
  refine hK _ ?_
  clear hK K
  refine AW.ret ?_
  simp -implicitDefEqProofs only[go_sem,seval,↓reduceIte]
  refine endK_some ?_
  rfl
 have q1:decide (((s.l.length:Nat):Int) > 60)=false:=by rw [decide_eq_false_iff_not];omega
 simp -implicitDefEqProofs only[go_sem,seval,↓reduceIte,q1]
 refine hK _ ?_
 clear hK K
 refine AW.condS (by simp -implicitDefEqProofs only[go_sem,seval,↓reduceIte];rfl) (fun h19=>?_) (fun h19=>?_)
 ·cases h19
 refine AW.skip ?_
 simp -implicitDefEqProofs only[go_sem,seval,↓reduceIte]
 refine hK1 _ ?_
 obtain ⟨hsl,hs70⟩:=fewE_true hf
 have hnm:∀ n∈s.l,n.name.length<100000:=fun n hn=>by have:=hs70 n hn;omega
 refine AW.seq_k fun K hK=>AW.region (by kernel_rfl) ?_
 simp -implicitDefEqProofs only[go_sem,seval,↓reduceIte]
 refine CallA.pure hG (by kernel_rfl) ?_
 simp -implicitDefEqProofs only[go_sem,seval,↓reduceIte,recol_xns]
 refine (xPrint_spec G hE _ s (by omega) hnm hns).mono ?_
 rintro _ _ ⟨r,rfl,hr⟩
 obtain ⟨tx,e⟩:=r
 simp -implicitDefEqProofs only[go_sem,seval,↓reduceIte,encPr]
 refine hK _ ?_
 clear hK K
 refine AW.seq_k fun K2 hK2=>?_
 by_cases he:e=0
 rotate_left
 ·have hck:checkP s.l≠0:=by
   intro hck
   obtain ⟨x,hx,hlx,hdx⟩:=checkP_ok hck
   exact he (congrArg Prod.snd (hr.2 x hx hlx hck))
  obtain rfl:tx=[]:=congrArg Prod.fst (hr.1 hck)
  have q2:(e==0)=false:=by simpa using he
  refine AW.seq_k fun K hK=>AW.region (by kernel_rfl) ?_
  simp -implicitDefEqProofs only[go_sem,seval,↓reduceIte,bne,q2]
  refine hK _ ?_
  clear hK K
  refine AW.condS (by simp -implicitDefEqProofs only[go_sem,seval,↓reduceIte];rfl) (fun h27=>?_) (fun h27=>?_)
  rotate_left
  ·cases h27
  have q3:(([]:List UInt8)==[])=true:=rfl
  refine AW.seq_k fun K hK=>AW.region (by kernel_rfl) ?_
  simp -implicitDefEqProofs only[go_sem,seval,↓reduceIte,q3]
  refine CallA.pure hG (by kernel_rfl) ?_
  simp -implicitDefEqProofs only[go_sem,seval,↓reduceIte,List.map_nil]
  refine (vWorks_spec G hE).mono ?_
  rintro _ _ rfl
  simp -implicitDefEqProofs only[go_sem,seval,↓reduceIte]
  refine hK _ ?_
  clear hK K
  refine AW.ret ?_
  simp -implicitDefEqProofs only[go_sem,seval,↓reduceIte]
  refine endK_some ?_
  rfl
 subst he
 have hck:checkP s.l=0:=by
  by_cases hck:checkP s.l=0
  ·exact hck
  ·have:=congrArg Prod.snd (hr.1 hck)
   exact absurd this.symm hck
 obtain ⟨x,hx,hlx,hdx⟩:=checkP_ok hck
 have hfx:x.fit:=fit_of x 0 (by rw [← hlx];exact hns)
 have hszx:x.size≤200:=by rw [← X.row_len x 0,← hlx];exact hsl
 obtain rfl:tx=joinW (x.W 0):=congrArg Prod.fst (hr.2 x hx hlx hck)
 have hjl:=print_len hx hfx
 have hlow:∀ i k,i<k→(joinW (x.W 0))[i]? = some 40→(joinW (x.W 0))[k]? = some 41→(exprP (((joinW (x.W 0)).eraseIdx k).eraseIdx i)).2.2=0→(exprP (((joinW (x.W 0)).eraseIdx k).eraseIdx i)).1≠s.l:=by
  intro i k hik hi hk h0
  rw [hlx]
  exact expr_least hx hfx hik hi hk h0
 clear hr
 generalize joinW (x.W 0)=tx at hjl hlow ⊢
 have htl:tx.length<90000:=by omega
 refine AW.seq_k fun K hK=>AW.region (by kernel_rfl) ?_
 simp -implicitDefEqProofs only[go_sem,seval,↓reduceIte]
 refine hK _ ?_
 clear hK K
 refine AW.condS (by simp -implicitDefEqProofs only[go_sem,seval,↓reduceIte];rfl) (fun h27=>?_) (fun h27=>?_)
 ·cases h27
 refine AW.skip ?_
 simp -implicitDefEqProofs only[go_sem,seval,↓reduceIte]
 refine hK2 _ ?_
 refine AW.seq_k fun K3 hK3=>?_
 refine AW.seq_k fun K hK=>AW.region (by kernel_rfl) ?_
 simp -implicitDefEqProofs only[go_sem,seval,↓reduceIte]
 refine hK _ ?_
 clear hK K
 refine AW.block ?_
 refine AW.for tx.length (fun i (_:Unit)=>st [(1,.view .new (.agg [encSl .old 6 encXN s])),(3,.str tx),(5,.int .i64 i)] []) (fun _ _=>True) 0 () (Nat.zero_le _) trivial (Weak.st (by simp -implicitDefEqProofs only[go_sem,seval,↓reduceIte];try rfl) (by simp -implicitDefEqProofs only[go_sem,seval,↓reduceIte];try rfl)) ?_
 intro i _ hi _ L4 hL4
 refine AW.seq_k fun K5 hK5=>?_
 refine AW.seq_k fun K hK=>AW.region (by kernel_rfl) ?_
 simp -implicitDefEqProofs only[go_sem,seval,↓reduceIte]
 refine hK _ ?_
 clear hK K
 refine AW.condS (by simp -implicitDefEqProofs only[go_sem,seval,↓reduceIte];rfl) (fun h36=>?_) (fun h36=>?_)
 rotate_left
 ·refine AW.exit ?_
  simp -implicitDefEqProofs only[go_sem,seval,↓reduceIte]
  refine hK3 _ ?_
  refine AW.seq_k fun K hK=>AW.region (by kernel_rfl) ?_
  simp -implicitDefEqProofs only[go_sem,seval,↓reduceIte]
  refine CallA.pure hG (by kernel_rfl) ?_
  simp -implicitDefEqProofs only[go_sem,seval,↓reduceIte,List.map_nil]
  refine (vWorks_spec G hE).mono ?_
  rintro _ _ rfl
  simp -implicitDefEqProofs only[go_sem,seval,↓reduceIte]
  refine hK _ ?_
  clear hK K
  refine AW.ret ?_
  simp -implicitDefEqProofs only[go_sem,seval,↓reduceIte]
  refine endK_some ?_
  rfl
 have hi1:i<tx.length:=by simpa using h36
 refine AW.skip ?_
 simp -implicitDefEqProofs only[go_sem,seval,↓reduceIte]
 refine hK5 _ ?_
 refine AW.seqJ (fun (_:Unit)=>st [(1,.view .new (.agg [encSl .old 6 encXN s])),(3,.str tx),(5,.int .i64 i)] []) (fun _=>True) (fun K6 hK6=>?_) ?_
 rotate_left
 ·intro _ _
  refine AW.region (by kernel_rfl) ?_
  simp -implicitDefEqProofs only[go_sem,seval,↓reduceIte]
  refine hL4 _ ⟨hi1,(),trivial,Weak.st (by simp -implicitDefEqProofs only[go_sem,seval,↓reduceIte];exact congrArg _ (by rw [w64 (by omega) (by omega)];omega)) (by simp -implicitDefEqProofs only[go_sem,seval,↓reduceIte];try rfl)⟩
 refine AW.block ?_
 have gi:=getE_of hi1
 generalize tx[i]=b at gi
 refine AW.seq_k fun K7 hK7=>?_
 cases hb:(b==40) with
 | false =>
  refine AW.seq_k fun K hK=>AW.region (by kernel_rfl) ?_
  simp -implicitDefEqProofs only[go_sem,seval,↓reduceIte,gi,bne,u8q40,hb]
  refine hK _ ?_
  clear hK K
  refine AW.condS (by simp -implicitDefEqProofs only[go_sem,seval,↓reduceIte];rfl) (fun h42=>?_) (fun h42=>?_)
  rotate_left
  ·cases h42
  refine AW.exit ?_
  simp -implicitDefEqProofs only[go_sem,seval,↓reduceIte]
  exact hK6 _ () trivial (Weak.st (by simp -implicitDefEqProofs only[go_sem,seval,↓reduceIte];try rfl) (by simp -implicitDefEqProofs only[go_sem,seval,↓reduceIte];try rfl))
 | true =>
 obtain rfl:b=40:=by simpa using hb
 refine AW.seq_k fun K hK=>AW.region (by kernel_rfl) ?_
 simp -implicitDefEqProofs only[go_sem,seval,↓reduceIte,gi,bne,u8q40,hb]
 refine hK _ ?_
 clear hK K
 refine AW.condS (by simp -implicitDefEqProofs only[go_sem,seval,↓reduceIte];rfl) (fun h42=>?_) (fun h42=>?_)
 ·cases h42
 refine AW.skip ?_
 simp -implicitDefEqProofs only[go_sem,seval,↓reduceIte]
 refine hK7 _ ?_
 refine AW.seq_k fun K hK=>AW.region (by kernel_rfl) ?_
 simp -implicitDefEqProofs only[go_sem,seval,↓reduceIte]
 refine hK _ ?_
 clear hK K
 refine AW.seq_k fun K hK=>AW.region (by kernel_rfl) ?_
 simp -implicitDefEqProofs only[go_sem,seval,↓reduceIte]
 refine hK _ ?_
 clear hK K
 refine AW.block ?_
 refine AW.for tx.length (fun k (o:Int)=>st [(1,.view .new (.agg [encSl .old 6 encXN s])),(3,.str tx),(5,.int .i64 i),(6,.int .i64 o),(7,.int .i64 k)] []) (fun k o=>(k=i∧o=0)∨(i<k∧1≤o∧o≤k)) i 0 hi (.inl ⟨rfl,rfl⟩) (Weak.st (by simp -implicitDefEqProofs only[go_sem,seval,↓reduceIte];try rfl) (by simp -implicitDefEqProofs only[go_sem,seval,↓reduceIte];try rfl)) ?_
 intro k o hk hR L8 hL8
 refine AW.seq_k fun K9 hK9=>?_
 refine AW.seq_k fun K hK=>AW.region (by kernel_rfl) ?_
 simp -implicitDefEqProofs only[go_sem,seval,↓reduceIte]
 refine hK _ ?_
 clear hK K
 refine AW.condS (by simp -implicitDefEqProofs only[go_sem,seval,↓reduceIte];rfl) (fun h47=>?_) (fun h47=>?_)
 rotate_left
 ·refine AW.exit ?_
  simp -implicitDefEqProofs only[go_sem,seval,↓reduceIte]
  exact hK6 _ () trivial (Weak.st (by simp -implicitDefEqProofs only[go_sem,seval,↓reduceIte];try rfl) (by simp -implicitDefEqProofs only[go_sem,seval,↓reduceIte];try rfl))
 have hk1:k<tx.length:=by simpa using h47
 refine AW.skip ?_
 simp -implicitDefEqProofs only[go_sem,seval,↓reduceIte]
 refine hK9 _ ?_
 have gk:=getE_of hk1
 generalize tx[k]=c at gk
 refine AW.seq_k fun K10 hK10=>?_
 refine AW.block ?_
 refine AW.seqJ (fun (_:Unit)=>st [(1,.view .new (.agg [encSl .old 6 encXN s])),(3,.str tx),(5,.int .i64 i),(6,.int .i64 (if (c==40)=true then o+1 else o)),(7,.int .i64 k)] []) (fun _=>True) (fun K11 hK11=>?_) ?_
 ·refine AW.seq_k fun K hK=>AW.region (by kernel_rfl) ?_
  simp -implicitDefEqProofs only[go_sem,seval,↓reduceIte,gk,u8q40]
  refine hK _ ?_
  clear hK K
  refine AW.condS (by simp -implicitDefEqProofs only[go_sem,seval,↓reduceIte];rfl) (fun h53=>?_) (fun h53=>?_)
  ·rw [if_pos h53] at hK11
   refine AW.region (by kernel_rfl) ?_
   simp -implicitDefEqProofs only[go_sem,seval,↓reduceIte]
   exact hK11 _ () trivial (Weak.st (by simp -implicitDefEqProofs only[go_sem,seval,↓reduceIte];exact congrArg _ (w64 (by omega) (by omega))) (by simp -implicitDefEqProofs only[go_sem,seval,↓reduceIte];try rfl))
  ·rw [if_neg (by rw [h53];decide)] at hK11
   refine AW.skip ?_
   simp -implicitDefEqProofs only[go_sem,seval,↓reduceIte]
   exact hK11 _ () trivial (Weak.st (by simp -implicitDefEqProofs only[go_sem,seval,↓reduceIte];try rfl) (by simp -implicitDefEqProofs only[go_sem,seval,↓reduceIte];try rfl))
 intro _ _
 have ho1:0≤(if (c==40)=true then o+1 else o)∧(if (c==40)=true then o+1 else o)≤k+1:=by split<;>omega
 have hoc:1≤(if (c==40)=true then o+1 else o):=by
  rcases hR with ⟨rfl,rfl⟩ | ⟨h1,h2,h3⟩
  ·rw [gi] at gk
   obtain rfl:(40:UInt8)=c:=by simpa using gk
   decide
  ·split<;>omega
 generalize (if (c==40)=true then o+1 else o)=o1 at ho1 hoc
 refine AW.seqJ (fun (_:Unit)=>st [(1,.view .new (.agg [encSl .old 6 encXN s])),(3,.str tx),(5,.int .i64 i),(6,.int .i64 (if (c==41)=true then o1-1 else o1)),(7,.int .i64 k)] []) (fun _=>True) (fun K11 hK11=>?_) ?_
 ·refine AW.seq_k fun K hK=>AW.region (by kernel_rfl) ?_
  simp -implicitDefEqProofs only[go_sem,seval,↓reduceIte,gk,u8q41]
  refine hK _ ?_
  clear hK K
  refine AW.condS (by simp -implicitDefEqProofs only[go_sem,seval,↓reduceIte];rfl) (fun h59=>?_) (fun h59=>?_)
  ·rw [if_pos h59] at hK11
   refine AW.region (by kernel_rfl) ?_
   simp -implicitDefEqProofs only[go_sem,seval,↓reduceIte]
   exact hK11 _ () trivial (Weak.st (by simp -implicitDefEqProofs only[go_sem,seval,↓reduceIte];exact congrArg _ (w64 (by omega) (by omega))) (by simp -implicitDefEqProofs only[go_sem,seval,↓reduceIte];try rfl))
  ·rw [if_neg (by rw [h59];decide)] at hK11
   refine AW.skip ?_
   simp -implicitDefEqProofs only[go_sem,seval,↓reduceIte]
   exact hK11 _ () trivial (Weak.st (by simp -implicitDefEqProofs only[go_sem,seval,↓reduceIte];try rfl) (by simp -implicitDefEqProofs only[go_sem,seval,↓reduceIte];try rfl))
 intro _ _
 have hik:i≤k:=by omega
 have hz0:(if (c==41)=true then o1-1 else o1)=0→c=41∧i<k:=by
  intro h
  have hc:c=41:=by
   refine Classical.byContradiction fun hc=>?_
   rw [if_neg (by simpa using hc)] at h
   omega
  refine ⟨hc,?_⟩
  subst hc
  rcases hR with ⟨rfl,rfl⟩ | ⟨h1,h2,h3⟩
  ·rw [gi] at gk
   cases gk
  ·exact h1
 have hz1:(if (c==41)=true then o1-1 else o1)≠0→1≤(if (c==41)=true then o1-1 else o1)∧(if (c==41)=true then o1-1 else o1)≤k+1:=by
  intro h
  by_cases hc:(c==41)=true
  ·rw [if_pos hc] at h ⊢
   omega
  ·rw [if_neg hc] at h ⊢
   omega
 generalize (if (c==41)=true then o1-1 else o1)=o2 at hz0 hz1
 refine AW.seq_k fun K hK=>AW.region (by kernel_rfl) ?_
 simp -implicitDefEqProofs only[go_sem,seval,↓reduceIte]
 refine hK _ ?_
 clear hK K
 refine AW.condS (by simp -implicitDefEqProofs only[go_sem,seval,↓reduceIte];rfl) (fun h63=>?_) (fun h63=>?_)
 rotate_left
 ·have ho2:o2≠0:=by simpa using h63
  obtain ⟨z1,z2⟩:=hz1 ho2
  refine AW.skip ?_
  simp -implicitDefEqProofs only[go_sem,seval,↓reduceIte]
  refine hK10 _ ?_
  refine AW.region (by kernel_rfl) ?_
  simp -implicitDefEqProofs only[go_sem,seval,↓reduceIte]
  refine hL8 _ ⟨hk1,o2,.inr ⟨by omega,z1,by omega⟩,Weak.st (by simp -implicitDefEqProofs only[go_sem,seval,↓reduceIte];exact congrArg _ (by rw [w64 (by omega) (by omega)];omega)) (by simp -implicitDefEqProofs only[go_sem,seval,↓reduceIte];try rfl)⟩
 have ho2:o2=0:=by simpa using h63
 obtain ⟨rfl,hik1⟩:=hz0 ho2
 have hpl:=hlow i k hik1 gi gk
 have hxp:=xParse_spec G hE ((tx.eraseIdx k).eraseIdx i) (by
  have:=List.length_eraseIdx_le (tx.eraseIdx k) i
  have:=List.length_eraseIdx_le tx k
  omega)
 have hcut:=cut_erase tx i k hik1 hk1
 have hlc:=congrArg List.length hcut
 have hln:((tx.eraseIdx k).eraseIdx i).length≤tx.length:=by
  have:=List.length_eraseIdx_le (tx.eraseIdx k) i
  have:=List.length_eraseIdx_le tx k
  omega
 generalize (tx.eraseIdx k).eraseIdx i=tc at hpl hxp hcut hlc hln
 generalize exprP tc=p at hpl hxp
 obtain ⟨ns,q,e⟩:=p
 simp only at hpl
 have pP:PureC Tryz.prog G 29 [.str tc] (.tuple [.agg [encSl .new 6 encXN (grownS ns)],.int .i64 q,.int .i64 e]):=⟨by kernel_rfl,by
  simp -implicitDefEqProofs only[go_sem,seval,↓reduceIte]
  refine hxp.mono ?_
  rintro _ _ rfl
  simp -implicitDefEqProofs only[go_sem,seval,↓reduceIte,encFr,encXs,recol_xns]⟩
 have w1:IntKind.i64.wrap ((i:Int)+1)=((i+1:Nat):Int):=by rw [w64 (by omega) (by omega)];omega
 have w2:IntKind.i64.wrap ((k:Int)+1)=((k+1:Nat):Int):=by rw [w64 (by omega) (by omega)];omega
 have n1:i≤tx.length:=by omega
 have n2:i+1≤k:=by omega
 have n3:k≤tx.length:=by omega
 have n4:k+1≤tx.length:=by omega
 have la:(tx.take i).length=i:=by rw [List.length_take];omega
 have lb:((tx.drop (i+1)).take (k-(i+1))).length=k-(i+1):=by rw [List.length_take,List.length_drop];omega
 have lc:(tx.drop (k+1)).length=tx.length-(k+1):=List.length_drop
 have l1:¬ ((((tx.take i).length+((tx.drop (i+1)).take (k-(i+1))).length:Nat):Int) > IntKind.i64.max):=by rw [show IntKind.i64.max=9223372036854775807 from rfl,la,lb];omega
 have l2:¬ ((((tx.take i).length+((tx.drop (i+1)).take (k-(i+1))).length+(tx.drop (k+1)).length:Nat):Int) > IntKind.i64.max):=by rw [show IntKind.i64.max=9223372036854775807 from rfl,la,lb,lc];omega
 have l3:¬ ((((tx.take i++(tx.drop (i+1)).take (k-(i+1))).length+(tx.drop (k+1)).length:Nat):Int) > IntKind.i64.max):=by rw [show IntKind.i64.max=9223372036854775807 from rfl,List.length_append,la,lb,lc];omega
 have n5:tx.length≤tx.length:=Nat.le_refl _
 have e3:(tx.drop (k+1)).take (tx.length-(k+1))=tx.drop (k+1):=List.take_of_length_le (by rw [List.length_drop];omega)
 refine AW.seq_k fun K hK=>AW.regionT ⟨fun i=>if i=14 then .tuple [.agg [encSl .new 6 encXN (grownS ns)],.int .i64 q,.int .i64 e] else .top,fun _ => .pure⟩ (by kernel_rfl) hG (by kernel_rfl) (by kernel_rfl) ?_
 simp -implicitDefEqProofs only[go_sem,seval,↓reduceIte,w1,w2,n1,n2,n3,n4,n5,Nat.zero_le,Nat.sub_zero,List.drop_zero,e3,l1,l2,l3,hcut]
 refine ⟨pP,?_⟩
 intro g8
 refine hK _ ?_
 clear hK K
 refine AW.seq_k fun K12 hK12=>?_
 by_cases he:e=0
 ·subst he
  have hne:(s.l==(grownS ns).l)=false:=by
   rw [grownS_l,beq_eq_false_iff_ne]
   exact fun h=>hpl rfl h.symm
  refine AW.seq_k fun K hK=>AW.region (by kernel_rfl) ?_
  simp -implicitDefEqProofs only[go_sem,seval,↓reduceIte]
  refine CallA.pure hG (by kernel_rfl) ?_
  simp -implicitDefEqProofs only[go_sem,seval,↓reduceIte,recol_xns]
  refine (xSame_spec G hG _ _ s (grownS ns) (by omega)).mono ?_
  rintro _ _ rfl
  rw [hne]
  simp -implicitDefEqProofs only[go_sem,seval,↓reduceIte]
  refine hK _ ?_
  clear hK K
  refine AW.condS (by simp -implicitDefEqProofs only[go_sem,seval,↓reduceIte];rfl) (fun h89=>?_) (fun h89=>?_)
  ·cases h89
  refine AW.skip ?_
  simp -implicitDefEqProofs only[go_sem,seval,↓reduceIte]
  refine hK12 _ ?_
  refine AW.exit ?_
  simp -implicitDefEqProofs only[go_sem,seval,↓reduceIte]
  exact hK6 _ () trivial (Weak.st (by simp -implicitDefEqProofs only[go_sem,seval,↓reduceIte];try rfl) (by simp -implicitDefEqProofs only[go_sem,seval,↓reduceIte];try rfl))
 ·have q2:(e==0)=false:=by simpa using he
  refine AW.seq_k fun K hK=>AW.region (by kernel_rfl) ?_
  simp -implicitDefEqProofs only[go_sem,seval,↓reduceIte,q2]
  refine hK _ ?_
  clear hK K
  refine AW.condS (by simp -implicitDefEqProofs only[go_sem,seval,↓reduceIte];rfl) (fun h89=>?_) (fun h89=>?_)
  ·cases h89
  refine AW.skip ?_
  simp -implicitDefEqProofs only[go_sem,seval,↓reduceIte]
  refine hK12 _ ?_
  refine AW.exit ?_
  simp -implicitDefEqProofs only[go_sem,seval,↓reduceIte]
  exact hK6 _ () trivial (Weak.st (by simp -implicitDefEqProofs only[go_sem,seval,↓reduceIte];try rfl) (by simp -implicitDefEqProofs only[go_sem,seval,↓reduceIte];try rfl))
end Go.Hs
end

section
namespace Go.Hs
inductive Sub:X→X→Nat→Prop where
 | refl (x:X):Sub x x 0
 | un {op:Int} {a y:X} {b:Nat}:Sub a y b→Sub (.un op a) y b
 | bin1 {op:Int} {a c y:X} {b:Nat}:Sub a y b→Sub (.bin op a c) y b
 | bin2 {op:Int} {a c y:X} {b:Nat}:Sub c y b→Sub (.bin op a c) y (a.size+b)
 | ite1 {a c d y:X} {b:Nat}:Sub a y b→Sub (.ite a c d) y b
 | ite2 {a c d y:X} {b:Nat}:Sub c y b→Sub (.ite a c d) y (a.size+b)
 | ite3 {a c d y:X} {b:Nat}:Sub d y b→Sub (.ite a c d) y (a.size+c.size+b)
def subs:X→List X
 | .leaf op num name=>[.leaf op num name]
 | .un op a=>subs a++[.un op a]
 | .bin op a c=>subs a++subs c++[.bin op a c]
 | .ite a c d=>subs a++subs c++subs d++[.ite a c d]
theorem subs_len:∀ x:X,(subs x).length=x.size
 | .leaf .. => rfl
 | .un _ a=>by simp [subs,X.size,subs_len a]
 | .bin _ a b=>by simp [subs,X.size,subs_len a,subs_len b];omega
 | .ite a b c=>by simp [subs,X.size,subs_len a,subs_len b,subs_len c];omega
theorem Sub.trans {x y z:X} {b c:Nat} (h:Sub x y b) (h2:Sub y z c):Sub x z (b+c):=by
 induction h with
 | refl=>simpa using h2
 | un _ ih=>exact .un (ih h2)
 | bin1 _ ih=>exact .bin1 (ih h2)
 | bin2 _ ih=>rw [Nat.add_assoc];exact .bin2 (ih h2)
 | ite1 _ ih=>exact .ite1 (ih h2)
 | ite2 _ ih=>rw [Nat.add_assoc];exact .ite2 (ih h2)
 | ite3 _ ih=>rw [Nat.add_assoc];exact .ite3 (ih h2)
theorem Sub.ok {x y:X} {b:Nat} (h:Sub x y b):x.ok=true→y.ok=true:=by
 induction h with
 | refl=>exact id
 | un _ ih=>intro h;simp [X.ok] at h;exact ih h.2
 | bin1 _ ih=>intro h;simp [X.ok] at h;exact ih h.1.2
 | bin2 _ ih=>intro h;simp [X.ok] at h;exact ih h.2
 | ite1 _ ih=>intro h;simp [X.ok] at h;exact ih h.1.1
 | ite2 _ ih=>intro h;simp [X.ok] at h;exact ih h.1.2
 | ite3 _ ih=>intro h;simp [X.ok] at h;exact ih h.2
theorem Sub.size {x y:X} {b:Nat} (h:Sub x y b):b+y.size≤x.size:=by
 induction h with
 | refl=>simp
 | un _ ih=>simp only [X.size];omega
 | bin1 _ ih=>simp only [X.size];omega
 | bin2 _ ih=>simp only [X.size];omega
 | ite1 _ ih=>simp only [X.size];omega
 | ite2 _ ih=>simp only [X.size];omega
 | ite3 _ ih=>simp only [X.size];omega
theorem Sub.depth {x y:X} {b:Nat} (h:Sub x y b):y.depth≤x.depth:=by
 induction h with
 | refl=>simp
 | un _ ih=>simp only [X.depth];omega
 | bin1 _ ih=>simp only [X.depth];omega
 | bin2 _ ih=>simp only [X.depth];omega
 | ite1 _ ih=>simp only [X.depth];omega
 | ite2 _ ih=>simp only [X.depth];omega
 | ite3 _ ih=>simp only [X.depth];omega
theorem Sub.at {x y:X} {b:Nat} (h:Sub x y b):∀ {l:List XN} {k:Nat},At l x k→At l y (k+b):=by
 induction h with
 | refl=>exact id
 | un _ ih=>intro l k h;exact ih h.un
 | bin1 _ ih=>intro l k h;exact ih h.bin.1
 | bin2 _ ih=>intro l k h;rw [← Nat.add_assoc];exact ih h.bin.2
 | ite1 _ ih=>intro l k h;exact ih h.ite.1
 | ite2 _ ih=>intro l k h;rw [← Nat.add_assoc];exact ih h.ite.2.1
 | ite3 _ ih=>intro l k h;rw [← Nat.add_assoc,← Nat.add_assoc];exact ih h.ite.2.2
theorem subs_top (x:X):(subs x)[x.size-1]? = some x:=by
 have:∃ l,subs x=l++[x]:=by
  cases x with
  | leaf=>exact ⟨[],rfl⟩
  | un=>exact ⟨_,rfl⟩
  | bin=>exact ⟨_,rfl⟩
  | ite=>exact ⟨_,rfl⟩
 obtain ⟨l,h⟩:=this
 have hl:=subs_len x
 rw [h,List.length_append,List.length_singleton] at hl
 rw [h,List.getElem?_append_right (by omega),show x.size-1-l.length=0 by omega];rfl
theorem Sub.get {x y:X} {b:Nat} (h:Sub x y b):(subs x)[b+y.size-1]? = some y:=by
 have hy:=y.size_pos
 induction h with
 | refl x=>rw [Nat.zero_add];exact subs_top x
 | @un op a y b h ih =>
  have:=h.size
  have hl:=subs_len a
  rw [subs,List.getElem?_append_left (by omega)];exact ih hy
 | @bin1 op a c y b h ih =>
  have:=h.size
  have hl:=subs_len a
  rw [subs,List.append_assoc,List.getElem?_append_left (by omega)];exact ih hy
 | @bin2 op a c y b h ih =>
  have:=h.size
  have hl:=subs_len a
  have hl2:=subs_len c
  rw [subs,List.append_assoc,List.getElem?_append_right (by omega),List.getElem?_append_left (by omega),← ih hy]
  congr 1;omega
 | @ite1 a c d y b h ih =>
  have:=h.size
  have hl:=subs_len a
  rw [subs,List.append_assoc,List.append_assoc,List.getElem?_append_left (by omega)];exact ih hy
 | @ite2 a c d y b h ih =>
  have:=h.size
  have hl:=subs_len a
  have hl2:=subs_len c
  rw [subs,List.append_assoc,List.append_assoc,List.getElem?_append_right (by omega),List.getElem?_append_left (by omega),← ih hy]
  congr 1;omega
 | @ite3 a c d y b h ih =>
  have:=h.size
  have hl:=subs_len a
  have hl2:=subs_len c
  have hl3:=subs_len d
  rw [subs,List.append_assoc,List.append_assoc,List.getElem?_append_right (by omega),List.getElem?_append_right (by omega),List.getElem?_append_left (by omega),← ih hy]
  congr 1;omega
theorem sub_all:∀ (x:X) (i:Nat),i<x.size→∃ y b,Sub x y b∧b+y.size=i+1
 | .leaf op num name,i,h=>⟨_,0,.refl _,by simp only [X.size] at h ⊢;omega⟩
 | .un op a,i,h=>by
  by_cases h1:i<a.size
  ·obtain ⟨y,b,h2,h3⟩:=sub_all a i h1
   exact ⟨y,b,.un h2,h3⟩
  ·exact ⟨_,0,.refl _,by simp only [X.size] at h ⊢;omega⟩
 | .bin op a c,i,h=>by
  by_cases h1:i<a.size
  ·obtain ⟨y,b,h2,h3⟩:=sub_all a i h1
   exact ⟨y,b,.bin1 h2,h3⟩
  by_cases h1':i-a.size<c.size
  ·obtain ⟨y,b,h2,h3⟩:=sub_all c (i-a.size) h1'
   exact ⟨y,_,.bin2 h2,by omega⟩
  ·exact ⟨_,0,.refl _,by simp only [X.size] at h ⊢;omega⟩
 | .ite a c d,i,h=>by
  by_cases h1:i<a.size
  ·obtain ⟨y,b,h2,h3⟩:=sub_all a i h1
   exact ⟨y,b,.ite1 h2,h3⟩
  by_cases h1':i-a.size<c.size
  ·obtain ⟨y,b,h2,h3⟩:=sub_all c (i-a.size) h1'
   exact ⟨y,_,.ite2 h2,by omega⟩
  by_cases h1'':i-a.size-c.size<d.size
  ·obtain ⟨y,b,h2,h3⟩:=sub_all d (i-a.size-c.size) h1''
   exact ⟨y,_,.ite3 h2,by omega⟩
  ·exact ⟨_,0,.refl _,by simp only [X.size] at h ⊢;omega⟩
theorem Sub.top {x y:X} {b:Nat} (h:Sub x y b):(x.row 0)[b+y.size-1]? = some (y.top b):=by
 have:=(h.at (At.whole x)).get
 rw [Nat.zero_add] at this
 exact this
theorem sub_at (x:X) (i:Nat) (h:i<x.size):∃ y b,Sub x y b∧b+y.size=i+1∧(subs x)[i]? = some y∧(x.row 0)[i]? = some (y.top b):=by
 obtain ⟨y,b,h1,h2⟩:=sub_all x i h
 have e:i=b+y.size-1:=by omega
 exact ⟨y,b,h1,h2,e ▸ h1.get,e ▸ h1.top⟩
end Go.Hs
end

section
namespace Go.Hs
def kd (op:Int) (named:Bool) (a b c:Int):Int :=
 if op=1∨op=2∧named=true then 1
 else if op=3∨op=4 then 2
 else if op=5∧a=1∨7≤op∧op≤11∧a=1∧b=1 then 1
 else if 12≤op∧op≤15∧a=1∧b=1∨(op=16∨op=17)∧a=b∧a≠0 then 2
 else if op=6∧a=2∨18≤op∧op≤21∧a=2∧b=2 then 2
 else if op=22∧a=2∧b=c then b else 0
end Go.Hs
end

section
namespace Go.Hs
open Go.Proofs
set_option maxRecDepth 10000
theorem Im.xn (n:XN):(encXN n).Im:=by
 refine .agg _ fun x hx=>?_
 simp only [List.mem_cons,List.not_mem_nil,or_false] at hx
 rcases hx with rfl | rfl | rfl | rfl | rfl | rfl<;>first | exact .int _ _ | exact .str _
end Go.Hs
end

section
namespace Go.Hs
theorem mem_subs {x y:X} (h:y∈subs x):∃ b,Sub x y b:=by
 obtain ⟨i,hi,e⟩:=List.mem_iff_getElem.1 h
 obtain ⟨z,b,h1,h2,h3,h4⟩:=sub_at x i (by rw [← subs_len];exact hi)
 rw [List.getElem?_eq_getElem hi,e] at h3
 cases h3
 exact ⟨b,h1⟩
theorem Sub.mem {x y:X} {b:Nat} (h:Sub x y b):y∈subs x:=List.mem_of_getElem? h.get
def shiftN (b:Int) (n:XN):XN:={ n with a:=max (-1) (n.a-b),b:=max (-1) (n.b-b),c:=max (-1) (n.c-b) }
theorem row_shift:∀ (y:X) (b c:Int),0≤b→0≤c→(y.row (b+c)).map (shiftN b)=y.row c
 | .leaf op num name,b,c,hb,hc=>by
  have:max (-1) (-1-b)=(-1:Int):=by omega
  simp only [X.row,List.map_cons,List.map_nil,shiftN,this]
 | .un op a,b,c,hb,hc=>by
  have e1:max (-1) (-1-b)=(-1:Int):=by omega
  have hp:=a.size_pos
  have e2:max (-1) (b+c+a.size-1-b)=c+a.size-1:=by omega
  simp only [X.row,List.map_append,List.map_cons,List.map_nil,shiftN,e1,e2,row_shift a b c hb hc]
 | .bin op x y,b,c,hb,hc=>by
  have e1:max (-1) (-1-b)=(-1:Int):=by omega
  have hp:=x.size_pos
  have hp2:=y.size_pos
  have e2:max (-1) (b+c+x.size-1-b)=c+x.size-1:=by omega
  have e3:max (-1) (b+c+x.size+y.size-1-b)=c+x.size+y.size-1:=by omega
  have i2:=row_shift y b (c+x.size) hb (by omega)
  rw [← Int.add_assoc] at i2
  simp only [X.row,List.map_append,List.map_cons,List.map_nil,shiftN,e1,e2,e3,row_shift x b c hb hc,i2]
 | .ite x y z,b,c,hb,hc=>by
  have hp:=x.size_pos
  have hp2:=y.size_pos
  have hp3:=z.size_pos
  have e2:max (-1) (b+c+x.size-1-b)=c+x.size-1:=by omega
  have e3:max (-1) (b+c+x.size+y.size-1-b)=c+x.size+y.size-1:=by omega
  have e4:max (-1) (b+c+x.size+y.size+z.size-1-b)=c+x.size+y.size+z.size-1:=by omega
  have i2:=row_shift y b (c+x.size) hb (by omega)
  rw [← Int.add_assoc] at i2
  have i3:=row_shift z b (c+x.size+y.size) hb (by omega)
  rw [← Int.add_assoc,← Int.add_assoc] at i3
  simp only [X.row,List.map_append,List.map_cons,List.map_nil,shiftN,e2,e3,e4,row_shift x b c hb hc,i2,i3]
theorem Sub.shift {x y:X} {b:Nat} (h:Sub x y b):(((x.row 0).drop b).take y.size).map (shiftN b)=y.row 0:=by
 obtain ⟨pre,post,e,hb⟩:=h.at (At.whole x)
 rw [Nat.zero_add] at hb e
 have hl:(y.row ((b:Nat):Int)).length=y.size:=y.row_len _
 have ht:((x.row 0).drop b).take y.size=y.row (b:Nat):=by
  rw [e,List.append_assoc,← hb,List.drop_left,← hl,hb,List.take_left]
 rw [ht]
 have:=row_shift y b 0 (by omega) (by omega)
 rw [Int.add_zero] at this
 exact this
end Go.Hs
end

section
namespace Go.Hs
def NmIn (x:X) (t:List UInt8):Prop:=∃ num,X.leaf 2 num t∈subs x
theorem NmIn.sub {x y:X} {b:Nat} (h:Sub x y b) {t:List UInt8} (ht:NmIn y t):NmIn x t:=by
 obtain ⟨n,q⟩:=ht
 obtain ⟨c,hc⟩:=mem_subs q
 exact ⟨n,(h.trans hc).mem⟩
end Go.Hs
end

section
namespace Go.Hs
open Go.Proofs
set_option maxRecDepth 10000
theorem X.first:∀ z:X,(∀ b,(z.top b).a = -1)∧z.size=1∨∃ a:X,Sub z a 0∧a.size<z.size∧∀ b,(z.top b).a=b+a.size-1
 | .leaf .. => .inl ⟨fun _=>rfl,rfl⟩
 | .un op a => .inr ⟨a,.un (.refl a),by simp only [X.size];omega,fun _=>rfl⟩
 | .bin op a c => .inr ⟨a,.bin1 (.refl a),by simp only [X.size];omega,fun _=>rfl⟩
 | .ite a c d => .inr ⟨a,.ite1 (.refl a),by simp only [X.size];omega,fun _=>rfl⟩
end Go.Hs
end

section
namespace Go.Hs
open Go.Proofs
set_option maxRecDepth 10000
theorem Im.xs (c:Col) (s:Sl XN):(V.agg [encSl c 6 encXN s]).Im:=by
 refine .agg _ fun x hx=>?_
 rw [List.mem_singleton.1 hx]
 exact Im.enc (fun n y hy=>by
  have:=Im.xn n
  cases this with
  | agg _ h=>exact h y hy) s
theorem Rd.xs {H:Heap} (s:Sl XN):Rd H (.agg [encSl .new 6 encXN s]) (.agg [encSl .old 6 encXN s]):=Rd.im (Im.xs .new s) (by rw [recol_agg,List.map_cons,List.map_nil,recol_xns];rfl)
theorem Rd.xs0 {H:Heap}:Rd H (.agg [.nils]) (.agg [encSl .old 6 encXN .nil]):=Rd.im (Im.xs .new .nil) rfl
theorem lenOk {n:Nat} (h:n<100000):¬ ((n:Int) > IntKind.i64.max):=by rw [show IntKind.i64.max=9223372036854775807 from rfl];omega
end Go.Hs
end

section
namespace Go.Hs
open Go.Proofs
set_option maxRecDepth 10000
theorem Rd.xsG {H:Heap} {o g:Nat} {l:List XN} (hH:H o=grownO g encXN l):Rd H (.agg [Go.Hs.grown o g 6 l]) (.agg [encSl .old 6 encXN (grownS l)]):=by
 refine Cv.agg _ _ rfl fun i h1 h2=>?_
 have h0:i=0:=by simp only [List.length_cons,List.length_nil] at h1;omega
 subst h0
 exact Rd.grown hH encXN_cells (fun n y hy=>by
  have:=Im.xn n
  cases this with
  | agg _ h=>exact h y hy) (fun _=>rfl)
def leafN (op:Int):XN:=⟨op,0,[],-1,-1,-1⟩
theorem kLeaf_spec (G:Nat→V) (hG:GOk G) (op:Int) :
  Spec Tryz.prog G 44 [.int .u8 op] hNone (fun v _=>v=encXN (leafN op)):=by
 refine Spec.of_code' 0 5 [.cell 2 41] Tryz.func44 rfl rfl rfl rfl fun X=>?_
 refine AW.seq_k fun K hK=>AW.region (by kernel_rfl) ?_
 simp -implicitDefEqProofs only[go_sem,seval,↓reduceIte]
 intro g2
 refine hK _ ?_
 clear hK K
 refine AW.seq_k fun K hK=>AW.region (by kernel_rfl) ?_
 simp -implicitDefEqProofs only[go_sem,seval,↓reduceIte]
 refine hK _ ?_
 clear hK K
 refine AW.ret ?_
 simp -implicitDefEqProofs only[go_sem,seval,↓reduceIte]
 refine endK_some ?_
 rfl
theorem kDeep_spec (G:Nat→V) (hE:GExp G) (hGo:∀ g,(G g).Old):Spec Tryz.prog G 47 [] hNone (fun v _=>v = .bool true):=by
 have hG:=hE.ok
 refine Spec.of_code' 0 38 [.tmp 0] Tryz.func47 rfl rfl rfl rfl fun X=>?_
 refine AW.seq_k fun K hK=>AW.region (by kernel_rfl) ?_
 simp -implicitDefEqProofs only[go_sem,seval,↓reduceIte]
 refine hK _ ?_
 clear hK K
 refine AW.seq_k fun K hK=>AW.region (by kernel_rfl) ?_
 simp -implicitDefEqProofs only[go_sem,seval,↓reduceIte]
 refine CallA.pure hG (by kernel_rfl) ?_
 simp -implicitDefEqProofs only[go_sem,seval,↓reduceIte]
 refine (kLeaf_spec G hG 3).mono ?_
 rintro _ _ rfl
 simp -implicitDefEqProofs only[go_sem,seval,↓reduceIte,encXN_K]
 intro g6
 refine hK _ ?_
 clear hK K
 refine AW.seq_k fun K hK=>AW.region (by kernel_rfl) ?_
 simp -implicitDefEqProofs only[go_sem,seval,↓reduceIte]
 refine hK _ ?_
 clear hK K
 refine AW.seq_k fun K1 hK1=>?_
 refine AW.seq_k fun K hK=>AW.region (by kernel_rfl) ?_
 simp -implicitDefEqProofs only[go_sem,seval,↓reduceIte]
 refine hK _ ?_
 clear hK K
 refine AW.block ?_
 refine AW.for 66 (fun k (x:Nat × List XN × List UInt8)=>st [(1,.msl 6 x.1 0 x.2.1.length 6),(2,.str x.2.2),(3,.int .i64 k)] [(6,.cells .new x.1 0 (flat (x.2.1.map encXN)))])
  (fun k x=>x.2.1.length=k+1∧x.2.2.length≤4+4 * k∧∀ n∈x.2.1,n.num≤9223372036854775807) 0 (g6,[leafN 3],[116,114,117,101]) (Nat.zero_le _) ⟨rfl,by show (4:Nat)≤_;omega,by show ∀ n∈[leafN 3],n.num≤9223372036854775807;decide⟩ (Weak.st (by simp -implicitDefEqProofs only[go_sem,seval,↓reduceIte];try rfl) (by simp -implicitDefEqProofs only[go_sem,seval,↓reduceIte];try rfl)) ?_
 rintro k ⟨gx,l,tx⟩ hk ⟨hl,ht,hn⟩ L2 hL2
 simp only at hl ht hn
 have hC:=fun s h=>lExprChecks G hE s h
 have hB:=fun s o t h1 h2=>lExprBack G hE s o t h1 h2
 have hR:=fun t=>lExprReads G hE hGo t
 have hgn:∀ n∈(grownS l).l,n.num≤9223372036854775807:=by rw [grownS_l];exact hn
 have hn0:∀ n∈(Sl.nil:Sl XN).l,n.num≤9223372036854775807:=fun n h=>by cases h
 have hfl:(flat (l.map encXN)).length=l.length * 6:=flat_len (fun x=>encXN_cells x) l
 have htk:(flat (l.map encXN)).take (l.length * 6)=flat (l.map encXN):=by rw [← hfl];exact List.take_length
 refine AW.seq_k fun K3 hK3=>?_
 refine AW.seq_k fun K hK=>AW.region (by kernel_rfl) ?_
 simp -implicitDefEqProofs only[go_sem,seval,↓reduceIte]
 refine hK _ ?_
 clear hK K
 refine AW.condS (by simp -implicitDefEqProofs only[go_sem,seval,↓reduceIte];rfl) (fun h8=>?_) (fun h8=>?_)
 rotate_left
 ·refine AW.exit ?_
  simp -implicitDefEqProofs only[go_sem,seval,↓reduceIte]
  refine hK1 _ ?_
  refine AW.seq_k fun K hK=>AW.region (by kernel_rfl) ?_
  simp -implicitDefEqProofs only[go_sem,seval,↓reduceIte]
  refine hK _ ?_
  clear hK K
  refine AW.ret ?_
  simp -implicitDefEqProofs only[go_sem,seval,↓reduceIte]
  refine endK_some ?_
  rfl
 have hk66:k<66:=by have h8:decide ((k:Int)<66)=true:=h8;simp at h8;omega
 refine AW.skip ?_
 simp -implicitDefEqProofs only[go_sem,seval,↓reduceIte]
 refine hK3 _ ?_
 refine AW.seqJ (fun (x:Nat × List XN × List UInt8)=>st [(1,.msl 6 x.1 0 x.2.1.length 6),(2,.str x.2.2),(3,.int .i64 k)] [(6,.cells .new x.1 0 (flat (x.2.1.map encXN)))]) (fun x=>x.2.1.length=k+1+1∧x.2.2.length≤4+4 * (k+1)∧∀ n∈x.2.1,n.num≤9223372036854775807) (fun K4 hK4=>?_) ?_
 rotate_left
 ·rintro ⟨gy,l',tx'⟩ hh
  refine AW.region (by kernel_rfl) ?_
  simp -implicitDefEqProofs only[go_sem,seval,↓reduceIte]
  refine hL2 _ ⟨hk66,(gy,l',tx'),hh,Weak.st (by simp -implicitDefEqProofs only[go_sem,seval,↓reduceIte];exact congrArg _ (by rw [w64 (by omega) (by omega)];omega)) (by simp -implicitDefEqProofs only[go_sem,seval,↓reduceIte];try rfl)⟩
 refine AW.block ?_
 refine AW.seq_k fun K hK=>AW.region (by kernel_rfl) ?_
 simp -implicitDefEqProofs only[go_sem,seval,↓reduceIte]
 refine hK _ ?_
 clear hK K
 refine AW.seq_k fun K hK=>AW.region (by kernel_rfl) ?_
 simp -implicitDefEqProofs only[go_sem,seval,↓reduceIte,hfl,htk,Nat.le_refl]
 refine app_grown (f:=encXN) (l:=([]:List XN)) (l2:=l) (g:=0) encXN_cells rfl rfl rfl (by simp -implicitDefEqProofs only[go_sem,seval,↓reduceIte];try rfl) (roomOk_of (by omega) (by simp;omega)) fun ga=>?_
 rw [List.nil_append]
 simp -implicitDefEqProofs only[go_sem,seval,↓reduceIte]
 refine hK _ ?_
 clear hK K
 refine AW.seq_k fun K5 hK5=>?_
 refine AW.seq_k fun K hK=>AW.region (by kernel_rfl) ?_
 simp -implicitDefEqProofs only[go_sem,seval,↓reduceIte]
 refine CallA.bor hG [.agg [encSl .old 6 encXN (grownS l)]] (by kernel_rfl) ⟨Rd.xsG (by simp -implicitDefEqProofs only[go_sem,seval,↓reduceIte];try rfl),trivial⟩ ?_
 refine (hC _ hgn).mono ?_
 rintro _ _ rfl
 refine ⟨.bool _,?_⟩
 simp -implicitDefEqProofs only[go_sem,seval,↓reduceIte]
 refine CallA.bor hG [.agg [encSl .old 6 encXN (grownS l)],.agg [encSl .old 6 encXN .nil],.str tx] (by kernel_rfl) ⟨Rd.xsG (by simp -implicitDefEqProofs only[go_sem,seval,↓reduceIte];try rfl),Rd.xs0,Rd.im (.str _) rfl,trivial⟩ ?_
 refine (hB _ _ _ hgn hn0).mono ?_
 rintro _ _ rfl
 refine ⟨.bool _,?_⟩
 simp -implicitDefEqProofs only[go_sem,seval,↓reduceIte]
 refine CallA.bor hG [.str tx] (by kernel_rfl) ⟨Rd.im (.str _) rfl,trivial⟩ ?_
 refine (hR _).mono ?_
 rintro _ _ rfl
 refine ⟨.bool _,?_⟩
 simp -implicitDefEqProofs only[go_sem,seval,↓reduceIte]
 refine hK _ ?_
 clear hK K
 refine AW.condS (by simp -implicitDefEqProofs only[go_sem,seval,↓reduceIte];rfl) (fun h30=>?_) (fun h30=>?_)
 ·cases h30
 refine AW.skip ?_
 simp -implicitDefEqProofs only[go_sem,seval,↓reduceIte]
 refine hK5 _ ?_
 refine AW.seq_k fun K hK=>AW.region (by kernel_rfl) ?_
 simp -implicitDefEqProofs only[go_sem,seval,↓reduceIte]
 intro g34
 refine ⟨roomOk_of (by omega) (by omega),by rw [hfl];omega,by omega,fun g2=>?_⟩
 rw [htk]
 refine hK _ ?_
 clear hK K
 have m1:¬ (((4+tx.length:Nat):Int) > IntKind.i64.max):=lenOk (by omega)
 refine AW.region (by kernel_rfl) ?_
 simp -implicitDefEqProofs only[go_sem,seval,↓reduceIte,m1]
 refine hK4 _ (g2,l++[⟨6,0,[],k,-1,-1⟩],110::111::116::32::tx) ⟨by show (l++[_]).length=_;rw [List.length_append,hl];rfl,by show (tx.length+1+1+1+1)≤_;omega,?_⟩ (Weak.st (by simp -implicitDefEqProofs only[go_sem,seval,↓reduceIte,List.length_append];try rfl) (by simp -implicitDefEqProofs only[go_sem,seval,↓reduceIte];exact congrArg _ (by rw [List.map_append,flat_app];rfl)))
 intro n hm
 rcases List.mem_append.1 hm with q | q
 ·exact hn n q
 ·rw [List.mem_singleton.1 q];show (0:Int)≤_;decide
end Go.Hs
end

section
namespace Go.Hs
open Go.Proofs
set_option maxRecDepth 10000
def rowsT:List UInt8:=[105,102,32,97,32,60,32,49,32,116,104,101,110,32,45,32,98,32,101,108,115,101,32,99,32,42,32,50,32,101,110,100,105,102]
theorem rowsT_ok:(exprP rowsT).1.length=9∧∀ n∈(exprP rowsT).1,n.num≤10:=by decide +kernel
theorem Rd.xsM {H:Heap} {o g n:Nat} {l:List XN} (hH:H o = .cells .new g 0 (flat (l.map encXN))) (hn:n≤l.length):Rd H (.agg [.msl o g 0 n 6]) (.agg [encSl .old 6 encXN (.mk false (l.take n))]):=by
 refine Cv.agg _ _ rfl fun i h1 h2=>?_
 have h0:i=0:=by simp only [List.length_cons,List.length_nil] at h1;omega
 subst h0
 have:=Rd.msl (H:=H) (o:=o) (g:=g) (fz:=0) (c := .new) (off:=0) (n:=n) (m:=6) (f:=encXN) (f':=encXN) (l:=l) hH encXN_cells (fun n y hy=>by
  have:=Im.xn n
  cases this with
  | agg _ h=>exact h y hy) (fun _=>rfl) (by omega)
 rw [Nat.zero_mul,List.drop_zero] at this
 exact this
theorem part_xn {l:List XN} {n:XN}:∀ {i:Nat},l[i]? = some n→((flat (l.map encXN)).drop (i * 6)).take 6=(encXN n).cells:=by
 induction l with
 | nil=>intro i h;simp at h
 | cons x r ih =>
  intro i h
  cases i with
  | zero =>
   simp only [List.getElem?_cons_zero,Option.some.injEq] at h
   subst h
   rfl
  | succ j =>
   have:=ih (i:=j) (by simpa using h)
   rw [List.map_cons,show (j+1) * 6=6+j * 6 by omega,← List.drop_drop]
   exact this
theorem setAt_app (a:List V):∀ (c b:List V) (off:Nat),setAt (a++b) (a.length+off) c=a++setAt b off c
 | [],b,off=>rfl
 | v::r,b,off=>by rw [setAt_cons,setAt_cons,List.set_append,if_neg (by omega),Nat.add_sub_cancel_left,Nat.add_assoc,setAt_app a r]
theorem setAt_xn {l:List XN} {n:XN}:∀ {i:Nat},i<l.length→setAt (flat (l.map encXN)) (i * 6) (encXN n).cells=flat ((l.set i n).map encXN):=by
 induction l with
 | nil=>intro i h;simp at h
 | cons x r ih =>
  intro i h
  cases i with
  | zero=>rfl
  | succ j =>
   have:=ih (i:=j) (by simpa using h)
   rw [List.set_cons_succ,List.map_cons,List.map_cons,show (j+1) * 6=(encXN x).cells.length+j * 6 by rw [encXN_cells];omega]
   exact (setAt_app (encXN x).cells _ (flat (r.map encXN)) _).trans (by rw [this];rfl)
theorem kRows_spec (G:Nat→V) (hE:GExp G):Spec Tryz.prog G 46 [] hNone (fun v _=>v = .bool true):=by
 have hG:=hE.ok
 refine Spec.of_code' 0 91 [.tmp 0] Tryz.func46 rfl rfl rfl rfl fun X=>?_
 have hC:=fun s h=>lExprChecks G hE s h
 refine AW.seq_k fun K hK=>AW.region (by kernel_rfl) ?_
 simp -implicitDefEqProofs only[go_sem,seval,↓reduceIte]
 refine hK _ ?_
 clear hK K
 have hxp:=xParse_spec G hE rowsT (by decide)
 obtain ⟨hl9,hnum⟩:=rowsT_ok
 generalize exprP rowsT=p at hxp hl9 hnum
 obtain ⟨ns,q1,q2⟩:=p
 simp only at hl9 hnum
 have hgs:grownS ns = .mk false ns:=by cases ns with | nil=>cases hl9 | cons=>rfl
 unfold rowsT at hxp
 refine AW.seq_k fun K hK=>AW.region (by kernel_rfl) ?_
 simp -implicitDefEqProofs only[go_sem,seval,↓reduceIte]
 refine CallA.pure hG (by kernel_rfl) ?_
 simp -implicitDefEqProofs only[go_sem,seval,↓reduceIte]
 refine hxp.mono ?_
 rintro _ _ rfl
 simp -implicitDefEqProofs only[go_sem,seval,↓reduceIte,encFr,encXs,recol_xns]
 rw [hgs]
 intro g1
 refine hK _ ?_
 clear hK K
 refine AW.seq_k fun K1 hK1=>?_
 refine AW.seq_k fun K hK=>AW.region (by kernel_rfl) ?_
 simp -implicitDefEqProofs only[go_sem,seval,↓reduceIte]
 refine hK _ ?_
 clear hK K
 refine AW.block ?_
 refine AW.for 9 (fun i (_:Unit)=>st [(1,.ptr 1 g1 0),(4,.int .i64 i)] [(1,.cells .new g1 0 [encSl .new 6 encXN (.mk false ns)])]) (fun _ _=>True) 0 () (Nat.zero_le _) trivial (Weak.st (by simp -implicitDefEqProofs only[go_sem,seval,↓reduceIte];try rfl) (by simp -implicitDefEqProofs only[go_sem,seval,↓reduceIte];try rfl)) ?_
 intro i _ hi _ L2 hL2
 refine AW.seq_k fun K3 hK3=>?_
 have hml:(Sl.mk false ns).l=ns:=rfl
 refine AW.seq_k fun K hK=>AW.region (by kernel_rfl) ?_
 simp -implicitDefEqProofs only[go_sem,seval,↓reduceIte,hml,hl9]
 refine hK _ ?_
 clear hK K
 refine AW.condS (by simp -implicitDefEqProofs only[go_sem,seval,↓reduceIte];rfl) (fun h18=>?_) (fun h18=>?_)
 rotate_left
 ·refine AW.exit ?_
  simp -implicitDefEqProofs only[go_sem,seval,↓reduceIte]
  refine hK1 _ ?_
  refine AW.seq_k fun K hK=>AW.region (by kernel_rfl) ?_
  simp -implicitDefEqProofs only[go_sem,seval,↓reduceIte]
  refine CallA.bor hG [.agg [encSl .old 6 encXN .nil]] (by kernel_rfl) ⟨Rd.xs0,trivial⟩ ?_
  refine (hC _ (fun n h=>by cases h)).mono ?_
  rintro _ _ rfl
  refine ⟨.bool _,?_⟩
  simp -implicitDefEqProofs only[go_sem,seval,↓reduceIte]
  refine CallA.bor hG [.agg [encSl .old 6 encXN (.mk false ns)],.agg [encSl .old 6 encXN .nil]] (by kernel_rfl) ⟨Rd.xs _,Rd.xs0,trivial⟩ ?_
  refine (xSame_spec G hG _ _ (.mk false ns) .nil (by rw [hml,hl9];decide)).mono ?_
  have hne:(ns==[])=false:=by cases ns with | nil=>cases hl9 | cons=>rfl
  rintro _ _ rfl
  refine ⟨.bool _,?_⟩
  rw [show ((Sl.mk false ns).l==(Sl.nil:Sl XN).l)=false from hne]
  simp -implicitDefEqProofs only[go_sem,seval,↓reduceIte]
  refine hK _ ?_
  clear hK K
  refine AW.ret ?_
  simp -implicitDefEqProofs only[go_sem,seval,↓reduceIte]
  refine endK_some ?_
  rfl
 have hi9:i<9:=by have h18:decide ((i:Int)<9)=true:=h18;simp at h18;omega
 refine AW.skip ?_
 simp -implicitDefEqProofs only[go_sem,seval,↓reduceIte]
 refine hK3 _ ?_
 refine AW.seqJ (fun (_:Unit)=>st [(1,.ptr 1 g1 0),(4,.int .i64 i)] [(1,.cells .new g1 0 [encSl .new 6 encXN (.mk false ns)])]) (fun _=>True) (fun K4 hK4=>?_) ?_
 rotate_left
 ·intro _ _
  refine AW.region (by kernel_rfl) ?_
  simp -implicitDefEqProofs only[go_sem,seval,↓reduceIte]
  refine hL2 _ ⟨hi9,(),trivial,Weak.st (by simp -implicitDefEqProofs only[go_sem,seval,↓reduceIte];exact congrArg _ (by rw [w64 (by omega) (by omega)];omega)) (by simp -implicitDefEqProofs only[go_sem,seval,↓reduceIte];try rfl)⟩
 have hgi:ns[i]? = some (ns[i]'(by omega)):=List.getElem?_eq_getElem _
 have hni:=hnum _ (List.getElem_mem (l:=ns) (n:=i) (by omega))
 generalize ns[i]'(by omega)=nd at hgi hni
 refine AW.block ?_
 refine AW.seq_k fun K hK=>AW.region (by kernel_rfl) ?_
 simp -implicitDefEqProofs only[go_sem,seval,↓reduceIte]
 refine hK _ ?_
 clear hK K
 refine AW.block ?_
 refine AW.for 11 (fun kk (_:Unit)=>st [(1,.ptr 1 g1 0),(4,.int .i64 i),(5,.int .i64 ((kk:Int)-2))] [(1,.cells .new g1 0 [encSl .new 6 encXN (.mk false ns)])]) (fun _ _=>True) 0 () (Nat.zero_le _) trivial (Weak.st (by simp -implicitDefEqProofs only[go_sem,seval,↓reduceIte];try rfl) (by simp -implicitDefEqProofs only[go_sem,seval,↓reduceIte];try rfl)) ?_
 intro kk _ hkk _ L6 hL6
 refine AW.seq_k fun K7 hK7=>?_
 refine AW.seq_k fun K hK=>AW.region (by kernel_rfl) ?_
 simp -implicitDefEqProofs only[go_sem,seval,↓reduceIte]
 refine hK _ ?_
 clear hK K
 refine AW.condS (by simp -implicitDefEqProofs only[go_sem,seval,↓reduceIte];rfl) (fun h22=>?_) (fun h22=>?_)
 rotate_left
 ·refine AW.exit ?_
  simp -implicitDefEqProofs only[go_sem,seval,↓reduceIte]
  exact hK4 _ () trivial (Weak.st (by simp -implicitDefEqProofs only[go_sem,seval,↓reduceIte];try rfl) (by simp -implicitDefEqProofs only[go_sem,seval,↓reduceIte];try rfl))
 have hkk11:kk<11:=by have h22:decide ((kk:Int)-2<9)=true:=h22;simp at h22;omega
 refine AW.skip ?_
 simp -implicitDefEqProofs only[go_sem,seval,↓reduceIte]
 refine hK7 _ ?_
 refine AW.seqJ (fun (_:Unit)=>st [(1,.ptr 1 g1 0),(4,.int .i64 i),(5,.int .i64 ((kk:Int)-2))] [(1,.cells .new g1 0 [encSl .new 6 encXN (.mk false ns)])]) (fun _=>True) (fun K8 hK8=>?_) ?_
 rotate_left
 ·intro _ _
  refine AW.region (by kernel_rfl) ?_
  simp -implicitDefEqProofs only[go_sem,seval,↓reduceIte]
  refine hL6 _ ⟨hkk11,(),trivial,Weak.st (by simp -implicitDefEqProofs only[go_sem,seval,↓reduceIte];exact congrArg _ (by rw [w64 (by omega) (by omega)];omega)) (by simp -implicitDefEqProofs only[go_sem,seval,↓reduceIte];try rfl)⟩
 refine AW.block ?_
 refine AW.seq_k fun K hK=>AW.region (by kernel_rfl) ?_
 simp -implicitDefEqProofs only[go_sem,seval,↓reduceIte]
 refine hK _ ?_
 clear hK K
 refine AW.block ?_
 refine AW.for 6 (fun f (_:Unit)=>st [(1,.ptr 1 g1 0),(4,.int .i64 i),(5,.int .i64 ((kk:Int)-2)),(6,.int .i64 f)] [(1,.cells .new g1 0 [encSl .new 6 encXN (.mk false ns)])]) (fun _ _=>True) 0 () (Nat.zero_le _) trivial (Weak.st (by simp -implicitDefEqProofs only[go_sem,seval,↓reduceIte];try rfl) (by simp -implicitDefEqProofs only[go_sem,seval,↓reduceIte];try rfl)) ?_
 intro f _ hf _ L10 hL10
 refine AW.seq_k fun K11 hK11=>?_
 refine AW.seq_k fun K hK=>AW.region (by kernel_rfl) ?_
 simp -implicitDefEqProofs only[go_sem,seval,↓reduceIte]
 refine hK _ ?_
 clear hK K
 refine AW.condS (by simp -implicitDefEqProofs only[go_sem,seval,↓reduceIte];rfl) (fun h26=>?_) (fun h26=>?_)
 rotate_left
 ·refine AW.exit ?_
  simp -implicitDefEqProofs only[go_sem,seval,↓reduceIte]
  exact hK8 _ () trivial (Weak.st (by simp -implicitDefEqProofs only[go_sem,seval,↓reduceIte];try rfl) (by simp -implicitDefEqProofs only[go_sem,seval,↓reduceIte];try rfl))
 have hf6:f<6:=by have h26:decide ((f:Int)<6)=true:=h26;simp at h26;omega
 refine AW.skip ?_
 simp -implicitDefEqProofs only[go_sem,seval,↓reduceIte]
 refine hK11 _ ?_
 refine AW.seqJ (fun (_:Unit)=>st [(1,.ptr 1 g1 0),(4,.int .i64 i),(5,.int .i64 ((kk:Int)-2)),(6,.int .i64 f)] [(1,.cells .new g1 0 [encSl .new 6 encXN (.mk false ns)])]) (fun _=>True) (fun K12 hK12=>?_) ?_
 rotate_left
 ·intro _ _
  refine AW.region (by kernel_rfl) ?_
  simp -implicitDefEqProofs only[go_sem,seval,↓reduceIte]
  refine hL10 _ ⟨hf6,(),trivial,Weak.st (by simp -implicitDefEqProofs only[go_sem,seval,↓reduceIte];exact congrArg _ (by rw [w64 (by omega) (by omega)];omega)) (by simp -implicitDefEqProofs only[go_sem,seval,↓reduceIte];try rfl)⟩
 refine AW.block ?_
 refine AW.seq_k fun K hK=>AW.region (by kernel_rfl) ?_
 simp -implicitDefEqProofs only[go_sem,seval,↓reduceIte]
 refine hK _ ?_
 clear hK K
 refine AW.seq_k fun K hK=>AW.region (by kernel_rfl) ?_
 simp -implicitDefEqProofs only[go_sem,seval,↓reduceIte]
 refine app_grown (f:=encXN) (l:=([]:List XN)) (l2:=ns) (g:=0) encXN_cells rfl rfl rfl (by simp -implicitDefEqProofs only[go_sem,seval,↓reduceIte];try rfl) (roomOk_of (by omega) (by simp;omega)) fun ga=>?_
 rw [List.nil_append]
 have hne:ns≠[]:=by intro h;rw [h] at hl9;cases hl9
 rw [grown_ne _ _ _ hne,grownO_ne _ _ hne]
 simp -implicitDefEqProofs only[go_sem,seval,↓reduceIte]
 refine hK _ ?_
 clear hK K
 have hfl:(flat (ns.map encXN)).length=54:=by rw [flat_len (fun x=>encXN_cells x),hl9]
 have hpt:((flat (ns.map encXN)).drop (i * 6)).take 6=[.int .u8 nd.op,.int .i64 nd.num,.str nd.name,.int .i64 nd.a,.int .i64 nd.b,.int .i64 nd.c]:=part_xn hgi
 have hi54:i * 6+6≤54:=by omega
 have hlt:(i:Int)<9:=by omega
 refine AW.seq_k fun K hK=>AW.region (by kernel_rfl) ?_
 simp -implicitDefEqProofs only[go_sem,seval,↓reduceIte,hl9,hlt,hfl,hi54,hpt]
 intro g8
 refine hK _ ?_
 clear hK K
 refine AW.seqJ (fun (n:XN)=>st [(1,.ptr 1 g1 0),(4,.int .i64 i),(5,.int .i64 ((kk:Int)-2)),(6,.int .i64 f),(7,.msl 32 ga 0 9 6),(8,.ptr 8 g8 0)] [(1,.cells .new g1 0 [encSl .new 6 encXN (.mk false ns)]),(32,.cells .new ga 0 (flat (ns.map encXN))),(8,.cells .new g8 0 [.int .u8 n.op,.int .i64 n.num,.str n.name,.int .i64 n.a,.int .i64 n.b,.int .i64 n.c])]) (fun n=>n.num≤9223372036854775807) (fun K13 hK13=>?_) ?_
 ·refine AW.seq_k fun K hK=>AW.region (by kernel_rfl) ?_
  simp -implicitDefEqProofs only[go_sem,seval,↓reduceIte]
  refine hK _ ?_
  clear hK K
  refine AW.block ?_
  have hnd:nd.num≤9223372036854775807:=by omega
  refine AW.seq_k fun K hK=>AW.region (by kernel_rfl) ?_
  simp -implicitDefEqProofs only[go_sem,seval,↓reduceIte]
  refine hK _ ?_
  clear hK K
  refine AW.condS (by simp -implicitDefEqProofs only[go_sem,seval,↓reduceIte];rfl) (fun h45=>?_) (fun h45=>?_)
  ·refine AW.region (by kernel_rfl) ?_
   simp -implicitDefEqProofs only[go_sem,seval,↓reduceIte]
   exact hK13 _ ⟨nd.op,nd.num,nd.name,(kk:Int)-2,nd.b,nd.c⟩ hnd (Weak.st (by simp -implicitDefEqProofs only[go_sem,seval,↓reduceIte];try rfl) (by simp -implicitDefEqProofs only[go_sem,seval,↓reduceIte];try rfl))
  refine AW.seq_k fun K hK=>AW.region (by kernel_rfl) ?_
  simp -implicitDefEqProofs only[go_sem,seval,↓reduceIte]
  refine hK _ ?_
  clear hK K
  refine AW.condS (by simp -implicitDefEqProofs only[go_sem,seval,↓reduceIte];rfl) (fun h49=>?_) (fun h49=>?_)
  ·refine AW.region (by kernel_rfl) ?_
   simp -implicitDefEqProofs only[go_sem,seval,↓reduceIte]
   exact hK13 _ ⟨nd.op,nd.num,nd.name,nd.a,(kk:Int)-2,nd.c⟩ hnd (Weak.st (by simp -implicitDefEqProofs only[go_sem,seval,↓reduceIte];try rfl) (by simp -implicitDefEqProofs only[go_sem,seval,↓reduceIte];try rfl))
  refine AW.seq_k fun K hK=>AW.region (by kernel_rfl) ?_
  simp -implicitDefEqProofs only[go_sem,seval,↓reduceIte]
  refine hK _ ?_
  clear hK K
  refine AW.condS (by simp -implicitDefEqProofs only[go_sem,seval,↓reduceIte];rfl) (fun h53=>?_) (fun h53=>?_)
  ·refine AW.region (by kernel_rfl) ?_
   simp -implicitDefEqProofs only[go_sem,seval,↓reduceIte]
   exact hK13 _ ⟨nd.op,nd.num,nd.name,nd.a,nd.b,(kk:Int)-2⟩ hnd (Weak.st (by simp -implicitDefEqProofs only[go_sem,seval,↓reduceIte];try rfl) (by simp -implicitDefEqProofs only[go_sem,seval,↓reduceIte];try rfl))
  refine AW.seq_k fun K hK=>AW.region (by kernel_rfl) ?_
  simp -implicitDefEqProofs only[go_sem,seval,↓reduceIte]
  refine hK _ ?_
  clear hK K
  refine AW.condS (by simp -implicitDefEqProofs only[go_sem,seval,↓reduceIte];rfl) (fun h57=>?_) (fun h57=>?_)
  ·refine AW.region (by kernel_rfl) ?_
   simp -implicitDefEqProofs only[go_sem,seval,↓reduceIte]
   exact hK13 _ ⟨IntKind.u8.wrap (IntKind.i64.wrap ((kk:Int)-2+2)),nd.num,nd.name,nd.a,nd.b,nd.c⟩ hnd (Weak.st (by simp -implicitDefEqProofs only[go_sem,seval,↓reduceIte];try rfl) (by simp -implicitDefEqProofs only[go_sem,seval,↓reduceIte];try rfl))
  refine AW.seq_k fun K hK=>AW.region (by kernel_rfl) ?_
  simp -implicitDefEqProofs only[go_sem,seval,↓reduceIte]
  refine hK _ ?_
  clear hK K
  refine AW.condS (by simp -implicitDefEqProofs only[go_sem,seval,↓reduceIte];rfl) (fun h63=>?_) (fun h63=>?_)
  ·refine AW.region (by kernel_rfl) ?_
   simp -implicitDefEqProofs only[go_sem,seval,↓reduceIte]
   exact hK13 _ ⟨nd.op,(kk:Int)-2,nd.name,nd.a,nd.b,nd.c⟩ (by show (kk:Int)-2≤_;omega) (Weak.st (by simp -implicitDefEqProofs only[go_sem,seval,↓reduceIte];try rfl) (by simp -implicitDefEqProofs only[go_sem,seval,↓reduceIte];try rfl))
  have hw2:IntKind.i64.wrap ((kk:Int)-2+2)=(kk:Int):=by rw [w64 (by omega) (by omega)];omega
  have hj:kk % 6<6:=Nat.mod_lt _ (by decide)
  have hm:((kk:Int)).tmod 6=((kk % 6:Nat):Int):=rfl
  generalize kk % 6=j at hj hm
  have hj1:(0:Int)≤(j:Int):=by omega
  have hj2:(j:Int)<6:=by omega
  obtain ⟨nm,hnm⟩:∃ nm,([V.str [],V.str [120],V.str [49],V.str [97,110,100],V.str [97,32,98],V.str [120,49]]:List V)[j]? = some (V.str nm):=by
   match j,hj with
   | 0,_=>exact ⟨_,rfl⟩
   | 1,_=>exact ⟨_,rfl⟩
   | 2,_=>exact ⟨_,rfl⟩
   | 3,_=>exact ⟨_,rfl⟩
   | 4,_=>exact ⟨_,rfl⟩
   | 5,_=>exact ⟨_,rfl⟩
  refine AW.region (by kernel_rfl) ?_
  simp -implicitDefEqProofs only[go_sem,seval,↓reduceIte,hw2,hm,hj1,hj2,and_self,Int.toNat_natCast,Nat.mul_one,hnm]
  intro g38
  trace_state
  exact hK13 _ ⟨nd.op,nd.num,nm,nd.a,nd.b,nd.c⟩ hnd (Weak.st (by simp -implicitDefEqProofs only[go_sem,seval,↓reduceIte];try rfl) (by simp -implicitDefEqProofs only[go_sem,seval,↓reduceIte];try rfl))
 intro n2 hn2
 have hset:setAt (flat (ns.map encXN)) (i * 6) [.int .u8 n2.op,.int .i64 n2.num,.str n2.name,.int .i64 n2.a,.int .i64 n2.b,.int .i64 n2.c]=flat ((ns.set i n2).map encXN):=setAt_xn (l:=ns) (n:=n2) (i:=i) (by omega)
 simp -implicitDefEqProofs only[go_sem,seval,↓reduceIte] at hset
 refine AW.seq_k fun K hK=>AW.region (by kernel_rfl) ?_
 simp -implicitDefEqProofs only[go_sem,seval,↓reduceIte,hfl,hi54,hlt,hset]
 refine hK _ ?_
 clear hK K
 have hsl:(ns.set i n2).length=9:=by rw [List.length_set];exact hl9
 have hsn:∀ m,∀ n∈(Sl.mk false ((ns.set i n2).take m)).l,n.num≤9223372036854775807:=by
  intro m n hn
  rcases List.mem_or_eq_of_mem_set (List.mem_of_mem_take hn) with q | q
  ·have:=hnum n q;omega
  ·rw [q];exact hn2
 generalize ns.set i n2=L at hsl hsn
 have hi9':i≤9:=by omega
 refine AW.seq_k fun K hK=>AW.region (by kernel_rfl) ?_
 simp -implicitDefEqProofs only[go_sem,seval,↓reduceIte,Nat.zero_le,hi9',and_self]
 refine CallA.bor hG [.agg [encSl .old 6 encXN (.mk false (L.take 9))]] (by kernel_rfl) ⟨Rd.xsM (by simp -implicitDefEqProofs only[go_sem,seval,↓reduceIte];try rfl) (by omega),trivial⟩ ?_
 refine (hC _ (hsn 9)).mono ?_
 rintro _ _ rfl
 refine ⟨.bool _,?_⟩
 simp -implicitDefEqProofs only[go_sem,seval,↓reduceIte,Nat.zero_le,hi9',and_self]
 refine CallA.bor hG [.agg [encSl .old 6 encXN (.mk false (L.take i))]] (by kernel_rfl) ⟨Rd.xsM (by simp -implicitDefEqProofs only[go_sem,seval,↓reduceIte];try rfl) (by omega),trivial⟩ ?_
 refine (hC _ (hsn i)).mono ?_
 rintro _ _ rfl
 refine ⟨.bool _,?_⟩
 simp -implicitDefEqProofs only[go_sem,seval,↓reduceIte]
 refine hK _ ?_
 clear hK K
 refine AW.condS (by simp -implicitDefEqProofs only[go_sem,seval,↓reduceIte];rfl) (fun h82=>?_) (fun h82=>?_)
 ·cases h82
 refine AW.skip ?_
 simp -implicitDefEqProofs only[go_sem,seval,↓reduceIte]
 exact hK12 _ () trivial (Weak.st (by simp -implicitDefEqProofs only[go_sem,seval,↓reduceIte];try rfl) (by simp -implicitDefEqProofs only[go_sem,seval,↓reduceIte];try rfl))
end Go.Hs
end

section
namespace Go.Hs
open Go.Proofs
set_option maxRecDepth 10000
def knT:List (List UInt8):=[[49,32,43,32,50,32,42,32,120],[40,49,43,50,41,42,120],[97,32,45,32,40,98,32,45,32,99,41,32,45,32,100],[45,32,45,32,49],[110,111,116,32,40,97,32,97,110,100,32,98,41,32,111,114,32,110,111,116,32,110,111,116,32,99],[105,102,32,97,32,60,32,49,32,116,104,101,110,32,40,50,41,32,101,108,115,101,32,105,102,32,98,32,116,104,101,110,32,99,32,101,108,115,101,32,51,32,101,110,100,105,102,32,101,110,100,105,102,32,42,32,52],[97,32,61,32,98,32,60,62,32,99],[120,32,105,109,112,108,105,101,115,32,121,32,120,111,114,32,122,32,111,114,32,117,32,97,110,100,32,118,32,61,32,119],[45,40,45,120,41,32,100,105,118,32,40,121,32,109,111,100,32,51,41],[48,48,48,55],[57,57,57,57,57,57,57,57,57,57,57,57,57,57,57,57,57,57,57,57],[97,32,98],[49,32,43],[40,40,40,40,40,40,40,40,40,40,49,41,41,41,41,41,41,41,41,41,41],[40,41],[105,102,32,116,104,101,110],[97,32,58,61,32,98],[101,109,105,116],[57,50,50,51,51,55,50,48,51,54,56,53,52,55,55,53,56,48,55,32,43,32,57,50,50,51,51,55,50,48,51,54,56,53,52,55,55,53,56,48,56]]
theorem knT_len:∀ a∈knT,a.length≤100:=by decide +kernel
theorem wu8K {z:Int} (h:0≤z) (h2:z<256):IntKind.u8.wrap z=z:=wu8R h h2
theorem part_tk {l:List Tk} {t:Tk}:∀ {i:Nat},l[i]? = some t→(flat (l.map encTk))[i * 3]? = some (.int .u8 t.kind):=by
 induction l with
 | nil=>intro i h;simp at h
 | cons x r ih =>
  intro i h
  cases i with
  | zero =>
   simp only [List.getElem?_cons_zero,Option.some.injEq] at h
   subst h
   rfl
  | succ j =>
   have:=ih (i:=j) (by simpa using h)
   rw [List.map_cons,show (j+1) * 3=(j * 3)+1+1+1 by omega]
   exact this
theorem set_tk {z:Int} {l:List Tk} {t:Tk}:∀ {i:Nat},l[i]? = some t→(flat (l.map encTk)).set (i * 3) (.int .u8 z)=flat ((l.set i ⟨z,t.text,t.pos⟩).map encTk):=by
 induction l with
 | nil=>intro i h;simp at h
 | cons x r ih =>
  intro i h
  cases i with
  | zero =>
   simp only [List.getElem?_cons_zero,Option.some.injEq] at h
   subst h
   rfl
  | succ j =>
   have:=ih (i:=j) (by simpa using h)
   rw [List.map_cons,List.set_cons_succ,List.map_cons,show (j+1) * 3=(j * 3)+1+1+1 by omega]
   show (encTk x).cells++(flat (r.map encTk)).set (j * 3) _=_
   rw [this]
   rfl
theorem Im.tk (t:Tk):∀ y∈(encTk t).cells,y.Im:=by
 intro y hy
 rw [encTk_K] at hy
 simp only [V.cells,List.mem_cons,List.not_mem_nil,or_false] at hy
 rcases hy with rfl | rfl | rfl
 ·exact .int _ _
 ·exact .str _
 ·exact .int _ _
theorem Rd.tks {H:Heap} (s:Sl Tk):Rd H (encSl .new 3 encTk s) (encSl .old 3 encTk s):=Rd.im (Im.enc Im.tk s) (by rw [recol_tks];rfl)
theorem Rd.tkM {H:Heap} {o g n:Nat} {l:List Tk} (hH:H o = .cells .new g 0 (flat (l.map encTk))) (hn:n≤l.length):Rd H (.msl o g 0 n 3) (encSl .old 3 encTk (.mk false (l.take n))):=by
 have:=Rd.msl (H:=H) (o:=o) (g:=g) (fz:=0) (c := .new) (off:=0) (n:=n) (m:=3) (f:=encTk) (f':=encTk) (l:=l) hH encTk_cells Im.tk (fun _=>rfl) (by omega)
 rw [Nat.zero_mul,List.drop_zero] at this
 exact this
def exA (op i:Int):List XN:=[leafN 3,⟨1,7,[],-1,-1,-1⟩,⟨i,0,[],0,1,-1⟩,⟨2,0,[120],-1,-1,-1⟩,⟨op,0,[],2,3,-1⟩]
def exB (op i c:Int):List XN:=[leafN 4,leafN 3,leafN 3,⟨i,0,[],1,2,c⟩,⟨op,0,[],0,3,-1⟩]
def exC (op i:Int):List XN:=[leafN 3,⟨i,0,[],0,-1,-1⟩,⟨op,0,[],1,-1,-1⟩]
def exD (op i:Int):List XN:=[leafN 3,leafN 3,leafN 4,⟨i,0,[],0,1,2⟩,⟨op,0,[],3,-1,-1⟩]
theorem exA_num (op i:Int):∀ n∈exA op i,n.num≤9223372036854775807:=by simp [exA,leafN]
theorem exB_num (op i c:Int):∀ n∈exB op i c,n.num≤9223372036854775807:=by simp [exB,leafN]
theorem exC_num (op i:Int):∀ n∈exC op i,n.num≤9223372036854775807:=by simp [exC,leafN]
theorem exD_num (op i:Int):∀ n∈exD op i,n.num≤9223372036854775807:=by simp [exD,leafN]
theorem lExprKnown (G:Nat→V) (hE:GExp G) (hGo:∀ g,(G g).Old):Spec Tryz.prog G 13 [] hNone (fun v _=>v = .bool true):=by
 have hG:=hE.ok
 refine Spec.of_code' 0 196 [.tmp 0] Tryz.func13 rfl rfl rfl rfl fun X=>?_
 have hC:=fun s h=>lExprChecks G hE s h
 have hB:=fun s o t h1 h2=>lExprBack G hE s o t h1 h2
 have hR:=fun t=>lExprReads G hE hGo t
 have hLe:=fun s h=>lExprLeast G hE s h
 have hFr:=fun s=>lExprFrom G hE s
 refine AW.seq_k fun K hK=>AW.region (by kernel_rfl) ?_
 simp -implicitDefEqProofs only[go_sem,seval,↓reduceIte]
 refine hK _ ?_
 clear hK K
 refine AW.seqJ (fun (_:Unit)=>st [] []) (fun _=>True) (fun K1 hK1=>?_) ?_
 ·refine AW.seq_k fun K hK=>AW.region (by kernel_rfl) ?_
  simp -implicitDefEqProofs only[go_sem,seval,↓reduceIte]
  refine hK _ ?_
  clear hK K
  refine AW.block ?_
  refine AW.for 24 (fun op (_:Unit)=>st [(1,.int .u8 op)] []) (fun _ _=>True) 0 () (Nat.zero_le _) trivial (Weak.st (by simp -implicitDefEqProofs only[go_sem,seval,↓reduceIte];try rfl) (by simp -implicitDefEqProofs only[go_sem,seval,↓reduceIte];try rfl)) ?_
  intro op _ hop _ L2 hL2
  refine AW.seq_k fun K3 hK3=>?_
  refine AW.seq_k fun K hK=>AW.region (by kernel_rfl) ?_
  simp -implicitDefEqProofs only[go_sem,seval,↓reduceIte]
  refine hK _ ?_
  clear hK K
  refine AW.condS (by simp -implicitDefEqProofs only[go_sem,seval,↓reduceIte];rfl) (fun h18=>?_) (fun h18=>?_)
  rotate_left
  ·refine AW.exit ?_
   simp -implicitDefEqProofs only[go_sem,seval,↓reduceIte]
   exact hK1 _ () trivial (Weak.st (by simp -implicitDefEqProofs only[go_sem,seval,↓reduceIte];try rfl) (by simp -implicitDefEqProofs only[go_sem,seval,↓reduceIte];try rfl))
  have hop1:op<24:=by have h18:decide ((op:Int)<24)=true:=h18;simp at h18;omega
  refine AW.skip ?_
  simp -implicitDefEqProofs only[go_sem,seval,↓reduceIte]
  refine hK3 _ ?_
  refine AW.seqJ (fun (_:Unit)=>st [(1,.int .u8 op)] []) (fun _=>True) (fun K4 hK4=>?_) ?_
  rotate_left
  ·intro _ _
   refine AW.region (by kernel_rfl) ?_
   simp -implicitDefEqProofs only[go_sem,seval,↓reduceIte]
   refine hL2 _ ⟨hop1,(),trivial,Weak.st (by simp -implicitDefEqProofs only[go_sem,seval,↓reduceIte];exact congrArg _ (by rw [wu8K (by omega) (by omega)];omega)) (by simp -implicitDefEqProofs only[go_sem,seval,↓reduceIte];try rfl)⟩
  refine AW.block ?_
  refine AW.seq_k fun K hK=>AW.region (by kernel_rfl) ?_
  simp -implicitDefEqProofs only[go_sem,seval,↓reduceIte]
  refine hK _ ?_
  clear hK K
  refine AW.block ?_
  refine AW.for 23 (fun i (_:Unit)=>st [(1,.int .u8 op),(2,.int .u8 i)] []) (fun _ _=>True) 5 () (by decide) trivial (Weak.st (by simp -implicitDefEqProofs only[go_sem,seval,↓reduceIte];try rfl) (by simp -implicitDefEqProofs only[go_sem,seval,↓reduceIte];try rfl)) ?_
  intro i _ hi _ L6 hL6
  refine AW.seq_k fun K7 hK7=>?_
  refine AW.seq_k fun K hK=>AW.region (by kernel_rfl) ?_
  simp -implicitDefEqProofs only[go_sem,seval,↓reduceIte]
  refine hK _ ?_
  clear hK K
  refine AW.condS (by simp -implicitDefEqProofs only[go_sem,seval,↓reduceIte];rfl) (fun h22=>?_) (fun h22=>?_)
  rotate_left
  ·refine AW.exit ?_
   simp -implicitDefEqProofs only[go_sem,seval,↓reduceIte]
   exact hK4 _ () trivial (Weak.st (by simp -implicitDefEqProofs only[go_sem,seval,↓reduceIte];try rfl) (by simp -implicitDefEqProofs only[go_sem,seval,↓reduceIte];try rfl))
  have hi1:i<23:=by have h22:decide ((i:Int)<23)=true:=h22;simp at h22;omega
  refine AW.skip ?_
  simp -implicitDefEqProofs only[go_sem,seval,↓reduceIte]
  refine hK7 _ ?_
  refine AW.seqJ (fun (_:Unit)=>st [(1,.int .u8 op),(2,.int .u8 i)] []) (fun _=>True) (fun K8 hK8=>?_) ?_
  rotate_left
  ·intro _ _
   refine AW.region (by kernel_rfl) ?_
   simp -implicitDefEqProofs only[go_sem,seval,↓reduceIte]
   refine hL6 _ ⟨hi1,(),trivial,Weak.st (by simp -implicitDefEqProofs only[go_sem,seval,↓reduceIte];exact congrArg _ (by rw [wu8K (by omega) (by omega)];omega)) (by simp -implicitDefEqProofs only[go_sem,seval,↓reduceIte];try rfl)⟩
  refine AW.block ?_
  refine AW.seq_k fun K hK=>AW.region (by kernel_rfl) ?_
  simp -implicitDefEqProofs only[go_sem,seval,↓reduceIte]
  refine CallA.pure hG (by kernel_rfl) ?_
  simp -implicitDefEqProofs only[go_sem,seval,↓reduceIte]
  refine (kLeaf_spec G hG _).mono ?_
  rintro _ _ rfl
  simp -implicitDefEqProofs only[go_sem,seval,↓reduceIte,encXN_K]
  intro g32
  refine hK _ ?_
  clear hK K
  refine AW.seq_k fun K hK=>AW.region (by kernel_rfl) ?_
  simp -implicitDefEqProofs only[go_sem,seval,↓reduceIte]
  refine CallA.pure hG (by kernel_rfl) ?_
  simp -implicitDefEqProofs only[go_sem,seval,↓reduceIte]
  refine (kLeaf_spec G hG _).mono ?_
  rintro _ _ rfl
  simp -implicitDefEqProofs only[go_sem,seval,↓reduceIte,encXN_K]
  refine CallA.pure hG (by kernel_rfl) ?_
  simp -implicitDefEqProofs only[go_sem,seval,↓reduceIte]
  refine (kLeaf_spec G hG _).mono ?_
  rintro _ _ rfl
  simp -implicitDefEqProofs only[go_sem,seval,↓reduceIte,encXN_K]
  refine CallA.pure hG (by kernel_rfl) ?_
  simp -implicitDefEqProofs only[go_sem,seval,↓reduceIte]
  refine (kLeaf_spec G hG _).mono ?_
  rintro _ _ rfl
  simp -implicitDefEqProofs only[go_sem,seval,↓reduceIte,encXN_K]
  intro g40
  refine hK _ ?_
  clear hK K
  refine AW.seq_k fun K hK=>AW.region (by kernel_rfl) ?_
  simp -implicitDefEqProofs only[go_sem,seval,↓reduceIte]
  refine CallA.pure hG (by kernel_rfl) ?_
  simp -implicitDefEqProofs only[go_sem,seval,↓reduceIte]
  refine (kLeaf_spec G hG _).mono ?_
  rintro _ _ rfl
  simp -implicitDefEqProofs only[go_sem,seval,↓reduceIte,encXN_K]
  intro g46
  refine hK _ ?_
  clear hK K
  refine AW.seqJ (fun (x:List XN × List XN × List XN)=>st [(1,.int .u8 op),(2,.int .u8 i),(3,encSl .new 6 encXN (.mk false x.1)),(4,encSl .new 6 encXN (.mk false x.2.1)),(5,encSl .new 6 encXN (.mk false x.2.2))] []) (fun x=>(∀ n∈x.1,n.num≤9223372036854775807)∧(∀ n∈x.2.1,n.num≤9223372036854775807)∧∀ n∈x.2.2,n.num≤9223372036854775807) (fun K9 hK9=>?_) ?_
  ·refine AW.seq_k fun K hK=>AW.region (by kernel_rfl) ?_
   simp -implicitDefEqProofs only[go_sem,seval,↓reduceIte]
   refine hK _ ?_
   clear hK K
   refine AW.condS (by simp -implicitDefEqProofs only[go_sem,seval,↓reduceIte];rfl) (fun h48=>?_) (fun h48=>?_)
   ·refine AW.seq_k fun K hK=>AW.region (by kernel_rfl) ?_
    simp -implicitDefEqProofs only[go_sem,seval,↓reduceIte]
    refine hK _ ?_
    clear hK K
    refine AW.region (by kernel_rfl) ?_
    simp -implicitDefEqProofs only[go_sem,seval,↓reduceIte]
    refine CallA.pure hG (by kernel_rfl) ?_
    simp -implicitDefEqProofs only[go_sem,seval,↓reduceIte]
    refine (kLeaf_spec G hG _).mono ?_
    rintro _ _ rfl
    simp -implicitDefEqProofs only[go_sem,seval,↓reduceIte,encXN_K]
    refine CallA.pure hG (by kernel_rfl) ?_
    simp -implicitDefEqProofs only[go_sem,seval,↓reduceIte]
    refine (kLeaf_spec G hG _).mono ?_
    rintro _ _ rfl
    simp -implicitDefEqProofs only[go_sem,seval,↓reduceIte,encXN_K]
    refine CallA.pure hG (by kernel_rfl) ?_
    simp -implicitDefEqProofs only[go_sem,seval,↓reduceIte]
    refine (kLeaf_spec G hG _).mono ?_
    rintro _ _ rfl
    simp -implicitDefEqProofs only[go_sem,seval,↓reduceIte,encXN_K]
    intro g59
    refine hK9 _ (exA op i,exB op i 1,exD op i) ⟨exA_num _ _,exB_num _ _ _,exD_num _ _⟩ (Weak.stF (fun o=>o==32 || o==40 || o==59) (m:=[]) ?_ trivial)
    simp -implicitDefEqProofs only[go_sem,seval,↓reduceIte]
    exact ⟨Fz.same _,Fz.same _,Fz.sl (f:=encXN) (l:=exA op i) (m:=6) (g:=g32) (fz:=0) (c := .new) rfl (by simp -implicitDefEqProofs only[go_sem,seval,↓reduceIte];try rfl) encXN_cells,Fz.sl (f:=encXN) (l:=exB op i 1) (m:=6) (g:=g40) (fz:=0) (c := .new) rfl (by simp -implicitDefEqProofs only[go_sem,seval,↓reduceIte];try rfl) encXN_cells,Fz.sl (f:=encXN) (l:=exD op i) (m:=6) (g:=g59) (fz:=0) (c := .new) rfl (by simp -implicitDefEqProofs only[go_sem,seval,↓reduceIte];try rfl) encXN_cells⟩
   ·refine AW.skip ?_
    simp -implicitDefEqProofs only[go_sem,seval,↓reduceIte]
    refine hK9 _ (exA op i,exB op i (-1),exC op i) ⟨exA_num _ _,exB_num _ _ _,exC_num _ _⟩ (Weak.stF (fun o=>o==32 || o==40 || o==46) (m:=[]) ?_ trivial)
    simp -implicitDefEqProofs only[go_sem,seval,↓reduceIte]
    exact ⟨Fz.same _,Fz.same _,Fz.sl (f:=encXN) (l:=exA op i) (m:=6) (g:=g32) (fz:=0) (c := .new) rfl (by simp -implicitDefEqProofs only[go_sem,seval,↓reduceIte];try rfl) encXN_cells,Fz.sl (f:=encXN) (l:=exB op i (-1)) (m:=6) (g:=g40) (fz:=0) (c := .new) rfl (by simp -implicitDefEqProofs only[go_sem,seval,↓reduceIte];try rfl) encXN_cells,Fz.sl (f:=encXN) (l:=exC op i) (m:=6) (g:=g46) (fz:=0) (c := .new) rfl (by simp -implicitDefEqProofs only[go_sem,seval,↓reduceIte];try rfl) encXN_cells⟩
  rintro ⟨a,b,c⟩ ⟨ha,hb,hc⟩
  have ha:∀ n∈(Sl.mk false a).l,n.num≤9223372036854775807:=ha
  have hb:∀ n∈(Sl.mk false b).l,n.num≤9223372036854775807:=hb
  have hc:∀ n∈(Sl.mk false c).l,n.num≤9223372036854775807:=hc
  refine AW.seq_k fun K hK=>AW.region (by kernel_rfl) ?_
  simp -implicitDefEqProofs only[go_sem,seval,↓reduceIte]
  intro g6 g7 g8
  refine hK _ ?_
  clear hK K
  refine AW.seq_k fun K hK=>AW.region (by kernel_rfl) ?_
  simp -implicitDefEqProofs only[go_sem,seval,↓reduceIte]
  refine CallA.bor hG [.agg [encSl .old 6 encXN (.mk false a)]] (by kernel_rfl) ⟨Rd.xs _,trivial⟩ ?_
  refine (hC _ ha).mono ?_
  rintro _ _ rfl
  refine ⟨.bool _,?_⟩
  simp -implicitDefEqProofs only[go_sem,seval,↓reduceIte]
  refine CallA.bor hG [.agg [encSl .old 6 encXN (.mk false b)]] (by kernel_rfl) ⟨Rd.xs _,trivial⟩ ?_
  refine (hC _ hb).mono ?_
  rintro _ _ rfl
  refine ⟨.bool _,?_⟩
  simp -implicitDefEqProofs only[go_sem,seval,↓reduceIte]
  refine CallA.bor hG [.agg [encSl .old 6 encXN (.mk false c)]] (by kernel_rfl) ⟨Rd.xs _,trivial⟩ ?_
  refine (hC _ hc).mono ?_
  rintro _ _ rfl
  refine ⟨.bool _,?_⟩
  simp -implicitDefEqProofs only[go_sem,seval,↓reduceIte]
  refine CallA.bor hG [.agg [encSl .old 6 encXN (.mk false a)],.agg [encSl .old 6 encXN (.mk false b)],.str []] (by kernel_rfl) ⟨Rd.xs _,Rd.xs _,Rd.im (.str _) rfl,trivial⟩ ?_
  refine (hB _ _ _ ha hb).mono ?_
  rintro _ _ rfl
  refine ⟨.bool _,?_⟩
  simp -implicitDefEqProofs only[go_sem,seval,↓reduceIte]
  refine CallA.bor hG [.agg [encSl .old 6 encXN (.mk false b)],.agg [encSl .old 6 encXN (.mk false c)],.str []] (by kernel_rfl) ⟨Rd.xs _,Rd.xs _,Rd.im (.str _) rfl,trivial⟩ ?_
  refine (hB _ _ _ hb hc).mono ?_
  rintro _ _ rfl
  refine ⟨.bool _,?_⟩
  simp -implicitDefEqProofs only[go_sem,seval,↓reduceIte]
  refine CallA.bor hG [.agg [encSl .old 6 encXN (.mk false c)],.agg [encSl .old 6 encXN (.mk false a)],.str []] (by kernel_rfl) ⟨Rd.xs _,Rd.xs _,Rd.im (.str _) rfl,trivial⟩ ?_
  refine (hB _ _ _ hc ha).mono ?_
  rintro _ _ rfl
  refine ⟨.bool _,?_⟩
  simp -implicitDefEqProofs only[go_sem,seval,↓reduceIte]
  refine CallA.bor hG [.agg [encSl .old 6 encXN (.mk false a)]] (by kernel_rfl) ⟨Rd.xs _,trivial⟩ ?_
  refine (hLe _ ha).mono ?_
  rintro _ _ rfl
  refine ⟨.bool _,?_⟩
  simp -implicitDefEqProofs only[go_sem,seval,↓reduceIte]
  refine CallA.bor hG [.agg [encSl .old 6 encXN (.mk false b)]] (by kernel_rfl) ⟨Rd.xs _,trivial⟩ ?_
  refine (hLe _ hb).mono ?_
  rintro _ _ rfl
  refine ⟨.bool _,?_⟩
  simp -implicitDefEqProofs only[go_sem,seval,↓reduceIte]
  refine CallA.bor hG [.agg [encSl .old 6 encXN (.mk false c)]] (by kernel_rfl) ⟨Rd.xs _,trivial⟩ ?_
  refine (hLe _ hc).mono ?_
  rintro _ _ rfl
  refine ⟨.bool _,?_⟩
  simp -implicitDefEqProofs only[go_sem,seval,↓reduceIte]
  refine hK _ ?_
  clear hK K
  refine AW.condS (by simp -implicitDefEqProofs only[go_sem,seval,↓reduceIte];rfl) (fun h111=>?_) (fun h111=>?_)
  ·cases h111
  refine AW.skip ?_
  simp -implicitDefEqProofs only[go_sem,seval,↓reduceIte]
  exact hK8 _ () trivial (Weak.st (by simp -implicitDefEqProofs only[go_sem,seval,↓reduceIte];try rfl) (by simp -implicitDefEqProofs only[go_sem,seval,↓reduceIte];try rfl))
 intro _ _
 refine AW.seq_k fun K2 hK2=>?_
 refine AW.seq_k fun K hK=>AW.region (by kernel_rfl) ?_
 simp -implicitDefEqProofs only[go_sem,seval,↓reduceIte]
 intro g112
 refine hK _ ?_
 clear hK K
 refine AW.weak (Weak.stF (fun o=>o==112) (l:=[(112,encSl .new 1 V.str (.mk false knT)),(113,.int .i64 19),(114,.int .i64 0)]) (m:=[]) ?_ trivial) ?_
 ·simp -implicitDefEqProofs only[go_sem,seval,↓reduceIte]
  exact ⟨Fz.sl (f:=V.str) (l:=knT) (m:=1) (g:=g112) (fz:=0) (c := .new) rfl (by simp -implicitDefEqProofs only[go_sem,seval,↓reduceIte];try rfl) (fun _=>rfl),Fz.same _,Fz.same _⟩
 refine AW.block ?_
 refine AW.for 19 (fun j (_:Unit)=>st [(112,encSl .new 1 V.str (.mk false knT)),(113,.int .i64 19),(114,.int .i64 j)] []) (fun _ _=>True) 0 () (Nat.zero_le _) trivial (Weak.st (by simp -implicitDefEqProofs only[go_sem,seval,↓reduceIte];try rfl) (by simp -implicitDefEqProofs only[go_sem,seval,↓reduceIte];try rfl)) ?_
 intro j _ hj _ L4 hL4
 refine AW.seq_k fun K hK=>AW.region (by kernel_rfl) ?_
 simp -implicitDefEqProofs only[go_sem,seval,↓reduceIte]
 refine hK _ ?_
 clear hK K
 refine AW.seq_k fun K5 hK5=>?_
 refine AW.condS (by simp -implicitDefEqProofs only[go_sem,seval,↓reduceIte];rfl) (fun h115=>?_) (fun h115=>?_)
 rotate_left
 ·refine AW.exit ?_
  simp -implicitDefEqProofs only[go_sem,seval,↓reduceIte]
  refine hK2 _ ?_
  refine AW.seq_k fun K hK=>AW.region (by kernel_rfl) ?_
  simp -implicitDefEqProofs only[go_sem,seval,↓reduceIte]
  refine CallA.pure hG (by kernel_rfl) ?_
  simp -implicitDefEqProofs only[go_sem,seval,↓reduceIte,List.map_nil]
  refine (kRows_spec G hE).mono ?_
  rintro _ _ rfl
  simp -implicitDefEqProofs only[go_sem,seval,↓reduceIte]
  refine CallA.pure hG (by kernel_rfl) ?_
  simp -implicitDefEqProofs only[go_sem,seval,↓reduceIte,List.map_nil]
  refine (kDeep_spec G hE hGo).mono ?_
  rintro _ _ rfl
  simp -implicitDefEqProofs only[go_sem,seval,↓reduceIte]
  refine CallA.pure hG (by kernel_rfl) ?_
  simp -implicitDefEqProofs only[go_sem,seval,↓reduceIte,List.map_nil]
  refine (vWorks_spec G hE).mono ?_
  rintro _ _ rfl
  simp -implicitDefEqProofs only[go_sem,seval,↓reduceIte]
  refine hK _ ?_
  clear hK K
  refine AW.ret ?_
  simp -implicitDefEqProofs only[go_sem,seval,↓reduceIte]
  refine endK_some ?_
  rfl
 have hj19:j<knT.length:=by have h115:decide ((j:Int)<19)=true:=h115;simp at h115;show j<19;omega
 have hgj:knT[j]? = some knT[j]:=List.getElem?_eq_getElem hj19
 have hsl:=knT_len _ (List.getElem_mem hj19)
 have hnl:(Sl.mk false knT).l=knT:=rfl
 generalize knT[j]=s at hgj hsl
 have hj2:j<19:=hj19
 refine AW.skip ?_
 simp -implicitDefEqProofs only[go_sem,seval,↓reduceIte]
 refine hK5 _ ?_
 refine AW.seqJ (fun (_:Unit)=>st [(112,encSl .new 1 V.str (.mk false knT)),(113,.int .i64 19),(114,.int .i64 j)] []) (fun _=>True) (fun K6 hK6=>?_) ?_
 rotate_left
 ·intro _ _
  refine AW.region (by kernel_rfl) ?_
  simp -implicitDefEqProofs only[go_sem,seval,↓reduceIte]
  refine hL4 _ ⟨hj2,(),trivial,Weak.st (by simp -implicitDefEqProofs only[go_sem,seval,↓reduceIte];exact congrArg _ (by rw [w64 (by omega) (by omega)];omega)) (by simp -implicitDefEqProofs only[go_sem,seval,↓reduceIte];try rfl)⟩
 refine AW.block ?_
 refine AW.seq_k fun K hK=>AW.region (by kernel_rfl) ?_
 simp -implicitDefEqProofs only[go_sem,seval,↓reduceIte,hnl,hgj]
 refine hK _ ?_
 clear hK K
 refine AW.seqJ (fun (_:Unit)=>st [(112,encSl .new 1 V.str (.mk false knT)),(113,.int .i64 19),(114,.int .i64 j),(10,.str s)] []) (fun _=>True) (fun K7 hK7=>?_) ?_
 ·refine AW.seq_k fun K hK=>AW.region (by kernel_rfl) ?_
  simp -implicitDefEqProofs only[go_sem,seval,↓reduceIte]
  refine hK _ ?_
  clear hK K
  refine AW.block ?_
  refine AW.for (s.length+1) (fun i (_:Unit)=>st [(112,encSl .new 1 V.str (.mk false knT)),(113,.int .i64 19),(114,.int .i64 j),(10,.str s),(11,.int .i64 i)] []) (fun _ _=>True) 0 () (Nat.zero_le _) trivial (Weak.st (by simp -implicitDefEqProofs only[go_sem,seval,↓reduceIte];try rfl) (by simp -implicitDefEqProofs only[go_sem,seval,↓reduceIte];try rfl)) ?_
  intro i _ hi _ L8 hL8
  refine AW.seq_k fun K9 hK9=>?_
  refine AW.seq_k fun K hK=>AW.region (by kernel_rfl) ?_
  simp -implicitDefEqProofs only[go_sem,seval,↓reduceIte]
  refine hK _ ?_
  clear hK K
  refine AW.condS (by simp -implicitDefEqProofs only[go_sem,seval,↓reduceIte];rfl) (fun h121=>?_) (fun h121=>?_)
  rotate_left
  ·refine AW.exit ?_
   simp -implicitDefEqProofs only[go_sem,seval,↓reduceIte]
   exact hK7 _ () trivial (Weak.st (by simp -implicitDefEqProofs only[go_sem,seval,↓reduceIte];try rfl) (by simp -implicitDefEqProofs only[go_sem,seval,↓reduceIte];try rfl))
  have hile:i≤s.length:=by have h121:decide ((i:Int)≤s.length)=true:=h121;simp at h121;omega
  refine AW.skip ?_
  simp -implicitDefEqProofs only[go_sem,seval,↓reduceIte]
  refine hK9 _ ?_
  refine AW.seqJ (fun (_:Unit)=>st [(112,encSl .new 1 V.str (.mk false knT)),(113,.int .i64 19),(114,.int .i64 j),(10,.str s),(11,.int .i64 i)] []) (fun _=>True) (fun K10 hK10=>?_) ?_
  rotate_left
  ·intro _ _
   refine AW.region (by kernel_rfl) ?_
   simp -implicitDefEqProofs only[go_sem,seval,↓reduceIte]
   refine hL8 _ ⟨by omega,(),trivial,Weak.st (by simp -implicitDefEqProofs only[go_sem,seval,↓reduceIte];exact congrArg _ (by rw [w64 (by omega) (by omega)];omega)) (by simp -implicitDefEqProofs only[go_sem,seval,↓reduceIte];try rfl)⟩
  refine AW.block ?_
  have hll:s.length≤s.length:=Nat.le_refl _
  refine AW.seq_k fun K hK=>AW.region (by kernel_rfl) ?_
  simp -implicitDefEqProofs only[go_sem,seval,↓reduceIte,Nat.zero_le,hile,hll,and_self]
  refine CallA.bor hG [.str _] (by kernel_rfl) ⟨Rd.im (.str _) rfl,trivial⟩ ?_
  refine (hR _).mono ?_
  rintro _ _ rfl
  refine ⟨.bool _,?_⟩
  simp -implicitDefEqProofs only[go_sem,seval,↓reduceIte,Nat.zero_le,hile,hll,and_self]
  refine CallA.bor hG [.str _] (by kernel_rfl) ⟨Rd.im (.str _) rfl,trivial⟩ ?_
  refine (hR _).mono ?_
  rintro _ _ rfl
  refine ⟨.bool _,?_⟩
  simp -implicitDefEqProofs only[go_sem,seval,↓reduceIte,Nat.zero_le,hile,hll,and_self]
  refine CallA.bor hG [.agg [encSl .old 6 encXN .nil],.agg [encSl .old 6 encXN .nil],.str _] (by kernel_rfl) ⟨Rd.xs0,Rd.xs0,Rd.im (.str _) rfl,trivial⟩ ?_
  refine (hB _ _ _ (fun n h=>by cases h) (fun n h=>by cases h)).mono ?_
  rintro _ _ rfl
  refine ⟨.bool _,?_⟩
  simp -implicitDefEqProofs only[go_sem,seval,↓reduceIte,Nat.zero_le,hile,hll,and_self]
  refine hK _ ?_
  clear hK K
  refine AW.condS (by simp -implicitDefEqProofs only[go_sem,seval,↓reduceIte];rfl) (fun h144=>?_) (fun h144=>?_)
  ·cases h144
  refine AW.skip ?_
  simp -implicitDefEqProofs only[go_sem,seval,↓reduceIte]
  exact hK10 _ () trivial (Weak.st (by simp -implicitDefEqProofs only[go_sem,seval,↓reduceIte];try rfl) (by simp -implicitDefEqProofs only[go_sem,seval,↓reduceIte];try rfl))
 intro _ _
 have hto:=lTokens_spec G hE s (by omega)
 have htl:=(toks_ok (s:=s) (by omega)).len
 generalize toksP s=p at hto htl
 obtain ⟨l,q1,q2⟩:=p
 simp only at htl
 refine AW.seq_k fun K hK=>AW.region (by kernel_rfl) ?_
 simp -implicitDefEqProofs only[go_sem,seval,↓reduceIte]
 refine CallA.pure hG (by kernel_rfl) ?_
 simp -implicitDefEqProofs only[go_sem,seval,↓reduceIte]
 refine hto.mono ?_
 rintro _ _ rfl
 simp -implicitDefEqProofs only[go_sem,seval,↓reduceIte,encTok,encTks,recol_tks]
 have hS:(grownS l).l=l:=grownS_l l
 generalize grownS l=S at hS
 subst hS
 refine hK _ ?_
 clear hK K
 refine AW.seq_k fun K hK=>AW.region (by kernel_rfl) ?_
 simp -implicitDefEqProofs only[go_sem,seval,↓reduceIte]
 refine hK _ ?_
 clear hK K
 refine AW.block ?_
 refine AW.for S.l.length (fun i (_:Unit)=>st [(112,encSl .new 1 V.str (.mk false knT)),(113,.int .i64 19),(114,.int .i64 j),(12,encSl .new 3 encTk S),(15,.int .i64 i)] []) (fun _ _=>True) 0 () (Nat.zero_le _) trivial (Weak.st (by simp -implicitDefEqProofs only[go_sem,seval,↓reduceIte];try rfl) (by simp -implicitDefEqProofs only[go_sem,seval,↓reduceIte];try rfl)) ?_
 intro i _ hi _ L8 hL8
 refine AW.seq_k fun K9 hK9=>?_
 refine AW.seq_k fun K hK=>AW.region (by kernel_rfl) ?_
 simp -implicitDefEqProofs only[go_sem,seval,↓reduceIte]
 refine hK _ ?_
 clear hK K
 refine AW.condS (by simp -implicitDefEqProofs only[go_sem,seval,↓reduceIte];rfl) (fun h154=>?_) (fun h154=>?_)
 rotate_left
 ·refine AW.exit ?_
  simp -implicitDefEqProofs only[go_sem,seval,↓reduceIte]
  exact hK6 _ () trivial (Weak.st (by simp -implicitDefEqProofs only[go_sem,seval,↓reduceIte];try rfl) (by simp -implicitDefEqProofs only[go_sem,seval,↓reduceIte];try rfl))
 have hil:i<S.l.length:=by simpa using h154
 refine AW.skip ?_
 simp -implicitDefEqProofs only[go_sem,seval,↓reduceIte]
 refine hK9 _ ?_
 refine AW.seqJ (fun (_:Unit)=>st [(112,encSl .new 1 V.str (.mk false knT)),(113,.int .i64 19),(114,.int .i64 j),(12,encSl .new 3 encTk S),(15,.int .i64 i)] []) (fun _=>True) (fun K10 hK10=>?_) ?_
 rotate_left
 ·intro _ _
  refine AW.region (by kernel_rfl) ?_
  simp -implicitDefEqProofs only[go_sem,seval,↓reduceIte]
  refine hL8 _ ⟨hil,(),trivial,Weak.st (by simp -implicitDefEqProofs only[go_sem,seval,↓reduceIte];exact congrArg _ (by rw [w64 (by omega) (by omega)];omega)) (by simp -implicitDefEqProofs only[go_sem,seval,↓reduceIte];try rfl)⟩
 cases S with
 | nil=>cases hil
 | mk cl l =>
 have hml:(Sl.mk cl l).l=l:=rfl
 rw [hml] at hil htl
 have hgi:l[i]? = some l[i]:=List.getElem?_eq_getElem hil
 generalize l[i]=t at hgi
 refine AW.block ?_
 refine AW.seq_k fun K hK=>AW.region (by kernel_rfl) ?_
 simp -implicitDefEqProofs only[go_sem,seval,↓reduceIte]
 refine hK _ ?_
 clear hK K
 refine AW.seq_k fun K hK=>AW.region (by kernel_rfl) ?_
 simp -implicitDefEqProofs only[go_sem,seval,↓reduceIte]
 refine app_grown (f:=encTk) (l:=([]:List Tk)) (l2:=l) (g:=0) encTk_cells rfl rfl rfl (by simp -implicitDefEqProofs only[go_sem,seval,↓reduceIte];try rfl) (roomOk_of (by omega) (by simp;omega)) fun ga=>?_
 rw [List.nil_append]
 have hne:l≠[]:=by intro h;rw [h] at hil;cases hil
 rw [grown_ne _ _ _ hne,grownO_ne _ _ hne]
 simp -implicitDefEqProofs only[go_sem,seval,↓reduceIte]
 refine hK _ ?_
 clear hK K
 have hfl:(flat (l.map encTk)).length=l.length * 3:=flat_len (fun x=>encTk_cells x) l
 have hpt:=part_tk hgi
 have hlt:(i:Int)<l.length:=by omega
 have hil3:i * 3+1≤l.length * 3:=by omega
 have hst:=fun z=>set_tk (z:=z) hgi
 refine AW.seq_k fun K hK=>AW.region (by kernel_rfl) ?_
 simp -implicitDefEqProofs only[go_sem,seval,↓reduceIte,hlt,hfl,hpt,hil3,hst,Nat.zero_le]
 refine hK _ ?_
 clear hK K
 have hL:(l.set i ⟨IntKind.u8.wrap (t.kind.tmod 4+1),t.text,t.pos⟩).length=l.length:=List.length_set
 generalize l.set i ⟨IntKind.u8.wrap (t.kind.tmod 4+1),t.text,t.pos⟩=L at hL
 have hile:i≤l.length:=by omega
 have hll:l.length≤l.length:=Nat.le_refl _
 refine AW.seq_k fun K hK=>AW.region (by kernel_rfl) ?_
 simp -implicitDefEqProofs only[go_sem,seval,↓reduceIte,Nat.zero_le,hile,hll,and_self]
 refine CallA.bor hG [encSl .old 3 encTk _] (by kernel_rfl) ⟨Rd.tks _,trivial⟩ ?_
 refine (hFr _).mono ?_
 rintro _ _ rfl
 refine ⟨.bool _,?_⟩
 simp -implicitDefEqProofs only[go_sem,seval,↓reduceIte,Nat.zero_le,hile,hll,and_self]
 refine CallA.bor hG [encSl .old 3 encTk _] (by kernel_rfl) ⟨Rd.tks _,trivial⟩ ?_
 refine (hFr _).mono ?_
 rintro _ _ rfl
 refine ⟨.bool _,?_⟩
 simp -implicitDefEqProofs only[go_sem,seval,↓reduceIte,Nat.zero_le,hile,hll,and_self]
 refine CallA.bor hG [encSl .old 3 encTk (.mk false (L.take l.length))] (by kernel_rfl) ⟨Rd.tkM (by simp -implicitDefEqProofs only[go_sem,seval,↓reduceIte];try rfl) (by omega),trivial⟩ ?_
 refine (hFr _).mono ?_
 rintro _ _ rfl
 refine ⟨.bool _,?_⟩
 simp -implicitDefEqProofs only[go_sem,seval,↓reduceIte,Nat.zero_le,hile,hll,and_self]
 refine hK _ ?_
 clear hK K
 refine AW.condS (by simp -implicitDefEqProofs only[go_sem,seval,↓reduceIte];rfl) (fun h187=>?_) (fun h187=>?_)
 ·cases h187
 refine AW.skip ?_
 simp -implicitDefEqProofs only[go_sem,seval,↓reduceIte]
 exact hK10 _ () trivial (Weak.st (by simp -implicitDefEqProofs only[go_sem,seval,↓reduceIte];try rfl) (by simp -implicitDefEqProofs only[go_sem,seval,↓reduceIte];try rfl))
end Go.Hs
end

section
namespace Go.Proofs.YtpoiceejhcpnaaaGreatDoor
open Go.RowKit Go.Hs
set_option maxRecDepth 100000
def laidAll:List (String × DataW Unit):=[("math/bits.deBruijn32tab",Rows.laid_math_bits_deBruijn32tab),("math/bits.deBruijn64tab",Rows.laid_math_bits_deBruijn64tab),("internal/strconv.uint64pow10",Rows.laid_internal_strconv_uint64pow10),("unicode/utf8.acceptRanges",Rows.laid_unicode_utf8_acceptRanges),("strconv.ErrRange",Rows.laid_strconv_ErrRange),("strconv.ErrSyntax",Rows.laid_strconv_ErrSyntax),("hopscotch/lex.signs",Rows.laid_hopscotch_lex_signs),("unicode/utf8.first",Rows.laid_unicode_utf8_first)]
noncomputable def low:Nat:=(World.holding Tryz.prog default ⟨#[],#[],[]⟩).heap.size
def b32:List Int:=[0,1,28,2,29,14,24,3,30,22,20,15,25,17,4,8,31,27,13,23,21,19,16,7,26,12,18,6,11,5,10,9]
def b64:List Int:=0::1::56::2::57::49::28::3::61::58::42::50::38::29::17::4::62::47::59::36::45::43::51::22::53::39::33::30::24::18::12::5::63::55::48::27::60::41::37::16::46::35::44::21::52::32::23::11::54::26::40::15::34::20::31::10::25::14::19::9::13::8::7::6::[]
def acR:List Int:=[128,191,160,191,128,159,144,191,128,143]++List.replicate 22 0
def errR:ByteArray:={ data := #[118,97,108,117,101,32,111,117,116,32,111,102,32,114,97,110,103,101] }
def errS:ByteArray:={ data := #[105,110,118,97,108,105,100,32,115,121,110,116,97,120] }
def withCells (cs:Array Value):Obj→Obj
 | .cells _ t frozen => .cells cs t frozen
 | o=>o
noncomputable def laidWorld (os:Os):World :=
 let w0:=World.holding Tryz.prog os ⟨#[.cells #[.string errR] 240,.cells #[.string errS] 240],#[],[]⟩
 { w0 with heap:=(((((((w0.heap.modify 1 (withCells #[.iface 238 (.pointer (some ⟨low,0,none⟩))])).modify 6 (withCells #[.iface 238 (.pointer (some ⟨low+1,0,none⟩))])).modify 3
   (withCells (Lib.pow10Tab.map (Value.int .u64)).toArray)).modify 7 (withCells (b32.map (Value.int .u8)).toArray)).modify 8 (withCells (b64.map (Value.int .u8)).toArray)).modify 5 (withCells (acR.map (Value.int .u8)).toArray)).modify
   0 (withCells (signsL.map fun s=>Value.string ⟨s.toArray⟩).toArray)).modify 4 (withCells (Pinned.utf8FirstZ.map fun (n:Nat)=>Value.int .u8 (n:Int)).toArray) }
theorem laidWorld_met (os:Os) (args:Array Value):laidMet Tryz.prog laidAll ((laidWorld os).forCall (fun _ _=>0) ⟨#[],args,[]⟩).memory :=
 laidMet_of_run' 8 (by kernel_rfl) (by kernel_rfl)
end Go.Proofs.YtpoiceejhcpnaaaGreatDoor
end

section
namespace Go.Proofs.YtpoiceejhcpnaaaGreatDoor
open Go.RowKit Go.Hs
set_option maxRecDepth 100000
theorem laidMet_tail {P:Program} {W:World} {x:String × DataW Unit} {r:List (String × DataW Unit)} (h:laidMet P (x::r) W):laidMet P r W:=by
 obtain ⟨n,d⟩:=x
 obtain ⟨ps,⟨g0,t0,cs0,f0,p0,q0,hg0,ht0,hv0,hd0,hq,e0⟩,hnd,hrows⟩:=h
 subst e0
 exact ⟨q0,hq,(List.nodup_append.1 hnd).2.1,fun b off hm=>hrows b off (List.mem_append.2 (.inr hm))⟩
noncomputable def gE (m:Int):Nat→V:=fun g=>if g=1 then .view .old (.iface 238 (.view .old (.agg []))) else if g=3 then .view .old (.agg (Lib.pow10Tab.map (V.int .u64)))
 else if g=0 then .view .old (.agg (signsL.map V.str)) else if g=2 then .view .old (.int .i64 m) else .top
theorem recolL_ints (f:Col→Col):∀ l:List Int,V.recolL f (l.map (V.int .u64))=l.map (V.int .u64)
 | []=>rfl
 | x::r=>by simp only [List.map_cons,V.recolL];rw [recolL_ints f r];rfl
theorem recolL_strs (f:Col→Col):∀ l:List (List UInt8),V.recolL f (l.map V.str)=l.map V.str
 | []=>rfl
 | x::r=>by simp only [List.map_cons,V.recolL];rw [recolL_strs f r];rfl
theorem gE_ok (m:Int):GExp (gE m) where
 ok:=fun g=>by
  unfold gE
  split
  ·exact ⟨rfl,.view _ _ fun x hx=>by simp [V.cells] at hx;subst hx;exact .iface _ _ (.view _ _ fun x hx=>by simp [V.cells] at hx)⟩
  ·split
   ·refine ⟨by simp only [V.recol,Col.ent,recolL_ints],.view _ _ fun x hx=>?_⟩
    obtain ⟨n,_,rfl⟩:=List.mem_map.1 hx
    exact .int _ _
   ·split
    ·refine ⟨by simp only [V.recol,Col.ent,recolL_strs],.view _ _ fun x hx=>?_⟩
     obtain ⟨n,_,rfl⟩:=List.mem_map.1 hx
     exact .str _
    ·split
     ·exact ⟨rfl,.view _ _ fun x hx=>by simp [V.cells] at hx;subst hx;exact .int _ _⟩
     ·exact ⟨rfl,.top⟩
 er:=⟨_,_,_,rfl⟩
 tab:=⟨_,rfl⟩
 sg:=⟨_,rfl⟩
 ml:=⟨_,m,rfl⟩
theorem gE_old (m:Int) (g:Nat):(gE m g).Old:=by
 unfold gE
 split
 ·exact .view _ fun x hx=>by simp [V.cells] at hx;subst hx;exact .iface _ _ (.view _ fun x hx=>by simp [V.cells] at hx)
 ·split
  ·refine .view _ fun x hx=>?_
   obtain ⟨n,_,rfl⟩:=List.mem_map.1 hx
   exact .int _ _
  ·split
   ·refine .view _ fun x hx=>?_
    obtain ⟨n,_,rfl⟩:=List.mem_map.1 hx
    exact .str _
   ·split
    ·exact .view _ fun x hx=>by simp [V.cells] at hx;subst hx;exact .int _ _
    ·exact .top
theorem gER:Tryz.prog.globalNamed "strconv.ErrRange" = some 1:=by kernel_rfl
theorem gERType:(Tryz.prog.globals[1]?).map (·.type)=some 136:=by kernel_rfl
theorem cells111:Tryz.prog.cellsOf 240=1:=by kernel_rfl
theorem cells9:Tryz.prog.cellsOf 9=1:=by kernel_rfl
theorem star : "*" ++ "errors.errorString" = "*errors.errorString" := by decide
theorem row109 (u:TypeId) (h:Tryz.prog.typeName? 3 u=some "*errors.errorString"):u=238 :=
 typeName_ptr_named (nm := "errors.errorString") (by rw [star];kernel_rfl) (by kernel_rfl) (by decide) u (by rw [star];exact h)
theorem gTab:Tryz.prog.globalNamed "internal/strconv.uint64pow10" = some 3:=by kernel_rfl
theorem gTabType:∃ t n,(Tryz.prog.globals[3]?).map (·.type)=some t∧Tryz.prog.underlying t=some (.array n 182)∧Tryz.prog.cellsOf t=n∧n=20:=by
 refine ⟨(((Tryz.prog.globals[3]?).map (·.type)).getD 0),20,by kernel_rfl,by kernel_rfl,by kernel_rfl,rfl⟩
theorem laid_tab {W:World} (h:laidMet Tryz.prog laidAll W):Lib.TabIs Tryz.prog W "internal/strconv.uint64pow10" .u64 Lib.pow10Tab:=by
 obtain ⟨t,n,h1,h2,h3,rfl⟩:=gTabType
 have e:(Rows.laid_internal_strconv_uint64pow10:DataW Unit)=Lib.tabData .u64 Lib.pow10Tab:=by rfl
 have h4:=laidMet_tail (laidMet_tail h)
 rw [e] at h4
 exact Lib.tabIs_of_head gTab h1 h2 Tryz.underlying182 (by kernel_rfl) h3 h4
theorem laid_err {W:World} (h:laidMet Tryz.prog laidAll W):∃ b off,W.cell? ⟨1,0,none⟩=some (.iface 238 (.pointer (some ⟨b,off,none⟩))):=by
 obtain ⟨a,s,h1,h2,_,_⟩:=laid_sentinel (laidMet_tail (laidMet_tail (laidMet_tail (laidMet_tail h)))) gER gERType Tryz.underlying136 row109 Tryz.underlying238 Tryz.underlying240 rfl rfl Tryz.underlying9 cells111 cells9
 have h0:=World.var?_cell gER h1 0
 have hs:=World.cell?_spot h2
 obtain ⟨b,off,sp⟩:=a
 have hs:sp=none:=hs
 subst hs
 exact ⟨b,off,by simpa using h0⟩
def strData {H:Type} (zs:List (List UInt8)):DataW H := .agg (zs.map fun z => .lit (.string z))
theorem cells_of_strs {H:Type} {enc:TypeId × Value→H} {P:Program} {w:World} {base:Nat} {sp:Nat→Bool} {held:Bool} {fuel:Nat} {t e:TypeId} {n:Nat} {cs:List Value} {zs:List (List UInt8)} {p:List MemPlace}
  (ht:P.underlying t=some (.array n e)) (he:P.underlying e=some .string) (hce:P.cellsOf e=1) (hct:P.cellsOf t=n)
  (h:DataW.trod enc P w base sp held fuel t cs=some (strData zs,p)):cs.length=zs.length∧∀ i (hi:i<zs.length),∃ s:ByteArray,cs[i]? = some (.string s)∧s.data.toList=zs[i]:=by
 cases fuel with
 | zero=>simp [DataW.trod] at h
 | succ fuel =>
  simp only [DataW.trod,ht,hce,hct,Nat.mul_one] at h
  split at h
  ·rename_i hl
   obtain ⟨xs,hm,hx⟩:=Option.map_eq_some_iff.1 h
   have hxs:xs.map (·.1)=zs.map fun z=>(DataW.lit (.string z):DataW H):=by
    have:=congrArg Prod.fst hx
    simpa [strData] using this
   have hxl:xs.length=n:=by simpa using Lib.mapM_length hm
   have hzl:zs.length=n:=by
    have:=congrArg List.length hxs
    simp at this
    omega
   refine ⟨by omega,fun i hi=>?_⟩
   have hin:i<n:=by omega
   obtain ⟨b,hb,hf⟩:=Lib.mapM_at hm i i (by simp [hin])
   obtain ⟨z,hc,rfl,_⟩:=DataW.trod_string he hf
   have h1:cs[i]? = some (.string z):=by
    have:=congrArg (·[0]?) hc
    simpa [List.getElem?_take,List.getElem?_drop] using this
   have h2:(xs.map (·.1))[i]? = some (DataW.lit (.string z.data.toList):DataW H):=by simp [hb]
   rw [hxs,List.getElem?_map,List.getElem?_eq_getElem hi] at h2
   refine ⟨z,h1,?_⟩
   have h3:(DataW.lit (.string zs[i]):DataW H) = .lit (.string z.data.toList):=Option.some.inj h2
   injection h3 with h3
   injection h3 with h3
   exact h3.symm
  ·cases h
theorem gSg:Tryz.prog.globalNamed "hopscotch/lex.signs" = some 0:=by kernel_rfl
theorem gSgType:(Tryz.prog.globals[0]?).map (·.type)=some 148:=by kernel_rfl
theorem laid_signs {W:World} (h:laidMet Tryz.prog laidAll W):∃ cs:Array Value,W.var? Tryz.prog "hopscotch/lex.signs" = some cs∧cs.size=14∧∀ i (hi:i<signsL.length),∃ s:ByteArray,cs[i]? = some (.string s)∧s.data.toList=signsL[i]:=by
 have e:(Rows.laid_hopscotch_lex_signs:DataW Unit)=strData signsL:=by rfl
 have h4:=laidMet_tail (laidMet_tail (laidMet_tail (laidMet_tail (laidMet_tail (laidMet_tail h)))))
 rw [e] at h4
 obtain ⟨ps,⟨g',t',cs,fuel,p,q,hg',ht',hvar,hd,_,_⟩,_⟩:=h4
 obtain rfl:=Option.some.inj (gSg.symm.trans hg')
 obtain rfl:=Option.some.inj (gSgType.symm.trans ht')
 obtain ⟨h1,h2⟩:=cells_of_strs Tryz.underlying148 Tryz.underlying9 cells9 (by kernel_rfl) hd
 refine ⟨_,hvar,(by simpa using h1:cs.size=signsL.length).trans rfl,fun i hi=>?_⟩
 obtain ⟨s,h3,h4⟩:=h2 i hi
 exact ⟨s,by simpa using h3,h4⟩
theorem maxlen_of {W:World} (h:W.ShapedOpen Tryz.prog):∃ m,W.cell? ⟨2,0,none⟩=some (.int .i64 m):=by
 obtain ⟨cs,hh,hs,hr⟩:=h.1 2 #[.int .i64 0] 3 (of_decide_eq_true (by kernel_rfl)) (by kernel_rfl)
 obtain ⟨ts,hts,_,hall⟩:=hr (by kernel_rfl)
 rw [show Tryz.prog.cellTypes Tryz.prog.depth 3=some [3] by kernel_rfl] at hts
 cases hts
 have h1:0<cs.size:=by rw [hs];decide
 obtain ⟨u,hu',hok⟩:=hall 0 cs[0] (by simp [h1])
 have:u=3:=by simpa using hu'.symm
 subst this
 have hcell:W.cell? ⟨2,0,none⟩=some cs[0]:=by simp [World.cell?,hh,h1]
 rw [hcell]
 unfold Cell.ok at hok
 rw [Tryz.underlying3] at hok
 cases hv:cs[0]<;>rw [hv] at hok<;>first | (obtain ⟨rfl,_⟩:=hok;exact ⟨_,rfl⟩) | simp at hok
theorem laid_G {W:World} (h:laidMet Tryz.prog laidAll W) (hS:W.ShapedOpen Tryz.prog):∃ m,∀ g,RelG (Cx.ofW W) g (gE m g):=by
 obtain ⟨m,hml⟩:=maxlen_of hS
 refine ⟨m,fun g=>?_⟩
 unfold gE
 split
 ·rename_i hg
  subst hg
  obtain ⟨b,off,h1⟩:=laid_err h
  refine ⟨?_,trivial⟩
  refine .view .old _ 1 0 (fun _ => .iface 238 (.pointer (some ⟨b,off,none⟩))) (fun i hi=>?_) (fun i hi=>?_)
  ·have:i=0:=by simpa [V.cells] using hi
   subst this
   refine ⟨by show (W.cell? _).isSome=true;rw [h1];rfl,World.block_lt_of_cell? _ _ h1,h1,rfl⟩
  ·have:i=0:=by simpa [V.cells] using hi
   subst this
   exact .iface _ _ _ (.view .old _ b off (fun _ => .nilIface) (fun i hi=>by simp [V.cells] at hi) (fun i hi=>by simp [V.cells] at hi))
 ·split
  ·rename_i hg
   subst hg
   have ht:=laid_tab h
   have hc:∀ i (hi:i<Lib.pow10Tab.length),W.cell? ⟨3,i,none⟩=some (.int .u64 (Lib.pow10Tab.getD i 0)):=fun i hi=>ht.cell gTab i hi
   have hlen:Lib.pow10Tab.length=20:=Lib.pow10Tab_length
   have hlt:3<W.heap.size:=World.block_lt_of_cell? _ _ (hc 0 (by omega))
   have hv:W.var? Tryz.prog "internal/strconv.uint64pow10" = some (Lib.pow10Tab.map fun z=>Value.int .u64 z).toArray:=ht
   refine ⟨?_,?_⟩
   ·refine .view .old _ 3 0 (fun i => .int .u64 (Lib.pow10Tab.getD i 0)) (fun i hi=>?_) (fun i hi=>?_)
    ·have hi:i<Lib.pow10Tab.length:=by simpa [V.cells] using hi
     rw [Nat.zero_add]
     exact ⟨by show (W.cell? _).isSome=true;rw [hc i hi];rfl,hlt,hc i hi,rfl⟩
    ·have hi':i<Lib.pow10Tab.length:=by simpa [V.cells] using hi
     have key:∀ v,v=V.int .u64 (Lib.pow10Tab.getD i 0)→Rel (Cx.ofW W) (Value.int .u64 (Lib.pow10Tab.getD i 0)) v:=fun v e=>by rw [e];exact .int _ _
     exact key _ (by simp [V.cells,List.getD,hi'])
   ·refine ⟨hlt,?_⟩
    unfold World.var? at hv
    rw [gTab] at hv
    have hv:(match W.heap[3]? with | some (Obj.cells cs _ _)=>some cs | _=>none)=some (Lib.pow10Tab.map fun z=>Value.int .u64 z).toArray:=hv
    split at hv
    ·rename_i cs t fr hh
     cases hv
     exact ⟨_,t,fr,hh,by simp⟩
    ·cases hv
  ·split
   ·rename_i hg
    subst hg
    obtain ⟨cs,hv,hsz,hcs⟩:=laid_signs h
    have h0:=fun i=>World.var?_cell gSg hv i
    have hc:∀ i (hi:i<signsL.length),∃ s:ByteArray,W.cell? ⟨0,i,none⟩=some (.string s)∧s.data.toList=signsL[i]:=fun i hi=>by
     obtain ⟨s,h1,h2⟩:=hcs i hi
     exact ⟨s,by rw [h0 i];exact h1,h2⟩
    have hlt:0<W.heap.size:=by
     obtain ⟨s,h1,_⟩:=hc 0 (by decide)
     exact World.block_lt_of_cell? _ _ h1
    refine ⟨?_,?_⟩
    ·refine .view .old _ 0 0 (fun i=>(cs[i]?).getD undef) (fun i hi=>?_) (fun i hi=>?_)
     ·have hi:i<signsL.length:=by simpa [V.cells] using hi
      obtain ⟨s,h1,_⟩:=hcs i hi
      rw [Nat.zero_add,h1]
      have h2:W.cell? ⟨0,i,none⟩=some (.string s):=by rw [h0 i];exact h1
      exact ⟨by show (W.cell? _).isSome=true;rw [h2];rfl,hlt,h2,rfl⟩
     ·have hi':i<signsL.length:=by simpa [V.cells] using hi
      obtain ⟨s,h1,h2⟩:=hcs i hi'
      rw [h1]
      have key:∀ v,v=V.str signsL[i]→Rel (Cx.ofW W) (Value.string s) v:=fun v e=>by rw [e];exact .str _ _ h2
      exact key _ (by simp [V.cells])
    ·refine ⟨hlt,?_⟩
     unfold World.var? at hv
     rw [gSg] at hv
     have hv:(match W.heap[0]? with | some (Obj.cells cs _ _)=>some cs | _=>none)=some cs:=hv
     split at hv
     ·rename_i cs' t fr hh
      cases hv
      exact ⟨_,t,fr,hh,by rw [hsz];rfl⟩
     ·cases hv
   ·split
    ·rename_i hg
     subst hg
     refine ⟨?_,trivial⟩
     refine .view .old _ 2 0 (fun _ => .int .i64 m) (fun i hi=>?_) (fun i hi=>?_)
     ·have:i=0:=by simpa [V.cells] using hi
      subst this
      refine ⟨by show (W.cell? _).isSome=true;rw [hml];rfl,World.block_lt_of_cell? _ _ hml,hml,rfl⟩
     ·have:i=0:=by simpa [V.cells] using hi
      subst this
      exact .int _ _
    ·exact ⟨.top _,trivial⟩
end Go.Proofs.YtpoiceejhcpnaaaGreatDoor
end

section
namespace Go.Proofs.YtpoiceejhcpnaaaGreatDoor
open Go.RowKit Go.Hs Go.ChangeShapes Go.WideShapes Go.ChangeAt
open Go.ChangeMaps (open_string shut_string)
set_option maxRecDepth 100000
theorem reads_str (W:World):Reads Tryz.prog W 9 1 (fun s:List UInt8=>[V.str s]):=by
 refine ⟨by kernel_rfl,fun _=>rfl,fun enc held fuel cs x h=>?_⟩
 obtain ⟨s,rfl,_,_⟩:=DataW.trod_string Tryz.underlying9 h
 exact ⟨s.data.toList,RelC.cons rfl (.str _ _ rfl) RelC.nil⟩
theorem inK_of_wf {k:IntKind} {n:Int} (h:(Lit.int k n).wf=true):InK k n:=by
 simpa [Lit.wf,InK] using h
variable {W:World} {H:Type} {enc:TypeId × Value→H} {b0:Nat} {v:Value} {d:DataW H} {ps:List MemPlace}
theorem own:ownKnob Tryz.prog.godebug=none:=by kernel_rfl
theorem laidOut:laidOutB Tryz.prog=true:=by kernel_rfl
theorem lift_shaped {a:Assume} {C:Checked} {os:Os} {f:FuncId} {fn:Func} {H:Type} {enc:TypeId × Value→H} {s:ChangeSpec} {conds:List PathCond} {apart fresh handsOn again:Bool} {X:World→Array Value→Prop}
  (hX:∀ (w w':World) (args:Array Value),w.heap=w'.heap→X w args→X w' args)
  (ownk:ownKnob C.prog.godebug=none) (started:os.Started) (noInit:C.prog.inits.idxOf? f=none) (hfn:C.prog.funcs[f]? = some fn)
  (witness:∃ (w:World) (tape:Tape) (i:Input),w.os=os∧(w.forCall tape i).Shaped C.prog∧i.vars=[]∧Input.okWide C.prog (w.forCall tape i) .any w.heap.size f i ∧
   ((s.pre enc C.prog fn conds apart (w.forCall tape i).memory i.args∧X (w.forCall tape i).memory i.args)∧sizedMet enc C.prog fn (OpenSpec.ofChange s) apart (w.forCall tape i).memory i.args)∧a.holds C.prog (lone (Frame.enter C.prog f i.args .normal) [] (w.forCall tape i)))
  (contract:∀ (W:World) (base:Nat) (args:Array Value) (ds gs:List (DataW H)) (before:List MemPlace),W.ShapedOpen C.prog →
   (∀ (j:Nat) t v,fn.params[j]? = some t→args[j]? = some v→Value.okWide C.prog W .any base t v) →
   DataW.Whole enc C.prog fn.params.toList s.vars apart W args.toList ds gs before→X W args →
   Calls C.prog f args W fun e W'=>∃ v,e = .returned v∧s.post enc C.prog fn apart fresh handsOn again W args v W') :
  ReturnsInHanded a C os f .any (fun w args=>(s.pre enc C.prog fn conds apart w args∧X w args)∧sizedMet enc C.prog fn (OpenSpec.ofChange s) apart w args) (s.post enc C.prog fn apart fresh handsOn again):=by
 refine returnsInHanded_of_calls ownk started noInit witness ?_
 intro w tape i _ hsh _ hok hpre _
 obtain ⟨_,_,_,fn',hfn',_,_,_,_,hval⟩:=hok
 have e:fn'=fn:=Option.some.inj (hfn'.symm.trans hfn)
 subst e
 obtain ⟨⟨⟨ds,gs,before,hw,_⟩,hx⟩,_⟩:=hpre
 have hw':=DataW.Whole.of_heap (w':=w.forCall tape i) (by rfl) hw
 refine (contract (w.forCall tape i) w.heap.size i.args ds gs before hsh hval hw' (hX _ _ _ (by rfl) hx)).mono fun e W' ⟨v,he,hp⟩=>?_
 subst he
 exact ChangeSpec.post_blind hp
end Go.Proofs.YtpoiceejhcpnaaaGreatDoor
end

section
namespace Go.Proofs.YtpoiceejhcpnaaaGreatDoor
open Go.RowKit Go.Hs Go.ChangeShapes Go.WideShapes Go.ChangeAt
set_option maxRecDepth 100000
abbrev XNb:={ n:XN // InK .i64 n.num }
theorem reads_xnb (W:World):Reads Tryz.prog W 41 6 (fun n:XNb=>(encXN n.1).cells):=by
 refine ⟨by kernel_rfl,fun _=>rfl,fun enc held fuel cs x h=>?_⟩
 obtain ⟨xs,n,_,_,hl,hlen,hf⟩:=DataW.trod_struct Tryz.underlying41 h
 have e43:Tryz.prog.cellsOf 41=6:=by kernel_rfl
 rw [e43] at hl
 have hx:xs.length=6:=hlen
 have rI:Reads Tryz.prog W 2 1 (fun n:{ n:Int // InK .i64 n }=>[V.int .i64 n.1]):=by
  refine ⟨by kernel_rfl,fun _=>rfl,fun enc held fuel cs x h=>?_⟩
  obtain ⟨n,rfl,_,hw⟩:=DataW.trod_int Tryz.underlying2 h
  exact ⟨⟨n,inK_of_wf hw⟩,RelC.cons rfl (.int _ _) RelC.nil⟩
 obtain ⟨op,h0⟩:=Reads.field (Reads.int (W:=W) Tryz.underlying5 (by kernel_rfl)) (i:=0) (hf 0 _ rfl) (by omega)
 obtain ⟨num,h1⟩:=Reads.field rI (i:=1) (hf 1 _ rfl) (by omega)
 obtain ⟨name,h2⟩:=Reads.field (reads_str W) (i:=2) (hf 2 _ rfl) (by omega)
 obtain ⟨a,h3⟩:=Reads.field (Reads.int (W:=W) Tryz.underlying3 (by kernel_rfl)) (i:=3) (hf 3 _ rfl) (by omega)
 obtain ⟨b,h4⟩:=Reads.field (Reads.int (W:=W) Tryz.underlying3 (by kernel_rfl)) (i:=4) (hf 4 _ rfl) (by omega)
 obtain ⟨c,h5⟩:=Reads.field (Reads.int (W:=W) Tryz.underlying3 (by kernel_rfl)) (i:=5) (hf 5 _ rfl) (by omega)
 match cs,hl with
 | [c0,c1,c2,c3,c4,c5],_=>exact ⟨⟨⟨op,num.1,name,a,b,c⟩,num.2⟩,h0.append (h1.append (h2.append (h3.append (h4.append h5))))⟩
theorem reads_xnbs (W:World):Reads Tryz.prog W 22 1 (fun s:Sl XNb=>[encSl .any 6 (fun n:XNb=>encXN n.1) s]) :=
 Reads.slice Tryz.underlying22 (by kernel_rfl) (by decide) (reads_xnb W)
theorem reads_exprb (W:World):Reads Tryz.prog W 24 1 (fun s:Sl XNb=>(V.agg [encSl .any 6 (fun n:XNb=>encXN n.1) s]).cells):=by
 refine ⟨by kernel_rfl,fun _=>rfl,fun enc held fuel cs x h=>?_⟩
 obtain ⟨xs,n,_,_,hl,hlen,hf⟩:=DataW.trod_struct Tryz.underlying24 h
 have e24:Tryz.prog.cellsOf 24=1:=by kernel_rfl
 rw [e24] at hl
 have hx:xs.length=1:=hlen
 obtain ⟨s,h0⟩:=Reads.field (reads_xnbs W) (i:=0) (hf 0 _ rfl) (by omega)
 match cs,hl with
 | [c0],_=>exact ⟨s,h0⟩
def unX:Sl XNb→Sl XN
 | .nil => .nil
 | .mk b l => .mk b (l.map (·.1))
theorem unX_in (s:Sl XNb):∀ n∈(unX s).l,InK .i64 n.num:=by
 cases s with
 | nil=>intro x hx;cases hx
 | mk b l =>
  intro x hx
  obtain ⟨y,_,rfl⟩:=List.mem_map.1 hx
  exact y.2
theorem unX_enc (c:Col) (s:Sl XNb):encSl c 6 (fun n:XNb=>encXN n.1) s=encSl c 6 encXN (unX s):=by
 cases s with
 | nil=>rfl
 | mk b l=>simp only [encSl,unX,List.map_map];rfl
variable {W:World} {H:Type} {enc:TypeId × Value→H} {b0:Nat} {v:Value} {d:DataW H} {ps:List MemPlace}
theorem argE (hv:Value.okWide Tryz.prog W .any b0 24 v) (h:DataW.Trod enc Tryz.prog W 0 (fun _=>true) true 24 v d ps):∃ x:Sl XN,(∀ n∈x.l,InK .i64 n.num)∧Rel (Cx.ofW W) v (.agg [encSl .old 6 encXN x]):=by
 obtain ⟨fuel,h⟩:=h
 obtain ⟨x,hx⟩:=(reads_exprb W).2.2 enc true fuel _ _ h
 have key:Rel (Cx.ofW W) v (.agg [encSl .any 6 encXN (unX x)]):=by
  rw [← unX_enc]
  unfold Value.okWide at hv
  rw [Tryz.underlying24] at hv
  obtain ⟨cs,rfl,_,_⟩:=hv
  have hx':RelC (Cx.ofW W) (Value.agg cs).cells.toList [encSl .any 6 (fun n:XNb=>encXN n.1) x]:=hx
  exact Rel.of_aggC hx'
 have h2:=key.ofW_old
 refine ⟨unX x,unX_in x,?_⟩
 simpa only [go_sem,recol_xns,List.map_cons,List.map_nil] using h2
end Go.Proofs.YtpoiceejhcpnaaaGreatDoor
end
