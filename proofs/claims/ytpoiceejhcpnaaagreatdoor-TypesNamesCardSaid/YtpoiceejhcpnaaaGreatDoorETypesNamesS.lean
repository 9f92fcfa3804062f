/- For every input ETypesNamesS returns true, and its arguments read as before. No condition. -/
/- Part 42 of the proof of a statement of seat YtpoiceejhcpnaaaGreatDoor: HsERedR HsERedR2 HsExprGram HsERedR3 HsERedR4 HsERedR5 HsERedR6 HsETypM3 HsEExpLaid HsEExpLaidG HsEExpArgs HsETypesNamesS. -/
import Derived.Test.YtpoiceejhcpnaaaGreatDoorPart38
import Derived.Test.YtpoiceejhcpnaaaGreatDoorPart41
import Derived.Test.YtpoiceejhcpnaaaGreatDoorPart36
import Derived.Test.YtpoiceejhcpnaaaGreatDoorPart39
import Derived.Test.YtpoiceejhcpnaaaGreatDoorPart29
import Derived.Test.YtpoiceejhcpnaaaGreatDoorPart31
import Derived.Test.YtpoiceejhcpnaaaGreatDoorRows
import Derived.ProofKit
import Derived.OpenShut
import Derived.LaidLaws
import Derived.Stop.LaidErr
import Derived.Lib.LaidTab
import Derived.Handed
import Derived.ChangeMaps5
import Derived.Test.YtpoiceejhcpnaaaGreatDoorTie
import Derived.Test.YtpoiceejhcpnaaaGreatDoorCards
set_option linter.unusedSimpArgs false
set_option linter.unusedVariables false
section
namespace Go.Hs
open Go.Proofs
set_option maxRecDepth 10000
theorem rNext_spec (G : Nat → V) (hG : GOk G) (sl : Sl Tk) (hT : TkOk sl.l) (g : Nat) (r : RS) (hr : r.i < 1000000) : RdS 1012 [] G 115 [] sl g r (.str (nextP sl.l r.i).text) r := by
  intro gx
  refine Spec.of_code' 1000 50 [.tmp 2] Tryz.func115 rfl rfl rfl rfl fun X => ?_
  simp only [sets, rdO_K]
  refine AW.seq_k fun K hK => AW.region (by kernel_rfl) ?_
  simp -implicitDefEqProofs only [go_sem, seval, ↓reduceIte]
  refine hK _ ?_
  clear hK K
  refine AW.seq_k fun K1 hK1 => ?_
  by_cases hi : r.i < sl.l.length
  · have h1 : decide ((r.i : Int) ≥ sl.l.length) = false := by rw [decide_eq_false_iff_not]; omega
    have hg := List.getElem?_eq_getElem hi
    have hm := hT.text _ (List.getElem_mem hi)
    generalize sl.l[r.i] = t at hg hm
    have hP := nextP_some hg
    have p1 : PureC Tryz.prog G 127 [.str t.text] (.int .u8 (isP t.text)) := ⟨by kernel_rfl, by
      simp -implicitDefEqProofs only [go_sem, seval, ↓reduceIte]
      refine (rIs_spec G hG t.text (by omega)).mono ?_
      rintro _ _ rfl
      rfl⟩
    by_cases hk : (isP t.text : Int) = t.kind
    · rw [if_pos hk] at hP
      have e1 : ((isP t.text : Int) != t.kind) = false := by simpa using hk
      refine AW.seq_k fun K hK => AW.regionT ⟨fun i => if i = 22 then .int .u8 (isP t.text) else .top, fun _ => .pure⟩ (by kernel_rfl) hG (by kernel_rfl) (by kernel_rfl) ?_
      simp -implicitDefEqProofs only [go_sem, seval, ↓reduceIte, h1, hg, encTk_K, e1]
      refine ⟨p1, ?_⟩
      refine hK _ ?_
      clear hK K
      refine AW.condS (by simp -implicitDefEqProofs only [go_sem, seval, ↓reduceIte]; rfl) (fun h2 => ?_) (fun h2 => ?_)
      · cases h2
      · refine AW.skip ?_
        simp -implicitDefEqProofs only [go_sem, seval, ↓reduceIte]
        refine hK1 _ ?_
        refine AW.seq_k fun K hK => AW.regionT ⟨fun _ => .top, fun _ => .pure⟩ (by kernel_rfl) hG (by kernel_rfl) (by kernel_rfl) ?_
        simp -implicitDefEqProofs only [go_sem, seval, ↓reduceIte, hg, encTk_K]
        refine hK _ ?_
        clear hK K
        refine AW.ret ?_
        simp -implicitDefEqProofs only [go_sem, seval, ↓reduceIte]
        refine endK_some ?_
        exact ⟨by rw [hP], gx, by simp -implicitDefEqProofs only [go_sem, seval, ↓reduceIte]; try rfl, by simp -implicitDefEqProofs only [go_sem, seval, ↓reduceIte]; try rfl⟩
    · rw [if_neg hk] at hP
      have e1 : ((isP t.text : Int) != t.kind) = true := by simpa using hk
      refine AW.seq_k fun K hK => AW.regionT ⟨fun i => if i = 22 then .int .u8 (isP t.text) else .top, fun _ => .pure⟩ (by kernel_rfl) hG (by kernel_rfl) (by kernel_rfl) ?_
      simp -implicitDefEqProofs only [go_sem, seval, ↓reduceIte, h1, hg, encTk_K, e1]
      refine ⟨p1, ?_⟩
      refine hK _ ?_
      clear hK K
      refine AW.condS (by simp -implicitDefEqProofs only [go_sem, seval, ↓reduceIte]; rfl) (fun h2 => ?_) (fun h2 => ?_)
      · refine AW.seq_k fun K hK => AW.region (by kernel_rfl) ?_
        simp -implicitDefEqProofs only [go_sem, seval, ↓reduceIte]
        refine hK _ ?_
        clear hK K
        refine AW.ret ?_
        simp -implicitDefEqProofs only [go_sem, seval, ↓reduceIte]
        refine endK_some ?_
        exact ⟨by rw [hP], gx, by simp -implicitDefEqProofs only [go_sem, seval, ↓reduceIte]; try rfl, by simp -implicitDefEqProofs only [go_sem, seval, ↓reduceIte]; try rfl⟩
      · cases h2
  · have h1 : decide ((r.i : Int) ≥ sl.l.length) = true := by rw [decide_eq_true_iff]; omega
    have hP := nextP_none (l := sl.l) (i := r.i) (by omega)
    refine AW.seq_k fun K hK => AW.regionT ⟨fun _ => .top, fun _ => .pure⟩ (by kernel_rfl) hG (by kernel_rfl) (by kernel_rfl) ?_
    simp -implicitDefEqProofs only [go_sem, seval, ↓reduceIte, h1]
    refine hK _ ?_
    clear hK K
    refine AW.condS (by simp -implicitDefEqProofs only [go_sem, seval, ↓reduceIte]; rfl) (fun h2 => ?_) (fun h2 => ?_)
    · refine AW.seq_k fun K hK => AW.region (by kernel_rfl) ?_
      simp -implicitDefEqProofs only [go_sem, seval, ↓reduceIte]
      refine hK _ ?_
      clear hK K
      refine AW.ret ?_
      simp -implicitDefEqProofs only [go_sem, seval, ↓reduceIte]
      refine endK_some ?_
      exact ⟨by rw [hP], gx, by simp -implicitDefEqProofs only [go_sem, seval, ↓reduceIte]; try rfl, by simp -implicitDefEqProofs only [go_sem, seval, ↓reduceIte]; try rfl⟩
    · cases h2
theorem rLast_spec (G : Nat → V) (hG : GOk G) (sl : Sl Tk) (g : Nat) (r : RS) (hr : r.nodes.length < 1000000) : RdS 1012 [] G 82 [] sl g r (.int .i64 r.last) r := by
  intro gx
  refine Spec.of_code' 1000 9 [.tmp 2] Tryz.func82 rfl rfl rfl rfl fun X => ?_
  simp only [sets, rdO_K]
  refine AW.seq_k fun K hK => AW.region (by kernel_rfl) ?_
  simp -implicitDefEqProofs only [go_sem, seval, ↓reduceIte]
  refine hK _ ?_
  clear hK K
  refine AW.seq_k fun K hK => AW.region (by kernel_rfl) ?_
  simp -implicitDefEqProofs only [go_sem, seval, ↓reduceIte]
  refine hK _ ?_
  clear hK K
  refine AW.ret ?_
  simp -implicitDefEqProofs only [go_sem, seval, ↓reduceIte]
  refine endK_some ?_
  exact ⟨by rw [w64 (by omega) (by omega)]; rfl, gx, by simp -implicitDefEqProofs only [go_sem, seval, ↓reduceIte]; try rfl, by simp -implicitDefEqProofs only [go_sem, seval, ↓reduceIte]; try rfl⟩
theorem rPutN_spec (G : Nat → V) (hG : GOk G) (sl : Sl Tk) (g : Nat) (r : RS) (hr : r.nodes.length < 1000000) (n : XN) :
    RdS 1012 [] G 83 [encXN n] sl g r (.bool true) (r.put n) := by
  intro gx
  refine Spec.of_code' 1000 15 [.tmp 4] Tryz.func83 rfl rfl rfl rfl fun X => ?_
  simp only [sets, rdO_K, encXN_K]
  refine AW.seq_k fun K hK => AW.region (by kernel_rfl) ?_
  simp -implicitDefEqProofs only [go_sem, seval, ↓reduceIte]
  intro g3
  refine hK _ ?_
  clear hK K
  refine AW.weak (Weak.stF (fun o => o == 1003) (l := [(0, .ptr 8 g 0), (3, .view .new (encXN n))])
    (m := [(8, rdO 1012 [] sl g gx r), (1012, ndO gx r.nodes)]) ?_ ?_) ?_
  · simp -implicitDefEqProofs only [go_sem, seval, ↓reduceIte]
    exact ⟨Fz.same _, Fz.ptr (v := encXN n) (c := .new) (fz := 0) rfl (by simp -implicitDefEqProofs only [go_sem, seval, ↓reduceIte]; try rfl)⟩
  · simp only [allFzO_cons, allFzO_nil, and_true]
    exact ⟨FzO.keep rfl (by simp -implicitDefEqProofs only [go_sem, seval, ↓reduceIte]; try rfl), FzO.keep rfl (by simp -implicitDefEqProofs only [go_sem, seval, ↓reduceIte]; try rfl)⟩
  simp only [encXN_K]
  refine AW.later ?_
  refine AW.seq_k fun K hK => AW.regionT ⟨fun _ => .top, fun _ => .pure⟩ (by kernel_rfl) hG (by kernel_rfl) (by kernel_rfl) ?_
  simp -implicitDefEqProofs only [go_sem, seval, ↓reduceIte, rdO_K]
  intro g11
  refine app_grownC (f := encXN) (l := r.nodes) (l2 := [n]) (g := gx) encXN_cells rfl rfl rfl (by simp -implicitDefEqProofs only [go_sem, seval, ↓reduceIte]; rfl) (roomOk_of (by omega) (by simp; omega)) fun c2 g2 => ?_
  simp -implicitDefEqProofs only [go_sem, seval, ↓reduceIte]
  refine hK _ ?_
  clear hK K
  refine AW.seq_k fun K hK => AW.region (by kernel_rfl) ?_
  simp -implicitDefEqProofs only [go_sem, seval, ↓reduceIte]
  refine hK _ ?_
  clear hK K
  refine AW.ret ?_
  simp -implicitDefEqProofs only [go_sem, seval, ↓reduceIte]
  refine ⟨st [(4, .bool true)] [(8, rdO 1012 [] sl g g2 (r.put n)), (1012, ndO g2 (r.nodes ++ [n]))], Weak.stF (fun _ => false) ?_ ?_, ?_⟩
  · simp -implicitDefEqProofs only [go_sem, seval, ↓reduceIte]
    exact Fz.same _
  · simp only [allFzO_cons, allFzO_nil, and_true]
    exact ⟨FzO.keep rfl (by simp -implicitDefEqProofs only [go_sem, seval, ↓reduceIte]; rfl), FzO.grownC (c := c2) rfl (by simp -implicitDefEqProofs only [go_sem, seval, ↓reduceIte])⟩
  · simp -implicitDefEqProofs only [go_sem, seval, ↓reduceIte]
    exact endK_some ⟨rfl, g2, by simp -implicitDefEqProofs only [go_sem, seval, ↓reduceIte]; rfl, by simp -implicitDefEqProofs only [go_sem, seval, ↓reduceIte]; rfl⟩
theorem rLeaf_spec (G : Nat → V) (hG : GOk G) (sl : Sl Tk) (g : Nat) (r : RS) (hi : r.i < 1000000) (hr : r.nodes.length < 1000000) (op num : Int) (name : List UInt8) (x y z : Int) :
    RdS 1012 [] G 118 [encXN ⟨op, num, name, x, y, z⟩] sl g r (.bool true) (leafP r op num name).2 := by
  intro gx
  refine Spec.of_code' 1000 18 [.tmp 4] Tryz.func118 rfl rfl rfl rfl fun X => ?_
  have hw : IntKind.i64.wrap ((r.i : Int) + 1) = ((r.i + 1 : Nat) : Int) := by rw [w64 (by omega) (by omega)]; omega
  simp only [sets, rdO_K, encXN_K]
  refine AW.seq_k fun K hK => AW.region (by kernel_rfl) ?_
  simp -implicitDefEqProofs only [go_sem, seval, ↓reduceIte]
  intro g3
  refine hK _ ?_
  clear hK K
  refine AW.seq_k fun K hK => AW.region (by kernel_rfl) ?_
  simp -implicitDefEqProofs only [go_sem, seval, ↓reduceIte, hw]
  refine hK _ ?_
  clear hK K
  refine AW.seq_k fun K hK => AW.region (by kernel_rfl) ?_
  simp -implicitDefEqProofs only [go_sem, seval, ↓reduceIte]
  refine hK _ ?_
  clear hK K
  refine AW.seq_k fun K hK => AW.region (by kernel_rfl) ?_
  simp -implicitDefEqProofs only [go_sem, seval, ↓reduceIte]
  refine hK _ ?_
  clear hK K
  refine AW.seq_k fun K hK => AW.region (by kernel_rfl) ?_
  simp -implicitDefEqProofs only [go_sem, seval, ↓reduceIte]
  refine hK _ ?_
  clear hK K
  refine AW.seq_k fun K hK => AW.region (by kernel_rfl) ?_
  simp -implicitDefEqProofs only [go_sem, seval, ↓reduceIte]
  rw [← encXN_K ⟨op, num, name, -1, -1, -1⟩]
  refine RdS.call hG (rPutN_spec G hG sl g r.adv hr ⟨op, num, name, -1, -1, -1⟩) (gx := gx) (by kernel_rfl) (fun F => rfl) (by decide) (by first | rfl | (simp -implicitDefEqProofs only [go_sem, seval, ↓reduceIte, List.map_cons, List.map_nil, encXN_K]; try rfl)) (by first | rfl | (simp -implicitDefEqProofs only [go_sem, seval, ↓reduceIte, List.map_cons, List.map_nil]; try rfl)) (by first | rfl | (simp -implicitDefEqProofs only [go_sem, seval, ↓reduceIte]; try rfl)) (by first | rfl | (simp -implicitDefEqProofs only [go_sem, seval, ↓reduceIte]; try rfl)) fun gx' => ?_
  simp -implicitDefEqProofs only [go_sem, seval, ↓reduceIte, sets]
  refine hK _ ?_
  clear hK K
  refine AW.ret ?_
  simp -implicitDefEqProofs only [go_sem, seval, ↓reduceIte]
  refine endK_some ?_
  exact ⟨rfl, gx', by simp -implicitDefEqProofs only [go_sem, seval, ↓reduceIte]; rfl, by simp -implicitDefEqProofs only [go_sem, seval, ↓reduceIte]; rfl⟩
theorem rEats_spec (G : Nat → V) (hG : GOk G) (sl : Sl Tk) (hT : TkOk sl.l) (g : Nat) (r : RS) (hi : r.i < 1000000) (w : List UInt8) :
    RdS 1012 [] G 116 [.str w] sl g r (.bool (eatR sl.l w r).1) (eatR sl.l w r).2 := by
  intro gx
  refine Spec.of_code' 1000 19 [.tmp 4] Tryz.func116 rfl rfl rfl rfl fun X => ?_
  have hw : IntKind.i64.wrap ((r.i : Int) + 1) = ((r.i + 1 : Nat) : Int) := by rw [w64 (by omega) (by omega)]; omega
  have hP : eatR sl.l w r = if (nextP sl.l r.i).text ≠ w then (false, r.err 80) else (true, r.adv) := rfl
  refine AW.seq_k fun K hK => AW.region (by kernel_rfl) ?_
  simp -implicitDefEqProofs only [go_sem, seval, ↓reduceIte]
  refine hK _ ?_
  clear hK K
  refine AW.seq_k fun K1 hK1 => ?_
  refine AW.seq_k fun K hK => AW.region (by kernel_rfl) ?_
  simp -implicitDefEqProofs only [go_sem, seval, ↓reduceIte]
  refine RdS.call hG (rNext_spec G hG sl hT g r hi) (gx := gx) (by kernel_rfl) (fun F => rfl) (by decide) (by first | rfl | (simp -implicitDefEqProofs only [go_sem, seval, ↓reduceIte, List.map_cons, List.map_nil, encXN_K]; try rfl)) (by first | rfl | (simp -implicitDefEqProofs only [go_sem, seval, ↓reduceIte, List.map_cons, List.map_nil]; try rfl)) (by first | rfl | (simp -implicitDefEqProofs only [go_sem, seval, ↓reduceIte]; try rfl)) (by first | rfl | (simp -implicitDefEqProofs only [go_sem, seval, ↓reduceIte]; try rfl)) fun gx' => ?_
  simp -implicitDefEqProofs only [go_sem, seval, ↓reduceIte, sets]
  refine hK _ ?_
  clear hK K
  generalize nextP sl.l r.i = t at hP ⊢
  by_cases ht : t.text = w
  · rw [if_neg (by simpa using ht)] at hP
    refine AW.condS (by simp -implicitDefEqProofs only [go_sem, seval, ↓reduceIte]; rfl) (fun h2 => ?_) (fun h2 => ?_)
    · rw [ht] at h2; simp at h2
    · refine AW.skip ?_
      simp -implicitDefEqProofs only [go_sem, seval, ↓reduceIte]
      refine hK1 _ ?_
      refine AW.seq_k fun K hK => AW.region (by kernel_rfl) ?_
      simp -implicitDefEqProofs only [go_sem, seval, ↓reduceIte, rdO_K, hw]
      refine hK _ ?_
      clear hK K
      refine AW.seq_k fun K hK => AW.region (by kernel_rfl) ?_
      simp -implicitDefEqProofs only [go_sem, seval, ↓reduceIte]
      refine hK _ ?_
      clear hK K
      refine AW.ret ?_
      simp -implicitDefEqProofs only [go_sem, seval, ↓reduceIte]
      refine endK_some ?_
      rw [hP]
      exact ⟨rfl, gx', by simp -implicitDefEqProofs only [go_sem, seval, ↓reduceIte]; rfl, by simp -implicitDefEqProofs only [go_sem, seval, ↓reduceIte]; rfl⟩
  · rw [if_pos ht] at hP
    refine AW.condS (by simp -implicitDefEqProofs only [go_sem, seval, ↓reduceIte]; rfl) (fun h2 => ?_) (fun h2 => ?_)
    · refine AW.seq_k fun K hK => AW.region (by kernel_rfl) ?_
      simp -implicitDefEqProofs only [go_sem, seval, ↓reduceIte, rdO_K]
      refine hK _ ?_
      clear hK K
      refine AW.seq_k fun K hK => AW.region (by kernel_rfl) ?_
      simp -implicitDefEqProofs only [go_sem, seval, ↓reduceIte]
      refine hK _ ?_
      clear hK K
      refine AW.ret ?_
      simp -implicitDefEqProofs only [go_sem, seval, ↓reduceIte]
      refine endK_some ?_
      rw [hP]
      exact ⟨rfl, gx', by simp -implicitDefEqProofs only [go_sem, seval, ↓reduceIte]; rfl, by simp -implicitDefEqProofs only [go_sem, seval, ↓reduceIte]; rfl⟩
    · have h2 : t.text = w := by simpa using h2
      exact absurd h2 ht
theorem trimR_len : ∀ t : List UInt8, (trimR t).length ≤ t.length
  | [] => Nat.le_refl _
  | [c] => Nat.le_refl _
  | c :: d :: r => by
    rw [trimR]
    split
    · have := trimR_len (d :: r)
      simp only [List.length_cons] at this ⊢; omega
    · exact Nat.le_refl _
theorem u8_eq48 (c : UInt8) : ((c.toNat : Int) == 48) = (c == 48) := by
  have := u8_all (fun c => ((c.toNat : Int) == 48) == (c == 48)) (by decide +kernel) c
  simpa using this
theorem rNumber_spec (G : Nat → V) (hG : GOk G) (sl : Sl Tk) (g : Nat) (r : RS) (hi : r.i < 1000000) (hr : r.nodes.length < 1000000) (t : List UInt8) (ht : t.length < 100000) :
    RdS 1012 [] G 119 [.str t] sl g r (.bool (numberR r t).1) (numberR r t).2 := by
  intro gx
  refine Spec.of_code' 1000 31 [.tmp 4] Tryz.func119 rfl rfl rfl rfl fun X => ?_
  have hP : numberR r t = if (parseR (trimR t)).2 ≠ 0 then (false, r.err 60) else leafP r 1 (parseR (trimR t)).1 [] := rfl
  have hl := trimR_len t
  refine AW.seq_k fun K hK => AW.region (by kernel_rfl) ?_
  simp -implicitDefEqProofs only [go_sem, seval, ↓reduceIte]
  refine hK _ ?_
  clear hK K
  refine AW.seqJ (fun (_ : Unit) => st [(0, .ptr 8 g 0), (1, .str (trimR t))] [(8, rdO 1012 [] sl g gx r), (1012, ndO gx r.nodes)]) (fun _ => True) (fun K1 hK1 => ?_) ?_
  · refine AW.block ?_
    refine AW.while (fun (s : List UInt8) => st [(0, .ptr 8 g 0), (1, .str s)] [(8, rdO 1012 [] sl g gx r), (1012, ndO gx r.nodes)])
      (fun s => trimR s = trimR t ∧ s.length ≤ t.length) (fun s => s.length) t ⟨rfl, Nat.le_refl _⟩ (Weak.st (by simp -implicitDefEqProofs only [go_sem, seval, ↓reduceIte]; try rfl) (by simp -implicitDefEqProofs only [go_sem, seval, ↓reduceIte, sets]; try rfl)) ?_
    rintro s ⟨hs, hsl⟩ L2 hL2
    refine AW.seq_k fun K3 hK3 => ?_
    by_cases hlen : s.length > 1
    rotate_left
    · have h1 : decide ((s.length : Int) > 1) = false := by rw [decide_eq_false_iff_not]; omega
      have he : trimR s = s := by
        match s, hlen with
        | [], _ => rfl
        | [c], _ => rfl
        | c :: d :: r, h => simp at h
      refine AW.seq_k fun K hK => AW.region (by kernel_rfl) ?_
      simp -implicitDefEqProofs only [go_sem, seval, ↓reduceIte, h1]
      refine hK _ ?_
      clear hK K
      refine AW.condS (by simp -implicitDefEqProofs only [go_sem, seval, ↓reduceIte]; rfl) (fun h14 => ?_) (fun h14 => ?_)
      · cases h14
      refine AW.exit ?_
      simp -implicitDefEqProofs only [go_sem, seval, ↓reduceIte]
      exact hK1 _ () trivial (Weak.st (by rw [← hs, he]; simp -implicitDefEqProofs only [go_sem, seval, ↓reduceIte]; try rfl) (by simp -implicitDefEqProofs only [go_sem, seval, ↓reduceIte]; try rfl))
    have h1 : decide ((s.length : Int) > 1) = true := by rw [decide_eq_true_iff]; omega
    obtain ⟨c, d, q, hq⟩ : ∃ c d q, s = c :: d :: q := by
      match s, hlen with
      | c :: d :: q, _ => exact ⟨c, d, q, rfl⟩
    have hg : s[0]? = some c := by rw [hq]; rfl
    have hdr : (s.drop 1).take (s.length - 1) = d :: q := by rw [hq]; simp
    have hT : trimR s = if c = 48 then trimR (d :: q) else s := by rw [hq]; rfl
    have hll : (d :: q).length + 1 = s.length := by rw [hq]; simp
    by_cases hc : c = 48
    · have e1 : (c == 48) = true := by simpa using hc
      rw [if_pos hc] at hT
      refine AW.seq_k fun K hK => AW.region (by kernel_rfl) ?_
      simp -implicitDefEqProofs only [go_sem, seval, ↓reduceIte, h1, hg, u8_eq48, e1]
      refine hK _ ?_
      clear hK K
      refine AW.condS (by simp -implicitDefEqProofs only [go_sem, seval, ↓reduceIte]; rfl) (fun h14 => ?_) (fun h14 => ?_)
      rotate_left
      · cases h14
      refine AW.skip ?_
      simp -implicitDefEqProofs only [go_sem, seval, ↓reduceIte]
      refine hK3 _ ?_
      refine AW.block ?_
      have hb : 1 ≤ s.length := by omega
      refine AW.region (by kernel_rfl) ?_
      simp -implicitDefEqProofs only [go_sem, seval, ↓reduceIte, hb, hdr, Nat.le_refl]
      exact hL2 _ ⟨d :: q, by omega, ⟨by rw [← hT]; exact hs, by omega⟩, Weak.st (by simp -implicitDefEqProofs only [go_sem, seval, ↓reduceIte]; try rfl) (by simp -implicitDefEqProofs only [go_sem, seval, ↓reduceIte]; try rfl)⟩
    · have e1 : (c == 48) = false := by simpa using hc
      rw [if_neg hc] at hT
      refine AW.seq_k fun K hK => AW.region (by kernel_rfl) ?_
      simp -implicitDefEqProofs only [go_sem, seval, ↓reduceIte, h1, hg, u8_eq48, e1]
      refine hK _ ?_
      clear hK K
      refine AW.condS (by simp -implicitDefEqProofs only [go_sem, seval, ↓reduceIte]; rfl) (fun h14 => ?_) (fun h14 => ?_)
      · cases h14
      refine AW.exit ?_
      simp -implicitDefEqProofs only [go_sem, seval, ↓reduceIte]
      exact hK1 _ () trivial (Weak.st (by rw [← hs, hT]; simp -implicitDefEqProofs only [go_sem, seval, ↓reduceIte]; try rfl) (by simp -implicitDefEqProofs only [go_sem, seval, ↓reduceIte]; try rfl))
  intro _ _
  generalize trimR t = s at hP hl ⊢
  refine AW.seq_k fun K hK => AW.region (by kernel_rfl) ?_
  simp -implicitDefEqProofs only [go_sem, seval, ↓reduceIte]
  refine CallA.pure hG (by kernel_rfl) ?_
  simp -implicitDefEqProofs only [go_sem, seval, ↓reduceIte]
  refine (rParse_spec G hG s (by omega)).mono ?_
  rintro _ _ rfl
  generalize parseR s = q at hP ⊢
  obtain ⟨n, e⟩ := q
  simp only at hP
  simp -implicitDefEqProofs only [go_sem, seval, ↓reduceIte, encR]
  refine hK _ ?_
  clear hK K
  refine AW.seq_k fun K3 hK3 => ?_
  by_cases he : e = 0
  · have e1 : (e == 0) = true := by simpa using he
    rw [if_neg (show ¬ e ≠ 0 by simpa using he)] at hP
    refine AW.seq_k fun K hK => AW.region (by kernel_rfl) ?_
    simp -implicitDefEqProofs only [go_sem, seval, ↓reduceIte, bne, e1]
    refine hK _ ?_
    clear hK K
    refine AW.condS (by simp -implicitDefEqProofs only [go_sem, seval, ↓reduceIte]; rfl) (fun h4 => ?_) (fun h4 => ?_)
    · cases h4
    · refine AW.skip ?_
      simp -implicitDefEqProofs only [go_sem, seval, ↓reduceIte]
      refine hK3 _ ?_
      refine AW.seq_k fun K hK => AW.region (by kernel_rfl) ?_
      simp -implicitDefEqProofs only [go_sem, seval, ↓reduceIte]
      rw [← encXN_K ⟨1, n, [], 0, 0, 0⟩]
      refine RdS.call hG (rLeaf_spec G hG sl g r hi hr 1 n [] 0 0 0) (gx := gx) (by kernel_rfl) (fun F => rfl) (by decide) (by first | rfl | (simp -implicitDefEqProofs only [go_sem, seval, ↓reduceIte, List.map_cons, List.map_nil, encXN_K]; try rfl)) (by first | rfl | (simp -implicitDefEqProofs only [go_sem, seval, ↓reduceIte, List.map_cons, List.map_nil]; try rfl)) (by first | rfl | (simp -implicitDefEqProofs only [go_sem, seval, ↓reduceIte]; try rfl)) (by first | rfl | (simp -implicitDefEqProofs only [go_sem, seval, ↓reduceIte]; try rfl)) fun gx' => ?_
      simp -implicitDefEqProofs only [go_sem, seval, ↓reduceIte, sets]
      refine hK _ ?_
      clear hK K
      refine AW.ret ?_
      simp -implicitDefEqProofs only [go_sem, seval, ↓reduceIte]
      refine endK_some ?_
      rw [hP]
      exact ⟨rfl, gx', by simp -implicitDefEqProofs only [go_sem, seval, ↓reduceIte]; try rfl, by simp -implicitDefEqProofs only [go_sem, seval, ↓reduceIte]; try rfl⟩
  · have e1 : (e == 0) = false := by simpa using he
    rw [if_pos he] at hP
    refine AW.seq_k fun K hK => AW.region (by kernel_rfl) ?_
    simp -implicitDefEqProofs only [go_sem, seval, ↓reduceIte, bne, e1]
    refine hK _ ?_
    clear hK K
    refine AW.condS (by simp -implicitDefEqProofs only [go_sem, seval, ↓reduceIte]; rfl) (fun h4 => ?_) (fun h4 => ?_)
    · refine AW.seq_k fun K hK => AW.region (by kernel_rfl) ?_
      simp -implicitDefEqProofs only [go_sem, seval, ↓reduceIte, rdO_K]
      refine hK _ ?_
      clear hK K
      refine AW.seq_k fun K hK => AW.region (by kernel_rfl) ?_
      simp -implicitDefEqProofs only [go_sem, seval, ↓reduceIte]
      refine hK _ ?_
      clear hK K
      refine AW.ret ?_
      simp -implicitDefEqProofs only [go_sem, seval, ↓reduceIte]
      refine endK_some ?_
      rw [hP]
      exact ⟨rfl, gx, by simp -implicitDefEqProofs only [go_sem, seval, ↓reduceIte]; try rfl, by simp -implicitDefEqProofs only [go_sem, seval, ↓reduceIte]; try rfl⟩
    · cases h4
end Go.Hs
end

section
namespace Go.Hs
open Go.Proofs
set_option maxRecDepth 10000
structure InnR (G : Nat → V) (sl : Sl Tk) (g : Nat) (inner : Inner) (i0 : Nat) : Prop where
  lev : ∀ n r, 1 ≤ n → n ≤ 9 → i0 < r.i → RSok sl.l r → RdS 1012 [] G 57 [.int .i64 n] sl g r (.bool (inner n r).1) (inner n r).2
  un : ∀ r, i0 < r.i → RSok sl.l r → RdS 1012 [] G 80 [] sl g r (.bool (inner 9 r).1) (inner 9 r).2
theorem nextP_ln {l : List Tk} (hT : TkOk l) (i : Nat) : (nextP l i).text.length < 100000 := by
  unfold nextP
  split
  · rename_i t h
    split
    · exact hT.text _ (List.mem_of_getElem? h)
    · exact Nat.zero_lt_succ _
  · exact Nat.zero_lt_succ _
theorem eatR_bal (l : List Tk) {w : List UInt8} (hw : isP w ≠ 0) (r : RS) : Bal l 0 r (eatR l w r).2 ∧ ((eatR l w r).1 = true → Bal l 1 r (eatR l w r).2) ∧ ((eatR l w r).1 = true → (eatR l w r).2 = r.adv) := by
  rw [eat_eq l hw]
  refine ⟨(eatP_bal l w r).1, (eatP_bal l w r).2, ?_⟩
  unfold eatP
  split
  · intro h; cases h
  · exact fun _ => rfl
theorem rBranches_spec (G : Nat → V) (hG : GOk G) (sl : Sl Tk) (hT : TkOk sl.l) (g : Nat) (r : RS) (hr : RSok sl.l r) (hlt : r.i < sl.l.length) (inner : Inner) (hin : InnR G sl g inner r.i) (hb : Bals sl.l inner) :
    RdS 1012 [] G 117 [] sl g r (.bool (branchesR sl.l inner r).1) (branchesR sl.l inner r).2 := by
  have hTl := hT.len
  intro gx
  refine Spec.of_code' 1000 47 [.tmp 2] Tryz.func117 rfl rfl rfl rfl fun X => ?_
  have hP : branchesR sl.l inner r = andThen (inner 1 r.adv) fun a => andThen (eatR sl.l wThen a) fun r2 => andThen (inner 1 r2) fun b =>
    andThen (eatR sl.l wElse b) fun r3 => andThen (inner 1 r3) fun c => andThen (eatR sl.l wEndif c) fun r4 => (true, r4.put ⟨22, 0, [], a.last, b.last, c.last⟩) := rfl
  generalize branchesR sl.l inner r = res at hP ⊢
  have had : RSok sl.l r.adv := (Bal.adv hlt).ok hr
  have hw : IntKind.i64.wrap ((r.i : Int) + 1) = ((r.i + 1 : Nat) : Int) := by rw [w64 (by omega) (by omega)]; omega
  have c1 := hin.lev 1 r.adv (by decide) (by decide) (Nat.lt_succ_self _) had
  have b1 := hb 1 r.adv
  generalize inner 1 r.adv = x1 at hP c1 b1
  obtain ⟨t1, a⟩ := x1
  simp only at c1 b1
  have ha := b1.ok had
  have hau : r.i + 1 ≤ a.i := b1.up
  refine AW.seq_k fun K hK => AW.region (by kernel_rfl) ?_
  simp -implicitDefEqProofs only [go_sem, seval, ↓reduceIte]
  refine hK _ ?_
  clear hK K
  refine AW.seq_k fun K hK => AW.region (by kernel_rfl) ?_
  simp -implicitDefEqProofs only [go_sem, seval, ↓reduceIte, rdO_K, hw]
  refine hK _ ?_
  clear hK K
  refine AW.seq_k fun K1 hK1 => ?_
  cases t1 with
  | false =>
    rw [andThen_false] at hP
    refine AW.seq_k fun K hK => AW.region (by kernel_rfl) ?_
    simp -implicitDefEqProofs only [go_sem, seval, ↓reduceIte, rdO_K]
    refine RdS.call hG (c1) (gx := gx) (by kernel_rfl) (fun F => rfl) (by decide) (by first | rfl | (simp -implicitDefEqProofs only [go_sem, seval, ↓reduceIte, List.map_cons, List.map_nil, encXN_K]; try rfl)) (by first | rfl | (simp -implicitDefEqProofs only [go_sem, seval, ↓reduceIte, List.map_cons, List.map_nil]; try rfl)) (by first | rfl | (simp -implicitDefEqProofs only [go_sem, seval, ↓reduceIte]; try rfl)) (by first | rfl | (simp -implicitDefEqProofs only [go_sem, seval, ↓reduceIte]; try rfl)) fun gx1 => ?_
    simp -implicitDefEqProofs only [go_sem, seval, ↓reduceIte, sets]
    refine hK _ ?_
    clear hK K
    refine AW.condS (by simp -implicitDefEqProofs only [go_sem, seval, ↓reduceIte]; rfl) (fun h19 => ?_) (fun h19 => ?_)
    · refine AW.seq_k fun K hK => AW.region (by kernel_rfl) ?_
      simp -implicitDefEqProofs only [go_sem, seval, ↓reduceIte]
      refine hK _ ?_
      clear hK K
      refine AW.ret ?_
      simp -implicitDefEqProofs only [go_sem, seval, ↓reduceIte]
      refine endK_some ?_
      rw [hP]
      exact ⟨rfl, gx1, by first | rfl | (simp -implicitDefEqProofs only [go_sem, seval, ↓reduceIte]; try rfl), by first | rfl | (simp -implicitDefEqProofs only [go_sem, seval, ↓reduceIte]; try rfl)⟩
    · cases h19
  | true =>
  rw [andThen_true] at hP
  have hai : a.i < 1000000 := by have := ha.1; omega
  have han : a.nodes.length < 1000000 := by have := ha.1; have := ha.2; omega
  have c2 := rEats_spec G hG sl hT g a hai wThen
  have b2 := eatR_bal sl.l (w := wThen) (by decide +kernel) a
  generalize eatR sl.l wThen a = x2 at hP c2 b2
  obtain ⟨t2, r2⟩ := x2
  simp only at c2 b2
  cases t2 with
  | false =>
    rw [andThen_false] at hP
    refine AW.seq_k fun K hK => AW.region (by kernel_rfl) ?_
    simp -implicitDefEqProofs only [go_sem, seval, ↓reduceIte, rdO_K]
    refine RdS.call hG (c1) (gx := gx) (by kernel_rfl) (fun F => rfl) (by decide) (by first | rfl | (simp -implicitDefEqProofs only [go_sem, seval, ↓reduceIte, List.map_cons, List.map_nil, encXN_K]; try rfl)) (by first | rfl | (simp -implicitDefEqProofs only [go_sem, seval, ↓reduceIte, List.map_cons, List.map_nil]; try rfl)) (by first | rfl | (simp -implicitDefEqProofs only [go_sem, seval, ↓reduceIte]; try rfl)) (by first | rfl | (simp -implicitDefEqProofs only [go_sem, seval, ↓reduceIte]; try rfl)) fun gx1 => ?_
    simp -implicitDefEqProofs only [go_sem, seval, ↓reduceIte, sets]
    simp -implicitDefEqProofs only [go_sem, seval, ↓reduceIte, rdO_K]
    refine RdS.call hG (c2) (gx := gx1) (by kernel_rfl) (fun F => rfl) (by decide) (by first | rfl | (simp -implicitDefEqProofs only [go_sem, seval, ↓reduceIte, List.map_cons, List.map_nil, encXN_K]; try rfl)) (by first | rfl | (simp -implicitDefEqProofs only [go_sem, seval, ↓reduceIte, List.map_cons, List.map_nil]; try rfl)) (by first | rfl | (simp -implicitDefEqProofs only [go_sem, seval, ↓reduceIte]; try rfl)) (by first | rfl | (simp -implicitDefEqProofs only [go_sem, seval, ↓reduceIte]; try rfl)) fun gx2 => ?_
    simp -implicitDefEqProofs only [go_sem, seval, ↓reduceIte, sets]
    refine hK _ ?_
    clear hK K
    refine AW.condS (by simp -implicitDefEqProofs only [go_sem, seval, ↓reduceIte]; rfl) (fun h19 => ?_) (fun h19 => ?_)
    · refine AW.seq_k fun K hK => AW.region (by kernel_rfl) ?_
      simp -implicitDefEqProofs only [go_sem, seval, ↓reduceIte]
      refine hK _ ?_
      clear hK K
      refine AW.ret ?_
      simp -implicitDefEqProofs only [go_sem, seval, ↓reduceIte]
      refine endK_some ?_
      rw [hP]
      exact ⟨rfl, gx2, by first | rfl | (simp -implicitDefEqProofs only [go_sem, seval, ↓reduceIte]; try rfl), by first | rfl | (simp -implicitDefEqProofs only [go_sem, seval, ↓reduceIte]; try rfl)⟩
    · cases h19
  | true =>
  rw [andThen_true] at hP
  have hr2 := (b2.2.1 rfl).ok ha
  have e2 := b2.2.2 rfl
  have h2n : r2.nodes = a.nodes := by rw [e2]; rfl
  have h2l : r2.last = a.last := by rw [e2]; rfl
  have h2i : r2.i = a.i + 1 := by rw [e2]; rfl
  have c3 := hin.lev 1 r2 (by decide) (by decide) (by omega) hr2
  have b3 := hb 1 r2
  generalize inner 1 r2 = x3 at hP c3 b3
  obtain ⟨t3, b⟩ := x3
  simp only at c3 b3
  have hbo := b3.ok hr2
  have hbu : r2.i ≤ b.i := b3.up
  have hbi : b.i < 1000000 := by have := hbo.1; omega
  have hbn : b.nodes.length < 1000000 := by have := hbo.1; have := hbo.2; omega
  refine AW.seq_k fun K hK => AW.region (by kernel_rfl) ?_
  simp -implicitDefEqProofs only [go_sem, seval, ↓reduceIte, rdO_K]
  refine RdS.call hG (c1) (gx := gx) (by kernel_rfl) (fun F => rfl) (by decide) (by first | rfl | (simp -implicitDefEqProofs only [go_sem, seval, ↓reduceIte, List.map_cons, List.map_nil, encXN_K]; try rfl)) (by first | rfl | (simp -implicitDefEqProofs only [go_sem, seval, ↓reduceIte, List.map_cons, List.map_nil]; try rfl)) (by first | rfl | (simp -implicitDefEqProofs only [go_sem, seval, ↓reduceIte]; try rfl)) (by first | rfl | (simp -implicitDefEqProofs only [go_sem, seval, ↓reduceIte]; try rfl)) fun gx1 => ?_
  simp -implicitDefEqProofs only [go_sem, seval, ↓reduceIte, sets]
  simp -implicitDefEqProofs only [go_sem, seval, ↓reduceIte, rdO_K]
  refine RdS.call hG (c2) (gx := gx1) (by kernel_rfl) (fun F => rfl) (by decide) (by first | rfl | (simp -implicitDefEqProofs only [go_sem, seval, ↓reduceIte, List.map_cons, List.map_nil, encXN_K]; try rfl)) (by first | rfl | (simp -implicitDefEqProofs only [go_sem, seval, ↓reduceIte, List.map_cons, List.map_nil]; try rfl)) (by first | rfl | (simp -implicitDefEqProofs only [go_sem, seval, ↓reduceIte]; try rfl)) (by first | rfl | (simp -implicitDefEqProofs only [go_sem, seval, ↓reduceIte]; try rfl)) fun gx2 => ?_
  simp -implicitDefEqProofs only [go_sem, seval, ↓reduceIte, sets]
  refine hK _ ?_
  clear hK K
  refine AW.condS (by simp -implicitDefEqProofs only [go_sem, seval, ↓reduceIte]; rfl) (fun h19 => ?_) (fun h19 => ?_)
  · cases h19
  refine AW.skip ?_
  simp -implicitDefEqProofs only [go_sem, seval, ↓reduceIte]
  refine hK1 _ ?_
  refine AW.seq_k fun K hK => AW.region (by kernel_rfl) ?_
  simp -implicitDefEqProofs only [go_sem, seval, ↓reduceIte, rdO_K]
  have h2nn : r2.nodes.length < 1000000 := by rw [h2n]; exact han
  refine RdS.call hG (rLast_spec G hG sl g r2 h2nn) (gx := gx2) (by kernel_rfl) (fun F => rfl) (by decide) (by first | rfl | (simp -implicitDefEqProofs only [go_sem, seval, ↓reduceIte, List.map_cons, List.map_nil, encXN_K]; try rfl)) (by first | rfl | (simp -implicitDefEqProofs only [go_sem, seval, ↓reduceIte, List.map_cons, List.map_nil]; try rfl)) (by first | rfl | (simp -implicitDefEqProofs only [go_sem, seval, ↓reduceIte]; try rfl)) (by first | rfl | (simp -implicitDefEqProofs only [go_sem, seval, ↓reduceIte]; try rfl)) fun gx3 => ?_
  simp -implicitDefEqProofs only [go_sem, seval, ↓reduceIte, sets]
  rw [h2l]
  refine hK _ ?_
  clear hK K
  refine AW.seq_k fun K2 hK2 => ?_
  cases t3 with
  | false =>
    rw [andThen_false] at hP
    refine AW.seq_k fun K hK => AW.region (by kernel_rfl) ?_
    simp -implicitDefEqProofs only [go_sem, seval, ↓reduceIte, rdO_K]
    refine RdS.call hG (c3) (gx := gx3) (by kernel_rfl) (fun F => rfl) (by decide) (by first | rfl | (simp -implicitDefEqProofs only [go_sem, seval, ↓reduceIte, List.map_cons, List.map_nil, encXN_K]; try rfl)) (by first | rfl | (simp -implicitDefEqProofs only [go_sem, seval, ↓reduceIte, List.map_cons, List.map_nil]; try rfl)) (by first | rfl | (simp -implicitDefEqProofs only [go_sem, seval, ↓reduceIte]; try rfl)) (by first | rfl | (simp -implicitDefEqProofs only [go_sem, seval, ↓reduceIte]; try rfl)) fun gx4 => ?_
    simp -implicitDefEqProofs only [go_sem, seval, ↓reduceIte, sets]
    refine hK _ ?_
    clear hK K
    refine AW.condS (by simp -implicitDefEqProofs only [go_sem, seval, ↓reduceIte]; rfl) (fun h29 => ?_) (fun h29 => ?_)
    · refine AW.seq_k fun K hK => AW.region (by kernel_rfl) ?_
      simp -implicitDefEqProofs only [go_sem, seval, ↓reduceIte]
      refine hK _ ?_
      clear hK K
      refine AW.ret ?_
      simp -implicitDefEqProofs only [go_sem, seval, ↓reduceIte]
      refine endK_some ?_
      rw [hP]
      exact ⟨rfl, gx4, by first | rfl | (simp -implicitDefEqProofs only [go_sem, seval, ↓reduceIte]; try rfl), by first | rfl | (simp -implicitDefEqProofs only [go_sem, seval, ↓reduceIte]; try rfl)⟩
    · cases h29
  | true =>
  rw [andThen_true] at hP
  have c4 := rEats_spec G hG sl hT g b hbi wElse
  have b4 := eatR_bal sl.l (w := wElse) (by decide +kernel) b
  generalize eatR sl.l wElse b = x4 at hP c4 b4
  obtain ⟨t4, r3⟩ := x4
  simp only at c4 b4
  cases t4 with
  | false =>
    rw [andThen_false] at hP
    refine AW.seq_k fun K hK => AW.region (by kernel_rfl) ?_
    simp -implicitDefEqProofs only [go_sem, seval, ↓reduceIte, rdO_K]
    refine RdS.call hG (c3) (gx := gx3) (by kernel_rfl) (fun F => rfl) (by decide) (by first | rfl | (simp -implicitDefEqProofs only [go_sem, seval, ↓reduceIte, List.map_cons, List.map_nil, encXN_K]; try rfl)) (by first | rfl | (simp -implicitDefEqProofs only [go_sem, seval, ↓reduceIte, List.map_cons, List.map_nil]; try rfl)) (by first | rfl | (simp -implicitDefEqProofs only [go_sem, seval, ↓reduceIte]; try rfl)) (by first | rfl | (simp -implicitDefEqProofs only [go_sem, seval, ↓reduceIte]; try rfl)) fun gx4 => ?_
    simp -implicitDefEqProofs only [go_sem, seval, ↓reduceIte, sets]
    simp -implicitDefEqProofs only [go_sem, seval, ↓reduceIte, rdO_K]
    refine RdS.call hG (c4) (gx := gx4) (by kernel_rfl) (fun F => rfl) (by decide) (by first | rfl | (simp -implicitDefEqProofs only [go_sem, seval, ↓reduceIte, List.map_cons, List.map_nil, encXN_K]; try rfl)) (by first | rfl | (simp -implicitDefEqProofs only [go_sem, seval, ↓reduceIte, List.map_cons, List.map_nil]; try rfl)) (by first | rfl | (simp -implicitDefEqProofs only [go_sem, seval, ↓reduceIte]; try rfl)) (by first | rfl | (simp -implicitDefEqProofs only [go_sem, seval, ↓reduceIte]; try rfl)) fun gx5 => ?_
    simp -implicitDefEqProofs only [go_sem, seval, ↓reduceIte, sets]
    refine hK _ ?_
    clear hK K
    refine AW.condS (by simp -implicitDefEqProofs only [go_sem, seval, ↓reduceIte]; rfl) (fun h29 => ?_) (fun h29 => ?_)
    · refine AW.seq_k fun K hK => AW.region (by kernel_rfl) ?_
      simp -implicitDefEqProofs only [go_sem, seval, ↓reduceIte]
      refine hK _ ?_
      clear hK K
      refine AW.ret ?_
      simp -implicitDefEqProofs only [go_sem, seval, ↓reduceIte]
      refine endK_some ?_
      rw [hP]
      exact ⟨rfl, gx5, by first | rfl | (simp -implicitDefEqProofs only [go_sem, seval, ↓reduceIte]; try rfl), by first | rfl | (simp -implicitDefEqProofs only [go_sem, seval, ↓reduceIte]; try rfl)⟩
    · cases h29
  | true =>
  rw [andThen_true] at hP
  have hr3 := (b4.2.1 rfl).ok hbo
  have e3 := b4.2.2 rfl
  have h3n : r3.nodes = b.nodes := by rw [e3]; rfl
  have h3l : r3.last = b.last := by rw [e3]; rfl
  have h3i : r3.i = b.i + 1 := by rw [e3]; rfl
  have c5 := hin.lev 1 r3 (by decide) (by decide) (by omega) hr3
  have b5 := hb 1 r3
  generalize inner 1 r3 = x5 at hP c5 b5
  obtain ⟨t5, c⟩ := x5
  simp only at c5 b5
  have hco := b5.ok hr3
  have hci : c.i < 1000000 := by have := hco.1; omega
  refine AW.seq_k fun K hK => AW.region (by kernel_rfl) ?_
  simp -implicitDefEqProofs only [go_sem, seval, ↓reduceIte, rdO_K]
  refine RdS.call hG (c3) (gx := gx3) (by kernel_rfl) (fun F => rfl) (by decide) (by first | rfl | (simp -implicitDefEqProofs only [go_sem, seval, ↓reduceIte, List.map_cons, List.map_nil, encXN_K]; try rfl)) (by first | rfl | (simp -implicitDefEqProofs only [go_sem, seval, ↓reduceIte, List.map_cons, List.map_nil]; try rfl)) (by first | rfl | (simp -implicitDefEqProofs only [go_sem, seval, ↓reduceIte]; try rfl)) (by first | rfl | (simp -implicitDefEqProofs only [go_sem, seval, ↓reduceIte]; try rfl)) fun gx4 => ?_
  simp -implicitDefEqProofs only [go_sem, seval, ↓reduceIte, sets]
  simp -implicitDefEqProofs only [go_sem, seval, ↓reduceIte, rdO_K]
  refine RdS.call hG (c4) (gx := gx4) (by kernel_rfl) (fun F => rfl) (by decide) (by first | rfl | (simp -implicitDefEqProofs only [go_sem, seval, ↓reduceIte, List.map_cons, List.map_nil, encXN_K]; try rfl)) (by first | rfl | (simp -implicitDefEqProofs only [go_sem, seval, ↓reduceIte, List.map_cons, List.map_nil]; try rfl)) (by first | rfl | (simp -implicitDefEqProofs only [go_sem, seval, ↓reduceIte]; try rfl)) (by first | rfl | (simp -implicitDefEqProofs only [go_sem, seval, ↓reduceIte]; try rfl)) fun gx5 => ?_
  simp -implicitDefEqProofs only [go_sem, seval, ↓reduceIte, sets]
  refine hK _ ?_
  clear hK K
  refine AW.condS (by simp -implicitDefEqProofs only [go_sem, seval, ↓reduceIte]; rfl) (fun h29 => ?_) (fun h29 => ?_)
  · cases h29
  refine AW.skip ?_
  simp -implicitDefEqProofs only [go_sem, seval, ↓reduceIte]
  refine hK2 _ ?_
  refine AW.seq_k fun K hK => AW.region (by kernel_rfl) ?_
  simp -implicitDefEqProofs only [go_sem, seval, ↓reduceIte, rdO_K]
  have h3nn : r3.nodes.length < 1000000 := by rw [h3n]; exact hbn
  refine RdS.call hG (rLast_spec G hG sl g r3 h3nn) (gx := gx5) (by kernel_rfl) (fun F => rfl) (by decide) (by first | rfl | (simp -implicitDefEqProofs only [go_sem, seval, ↓reduceIte, List.map_cons, List.map_nil, encXN_K]; try rfl)) (by first | rfl | (simp -implicitDefEqProofs only [go_sem, seval, ↓reduceIte, List.map_cons, List.map_nil]; try rfl)) (by first | rfl | (simp -implicitDefEqProofs only [go_sem, seval, ↓reduceIte]; try rfl)) (by first | rfl | (simp -implicitDefEqProofs only [go_sem, seval, ↓reduceIte]; try rfl)) fun gx6 => ?_
  simp -implicitDefEqProofs only [go_sem, seval, ↓reduceIte, sets]
  rw [h3l]
  refine hK _ ?_
  clear hK K
  cases t5 with
  | false =>
    rw [andThen_false] at hP
    refine AW.seq_k fun K hK => AW.region (by kernel_rfl) ?_
    simp -implicitDefEqProofs only [go_sem, seval, ↓reduceIte, rdO_K]
    refine RdS.call hG (c5) (gx := gx6) (by kernel_rfl) (fun F => rfl) (by decide) (by first | rfl | (simp -implicitDefEqProofs only [go_sem, seval, ↓reduceIte, List.map_cons, List.map_nil, encXN_K]; try rfl)) (by first | rfl | (simp -implicitDefEqProofs only [go_sem, seval, ↓reduceIte, List.map_cons, List.map_nil]; try rfl)) (by first | rfl | (simp -implicitDefEqProofs only [go_sem, seval, ↓reduceIte]; try rfl)) (by first | rfl | (simp -implicitDefEqProofs only [go_sem, seval, ↓reduceIte]; try rfl)) fun gx7 => ?_
    simp -implicitDefEqProofs only [go_sem, seval, ↓reduceIte, sets]
    refine hK _ ?_
    clear hK K
    refine AW.ret ?_
    simp -implicitDefEqProofs only [go_sem, seval, ↓reduceIte]
    refine endK_some ?_
    rw [hP]
    exact ⟨rfl, gx7, by first | rfl | (simp -implicitDefEqProofs only [go_sem, seval, ↓reduceIte]; try rfl), by first | rfl | (simp -implicitDefEqProofs only [go_sem, seval, ↓reduceIte]; try rfl)⟩
  | true =>
  rw [andThen_true] at hP
  have c6 := rEats_spec G hG sl hT g c hci wEndif
  have b6 := eatR_bal sl.l (w := wEndif) (by decide +kernel) c
  generalize eatR sl.l wEndif c = x6 at hP c6 b6
  obtain ⟨t6, r4⟩ := x6
  simp only at c6 b6
  cases t6 with
  | false =>
    rw [andThen_false] at hP
    refine AW.seq_k fun K hK => AW.region (by kernel_rfl) ?_
    simp -implicitDefEqProofs only [go_sem, seval, ↓reduceIte, rdO_K]
    refine RdS.call hG (c5) (gx := gx6) (by kernel_rfl) (fun F => rfl) (by decide) (by first | rfl | (simp -implicitDefEqProofs only [go_sem, seval, ↓reduceIte, List.map_cons, List.map_nil, encXN_K]; try rfl)) (by first | rfl | (simp -implicitDefEqProofs only [go_sem, seval, ↓reduceIte, List.map_cons, List.map_nil]; try rfl)) (by first | rfl | (simp -implicitDefEqProofs only [go_sem, seval, ↓reduceIte]; try rfl)) (by first | rfl | (simp -implicitDefEqProofs only [go_sem, seval, ↓reduceIte]; try rfl)) fun gx7 => ?_
    simp -implicitDefEqProofs only [go_sem, seval, ↓reduceIte, sets]
    simp -implicitDefEqProofs only [go_sem, seval, ↓reduceIte, rdO_K]
    refine RdS.call hG (c6) (gx := gx7) (by kernel_rfl) (fun F => rfl) (by decide) (by first | rfl | (simp -implicitDefEqProofs only [go_sem, seval, ↓reduceIte, List.map_cons, List.map_nil, encXN_K]; try rfl)) (by first | rfl | (simp -implicitDefEqProofs only [go_sem, seval, ↓reduceIte, List.map_cons, List.map_nil]; try rfl)) (by first | rfl | (simp -implicitDefEqProofs only [go_sem, seval, ↓reduceIte]; try rfl)) (by first | rfl | (simp -implicitDefEqProofs only [go_sem, seval, ↓reduceIte]; try rfl)) fun gx8 => ?_
    simp -implicitDefEqProofs only [go_sem, seval, ↓reduceIte, sets]
    refine hK _ ?_
    clear hK K
    refine AW.ret ?_
    simp -implicitDefEqProofs only [go_sem, seval, ↓reduceIte]
    refine endK_some ?_
    rw [hP]
    exact ⟨rfl, gx8, by first | rfl | (simp -implicitDefEqProofs only [go_sem, seval, ↓reduceIte]; try rfl), by first | rfl | (simp -implicitDefEqProofs only [go_sem, seval, ↓reduceIte]; try rfl)⟩
  | true =>
  rw [andThen_true] at hP
  have hr4 := (b6.2.1 rfl).ok hco
  have e4 := b6.2.2 rfl
  have h4l : r4.last = c.last := by rw [e4]; rfl
  have h4n : r4.nodes.length < 1000000 := by have := hr4.1; have := hr4.2; omega
  refine AW.seq_k fun K hK => AW.region (by kernel_rfl) ?_
  simp -implicitDefEqProofs only [go_sem, seval, ↓reduceIte, rdO_K]
  refine RdS.call hG (c5) (gx := gx6) (by kernel_rfl) (fun F => rfl) (by decide) (by first | rfl | (simp -implicitDefEqProofs only [go_sem, seval, ↓reduceIte, List.map_cons, List.map_nil, encXN_K]; try rfl)) (by first | rfl | (simp -implicitDefEqProofs only [go_sem, seval, ↓reduceIte, List.map_cons, List.map_nil]; try rfl)) (by first | rfl | (simp -implicitDefEqProofs only [go_sem, seval, ↓reduceIte]; try rfl)) (by first | rfl | (simp -implicitDefEqProofs only [go_sem, seval, ↓reduceIte]; try rfl)) fun gx7 => ?_
  simp -implicitDefEqProofs only [go_sem, seval, ↓reduceIte, sets]
  simp -implicitDefEqProofs only [go_sem, seval, ↓reduceIte, rdO_K]
  refine RdS.call hG (c6) (gx := gx7) (by kernel_rfl) (fun F => rfl) (by decide) (by first | rfl | (simp -implicitDefEqProofs only [go_sem, seval, ↓reduceIte, List.map_cons, List.map_nil, encXN_K]; try rfl)) (by first | rfl | (simp -implicitDefEqProofs only [go_sem, seval, ↓reduceIte, List.map_cons, List.map_nil]; try rfl)) (by first | rfl | (simp -implicitDefEqProofs only [go_sem, seval, ↓reduceIte]; try rfl)) (by first | rfl | (simp -implicitDefEqProofs only [go_sem, seval, ↓reduceIte]; try rfl)) fun gx8 => ?_
  simp -implicitDefEqProofs only [go_sem, seval, ↓reduceIte, sets]
  simp -implicitDefEqProofs only [go_sem, seval, ↓reduceIte, rdO_K]
  refine RdS.call hG (rLast_spec G hG sl g r4 h4n) (gx := gx8) (by kernel_rfl) (fun F => rfl) (by decide) (by first | rfl | (simp -implicitDefEqProofs only [go_sem, seval, ↓reduceIte, List.map_cons, List.map_nil, encXN_K]; try rfl)) (by first | rfl | (simp -implicitDefEqProofs only [go_sem, seval, ↓reduceIte, List.map_cons, List.map_nil]; try rfl)) (by first | rfl | (simp -implicitDefEqProofs only [go_sem, seval, ↓reduceIte]; try rfl)) (by first | rfl | (simp -implicitDefEqProofs only [go_sem, seval, ↓reduceIte]; try rfl)) fun gx9 => ?_
  simp -implicitDefEqProofs only [go_sem, seval, ↓reduceIte, sets]
  rw [h4l]
  simp -implicitDefEqProofs only [go_sem, seval, ↓reduceIte, rdO_K]
  rw [← encXN_K ⟨22, 0, [], a.last, b.last, c.last⟩]
  refine RdS.call hG (rPutN_spec G hG sl g r4 h4n ⟨22, 0, [], a.last, b.last, c.last⟩) (gx := gx9) (by kernel_rfl) (fun F => rfl) (by decide) (by first | rfl | (simp -implicitDefEqProofs only [go_sem, seval, ↓reduceIte, List.map_cons, List.map_nil, encXN_K]; try rfl)) (by first | rfl | (simp -implicitDefEqProofs only [go_sem, seval, ↓reduceIte, List.map_cons, List.map_nil]; try rfl)) (by first | rfl | (simp -implicitDefEqProofs only [go_sem, seval, ↓reduceIte]; try rfl)) (by first | rfl | (simp -implicitDefEqProofs only [go_sem, seval, ↓reduceIte]; try rfl)) fun gxa => ?_
  simp -implicitDefEqProofs only [go_sem, seval, ↓reduceIte, sets]
  refine hK _ ?_
  clear hK K
  refine AW.ret ?_
  simp -implicitDefEqProofs only [go_sem, seval, ↓reduceIte]
  refine endK_some ?_
  rw [hP]
  exact ⟨rfl, gxa, by first | rfl | (simp -implicitDefEqProofs only [go_sem, seval, ↓reduceIte]; try rfl), by first | rfl | (simp -implicitDefEqProofs only [go_sem, seval, ↓reduceIte]; try rfl)⟩
theorem rPrimary_spec (G : Nat → V) (hG : GOk G) (sl : Sl Tk) (hT : TkOk sl.l) (g : Nat) (r : RS) (hr : RSok sl.l r) (inner : Inner) (hin : InnR G sl g inner r.i) (hb : Bals sl.l inner) :
    RdS 1012 [] G 79 [] sl g r (.bool (primR sl.l inner r).1) (primR sl.l inner r).2 := by
  have hTl := hT.len
  have hri : r.i < 1000000 := by have := hr.1; omega
  have hrn : r.nodes.length < 1000000 := by have := hr.2; omega
  have hw : IntKind.i64.wrap ((r.i : Int) + 1) = ((r.i + 1 : Nat) : Int) := by rw [w64 (by omega) (by omega)]; omega
  intro gx
  refine Spec.of_code' 1000 83 [.tmp 2] Tryz.func79 rfl rfl rfl rfl fun X => ?_
  have hP : primR sl.l inner r = if (nextP sl.l r.i).text = [40] then andThen (inner 1 r.adv) (eatR sl.l [41])
    else if (nextP sl.l r.i).text = wIf then branchesR sl.l inner r
    else if (nextP sl.l r.i).text = [116, 114, 117, 101] then leafP r 3 0 []
    else if (nextP sl.l r.i).text = [102, 97, 108, 115, 101] then leafP r 4 0 []
    else if (nextP sl.l r.i).text ≠ [] ∧ (nextP sl.l r.i).kind = 1 then numberR r (nextP sl.l r.i).text
    else if (nextP sl.l r.i).text ≠ [] ∧ (nextP sl.l r.i).kind = 2 then leafP r 2 0 (nextP sl.l r.i).text
    else (false, r.err 80) := rfl
  have htl := nextP_ln hT r.i
  have hbr := fun h => rBranches_spec G hG sl hT g r hr h inner hin hb
  have hne : (nextP sl.l r.i).text ≠ [] → ∃ t, sl.l[r.i]? = some t ∧ nextP sl.l r.i = t ∧ r.i < sl.l.length := by
    intro h
    unfold nextP at h ⊢
    cases hg : sl.l[r.i]? with
    | none => rw [hg] at h; exact absurd rfl h
    | some t =>
      rw [hg] at h
      simp only at h
      split at h
      · rename_i q
        refine ⟨t, rfl, ?_, (List.getElem?_eq_some_iff.1 hg).1⟩
        simp only
        rw [if_pos q]
      · exact absurd rfl h
  have hadv : (nextP sl.l r.i).text ≠ [] → RSok sl.l r.adv := fun h => by
    obtain ⟨t, _, _, q⟩ := hne h
    exact (Bal.adv q).ok hr
  generalize primR sl.l inner r = res at hP ⊢
  refine AW.seq_k fun K hK => AW.region (by kernel_rfl) ?_
  simp -implicitDefEqProofs only [go_sem, seval, ↓reduceIte]
  refine hK _ ?_
  clear hK K
  refine AW.seq_k fun K hK => AW.region (by kernel_rfl) ?_
  simp -implicitDefEqProofs only [go_sem, seval, ↓reduceIte]
  refine RdS.call hG (rNext_spec G hG sl hT g r hri) (gx := gx) (by kernel_rfl) (fun F => rfl) (by decide) (by first | rfl | (simp -implicitDefEqProofs only [go_sem, seval, ↓reduceIte, List.map_cons, List.map_nil, encXN_K]; try rfl)) (by first | rfl | (simp -implicitDefEqProofs only [go_sem, seval, ↓reduceIte, List.map_cons, List.map_nil]; try rfl)) (by first | rfl | (simp -implicitDefEqProofs only [go_sem, seval, ↓reduceIte]; try rfl)) (by first | rfl | (simp -implicitDefEqProofs only [go_sem, seval, ↓reduceIte]; try rfl)) fun gx1 => ?_
  simp -implicitDefEqProofs only [go_sem, seval, ↓reduceIte, sets]
  refine hK _ ?_
  clear hK K
  generalize nextP sl.l r.i = t at hP htl hadv hne ⊢
  obtain ⟨k, t, p⟩ := t
  simp only at hP htl hadv hne
  refine AW.seqJ (fun (_ : Unit) => st [(0, .ptr 8 g 0)] [(8, rdO 1012 [] sl g gx1 r), (1012, ndO gx1 r.nodes)]) (fun _ => res = (false, r.err 80)) (fun K1 hK1 => ?_) ?_
  rotate_left
  · intro _ hP
    refine AW.seq_k fun K hK => AW.region (by kernel_rfl) ?_
    simp -implicitDefEqProofs only [go_sem, seval, ↓reduceIte, rdO_K]
    refine hK _ ?_
    clear hK K
    refine AW.seq_k fun K hK => AW.region (by kernel_rfl) ?_
    simp -implicitDefEqProofs only [go_sem, seval, ↓reduceIte]
    refine hK _ ?_
    clear hK K
    refine AW.ret ?_
    simp -implicitDefEqProofs only [go_sem, seval, ↓reduceIte]
    refine endK_some ?_
    rw [hP]
    exact ⟨rfl, gx1, by first | rfl | (simp -implicitDefEqProofs only [go_sem, seval, ↓reduceIte]; try rfl), by first | rfl | (simp -implicitDefEqProofs only [go_sem, seval, ↓reduceIte]; try rfl)⟩
  refine AW.block ?_
  by_cases c1 : t = [40]
  · have e1 : (t == [40]) = true := by simpa using c1
    have htn : t ≠ [] := by rw [c1]; simp
    rw [if_pos c1] at hP
    have hc := hin.lev 1 r.adv (by decide) (by decide) (Nat.lt_succ_self _) (hadv htn)
    have hbl := (hb 1 r.adv).ok (hadv htn)
    generalize inner 1 r.adv = x at hc hP hbl
    obtain ⟨b, a⟩ := x
    simp only at hc hbl
    have hai : a.i < 1000000 := by have := hbl.1; omega
    refine AW.seq_k fun K hK => AW.region (by kernel_rfl) ?_
    simp -implicitDefEqProofs only [go_sem, seval, ↓reduceIte, e1]
    refine hK _ ?_
    clear hK K
    refine AW.condS (by simp -implicitDefEqProofs only [go_sem, seval, ↓reduceIte]; rfl) (fun h2 => ?_) (fun h2 => ?_)
    rotate_left
    · cases h2
    refine AW.seq_k fun K hK => AW.region (by kernel_rfl) ?_
    simp -implicitDefEqProofs only [go_sem, seval, ↓reduceIte, rdO_K, hw]
    refine hK _ ?_
    clear hK K
    cases b with
    | false =>
      rw [andThen_false] at hP
      refine AW.seq_k fun K hK => AW.region (by kernel_rfl) ?_
      simp -implicitDefEqProofs only [go_sem, seval, ↓reduceIte, rdO_K]
      refine RdS.call hG (hc) (gx := gx1) (by kernel_rfl) (fun F => rfl) (by decide) (by first | rfl | (simp -implicitDefEqProofs only [go_sem, seval, ↓reduceIte, List.map_cons, List.map_nil, encXN_K]; try rfl)) (by first | rfl | (simp -implicitDefEqProofs only [go_sem, seval, ↓reduceIte, List.map_cons, List.map_nil]; try rfl)) (by first | rfl | (simp -implicitDefEqProofs only [go_sem, seval, ↓reduceIte]; try rfl)) (by first | rfl | (simp -implicitDefEqProofs only [go_sem, seval, ↓reduceIte]; try rfl)) fun gx2 => ?_
      simp -implicitDefEqProofs only [go_sem, seval, ↓reduceIte, sets]
      refine hK _ ?_
      clear hK K
      refine AW.ret ?_
      simp -implicitDefEqProofs only [go_sem, seval, ↓reduceIte]
      refine endK_some ?_
      rw [hP]
      exact ⟨rfl, gx2, by first | rfl | (simp -implicitDefEqProofs only [go_sem, seval, ↓reduceIte]; try rfl), by first | rfl | (simp -implicitDefEqProofs only [go_sem, seval, ↓reduceIte]; try rfl)⟩
    | true =>
      rw [andThen_true] at hP
      refine AW.seq_k fun K hK => AW.region (by kernel_rfl) ?_
      simp -implicitDefEqProofs only [go_sem, seval, ↓reduceIte, rdO_K]
      refine RdS.call hG (hc) (gx := gx1) (by kernel_rfl) (fun F => rfl) (by decide) (by first | rfl | (simp -implicitDefEqProofs only [go_sem, seval, ↓reduceIte, List.map_cons, List.map_nil, encXN_K]; try rfl)) (by first | rfl | (simp -implicitDefEqProofs only [go_sem, seval, ↓reduceIte, List.map_cons, List.map_nil]; try rfl)) (by first | rfl | (simp -implicitDefEqProofs only [go_sem, seval, ↓reduceIte]; try rfl)) (by first | rfl | (simp -implicitDefEqProofs only [go_sem, seval, ↓reduceIte]; try rfl)) fun gx2 => ?_
      simp -implicitDefEqProofs only [go_sem, seval, ↓reduceIte, sets]
      simp -implicitDefEqProofs only [go_sem, seval, ↓reduceIte, rdO_K]
      refine RdS.call hG (rEats_spec G hG sl hT g a hai [41]) (gx := gx2) (by kernel_rfl) (fun F => rfl) (by decide) (by first | rfl | (simp -implicitDefEqProofs only [go_sem, seval, ↓reduceIte, List.map_cons, List.map_nil, encXN_K]; try rfl)) (by first | rfl | (simp -implicitDefEqProofs only [go_sem, seval, ↓reduceIte, List.map_cons, List.map_nil]; try rfl)) (by first | rfl | (simp -implicitDefEqProofs only [go_sem, seval, ↓reduceIte]; try rfl)) (by first | rfl | (simp -implicitDefEqProofs only [go_sem, seval, ↓reduceIte]; try rfl)) fun gx3 => ?_
      simp -implicitDefEqProofs only [go_sem, seval, ↓reduceIte, sets]
      generalize eatR sl.l [41] a = y at hP ⊢
      obtain ⟨b, a2⟩ := y
      cases b with
      | true =>
        simp -implicitDefEqProofs only [go_sem, seval, ↓reduceIte]
        refine hK _ ?_
        clear hK K
        refine AW.ret ?_
        simp -implicitDefEqProofs only [go_sem, seval, ↓reduceIte]
        refine endK_some ?_
        rw [hP]
        exact ⟨rfl, gx3, by first | rfl | (simp -implicitDefEqProofs only [go_sem, seval, ↓reduceIte]; try rfl), by first | rfl | (simp -implicitDefEqProofs only [go_sem, seval, ↓reduceIte]; try rfl)⟩
      | false =>
        simp -implicitDefEqProofs only [go_sem, seval, ↓reduceIte]
        refine hK _ ?_
        clear hK K
        refine AW.ret ?_
        simp -implicitDefEqProofs only [go_sem, seval, ↓reduceIte]
        refine endK_some ?_
        rw [hP]
        exact ⟨rfl, gx3, by first | rfl | (simp -implicitDefEqProofs only [go_sem, seval, ↓reduceIte]; try rfl), by first | rfl | (simp -implicitDefEqProofs only [go_sem, seval, ↓reduceIte]; try rfl)⟩
  have e1 : (t == [40]) = false := by simpa using c1
  rw [if_neg c1] at hP
  refine AW.seq_k fun K hK => AW.region (by kernel_rfl) ?_
  simp -implicitDefEqProofs only [go_sem, seval, ↓reduceIte, e1]
  refine hK _ ?_
  clear hK K
  refine AW.condS (by simp -implicitDefEqProofs only [go_sem, seval, ↓reduceIte]; rfl) (fun h2 => ?_) (fun h2 => ?_)
  · cases h2
  clear h2
  by_cases c2 : t = wIf
  · have e2 : (t == [105, 102]) = true := by rw [c2]; rfl
    have htn : t ≠ [] := by rw [c2]; decide
    obtain ⟨_, _, _, hlt⟩ := hne htn
    rw [if_pos c2] at hP
    refine AW.seq_k fun K hK => AW.region (by kernel_rfl) ?_
    simp -implicitDefEqProofs only [go_sem, seval, ↓reduceIte, e2]
    refine hK _ ?_
    clear hK K
    refine AW.condS (by simp -implicitDefEqProofs only [go_sem, seval, ↓reduceIte]; rfl) (fun h2 => ?_) (fun h2 => ?_)
    rotate_left
    · cases h2
    refine AW.seq_k fun K hK => AW.region (by kernel_rfl) ?_
    simp -implicitDefEqProofs only [go_sem, seval, ↓reduceIte]
    refine RdS.call hG (hbr hlt) (gx := gx1) (by kernel_rfl) (fun F => rfl) (by decide) (by first | rfl | (simp -implicitDefEqProofs only [go_sem, seval, ↓reduceIte, List.map_cons, List.map_nil, encXN_K]; try rfl)) (by first | rfl | (simp -implicitDefEqProofs only [go_sem, seval, ↓reduceIte, List.map_cons, List.map_nil]; try rfl)) (by first | rfl | (simp -implicitDefEqProofs only [go_sem, seval, ↓reduceIte]; try rfl)) (by first | rfl | (simp -implicitDefEqProofs only [go_sem, seval, ↓reduceIte]; try rfl)) fun gx2 => ?_
    simp -implicitDefEqProofs only [go_sem, seval, ↓reduceIte, sets]
    refine hK _ ?_
    clear hK K
    refine AW.ret ?_
    simp -implicitDefEqProofs only [go_sem, seval, ↓reduceIte]
    refine endK_some ?_
    rw [hP]
    exact ⟨rfl, gx2, by first | rfl | (simp -implicitDefEqProofs only [go_sem, seval, ↓reduceIte]; try rfl), by first | rfl | (simp -implicitDefEqProofs only [go_sem, seval, ↓reduceIte]; try rfl)⟩
  have e2 : (t == [105, 102]) = false := by rw [beq_eq_false_iff_ne]; exact c2
  rw [if_neg c2] at hP
  refine AW.seq_k fun K hK => AW.region (by kernel_rfl) ?_
  simp -implicitDefEqProofs only [go_sem, seval, ↓reduceIte, e2]
  refine hK _ ?_
  clear hK K
  refine AW.condS (by simp -implicitDefEqProofs only [go_sem, seval, ↓reduceIte]; rfl) (fun h2 => ?_) (fun h2 => ?_)
  · cases h2
  clear h2
  by_cases c3 : t = [116, 114, 117, 101]
  · have e3 : (t == [116, 114, 117, 101]) = true := by simpa using c3
    rw [if_pos c3] at hP
    refine AW.seq_k fun K hK => AW.region (by kernel_rfl) ?_
    simp -implicitDefEqProofs only [go_sem, seval, ↓reduceIte, e3]
    refine hK _ ?_
    clear hK K
    refine AW.condS (by simp -implicitDefEqProofs only [go_sem, seval, ↓reduceIte]; rfl) (fun h2 => ?_) (fun h2 => ?_)
    rotate_left
    · cases h2
    refine AW.seq_k fun K hK => AW.region (by kernel_rfl) ?_
    simp -implicitDefEqProofs only [go_sem, seval, ↓reduceIte]
    rw [← encXN_K ⟨3, 0, [], 0, 0, 0⟩]
    refine RdS.call hG (rLeaf_spec G hG sl g r hri hrn 3 0 [] 0 0 0) (gx := gx1) (by kernel_rfl) (fun F => rfl) (by decide) (by first | rfl | (simp -implicitDefEqProofs only [go_sem, seval, ↓reduceIte, List.map_cons, List.map_nil, encXN_K]; try rfl)) (by first | rfl | (simp -implicitDefEqProofs only [go_sem, seval, ↓reduceIte, List.map_cons, List.map_nil]; try rfl)) (by first | rfl | (simp -implicitDefEqProofs only [go_sem, seval, ↓reduceIte]; try rfl)) (by first | rfl | (simp -implicitDefEqProofs only [go_sem, seval, ↓reduceIte]; try rfl)) fun gx2 => ?_
    simp -implicitDefEqProofs only [go_sem, seval, ↓reduceIte, sets]
    refine hK _ ?_
    clear hK K
    refine AW.ret ?_
    simp -implicitDefEqProofs only [go_sem, seval, ↓reduceIte]
    refine endK_some ?_
    rw [hP]
    exact ⟨rfl, gx2, by first | rfl | (simp -implicitDefEqProofs only [go_sem, seval, ↓reduceIte]; try rfl), by first | rfl | (simp -implicitDefEqProofs only [go_sem, seval, ↓reduceIte]; try rfl)⟩
  have e3 : (t == [116, 114, 117, 101]) = false := by simpa using c3
  rw [if_neg c3] at hP
  refine AW.seq_k fun K hK => AW.region (by kernel_rfl) ?_
  simp -implicitDefEqProofs only [go_sem, seval, ↓reduceIte, e3]
  refine hK _ ?_
  clear hK K
  refine AW.condS (by simp -implicitDefEqProofs only [go_sem, seval, ↓reduceIte]; rfl) (fun h2 => ?_) (fun h2 => ?_)
  · cases h2
  clear h2
  by_cases c4 : t = [102, 97, 108, 115, 101]
  · have e4 : (t == [102, 97, 108, 115, 101]) = true := by simpa using c4
    rw [if_pos c4] at hP
    refine AW.seq_k fun K hK => AW.region (by kernel_rfl) ?_
    simp -implicitDefEqProofs only [go_sem, seval, ↓reduceIte, e4]
    refine hK _ ?_
    clear hK K
    refine AW.condS (by simp -implicitDefEqProofs only [go_sem, seval, ↓reduceIte]; rfl) (fun h2 => ?_) (fun h2 => ?_)
    rotate_left
    · cases h2
    refine AW.seq_k fun K hK => AW.region (by kernel_rfl) ?_
    simp -implicitDefEqProofs only [go_sem, seval, ↓reduceIte]
    rw [← encXN_K ⟨4, 0, [], 0, 0, 0⟩]
    refine RdS.call hG (rLeaf_spec G hG sl g r hri hrn 4 0 [] 0 0 0) (gx := gx1) (by kernel_rfl) (fun F => rfl) (by decide) (by first | rfl | (simp -implicitDefEqProofs only [go_sem, seval, ↓reduceIte, List.map_cons, List.map_nil, encXN_K]; try rfl)) (by first | rfl | (simp -implicitDefEqProofs only [go_sem, seval, ↓reduceIte, List.map_cons, List.map_nil]; try rfl)) (by first | rfl | (simp -implicitDefEqProofs only [go_sem, seval, ↓reduceIte]; try rfl)) (by first | rfl | (simp -implicitDefEqProofs only [go_sem, seval, ↓reduceIte]; try rfl)) fun gx2 => ?_
    simp -implicitDefEqProofs only [go_sem, seval, ↓reduceIte, sets]
    refine hK _ ?_
    clear hK K
    refine AW.ret ?_
    simp -implicitDefEqProofs only [go_sem, seval, ↓reduceIte]
    refine endK_some ?_
    rw [hP]
    exact ⟨rfl, gx2, by first | rfl | (simp -implicitDefEqProofs only [go_sem, seval, ↓reduceIte]; try rfl), by first | rfl | (simp -implicitDefEqProofs only [go_sem, seval, ↓reduceIte]; try rfl)⟩
  have e4 : (t == [102, 97, 108, 115, 101]) = false := by simpa using c4
  rw [if_neg c4] at hP
  refine AW.seq_k fun K hK => AW.region (by kernel_rfl) ?_
  simp -implicitDefEqProofs only [go_sem, seval, ↓reduceIte, e4]
  refine hK _ ?_
  clear hK K
  refine AW.condS (by simp -implicitDefEqProofs only [go_sem, seval, ↓reduceIte]; rfl) (fun h2 => ?_) (fun h2 => ?_)
  · cases h2
  clear h2
  by_cases c5 : t = []
  · have e5 : (t == []) = true := by rw [c5]; rfl
    rw [if_neg (fun h => h.1 c5), if_neg (fun h => h.1 c5)] at hP
    refine AW.seq_k fun K hK => AW.regionT ⟨fun _ => .top, fun _ => .pure⟩ (by kernel_rfl) hG (by kernel_rfl) (by kernel_rfl) ?_
    simp -implicitDefEqProofs only [go_sem, seval, ↓reduceIte, e5]
    refine hK _ ?_
    clear hK K
    refine AW.condS (by simp -implicitDefEqProofs only [go_sem, seval, ↓reduceIte]; rfl) (fun h2 => ?_) (fun h2 => ?_)
    · cases h2
    clear h2
    refine AW.seq_k fun K hK => AW.regionT ⟨fun _ => .top, fun _ => .pure⟩ (by kernel_rfl) hG (by kernel_rfl) (by kernel_rfl) ?_
    simp -implicitDefEqProofs only [go_sem, seval, ↓reduceIte, e5]
    refine hK _ ?_
    clear hK K
    refine AW.condS (by simp -implicitDefEqProofs only [go_sem, seval, ↓reduceIte]; rfl) (fun h2 => ?_) (fun h2 => ?_)
    · cases h2
    refine AW.skip ?_
    simp -implicitDefEqProofs only [go_sem, seval, ↓reduceIte]
    exact hK1 _ () hP (Weak.st (by simp -implicitDefEqProofs only [go_sem, seval, ↓reduceIte]; try rfl) (by simp -implicitDefEqProofs only [go_sem, seval, ↓reduceIte]; try rfl))
  have e5 : (t == []) = false := by simpa using c5
  obtain ⟨t0, hg, ht0, hlt⟩ := hne c5
  have hgk : sl.l[r.i]? = some ⟨k, t, p⟩ := by rw [hg, ht0]
  by_cases k1 : k = 1
  · have q1 : (k == 1) = true := by simpa using k1
    rw [if_pos ⟨c5, k1⟩] at hP
    refine AW.seq_k fun K hK => AW.regionT ⟨fun _ => .top, fun _ => .pure⟩ (by kernel_rfl) hG (by kernel_rfl) (by kernel_rfl) ?_
    simp -implicitDefEqProofs only [go_sem, seval, ↓reduceIte, e5, rdO_K, hgk, encTk_K, q1]
    refine hK _ ?_
    clear hK K
    refine AW.condS (by simp -implicitDefEqProofs only [go_sem, seval, ↓reduceIte]; rfl) (fun h2 => ?_) (fun h2 => ?_)
    rotate_left
    · cases h2
    refine AW.seq_k fun K hK => AW.region (by kernel_rfl) ?_
    simp -implicitDefEqProofs only [go_sem, seval, ↓reduceIte, rdO_K]
    refine RdS.call hG (rNumber_spec G hG sl g r hri hrn t htl) (gx := gx1) (by kernel_rfl) (fun F => rfl) (by decide) (by first | rfl | (simp -implicitDefEqProofs only [go_sem, seval, ↓reduceIte, List.map_cons, List.map_nil, encXN_K]; try rfl)) (by first | rfl | (simp -implicitDefEqProofs only [go_sem, seval, ↓reduceIte, List.map_cons, List.map_nil]; try rfl)) (by first | rfl | (simp -implicitDefEqProofs only [go_sem, seval, ↓reduceIte]; try rfl)) (by first | rfl | (simp -implicitDefEqProofs only [go_sem, seval, ↓reduceIte]; try rfl)) fun gx2 => ?_
    simp -implicitDefEqProofs only [go_sem, seval, ↓reduceIte, sets]
    refine hK _ ?_
    clear hK K
    refine AW.ret ?_
    simp -implicitDefEqProofs only [go_sem, seval, ↓reduceIte]
    refine endK_some ?_
    rw [hP]
    exact ⟨rfl, gx2, by first | rfl | (simp -implicitDefEqProofs only [go_sem, seval, ↓reduceIte]; try rfl), by first | rfl | (simp -implicitDefEqProofs only [go_sem, seval, ↓reduceIte]; try rfl)⟩
  have q1 : (k == 1) = false := by simpa using k1
  rw [if_neg (fun h => k1 h.2)] at hP
  refine AW.seq_k fun K hK => AW.regionT ⟨fun _ => .top, fun _ => .pure⟩ (by kernel_rfl) hG (by kernel_rfl) (by kernel_rfl) ?_
  simp -implicitDefEqProofs only [go_sem, seval, ↓reduceIte, e5, rdO_K, hgk, encTk_K, q1]
  refine hK _ ?_
  clear hK K
  refine AW.condS (by simp -implicitDefEqProofs only [go_sem, seval, ↓reduceIte]; rfl) (fun h2 => ?_) (fun h2 => ?_)
  · cases h2
  clear h2
  by_cases k2 : k = 2
  · have q2 : (k == 2) = true := by simpa using k2
    rw [if_pos ⟨c5, k2⟩] at hP
    refine AW.seq_k fun K hK => AW.regionT ⟨fun _ => .top, fun _ => .pure⟩ (by kernel_rfl) hG (by kernel_rfl) (by kernel_rfl) ?_
    simp -implicitDefEqProofs only [go_sem, seval, ↓reduceIte, e5, rdO_K, hgk, encTk_K, q2]
    refine hK _ ?_
    clear hK K
    refine AW.condS (by simp -implicitDefEqProofs only [go_sem, seval, ↓reduceIte]; rfl) (fun h2 => ?_) (fun h2 => ?_)
    rotate_left
    · cases h2
    refine AW.seq_k fun K hK => AW.region (by kernel_rfl) ?_
    simp -implicitDefEqProofs only [go_sem, seval, ↓reduceIte, rdO_K]
    rw [← encXN_K ⟨2, 0, t, 0, 0, 0⟩]
    refine RdS.call hG (rLeaf_spec G hG sl g r hri hrn 2 0 t 0 0 0) (gx := gx1) (by kernel_rfl) (fun F => rfl) (by decide) (by first | rfl | (simp -implicitDefEqProofs only [go_sem, seval, ↓reduceIte, List.map_cons, List.map_nil, encXN_K]; try rfl)) (by first | rfl | (simp -implicitDefEqProofs only [go_sem, seval, ↓reduceIte, List.map_cons, List.map_nil]; try rfl)) (by first | rfl | (simp -implicitDefEqProofs only [go_sem, seval, ↓reduceIte]; try rfl)) (by first | rfl | (simp -implicitDefEqProofs only [go_sem, seval, ↓reduceIte]; try rfl)) fun gx2 => ?_
    simp -implicitDefEqProofs only [go_sem, seval, ↓reduceIte, sets]
    refine hK _ ?_
    clear hK K
    refine AW.ret ?_
    simp -implicitDefEqProofs only [go_sem, seval, ↓reduceIte]
    refine endK_some ?_
    rw [hP]
    exact ⟨rfl, gx2, by first | rfl | (simp -implicitDefEqProofs only [go_sem, seval, ↓reduceIte]; try rfl), by first | rfl | (simp -implicitDefEqProofs only [go_sem, seval, ↓reduceIte]; try rfl)⟩
  have q2 : (k == 2) = false := by simpa using k2
  rw [if_neg (fun h => k2 h.2)] at hP
  refine AW.seq_k fun K hK => AW.regionT ⟨fun _ => .top, fun _ => .pure⟩ (by kernel_rfl) hG (by kernel_rfl) (by kernel_rfl) ?_
  simp -implicitDefEqProofs only [go_sem, seval, ↓reduceIte, e5, rdO_K, hgk, encTk_K, q2]
  refine hK _ ?_
  clear hK K
  refine AW.condS (by simp -implicitDefEqProofs only [go_sem, seval, ↓reduceIte]; rfl) (fun h2 => ?_) (fun h2 => ?_)
  · cases h2
  refine AW.skip ?_
  simp -implicitDefEqProofs only [go_sem, seval, ↓reduceIte]
  exact hK1 _ () hP (Weak.st (by simp -implicitDefEqProofs only [go_sem, seval, ↓reduceIte]; try rfl) (by simp -implicitDefEqProofs only [go_sem, seval, ↓reduceIte, rdO_K]; try rfl))
end Go.Hs
end

section
namespace Go.Hs
def sgT (op : Nat) : List UInt8 := (tabL.getD op ⟨[], 0, 0⟩).text
def wNot : List UInt8 := [110, 111, 116]
def wTrue : List UInt8 := [116, 114, 117, 101]
def wFalse : List UInt8 := [102, 97, 108, 115, 101]
inductive Gr : Int → List (List UInt8) → X → Prop where
  | num {n : Int} {t : List UInt8} {v : Int} : isP t = 1 → parseR (trim0 t) = (v, 0) → Gr n [t] (.leaf 1 v [])
  | name {n : Int} {t : List UInt8} : isP t = 2 → Gr n [t] (.leaf 2 0 t)
  | tr {n : Int} : Gr n [wTrue] (.leaf 3 0 [])
  | fa {n : Int} : Gr n [wFalse] (.leaf 4 0 [])
  | neg {n : Int} {ts : List (List UInt8)} {a : X} : n ≤ 9 → Gr 9 ts a → Gr n ([45] :: ts) (.un 5 a)
  | not {n : Int} {ts : List (List UInt8)} {a : X} : n ≤ 9 → Gr 9 ts a → Gr n (wNot :: ts) (.un 6 a)
  | par {n : Int} {ts : List (List UInt8)} {a : X} : Gr 1 ts a → Gr n ([40] :: (ts ++ [[41]])) a
  | bin {n : Int} {op : Nat} {ta tb : List (List UInt8)} {a b : X} : 7 ≤ op → op ≤ 21 → n ≤ lvl op → Gr (lvl op) ta a → Gr (lvl op + 1) tb b → Gr n (ta ++ sgT op :: tb) (.bin op a b)
  | ite {n : Int} {ta tb tc : List (List UInt8)} {a b c : X} : Gr 1 ta a → Gr 1 tb b → Gr 1 tc c → Gr n (wIf :: (ta ++ wThen :: (tb ++ wElse :: (tc ++ [wEndif])))) (.ite a b c)
theorem Gr.mono {n m : Int} {ts : List (List UInt8)} {x : X} (h : Gr n ts x) (hm : m ≤ n) : Gr m ts x := by
  cases h with
  | num h1 h2 => exact .num h1 h2
  | name h1 => exact .name h1
  | tr => exact .tr
  | fa => exact .fa
  | neg h1 h2 => exact .neg (by omega) h2
  | not h1 h2 => exact .not (by omega) h2
  | par h1 => exact .par h1
  | bin h1 h2 h3 h4 h5 => exact .bin h1 h2 (by omega) h4 h5
  | ite h1 h2 h3 => exact .ite h1 h2 h3
theorem lvl_rng : ∀ op, 7 ≤ op → op ≤ 21 → 1 ≤ lvl op ∧ lvl op ≤ 8 ∧ ofI (sgT op) 2 = some op ∧ isP (sgT op) ≠ 0 := by
  have : ((List.range 22).all fun op => decide (7 ≤ op → 1 ≤ lvl op ∧ lvl op ≤ 8 ∧ ofI (sgT op) 2 = some op ∧ isP (sgT op) ≠ 0)) = true := by decide +kernel
  intro op h1 h2
  have := List.all_eq_true.1 this op (List.mem_range.2 (by omega))
  simp only [decide_eq_true_eq] at this
  exact this h1
theorem Gr.pos {n : Int} {ts : List (List UInt8)} {x : X} (h : Gr n ts x) : 0 < ts.length := by
  cases h <;> simp <;> omega
def wdOf (t : Tk) : List UInt8 := if (isP t.text : Int) = t.kind then t.text else []
theorem next_wd {l : List Tk} {i : Nat} {w : List UInt8} (h : (l.map wdOf)[i]? = some w) : (nextP l i).text = w ∧ (nextP l i).kind = isP w := by
  have hk := nextP_is l i
  have : (nextP l i).text = w := by
    rw [List.getElem?_map] at h
    unfold nextP
    cases hg : l[i]? with
    | none => rw [hg] at h; cases h
    | some t =>
      rw [hg] at h
      simp only [Option.map_some, Option.some.injEq] at h
      simp only
      rw [← h]
      unfold wdOf
      split <;> rfl
  exact ⟨this, by rw [← hk, this]⟩
theorem next_text {l : List Tk} {i : Nat} (h : i < l.length) : (l.map wdOf)[i]? = some (nextP l i).text := by
  have hg : (l.map wdOf)[i]? = some (wdOf l[i]) := by rw [List.getElem?_map, List.getElem?_eq_getElem h]; rfl
  rw [hg, (next_wd hg).1]
def Seg (l : List Tk) (i : Nat) (ts : List (List UInt8)) : Prop := ∃ pre post, l.map wdOf = pre ++ (ts ++ post) ∧ pre.length = i
theorem Seg.le {l : List Tk} {i : Nat} {b : List (List UInt8)} (h : Seg l i b) : i + b.length ≤ l.length := by
  obtain ⟨pre, post, e, hp⟩ := h
  have := congrArg List.length e
  simp only [List.length_map, List.length_append] at this
  omega
theorem Seg.app {l : List Tk} {i : Nat} {a b : List (List UInt8)} (h : Seg l i a) (h2 : Seg l (i + a.length) b) : Seg l i (a ++ b) := by
  obtain ⟨pre, post, e, hp⟩ := h
  obtain ⟨pre2, post2, e2, hp2⟩ := h2
  refine ⟨pre, post2, ?_, hp⟩
  rw [e] at e2
  have h1 : pre ++ (a ++ post) = (pre ++ a) ++ post := by simp
  rw [h1] at e2
  obtain ⟨q1, q2⟩ := List.append_inj e2 (by simp [hp, hp2])
  rw [e, q2]; simp
theorem Seg.one {l : List Tk} {i : Nat} {w : List UInt8} (hi : i < l.length) (h : (nextP l i).text = w) : Seg l i [w] := by
  have hg := next_text hi
  rw [h] at hg
  obtain ⟨q1, q2⟩ := List.getElem?_eq_some_iff.1 hg
  refine ⟨(l.map wdOf).take i, (l.map wdOf).drop (i + 1), ?_, ?_⟩
  · rw [← q2, List.singleton_append, ← List.drop_eq_getElem_cons q1, List.take_append_drop]
  · rw [List.length_take]; omega
def after (r : RS) (k : Nat) (x : X) : RS := ⟨r.i + k, r.nodes ++ x.row r.nodes.length, r.e⟩
theorem parse_pos {t : List UInt8} (h : isP t = 1) : 0 ≤ (parseR (trim0 t)).1 := by
  have hd := (isP_dig h).2
  have h1 : (trim0 t).all isDig = true ∧ trim0 t ≠ [] := by
    unfold trim0
    split
    · exact ⟨by decide, by simp⟩
    · rename_i hn
      refine ⟨?_, hn⟩
      rw [List.all_eq_true] at hd ⊢
      exact fun x hx => hd x ((List.dropWhile_sublist _).mem hx)
  obtain ⟨h1, h2⟩ := h1
  generalize trim0 t = s at h1 h2
  have hh' : (s.head? == some 45) = false := by
    cases s with
    | nil => exact absurd rfl h2
    | cons c r =>
      rw [beq_eq_false_iff_ne]
      intro hc
      have hc : c = 45 := by simpa using hc
      subst hc
      rw [List.all_cons] at h1
      revert h1
      simp [isDig]
  unfold parseR
  rw [hh']
  simp only [Bool.false_eq_true, if_false, or_false]
  split
  · exact Int.le_refl _
  · unfold told
    split
    · exact Int.natCast_nonneg _
    · exact Int.le_refl _
theorem Gr.ok {n : Int} {ts : List (List UInt8)} {x : X} (h : Gr n ts x) : x.ok = true := by
  induction h with
  | @num n t v h1 h2 =>
    have hp := parse_pos h1
    rw [h2] at hp
    have hp : 0 ≤ v := hp
    have : wellP ⟨1, v, [], -1, -1, -1⟩ = true := by
      unfold wellP
      rw [if_neg (by simp; omega), if_neg (by simp)]; rfl
    simp only [X.ok, this, Bool.true_and]; rfl
  | @name n t h1 =>
    have : wellP ⟨2, 0, t, -1, -1, -1⟩ = true := by
      unfold wellP
      rw [if_neg (by simp), if_pos rfl, h1]; rfl
    simp only [X.ok, this, Bool.true_and]; rfl
  | tr => rfl
  | fa => rfl
  | neg _ _ ih => simp only [X.ok, ih, Bool.and_true]; rfl
  | not _ _ ih => simp only [X.ok, ih, Bool.and_true]; rfl
  | par _ ih => exact ih
  | bin h1 h2 _ _ _ ih1 ih2 =>
    simp only [X.ok, ih1, ih2, Bool.and_true, Bool.and_eq_true, decide_eq_true_eq]
    omega
  | ite _ _ _ i1 i2 i3 => simp only [X.ok, i1, i2, i3]; rfl
theorem sgT_of {t : List UInt8} {op : Nat} (h : ofI t 2 = some op) : sgT op = t := by
  obtain ⟨s, h1, h2, _⟩ := ofI_some h
  unfold sgT
  rw [List.getD_eq_getElem?_getD, h1]; exact h2
end Go.Hs
end

section
namespace Go.Hs
open Go.Proofs
set_option maxRecDepth 10000
def sgnR : List (List UInt8) := [[], [], [], [], [], [45], [110, 111, 116], [42], [100, 105, 118], [109, 111, 100], [43], [45], [60], [60, 61], [62], [62, 61], [61], [60, 62], [97, 110, 100], [111, 114], [120, 111, 114], [105, 109, 112, 108, 105, 101, 115]]
theorem sgnR_get (op : Nat) (h : 5 ≤ op) (h2 : op ≤ 21) : sgnR[op]? = some (sgT op) := by
  have : ((List.range 22).all fun op => decide (op < 5) || sgnR[op]? == some (sgT op)) = true := by decide +kernel
  have := List.all_eq_true.1 this op (List.mem_range.2 (by omega))
  simp only [Bool.or_eq_true, decide_eq_true_eq, beq_iff_eq] at this
  rcases this with h | h
  · omega
  · exact h
theorem rSigns_spec (G : Nat → V) (hG : GOk G) : Spec Tryz.prog G 92 [] hNone (fun v _ => v = encSl .new 1 V.str (.mk false sgnR)) := by
  refine Spec.of_code' 0 2 [.tmp 0] Tryz.func92 rfl rfl rfl rfl fun X => ?_
  refine AW.seq_k fun K hK => AW.region (by kernel_rfl) ?_
  simp -implicitDefEqProofs only [go_sem, seval, ↓reduceIte]
  refine hK _ ?_
  clear hK K
  refine AW.seq_k fun K hK => AW.region (by kernel_rfl) ?_
  simp -implicitDefEqProofs only [go_sem, seval, ↓reduceIte]
  intro g1
  refine hK _ ?_
  clear hK K
  refine AW.weak (Weak.stF (fun o => o == 1) (l := [(0, encSl .new 1 V.str (.mk false sgnR))]) (m := []) ?_ trivial) ?_
  · simp -implicitDefEqProofs only [go_sem, seval, ↓reduceIte]
    exact Fz.sl (f := V.str) (l := sgnR) (m := 1) (g := g1) (fz := 0) (c := .new) rfl (by simp -implicitDefEqProofs only [go_sem, seval, ↓reduceIte]; try rfl) (fun _ => rfl)
  refine AW.ret ?_
  simp -implicitDefEqProofs only [go_sem, seval, ↓reduceIte]
  refine endK_some ?_
  rfl
def levL : List V := [.int .i64 0, .int .i64 10, .int .i64 10, .int .i64 10, .int .i64 10, .int .i64 9, .int .i64 9, .int .i64 8, .int .i64 8, .int .i64 8, .int .i64 7, .int .i64 7, .int .i64 6, .int .i64 6, .int .i64 6, .int .i64 6, .int .i64 5, .int .i64 5, .int .i64 4, .int .i64 3, .int .i64 2, .int .i64 1, .int .i64 10]
theorem levL_get (op : Nat) (h : op < 23) : levL[op]? = some (.int .i64 (lvl op)) := by
  match op, h with
  | 0, _ => rfl
  | 1, _ => rfl
  | 2, _ => rfl
  | 3, _ => rfl
  | 4, _ => rfl
  | 5, _ => rfl
  | 6, _ => rfl
  | 7, _ => rfl
  | 8, _ => rfl
  | 9, _ => rfl
  | 10, _ => rfl
  | 11, _ => rfl
  | 12, _ => rfl
  | 13, _ => rfl
  | 14, _ => rfl
  | 15, _ => rfl
  | 16, _ => rfl
  | 17, _ => rfl
  | 18, _ => rfl
  | 19, _ => rfl
  | 20, _ => rfl
  | 21, _ => rfl
  | 22, _ => rfl
  | n + 23, h => exact absurd h (by omega)
theorem rLev_spec (G : Nat → V) (hG : GOk G) (op : Nat) (hop : op < 23) : Spec Tryz.prog G 89 [.int .u8 op] hNone (fun v _ => v = .int .i64 (lvl op)) := by
  refine Spec.of_code' 0 7 [.tmp 2] Tryz.func89 rfl rfl rfl rfl fun X => ?_
  have hg := levL_get op hop
  unfold levL at hg
  have h23 : (op : Int) < 23 := by omega
  refine AW.seq_k fun K hK => AW.region (by kernel_rfl) ?_
  simp -implicitDefEqProofs only [go_sem, seval, ↓reduceIte]
  refine hK _ ?_
  clear hK K
  refine AW.seq_k fun K hK => AW.region (by kernel_rfl) ?_
  simp -implicitDefEqProofs only [go_sem, seval, ↓reduceIte, hg, h23, Int.natCast_nonneg, Nat.mul_one, Nat.zero_add]
  intro g3
  refine hK _ ?_
  clear hK K
  refine AW.ret ?_
  simp -implicitDefEqProofs only [go_sem, seval, ↓reduceIte]
  refine endK_some ?_
  rfl
theorem two_at {t : List UInt8} {op : Nat} (h1 : 7 ≤ op) (h2 : op ≤ 21) : (t ≠ [] ∧ sgT op = t) ↔ ofI t 2 = some op := by
  constructor
  · rintro ⟨_, rfl⟩
    exact (lvl_rng op h1 h2).2.2.1
  · intro h
    exact ⟨(ofI_some h).choose_spec.2.2.2, sgT_of h⟩
theorem wu8 {z : Int} (h : 0 ≤ z) (h2 : z < 256) : IntKind.u8.wrap z = z := by
  unfold IntKind.wrap
  simp [IntKind.signed, IntKind.bits]; omega
theorem rOfTwo_spec (G : Nat → V) (hG : GOk G) (sl : Sl Tk) (hT : TkOk sl.l) (g : Nat) (r : RS) (hr : r.i < 1000000) (n : Int) :
    RdS 1012 [] G 81 [.int .i64 n] sl g r (.int .u8 (twoR sl.l n r.i)) r := by
  intro gx
  refine Spec.of_code' 1000 32 [.tmp 4] Tryz.func81 rfl rfl rfl rfl fun X => ?_
  have hP : twoR sl.l n r.i = match ofI (nextP sl.l r.i).text 2 with | some op => if lvl op = n then op else 0 | none => 0 := rfl
  generalize twoR sl.l n r.i = res at hP ⊢
  refine AW.seq_k fun K hK => AW.region (by kernel_rfl) ?_
  simp -implicitDefEqProofs only [go_sem, seval, ↓reduceIte]
  refine hK _ ?_
  clear hK K
  refine AW.seq_k fun K hK => AW.region (by kernel_rfl) ?_
  simp -implicitDefEqProofs only [go_sem, seval, ↓reduceIte]
  refine RdS.call hG (rNext_spec G hG sl hT g r hr) (gx := gx) (by kernel_rfl) (fun F => rfl) (by decide) (by first | rfl | (simp -implicitDefEqProofs only [go_sem, seval, ↓reduceIte, List.map_cons, List.map_nil, encXN_K]; try rfl)) (by first | rfl | (simp -implicitDefEqProofs only [go_sem, seval, ↓reduceIte, List.map_cons, List.map_nil]; try rfl)) (by first | rfl | (simp -implicitDefEqProofs only [go_sem, seval, ↓reduceIte]; try rfl)) (by first | rfl | (simp -implicitDefEqProofs only [go_sem, seval, ↓reduceIte]; try rfl)) fun gx1 => ?_
  simp -implicitDefEqProofs only [go_sem, seval, ↓reduceIte, sets]
  refine hK _ ?_
  clear hK K
  generalize (nextP sl.l r.i).text = t at hP ⊢
  refine AW.seq_k fun K hK => AW.region (by kernel_rfl) ?_
  simp -implicitDefEqProofs only [go_sem, seval, ↓reduceIte]
  refine CallA.pure hG (by kernel_rfl) ?_
  simp -implicitDefEqProofs only [go_sem, seval, ↓reduceIte, List.map_nil]
  refine (rSigns_spec G hG).mono ?_
  rintro _ _ rfl
  simp -implicitDefEqProofs only [go_sem, seval, ↓reduceIte]
  refine hK _ ?_
  clear hK K
  refine AW.seq_k fun K1 hK1 => ?_
  refine AW.seq_k fun K hK => AW.region (by kernel_rfl) ?_
  simp -implicitDefEqProofs only [go_sem, seval, ↓reduceIte]
  refine hK _ ?_
  clear hK K
  refine AW.block ?_
  refine AW.for 22 (fun k (_ : Unit) => st [(0, .ptr 8 g 0), (1, .int .i64 n), (5, .str t), (6, encSl .new 1 V.str (.mk false sgnR)), (7, .int .u8 k)] [(8, rdO 1012 [] sl g gx1 r), (1012, ndO gx1 r.nodes)])
    (fun k _ => 7 ≤ k ∧ ∀ j, 7 ≤ j → j < k → ¬ (ofI t 2 = some j ∧ lvl j = n)) 7 () (by decide) ⟨Nat.le_refl _, fun j h1 h2 => by omega⟩
    (Weak.st (by simp -implicitDefEqProofs only [go_sem, seval, ↓reduceIte]; try rfl) (by simp -implicitDefEqProofs only [go_sem, seval, ↓reduceIte]; try rfl)) ?_
  rintro k _ hk ⟨hk7, hR⟩ L3 hL3
  refine AW.seq_k fun K4 hK4 => ?_
  refine AW.seq_k fun K hK => AW.region (by kernel_rfl) ?_
  simp -implicitDefEqProofs only [go_sem, seval, ↓reduceIte]
  refine hK _ ?_
  clear hK K
  refine AW.condS (by simp -implicitDefEqProofs only [go_sem, seval, ↓reduceIte]; rfl) (fun h12 => ?_) (fun h12 => ?_)
  · have hk1 : k ≤ 21 := by have h12 : decide ((k : Int) ≤ 21) = true := h12; simp at h12; omega
    have hg := sgnR_get k (by omega) hk1
    have hnext : ¬ (ofI t 2 = some k ∧ lvl k = n) → ∀ j, 7 ≤ j → j < k + 1 → ¬ (ofI t 2 = some j ∧ lvl j = n) := by
      intro h j h1 h2
      by_cases q : j = k
      · subst q; exact h
      · exact hR j h1 (by omega)
    have hwr : IntKind.u8.wrap ((k : Int) + 1) = ((k + 1 : Nat) : Int) := by rw [wu8 (by omega) (by omega)]; omega
    refine AW.skip ?_
    simp -implicitDefEqProofs only [go_sem, seval, ↓reduceIte]
    refine hK4 _ ?_
    refine AW.seq_k fun K5 hK5 => ?_
    refine AW.block ?_
    by_cases ht : t = []
    · have e1 : (t == []) = true := by rw [ht]; rfl
      refine AW.seq_k fun K hK => AW.region (by kernel_rfl) ?_
      simp -implicitDefEqProofs only [go_sem, seval, ↓reduceIte, e1]
      refine hK _ ?_
      clear hK K
      refine AW.condS (by simp -implicitDefEqProofs only [go_sem, seval, ↓reduceIte]; rfl) (fun h30 => ?_) (fun h30 => ?_)
      · cases h30
      refine AW.skip ?_
      simp -implicitDefEqProofs only [go_sem, seval, ↓reduceIte]
      refine hK5 _ ?_
      refine AW.region (by kernel_rfl) ?_
      simp -implicitDefEqProofs only [go_sem, seval, ↓reduceIte, hwr]
      exact hL3 _ ⟨by omega, (), ⟨by omega, hnext (fun h => (two_at hk7 hk1).2 h.1 |>.1 ht)⟩, Weak.st (by simp -implicitDefEqProofs only [go_sem, seval, ↓reduceIte]; try rfl) (by simp -implicitDefEqProofs only [go_sem, seval, ↓reduceIte]; try rfl)⟩
    have e1 : (t == []) = false := by simpa using ht
    by_cases hs : sgT k = t
    rotate_left
    · have e2 : (sgT k == t) = false := by simpa using hs
      refine AW.seq_k fun K hK => AW.region (by kernel_rfl) ?_
      simp -implicitDefEqProofs only [go_sem, seval, ↓reduceIte, e1, hg, e2]
      refine hK _ ?_
      clear hK K
      refine AW.condS (by simp -implicitDefEqProofs only [go_sem, seval, ↓reduceIte]; rfl) (fun h30 => ?_) (fun h30 => ?_)
      · cases h30
      refine AW.skip ?_
      simp -implicitDefEqProofs only [go_sem, seval, ↓reduceIte]
      refine hK5 _ ?_
      refine AW.region (by kernel_rfl) ?_
      simp -implicitDefEqProofs only [go_sem, seval, ↓reduceIte, hwr]
      exact hL3 _ ⟨by omega, (), ⟨by omega, hnext (fun h => hs ((two_at hk7 hk1).2 h.1).2)⟩, Weak.st (by simp -implicitDefEqProofs only [go_sem, seval, ↓reduceIte]; try rfl) (by simp -implicitDefEqProofs only [go_sem, seval, ↓reduceIte]; try rfl)⟩
    have e2 : (sgT k == t) = true := by simpa using hs
    have ho := (two_at hk7 hk1).1 ⟨ht, hs⟩
    refine AW.seq_k fun K hK => AW.region (by kernel_rfl) ?_
    simp -implicitDefEqProofs only [go_sem, seval, ↓reduceIte, e1, hg, e2]
    refine CallA.pure hG (by kernel_rfl) ?_
    simp -implicitDefEqProofs only [go_sem, seval, ↓reduceIte]
    refine (rLev_spec G hG k (by omega)).mono ?_
    rintro _ _ rfl
    simp -implicitDefEqProofs only [go_sem, seval, ↓reduceIte]
    refine hK _ ?_
    clear hK K
    rw [ho] at hP
    simp only at hP
    by_cases hl : lvl k = n
    · rw [if_pos hl] at hP
      have e3 : (lvl k == n) = true := by simpa using hl
      rw [e3]
      refine AW.condS (by simp -implicitDefEqProofs only [go_sem, seval, ↓reduceIte]; rfl) (fun h30 => ?_) (fun h30 => ?_)
      rotate_left
      · cases h30
      refine AW.seq_k fun K hK => AW.region (by kernel_rfl) ?_
      simp -implicitDefEqProofs only [go_sem, seval, ↓reduceIte]
      refine hK _ ?_
      clear hK K
      refine AW.ret ?_
      simp -implicitDefEqProofs only [go_sem, seval, ↓reduceIte]
      refine endK_some ?_
      rw [hP]
      exact ⟨rfl, gx1, by first | rfl | (simp -implicitDefEqProofs only [go_sem, seval, ↓reduceIte]; try rfl), by first | rfl | (simp -implicitDefEqProofs only [go_sem, seval, ↓reduceIte]; try rfl)⟩
    · have e3 : (lvl k == n) = false := by simpa using hl
      rw [e3]
      refine AW.condS (by simp -implicitDefEqProofs only [go_sem, seval, ↓reduceIte]; rfl) (fun h30 => ?_) (fun h30 => ?_)
      · cases h30
      refine AW.skip ?_
      simp -implicitDefEqProofs only [go_sem, seval, ↓reduceIte]
      refine hK5 _ ?_
      refine AW.region (by kernel_rfl) ?_
      simp -implicitDefEqProofs only [go_sem, seval, ↓reduceIte, hwr]
      exact hL3 _ ⟨by omega, (), ⟨by omega, hnext (fun h => hl h.2)⟩, Weak.st (by simp -implicitDefEqProofs only [go_sem, seval, ↓reduceIte]; try rfl) (by simp -implicitDefEqProofs only [go_sem, seval, ↓reduceIte]; try rfl)⟩
  · have hk1 : k = 22 := by have h12 : decide ((k : Int) ≤ 21) = false := h12; simp at h12; omega
    refine AW.exit ?_
    simp -implicitDefEqProofs only [go_sem, seval, ↓reduceIte]
    refine hK1 _ ?_
    have hP : res = 0 := by
      rw [hP]
      cases ho : ofI t 2 with
      | none => rfl
      | some op =>
        simp only
        rw [if_neg]
        intro hl
        have := ofI_two ho
        exact hR op this.1 (by omega) ⟨ho, hl⟩
    refine AW.seq_k fun K hK => AW.region (by kernel_rfl) ?_
    simp -implicitDefEqProofs only [go_sem, seval, ↓reduceIte]
    refine hK _ ?_
    clear hK K
    refine AW.ret ?_
    simp -implicitDefEqProofs only [go_sem, seval, ↓reduceIte]
    refine endK_some ?_
    rw [hP]
    exact ⟨rfl, gx1, by first | rfl | (simp -implicitDefEqProofs only [go_sem, seval, ↓reduceIte]; try rfl), by first | rfl | (simp -implicitDefEqProofs only [go_sem, seval, ↓reduceIte]; try rfl)⟩
end Go.Hs
end

section
namespace Go.Hs
open Go.Proofs
set_option maxRecDepth 10000
theorem rUnary_spec (G : Nat → V) (hG : GOk G) (sl : Sl Tk) (hT : TkOk sl.l) (g : Nat) (r : RS) (hr : RSok sl.l r) (inner : Inner) (hin : InnR G sl g inner r.i) (hb : Bals sl.l inner) :
    RdS 1012 [] G 80 [] sl g r (.bool (unR sl.l inner r).1) (unR sl.l inner r).2 := by
  have hTl := hT.len
  have hri : r.i < 1000000 := by have := hr.1; omega
  have hw : IntKind.i64.wrap ((r.i : Int) + 1) = ((r.i + 1 : Nat) : Int) := by rw [w64 (by omega) (by omega)]; omega
  intro gx
  refine Spec.of_code' 1000 29 [.tmp 2] Tryz.func80 rfl rfl rfl rfl fun X => ?_
  have hP : unR sl.l inner r = if (nextP sl.l r.i).text = [45] then andThen (inner 9 r.adv) fun a => (true, a.put ⟨5, 0, [], a.last, -1, -1⟩)
    else if (nextP sl.l r.i).text = [110, 111, 116] then andThen (inner 9 r.adv) fun a => (true, a.put ⟨6, 0, [], a.last, -1, -1⟩)
    else primR sl.l inner r := rfl
  have hpr := rPrimary_spec G hG sl hT g r hr inner hin hb
  have hlt : (nextP sl.l r.i).text ≠ [] → r.i < sl.l.length := by
    intro h
    rw [← Nat.not_le]
    intro h2
    apply h
    rw [nextP_none h2]
  generalize unR sl.l inner r = res at hP ⊢
  generalize primR sl.l inner r = pr at hP hpr
  refine AW.seq_k fun K hK => AW.region (by kernel_rfl) ?_
  simp -implicitDefEqProofs only [go_sem, seval, ↓reduceIte]
  refine hK _ ?_
  clear hK K
  refine AW.seq_k fun K hK => AW.region (by kernel_rfl) ?_
  simp -implicitDefEqProofs only [go_sem, seval, ↓reduceIte]
  refine hK _ ?_
  clear hK K
  refine AW.seqJ (fun (x : Nat × Int) => st [(0, .ptr 8 g 0), (3, .int .u8 x.2)] [(8, rdO 1012 [] sl g x.1 r), (1012, ndO x.1 r.nodes)]) (fun x => r.i < sl.l.length ∧ res = andThen (inner 9 r.adv) fun a => (true, a.put ⟨x.2, 0, [], a.last, -1, -1⟩)) (fun K1 hK1 => ?_) ?_
  · refine AW.seq_k fun K hK => AW.region (by kernel_rfl) ?_
    simp -implicitDefEqProofs only [go_sem, seval, ↓reduceIte]
    refine RdS.call hG (rNext_spec G hG sl hT g r hri) (gx := gx) (by kernel_rfl) (fun F => rfl) (by decide) (by first | rfl | (simp -implicitDefEqProofs only [go_sem, seval, ↓reduceIte, List.map_cons, List.map_nil, encXN_K]; try rfl)) (by first | rfl | (simp -implicitDefEqProofs only [go_sem, seval, ↓reduceIte, List.map_cons, List.map_nil]; try rfl)) (by first | rfl | (simp -implicitDefEqProofs only [go_sem, seval, ↓reduceIte]; try rfl)) (by first | rfl | (simp -implicitDefEqProofs only [go_sem, seval, ↓reduceIte]; try rfl)) fun gx1 => ?_
    simp -implicitDefEqProofs only [go_sem, seval, ↓reduceIte, sets]
    refine hK _ ?_
    clear hK K
    generalize (nextP sl.l r.i).text = t at hP hlt ⊢
    refine AW.block ?_
    by_cases c1 : t = [45]
    · have e1 : (t == [45]) = true := by simpa using c1
      rw [if_pos c1] at hP
      refine AW.seq_k fun K hK => AW.region (by kernel_rfl) ?_
      simp -implicitDefEqProofs only [go_sem, seval, ↓reduceIte, e1]
      refine hK _ ?_
      clear hK K
      refine AW.condS (by simp -implicitDefEqProofs only [go_sem, seval, ↓reduceIte]; rfl) (fun h2 => ?_) (fun h2 => ?_)
      rotate_left
      · cases h2
      refine AW.region (by kernel_rfl) ?_
      simp -implicitDefEqProofs only [go_sem, seval, ↓reduceIte]
      exact hK1 _ (gx1, 5) ⟨hlt (by rw [c1]; simp), hP⟩ (Weak.st (by simp -implicitDefEqProofs only [go_sem, seval, ↓reduceIte]; try rfl) (by simp -implicitDefEqProofs only [go_sem, seval, ↓reduceIte]; try rfl))
    have e1 : (t == [45]) = false := by simpa using c1
    rw [if_neg c1] at hP
    refine AW.seq_k fun K hK => AW.region (by kernel_rfl) ?_
    simp -implicitDefEqProofs only [go_sem, seval, ↓reduceIte, e1]
    refine hK _ ?_
    clear hK K
    refine AW.condS (by simp -implicitDefEqProofs only [go_sem, seval, ↓reduceIte]; rfl) (fun h2 => ?_) (fun h2 => ?_)
    · cases h2
    clear h2
    by_cases c2 : t = [110, 111, 116]
    · have e2 : (t == [110, 111, 116]) = true := by simpa using c2
      rw [if_pos c2] at hP
      refine AW.seq_k fun K hK => AW.region (by kernel_rfl) ?_
      simp -implicitDefEqProofs only [go_sem, seval, ↓reduceIte, e2]
      refine hK _ ?_
      clear hK K
      refine AW.condS (by simp -implicitDefEqProofs only [go_sem, seval, ↓reduceIte]; rfl) (fun h2 => ?_) (fun h2 => ?_)
      rotate_left
      · cases h2
      refine AW.region (by kernel_rfl) ?_
      simp -implicitDefEqProofs only [go_sem, seval, ↓reduceIte]
      exact hK1 _ (gx1, 6) ⟨hlt (by rw [c2]; simp), hP⟩ (Weak.st (by simp -implicitDefEqProofs only [go_sem, seval, ↓reduceIte]; try rfl) (by simp -implicitDefEqProofs only [go_sem, seval, ↓reduceIte]; try rfl))
    have e2 : (t == [110, 111, 116]) = false := by simpa using c2
    rw [if_neg c2] at hP
    refine AW.seq_k fun K hK => AW.region (by kernel_rfl) ?_
    simp -implicitDefEqProofs only [go_sem, seval, ↓reduceIte, e2]
    refine hK _ ?_
    clear hK K
    refine AW.condS (by simp -implicitDefEqProofs only [go_sem, seval, ↓reduceIte]; rfl) (fun h2 => ?_) (fun h2 => ?_)
    · cases h2
    refine AW.seq_k fun K hK => AW.region (by kernel_rfl) ?_
    simp -implicitDefEqProofs only [go_sem, seval, ↓reduceIte]
    refine RdS.call hG (hpr) (gx := gx1) (by kernel_rfl) (fun F => rfl) (by decide) (by first | rfl | (simp -implicitDefEqProofs only [go_sem, seval, ↓reduceIte, List.map_cons, List.map_nil, encXN_K]; try rfl)) (by first | rfl | (simp -implicitDefEqProofs only [go_sem, seval, ↓reduceIte, List.map_cons, List.map_nil]; try rfl)) (by first | rfl | (simp -implicitDefEqProofs only [go_sem, seval, ↓reduceIte]; try rfl)) (by first | rfl | (simp -implicitDefEqProofs only [go_sem, seval, ↓reduceIte]; try rfl)) fun gx2 => ?_
    simp -implicitDefEqProofs only [go_sem, seval, ↓reduceIte, sets]
    refine hK _ ?_
    clear hK K
    refine AW.ret ?_
    simp -implicitDefEqProofs only [go_sem, seval, ↓reduceIte]
    refine endK_some ?_
    rw [hP]
    exact ⟨rfl, gx2, by first | rfl | (simp -implicitDefEqProofs only [go_sem, seval, ↓reduceIte]; try rfl), by first | rfl | (simp -implicitDefEqProofs only [go_sem, seval, ↓reduceIte]; try rfl)⟩
  rintro ⟨gx, op⟩ ⟨hl, hP⟩
  replace hP : res = andThen (inner 9 r.adv) fun a => (true, a.put ⟨op, 0, [], a.last, -1, -1⟩) := hP
  have had : RSok sl.l r.adv := (Bal.adv hl).ok hr
  have hc := hin.un r.adv (Nat.lt_succ_self _) had
  have hbl := (hb 9 r.adv).ok had
  generalize inner 9 r.adv = x at hc hP hbl
  obtain ⟨b, a⟩ := x
  simp only at hc hbl
  have han : a.nodes.length < 1000000 := by have := hbl.1; have := hbl.2; omega
  refine AW.seq_k fun K hK => AW.region (by kernel_rfl) ?_
  simp -implicitDefEqProofs only [go_sem, seval, ↓reduceIte, rdO_K, hw]
  refine hK _ ?_
  clear hK K
  cases b with
  | false =>
    rw [andThen_false] at hP
    refine AW.seq_k fun K hK => AW.region (by kernel_rfl) ?_
    simp -implicitDefEqProofs only [go_sem, seval, ↓reduceIte, rdO_K]
    refine RdS.call hG (hc) (gx := gx) (by kernel_rfl) (fun F => rfl) (by decide) (by first | rfl | (simp -implicitDefEqProofs only [go_sem, seval, ↓reduceIte, List.map_cons, List.map_nil, encXN_K]; try rfl)) (by first | rfl | (simp -implicitDefEqProofs only [go_sem, seval, ↓reduceIte, List.map_cons, List.map_nil]; try rfl)) (by first | rfl | (simp -implicitDefEqProofs only [go_sem, seval, ↓reduceIte]; try rfl)) (by first | rfl | (simp -implicitDefEqProofs only [go_sem, seval, ↓reduceIte]; try rfl)) fun gx2 => ?_
    simp -implicitDefEqProofs only [go_sem, seval, ↓reduceIte, sets]
    refine hK _ ?_
    clear hK K
    refine AW.ret ?_
    simp -implicitDefEqProofs only [go_sem, seval, ↓reduceIte]
    refine endK_some ?_
    rw [hP]
    exact ⟨rfl, gx2, by first | rfl | (simp -implicitDefEqProofs only [go_sem, seval, ↓reduceIte]; try rfl), by first | rfl | (simp -implicitDefEqProofs only [go_sem, seval, ↓reduceIte]; try rfl)⟩
  | true =>
    rw [andThen_true] at hP
    refine AW.seq_k fun K hK => AW.region (by kernel_rfl) ?_
    simp -implicitDefEqProofs only [go_sem, seval, ↓reduceIte, rdO_K]
    refine RdS.call hG (hc) (gx := gx) (by kernel_rfl) (fun F => rfl) (by decide) (by first | rfl | (simp -implicitDefEqProofs only [go_sem, seval, ↓reduceIte, List.map_cons, List.map_nil, encXN_K]; try rfl)) (by first | rfl | (simp -implicitDefEqProofs only [go_sem, seval, ↓reduceIte, List.map_cons, List.map_nil]; try rfl)) (by first | rfl | (simp -implicitDefEqProofs only [go_sem, seval, ↓reduceIte]; try rfl)) (by first | rfl | (simp -implicitDefEqProofs only [go_sem, seval, ↓reduceIte]; try rfl)) fun gx2 => ?_
    simp -implicitDefEqProofs only [go_sem, seval, ↓reduceIte, sets]
    simp -implicitDefEqProofs only [go_sem, seval, ↓reduceIte, rdO_K]
    refine RdS.call hG (rLast_spec G hG sl g a han) (gx := gx2) (by kernel_rfl) (fun F => rfl) (by decide) (by first | rfl | (simp -implicitDefEqProofs only [go_sem, seval, ↓reduceIte, List.map_cons, List.map_nil, encXN_K]; try rfl)) (by first | rfl | (simp -implicitDefEqProofs only [go_sem, seval, ↓reduceIte, List.map_cons, List.map_nil]; try rfl)) (by first | rfl | (simp -implicitDefEqProofs only [go_sem, seval, ↓reduceIte]; try rfl)) (by first | rfl | (simp -implicitDefEqProofs only [go_sem, seval, ↓reduceIte]; try rfl)) fun gx3 => ?_
    simp -implicitDefEqProofs only [go_sem, seval, ↓reduceIte, sets]
    simp -implicitDefEqProofs only [go_sem, seval, ↓reduceIte, rdO_K]
    rw [← encXN_K ⟨op, 0, [], a.last, -1, -1⟩]
    refine RdS.call hG (rPutN_spec G hG sl g a han ⟨op, 0, [], a.last, -1, -1⟩) (gx := gx3) (by kernel_rfl) (fun F => rfl) (by decide) (by first | rfl | (simp -implicitDefEqProofs only [go_sem, seval, ↓reduceIte, List.map_cons, List.map_nil, encXN_K]; try rfl)) (by first | rfl | (simp -implicitDefEqProofs only [go_sem, seval, ↓reduceIte, List.map_cons, List.map_nil]; try rfl)) (by first | rfl | (simp -implicitDefEqProofs only [go_sem, seval, ↓reduceIte]; try rfl)) (by first | rfl | (simp -implicitDefEqProofs only [go_sem, seval, ↓reduceIte]; try rfl)) fun gx4 => ?_
    simp -implicitDefEqProofs only [go_sem, seval, ↓reduceIte, sets]
    refine hK _ ?_
    clear hK K
    refine AW.ret ?_
    simp -implicitDefEqProofs only [go_sem, seval, ↓reduceIte]
    refine endK_some ?_
    rw [hP]
    exact ⟨rfl, gx4, by first | rfl | (simp -implicitDefEqProofs only [go_sem, seval, ↓reduceIte]; try rfl), by first | rfl | (simp -implicitDefEqProofs only [go_sem, seval, ↓reduceIte]; try rfl)⟩
theorem levK_bal {l : List Tk} {f : Nat} (k : Nat) (r : RS) : Bal l 0 r (levK l (climbP l f) k r).2 := by
  rw [levK_climb (climbP_mono l f) (fun _ _ => climbP_ends)]
  exact Bal.then (aheadP_bal (climbP_bal l f) r) fun _ => (aheadP_bal (climbP_bal l f) r).trans (loopP_bal (climbP_bal l f) _ _ _)
theorem tailR_succ (l : List Tk) (inner : Inner) (n : Int) (m : Nat) (r : RS) : tailR l inner n (m + 1) r = if twoR l n r.i = 0 then (true, r) else andThen (inner (n + 1) r.adv) fun a => tailR l inner n m (a.put ⟨twoR l n r.i, 0, [], r.last, a.last, -1⟩) := rfl
theorem twoR_op {l : List Tk} {n : Int} {i : Nat} (h : twoR l n i ≠ 0) : i < l.length ∧ twoR l n i ≤ 21 := by
  unfold twoR at h ⊢
  cases ho : ofI (nextP l i).text 2 with
  | none => rw [ho] at h; exact absurd rfl h
  | some op =>
    have h2 := ofI_two ho
    have : opAt l i = some op := by rw [opAt_two, ho]
    refine ⟨opAt_lt this, ?_⟩
    simp only
    split <;> omega
theorem rLevel_spec (G : Nat → V) (hG : GOk G) (sl : Sl Tk) (hT : TkOk sl.l) (g : Nat) : ∀ (f : Nat) (r : RS), sl.l.length < f + r.i → RSok sl.l r →
    (∀ n, 1 ≤ n → n ≤ 9 → RdS 1012 [] G 57 [.int .i64 n] sl g r (.bool (climbP sl.l f n r).1) (climbP sl.l f n r).2) ∧
    RdS 1012 [] G 80 [] sl g r (.bool (climbP sl.l f 9 r).1) (climbP sl.l f 9 r).2 := by
  have hTl := hT.len
  intro f
  induction f with
  | zero => intro r hf hr; have := hr.1; omega
  | succ f ih =>
  intro r hf hr
  have hin : InnR G sl g (climbP sl.l f) r.i := ⟨fun n r' h1 h9 hi hr' => (ih r' (by omega) hr').1 n h1 h9, fun r' hi hr' => (ih r' (by omega) hr').2⟩
  have hbs := climbP_bal sl.l f
  have hun := rUnary_spec G hG sl hT g r hr _ hin hbs
  have hcl : ∀ k : Nat, climbP sl.l (f + 1) (9 - k) r = levK sl.l (climbP sl.l f) k r := by
    intro k
    rw [levK_climb (climbP_mono sl.l f) (fun _ _ => climbP_ends)]; rfl
  have h9 : climbP sl.l (f + 1) 9 r = unR sl.l (climbP sl.l f) r := hcl 0
  rw [h9]
  refine ⟨?_, hun⟩
  suffices h : ∀ k : Nat, k ≤ 8 → RdS 1012 [] G 57 [.int .i64 (9 - k)] sl g r (.bool (levK sl.l (climbP sl.l f) k r).1) (levK sl.l (climbP sl.l f) k r).2 by
    intro n h1 hn9
    have := h (9 - n).toNat (by omega)
    rw [← hcl, show (9 : Int) - ((9 - n).toNat : Nat) = n by omega] at this
    exact this
  intro k
  induction k with
  | zero =>
    intro _ gx
    refine Spec.of_code' 1000 46 [.tmp 4] Tryz.func57 rfl rfl rfl rfl fun X => ?_
    have hP : levK sl.l (climbP sl.l f) 0 r = unR sl.l (climbP sl.l f) r := rfl
    generalize levK sl.l (climbP sl.l f) 0 r = res at hP ⊢
    generalize unR sl.l (climbP sl.l f) r = y at hP hun
    refine AW.seq_k fun K hK => AW.region (by kernel_rfl) ?_
    simp -implicitDefEqProofs only [go_sem, seval, ↓reduceIte]
    refine hK _ ?_
    clear hK K
    refine AW.seq_k fun K1 hK1 => ?_
    refine AW.seq_k fun K hK => AW.region (by kernel_rfl) ?_
    simp -implicitDefEqProofs only [go_sem, seval, ↓reduceIte]
    refine hK _ ?_
    clear hK K
    refine AW.condS (by simp -implicitDefEqProofs only [go_sem, seval, ↓reduceIte]; rfl) (fun h8 => ?_) (fun h8 => ?_)
    · cases h8
    refine AW.skip ?_
    simp -implicitDefEqProofs only [go_sem, seval, ↓reduceIte]
    refine hK1 _ ?_
    refine AW.seq_k fun K2 hK2 => ?_
    refine AW.seq_k fun K hK => AW.region (by kernel_rfl) ?_
    simp -implicitDefEqProofs only [go_sem, seval, ↓reduceIte]
    refine hK _ ?_
    clear hK K
    refine AW.condS (by simp -implicitDefEqProofs only [go_sem, seval, ↓reduceIte]; rfl) (fun h12 => ?_) (fun h12 => ?_)
    rotate_left
    · cases h12
    refine AW.seq_k fun K hK => AW.region (by kernel_rfl) ?_
    simp -implicitDefEqProofs only [go_sem, seval, ↓reduceIte]
    refine RdS.call hG (hun) (gx := gx) (by kernel_rfl) (fun F => rfl) (by decide) (by first | rfl | (simp -implicitDefEqProofs only [go_sem, seval, ↓reduceIte, List.map_cons, List.map_nil, encXN_K]; try rfl)) (by first | rfl | (simp -implicitDefEqProofs only [go_sem, seval, ↓reduceIte, List.map_cons, List.map_nil]; try rfl)) (by first | rfl | (simp -implicitDefEqProofs only [go_sem, seval, ↓reduceIte]; try rfl)) (by first | rfl | (simp -implicitDefEqProofs only [go_sem, seval, ↓reduceIte]; try rfl)) fun gx1 => ?_
    simp -implicitDefEqProofs only [go_sem, seval, ↓reduceIte, sets]
    refine hK _ ?_
    clear hK K
    refine AW.ret ?_
    simp -implicitDefEqProofs only [go_sem, seval, ↓reduceIte]
    refine endK_some ?_
    rw [hP]
    exact ⟨rfl, gx1, by first | rfl | (simp -implicitDefEqProofs only [go_sem, seval, ↓reduceIte]; try rfl), by first | rfl | (simp -implicitDefEqProofs only [go_sem, seval, ↓reduceIte]; try rfl)⟩
  | succ k ihk =>
    intro hk gx
    have ihk := ihk (by omega)
    obtain ⟨n, hn⟩ : ∃ n : Int, n = 8 - k := ⟨_, rfl⟩
    have e9 : (9 : Int) - ((k + 1 : Nat) : Int) = n := by omega
    have e9k : (9 : Int) - (k : Int) = n + 1 := by omega
    have hn1 : 1 ≤ n ∧ n ≤ 8 := by omega
    rw [e9]
    rw [e9k] at ihk
    refine Spec.of_code' 1000 46 [.tmp 4] Tryz.func57 rfl rfl rfl rfl fun X => ?_
    have hP : levK sl.l (climbP sl.l f) (k + 1) r = andThen (levK sl.l (climbP sl.l f) k r) (tailR sl.l (climbP sl.l f) n (sl.l.length + 1)) := by rw [levK, hn]
    have hlb := levK_bal (l := sl.l) (f := f) k r
    generalize levK sl.l (climbP sl.l f) (k + 1) r = res at hP ⊢
    generalize levK sl.l (climbP sl.l f) k r = y at hP ihk hlb
    obtain ⟨b, q0⟩ := y
    simp only at ihk hlb
    have q10 : (n == 10) = false := by rw [beq_eq_false_iff_ne]; omega
    have q9 : (n == 9) = false := by rw [beq_eq_false_iff_ne]; omega
    have hw1 : IntKind.i64.wrap (n + 1) = n + 1 := w64 (by omega) (by omega)
    refine AW.seq_k fun K hK => AW.region (by kernel_rfl) ?_
    simp -implicitDefEqProofs only [go_sem, seval, ↓reduceIte]
    refine hK _ ?_
    clear hK K
    refine AW.seq_k fun K1 hK1 => ?_
    refine AW.seq_k fun K hK => AW.region (by kernel_rfl) ?_
    simp -implicitDefEqProofs only [go_sem, seval, ↓reduceIte, q10]
    refine hK _ ?_
    clear hK K
    refine AW.condS (by simp -implicitDefEqProofs only [go_sem, seval, ↓reduceIte]; rfl) (fun h8 => ?_) (fun h8 => ?_)
    · cases h8
    refine AW.skip ?_
    simp -implicitDefEqProofs only [go_sem, seval, ↓reduceIte]
    refine hK1 _ ?_
    refine AW.seq_k fun K2 hK2 => ?_
    refine AW.seq_k fun K hK => AW.region (by kernel_rfl) ?_
    simp -implicitDefEqProofs only [go_sem, seval, ↓reduceIte, q9]
    refine hK _ ?_
    clear hK K
    refine AW.condS (by simp -implicitDefEqProofs only [go_sem, seval, ↓reduceIte]; rfl) (fun h12 => ?_) (fun h12 => ?_)
    · cases h12
    refine AW.skip ?_
    simp -implicitDefEqProofs only [go_sem, seval, ↓reduceIte]
    refine hK2 _ ?_
    refine AW.seq_k fun K3 hK3 => ?_
    cases b with
    | false =>
      rw [andThen_false] at hP
      refine AW.seq_k fun K hK => AW.region (by kernel_rfl) ?_
      simp -implicitDefEqProofs only [go_sem, seval, ↓reduceIte, hw1]
      refine RdS.call hG (ihk) (gx := gx) (by kernel_rfl) (fun F => rfl) (by decide) (by first | rfl | (simp -implicitDefEqProofs only [go_sem, seval, ↓reduceIte, List.map_cons, List.map_nil, encXN_K]; try rfl)) (by first | rfl | (simp -implicitDefEqProofs only [go_sem, seval, ↓reduceIte, List.map_cons, List.map_nil]; try rfl)) (by first | rfl | (simp -implicitDefEqProofs only [go_sem, seval, ↓reduceIte]; try rfl)) (by first | rfl | (simp -implicitDefEqProofs only [go_sem, seval, ↓reduceIte]; try rfl)) fun gx1 => ?_
      simp -implicitDefEqProofs only [go_sem, seval, ↓reduceIte, sets]
      refine hK _ ?_
      clear hK K
      refine AW.condS (by simp -implicitDefEqProofs only [go_sem, seval, ↓reduceIte]; rfl) (fun h19 => ?_) (fun h19 => ?_)
      rotate_left
      · cases h19
      refine AW.seq_k fun K hK => AW.region (by kernel_rfl) ?_
      simp -implicitDefEqProofs only [go_sem, seval, ↓reduceIte]
      refine hK _ ?_
      clear hK K
      refine AW.ret ?_
      simp -implicitDefEqProofs only [go_sem, seval, ↓reduceIte]
      refine endK_some ?_
      rw [hP]
      exact ⟨rfl, gx1, by first | rfl | (simp -implicitDefEqProofs only [go_sem, seval, ↓reduceIte]; try rfl), by first | rfl | (simp -implicitDefEqProofs only [go_sem, seval, ↓reduceIte]; try rfl)⟩
    | true =>
    rw [andThen_true] at hP
    have hq0 := hlb.ok hr
    refine AW.seq_k fun K hK => AW.region (by kernel_rfl) ?_
    simp -implicitDefEqProofs only [go_sem, seval, ↓reduceIte, hw1]
    refine RdS.call hG (ihk) (gx := gx) (by kernel_rfl) (fun F => rfl) (by decide) (by first | rfl | (simp -implicitDefEqProofs only [go_sem, seval, ↓reduceIte, List.map_cons, List.map_nil, encXN_K]; try rfl)) (by first | rfl | (simp -implicitDefEqProofs only [go_sem, seval, ↓reduceIte, List.map_cons, List.map_nil]; try rfl)) (by first | rfl | (simp -implicitDefEqProofs only [go_sem, seval, ↓reduceIte]; try rfl)) (by first | rfl | (simp -implicitDefEqProofs only [go_sem, seval, ↓reduceIte]; try rfl)) fun gx1 => ?_
    simp -implicitDefEqProofs only [go_sem, seval, ↓reduceIte, sets]
    refine hK _ ?_
    clear hK K
    refine AW.condS (by simp -implicitDefEqProofs only [go_sem, seval, ↓reduceIte]; rfl) (fun h19 => ?_) (fun h19 => ?_)
    · cases h19
    refine AW.skip ?_
    simp -implicitDefEqProofs only [go_sem, seval, ↓reduceIte]
    refine hK3 _ ?_
    refine AW.block ?_
    refine AW.while (fun (x : Nat × Nat × RS) => st [(0, .ptr 8 g 0), (1, .int .i64 n)] [(8, rdO 1012 [] sl g x.1 x.2.2), (1012, ndO x.1 x.2.2.nodes)])
      (fun x => res = tailR sl.l (climbP sl.l f) n x.2.1 x.2.2 ∧ RSok sl.l x.2.2 ∧ r.i ≤ x.2.2.i ∧ sl.l.length < x.2.1 + x.2.2.i) (fun x => x.2.1) (gx1, sl.l.length + 1, q0) ⟨hP, hq0, hlb.up, Nat.lt_add_right _ (Nat.lt_succ_self _)⟩
      (Weak.st (by simp -implicitDefEqProofs only [go_sem, seval, ↓reduceIte]; try rfl) (by simp -implicitDefEqProofs only [go_sem, seval, ↓reduceIte]; try rfl)) ?_
    clear hP
    rintro ⟨gy, m, q⟩ ⟨hP, hq, hqi, hm⟩ L3 hL3
    replace hP : res = tailR sl.l (climbP sl.l f) n m q := hP
    replace hq : RSok sl.l q := hq
    replace hqi : r.i ≤ q.i := hqi
    replace hm : sl.l.length < m + q.i := hm
    obtain ⟨m, rfl⟩ : ∃ m', m = m' + 1 := ⟨m - 1, by have := hq.1; omega⟩
    have hqI : q.i < 1000000 := by have := hq.1; omega
    have hqn : q.nodes.length < 1000000 := by have := hq.1; have := hq.2; omega
    rw [tailR_succ] at hP
    have htw := twoR_op (l := sl.l) (n := n) (i := q.i)
    refine AW.block ?_
    refine AW.seq_k fun K hK => AW.region (by kernel_rfl) ?_
    simp -implicitDefEqProofs only [go_sem, seval, ↓reduceIte]
    refine RdS.call hG (rOfTwo_spec G hG sl hT g q hqI n) (gx := gy) (by kernel_rfl) (fun F => rfl) (by decide) (by first | rfl | (simp -implicitDefEqProofs only [go_sem, seval, ↓reduceIte, List.map_cons, List.map_nil, encXN_K]; try rfl)) (by first | rfl | (simp -implicitDefEqProofs only [go_sem, seval, ↓reduceIte, List.map_cons, List.map_nil]; try rfl)) (by first | rfl | (simp -implicitDefEqProofs only [go_sem, seval, ↓reduceIte]; try rfl)) (by first | rfl | (simp -implicitDefEqProofs only [go_sem, seval, ↓reduceIte]; try rfl)) fun gz => ?_
    simp -implicitDefEqProofs only [go_sem, seval, ↓reduceIte, sets]
    refine hK _ ?_
    clear hK K
    generalize twoR sl.l n q.i = op at hP htw ⊢
    refine AW.seq_k fun K4 hK4 => ?_
    refine AW.seq_k fun K hK => AW.region (by kernel_rfl) ?_
    simp -implicitDefEqProofs only [go_sem, seval, ↓reduceIte]
    refine hK _ ?_
    clear hK K
    by_cases ho : op = 0
    · have e1 : (((op : Nat) : Int) == 0) = true := by rw [ho]; rfl
      rw [if_pos ho] at hP
      rw [e1]
      refine AW.condS (by simp -implicitDefEqProofs only [go_sem, seval, ↓reduceIte]; rfl) (fun h24 => ?_) (fun h24 => ?_)
      rotate_left
      · cases h24
      refine AW.seq_k fun K hK => AW.region (by kernel_rfl) ?_
      simp -implicitDefEqProofs only [go_sem, seval, ↓reduceIte]
      refine hK _ ?_
      clear hK K
      refine AW.ret ?_
      simp -implicitDefEqProofs only [go_sem, seval, ↓reduceIte]
      refine endK_some ?_
      rw [hP]
      exact ⟨rfl, gz, by first | rfl | (simp -implicitDefEqProofs only [go_sem, seval, ↓reduceIte]; try rfl), by first | rfl | (simp -implicitDefEqProofs only [go_sem, seval, ↓reduceIte]; try rfl)⟩
    have e1 : (((op : Nat) : Int) == 0) = false := by rw [beq_eq_false_iff_ne]; omega
    rw [if_neg ho] at hP
    rw [e1]
    refine AW.condS (by simp -implicitDefEqProofs only [go_sem, seval, ↓reduceIte]; rfl) (fun h24 => ?_) (fun h24 => ?_)
    · cases h24
    refine AW.skip ?_
    simp -implicitDefEqProofs only [go_sem, seval, ↓reduceIte]
    refine hK4 _ ?_
    obtain ⟨hil, hop21⟩ := htw ho
    have hw : IntKind.i64.wrap ((q.i : Int) + 1) = ((q.i + 1 : Nat) : Int) := by rw [w64 (by omega) (by omega)]; omega
    have hadv : RSok sl.l q.adv := (Bal.adv hil).ok hq
    have hc := hin.lev (n + 1) q.adv (by omega) (by omega) (by show r.i < q.i + 1; omega) hadv
    have hcb := hbs (n + 1) q.adv
    generalize climbP sl.l f (n + 1) q.adv = z at hP hc hcb
    obtain ⟨b, a⟩ := z
    simp only at hc hcb
    have ha := hcb.ok hadv
    have haup : q.i + 1 ≤ a.i := hcb.up
    have han : a.nodes.length < 1000000 := by have := ha.1; have := ha.2; omega
    refine AW.seq_k fun K hK => AW.region (by kernel_rfl) ?_
    simp -implicitDefEqProofs only [go_sem, seval, ↓reduceIte]
    refine RdS.call hG (rLast_spec G hG sl g q hqn) (gx := gz) (by kernel_rfl) (fun F => rfl) (by decide) (by first | rfl | (simp -implicitDefEqProofs only [go_sem, seval, ↓reduceIte, List.map_cons, List.map_nil, encXN_K]; try rfl)) (by first | rfl | (simp -implicitDefEqProofs only [go_sem, seval, ↓reduceIte, List.map_cons, List.map_nil]; try rfl)) (by first | rfl | (simp -implicitDefEqProofs only [go_sem, seval, ↓reduceIte]; try rfl)) (by first | rfl | (simp -implicitDefEqProofs only [go_sem, seval, ↓reduceIte]; try rfl)) fun gz1 => ?_
    simp -implicitDefEqProofs only [go_sem, seval, ↓reduceIte, sets]
    refine hK _ ?_
    clear hK K
    refine AW.seq_k fun K hK => AW.region (by kernel_rfl) ?_
    simp -implicitDefEqProofs only [go_sem, seval, ↓reduceIte, rdO_K, hw]
    refine hK _ ?_
    clear hK K
    refine AW.seq_k fun K10 hK10 => ?_
    cases b with
    | false =>
      rw [andThen_false] at hP
      refine AW.seq_k fun K hK => AW.region (by kernel_rfl) ?_
      simp -implicitDefEqProofs only [go_sem, seval, ↓reduceIte, rdO_K, hw1]
      refine RdS.call hG (hc) (gx := gz1) (by kernel_rfl) (fun F => rfl) (by decide) (by first | rfl | (simp -implicitDefEqProofs only [go_sem, seval, ↓reduceIte, List.map_cons, List.map_nil, encXN_K]; try rfl)) (by first | rfl | (simp -implicitDefEqProofs only [go_sem, seval, ↓reduceIte, List.map_cons, List.map_nil]; try rfl)) (by first | rfl | (simp -implicitDefEqProofs only [go_sem, seval, ↓reduceIte]; try rfl)) (by first | rfl | (simp -implicitDefEqProofs only [go_sem, seval, ↓reduceIte]; try rfl)) fun gz2 => ?_
      simp -implicitDefEqProofs only [go_sem, seval, ↓reduceIte, sets]
      refine hK _ ?_
      clear hK K
      refine AW.condS (by simp -implicitDefEqProofs only [go_sem, seval, ↓reduceIte]; rfl) (fun h11 => ?_) (fun h11 => ?_)
      · refine AW.seq_k fun K hK => AW.region (by kernel_rfl) ?_
        simp -implicitDefEqProofs only [go_sem, seval, ↓reduceIte]
        refine hK _ ?_
        clear hK K
        refine AW.ret ?_
        simp -implicitDefEqProofs only [go_sem, seval, ↓reduceIte]
        refine endK_some ?_
        rw [hP]
        exact ⟨rfl, gz2, by first | rfl | (simp -implicitDefEqProofs only [go_sem, seval, ↓reduceIte]; try rfl), by first | rfl | (simp -implicitDefEqProofs only [go_sem, seval, ↓reduceIte]; try rfl)⟩
      · cases h11
    | true =>
      rw [andThen_true] at hP
      refine AW.seq_k fun K hK => AW.region (by kernel_rfl) ?_
      simp -implicitDefEqProofs only [go_sem, seval, ↓reduceIte, rdO_K, hw1]
      refine RdS.call hG (hc) (gx := gz1) (by kernel_rfl) (fun F => rfl) (by decide) (by first | rfl | (simp -implicitDefEqProofs only [go_sem, seval, ↓reduceIte, List.map_cons, List.map_nil, encXN_K]; try rfl)) (by first | rfl | (simp -implicitDefEqProofs only [go_sem, seval, ↓reduceIte, List.map_cons, List.map_nil]; try rfl)) (by first | rfl | (simp -implicitDefEqProofs only [go_sem, seval, ↓reduceIte]; try rfl)) (by first | rfl | (simp -implicitDefEqProofs only [go_sem, seval, ↓reduceIte]; try rfl)) fun gz2 => ?_
      simp -implicitDefEqProofs only [go_sem, seval, ↓reduceIte, sets]
      refine hK _ ?_
      clear hK K
      refine AW.condS (by simp -implicitDefEqProofs only [go_sem, seval, ↓reduceIte]; rfl) (fun h11 => ?_) (fun h11 => ?_)
      · cases h11
      refine AW.skip ?_
      simp -implicitDefEqProofs only [go_sem, seval, ↓reduceIte]
      refine hK10 _ ?_
      refine AW.region (by kernel_rfl) ?_
      simp -implicitDefEqProofs only [go_sem, seval, ↓reduceIte]
      refine RdS.call hG (rLast_spec G hG sl g a han) (gx := gz2) (by kernel_rfl) (fun F => rfl) (by decide) (by first | rfl | (simp -implicitDefEqProofs only [go_sem, seval, ↓reduceIte, List.map_cons, List.map_nil, encXN_K]; try rfl)) (by first | rfl | (simp -implicitDefEqProofs only [go_sem, seval, ↓reduceIte, List.map_cons, List.map_nil]; try rfl)) (by first | rfl | (simp -implicitDefEqProofs only [go_sem, seval, ↓reduceIte]; try rfl)) (by first | rfl | (simp -implicitDefEqProofs only [go_sem, seval, ↓reduceIte]; try rfl)) fun gz3 => ?_
      simp -implicitDefEqProofs only [go_sem, seval, ↓reduceIte, sets]
      simp -implicitDefEqProofs only [go_sem, seval, ↓reduceIte, rdO_K]
      rw [← encXN_K ⟨op, 0, [], q.last, a.last, -1⟩]
      refine RdS.call hG (rPutN_spec G hG sl g a han ⟨op, 0, [], q.last, a.last, -1⟩) (gx := gz3) (by kernel_rfl) (fun F => rfl) (by decide) (by first | rfl | (simp -implicitDefEqProofs only [go_sem, seval, ↓reduceIte, List.map_cons, List.map_nil, encXN_K]; try rfl)) (by first | rfl | (simp -implicitDefEqProofs only [go_sem, seval, ↓reduceIte, List.map_cons, List.map_nil]; try rfl)) (by first | rfl | (simp -implicitDefEqProofs only [go_sem, seval, ↓reduceIte]; try rfl)) (by first | rfl | (simp -implicitDefEqProofs only [go_sem, seval, ↓reduceIte]; try rfl)) fun gz4 => ?_
      simp -implicitDefEqProofs only [go_sem, seval, ↓reduceIte, sets]
      have hres : RSok sl.l (a.put ⟨op, 0, [], q.last, a.last, -1⟩) := ⟨ha.1, by
        have h1 := hcb.cnt
        have h2 := hq.2
        show (a.nodes ++ [_]).length ≤ a.i
        rw [List.length_append, List.length_singleton]
        have h3 : a.nodes.length + (q.i + 1) + 0 ≤ q.nodes.length + a.i := h1
        omega⟩
      refine hL3 _ ⟨(gz4, m, a.put ⟨op, 0, [], q.last, a.last, -1⟩), Nat.lt_succ_self _, ⟨hP, hres, ?_, ?_⟩, Weak.st (by simp -implicitDefEqProofs only [go_sem, seval, ↓reduceIte]; try rfl) (by simp -implicitDefEqProofs only [go_sem, seval, ↓reduceIte]; try exact ⟨rfl, rfl⟩)⟩
      · show r.i ≤ a.i
        omega
      · show sl.l.length < m + a.i
        omega
end Go.Hs
end

section
namespace Go.Hs
open Go.Proofs
set_option maxRecDepth 10000
def encRr (c : Col) (p : List XN × Int × Int) : V := .tuple [encXs c p.1, .int .i64 p.2.1, .int .i64 p.2.2]
theorem rFrom_spec (G : Nat → V) (hG : GOk G) (c : Col) (sl : Sl Tk) (hT : TkOk sl.l) : Spec Tryz.prog G 34 [encSl c 3 encTk sl] hNone (fun v _ => v = encRr .new (fromP sl.l)) := by
  have hTl := hT.len
  refine Spec.of_code' 0 34 [.tmp 2, .tmp 3, .tmp 4] Tryz.func34 rfl rfl rfl rfl fun X => ?_
  have hP : fromP sl.l = if (climbP sl.l (sl.l.length + 1) 1 ⟨0, [], 0⟩).1 = false then (([] : List XN), ((climbP sl.l (sl.l.length + 1) 1 ⟨0, [], 0⟩).2.i : Int), (climbP sl.l (sl.l.length + 1) 1 ⟨0, [], 0⟩).2.e)
    else if depthP (climbP sl.l (sl.l.length + 1) 1 ⟨0, [], 0⟩).2.nodes > 64 then ([], 0, 3) else ((climbP sl.l (sl.l.length + 1) 1 ⟨0, [], 0⟩).2.nodes, ((climbP sl.l (sl.l.length + 1) 1 ⟨0, [], 0⟩).2.i : Int), (0 : Int)) := rfl
  have hr0 : RSok sl.l ⟨0, [], 0⟩ := ⟨Nat.zero_le _, Nat.le_refl _⟩
  have hcl := fun g => (rLevel_spec G hG sl hT g (sl.l.length + 1) ⟨0, [], 0⟩ (Nat.lt_succ_self _) hr0).1 1 (by decide) (by decide)
  have hnm2 := climb_names hT
  have hok := (climbP_bal sl.l (sl.l.length + 1) 1 ⟨0, [], 0⟩)
  generalize fromP sl.l = res at hP ⊢
  generalize climbP sl.l (sl.l.length + 1) 1 ⟨0, [], 0⟩ = y at hP hcl hok hnm2
  obtain ⟨b, r⟩ := y
  simp only at hP hcl hok hnm2
  have hrl : r.nodes.length < 1000000 := by have := (hok.ok hr0); have h1 := this.1; have h2 := this.2; omega
  refine AW.seq_k fun K hK => AW.region (by kernel_rfl) ?_
  simp -implicitDefEqProofs only [go_sem, seval, ↓reduceIte]
  refine hK _ ?_
  clear hK K
  refine AW.seq_k fun K hK => AW.region (by kernel_rfl) ?_
  simp -implicitDefEqProofs only [go_sem, seval, ↓reduceIte]
  intro g8
  refine hK _ ?_
  clear hK K
  refine AW.weak (Weak.stF (fun _ => false) (l := [(5, .ptr 8 g8 0)]) (m := [(8, .cells .new g8 0 [encSl .any 3 encTk sl, .int .i64 0, .nils, .int .i64 0])]) ?_ ?_) ?_
  · simp -implicitDefEqProofs only [go_sem, seval, ↓reduceIte]
    exact Fz.same _
  · simp only [allFzO_cons, allFzO_nil, and_true]
    exact FzO.of (c := .new) (fz := 0) (cs := [encSl c 3 encTk sl, .int .i64 0, .nils, .int .i64 0]) rfl (by simp -implicitDefEqProofs only [go_sem, seval, ↓reduceIte]; try rfl) ⟨Fz.any (recol_tks _ _ _), Fz.same _, Fz.same _, Fz.same _, trivial⟩
  refine AW.seq_k fun K1 hK1 => ?_
  refine AW.seq_k fun K hK => AW.region (by kernel_rfl) ?_
  simp -implicitDefEqProofs only [go_sem, seval, ↓reduceIte]
  refine RdS.callN hG (hcl g8) (by kernel_rfl) (fun F => rfl) rfl rfl rfl _ (by simp -implicitDefEqProofs only [go_sem, seval, ↓reduceIte]; rfl) (by simp only [V.recolL_eq, List.map_cons, List.map_nil, recol_tks]; rfl) (by simp -implicitDefEqProofs only [go_sem, seval, ↓reduceIte]) fun gx => ?_
  simp -implicitDefEqProofs only [go_sem, seval, ↓reduceIte, sets]
  refine hK _ ?_
  clear hK K
  cases b with
  | false =>
    refine AW.condS (by simp -implicitDefEqProofs only [go_sem, seval, ↓reduceIte]; rfl) (fun h9 => ?_) (fun h9 => ?_)
    rotate_left
    · cases h9
    refine AW.weak (Weak.stF (fun o => o == 8) (l := [(5, .view .new (.agg [encSl .any 3 encTk sl, .int .i64 r.i, grown 1012 gx 6 r.nodes, .int .i64 r.e]))]) (m := []) ?_ trivial) ?_
    · simp -implicitDefEqProofs only [go_sem, seval, ↓reduceIte]
      exact Fz.ptr (v := .agg [encSl .any 3 encTk sl, .int .i64 r.i, grown 1012 gx 6 r.nodes, .int .i64 r.e]) (c := .new) (fz := 0) rfl (by simp -implicitDefEqProofs only [go_sem, seval, ↓reduceIte]; try rfl)
    refine AW.seq_k fun K hK => AW.regionT ⟨fun _ => .top, fun _ => .pure⟩ (by kernel_rfl) hG (by kernel_rfl) (by kernel_rfl) ?_
    simp -implicitDefEqProofs only [go_sem, seval, ↓reduceIte]
    refine hK _ ?_
    clear hK K
    refine AW.ret ?_
    simp -implicitDefEqProofs only [go_sem, seval, ↓reduceIte]
    refine endK_some ?_
    rw [hP]; rfl
  | true =>
  refine AW.condS (by simp -implicitDefEqProofs only [go_sem, seval, ↓reduceIte]; rfl) (fun h9 => ?_) (fun h9 => ?_)
  · cases h9
  refine AW.skip ?_
  simp -implicitDefEqProofs only [go_sem, seval, ↓reduceIte]
  refine hK1 _ ?_
  refine AW.weak (Weak.stF (fun o => o == 1012) (l := [(5, .ptr 8 g8 0)]) (m := [(8, .cells .new g8 0 [encSl .any 3 encTk sl, .int .i64 r.i, encXs .new r.nodes, .int .i64 r.e])]) ?_ ?_) ?_
  · simp -implicitDefEqProofs only [go_sem, seval, ↓reduceIte]
    exact Fz.same _
  · simp only [allFzO_cons, allFzO_nil, and_true]
    exact FzO.of (c := .new) (fz := 0) (cs := [encSl .any 3 encTk sl, .int .i64 r.i, grown 1012 gx 6 r.nodes, .int .i64 r.e]) rfl (by simp -implicitDefEqProofs only [go_sem, seval, ↓reduceIte]; try rfl) ⟨Fz.same _, Fz.same _, Fz.grown rfl (by simp -implicitDefEqProofs only [go_sem, seval, ↓reduceIte]; try rfl) encXN_cells, Fz.same _, trivial⟩
  rw [if_neg (by simp)] at hP
  refine AW.seq_k fun K2 hK2 => ?_
  refine AW.seq_k fun K hK => AW.region (by kernel_rfl) ?_
  simp -implicitDefEqProofs only [go_sem, seval, ↓reduceIte, encXs]
  refine CallA.pure hG (by kernel_rfl) ?_
  simp -implicitDefEqProofs only [go_sem, seval, ↓reduceIte, recol_xns]
  refine (rDepthN_spec G hG _ (grownS r.nodes) (by rw [grownS_l]; exact hrl) (by rw [grownS_l]; exact hnm2)).mono ?_
  rintro _ _ rfl
  rw [grownS_l]
  simp -implicitDefEqProofs only [go_sem, seval, ↓reduceIte]
  refine hK _ ?_
  clear hK K
  refine AW.condS (by simp -implicitDefEqProofs only [go_sem, seval, ↓reduceIte]; rfl) (fun h26 => ?_) (fun h26 => ?_)
  · have h26 : depthP r.nodes > 64 := by simpa using h26
    rw [if_pos h26] at hP
    refine AW.seq_k fun K hK => AW.region (by kernel_rfl) ?_
    simp -implicitDefEqProofs only [go_sem, seval, ↓reduceIte]
    refine hK _ ?_
    clear hK K
    refine AW.ret ?_
    simp -implicitDefEqProofs only [go_sem, seval, ↓reduceIte]
    refine endK_some ?_
    rw [hP]; rfl
  have h26 : ¬ depthP r.nodes > 64 := by simpa using h26
  rw [if_neg h26] at hP
  refine AW.skip ?_
  simp -implicitDefEqProofs only [go_sem, seval, ↓reduceIte]
  refine hK2 _ ?_
  refine AW.weak (Weak.stF (fun o => o == 8) (l := [(5, .view .new (.agg [encSl .any 3 encTk sl, .int .i64 r.i, encXs .new r.nodes, .int .i64 r.e]))]) (m := []) ?_ trivial) ?_
  · simp -implicitDefEqProofs only [go_sem, seval, ↓reduceIte]
    exact Fz.ptr (v := .agg [encSl .any 3 encTk sl, .int .i64 r.i, encXs .new r.nodes, .int .i64 r.e]) (c := .new) (fz := 0) rfl (by simp -implicitDefEqProofs only [go_sem, seval, ↓reduceIte]; try rfl)
  refine AW.seq_k fun K hK => AW.regionT ⟨fun _ => .top, fun _ => .pure⟩ (by kernel_rfl) hG (by kernel_rfl) (by kernel_rfl) ?_
  simp -implicitDefEqProofs only [go_sem, seval, ↓reduceIte, encXs]
  refine hK _ ?_
  clear hK K
  refine AW.ret ?_
  simp -implicitDefEqProofs only [go_sem, seval, ↓reduceIte]
  refine endK_some ?_
  rw [hP]; rfl
theorem rParse8_spec (G : Nat → V) (hG : GOk G) (s : List UInt8) (hs : s.length < 100000) : Spec Tryz.prog G 31 [.str s] hNone (fun v _ => v = encRr .new (exprP s)) := by
  refine Spec.of_code' 0 50 [.tmp 2, .tmp 3, .tmp 4] Tryz.func31 rfl rfl rfl rfl fun X => ?_
  have hP : exprP s = if (toksP s).2.2 ≠ 0 then (([] : List XN), (toksP s).2.1, (toksP s).2.2)
    else if (fromP (toksP s).1).2.2 = 3 then ([], 0, 3)
    else if (fromP (toksP s).1).2.2 = 0 ∧ (fromP (toksP s).1).2.1 = ((toksP s).1.length : Nat) then ((fromP (toksP s).1).1, 0, 0)
    else ([], if (fromP (toksP s).1).2.1 = ((toksP s).1.length : Nat) then (s.length : Int) else ((toksP s).1.getD (fromP (toksP s).1).2.1.toNat ⟨0, [], 0⟩).pos, if (fromP (toksP s).1).2.2 = 0 then 80 else (fromP (toksP s).1).2.2) := rfl
  generalize exprP s = res at hP ⊢
  have hT := toks_ok hs
  have hl := rTokens_spec G hG s hs
  have hfr := fun c => rFrom_spec G hG c (grownS (toksP s).1) (by rw [grownS_l]; exact hT)
  simp only [grownS_l] at hfr
  have hb := fromP_bnd (l := (toksP s).1)
  generalize toksP s = t at hP hT hl hfr hb
  generalize fromP t.1 = p at hP hfr hb
  obtain ⟨l, at0, e0⟩ := t
  obtain ⟨ns, i, e⟩ := p
  simp only at hP hT hfr hb
  refine AW.seq_k fun K hK => AW.region (by kernel_rfl) ?_
  simp -implicitDefEqProofs only [go_sem, seval, ↓reduceIte]
  refine hK _ ?_
  clear hK K
  refine AW.seq_k fun K hK => AW.region (by kernel_rfl) ?_
  simp -implicitDefEqProofs only [go_sem, seval, ↓reduceIte]
  refine CallA.pure hG (by kernel_rfl) ?_
  simp -implicitDefEqProofs only [go_sem, seval, ↓reduceIte]
  refine hl.mono ?_
  rintro _ _ rfl
  simp -implicitDefEqProofs only [go_sem, seval, ↓reduceIte, encTok, encTks, recol_tks]
  refine hK _ ?_
  clear hK K
  refine AW.seq_k fun K1 hK1 => ?_
  refine AW.seq_k fun K hK => AW.region (by kernel_rfl) ?_
  simp -implicitDefEqProofs only [go_sem, seval, ↓reduceIte]
  refine hK _ ?_
  clear hK K
  by_cases he0 : e0 = 0
  rotate_left
  · have q1 : (e0 != 0) = true := by simpa using he0
    rw [if_pos he0] at hP
    rw [q1]
    refine AW.condS (by simp -implicitDefEqProofs only [go_sem, seval, ↓reduceIte]; rfl) (fun h17 => ?_) (fun h17 => ?_)
    · refine AW.seq_k fun K hK => AW.region (by kernel_rfl) ?_
      simp -implicitDefEqProofs only [go_sem, seval, ↓reduceIte]
      refine hK _ ?_
      clear hK K
      refine AW.ret ?_
      simp -implicitDefEqProofs only [go_sem, seval, ↓reduceIte]
      refine endK_some ?_
      rw [hP]; rfl
    · cases h17
  have q1 : (e0 != 0) = false := by simpa using he0
  rw [if_neg (by simpa using he0)] at hP
  rw [q1]
  refine AW.condS (by simp -implicitDefEqProofs only [go_sem, seval, ↓reduceIte]; rfl) (fun h17 => ?_) (fun h17 => ?_)
  · cases h17
  refine AW.skip ?_
  simp -implicitDefEqProofs only [go_sem, seval, ↓reduceIte]
  refine hK1 _ ?_
  refine AW.seq_k fun K hK => AW.region (by kernel_rfl) ?_
  simp -implicitDefEqProofs only [go_sem, seval, ↓reduceIte]
  refine CallA.pure hG (by kernel_rfl) ?_
  simp -implicitDefEqProofs only [go_sem, seval, ↓reduceIte, recol_tks]
  refine (hfr _).mono ?_
  rintro _ _ rfl
  simp -implicitDefEqProofs only [go_sem, seval, ↓reduceIte, encRr, encXs, recol_xns]
  refine hK _ ?_
  clear hK K
  refine AW.seq_k fun K2 hK2 => ?_
  refine AW.seq_k fun K hK => AW.region (by kernel_rfl) ?_
  simp -implicitDefEqProofs only [go_sem, seval, ↓reduceIte]
  refine hK _ ?_
  clear hK K
  by_cases he3 : e = 3
  · have q3 : (e == 3) = true := by simpa using he3
    rw [if_pos he3] at hP
    rw [q3]
    refine AW.condS (by simp -implicitDefEqProofs only [go_sem, seval, ↓reduceIte]; rfl) (fun h27 => ?_) (fun h27 => ?_)
    · refine AW.seq_k fun K hK => AW.region (by kernel_rfl) ?_
      simp -implicitDefEqProofs only [go_sem, seval, ↓reduceIte]
      refine hK _ ?_
      clear hK K
      refine AW.ret ?_
      simp -implicitDefEqProofs only [go_sem, seval, ↓reduceIte]
      refine endK_some ?_
      rw [hP]; rfl
    · cases h27
  have q3 : (e == 3) = false := by simpa using he3
  rw [if_neg he3] at hP
  rw [q3]
  refine AW.condS (by simp -implicitDefEqProofs only [go_sem, seval, ↓reduceIte]; rfl) (fun h27 => ?_) (fun h27 => ?_)
  · cases h27
  refine AW.skip ?_
  simp -implicitDefEqProofs only [go_sem, seval, ↓reduceIte]
  refine hK2 _ ?_
  refine AW.seq_k fun K hK => AW.region (by kernel_rfl) ?_
  simp -implicitDefEqProofs only [go_sem, seval, ↓reduceIte]
  refine hK _ ?_
  clear hK K
  obtain ⟨m, rfl⟩ : ∃ m : Nat, i = m := ⟨i.toNat, by omega⟩
  have hP2 : res = if e ≠ 0 then ([], (if (m : Int) = (l.length : Nat) then (s.length : Int) else (l.getD m ⟨0, [], 0⟩).pos), e) else if m < l.length then ([], (if (m : Int) = (l.length : Nat) then (s.length : Int) else (l.getD m ⟨0, [], 0⟩).pos), 80) else (ns, 0, 0) := by
    rw [hP, Int.toNat_natCast]
    by_cases he : e = 0
    · rw [if_neg (show ¬ e ≠ 0 by simpa using he)]
      by_cases hm : m < l.length
      · rw [if_neg (by omega), if_pos hm, if_pos he]
      · rw [if_pos ⟨he, by omega⟩, if_neg hm]
    · rw [if_pos he, if_neg (fun h => he h.1), if_neg he]
  clear hP
  generalize hpl : (if (m : Int) = (l.length : Nat) then (s.length : Int) else (l.getD m ⟨0, [], 0⟩).pos) = pl at hP2
  refine AW.seqJ (fun (_ : Unit) => st [(0, .str s), (5, encSl .new 3 encTk (grownS l)), (7, .int .i64 e), (8, encSl .new 6 encXN (grownS ns)), (9, .int .i64 m), (10, .int .i64 pl)] []) (fun _ => True) (fun K3 hK3 => ?_) ?_
  · refine AW.seq_k fun K hK => AW.region (by kernel_rfl) ?_
    simp -implicitDefEqProofs only [go_sem, seval, ↓reduceIte]
    refine hK _ ?_
    clear hK K
    by_cases hm : m < l.length
    · have q4 : decide (((m : Nat) : Int) < ((l.length : Nat) : Int)) = true := by rw [decide_eq_true_iff]; omega
      obtain ⟨tk, htk⟩ : ∃ tk, l[m]? = some tk := ⟨_, List.getElem?_eq_getElem hm⟩
      have hgd : l.getD m ⟨0, [], 0⟩ = tk := by rw [List.getD_eq_getElem?_getD, htk]; rfl
      rw [if_neg (by omega), hgd] at hpl
      rw [q4]
      refine AW.condS (by simp -implicitDefEqProofs only [go_sem, seval, ↓reduceIte]; rfl) (fun h34 => ?_) (fun h34 => ?_)
      rotate_left
      · cases h34
      refine AW.region (by kernel_rfl) ?_
      simp -implicitDefEqProofs only [go_sem, seval, ↓reduceIte, htk, encTk_K]
      exact hK3 _ () trivial (Weak.st (by rw [← hpl]; simp -implicitDefEqProofs only [go_sem, seval, ↓reduceIte]; try rfl) (by simp -implicitDefEqProofs only [go_sem, seval, ↓reduceIte]))
    · have q4 : decide (((m : Nat) : Int) < ((l.length : Nat) : Int)) = false := by rw [decide_eq_false_iff_not]; omega
      rw [if_pos (by omega)] at hpl
      rw [q4]
      refine AW.condS (by simp -implicitDefEqProofs only [go_sem, seval, ↓reduceIte]; rfl) (fun h34 => ?_) (fun h34 => ?_)
      · cases h34
      refine AW.skip ?_
      simp -implicitDefEqProofs only [go_sem, seval, ↓reduceIte]
      exact hK3 _ () trivial (Weak.st (by rw [← hpl]; simp -implicitDefEqProofs only [go_sem, seval, ↓reduceIte]; try rfl) (by simp -implicitDefEqProofs only [go_sem, seval, ↓reduceIte]))
  intro _ _
  refine AW.seq_k fun K4 hK4 => ?_
  refine AW.seq_k fun K hK => AW.region (by kernel_rfl) ?_
  simp -implicitDefEqProofs only [go_sem, seval, ↓reduceIte]
  refine hK _ ?_
  clear hK K
  by_cases he : e = 0
  rotate_left
  · have q5 : (e != 0) = true := by simpa using he
    rw [if_pos he] at hP2
    rw [q5]
    refine AW.condS (by simp -implicitDefEqProofs only [go_sem, seval, ↓reduceIte]; rfl) (fun h41 => ?_) (fun h41 => ?_)
    · refine AW.seq_k fun K hK => AW.region (by kernel_rfl) ?_
      simp -implicitDefEqProofs only [go_sem, seval, ↓reduceIte]
      refine hK _ ?_
      clear hK K
      refine AW.ret ?_
      simp -implicitDefEqProofs only [go_sem, seval, ↓reduceIte]
      refine endK_some ?_
      rw [hP2]; rfl
    · cases h41
  have q5 : (e != 0) = false := by simpa using he
  rw [if_neg (by simpa using he)] at hP2
  rw [q5]
  refine AW.condS (by simp -implicitDefEqProofs only [go_sem, seval, ↓reduceIte]; rfl) (fun h41 => ?_) (fun h41 => ?_)
  · cases h41
  refine AW.skip ?_
  simp -implicitDefEqProofs only [go_sem, seval, ↓reduceIte]
  refine hK4 _ ?_
  refine AW.seq_k fun K5 hK5 => ?_
  refine AW.seq_k fun K hK => AW.region (by kernel_rfl) ?_
  simp -implicitDefEqProofs only [go_sem, seval, ↓reduceIte]
  refine hK _ ?_
  clear hK K
  by_cases hm : m < l.length
  · have q4 : decide (((m : Nat) : Int) < ((l.length : Nat) : Int)) = true := by rw [decide_eq_true_iff]; omega
    rw [if_pos hm] at hP2
    rw [q4]
    refine AW.condS (by simp -implicitDefEqProofs only [go_sem, seval, ↓reduceIte]; rfl) (fun h47 => ?_) (fun h47 => ?_)
    · refine AW.seq_k fun K hK => AW.region (by kernel_rfl) ?_
      simp -implicitDefEqProofs only [go_sem, seval, ↓reduceIte]
      refine hK _ ?_
      clear hK K
      refine AW.ret ?_
      simp -implicitDefEqProofs only [go_sem, seval, ↓reduceIte]
      refine endK_some ?_
      rw [hP2]; rfl
    · cases h47
  have q4 : decide (((m : Nat) : Int) < ((l.length : Nat) : Int)) = false := by rw [decide_eq_false_iff_not]; omega
  rw [if_neg hm] at hP2
  rw [q4]
  refine AW.condS (by simp -implicitDefEqProofs only [go_sem, seval, ↓reduceIte]; rfl) (fun h47 => ?_) (fun h47 => ?_)
  · cases h47
  refine AW.skip ?_
  simp -implicitDefEqProofs only [go_sem, seval, ↓reduceIte]
  refine hK5 _ ?_
  refine AW.seq_k fun K hK => AW.region (by kernel_rfl) ?_
  simp -implicitDefEqProofs only [go_sem, seval, ↓reduceIte]
  refine hK _ ?_
  clear hK K
  refine AW.ret ?_
  simp -implicitDefEqProofs only [go_sem, seval, ↓reduceIte]
  refine endK_some ?_
  rw [hP2]; rfl
end Go.Hs
end

section
namespace Go.Hs
open Go.Proofs
set_option maxRecDepth 10000
theorem r9Guard_spec (G : Nat → V) (hG : GOk G) (c1 : Col) (s : List UInt8) (names : Sl (List UInt8)) (hs : s.length < 100000) (hnl : names.l.length < 1000000) :
    Spec Tryz.prog G 24 [.str s, encSl c1 1 V.str names] hNone (fun v _ => v = encRr .new (guardP s names.l)) := by
  refine Spec.of_code' 0 55 [.tmp 4, .tmp 5, .tmp 6] Tryz.func24 rfl rfl rfl rfl fun X => ?_
  have hP : guardP s names.l = if (toksP s).2.2 = 0 ∧ (toksP s).1.length = 0 then ([tr1], 0, 0)
    else if (exprP s).2.2 ≠ 0 then ([], (exprP s).2.1, (exprP s).2.2)
    else if (ofTP names.l (exprP s).1).2.2 ≠ 0 ∨ (ofTP names.l (exprP s).1).1 ≠ 2 then ([], 0, 90) else ((exprP s).1, 0, 0) := rfl
  generalize guardP s names.l = res at hP ⊢
  have hl := rTokens_spec G hG s hs
  have hx := rParse8_spec G hG s hs
  have hb := exprP_bnd hs
  have ho := fun c c1 => r9Of_spec G hG c c1 (grownS (exprP s).1) names (by rw [grownS_l]; omega) (by rw [grownS_l]; exact hb.2) hnl
  simp only [grownS_l] at ho
  generalize toksP s = t at hP hl
  generalize exprP s = p at hP hx ho
  obtain ⟨l, at0, e0⟩ := t
  obtain ⟨ns, i, e⟩ := p
  simp only at hP ho
  generalize ofTP names.l ns = o at hP ho
  obtain ⟨k, j, e2⟩ := o
  simp only at hP
  refine AW.seq_k fun K hK => AW.region (by kernel_rfl) ?_
  simp -implicitDefEqProofs only [go_sem, seval, ↓reduceIte]
  refine hK _ ?_
  clear hK K
  refine AW.seq_k fun K hK => AW.region (by kernel_rfl) ?_
  simp -implicitDefEqProofs only [go_sem, seval, ↓reduceIte]
  refine CallA.pure hG (by kernel_rfl) ?_
  simp -implicitDefEqProofs only [go_sem, seval, ↓reduceIte]
  refine hl.mono ?_
  rintro _ _ rfl
  simp -implicitDefEqProofs only [go_sem, seval, ↓reduceIte, encTok, encTks, recol_tks]
  refine hK _ ?_
  clear hK K
  refine AW.seqJ (fun (_ : Unit) => st [(0, .str s), (1, encSl c1 1 V.str names)] []) (fun _ => ¬ (e0 = 0 ∧ l.length = 0)) (fun K1 hK1 => ?_) ?_
  · by_cases h01 : e0 = 0
    rotate_left
    · have q1 : (e0 == 0) = false := by simpa using h01
      refine AW.seq_k fun K hK => AW.region (by kernel_rfl) ?_
      simp -implicitDefEqProofs only [go_sem, seval, ↓reduceIte, q1]
      refine hK _ ?_
      clear hK K
      refine AW.condS (by simp -implicitDefEqProofs only [go_sem, seval, ↓reduceIte]; rfl) (fun h25 => ?_) (fun h25 => ?_)
      · cases h25
      refine AW.skip ?_
      simp -implicitDefEqProofs only [go_sem, seval, ↓reduceIte]
      exact hK1 _ () (fun h => h01 h.1) (Weak.st (by simp -implicitDefEqProofs only [go_sem, seval, ↓reduceIte]) (by simp -implicitDefEqProofs only [go_sem, seval, ↓reduceIte]))
    have q1 : (e0 == 0) = true := by simpa using h01
    by_cases h02 : l.length = 0
    · rw [if_pos ⟨h01, h02⟩] at hP
      have q2 : (((l.length : Nat) : Int) == 0) = true := by simp [h02]
      refine AW.seq_k fun K hK => AW.region (by kernel_rfl) ?_
      simp -implicitDefEqProofs only [go_sem, seval, ↓reduceIte, q1, q2]
      refine hK _ ?_
      clear hK K
      refine AW.condS (by simp -implicitDefEqProofs only [go_sem, seval, ↓reduceIte]; rfl) (fun h25 => ?_) (fun h25 => ?_)
      · refine AW.seq_k fun K hK => AW.region (by kernel_rfl) ?_
        simp -implicitDefEqProofs only [go_sem, seval, ↓reduceIte]
        intro g30
        refine hK _ ?_
        clear hK K
        refine AW.weak (Weak.stF (fun o => o == 30) (l := [(4, encXs .new [tr1]), (5, .int .i64 0), (6, .int .i64 0)]) (m := []) ?_ trivial) ?_
        · simp -implicitDefEqProofs only [go_sem, seval, ↓reduceIte]
          exact ⟨Fz.sl (f := encXN) (l := [tr1]) (m := 6) (g := g30) (fz := 0) (c := .new) rfl (by simp -implicitDefEqProofs only [go_sem, seval, ↓reduceIte]; try rfl) encXN_cells, Fz.same _⟩
        refine AW.ret ?_
        simp -implicitDefEqProofs only [go_sem, seval, ↓reduceIte]
        refine endK_some ?_
        rw [hP]; rfl
      · cases h25
    have q2 : (((l.length : Nat) : Int) == 0) = false := by rw [beq_eq_false_iff_ne]; omega
    refine AW.seq_k fun K hK => AW.region (by kernel_rfl) ?_
    simp -implicitDefEqProofs only [go_sem, seval, ↓reduceIte, q1, q2]
    refine hK _ ?_
    clear hK K
    refine AW.condS (by simp -implicitDefEqProofs only [go_sem, seval, ↓reduceIte]; rfl) (fun h25 => ?_) (fun h25 => ?_)
    · cases h25
    refine AW.skip ?_
    simp -implicitDefEqProofs only [go_sem, seval, ↓reduceIte]
    exact hK1 _ () (fun h => h02 h.2) (Weak.st (by simp -implicitDefEqProofs only [go_sem, seval, ↓reduceIte]) (by simp -implicitDefEqProofs only [go_sem, seval, ↓reduceIte]))
  rintro _ h0
  rw [if_neg h0] at hP
  refine AW.seq_k fun K hK => AW.region (by kernel_rfl) ?_
  simp -implicitDefEqProofs only [go_sem, seval, ↓reduceIte]
  refine CallA.pure hG (by kernel_rfl) ?_
  simp -implicitDefEqProofs only [go_sem, seval, ↓reduceIte]
  refine hx.mono ?_
  rintro _ _ rfl
  simp -implicitDefEqProofs only [go_sem, seval, ↓reduceIte, encRr, encXs, recol_xns]
  refine hK _ ?_
  clear hK K
  refine AW.seq_k fun K2 hK2 => ?_
  refine AW.seq_k fun K hK => AW.region (by kernel_rfl) ?_
  simp -implicitDefEqProofs only [go_sem, seval, ↓reduceIte]
  refine hK _ ?_
  clear hK K
  by_cases he : e = 0
  rotate_left
  · have q1 : (e != 0) = true := by simpa using he
    rw [if_pos he] at hP
    rw [q1]
    refine AW.condS (by simp -implicitDefEqProofs only [go_sem, seval, ↓reduceIte]; rfl) (fun h36 => ?_) (fun h36 => ?_)
    · refine AW.seq_k fun K hK => AW.region (by kernel_rfl) ?_
      simp -implicitDefEqProofs only [go_sem, seval, ↓reduceIte]
      refine hK _ ?_
      clear hK K
      refine AW.ret ?_
      simp -implicitDefEqProofs only [go_sem, seval, ↓reduceIte]
      refine endK_some ?_
      rw [hP]; rfl
    · cases h36
  have q1 : (e != 0) = false := by simpa using he
  rw [if_neg (by simpa using he)] at hP
  rw [q1]
  refine AW.condS (by simp -implicitDefEqProofs only [go_sem, seval, ↓reduceIte]; rfl) (fun h36 => ?_) (fun h36 => ?_)
  · cases h36
  refine AW.skip ?_
  simp -implicitDefEqProofs only [go_sem, seval, ↓reduceIte]
  refine hK2 _ ?_
  refine AW.seq_k fun K hK => AW.region (by kernel_rfl) ?_
  simp -implicitDefEqProofs only [go_sem, seval, ↓reduceIte]
  refine CallA.pure hG (by kernel_rfl) ?_
  simp -implicitDefEqProofs only [go_sem, seval, ↓reduceIte, recol_xns]
  refine (ho _ _).mono ?_
  rintro _ _ rfl
  simp -implicitDefEqProofs only [go_sem, seval, ↓reduceIte, encO3]
  refine hK _ ?_
  clear hK K
  refine AW.seq_k fun K3 hK3 => ?_
  by_cases h2 : e2 = 0
  rotate_left
  · have q2 : (e2 != 0) = true := by simpa using h2
    rw [if_pos (.inl h2)] at hP
    refine AW.seq_k fun K hK => AW.region (by kernel_rfl) ?_
    simp -implicitDefEqProofs only [go_sem, seval, ↓reduceIte, q2]
    refine hK _ ?_
    clear hK K
    refine AW.condS (by simp -implicitDefEqProofs only [go_sem, seval, ↓reduceIte]; rfl) (fun h52 => ?_) (fun h52 => ?_)
    · refine AW.seq_k fun K hK => AW.region (by kernel_rfl) ?_
      simp -implicitDefEqProofs only [go_sem, seval, ↓reduceIte]
      refine hK _ ?_
      clear hK K
      refine AW.ret ?_
      simp -implicitDefEqProofs only [go_sem, seval, ↓reduceIte]
      refine endK_some ?_
      rw [hP]; rfl
    · cases h52
  have q2 : (e2 != 0) = false := by simpa using h2
  by_cases hk : k = 2
  rotate_left
  · have q3 : (k != 2) = true := by simpa using hk
    rw [if_pos (.inr hk)] at hP
    refine AW.seq_k fun K hK => AW.region (by kernel_rfl) ?_
    simp -implicitDefEqProofs only [go_sem, seval, ↓reduceIte, q2, q3]
    refine hK _ ?_
    clear hK K
    refine AW.condS (by simp -implicitDefEqProofs only [go_sem, seval, ↓reduceIte]; rfl) (fun h52 => ?_) (fun h52 => ?_)
    · refine AW.seq_k fun K hK => AW.region (by kernel_rfl) ?_
      simp -implicitDefEqProofs only [go_sem, seval, ↓reduceIte]
      refine hK _ ?_
      clear hK K
      refine AW.ret ?_
      simp -implicitDefEqProofs only [go_sem, seval, ↓reduceIte]
      refine endK_some ?_
      rw [hP]; rfl
    · cases h52
  have q3 : (k != 2) = false := by simpa using hk
  rw [if_neg (by rintro (h | h); exact h h2; exact h hk)] at hP
  refine AW.seq_k fun K hK => AW.region (by kernel_rfl) ?_
  simp -implicitDefEqProofs only [go_sem, seval, ↓reduceIte, q2, q3]
  refine hK _ ?_
  clear hK K
  refine AW.condS (by simp -implicitDefEqProofs only [go_sem, seval, ↓reduceIte]; rfl) (fun h52 => ?_) (fun h52 => ?_)
  · cases h52
  refine AW.skip ?_
  simp -implicitDefEqProofs only [go_sem, seval, ↓reduceIte]
  refine hK3 _ ?_
  refine AW.seq_k fun K hK => AW.region (by kernel_rfl) ?_
  simp -implicitDefEqProofs only [go_sem, seval, ↓reduceIte]
  refine hK _ ?_
  clear hK K
  refine AW.ret ?_
  simp -implicitDefEqProofs only [go_sem, seval, ↓reduceIte]
  refine endK_some ?_
  rw [hP]; rfl
end Go.Hs
end

section
namespace Go.Hs
open Go.Proofs
set_option maxRecDepth 10000
theorem exprP_len {s : List UInt8} (hs : s.length < 100000) : ∀ names, (guardP s names).1.length < 1000000 := by
  intro names
  have := (exprP_bnd hs).1
  unfold guardP
  split
  · show (1 : Nat) < _; omega
  split
  · show (0 : Nat) < _; omega
  split
  · show (0 : Nat) < _; omega
  · show (exprP s).1.length < _; omega
theorem lTypesNames (G : Nat → V) (hE : GExp G) (s : Sl XN) (t : List UInt8) (names : Sl (List UInt8)) :
    Spec Tryz.prog G 5 [.agg [encSl .old 6 encXN s], .str t, encSl .old 1 V.str names] hNone (fun v _ => v = .bool true) := by
  have hG := hE.ok
  refine Spec.of_code' 0 62 [.tmp 6] Tryz.func5 rfl rfl rfl rfl fun X0 => ?_
  refine AW.seq_k fun K hK => AW.region (by kernel_rfl) ?_
  simp -implicitDefEqProofs only [go_sem, seval, ↓reduceIte]
  intro g3
  refine hK _ ?_
  clear hK K
  refine AW.seqJ (fun (_ : Unit) => st [(1, .str t), (2, encSl .old 1 V.str names), (3, .ptr 3 g3 0)] [(3, .cells .new g3 0 [encSl .old 6 encXN s])]) (fun _ => fewT s.l names.l = true ∧ t.length ≤ 400) (fun K1 hK1 => ?_) ?_
  · refine AW.seq_k fun K hK => AW.region (by kernel_rfl) ?_
    simp -implicitDefEqProofs only [go_sem, seval, ↓reduceIte]
    refine CallA.pure hG (by kernel_rfl) ?_
    simp -implicitDefEqProofs only [go_sem, seval, ↓reduceIte, recol_xns]
    refine (wFew_spec G hG _ _ s names).mono ?_
    rintro _ _ rfl
    simp -implicitDefEqProofs only [go_sem, seval, ↓reduceIte]
    cases hf : fewT s.l names.l with
    | false =>
      simp -implicitDefEqProofs only [go_sem, seval, ↓reduceIte]
      refine hK _ ?_
      clear hK K
      refine AW.condS (by simp -implicitDefEqProofs only [go_sem, seval, ↓reduceIte]; rfl) (fun h27 => ?_) (fun h27 => ?_)
      · refine AW.seq_k fun K hK => AW.region (by kernel_rfl) ?_
        simp -implicitDefEqProofs only [go_sem, seval, ↓reduceIte]
        refine CallA.pure hG (by kernel_rfl) ?_
        simp -implicitDefEqProofs only [go_sem, seval, ↓reduceIte, List.map_nil]
        refine (wWorks_spec G hE).mono ?_
        rintro _ _ rfl
        simp -implicitDefEqProofs only [go_sem, seval, ↓reduceIte]
        refine hK _ ?_
        clear hK K
        refine AW.ret ?_
        simp -implicitDefEqProofs only [go_sem, seval, ↓reduceIte]
        refine endK_some ?_
        rfl
      · cases h27
    | true =>
    by_cases hz : t.length > 400
    · have q1 : decide (((t.length : Nat) : Int) > 400) = true := by rw [decide_eq_true_iff]; omega
      simp -implicitDefEqProofs only [go_sem, seval, ↓reduceIte, q1]
      refine hK _ ?_
      clear hK K
      refine AW.condS (by simp -implicitDefEqProofs only [go_sem, seval, ↓reduceIte]; rfl) (fun h27 => ?_) (fun h27 => ?_)
      · refine AW.seq_k fun K hK => AW.region (by kernel_rfl) ?_
        simp -implicitDefEqProofs only [go_sem, seval, ↓reduceIte]
        refine CallA.pure hG (by kernel_rfl) ?_
        simp -implicitDefEqProofs only [go_sem, seval, ↓reduceIte, List.map_nil]
        refine (wWorks_spec G hE).mono ?_
        rintro _ _ rfl
        simp -implicitDefEqProofs only [go_sem, seval, ↓reduceIte]
        refine hK _ ?_
        clear hK K
        refine AW.ret ?_
        simp -implicitDefEqProofs only [go_sem, seval, ↓reduceIte]
        refine endK_some ?_
        rfl
      · cases h27
    · have q1 : decide (((t.length : Nat) : Int) > 400) = false := by rw [decide_eq_false_iff_not]; omega
      simp -implicitDefEqProofs only [go_sem, seval, ↓reduceIte, q1]
      refine hK _ ?_
      clear hK K
      refine AW.condS (by simp -implicitDefEqProofs only [go_sem, seval, ↓reduceIte]; rfl) (fun h27 => ?_) (fun h27 => ?_)
      · cases h27
      refine AW.skip ?_
      simp -implicitDefEqProofs only [go_sem, seval, ↓reduceIte]
      exact hK1 _ () ⟨hf, by omega⟩ (Weak.st (by simp -implicitDefEqProofs only [go_sem, seval, ↓reduceIte]; try rfl) (by simp -implicitDefEqProofs only [go_sem, seval, ↓reduceIte]; try rfl))
  rintro _ ⟨hf, hz⟩
  obtain ⟨hl1, hl2, hl3, hl4⟩ := fewT_true hf
  have hs : s.l.length < 1000000 := by omega
  have hnm : ∀ n ∈ s.l, n.name.length < 100000 := fun n hn => by have := hl4 n hn; omega
  have hnl : names.l.length < 1000000 := by omega
  have hgl := exprP_len (s := t) (by omega) names.l
  have hGu := fun c => tGuard_spec G hE c t names (by omega) hnl
  have hGr := fun c => r9Guard_spec G hG c t names (by omega) hnl
  generalize guardP t names.l = p at hGu hGr hgl
  obtain ⟨ns, i, e⟩ := p
  simp only at hgl
  refine AW.seq_k fun K hK => AW.region (by kernel_rfl) ?_
  simp -implicitDefEqProofs only [go_sem, seval, ↓reduceIte]
  refine CallA.pure hG (by kernel_rfl) ?_
  simp -implicitDefEqProofs only [go_sem, seval, ↓reduceIte]
  refine (hGu _).mono ?_
  rintro _ _ rfl
  simp -implicitDefEqProofs only [go_sem, seval, ↓reduceIte, encFr, encXs, recol_xns]
  intro g7
  refine hK _ ?_
  clear hK K
  refine AW.seq_k fun K hK => AW.region (by kernel_rfl) ?_
  simp -implicitDefEqProofs only [go_sem, seval, ↓reduceIte]
  refine CallA.pure hG (by kernel_rfl) ?_
  simp -implicitDefEqProofs only [go_sem, seval, ↓reduceIte]
  refine (hGr _).mono ?_
  rintro _ _ rfl
  simp -implicitDefEqProofs only [go_sem, seval, ↓reduceIte, encRr, encXs, recol_xns]
  refine hK _ ?_
  clear hK K
  refine AW.weak (Weak.stF (fun o => o == 3 || o == 7) (l := [(3, .view .new (.agg [encSl .old 6 encXN s])), (7, .view .new (.agg [encSl .new 6 encXN (grownS ns)])), (8, .int .i64 i), (9, .int .i64 e), (10, encSl .new 6 encXN (grownS ns)), (11, .int .i64 i), (12, .int .i64 e)]) (m := []) ?_ trivial) ?_
  · simp -implicitDefEqProofs only [go_sem, seval, ↓reduceIte]
    exact ⟨Fz.ptr (v := .agg [encSl .old 6 encXN s]) (c := .new) (fz := 0) rfl (by simp -implicitDefEqProofs only [go_sem, seval, ↓reduceIte]; try rfl), Fz.ptr (v := .agg [encSl .new 6 encXN (grownS ns)]) (c := .new) (fz := 0) rfl (by simp -implicitDefEqProofs only [go_sem, seval, ↓reduceIte]; try rfl), Fz.same _, Fz.same _, Fz.same _, Fz.same _, Fz.same _⟩
  have nl := namesP_len s.l
  generalize hN : namesP s.l = N at nl
  have pN : PureC Tryz.prog G 26 [.agg [encSl .old 6 encXN s]] (encSl .new 1 V.str (grownS N)) := ⟨by kernel_rfl, by
    simp -implicitDefEqProofs only [go_sem, seval, ↓reduceIte, recol_xns]
    refine (tNames_spec G hE _ s hs hnm).mono ?_
    rintro _ _ rfl
    rw [hN]; simp -implicitDefEqProofs only [go_sem, seval, ↓reduceIte]⟩
  have pR : PureC Tryz.prog G 17 [.agg [encSl .old 6 encXN s]] (encSl .new 6 encXN (grownS s.l)) := ⟨by kernel_rfl, by
    simp -implicitDefEqProofs only [go_sem, seval, ↓reduceIte, recol_xns]
    refine (wRef_spec G hG _ s hs).mono ?_
    rintro _ _ rfl
    rw [encXs]; simp -implicitDefEqProofs only [go_sem, seval, ↓reduceIte, recol_xns]⟩
  have pN2 : PureC Tryz.prog G 27 [encSl .new 6 encXN (grownS s.l)] (encSl .new 1 V.str (grownS N)) := ⟨by kernel_rfl, by
    simp -implicitDefEqProofs only [go_sem, seval, ↓reduceIte, recol_xns]
    refine (r9Names_spec G hG _ (grownS s.l) (by rw [grownS_l]; exact hs) (by rw [grownS_l]; exact hnm)).mono ?_
    rintro _ _ rfl
    rw [grownS_l, hN]; simp -implicitDefEqProofs only [go_sem, seval, ↓reduceIte]⟩
  have pS : PureC Tryz.prog G 25 [encSl .new 1 V.str (grownS N), encSl .new 1 V.str (grownS N)] (.bool true) := ⟨by kernel_rfl, by
    simp -implicitDefEqProofs only [go_sem, seval, ↓reduceIte]
    refine (kSameTexts_spec G hG _ _ (grownS N) (grownS N) (by rw [grownS_l]; omega)).mono ?_
    rintro _ _ rfl
    simp; rfl⟩
  have pR2 : PureC Tryz.prog G 17 [.agg [encSl .new 6 encXN (grownS ns)]] (encSl .new 6 encXN (grownS ns)) := ⟨by kernel_rfl, by
    simp -implicitDefEqProofs only [go_sem, seval, ↓reduceIte, recol_xns]
    refine (wRef_spec G hG _ (grownS ns) (by rw [grownS_l]; exact hgl)).mono ?_
    rintro _ _ rfl
    rw [encXs, grownS_l]; simp -implicitDefEqProofs only [go_sem, seval, ↓reduceIte, recol_xns]⟩
  have pS2 : PureC Tryz.prog G 28 [encSl .new 6 encXN (grownS ns), encSl .new 6 encXN (grownS ns)] (.bool true) := ⟨by kernel_rfl, by
    simp -implicitDefEqProofs only [go_sem, seval, ↓reduceIte, recol_xns]
    refine (wSame_spec G hG _ _ (grownS ns) (grownS ns) (by rw [grownS_l]; exact hgl)).mono ?_
    rintro _ _ rfl
    simp; rfl⟩
  have pW : PureC Tryz.prog G 15 [] (.bool true) := ⟨by kernel_rfl, by
    simp -implicitDefEqProofs only [go_sem, seval, ↓reduceIte, List.map_nil]
    refine (wWorks_spec G hE).mono ?_
    rintro _ _ rfl
    rfl⟩
  have e2 : (i == i) = true := by simp
  have e3 : (e == e) = true := by simp
  refine AW.seq_k fun K hK => AW.regionT ⟨fun i => if i = 1 then encSl .new 1 V.str (grownS N) else if i = 3 then encSl .new 6 encXN (grownS s.l) else if i = 4 then encSl .new 1 V.str (grownS N) else if i = 8 then encSl .new 6 encXN (grownS ns) else .bool true, fun _ => .pure⟩ (by kernel_rfl) hG (by kernel_rfl) (by kernel_rfl) ?_
  simp -implicitDefEqProofs only [go_sem, seval, ↓reduceIte, e2, e3]
  refine ⟨pN, pR, pN2, pS, pR2, pS2, pW, ?_⟩
  refine hK _ ?_
  clear hK K
  refine AW.ret ?_
  simp -implicitDefEqProofs only [go_sem, seval, ↓reduceIte]
  refine endK_some ?_
  rfl
end Go.Hs
end

section
namespace Go.Proofs.YtpoiceejhcpnaaaGreatDoor
open Go.RowKit Go.Hs
set_option maxRecDepth 100000
def laidAll : List (String × DataW Unit) := [("math/bits.deBruijn32tab", Rows.laid_math_bits_deBruijn32tab), ("math/bits.deBruijn64tab", Rows.laid_math_bits_deBruijn64tab), ("internal/strconv.uint64pow10", Rows.laid_internal_strconv_uint64pow10), ("unicode/utf8.acceptRanges", Rows.laid_unicode_utf8_acceptRanges), ("strconv.ErrRange", Rows.laid_strconv_ErrRange), ("strconv.ErrSyntax", Rows.laid_strconv_ErrSyntax), ("hopscotch/lex.signs", Rows.laid_hopscotch_lex_signs), ("unicode/utf8.first", Rows.laid_unicode_utf8_first)]
noncomputable def low : Nat := (World.holding Tryz.prog default ⟨#[], #[], []⟩).heap.size
def b32 : List Int := [0, 1, 28, 2, 29, 14, 24, 3, 30, 22, 20, 15, 25, 17, 4, 8, 31, 27, 13, 23, 21, 19, 16, 7, 26, 12, 18, 6, 11, 5, 10, 9]
def b64 : List Int := 0 :: 1 :: 56 :: 2 :: 57 :: 49 :: 28 :: 3 :: 61 :: 58 :: 42 :: 50 :: 38 :: 29 :: 17 :: 4 :: 62 :: 47 :: 59 :: 36 :: 45 :: 43 :: 51 :: 22 :: 53 :: 39 :: 33 :: 30 :: 24 :: 18 :: 12 :: 5 :: 63 :: 55 :: 48 :: 27 :: 60 :: 41 :: 37 :: 16 :: 46 :: 35 :: 44 :: 21 :: 52 :: 32 :: 23 :: 11 :: 54 :: 26 :: 40 :: 15 :: 34 :: 20 :: 31 :: 10 :: 25 :: 14 :: 19 :: 9 :: 13 :: 8 :: 7 :: 6 :: []
def acR : List Int := [128, 191, 160, 191, 128, 159, 144, 191, 128, 143] ++ List.replicate 22 0
def errR : ByteArray := { data := #[118, 97, 108, 117, 101, 32, 111, 117, 116, 32, 111, 102, 32, 114, 97, 110, 103, 101] }
def errS : ByteArray := { data := #[105, 110, 118, 97, 108, 105, 100, 32, 115, 121, 110, 116, 97, 120] }
def withCells (cs : Array Value) : Obj → Obj
  | .cells _ t frozen => .cells cs t frozen
  | o => o
noncomputable def laidWorld (os : Os) : World :=
  let w0 := World.holding Tryz.prog os ⟨#[.cells #[.string errR] 240, .cells #[.string errS] 240], #[], []⟩
  { w0 with heap := (((((((w0.heap.modify 1 (withCells #[.iface 238 (.pointer (some ⟨low, 0, none⟩))])).modify 6 (withCells #[.iface 238 (.pointer (some ⟨low + 1, 0, none⟩))])).modify 3
      (withCells (Lib.pow10Tab.map (Value.int .u64)).toArray)).modify 7 (withCells (b32.map (Value.int .u8)).toArray)).modify 8 (withCells (b64.map (Value.int .u8)).toArray)).modify 5 (withCells (acR.map (Value.int .u8)).toArray)).modify
      0 (withCells (signsL.map fun s => Value.string ⟨s.toArray⟩).toArray)).modify 4 (withCells (Pinned.utf8FirstZ.map fun (n : Nat) => Value.int .u8 (n : Int)).toArray) }
theorem laidWorld_met (os : Os) (args : Array Value) : laidMet Tryz.prog laidAll ((laidWorld os).forCall (fun _ _ => 0) ⟨#[], args, []⟩).memory :=
  laidMet_of_run' 8 (by kernel_rfl) (by kernel_rfl)
end Go.Proofs.YtpoiceejhcpnaaaGreatDoor
end

section
namespace Go.Proofs.YtpoiceejhcpnaaaGreatDoor
open Go.RowKit Go.Hs
set_option maxRecDepth 100000
theorem laidMet_tail {P : Program} {W : World} {x : String × DataW Unit} {r : List (String × DataW Unit)} (h : laidMet P (x :: r) W) : laidMet P r W := by
  obtain ⟨n, d⟩ := x
  obtain ⟨ps, ⟨g0, t0, cs0, f0, p0, q0, hg0, ht0, hv0, hd0, hq, e0⟩, hnd, hrows⟩ := h
  subst e0
  exact ⟨q0, hq, (List.nodup_append.1 hnd).2.1, fun b off hm => hrows b off (List.mem_append.2 (.inr hm))⟩
noncomputable def gE (m : Int) : Nat → V := fun g => if g = 1 then .view .old (.iface 238 (.view .old (.agg []))) else if g = 3 then .view .old (.agg (Lib.pow10Tab.map (V.int .u64)))
  else if g = 0 then .view .old (.agg (signsL.map V.str)) else if g = 2 then .view .old (.int .i64 m) else .top
theorem recolL_ints (f : Col → Col) : ∀ l : List Int, V.recolL f (l.map (V.int .u64)) = l.map (V.int .u64)
  | [] => rfl
  | x :: r => by simp only [List.map_cons, V.recolL]; rw [recolL_ints f r]; rfl
theorem recolL_strs (f : Col → Col) : ∀ l : List (List UInt8), V.recolL f (l.map V.str) = l.map V.str
  | [] => rfl
  | x :: r => by simp only [List.map_cons, V.recolL]; rw [recolL_strs f r]; rfl
theorem gE_ok (m : Int) : GExp (gE m) where
  ok := fun g => by
    unfold gE
    split
    · exact ⟨rfl, .view _ _ fun x hx => by simp [V.cells] at hx; subst hx; exact .iface _ _ (.view _ _ fun x hx => by simp [V.cells] at hx)⟩
    · split
      · refine ⟨by simp only [V.recol, Col.ent, recolL_ints], .view _ _ fun x hx => ?_⟩
        obtain ⟨n, _, rfl⟩ := List.mem_map.1 hx
        exact .int _ _
      · split
        · refine ⟨by simp only [V.recol, Col.ent, recolL_strs], .view _ _ fun x hx => ?_⟩
          obtain ⟨n, _, rfl⟩ := List.mem_map.1 hx
          exact .str _
        · split
          · exact ⟨rfl, .view _ _ fun x hx => by simp [V.cells] at hx; subst hx; exact .int _ _⟩
          · exact ⟨rfl, .top⟩
  er := ⟨_, _, _, rfl⟩
  tab := ⟨_, rfl⟩
  sg := ⟨_, rfl⟩
  ml := ⟨_, m, rfl⟩
theorem gER : Tryz.prog.globalNamed "strconv.ErrRange" = some 1 := by kernel_rfl
theorem gERType : (Tryz.prog.globals[1]?).map (·.type) = some 136 := by kernel_rfl
theorem cells111 : Tryz.prog.cellsOf 240 = 1 := by kernel_rfl
theorem cells9 : Tryz.prog.cellsOf 9 = 1 := by kernel_rfl
theorem star : "*" ++ "errors.errorString" = "*errors.errorString" := by decide
theorem row109 (u : TypeId) (h : Tryz.prog.typeName? 3 u = some "*errors.errorString") : u = 238 :=
  typeName_ptr_named (nm := "errors.errorString") (by rw [star]; kernel_rfl) (by kernel_rfl) (by decide) u (by rw [star]; exact h)
theorem gTab : Tryz.prog.globalNamed "internal/strconv.uint64pow10" = some 3 := by kernel_rfl
theorem gTabType : ∃ t n, (Tryz.prog.globals[3]?).map (·.type) = some t ∧ Tryz.prog.underlying t = some (.array n 182) ∧ Tryz.prog.cellsOf t = n ∧ n = 20 := by
  refine ⟨(((Tryz.prog.globals[3]?).map (·.type)).getD 0), 20, by kernel_rfl, by kernel_rfl, by kernel_rfl, rfl⟩
theorem laid_tab {W : World} (h : laidMet Tryz.prog laidAll W) : Lib.TabIs Tryz.prog W "internal/strconv.uint64pow10" .u64 Lib.pow10Tab := by
  obtain ⟨t, n, h1, h2, h3, rfl⟩ := gTabType
  have e : (Rows.laid_internal_strconv_uint64pow10 : DataW Unit) = Lib.tabData .u64 Lib.pow10Tab := by rfl
  have h4 := laidMet_tail (laidMet_tail h)
  rw [e] at h4
  exact Lib.tabIs_of_head gTab h1 h2 Tryz.underlying182 (by kernel_rfl) h3 h4
theorem laid_err {W : World} (h : laidMet Tryz.prog laidAll W) : ∃ b off, W.cell? ⟨1, 0, none⟩ = some (.iface 238 (.pointer (some ⟨b, off, none⟩))) := by
  obtain ⟨a, s, h1, h2, _, _⟩ := laid_sentinel (laidMet_tail (laidMet_tail (laidMet_tail (laidMet_tail h)))) gER gERType Tryz.underlying136 row109 Tryz.underlying238 Tryz.underlying240 rfl rfl Tryz.underlying9 cells111 cells9
  have h0 := World.var?_cell gER h1 0
  have hs := World.cell?_spot h2
  obtain ⟨b, off, sp⟩ := a
  have hs : sp = none := hs
  subst hs
  exact ⟨b, off, by simpa using h0⟩
def strData {H : Type} (zs : List (List UInt8)) : DataW H := .agg (zs.map fun z => .lit (.string z))
theorem cells_of_strs {H : Type} {enc : TypeId × Value → H} {P : Program} {w : World} {base : Nat} {sp : Nat → Bool} {held : Bool} {fuel : Nat} {t e : TypeId} {n : Nat} {cs : List Value} {zs : List (List UInt8)} {p : List MemPlace}
    (ht : P.underlying t = some (.array n e)) (he : P.underlying e = some .string) (hce : P.cellsOf e = 1) (hct : P.cellsOf t = n)
    (h : DataW.trod enc P w base sp held fuel t cs = some (strData zs, p)) : cs.length = zs.length ∧ ∀ i (hi : i < zs.length), ∃ s : ByteArray, cs[i]? = some (.string s) ∧ s.data.toList = zs[i] := by
  cases fuel with
  | zero => simp [DataW.trod] at h
  | succ fuel =>
    simp only [DataW.trod, ht, hce, hct, Nat.mul_one] at h
    split at h
    · rename_i hl
      obtain ⟨xs, hm, hx⟩ := Option.map_eq_some_iff.1 h
      have hxs : xs.map (·.1) = zs.map fun z => (DataW.lit (.string z) : DataW H) := by
        have := congrArg Prod.fst hx
        simpa [strData] using this
      have hxl : xs.length = n := by simpa using Lib.mapM_length hm
      have hzl : zs.length = n := by
        have := congrArg List.length hxs
        simp at this
        omega
      refine ⟨by omega, fun i hi => ?_⟩
      have hin : i < n := by omega
      obtain ⟨b, hb, hf⟩ := Lib.mapM_at hm i i (by simp [hin])
      obtain ⟨z, hc, rfl, _⟩ := DataW.trod_string he hf
      have h1 : cs[i]? = some (.string z) := by
        have := congrArg (·[0]?) hc
        simpa [List.getElem?_take, List.getElem?_drop] using this
      have h2 : (xs.map (·.1))[i]? = some (DataW.lit (.string z.data.toList) : DataW H) := by simp [hb]
      rw [hxs, List.getElem?_map, List.getElem?_eq_getElem hi] at h2
      refine ⟨z, h1, ?_⟩
      have h3 : (DataW.lit (.string zs[i]) : DataW H) = .lit (.string z.data.toList) := Option.some.inj h2
      injection h3 with h3
      injection h3 with h3
      exact h3.symm
    · cases h
theorem gSg : Tryz.prog.globalNamed "hopscotch/lex.signs" = some 0 := by kernel_rfl
theorem gSgType : (Tryz.prog.globals[0]?).map (·.type) = some 148 := by kernel_rfl
theorem laid_signs {W : World} (h : laidMet Tryz.prog laidAll W) : ∃ cs : Array Value, W.var? Tryz.prog "hopscotch/lex.signs" = some cs ∧ cs.size = 14 ∧ ∀ i (hi : i < signsL.length), ∃ s : ByteArray, cs[i]? = some (.string s) ∧ s.data.toList = signsL[i] := by
  have e : (Rows.laid_hopscotch_lex_signs : DataW Unit) = strData signsL := by rfl
  have h4 := laidMet_tail (laidMet_tail (laidMet_tail (laidMet_tail (laidMet_tail (laidMet_tail h)))))
  rw [e] at h4
  obtain ⟨ps, ⟨g', t', cs, fuel, p, q, hg', ht', hvar, hd, _, _⟩, _⟩ := h4
  obtain rfl := Option.some.inj (gSg.symm.trans hg')
  obtain rfl := Option.some.inj (gSgType.symm.trans ht')
  obtain ⟨h1, h2⟩ := cells_of_strs Tryz.underlying148 Tryz.underlying9 cells9 (by kernel_rfl) hd
  refine ⟨_, hvar, (by simpa using h1 : cs.size = signsL.length).trans rfl, fun i hi => ?_⟩
  obtain ⟨s, h3, h4⟩ := h2 i hi
  exact ⟨s, by simpa using h3, h4⟩
theorem maxlen_of {W : World} (h : W.ShapedOpen Tryz.prog) : ∃ m, W.cell? ⟨2, 0, none⟩ = some (.int .i64 m) := by
  obtain ⟨cs, hh, hs, hr⟩ := h.1 2 #[.int .i64 0] 3 (of_decide_eq_true (by kernel_rfl)) (by kernel_rfl)
  obtain ⟨ts, hts, _, hall⟩ := hr (by kernel_rfl)
  rw [show Tryz.prog.cellTypes Tryz.prog.depth 3 = some [3] by kernel_rfl] at hts
  cases hts
  have h1 : 0 < cs.size := by rw [hs]; decide
  obtain ⟨u, hu', hok⟩ := hall 0 cs[0] (by simp [h1])
  have : u = 3 := by simpa using hu'.symm
  subst this
  have hcell : W.cell? ⟨2, 0, none⟩ = some cs[0] := by simp [World.cell?, hh, h1]
  rw [hcell]
  unfold Cell.ok at hok
  rw [Tryz.underlying3] at hok
  cases hv : cs[0] <;> rw [hv] at hok <;> first | (obtain ⟨rfl, _⟩ := hok; exact ⟨_, rfl⟩) | simp at hok
theorem laid_G {W : World} (h : laidMet Tryz.prog laidAll W) (hS : W.ShapedOpen Tryz.prog) : ∃ m, ∀ g, RelG (Cx.ofW W) g (gE m g) := by
  obtain ⟨m, hml⟩ := maxlen_of hS
  refine ⟨m, fun g => ?_⟩
  unfold gE
  split
  · rename_i hg
    subst hg
    obtain ⟨b, off, h1⟩ := laid_err h
    refine ⟨?_, trivial⟩
    refine .view .old _ 1 0 (fun _ => .iface 238 (.pointer (some ⟨b, off, none⟩))) (fun i hi => ?_) (fun i hi => ?_)
    · have : i = 0 := by simpa [V.cells] using hi
      subst this
      refine ⟨by show (W.cell? _).isSome = true; rw [h1]; rfl, World.block_lt_of_cell? _ _ h1, h1, rfl⟩
    · have : i = 0 := by simpa [V.cells] using hi
      subst this
      exact .iface _ _ _ (.view .old _ b off (fun _ => .nilIface) (fun i hi => by simp [V.cells] at hi) (fun i hi => by simp [V.cells] at hi))
  · split
    · rename_i hg
      subst hg
      have ht := laid_tab h
      have hc : ∀ i (hi : i < Lib.pow10Tab.length), W.cell? ⟨3, i, none⟩ = some (.int .u64 (Lib.pow10Tab.getD i 0)) := fun i hi => ht.cell gTab i hi
      have hlen : Lib.pow10Tab.length = 20 := Lib.pow10Tab_length
      have hlt : 3 < W.heap.size := World.block_lt_of_cell? _ _ (hc 0 (by omega))
      have hv : W.var? Tryz.prog "internal/strconv.uint64pow10" = some (Lib.pow10Tab.map fun z => Value.int .u64 z).toArray := ht
      refine ⟨?_, ?_⟩
      · refine .view .old _ 3 0 (fun i => .int .u64 (Lib.pow10Tab.getD i 0)) (fun i hi => ?_) (fun i hi => ?_)
        · have hi : i < Lib.pow10Tab.length := by simpa [V.cells] using hi
          rw [Nat.zero_add]
          exact ⟨by show (W.cell? _).isSome = true; rw [hc i hi]; rfl, hlt, hc i hi, rfl⟩
        · have hi' : i < Lib.pow10Tab.length := by simpa [V.cells] using hi
          have key : ∀ v, v = V.int .u64 (Lib.pow10Tab.getD i 0) → Rel (Cx.ofW W) (Value.int .u64 (Lib.pow10Tab.getD i 0)) v := fun v e => by rw [e]; exact .int _ _
          exact key _ (by simp [V.cells, List.getD, hi'])
      · refine ⟨hlt, ?_⟩
        unfold World.var? at hv
        rw [gTab] at hv
        have hv : (match W.heap[3]? with | some (Obj.cells cs _ _) => some cs | _ => none) = some (Lib.pow10Tab.map fun z => Value.int .u64 z).toArray := hv
        split at hv
        · rename_i cs t fr hh
          cases hv
          exact ⟨_, t, fr, hh, by simp⟩
        · cases hv
    · split
      · rename_i hg
        subst hg
        obtain ⟨cs, hv, hsz, hcs⟩ := laid_signs h
        have h0 := fun i => World.var?_cell gSg hv i
        have hc : ∀ i (hi : i < signsL.length), ∃ s : ByteArray, W.cell? ⟨0, i, none⟩ = some (.string s) ∧ s.data.toList = signsL[i] := fun i hi => by
          obtain ⟨s, h1, h2⟩ := hcs i hi
          exact ⟨s, by rw [h0 i]; exact h1, h2⟩
        have hlt : 0 < W.heap.size := by
          obtain ⟨s, h1, _⟩ := hc 0 (by decide)
          exact World.block_lt_of_cell? _ _ h1
        refine ⟨?_, ?_⟩
        · refine .view .old _ 0 0 (fun i => (cs[i]?).getD undef) (fun i hi => ?_) (fun i hi => ?_)
          · have hi : i < signsL.length := by simpa [V.cells] using hi
            obtain ⟨s, h1, _⟩ := hcs i hi
            rw [Nat.zero_add, h1]
            have h2 : W.cell? ⟨0, i, none⟩ = some (.string s) := by rw [h0 i]; exact h1
            exact ⟨by show (W.cell? _).isSome = true; rw [h2]; rfl, hlt, h2, rfl⟩
          · have hi' : i < signsL.length := by simpa [V.cells] using hi
            obtain ⟨s, h1, h2⟩ := hcs i hi'
            rw [h1]
            have key : ∀ v, v = V.str signsL[i] → Rel (Cx.ofW W) (Value.string s) v := fun v e => by rw [e]; exact .str _ _ h2
            exact key _ (by simp [V.cells])
        · refine ⟨hlt, ?_⟩
          unfold World.var? at hv
          rw [gSg] at hv
          have hv : (match W.heap[0]? with | some (Obj.cells cs _ _) => some cs | _ => none) = some cs := hv
          split at hv
          · rename_i cs' t fr hh
            cases hv
            exact ⟨_, t, fr, hh, by rw [hsz]; rfl⟩
          · cases hv
      · split
        · rename_i hg
          subst hg
          refine ⟨?_, trivial⟩
          refine .view .old _ 2 0 (fun _ => .int .i64 m) (fun i hi => ?_) (fun i hi => ?_)
          · have : i = 0 := by simpa [V.cells] using hi
            subst this
            refine ⟨by show (W.cell? _).isSome = true; rw [hml]; rfl, World.block_lt_of_cell? _ _ hml, hml, rfl⟩
          · have : i = 0 := by simpa [V.cells] using hi
            subst this
            exact .int _ _
        · exact ⟨.top _, trivial⟩
end Go.Proofs.YtpoiceejhcpnaaaGreatDoor
end

section
namespace Go.Proofs.YtpoiceejhcpnaaaGreatDoor
open Go.RowKit Go.Hs Go.ChangeShapes Go.WideShapes Go.ChangeAt
open Go.ChangeMaps (open_string shut_string)
set_option maxRecDepth 100000
theorem reads_str (W : World) : Reads Tryz.prog W 9 1 (fun s : List UInt8 => [V.str s]) := by
  refine ⟨by kernel_rfl, fun _ => rfl, fun enc held fuel cs x h => ?_⟩
  obtain ⟨s, rfl, _, _⟩ := DataW.trod_string Tryz.underlying9 h
  exact ⟨s.data.toList, RelC.cons rfl (.str _ _ rfl) RelC.nil⟩
theorem reads_strs (W : World) : Reads Tryz.prog W 25 1 (fun s : Sl (List UInt8) => [encSl .any 1 V.str s]) :=
  Reads.slice Tryz.underlying25 (by kernel_rfl) (by decide) (reads_str W)
theorem reads_xn (W : World) : Reads Tryz.prog W 41 6 (fun n : XN => (encXN n).cells) := by
  refine ⟨by kernel_rfl, fun _ => rfl, fun enc held fuel cs x h => ?_⟩
  obtain ⟨xs, n, _, _, hl, hlen, hf⟩ := DataW.trod_struct Tryz.underlying41 h
  have e43 : Tryz.prog.cellsOf 41 = 6 := by kernel_rfl
  rw [e43] at hl
  have hx : xs.length = 6 := hlen
  obtain ⟨op, h0⟩ := Reads.field (Reads.int (W := W) Tryz.underlying5 (by kernel_rfl)) (i := 0) (hf 0 _ rfl) (by omega)
  obtain ⟨num, h1⟩ := Reads.field (Reads.int (W := W) Tryz.underlying2 (by kernel_rfl)) (i := 1) (hf 1 _ rfl) (by omega)
  obtain ⟨name, h2⟩ := Reads.field (reads_str W) (i := 2) (hf 2 _ rfl) (by omega)
  obtain ⟨a, h3⟩ := Reads.field (Reads.int (W := W) Tryz.underlying3 (by kernel_rfl)) (i := 3) (hf 3 _ rfl) (by omega)
  obtain ⟨b, h4⟩ := Reads.field (Reads.int (W := W) Tryz.underlying3 (by kernel_rfl)) (i := 4) (hf 4 _ rfl) (by omega)
  obtain ⟨c, h5⟩ := Reads.field (Reads.int (W := W) Tryz.underlying3 (by kernel_rfl)) (i := 5) (hf 5 _ rfl) (by omega)
  match cs, hl with
  | [c0, c1, c2, c3, c4, c5], _ => exact ⟨⟨op, num, name, a, b, c⟩, h0.append (h1.append (h2.append (h3.append (h4.append h5))))⟩
theorem reads_xns (W : World) : Reads Tryz.prog W 22 1 (fun s : Sl XN => [encSl .any 6 encXN s]) :=
  Reads.slice Tryz.underlying22 (by kernel_rfl) (by decide) (reads_xn W)
theorem reads_expr (W : World) : Reads Tryz.prog W 24 1 (fun s : Sl XN => (V.agg [encSl .any 6 encXN s]).cells) := by
  refine ⟨by kernel_rfl, fun _ => rfl, fun enc held fuel cs x h => ?_⟩
  obtain ⟨xs, n, _, _, hl, hlen, hf⟩ := DataW.trod_struct Tryz.underlying24 h
  have e24 : Tryz.prog.cellsOf 24 = 1 := by kernel_rfl
  rw [e24] at hl
  have hx : xs.length = 1 := hlen
  obtain ⟨s, h0⟩ := Reads.field (reads_xns W) (i := 0) (hf 0 _ rfl) (by omega)
  match cs, hl with
  | [c0], _ => exact ⟨s, h0⟩
variable {W : World} {H : Type} {enc : TypeId × Value → H} {b0 : Nat} {v : Value} {d : DataW H} {ps : List MemPlace}
theorem argS (hv : Value.okWide Tryz.prog W .any b0 9 v) (h : DataW.Trod enc Tryz.prog W 0 (fun _ => true) true 9 v d ps) : ∃ x : List UInt8, Rel (Cx.ofW W) v (.str x) := by
  obtain ⟨s, rfl, _, _, _⟩ := open_string Tryz.underlying9 hv h
  exact ⟨_, .str s _ rfl⟩
theorem argL (hv : Value.okWide Tryz.prog W .any b0 25 v) (h : DataW.Trod enc Tryz.prog W 0 (fun _ => true) true 25 v d ps) : ∃ x : Sl (List UInt8), Rel (Cx.ofW W) v (encSl .old 1 V.str x) := by
  obtain ⟨fuel, h⟩ := h
  obtain ⟨x, hx⟩ := (reads_strs W).2.2 enc true fuel _ _ h
  have key : Rel (Cx.ofW W) v (encSl .any 1 V.str x) := by
    unfold Value.okWide at hv
    rw [Tryz.underlying25] at hv
    have hc : v.cells = #[v] := by
      unfold Cell.okWide Cell.ok at hv
      rw [Tryz.underlying25] at hv
      cases v <;> first | rfl | (simp at hv)
    rw [hc] at hx
    exact hx.rel 0 (by simp) (by simp)
  have h2 := key.ofW_old
  refine ⟨x, ?_⟩
  simpa only [go_sem, List.map_cons, List.map_nil] using h2
theorem argX (hv : Value.okWide Tryz.prog W .any b0 24 v) (h : DataW.Trod enc Tryz.prog W 0 (fun _ => true) true 24 v d ps) : ∃ x : Sl XN, Rel (Cx.ofW W) v (.agg [encSl .old 6 encXN x]) := by
  obtain ⟨fuel, h⟩ := h
  obtain ⟨x, hx⟩ := (reads_expr W).2.2 enc true fuel _ _ h
  have key : Rel (Cx.ofW W) v (.agg [encSl .any 6 encXN x]) := by
    unfold Value.okWide at hv
    rw [Tryz.underlying24] at hv
    obtain ⟨cs, rfl, _, _⟩ := hv
    have hx' : RelC (Cx.ofW W) (Value.agg cs).cells.toList [encSl .any 6 encXN x] := hx
    exact Rel.of_aggC hx'
  have h2 := key.ofW_old
  refine ⟨x, ?_⟩
  simpa only [go_sem, recol_xns, List.map_cons, List.map_nil] using h2
theorem own : ownKnob Tryz.prog.godebug = none := by kernel_rfl
theorem laidOut : laidOutB Tryz.prog = true := by kernel_rfl
theorem lift_shaped {a : Assume} {C : Checked} {os : Os} {f : FuncId} {fn : Func} {H : Type} {enc : TypeId × Value → H} {s : ChangeSpec} {conds : List PathCond} {apart fresh handsOn again : Bool} {X : World → Array Value → Prop}
    (hX : ∀ (w w' : World) (args : Array Value), w.heap = w'.heap → X w args → X w' args)
    (ownk : ownKnob C.prog.godebug = none) (started : os.Started) (noInit : C.prog.inits.idxOf? f = none) (hfn : C.prog.funcs[f]? = some fn)
    (witness : ∃ (w : World) (tape : Tape) (i : Input), w.os = os ∧ (w.forCall tape i).Shaped C.prog ∧ i.vars = [] ∧ Input.okWide C.prog (w.forCall tape i) .any w.heap.size f i ∧
      ((s.pre enc C.prog fn conds apart (w.forCall tape i).memory i.args ∧ X (w.forCall tape i).memory i.args) ∧ sizedMet enc C.prog fn (OpenSpec.ofChange s) apart (w.forCall tape i).memory i.args) ∧ a.holds C.prog (lone (Frame.enter C.prog f i.args .normal) [] (w.forCall tape i)))
    (contract : ∀ (W : World) (base : Nat) (args : Array Value) (ds gs : List (DataW H)) (before : List MemPlace), W.ShapedOpen C.prog →
      (∀ (j : Nat) t v, fn.params[j]? = some t → args[j]? = some v → Value.okWide C.prog W .any base t v) →
      DataW.Whole enc C.prog fn.params.toList s.vars apart W args.toList ds gs before → X W args →
      Calls C.prog f args W fun e W' => ∃ v, e = .returned v ∧ s.post enc C.prog fn apart fresh handsOn again W args v W') :
    ReturnsInHanded a C os f .any (fun w args => (s.pre enc C.prog fn conds apart w args ∧ X w args) ∧ sizedMet enc C.prog fn (OpenSpec.ofChange s) apart w args) (s.post enc C.prog fn apart fresh handsOn again) := by
  refine returnsInHanded_of_calls ownk started noInit witness ?_
  intro w tape i _ hsh _ hok hpre _
  obtain ⟨_, _, _, fn', hfn', _, _, _, _, hval⟩ := hok
  have e : fn' = fn := Option.some.inj (hfn'.symm.trans hfn)
  subst e
  obtain ⟨⟨⟨ds, gs, before, hw, _⟩, hx⟩, _⟩ := hpre
  have hw' := DataW.Whole.of_heap (w' := w.forCall tape i) (by rfl) hw
  refine (contract (w.forCall tape i) w.heap.size i.args ds gs before hsh hval hw' (hX _ _ _ (by rfl) hx)).mono fun e W' ⟨v, he, hp⟩ => ?_
  subst he
  exact ChangeSpec.post_blind hp
end Go.Proofs.YtpoiceejhcpnaaaGreatDoor
end

section
namespace Go.Proofs.YtpoiceejhcpnaaaGreatDoor.typesNames
open Go.ChangeShapes Go.WideShapes Go.ChangeAt Go.RowKit Go.Hs
set_option linter.unusedVariables false
set_option maxRecDepth 100000
theorem lifted (os : Os) (started : os.Started) (H : Type) (enc : TypeId × Value → H) :
    ReturnsInHanded {} Tryz.checked os 5 .any (fun w args => (Rows.typesNamesSpec.pre enc Tryz.prog Tryz.f5 Rows.typesNamesRow.domain false w args ∧ laidMet Tryz.prog laidAll w) ∧ sizedMet enc Tryz.prog Tryz.f5 (OpenSpec.ofChange Rows.typesNamesSpec) false w args)
      (Rows.typesNamesSpec.post enc Tryz.prog Tryz.f5 false true false false) := by
  refine lift_shaped (C := Tryz.checked) (X := fun w _ => laidMet Tryz.prog laidAll w) (fun _ _ _ hh h => h.of_heap hh) own started (by kernel_rfl) Tryz.func5
    (ChangeSpec.witness_at (enc := enc) (C := Tryz.checked) (os := os) (X := fun w _ => laidMet Tryz.prog laidAll w) false (laidWorld os) #[.agg #[.slice none 0 0], .string ⟨#[]⟩, .slice none 0 0] 8 rfl (by kernel_rfl) (by kernel_rfl) (by kernel_rfl) (by kernel_rfl) (by kernel_rfl) (laidWorld_met os _)) ?_
  intro W base args ds gs before hS hval0 hW hL
  have hval : ∀ (j : Nat) t v, Tryz.f5.params[j]? = some t → args[j]? = some v → Value.okWide Tryz.prog W .any base t v := hval0
  have hW' := hW
  obtain ⟨p, q, hA0, hV, rfl, hfz, hnd⟩ := hW
  have hA : DataW.TrodAll enc Tryz.prog W 0 (fun _ => true) true Tryz.f5.params.toList args.toList ds p := hA0
  rw [Tryz.params5] at hA hval
  obtain ⟨v0, vs0, d0, ds0, p0, q0, hargs, rfl, rfl, h0, r0⟩ := trodAll_cons hA
  obtain ⟨v1, vs1, d1, ds1, p1, q1, rfl, rfl, rfl, h1, r1⟩ := trodAll_cons r0
  obtain ⟨v2, vs2, d2, ds2, p2, q2, rfl, rfl, rfl, h2, r2⟩ := trodAll_cons r1
  obtain ⟨rfl, rfl, rfl⟩ := trodAll_nil r2
  obtain rfl : args = #[v0, v1, v2] := by cases args; simp_all
  obtain ⟨rfl, rfl⟩ := trodVars_none hV
  obtain ⟨x0, hx0⟩ := argX (hval 0 24 v0 rfl rfl) h0
  obtain ⟨x1, hx1⟩ := argS (hval 1 9 v1 rfl rfl) h1
  obtain ⟨x2, hx2⟩ := argL (hval 2 25 v2 rfl rfl) h2
  have hR : RelA (Cx.ofW W) #[v0, v1, v2] [.agg [encSl .old 6 encXN x0], V.str x1, encSl .old 1 V.str x2] := by
    refine ⟨rfl, fun i k1 k2 => ?_⟩
    match i, k1 with
    | 0, _ => exact hx0
    | 1, _ => exact hx1
    | 2, _ => exact hx2
  obtain ⟨m, hG⟩ := laid_G hL hS
  refine (Spec.toCallsG (lTypesNames (gE m) (gE_ok m) x0 x1 x2) hG hR).mono ?_
  rintro e W' ⟨c, v, H', Y, rfl, hr, rfl, hB⟩
  obtain rfl := hr.bool_inv
  have hlt0 : ∀ x ∈ p0, x.block < W.heap.size := fun x hx => by simpa using hW'.lt x (by simp [hx])
  have hlt1 : ∀ x ∈ p1, x.block < W.heap.size := fun x hx => by simpa using hW'.lt x (by simp [hx])
  have hlt2 : ∀ x ∈ p2, x.block < W.heap.size := fun x hx => by simpa using hW'.lt x (by simp [hx])
  have k0 := Below.trod laidOut (by kernel_rfl) (of_decide_eq_true (by kernel_rfl)) h0 hB hlt0
  have k1 := Below.trod laidOut (by kernel_rfl) (of_decide_eq_true (by kernel_rfl)) h1 hB hlt1
  have k2 := Below.trod laidOut (by kernel_rfl) (of_decide_eq_true (by kernel_rfl)) h2 hB hlt2
  refine ⟨_, rfl, _, _, _, [], p0 ++ (p1 ++ (p2 ++ [])), [], hW', ?_, ?_, rfl, hB.frame _, fun h => by cases h⟩
  · exact trodAll_cons_mk (shut_bool Tryz.underlying4 _) trodAll_mk0
  · exact trodAll_cons_mk k0 (trodAll_cons_mk k1 (trodAll_cons_mk k2 trodAll_mk0))
theorem over : Rows.typesNamesRow.holds Tryz.pinned (OpenSpec.ofChange Rows.typesNamesSpec) :=
  OpenClaim.holds_of_wide 5 Tryz.f5 rfl rfl rfl rfl rfl rfl rfl ⟨rfl, rfl, rfl, rfl, rfl⟩ rfl rfl rfl rfl rfl (by kernel_rfl) Tryz.func5 (by kernel_rfl)
    (of_decide_eq_true (by kernel_rfl)) (by unfold Func.isWrapper; first | (rw [if_pos (by decide +kernel)]; kernel_rfl) | (rw [if_neg (by decide +kernel)]; exact ⟨rfl, rfl⟩))
    (fun os started H enc _ => lifted os started H enc)
theorem wants (j : Nat) (t : TypeId) (h : Tryz.f5.params[j]? = some t) : Tryz.prog.wantsStandIn t = false := by
  rw [Tryz.params5] at h
  match j, h with
  | 0, h => exact (Option.some.inj h : 24 = t) ▸ (show Tryz.prog.wantsStandIn 24 = false by kernel_rfl)
  | 1, h => exact (Option.some.inj h : 9 = t) ▸ (show Tryz.prog.wantsStandIn 9 = false by kernel_rfl)
  | 2, h => exact (Option.some.inj h : 25 = t) ▸ (show Tryz.prog.wantsStandIn 25 = false by kernel_rfl)
  | j + 3, h => cases h
theorem proved : Rows.TypesNamesCardSaid :=
  Claim7.holds_tied_plain_at .later [] [.data, .data, .data, .data, .sentinel, .sentinel, .widerDeep, .pinned] true (true, "c61799da9672bb93df461c861db7a63f9a2dff05b3c1b7d4d17194ccce321fe3") true
    over (fun _ h => by cases h) (by kernel_rfl) (fun _ h => by cases h) typesNames_row_tie rfl ⟨rfl, rfl⟩ (by kernel_rfl) rfl
    (fun f fn hf hfn => by
      obtain rfl : f = 5 := Option.some.inj ((show Tryz.prog.funcNamed "hopscotch/hopscotchlaw09.TypesNames" = some 5 by kernel_rfl).symm.trans hf) |>.symm
      obtain rfl : fn = Tryz.f5 := (Option.some.inj (Tryz.func5.symm.trans hfn)).symm
      exact ⟨by kernel_rfl, fun j t ht => wants j t ht⟩)
    (by kernel_rfl)
#print axioms proved
end Go.Proofs.YtpoiceejhcpnaaaGreatDoor.typesNames
end
