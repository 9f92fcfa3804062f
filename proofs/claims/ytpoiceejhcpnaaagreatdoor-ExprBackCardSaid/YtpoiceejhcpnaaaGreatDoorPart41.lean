/- Part 41 of the proof of a statement of seat YtpoiceejhcpnaaaGreatDoor: HsEPrtR HsEExprDep4 HsExprNm HsEExprFr HsEExprPa HsEPrtP HsERedR4 HsERedR5 HsEPrtL HsEPrtWk HsEExpL3 HsExprSub HsTypLaw. -/
import Derived.Test.YtpoiceejhcpnaaaGreatDoorPart40
import Derived.Test.YtpoiceejhcpnaaaGreatDoorPart39
import Derived.Test.YtpoiceejhcpnaaaGreatDoorPart38
import Derived.Test.YtpoiceejhcpnaaaGreatDoorPart37
set_option linter.unusedSimpArgs false
set_option linter.unusedVariables false
section
namespace Go.Hs
open Go.Proofs
set_option maxRecDepth 10000
theorem joinW_cons (w : List UInt8) {b : List (List UInt8)} (h : b ≠ []) : joinW (w :: b) = w ++ 32 :: joinW b := by
 cases b with
 | nil => exact absurd rfl h
 | cons => rfl
theorem joinW_app : ∀ {a b : List (List UInt8)}, a ≠ [] → b ≠ [] → joinW (a ++ b) = joinW a ++ 32 :: joinW b
 | [], _, h, _ => absurd rfl h
 | [w], b, _, hb => by rw [List.singleton_append, joinW_cons w hb]; rfl
 | w :: v :: r, b, _, hb => by
  rw [List.cons_append, joinW_cons w (by simp), joinW_app (a := v :: r) (by simp) hb, joinW_cons w (by simp)]
  simp
theorem W_ne (x : X) (k : Int) : x.W k ≠ [] := by
 cases x with
 | leaf => simp [X.W]
 | un => rw [X.W]; unfold parW; split <;> simp
 | bin => rw [X.W]; unfold parW; split <;> simp
 | ite => simp [X.W]
theorem body_ne (x : X) : x.body ≠ [] := by cases x <;> simp [X.body]
theorem join_par {ts : List (List UInt8)} (h : ts ≠ []) : joinW (parW true ts) = [40, 32] ++ joinW ts ++ [32, 41] := by
 show joinW ([40] :: (ts ++ [[41]])) = _
 rw [joinW_cons _ (by simp), joinW_app h (by simp)]
 simp [joinW]
theorem join_W_len {x : X} (h : x.ok = true) (hf : x.fit) (k : Int) : (joinW (x.W k)).length ≤ 66 * x.size := Nat.le_trans (joinW_len _) (W_len x h hf k)
theorem rPrint_spec (G : Nat → V) (hG : GOk G) (s : Sl XN) (hs : s.l.length < 1000) : ∀ (m : Nat) (y : X) (b : Nat) (c : Col) (k : Int), y.size ≤ m → At s.l y b → y.ok = true → y.fit → 0 ≤ k → k ≤ 9 →
  Spec Tryz.prog G 60 [encSl c 6 encXN s, .int .i64 ((b : Int) + y.size - 1), .int .i64 k] hNone (fun v _ => v = .str (joinW (y.W k))) := by
 intro m
 induction m with
 | zero => intro y b c k hm; have := y.size_pos; omega
 | succ m ih =>
 intro y b c k hm hat hy hf hk0 hk9
 refine Spec.of_code' 0 96 [.tmp 6] Tryz.func60 rfl rfl rfl rfl fun X0 => ?_
 have hyp := y.size_pos
 have hget := hat.get
 have hsz : b + y.size ≤ s.l.length := by
  obtain ⟨pre, post, e1, e2⟩ := hat
  have := congrArg List.length e1
  simp only [List.length_append, X.row_len] at this
  omega
 have hW := W_body hy hk9 (b : Int)
 have hop := top_op hy (b : Int)
 have hbl : (joinW y.body).length ≤ 66 * y.size := by
  have := W_body hy (k := 0) (by decide) (b : Int)
  have h2 := join_W_len hy hf 0
  rw [this] at h2
  cases hq : decide (lvl (y.top b).op.toNat < 0)
  ·rw [hq] at h2; exact h2
  ·rw [hq, join_par (body_ne y)] at h2
   simp only [List.length_append] at h2
   omega
 have hpos : ((b : Int) + y.size - 1) = ((b + y.size - 1 : Nat) : Int) := by omega
 have hlt : b + y.size - 1 < s.l.length := by omega
 have hmx : ∀ z : Nat, z < 1000000 → ¬ ((z : Int) > IntKind.i64.max) := by
  intro z hz
  rw [show IntKind.i64.max = 9223372036854775807 from rfl]; omega
 rw [hpos]
 generalize hn : y.top b = n at hget hW hop
 generalize y.W k = res at hW ⊢
 refine AW.seq_k fun K hK => AW.region (by kernel_rfl) ?_
 simp -implicitDefEqProofs only[go_sem,seval,↓reduceIte]
 refine hK _ ?_
 clear hK K
 refine AW.seq_k fun K hK => AW.region (by kernel_rfl) ?_
 simp -implicitDefEqProofs only[go_sem,seval,↓reduceIte, hget, hlt, encXN_K]
 intro g7
 refine hK _ ?_
 clear hK K
 refine AW.weak (Weak.stF (fun o => o == 7) (l := [(0, encSl c 6 encXN s), (2, .int .i64 k), (7, .view .new (encXN n))]) (m := []) ?_ trivial) ?_
 ·simp -implicitDefEqProofs only[go_sem,seval,↓reduceIte]
  exact ⟨Fz.same _, Fz.same _, Fz.ptr (v := encXN n) (c := .new) (fz := 0) rfl (by simp -implicitDefEqProofs only[go_sem,seval,↓reduceIte]; try rfl)⟩
 obtain ⟨on, hon⟩ : ∃ on : Nat, n.op = on := ⟨n.op.toNat, by omega⟩
 have hot : n.op.toNat = on := by omega
 have hon22 : on ≤ 22 := by omega
 refine AW.seq_k fun K hK => AW.region (by kernel_rfl) ?_
 simp -implicitDefEqProofs only[go_sem,seval,↓reduceIte]
 refine hK _ ?_
 clear hK K
 refine AW.seq_k fun K hK => AW.region (by kernel_rfl) ?_
 simp -implicitDefEqProofs only[go_sem,seval,↓reduceIte, encXN_K]
 refine CallA.pure hG (by kernel_rfl) ?_
 simp -implicitDefEqProofs only[go_sem,seval,↓reduceIte]
 rw [hon]
 refine (rLev_spec G hG on (by omega)).mono ?_
 rintro _ _ rfl
 simp -implicitDefEqProofs only[go_sem,seval,↓reduceIte]
 refine hK _ ?_
 clear hK K
 have pw : ∀ (z : X) (bz : Nat) (lv : Int), z.size ≤ m → At s.l z bz → z.ok = true → z.fit → 0 ≤ lv → lv ≤ 9 → PureC Tryz.prog G 60 [encSl c 6 encXN s, .int .i64 ((bz : Int) + z.size - 1), .int .i64 lv] (.str (joinW (z.W lv))) := by
  intro z bz lv h1 h2 h3 h4 h5 h6
  refine ⟨by kernel_rfl, ?_⟩
  simp -implicitDefEqProofs only[go_sem,seval,↓reduceIte, recol_xns]
  refine (ih z bz _ lv h1 h2 h3 h4 h5 h6).mono ?_
  rintro _ _ rfl
  rfl
 have pS : PureC Tryz.prog G 92 [] (encSl .new 1 V.str (.mk false sgnR)) := ⟨by kernel_rfl, by
  simp -implicitDefEqProofs only[go_sem,seval,↓reduceIte, List.map_nil]
  refine (rSigns_spec G hG).mono ?_
  rintro _ _ rfl
  exact recol_enc _ _ _ (fun _ => rfl) _⟩
 refine AW.seqJ (fun (_ : Unit) => st [(2, .int .i64 k), (8, .str (joinW y.body)), (9, .int .i64 (lvl on))] []) (fun _ => True) (fun K1 hK1 => ?_) ?_
 rotate_left
 ·intro _ _
  refine AW.seq_k fun K2 hK2 => ?_
  rw [hot] at hW
  by_cases hlk : lvl on < k
  ·have e1 : decide (lvl on < k) = true := by simpa using hlk
   rw [e1] at hW
   have l1 := hmx (2 + (joinW y.body).length) (by omega)
   have l2 := hmx ((joinW y.body).length + 1 + 1 + 2) (by omega)
   refine AW.seq_k fun K hK => AW.region (by kernel_rfl) ?_
   simp -implicitDefEqProofs only[go_sem,seval,↓reduceIte, e1]
   refine hK _ ?_
   clear hK K
   refine AW.condS (by simp -implicitDefEqProofs only[go_sem,seval,↓reduceIte]; rfl) (fun h99 => ?_) (fun h99 => ?_)
   rotate_left
   ·cases h99
   refine AW.seq_k fun K hK => AW.region (by kernel_rfl) ?_
   simp -implicitDefEqProofs only[go_sem,seval,↓reduceIte, l1, l2]
   refine hK _ ?_
   clear hK K
   refine AW.ret ?_
   simp -implicitDefEqProofs only[go_sem,seval,↓reduceIte]
   refine endK_some ?_
   rw [hW, join_par (body_ne y)]
   try simp
  ·have e1 : decide (lvl on < k) = false := by simpa using hlk
   rw [e1] at hW
   refine AW.seq_k fun K hK => AW.region (by kernel_rfl) ?_
   simp -implicitDefEqProofs only[go_sem,seval,↓reduceIte, e1]
   refine hK _ ?_
   clear hK K
   refine AW.condS (by simp -implicitDefEqProofs only[go_sem,seval,↓reduceIte]; rfl) (fun h99 => ?_) (fun h99 => ?_)
   ·cases h99
   refine AW.skip ?_
   simp -implicitDefEqProofs only[go_sem,seval,↓reduceIte]
   refine hK2 _ ?_
   refine AW.seq_k fun K hK => AW.region (by kernel_rfl) ?_
   simp -implicitDefEqProofs only[go_sem,seval,↓reduceIte]
   refine hK _ ?_
   clear hK K
   refine AW.ret ?_
   simp -implicitDefEqProofs only[go_sem,seval,↓reduceIte]
   refine endK_some ?_
   rw [hW]; rfl
 refine AW.seq_k fun K hK => AW.region (by kernel_rfl) ?_
 simp -implicitDefEqProofs only[go_sem,seval,↓reduceIte, encXN_K]
 refine CallA.pure hG (by kernel_rfl) ?_
 simp -implicitDefEqProofs only[go_sem,seval,↓reduceIte]
 refine (rPartsOf_spec G hG on).mono ?_
 rintro _ _ rfl
 simp -implicitDefEqProofs only[go_sem,seval,↓reduceIte]
 refine hK _ ?_
 clear hK K
 refine AW.block ?_
 cases y with
 | leaf op num name =>
  obtain rfl : n = ⟨op, num, name, -1, -1, -1⟩ := hn.symm
  rcases leaf_cases hy with ⟨rfl, h1, rfl⟩ | ⟨rfl, rfl, h1⟩ | ⟨rfl, rfl, rfl⟩ | ⟨rfl, rfl, rfl⟩
  ·have hf : num ≤ 9223372036854775807 := hf
   obtain rfl : on = 1 := by have : (1 : Int) = on := hon; omega
   have hp : partsOf ((1 : Nat) : Int) = 0 := rfl
   refine AW.seq_k fun K hK => AW.region (by kernel_rfl) ?_
   simp -implicitDefEqProofs only[go_sem,seval,↓reduceIte, hp]
   refine hK _ ?_
   clear hK K
   refine AW.condS (by simp -implicitDefEqProofs only[go_sem,seval,↓reduceIte]; rfl) (fun h22 => ?_) (fun h22 => ?_)
   rotate_left
   ·cases h22
   refine AW.seq_k fun K hK => AW.region (by kernel_rfl) ?_
   simp -implicitDefEqProofs only[go_sem,seval,↓reduceIte, encXN_K]
   refine hK _ ?_
   clear hK K
   refine AW.block ?_
   refine AW.seq_k fun K hK => AW.region (by kernel_rfl) ?_
   simp -implicitDefEqProofs only[go_sem,seval,↓reduceIte]
   refine hK _ ?_
   clear hK K
   refine AW.condS (by simp -implicitDefEqProofs only[go_sem,seval,↓reduceIte]; rfl) (fun h23 => ?_) (fun h23 => ?_)
   rotate_left
   ·cases h23
   refine AW.region (by kernel_rfl) ?_
   simp -implicitDefEqProofs only[go_sem,seval,↓reduceIte, encXN_K]
   refine CallA.pure hG (by kernel_rfl) ?_
   simp -implicitDefEqProofs only[go_sem,seval,↓reduceIte]
   refine (rPut_spec G hG num ⟨by show -9223372036854775808 ≤ num; omega, hf⟩).mono ?_
   rintro _ _ rfl
   simp -implicitDefEqProofs only[go_sem,seval,↓reduceIte]
   exact hK1 _ () trivial (Weak.st (by simp -implicitDefEqProofs only[go_sem,seval,↓reduceIte]; try rfl) (by simp -implicitDefEqProofs only[go_sem,seval,↓reduceIte]))
  ·obtain rfl : on = 2 := by have : (2 : Int) = on := hon; omega
   have hp : partsOf ((2 : Nat) : Int) = 0 := rfl
   refine AW.seq_k fun K hK => AW.region (by kernel_rfl) ?_
   simp -implicitDefEqProofs only[go_sem,seval,↓reduceIte, hp]
   refine hK _ ?_
   clear hK K
   refine AW.condS (by simp -implicitDefEqProofs only[go_sem,seval,↓reduceIte]; rfl) (fun h22 => ?_) (fun h22 => ?_)
   rotate_left
   ·cases h22
   refine AW.seq_k fun K hK => AW.region (by kernel_rfl) ?_
   simp -implicitDefEqProofs only[go_sem,seval,↓reduceIte, encXN_K]
   refine hK _ ?_
   clear hK K
   refine AW.block ?_
   refine AW.seq_k fun K hK => AW.region (by kernel_rfl) ?_
   simp -implicitDefEqProofs only[go_sem,seval,↓reduceIte]
   refine hK _ ?_
   clear hK K
   refine AW.condS (by simp -implicitDefEqProofs only[go_sem,seval,↓reduceIte]; rfl) (fun h23 => ?_) (fun h23 => ?_)
   ·cases h23
   clear h23
   refine AW.seq_k fun K hK => AW.region (by kernel_rfl) ?_
   simp -implicitDefEqProofs only[go_sem,seval,↓reduceIte]
   refine hK _ ?_
   clear hK K
   refine AW.condS (by simp -implicitDefEqProofs only[go_sem,seval,↓reduceIte]; rfl) (fun h23 => ?_) (fun h23 => ?_)
   rotate_left
   ·cases h23
   refine AW.region (by kernel_rfl) ?_
   simp -implicitDefEqProofs only[go_sem,seval,↓reduceIte, encXN_K]
   exact hK1 _ () trivial (Weak.st (by simp -implicitDefEqProofs only[go_sem,seval,↓reduceIte]; try rfl) (by simp -implicitDefEqProofs only[go_sem,seval,↓reduceIte]))
  ·obtain rfl : on = 3 := by have : (3 : Int) = on := hon; omega
   have hp : partsOf ((3 : Nat) : Int) = 0 := rfl
   refine AW.seq_k fun K hK => AW.region (by kernel_rfl) ?_
   simp -implicitDefEqProofs only[go_sem,seval,↓reduceIte, hp]
   refine hK _ ?_
   clear hK K
   refine AW.condS (by simp -implicitDefEqProofs only[go_sem,seval,↓reduceIte]; rfl) (fun h22 => ?_) (fun h22 => ?_)
   rotate_left
   ·cases h22
   refine AW.seq_k fun K hK => AW.region (by kernel_rfl) ?_
   simp -implicitDefEqProofs only[go_sem,seval,↓reduceIte, encXN_K]
   refine hK _ ?_
   clear hK K
   refine AW.block ?_
   refine AW.seq_k fun K hK => AW.region (by kernel_rfl) ?_
   simp -implicitDefEqProofs only[go_sem,seval,↓reduceIte]
   refine hK _ ?_
   clear hK K
   refine AW.condS (by simp -implicitDefEqProofs only[go_sem,seval,↓reduceIte]; rfl) (fun h23 => ?_) (fun h23 => ?_)
   ·cases h23
   clear h23
   refine AW.seq_k fun K hK => AW.region (by kernel_rfl) ?_
   simp -implicitDefEqProofs only[go_sem,seval,↓reduceIte]
   refine hK _ ?_
   clear hK K
   refine AW.condS (by simp -implicitDefEqProofs only[go_sem,seval,↓reduceIte]; rfl) (fun h23 => ?_) (fun h23 => ?_)
   ·cases h23
   clear h23
   refine AW.seq_k fun K hK => AW.region (by kernel_rfl) ?_
   simp -implicitDefEqProofs only[go_sem,seval,↓reduceIte]
   refine hK _ ?_
   clear hK K
   refine AW.condS (by simp -implicitDefEqProofs only[go_sem,seval,↓reduceIte]; rfl) (fun h23 => ?_) (fun h23 => ?_)
   rotate_left
   ·cases h23
   refine AW.region (by kernel_rfl) ?_
   simp -implicitDefEqProofs only[go_sem,seval,↓reduceIte, encXN_K]
   exact hK1 _ () trivial (Weak.st (by simp -implicitDefEqProofs only[go_sem,seval,↓reduceIte]; try rfl) (by simp -implicitDefEqProofs only[go_sem,seval,↓reduceIte]))
  ·obtain rfl : on = 4 := by have : (4 : Int) = on := hon; omega
   have hp : partsOf ((4 : Nat) : Int) = 0 := rfl
   refine AW.seq_k fun K hK => AW.region (by kernel_rfl) ?_
   simp -implicitDefEqProofs only[go_sem,seval,↓reduceIte, hp]
   refine hK _ ?_
   clear hK K
   refine AW.condS (by simp -implicitDefEqProofs only[go_sem,seval,↓reduceIte]; rfl) (fun h22 => ?_) (fun h22 => ?_)
   rotate_left
   ·cases h22
   refine AW.seq_k fun K hK => AW.region (by kernel_rfl) ?_
   simp -implicitDefEqProofs only[go_sem,seval,↓reduceIte, encXN_K]
   refine hK _ ?_
   clear hK K
   refine AW.block ?_
   refine AW.seq_k fun K hK => AW.region (by kernel_rfl) ?_
   simp -implicitDefEqProofs only[go_sem,seval,↓reduceIte]
   refine hK _ ?_
   clear hK K
   refine AW.condS (by simp -implicitDefEqProofs only[go_sem,seval,↓reduceIte]; rfl) (fun h23 => ?_) (fun h23 => ?_)
   ·cases h23
   clear h23
   refine AW.seq_k fun K hK => AW.region (by kernel_rfl) ?_
   simp -implicitDefEqProofs only[go_sem,seval,↓reduceIte]
   refine hK _ ?_
   clear hK K
   refine AW.condS (by simp -implicitDefEqProofs only[go_sem,seval,↓reduceIte]; rfl) (fun h23 => ?_) (fun h23 => ?_)
   ·cases h23
   clear h23
   refine AW.seq_k fun K hK => AW.region (by kernel_rfl) ?_
   simp -implicitDefEqProofs only[go_sem,seval,↓reduceIte]
   refine hK _ ?_
   clear hK K
   refine AW.condS (by simp -implicitDefEqProofs only[go_sem,seval,↓reduceIte]; rfl) (fun h23 => ?_) (fun h23 => ?_)
   ·cases h23
   clear h23
   refine AW.region (by kernel_rfl) ?_
   simp -implicitDefEqProofs only[go_sem,seval,↓reduceIte, encXN_K]
   exact hK1 _ () trivial (Weak.st (by simp -implicitDefEqProofs only[go_sem,seval,↓reduceIte]; try rfl) (by simp -implicitDefEqProofs only[go_sem,seval,↓reduceIte]))
 | un op a =>
  obtain rfl : n = ⟨op, 0, [], (b : Int) + a.size - 1, -1, -1⟩ := hn.symm
  simp only [X.ok, Bool.and_eq_true, decide_eq_true_eq] at hy
  have hon : op = on := hon
  subst hon
  have hp : partsOf on = 1 := by unfold partsOf; rw [if_neg (by omega), if_pos (by omega)]
  have hlv : lvl on = 9 := by
   have : on = 5 ∨ on = 6 := by omega
   rcases this with h | h <;> rw [h] <;> rfl
  have hwa := pw a b 9 (by simp only [X.size] at hm; omega) hat.un hy.2 hf (by decide) (by decide)
  have hla := join_W_len hy.2 hf 9
  have hsl := sg_len on (by omega)
  have hsg := sgnR_get on (by omega) (by omega)
  have hj : joinW (X.un (on : Int) a).body = sgT on ++ [32] ++ joinW (a.W 9) := by
   rw [X.body, joinW_cons _ (W_ne a 9)]
   show sgT ((on : Int).toNat) ++ _ = _
   rw [Int.toNat_natCast]; simp
  have hsz2 : a.size < 1000 := by simp only [X.size] at hsz; omega
  generalize joinW (a.W 9) = ta at hwa hla hj
  generalize sgT on = sg at hsl hsg hj
  have l1 := hmx (sg.length + 1) (by omega)
  have l2 := hmx ((sg ++ [32]).length + ta.length) (by simp only [List.length_append, List.length_cons, List.length_nil]; omega)
  have hsr : (Sl.mk false sgnR).l = sgnR := rfl
  rw [hlv] at hK1 ⊢
  refine AW.seq_k fun K hK => AW.region (by kernel_rfl) ?_
  simp -implicitDefEqProofs only[go_sem,seval,↓reduceIte, hp]
  refine hK _ ?_
  clear hK K
  refine AW.condS (by simp -implicitDefEqProofs only[go_sem,seval,↓reduceIte]; rfl) (fun h22 => ?_) (fun h22 => ?_)
  ·cases h22
  clear h22
  refine AW.seq_k fun K hK => AW.region (by kernel_rfl) ?_
  simp -implicitDefEqProofs only[go_sem,seval,↓reduceIte, hp]
  refine hK _ ?_
  clear hK K
  refine AW.condS (by simp -implicitDefEqProofs only[go_sem,seval,↓reduceIte]; rfl) (fun h22 => ?_) (fun h22 => ?_)
  rotate_left
  ·cases h22
  refine AW.regionT ⟨fun i => if i = 0 then encSl .new 1 V.str (.mk false sgnR) else .str ta, fun i => if i = 0 then .pure else if i = 10 then .pure else .lend⟩ (by kernel_rfl) hG (by kernel_rfl) (by kernel_rfl) ?_
  simp -implicitDefEqProofs only[go_sem,seval,↓reduceIte, encXN_K, hsr, hsg, l1, l2]
  refine ⟨pS, hwa, ?_⟩
  exact hK1 _ () trivial (Weak.st (by rw [hj]; simp -implicitDefEqProofs only[go_sem,seval,↓reduceIte]; try rfl) (by simp -implicitDefEqProofs only[go_sem,seval,↓reduceIte]))
 | bin op a b' =>
  obtain rfl : n = ⟨op, 0, [], (b : Int) + a.size - 1, (b : Int) + a.size + b'.size - 1, -1⟩ := hn.symm
  simp only [X.ok, Bool.and_eq_true, decide_eq_true_eq] at hy
  have hon : op = on := hon
  subst hon
  have hp : partsOf on = 2 := by unfold partsOf; rw [if_neg (by omega), if_neg (by omega), if_pos (by omega)]
  obtain ⟨l1, l2, _, _⟩ := lvl_rng on (by omega) (by omega)
  simp only [X.size] at hm hsz
  have hwa := pw a b (lvl on) (by omega) hat.bin.1 hy.1.2 hf.1 (by omega) (by omega)
  have hwb := pw b' (b + a.size) (lvl on + 1) (by omega) hat.bin.2 hy.2 hf.2 (by omega) (by omega)
  rw [Int.natCast_add] at hwb
  have hw : IntKind.i64.wrap (lvl on + 1) = lvl on + 1 := w64 (by omega) (by omega)
  have hla := join_W_len hy.1.2 hf.1 (lvl on)
  have hlb := join_W_len hy.2 hf.2 (lvl on + 1)
  have hsl := sg_len on (by omega)
  have hsg := sgnR_get on (by omega) (by omega)
  have hj : joinW (X.bin (on : Int) a b').body = joinW (a.W (lvl on)) ++ [32] ++ sgT on ++ [32] ++ joinW (b'.W (lvl on + 1)) := by
   rw [X.body, joinW_app (W_ne a _) (by simp), joinW_cons _ (W_ne b' _)]
   rw [Int.toNat_natCast]; simp
  generalize joinW (a.W (lvl on)) = ta at hwa hla hj
  generalize joinW (b'.W (lvl on + 1)) = tb at hwb hlb hj
  generalize sgT on = sg at hsl hsg hj
  have m1 := hmx (ta.length + 1) (by omega)
  have m2 := hmx ((ta ++ [32]).length + sg.length) (by simp only [List.length_append, List.length_cons, List.length_nil]; omega)
  have m3 := hmx ((ta ++ [32] ++ sg).length + 1) (by simp only [List.length_append, List.length_cons, List.length_nil]; omega)
  have m4 := hmx ((ta ++ [32] ++ sg ++ [32]).length + tb.length) (by simp only [List.length_append, List.length_cons, List.length_nil]; omega)
  have hsr : (Sl.mk false sgnR).l = sgnR := rfl
  refine AW.seq_k fun K hK => AW.region (by kernel_rfl) ?_
  simp -implicitDefEqProofs only[go_sem,seval,↓reduceIte, hp]
  refine hK _ ?_
  clear hK K
  refine AW.condS (by simp -implicitDefEqProofs only[go_sem,seval,↓reduceIte]; rfl) (fun h22 => ?_) (fun h22 => ?_)
  ·cases h22
  clear h22
  refine AW.seq_k fun K hK => AW.region (by kernel_rfl) ?_
  simp -implicitDefEqProofs only[go_sem,seval,↓reduceIte, hp]
  refine hK _ ?_
  clear hK K
  refine AW.condS (by simp -implicitDefEqProofs only[go_sem,seval,↓reduceIte]; rfl) (fun h22 => ?_) (fun h22 => ?_)
  ·cases h22
  clear h22
  refine AW.seq_k fun K hK => AW.region (by kernel_rfl) ?_
  simp -implicitDefEqProofs only[go_sem,seval,↓reduceIte, hp]
  refine hK _ ?_
  clear hK K
  refine AW.condS (by simp -implicitDefEqProofs only[go_sem,seval,↓reduceIte]; rfl) (fun h22 => ?_) (fun h22 => ?_)
  rotate_left
  ·cases h22
  refine AW.regionT ⟨fun i => if i = 4 then .str ta else if i = 6 then encSl .new 1 V.str (.mk false sgnR) else .str tb, fun i => if i = 4 then .pure else if i = 6 then .pure else if i = 18 then .pure else .lend⟩ (by kernel_rfl) hG (by kernel_rfl) (by kernel_rfl) ?_
  simp -implicitDefEqProofs only[go_sem,seval,↓reduceIte, encXN_K, hsr, hsg, m1, m2, m3, m4, hw]
  refine ⟨hwa, pS, hwb, ?_⟩
  exact hK1 _ () trivial (Weak.st (by rw [hj]; simp -implicitDefEqProofs only[go_sem,seval,↓reduceIte]; try rfl) (by simp -implicitDefEqProofs only[go_sem,seval,↓reduceIte]))
 | ite a b' c' =>
  obtain rfl : n = ⟨22, 0, [], (b : Int) + a.size - 1, (b : Int) + a.size + b'.size - 1, (b : Int) + a.size + b'.size + c'.size - 1⟩ := hn.symm
  simp only [X.ok, Bool.and_eq_true] at hy
  simp only [X.size] at hm hsz
  obtain rfl : on = 22 := by have : (22 : Int) = on := hon; omega
  have hp : partsOf ((22 : Nat) : Int) = 3 := rfl
  have hwa := pw a b 0 (by omega) hat.ite.1 hy.1.1 hf.1 (by decide) (by decide)
  have hwb := pw b' (b + a.size) 0 (by omega) hat.ite.2.1 hy.1.2 hf.2.1 (by decide) (by decide)
  have hwc := pw c' (b + a.size + b'.size) 0 (by omega) hat.ite.2.2 hy.2 hf.2.2 (by decide) (by decide)
  rw [Int.natCast_add] at hwb
  rw [Int.natCast_add, Int.natCast_add] at hwc
  have hla := join_W_len hy.1.1 hf.1 0
  have hlb := join_W_len hy.1.2 hf.2.1 0
  have hlc := join_W_len hy.2 hf.2.2 0
  have hj : joinW (X.ite a b' c').body = [105, 102, 32] ++ joinW (a.W 0) ++ [32, 116, 104, 101, 110, 32] ++ joinW (b'.W 0) ++ [32, 101, 108, 115, 101, 32] ++ joinW (c'.W 0) ++ [32, 101, 110, 100, 105, 102] := by
   rw [X.body, joinW_cons _ (by simp), joinW_app (W_ne a 0) (by simp), joinW_cons _ (by simp), joinW_app (W_ne b' 0) (by simp), joinW_cons _ (by simp), joinW_app (W_ne c' 0) (by simp)]
   simp [joinW, wIf, wThen, wElse, wEndif]
  generalize joinW (a.W 0) = ta at hwa hla hj
  generalize joinW (b'.W 0) = tb at hwb hlb hj
  generalize joinW (c'.W 0) = tc at hwc hlc hj
  have m1 := hmx (3 + ta.length) (by omega)
  have m2 := hmx (ta.length + 1 + 1 + 1 + 6) (by omega)
  have m3 := hmx ((ta ++ [32, 116, 104, 101, 110, 32]).length + 1 + 1 + 1 + tb.length) (by simp only [List.length_append, List.length_cons, List.length_nil]; omega)
  have m4 := hmx ((ta ++ [32, 116, 104, 101, 110, 32] ++ tb).length + 1 + 1 + 1 + 6) (by simp only [List.length_append, List.length_cons, List.length_nil]; omega)
  have m5 := hmx ((ta ++ [32, 116, 104, 101, 110, 32] ++ tb ++ [32, 101, 108, 115, 101, 32]).length + 1 + 1 + 1 + tc.length) (by simp only [List.length_append, List.length_cons, List.length_nil]; omega)
  have m6 := hmx ((ta ++ [32, 116, 104, 101, 110, 32] ++ tb ++ [32, 101, 108, 115, 101, 32] ++ tc).length + 1 + 1 + 1 + 6) (by simp only [List.length_append, List.length_cons, List.length_nil]; omega)
  refine AW.seq_k fun K hK => AW.region (by kernel_rfl) ?_
  simp -implicitDefEqProofs only[go_sem,seval,↓reduceIte, hp]
  refine hK _ ?_
  clear hK K
  refine AW.condS (by simp -implicitDefEqProofs only[go_sem,seval,↓reduceIte]; rfl) (fun h22 => ?_) (fun h22 => ?_)
  ·cases h22
  clear h22
  refine AW.seq_k fun K hK => AW.region (by kernel_rfl) ?_
  simp -implicitDefEqProofs only[go_sem,seval,↓reduceIte, hp]
  refine hK _ ?_
  clear hK K
  refine AW.condS (by simp -implicitDefEqProofs only[go_sem,seval,↓reduceIte]; rfl) (fun h22 => ?_) (fun h22 => ?_)
  ·cases h22
  clear h22
  refine AW.seq_k fun K hK => AW.region (by kernel_rfl) ?_
  simp -implicitDefEqProofs only[go_sem,seval,↓reduceIte, hp]
  refine hK _ ?_
  clear hK K
  refine AW.condS (by simp -implicitDefEqProofs only[go_sem,seval,↓reduceIte]; rfl) (fun h22 => ?_) (fun h22 => ?_)
  ·cases h22
  clear h22
  refine AW.regionT ⟨fun i => if i = 3 then .str ta else if i = 9 then .str tb else .str tc, fun i => if i = 3 then .pure else if i = 9 then .pure else if i = 15 then .pure else .lend⟩ (by kernel_rfl) hG (by kernel_rfl) (by kernel_rfl) ?_
  simp -implicitDefEqProofs only[go_sem,seval,↓reduceIte, encXN_K, m1, m2, m3, m4, m5, m6]
  refine ⟨hwa, hwb, hwc, ?_⟩
  exact hK1 _ () trivial (Weak.st (by rw [hj]; simp -implicitDefEqProofs only[go_sem,seval,↓reduceIte]; try rfl) (by simp -implicitDefEqProofs only[go_sem,seval,↓reduceIte]))
end Go.Hs
end

section
namespace Go.Hs
open Go.Proofs
set_option maxRecDepth 10000
theorem rRight_spec (G : Nat → V) (hG : GOk G) (c : Col) (s : Sl XN) (hs : s.l.length < 1000000) (hnm : ∀ n ∈ s.l, n.name.length < 100000) :
  Spec Tryz.prog G 54 [encSl c 6 encXN s] hNone (fun v _ => v = .bool (rightR s.l)) := by
 refine Spec.of_code' 0 9 [.tmp 2] Tryz.func54 rfl rfl rfl rfl fun X => ?_
 have hw : IntKind.i64.wrap ((s.l.length : Int) - 1) = (s.l.length : Int) - 1 := w64 (by omega) (by omega)
 refine AW.seq_k fun K hK => AW.region (by kernel_rfl) ?_
 simp -implicitDefEqProofs only[go_sem,seval,↓reduceIte]
 refine hK _ ?_
 clear hK K
 refine AW.seq_k fun K hK => AW.region (by kernel_rfl) ?_
 simp -implicitDefEqProofs only[go_sem,seval,↓reduceIte, hw]
 refine CallA.pure hG (by kernel_rfl) ?_
 simp -implicitDefEqProofs only[go_sem,seval,↓reduceIte, recol_xns]
 refine (rBegin_spec G hG s hs hnm s.l.length c.ent ((s.l.length : Int) - 1) (by omega) (by omega) (by omega)).mono ?_
 rintro _ _ rfl
 simp -implicitDefEqProofs only[go_sem,seval,↓reduceIte]
 refine hK _ ?_
 clear hK K
 refine AW.ret ?_
 simp -implicitDefEqProofs only[go_sem,seval,↓reduceIte]
 refine endK_some ?_
 rfl
theorem rDepthN_spec (G : Nat → V) (hG : GOk G) (c : Col) (s : Sl XN) (hs : s.l.length < 1000000) (hnm : ∀ n ∈ s.l, n.name.length < 100000) :
  Spec Tryz.prog G 42 [encSl c 6 encXN s] hNone (fun v _ => v = .int .i64 (depthP s.l)) := by
 refine Spec.of_code' 0 11 [.tmp 2] Tryz.func42 rfl rfl rfl rfl fun X => ?_
 have hw : IntKind.i64.wrap ((s.l.length : Int) - 1) = (s.l.length : Int) - 1 := w64 (by omega) (by omega)
 refine AW.seq_k fun K hK => AW.region (by kernel_rfl) ?_
 simp -implicitDefEqProofs only[go_sem,seval,↓reduceIte]
 refine hK _ ?_
 clear hK K
 refine AW.seq_k fun K1 hK1 => ?_
 refine AW.seq_k fun K hK => AW.region (by kernel_rfl) ?_
 simp -implicitDefEqProofs only[go_sem,seval,↓reduceIte]
 refine CallA.pure hG (by kernel_rfl) ?_
 simp -implicitDefEqProofs only[go_sem,seval,↓reduceIte, recol_xns]
 refine (rRight_spec G hG c.ent s hs hnm).mono ?_
 rintro _ _ rfl
 simp -implicitDefEqProofs only[go_sem,seval,↓reduceIte]
 refine hK _ ?_
 clear hK K
 cases hr : rightR s.l with
 | false =>
  have hd : depthP s.l = 0 := by
   have := right_depth s.l
   rw [hr] at this
   have h2 := of_decide_eq_false this.symm
   exact Classical.byContradiction h2
  refine AW.condS (by simp -implicitDefEqProofs only[go_sem,seval,↓reduceIte]; rfl) (fun h6 => ?_) (fun h6 => ?_)
  ·refine AW.seq_k fun K hK => AW.region (by kernel_rfl) ?_
   simp -implicitDefEqProofs only[go_sem,seval,↓reduceIte]
   refine hK _ ?_
   clear hK K
   refine AW.ret ?_
   simp -implicitDefEqProofs only[go_sem,seval,↓reduceIte]
   refine endK_some ?_
   rw [hd]
  ·cases h6
 | true =>
 refine AW.condS (by simp -implicitDefEqProofs only[go_sem,seval,↓reduceIte]; rfl) (fun h6 => ?_) (fun h6 => ?_)
 ·cases h6
 refine AW.skip ?_
 simp -implicitDefEqProofs only[go_sem,seval,↓reduceIte]
 refine hK1 _ ?_
 obtain ⟨x, hx, hl⟩ := right_tree.1 hr
 have hat : At s.l x 0 := hl ▸ At.whole x
 have hdep : depthP s.l = x.depth := by rw [hl, depth_row hx]
 have hlen : s.l.length = x.size := by rw [hl, Go.Hs.X.row_len]
 have hsp := rDepth_at G hG s hs x 0 hat
 rw [show ((0 : Nat) : Int) + x.size - 1 = (s.l.length : Int) - 1 by omega] at hsp
 refine AW.seq_k fun K hK => AW.region (by kernel_rfl) ?_
 simp -implicitDefEqProofs only[go_sem,seval,↓reduceIte, hw]
 refine CallA.pure hG (by kernel_rfl) ?_
 simp -implicitDefEqProofs only[go_sem,seval,↓reduceIte, recol_xns]
 refine (hsp c.ent).mono ?_
 rintro _ _ rfl
 simp -implicitDefEqProofs only[go_sem,seval,↓reduceIte]
 refine hK _ ?_
 clear hK K
 refine AW.ret ?_
 simp -implicitDefEqProofs only[go_sem,seval,↓reduceIte]
 refine endK_some ?_
 rw [hdep]
def checkP (l : List XN) : Int := if depthP l = 0 then 2 else if depthP l > 64 then 3 else 0
theorem rCheck_spec (G : Nat → V) (hG : GOk G) (c : Col) (s : Sl XN) (hs : s.l.length < 1000000) (hnm : ∀ n ∈ s.l, n.name.length < 100000) :
  Spec Tryz.prog G 40 [encSl c 6 encXN s] hNone (fun v _ => v = .int .i64 (checkP s.l)) := by
 refine Spec.of_code' 0 9 [.tmp 2] Tryz.func40 rfl rfl rfl rfl fun X => ?_
 have hC : checkP s.l = if depthP s.l = 0 then 2 else if depthP s.l > 64 then 3 else 0 := rfl
 generalize checkP s.l = res at hC ⊢
 refine AW.seq_k fun K hK => AW.region (by kernel_rfl) ?_
 simp -implicitDefEqProofs only[go_sem,seval,↓reduceIte]
 refine hK _ ?_
 clear hK K
 refine AW.seq_k fun K1 hK1 => ?_
 refine AW.seq_k fun K hK => AW.region (by kernel_rfl) ?_
 simp -implicitDefEqProofs only[go_sem,seval,↓reduceIte]
 refine CallA.pure hG (by kernel_rfl) ?_
 simp -implicitDefEqProofs only[go_sem,seval,↓reduceIte, recol_xns]
 refine (rRight_spec G hG c.ent s hs hnm).mono ?_
 rintro _ _ rfl
 simp -implicitDefEqProofs only[go_sem,seval,↓reduceIte]
 refine hK _ ?_
 clear hK K
 rw [right_depth]
 by_cases hd : depthP s.l = 0
 ·rw [if_pos hd] at hC
  have e1 : decide (depthP s.l ≠ 0) = false := by simpa using hd
  rw [e1]
  refine AW.condS (by simp -implicitDefEqProofs only[go_sem,seval,↓reduceIte]; rfl) (fun h6 => ?_) (fun h6 => ?_)
  ·refine AW.seq_k fun K hK => AW.region (by kernel_rfl) ?_
   simp -implicitDefEqProofs only[go_sem,seval,↓reduceIte]
   refine hK _ ?_
   clear hK K
   refine AW.ret ?_
   simp -implicitDefEqProofs only[go_sem,seval,↓reduceIte]
   refine endK_some ?_
   rw [hC]
  ·cases h6
 have e1 : decide (depthP s.l ≠ 0) = true := by simpa using hd
 rw [if_neg hd] at hC
 rw [e1]
 refine AW.condS (by simp -implicitDefEqProofs only[go_sem,seval,↓reduceIte]; rfl) (fun h6 => ?_) (fun h6 => ?_)
 ·cases h6
 refine AW.skip ?_
 simp -implicitDefEqProofs only[go_sem,seval,↓reduceIte]
 refine hK1 _ ?_
 refine AW.seq_k fun K2 hK2 => ?_
 refine AW.seq_k fun K hK => AW.region (by kernel_rfl) ?_
 simp -implicitDefEqProofs only[go_sem,seval,↓reduceIte]
 refine CallA.pure hG (by kernel_rfl) ?_
 simp -implicitDefEqProofs only[go_sem,seval,↓reduceIte, recol_xns]
 refine (rDepthN_spec G hG c.ent s hs hnm).mono ?_
 rintro _ _ rfl
 simp -implicitDefEqProofs only[go_sem,seval,↓reduceIte]
 refine hK _ ?_
 clear hK K
 refine AW.condS (by simp -implicitDefEqProofs only[go_sem,seval,↓reduceIte]; rfl) (fun h7 => ?_) (fun h7 => ?_)
 ·have h7 : depthP s.l > 64 := by simpa using h7
  rw [if_pos h7] at hC
  refine AW.seq_k fun K hK => AW.region (by kernel_rfl) ?_
  simp -implicitDefEqProofs only[go_sem,seval,↓reduceIte]
  refine hK _ ?_
  clear hK K
  refine AW.ret ?_
  simp -implicitDefEqProofs only[go_sem,seval,↓reduceIte]
  refine endK_some ?_
  rw [hC]
 ·have h7 : ¬ depthP s.l > 64 := by simpa using h7
  rw [if_neg h7] at hC
  refine AW.skip ?_
  simp -implicitDefEqProofs only[go_sem,seval,↓reduceIte]
  refine hK2 _ ?_
  refine AW.seq_k fun K hK => AW.region (by kernel_rfl) ?_
  simp -implicitDefEqProofs only[go_sem,seval,↓reduceIte]
  refine hK _ ?_
  clear hK K
  refine AW.ret ?_
  simp -implicitDefEqProofs only[go_sem,seval,↓reduceIte]
  refine endK_some ?_
  rw [hC]
theorem xCheck_spec (G : Nat → V) (hE : GExp G) (c : Col) (s : Sl XN) (hs : s.l.length < 1000000) (hnm : ∀ n ∈ s.l, n.name.length < 100000) :
  Spec Tryz.prog G 39 [.agg [encSl c 6 encXN s]] hNone (fun v _ => v = .int .i64 (checkP s.l)) := by
 have hG := hE.ok
 refine Spec.of_code' 0 12 [.tmp 2] Tryz.func39 rfl rfl rfl rfl fun X => ?_
 have hC : checkP s.l = if depthP s.l = 0 then 2 else if depthP s.l > 64 then 3 else 0 := rfl
 generalize checkP s.l = res at hC ⊢
 refine AW.seq_k fun K hK => AW.region (by kernel_rfl) ?_
 simp -implicitDefEqProofs only[go_sem,seval,↓reduceIte]
 intro g1
 refine hK _ ?_
 clear hK K
 refine AW.seq_k fun K1 hK1 => ?_
 refine AW.seq_k fun K hK => AW.region (by kernel_rfl) ?_
 simp -implicitDefEqProofs only[go_sem,seval,↓reduceIte]
 refine CallA.pure hG (by kernel_rfl) ?_
 simp -implicitDefEqProofs only[go_sem,seval,↓reduceIte, recol_xns]
 refine (xDepth_spec G hE c.ent s hs hnm).mono ?_
 rintro _ _ rfl
 simp -implicitDefEqProofs only[go_sem,seval,↓reduceIte]
 refine hK _ ?_
 clear hK K
 refine AW.block ?_
 refine AW.seq_k fun K hK => AW.region (by kernel_rfl) ?_
 simp -implicitDefEqProofs only[go_sem,seval,↓reduceIte]
 refine hK _ ?_
 clear hK K
 refine AW.condS (by simp -implicitDefEqProofs only[go_sem,seval,↓reduceIte]; rfl) (fun h6 => ?_) (fun h6 => ?_)
 ·have h6 : depthP s.l = 0 := by simpa using h6
  rw [if_pos h6] at hC
  refine AW.seq_k fun K hK => AW.region (by kernel_rfl) ?_
  simp -implicitDefEqProofs only[go_sem,seval,↓reduceIte]
  refine hK _ ?_
  clear hK K
  refine AW.ret ?_
  simp -implicitDefEqProofs only[go_sem,seval,↓reduceIte]
  refine endK_some ?_
  rw [hC]
 have h6 : ¬ depthP s.l = 0 := by simpa using h6
 rw [if_neg h6] at hC
 refine AW.seq_k fun K hK => AW.region (by kernel_rfl) ?_
 simp -implicitDefEqProofs only[go_sem,seval,↓reduceIte]
 refine hK _ ?_
 clear hK K
 refine AW.condS (by simp -implicitDefEqProofs only[go_sem,seval,↓reduceIte]; rfl) (fun h7 => ?_) (fun h7 => ?_)
 ·have h7 : depthP s.l > 64 := by simpa using h7
  rw [if_pos h7] at hC
  refine AW.seq_k fun K hK => AW.region (by kernel_rfl) ?_
  simp -implicitDefEqProofs only[go_sem,seval,↓reduceIte]
  refine hK _ ?_
  clear hK K
  refine AW.ret ?_
  simp -implicitDefEqProofs only[go_sem,seval,↓reduceIte]
  refine endK_some ?_
  rw [hC]
 ·have h7 : ¬ depthP s.l > 64 := by simpa using h7
  rw [if_neg h7] at hC
  refine AW.skip ?_
  simp -implicitDefEqProofs only[go_sem,seval,↓reduceIte]
  refine hK1 _ ?_
  refine AW.seq_k fun K hK => AW.region (by kernel_rfl) ?_
  simp -implicitDefEqProofs only[go_sem,seval,↓reduceIte]
  refine hK _ ?_
  clear hK K
  refine AW.ret ?_
  simp -implicitDefEqProofs only[go_sem,seval,↓reduceIte]
  refine endK_some ?_
  rw [hC]
end Go.Hs
end

section
namespace Go.Hs
def NmQ (Q : List UInt8 → Prop) (r : RS) : Prop := ∀ n ∈ r.nodes, Q n.name
def NmI (Q : List UInt8 → Prop) (inner : Inner) : Prop := ∀ n r, NmQ Q r → NmQ Q (inner n r).2
theorem NmQ.put {Q : List UInt8 → Prop} {r : RS} {n : XN} (h : NmQ Q r) (hn : Q n.name) : NmQ Q (r.put n) := by
 intro m hm
 rcases List.mem_append.1 hm with h1 | h1
 ·exact h m h1
 ·rw [List.mem_singleton.1 h1]; exact hn
theorem andThen_nm {Q : List UInt8 → Prop} {x : Bool × RS} {k : RS → Bool × RS} (h : NmQ Q x.2) (hk : ∀ r, NmQ Q r → NmQ Q (k r).2) : NmQ Q (andThen x k).2 := by
 obtain ⟨b, r⟩ := x
 cases b
 ·exact h
 ·exact hk r h
theorem eatP_nm {Q : List UInt8 → Prop} (l : List Tk) (w : List UInt8) {r : RS} (h : NmQ Q r) : NmQ Q (eatP l w r).2 := by
 unfold eatP; split <;> exact h
theorem numberP_nm {Q : List UInt8 → Prop} (h0 : Q []) (t : List UInt8) {r : RS} (h : NmQ Q r) : NmQ Q (numberP r t).2 := by
 unfold numberP; split
 ·exact h
 ·exact NmQ.put (n := ⟨1, _, [], -1, -1, -1⟩) h h0
theorem branchesP_nm {Q : List UInt8 → Prop} {l : List Tk} {inner : Inner} (h0 : Q []) (hi : NmI Q inner) {r : RS} (h : NmQ Q r) : NmQ Q (branchesP l inner r).2 := by
 unfold branchesP
 refine andThen_nm (eatP_nm _ _ h) fun r1 h1 => andThen_nm (hi _ _ h1) fun a h2 => andThen_nm (eatP_nm _ _ h2) fun r2 h3 => andThen_nm (hi _ _ h3) fun b h4 => andThen_nm (eatP_nm _ _ h4) fun r3 h5 => andThen_nm (hi _ _ h5) fun c h6 => andThen_nm (eatP_nm _ _ h6) fun r4 h7 => ?_
 exact NmQ.put h7 h0
theorem aheadP_nm {Q : List UInt8 → Prop} {l : List Tk} {inner : Inner} (h0 : Q []) (hq : ∀ i, (nextP l i).kind = 2 → Q (nextP l i).text) (hi : NmI Q inner) {r : RS} (h : NmQ Q r) : NmQ Q (aheadP l inner r).2 := by
 unfold aheadP
 split
 ·exact numberP_nm h0 _ h
 split
 ·rename_i hk; exact NmQ.put (n := ⟨2, 0, (nextP l r.i).text, -1, -1, -1⟩) h (hq _ hk)
 split
 ·exact h
 split
 ·exact andThen_nm (hi _ _ h) fun a ha => NmQ.put ha h0
 split
 ·exact andThen_nm (hi _ _ h) fun a ha => eatP_nm _ _ ha
 split
 ·exact branchesP_nm h0 hi h
 split
 ·exact NmQ.put (n := ⟨_, 0, [], -1, -1, -1⟩) h h0
 ·exact h
theorem loopP_nm {Q : List UInt8 → Prop} {l : List Tk} {inner : Inner} (h0 : Q []) (hi : NmI Q inner) (n : Int) : ∀ (m : Nat) (r : RS), NmQ Q r → NmQ Q (loopP l inner n m r).2
 | 0, r, h => h
 | m + 1, r, h => by
  rw [loopP]
  split
  ·exact h
  ·split
   ·exact h
   ·exact andThen_nm (hi _ r.adv h) fun a ha => loopP_nm h0 hi n m (a.put _) (NmQ.put ha h0)
theorem climbP_nm {Q : List UInt8 → Prop} (l : List Tk) (h0 : Q []) (hq : ∀ i, (nextP l i).kind = 2 → Q (nextP l i).text) : ∀ f, NmI Q (climbP l f)
 | 0 => fun _ _ h => h
 | f + 1 => fun n r h => by
  rw [climbP]
  exact andThen_nm (aheadP_nm h0 hq (climbP_nm l h0 hq f) h) fun a ha => loopP_nm h0 (climbP_nm l h0 hq f) n _ a ha
end Go.Hs
end

section
namespace Go.Hs
open Go.Proofs
set_option maxRecDepth 10000
theorem RdS.callN {NO : Nat} {tl : List V} {G : Nat → V} (hG : GOk G) {f : FuncId} {args args' : List V} {sl : Sl Tk} {g : Nat} {r r' : RS} {v : V} (h : RdS NO tl G f args' sl g r v r') {H : Heap} {K : V → Heap → Prop}
  (hen : enterable Tryz.prog f = true) (htl : ∀ F : Col → Col, tl.map (V.recol F) = tl) (hargs : args.map (V.recol Col.ent) = args') (hv : v.recol Col.bk = v) (hr : r.nodes = [])
  (cs : List V) (h8 : H 8 = .cells .new g 0 cs) (hcs : V.recolL Col.ent cs = (encSl .any 3 encTk sl :: .int .i64 r.i :: .nils :: .int .i64 r.e :: tl)) (hN : H NO = .dead)
  (hk : ∀ gx', K v (sets H [(8, .cells .new g 0 (encSl .any 3 encTk sl :: .int .i64 r'.i :: grown NO gx' 6 r'.nodes :: .int .i64 r'.e :: tl)), (NO, grownO gx' encXN r'.nodes)])) :
  CallA Tryz.prog G f (.ptr 8 g 0 :: args) H K := by
 refine CallA.handN hG [(8, rdO NO tl sl g 0 r), (NO, ndO 0 r.nodes)] hen ?_ ?_ ?_
 ·intro p hp
  simp only [List.mem_cons, List.not_mem_nil, or_false] at hp
  rcases hp with rfl | rfl
  ·simp only [h8, AObj.toAny, hcs, rdO_K, hr]; rfl
  ·simp only [hN, AObj.toAny, hr]; rfl
 ·intro p hp c g' fz cs' ho
  simp only [List.mem_cons, List.not_mem_nil, or_false] at hp
  rcases hp with rfl | rfl
  ·simp only [h8, AObj.cells.injEq] at ho; exact ho.1.symm
  ·simp only [hN] at ho; cases ho
 ·have ha : (V.ptr 8 g 0 :: args).map (V.recol Col.ent) = .ptr 8 g 0 :: args' := by rw [List.map_cons, recol_ptr, hargs]
  rw [ha]
  refine (h 0).mono ?_
  rintro _ H' ⟨rfl, gx', q8, qN⟩
  have b8 : (rdO NO tl sl g gx' r').backNew = .cells .new g 0 (encSl .any 3 encTk sl :: .int .i64 r'.i :: grown NO gx' 6 r'.nodes :: .int .i64 r'.e :: tl) := by
   simp only [rdO_K, AObj.backNew, V.recolL_eq, List.map_cons, recol_tks, recol_int, recol_grown, htl]
   rfl
  have bN : (ndO gx' r'.nodes).backNew = grownO gx' encXN r'.nodes := by
   unfold ndO
   cases hn : r'.nodes with
   | nil => rfl
   | cons x t =>
    rw [grownC_ne _ _ _ (by simp), grownO_ne _ _ (by simp)]
    simp only [AObj.backNew, V.recolL_eq]
    rw [← flat_recol, List.map_map]
    have he : (x :: t).map (V.recol Col.bk ∘ encXN) = (x :: t).map encXN := List.map_congr_left fun y _ => recol_xn _ y
    first | done | rw [he]
  simp only [List.map_cons, List.map_nil, q8, qN, b8, bN, hv]
  exact hk gx'
def encXs (c : Col) (l : List XN) : V := encSl c 6 encXN (grownS l)
def encFr (c : Col) (p : List XN × Int × Int) : V := .tuple [.agg [encXs c p.1], .int .i64 p.2.1, .int .i64 p.2.2]
theorem climb_names {l : List Tk} (hT : TkOk l) : ∀ n ∈ (climbP l (l.length + 1) 1 ⟨0, [], 0⟩).2.nodes, n.name.length < 100000 :=
 climbP_nm (Q := fun s => s.length < 100000) l (Nat.zero_lt_succ _) (fun i _ => nextP_len hT i) _ _ _ (fun n hn => by cases hn)
theorem xFrom_spec (G : Nat → V) (hE : GExp G) (c : Col) (sl : Sl Tk) (hT : TkOk sl.l) : Spec Tryz.prog G 33 [encSl c 3 encTk sl] hNone (fun v _ => v = encFr .new (fromP sl.l)) := by
 have hG := hE.ok
 have hTl := hT.len
 refine Spec.of_code' 0 44 [.cell 2 24, .tmp 3, .tmp 4] Tryz.func33 rfl rfl rfl rfl fun X => ?_
 have hP : fromP sl.l = if (climbP sl.l (sl.l.length + 1) 1 ⟨0, [], 0⟩).1 = false then (([] : List XN), ((climbP sl.l (sl.l.length + 1) 1 ⟨0, [], 0⟩).2.i : Int), (climbP sl.l (sl.l.length + 1) 1 ⟨0, [], 0⟩).2.e)
  else if depthP (climbP sl.l (sl.l.length + 1) 1 ⟨0, [], 0⟩).2.nodes > 64 then ([], 0, 3) else ((climbP sl.l (sl.l.length + 1) 1 ⟨0, [], 0⟩).2.nodes, ((climbP sl.l (sl.l.length + 1) 1 ⟨0, [], 0⟩).2.i : Int), (0 : Int)) := rfl
 have hr0 : RSok sl.l ⟨0, [], 0⟩ := ⟨Nat.zero_le _, Nat.le_refl _⟩
 have hcl := fun g => xClimb_spec G hE sl hT g (sl.l.length + 1) 1 ⟨0, [], 0⟩ (by decide) (by decide) (Nat.lt_succ_self _) hr0
 have hnm2 := climb_names hT
 have hok := (climbP_bal sl.l (sl.l.length + 1) 1 ⟨0, [], 0⟩)
 generalize fromP sl.l = res at hP ⊢
 generalize climbP sl.l (sl.l.length + 1) 1 ⟨0, [], 0⟩ = y at hP hcl hok hnm2
 obtain ⟨b, r⟩ := y
 simp only at hP hcl hok hnm2
 refine AW.seq_k fun K hK => AW.region (by kernel_rfl) ?_
 simp -implicitDefEqProofs only[go_sem,seval,↓reduceIte]
 intro g2
 refine hK _ ?_
 clear hK K
 refine AW.seq_k fun K hK => AW.region (by kernel_rfl) ?_
 simp -implicitDefEqProofs only[go_sem,seval,↓reduceIte]
 intro g8
 refine hK _ ?_
 clear hK K
 refine AW.seq_k fun K1 hK1 => ?_
 refine AW.block ?_
 refine AW.weak (Weak.stF (fun _ => false) (l := [(5, .ptr 8 g8 0), (2, .ptr 2 g2 0)]) (m := [(2, .cells .new g2 0 [.nils]), (8, .cells .new g8 0 [encSl .any 3 encTk sl, .int .i64 0, .nils, .int .i64 0, .func (.func 56) [] []])]) ?_ ?_) ?_
 ·simp -implicitDefEqProofs only[go_sem,seval,↓reduceIte]
  exact ⟨Fz.same _, Fz.same _⟩
 ·simp only [allFzO_cons, allFzO_nil, and_true]
  exact ⟨FzO.keep rfl (by simp -implicitDefEqProofs only[go_sem,seval,↓reduceIte]), FzO.of (c := .new) (fz := 0) (cs := [encSl c 3 encTk sl, .int .i64 0, .nils, .int .i64 0, .func (.func 56) [] []]) rfl (by simp -implicitDefEqProofs only[go_sem,seval,↓reduceIte]; try rfl) ⟨Fz.any (recol_tks _ _ _), Fz.same _, Fz.same _, Fz.same _, Fz.same _, trivial⟩⟩
 refine AW.seq_k fun K hK => AW.region (by kernel_rfl) ?_
 simp -implicitDefEqProofs only[go_sem,seval,↓reduceIte]
 refine RdS.callN hG (hcl g8) (by kernel_rfl) (fun F => rfl) rfl rfl rfl _ (by simp -implicitDefEqProofs only[go_sem,seval,↓reduceIte]; rfl) (by simp only [V.recolL_eq, List.map_cons, List.map_nil, recol_tks]; rfl) (by simp -implicitDefEqProofs only[go_sem,seval,↓reduceIte]) fun gx => ?_
 simp -implicitDefEqProofs only[go_sem,seval,↓reduceIte, sets]
 refine hK _ ?_
 clear hK K
 cases b with
 | false =>
  refine AW.condS (by simp -implicitDefEqProofs only[go_sem,seval,↓reduceIte]; rfl) (fun h9 => ?_) (fun h9 => ?_)
  rotate_left
  ·cases h9
  refine AW.weak (Weak.stF (fun o => o == 8) (l := [(5, .view .new (.agg [encSl .any 3 encTk sl, .int .i64 r.i, grown 1031 gx 6 r.nodes, .int .i64 r.e, .func (.func 56) [] []])), (2, .ptr 2 g2 0)]) (m := [(2, .cells .new g2 0 [.nils])]) ?_ ?_) ?_
  ·simp -implicitDefEqProofs only[go_sem,seval,↓reduceIte]
   exact ⟨Fz.ptr (v := .agg [encSl .any 3 encTk sl, .int .i64 r.i, grown 1031 gx 6 r.nodes, .int .i64 r.e, .func (.func 56) [] []]) (c := .new) (fz := 0) rfl (by simp -implicitDefEqProofs only[go_sem,seval,↓reduceIte]; try rfl), Fz.same _⟩
  ·simp only [allFzO_cons, allFzO_nil, and_true]
   exact FzO.keep rfl (by simp -implicitDefEqProofs only[go_sem,seval,↓reduceIte])
  refine AW.seq_k fun K2 hK2 => ?_
  refine AW.regionT ⟨fun _ => .top, fun i => if i = 4 then .lend else if i = 8 then .lend else .pure⟩ (by kernel_rfl) hG (by kernel_rfl) (by kernel_rfl) ?_
  simp -implicitDefEqProofs only[go_sem,seval,↓reduceIte]
  refine hK2 _ ?_
  refine AW.ret ?_
  simp -implicitDefEqProofs only[go_sem,seval,↓reduceIte]
  refine endK_some ?_
  rw [hP]; rfl
 | true =>
 refine AW.condS (by simp -implicitDefEqProofs only[go_sem,seval,↓reduceIte]; rfl) (fun h9 => ?_) (fun h9 => ?_)
 ·cases h9
 refine AW.weak (Weak.stF (fun o => o == 1031) (l := [(5, .ptr 8 g8 0), (2, .ptr 2 g2 0)]) (m := [(2, .cells .new g2 0 [.nils]), (8, .cells .new g8 0 [encSl .any 3 encTk sl, .int .i64 r.i, encXs .new r.nodes, .int .i64 r.e, .func (.func 56) [] []])]) ?_ ?_) ?_
 ·simp -implicitDefEqProofs only[go_sem,seval,↓reduceIte]
  exact ⟨Fz.same _, Fz.same _⟩
 ·simp only [allFzO_cons, allFzO_nil, and_true]
  exact ⟨FzO.keep rfl (by simp -implicitDefEqProofs only[go_sem,seval,↓reduceIte]), FzO.of (c := .new) (fz := 0) (cs := [encSl .any 3 encTk sl, .int .i64 r.i, grown 1031 gx 6 r.nodes, .int .i64 r.e, .func (.func 56) [] []]) rfl (by simp -implicitDefEqProofs only[go_sem,seval,↓reduceIte]; try rfl) ⟨Fz.same _, Fz.same _, Fz.grown rfl (by simp -implicitDefEqProofs only[go_sem,seval,↓reduceIte]; try rfl) encXN_cells, Fz.same _, Fz.same _, trivial⟩⟩
 have hrl : r.nodes.length < 1000000 := by have := (hok.ok hr0); have h1 := this.1; have h2 := this.2; omega
 rw [if_neg (by simp)] at hP
 refine AW.seq_k fun K hK => AW.region (by kernel_rfl) ?_
 simp -implicitDefEqProofs only[go_sem,seval,↓reduceIte, encXs]
 refine CallA.pure hG (by kernel_rfl) ?_
 simp -implicitDefEqProofs only[go_sem,seval,↓reduceIte, recol_xns]
 refine (xDepth_spec G hE Col.new.ent (grownS r.nodes) (by rw [grownS_l]; exact hrl) (by rw [grownS_l]; exact hnm2)).mono ?_
 rintro _ _ rfl
 simp -implicitDefEqProofs only[go_sem,seval,↓reduceIte]
 refine hK _ ?_
 clear hK K
 refine AW.condS (by simp -implicitDefEqProofs only[go_sem,seval,↓reduceIte]; rfl) (fun h26 => ?_) (fun h26 => ?_)
 ·have h26 : depthP r.nodes > 64 := by simpa using h26
  rw [if_pos h26] at hP
  refine AW.seq_k fun K hK => AW.region (by kernel_rfl) ?_
  simp -implicitDefEqProofs only[go_sem,seval,↓reduceIte]
  refine hK _ ?_
  clear hK K
  refine AW.ret ?_
  simp -implicitDefEqProofs only[go_sem,seval,↓reduceIte]
  refine endK_some ?_
  rw [hP]; rfl
 have h26 : ¬ depthP r.nodes > 64 := by simpa using h26
 rw [if_neg h26] at hP
 refine AW.skip ?_
 simp -implicitDefEqProofs only[go_sem,seval,↓reduceIte]
 refine hK1 _ ?_
 refine AW.weak (Weak.stF (fun o => o == 8) (l := [(5, .view .new (.agg [encSl .any 3 encTk sl, .int .i64 r.i, encXs .new r.nodes, .int .i64 r.e, .func (.func 56) [] []])), (2, .ptr 2 g2 0)]) (m := [(2, .cells .new g2 0 [.nils])]) ?_ ?_) ?_
 ·simp -implicitDefEqProofs only[go_sem,seval,↓reduceIte]
  exact ⟨Fz.ptr (v := .agg [encSl .any 3 encTk sl, .int .i64 r.i, encXs .new r.nodes, .int .i64 r.e, .func (.func 56) [] []]) (c := .new) (fz := 0) rfl (by simp -implicitDefEqProofs only[go_sem,seval,↓reduceIte]; try rfl), Fz.same _⟩
 ·simp only [allFzO_cons, allFzO_nil, and_true]
  exact FzO.keep rfl (by simp -implicitDefEqProofs only[go_sem,seval,↓reduceIte])
 refine AW.seq_k fun K2 hK2 => ?_
 refine AW.regionT ⟨fun _ => .top, fun i => if i = 3 then .lend else if i = 8 then .lend else .pure⟩ (by kernel_rfl) hG (by kernel_rfl) (by kernel_rfl) ?_
 simp -implicitDefEqProofs only[go_sem,seval,↓reduceIte, encXs]
 refine hK2 _ ?_
 refine AW.ret ?_
 simp -implicitDefEqProofs only[go_sem,seval,↓reduceIte]
 refine endK_some ?_
 rw [hP]; rfl
end Go.Hs
end

section
namespace Go.Hs
open Go.Proofs
set_option maxRecDepth 10000
theorem toksF_text : ∀ (f : Nat) (s : List UInt8) (i : Nat) (acc : List Tk), (∀ t ∈ acc, t.text.length ≤ s.length) → ∀ t ∈ (toksF f s i acc).1, t.text.length ≤ s.length
 | 0, s, i, acc, h => by rw [toksF]; exact h
 | f + 1, s, i, acc, h => by
  rw [toksF]
  split
  ·split
   ·intro t ht; cases ht
   ·refine toksF_text f s _ _ ?_
    intro t ht
    rcases List.mem_append.1 ht with h1 | h1
    ·exact h t h1
    ·rw [List.mem_singleton.1 h1]
     show ((s.drop i).take _).length ≤ s.length
     rw [List.length_take, List.length_drop]; omega
  ·exact h
theorem toks_ok {s : List UInt8} (hs : s.length < 100000) : TkOk (toksP s).1 := by
 unfold toksP
 split
 ·exact ⟨Nat.zero_lt_succ _, fun t ht => by cases ht⟩
 refine ⟨?_, ?_⟩
 ·have := toksF_len (s.length + 1) s (blk s) []
  have h0 : ([] : List Tk).length = 0 := rfl
  omega
 ·intro t ht
  have := toksF_text (s.length + 1) s (blk s) [] (fun t ht => by cases ht) t ht
  omega
theorem xParse_spec (G : Nat → V) (hE : GExp G) (s : List UInt8) (hs : s.length < 100000) : Spec Tryz.prog G 29 [.str s] hNone (fun v _ => v = encFr .new (exprP s)) := by
 have hG := hE.ok
 refine Spec.of_code' 0 60 [.cell 2 24, .tmp 3, .tmp 4] Tryz.func29 rfl rfl rfl rfl fun X => ?_
 have hP : exprP s = if (toksP s).2.2 ≠ 0 then (([] : List XN), (toksP s).2.1, (toksP s).2.2)
  else if (fromP (toksP s).1).2.2 = 3 then ([], 0, 3)
  else if (fromP (toksP s).1).2.2 = 0 ∧ (fromP (toksP s).1).2.1 = ((toksP s).1.length : Nat) then ((fromP (toksP s).1).1, 0, 0)
  else ([], if (fromP (toksP s).1).2.1 = ((toksP s).1.length : Nat) then (s.length : Int) else ((toksP s).1.getD (fromP (toksP s).1).2.1.toNat ⟨0, [], 0⟩).pos, if (fromP (toksP s).1).2.2 = 0 then 80 else (fromP (toksP s).1).2.2) := rfl
 generalize exprP s = res at hP ⊢
 have hT := toks_ok hs
 have hl := lTokens_spec G hE s hs
 have hfr := fun c => xFrom_spec G hE c (grownS (toksP s).1) (by rw [grownS_l]; exact hT)
 simp only [grownS_l] at hfr
 have hb := fromP_bnd (l := (toksP s).1)
 generalize toksP s = t at hP hT hl hfr hb
 generalize fromP t.1 = p at hP hfr hb
 obtain ⟨l, at0, e0⟩ := t
 obtain ⟨ns, i, e⟩ := p
 simp only at hP hT hfr hb
 refine AW.seq_k fun K hK => AW.region (by kernel_rfl) ?_
 simp -implicitDefEqProofs only[go_sem,seval,↓reduceIte]
 intro g2
 refine hK _ ?_
 clear hK K
 refine AW.seq_k fun K hK => AW.region (by kernel_rfl) ?_
 simp -implicitDefEqProofs only[go_sem,seval,↓reduceIte]
 refine CallA.pure hG (by kernel_rfl) ?_
 simp -implicitDefEqProofs only[go_sem,seval,↓reduceIte]
 refine hl.mono ?_
 rintro _ _ rfl
 simp -implicitDefEqProofs only[go_sem,seval,↓reduceIte, encTok, encTks, recol_tks]
 refine hK _ ?_
 clear hK K
 refine AW.seq_k fun K1 hK1 => ?_
 refine AW.seq_k fun K hK => AW.region (by kernel_rfl) ?_
 simp -implicitDefEqProofs only[go_sem,seval,↓reduceIte]
 refine hK _ ?_
 clear hK K
 by_cases he0 : e0 = 0
 rotate_left
 ·have q1 : (e0 != 0) = true := by simpa using he0
  rw [if_pos he0] at hP
  refine AW.condS (by simp -implicitDefEqProofs only[go_sem,seval,↓reduceIte]; rfl) (fun h17 => ?_) (fun h17 => ?_)
  ·refine AW.seq_k fun K hK => AW.region (by kernel_rfl) ?_
   simp -implicitDefEqProofs only[go_sem,seval,↓reduceIte]
   refine hK _ ?_
   clear hK K
   refine AW.ret ?_
   simp -implicitDefEqProofs only[go_sem,seval,↓reduceIte]
   refine endK_some ?_
   rw [hP]; rfl
  ·rw [q1] at h17; cases h17
 have q1 : (e0 != 0) = false := by simpa using he0
 rw [if_neg (by simpa using he0)] at hP
 refine AW.condS (by simp -implicitDefEqProofs only[go_sem,seval,↓reduceIte]; rfl) (fun h17 => ?_) (fun h17 => ?_)
 ·rw [q1] at h17; cases h17
 refine AW.skip ?_
 simp -implicitDefEqProofs only[go_sem,seval,↓reduceIte]
 refine hK1 _ ?_
 refine AW.seq_k fun K hK => AW.region (by kernel_rfl) ?_
 simp -implicitDefEqProofs only[go_sem,seval,↓reduceIte]
 refine CallA.pure hG (by kernel_rfl) ?_
 simp -implicitDefEqProofs only[go_sem,seval,↓reduceIte, recol_tks]
 refine (hfr _).mono ?_
 rintro _ _ rfl
 simp -implicitDefEqProofs only[go_sem,seval,↓reduceIte, encFr, encXs, recol_xns]
 intro g8
 refine hK _ ?_
 clear hK K
 refine AW.seq_k fun K2 hK2 => ?_
 refine AW.block ?_
 refine AW.seq_k fun K hK => AW.region (by kernel_rfl) ?_
 simp -implicitDefEqProofs only[go_sem,seval,↓reduceIte]
 refine hK _ ?_
 clear hK K
 by_cases he3 : e = 3
 ·have q3 : (e == 3) = true := by simpa using he3
  rw [if_pos he3] at hP
  refine AW.condS (by simp -implicitDefEqProofs only[go_sem,seval,↓reduceIte]; rfl) (fun h27 => ?_) (fun h27 => ?_)
  ·refine AW.seq_k fun K hK => AW.region (by kernel_rfl) ?_
   simp -implicitDefEqProofs only[go_sem,seval,↓reduceIte]
   refine hK _ ?_
   clear hK K
   refine AW.ret ?_
   simp -implicitDefEqProofs only[go_sem,seval,↓reduceIte]
   refine endK_some ?_
   rw [hP, he3]; rfl
  ·rw [q3] at h27; cases h27
 have q3 : (e == 3) = false := by simpa using he3
 rw [if_neg he3] at hP
 refine AW.condS (by simp -implicitDefEqProofs only[go_sem,seval,↓reduceIte]; rfl) (fun h27 => ?_) (fun h27 => ?_)
 ·rw [q3] at h27; cases h27
 by_cases he : e = 0
 ·have q4 : (e == 0) = true := by simpa using he
  by_cases hi : i = (l.length : Nat)
  ·have q5 : (i == ((l.length : Nat) : Int)) = true := by simpa using hi
   rw [if_pos ⟨he, hi⟩] at hP
   refine AW.seq_k fun K hK => AW.region (by kernel_rfl) ?_
   simp -implicitDefEqProofs only[go_sem,seval,↓reduceIte, q4, q5]
   refine hK _ ?_
   clear hK K
   refine AW.condS (by simp -implicitDefEqProofs only[go_sem,seval,↓reduceIte]; rfl) (fun h32 => ?_) (fun h32 => ?_)
   ·refine AW.seq_k fun K hK => AW.region (by kernel_rfl) ?_
    simp -implicitDefEqProofs only[go_sem,seval,↓reduceIte]
    refine hK _ ?_
    clear hK K
    refine AW.ret ?_
    simp -implicitDefEqProofs only[go_sem,seval,↓reduceIte]
    refine endK_some ?_
    rw [hP]; rfl
   ·cases h32
  have q5 : (i == ((l.length : Nat) : Int)) = false := by simpa using hi
  rw [if_neg (fun h => hi h.2), if_neg hi, if_pos he] at hP
  obtain ⟨m, rfl⟩ : ∃ m : Nat, i = m := ⟨i.toNat, by omega⟩
  have hml : m < l.length := by omega
  obtain ⟨tk, htk⟩ : ∃ tk, l[m]? = some tk := ⟨_, List.getElem?_eq_getElem hml⟩
  have hgd : (l.getD ((m : Nat) : Int).toNat ⟨0, [], 0⟩) = tk := by rw [Int.toNat_natCast, List.getD_eq_getElem?_getD, htk]; rfl
  rw [hgd] at hP
  refine AW.seq_k fun K hK => AW.region (by kernel_rfl) ?_
  simp -implicitDefEqProofs only[go_sem,seval,↓reduceIte, q4, q5]
  refine hK _ ?_
  clear hK K
  refine AW.condS (by simp -implicitDefEqProofs only[go_sem,seval,↓reduceIte]; rfl) (fun h32 => ?_) (fun h32 => ?_)
  ·cases h32
  refine AW.seq_k fun K hK => AW.region (by kernel_rfl) ?_
  simp -implicitDefEqProofs only[go_sem,seval,↓reduceIte, q4]
  refine hK _ ?_
  clear hK K
  refine AW.condS (by simp -implicitDefEqProofs only[go_sem,seval,↓reduceIte]; rfl) (fun h42 => ?_) (fun h42 => ?_)
  rotate_left
  ·cases h42
  refine AW.region (by kernel_rfl) ?_
  simp -implicitDefEqProofs only[go_sem,seval,↓reduceIte]
  refine hK2 _ ?_
  refine AW.seq_k fun K3 hK3 => ?_
  refine AW.seq_k fun K hK => AW.region (by kernel_rfl) ?_
  simp -implicitDefEqProofs only[go_sem,seval,↓reduceIte, q5]
  refine hK _ ?_
  clear hK K
  refine AW.condS (by simp -implicitDefEqProofs only[go_sem,seval,↓reduceIte]; rfl) (fun h48 => ?_) (fun h48 => ?_)
  ·cases h48
  refine AW.skip ?_
  simp -implicitDefEqProofs only[go_sem,seval,↓reduceIte]
  refine hK3 _ ?_
  refine AW.seq_k fun K4 hK4 => ?_
  refine AW.regionT ⟨fun _ => .top, fun i => if i = 5 then .lend else .pure⟩ (by kernel_rfl) hG (by kernel_rfl) (by kernel_rfl) ?_
  simp -implicitDefEqProofs only[go_sem,seval,↓reduceIte, htk, encTk_K]
  refine hK4 _ ?_
  refine AW.ret ?_
  simp -implicitDefEqProofs only[go_sem,seval,↓reduceIte]
  refine endK_some ?_
  rw [hP]; rfl
 have q4 : (e == 0) = false := by simpa using he
 rw [if_neg (fun h => he h.1), if_neg he] at hP
 refine AW.seq_k fun K hK => AW.region (by kernel_rfl) ?_
 simp -implicitDefEqProofs only[go_sem,seval,↓reduceIte, q4]
 refine hK _ ?_
 clear hK K
 refine AW.condS (by simp -implicitDefEqProofs only[go_sem,seval,↓reduceIte]; rfl) (fun h32 => ?_) (fun h32 => ?_)
 ·cases h32
 refine AW.seq_k fun K hK => AW.region (by kernel_rfl) ?_
 simp -implicitDefEqProofs only[go_sem,seval,↓reduceIte, q4]
 refine hK _ ?_
 clear hK K
 refine AW.condS (by simp -implicitDefEqProofs only[go_sem,seval,↓reduceIte]; rfl) (fun h42 => ?_) (fun h42 => ?_)
 ·cases h42
 refine AW.skip ?_
 simp -implicitDefEqProofs only[go_sem,seval,↓reduceIte]
 refine hK2 _ ?_
 refine AW.seq_k fun K3 hK3 => ?_
 by_cases hi : i = (l.length : Nat)
 ·have q5 : (i == ((l.length : Nat) : Int)) = true := by simpa using hi
  rw [if_pos hi] at hP
  refine AW.seq_k fun K hK => AW.region (by kernel_rfl) ?_
  simp -implicitDefEqProofs only[go_sem,seval,↓reduceIte, q5]
  refine hK _ ?_
  clear hK K
  refine AW.condS (by simp -implicitDefEqProofs only[go_sem,seval,↓reduceIte]; rfl) (fun h48 => ?_) (fun h48 => ?_)
  ·refine AW.seq_k fun K hK => AW.region (by kernel_rfl) ?_
   simp -implicitDefEqProofs only[go_sem,seval,↓reduceIte]
   refine hK _ ?_
   clear hK K
   refine AW.ret ?_
   simp -implicitDefEqProofs only[go_sem,seval,↓reduceIte]
   refine endK_some ?_
   rw [hP]; rfl
  ·cases h48
 have q5 : (i == ((l.length : Nat) : Int)) = false := by simpa using hi
 rw [if_neg hi] at hP
 obtain ⟨m, rfl⟩ : ∃ m : Nat, i = m := ⟨i.toNat, by omega⟩
 have hml : m < l.length := by omega
 obtain ⟨tk, htk⟩ : ∃ tk, l[m]? = some tk := ⟨_, List.getElem?_eq_getElem hml⟩
 have hgd : (l.getD ((m : Nat) : Int).toNat ⟨0, [], 0⟩) = tk := by rw [Int.toNat_natCast, List.getD_eq_getElem?_getD, htk]; rfl
 rw [hgd] at hP
 refine AW.seq_k fun K hK => AW.region (by kernel_rfl) ?_
 simp -implicitDefEqProofs only[go_sem,seval,↓reduceIte, q5]
 refine hK _ ?_
 clear hK K
 refine AW.condS (by simp -implicitDefEqProofs only[go_sem,seval,↓reduceIte]; rfl) (fun h48 => ?_) (fun h48 => ?_)
 ·cases h48
 refine AW.skip ?_
 simp -implicitDefEqProofs only[go_sem,seval,↓reduceIte]
 refine hK3 _ ?_
 refine AW.seq_k fun K4 hK4 => ?_
 refine AW.regionT ⟨fun _ => .top, fun i => if i = 5 then .lend else .pure⟩ (by kernel_rfl) hG (by kernel_rfl) (by kernel_rfl) ?_
 simp -implicitDefEqProofs only[go_sem,seval,↓reduceIte, htk, encTk_K]
 refine hK4 _ ?_
 refine AW.ret ?_
 simp -implicitDefEqProofs only[go_sem,seval,↓reduceIte]
 refine endK_some ?_
 rw [hP]; rfl
end Go.Hs
end

section
namespace Go.Hs
open Go.Proofs
set_option maxRecDepth 10000
theorem join_lib (ws : List (List UInt8)) : Lib.join ws [32] = joinW ws := by
 have : ∀ ws : List (List UInt8), [32].intercalate ws = joinW ws := by
  intro ws
  induction ws with
  | nil => rfl
  | cons w r ih =>
   cases r with
   | nil => simp [joinW, List.intercalate, List.intersperse]
   | cons v r =>
    rw [joinW_cons _ (by simp), ← ih]
    simp [List.intercalate, List.intersperse]
 exact this ws
theorem join_spec (G : Nat → V) (c : Col) (ws : List (List UInt8)) (hne : ws ≠ []) (hl : ws.length < 1000000) (hj : (joinW ws).length < 1000000) :
  Spec Tryz.prog G 58 [encSl c 1 V.str (.mk false ws), .str [32]] hNone (fun v _ => v = .str (joinW ws)) := by
 refine Spec.of_calls fun X cargs _ _ hA => ?_
 obtain ⟨x, y, rfl, hx, hy⟩ := hA.two
 obtain ⟨p', rfl, hp⟩ := hy.str_inv
 have hfl := flat_strW ws
 generalize hv : encSl c 1 V.str (.mk false ws) = v at hx
 have hv : v = .slice c false 1 (ws.map V.str) := hv.symm
 subst hv
 generalize hm : ws.map V.str = ls at hx hfl
 cases hx with
 | slice0 => cases ws with
  | nil => exact absurd rfl hne
  | cons => cases hm
 | slice _ _ _ _ b off cap f hcap hclip hE hc hr =>
  have hln : ls.length = ws.length := by rw [← hm, List.length_map]
  have hfn : (flat ls).length = ws.length := by rw [hfl, hln]
  have hget : ∀ j (h : j < ws.length), X.w.cell? ⟨b, off + j, none⟩ = some (.string ⟨ws[j].toArray⟩) := by
   intro j h
   have h1 := (hc j (by omega)).2.2.1
   have h2 := hr j (by omega)
   have e : (flat ls)[j]'(by omega) = .str ws[j] := by
    have : (flat ls)[j]? = some (.str ws[j]) := by rw [hfl, ← hm, List.getElem?_map, List.getElem?_eq_getElem h]; rfl
    rw [List.getElem?_eq_getElem (by omega)] at this
    exact Option.some.inj this
   rw [e] at h2
   obtain ⟨s', h3, h4⟩ := h2.str_inv
   have h5 : s' = ⟨ws[j].toArray⟩ := by
    obtain ⟨⟨l⟩⟩ := s'
    simp at h4
    rw [h4]
   rw [h3, h5] at h1
   exact h1
  have hbk : b < X.w.heap.size := by
   have h0 := hget 0 (by cases ws with | nil => exact absurd rfl hne | cons => simp)
   rw [← Nat.not_le]
   intro hle
   have : X.w.heap[b]? = none := by rw [Array.getElem?_eq_none_iff]; exact hle
   simp [World.cell?, this] at h0
  have hxs : (ws.map fun w => (⟨w.toArray⟩ : ByteArray)).map (·.data.toList) = ws := by rw [List.map_map]; exact (List.map_congr_left fun w _ => rfl).trans (List.map_id _)
  have hjl : Lib.join ((ws.map fun w => (⟨w.toArray⟩ : ByteArray)).map (·.data.toList)) p'.data.toList = joinW ws := by rw [hxs, hp, join_lib]
  have hkit := Any.strings_Join Tryz.laysJN Tryz.extraJN b off cap (ws.map fun w => (⟨w.toArray⟩ : ByteArray)) p' X.w (fun j x hj => by
   rw [List.getElem?_map] at hj
   cases hw : ws[j]? with
   | none => rw [hw] at hj; cases hj
   | some w =>
    rw [hw] at hj
    obtain ⟨q1, q2⟩ := List.getElem?_eq_some_iff.1 hw
    cases hj
    rw [hget j q1, q2]) hbk (by rw [List.length_map]; omega) (by rw [List.length_map, ← hln]; exact hcap) (by rw [hjl]; omega)
  rw [List.length_map, ← hln] at hkit
  refine (show Calls Tryz.prog 58 _ _ _ from hkit).mono ?_
  rintro e w' ⟨rfl, hB⟩
  exact ⟨_, _, rfl, hB, .str _ _ rfl, by rw [hjl]⟩
def PrintS (l : List XN) (r : List UInt8 × Int) : Prop := (checkP l ≠ 0 → r = ([], checkP l)) ∧ ∀ x : X, x.ok = true → l = x.row 0 → checkP l = 0 → r = (joinW (x.W 0), 0)
def encPr (r : List UInt8 × Int) : V := .tuple [.str r.1, .int .i64 r.2]
theorem checkP_ok {l : List XN} (h : checkP l = 0) : ∃ x : X, x.ok = true ∧ l = x.row 0 ∧ x.depth ≤ 64 := by
 have hd : depthP l ≠ 0 := by
  intro hd
  rw [checkP, if_pos hd] at h
  cases h
 obtain ⟨x, hx, rfl⟩ := depth_none hd
 refine ⟨x, hx, rfl, ?_⟩
 unfold checkP at h
 rw [if_neg hd] at h
 split at h
 ·cases h
 ·rename_i q
  rw [depth_row hx] at q
  omega
theorem xPrint_spec (G : Nat → V) (hE : GExp G) (c : Col) (s : Sl XN) (hs : s.l.length < 1000) (hnm : ∀ n ∈ s.l, n.name.length < 100000) (hnum : ∀ n ∈ s.l, n.num ≤ 9223372036854775807) :
  Spec Tryz.prog G 37 [.agg [encSl c 6 encXN s]] hNone (fun v _ => ∃ r, v = encPr r ∧ PrintS s.l r) := by
 have hG := hE.ok
 refine Spec.of_code' 0 17 [.tmp 2, .tmp 3] Tryz.func37 rfl rfl rfl rfl fun X0 => ?_
 refine AW.seq_k fun K hK => AW.region (by kernel_rfl) ?_
 simp -implicitDefEqProofs only[go_sem,seval,↓reduceIte]
 intro g1
 refine hK _ ?_
 clear hK K
 refine AW.seq_k fun K1 hK1 => ?_
 refine AW.seq_k fun K hK => AW.region (by kernel_rfl) ?_
 simp -implicitDefEqProofs only[go_sem,seval,↓reduceIte]
 refine CallA.pure hG (by kernel_rfl) ?_
 simp -implicitDefEqProofs only[go_sem,seval,↓reduceIte, recol_xns]
 refine (xCheck_spec G hE _ s (by omega) hnm).mono ?_
 rintro _ _ rfl
 simp -implicitDefEqProofs only[go_sem,seval,↓reduceIte]
 refine hK _ ?_
 clear hK K
 refine AW.seq_k fun K hK => AW.region (by kernel_rfl) ?_
 simp -implicitDefEqProofs only[go_sem,seval,↓reduceIte]
 refine hK _ ?_
 clear hK K
 by_cases hc : checkP s.l = 0
 rotate_left
 ·have e1 : (checkP s.l != 0) = true := by simpa using hc
  rw [e1]
  refine AW.condS (by simp -implicitDefEqProofs only[go_sem,seval,↓reduceIte]; rfl) (fun h8 => ?_) (fun h8 => ?_)
  rotate_left
  ·cases h8
  refine AW.seq_k fun K hK => AW.region (by kernel_rfl) ?_
  simp -implicitDefEqProofs only[go_sem,seval,↓reduceIte]
  refine hK _ ?_
  clear hK K
  refine AW.ret ?_
  simp -implicitDefEqProofs only[go_sem,seval,↓reduceIte]
  refine endK_some ?_
  exact ⟨_, rfl, fun _ => rfl, fun x _ _ h => absurd h hc⟩
 have e1 : (checkP s.l != 0) = false := by simpa using hc
 rw [e1]
 refine AW.condS (by simp -implicitDefEqProofs only[go_sem,seval,↓reduceIte]; rfl) (fun h8 => ?_) (fun h8 => ?_)
 ·cases h8
 refine AW.skip ?_
 simp -implicitDefEqProofs only[go_sem,seval,↓reduceIte]
 refine hK1 _ ?_
 obtain ⟨x, hx, hl, hd⟩ := checkP_ok hc
 have hfit : x.fit := fit_of x 0 (by rw [← hl]; exact hnum)
 have hsz : s.l.length = x.size := by rw [hl, X.row_len]
 have hat : At s.l x 0 := by rw [hl]; exact At.whole x
 have hxp := x.size_pos
 have hw : IntKind.i64.wrap ((s.l.length : Int) - 1) = ((0 : Nat) : Int) + x.size - 1 := by rw [w64 (by omega) (by omega)]; omega
 have hpl := print_len hx hfit
 have hcn := W_cnt x 0
 refine AW.seq_k fun K hK => AW.region (by kernel_rfl) ?_
 simp -implicitDefEqProofs only[go_sem,seval,↓reduceIte, hw]
 refine CallA.pure hG (by kernel_rfl) ?_
 simp -implicitDefEqProofs only[go_sem,seval,↓reduceIte, recol_xns]
 refine (xWords_spec G hE s hs x.size x 0 _ 0 (Nat.le_refl _) hat hx hfit (by decide) (by decide)).mono ?_
 rintro _ _ rfl
 have hrb : (encSl .new 1 V.str (.mk false (x.W 0))).recol Col.bk = encSl .new 1 V.str (.mk false (x.W 0)) := recol_enc _ _ _ (fun _ => rfl) _
 simp -implicitDefEqProofs only[go_sem,seval,↓reduceIte, hrb]
 refine CallA.pure hG (by kernel_rfl) ?_
 rw [List.map_cons, List.map_cons, List.map_nil, show (encSl .new 1 V.str (.mk false (x.W 0))).recol Col.ent = encSl (Col.ent .new) 1 V.str (.mk false (x.W 0)) from recol_enc _ _ _ (fun _ => rfl) _]
 refine (join_spec G _ (x.W 0) (W_ne x 0) (by omega) (by omega)).mono ?_
 rintro _ _ rfl
 simp -implicitDefEqProofs only[go_sem,seval,↓reduceIte]
 refine hK _ ?_
 clear hK K
 refine AW.ret ?_
 simp -implicitDefEqProofs only[go_sem,seval,↓reduceIte]
 refine endK_some ?_
 exact ⟨(joinW (x.W 0), 0), rfl, fun h => absurd hc h, fun y hy hly _ => by rw [row_inj y x 0 hy hx (by rw [← hly, ← hl])]⟩
theorem rPrintA_spec (G : Nat → V) (hG : GOk G) (c : Col) (s : Sl XN) (hs : s.l.length < 1000) (hnm : ∀ n ∈ s.l, n.name.length < 100000) (hnum : ∀ n ∈ s.l, n.num ≤ 9223372036854775807) :
  Spec Tryz.prog G 38 [encSl c 6 encXN s] hNone (fun v _ => ∃ r, v = encPr r ∧ PrintS s.l r) := by
 refine Spec.of_code' 0 15 [.tmp 2, .tmp 3] Tryz.func38 rfl rfl rfl rfl fun X0 => ?_
 refine AW.seq_k fun K hK => AW.region (by kernel_rfl) ?_
 simp -implicitDefEqProofs only[go_sem,seval,↓reduceIte]
 refine hK _ ?_
 clear hK K
 refine AW.seq_k fun K hK => AW.region (by kernel_rfl) ?_
 simp -implicitDefEqProofs only[go_sem,seval,↓reduceIte]
 refine CallA.pure hG (by kernel_rfl) ?_
 simp -implicitDefEqProofs only[go_sem,seval,↓reduceIte, recol_xns]
 refine (rCheck_spec G hG _ s (by omega) hnm).mono ?_
 rintro _ _ rfl
 simp -implicitDefEqProofs only[go_sem,seval,↓reduceIte]
 refine hK _ ?_
 clear hK K
 refine AW.seq_k fun K1 hK1 => ?_
 refine AW.seq_k fun K hK => AW.region (by kernel_rfl) ?_
 simp -implicitDefEqProofs only[go_sem,seval,↓reduceIte]
 refine hK _ ?_
 clear hK K
 by_cases hc : checkP s.l = 0
 rotate_left
 ·have e1 : (checkP s.l != 0) = true := by simpa using hc
  rw [e1]
  refine AW.condS (by simp -implicitDefEqProofs only[go_sem,seval,↓reduceIte]; rfl) (fun h8 => ?_) (fun h8 => ?_)
  rotate_left
  ·cases h8
  refine AW.seq_k fun K hK => AW.region (by kernel_rfl) ?_
  simp -implicitDefEqProofs only[go_sem,seval,↓reduceIte]
  refine hK _ ?_
  clear hK K
  refine AW.ret ?_
  simp -implicitDefEqProofs only[go_sem,seval,↓reduceIte]
  refine endK_some ?_
  exact ⟨_, rfl, fun _ => rfl, fun x _ _ h => absurd h hc⟩
 have e1 : (checkP s.l != 0) = false := by simpa using hc
 rw [e1]
 refine AW.condS (by simp -implicitDefEqProofs only[go_sem,seval,↓reduceIte]; rfl) (fun h8 => ?_) (fun h8 => ?_)
 ·cases h8
 refine AW.skip ?_
 simp -implicitDefEqProofs only[go_sem,seval,↓reduceIte]
 refine hK1 _ ?_
 obtain ⟨x, hx, hl, hd⟩ := checkP_ok hc
 have hfit : x.fit := fit_of x 0 (by rw [← hl]; exact hnum)
 have hsz : s.l.length = x.size := by rw [hl, X.row_len]
 have hat : At s.l x 0 := by rw [hl]; exact At.whole x
 have hxp := x.size_pos
 have hw : IntKind.i64.wrap ((s.l.length : Int) - 1) = ((0 : Nat) : Int) + x.size - 1 := by rw [w64 (by omega) (by omega)]; omega
 refine AW.seq_k fun K hK => AW.region (by kernel_rfl) ?_
 simp -implicitDefEqProofs only[go_sem,seval,↓reduceIte, hw]
 refine CallA.pure hG (by kernel_rfl) ?_
 simp -implicitDefEqProofs only[go_sem,seval,↓reduceIte, recol_xns]
 refine (rPrint_spec G hG s hs x.size x 0 _ 0 (Nat.le_refl _) hat hx hfit (by decide) (by decide)).mono ?_
 rintro _ _ rfl
 simp -implicitDefEqProofs only[go_sem,seval,↓reduceIte]
 refine hK _ ?_
 clear hK K
 refine AW.ret ?_
 simp -implicitDefEqProofs only[go_sem,seval,↓reduceIte]
 refine endK_some ?_
 exact ⟨(joinW (x.W 0), 0), rfl, fun h => absurd hc h, fun y hy hly _ => by rw [row_inj y x 0 hy hx (by rw [← hly, ← hl])]⟩
end Go.Hs
end

section
namespace Go.Hs
open Go.Proofs
set_option maxRecDepth 10000
theorem rUnary_spec (G : Nat → V) (hG : GOk G) (sl : Sl Tk) (hT : TkOk sl.l) (g : Nat) (r : RS) (hr : RSok sl.l r) (inner : Inner) (hin : InnR G sl g inner r.i) (hb : Bals sl.l inner) :
  RdS 1012 [] G 80 [] sl g r (.bool (unR sl.l inner r).1) (unR sl.l inner r).2 := by
 have hTl := hT.len
 have hri : r.i < 1000000 := by have := hr.1; omega
 have hw : IntKind.i64.wrap ((r.i : Int) + 1) = ((r.i + 1 : Nat) : Int) := by rw [w64 (by omega) (by omega)]; omega
 intro gx
 refine Spec.of_code' 1000 29 [.tmp 2] Tryz.func80 rfl rfl rfl rfl fun X => ?_
 have hP : unR sl.l inner r = if (nextP sl.l r.i).text = [45] then andThen (inner 9 r.adv) fun a => (true, a.put ⟨5, 0, [], a.last, -1, -1⟩)
  else if (nextP sl.l r.i).text = [110, 111, 116] then andThen (inner 9 r.adv) fun a => (true, a.put ⟨6, 0, [], a.last, -1, -1⟩)
  else primR sl.l inner r := rfl
 have hpr := rPrimary_spec G hG sl hT g r hr inner hin hb
 have hlt : (nextP sl.l r.i).text ≠ [] → r.i < sl.l.length := by
  intro h
  rw [← Nat.not_le]
  intro h2
  apply h
  rw [nextP_none h2]
 generalize unR sl.l inner r = res at hP ⊢
 generalize primR sl.l inner r = pr at hP hpr
 refine AW.seq_k fun K hK => AW.region (by kernel_rfl) ?_
 simp -implicitDefEqProofs only[go_sem,seval,↓reduceIte]
 refine hK _ ?_
 clear hK K
 refine AW.seq_k fun K hK => AW.region (by kernel_rfl) ?_
 simp -implicitDefEqProofs only[go_sem,seval,↓reduceIte]
 refine hK _ ?_
 clear hK K
 refine AW.seqJ (fun (x : Nat × Int) => st [(0, .ptr 8 g 0), (3, .int .u8 x.2)] [(8, rdO 1012 [] sl g x.1 r), (1012, ndO x.1 r.nodes)]) (fun x => r.i < sl.l.length ∧ res = andThen (inner 9 r.adv) fun a => (true, a.put ⟨x.2, 0, [], a.last, -1, -1⟩)) (fun K1 hK1 => ?_) ?_
 ·refine AW.seq_k fun K hK => AW.region (by kernel_rfl) ?_
  simp -implicitDefEqProofs only[go_sem,seval,↓reduceIte]
  refine RdS.call hG (rNext_spec G hG sl hT g r hri) (gx := gx) (by kernel_rfl) (fun F => rfl) (by decide) (by first | rfl | (simp -implicitDefEqProofs only[go_sem,seval,↓reduceIte, List.map_cons, List.map_nil, encXN_K]; try rfl)) (by first | rfl | (simp -implicitDefEqProofs only[go_sem,seval,↓reduceIte, List.map_cons, List.map_nil]; try rfl)) (by first | rfl | (simp -implicitDefEqProofs only[go_sem,seval,↓reduceIte]; try rfl)) (by first | rfl | (simp -implicitDefEqProofs only[go_sem,seval,↓reduceIte]; try rfl)) fun gx1 => ?_
  simp -implicitDefEqProofs only[go_sem,seval,↓reduceIte, sets]
  refine hK _ ?_
  clear hK K
  generalize (nextP sl.l r.i).text = t at hP hlt ⊢
  refine AW.block ?_
  by_cases c1 : t = [45]
  ·have e1 : (t == [45]) = true := by simpa using c1
   rw [if_pos c1] at hP
   refine AW.seq_k fun K hK => AW.region (by kernel_rfl) ?_
   simp -implicitDefEqProofs only[go_sem,seval,↓reduceIte, e1]
   refine hK _ ?_
   clear hK K
   refine AW.condS (by simp -implicitDefEqProofs only[go_sem,seval,↓reduceIte]; rfl) (fun h2 => ?_) (fun h2 => ?_)
   rotate_left
   ·cases h2
   refine AW.region (by kernel_rfl) ?_
   simp -implicitDefEqProofs only[go_sem,seval,↓reduceIte]
   exact hK1 _ (gx1, 5) ⟨hlt (by rw [c1]; simp), hP⟩ (Weak.st (by simp -implicitDefEqProofs only[go_sem,seval,↓reduceIte]; try rfl) (by simp -implicitDefEqProofs only[go_sem,seval,↓reduceIte]; try rfl))
  have e1 : (t == [45]) = false := by simpa using c1
  rw [if_neg c1] at hP
  refine AW.seq_k fun K hK => AW.region (by kernel_rfl) ?_
  simp -implicitDefEqProofs only[go_sem,seval,↓reduceIte, e1]
  refine hK _ ?_
  clear hK K
  refine AW.condS (by simp -implicitDefEqProofs only[go_sem,seval,↓reduceIte]; rfl) (fun h2 => ?_) (fun h2 => ?_)
  ·cases h2
  clear h2
  by_cases c2 : t = [110, 111, 116]
  ·have e2 : (t == [110, 111, 116]) = true := by simpa using c2
   rw [if_pos c2] at hP
   refine AW.seq_k fun K hK => AW.region (by kernel_rfl) ?_
   simp -implicitDefEqProofs only[go_sem,seval,↓reduceIte, e2]
   refine hK _ ?_
   clear hK K
   refine AW.condS (by simp -implicitDefEqProofs only[go_sem,seval,↓reduceIte]; rfl) (fun h2 => ?_) (fun h2 => ?_)
   rotate_left
   ·cases h2
   refine AW.region (by kernel_rfl) ?_
   simp -implicitDefEqProofs only[go_sem,seval,↓reduceIte]
   exact hK1 _ (gx1, 6) ⟨hlt (by rw [c2]; simp), hP⟩ (Weak.st (by simp -implicitDefEqProofs only[go_sem,seval,↓reduceIte]; try rfl) (by simp -implicitDefEqProofs only[go_sem,seval,↓reduceIte]; try rfl))
  have e2 : (t == [110, 111, 116]) = false := by simpa using c2
  rw [if_neg c2] at hP
  refine AW.seq_k fun K hK => AW.region (by kernel_rfl) ?_
  simp -implicitDefEqProofs only[go_sem,seval,↓reduceIte, e2]
  refine hK _ ?_
  clear hK K
  refine AW.condS (by simp -implicitDefEqProofs only[go_sem,seval,↓reduceIte]; rfl) (fun h2 => ?_) (fun h2 => ?_)
  ·cases h2
  refine AW.seq_k fun K hK => AW.region (by kernel_rfl) ?_
  simp -implicitDefEqProofs only[go_sem,seval,↓reduceIte]
  refine RdS.call hG (hpr) (gx := gx1) (by kernel_rfl) (fun F => rfl) (by decide) (by first | rfl | (simp -implicitDefEqProofs only[go_sem,seval,↓reduceIte, List.map_cons, List.map_nil, encXN_K]; try rfl)) (by first | rfl | (simp -implicitDefEqProofs only[go_sem,seval,↓reduceIte, List.map_cons, List.map_nil]; try rfl)) (by first | rfl | (simp -implicitDefEqProofs only[go_sem,seval,↓reduceIte]; try rfl)) (by first | rfl | (simp -implicitDefEqProofs only[go_sem,seval,↓reduceIte]; try rfl)) fun gx2 => ?_
  simp -implicitDefEqProofs only[go_sem,seval,↓reduceIte, sets]
  refine hK _ ?_
  clear hK K
  refine AW.ret ?_
  simp -implicitDefEqProofs only[go_sem,seval,↓reduceIte]
  refine endK_some ?_
  rw [hP]
  exact ⟨rfl, gx2, by first | rfl | (simp -implicitDefEqProofs only[go_sem,seval,↓reduceIte]; try rfl), by first | rfl | (simp -implicitDefEqProofs only[go_sem,seval,↓reduceIte]; try rfl)⟩
 rintro ⟨gx, op⟩ ⟨hl, hP⟩
 replace hP : res = andThen (inner 9 r.adv) fun a => (true, a.put ⟨op, 0, [], a.last, -1, -1⟩) := hP
 have had : RSok sl.l r.adv := (Bal.adv hl).ok hr
 have hc := hin.un r.adv (Nat.lt_succ_self _) had
 have hbl := (hb 9 r.adv).ok had
 generalize inner 9 r.adv = x at hc hP hbl
 obtain ⟨b, a⟩ := x
 simp only at hc hbl
 have han : a.nodes.length < 1000000 := by have := hbl.1; have := hbl.2; omega
 refine AW.seq_k fun K hK => AW.region (by kernel_rfl) ?_
 simp -implicitDefEqProofs only[go_sem,seval,↓reduceIte, rdO_K, hw]
 refine hK _ ?_
 clear hK K
 cases b with
 | false =>
  rw [andThen_false] at hP
  refine AW.seq_k fun K hK => AW.region (by kernel_rfl) ?_
  simp -implicitDefEqProofs only[go_sem,seval,↓reduceIte, rdO_K]
  refine RdS.call hG (hc) (gx := gx) (by kernel_rfl) (fun F => rfl) (by decide) (by first | rfl | (simp -implicitDefEqProofs only[go_sem,seval,↓reduceIte, List.map_cons, List.map_nil, encXN_K]; try rfl)) (by first | rfl | (simp -implicitDefEqProofs only[go_sem,seval,↓reduceIte, List.map_cons, List.map_nil]; try rfl)) (by first | rfl | (simp -implicitDefEqProofs only[go_sem,seval,↓reduceIte]; try rfl)) (by first | rfl | (simp -implicitDefEqProofs only[go_sem,seval,↓reduceIte]; try rfl)) fun gx2 => ?_
  simp -implicitDefEqProofs only[go_sem,seval,↓reduceIte, sets]
  refine hK _ ?_
  clear hK K
  refine AW.ret ?_
  simp -implicitDefEqProofs only[go_sem,seval,↓reduceIte]
  refine endK_some ?_
  rw [hP]
  exact ⟨rfl, gx2, by first | rfl | (simp -implicitDefEqProofs only[go_sem,seval,↓reduceIte]; try rfl), by first | rfl | (simp -implicitDefEqProofs only[go_sem,seval,↓reduceIte]; try rfl)⟩
 | true =>
  rw [andThen_true] at hP
  refine AW.seq_k fun K hK => AW.region (by kernel_rfl) ?_
  simp -implicitDefEqProofs only[go_sem,seval,↓reduceIte, rdO_K]
  refine RdS.call hG (hc) (gx := gx) (by kernel_rfl) (fun F => rfl) (by decide) (by first | rfl | (simp -implicitDefEqProofs only[go_sem,seval,↓reduceIte, List.map_cons, List.map_nil, encXN_K]; try rfl)) (by first | rfl | (simp -implicitDefEqProofs only[go_sem,seval,↓reduceIte, List.map_cons, List.map_nil]; try rfl)) (by first | rfl | (simp -implicitDefEqProofs only[go_sem,seval,↓reduceIte]; try rfl)) (by first | rfl | (simp -implicitDefEqProofs only[go_sem,seval,↓reduceIte]; try rfl)) fun gx2 => ?_
  simp -implicitDefEqProofs only[go_sem,seval,↓reduceIte, sets]
  simp -implicitDefEqProofs only[go_sem,seval,↓reduceIte, rdO_K]
  refine RdS.call hG (rLast_spec G hG sl g a han) (gx := gx2) (by kernel_rfl) (fun F => rfl) (by decide) (by first | rfl | (simp -implicitDefEqProofs only[go_sem,seval,↓reduceIte, List.map_cons, List.map_nil, encXN_K]; try rfl)) (by first | rfl | (simp -implicitDefEqProofs only[go_sem,seval,↓reduceIte, List.map_cons, List.map_nil]; try rfl)) (by first | rfl | (simp -implicitDefEqProofs only[go_sem,seval,↓reduceIte]; try rfl)) (by first | rfl | (simp -implicitDefEqProofs only[go_sem,seval,↓reduceIte]; try rfl)) fun gx3 => ?_
  simp -implicitDefEqProofs only[go_sem,seval,↓reduceIte, sets]
  simp -implicitDefEqProofs only[go_sem,seval,↓reduceIte, rdO_K]
  rw [← encXN_K ⟨op, 0, [], a.last, -1, -1⟩]
  refine RdS.call hG (rPutN_spec G hG sl g a han ⟨op, 0, [], a.last, -1, -1⟩) (gx := gx3) (by kernel_rfl) (fun F => rfl) (by decide) (by first | rfl | (simp -implicitDefEqProofs only[go_sem,seval,↓reduceIte, List.map_cons, List.map_nil, encXN_K]; try rfl)) (by first | rfl | (simp -implicitDefEqProofs only[go_sem,seval,↓reduceIte, List.map_cons, List.map_nil]; try rfl)) (by first | rfl | (simp -implicitDefEqProofs only[go_sem,seval,↓reduceIte]; try rfl)) (by first | rfl | (simp -implicitDefEqProofs only[go_sem,seval,↓reduceIte]; try rfl)) fun gx4 => ?_
  simp -implicitDefEqProofs only[go_sem,seval,↓reduceIte, sets]
  refine hK _ ?_
  clear hK K
  refine AW.ret ?_
  simp -implicitDefEqProofs only[go_sem,seval,↓reduceIte]
  refine endK_some ?_
  rw [hP]
  exact ⟨rfl, gx4, by first | rfl | (simp -implicitDefEqProofs only[go_sem,seval,↓reduceIte]; try rfl), by first | rfl | (simp -implicitDefEqProofs only[go_sem,seval,↓reduceIte]; try rfl)⟩
theorem levK_bal {l : List Tk} {f : Nat} (k : Nat) (r : RS) : Bal l 0 r (levK l (climbP l f) k r).2 := by
 rw [levK_climb (climbP_mono l f) (fun _ _ => climbP_ends)]
 exact Bal.then (aheadP_bal (climbP_bal l f) r) fun _ => (aheadP_bal (climbP_bal l f) r).trans (loopP_bal (climbP_bal l f) _ _ _)
theorem tailR_succ (l : List Tk) (inner : Inner) (n : Int) (m : Nat) (r : RS) : tailR l inner n (m + 1) r = if twoR l n r.i = 0 then (true, r) else andThen (inner (n + 1) r.adv) fun a => tailR l inner n m (a.put ⟨twoR l n r.i, 0, [], r.last, a.last, -1⟩) := rfl
theorem twoR_op {l : List Tk} {n : Int} {i : Nat} (h : twoR l n i ≠ 0) : i < l.length ∧ twoR l n i ≤ 21 := by
 unfold twoR at h ⊢
 cases ho : ofI (nextP l i).text 2 with
 | none => rw [ho] at h; exact absurd rfl h
 | some op =>
  have h2 := ofI_two ho
  have : opAt l i = some op := by rw [opAt_two, ho]
  refine ⟨opAt_lt this, ?_⟩
  simp only
  split <;> omega
theorem rLevel_spec (G : Nat → V) (hG : GOk G) (sl : Sl Tk) (hT : TkOk sl.l) (g : Nat) : ∀ (f : Nat) (r : RS), sl.l.length < f + r.i → RSok sl.l r →
  (∀ n, 1 ≤ n → n ≤ 9 → RdS 1012 [] G 57 [.int .i64 n] sl g r (.bool (climbP sl.l f n r).1) (climbP sl.l f n r).2) ∧
  RdS 1012 [] G 80 [] sl g r (.bool (climbP sl.l f 9 r).1) (climbP sl.l f 9 r).2 := by
 have hTl := hT.len
 intro f
 induction f with
 | zero => intro r hf hr; have := hr.1; omega
 | succ f ih =>
 intro r hf hr
 have hin : InnR G sl g (climbP sl.l f) r.i := ⟨fun n r' h1 h9 hi hr' => (ih r' (by omega) hr').1 n h1 h9, fun r' hi hr' => (ih r' (by omega) hr').2⟩
 have hbs := climbP_bal sl.l f
 have hun := rUnary_spec G hG sl hT g r hr _ hin hbs
 have hcl : ∀ k : Nat, climbP sl.l (f + 1) (9 - k) r = levK sl.l (climbP sl.l f) k r := by
  intro k
  rw [levK_climb (climbP_mono sl.l f) (fun _ _ => climbP_ends)]; rfl
 have h9 : climbP sl.l (f + 1) 9 r = unR sl.l (climbP sl.l f) r := hcl 0
 rw [h9]
 refine ⟨?_, hun⟩
 suffices h : ∀ k : Nat, k ≤ 8 → RdS 1012 [] G 57 [.int .i64 (9 - k)] sl g r (.bool (levK sl.l (climbP sl.l f) k r).1) (levK sl.l (climbP sl.l f) k r).2 by
  intro n h1 hn9
  have := h (9 - n).toNat (by omega)
  rw [← hcl, show (9 : Int) - ((9 - n).toNat : Nat) = n by omega] at this
  exact this
 intro k
 induction k with
 | zero =>
  intro _ gx
  refine Spec.of_code' 1000 46 [.tmp 4] Tryz.func57 rfl rfl rfl rfl fun X => ?_
  have hP : levK sl.l (climbP sl.l f) 0 r = unR sl.l (climbP sl.l f) r := rfl
  generalize levK sl.l (climbP sl.l f) 0 r = res at hP ⊢
  generalize unR sl.l (climbP sl.l f) r = y at hP hun
  refine AW.seq_k fun K hK => AW.region (by kernel_rfl) ?_
  simp -implicitDefEqProofs only[go_sem,seval,↓reduceIte]
  refine hK _ ?_
  clear hK K
  refine AW.seq_k fun K1 hK1 => ?_
  refine AW.seq_k fun K hK => AW.region (by kernel_rfl) ?_
  simp -implicitDefEqProofs only[go_sem,seval,↓reduceIte]
  refine hK _ ?_
  clear hK K
  refine AW.condS (by simp -implicitDefEqProofs only[go_sem,seval,↓reduceIte]; rfl) (fun h8 => ?_) (fun h8 => ?_)
  ·cases h8
  refine AW.skip ?_
  simp -implicitDefEqProofs only[go_sem,seval,↓reduceIte]
  refine hK1 _ ?_
  refine AW.seq_k fun K2 hK2 => ?_
  refine AW.seq_k fun K hK => AW.region (by kernel_rfl) ?_
  simp -implicitDefEqProofs only[go_sem,seval,↓reduceIte]
  refine hK _ ?_
  clear hK K
  refine AW.condS (by simp -implicitDefEqProofs only[go_sem,seval,↓reduceIte]; rfl) (fun h12 => ?_) (fun h12 => ?_)
  rotate_left
  ·cases h12
  refine AW.seq_k fun K hK => AW.region (by kernel_rfl) ?_
  simp -implicitDefEqProofs only[go_sem,seval,↓reduceIte]
  refine RdS.call hG (hun) (gx := gx) (by kernel_rfl) (fun F => rfl) (by decide) (by first | rfl | (simp -implicitDefEqProofs only[go_sem,seval,↓reduceIte, List.map_cons, List.map_nil, encXN_K]; try rfl)) (by first | rfl | (simp -implicitDefEqProofs only[go_sem,seval,↓reduceIte, List.map_cons, List.map_nil]; try rfl)) (by first | rfl | (simp -implicitDefEqProofs only[go_sem,seval,↓reduceIte]; try rfl)) (by first | rfl | (simp -implicitDefEqProofs only[go_sem,seval,↓reduceIte]; try rfl)) fun gx1 => ?_
  simp -implicitDefEqProofs only[go_sem,seval,↓reduceIte, sets]
  refine hK _ ?_
  clear hK K
  refine AW.ret ?_
  simp -implicitDefEqProofs only[go_sem,seval,↓reduceIte]
  refine endK_some ?_
  rw [hP]
  exact ⟨rfl, gx1, by first | rfl | (simp -implicitDefEqProofs only[go_sem,seval,↓reduceIte]; try rfl), by first | rfl | (simp -implicitDefEqProofs only[go_sem,seval,↓reduceIte]; try rfl)⟩
 | succ k ihk =>
  intro hk gx
  have ihk := ihk (by omega)
  obtain ⟨n, hn⟩ : ∃ n : Int, n = 8 - k := ⟨_, rfl⟩
  have e9 : (9 : Int) - ((k + 1 : Nat) : Int) = n := by omega
  have e9k : (9 : Int) - (k : Int) = n + 1 := by omega
  have hn1 : 1 ≤ n ∧ n ≤ 8 := by omega
  rw [e9]
  rw [e9k] at ihk
  refine Spec.of_code' 1000 46 [.tmp 4] Tryz.func57 rfl rfl rfl rfl fun X => ?_
  have hP : levK sl.l (climbP sl.l f) (k + 1) r = andThen (levK sl.l (climbP sl.l f) k r) (tailR sl.l (climbP sl.l f) n (sl.l.length + 1)) := by rw [levK, hn]
  have hlb := levK_bal (l := sl.l) (f := f) k r
  generalize levK sl.l (climbP sl.l f) (k + 1) r = res at hP ⊢
  generalize levK sl.l (climbP sl.l f) k r = y at hP ihk hlb
  obtain ⟨b, q0⟩ := y
  simp only at ihk hlb
  have q10 : (n == 10) = false := by rw [beq_eq_false_iff_ne]; omega
  have q9 : (n == 9) = false := by rw [beq_eq_false_iff_ne]; omega
  have hw1 : IntKind.i64.wrap (n + 1) = n + 1 := w64 (by omega) (by omega)
  refine AW.seq_k fun K hK => AW.region (by kernel_rfl) ?_
  simp -implicitDefEqProofs only[go_sem,seval,↓reduceIte]
  refine hK _ ?_
  clear hK K
  refine AW.seq_k fun K1 hK1 => ?_
  refine AW.seq_k fun K hK => AW.region (by kernel_rfl) ?_
  simp -implicitDefEqProofs only[go_sem,seval,↓reduceIte, q10]
  refine hK _ ?_
  clear hK K
  refine AW.condS (by simp -implicitDefEqProofs only[go_sem,seval,↓reduceIte]; rfl) (fun h8 => ?_) (fun h8 => ?_)
  ·cases h8
  refine AW.skip ?_
  simp -implicitDefEqProofs only[go_sem,seval,↓reduceIte]
  refine hK1 _ ?_
  refine AW.seq_k fun K2 hK2 => ?_
  refine AW.seq_k fun K hK => AW.region (by kernel_rfl) ?_
  simp -implicitDefEqProofs only[go_sem,seval,↓reduceIte, q9]
  refine hK _ ?_
  clear hK K
  refine AW.condS (by simp -implicitDefEqProofs only[go_sem,seval,↓reduceIte]; rfl) (fun h12 => ?_) (fun h12 => ?_)
  ·cases h12
  refine AW.skip ?_
  simp -implicitDefEqProofs only[go_sem,seval,↓reduceIte]
  refine hK2 _ ?_
  refine AW.seq_k fun K3 hK3 => ?_
  cases b with
  | false =>
   rw [andThen_false] at hP
   refine AW.seq_k fun K hK => AW.region (by kernel_rfl) ?_
   simp -implicitDefEqProofs only[go_sem,seval,↓reduceIte, hw1]
   refine RdS.call hG (ihk) (gx := gx) (by kernel_rfl) (fun F => rfl) (by decide) (by first | rfl | (simp -implicitDefEqProofs only[go_sem,seval,↓reduceIte, List.map_cons, List.map_nil, encXN_K]; try rfl)) (by first | rfl | (simp -implicitDefEqProofs only[go_sem,seval,↓reduceIte, List.map_cons, List.map_nil]; try rfl)) (by first | rfl | (simp -implicitDefEqProofs only[go_sem,seval,↓reduceIte]; try rfl)) (by first | rfl | (simp -implicitDefEqProofs only[go_sem,seval,↓reduceIte]; try rfl)) fun gx1 => ?_
   simp -implicitDefEqProofs only[go_sem,seval,↓reduceIte, sets]
   refine hK _ ?_
   clear hK K
   refine AW.condS (by simp -implicitDefEqProofs only[go_sem,seval,↓reduceIte]; rfl) (fun h19 => ?_) (fun h19 => ?_)
   rotate_left
   ·cases h19
   refine AW.seq_k fun K hK => AW.region (by kernel_rfl) ?_
   simp -implicitDefEqProofs only[go_sem,seval,↓reduceIte]
   refine hK _ ?_
   clear hK K
   refine AW.ret ?_
   simp -implicitDefEqProofs only[go_sem,seval,↓reduceIte]
   refine endK_some ?_
   rw [hP]
   exact ⟨rfl, gx1, by first | rfl | (simp -implicitDefEqProofs only[go_sem,seval,↓reduceIte]; try rfl), by first | rfl | (simp -implicitDefEqProofs only[go_sem,seval,↓reduceIte]; try rfl)⟩
  | true =>
  rw [andThen_true] at hP
  have hq0 := hlb.ok hr
  refine AW.seq_k fun K hK => AW.region (by kernel_rfl) ?_
  simp -implicitDefEqProofs only[go_sem,seval,↓reduceIte, hw1]
  refine RdS.call hG (ihk) (gx := gx) (by kernel_rfl) (fun F => rfl) (by decide) (by first | rfl | (simp -implicitDefEqProofs only[go_sem,seval,↓reduceIte, List.map_cons, List.map_nil, encXN_K]; try rfl)) (by first | rfl | (simp -implicitDefEqProofs only[go_sem,seval,↓reduceIte, List.map_cons, List.map_nil]; try rfl)) (by first | rfl | (simp -implicitDefEqProofs only[go_sem,seval,↓reduceIte]; try rfl)) (by first | rfl | (simp -implicitDefEqProofs only[go_sem,seval,↓reduceIte]; try rfl)) fun gx1 => ?_
  simp -implicitDefEqProofs only[go_sem,seval,↓reduceIte, sets]
  refine hK _ ?_
  clear hK K
  refine AW.condS (by simp -implicitDefEqProofs only[go_sem,seval,↓reduceIte]; rfl) (fun h19 => ?_) (fun h19 => ?_)
  ·cases h19
  refine AW.skip ?_
  simp -implicitDefEqProofs only[go_sem,seval,↓reduceIte]
  refine hK3 _ ?_
  refine AW.block ?_
  refine AW.while (fun (x : Nat × Nat × RS) => st [(0, .ptr 8 g 0), (1, .int .i64 n)] [(8, rdO 1012 [] sl g x.1 x.2.2), (1012, ndO x.1 x.2.2.nodes)])
   (fun x => res = tailR sl.l (climbP sl.l f) n x.2.1 x.2.2 ∧ RSok sl.l x.2.2 ∧ r.i ≤ x.2.2.i ∧ sl.l.length < x.2.1 + x.2.2.i) (fun x => x.2.1) (gx1, sl.l.length + 1, q0) ⟨hP, hq0, hlb.up, Nat.lt_add_right _ (Nat.lt_succ_self _)⟩
   (Weak.st (by simp -implicitDefEqProofs only[go_sem,seval,↓reduceIte]; try rfl) (by simp -implicitDefEqProofs only[go_sem,seval,↓reduceIte]; try rfl)) ?_
  clear hP
  rintro ⟨gy, m, q⟩ ⟨hP, hq, hqi, hm⟩ L3 hL3
  replace hP : res = tailR sl.l (climbP sl.l f) n m q := hP
  replace hq : RSok sl.l q := hq
  replace hqi : r.i ≤ q.i := hqi
  replace hm : sl.l.length < m + q.i := hm
  obtain ⟨m, rfl⟩ : ∃ m', m = m' + 1 := ⟨m - 1, by have := hq.1; omega⟩
  have hqI : q.i < 1000000 := by have := hq.1; omega
  have hqn : q.nodes.length < 1000000 := by have := hq.1; have := hq.2; omega
  rw [tailR_succ] at hP
  have htw := twoR_op (l := sl.l) (n := n) (i := q.i)
  refine AW.block ?_
  refine AW.seq_k fun K hK => AW.region (by kernel_rfl) ?_
  simp -implicitDefEqProofs only[go_sem,seval,↓reduceIte]
  refine RdS.call hG (rOfTwo_spec G hG sl hT g q hqI n) (gx := gy) (by kernel_rfl) (fun F => rfl) (by decide) (by first | rfl | (simp -implicitDefEqProofs only[go_sem,seval,↓reduceIte, List.map_cons, List.map_nil, encXN_K]; try rfl)) (by first | rfl | (simp -implicitDefEqProofs only[go_sem,seval,↓reduceIte, List.map_cons, List.map_nil]; try rfl)) (by first | rfl | (simp -implicitDefEqProofs only[go_sem,seval,↓reduceIte]; try rfl)) (by first | rfl | (simp -implicitDefEqProofs only[go_sem,seval,↓reduceIte]; try rfl)) fun gz => ?_
  simp -implicitDefEqProofs only[go_sem,seval,↓reduceIte, sets]
  refine hK _ ?_
  clear hK K
  generalize twoR sl.l n q.i = op at hP htw ⊢
  refine AW.seq_k fun K4 hK4 => ?_
  refine AW.seq_k fun K hK => AW.region (by kernel_rfl) ?_
  simp -implicitDefEqProofs only[go_sem,seval,↓reduceIte]
  refine hK _ ?_
  clear hK K
  by_cases ho : op = 0
  ·have e1 : (((op : Nat) : Int) == 0) = true := by rw [ho]; rfl
   rw [if_pos ho] at hP
   rw [e1]
   refine AW.condS (by simp -implicitDefEqProofs only[go_sem,seval,↓reduceIte]; rfl) (fun h24 => ?_) (fun h24 => ?_)
   rotate_left
   ·cases h24
   refine AW.seq_k fun K hK => AW.region (by kernel_rfl) ?_
   simp -implicitDefEqProofs only[go_sem,seval,↓reduceIte]
   refine hK _ ?_
   clear hK K
   refine AW.ret ?_
   simp -implicitDefEqProofs only[go_sem,seval,↓reduceIte]
   refine endK_some ?_
   rw [hP]
   exact ⟨rfl, gz, by first | rfl | (simp -implicitDefEqProofs only[go_sem,seval,↓reduceIte]; try rfl), by first | rfl | (simp -implicitDefEqProofs only[go_sem,seval,↓reduceIte]; try rfl)⟩
  have e1 : (((op : Nat) : Int) == 0) = false := by rw [beq_eq_false_iff_ne]; omega
  rw [if_neg ho] at hP
  rw [e1]
  refine AW.condS (by simp -implicitDefEqProofs only[go_sem,seval,↓reduceIte]; rfl) (fun h24 => ?_) (fun h24 => ?_)
  ·cases h24
  refine AW.skip ?_
  simp -implicitDefEqProofs only[go_sem,seval,↓reduceIte]
  refine hK4 _ ?_
  obtain ⟨hil, hop21⟩ := htw ho
  have hw : IntKind.i64.wrap ((q.i : Int) + 1) = ((q.i + 1 : Nat) : Int) := by rw [w64 (by omega) (by omega)]; omega
  have hadv : RSok sl.l q.adv := (Bal.adv hil).ok hq
  have hc := hin.lev (n + 1) q.adv (by omega) (by omega) (by show r.i < q.i + 1; omega) hadv
  have hcb := hbs (n + 1) q.adv
  generalize climbP sl.l f (n + 1) q.adv = z at hP hc hcb
  obtain ⟨b, a⟩ := z
  simp only at hc hcb
  have ha := hcb.ok hadv
  have haup : q.i + 1 ≤ a.i := hcb.up
  have han : a.nodes.length < 1000000 := by have := ha.1; have := ha.2; omega
  refine AW.seq_k fun K hK => AW.region (by kernel_rfl) ?_
  simp -implicitDefEqProofs only[go_sem,seval,↓reduceIte]
  refine RdS.call hG (rLast_spec G hG sl g q hqn) (gx := gz) (by kernel_rfl) (fun F => rfl) (by decide) (by first | rfl | (simp -implicitDefEqProofs only[go_sem,seval,↓reduceIte, List.map_cons, List.map_nil, encXN_K]; try rfl)) (by first | rfl | (simp -implicitDefEqProofs only[go_sem,seval,↓reduceIte, List.map_cons, List.map_nil]; try rfl)) (by first | rfl | (simp -implicitDefEqProofs only[go_sem,seval,↓reduceIte]; try rfl)) (by first | rfl | (simp -implicitDefEqProofs only[go_sem,seval,↓reduceIte]; try rfl)) fun gz1 => ?_
  simp -implicitDefEqProofs only[go_sem,seval,↓reduceIte, sets]
  refine hK _ ?_
  clear hK K
  refine AW.seq_k fun K hK => AW.region (by kernel_rfl) ?_
  simp -implicitDefEqProofs only[go_sem,seval,↓reduceIte, rdO_K, hw]
  refine hK _ ?_
  clear hK K
  refine AW.seq_k fun K10 hK10 => ?_
  cases b with
  | false =>
   rw [andThen_false] at hP
   refine AW.seq_k fun K hK => AW.region (by kernel_rfl) ?_
   simp -implicitDefEqProofs only[go_sem,seval,↓reduceIte, rdO_K, hw1]
   refine RdS.call hG (hc) (gx := gz1) (by kernel_rfl) (fun F => rfl) (by decide) (by first | rfl | (simp -implicitDefEqProofs only[go_sem,seval,↓reduceIte, List.map_cons, List.map_nil, encXN_K]; try rfl)) (by first | rfl | (simp -implicitDefEqProofs only[go_sem,seval,↓reduceIte, List.map_cons, List.map_nil]; try rfl)) (by first | rfl | (simp -implicitDefEqProofs only[go_sem,seval,↓reduceIte]; try rfl)) (by first | rfl | (simp -implicitDefEqProofs only[go_sem,seval,↓reduceIte]; try rfl)) fun gz2 => ?_
   simp -implicitDefEqProofs only[go_sem,seval,↓reduceIte, sets]
   refine hK _ ?_
   clear hK K
   refine AW.condS (by simp -implicitDefEqProofs only[go_sem,seval,↓reduceIte]; rfl) (fun h11 => ?_) (fun h11 => ?_)
   ·refine AW.seq_k fun K hK => AW.region (by kernel_rfl) ?_
    simp -implicitDefEqProofs only[go_sem,seval,↓reduceIte]
    refine hK _ ?_
    clear hK K
    refine AW.ret ?_
    simp -implicitDefEqProofs only[go_sem,seval,↓reduceIte]
    refine endK_some ?_
    rw [hP]
    exact ⟨rfl, gz2, by first | rfl | (simp -implicitDefEqProofs only[go_sem,seval,↓reduceIte]; try rfl), by first | rfl | (simp -implicitDefEqProofs only[go_sem,seval,↓reduceIte]; try rfl)⟩
   ·cases h11
  | true =>
   rw [andThen_true] at hP
   refine AW.seq_k fun K hK => AW.region (by kernel_rfl) ?_
   simp -implicitDefEqProofs only[go_sem,seval,↓reduceIte, rdO_K, hw1]
   refine RdS.call hG (hc) (gx := gz1) (by kernel_rfl) (fun F => rfl) (by decide) (by first | rfl | (simp -implicitDefEqProofs only[go_sem,seval,↓reduceIte, List.map_cons, List.map_nil, encXN_K]; try rfl)) (by first | rfl | (simp -implicitDefEqProofs only[go_sem,seval,↓reduceIte, List.map_cons, List.map_nil]; try rfl)) (by first | rfl | (simp -implicitDefEqProofs only[go_sem,seval,↓reduceIte]; try rfl)) (by first | rfl | (simp -implicitDefEqProofs only[go_sem,seval,↓reduceIte]; try rfl)) fun gz2 => ?_
   simp -implicitDefEqProofs only[go_sem,seval,↓reduceIte, sets]
   refine hK _ ?_
   clear hK K
   refine AW.condS (by simp -implicitDefEqProofs only[go_sem,seval,↓reduceIte]; rfl) (fun h11 => ?_) (fun h11 => ?_)
   ·cases h11
   refine AW.skip ?_
   simp -implicitDefEqProofs only[go_sem,seval,↓reduceIte]
   refine hK10 _ ?_
   refine AW.region (by kernel_rfl) ?_
   simp -implicitDefEqProofs only[go_sem,seval,↓reduceIte]
   refine RdS.call hG (rLast_spec G hG sl g a han) (gx := gz2) (by kernel_rfl) (fun F => rfl) (by decide) (by first | rfl | (simp -implicitDefEqProofs only[go_sem,seval,↓reduceIte, List.map_cons, List.map_nil, encXN_K]; try rfl)) (by first | rfl | (simp -implicitDefEqProofs only[go_sem,seval,↓reduceIte, List.map_cons, List.map_nil]; try rfl)) (by first | rfl | (simp -implicitDefEqProofs only[go_sem,seval,↓reduceIte]; try rfl)) (by first | rfl | (simp -implicitDefEqProofs only[go_sem,seval,↓reduceIte]; try rfl)) fun gz3 => ?_
   simp -implicitDefEqProofs only[go_sem,seval,↓reduceIte, sets]
   simp -implicitDefEqProofs only[go_sem,seval,↓reduceIte, rdO_K]
   rw [← encXN_K ⟨op, 0, [], q.last, a.last, -1⟩]
   refine RdS.call hG (rPutN_spec G hG sl g a han ⟨op, 0, [], q.last, a.last, -1⟩) (gx := gz3) (by kernel_rfl) (fun F => rfl) (by decide) (by first | rfl | (simp -implicitDefEqProofs only[go_sem,seval,↓reduceIte, List.map_cons, List.map_nil, encXN_K]; try rfl)) (by first | rfl | (simp -implicitDefEqProofs only[go_sem,seval,↓reduceIte, List.map_cons, List.map_nil]; try rfl)) (by first | rfl | (simp -implicitDefEqProofs only[go_sem,seval,↓reduceIte]; try rfl)) (by first | rfl | (simp -implicitDefEqProofs only[go_sem,seval,↓reduceIte]; try rfl)) fun gz4 => ?_
   simp -implicitDefEqProofs only[go_sem,seval,↓reduceIte, sets]
   have hres : RSok sl.l (a.put ⟨op, 0, [], q.last, a.last, -1⟩) := ⟨ha.1, by
    have h1 := hcb.cnt
    have h2 := hq.2
    show (a.nodes ++ [_]).length ≤ a.i
    rw [List.length_append, List.length_singleton]
    have h3 : a.nodes.length + (q.i + 1) + 0 ≤ q.nodes.length + a.i := h1
    omega⟩
   refine hL3 _ ⟨(gz4, m, a.put ⟨op, 0, [], q.last, a.last, -1⟩), Nat.lt_succ_self _, ⟨hP, hres, ?_, ?_⟩, Weak.st (by simp -implicitDefEqProofs only[go_sem,seval,↓reduceIte]; try rfl) (by simp -implicitDefEqProofs only[go_sem,seval,↓reduceIte]; try exact ⟨rfl, rfl⟩)⟩
   ·show r.i ≤ a.i
    omega
   ·show sl.l.length < m + a.i
    omega
end Go.Hs
end

section
namespace Go.Hs
open Go.Proofs
set_option maxRecDepth 10000
def encRr (c : Col) (p : List XN × Int × Int) : V := .tuple [encXs c p.1, .int .i64 p.2.1, .int .i64 p.2.2]
theorem rFrom_spec (G : Nat → V) (hG : GOk G) (c : Col) (sl : Sl Tk) (hT : TkOk sl.l) : Spec Tryz.prog G 34 [encSl c 3 encTk sl] hNone (fun v _ => v = encRr .new (fromP sl.l)) := by
 have hTl := hT.len
 refine Spec.of_code' 0 34 [.tmp 2, .tmp 3, .tmp 4] Tryz.func34 rfl rfl rfl rfl fun X => ?_
 have hP : fromP sl.l = if (climbP sl.l (sl.l.length + 1) 1 ⟨0, [], 0⟩).1 = false then (([] : List XN), ((climbP sl.l (sl.l.length + 1) 1 ⟨0, [], 0⟩).2.i : Int), (climbP sl.l (sl.l.length + 1) 1 ⟨0, [], 0⟩).2.e)
  else if depthP (climbP sl.l (sl.l.length + 1) 1 ⟨0, [], 0⟩).2.nodes > 64 then ([], 0, 3) else ((climbP sl.l (sl.l.length + 1) 1 ⟨0, [], 0⟩).2.nodes, ((climbP sl.l (sl.l.length + 1) 1 ⟨0, [], 0⟩).2.i : Int), (0 : Int)) := rfl
 have hr0 : RSok sl.l ⟨0, [], 0⟩ := ⟨Nat.zero_le _, Nat.le_refl _⟩
 have hcl := fun g => (rLevel_spec G hG sl hT g (sl.l.length + 1) ⟨0, [], 0⟩ (Nat.lt_succ_self _) hr0).1 1 (by decide) (by decide)
 have hnm2 := climb_names hT
 have hok := (climbP_bal sl.l (sl.l.length + 1) 1 ⟨0, [], 0⟩)
 generalize fromP sl.l = res at hP ⊢
 generalize climbP sl.l (sl.l.length + 1) 1 ⟨0, [], 0⟩ = y at hP hcl hok hnm2
 obtain ⟨b, r⟩ := y
 simp only at hP hcl hok hnm2
 have hrl : r.nodes.length < 1000000 := by have := (hok.ok hr0); have h1 := this.1; have h2 := this.2; omega
 refine AW.seq_k fun K hK => AW.region (by kernel_rfl) ?_
 simp -implicitDefEqProofs only[go_sem,seval,↓reduceIte]
 refine hK _ ?_
 clear hK K
 refine AW.seq_k fun K hK => AW.region (by kernel_rfl) ?_
 simp -implicitDefEqProofs only[go_sem,seval,↓reduceIte]
 intro g8
 refine hK _ ?_
 clear hK K
 refine AW.weak (Weak.stF (fun _ => false) (l := [(5, .ptr 8 g8 0)]) (m := [(8, .cells .new g8 0 [encSl .any 3 encTk sl, .int .i64 0, .nils, .int .i64 0])]) ?_ ?_) ?_
 ·simp -implicitDefEqProofs only[go_sem,seval,↓reduceIte]
  exact Fz.same _
 ·simp only [allFzO_cons, allFzO_nil, and_true]
  exact FzO.of (c := .new) (fz := 0) (cs := [encSl c 3 encTk sl, .int .i64 0, .nils, .int .i64 0]) rfl (by simp -implicitDefEqProofs only[go_sem,seval,↓reduceIte]; try rfl) ⟨Fz.any (recol_tks _ _ _), Fz.same _, Fz.same _, Fz.same _, trivial⟩
 refine AW.seq_k fun K1 hK1 => ?_
 refine AW.seq_k fun K hK => AW.region (by kernel_rfl) ?_
 simp -implicitDefEqProofs only[go_sem,seval,↓reduceIte]
 refine RdS.callN hG (hcl g8) (by kernel_rfl) (fun F => rfl) rfl rfl rfl _ (by simp -implicitDefEqProofs only[go_sem,seval,↓reduceIte]; rfl) (by simp only [V.recolL_eq, List.map_cons, List.map_nil, recol_tks]; rfl) (by simp -implicitDefEqProofs only[go_sem,seval,↓reduceIte]) fun gx => ?_
 simp -implicitDefEqProofs only[go_sem,seval,↓reduceIte, sets]
 refine hK _ ?_
 clear hK K
 cases b with
 | false =>
  refine AW.condS (by simp -implicitDefEqProofs only[go_sem,seval,↓reduceIte]; rfl) (fun h9 => ?_) (fun h9 => ?_)
  rotate_left
  ·cases h9
  refine AW.weak (Weak.stF (fun o => o == 8) (l := [(5, .view .new (.agg [encSl .any 3 encTk sl, .int .i64 r.i, grown 1012 gx 6 r.nodes, .int .i64 r.e]))]) (m := []) ?_ trivial) ?_
  ·simp -implicitDefEqProofs only[go_sem,seval,↓reduceIte]
   exact Fz.ptr (v := .agg [encSl .any 3 encTk sl, .int .i64 r.i, grown 1012 gx 6 r.nodes, .int .i64 r.e]) (c := .new) (fz := 0) rfl (by simp -implicitDefEqProofs only[go_sem,seval,↓reduceIte]; try rfl)
  refine AW.seq_k fun K hK => AW.regionT ⟨fun _ => .top, fun _ => .pure⟩ (by kernel_rfl) hG (by kernel_rfl) (by kernel_rfl) ?_
  simp -implicitDefEqProofs only[go_sem,seval,↓reduceIte]
  refine hK _ ?_
  clear hK K
  refine AW.ret ?_
  simp -implicitDefEqProofs only[go_sem,seval,↓reduceIte]
  refine endK_some ?_
  rw [hP]; rfl
 | true =>
 refine AW.condS (by simp -implicitDefEqProofs only[go_sem,seval,↓reduceIte]; rfl) (fun h9 => ?_) (fun h9 => ?_)
 ·cases h9
 refine AW.skip ?_
 simp -implicitDefEqProofs only[go_sem,seval,↓reduceIte]
 refine hK1 _ ?_
 refine AW.weak (Weak.stF (fun o => o == 1012) (l := [(5, .ptr 8 g8 0)]) (m := [(8, .cells .new g8 0 [encSl .any 3 encTk sl, .int .i64 r.i, encXs .new r.nodes, .int .i64 r.e])]) ?_ ?_) ?_
 ·simp -implicitDefEqProofs only[go_sem,seval,↓reduceIte]
  exact Fz.same _
 ·simp only [allFzO_cons, allFzO_nil, and_true]
  exact FzO.of (c := .new) (fz := 0) (cs := [encSl .any 3 encTk sl, .int .i64 r.i, grown 1012 gx 6 r.nodes, .int .i64 r.e]) rfl (by simp -implicitDefEqProofs only[go_sem,seval,↓reduceIte]; try rfl) ⟨Fz.same _, Fz.same _, Fz.grown rfl (by simp -implicitDefEqProofs only[go_sem,seval,↓reduceIte]; try rfl) encXN_cells, Fz.same _, trivial⟩
 rw [if_neg (by simp)] at hP
 refine AW.seq_k fun K2 hK2 => ?_
 refine AW.seq_k fun K hK => AW.region (by kernel_rfl) ?_
 simp -implicitDefEqProofs only[go_sem,seval,↓reduceIte, encXs]
 refine CallA.pure hG (by kernel_rfl) ?_
 simp -implicitDefEqProofs only[go_sem,seval,↓reduceIte, recol_xns]
 refine (rDepthN_spec G hG _ (grownS r.nodes) (by rw [grownS_l]; exact hrl) (by rw [grownS_l]; exact hnm2)).mono ?_
 rintro _ _ rfl
 rw [grownS_l]
 simp -implicitDefEqProofs only[go_sem,seval,↓reduceIte]
 refine hK _ ?_
 clear hK K
 refine AW.condS (by simp -implicitDefEqProofs only[go_sem,seval,↓reduceIte]; rfl) (fun h26 => ?_) (fun h26 => ?_)
 ·have h26 : depthP r.nodes > 64 := by simpa using h26
  rw [if_pos h26] at hP
  refine AW.seq_k fun K hK => AW.region (by kernel_rfl) ?_
  simp -implicitDefEqProofs only[go_sem,seval,↓reduceIte]
  refine hK _ ?_
  clear hK K
  refine AW.ret ?_
  simp -implicitDefEqProofs only[go_sem,seval,↓reduceIte]
  refine endK_some ?_
  rw [hP]; rfl
 have h26 : ¬ depthP r.nodes > 64 := by simpa using h26
 rw [if_neg h26] at hP
 refine AW.skip ?_
 simp -implicitDefEqProofs only[go_sem,seval,↓reduceIte]
 refine hK2 _ ?_
 refine AW.weak (Weak.stF (fun o => o == 8) (l := [(5, .view .new (.agg [encSl .any 3 encTk sl, .int .i64 r.i, encXs .new r.nodes, .int .i64 r.e]))]) (m := []) ?_ trivial) ?_
 ·simp -implicitDefEqProofs only[go_sem,seval,↓reduceIte]
  exact Fz.ptr (v := .agg [encSl .any 3 encTk sl, .int .i64 r.i, encXs .new r.nodes, .int .i64 r.e]) (c := .new) (fz := 0) rfl (by simp -implicitDefEqProofs only[go_sem,seval,↓reduceIte]; try rfl)
 refine AW.seq_k fun K hK => AW.regionT ⟨fun _ => .top, fun _ => .pure⟩ (by kernel_rfl) hG (by kernel_rfl) (by kernel_rfl) ?_
 simp -implicitDefEqProofs only[go_sem,seval,↓reduceIte, encXs]
 refine hK _ ?_
 clear hK K
 refine AW.ret ?_
 simp -implicitDefEqProofs only[go_sem,seval,↓reduceIte]
 refine endK_some ?_
 rw [hP]; rfl
theorem rParse8_spec (G : Nat → V) (hG : GOk G) (s : List UInt8) (hs : s.length < 100000) : Spec Tryz.prog G 31 [.str s] hNone (fun v _ => v = encRr .new (exprP s)) := by
 refine Spec.of_code' 0 50 [.tmp 2, .tmp 3, .tmp 4] Tryz.func31 rfl rfl rfl rfl fun X => ?_
 have hP : exprP s = if (toksP s).2.2 ≠ 0 then (([] : List XN), (toksP s).2.1, (toksP s).2.2)
  else if (fromP (toksP s).1).2.2 = 3 then ([], 0, 3)
  else if (fromP (toksP s).1).2.2 = 0 ∧ (fromP (toksP s).1).2.1 = ((toksP s).1.length : Nat) then ((fromP (toksP s).1).1, 0, 0)
  else ([], if (fromP (toksP s).1).2.1 = ((toksP s).1.length : Nat) then (s.length : Int) else ((toksP s).1.getD (fromP (toksP s).1).2.1.toNat ⟨0, [], 0⟩).pos, if (fromP (toksP s).1).2.2 = 0 then 80 else (fromP (toksP s).1).2.2) := rfl
 generalize exprP s = res at hP ⊢
 have hT := toks_ok hs
 have hl := rTokens_spec G hG s hs
 have hfr := fun c => rFrom_spec G hG c (grownS (toksP s).1) (by rw [grownS_l]; exact hT)
 simp only [grownS_l] at hfr
 have hb := fromP_bnd (l := (toksP s).1)
 generalize toksP s = t at hP hT hl hfr hb
 generalize fromP t.1 = p at hP hfr hb
 obtain ⟨l, at0, e0⟩ := t
 obtain ⟨ns, i, e⟩ := p
 simp only at hP hT hfr hb
 refine AW.seq_k fun K hK => AW.region (by kernel_rfl) ?_
 simp -implicitDefEqProofs only[go_sem,seval,↓reduceIte]
 refine hK _ ?_
 clear hK K
 refine AW.seq_k fun K hK => AW.region (by kernel_rfl) ?_
 simp -implicitDefEqProofs only[go_sem,seval,↓reduceIte]
 refine CallA.pure hG (by kernel_rfl) ?_
 simp -implicitDefEqProofs only[go_sem,seval,↓reduceIte]
 refine hl.mono ?_
 rintro _ _ rfl
 simp -implicitDefEqProofs only[go_sem,seval,↓reduceIte, encTok, encTks, recol_tks]
 refine hK _ ?_
 clear hK K
 refine AW.seq_k fun K1 hK1 => ?_
 refine AW.seq_k fun K hK => AW.region (by kernel_rfl) ?_
 simp -implicitDefEqProofs only[go_sem,seval,↓reduceIte]
 refine hK _ ?_
 clear hK K
 by_cases he0 : e0 = 0
 rotate_left
 ·have q1 : (e0 != 0) = true := by simpa using he0
  rw [if_pos he0] at hP
  rw [q1]
  refine AW.condS (by simp -implicitDefEqProofs only[go_sem,seval,↓reduceIte]; rfl) (fun h17 => ?_) (fun h17 => ?_)
  ·refine AW.seq_k fun K hK => AW.region (by kernel_rfl) ?_
   simp -implicitDefEqProofs only[go_sem,seval,↓reduceIte]
   refine hK _ ?_
   clear hK K
   refine AW.ret ?_
   simp -implicitDefEqProofs only[go_sem,seval,↓reduceIte]
   refine endK_some ?_
   rw [hP]; rfl
  ·cases h17
 have q1 : (e0 != 0) = false := by simpa using he0
 rw [if_neg (by simpa using he0)] at hP
 rw [q1]
 refine AW.condS (by simp -implicitDefEqProofs only[go_sem,seval,↓reduceIte]; rfl) (fun h17 => ?_) (fun h17 => ?_)
 ·cases h17
 refine AW.skip ?_
 simp -implicitDefEqProofs only[go_sem,seval,↓reduceIte]
 refine hK1 _ ?_
 refine AW.seq_k fun K hK => AW.region (by kernel_rfl) ?_
 simp -implicitDefEqProofs only[go_sem,seval,↓reduceIte]
 refine CallA.pure hG (by kernel_rfl) ?_
 simp -implicitDefEqProofs only[go_sem,seval,↓reduceIte, recol_tks]
 refine (hfr _).mono ?_
 rintro _ _ rfl
 simp -implicitDefEqProofs only[go_sem,seval,↓reduceIte, encRr, encXs, recol_xns]
 refine hK _ ?_
 clear hK K
 refine AW.seq_k fun K2 hK2 => ?_
 refine AW.seq_k fun K hK => AW.region (by kernel_rfl) ?_
 simp -implicitDefEqProofs only[go_sem,seval,↓reduceIte]
 refine hK _ ?_
 clear hK K
 by_cases he3 : e = 3
 ·have q3 : (e == 3) = true := by simpa using he3
  rw [if_pos he3] at hP
  rw [q3]
  refine AW.condS (by simp -implicitDefEqProofs only[go_sem,seval,↓reduceIte]; rfl) (fun h27 => ?_) (fun h27 => ?_)
  ·refine AW.seq_k fun K hK => AW.region (by kernel_rfl) ?_
   simp -implicitDefEqProofs only[go_sem,seval,↓reduceIte]
   refine hK _ ?_
   clear hK K
   refine AW.ret ?_
   simp -implicitDefEqProofs only[go_sem,seval,↓reduceIte]
   refine endK_some ?_
   rw [hP]; rfl
  ·cases h27
 have q3 : (e == 3) = false := by simpa using he3
 rw [if_neg he3] at hP
 rw [q3]
 refine AW.condS (by simp -implicitDefEqProofs only[go_sem,seval,↓reduceIte]; rfl) (fun h27 => ?_) (fun h27 => ?_)
 ·cases h27
 refine AW.skip ?_
 simp -implicitDefEqProofs only[go_sem,seval,↓reduceIte]
 refine hK2 _ ?_
 refine AW.seq_k fun K hK => AW.region (by kernel_rfl) ?_
 simp -implicitDefEqProofs only[go_sem,seval,↓reduceIte]
 refine hK _ ?_
 clear hK K
 obtain ⟨m, rfl⟩ : ∃ m : Nat, i = m := ⟨i.toNat, by omega⟩
 have hP2 : res = if e ≠ 0 then ([], (if (m : Int) = (l.length : Nat) then (s.length : Int) else (l.getD m ⟨0, [], 0⟩).pos), e) else if m < l.length then ([], (if (m : Int) = (l.length : Nat) then (s.length : Int) else (l.getD m ⟨0, [], 0⟩).pos), 80) else (ns, 0, 0) := by
  rw [hP, Int.toNat_natCast]
  by_cases he : e = 0
  ·rw [if_neg (show ¬ e ≠ 0 by simpa using he)]
   by_cases hm : m < l.length
   ·rw [if_neg (by omega), if_pos hm, if_pos he]
   ·rw [if_pos ⟨he, by omega⟩, if_neg hm]
  ·rw [if_pos he, if_neg (fun h => he h.1), if_neg he]
 clear hP
 generalize hpl : (if (m : Int) = (l.length : Nat) then (s.length : Int) else (l.getD m ⟨0, [], 0⟩).pos) = pl at hP2
 refine AW.seqJ (fun (_ : Unit) => st [(0, .str s), (5, encSl .new 3 encTk (grownS l)), (7, .int .i64 e), (8, encSl .new 6 encXN (grownS ns)), (9, .int .i64 m), (10, .int .i64 pl)] []) (fun _ => True) (fun K3 hK3 => ?_) ?_
 ·refine AW.seq_k fun K hK => AW.region (by kernel_rfl) ?_
  simp -implicitDefEqProofs only[go_sem,seval,↓reduceIte]
  refine hK _ ?_
  clear hK K
  by_cases hm : m < l.length
  ·have q4 : decide (((m : Nat) : Int) < ((l.length : Nat) : Int)) = true := by rw [decide_eq_true_iff]; omega
   obtain ⟨tk, htk⟩ : ∃ tk, l[m]? = some tk := ⟨_, List.getElem?_eq_getElem hm⟩
   have hgd : l.getD m ⟨0, [], 0⟩ = tk := by rw [List.getD_eq_getElem?_getD, htk]; rfl
   rw [if_neg (by omega), hgd] at hpl
   rw [q4]
   refine AW.condS (by simp -implicitDefEqProofs only[go_sem,seval,↓reduceIte]; rfl) (fun h34 => ?_) (fun h34 => ?_)
   rotate_left
   ·cases h34
   refine AW.region (by kernel_rfl) ?_
   simp -implicitDefEqProofs only[go_sem,seval,↓reduceIte, htk, encTk_K]
   exact hK3 _ () trivial (Weak.st (by rw [← hpl]; simp -implicitDefEqProofs only[go_sem,seval,↓reduceIte]; try rfl) (by simp -implicitDefEqProofs only[go_sem,seval,↓reduceIte]))
  ·have q4 : decide (((m : Nat) : Int) < ((l.length : Nat) : Int)) = false := by rw [decide_eq_false_iff_not]; omega
   rw [if_pos (by omega)] at hpl
   rw [q4]
   refine AW.condS (by simp -implicitDefEqProofs only[go_sem,seval,↓reduceIte]; rfl) (fun h34 => ?_) (fun h34 => ?_)
   ·cases h34
   refine AW.skip ?_
   simp -implicitDefEqProofs only[go_sem,seval,↓reduceIte]
   exact hK3 _ () trivial (Weak.st (by rw [← hpl]; simp -implicitDefEqProofs only[go_sem,seval,↓reduceIte]; try rfl) (by simp -implicitDefEqProofs only[go_sem,seval,↓reduceIte]))
 intro _ _
 refine AW.seq_k fun K4 hK4 => ?_
 refine AW.seq_k fun K hK => AW.region (by kernel_rfl) ?_
 simp -implicitDefEqProofs only[go_sem,seval,↓reduceIte]
 refine hK _ ?_
 clear hK K
 by_cases he : e = 0
 rotate_left
 ·have q5 : (e != 0) = true := by simpa using he
  rw [if_pos he] at hP2
  rw [q5]
  refine AW.condS (by simp -implicitDefEqProofs only[go_sem,seval,↓reduceIte]; rfl) (fun h41 => ?_) (fun h41 => ?_)
  ·refine AW.seq_k fun K hK => AW.region (by kernel_rfl) ?_
   simp -implicitDefEqProofs only[go_sem,seval,↓reduceIte]
   refine hK _ ?_
   clear hK K
   refine AW.ret ?_
   simp -implicitDefEqProofs only[go_sem,seval,↓reduceIte]
   refine endK_some ?_
   rw [hP2]; rfl
  ·cases h41
 have q5 : (e != 0) = false := by simpa using he
 rw [if_neg (by simpa using he)] at hP2
 rw [q5]
 refine AW.condS (by simp -implicitDefEqProofs only[go_sem,seval,↓reduceIte]; rfl) (fun h41 => ?_) (fun h41 => ?_)
 ·cases h41
 refine AW.skip ?_
 simp -implicitDefEqProofs only[go_sem,seval,↓reduceIte]
 refine hK4 _ ?_
 refine AW.seq_k fun K5 hK5 => ?_
 refine AW.seq_k fun K hK => AW.region (by kernel_rfl) ?_
 simp -implicitDefEqProofs only[go_sem,seval,↓reduceIte]
 refine hK _ ?_
 clear hK K
 by_cases hm : m < l.length
 ·have q4 : decide (((m : Nat) : Int) < ((l.length : Nat) : Int)) = true := by rw [decide_eq_true_iff]; omega
  rw [if_pos hm] at hP2
  rw [q4]
  refine AW.condS (by simp -implicitDefEqProofs only[go_sem,seval,↓reduceIte]; rfl) (fun h47 => ?_) (fun h47 => ?_)
  ·refine AW.seq_k fun K hK => AW.region (by kernel_rfl) ?_
   simp -implicitDefEqProofs only[go_sem,seval,↓reduceIte]
   refine hK _ ?_
   clear hK K
   refine AW.ret ?_
   simp -implicitDefEqProofs only[go_sem,seval,↓reduceIte]
   refine endK_some ?_
   rw [hP2]; rfl
  ·cases h47
 have q4 : decide (((m : Nat) : Int) < ((l.length : Nat) : Int)) = false := by rw [decide_eq_false_iff_not]; omega
 rw [if_neg hm] at hP2
 rw [q4]
 refine AW.condS (by simp -implicitDefEqProofs only[go_sem,seval,↓reduceIte]; rfl) (fun h47 => ?_) (fun h47 => ?_)
 ·cases h47
 refine AW.skip ?_
 simp -implicitDefEqProofs only[go_sem,seval,↓reduceIte]
 refine hK5 _ ?_
 refine AW.seq_k fun K hK => AW.region (by kernel_rfl) ?_
 simp -implicitDefEqProofs only[go_sem,seval,↓reduceIte]
 refine hK _ ?_
 clear hK K
 refine AW.ret ?_
 simp -implicitDefEqProofs only[go_sem,seval,↓reduceIte]
 refine endK_some ?_
 rw [hP2]; rfl
end Go.Hs
end

section
namespace Go.Hs
open Go.Proofs
set_option maxRecDepth 10000
theorem vRef_spec (G : Nat → V) (hG : GOk G) (c : Col) (s : Sl XN) (hs : s.l.length < 1000000) :
  Spec Tryz.prog G 36 [.agg [encSl c 6 encXN s]] hNone (fun v _ => v = encXs .new s.l) := by
 refine Spec.of_code' 0 35 [.tmp 2] Tryz.func36 rfl rfl rfl rfl fun X => ?_
 refine AW.seq_k fun K hK => AW.region (by kernel_rfl) ?_
 simp -implicitDefEqProofs only[go_sem,seval,↓reduceIte]
 intro g1
 refine hK _ ?_
 clear hK K
 refine AW.seq_k fun K hK => AW.region (by kernel_rfl) ?_
 simp -implicitDefEqProofs only[go_sem,seval,↓reduceIte]
 refine hK _ ?_
 clear hK K
 refine AW.seq_k fun K2 hK2 => ?_
 refine AW.seq_k fun K hK => AW.region (by kernel_rfl) ?_
 simp -implicitDefEqProofs only[go_sem,seval,↓reduceIte]
 refine hK _ ?_
 clear hK K
 refine AW.block ?_
 refine AW.for s.l.length (fun k (gx : Nat) => st [(1, .ptr 1 g1 0), (3, grown 33 gx 6 (s.l.take k)), (4, .int .i64 k)] [(1, .cells .new g1 0 [encSl c 6 encXN s]), (33, grownO gx encXN (s.l.take k))])
  (fun k _ => True) 0 0 (Nat.zero_le _) trivial
  (Weak.st (by simp -implicitDefEqProofs only[go_sem,seval,↓reduceIte]; try rfl) (by simp -implicitDefEqProofs only[go_sem,seval,↓reduceIte]; try rfl)) ?_
 intro k gx hk _ L3 hL3
 refine AW.seq_k fun K4 hK4 => ?_
 refine AW.seq_k fun K hK => AW.region (by kernel_rfl) ?_
 simp -implicitDefEqProofs only[go_sem,seval,↓reduceIte]
 refine hK _ ?_
 clear hK K
 refine AW.condS (by simp -implicitDefEqProofs only[go_sem,seval,↓reduceIte]; rfl) (fun h10 => ?_) (fun h10 => ?_)
 ·have hk1 : k < s.l.length := by simpa using h10
  have hg := List.getElem?_eq_getElem hk1
  have htk : s.l.take (k + 1) = s.l.take k ++ [s.l[k]] := by rw [List.take_succ_eq_append_getElem hk1]
  have hlt : (s.l.take k).length = k := by rw [List.length_take]; omega
  generalize s.l[k] = n at hg htk
  generalize s.l.take k = ns at htk hlt ⊢
  refine AW.skip ?_
  simp -implicitDefEqProofs only[go_sem,seval,↓reduceIte]
  refine hK4 _ ?_
  refine AW.seq_k fun K5 hK5 => ?_
  refine AW.block ?_
  refine AW.seq_k fun K hK => AW.region (by kernel_rfl) ?_
  simp -implicitDefEqProofs only[go_sem,seval,↓reduceIte, hg, encXN_K]
  intro g5
  refine hK _ ?_
  clear hK K
  refine AW.region (by kernel_rfl) ?_
  simp -implicitDefEqProofs only[go_sem,seval,↓reduceIte]
  intro g32
  refine app_grown (f := encXN) (l := ns) (l2 := [n]) (g := gx) encXN_cells rfl rfl rfl (by simp -implicitDefEqProofs only[go_sem,seval,↓reduceIte]; try rfl) (roomOk_of (by omega) (by simp; omega)) fun g2 => ?_
  simp -implicitDefEqProofs only[go_sem,seval,↓reduceIte]
  refine hK5 _ ?_
  refine AW.region (by kernel_rfl) ?_
  simp -implicitDefEqProofs only[go_sem,seval,↓reduceIte]
  refine hL3 _ ⟨hk1, g2, trivial, Weak.st (by simp -implicitDefEqProofs only[go_sem,seval,↓reduceIte]; exact ⟨by rw [htk], congrArg _ (w64 (by omega) (by omega))⟩) (by simp -implicitDefEqProofs only[go_sem,seval,↓reduceIte]; rw [htk]; try rfl)⟩
 ·have hk1 : k = s.l.length := by simp at h10; omega
  refine AW.exit ?_
  simp -implicitDefEqProofs only[go_sem,seval,↓reduceIte]
  refine hK2 _ ?_
  rw [hk1, List.take_length]
  refine AW.weak (Weak.stF (fun o => o == 33) (l := [(3, encXs .new s.l)]) (m := []) ?_ trivial) ?_
  ·simp -implicitDefEqProofs only[go_sem,seval,↓reduceIte]
   exact Fz.grown rfl rfl encXN_cells
  refine AW.seq_k fun K hK => AW.region (by kernel_rfl) ?_
  simp -implicitDefEqProofs only[go_sem,seval,↓reduceIte]
  refine hK _ ?_
  clear hK K
  refine AW.ret ?_
  simp -implicitDefEqProofs only[go_sem,seval,↓reduceIte]
  refine endK_some ?_
  rfl
def fewE (l : List XN) : Bool := decide (l.length ≤ 200) && l.all fun n => decide (n.name.length ≤ 70)
theorem fewE_true {l : List XN} (h : fewE l = true) : l.length ≤ 200 ∧ ∀ n ∈ l, n.name.length ≤ 70 := by
 unfold fewE at h
 simp only [Bool.and_eq_true, decide_eq_true_eq, List.all_eq_true] at h
 exact h
theorem vFew_spec (G : Nat → V) (hG : GOk G) (c : Col) (s : Sl XN) :
  Spec Tryz.prog G 35 [.agg [encSl c 6 encXN s]] hNone (fun v _ => v = .bool (fewE s.l)) := by
 refine Spec.of_code' 0 23 [.tmp 2] Tryz.func35 rfl rfl rfl rfl fun X => ?_
 have hF : fewE s.l = (decide (s.l.length ≤ 200) && s.l.all fun n => decide (n.name.length ≤ 70)) := rfl
 generalize fewE s.l = res at hF ⊢
 refine AW.seq_k fun K hK => AW.region (by kernel_rfl) ?_
 simp -implicitDefEqProofs only[go_sem,seval,↓reduceIte]
 intro g1
 refine hK _ ?_
 clear hK K
 refine AW.seq_k fun K1 hK1 => ?_
 refine AW.seq_k fun K hK => AW.region (by kernel_rfl) ?_
 simp -implicitDefEqProofs only[go_sem,seval,↓reduceIte]
 refine hK _ ?_
 clear hK K
 by_cases hl : s.l.length > 200
 ·have q1 : decide (((s.l.length : Nat) : Int) > 200) = true := by rw [decide_eq_true_iff]; omega
  rw [decide_eq_false (by omega)] at hF
  rw [q1]
  refine AW.condS (by simp -implicitDefEqProofs only[go_sem,seval,↓reduceIte]; rfl) (fun h7 => ?_) (fun h7 => ?_)
  rotate_left
  ·cases h7
  refine AW.seq_k fun K hK => AW.region (by kernel_rfl) ?_
  simp -implicitDefEqProofs only[go_sem,seval,↓reduceIte]
  refine hK _ ?_
  clear hK K
  refine AW.ret ?_
  simp -implicitDefEqProofs only[go_sem,seval,↓reduceIte]
  refine endK_some ?_
  rw [hF]; rfl
 have q1 : decide (((s.l.length : Nat) : Int) > 200) = false := by rw [decide_eq_false_iff_not]; omega
 rw [decide_eq_true (by omega), Bool.true_and] at hF
 rw [q1]
 refine AW.condS (by simp -implicitDefEqProofs only[go_sem,seval,↓reduceIte]; rfl) (fun h7 => ?_) (fun h7 => ?_)
 ·cases h7
 refine AW.skip ?_
 simp -implicitDefEqProofs only[go_sem,seval,↓reduceIte]
 refine hK1 _ ?_
 refine AW.seq_k fun K2 hK2 => ?_
 refine AW.seq_k fun K hK => AW.region (by kernel_rfl) ?_
 simp -implicitDefEqProofs only[go_sem,seval,↓reduceIte]
 refine hK _ ?_
 clear hK K
 refine AW.block ?_
 refine AW.for s.l.length (fun k (_ : Unit) => st [(1, .ptr 1 g1 0), (3, .int .i64 k)] [(1, .cells .new g1 0 [encSl c 6 encXN s])]) (fun k _ => (s.l.take k).all (fun n => decide (n.name.length ≤ 70)) = true) 0 () (Nat.zero_le _) rfl
  (Weak.st (by simp -implicitDefEqProofs only[go_sem,seval,↓reduceIte]; try rfl) (by simp -implicitDefEqProofs only[go_sem,seval,↓reduceIte]; try rfl)) ?_
 intro k _ hk hR L3 hL3
 refine AW.seq_k fun K4 hK4 => ?_
 refine AW.seq_k fun K hK => AW.region (by kernel_rfl) ?_
 simp -implicitDefEqProofs only[go_sem,seval,↓reduceIte]
 refine hK _ ?_
 clear hK K
 refine AW.condS (by simp -implicitDefEqProofs only[go_sem,seval,↓reduceIte]; rfl) (fun h12 => ?_) (fun h12 => ?_)
 ·have hk1 : k < s.l.length := by simpa using h12
  have hg := List.getElem?_eq_getElem hk1
  have htk : s.l.take (k + 1) = s.l.take k ++ [s.l[k]] := by rw [List.take_succ_eq_append_getElem hk1]
  have hmem := List.getElem_mem hk1
  generalize s.l[k] = n at hg htk hmem
  refine AW.skip ?_
  simp -implicitDefEqProofs only[go_sem,seval,↓reduceIte]
  refine hK4 _ ?_
  refine AW.seq_k fun K5 hK5 => ?_
  refine AW.block ?_
  by_cases hn : n.name.length > 70
  ·have q2 : decide (((n.name.length : Nat) : Int) > 70) = true := by rw [decide_eq_true_iff]; omega
   refine AW.seq_k fun K hK => AW.region (by kernel_rfl) ?_
   simp -implicitDefEqProofs only[go_sem,seval,↓reduceIte, hg, encXN_K, q2]
   refine hK _ ?_
   clear hK K
   refine AW.condS (by simp -implicitDefEqProofs only[go_sem,seval,↓reduceIte]; rfl) (fun h22 => ?_) (fun h22 => ?_)
   rotate_left
   ·cases h22
   refine AW.seq_k fun K hK => AW.region (by kernel_rfl) ?_
   simp -implicitDefEqProofs only[go_sem,seval,↓reduceIte]
   refine hK _ ?_
   clear hK K
   refine AW.ret ?_
   simp -implicitDefEqProofs only[go_sem,seval,↓reduceIte]
   refine endK_some ?_
   have : (s.l.all fun n => decide (n.name.length ≤ 70)) = false := by
    rw [List.all_eq_false]
    exact ⟨n, hmem, by simp; omega⟩
   rw [hF, this]
  ·have q2 : decide (((n.name.length : Nat) : Int) > 70) = false := by rw [decide_eq_false_iff_not]; omega
   refine AW.seq_k fun K hK => AW.region (by kernel_rfl) ?_
   simp -implicitDefEqProofs only[go_sem,seval,↓reduceIte, hg, encXN_K, q2]
   refine hK _ ?_
   clear hK K
   refine AW.condS (by simp -implicitDefEqProofs only[go_sem,seval,↓reduceIte]; rfl) (fun h22 => ?_) (fun h22 => ?_)
   ·cases h22
   refine AW.skip ?_
   simp -implicitDefEqProofs only[go_sem,seval,↓reduceIte]
   refine hK5 _ ?_
   refine AW.region (by kernel_rfl) ?_
   simp -implicitDefEqProofs only[go_sem,seval,↓reduceIte]
   refine hL3 _ ⟨hk1, (), ?_, Weak.st (by simp -implicitDefEqProofs only[go_sem,seval,↓reduceIte]; exact congrArg _ (w64 (by omega) (by omega))) (by simp -implicitDefEqProofs only[go_sem,seval,↓reduceIte]; try rfl)⟩
   rw [htk, List.all_append, hR, Bool.true_and]
   simp; omega
 ·have hk1 : k = s.l.length := by simp at h12; omega
  refine AW.exit ?_
  simp -implicitDefEqProofs only[go_sem,seval,↓reduceIte]
  refine hK2 _ ?_
  rw [hk1, List.take_length] at hR
  refine AW.seq_k fun K hK => AW.region (by kernel_rfl) ?_
  simp -implicitDefEqProofs only[go_sem,seval,↓reduceIte]
  refine hK _ ?_
  clear hK K
  refine AW.ret ?_
  simp -implicitDefEqProofs only[go_sem,seval,↓reduceIte]
  refine endK_some ?_
  rw [hF, hR]
theorem xn_eqV (n m : XN) : (n.op == m.op && (n.num == m.num && (n.name == m.name && (n.a == m.a && (n.b == m.b && (n.c == m.c && true)))))) = (n == m) := by
 obtain ⟨a1, a2, a3, a4, a5, a6⟩ := n
 obtain ⟨b1, b2, b3, b4, b5, b6⟩ := m
 rw [Bool.eq_iff_iff]
 simp [and_assoc]
theorem vSame_spec (G : Nat → V) (hG : GOk G) (c c1 : Col) (s t : Sl XN) (hs : s.l.length < 1000000) :
  Spec Tryz.prog G 32 [.agg [encSl c 6 encXN s], encSl c1 6 encXN t] hNone (fun v _ => v = .bool (s.l == t.l)) := by
 refine Spec.of_code' 0 30 [.tmp 4] Tryz.func32 rfl rfl rfl rfl fun X => ?_
 refine AW.seq_k fun K hK => AW.region (by kernel_rfl) ?_
 simp -implicitDefEqProofs only[go_sem,seval,↓reduceIte]
 intro g2
 refine hK _ ?_
 clear hK K
 refine AW.weak (Weak.stF (fun o => o == 2) (l := [(1, encSl c1 6 encXN t), (2, .view .new (.agg [encSl c 6 encXN s]))]) (m := []) ?_ trivial) ?_
 ·simp -implicitDefEqProofs only[go_sem,seval,↓reduceIte]
  exact ⟨Fz.same _, Fz.ptr (v := .agg [encSl c 6 encXN s]) (c := .new) (fz := 0) rfl (by simp -implicitDefEqProofs only[go_sem,seval,↓reduceIte]; try rfl)⟩
 refine AW.seq_k fun K1 hK1 => ?_
 refine AW.seq_k fun K hK => AW.region (by kernel_rfl) ?_
 simp -implicitDefEqProofs only[go_sem,seval,↓reduceIte]
 refine hK _ ?_
 clear hK K
 by_cases hl : s.l.length = t.l.length
 rotate_left
 ·have q1 : (((s.l.length : Nat) : Int) != ((t.l.length : Nat) : Int)) = true := by simp; omega
  have hne : (s.l == t.l) = false := by rw [beq_eq_false_iff_ne]; exact fun h => hl (by rw [h])
  rw [q1]
  refine AW.condS (by simp -implicitDefEqProofs only[go_sem,seval,↓reduceIte]; rfl) (fun h10 => ?_) (fun h10 => ?_)
  ·refine AW.seq_k fun K hK => AW.region (by kernel_rfl) ?_
   simp -implicitDefEqProofs only[go_sem,seval,↓reduceIte]
   refine hK _ ?_
   clear hK K
   refine AW.ret ?_
   simp -implicitDefEqProofs only[go_sem,seval,↓reduceIte]
   refine endK_some ?_
   rw [hne]
  ·cases h10
 have q1 : (((s.l.length : Nat) : Int) != ((t.l.length : Nat) : Int)) = false := by simp; omega
 rw [q1]
 refine AW.condS (by simp -implicitDefEqProofs only[go_sem,seval,↓reduceIte]; rfl) (fun h10 => ?_) (fun h10 => ?_)
 ·cases h10
 refine AW.skip ?_
 simp -implicitDefEqProofs only[go_sem,seval,↓reduceIte]
 refine hK1 _ ?_
 refine AW.seq_k fun K hK => AW.region (by kernel_rfl) ?_
 simp -implicitDefEqProofs only[go_sem,seval,↓reduceIte]
 refine CallA.pure hG (by kernel_rfl) ?_
 simp -implicitDefEqProofs only[go_sem,seval,↓reduceIte, recol_xns]
 refine (vRef_spec G hG _ s hs).mono ?_
 rintro _ _ rfl
 simp -implicitDefEqProofs only[go_sem,seval,↓reduceIte, encXs, recol_xns]
 refine hK _ ?_
 clear hK K
 have hgl : (grownS s.l).l = s.l := grownS_l _
 refine AW.seq_k fun K2 hK2 => ?_
 refine AW.seq_k fun K hK => AW.region (by kernel_rfl) ?_
 simp -implicitDefEqProofs only[go_sem,seval,↓reduceIte]
 refine hK _ ?_
 clear hK K
 refine AW.block ?_
 refine AW.for t.l.length (fun k (_ : Unit) => st [(1, encSl c1 6 encXN t), (5, encSl .new 6 encXN (grownS s.l)), (6, .int .i64 k)] []) (fun k _ => s.l.take k = t.l.take k) 0 () (Nat.zero_le _) rfl
  (Weak.st (by simp -implicitDefEqProofs only[go_sem,seval,↓reduceIte]; try rfl) (by simp -implicitDefEqProofs only[go_sem,seval,↓reduceIte])) ?_
 intro k _ hk hR L3 hL3
 refine AW.seq_k fun K4 hK4 => ?_
 refine AW.seq_k fun K hK => AW.region (by kernel_rfl) ?_
 simp -implicitDefEqProofs only[go_sem,seval,↓reduceIte]
 refine hK _ ?_
 clear hK K
 refine AW.condS (by simp -implicitDefEqProofs only[go_sem,seval,↓reduceIte]; rfl) (fun h14 => ?_) (fun h14 => ?_)
 ·have hk2 : k < t.l.length := by simpa using h14
  have hk1 : k < s.l.length := by omega
  have hg := List.getElem?_eq_getElem hk1
  have hg2 := List.getElem?_eq_getElem hk2
  have htk : s.l.take (k + 1) = s.l.take k ++ [s.l[k]] := by rw [List.take_succ_eq_append_getElem hk1]
  have htk2 : t.l.take (k + 1) = t.l.take k ++ [t.l[k]] := by rw [List.take_succ_eq_append_getElem hk2]
  generalize s.l[k] = x at hg htk
  generalize t.l[k] = y at hg2 htk2
  refine AW.skip ?_
  simp -implicitDefEqProofs only[go_sem,seval,↓reduceIte]
  refine hK4 _ ?_
  refine AW.seq_k fun K5 hK5 => ?_
  refine AW.block ?_
  by_cases hxy : x = y
  rotate_left
  ·have q2 : (x == y) = false := by simpa using hxy
   have hne : (s.l == t.l) = false := by
    rw [beq_eq_false_iff_ne]
    intro h
    rw [h, hg2] at hg
    exact hxy (Option.some.inj hg).symm
   refine AW.seq_k fun K hK => AW.regionT ⟨fun _ => .top, fun _ => .pure⟩ (by kernel_rfl) hG (by kernel_rfl) (by kernel_rfl) ?_
   simp -implicitDefEqProofs only[go_sem,seval,↓reduceIte, hgl, hg, hg2, encXN_K, xn_eqV, q2]
   refine hK _ ?_
   clear hK K
   refine AW.condS (by simp -implicitDefEqProofs only[go_sem,seval,↓reduceIte]; rfl) (fun h25 => ?_) (fun h25 => ?_)
   ·refine AW.seq_k fun K hK => AW.region (by kernel_rfl) ?_
    simp -implicitDefEqProofs only[go_sem,seval,↓reduceIte]
    refine hK _ ?_
    clear hK K
    refine AW.ret ?_
    simp -implicitDefEqProofs only[go_sem,seval,↓reduceIte]
    refine endK_some ?_
    rw [hne]
   ·cases h25
  have q2 : (x == y) = true := by simpa using hxy
  refine AW.seq_k fun K hK => AW.regionT ⟨fun _ => .top, fun _ => .pure⟩ (by kernel_rfl) hG (by kernel_rfl) (by kernel_rfl) ?_
  simp -implicitDefEqProofs only[go_sem,seval,↓reduceIte, hgl, hg, hg2, encXN_K, xn_eqV, q2]
  refine hK _ ?_
  clear hK K
  refine AW.condS (by simp -implicitDefEqProofs only[go_sem,seval,↓reduceIte]; rfl) (fun h25 => ?_) (fun h25 => ?_)
  ·cases h25
  refine AW.skip ?_
  simp -implicitDefEqProofs only[go_sem,seval,↓reduceIte]
  refine hK5 _ ?_
  refine AW.region (by kernel_rfl) ?_
  simp -implicitDefEqProofs only[go_sem,seval,↓reduceIte]
  exact hL3 _ ⟨hk2, (), by rw [htk, htk2, hR, hxy], Weak.st (by simp -implicitDefEqProofs only[go_sem,seval,↓reduceIte]; exact congrArg _ (w64 (by omega) (by omega))) (by simp -implicitDefEqProofs only[go_sem,seval,↓reduceIte])⟩
 ·have hk1 : k = t.l.length := by simp at h14; omega
  refine AW.exit ?_
  simp -implicitDefEqProofs only[go_sem,seval,↓reduceIte]
  refine hK2 _ ?_
  rw [hk1, List.take_length, ← hl, List.take_length] at hR
  refine AW.seq_k fun K hK => AW.region (by kernel_rfl) ?_
  simp -implicitDefEqProofs only[go_sem,seval,↓reduceIte]
  refine hK _ ?_
  clear hK K
  refine AW.ret ?_
  simp -implicitDefEqProofs only[go_sem,seval,↓reduceIte]
  refine endK_some ?_
  rw [hR]; simp
theorem sEqualX_spec (G : Nat → V) (hG : GOk G) (c c1 : Col) (s t : Sl XN) (hs : s.l.length < 1000000) :
  Spec Tryz.prog G 65 [encSl c 6 encXN s, encSl c1 6 encXN t] hNone (fun v _ => v = .bool (s.l == t.l)) := by
 refine Spec.of_code' 0 26 [.tmp 4] Tryz.func65 rfl rfl rfl rfl fun X => ?_
 refine AW.seq_k fun K hK => AW.region (by kernel_rfl) ?_
 simp -implicitDefEqProofs only[go_sem,seval,↓reduceIte]
 refine hK _ ?_
 clear hK K
 refine AW.seq_k fun K1 hK1 => ?_
 refine AW.seq_k fun K hK => AW.region (by kernel_rfl) ?_
 simp -implicitDefEqProofs only[go_sem,seval,↓reduceIte]
 refine hK _ ?_
 clear hK K
 by_cases hl : s.l.length = t.l.length
 rotate_left
 ·have q1 : (((s.l.length : Nat) : Int) != ((t.l.length : Nat) : Int)) = true := by simp; omega
  have hne : (s.l == t.l) = false := by rw [beq_eq_false_iff_ne]; exact fun h => hl (by rw [h])
  rw [q1]
  refine AW.condS (by simp -implicitDefEqProofs only[go_sem,seval,↓reduceIte]; rfl) (fun h10 => ?_) (fun h10 => ?_)
  ·refine AW.seq_k fun K hK => AW.region (by kernel_rfl) ?_
   simp -implicitDefEqProofs only[go_sem,seval,↓reduceIte]
   refine hK _ ?_
   clear hK K
   refine AW.ret ?_
   simp -implicitDefEqProofs only[go_sem,seval,↓reduceIte]
   refine endK_some ?_
   rw [hne]
  ·cases h10
 have q1 : (((s.l.length : Nat) : Int) != ((t.l.length : Nat) : Int)) = false := by simp; omega
 rw [q1]
 refine AW.condS (by simp -implicitDefEqProofs only[go_sem,seval,↓reduceIte]; rfl) (fun h10 => ?_) (fun h10 => ?_)
 ·cases h10
 refine AW.skip ?_
 simp -implicitDefEqProofs only[go_sem,seval,↓reduceIte]
 refine hK1 _ ?_
 refine AW.seq_k fun K2 hK2 => ?_
 refine AW.seq_k fun K hK => AW.region (by kernel_rfl) ?_
 simp -implicitDefEqProofs only[go_sem,seval,↓reduceIte]
 refine hK _ ?_
 clear hK K
 refine AW.block ?_
 refine AW.for s.l.length (fun k (_ : Unit) => st [(0, encSl c 6 encXN s), (1, encSl c1 6 encXN t), (12, .int .i64 s.l.length), (13, .int .i64 k)] []) (fun k _ => s.l.take k = t.l.take k) 0 () (Nat.zero_le _) rfl
  (Weak.st (by simp -implicitDefEqProofs only[go_sem,seval,↓reduceIte]; try rfl) (by simp -implicitDefEqProofs only[go_sem,seval,↓reduceIte])) ?_
 intro k _ hk hR L3 hL3
 refine AW.seq_k fun K hK => AW.region (by kernel_rfl) ?_
 simp -implicitDefEqProofs only[go_sem,seval,↓reduceIte]
 refine hK _ ?_
 clear hK K
 refine AW.seq_k fun K4 hK4 => ?_
 refine AW.condS (by simp -implicitDefEqProofs only[go_sem,seval,↓reduceIte]; rfl) (fun h14 => ?_) (fun h14 => ?_)
 ·have hk1 : k < s.l.length := by simpa using h14
  have hk2 : k < t.l.length := by omega
  have hg := List.getElem?_eq_getElem hk1
  have hg2 := List.getElem?_eq_getElem hk2
  have htk : s.l.take (k + 1) = s.l.take k ++ [s.l[k]] := by rw [List.take_succ_eq_append_getElem hk1]
  have htk2 : t.l.take (k + 1) = t.l.take k ++ [t.l[k]] := by rw [List.take_succ_eq_append_getElem hk2]
  generalize s.l[k] = x at hg htk
  generalize t.l[k] = y at hg2 htk2
  refine AW.skip ?_
  simp -implicitDefEqProofs only[go_sem,seval,↓reduceIte]
  refine hK4 _ ?_
  refine AW.seq_k fun K5 hK5 => ?_
  refine AW.block ?_
  refine AW.seq_k fun K hK => AW.region (by kernel_rfl) ?_
  simp -implicitDefEqProofs only[go_sem,seval,↓reduceIte]
  refine hK _ ?_
  clear hK K
  by_cases hxy : x = y
  rotate_left
  ·have q2 : (x == y) = false := by simpa using hxy
   have hne : (s.l == t.l) = false := by
    rw [beq_eq_false_iff_ne]
    intro h
    rw [h, hg2] at hg
    exact hxy (Option.some.inj hg).symm
   refine AW.seq_k fun K hK => AW.regionT ⟨fun _ => .top, fun _ => .pure⟩ (by kernel_rfl) hG (by kernel_rfl) (by kernel_rfl) ?_
   simp -implicitDefEqProofs only[go_sem,seval,↓reduceIte, hg, hg2, encXN_K, xn_eqV, q2]
   refine hK _ ?_
   clear hK K
   refine AW.condS (by simp -implicitDefEqProofs only[go_sem,seval,↓reduceIte]; rfl) (fun h25 => ?_) (fun h25 => ?_)
   ·refine AW.seq_k fun K hK => AW.region (by kernel_rfl) ?_
    simp -implicitDefEqProofs only[go_sem,seval,↓reduceIte]
    refine hK _ ?_
    clear hK K
    refine AW.ret ?_
    simp -implicitDefEqProofs only[go_sem,seval,↓reduceIte]
    refine endK_some ?_
    rw [hne]
   ·cases h25
  have q2 : (x == y) = true := by simpa using hxy
  refine AW.seq_k fun K hK => AW.regionT ⟨fun _ => .top, fun _ => .pure⟩ (by kernel_rfl) hG (by kernel_rfl) (by kernel_rfl) ?_
  simp -implicitDefEqProofs only[go_sem,seval,↓reduceIte, hg, hg2, encXN_K, xn_eqV, q2]
  refine hK _ ?_
  clear hK K
  refine AW.condS (by simp -implicitDefEqProofs only[go_sem,seval,↓reduceIte]; rfl) (fun h25 => ?_) (fun h25 => ?_)
  ·cases h25
  refine AW.skip ?_
  simp -implicitDefEqProofs only[go_sem,seval,↓reduceIte]
  refine hK5 _ ?_
  refine AW.region (by kernel_rfl) ?_
  simp -implicitDefEqProofs only[go_sem,seval,↓reduceIte]
  exact hL3 _ ⟨hk1, (), by rw [htk, htk2, hR, hxy], Weak.st (by simp -implicitDefEqProofs only[go_sem,seval,↓reduceIte]; exact congrArg _ (w64 (by omega) (by omega))) (by simp -implicitDefEqProofs only[go_sem,seval,↓reduceIte])⟩
 ·have hk1 : k = s.l.length := by simp at h14; omega
  refine AW.exit ?_
  simp -implicitDefEqProofs only[go_sem,seval,↓reduceIte]
  refine hK2 _ ?_
  rw [hk1, List.take_length, hl, List.take_length] at hR
  refine AW.seq_k fun K hK => AW.region (by kernel_rfl) ?_
  simp -implicitDefEqProofs only[go_sem,seval,↓reduceIte]
  refine hK _ ?_
  clear hK K
  refine AW.ret ?_
  simp -implicitDefEqProofs only[go_sem,seval,↓reduceIte]
  refine endK_some ?_
  rw [hR]; simp
theorem xSame_spec (G : Nat → V) (hG : GOk G) (c c1 : Col) (s t : Sl XN) (hs : s.l.length < 1000000) :
  Spec Tryz.prog G 43 [.agg [encSl c 6 encXN s], .agg [encSl c1 6 encXN t]] hNone (fun v _ => v = .bool (s.l == t.l)) := by
 refine Spec.of_code' 0 10 [.tmp 4] Tryz.func43 rfl rfl rfl rfl fun X => ?_
 refine AW.seq_k fun K hK => AW.region (by kernel_rfl) ?_
 simp -implicitDefEqProofs only[go_sem,seval,↓reduceIte]
 intro g2 g3
 refine hK _ ?_
 clear hK K
 refine AW.seq_k fun K hK => AW.region (by kernel_rfl) ?_
 simp -implicitDefEqProofs only[go_sem,seval,↓reduceIte]
 refine CallA.pure hG (by kernel_rfl) ?_
 simp -implicitDefEqProofs only[go_sem,seval,↓reduceIte, recol_xns]
 refine (sEqualX_spec G hG _ _ s t hs).mono ?_
 rintro _ _ rfl
 simp -implicitDefEqProofs only[go_sem,seval,↓reduceIte]
 refine hK _ ?_
 clear hK K
 refine AW.ret ?_
 simp -implicitDefEqProofs only[go_sem,seval,↓reduceIte]
 refine endK_some ?_
 rfl
end Go.Hs
end

section
namespace Go.Hs
open Go.Proofs
set_option maxRecDepth 10000
def xq (n : Int) : X := .leaf 1 n []
def xv (c : UInt8) : X := .leaf 2 0 [c]
def xA : X := .bin 10 (xq 1) (.bin 7 (xq 2) (xv 120))
def xB : X := .bin 7 (.bin 10 (xq 1) (xq 2)) (xv 120)
def xC : X := .bin 11 (xv 97) (.bin 11 (xv 98) (xv 99))
def xD : X := .un 5 (.un 5 (xq 1))
theorem vWorks_spec (G : Nat → V) (hE : GExp G) : Spec Tryz.prog G 30 [] hNone (fun v _ => v = .bool true) := by
 have hG := hE.ok
 refine Spec.of_code' 0 139 [.tmp 0] Tryz.func30 rfl rfl rfl rfl fun X => ?_
 refine AW.seq_k fun K hK => AW.region (by kernel_rfl) ?_
 simp -implicitDefEqProofs only[go_sem,seval,↓reduceIte]
 refine hK _ ?_
 clear hK K
 refine AW.seq_k fun K hK => AW.region (by kernel_rfl) ?_
 simp -implicitDefEqProofs only[go_sem,seval,↓reduceIte]
 refine CallA.pure hG (by kernel_rfl) ?_
 simp -implicitDefEqProofs only[go_sem,seval,↓reduceIte]
 refine (xParse_spec G hE [49, 32, 43, 32, 50, 32, 42, 32, 120] (by decide)).mono ?_
 rintro _ _ rfl
 rw [show exprP [49, 32, 43, 32, 50, 32, 42, 32, 120] = (xA.row 0, 0, 0) from by decide +kernel]
 simp -implicitDefEqProofs only[go_sem,seval,↓reduceIte, encFr, encXs, recol_xns]
 intro g1
 refine hK _ ?_
 clear hK K
 refine AW.seq_k fun K hK => AW.region (by kernel_rfl) ?_
 simp -implicitDefEqProofs only[go_sem,seval,↓reduceIte]
 refine CallA.pure hG (by kernel_rfl) ?_
 simp -implicitDefEqProofs only[go_sem,seval,↓reduceIte]
 refine (xParse_spec G hE [40, 49, 43, 50, 41, 42, 120] (by decide)).mono ?_
 rintro _ _ rfl
 rw [show exprP [40, 49, 43, 50, 41, 42, 120] = (xB.row 0, 0, 0) from by decide +kernel]
 simp -implicitDefEqProofs only[go_sem,seval,↓reduceIte, encFr, encXs, recol_xns]
 intro g4
 refine hK _ ?_
 clear hK K
 refine AW.seq_k fun K hK => AW.region (by kernel_rfl) ?_
 simp -implicitDefEqProofs only[go_sem,seval,↓reduceIte]
 refine CallA.pure hG (by kernel_rfl) ?_
 simp -implicitDefEqProofs only[go_sem,seval,↓reduceIte]
 refine (xParse_spec G hE [97, 32, 45, 32, 40, 98, 32, 45, 32, 99, 41] (by decide)).mono ?_
 rintro _ _ rfl
 rw [show exprP [97, 32, 45, 32, 40, 98, 32, 45, 32, 99, 41] = (xC.row 0, 0, 0) from by decide +kernel]
 simp -implicitDefEqProofs only[go_sem,seval,↓reduceIte, encFr, encXs, recol_xns]
 intro g7
 refine hK _ ?_
 clear hK K
 refine AW.seq_k fun K hK => AW.region (by kernel_rfl) ?_
 simp -implicitDefEqProofs only[go_sem,seval,↓reduceIte]
 refine CallA.pure hG (by kernel_rfl) ?_
 simp -implicitDefEqProofs only[go_sem,seval,↓reduceIte]
 refine (xParse_spec G hE [45, 32, 45, 32, 49] (by decide)).mono ?_
 rintro _ _ rfl
 rw [show exprP [45, 32, 45, 32, 49] = (xD.row 0, 0, 0) from by decide +kernel]
 simp -implicitDefEqProofs only[go_sem,seval,↓reduceIte, encFr, encXs, recol_xns]
 intro g10
 refine hK _ ?_
 clear hK K
 refine AW.seq_k fun K hK => AW.region (by kernel_rfl) ?_
 simp -implicitDefEqProofs only[go_sem,seval,↓reduceIte]
 refine CallA.pure hG (by kernel_rfl) ?_
 simp -implicitDefEqProofs only[go_sem,seval,↓reduceIte, recol_xns]
 refine (xPrint_spec G hE _ (grownS (xA.row 0)) (by rw [grownS_l]; decide) (by rw [grownS_l]; decide +kernel) (by rw [grownS_l]; decide +kernel)).mono ?_
 rintro _ _ ⟨r, rfl, hr⟩
 rw [grownS_l] at hr
 obtain rfl : r = ([49, 32, 43, 32, 50, 32, 42, 32, 120], 0) := by rw [hr.2 xA (by decide +kernel) rfl (by decide +kernel), show joinW (xA.W 0) = [49, 32, 43, 32, 50, 32, 42, 32, 120] from by decide +kernel]
 simp -implicitDefEqProofs only[go_sem,seval,↓reduceIte, encPr]
 refine hK _ ?_
 clear hK K
 refine AW.seq_k fun K hK => AW.region (by kernel_rfl) ?_
 simp -implicitDefEqProofs only[go_sem,seval,↓reduceIte]
 refine CallA.pure hG (by kernel_rfl) ?_
 simp -implicitDefEqProofs only[go_sem,seval,↓reduceIte, recol_xns]
 refine (xPrint_spec G hE _ (grownS (xB.row 0)) (by rw [grownS_l]; decide) (by rw [grownS_l]; decide +kernel) (by rw [grownS_l]; decide +kernel)).mono ?_
 rintro _ _ ⟨r, rfl, hr⟩
 rw [grownS_l] at hr
 obtain rfl : r = ([40, 32, 49, 32, 43, 32, 50, 32, 41, 32, 42, 32, 120], 0) := by rw [hr.2 xB (by decide +kernel) rfl (by decide +kernel), show joinW (xB.W 0) = [40, 32, 49, 32, 43, 32, 50, 32, 41, 32, 42, 32, 120] from by decide +kernel]
 simp -implicitDefEqProofs only[go_sem,seval,↓reduceIte, encPr]
 refine hK _ ?_
 clear hK K
 refine AW.seq_k fun K hK => AW.region (by kernel_rfl) ?_
 simp -implicitDefEqProofs only[go_sem,seval,↓reduceIte]
 refine CallA.pure hG (by kernel_rfl) ?_
 simp -implicitDefEqProofs only[go_sem,seval,↓reduceIte, recol_xns]
 refine (xPrint_spec G hE _ (grownS (xC.row 0)) (by rw [grownS_l]; decide) (by rw [grownS_l]; decide +kernel) (by rw [grownS_l]; decide +kernel)).mono ?_
 rintro _ _ ⟨r, rfl, hr⟩
 rw [grownS_l] at hr
 obtain rfl : r = ([97, 32, 45, 32, 40, 32, 98, 32, 45, 32, 99, 32, 41], 0) := by rw [hr.2 xC (by decide +kernel) rfl (by decide +kernel), show joinW (xC.W 0) = [97, 32, 45, 32, 40, 32, 98, 32, 45, 32, 99, 32, 41] from by decide +kernel]
 simp -implicitDefEqProofs only[go_sem,seval,↓reduceIte, encPr]
 refine hK _ ?_
 clear hK K
 refine AW.seq_k fun K hK => AW.region (by kernel_rfl) ?_
 simp -implicitDefEqProofs only[go_sem,seval,↓reduceIte]
 refine CallA.pure hG (by kernel_rfl) ?_
 simp -implicitDefEqProofs only[go_sem,seval,↓reduceIte, recol_xns]
 refine (xPrint_spec G hE _ (grownS (xD.row 0)) (by rw [grownS_l]; decide) (by rw [grownS_l]; decide +kernel) (by rw [grownS_l]; decide +kernel)).mono ?_
 rintro _ _ ⟨r, rfl, hr⟩
 rw [grownS_l] at hr
 obtain rfl : r = ([45, 32, 45, 32, 49], 0) := by rw [hr.2 xD (by decide +kernel) rfl (by decide +kernel), show joinW (xD.W 0) = [45, 32, 45, 32, 49] from by decide +kernel]
 simp -implicitDefEqProofs only[go_sem,seval,↓reduceIte, encPr]
 refine hK _ ?_
 clear hK K
 refine AW.seq_k fun K hK => AW.region (by kernel_rfl) ?_
 simp -implicitDefEqProofs only[go_sem,seval,↓reduceIte]
 refine CallA.pure hG (by kernel_rfl) ?_
 simp -implicitDefEqProofs only[go_sem,seval,↓reduceIte]
 refine (xParse_spec G hE [49, 32, 43] (by decide)).mono ?_
 rintro _ _ rfl
 rw [show exprP [49, 32, 43] = ([], 3, 80) from by decide +kernel]
 simp -implicitDefEqProofs only[go_sem,seval,↓reduceIte, encFr, encXs, recol_xns]
 intro g21
 refine hK _ ?_
 clear hK K
 refine AW.seq_k fun K hK => AW.region (by kernel_rfl) ?_
 simp -implicitDefEqProofs only[go_sem,seval,↓reduceIte]
 refine CallA.pure hG (by kernel_rfl) ?_
 simp -implicitDefEqProofs only[go_sem,seval,↓reduceIte]
 refine (xParse_spec G hE [97, 32, 98] (by decide)).mono ?_
 rintro _ _ rfl
 rw [show exprP [97, 32, 98] = ([], 2, 80) from by decide +kernel]
 simp -implicitDefEqProofs only[go_sem,seval,↓reduceIte, encFr, encXs, recol_xns]
 intro g24
 refine hK _ ?_
 clear hK K
 refine AW.seq_k fun K hK => AW.region (by kernel_rfl) ?_
 simp -implicitDefEqProofs only[go_sem,seval,↓reduceIte]
 refine CallA.pure hG (by kernel_rfl) ?_
 simp -implicitDefEqProofs only[go_sem,seval,↓reduceIte]
 refine (xParse_spec G hE [57, 57, 57, 57, 57, 57, 57, 57, 57, 57, 57, 57, 57, 57, 57, 57, 57, 57, 57, 57] (by decide)).mono ?_
 rintro _ _ rfl
 rw [show exprP [57, 57, 57, 57, 57, 57, 57, 57, 57, 57, 57, 57, 57, 57, 57, 57, 57, 57, 57, 57] = ([], 0, 60) from by decide +kernel]
 simp -implicitDefEqProofs only[go_sem,seval,↓reduceIte, encFr, encXs, recol_xns]
 intro g27
 refine hK _ ?_
 clear hK K
 have ta : ∀ l : List Oper, l.toArray = (⟨l⟩ : Array Oper) := fun l => rfl
 simp -implicitDefEqProofs only [ta, List.append_eq, List.cons_append, List.nil_append]
 refine AW.seq_k fun K hK => AW.region (by kernel_rfl) ?_
 simp -implicitDefEqProofs only[go_sem,seval,↓reduceIte]
 refine hK _ ?_
 clear hK K
 refine AW.ret ?_
 simp -implicitDefEqProofs only[go_sem,seval,↓reduceIte]
 refine endK_some ?_
 rfl
end Go.Hs
end

section
namespace Go.Hs
open Go.Proofs
set_option maxRecDepth 10000
theorem row_fit : ∀ (x : X) (k : Int), x.fit → ∀ n ∈ x.row k, n.num ≤ 9223372036854775807
 | .leaf op num name, k, h => by
  intro n hn
  rw [X.row, List.mem_singleton] at hn
  rw [hn]; exact h
 | .un op a, k, h => by
  intro n hn
  rw [X.row, List.mem_append, List.mem_singleton] at hn
  rcases hn with q | q
  ·exact row_fit a k h n q
  ·rw [q]; show (0 : Int) ≤ _; decide
 | .bin op a b, k, h => by
  intro n hn
  rw [X.row, List.mem_append, List.mem_append, List.mem_singleton] at hn
  rcases hn with (q | q) | q
  ·exact row_fit a k h.1 n q
  ·exact row_fit b _ h.2 n q
  ·rw [q]; show (0 : Int) ≤ _; decide
 | .ite a b c, k, h => by
  intro n hn
  rw [X.row, List.mem_append, List.mem_append, List.mem_append, List.mem_singleton] at hn
  rcases hn with ((q | q) | q) | q
  ·exact row_fit a k h.1 n q
  ·exact row_fit b _ h.2.1 n q
  ·exact row_fit c _ h.2.2 n q
  ·rw [q]; show (0 : Int) ≤ _; decide
theorem ok_names : ∀ (x : X) (k : Int), x.ok = true → ∀ n ∈ x.row k, n.name.length < 100000 := by
 intro x k h n hn
 have hd : depthP (x.row 0) ≠ 0 := by rw [depth_row h]; have := x.depth_pos; omega
 have key : ∀ (x : X) (k : Int), x.ok = true → ∀ n ∈ x.row k, n.name.length ≤ 64 := by
  intro x
  induction x with
  | leaf op num name =>
   intro k h n hn
   rw [X.row, List.mem_singleton] at hn
   rw [hn]
   rcases leaf_cases h with ⟨_, _, h⟩ | ⟨_, _, h⟩ | ⟨_, _, h⟩ | ⟨_, _, h⟩
   ·rw [h]; exact Nat.zero_le _
   ·exact (isP_first (w := name) (by omega)).2.2
   ·rw [h]; exact Nat.zero_le _
   ·rw [h]; exact Nat.zero_le _
  | un op a ih =>
   intro k h n hn
   simp only [X.ok, Bool.and_eq_true] at h
   rw [X.row, List.mem_append, List.mem_singleton] at hn
   rcases hn with q | q
   ·exact ih k h.2 n q
   ·rw [q]; exact Nat.zero_le _
  | bin op a b iha ihb =>
   intro k h n hn
   simp only [X.ok, Bool.and_eq_true] at h
   rw [X.row, List.mem_append, List.mem_append, List.mem_singleton] at hn
   rcases hn with (q | q) | q
   ·exact iha k h.1.2 n q
   ·exact ihb _ h.2 n q
   ·rw [q]; exact Nat.zero_le _
  | ite a b c iha ihb ihc =>
   intro k h n hn
   simp only [X.ok, Bool.and_eq_true] at h
   rw [X.row, List.mem_append, List.mem_append, List.mem_append, List.mem_singleton] at hn
   rcases hn with ((q | q) | q) | q
   ·exact iha k h.1.1 n q
   ·exact ihb _ h.1.2 n q
   ·exact ihc _ h.2 n q
   ·rw [q]; exact Nat.zero_le _
 have := key x k h n hn
 omega
theorem expr_bad {s : List UInt8} (h : (exprP s).2.2 ≠ 0) : (exprP s).1 = [] := by
 unfold exprP at h ⊢
 split
 ·rfl
 ·split
  ·rfl
  ·split
   ·rename_i h1 h2 h3
    rw [if_neg h1, if_neg h2, if_pos h3] at h
    exact absurd rfl h
   ·rfl
theorem checkP_tree {x : X} (h : x.ok = true) (hd : x.depth ≤ 64) : checkP (x.row 0) = 0 := by
 have := x.depth_pos
 unfold checkP
 rw [depth_row h, if_neg (by omega), if_neg (by omega)]
theorem lExprBack (G : Nat → V) (hE : GExp G) (s o : Sl XN) (t : List UInt8) (hns : ∀ n ∈ s.l, n.num ≤ 9223372036854775807) (hno : ∀ n ∈ o.l, n.num ≤ 9223372036854775807) :
  Spec Tryz.prog G 11 [.agg [encSl .old 6 encXN s], .agg [encSl .old 6 encXN o], .str t] hNone (fun v _ => v = .bool true) := by
 have hG := hE.ok
 refine Spec.of_code' 0 148 [.tmp 6] Tryz.func11 rfl rfl rfl rfl fun X0 => ?_
 refine AW.seq_k fun K hK => AW.region (by kernel_rfl) ?_
 simp -implicitDefEqProofs only[go_sem,seval,↓reduceIte]
 intro g3 g4
 refine hK _ ?_
 clear hK K
 refine AW.weak (Weak.stF (fun o => o == 3 || o == 4) (l := [(2, .str t), (3, .view .new (.agg [encSl .old 6 encXN s])), (4, .view .new (.agg [encSl .old 6 encXN o]))]) (m := []) ?_ trivial) ?_
 ·simp -implicitDefEqProofs only[go_sem,seval,↓reduceIte]
  exact ⟨Fz.same _, Fz.ptr (v := .agg [encSl .old 6 encXN s]) (c := .new) (fz := 0) rfl (by simp -implicitDefEqProofs only[go_sem,seval,↓reduceIte]; try rfl), Fz.ptr (v := .agg [encSl .old 6 encXN o]) (c := .new) (fz := 0) rfl (by simp -implicitDefEqProofs only[go_sem,seval,↓reduceIte]; try rfl)⟩
 refine AW.seqJ (fun (_ : Unit) => st [(2, .str t), (3, .view .new (.agg [encSl .old 6 encXN s])), (4, .view .new (.agg [encSl .old 6 encXN o]))] []) (fun _ => fewE s.l = true ∧ fewE o.l = true ∧ t.length ≤ 400) (fun K1 hK1 => ?_) ?_
 ·refine AW.seq_k fun K hK => AW.region (by kernel_rfl) ?_
  simp -implicitDefEqProofs only[go_sem,seval,↓reduceIte]
  refine CallA.pure hG (by kernel_rfl) ?_
  simp -implicitDefEqProofs only[go_sem,seval,↓reduceIte, recol_xns]
  refine (vFew_spec G hG _ s).mono ?_
  rintro _ _ rfl
  cases hf : fewE s.l with
  | false =>
   simp -implicitDefEqProofs only[go_sem,seval,↓reduceIte]
   refine hK _ ?_
   clear hK K
   refine AW.condS (by simp -implicitDefEqProofs only[go_sem,seval,↓reduceIte]; rfl) (fun h37 => ?_) (fun h37 => ?_)
   rotate_left
   ·cases h37
   refine AW.seq_k fun K hK => AW.region (by kernel_rfl) ?_
   simp -implicitDefEqProofs only[go_sem,seval,↓reduceIte]
   refine CallA.pure hG (by kernel_rfl) ?_
   simp -implicitDefEqProofs only[go_sem,seval,↓reduceIte, List.map_nil]
   refine (vWorks_spec G hE).mono ?_
   rintro _ _ rfl
   simp -implicitDefEqProofs only[go_sem,seval,↓reduceIte]
   refine hK _ ?_
   clear hK K
   refine AW.ret ?_
   simp -implicitDefEqProofs only[go_sem,seval,↓reduceIte]
   refine endK_some ?_
   rfl
  | true =>
  simp -implicitDefEqProofs only[go_sem,seval,↓reduceIte]
  refine CallA.pure hG (by kernel_rfl) ?_
  simp -implicitDefEqProofs only[go_sem,seval,↓reduceIte, recol_xns]
  refine (vFew_spec G hG _ o).mono ?_
  rintro _ _ rfl
  cases hf2 : fewE o.l with
  | false =>
   simp -implicitDefEqProofs only[go_sem,seval,↓reduceIte]
   refine hK _ ?_
   clear hK K
   refine AW.condS (by simp -implicitDefEqProofs only[go_sem,seval,↓reduceIte]; rfl) (fun h37 => ?_) (fun h37 => ?_)
   rotate_left
   ·cases h37
   refine AW.seq_k fun K hK => AW.region (by kernel_rfl) ?_
   simp -implicitDefEqProofs only[go_sem,seval,↓reduceIte]
   refine CallA.pure hG (by kernel_rfl) ?_
   simp -implicitDefEqProofs only[go_sem,seval,↓reduceIte, List.map_nil]
   refine (vWorks_spec G hE).mono ?_
   rintro _ _ rfl
   simp -implicitDefEqProofs only[go_sem,seval,↓reduceIte]
   refine hK _ ?_
   clear hK K
   refine AW.ret ?_
   simp -implicitDefEqProofs only[go_sem,seval,↓reduceIte]
   refine endK_some ?_
   rfl
  | true =>
  by_cases hz : t.length > 400
  ·have q1 : decide (((t.length : Nat) : Int) > 400) = true := by rw [decide_eq_true_iff]; omega
   simp -implicitDefEqProofs only[go_sem,seval,↓reduceIte, q1]
   refine hK _ ?_
   clear hK K
   refine AW.condS (by simp -implicitDefEqProofs only[go_sem,seval,↓reduceIte]; rfl) (fun h37 => ?_) (fun h37 => ?_)
   rotate_left
   ·cases h37
   refine AW.seq_k fun K hK => AW.region (by kernel_rfl) ?_
   simp -implicitDefEqProofs only[go_sem,seval,↓reduceIte]
   refine CallA.pure hG (by kernel_rfl) ?_
   simp -implicitDefEqProofs only[go_sem,seval,↓reduceIte, List.map_nil]
   refine (vWorks_spec G hE).mono ?_
   rintro _ _ rfl
   simp -implicitDefEqProofs only[go_sem,seval,↓reduceIte]
   refine hK _ ?_
   clear hK K
   refine AW.ret ?_
   simp -implicitDefEqProofs only[go_sem,seval,↓reduceIte]
   refine endK_some ?_
   rfl
  have q1 : decide (((t.length : Nat) : Int) > 400) = false := by rw [decide_eq_false_iff_not]; omega
  simp -implicitDefEqProofs only[go_sem,seval,↓reduceIte, q1]
  refine hK _ ?_
  clear hK K
  refine AW.condS (by simp -implicitDefEqProofs only[go_sem,seval,↓reduceIte]; rfl) (fun h37 => ?_) (fun h37 => ?_)
  ·cases h37
  refine AW.skip ?_
  simp -implicitDefEqProofs only[go_sem,seval,↓reduceIte]
  exact hK1 _ () ⟨hf, hf2, by omega⟩ (Weak.st (by simp -implicitDefEqProofs only[go_sem,seval,↓reduceIte]; try rfl) (by simp -implicitDefEqProofs only[go_sem,seval,↓reduceIte]; try rfl))
 rintro _ ⟨hf, hf2, hz⟩
 obtain ⟨hsl, hs70⟩ := fewE_true hf
 obtain ⟨hol, ho70⟩ := fewE_true hf2
 have hnm : ∀ n ∈ s.l, n.name.length < 100000 := fun n hn => by have := hs70 n hn; omega
 have hnm2 : ∀ n ∈ o.l, n.name.length < 100000 := fun n hn => by have := ho70 n hn; omega
 refine AW.seq_k fun K hK => AW.region (by kernel_rfl) ?_
 simp -implicitDefEqProofs only[go_sem,seval,↓reduceIte]
 refine CallA.pure hG (by kernel_rfl) ?_
 simp -implicitDefEqProofs only[go_sem,seval,↓reduceIte, recol_xns]
 refine (xPrint_spec G hE _ s (by omega) hnm hns).mono ?_
 rintro _ _ ⟨r, rfl, hr⟩
 obtain ⟨tx, e⟩ := r
 simp -implicitDefEqProofs only[go_sem,seval,↓reduceIte, encPr]
 refine hK _ ?_
 clear hK K
 refine AW.seqJ (fun (_ : Unit) => st [(2, .str t)] []) (fun _ => True) (fun K2 hK2 => ?_) ?_
 ·by_cases he : e = 0
  rotate_left
  ·have q1 : (e == 0) = false := by simpa using he
   refine AW.seq_k fun K hK => AW.region (by kernel_rfl) ?_
   simp -implicitDefEqProofs only[go_sem,seval,↓reduceIte, q1]
   refine hK _ ?_
   clear hK K
   refine AW.condS (by simp -implicitDefEqProofs only[go_sem,seval,↓reduceIte]; rfl) (fun h45 => ?_) (fun h45 => ?_)
   ·cases h45
   refine AW.skip ?_
   simp -implicitDefEqProofs only[go_sem,seval,↓reduceIte]
   exact hK2 _ () trivial (Weak.st (by simp -implicitDefEqProofs only[go_sem,seval,↓reduceIte]; try rfl) (by simp -implicitDefEqProofs only[go_sem,seval,↓reduceIte]; try rfl))
  subst he
  have hck : checkP s.l = 0 := by
   by_cases hck : checkP s.l = 0
   ·exact hck
   ·have := congrArg Prod.snd (hr.1 hck)
    exact absurd this.symm hck
  obtain ⟨x, hx, hlx, hdx⟩ := checkP_ok hck
  have hfx : x.fit := fit_of x 0 (by rw [← hlx]; exact hns)
  have hszx : x.size ≤ 200 := by rw [← X.row_len x 0, ← hlx]; exact hsl
  obtain rfl : tx = joinW (x.W 0) := congrArg Prod.fst (hr.2 x hx hlx hck)
  have hpar := expr_print hx hfx (by omega) hdx
  have hjl := print_len hx hfx
  have hxp := xParse_spec G hE (joinW (x.W 0)) (by omega)
  rw [hpar, ← hlx] at hxp
  have hdep : depthP s.l = x.depth := by rw [hlx, depth_row hx]
  have hdp := x.depth_pos
  refine AW.seq_k fun K hK => AW.region (by kernel_rfl) ?_
  simp -implicitDefEqProofs only[go_sem,seval,↓reduceIte]
  refine hK _ ?_
  clear hK K
  refine AW.condS (by simp -implicitDefEqProofs only[go_sem,seval,↓reduceIte]; rfl) (fun h45 => ?_) (fun h45 => ?_)
  rotate_left
  ·cases h45
  refine AW.seq_k fun K hK => AW.region (by kernel_rfl) ?_
  simp -implicitDefEqProofs only[go_sem,seval,↓reduceIte]
  refine CallA.pure hG (by kernel_rfl) ?_
  simp -implicitDefEqProofs only[go_sem,seval,↓reduceIte]
  refine hxp.mono ?_
  rintro _ _ rfl
  simp -implicitDefEqProofs only[go_sem,seval,↓reduceIte, encFr, encXs, recol_xns]
  intro g9
  refine hK _ ?_
  clear hK K
  have e5 : (s.l == (grownS s.l).l) = true := by rw [grownS_l]; simp
  have d1 : decide ((depthP s.l : Int) < 1) = false := by rw [decide_eq_false_iff_not, hdep]; omega
  have d2 : decide ((depthP s.l : Int) > 64) = false := by rw [decide_eq_false_iff_not, hdep]; omega
  refine AW.seq_k fun K3 hK3 => ?_
  refine AW.seq_k fun K hK => AW.region (by kernel_rfl) ?_
  simp -implicitDefEqProofs only[go_sem,seval,↓reduceIte]
  refine CallA.pure hG (by kernel_rfl) ?_
  simp -implicitDefEqProofs only[go_sem,seval,↓reduceIte, recol_xns]
  refine (xSame_spec G hG _ _ s (grownS s.l) (by omega)).mono ?_
  rintro _ _ rfl
  rw [e5]
  simp -implicitDefEqProofs only[go_sem,seval,↓reduceIte]
  refine CallA.pure hG (by kernel_rfl) ?_
  simp -implicitDefEqProofs only[go_sem,seval,↓reduceIte, recol_xns]
  refine (xDepth_spec G hE _ s (by omega) hnm).mono ?_
  rintro _ _ rfl
  simp -implicitDefEqProofs only[go_sem,seval,↓reduceIte, d1]
  refine CallA.pure hG (by kernel_rfl) ?_
  simp -implicitDefEqProofs only[go_sem,seval,↓reduceIte, recol_xns]
  refine (xDepth_spec G hE _ s (by omega) hnm).mono ?_
  rintro _ _ rfl
  simp -implicitDefEqProofs only[go_sem,seval,↓reduceIte, d2]
  refine hK _ ?_
  clear hK K
  refine AW.condS (by simp -implicitDefEqProofs only[go_sem,seval,↓reduceIte]; rfl) (fun h69 => ?_) (fun h69 => ?_)
  ·cases h69
  refine AW.skip ?_
  simp -implicitDefEqProofs only[go_sem,seval,↓reduceIte]
  refine hK3 _ ?_
  refine AW.seq_k fun K hK => AW.region (by kernel_rfl) ?_
  simp -implicitDefEqProofs only[go_sem,seval,↓reduceIte]
  refine CallA.pure hG (by kernel_rfl) ?_
  simp -implicitDefEqProofs only[go_sem,seval,↓reduceIte, recol_xns]
  refine (xPrint_spec G hE _ o (by omega) hnm2 hno).mono ?_
  rintro _ _ ⟨r2, rfl, hr2⟩
  obtain ⟨tu, eu⟩ := r2
  simp -implicitDefEqProofs only[go_sem,seval,↓reduceIte, encPr]
  refine hK _ ?_
  clear hK K
  by_cases heu : eu = 0
  rotate_left
  ·have q1 : (eu == 0) = false := by simpa using heu
   refine AW.seq_k fun K hK => AW.region (by kernel_rfl) ?_
   simp -implicitDefEqProofs only[go_sem,seval,↓reduceIte, q1]
   refine hK _ ?_
   clear hK K
   refine AW.condS (by simp -implicitDefEqProofs only[go_sem,seval,↓reduceIte]; rfl) (fun h85 => ?_) (fun h85 => ?_)
   ·cases h85
   refine AW.skip ?_
   simp -implicitDefEqProofs only[go_sem,seval,↓reduceIte]
   exact hK2 _ () trivial (Weak.st (by simp -implicitDefEqProofs only[go_sem,seval,↓reduceIte]; try rfl) (by simp -implicitDefEqProofs only[go_sem,seval,↓reduceIte]; try rfl))
  subst heu
  have hck2 : checkP o.l = 0 := by
   by_cases hck2 : checkP o.l = 0
   ·exact hck2
   ·have := congrArg Prod.snd (hr2.1 hck2)
    exact absurd this.symm hck2
  obtain ⟨z, hzk, hlz, hdz⟩ := checkP_ok hck2
  have hfz : z.fit := fit_of z 0 (by rw [← hlz]; exact hno)
  have hszz : z.size ≤ 200 := by rw [← X.row_len z 0, ← hlz]; exact hol
  obtain rfl : tu = joinW (z.W 0) := congrArg Prod.fst (hr2.2 z hzk hlz hck2)
  have hpar2 := expr_print hzk hfz (by omega) hdz
  have heq : (joinW (x.W 0) == joinW (z.W 0)) = (s.l == o.l) := by
   rw [Bool.eq_iff_iff]
   simp only [beq_iff_eq]
   constructor
   ·intro h
    rw [h, hpar2] at hpar
    rw [hlx, hlz]
    exact (congrArg Prod.fst hpar).symm
   ·intro h
    rw [hlx, hlz] at h
    rw [row_inj x z 0 hx hzk h]
  have hbb : ∀ b : Bool, (b != b) = false := fun b => by cases b <;> rfl
  refine AW.seq_k fun K hK => AW.region (by kernel_rfl) ?_
  simp -implicitDefEqProofs only[go_sem,seval,↓reduceIte]
  refine CallA.pure hG (by kernel_rfl) ?_
  simp -implicitDefEqProofs only[go_sem,seval,↓reduceIte, recol_xns]
  refine (xSame_spec G hG _ _ s o (by omega)).mono ?_
  rintro _ _ rfl
  rw [← heq]
  simp -implicitDefEqProofs only[go_sem,seval,↓reduceIte, hbb]
  refine hK _ ?_
  clear hK K
  refine AW.condS (by simp -implicitDefEqProofs only[go_sem,seval,↓reduceIte]; rfl) (fun h85 => ?_) (fun h85 => ?_)
  ·cases h85
  refine AW.skip ?_
  simp -implicitDefEqProofs only[go_sem,seval,↓reduceIte]
  exact hK2 _ () trivial (Weak.st (by simp -implicitDefEqProofs only[go_sem,seval,↓reduceIte]; try rfl) (by simp -implicitDefEqProofs only[go_sem,seval,↓reduceIte]; try rfl))
 intro _ _
 clear hr
 have hxp := xParse_spec G hE t (by omega)
 have hbad := expr_bad (s := t)
 have htree := expr_tree (s := t)
 have hparen := expr_paren (s := t)
 refine AW.seq_k fun K hK => AW.region (by kernel_rfl) ?_
 simp -implicitDefEqProofs only[go_sem,seval,↓reduceIte]
 refine CallA.pure hG (by kernel_rfl) ?_
 simp -implicitDefEqProofs only[go_sem,seval,↓reduceIte]
 refine hxp.mono ?_
 rintro _ _ rfl
 by_cases he : (exprP t).2.2 = 0
 rotate_left
 ·have hns0 := hbad he
  have hq : encFr .new (exprP t) = encFr .new ([], (exprP t).2.1, (exprP t).2.2) := by rw [← hns0]
  rw [hq]
  generalize (exprP t).2.2 = e at he
  generalize (exprP t).2.1 = i
  simp -implicitDefEqProofs only[go_sem,seval,↓reduceIte, encFr, encXs, recol_xns]
  intro g14
  refine hK _ ?_
  clear hK K
  have q1 : (e != 0) = true := by simpa using he
  refine AW.seq_k fun K3 hK3 => ?_
  refine AW.seq_k fun K hK => AW.region (by kernel_rfl) ?_
  simp -implicitDefEqProofs only[go_sem,seval,↓reduceIte, q1]
  refine hK _ ?_
  clear hK K
  refine AW.condS (by simp -implicitDefEqProofs only[go_sem,seval,↓reduceIte]; rfl) (fun h93 => ?_) (fun h93 => ?_)
  rotate_left
  ·cases h93
  have q2 : ((((grownS ([] : List XN)).l.length : Nat) : Int) == 0) = true := rfl
  refine AW.seq_k fun K hK => AW.region (by kernel_rfl) ?_
  simp -implicitDefEqProofs only[go_sem,seval,↓reduceIte, q2]
  refine CallA.pure hG (by kernel_rfl) ?_
  simp -implicitDefEqProofs only[go_sem,seval,↓reduceIte, List.map_nil]
  refine (vWorks_spec G hE).mono ?_
  rintro _ _ rfl
  simp -implicitDefEqProofs only[go_sem,seval,↓reduceIte]
  refine hK _ ?_
  clear hK K
  refine AW.ret ?_
  simp -implicitDefEqProofs only[go_sem,seval,↓reduceIte]
  refine endK_some ?_
  rfl
 obtain ⟨x, hx, hfx, hszx, hdx, hpx⟩ := htree he
 have hpp := hparen he (by omega)
 rw [hpx] at hpp ⊢
 have hck := checkP_tree hx hdx
 have hjl := print_len hx hfx
 have hpar := expr_print hx hfx (by omega) hdx
 have hln : (x.row 0).length = x.size := X.row_len x 0
 have hxp2 := xParse_spec G hE (joinW (x.W 0)) (by omega)
 have hxp3 := xParse_spec G hE (40 :: (t ++ [10, 41])) (by simp only [List.length_cons, List.length_append, List.length_nil]; omega)
 rw [hpar] at hxp2
 rw [hpp] at hxp3
 have hgl : (grownS (x.row 0)).l = x.row 0 := grownS_l _
 have hPr := fun c => xPrint_spec G hE c (grownS (x.row 0)) (by rw [hgl]; omega) (by rw [hgl]; exact ok_names x 0 hx) (by rw [hgl]; exact row_fit x 0 hfx)
 have hCh := fun c => xCheck_spec G hE c (grownS (x.row 0)) (by rw [hgl]; omega) (by rw [hgl]; exact ok_names x 0 hx)
 have hSa := fun c c1 => xSame_spec G hG c c1 (grownS (x.row 0)) (grownS (x.row 0)) (by rw [hgl]; omega)
 simp only [hgl, hck, beq_self_eq_true] at hPr hCh hSa
 have hxr : ∀ r, PrintS (x.row 0) r → r = (joinW (x.W 0), 0) := fun r h => h.2 x hx rfl hck
 generalize joinW (x.W 0) = tp at hxp2 hxr hjl
 generalize x.row 0 = ns at hxp2 hxp3 hPr hCh hSa hxr
 simp -implicitDefEqProofs only[go_sem,seval,↓reduceIte, encFr, encXs, recol_xns]
 intro g14
 refine hK _ ?_
 clear hK K
 refine AW.seq_k fun K3 hK3 => ?_
 refine AW.seq_k fun K hK => AW.region (by kernel_rfl) ?_
 simp -implicitDefEqProofs only[go_sem,seval,↓reduceIte]
 refine hK _ ?_
 clear hK K
 refine AW.condS (by simp -implicitDefEqProofs only[go_sem,seval,↓reduceIte]; rfl) (fun h93 => ?_) (fun h93 => ?_)
 ·cases h93
 refine AW.skip ?_
 simp -implicitDefEqProofs only[go_sem,seval,↓reduceIte]
 refine hK3 _ ?_
 refine AW.seq_k fun K hK => AW.region (by kernel_rfl) ?_
 simp -implicitDefEqProofs only[go_sem,seval,↓reduceIte]
 refine CallA.pure hG (by kernel_rfl) ?_
 simp -implicitDefEqProofs only[go_sem,seval,↓reduceIte, recol_xns]
 refine (hPr _).mono ?_
 rintro _ _ ⟨r, rfl, hr⟩
 obtain rfl := hxr r hr
 simp -implicitDefEqProofs only[go_sem,seval,↓reduceIte, encPr]
 refine hK _ ?_
 clear hK K
 refine AW.seq_k fun K hK => AW.region (by kernel_rfl) ?_
 simp -implicitDefEqProofs only[go_sem,seval,↓reduceIte]
 refine CallA.pure hG (by kernel_rfl) ?_
 simp -implicitDefEqProofs only[go_sem,seval,↓reduceIte]
 refine hxp2.mono ?_
 rintro _ _ rfl
 simp -implicitDefEqProofs only[go_sem,seval,↓reduceIte, encFr, encXs, recol_xns]
 intro g19
 refine hK _ ?_
 clear hK K
 have l1 : ¬ (((1 + t.length : Nat) : Int) > IntKind.i64.max) := by rw [show IntKind.i64.max = 9223372036854775807 from rfl]; omega
 have l2 : ¬ (((t.length + 1 + 2 : Nat) : Int) > IntKind.i64.max) := by rw [show IntKind.i64.max = 9223372036854775807 from rfl]; omega
 refine AW.seq_k fun K hK => AW.region (by kernel_rfl) ?_
 simp -implicitDefEqProofs only[go_sem,seval,↓reduceIte, l1, l2]
 refine CallA.pure hG (by kernel_rfl) ?_
 simp -implicitDefEqProofs only[go_sem,seval,↓reduceIte]
 refine hxp3.mono ?_
 rintro _ _ rfl
 simp -implicitDefEqProofs only[go_sem,seval,↓reduceIte, encFr, encXs, recol_xns]
 intro g22
 refine hK _ ?_
 clear hK K
 refine AW.seq_k fun K hK => AW.region (by kernel_rfl) ?_
 simp -implicitDefEqProofs only[go_sem,seval,↓reduceIte]
 refine CallA.pure hG (by kernel_rfl) ?_
 simp -implicitDefEqProofs only[go_sem,seval,↓reduceIte, recol_xns]
 refine (hCh _).mono ?_
 rintro _ _ rfl
 simp -implicitDefEqProofs only[go_sem,seval,↓reduceIte]
 refine CallA.pure hG (by kernel_rfl) ?_
 simp -implicitDefEqProofs only[go_sem,seval,↓reduceIte, recol_xns]
 refine (hSa _ _).mono ?_
 rintro _ _ rfl
 simp -implicitDefEqProofs only[go_sem,seval,↓reduceIte]
 refine CallA.pure hG (by kernel_rfl) ?_
 simp -implicitDefEqProofs only[go_sem,seval,↓reduceIte, recol_xns]
 refine (hSa _ _).mono ?_
 rintro _ _ rfl
 simp -implicitDefEqProofs only[go_sem,seval,↓reduceIte]
 refine CallA.pure hG (by kernel_rfl) ?_
 simp -implicitDefEqProofs only[go_sem,seval,↓reduceIte, List.map_nil]
 refine (vWorks_spec G hE).mono ?_
 rintro _ _ rfl
 simp -implicitDefEqProofs only[go_sem,seval,↓reduceIte]
 refine hK _ ?_
 clear hK K
 refine AW.ret ?_
 simp -implicitDefEqProofs only[go_sem,seval,↓reduceIte]
 refine endK_some ?_
 rfl
end Go.Hs
end

section
namespace Go.Hs
inductive Sub : X → X → Nat → Prop where
 | refl (x : X) : Sub x x 0
 | un {op : Int} {a y : X} {b : Nat} : Sub a y b → Sub (.un op a) y b
 | bin1 {op : Int} {a c y : X} {b : Nat} : Sub a y b → Sub (.bin op a c) y b
 | bin2 {op : Int} {a c y : X} {b : Nat} : Sub c y b → Sub (.bin op a c) y (a.size + b)
 | ite1 {a c d y : X} {b : Nat} : Sub a y b → Sub (.ite a c d) y b
 | ite2 {a c d y : X} {b : Nat} : Sub c y b → Sub (.ite a c d) y (a.size + b)
 | ite3 {a c d y : X} {b : Nat} : Sub d y b → Sub (.ite a c d) y (a.size + c.size + b)
def subs : X → List X
 | .leaf op num name => [.leaf op num name]
 | .un op a => subs a ++ [.un op a]
 | .bin op a c => subs a ++ subs c ++ [.bin op a c]
 | .ite a c d => subs a ++ subs c ++ subs d ++ [.ite a c d]
theorem subs_len : ∀ x : X, (subs x).length = x.size
 | .leaf .. => rfl
 | .un _ a => by simp [subs, X.size, subs_len a]
 | .bin _ a b => by simp [subs, X.size, subs_len a, subs_len b]; omega
 | .ite a b c => by simp [subs, X.size, subs_len a, subs_len b, subs_len c]; omega
theorem Sub.trans {x y z : X} {b c : Nat} (h : Sub x y b) (h2 : Sub y z c) : Sub x z (b + c) := by
 induction h with
 | refl => simpa using h2
 | un _ ih => exact .un (ih h2)
 | bin1 _ ih => exact .bin1 (ih h2)
 | bin2 _ ih => rw [Nat.add_assoc]; exact .bin2 (ih h2)
 | ite1 _ ih => exact .ite1 (ih h2)
 | ite2 _ ih => rw [Nat.add_assoc]; exact .ite2 (ih h2)
 | ite3 _ ih => rw [Nat.add_assoc]; exact .ite3 (ih h2)
theorem Sub.ok {x y : X} {b : Nat} (h : Sub x y b) : x.ok = true → y.ok = true := by
 induction h with
 | refl => exact id
 | un _ ih => intro h; simp [X.ok] at h; exact ih h.2
 | bin1 _ ih => intro h; simp [X.ok] at h; exact ih h.1.2
 | bin2 _ ih => intro h; simp [X.ok] at h; exact ih h.2
 | ite1 _ ih => intro h; simp [X.ok] at h; exact ih h.1.1
 | ite2 _ ih => intro h; simp [X.ok] at h; exact ih h.1.2
 | ite3 _ ih => intro h; simp [X.ok] at h; exact ih h.2
theorem Sub.size {x y : X} {b : Nat} (h : Sub x y b) : b + y.size ≤ x.size := by
 induction h with
 | refl => simp
 | un _ ih => simp only [X.size]; omega
 | bin1 _ ih => simp only [X.size]; omega
 | bin2 _ ih => simp only [X.size]; omega
 | ite1 _ ih => simp only [X.size]; omega
 | ite2 _ ih => simp only [X.size]; omega
 | ite3 _ ih => simp only [X.size]; omega
theorem Sub.depth {x y : X} {b : Nat} (h : Sub x y b) : y.depth ≤ x.depth := by
 induction h with
 | refl => simp
 | un _ ih => simp only [X.depth]; omega
 | bin1 _ ih => simp only [X.depth]; omega
 | bin2 _ ih => simp only [X.depth]; omega
 | ite1 _ ih => simp only [X.depth]; omega
 | ite2 _ ih => simp only [X.depth]; omega
 | ite3 _ ih => simp only [X.depth]; omega
theorem Sub.at {x y : X} {b : Nat} (h : Sub x y b) : ∀ {l : List XN} {k : Nat}, At l x k → At l y (k + b) := by
 induction h with
 | refl => exact id
 | un _ ih => intro l k h; exact ih h.un
 | bin1 _ ih => intro l k h; exact ih h.bin.1
 | bin2 _ ih => intro l k h; rw [← Nat.add_assoc]; exact ih h.bin.2
 | ite1 _ ih => intro l k h; exact ih h.ite.1
 | ite2 _ ih => intro l k h; rw [← Nat.add_assoc]; exact ih h.ite.2.1
 | ite3 _ ih => intro l k h; rw [← Nat.add_assoc, ← Nat.add_assoc]; exact ih h.ite.2.2
theorem subs_top (x : X) : (subs x)[x.size - 1]? = some x := by
 have : ∃ l, subs x = l ++ [x] := by
  cases x with
  | leaf => exact ⟨[], rfl⟩
  | un => exact ⟨_, rfl⟩
  | bin => exact ⟨_, rfl⟩
  | ite => exact ⟨_, rfl⟩
 obtain ⟨l, h⟩ := this
 have hl := subs_len x
 rw [h, List.length_append, List.length_singleton] at hl
 rw [h, List.getElem?_append_right (by omega), show x.size - 1 - l.length = 0 by omega]; rfl
theorem Sub.get {x y : X} {b : Nat} (h : Sub x y b) : (subs x)[b + y.size - 1]? = some y := by
 have hy := y.size_pos
 induction h with
 | refl x => rw [Nat.zero_add]; exact subs_top x
 | @un op a y b h ih =>
  have := h.size
  have hl := subs_len a
  rw [subs, List.getElem?_append_left (by omega)]; exact ih hy
 | @bin1 op a c y b h ih =>
  have := h.size
  have hl := subs_len a
  rw [subs, List.append_assoc, List.getElem?_append_left (by omega)]; exact ih hy
 | @bin2 op a c y b h ih =>
  have := h.size
  have hl := subs_len a
  have hl2 := subs_len c
  rw [subs, List.append_assoc, List.getElem?_append_right (by omega), List.getElem?_append_left (by omega), ← ih hy]
  congr 1; omega
 | @ite1 a c d y b h ih =>
  have := h.size
  have hl := subs_len a
  rw [subs, List.append_assoc, List.append_assoc, List.getElem?_append_left (by omega)]; exact ih hy
 | @ite2 a c d y b h ih =>
  have := h.size
  have hl := subs_len a
  have hl2 := subs_len c
  rw [subs, List.append_assoc, List.append_assoc, List.getElem?_append_right (by omega), List.getElem?_append_left (by omega), ← ih hy]
  congr 1; omega
 | @ite3 a c d y b h ih =>
  have := h.size
  have hl := subs_len a
  have hl2 := subs_len c
  have hl3 := subs_len d
  rw [subs, List.append_assoc, List.append_assoc, List.getElem?_append_right (by omega), List.getElem?_append_right (by omega), List.getElem?_append_left (by omega), ← ih hy]
  congr 1; omega
theorem Sub.top {x y : X} {b : Nat} (h : Sub x y b) : (x.row 0)[b + y.size - 1]? = some (y.top b) := by
 have := (h.at (At.whole x)).get
 rw [Nat.zero_add] at this
 exact this
end Go.Hs
end

section
namespace Go.Hs
def kd (op : Int) (named : Bool) (a b c : Int) : Int :=
 if op = 1 ∨ op = 2 ∧ named = true then 1
 else if op = 3 ∨ op = 4 then 2
 else if op = 5 ∧ a = 1 ∨ 7 ≤ op ∧ op ≤ 11 ∧ a = 1 ∧ b = 1 then 1
 else if 12 ≤ op ∧ op ≤ 15 ∧ a = 1 ∧ b = 1 ∨ (op = 16 ∨ op = 17) ∧ a = b ∧ a ≠ 0 then 2
 else if op = 6 ∧ a = 2 ∨ 18 ≤ op ∧ op ≤ 21 ∧ a = 2 ∧ b = 2 then 2
 else if op = 22 ∧ a = 2 ∧ b = c then b else 0
end Go.Hs
end
