/- Part 33 of the proof of a statement of seat YtkljnnbncaolaaaDoor: HsDNumWritten HsDNumIs HsDNumParse HsDNumText HsDNumRefP. -/
import Derived.Test.YtkljnnbncaolaaaDoorPart31
import Derived.Test.YtkljnnbncaolaaaDoorPart32
import Derived.LaidEql
import Derived.Stop.Asserts
import Derived.RowKitTokens
import Derived.WalkKit
import Derived.BigCall
import Derived.BigGuard
import Derived.Lib.AppendIntMem
set_option linter.unusedSimpArgs false
set_option linter.unusedVariables false
section
namespace Go.Hs
open Go.Proofs
set_option maxRecDepth 10000
theorem trimPrefix_spec (G : Nat → V) (s p : List UInt8) : Spec Tryd.prog G 41 [.str s, .str p] hNone (fun v _ => v = .str (Lib.trimPrefix s p)) := by
  refine Spec.of_calls fun X cargs _ _ hA => ?_
  obtain ⟨x, y, rfl, hx, hy⟩ := hA.two
  obtain ⟨s', rfl, rfl⟩ := hx.str_inv
  obtain ⟨p', rfl, rfl⟩ := hy.str_inv
  refine (show Calls Tryd.prog 41 _ _ _ from Any.strings_TrimPrefix Tryd.laysTP s' p' X.w).mono ?_
  rintro e w' ⟨rfl, rfl⟩
  exact ⟨_, _, rfl, RowKit.Below.refl _ _, .str _ _ rfl, by simp⟩
theorem u8_inj {c : UInt8} (h : c.toNat = 48) : c = 48 := UInt8.toNat_inj.1 h
/- num.written -/
theorem written_spec (G : Nat → V) (hG : GOk G) (s : List UInt8) (hs : s.length < 1000000) : Spec Tryd.prog G 27 [.str s] hNone (fun v _ => v = .bool (writtenP s)) := by
  refine Spec.of_code' 0 34 [.tmp 2] Tryd.func27 rfl rfl rfl rfl fun X => ?_
  refine AW.seq_k fun K hK => AW.region (by kernel_rfl) ?_
  simp -implicitDefEqProofs only [go_sem, seval, ↓reduceIte]
  refine hK _ ?_
  clear hK K
  refine AW.seq_k fun K hK => AW.region (by kernel_rfl) ?_
  simp -implicitDefEqProofs only [go_sem, seval, ↓reduceIte]
  refine CallA.pure hG (by kernel_rfl) ?_
  simp -implicitDefEqProofs only [go_sem, seval, ↓reduceIte]
  refine (trimPrefix_spec G s [45]).mono ?_
  rintro _ _ rfl
  have htl := Lib.trimPrefix_le s [45]
  have hW : writtenP s = ((Lib.trimPrefix s [45]).all isDig && (s == [48] || (!(Lib.trimPrefix s [45] == []) && !((Lib.trimPrefix s [45]).head? == some 48)))) := rfl
  generalize Lib.trimPrefix s [45] = t at htl hW ⊢
  simp -implicitDefEqProofs only [go_sem, seval, ↓reduceIte]
  refine hK _ ?_
  clear hK K
  refine AW.seq_k fun K1 hK1 => ?_
  refine AW.seq_k fun K hK => AW.region (by kernel_rfl) ?_
  simp -implicitDefEqProofs only [go_sem, seval, ↓reduceIte]
  refine hK _ ?_
  clear hK K
  refine AW.block ?_
  refine AW.for t.length (fun k (_ : Unit) => st [(0, .str s), (3, .str t), (7, .str t), (8, .int .i64 t.length), (9, .int .i64 k)] []) (fun k _ => (t.take k).all isDig = true) 0 () (Nat.zero_le _) rfl
    (Weak.st (by simp -implicitDefEqProofs only [go_sem, seval, ↓reduceIte]; try rfl) (by simp -implicitDefEqProofs only [go_sem, seval, ↓reduceIte]; try rfl)) ?_
  intro k _ hk hI L2 hL2
  refine AW.seq_k fun K hK => AW.region (by kernel_rfl) ?_
  simp -implicitDefEqProofs only [go_sem, seval, ↓reduceIte]
  refine hK _ ?_
  clear hK K
  refine AW.seq_k fun K3 hK3 => ?_
  refine AW.condS (by simp -implicitDefEqProofs only [go_sem, seval, ↓reduceIte]; rfl) (fun h4 => ?_) (fun h4 => ?_)
  · have hk1 : k < t.length := by have := of_decide_eq_true h4; omega
    refine AW.skip ?_
    simp -implicitDefEqProofs only [go_sem, seval, ↓reduceIte]
    refine hK3 _ ?_
    have g2 := List.getElem?_eq_getElem hk1
    have htk : t.take (k + 1) = t.take k ++ [t[k]] := by rw [List.take_succ_eq_append_getElem hk1]
    generalize t[k] = c at g2 htk
    refine AW.seq_k fun K5 hK5 => ?_
    refine AW.block ?_
    refine AW.seq_k fun K hK => AW.region (by kernel_rfl) ?_
    simp -implicitDefEqProofs only [go_sem, seval, ↓reduceIte, g2]
    refine hK _ ?_
    clear hK K
    by_cases hc : isDig c = true
    · have hc2 : 48 ≤ c.toNat ∧ c.toNat ≤ 57 := by unfold isDig at hc; simpa using hc
      have b1 : decide ((c.toNat : Int) < 48) = false := by rw [decide_eq_false_iff_not]; omega
      have b2 : decide ((c.toNat : Int) > 57) = false := by rw [decide_eq_false_iff_not]; omega
      refine AW.seq_k fun K hK => AW.region (by kernel_rfl) ?_
      simp -implicitDefEqProofs only [go_sem, seval, ↓reduceIte, g2, b1, b2]
      refine hK _ ?_
      clear hK K
      refine AW.condS (by simp -implicitDefEqProofs only [go_sem, seval, ↓reduceIte]; rfl) (fun h7 => ?_) (fun h7 => ?_)
      · cases h7
      · refine AW.skip ?_
        simp -implicitDefEqProofs only [go_sem, seval, ↓reduceIte]
        refine hK5 _ ?_
        refine AW.region (by kernel_rfl) ?_
        simp -implicitDefEqProofs only [go_sem, seval, ↓reduceIte]
        refine hL2 _ ⟨hk1, (), by rw [htk, List.all_append, hI]; simp [hc], Weak.st (by simp -implicitDefEqProofs only [go_sem, seval, ↓reduceIte]; exact congrArg _ (by rw [w64 (by omega) (by omega)]; omega)) (by simp -implicitDefEqProofs only [go_sem, seval, ↓reduceIte])⟩
    · have hall : t.all isDig = false := by
        rw [← List.take_append_drop (k + 1) t, List.all_append, htk, List.all_append]
        have : isDig c = false := by simpa using hc
        simp [this]
      have hc2 : c.toNat < 48 ∨ 57 < c.toNat := by
        rcases Nat.lt_or_ge c.toNat 48 with h | h
        · exact .inl h
        · rcases Nat.lt_or_ge 57 c.toNat with h1 | h1
          · exact .inr h1
          · exact absurd (by unfold isDig; simp [h, h1]) hc
      rcases hc2 with h | h
      · have b1 : decide ((c.toNat : Int) < 48) = true := by rw [decide_eq_true_iff]; omega
        refine AW.seq_k fun K hK => AW.region (by kernel_rfl) ?_
        simp -implicitDefEqProofs only [go_sem, seval, ↓reduceIte, g2, b1]
        refine hK _ ?_
        clear hK K
        refine AW.condS (by simp -implicitDefEqProofs only [go_sem, seval, ↓reduceIte]; rfl) (fun h7 => ?_) (fun h7 => ?_)
        · refine AW.seq_k fun K hK => AW.region (by kernel_rfl) ?_
          simp -implicitDefEqProofs only [go_sem, seval, ↓reduceIte]
          refine hK _ ?_
          clear hK K
          refine AW.ret ?_
          simp -implicitDefEqProofs only [go_sem, seval, ↓reduceIte]
          refine endK_some ?_
          rw [hW, hall]; rfl
        · cases h7
      · have b1 : decide ((c.toNat : Int) < 48) = false := by rw [decide_eq_false_iff_not]; omega
        have b2 : decide ((c.toNat : Int) > 57) = true := by rw [decide_eq_true_iff]; omega
        refine AW.seq_k fun K hK => AW.region (by kernel_rfl) ?_
        simp -implicitDefEqProofs only [go_sem, seval, ↓reduceIte, g2, b1, b2]
        refine hK _ ?_
        clear hK K
        refine AW.condS (by simp -implicitDefEqProofs only [go_sem, seval, ↓reduceIte]; rfl) (fun h7 => ?_) (fun h7 => ?_)
        · refine AW.seq_k fun K hK => AW.region (by kernel_rfl) ?_
          simp -implicitDefEqProofs only [go_sem, seval, ↓reduceIte]
          refine hK _ ?_
          clear hK K
          refine AW.ret ?_
          simp -implicitDefEqProofs only [go_sem, seval, ↓reduceIte]
          refine endK_some ?_
          rw [hW, hall]; rfl
        · cases h7
  · have hk1 : k = t.length := by have := of_decide_eq_false h4; omega
    refine AW.exit ?_
    simp -implicitDefEqProofs only [go_sem, seval, ↓reduceIte]
    refine hK1 _ ?_
    rw [hk1, List.take_length] at hI
    rw [hI] at hW
    by_cases h0 : s = [48]
    · have b1 : (s == [48]) = true := by simpa using h0
      refine AW.seq_k fun K hK => AW.region (by kernel_rfl) ?_
      simp -implicitDefEqProofs only [go_sem, seval, ↓reduceIte, b1]
      refine hK _ ?_
      clear hK K
      refine AW.ret ?_
      simp -implicitDefEqProofs only [go_sem, seval, ↓reduceIte]
      refine endK_some ?_
      rw [hW, b1]; rfl
    · have b1 : (s == [48]) = false := by simpa using h0
      cases t with
      | nil =>
        refine AW.seq_k fun K hK => AW.region (by kernel_rfl) ?_
        simp -implicitDefEqProofs only [go_sem, seval, ↓reduceIte, b1]
        refine hK _ ?_
        clear hK K
        refine AW.ret ?_
        simp -implicitDefEqProofs only [go_sem, seval, ↓reduceIte]
        refine endK_some ?_
        rw [hW, b1]; rfl
      | cons c r =>
        refine AW.seq_k fun K hK => AW.region (by kernel_rfl) ?_
        simp -implicitDefEqProofs only [go_sem, seval, ↓reduceIte, b1]
        refine hK _ ?_
        clear hK K
        refine AW.ret ?_
        simp -implicitDefEqProofs only [go_sem, seval, ↓reduceIte]
        refine endK_some ?_
        rw [hW, b1]
        by_cases hc : c = 48
        · subst hc; rfl
        · have h1 : ((c.toNat : Int) != 48) = true := bne_iff_ne.2 fun h => hc (u8_inj (by omega))
          have h2 : ((c :: r).head? == some 48) = false := by simpa using hc
          rw [h1, h2]; rfl
end Go.Hs
end

section
namespace Go.Proofs.NumD
open Go.RowKit Go.Extern.Stop Go.Stop Go.Extern
set_option maxRecDepth 100000
theorem isTypeOf (v : Value) (w : World) : (Extern.ReflectliteType.typeOf #[.iface 109 v]).run Tryd.prog w = .ok (.iface 78 (.agg #[.pointer (some ⟨5, 109, none⟩)])) w := by kernel_rfl
theorem isComparable (w : World) : ((Extern.ReflectliteType.method fun t => do Extern.Rtype.noPackHeld "Comparable" t; pure (.bool (← typeInfo t).comparable)) #[.agg #[.pointer (some ⟨5, 109, none⟩)]]).run Tryd.prog w = .ok (.bool true) w := by kernel_rfl
theorem callComparable (w : World) : (callFunc 98 #[.agg #[.pointer (some ⟨5, 109, none⟩)]]).run Tryd.prog w = .ok (.value (.bool true)) w := by
  rw [@run_callFunc_extern Tryd.prog 98 _ (Extern.ReflectliteType.method fun t => do Extern.Rtype.noPackHeld "Comparable" t; pure (.bool (← typeInfo t).comparable)) Tryd.func98 (by kernel_rfl) (by kernel_rfl) (by kernel_rfl) (by kernel_rfl), isComparable]
  rfl
theorem isMethodComparable (v : Value) (w : World) : (Go.method 247 78 v "Comparable").run Tryd.prog w = .ok (98, v) w := by kernel_rfl
theorem isComp : (Tryd.prog.info? 109).map (·.comparable) = some true := by kernel_rfl
theorem isSize : (Tryd.prog.info? 111).map (·.size) = some 1 := by kernel_rfl
theorem noIsW (v : Value) (xT : TypeId) (w : World) : (Instr.typeAssert (.iface 74 v) xT 80 true).run Tryd.prog w = .ok (.tuple #[.nilIface, .bool false]) w := run_typeAssert_lacksB Tryd.underlying80 (by kernel_rfl) (by kernel_rfl) v xT w
theorem hasUnwrapW (v : Value) (xT : TypeId) (w : World) : (Instr.typeAssert (.iface 74 v) xT 83 true).run Tryd.prog w = .ok (.tuple #[.iface 74 v, .bool true]) w := run_typeAssert_hasB Tryd.underlying83 (by kernel_rfl) v xT w
theorem methodUnwrap (v : Value) (w : World) : (Go.method 247 74 v "Unwrap").run Tryd.prog w = .ok (94, v) w := by kernel_rfl
/-- errors.Is(nil, x). -/
theorem is_nil (b : Addr) (w : World) :
    Calls Tryd.prog 29 #[.nilIface, .iface 109 (.pointer (some b))] w fun e w' => e = .returned (.bool false) ∧ w' = w := by
  have hn := run_eql_iface_nil_left (P := Tryd.prog) w 109 (.pointer (some b)) Tryd.underlying39
  go_enter Tryd.func29, Tryd.ntmps29
  go_wp2
  go_ret
  exact ⟨rfl, rfl⟩
/-- errors.Is(e, x), e a *strconv.NumError that holds x itself. -/
theorem is_num (pb po : Nat) (b : Addr) (w : World) (h1 : w.cell? ⟨pb, po + 2, none⟩ = some (.iface 109 (.pointer (some b)))) :
    Calls Tryd.prog 29 #[.iface 74 (.pointer (some ⟨pb, po, none⟩)), .iface 109 (.pointer (some b))] w fun e w' => e = .returned (.bool true) ∧ w' = w := by
  obtain ⟨i, hi, hcmp⟩ := Option.map_eq_some_iff.1 isComp
  obtain ⟨j, hj, hjs⟩ := Option.map_eq_some_iff.1 isSize
  have h8 := @run_callFunc_extern Tryd.prog 44 _ Extern.ReflectliteType.typeOf Tryd.func44 (by kernel_rfl) (by kernel_rfl) (by kernel_rfl) (by kernel_rfl)
  have hC := callComparable
  have tT := isTypeOf
  have mR := isMethodComparable
  have nW := noIsW
  have uW := hasUnwrapW
  have mU := methodUnwrap
  have heq := run_eql_iface_ptr_same (P := Tryd.prog) w b Tryd.underlying39 Tryd.underlying109 hi hcmp hj
  have hty := run_eql_iface_types (P := Tryd.prog) 74 109 (.pointer (some ⟨pb, po, none⟩)) (.pointer (some b)) Tryd.underlying39 (by decide) w
  go_enter Tryd.func29, Tryd.ntmps29
  go_wp2
  refine wp_loop_rounds 2 ?_
  rw [rounds_succ]
  go_wp2
  rw [rounds_succ]
  go_wp2
  go_ret
  exact ⟨rfl, rfl⟩
end Go.Proofs.NumD
end

section
namespace Go.Hs
open Go.Proofs Go.RowKit
set_option maxRecDepth 100000
theorem written_calls (s : ByteArray) (hs : s.data.toList.length < 1000000) (w : World) : Calls Tryd.prog 27 #[.string s] w fun e w' => e = .returned (.bool (writtenP s.data.toList)) ∧ Below w.heap.size w w' := by
  refine ((written_spec gTop gTop_ok s.data.toList hs).toCalls (RelA.of_str s)).mono ?_
  rintro e w' ⟨c, v, H', Y, rfl, hr, rfl, hb⟩
  exact ⟨by rw [hr.bool_inv], hb⟩
theorem parseInt_ok (s : ByteArray) (hs : s.data.toList.length < 1000000) (v : Int) (h : Lib.parseIntB 64 s.data.toList = .ok v) (w : World) : Calls Tryd.prog 28 #[.string s, .int .i64 10, .int .i64 64] w fun e w' => e = .returned (.tuple #[.int .i64 v, .nilIface]) ∧ Below w.heap.size w w' := by
  refine (show Calls Tryd.prog 28 _ _ _ from Any.strconv_ParseInt_10_at64_ok Tryd.laysPI s (by rw [Lib.size_eq]; omega) v h w).mono ?_
  rintro e w' ⟨rfl, rfl | ⟨t, rfl⟩⟩
  · exact ⟨rfl, Below.refl _ _⟩
  · exact ⟨rfl, Lib.bytesWorld_below _ _ _⟩
theorem parseInt_range (s : ByteArray) (hs : s.data.toList.length < 1000000) (h : Lib.parseIntB 64 s.data.toList = .range) (te : TypeId) (pe : Value) (w : World) (hv : w.cell? ⟨0, 0, none⟩ = some (.iface te pe)) : Calls Tryd.prog 28 #[.string s, .int .i64 10, .int .i64 64] w fun e w' => ∃ N n, e = .returned (.tuple #[.int .i64 n, .iface 74 (.pointer (some ⟨N, 0, none⟩))]) ∧ w'.cell? ⟨N, 2, none⟩ = some (.iface te pe) ∧ Below w.heap.size w w' := by
  refine (show Calls Tryd.prog 28 _ _ _ from Any.strconv_ParseInt_10_at64_range Tryd.laysPI s (by rw [Lib.size_eq]; omega) h _ w hv (.inr ⟨_, _, rfl⟩)).mono ?_
  rintro e w' ⟨N, rfl, _, hN, hb⟩
  exact ⟨N, _, rfl, by simp [World.cell?, hN], hb⟩
/- num.Parse -/
theorem parse_calls (s : ByteArray) (hs : s.data.toList.length < 1000000) (b : Addr) (w : World) (hv : w.cell? ⟨0, 0, none⟩ = some (.iface 109 (.pointer (some b)))) :
    Calls Tryd.prog 11 #[.string s] w fun e w' => e = .returned (.tuple #[.int .i64 (parseR s.data.toList).1, .int .i64 (parseR s.data.toList).2]) ∧ Below w.heap.size w w' := by
  have hw := written_calls s hs
  have lt := Lib.lt_of_cell hv
  rcases parse_law s.data.toList with ⟨h1, h2⟩ | ⟨h1, ⟨v, h2, h3⟩ | ⟨h2, h3⟩⟩
  · rw [h1] at hw
    rw [h2]
    clear h1 h2
    go_enter Tryd.func11, Tryd.ntmps11
    go_wp2_with (go_at_call 27; refine (hw _).mono ?_; rintro e W1 ⟨rfl, hb1⟩)
    go_wp2
    go_ret2
    exact ⟨rfl, hb1⟩
  · rw [h1] at hw
    rw [h3]
    have hp := parseInt_ok s hs v h2
    have hn := NumD.is_nil b
    clear h1 h2 h3
    go_enter Tryd.func11, Tryd.ntmps11
    go_wp2_with (go_at_call 27; refine (hw _).mono ?_; rintro e W1 ⟨rfl, hb1⟩)
    have hv1 : W1.cell? ⟨0, 0, none⟩ = some (.iface 109 (.pointer (some b))) := (hb1.cell lt).trans hv
    go_wp2_with (go_at_call 28; refine (hp _).mono ?_)
    rintro e W2 ⟨rfl, hb2⟩
    have hv2 : W2.cell? ⟨0, 0, none⟩ = some (.iface 109 (.pointer (some b))) := (hb2.cell (Nat.lt_of_lt_of_le lt hb1.size)).trans hv1
    go_wp2_with (go_at_call 29; refine (hn _).mono ?_; rintro e W3 ⟨rfl, rfl⟩)
    go_wp2
    go_ret2
    exact ⟨rfl, hb1.trans (hb2.mono hb1.size)⟩
  · rw [h1] at hw
    rw [h3]
    have hp := parseInt_range s hs h2 109 (.pointer (some b))
    clear h1 h2 h3
    go_enter Tryd.func11, Tryd.ntmps11
    go_wp2_with (go_at_call 27; refine (hw _).mono ?_; rintro e W1 ⟨rfl, hb1⟩)
    have hv1 : W1.cell? ⟨0, 0, none⟩ = some (.iface 109 (.pointer (some b))) := (hb1.cell lt).trans hv
    go_wp2_with (go_at_call 28; refine (hp _ ?_).mono ?_)
    · exact hv1
    rintro e W2 ⟨N, n, rfl, hN, hb2⟩
    have hv2 : W2.cell? ⟨0, 0, none⟩ = some (.iface 109 (.pointer (some b))) := (hb2.cell (Nat.lt_of_lt_of_le lt hb1.size)).trans hv1
    have hq := NumD.is_num N 0 b W2 hN
    go_wp2_with (go_at_call 29; refine hq.mono ?_; rintro e W3 ⟨rfl, rfl⟩)
    go_wp2
    go_ret2
    exact ⟨rfl, hb1.trans (hb2.mono hb1.size)⟩
end Go.Hs
end

section
namespace Go.Hs
open Go.Proofs
set_option maxRecDepth 10000
/-- What is known of the package-level variables. -/
structure GNum (G : Nat → V) : Prop where
  ok : GOk G
  er : ∃ c c' v, G 0 = .view c (.iface 109 (.view c' v))
  tab : ∃ c, G 2 = .view c (.agg (Lib.pow10Tab.map (V.int .u64)))
/- num.Parse -/
theorem nParse_spec (G : Nat → V) (hG : GNum G) (s : List UInt8) (hs : s.length < 1000000) : Spec Tryd.prog G 11 [.str s] hNone (fun v _ => v = encR (parseR s)) := by
  refine Spec.of_calls fun X cargs _ hX hA => ?_
  obtain ⟨x, rfl, hx⟩ := hA.one
  obtain ⟨s', rfl, rfl⟩ := hx.str_inv
  obtain ⟨c, c', v, he⟩ := hG.er
  have h0 := (hX 0).rel
  rw [he] at h0
  obtain ⟨f, hf⟩ := h0.view_inv
  obtain ⟨h1, h2⟩ := hf 0 (by simp [V.cells])
  have h2 : Rel X (f 0) (.iface 109 (.view c' v)) := h2
  generalize f 0 = y at h1 h2
  cases h2 with
  | iface t x _ h3 =>
    cases h3 with
    | view _ _ b off f' _ _ =>
      refine (parse_calls s' hs ⟨b, off, none⟩ X.w h1).mono ?_
      rintro e w' ⟨rfl, hb⟩
      refine ⟨_, _, rfl, hb, ?_, rfl⟩
      refine .tuple _ _ rfl fun i h1 h2 => ?_
      match i, h1 with
      | 0, _ => exact .int _ _
      | 1, _ => exact .int _ _
theorem tabIs_of {X : Cx} {c : Col} {zs : List Int} (hX : RelG X 2 (.view c (.agg (zs.map (V.int .u64))))) : Lib.TabIs Tryd.prog X.w "internal/strconv.uint64pow10" .u64 zs := by
  obtain ⟨_, l, t, fr, h1, h2⟩ := hX.sz
  obtain ⟨f, hf⟩ := hX.rel.view_inv
  unfold Lib.TabIs World.var?
  rw [show Tryd.prog.globalNamed "internal/strconv.uint64pow10" = some 2 by kernel_rfl]
  rw [List.length_map] at h2
  show (match X.w.heap[2]? with | some (.cells cs _ _) => some cs | _ => none) = _
  rw [h1]
  refine congrArg some ?_
  apply Array.ext
  · simp [h2]
  · intro i k1 k2
    obtain ⟨h3, h4⟩ := hf i (by simp [V.cells]; omega)
    rw [Nat.zero_add] at h3
    have h5 : X.w.cell? ⟨2, i, none⟩ = l[i]? := cell_of h1
    rw [h5, Array.getElem?_eq_getElem k1] at h3
    have h6 : l[i] = f i := Option.some.inj h3
    have h7 : Rel X (f i) (.int .u64 (zs[i]'(by omega))) := by
      have : (V.agg (zs.map (V.int .u64))).cells[i]'(by simp [V.cells]; omega) = .int .u64 (zs[i]'(by omega)) := by simp [V.cells]
      rw [← this]; exact h4
    rw [h6, h7.int_inv]
    simp
/- num.Put -/
theorem format_spec (G : Nat → V) (hG : GNum G) (n : Int) (hn : InK .i64 n) : Spec Tryd.prog G 32 [.int .i64 n, .int .i64 10] hNone (fun v _ => v = .str (putR n)) := by
  have hn' := (inK_iff n).1 hn
  refine Spec.of_calls fun X cargs _ hX hA => ?_
  obtain ⟨x, y, rfl, hx, hy⟩ := hA.two
  rw [hx.int_inv, hy.int_inv]
  obtain ⟨c, he⟩ := hG.tab
  have h0 := hX 2
  rw [he] at h0
  refine (show Calls Tryd.prog 32 _ _ _ from Any.strconv_FormatInt_10 Tryd.laysFI n hn'.1 hn'.2 X.w (tabIs_of h0)).mono ?_
  rintro e w' ⟨rfl, k, os, rfl⟩
  exact ⟨_, _, rfl, Lib.below_grow _ _ (Nat.le_refl _) _ _, .str _ _ rfl, by simp [putR]⟩
theorem nPut_spec (G : Nat → V) (hG : GNum G) (n : Int) (hn : InK .i64 n) : Spec Tryd.prog G 13 [.int .i64 n] hNone (fun v _ => v = .str (putR n)) := by
  have hG0 := hG
  replace hG := hG.ok
  refine Spec.of_code' 0 5 [.tmp 2] Tryd.func13 rfl rfl rfl rfl fun X => ?_
  refine AW.seq_k fun K hK => AW.region (by kernel_rfl) ?_
  simp -implicitDefEqProofs only [go_sem, seval, ↓reduceIte]
  refine hK _ ?_
  clear hK K
  refine AW.seq_k fun K hK => AW.region (by kernel_rfl) ?_
  simp -implicitDefEqProofs only [go_sem, seval, ↓reduceIte]
  refine CallA.pure hG (by kernel_rfl) ?_
  simp -implicitDefEqProofs only [go_sem, seval, ↓reduceIte]
  refine (format_spec G hG0 n hn).mono ?_
  rintro _ _ rfl
  simp -implicitDefEqProofs only [go_sem, seval, ↓reduceIte]
  refine hK _ ?_
  clear hK K
  refine AW.ret ?_
  simp -implicitDefEqProofs only [go_sem, seval, ↓reduceIte]
  refine endK_some ?_
  rfl
end Go.Hs
end

section
namespace Go.Hs
open Go.Proofs
set_option maxRecDepth 10000
/-- What a text without its sign writes. -/
def parseT (t : List UInt8) (below : Bool) : Int × Int :=
  if t = [] ∨ (t.head? = some 48 ∧ (t.length > 1 ∨ below = true)) ∨ t.all isDig = false then (0, 2)
  else told (if below then -(val (t.reverse.map dval) : Int) else val (t.reverse.map dval))
theorem parseR_T (s : List UInt8) : parseR s = parseT (if (s.head? == some 45) = true then s.drop 1 else s) (s.head? == some 45) := rfl
theorem u8_eq (c : UInt8) (n : Nat) (hn : n < 256) : ((c.toNat : Int) == (n : Int)) = (c == UInt8.ofNat n) := by
  by_cases h : c.toNat = n
  · have h1 : c = UInt8.ofNat n := by
      apply UInt8.toNat_inj.1
      rw [UInt8.toNat_ofNat', h]
      omega
    rw [h1]
    simp
    omega
  · have h1 : ¬ c = UInt8.ofNat n := by
      intro e
      apply h
      rw [e, UInt8.toNat_ofNat']
      omega
    have h2 : ¬ (c.toNat : Int) = (n : Int) := by omega
    rw [show (c == UInt8.ofNat n) = false by simpa using h1, show ((c.toNat : Int) == (n : Int)) = false from beq_eq_false_iff_ne.2 h2]
theorem u8_45 (c : UInt8) : ((c.toNat : Int) == 45) = (c == 45) := u8_eq c 45 (by decide)
theorem u8_48 (c : UInt8) : ((c.toNat : Int) == 48) = (c == 48) := u8_eq c 48 (by decide)
/- ref06.Parse -/
theorem rParse_spec (G : Nat → V) (hG : GOk G) (s : List UInt8) (hs : s.length < 1000000) : Spec Tryd.prog G 12 [.str s] hNone (fun v _ => v = encR (parseR s)) := by
  rw [parseR_T]
  generalize hb0 : (s.head? == some 45) = b0
  generalize ht0 : (if b0 = true then s.drop 1 else s) = t0
  refine Spec.of_code' 0 64 [.tmp 2, .tmp 3] Tryd.func12 rfl rfl rfl rfl fun X => ?_
  refine AW.seq_k fun K hK => AW.region (by kernel_rfl) ?_
  simp -implicitDefEqProofs only [go_sem, seval, ↓reduceIte]
  refine hK _ ?_
  clear hK K
  refine AW.seqJ (fun (_ : Unit) => st [(0, .str s), (4, .bool b0)] []) (fun _ => True) (fun K1 hK1 => ?_) ?_
  · cases s with
    | nil =>
      refine AW.region (by kernel_rfl) ?_
      simp -implicitDefEqProofs only [go_sem, seval, ↓reduceIte]
      exact hK1 _ () trivial (Weak.st (by simp -implicitDefEqProofs only [go_sem, seval, ↓reduceIte]; rw [← hb0]; rfl) (by simp -implicitDefEqProofs only [go_sem, seval, ↓reduceIte]))
    | cons c r =>
      refine AW.region (by kernel_rfl) ?_
      simp -implicitDefEqProofs only [go_sem, seval, ↓reduceIte, u8_45]
      exact hK1 _ () trivial (Weak.st (by simp -implicitDefEqProofs only [go_sem, seval, ↓reduceIte]; rw [← hb0]; rfl) (by simp -implicitDefEqProofs only [go_sem, seval, ↓reduceIte]))
  intro _ _
  refine AW.seqJ (fun (_ : Unit) => st [(0, .str t0), (4, .bool b0)] []) (fun _ => True) (fun K2 hK2 => ?_) ?_
  · refine AW.seq_k fun K hK => AW.region (by kernel_rfl) ?_
    simp -implicitDefEqProofs only [go_sem, seval, ↓reduceIte]
    refine hK _ ?_
    clear hK K
    refine AW.condS (by simp -implicitDefEqProofs only [go_sem, seval, ↓reduceIte]; rfl) (fun h2 => ?_) (fun h2 => ?_)
    · subst h2
      have h1 : 1 ≤ s.length := by
        cases s with
        | nil => simp at hb0
        | cons _ _ => simp
      refine AW.region (by kernel_rfl) ?_
      simp -implicitDefEqProofs only [go_sem, seval, ↓reduceIte, h1, Nat.le_refl]
      refine hK2 _ () trivial ?_
      exact (Weak.st (by simp -implicitDefEqProofs only [go_sem, seval, ↓reduceIte]; rw [← ht0]; simp; exact List.take_of_length_le (by simp)) (by simp -implicitDefEqProofs only [go_sem, seval, ↓reduceIte]))
    · subst h2
      refine AW.skip ?_
      simp -implicitDefEqProofs only [go_sem, seval, ↓reduceIte]
      exact hK2 _ () trivial (Weak.st (by simp -implicitDefEqProofs only [go_sem, seval, ↓reduceIte]; rw [← ht0]; simp) (by simp -implicitDefEqProofs only [go_sem, seval, ↓reduceIte]))
  intro _ _
  have htl : t0.length ≤ s.length := by rw [← ht0]; split <;> simp
  clear ht0 hb0
  refine AW.seqJ (fun (_ : Unit) => st [(0, .str t0), (4, .bool b0)] []) (fun _ => t0 ≠ [] ∧ ¬ (t0.head? = some 48 ∧ (t0.length > 1 ∨ b0 = true))) (fun K3 hK3 => ?_) ?_
  · cases t0 with
    | nil =>
      refine AW.seq_k fun K hK => AW.region (by kernel_rfl) ?_
      simp -implicitDefEqProofs only [go_sem, seval, ↓reduceIte]
      refine hK _ ?_
      clear hK K
      refine AW.condS (by simp -implicitDefEqProofs only [go_sem, seval, ↓reduceIte]; rfl) (fun h4 => ?_) (fun h4 => ?_)
      · refine AW.seq_k fun K hK => AW.region (by kernel_rfl) ?_
        simp -implicitDefEqProofs only [go_sem, seval, ↓reduceIte]
        refine hK _ ?_
        clear hK K
        refine AW.ret ?_
        simp -implicitDefEqProofs only [go_sem, seval, ↓reduceIte]
        refine endK_some ?_
        rw [parseT, if_pos (.inl rfl)]
        rfl
      · cases h4
    | cons c r =>
      by_cases hc : c = 48
      · have hc1 : (c == 48) = true := by simpa using hc
        by_cases hl : r.length = 0
        · have hl1 : decide (((r.length + 1 : Nat) : Int) > 1) = false := by rw [decide_eq_false_iff_not]; omega
          cases b0 with
          | true =>
            refine AW.seq_k fun K hK => AW.region (by kernel_rfl) ?_
            simp -implicitDefEqProofs only [go_sem, seval, ↓reduceIte, u8_48, hc1, hl1]
            refine hK _ ?_
            clear hK K
            refine AW.condS (by simp -implicitDefEqProofs only [go_sem, seval, ↓reduceIte]; rfl) (fun h4 => ?_) (fun h4 => ?_)
            · refine AW.seq_k fun K hK => AW.region (by kernel_rfl) ?_
              simp -implicitDefEqProofs only [go_sem, seval, ↓reduceIte]
              refine hK _ ?_
              clear hK K
              refine AW.ret ?_
              simp -implicitDefEqProofs only [go_sem, seval, ↓reduceIte]
              refine endK_some ?_
              rw [parseT, if_pos (.inr (.inl ⟨by simp [hc], .inr rfl⟩))]
              rfl
            · cases h4
          | false =>
            refine AW.seq_k fun K hK => AW.region (by kernel_rfl) ?_
            simp -implicitDefEqProofs only [go_sem, seval, ↓reduceIte, u8_48, hc1, hl1]
            refine hK _ ?_
            clear hK K
            refine AW.condS (by simp -implicitDefEqProofs only [go_sem, seval, ↓reduceIte]; rfl) (fun h4 => ?_) (fun h4 => ?_)
            · cases h4
            · refine AW.skip ?_
              simp -implicitDefEqProofs only [go_sem, seval, ↓reduceIte]
              exact hK3 _ () ⟨by simp, by simp [hl]⟩ (Weak.st (by simp -implicitDefEqProofs only [go_sem, seval, ↓reduceIte]) (by simp -implicitDefEqProofs only [go_sem, seval, ↓reduceIte]))
        · have hl1 : decide (((r.length + 1 : Nat) : Int) > 1) = true := by rw [decide_eq_true_iff]; omega
          refine AW.seq_k fun K hK => AW.region (by kernel_rfl) ?_
          simp -implicitDefEqProofs only [go_sem, seval, ↓reduceIte, u8_48, hc1, hl1]
          refine hK _ ?_
          clear hK K
          refine AW.condS (by simp -implicitDefEqProofs only [go_sem, seval, ↓reduceIte]; rfl) (fun h4 => ?_) (fun h4 => ?_)
          · refine AW.seq_k fun K hK => AW.region (by kernel_rfl) ?_
            simp -implicitDefEqProofs only [go_sem, seval, ↓reduceIte]
            refine hK _ ?_
            clear hK K
            refine AW.ret ?_
            simp -implicitDefEqProofs only [go_sem, seval, ↓reduceIte]
            refine endK_some ?_
            rw [parseT, if_pos (.inr (.inl ⟨by simp [hc], .inl (by simp; omega)⟩))]
            rfl
          · cases h4
      · have hc1 : (c == 48) = false := by simpa using hc
        refine AW.seq_k fun K hK => AW.region (by kernel_rfl) ?_
        simp -implicitDefEqProofs only [go_sem, seval, ↓reduceIte, u8_48, hc1]
        refine hK _ ?_
        clear hK K
        refine AW.condS (by simp -implicitDefEqProofs only [go_sem, seval, ↓reduceIte]; rfl) (fun h4 => ?_) (fun h4 => ?_)
        · cases h4
        · refine AW.skip ?_
          simp -implicitDefEqProofs only [go_sem, seval, ↓reduceIte]
          exact hK3 _ () ⟨by simp, by simp [hc]⟩ (Weak.st (by simp -implicitDefEqProofs only [go_sem, seval, ↓reduceIte]) (by simp -implicitDefEqProofs only [go_sem, seval, ↓reduceIte]))
  rintro _ ⟨hne, hno⟩
  refine AW.seq_k fun K hK => AW.region (by kernel_rfl) ?_
  simp -implicitDefEqProofs only [go_sem, seval, ↓reduceIte]
  refine hK _ ?_
  clear hK K
  refine AW.seq_k fun K4 hK4 => ?_
  refine AW.seq_k fun K hK => AW.region (by kernel_rfl) ?_
  simp -implicitDefEqProofs only [go_sem, seval, ↓reduceIte]
  refine hK _ ?_
  clear hK K
  refine AW.block ?_
  refine AW.for t0.length (fun k (x : Nat) => st [(0, .str t0), (4, .bool b0), (5, grown 56 x 1 (ints ((t0.drop (t0.length - k)).reverse.map dval))), (6, .int .i64 ((t0.length : Int) - 1 - k))] [(56, grownO x (V.int .i64) (ints ((t0.drop (t0.length - k)).reverse.map dval)))])
    (fun k _ => (t0.drop (t0.length - k)).all isDig = true) 0 0 (Nat.zero_le _) (by rw [List.drop_eq_nil_of_le (by omega)]; rfl)
    (Weak.st (by rw [List.drop_eq_nil_of_le (by omega)]; simp -implicitDefEqProofs only [go_sem, seval, ↓reduceIte]; exact ⟨rfl, congrArg _ (by rw [w64 (by omega) (by omega)]; omega)⟩) (by rw [List.drop_eq_nil_of_le (by omega)]; simp -implicitDefEqProofs only [go_sem, seval, ↓reduceIte]; try rfl)) ?_
  intro k gx hk hI L2 hL2
  refine AW.seq_k fun K5 hK5 => ?_
  refine AW.seq_k fun K hK => AW.region (by kernel_rfl) ?_
  simp -implicitDefEqProofs only [go_sem, seval, ↓reduceIte]
  refine hK _ ?_
  clear hK K
  refine AW.condS (by simp -implicitDefEqProofs only [go_sem, seval, ↓reduceIte]; rfl) (fun h4 => ?_) (fun h4 => ?_)
  · have hk1 : k < t0.length := by have := of_decide_eq_true h4; omega
    refine AW.skip ?_
    simp -implicitDefEqProofs only [go_sem, seval, ↓reduceIte]
    refine hK5 _ ?_
    obtain ⟨i, hi⟩ : ∃ i, i = t0.length - 1 - k := ⟨_, rfl⟩
    have e0 : ((t0.length : Int) - 1 - k) = (i : Int) := by omega
    have hi1 : i < t0.length := by omega
    have g2 := List.getElem?_eq_getElem hi1
    have hdr : t0.drop i = t0[i] :: t0.drop (i + 1) := List.drop_eq_getElem_cons hi1
    have hall : t0.all isDig = ((t0.take i).all isDig && (isDig t0[i] && (t0.drop (i + 1)).all isDig)) := by
      rw [← List.all_cons, ← hdr, ← List.all_append, List.take_append_drop]
    generalize t0[i] = c at g2 hdr hall
    rw [show t0.length - k = i + 1 by omega] at hI ⊢
    rw [e0]
    have hlen : ((t0.drop (i + 1)).reverse.map dval).length < 1000000 := by simp; omega
    refine AW.seq_k fun K6 hK6 => ?_
    refine AW.block ?_
    refine AW.seq_k fun K7 hK7 => ?_
    by_cases hc : isDig c = true
    · have hc2 : 48 ≤ c.toNat ∧ c.toNat ≤ 57 := by unfold isDig at hc; simpa using hc
      have b1 : decide ((c.toNat : Int) < 48) = false := by rw [decide_eq_false_iff_not]; omega
      have b2 : decide ((c.toNat : Int) > 57) = false := by rw [decide_eq_false_iff_not]; omega
      have hdv : IntKind.i64.wrap ((c.toNat : Int) - 48) = ((dval c : Nat) : Int) := by rw [w64 (by omega) (by omega)]; unfold dval; omega
      have hwc : IntKind.i64.wrap (c.toNat : Int) = (c.toNat : Int) := w64 (by omega) (by omega)
      refine AW.seq_k fun K hK => AW.region (by kernel_rfl) ?_
      simp -implicitDefEqProofs only [go_sem, seval, ↓reduceIte, g2, b1, b2]
      refine hK _ ?_
      clear hK K
      refine AW.condS (by simp -implicitDefEqProofs only [go_sem, seval, ↓reduceIte]; rfl) (fun h7 => ?_) (fun h7 => ?_)
      · cases h7
      · refine AW.skip ?_
        simp -implicitDefEqProofs only [go_sem, seval, ↓reduceIte]
        refine hK7 _ ?_
        refine AW.region (by kernel_rfl) ?_
        simp -implicitDefEqProofs only [go_sem, seval, ↓reduceIte, g2, hwc, hdv]
        intro g55
        refine app_grown (f := V.int .i64) (l := ints ((t0.drop (i + 1)).reverse.map dval)) (l2 := [((dval c : Nat) : Int)]) (g := gx) (fun _ => rfl) rfl rfl rfl rfl (roomOk_of (by omega) (by simp; omega)) fun g56 => ?_
        simp -implicitDefEqProofs only [go_sem, seval, ↓reduceIte]
        refine hK6 _ ?_
        refine AW.region (by kernel_rfl) ?_
        simp -implicitDefEqProofs only [go_sem, seval, ↓reduceIte]
        have hnew : (t0.drop (t0.length - (k + 1))).reverse.map dval = (t0.drop (i + 1)).reverse.map dval ++ [dval c] := by
          rw [show t0.length - (k + 1) = i by omega, hdr]; simp
        refine hL2 _ ⟨hk1, g56, ?_, Weak.st (by rw [hnew]; simp -implicitDefEqProofs only [go_sem, seval, ↓reduceIte, ints_app]; exact ⟨rfl, congrArg _ (by rw [w64 (by omega) (by omega)]; omega)⟩) (by rw [hnew]; simp -implicitDefEqProofs only [go_sem, seval, ↓reduceIte, ints_app]; try rfl)⟩
        rw [show t0.length - (k + 1) = i by omega, hdr, List.all_cons, hc, hI]; rfl
    · have hcf : isDig c = false := by simpa using hc
      have hbad : t0.all isDig = false := by rw [hall, hcf]; simp
      have hc2 : c.toNat < 48 ∨ 57 < c.toNat := by
        rcases Nat.lt_or_ge c.toNat 48 with h | h
        · exact .inl h
        · rcases Nat.lt_or_ge 57 c.toNat with h1 | h1
          · exact .inr h1
          · exact absurd (by unfold isDig; simp [h, h1]) hc
      have hP : parseT t0 b0 = (0, 2) := by rw [parseT, if_pos (.inr (.inr hbad))]
      rcases hc2 with h | h
      · have b1 : decide ((c.toNat : Int) < 48) = true := by rw [decide_eq_true_iff]; omega
        refine AW.seq_k fun K hK => AW.region (by kernel_rfl) ?_
        simp -implicitDefEqProofs only [go_sem, seval, ↓reduceIte, g2, b1]
        refine hK _ ?_
        clear hK K
        refine AW.condS (by simp -implicitDefEqProofs only [go_sem, seval, ↓reduceIte]; rfl) (fun h7 => ?_) (fun h7 => ?_)
        · refine AW.seq_k fun K hK => AW.region (by kernel_rfl) ?_
          simp -implicitDefEqProofs only [go_sem, seval, ↓reduceIte]
          refine hK _ ?_
          clear hK K
          refine AW.ret ?_
          simp -implicitDefEqProofs only [go_sem, seval, ↓reduceIte]
          refine endK_some ?_
          rw [hP]; rfl
        · cases h7
      · have b1 : decide ((c.toNat : Int) < 48) = false := by rw [decide_eq_false_iff_not]; omega
        have b2 : decide ((c.toNat : Int) > 57) = true := by rw [decide_eq_true_iff]; omega
        refine AW.seq_k fun K hK => AW.region (by kernel_rfl) ?_
        simp -implicitDefEqProofs only [go_sem, seval, ↓reduceIte, g2, b1, b2]
        refine hK _ ?_
        clear hK K
        refine AW.condS (by simp -implicitDefEqProofs only [go_sem, seval, ↓reduceIte]; rfl) (fun h7 => ?_) (fun h7 => ?_)
        · refine AW.seq_k fun K hK => AW.region (by kernel_rfl) ?_
          simp -implicitDefEqProofs only [go_sem, seval, ↓reduceIte]
          refine hK _ ?_
          clear hK K
          refine AW.ret ?_
          simp -implicitDefEqProofs only [go_sem, seval, ↓reduceIte]
          refine endK_some ?_
          rw [hP]; rfl
        · cases h7
  · have hk1 : k = t0.length := by have := of_decide_eq_false h4; omega
    subst hk1
    rw [Nat.sub_self, List.drop_zero] at hI ⊢
    have hP : parseT t0 b0 = told (sgn b0 (val (t0.reverse.map dval))) := by
      rw [parseT, if_neg (by rw [hI]; simp [hne, hno])]
      rfl
    have hdig : Dig (t0.reverse.map dval) := by
      intro d hd
      obtain ⟨c, h1, rfl⟩ := List.mem_map.1 hd
      have := List.all_eq_true.1 hI c (List.mem_reverse.1 h1)
      unfold isDig at this
      unfold dval
      simp at this
      omega
    have hol : (t0.reverse.map dval).length < 1000000 := by simp; omega
    generalize t0.reverse.map dval = out at hdig hol hP
    refine AW.exit ?_
    simp -implicitDefEqProofs only [go_sem, seval, ↓reduceIte]
    refine hK4 _ ?_
    refine AW.weak (Weak.stF (fun o => o == 56) (l := [(4, .bool b0), (5, encSl .new 1 (V.int .i64) (slD (decide (out = [])) out))]) (m := []) ?_ trivial) ?_
    · simp -implicitDefEqProofs only [go_sem, seval, ↓reduceIte]
      rw [← grownS_ints rfl]
      exact ⟨Fz.same _, Fz.grown rfl rfl (fun _ => rfl)⟩
    refine AW.seq_k fun K hK => AW.region (by kernel_rfl) ?_
    simp -implicitDefEqProofs only [go_sem, seval, ↓reduceIte]
    refine CallA.pure hG (by kernel_rfl) ?_
    simp -implicitDefEqProofs only [go_sem, seval, ↓reduceIte]
    refine (trim_spec G hG _ (decide (out = [])) out (by simp) (by omega)).mono ?_
    rintro _ _ rfl
    rw [trim_val _ _ (Nat.le_refl _) hdig]
    have hnl : decide (out = []) = true → dg (val out) = [] := by
      intro h
      have := of_decide_eq_true h
      subst this
      rfl
    have hvl : (dg (val out)).length < 1000000 := by
      have := dg_len (val_lt hdig)
      omega
    simp -implicitDefEqProofs only [go_sem, seval, ↓reduceIte]
    refine CallA.pure hG (by kernel_rfl) ?_
    simp -implicitDefEqProofs only [go_sem, seval, ↓reduceIte]
    rw [← encLong]
    refine (rTold_spec G hG _ _ _ _ hnl (dig_dg _) hvl).mono ?_
    rintro _ _ rfl
    rw [val_dg]
    simp -implicitDefEqProofs only [go_sem, seval, ↓reduceIte, encR]
    refine hK _ ?_
    clear hK K
    refine AW.ret ?_
    simp -implicitDefEqProofs only [go_sem, seval, ↓reduceIte]
    refine endK_some ?_
    rw [hP]
    rfl
end Go.Hs
end
