/- Part 41 of the proof of a statement of seat YtpoiceejhcpnaaaGreatDoor: HsEq. -/
import Derived.Test.YtpoiceejhcpnaaaGreatDoorPart36
import Derived.Laws.StructEq
set_option linter.unusedSimpArgs false
set_option linter.unusedVariables false
section
/- Equality of structs whose fields are numbers and texts. -/
namespace Go.Hs
variable {P : Program} {E : Ent}
def eqC : V → V → Option Bool
  | .int k a, .int k' b => if k = k' then some (a == b) else none
  | .str a, .str b => some (a == b)
  | _, _ => none
def eqCs : List V → List V → Option Bool
  | [], [] => some true
  | a :: r, b :: s => match eqC a b with
    | some true => eqCs r s
    | some false => some false
    | none => none
  | _, _ => none
def fitsV (P : Program) (t : TypeId) (v : V) : Bool := match P.underlying t, v with
  | some (.int _), .int _ _ => true
  | some .string, .str _ => true
  | _, _ => false
def flatT (P : Program) : Nat → List Field → List V → Bool
  | _, [], [] => true
  | i, f :: r, v :: s => f.name != "_" && f.offset == i && fitsV P f.type v && flatT P (i + 1) r s
  | _, _, _ => false
theorem run_partC {X : Cx} {t : TypeId} {v : V} {off : Nat} {xs : Array Value} {c : Value} (w : World) (hf : fitsV P t v = true) (hx : xs[off]? = some c) : (part t xs off).run P w = .ok c w := by
  unfold fitsV at hf
  cases hu : P.underlying t with
  | none => simp [hu] at hf
  | some d => cases d <;> simp [hu] at hf <;> simp [part, isAgg, run_underlying hu, hx]
theorem run_eqC {X : Cx} {t : TypeId} {a b : V} {x y : Value} {r : Bool} (d : Nat) (w : World) (hf : fitsV P t a = true) (hx : Rel X x a) (hy : Rel X y b) (h : eqC a b = some r) : (Op.equalIn (d + 1) t x y).run P w = .ok r w := by
  unfold fitsV at hf
  cases a <;> cases b <;> simp only [eqC, reduceCtorEq] at h
  case int.int k p k' q =>
    split at h
    · rename_i hk
      subst hk
      cases hx; cases hy
      cases hu : P.underlying t with
      | none => simp [hu] at hf
      | some u =>
        cases u <;> simp [hu] at hf
        rw [run_equalIn_int w d t k _ p q hu]
        cases h; rfl
    · cases h
  case str.str p q =>
    cases hx with
    | str s _ hs =>
      cases hy with
      | str s' _ hs' =>
        cases hu : P.underlying t with
        | none => simp [hu] at hf
        | some u =>
          cases u <;> simp [hu] at hf
          rw [run_equalIn_string w d t s s' hu, ByteArray.toList_eq, ByteArray.toList_eq]
          show Result.ok (s.data.toList == s'.data.toList) w = _
          rw [hs, hs']
          cases h; rfl
theorem run_eqCs {X : Cx} {xs ys : Array Value} (d : Nat) (w : World) : ∀ (fs : List Field) (i : Nat) (ls ms : List V) (r : Bool), flatT P i fs ls = true → eqCs ls ms = some r →
    (∀ j (h : j < ls.length), ∃ c, xs[i + j]? = some c ∧ Rel X c ls[j]) → (∀ j (h : j < ms.length), ∃ c, ys[i + j]? = some c ∧ Rel X c ms[j]) → (Op.eqFields (d + 1) xs ys fs).run P w = .ok r w
  | [], i, [], ms, r, hf, he, _, _ => by
    cases ms with
    | nil => cases he; rfl
    | cons => cases he
  | [], i, _ :: _, _, _, hf, _, _, _ => by cases hf
  | f :: fs, i, [], _, _, hf, _, _, _ => by cases hf
  | f :: fs, i, a :: ls, ms, r, hf, he, hx, hy => by
    cases ms with
    | nil => cases he
    | cons b ms =>
      simp only [flatT, Bool.and_eq_true] at hf
      obtain ⟨⟨⟨h1, h2⟩, h3⟩, h4⟩ := hf
      have h2 : f.offset = i := by simpa using h2
      have h1 : f.name ≠ "_" := by simpa using h1
      obtain ⟨c, hc, hcr⟩ := hx 0 (by simp)
      obtain ⟨c', hc', hcr'⟩ := hy 0 (by simp)
      simp only [Nat.add_zero] at hc hc'
      have hcr : Rel X c a := hcr
      have hcr' : Rel X c' b := hcr'
      simp only [eqCs] at he
      have p1 := run_partC (X := X) w h3 hc
      have p2 := run_partC (X := X) (t := f.type) (v := a) w h3 hc'
      simp only [Op.eqFields, if_pos h1, Sem.run_bind, h2, p1, p2, Result.andThen_ok]
      cases hq : eqC a b with
      | none => rw [hq] at he; cases he
      | some q =>
        rw [hq] at he
        rw [run_eqC d w h3 hcr hcr' hq]
        cases q with
        | false => cases he; simp
        | true =>
          simp only [Result.andThen_ok, Bool.not_true, Bool.false_eq_true, if_false]
          refine run_eqCs (X := X) d w fs (i + 1) ls ms r h4 he ?_ ?_
          · intro j hj
            obtain ⟨c, h5, h6⟩ := hx (j + 1) (by simpa using hj)
            exact ⟨c, by rw [← h5]; congr 1; omega, h6⟩
          · intro j hj
            obtain ⟨c, h5, h6⟩ := hy (j + 1) (by simpa using hj)
            exact ⟨c, by rw [← h5]; congr 1; omega, h6⟩
/-- '==' | '!=' of structs. -/
theorem Gives.aggEq {s : AS} {op : BinOp} {d : Option Nat} {t ty t' : TypeId} {x y : Operand} {pos : String} {af : Array Edge} {gd : Option (Nat × Bool)} {ls ms : List V} {r : Bool} (hop : op = .eql ∨ op = .neq)
    (ht : P.underlying t = some (.struct (P.fieldsOf t))) (hst : P.stoodInHeld t = false) (hg : P.eqGuardType P.depth t = false)
    (hx : s.ev E x = .agg ls) (hy : s.ev E y = .agg ms) (hf : flatT P 0 (P.fieldsOf t).toList ls = true) (he : eqCs ls ms = some r) :
    Gives P E ⟨d, .binOp op t x y t', ty, pos, af, gd⟩ s (.bool (if op = .eql then r else !r)) := by
  intro X a w hX
  have hxx := hX.ev x
  have hyy := hX.ev y
  rw [hx] at hxx
  rw [hy] at hyy
  have hev : execOp a.eval ⟨d, .binOp op t x y t', ty, pos, af, gd⟩ = (do let c ← (do eqGuard op t x y (a.eval x) (a.eval y); binOp op t (a.eval x) (a.eval y)); pure (Next.value c)) := rfl
  rw [hev]
  generalize a.eval x = xv at hxx
  generalize a.eval y = yv at hyy
  cases hxx with
  | agg xs _ hsx _ hrx =>
    cases hyy with
    | agg ys _ hsy _ hry =>
      have key : (Op.equalIn 10000 t (.agg xs) (.agg ys)).run P X.w = .ok r X.w := by
        rw [run_equalIn_agg X.w 9999 t xs ys ht hst]
        refine run_eqCs (X := X) 9998 X.w _ 0 ls ms r hf he ?_ ?_
        · intro j hj
          exact ⟨xs[j]'(by omega), by rw [Nat.zero_add, Array.getElem?_eq_getElem], hrx j (by omega) hj⟩
        · intro j hj
          exact ⟨ys[j]'(by omega), by rw [Nat.zero_add, Array.getElem?_eq_getElem], hry j (by omega) hj⟩
      refine ⟨.bool (if op = .eql then r else !r), ?_, .bool _⟩
      rcases hop with rfl | rfl
      · simp only [Sem.run_bind, run_eqGuard_agg X.w _ t x y xs ys hg, Result.andThen_ok, run_eql_struct, key, Sem.run_pure, if_true]
      · simp only [Sem.run_bind, run_eqGuard_agg X.w _ t x y xs ys hg, Result.andThen_ok, run_neq_struct, key, Sem.run_pure]
        rfl
end Go.Hs
end
