/- Part 43 of the proof of a statement of seat YtpoiceejhcpnaaaGreatDoor: HsEExpLaid HsEExpLaidG HsEExpArgs HsEExpArgs2 HsEExpL1 HsEExpL2. -/
import Derived.Test.YtpoiceejhcpnaaaGreatDoorPart41
import Derived.Test.YtpoiceejhcpnaaaGreatDoorPart36
import Derived.Test.YtpoiceejhcpnaaaGreatDoorPart42
import Derived.Test.YtpoiceejhcpnaaaGreatDoorRows
import Derived.ProofKit
import Derived.OpenShut
import Derived.LaidLaws
import Derived.Stop.LaidErr
import Derived.Lib.LaidTab
import Derived.Handed
import Derived.Laws.StructEq
import Derived.ChangeMaps5
set_option linter.unusedSimpArgs false
set_option linter.unusedVariables false
section
namespace Go.Proofs.YtpoiceejhcpnaaaGreatDoor
open Go.RowKit Go.Hs
set_option maxRecDepth 100000
def laidAll : List (String × DataW Unit) := [("math/bits.deBruijn32tab", Rows.laid_math_bits_deBruijn32tab), ("math/bits.deBruijn64tab", Rows.laid_math_bits_deBruijn64tab), ("internal/strconv.uint64pow10", Rows.laid_internal_strconv_uint64pow10), ("unicode/utf8.acceptRanges", Rows.laid_unicode_utf8_acceptRanges), ("strconv.ErrRange", Rows.laid_strconv_ErrRange), ("strconv.ErrSyntax", Rows.laid_strconv_ErrSyntax), ("hopscotch/lex.signs", Rows.laid_hopscotch_lex_signs), ("unicode/utf8.first", Rows.laid_unicode_utf8_first)]
noncomputable def low : Nat := (World.holding Tryz.prog default ⟨#[], #[], []⟩).heap.size
def b32 : List Int := [0, 1, 28, 2, 29, 14, 24, 3, 30, 22, 20, 15, 25, 17, 4, 8, 31, 27, 13, 23, 21, 19, 16, 7, 26, 12, 18, 6, 11, 5, 10, 9]
def b64 : List Int := 0 :: 1 :: 56 :: 2 :: 57 :: 49 :: 28 :: 3 :: 61 :: 58 :: 42 :: 50 :: 38 :: 29 :: 17 :: 4 :: 62 :: 47 :: 59 :: 36 :: 45 :: 43 :: 51 :: 22 :: 53 :: 39 :: 33 :: 30 :: 24 :: 18 :: 12 :: 5 :: 63 :: 55 :: 48 :: 27 :: 60 :: 41 :: 37 :: 16 :: 46 :: 35 :: 44 :: 21 :: 52 :: 32 :: 23 :: 11 :: 54 :: 26 :: 40 :: 15 :: 34 :: 20 :: 31 :: 10 :: 25 :: 14 :: 19 :: 9 :: 13 :: 8 :: 7 :: 6 :: []
def acR : List Int := [128, 191, 160, 191, 128, 159, 144, 191, 128, 143] ++ List.replicate 22 0
def errR : ByteArray := { data := #[118, 97, 108, 117, 101, 32, 111, 117, 116, 32, 111, 102, 32, 114, 97, 110, 103, 101] }
def errS : ByteArray := { data := #[105, 110, 118, 97, 108, 105, 100, 32, 115, 121, 110, 116, 97, 120] }
def withCells (cs : Array Value) : Obj → Obj
 | .cells _ t frozen => .cells cs t frozen
 | o => o
noncomputable def laidWorld (os : Os) : World :=
 let w0 := World.holding Tryz.prog os ⟨#[.cells #[.string errR] 240, .cells #[.string errS] 240], #[], []⟩
 { w0 with heap := (((((((w0.heap.modify 1 (withCells #[.iface 238 (.pointer (some ⟨low, 0, none⟩))])).modify 6 (withCells #[.iface 238 (.pointer (some ⟨low + 1, 0, none⟩))])).modify 3
   (withCells (Lib.pow10Tab.map (Value.int .u64)).toArray)).modify 7 (withCells (b32.map (Value.int .u8)).toArray)).modify 8 (withCells (b64.map (Value.int .u8)).toArray)).modify 5 (withCells (acR.map (Value.int .u8)).toArray)).modify
   0 (withCells (signsL.map fun s => Value.string ⟨s.toArray⟩).toArray)).modify 4 (withCells (Pinned.utf8FirstZ.map fun (n : Nat) => Value.int .u8 (n : Int)).toArray) }
theorem laidWorld_met (os : Os) (args : Array Value) : laidMet Tryz.prog laidAll ((laidWorld os).forCall (fun _ _ => 0) ⟨#[], args, []⟩).memory :=
 laidMet_of_run' 8 (by kernel_rfl) (by kernel_rfl)
end Go.Proofs.YtpoiceejhcpnaaaGreatDoor
end

section
namespace Go.Proofs.YtpoiceejhcpnaaaGreatDoor
open Go.RowKit Go.Hs
set_option maxRecDepth 100000
theorem laidMet_tail {P : Program} {W : World} {x : String × DataW Unit} {r : List (String × DataW Unit)} (h : laidMet P (x :: r) W) : laidMet P r W := by
 obtain ⟨n, d⟩ := x
 obtain ⟨ps, ⟨g0, t0, cs0, f0, p0, q0, hg0, ht0, hv0, hd0, hq, e0⟩, hnd, hrows⟩ := h
 subst e0
 exact ⟨q0, hq, (List.nodup_append.1 hnd).2.1, fun b off hm => hrows b off (List.mem_append.2 (.inr hm))⟩
noncomputable def gE (m : Int) : Nat → V := fun g => if g = 1 then .view .old (.iface 238 (.view .old (.agg []))) else if g = 3 then .view .old (.agg (Lib.pow10Tab.map (V.int .u64)))
 else if g = 0 then .view .old (.agg (signsL.map V.str)) else if g = 2 then .view .old (.int .i64 m) else .top
theorem recolL_ints (f : Col → Col) : ∀ l : List Int, V.recolL f (l.map (V.int .u64)) = l.map (V.int .u64)
 | [] => rfl
 | x :: r => by simp only [List.map_cons, V.recolL]; rw [recolL_ints f r]; rfl
theorem recolL_strs (f : Col → Col) : ∀ l : List (List UInt8), V.recolL f (l.map V.str) = l.map V.str
 | [] => rfl
 | x :: r => by simp only [List.map_cons, V.recolL]; rw [recolL_strs f r]; rfl
theorem gE_ok (m : Int) : GExp (gE m) where
 ok := fun g => by
  unfold gE
  split
  ·exact ⟨rfl, .view _ _ fun x hx => by simp [V.cells] at hx; subst hx; exact .iface _ _ (.view _ _ fun x hx => by simp [V.cells] at hx)⟩
  ·split
   ·refine ⟨by simp only [V.recol, Col.ent, recolL_ints], .view _ _ fun x hx => ?_⟩
    obtain ⟨n, _, rfl⟩ := List.mem_map.1 hx
    exact .int _ _
   ·split
    ·refine ⟨by simp only [V.recol, Col.ent, recolL_strs], .view _ _ fun x hx => ?_⟩
     obtain ⟨n, _, rfl⟩ := List.mem_map.1 hx
     exact .str _
    ·split
     ·exact ⟨rfl, .view _ _ fun x hx => by simp [V.cells] at hx; subst hx; exact .int _ _⟩
     ·exact ⟨rfl, .top⟩
 er := ⟨_, _, _, rfl⟩
 tab := ⟨_, rfl⟩
 sg := ⟨_, rfl⟩
 ml := ⟨_, m, rfl⟩
theorem gE_old (m : Int) (g : Nat) : (gE m g).Old := by
 unfold gE
 split
 ·exact .view _ fun x hx => by simp [V.cells] at hx; subst hx; exact .iface _ _ (.view _ fun x hx => by simp [V.cells] at hx)
 ·split
  ·refine .view _ fun x hx => ?_
   obtain ⟨n, _, rfl⟩ := List.mem_map.1 hx
   exact .int _ _
  ·split
   ·refine .view _ fun x hx => ?_
    obtain ⟨n, _, rfl⟩ := List.mem_map.1 hx
    exact .str _
   ·split
    ·exact .view _ fun x hx => by simp [V.cells] at hx; subst hx; exact .int _ _
    ·exact .top
theorem gER : Tryz.prog.globalNamed "strconv.ErrRange" = some 1 := by kernel_rfl
theorem gERType : (Tryz.prog.globals[1]?).map (·.type) = some 136 := by kernel_rfl
theorem cells111 : Tryz.prog.cellsOf 240 = 1 := by kernel_rfl
theorem cells9 : Tryz.prog.cellsOf 9 = 1 := by kernel_rfl
theorem star : "*" ++ "errors.errorString" = "*errors.errorString" := by decide
theorem row109 (u : TypeId) (h : Tryz.prog.typeName? 3 u = some "*errors.errorString") : u = 238 :=
 typeName_ptr_named (nm := "errors.errorString") (by rw [star]; kernel_rfl) (by kernel_rfl) (by decide) u (by rw [star]; exact h)
theorem gTab : Tryz.prog.globalNamed "internal/strconv.uint64pow10" = some 3 := by kernel_rfl
theorem gTabType : ∃ t n, (Tryz.prog.globals[3]?).map (·.type) = some t ∧ Tryz.prog.underlying t = some (.array n 182) ∧ Tryz.prog.cellsOf t = n ∧ n = 20 := by
 refine ⟨(((Tryz.prog.globals[3]?).map (·.type)).getD 0), 20, by kernel_rfl, by kernel_rfl, by kernel_rfl, rfl⟩
theorem laid_tab {W : World} (h : laidMet Tryz.prog laidAll W) : Lib.TabIs Tryz.prog W "internal/strconv.uint64pow10" .u64 Lib.pow10Tab := by
 obtain ⟨t, n, h1, h2, h3, rfl⟩ := gTabType
 have e : (Rows.laid_internal_strconv_uint64pow10 : DataW Unit) = Lib.tabData .u64 Lib.pow10Tab := by rfl
 have h4 := laidMet_tail (laidMet_tail h)
 rw [e] at h4
 exact Lib.tabIs_of_head gTab h1 h2 Tryz.underlying182 (by kernel_rfl) h3 h4
theorem laid_err {W : World} (h : laidMet Tryz.prog laidAll W) : ∃ b off, W.cell? ⟨1, 0, none⟩ = some (.iface 238 (.pointer (some ⟨b, off, none⟩))) := by
 obtain ⟨a, s, h1, h2, _, _⟩ := laid_sentinel (laidMet_tail (laidMet_tail (laidMet_tail (laidMet_tail h)))) gER gERType Tryz.underlying136 row109 Tryz.underlying238 Tryz.underlying240 rfl rfl Tryz.underlying9 cells111 cells9
 have h0 := World.var?_cell gER h1 0
 have hs := World.cell?_spot h2
 obtain ⟨b, off, sp⟩ := a
 have hs : sp = none := hs
 subst hs
 exact ⟨b, off, by simpa using h0⟩
def strData {H : Type} (zs : List (List UInt8)) : DataW H := .agg (zs.map fun z => .lit (.string z))
theorem cells_of_strs {H : Type} {enc : TypeId × Value → H} {P : Program} {w : World} {base : Nat} {sp : Nat → Bool} {held : Bool} {fuel : Nat} {t e : TypeId} {n : Nat} {cs : List Value} {zs : List (List UInt8)} {p : List MemPlace}
  (ht : P.underlying t = some (.array n e)) (he : P.underlying e = some .string) (hce : P.cellsOf e = 1) (hct : P.cellsOf t = n)
  (h : DataW.trod enc P w base sp held fuel t cs = some (strData zs, p)) : cs.length = zs.length ∧ ∀ i (hi : i < zs.length), ∃ s : ByteArray, cs[i]? = some (.string s) ∧ s.data.toList = zs[i] := by
 cases fuel with
 | zero => simp [DataW.trod] at h
 | succ fuel =>
  simp only [DataW.trod, ht, hce, hct, Nat.mul_one] at h
  split at h
  ·rename_i hl
   obtain ⟨xs, hm, hx⟩ := Option.map_eq_some_iff.1 h
   have hxs : xs.map (·.1) = zs.map fun z => (DataW.lit (.string z) : DataW H) := by
    have := congrArg Prod.fst hx
    simpa [strData] using this
   have hxl : xs.length = n := by simpa using Lib.mapM_length hm
   have hzl : zs.length = n := by
    have := congrArg List.length hxs
    simp at this
    omega
   refine ⟨by omega, fun i hi => ?_⟩
   have hin : i < n := by omega
   obtain ⟨b, hb, hf⟩ := Lib.mapM_at hm i i (by simp [hin])
   obtain ⟨z, hc, rfl, _⟩ := DataW.trod_string he hf
   have h1 : cs[i]? = some (.string z) := by
    have := congrArg (·[0]?) hc
    simpa [List.getElem?_take, List.getElem?_drop] using this
   have h2 : (xs.map (·.1))[i]? = some (DataW.lit (.string z.data.toList) : DataW H) := by simp [hb]
   rw [hxs, List.getElem?_map, List.getElem?_eq_getElem hi] at h2
   refine ⟨z, h1, ?_⟩
   have h3 : (DataW.lit (.string zs[i]) : DataW H) = .lit (.string z.data.toList) := Option.some.inj h2
   injection h3 with h3
   injection h3 with h3
   exact h3.symm
  ·cases h
theorem gSg : Tryz.prog.globalNamed "hopscotch/lex.signs" = some 0 := by kernel_rfl
theorem gSgType : (Tryz.prog.globals[0]?).map (·.type) = some 148 := by kernel_rfl
theorem laid_signs {W : World} (h : laidMet Tryz.prog laidAll W) : ∃ cs : Array Value, W.var? Tryz.prog "hopscotch/lex.signs" = some cs ∧ cs.size = 14 ∧ ∀ i (hi : i < signsL.length), ∃ s : ByteArray, cs[i]? = some (.string s) ∧ s.data.toList = signsL[i] := by
 have e : (Rows.laid_hopscotch_lex_signs : DataW Unit) = strData signsL := by rfl
 have h4 := laidMet_tail (laidMet_tail (laidMet_tail (laidMet_tail (laidMet_tail (laidMet_tail h)))))
 rw [e] at h4
 obtain ⟨ps, ⟨g', t', cs, fuel, p, q, hg', ht', hvar, hd, _, _⟩, _⟩ := h4
 obtain rfl := Option.some.inj (gSg.symm.trans hg')
 obtain rfl := Option.some.inj (gSgType.symm.trans ht')
 obtain ⟨h1, h2⟩ := cells_of_strs Tryz.underlying148 Tryz.underlying9 cells9 (by kernel_rfl) hd
 refine ⟨_, hvar, (by simpa using h1 : cs.size = signsL.length).trans rfl, fun i hi => ?_⟩
 obtain ⟨s, h3, h4⟩ := h2 i hi
 exact ⟨s, by simpa using h3, h4⟩
theorem maxlen_of {W : World} (h : W.ShapedOpen Tryz.prog) : ∃ m, W.cell? ⟨2, 0, none⟩ = some (.int .i64 m) := by
 obtain ⟨cs, hh, hs, hr⟩ := h.1 2 #[.int .i64 0] 3 (of_decide_eq_true (by kernel_rfl)) (by kernel_rfl)
 obtain ⟨ts, hts, _, hall⟩ := hr (by kernel_rfl)
 rw [show Tryz.prog.cellTypes Tryz.prog.depth 3 = some [3] by kernel_rfl] at hts
 cases hts
 have h1 : 0 < cs.size := by rw [hs]; decide
 obtain ⟨u, hu', hok⟩ := hall 0 cs[0] (by simp [h1])
 have : u = 3 := by simpa using hu'.symm
 subst this
 have hcell : W.cell? ⟨2, 0, none⟩ = some cs[0] := by simp [World.cell?, hh, h1]
 rw [hcell]
 unfold Cell.ok at hok
 rw [Tryz.underlying3] at hok
 cases hv : cs[0] <;> rw [hv] at hok <;> first | (obtain ⟨rfl, _⟩ := hok; exact ⟨_, rfl⟩) | simp at hok
theorem laid_G {W : World} (h : laidMet Tryz.prog laidAll W) (hS : W.ShapedOpen Tryz.prog) : ∃ m, ∀ g, RelG (Cx.ofW W) g (gE m g) := by
 obtain ⟨m, hml⟩ := maxlen_of hS
 refine ⟨m, fun g => ?_⟩
 unfold gE
 split
 ·rename_i hg
  subst hg
  obtain ⟨b, off, h1⟩ := laid_err h
  refine ⟨?_, trivial⟩
  refine .view .old _ 1 0 (fun _ => .iface 238 (.pointer (some ⟨b, off, none⟩))) (fun i hi => ?_) (fun i hi => ?_)
  ·have : i = 0 := by simpa [V.cells] using hi
   subst this
   refine ⟨by show (W.cell? _).isSome = true; rw [h1]; rfl, World.block_lt_of_cell? _ _ h1, h1, rfl⟩
  ·have : i = 0 := by simpa [V.cells] using hi
   subst this
   exact .iface _ _ _ (.view .old _ b off (fun _ => .nilIface) (fun i hi => by simp [V.cells] at hi) (fun i hi => by simp [V.cells] at hi))
 ·split
  ·rename_i hg
   subst hg
   have ht := laid_tab h
   have hc : ∀ i (hi : i < Lib.pow10Tab.length), W.cell? ⟨3, i, none⟩ = some (.int .u64 (Lib.pow10Tab.getD i 0)) := fun i hi => ht.cell gTab i hi
   have hlen : Lib.pow10Tab.length = 20 := Lib.pow10Tab_length
   have hlt : 3 < W.heap.size := World.block_lt_of_cell? _ _ (hc 0 (by omega))
   have hv : W.var? Tryz.prog "internal/strconv.uint64pow10" = some (Lib.pow10Tab.map fun z => Value.int .u64 z).toArray := ht
   refine ⟨?_, ?_⟩
   ·refine .view .old _ 3 0 (fun i => .int .u64 (Lib.pow10Tab.getD i 0)) (fun i hi => ?_) (fun i hi => ?_)
    ·have hi : i < Lib.pow10Tab.length := by simpa [V.cells] using hi
     rw [Nat.zero_add]
     exact ⟨by show (W.cell? _).isSome = true; rw [hc i hi]; rfl, hlt, hc i hi, rfl⟩
    ·have hi' : i < Lib.pow10Tab.length := by simpa [V.cells] using hi
     have key : ∀ v, v = V.int .u64 (Lib.pow10Tab.getD i 0) → Rel (Cx.ofW W) (Value.int .u64 (Lib.pow10Tab.getD i 0)) v := fun v e => by rw [e]; exact .int _ _
     exact key _ (by simp [V.cells, List.getD, hi'])
   ·refine ⟨hlt, ?_⟩
    unfold World.var? at hv
    rw [gTab] at hv
    have hv : (match W.heap[3]? with | some (Obj.cells cs _ _) => some cs | _ => none) = some (Lib.pow10Tab.map fun z => Value.int .u64 z).toArray := hv
    split at hv
    ·rename_i cs t fr hh
     cases hv
     exact ⟨_, t, fr, hh, by simp⟩
    ·cases hv
  ·split
   ·rename_i hg
    subst hg
    obtain ⟨cs, hv, hsz, hcs⟩ := laid_signs h
    have h0 := fun i => World.var?_cell gSg hv i
    have hc : ∀ i (hi : i < signsL.length), ∃ s : ByteArray, W.cell? ⟨0, i, none⟩ = some (.string s) ∧ s.data.toList = signsL[i] := fun i hi => by
     obtain ⟨s, h1, h2⟩ := hcs i hi
     exact ⟨s, by rw [h0 i]; exact h1, h2⟩
    have hlt : 0 < W.heap.size := by
     obtain ⟨s, h1, _⟩ := hc 0 (by decide)
     exact World.block_lt_of_cell? _ _ h1
    refine ⟨?_, ?_⟩
    ·refine .view .old _ 0 0 (fun i => (cs[i]?).getD undef) (fun i hi => ?_) (fun i hi => ?_)
     ·have hi : i < signsL.length := by simpa [V.cells] using hi
      obtain ⟨s, h1, _⟩ := hcs i hi
      rw [Nat.zero_add, h1]
      have h2 : W.cell? ⟨0, i, none⟩ = some (.string s) := by rw [h0 i]; exact h1
      exact ⟨by show (W.cell? _).isSome = true; rw [h2]; rfl, hlt, h2, rfl⟩
     ·have hi' : i < signsL.length := by simpa [V.cells] using hi
      obtain ⟨s, h1, h2⟩ := hcs i hi'
      rw [h1]
      have key : ∀ v, v = V.str signsL[i] → Rel (Cx.ofW W) (Value.string s) v := fun v e => by rw [e]; exact .str _ _ h2
      exact key _ (by simp [V.cells])
    ·refine ⟨hlt, ?_⟩
     unfold World.var? at hv
     rw [gSg] at hv
     have hv : (match W.heap[0]? with | some (Obj.cells cs _ _) => some cs | _ => none) = some cs := hv
     split at hv
     ·rename_i cs' t fr hh
      cases hv
      exact ⟨_, t, fr, hh, by rw [hsz]; rfl⟩
     ·cases hv
   ·split
    ·rename_i hg
     subst hg
     refine ⟨?_, trivial⟩
     refine .view .old _ 2 0 (fun _ => .int .i64 m) (fun i hi => ?_) (fun i hi => ?_)
     ·have : i = 0 := by simpa [V.cells] using hi
      subst this
      refine ⟨by show (W.cell? _).isSome = true; rw [hml]; rfl, World.block_lt_of_cell? _ _ hml, hml, rfl⟩
     ·have : i = 0 := by simpa [V.cells] using hi
      subst this
      exact .int _ _
    ·exact ⟨.top _, trivial⟩
end Go.Proofs.YtpoiceejhcpnaaaGreatDoor
end

section
namespace Go.Proofs.YtpoiceejhcpnaaaGreatDoor
open Go.RowKit Go.Hs Go.ChangeShapes Go.WideShapes Go.ChangeAt
open Go.ChangeMaps (open_string shut_string)
set_option maxRecDepth 100000
theorem reads_str (W : World) : Reads Tryz.prog W 9 1 (fun s : List UInt8 => [V.str s]) := by
 refine ⟨by kernel_rfl, fun _ => rfl, fun enc held fuel cs x h => ?_⟩
 obtain ⟨s, rfl, _, _⟩ := DataW.trod_string Tryz.underlying9 h
 exact ⟨s.data.toList, RelC.cons rfl (.str _ _ rfl) RelC.nil⟩
theorem inK_of_wf {k : IntKind} {n : Int} (h : (Lit.int k n).wf = true) : InK k n := by
 simpa [Lit.wf, InK] using h
variable {W : World} {H : Type} {enc : TypeId × Value → H} {b0 : Nat} {v : Value} {d : DataW H} {ps : List MemPlace}
theorem argS (hv : Value.okWide Tryz.prog W .any b0 9 v) (h : DataW.Trod enc Tryz.prog W 0 (fun _ => true) true 9 v d ps) : ∃ x : List UInt8, Rel (Cx.ofW W) v (.str x) := by
 obtain ⟨s, rfl, _, _, _⟩ := open_string Tryz.underlying9 hv h
 exact ⟨_, .str s _ rfl⟩
theorem own : ownKnob Tryz.prog.godebug = none := by kernel_rfl
theorem laidOut : laidOutB Tryz.prog = true := by kernel_rfl
theorem lift_shaped {a : Assume} {C : Checked} {os : Os} {f : FuncId} {fn : Func} {H : Type} {enc : TypeId × Value → H} {s : ChangeSpec} {conds : List PathCond} {apart fresh handsOn again : Bool} {X : World → Array Value → Prop}
  (hX : ∀ (w w' : World) (args : Array Value), w.heap = w'.heap → X w args → X w' args)
  (ownk : ownKnob C.prog.godebug = none) (started : os.Started) (noInit : C.prog.inits.idxOf? f = none) (hfn : C.prog.funcs[f]? = some fn)
  (witness : ∃ (w : World) (tape : Tape) (i : Input), w.os = os ∧ (w.forCall tape i).Shaped C.prog ∧ i.vars = [] ∧ Input.okWide C.prog (w.forCall tape i) .any w.heap.size f i ∧
   ((s.pre enc C.prog fn conds apart (w.forCall tape i).memory i.args ∧ X (w.forCall tape i).memory i.args) ∧ sizedMet enc C.prog fn (OpenSpec.ofChange s) apart (w.forCall tape i).memory i.args) ∧ a.holds C.prog (lone (Frame.enter C.prog f i.args .normal) [] (w.forCall tape i)))
  (contract : ∀ (W : World) (base : Nat) (args : Array Value) (ds gs : List (DataW H)) (before : List MemPlace), W.ShapedOpen C.prog →
   (∀ (j : Nat) t v, fn.params[j]? = some t → args[j]? = some v → Value.okWide C.prog W .any base t v) →
   DataW.Whole enc C.prog fn.params.toList s.vars apart W args.toList ds gs before → X W args →
   Calls C.prog f args W fun e W' => ∃ v, e = .returned v ∧ s.post enc C.prog fn apart fresh handsOn again W args v W') :
  ReturnsInHanded a C os f .any (fun w args => (s.pre enc C.prog fn conds apart w args ∧ X w args) ∧ sizedMet enc C.prog fn (OpenSpec.ofChange s) apart w args) (s.post enc C.prog fn apart fresh handsOn again) := by
 refine returnsInHanded_of_calls ownk started noInit witness ?_
 intro w tape i _ hsh _ hok hpre _
 obtain ⟨_, _, _, fn', hfn', _, _, _, _, hval⟩ := hok
 have e : fn' = fn := Option.some.inj (hfn'.symm.trans hfn)
 subst e
 obtain ⟨⟨⟨ds, gs, before, hw, _⟩, hx⟩, _⟩ := hpre
 have hw' := DataW.Whole.of_heap (w' := w.forCall tape i) (by rfl) hw
 refine (contract (w.forCall tape i) w.heap.size i.args ds gs before hsh hval hw' (hX _ _ _ (by rfl) hx)).mono fun e W' ⟨v, he, hp⟩ => ?_
 subst he
 exact ChangeSpec.post_blind hp
end Go.Proofs.YtpoiceejhcpnaaaGreatDoor
end

section
namespace Go.Proofs.YtpoiceejhcpnaaaGreatDoor
open Go.RowKit Go.Hs Go.ChangeShapes Go.WideShapes Go.ChangeAt
set_option maxRecDepth 100000
abbrev XNb := { n : XN // InK .i64 n.num }
theorem reads_xnb (W : World) : Reads Tryz.prog W 41 6 (fun n : XNb => (encXN n.1).cells) := by
 refine ⟨by kernel_rfl, fun _ => rfl, fun enc held fuel cs x h => ?_⟩
 obtain ⟨xs, n, _, _, hl, hlen, hf⟩ := DataW.trod_struct Tryz.underlying41 h
 have e43 : Tryz.prog.cellsOf 41 = 6 := by kernel_rfl
 rw [e43] at hl
 have hx : xs.length = 6 := hlen
 have rI : Reads Tryz.prog W 2 1 (fun n : { n : Int // InK .i64 n } => [V.int .i64 n.1]) := by
  refine ⟨by kernel_rfl, fun _ => rfl, fun enc held fuel cs x h => ?_⟩
  obtain ⟨n, rfl, _, hw⟩ := DataW.trod_int Tryz.underlying2 h
  exact ⟨⟨n, inK_of_wf hw⟩, RelC.cons rfl (.int _ _) RelC.nil⟩
 obtain ⟨op, h0⟩ := Reads.field (Reads.int (W := W) Tryz.underlying5 (by kernel_rfl)) (i := 0) (hf 0 _ rfl) (by omega)
 obtain ⟨num, h1⟩ := Reads.field rI (i := 1) (hf 1 _ rfl) (by omega)
 obtain ⟨name, h2⟩ := Reads.field (reads_str W) (i := 2) (hf 2 _ rfl) (by omega)
 obtain ⟨a, h3⟩ := Reads.field (Reads.int (W := W) Tryz.underlying3 (by kernel_rfl)) (i := 3) (hf 3 _ rfl) (by omega)
 obtain ⟨b, h4⟩ := Reads.field (Reads.int (W := W) Tryz.underlying3 (by kernel_rfl)) (i := 4) (hf 4 _ rfl) (by omega)
 obtain ⟨c, h5⟩ := Reads.field (Reads.int (W := W) Tryz.underlying3 (by kernel_rfl)) (i := 5) (hf 5 _ rfl) (by omega)
 match cs, hl with
 | [c0, c1, c2, c3, c4, c5], _ => exact ⟨⟨⟨op, num.1, name, a, b, c⟩, num.2⟩, h0.append (h1.append (h2.append (h3.append (h4.append h5))))⟩
theorem reads_xnbs (W : World) : Reads Tryz.prog W 22 1 (fun s : Sl XNb => [encSl .any 6 (fun n : XNb => encXN n.1) s]) :=
 Reads.slice Tryz.underlying22 (by kernel_rfl) (by decide) (reads_xnb W)
theorem reads_exprb (W : World) : Reads Tryz.prog W 24 1 (fun s : Sl XNb => (V.agg [encSl .any 6 (fun n : XNb => encXN n.1) s]).cells) := by
 refine ⟨by kernel_rfl, fun _ => rfl, fun enc held fuel cs x h => ?_⟩
 obtain ⟨xs, n, _, _, hl, hlen, hf⟩ := DataW.trod_struct Tryz.underlying24 h
 have e24 : Tryz.prog.cellsOf 24 = 1 := by kernel_rfl
 rw [e24] at hl
 have hx : xs.length = 1 := hlen
 obtain ⟨s, h0⟩ := Reads.field (reads_xnbs W) (i := 0) (hf 0 _ rfl) (by omega)
 match cs, hl with
 | [c0], _ => exact ⟨s, h0⟩
def unX : Sl XNb → Sl XN
 | .nil => .nil
 | .mk b l => .mk b (l.map (·.1))
theorem unX_in (s : Sl XNb) : ∀ n ∈ (unX s).l, InK .i64 n.num := by
 cases s with
 | nil => intro x hx; cases hx
 | mk b l =>
  intro x hx
  obtain ⟨y, _, rfl⟩ := List.mem_map.1 hx
  exact y.2
theorem unX_enc (c : Col) (s : Sl XNb) : encSl c 6 (fun n : XNb => encXN n.1) s = encSl c 6 encXN (unX s) := by
 cases s with
 | nil => rfl
 | mk b l => simp only [encSl, unX, List.map_map]; rfl
theorem reads_tk (W : World) : Reads Tryz.prog W 60 3 (fun n : Tk => (encTk n).cells) := by
 refine ⟨by kernel_rfl, fun _ => rfl, fun enc held fuel cs x h => ?_⟩
 obtain ⟨xs, n, _, _, hl, hlen, hf⟩ := DataW.trod_struct Tryz.underlying60 h
 have e43 : Tryz.prog.cellsOf 60 = 3 := by kernel_rfl
 rw [e43] at hl
 have hx : xs.length = 3 := hlen
 obtain ⟨k, h0⟩ := Reads.field (Reads.int (W := W) Tryz.underlying5 (by kernel_rfl)) (i := 0) (hf 0 _ rfl) (by omega)
 obtain ⟨t, h1⟩ := Reads.field (reads_str W) (i := 1) (hf 1 _ rfl) (by omega)
 obtain ⟨p, h2⟩ := Reads.field (Reads.int (W := W) Tryz.underlying3 (by kernel_rfl)) (i := 2) (hf 2 _ rfl) (by omega)
 match cs, hl with
 | [c0, c1, c2], _ => exact ⟨⟨k, t, p⟩, h0.append (h1.append h2)⟩
theorem reads_tks (W : World) : Reads Tryz.prog W 57 1 (fun s : Sl Tk => [encSl .any 3 encTk s]) :=
 Reads.slice Tryz.underlying57 (by kernel_rfl) (by decide) (reads_tk W)
variable {W : World} {H : Type} {enc : TypeId × Value → H} {b0 : Nat} {v : Value} {d : DataW H} {ps : List MemPlace}
theorem argE (hv : Value.okWide Tryz.prog W .any b0 24 v) (h : DataW.Trod enc Tryz.prog W 0 (fun _ => true) true 24 v d ps) : ∃ x : Sl XN, (∀ n ∈ x.l, InK .i64 n.num) ∧ Rel (Cx.ofW W) v (.agg [encSl .old 6 encXN x]) := by
 obtain ⟨fuel, h⟩ := h
 obtain ⟨x, hx⟩ := (reads_exprb W).2.2 enc true fuel _ _ h
 have key : Rel (Cx.ofW W) v (.agg [encSl .any 6 encXN (unX x)]) := by
  rw [← unX_enc]
  unfold Value.okWide at hv
  rw [Tryz.underlying24] at hv
  obtain ⟨cs, rfl, _, _⟩ := hv
  have hx' : RelC (Cx.ofW W) (Value.agg cs).cells.toList [encSl .any 6 (fun n : XNb => encXN n.1) x] := hx
  exact Rel.of_aggC hx'
 have h2 := key.ofW_old
 refine ⟨unX x, unX_in x, ?_⟩
 simpa only [go_sem, recol_xns, List.map_cons, List.map_nil] using h2
theorem argT (hv : Value.okWide Tryz.prog W .any b0 57 v) (h : DataW.Trod enc Tryz.prog W 0 (fun _ => true) true 57 v d ps) : ∃ x : Sl Tk, Rel (Cx.ofW W) v (encSl .old 3 encTk x) := by
 obtain ⟨fuel, h⟩ := h
 obtain ⟨x, hx⟩ := (reads_tks W).2.2 enc true fuel _ _ h
 have key : Rel (Cx.ofW W) v (encSl .any 3 encTk x) := by
  unfold Value.okWide at hv
  rw [Tryz.underlying57] at hv
  have hc : v.cells = #[v] := by
   unfold Cell.okWide Cell.ok at hv
   rw [Tryz.underlying57] at hv
   cases v <;> first | rfl | (simp at hv)
  rw [hc] at hx
  exact hx.rel 0 (by simp) (by simp)
 have h2 := key.ofW_old
 refine ⟨x, ?_⟩
 simpa only [go_sem, recol_tks, List.map_cons, List.map_nil] using h2
end Go.Proofs.YtpoiceejhcpnaaaGreatDoor
end

section
namespace Go.Hs
open Go.Proofs
set_option maxRecDepth 10000
theorem lExprChecks (G : Nat → V) (hE : GExp G) (s : Sl XN) (hnum : ∀ n ∈ s.l, n.num ≤ 9223372036854775807) :
  Spec Tryz.prog G 10 [.agg [encSl .old 6 encXN s]] hNone (fun v _ => v = .bool true) := by
 have hG := hE.ok
 refine Spec.of_code' 0 59 [.tmp 2] Tryz.func10 rfl rfl rfl rfl fun X => ?_
 refine AW.seq_k fun K hK => AW.region (by kernel_rfl) ?_
 simp -implicitDefEqProofs only[go_sem,seval,↓reduceIte]
 intro g1
 refine hK _ ?_
 clear hK K
 refine AW.seq_k fun K1 hK1 => ?_
 refine AW.seq_k fun K hK => AW.region (by kernel_rfl) ?_
 simp -implicitDefEqProofs only[go_sem,seval,↓reduceIte]
 refine CallA.pure hG (by kernel_rfl) ?_
 simp -implicitDefEqProofs only[go_sem,seval,↓reduceIte, recol_xns]
 refine (vFew_spec G hG _ s).mono ?_
 rintro _ _ rfl
 simp -implicitDefEqProofs only[go_sem,seval,↓reduceIte]
 refine hK _ ?_
 clear hK K
 cases hf : fewE s.l with
 | false =>
  refine AW.condS (by simp -implicitDefEqProofs only[go_sem,seval,↓reduceIte]; rfl) (fun h10 => ?_) (fun h10 => ?_)
  rotate_left
  ·cases h10
  refine AW.seq_k fun K hK => AW.region (by kernel_rfl) ?_
  simp -implicitDefEqProofs only[go_sem,seval,↓reduceIte]
  refine CallA.pure hG (by kernel_rfl) ?_
  simp -implicitDefEqProofs only[go_sem,seval,↓reduceIte, List.map_nil]
  refine (vWorks_spec G hE).mono ?_
  rintro _ _ rfl
  simp -implicitDefEqProofs only[go_sem,seval,↓reduceIte]
  refine hK _ ?_
  clear hK K
  refine AW.ret ?_
  simp -implicitDefEqProofs only[go_sem,seval,↓reduceIte]
  refine endK_some ?_
  rfl
 | true =>
 refine AW.condS (by simp -implicitDefEqProofs only[go_sem,seval,↓reduceIte]; rfl) (fun h10 => ?_) (fun h10 => ?_)
 ·cases h10
 refine AW.skip ?_
 simp -implicitDefEqProofs only[go_sem,seval,↓reduceIte]
 refine hK1 _ ?_
 obtain ⟨hl, hn70⟩ := fewE_true hf
 have hs : s.l.length < 1000 := by omega
 have hnm : ∀ n ∈ s.l, n.name.length < 100000 := fun n hn => by have := hn70 n hn; omega
 refine AW.seq_k fun K hK => AW.region (by kernel_rfl) ?_
 simp -implicitDefEqProofs only[go_sem,seval,↓reduceIte]
 refine CallA.pure hG (by kernel_rfl) ?_
 simp -implicitDefEqProofs only[go_sem,seval,↓reduceIte, recol_xns]
 refine (vRef_spec G hG _ s (by omega)).mono ?_
 rintro _ _ rfl
 simp -implicitDefEqProofs only[go_sem,seval,↓reduceIte, encXs, recol_xns]
 refine hK _ ?_
 clear hK K
 have hgl : (grownS s.l).l = s.l := grownS_l _
 refine AW.seq_k fun K hK => AW.region (by kernel_rfl) ?_
 simp -implicitDefEqProofs only[go_sem,seval,↓reduceIte]
 refine CallA.pure hG (by kernel_rfl) ?_
 simp -implicitDefEqProofs only[go_sem,seval,↓reduceIte, recol_xns]
 refine (xPrint_spec G hE _ s hs hnm hnum).mono ?_
 rintro _ _ ⟨r, rfl, hr⟩
 simp -implicitDefEqProofs only[go_sem,seval,↓reduceIte, encPr]
 refine hK _ ?_
 clear hK K
 refine AW.seq_k fun K hK => AW.region (by kernel_rfl) ?_
 simp -implicitDefEqProofs only[go_sem,seval,↓reduceIte]
 refine CallA.pure hG (by kernel_rfl) ?_
 simp -implicitDefEqProofs only[go_sem,seval,↓reduceIte, recol_xns]
 refine (rPrintA_spec G hG _ (grownS s.l) (by rw [hgl]; exact hs) (by rw [hgl]; exact hnm) (by rw [hgl]; exact hnum)).mono ?_
 rintro _ _ ⟨r2, rfl, hr2⟩
 rw [hgl] at hr2
 obtain rfl : r2 = r := by
  by_cases hc : checkP s.l = 0
  ·obtain ⟨x, hx, hlx, _⟩ := checkP_ok hc
   rw [hr.2 x hx hlx hc, hr2.2 x hx hlx hc]
  ·rw [hr.1 hc, hr2.1 hc]
 obtain ⟨t, e⟩ := r2
 simp -implicitDefEqProofs only[go_sem,seval,↓reduceIte, encPr]
 refine hK _ ?_
 clear hK K
 have e1 : (t == t) = true := by simp
 have e2 : (e == e) = true := by simp
 have e3 : (checkP s.l == checkP s.l) = true := by simp
 have e4 : (depthP s.l == depthP s.l) = true := by simp
 have e5 : (s.l == s.l) = true := by simp
 refine AW.seq_k fun K hK => AW.region (by kernel_rfl) ?_
 simp -implicitDefEqProofs only[go_sem,seval,↓reduceIte, e1, e2]
 refine CallA.pure hG (by kernel_rfl) ?_
 simp -implicitDefEqProofs only[go_sem,seval,↓reduceIte, recol_xns]
 refine (xCheck_spec G hE _ s (by omega) hnm).mono ?_
 rintro _ _ rfl
 simp -implicitDefEqProofs only[go_sem,seval,↓reduceIte]
 refine CallA.pure hG (by kernel_rfl) ?_
 simp -implicitDefEqProofs only[go_sem,seval,↓reduceIte, recol_xns]
 refine (rCheck_spec G hG _ (grownS s.l) (by rw [hgl]; omega) (by rw [hgl]; exact hnm)).mono ?_
 rintro _ _ rfl
 rw [hgl]
 simp -implicitDefEqProofs only[go_sem,seval,↓reduceIte, e3]
 refine CallA.pure hG (by kernel_rfl) ?_
 simp -implicitDefEqProofs only[go_sem,seval,↓reduceIte, recol_xns]
 refine (xDepth_spec G hE _ s (by omega) hnm).mono ?_
 rintro _ _ rfl
 simp -implicitDefEqProofs only[go_sem,seval,↓reduceIte]
 refine CallA.pure hG (by kernel_rfl) ?_
 simp -implicitDefEqProofs only[go_sem,seval,↓reduceIte, recol_xns]
 refine (rDepthN_spec G hG _ (grownS s.l) (by rw [hgl]; omega) (by rw [hgl]; exact hnm)).mono ?_
 rintro _ _ rfl
 rw [hgl]
 simp -implicitDefEqProofs only[go_sem,seval,↓reduceIte, e4]
 refine CallA.pure hG (by kernel_rfl) ?_
 simp -implicitDefEqProofs only[go_sem,seval,↓reduceIte, recol_xns]
 refine (xSame_spec G hG _ _ s s (by omega)).mono ?_
 rintro _ _ rfl
 rw [e5]
 simp -implicitDefEqProofs only[go_sem,seval,↓reduceIte]
 refine CallA.pure hG (by kernel_rfl) ?_
 simp -implicitDefEqProofs only[go_sem,seval,↓reduceIte, recol_xns]
 refine (vSame_spec G hG _ _ s (grownS s.l) (by omega)).mono ?_
 rintro _ _ rfl
 rw [hgl, e5]
 simp -implicitDefEqProofs only[go_sem,seval,↓reduceIte]
 refine CallA.pure hG (by kernel_rfl) ?_
 simp -implicitDefEqProofs only[go_sem,seval,↓reduceIte, List.map_nil]
 refine (vWorks_spec G hE).mono ?_
 rintro _ _ rfl
 simp -implicitDefEqProofs only[go_sem,seval,↓reduceIte]
 refine hK _ ?_
 clear hK K
 refine AW.ret ?_
 simp -implicitDefEqProofs only[go_sem,seval,↓reduceIte]
 refine endK_some ?_
 rfl
theorem lExprFrom (G : Nat → V) (hE : GExp G) (s : Sl Tk) :
  Spec Tryz.prog G 9 [encSl .old 3 encTk s] hNone (fun v _ => v = .bool true) := by
 have hG := hE.ok
 refine Spec.of_code' 0 76 [.tmp 2] Tryz.func9 rfl rfl rfl rfl fun X => ?_
 refine AW.seq_k fun K hK => AW.region (by kernel_rfl) ?_
 simp -implicitDefEqProofs only[go_sem,seval,↓reduceIte]
 refine hK _ ?_
 clear hK K
 refine AW.seq_k fun K1 hK1 => ?_
 refine AW.seq_k fun K hK => AW.region (by kernel_rfl) ?_
 simp -implicitDefEqProofs only[go_sem,seval,↓reduceIte]
 refine hK _ ?_
 clear hK K
 by_cases hl : s.l.length > 80
 ·have q1 : decide (((s.l.length : Nat) : Int) > 80) = true := by rw [decide_eq_true_iff]; omega
  rw [q1]
  refine AW.condS (by simp -implicitDefEqProofs only[go_sem,seval,↓reduceIte]; rfl) (fun h13 => ?_) (fun h13 => ?_)
  rotate_left
  ·cases h13
  refine AW.seq_k fun K hK => AW.region (by kernel_rfl) ?_
  simp -implicitDefEqProofs only[go_sem,seval,↓reduceIte]
  refine CallA.pure hG (by kernel_rfl) ?_
  simp -implicitDefEqProofs only[go_sem,seval,↓reduceIte, List.map_nil]
  refine (vWorks_spec G hE).mono ?_
  rintro _ _ rfl
  simp -implicitDefEqProofs only[go_sem,seval,↓reduceIte]
  refine hK _ ?_
  clear hK K
  refine AW.ret ?_
  simp -implicitDefEqProofs only[go_sem,seval,↓reduceIte]
  refine endK_some ?_
  rfl
 have q1 : decide (((s.l.length : Nat) : Int) > 80) = false := by rw [decide_eq_false_iff_not]; omega
 rw [q1]
 refine AW.condS (by simp -implicitDefEqProofs only[go_sem,seval,↓reduceIte]; rfl) (fun h13 => ?_) (fun h13 => ?_)
 ·cases h13
 refine AW.skip ?_
 simp -implicitDefEqProofs only[go_sem,seval,↓reduceIte]
 refine hK1 _ ?_
 refine AW.seq_k fun K hK => AW.region (by kernel_rfl) ?_
 simp -implicitDefEqProofs only[go_sem,seval,↓reduceIte]
 refine hK _ ?_
 clear hK K
 refine AW.seq_k fun K2 hK2 => ?_
 refine AW.seq_k fun K hK => AW.region (by kernel_rfl) ?_
 simp -implicitDefEqProofs only[go_sem,seval,↓reduceIte]
 refine hK _ ?_
 clear hK K
 refine AW.block ?_
 refine AW.for s.l.length (fun k (gx : Nat) => st [(0, encSl .old 3 encTk s), (3, grown 47 gx 3 (s.l.take k)), (4, .int .i64 k)] [(47, grownO gx encTk (s.l.take k))])
  (fun k _ => ∀ t ∈ s.l.take k, t.text.length ≤ 70) 0 0 (Nat.zero_le _) (fun t ht => by cases ht)
  (Weak.st (by simp -implicitDefEqProofs only[go_sem,seval,↓reduceIte]; try rfl) (by simp -implicitDefEqProofs only[go_sem,seval,↓reduceIte]; try rfl)) ?_
 intro k gx hk hR L3 hL3
 refine AW.seq_k fun K4 hK4 => ?_
 refine AW.seq_k fun K hK => AW.region (by kernel_rfl) ?_
 simp -implicitDefEqProofs only[go_sem,seval,↓reduceIte]
 refine hK _ ?_
 clear hK K
 refine AW.condS (by simp -implicitDefEqProofs only[go_sem,seval,↓reduceIte]; rfl) (fun h18 => ?_) (fun h18 => ?_)
 ·have hk1 : k < s.l.length := by simpa using h18
  have hg := List.getElem?_eq_getElem hk1
  have htk : s.l.take (k + 1) = s.l.take k ++ [s.l[k]] := by rw [List.take_succ_eq_append_getElem hk1]
  have hlt : (s.l.take k).length = k := by rw [List.length_take]; omega
  generalize s.l[k] = t at hg htk
  generalize s.l.take k = ts at htk hlt hR ⊢
  refine AW.skip ?_
  simp -implicitDefEqProofs only[go_sem,seval,↓reduceIte]
  refine hK4 _ ?_
  refine AW.seq_k fun K5 hK5 => ?_
  refine AW.block ?_
  refine AW.seq_k fun K6 hK6 => ?_
  by_cases ht : t.text.length > 70
  ·have q2 : decide (((t.text.length : Nat) : Int) > 70) = true := by rw [decide_eq_true_iff]; omega
   refine AW.seq_k fun K hK => AW.region (by kernel_rfl) ?_
   simp -implicitDefEqProofs only[go_sem,seval,↓reduceIte, hg, encTk_K, q2]
   refine hK _ ?_
   clear hK K
   refine AW.condS (by simp -implicitDefEqProofs only[go_sem,seval,↓reduceIte]; rfl) (fun h27 => ?_) (fun h27 => ?_)
   rotate_left
   ·cases h27
   refine AW.seq_k fun K hK => AW.region (by kernel_rfl) ?_
   simp -implicitDefEqProofs only[go_sem,seval,↓reduceIte]
   refine CallA.pure hG (by kernel_rfl) ?_
   simp -implicitDefEqProofs only[go_sem,seval,↓reduceIte, List.map_nil]
   refine (vWorks_spec G hE).mono ?_
   rintro _ _ rfl
   simp -implicitDefEqProofs only[go_sem,seval,↓reduceIte]
   refine hK _ ?_
   clear hK K
   refine AW.ret ?_
   simp -implicitDefEqProofs only[go_sem,seval,↓reduceIte]
   refine endK_some ?_
   rfl
  have q2 : decide (((t.text.length : Nat) : Int) > 70) = false := by rw [decide_eq_false_iff_not]; omega
  refine AW.seq_k fun K hK => AW.region (by kernel_rfl) ?_
  simp -implicitDefEqProofs only[go_sem,seval,↓reduceIte, hg, encTk_K, q2]
  refine hK _ ?_
  clear hK K
  refine AW.condS (by simp -implicitDefEqProofs only[go_sem,seval,↓reduceIte]; rfl) (fun h27 => ?_) (fun h27 => ?_)
  ·cases h27
  refine AW.skip ?_
  simp -implicitDefEqProofs only[go_sem,seval,↓reduceIte]
  refine hK6 _ ?_
  refine AW.regionT ⟨fun _ => .top, fun _ => .pure⟩ (by kernel_rfl) hG (by kernel_rfl) (by kernel_rfl) ?_
  simp -implicitDefEqProofs only[go_sem,seval,↓reduceIte, hg, encTk_K]
  intro g46
  refine app_grown (f := encTk) (l := ts) (l2 := [t]) (g := gx) encTk_cells rfl rfl rfl (by simp -implicitDefEqProofs only[go_sem,seval,↓reduceIte]; try rfl) (roomOk_of (by omega) (by simp; omega)) fun g2 => ?_
  simp -implicitDefEqProofs only[go_sem,seval,↓reduceIte]
  refine hK5 _ ?_
  refine AW.region (by kernel_rfl) ?_
  simp -implicitDefEqProofs only[go_sem,seval,↓reduceIte]
  refine hL3 _ ⟨hk1, g2, ?_, Weak.st (by rw [htk]; simp -implicitDefEqProofs only[go_sem,seval,↓reduceIte]; exact congrArg _ (w64 (by omega) (by omega))) (by rw [htk]; simp -implicitDefEqProofs only[go_sem,seval,↓reduceIte]; try rfl)⟩
  intro t' ht'
  rw [htk] at ht'
  rcases List.mem_append.1 ht' with q | q
  ·exact hR t' q
  ·rw [List.mem_singleton.1 q]; omega
 ·have hk1 : k = s.l.length := by simp at h18; omega
  refine AW.exit ?_
  simp -implicitDefEqProofs only[go_sem,seval,↓reduceIte]
  refine hK2 _ ?_
  rw [hk1, List.take_length] at hR ⊢
  have hT : TkOk s.l := ⟨by omega, fun t ht => by have := hR t ht; omega⟩
  have hgl : (grownS s.l).l = s.l := grownS_l _
  refine AW.weak (Weak.stF (fun o => o == 47) (l := [(0, encSl .old 3 encTk s), (3, encSl .new 3 encTk (grownS s.l))]) (m := []) ?_ trivial) ?_
  ·simp -implicitDefEqProofs only[go_sem,seval,↓reduceIte]
   exact ⟨Fz.same _, Fz.grown rfl rfl encTk_cells⟩
  have hx := fun c => xFrom_spec G hE c s hT
  have hr := fun c => rFrom_spec G hG c (grownS s.l) (by rw [hgl]; exact hT)
  have hfl : (fromP s.l).1.length < 1000000 := by
   have hok := ((climbP_bal s.l (s.l.length + 1) 1 ⟨0, [], 0⟩).ok ⟨Nat.zero_le _, Nat.le_refl _⟩)
   unfold fromP
   split
   ·show (0 : Nat) < _; omega
   ·split
    ·show (0 : Nat) < _; omega
    ·have h1 := hok.1; have h2 := hok.2
     show (climbP _ _ _ _).2.nodes.length < _
     omega
  simp only [hgl] at hr
  generalize fromP s.l = p at hx hr hfl
  obtain ⟨ns, i, e⟩ := p
  simp only at hfl
  refine AW.seq_k fun K hK => AW.region (by kernel_rfl) ?_
  simp -implicitDefEqProofs only[go_sem,seval,↓reduceIte]
  refine CallA.pure hG (by kernel_rfl) ?_
  simp -implicitDefEqProofs only[go_sem,seval,↓reduceIte, recol_tks]
  refine (hx _).mono ?_
  rintro _ _ rfl
  simp -implicitDefEqProofs only[go_sem,seval,↓reduceIte, encFr, encXs, recol_xns]
  intro g5
  refine hK _ ?_
  clear hK K
  refine AW.seq_k fun K hK => AW.region (by kernel_rfl) ?_
  simp -implicitDefEqProofs only[go_sem,seval,↓reduceIte]
  refine CallA.pure hG (by kernel_rfl) ?_
  simp -implicitDefEqProofs only[go_sem,seval,↓reduceIte, recol_tks]
  refine (hr _).mono ?_
  rintro _ _ rfl
  simp -implicitDefEqProofs only[go_sem,seval,↓reduceIte, encRr, encXs, recol_xns]
  refine hK _ ?_
  clear hK K
  have e5 : ((grownS ns).l == (grownS ns).l) = true := by simp
  have e1 : (i == i) = true := by simp
  have e2 : (e == e) = true := by simp
  refine AW.seq_k fun K hK => AW.region (by kernel_rfl) ?_
  simp -implicitDefEqProofs only[go_sem,seval,↓reduceIte]
  refine CallA.pure hG (by kernel_rfl) ?_
  simp -implicitDefEqProofs only[go_sem,seval,↓reduceIte, recol_xns]
  refine (vSame_spec G hG _ _ (grownS ns) (grownS ns) (by rw [grownS_l]; exact hfl)).mono ?_
  rintro _ _ rfl
  rw [e5]
  simp -implicitDefEqProofs only[go_sem,seval,↓reduceIte, e1, e2]
  refine CallA.pure hG (by kernel_rfl) ?_
  simp -implicitDefEqProofs only[go_sem,seval,↓reduceIte, List.map_nil]
  refine (vWorks_spec G hE).mono ?_
  rintro _ _ rfl
  simp -implicitDefEqProofs only[go_sem,seval,↓reduceIte]
  refine hK _ ?_
  clear hK K
  refine AW.ret ?_
  simp -implicitDefEqProofs only[go_sem,seval,↓reduceIte]
  refine endK_some ?_
  rfl
end Go.Hs
end

section
namespace Go.Hs
open Go.Proofs
set_option maxRecDepth 10000
def shXn : Nat → Sh
 | 0 => .int .u8
 | 2 => .str
 | _ => .int .i64
def shXs (M : Nat) : Sh := .row true 6 M shXn
theorem shXn_free (i : Nat) : (shXn i).free := by
 match i with
 | 0 => trivial
 | 1 => trivial
 | 2 => trivial
 | n + 3 => trivial
theorem shXs_of {M : Nat} {s : Sl XN} (h : s.l.length ≤ M) : ShV .new .new (shXs M) (encSl .new 6 encXN s) := by
 cases s with
 | nil => exact .inl rfl
 | mk b l =>
  refine .inr ⟨b, l.map encXN, rfl, by rw [List.length_map]; exact h, ?_⟩
  intro u hu
  obtain ⟨n, _, rfl⟩ := List.mem_map.1 hu
  refine ⟨rfl, rfl, fun i hi => ?_⟩
  have hi : i < 6 := hi
  match i, hi with
  | 0, _ => exact ⟨n.op, rfl⟩
  | 1, _ => exact ⟨n.num, rfl⟩
  | 2, _ => exact ⟨n.name, rfl⟩
  | 3, _ => exact ⟨n.a, rfl⟩
  | 4, _ => exact ⟨n.b, rfl⟩
  | 5, _ => exact ⟨n.c, rfl⟩
theorem shXs_to {M : Nat} {v : V} (h : ShV .new .new (shXs M) v) : ∃ s : Sl XN, v = encSl .new 6 encXN s ∧ s.l.length ≤ M := by
 rcases h with rfl | ⟨clip, l, rfl, hl, hu⟩
 ·exact ⟨.nil, rfl, Nat.zero_le _⟩
 ·have : ∃ ns : List XN, l = ns.map encXN := by
   clear hl
   induction l with
   | nil => exact ⟨[], rfl⟩
   | cons u r ih =>
    obtain ⟨ns, rfl⟩ := ih fun x hx => hu x (by simp [hx])
    obtain ⟨h1, h2, h3⟩ := hu u (by simp)
    obtain ⟨a, ha⟩ := h3 0 (by omega)
    obtain ⟨b, hb⟩ := h3 1 (by omega)
    obtain ⟨c, hc⟩ := h3 2 (by omega)
    obtain ⟨d, hd⟩ := h3 3 (by omega)
    obtain ⟨e, he⟩ := h3 4 (by omega)
    obtain ⟨f, hf⟩ := h3 5 (by omega)
    refine ⟨⟨a, b, c, d, e, f⟩ :: ns, ?_⟩
    have hcl : u.cells = [.int .u8 a, .int .i64 b, .str c, .int .i64 d, .int .i64 e, .int .i64 f] := by
     refine List.ext_getElem h1 fun i k1 k2 => ?_
     have k3 : i < 6 := by omega
     match i, k3 with
     | 0, _ => exact ha
     | 1, _ => exact hb
     | 2, _ => exact hc
     | 3, _ => exact hd
     | 4, _ => exact he
     | 5, _ => exact hf
    rw [h2, hcl]; rfl
  obtain ⟨ns, rfl⟩ := this
  exact ⟨.mk clip ns, rfl, by rw [List.length_map] at hl; exact hl⟩
def shXp (M : Nat) : Sh := .ptr true false 1 (fun _ => shXs M)
theorem shXp_free (M : Nat) : (shXp M).free := ⟨rfl, fun _ _ i _ => shXn_free i⟩
theorem shXp_of {M : Nat} {s : Sl XN} (h : s.l.length ≤ M) : ShV .new .new (shXp M) (.view .new (.agg [encSl .new 6 encXN s])) := by
 refine ⟨.agg [encSl .new 6 encXN s], rfl, rfl, rfl, fun i hi => ?_⟩
 have : i = 0 := by simp [V.cells] at hi; omega
 subst this
 exact shXs_of h
theorem shXp_to {M : Nat} {v : V} (h : ShV .new .new (shXp M) v) : ∃ s : Sl XN, v = .view .new (.agg [encSl .new 6 encXN s]) ∧ s.l.length ≤ M := by
 obtain ⟨u, rfl, h1, h2, h3⟩ := h
 obtain ⟨s, hs, hl⟩ := shXs_to (h3 0 (by omega))
 have hc : u.cells = [encSl .new 6 encXN s] := by
  match hq : u.cells, h1 with
  | [y], _ =>
   have : u.cells[0]'(by omega) = y := by simp [hq]
   rw [this] at hs
   rw [hs]
 rw [h2, hc]
 exact ⟨s, rfl, hl⟩
theorem exprP_bnd8 {s : List UInt8} (hs : s.length < 100000) : (exprP s).1.length < 100000 ∧ ∀ n ∈ (exprP s).1, n.name.length < 100000 := by
 have hT := toks_ok hs
 have hnm := climb_names hT
 have hok := ((climbP_bal (toksP s).1 ((toksP s).1.length + 1) 1 ⟨0, [], 0⟩).ok ⟨Nat.zero_le _, Nat.le_refl _⟩)
 have hfr : (fromP (toksP s).1).1.length < 100000 ∧ ∀ n ∈ (fromP (toksP s).1).1, n.name.length < 100000 := by
  unfold fromP
  split
  ·exact ⟨Nat.zero_lt_succ _, fun n hn => by cases hn⟩
  ·split
   ·exact ⟨Nat.zero_lt_succ _, fun n hn => by cases hn⟩
   ·have := hok.1; have := hok.2; have := hT.len
    exact ⟨by show (climbP _ _ _ _).2.nodes.length < _; omega, hnm⟩
 unfold exprP
 split
 ·exact ⟨Nat.zero_lt_succ _, fun n hn => by cases hn⟩
 split
 ·exact ⟨Nat.zero_lt_succ _, fun n hn => by cases hn⟩
 split
 ·exact hfr
 ·exact ⟨Nat.zero_lt_succ _, fun n hn => by cases hn⟩
theorem oldV_xns (s : Sl XN) : V.Old (encSl .old 6 encXN s) := Old.enc (fun n y hy => by
 simp only [encXN_K, V.cells, List.mem_cons, List.not_mem_nil, or_false] at hy
 rcases hy with rfl | rfl | rfl | rfl | rfl | rfl <;> first | exact .int _ _ | exact .str _) s
theorem lExprReads (G : Nat → V) (hE : GExp G) (hGo : ∀ g, (G g).Old) (s : List UInt8) :
  Spec Tryz.prog G 8 [.str s] hNone (fun v _ => v = .bool true) := by
 have hG := hE.ok
 refine Spec.of_code' 0 58 [.tmp 2] Tryz.func8 rfl rfl rfl rfl fun X => ?_
 refine AW.seq_k fun K hK => AW.region (by kernel_rfl) ?_
 simp -implicitDefEqProofs only[go_sem,seval,↓reduceIte]
 refine hK _ ?_
 clear hK K
 refine AW.seq_k fun K1 hK1 => ?_
 refine AW.seq_k fun K hK => AW.region (by kernel_rfl) ?_
 simp -implicitDefEqProofs only[go_sem,seval,↓reduceIte]
 refine hK _ ?_
 clear hK K
 by_cases hl : s.length > 400
 ·have q1 : decide (((s.length : Nat) : Int) > 400) = true := by rw [decide_eq_true_iff]; omega
  rw [q1]
  refine AW.condS (by simp -implicitDefEqProofs only[go_sem,seval,↓reduceIte]; rfl) (fun h13 => ?_) (fun h13 => ?_)
  rotate_left
  ·cases h13
  refine AW.seq_k fun K hK => AW.region (by kernel_rfl) ?_
  simp -implicitDefEqProofs only[go_sem,seval,↓reduceIte]
  refine CallA.pure hG (by kernel_rfl) ?_
  simp -implicitDefEqProofs only[go_sem,seval,↓reduceIte, List.map_nil]
  refine (vWorks_spec G hE).mono ?_
  rintro _ _ rfl
  simp -implicitDefEqProofs only[go_sem,seval,↓reduceIte]
  refine hK _ ?_
  clear hK K
  refine AW.ret ?_
  simp -implicitDefEqProofs only[go_sem,seval,↓reduceIte]
  refine endK_some ?_
  rfl
 have q1 : decide (((s.length : Nat) : Int) > 400) = false := by rw [decide_eq_false_iff_not]; omega
 rw [q1]
 refine AW.condS (by simp -implicitDefEqProofs only[go_sem,seval,↓reduceIte]; rfl) (fun h13 => ?_) (fun h13 => ?_)
 ·cases h13
 refine AW.skip ?_
 simp -implicitDefEqProofs only[go_sem,seval,↓reduceIte]
 refine hK1 _ ?_
 have hx := xParse_spec G hE s (by omega)
 have hr := rParse8_spec G hG s (by omega)
 have hb := (exprP_bnd8 (s := s) (by omega))
 generalize exprP s = p at hx hr hb
 obtain ⟨ns, wi, we⟩ := p
 simp only at hb
 refine AW.seq_k fun K hK => AW.region (by kernel_rfl) ?_
 simp -implicitDefEqProofs only[go_sem,seval,↓reduceIte]
 refine CallA.pure hG (by kernel_rfl) ?_
 simp -implicitDefEqProofs only[go_sem,seval,↓reduceIte]
 refine hr.mono ?_
 rintro _ _ rfl
 simp -implicitDefEqProofs only[go_sem,seval,↓reduceIte, encRr, encXs, recol_xns]
 refine hK _ ?_
 clear hK K
 refine AW.weak (Weak.stF (fun _ => false) (l := [(0, .str s), (3, encSl .new 6 encXN (grownS ns)), (4, .int .i64 wi), (5, .int .i64 we)]) (m := []) ?_ trivial) ?_
 ·simp -implicitDefEqProofs only[go_sem,seval,↓reduceIte]
  exact ⟨Fz.same _, Fz.same _, Fz.same _, Fz.same _⟩
 refine AW.rebase hG fun X1 H1 hb1 hI1 => ?_
 simp -implicitDefEqProofs only[go_sem,seval,↓reduceIte, List.map_cons, List.map_nil, recol_cells, recol_ptr, recol_xns]
 refine AW.weak (Weak.stF (fun _ => false) (l := [(0, .str s), (3, encSl .old 6 encXN (grownS ns)), (4, .int .i64 wi), (5, .int .i64 we)]) (m := []) ?_ trivial) ?_
 ·simp -implicitDefEqProofs only[go_sem,seval,↓reduceIte]
  exact ⟨Fz.same _, Fz.same _, Fz.same _, Fz.same _⟩
 refine AW.seq_k fun K2 hK2 => ?_
 refine AW.seq_k fun K hK => AW.region (by kernel_rfl) ?_
 simp -implicitDefEqProofs only[go_sem,seval,↓reduceIte]
 refine hK _ ?_
 clear hK K
 refine AW.block ?_
 refine AW.for 2 (fun k (_ : Unit) => st [(0, .str s), (3, encSl .old 6 encXN (grownS ns)), (4, .int .i64 wi), (5, .int .i64 we), (6, .int .i64 k)] [])
  (fun _ _ => True) 0 () (Nat.zero_le _) trivial (Weak.st (by simp -implicitDefEqProofs only[go_sem,seval,↓reduceIte]; try rfl) (by simp -implicitDefEqProofs only[go_sem,seval,↓reduceIte]; try rfl)) ?_
 intro k _ hk _ L3 hL3
 refine AW.seq_k fun K4 hK4 => ?_
 refine AW.seq_k fun K hK => AW.region (by kernel_rfl) ?_
 simp -implicitDefEqProofs only[go_sem,seval,↓reduceIte]
 refine hK _ ?_
 clear hK K
 refine AW.condS (by simp -implicitDefEqProofs only[go_sem,seval,↓reduceIte]; rfl) (fun h22 => ?_) (fun h22 => ?_)
 ·have hk1 : k < 2 := by have : decide ((k : Int) < 2) = true := h22; simp at this; omega
  refine AW.skip ?_
  simp -implicitDefEqProofs only[go_sem,seval,↓reduceIte]
  refine hK4 _ ?_
  refine AW.seq_k fun K5 hK5 => ?_
  refine AW.block ?_
  refine AW.seq_k fun K hK => AW.region (by kernel_rfl) ?_
  simp -implicitDefEqProofs only[go_sem,seval,↓reduceIte]
  refine CallA.pure hG (by kernel_rfl) ?_
  simp -implicitDefEqProofs only[go_sem,seval,↓reduceIte]
  refine hx.mono ?_
  rintro _ _ rfl
  simp -implicitDefEqProofs only[go_sem,seval,↓reduceIte, encFr, encXs, recol_xns]
  intro g7
  refine hK _ ?_
  clear hK K
  refine AW.weak (Weak.stF (fun o => o == 7) (l := [(0, .str s), (3, encSl .old 6 encXN (grownS ns)), (4, .int .i64 wi), (5, .int .i64 we), (6, .int .i64 k), (7, .view .new (.agg [encSl .new 6 encXN (grownS ns)])), (8, .int .i64 wi), (9, .int .i64 we)]) (m := []) ?_ trivial) ?_
  ·simp -implicitDefEqProofs only[go_sem,seval,↓reduceIte]
   exact ⟨Fz.same _, Fz.same _, Fz.same _, Fz.same _, Fz.same _, Fz.ptr (v := .agg [encSl .new 6 encXN (grownS ns)]) (c := .new) (fz := 0) rfl (by simp -implicitDefEqProofs only[go_sem,seval,↓reduceIte]; try rfl), Fz.same _, Fz.same _⟩
  refine AW.seq_k fun K6 hK6 => ?_
  have e5 : ((grownS ns).l == (grownS ns).l) = true := by simp
  have hb2 : (wi != wi) = false := by simp
  have hb3 : (we != we) = false := by simp
  refine AW.seq_k fun K hK => AW.region (by kernel_rfl) ?_
  simp -implicitDefEqProofs only[go_sem,seval,↓reduceIte]
  refine CallA.pure hG (by kernel_rfl) ?_
  simp -implicitDefEqProofs only[go_sem,seval,↓reduceIte, recol_xns]
  refine (vSame_spec G hG _ _ (grownS ns) (grownS ns) (by rw [grownS_l]; omega)).mono ?_
  rintro _ _ rfl
  rw [e5]
  simp -implicitDefEqProofs only[go_sem,seval,↓reduceIte, hb2, hb3]
  refine hK _ ?_
  clear hK K
  refine AW.condS (by simp -implicitDefEqProofs only[go_sem,seval,↓reduceIte]; rfl) (fun h44 => ?_) (fun h44 => ?_)
  ·cases h44
  refine AW.skip ?_
  simp -implicitDefEqProofs only[go_sem,seval,↓reduceIte]
  refine hK6 _ ?_
  refine AW.seq_k fun K hK => AW.region (by kernel_rfl) ?_
  simp -implicitDefEqProofs only[go_sem,seval,↓reduceIte]
  refine hK _ ?_
  clear hK K
  refine AW.block ?_
  refine AW.while (fun (y : Sl XN × Nat) => st [(0, .str s), (3, encSl .old 6 encXN (grownS ns)), (4, .int .i64 wi), (5, .int .i64 we), (6, .int .i64 k), (7, .view .new (.agg [encSl .new 6 encXN y.1])), (10, .int .i64 y.2)] [])
   (fun y => y.1.l.length ≤ 100000 ∧ y.2 ≤ 100000) (fun y => 100001 - y.2) (grownS ns, 0) ⟨by show (grownS ns).l.length ≤ 100000; rw [grownS_l]; omega, Nat.zero_le _⟩ (Weak.st (by simp -implicitDefEqProofs only[go_sem,seval,↓reduceIte]; try rfl) (by simp -implicitDefEqProofs only[go_sem,seval,↓reduceIte]; try rfl)) ?_
  rintro ⟨y, i⟩ ⟨hy, hi⟩ L7 hL7
  replace hy : y.l.length ≤ 100000 := hy
  replace hi : i ≤ 100000 := hi
  refine AW.seq_k fun K8 hK8 => ?_
  refine AW.seq_k fun K hK => AW.region (by kernel_rfl) ?_
  simp -implicitDefEqProofs only[go_sem,seval,↓reduceIte]
  refine hK _ ?_
  clear hK K
  refine AW.condS (by simp -implicitDefEqProofs only[go_sem,seval,↓reduceIte]; rfl) (fun h49 => ?_) (fun h49 => ?_)
  ·have hi1 : i < y.l.length := by simpa using h49
   have hg := List.getElem?_eq_getElem hi1
   refine AW.skip ?_
   simp -implicitDefEqProofs only[go_sem,seval,↓reduceIte]
   refine hK8 _ ?_
   refine AW.seq_k fun K9 hK9 => ?_
   refine AW.block ?_
   refine AW.storeN [(0, .str s), (3, encSl .old 6 encXN (grownS ns)), (4, .int .i64 wi), (5, .int .i64 we), (6, .int .i64 k), (10, .int .i64 i)] [] [(7, shXp 100000)] hb1 hI1 hGo (by intro p hp; simp at hp; subst hp; exact shXp_free _) (by kernel_rfl) (by kernel_rfl) rfl ?_ ?_ ?_
   ·simp -implicitDefEqProofs only[go_sem,seval,↓reduceIte]
    exact ⟨.str _, oldV_xns _, .int _ _, .int _ _, .int _ _, .int _ _⟩
   ·first | trivial | (intro p hp; cases hp) | (simp -implicitDefEqProofs only[go_sem,seval,↓reduceIte]; simp)
   simp -implicitDefEqProofs only[go_sem,seval,↓reduceIte, List.dropLast, hg, encXN_K]
   refine ⟨⟨_, rfl, rfl, by kernel_rfl, ⟨rfl, rfl, trivial, rfl, rfl, rfl, trivial⟩, by decide⟩, shXp_of hy, ?_⟩
   rintro _ ⟨v, _, rfl, hv, rfl⟩
   obtain ⟨y2, rfl, hy2⟩ := shXp_to hv
   simp -implicitDefEqProofs only[go_sem,seval,↓reduceIte]
   refine hK9 _ ?_
   refine AW.region (by kernel_rfl) ?_
   simp -implicitDefEqProofs only[go_sem,seval,↓reduceIte]
   exact hL7 _ ⟨(y2, i + 1), by show 100001 - (i + 1) < 100001 - i; omega, ⟨hy2, by show i + 1 ≤ 100000; omega⟩, Weak.st (by simp -implicitDefEqProofs only[go_sem,seval,↓reduceIte]; exact congrArg _ (w64 (by omega) (by omega))) (by simp -implicitDefEqProofs only[go_sem,seval,↓reduceIte]; try rfl)⟩
  ·refine AW.exit ?_
   simp -implicitDefEqProofs only[go_sem,seval,↓reduceIte]
   refine hK5 _ ?_
   refine AW.region (by kernel_rfl) ?_
   simp -implicitDefEqProofs only[go_sem,seval,↓reduceIte]
   exact hL3 _ ⟨hk1, (), trivial, Weak.st (by simp -implicitDefEqProofs only[go_sem,seval,↓reduceIte]; exact congrArg _ (w64 (by omega) (by omega))) (by simp -implicitDefEqProofs only[go_sem,seval,↓reduceIte]; try rfl)⟩
 refine AW.exit ?_
 simp -implicitDefEqProofs only[go_sem,seval,↓reduceIte]
 refine hK2 _ ?_
 refine AW.seq_k fun K hK => AW.region (by kernel_rfl) ?_
 simp -implicitDefEqProofs only[go_sem,seval,↓reduceIte]
 refine CallA.pure hG (by kernel_rfl) ?_
 simp -implicitDefEqProofs only[go_sem,seval,↓reduceIte, List.map_nil]
 refine (vWorks_spec G hE).mono ?_
 rintro _ _ rfl
 simp -implicitDefEqProofs only[go_sem,seval,↓reduceIte]
 refine hK _ ?_
 clear hK K
 refine AW.ret ?_
 simp -implicitDefEqProofs only[go_sem,seval,↓reduceIte]
 refine endK_some ?_
 rfl
end Go.Hs
end
