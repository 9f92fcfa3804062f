/-
  No cell of these rows narrows 'for every input' (looked for: loops, veiled, ifaces, maps, wideKeys, modest, calm, conditions, laid).
  DERIVED. THE GIVEN ROWS OF THIS SEAT. 3 by the template 'for every input the law returns true; each argument reads behind the call as it read before'; 0 by the template 'total and deterministic' (their statements: YthlkacbgaclkkaaTotals.lean).
  GIVEN WITH THE SEED: the statements are not yours to turn. If you find one false, say at which input.
  Laid BY PROGRAM, IN A SANDBOX (cutbox-rows.mjs): the forced cells as the released guide's own fill.sh prints them over the translation 6c69ab70d198b68c… (all of the seat's roots in one cut). By AI agents, Wed Nov 11 2026. No macro, syntax, notation, axiom, sorry.
-/
import Derived.Test.YthlkacbgaclkkaaChecked
import GoSem.Claim
import GoSem.ClaimJoined
import GoSem.ClaimMapViews
import Derived.JoinedTies
import Derived.KernelRfl
namespace Go.Proofs.Ythlkacbgaclkkaa
/- THE CELL 'sum', in the pinned program and in every row, IS THE sha256 OF THE DUMP (.gsa) THAT YthlkacbgaclkkaaProg.lean LOADS. Nothing in Lean hashes anything: it is a label: what it is worth is what the hold of that sum in a sandbox is worth. -/
noncomputable def Try.pinned : Pinned := { name := "ythlkacbgaclkkaa", sum := "6c69ab70d198b68c4b578f33429e2f1f362fa71b16beb724e7307554b1ba8a44", checked := Try.checked }
namespace Rows
def none {H : Type} : Left H := { results := [], args := [] }

/-- 'hopscotchlaw22.StepsTake': WHATEVER THE INPUT: true; the input reads as it did. -/
def stepsTakeSpec : ChangeSpec := { name := "stepsTake", fn := fun _ => fun
  | [d1, d2, d3] => { results := [.lit (.bool true)], args := [d1, d2, d3] }
  | _ => none }
def stepsTakeRow : OpenClaim := { program := "ythlkacbgaclkkaa", sum := "6c69ab70d198b68c4b578f33429e2f1f362fa71b16beb724e7307554b1ba8a44", func := "hopscotch/hopscotchlaw22.StepsTake", spec := "stepsTake", unfollowed := true, recurses := true, apart := false }
def StepsTakeSaid : Prop := stepsTakeRow.holds Try.pinned (OpenSpec.ofChange stepsTakeSpec)

/-- ITS FALSE NEIGHBOUR: 'it returns false'. Refute it at one input. -/
def stepsTakeWrong : ChangeSpec := { name := "stepsTake", fn := fun _ => fun
  | [d1, d2, d3] => { results := [.lit (.bool false)], args := [d1, d2, d3] }
  | _ => none }
def StepsTakeWrongFalsely : Prop := stepsTakeRow.holds Try.pinned (OpenSpec.ofChange stepsTakeWrong)

/-- 'hopscotchlaw22.StepsAll': WHATEVER THE INPUT: true; the input reads as it did. -/
def stepsAllSpec : ChangeSpec := { name := "stepsAll", fn := fun _ => fun
  | [d1, d2] => { results := [.lit (.bool true)], args := [d1, d2] }
  | _ => none }
def stepsAllRow : OpenClaim := { program := "ythlkacbgaclkkaa", sum := "6c69ab70d198b68c4b578f33429e2f1f362fa71b16beb724e7307554b1ba8a44", func := "hopscotch/hopscotchlaw22.StepsAll", spec := "stepsAll", unfollowed := true, recurses := true, apart := false }
def StepsAllSaid : Prop := stepsAllRow.holds Try.pinned (OpenSpec.ofChange stepsAllSpec)

/-- ITS FALSE NEIGHBOUR: 'it returns false'. Refute it at one input. -/
def stepsAllWrong : ChangeSpec := { name := "stepsAll", fn := fun _ => fun
  | [d1, d2] => { results := [.lit (.bool false)], args := [d1, d2] }
  | _ => none }
def StepsAllWrongFalsely : Prop := stepsAllRow.holds Try.pinned (OpenSpec.ofChange stepsAllWrong)

/-- 'hopscotchlaw22.StepsTrees': WHATEVER THE INPUT: true; the input reads as it did. -/
def stepsTreesSpec : ChangeSpec := { name := "stepsTrees", fn := fun _ => fun
  | [d1, d2, d3] => { results := [.lit (.bool true)], args := [d1, d2, d3] }
  | _ => none }
def stepsTreesRow : OpenClaim := { program := "ythlkacbgaclkkaa", sum := "6c69ab70d198b68c4b578f33429e2f1f362fa71b16beb724e7307554b1ba8a44", func := "hopscotch/hopscotchlaw22.StepsTrees", spec := "stepsTrees", unfollowed := true, recurses := true, apart := false }
def StepsTreesSaid : Prop := stepsTreesRow.holds Try.pinned (OpenSpec.ofChange stepsTreesSpec)

/-- ITS FALSE NEIGHBOUR: 'it returns false'. Refute it at one input. -/
def stepsTreesWrong : ChangeSpec := { name := "stepsTrees", fn := fun _ => fun
  | [d1, d2, d3] => { results := [.lit (.bool false)], args := [d1, d2, d3] }
  | _ => none }
def StepsTreesWrongFalsely : Prop := stepsTreesRow.holds Try.pinned (OpenSpec.ofChange stepsTreesWrong)

/- THE SECOND FORM. 'bulk': how many values and letters a reading holds, each counted each time it is reached (what is shared counts as often as it is met; a slice's spare places count too). A statement '..UptoSaid' is the law's where the arguments, and the package variables that the reading takes, are together of bulk at most 1048576: NARROWER than '..Said'. Prove '..Said' where nothing that the law and all that it calls make is longer than what came in: it says more and counts as full. Else prove '..UptoSaid'. A law counts once. -/
mutual
def uptoBulk {H : Type} : DataW H → Nat
  | .lit (.string bytes) => bytes.length + 1
  | .lit _ => 1
  | .nil => 1
  | .ptr d => uptoBulk d + 1
  | .slice elems spare => uptoBulkAll elems + uptoBulkAll spare + 1
  | .agg parts => uptoBulkAll parts + 1
  | .iface _ d => uptoBulk d + 1
  | .map entries => uptoBulkEntries entries + 1
  | .held _ => 1
def uptoBulkAll {H : Type} : List (DataW H) → Nat
  | [] => 0
  | d :: r => uptoBulk d + uptoBulkAll r
def uptoBulkEntries {H : Type} : List (Lit × DataW H) → Nat
  | [] => 0
  | x :: r => uptoBulkEntry x + uptoBulkEntries r
def uptoBulkEntry {H : Type} : Lit × DataW H → Nat
  | (.string bytes, d) => bytes.length + uptoBulk d + 1
  | (_, d) => uptoBulk d + 1
 end
def uptoSmall : (H : Type) → List (DataW H) → Bool := fun _ ds => decide (uptoBulkAll ds ≤ 1048576)
def OpenSpec.upto (s : _root_.Go.ChangeSpec) : _root_.Go.OpenSpec := { _root_.Go.OpenSpec.ofChange s with cond := some uptoSmall }

/-- 'hopscotchlaw22.StepsTake', WHERE WHAT IT READS IS OF BULK AT MOST 1048576: true; the input reads as it did. -/
def stepsTakeUptoRow : OpenClaim := { program := "ythlkacbgaclkkaa", sum := "6c69ab70d198b68c4b578f33429e2f1f362fa71b16beb724e7307554b1ba8a44", func := "hopscotch/hopscotchlaw22.StepsTake", spec := "stepsTake", unfollowed := true, recurses := true, apart := false, narrowed := true }
def StepsTakeUptoSaid : Prop := stepsTakeUptoRow.holds Try.pinned (OpenSpec.upto stepsTakeSpec)

/-- 'hopscotchlaw22.StepsAll', WHERE WHAT IT READS IS OF BULK AT MOST 1048576: true; the input reads as it did. -/
def stepsAllUptoRow : OpenClaim := { program := "ythlkacbgaclkkaa", sum := "6c69ab70d198b68c4b578f33429e2f1f362fa71b16beb724e7307554b1ba8a44", func := "hopscotch/hopscotchlaw22.StepsAll", spec := "stepsAll", unfollowed := true, recurses := true, apart := false, narrowed := true }
def StepsAllUptoSaid : Prop := stepsAllUptoRow.holds Try.pinned (OpenSpec.upto stepsAllSpec)

/-- 'hopscotchlaw22.StepsTrees', WHERE WHAT IT READS IS OF BULK AT MOST 1048576: true; the input reads as it did. -/
def stepsTreesUptoRow : OpenClaim := { program := "ythlkacbgaclkkaa", sum := "6c69ab70d198b68c4b578f33429e2f1f362fa71b16beb724e7307554b1ba8a44", func := "hopscotch/hopscotchlaw22.StepsTrees", spec := "stepsTrees", unfollowed := true, recurses := true, apart := false, narrowed := true }
def StepsTreesUptoSaid : Prop := stepsTreesUptoRow.holds Try.pinned (OpenSpec.upto stepsTreesSpec)

end Rows
end Go.Proofs.Ythlkacbgaclkkaa
