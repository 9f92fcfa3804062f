/-
  DERIVED. GIVEN WITH THE SEED: THE CARDS: each row of YtjplgaebbfabnaaGreatDoorRows.lean that lists a variable, with what it lists TIED to the program's text (the seventh form; the later family's looks); each row that meets fmt, with fmt's text TOLD by the authors' own Lean function (tested against real Go, not proved from fmt's source: count such statements apart). THE CARD IS WHAT COUNTS. Prove the row's statement (the work); the ties are given (YtjplgaebbfabnaaGreatDoorTie.lean); close each card by the builder's one call (the guide's Derived/Test/ToyasCard.lean, 'card_holds'). Laid BY PROGRAM, IN A SANDBOX (cutbox-door.mjs). By AI agents, Wed Nov 11 2026. No macro, syntax, notation, axiom, sorry.
-/
import Derived.Test.YtjplgaebbfabnaaGreatDoorRows
import GoSem.ClaimSeven
namespace Go.Proofs.YtjplgaebbfabnaaGreatDoor
namespace Rows

/-- THE TIED CARD OF 'hopscotchlaw23.CompileLeaves'. -/
def compileLeavesCard : Claim7 := { stood := { row := compileLeavesRow, standIns := [], harness := (true, "a71eaf3f0b03402b5c991e1651e0438fada9303e26a420c3fd4ea95f310d889e"), looks := true }, kinds := [], alts := [], laidByText := true, laidKinds := [.data, .data, .data, .data, .sentinel, .sentinel, .widerDeep, .pinned], laidTests := true, laidLooks := .later }
def CompileLeavesCardSaid : Prop := Claim7.holds Tryz.pinned (.plain (OpenSpec.ofChange compileLeavesSpec)) compileLeavesCard

/-- THE SECOND FORM's CARD OF 'hopscotchlaw23.CompileLeaves'. -/
def compileLeavesUptoCard : Claim7 := { stood := { row := compileLeavesUptoRow, standIns := [], harness := (true, "a71eaf3f0b03402b5c991e1651e0438fada9303e26a420c3fd4ea95f310d889e"), looks := true }, kinds := [], alts := [], laidByText := true, laidKinds := [.data, .data, .data, .data, .sentinel, .sentinel, .widerDeep, .pinned], laidTests := true, laidLooks := .later }
def CompileLeavesUptoCardSaid : Prop := Claim7.holds Tryz.pinned (.plain (OpenSpec.upto compileLeavesSpec)) compileLeavesUptoCard
end Rows
end Go.Proofs.YtjplgaebbfabnaaGreatDoor
