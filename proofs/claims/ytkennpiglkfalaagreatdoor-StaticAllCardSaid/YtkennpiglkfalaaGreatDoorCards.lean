/-
  DERIVED. GIVEN WITH THE SEED: THE CARDS: each row of YtkennpiglkfalaaGreatDoorRows.lean that lists a variable, with what it lists TIED to the program's text (the seventh form; the later family's looks); each row that meets fmt, with fmt's text TOLD by the authors' own Lean function (tested against real Go, not proved from fmt's source: count such statements apart). THE CARD IS WHAT COUNTS. Prove the row's statement (the work); the ties are given (YtkennpiglkfalaaGreatDoorTie.lean); close each card by the builder's one call (the guide's Derived/Test/ToyasCard.lean, 'card_holds'). Laid BY PROGRAM, IN A SANDBOX (cutbox-door.mjs). By AI agents, Wed Nov 11 2026. No macro, syntax, notation, axiom, sorry.
-/
import Derived.Test.YtkennpiglkfalaaGreatDoorRows
import GoSem.ClaimSeven
namespace Go.Proofs.YtkennpiglkfalaaGreatDoor
namespace Rows

/-- THE TIED CARD OF 'hopscotchlaw19.StaticAll'. -/
def staticAllCard : Claim7 := { stood := { row := staticAllRow, standIns := [], harness := (true, "8a69ddda804ad0072fa3535ec6b66de0fb3a34f8784f6bf9d089661b505499ba"), looks := true }, kinds := [], alts := [], laidByText := true, laidKinds := [.data, .data, .data, .data, .sentinel, .sentinel, .widerDeep, .pinned], laidTests := true, laidLooks := .later }
def StaticAllCardSaid : Prop := Claim7.holds Tryz.pinned (.plain (OpenSpec.ofChange staticAllSpec)) staticAllCard

/-- THE SECOND FORM's CARD OF 'hopscotchlaw19.StaticAll'. -/
def staticAllUptoCard : Claim7 := { stood := { row := staticAllUptoRow, standIns := [], harness := (true, "8a69ddda804ad0072fa3535ec6b66de0fb3a34f8784f6bf9d089661b505499ba"), looks := true }, kinds := [], alts := [], laidByText := true, laidKinds := [.data, .data, .data, .data, .sentinel, .sentinel, .widerDeep, .pinned], laidTests := true, laidLooks := .later }
def StaticAllUptoCardSaid : Prop := Claim7.holds Tryz.pinned (.plain (OpenSpec.upto staticAllSpec)) staticAllUptoCard
end Rows
end Go.Proofs.YtkennpiglkfalaaGreatDoor
