/-
  DERIVED. GIVEN WITH THE SEED: THE CARDS: each row of YtoahejkahaimnaaGreatDoorRows.lean that lists a variable, with what it lists TIED to the program's text (the seventh form; the later family's looks); each row that meets fmt, with fmt's text TOLD by the authors' own Lean function (tested against real Go, not proved from fmt's source: count such statements apart). THE CARD IS WHAT COUNTS. Prove the row's statement (the work); the ties are given (YtoahejkahaimnaaGreatDoorTie.lean); close each card by the builder's one call (the guide's Derived/Test/ToyasCard.lean, 'card_holds'). Laid BY PROGRAM, IN A SANDBOX (cutbox-door.mjs). By AI agents, Wed Nov 11 2026. No macro, syntax, notation, axiom, sorry.
-/
import Derived.Test.YtoahejkahaimnaaGreatDoorRows
import GoSem.ClaimSeven
namespace Go.Proofs.YtoahejkahaimnaaGreatDoor
namespace Rows

/-- THE TIED CARD OF 'hopscotchlaw19.StaticAll'. -/
def staticAllCard : Claim7 := { stood := { row := staticAllRow, standIns := [], harness := (true, "822cdc3b4fa89ec4aa9865422c8df1a4d4fab042ea44041ccdecd1bb9495fc46"), looks := true }, kinds := [], alts := [], laidByText := true, laidKinds := [.data, .data, .data, .data, .sentinel, .sentinel, .widerDeep, .pinned], laidTests := true, laidLooks := .later }
def StaticAllCardSaid : Prop := Claim7.holds Tryz.pinned (.plain (OpenSpec.ofChange staticAllSpec)) staticAllCard

/-- THE TIED CARD OF 'hopscotchlaw19.StaticFollows'. -/
def staticFollowsCard : Claim7 := { stood := { row := staticFollowsRow, standIns := [], harness := (true, "822cdc3b4fa89ec4aa9865422c8df1a4d4fab042ea44041ccdecd1bb9495fc46"), looks := true }, kinds := [], alts := [], laidByText := true, laidKinds := [.data, .data, .data, .data, .sentinel, .sentinel, .widerDeep, .pinned], laidTests := true, laidLooks := .later }
def StaticFollowsCardSaid : Prop := Claim7.holds Tryz.pinned (.plain (OpenSpec.ofChange staticFollowsSpec)) staticFollowsCard

/-- THE TIED CARD OF 'hopscotchlaw19.StaticReach'. -/
def staticReachCard : Claim7 := { stood := { row := staticReachRow, standIns := [], harness := (true, "822cdc3b4fa89ec4aa9865422c8df1a4d4fab042ea44041ccdecd1bb9495fc46"), looks := true }, kinds := [], alts := [], laidByText := true, laidKinds := [.data, .data, .data, .data, .sentinel, .sentinel, .widerDeep, .pinned], laidTests := true, laidLooks := .later }
def StaticReachCardSaid : Prop := Claim7.holds Tryz.pinned (.plain (OpenSpec.ofChange staticReachSpec)) staticReachCard

/-- THE TIED CARD OF 'hopscotchlaw19.StaticKnown'. -/
def staticKnownCard : Claim7 := { stood := { row := staticKnownRow, standIns := [], harness := (true, "822cdc3b4fa89ec4aa9865422c8df1a4d4fab042ea44041ccdecd1bb9495fc46"), looks := true }, kinds := [], alts := [], laidByText := true, laidKinds := [.data, .data, .data, .data, .sentinel, .sentinel, .widerDeep, .pinned], laidTests := true, laidLooks := .later }
def StaticKnownCardSaid : Prop := Claim7.holds Tryz.pinned (.plain (OpenSpec.ofChange staticKnownSpec)) staticKnownCard

/-- THE SECOND FORM's CARD OF 'hopscotchlaw19.StaticAll'. -/
def staticAllUptoCard : Claim7 := { stood := { row := staticAllUptoRow, standIns := [], harness := (true, "822cdc3b4fa89ec4aa9865422c8df1a4d4fab042ea44041ccdecd1bb9495fc46"), looks := true }, kinds := [], alts := [], laidByText := true, laidKinds := [.data, .data, .data, .data, .sentinel, .sentinel, .widerDeep, .pinned], laidTests := true, laidLooks := .later }
def StaticAllUptoCardSaid : Prop := Claim7.holds Tryz.pinned (.plain (OpenSpec.upto staticAllSpec)) staticAllUptoCard

/-- THE SECOND FORM's CARD OF 'hopscotchlaw19.StaticFollows'. -/
def staticFollowsUptoCard : Claim7 := { stood := { row := staticFollowsUptoRow, standIns := [], harness := (true, "822cdc3b4fa89ec4aa9865422c8df1a4d4fab042ea44041ccdecd1bb9495fc46"), looks := true }, kinds := [], alts := [], laidByText := true, laidKinds := [.data, .data, .data, .data, .sentinel, .sentinel, .widerDeep, .pinned], laidTests := true, laidLooks := .later }
def StaticFollowsUptoCardSaid : Prop := Claim7.holds Tryz.pinned (.plain (OpenSpec.upto staticFollowsSpec)) staticFollowsUptoCard

/-- THE SECOND FORM's CARD OF 'hopscotchlaw19.StaticReach'. -/
def staticReachUptoCard : Claim7 := { stood := { row := staticReachUptoRow, standIns := [], harness := (true, "822cdc3b4fa89ec4aa9865422c8df1a4d4fab042ea44041ccdecd1bb9495fc46"), looks := true }, kinds := [], alts := [], laidByText := true, laidKinds := [.data, .data, .data, .data, .sentinel, .sentinel, .widerDeep, .pinned], laidTests := true, laidLooks := .later }
def StaticReachUptoCardSaid : Prop := Claim7.holds Tryz.pinned (.plain (OpenSpec.upto staticReachSpec)) staticReachUptoCard

/-- THE SECOND FORM's CARD OF 'hopscotchlaw19.StaticKnown'. -/
def staticKnownUptoCard : Claim7 := { stood := { row := staticKnownUptoRow, standIns := [], harness := (true, "822cdc3b4fa89ec4aa9865422c8df1a4d4fab042ea44041ccdecd1bb9495fc46"), looks := true }, kinds := [], alts := [], laidByText := true, laidKinds := [.data, .data, .data, .data, .sentinel, .sentinel, .widerDeep, .pinned], laidTests := true, laidLooks := .later }
def StaticKnownUptoCardSaid : Prop := Claim7.holds Tryz.pinned (.plain (OpenSpec.upto staticKnownSpec)) staticKnownUptoCard
end Rows
end Go.Proofs.YtoahejkahaimnaaGreatDoor
