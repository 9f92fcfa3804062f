/-
  DERIVED. GIVEN WITH THE SEED: THE CARDS: each row of YtegjlbpnpiigkaaGreatDoorRows.lean that lists a variable, with what it lists TIED to the program's text (the seventh form; the later family's looks); each row that meets fmt, with fmt's text TOLD by the authors' own Lean function (tested against real Go, not proved from fmt's source: count such statements apart). THE CARD IS WHAT COUNTS. Prove the row's statement (the work); the ties are given (YtegjlbpnpiigkaaGreatDoorTie.lean); close each card by the builder's one call (the guide's Derived/Test/ToyasCard.lean, 'card_holds'). Laid BY PROGRAM, IN A SANDBOX (cutbox-door.mjs). By AI agents, Wed Nov 11 2026. No macro, syntax, notation, axiom, sorry.
-/
import Derived.Test.YtegjlbpnpiigkaaGreatDoorRows
import GoSem.ClaimSeven
namespace Go.Proofs.YtegjlbpnpiigkaaGreatDoor
namespace Rows

/-- THE TIED CARD OF 'hopscotchlaw17.WfCheck'. -/
def wfCheckCard : Claim7 := { stood := { row := wfCheckRow, standIns := [], harness := (true, "5456446c786fb58f40e57dc1da1a39b33a266d04ebe127f85a60747740b92ae0"), looks := true }, kinds := [], alts := [], laidByText := true, laidKinds := [.data, .data, .data, .data, .sentinel, .sentinel, .widerDeep, .pinned], laidTests := true, laidLooks := .later }
def WfCheckCardSaid : Prop := Claim7.holds Tryz.pinned (.plain (OpenSpec.ofChange wfCheckSpec)) wfCheckCard

/-- THE TIED CARD OF 'hopscotchlaw17.WfPlaces'. -/
def wfPlacesCard : Claim7 := { stood := { row := wfPlacesRow, standIns := [], harness := (true, "5456446c786fb58f40e57dc1da1a39b33a266d04ebe127f85a60747740b92ae0"), looks := true }, kinds := [], alts := [], laidByText := true, laidKinds := [.data, .data, .data, .data, .sentinel, .sentinel, .widerDeep, .pinned], laidTests := true, laidLooks := .later }
def WfPlacesCardSaid : Prop := Claim7.holds Tryz.pinned (.plain (OpenSpec.ofChange wfPlacesSpec)) wfPlacesCard

/-- THE TIED CARD OF 'hopscotchlaw17.WfNames'. -/
def wfNamesCard : Claim7 := { stood := { row := wfNamesRow, standIns := [], harness := (true, "5456446c786fb58f40e57dc1da1a39b33a266d04ebe127f85a60747740b92ae0"), looks := true }, kinds := [], alts := [], laidByText := true, laidKinds := [.data, .data, .data, .data, .sentinel, .sentinel, .widerDeep, .pinned], laidTests := true, laidLooks := .later }
def WfNamesCardSaid : Prop := Claim7.holds Tryz.pinned (.plain (OpenSpec.ofChange wfNamesSpec)) wfNamesCard

/-- THE TIED CARD OF 'hopscotchlaw17.WfKnown'. -/
def wfKnownCard : Claim7 := { stood := { row := wfKnownRow, standIns := [], harness := (true, "5456446c786fb58f40e57dc1da1a39b33a266d04ebe127f85a60747740b92ae0"), looks := true }, kinds := [], alts := [], laidByText := true, laidKinds := [.data, .data, .data, .data, .sentinel, .sentinel, .widerDeep, .pinned], laidTests := true, laidLooks := .later }
def WfKnownCardSaid : Prop := Claim7.holds Tryz.pinned (.plain (OpenSpec.ofChange wfKnownSpec)) wfKnownCard

/-- THE TIED CARD OF 'hopscotchlaw19.StaticAll'. -/
def staticAllCard : Claim7 := { stood := { row := staticAllRow, standIns := [], harness := (true, "5456446c786fb58f40e57dc1da1a39b33a266d04ebe127f85a60747740b92ae0"), looks := true }, kinds := [], alts := [], laidByText := true, laidKinds := [.data, .data, .data, .data, .sentinel, .sentinel, .widerDeep, .pinned], laidTests := true, laidLooks := .later }
def StaticAllCardSaid : Prop := Claim7.holds Tryz.pinned (.plain (OpenSpec.ofChange staticAllSpec)) staticAllCard

/-- THE TIED CARD OF 'hopscotchlaw19.StaticFollows'. -/
def staticFollowsCard : Claim7 := { stood := { row := staticFollowsRow, standIns := [], harness := (true, "5456446c786fb58f40e57dc1da1a39b33a266d04ebe127f85a60747740b92ae0"), looks := true }, kinds := [], alts := [], laidByText := true, laidKinds := [.data, .data, .data, .data, .sentinel, .sentinel, .widerDeep, .pinned], laidTests := true, laidLooks := .later }
def StaticFollowsCardSaid : Prop := Claim7.holds Tryz.pinned (.plain (OpenSpec.ofChange staticFollowsSpec)) staticFollowsCard

/-- THE TIED CARD OF 'hopscotchlaw19.StaticReach'. -/
def staticReachCard : Claim7 := { stood := { row := staticReachRow, standIns := [], harness := (true, "5456446c786fb58f40e57dc1da1a39b33a266d04ebe127f85a60747740b92ae0"), looks := true }, kinds := [], alts := [], laidByText := true, laidKinds := [.data, .data, .data, .data, .sentinel, .sentinel, .widerDeep, .pinned], laidTests := true, laidLooks := .later }
def StaticReachCardSaid : Prop := Claim7.holds Tryz.pinned (.plain (OpenSpec.ofChange staticReachSpec)) staticReachCard

/-- THE TIED CARD OF 'hopscotchlaw19.StaticKnown'. -/
def staticKnownCard : Claim7 := { stood := { row := staticKnownRow, standIns := [], harness := (true, "5456446c786fb58f40e57dc1da1a39b33a266d04ebe127f85a60747740b92ae0"), looks := true }, kinds := [], alts := [], laidByText := true, laidKinds := [.data, .data, .data, .data, .sentinel, .sentinel, .widerDeep, .pinned], laidTests := true, laidLooks := .later }
def StaticKnownCardSaid : Prop := Claim7.holds Tryz.pinned (.plain (OpenSpec.ofChange staticKnownSpec)) staticKnownCard

/-- THE SECOND FORM's CARD OF 'hopscotchlaw17.WfCheck'. -/
def wfCheckUptoCard : Claim7 := { stood := { row := wfCheckUptoRow, standIns := [], harness := (true, "5456446c786fb58f40e57dc1da1a39b33a266d04ebe127f85a60747740b92ae0"), looks := true }, kinds := [], alts := [], laidByText := true, laidKinds := [.data, .data, .data, .data, .sentinel, .sentinel, .widerDeep, .pinned], laidTests := true, laidLooks := .later }
def WfCheckUptoCardSaid : Prop := Claim7.holds Tryz.pinned (.plain (OpenSpec.upto wfCheckSpec)) wfCheckUptoCard

/-- THE SECOND FORM's CARD OF 'hopscotchlaw17.WfPlaces'. -/
def wfPlacesUptoCard : Claim7 := { stood := { row := wfPlacesUptoRow, standIns := [], harness := (true, "5456446c786fb58f40e57dc1da1a39b33a266d04ebe127f85a60747740b92ae0"), looks := true }, kinds := [], alts := [], laidByText := true, laidKinds := [.data, .data, .data, .data, .sentinel, .sentinel, .widerDeep, .pinned], laidTests := true, laidLooks := .later }
def WfPlacesUptoCardSaid : Prop := Claim7.holds Tryz.pinned (.plain (OpenSpec.upto wfPlacesSpec)) wfPlacesUptoCard

/-- THE SECOND FORM's CARD OF 'hopscotchlaw17.WfNames'. -/
def wfNamesUptoCard : Claim7 := { stood := { row := wfNamesUptoRow, standIns := [], harness := (true, "5456446c786fb58f40e57dc1da1a39b33a266d04ebe127f85a60747740b92ae0"), looks := true }, kinds := [], alts := [], laidByText := true, laidKinds := [.data, .data, .data, .data, .sentinel, .sentinel, .widerDeep, .pinned], laidTests := true, laidLooks := .later }
def WfNamesUptoCardSaid : Prop := Claim7.holds Tryz.pinned (.plain (OpenSpec.upto wfNamesSpec)) wfNamesUptoCard

/-- THE SECOND FORM's CARD OF 'hopscotchlaw17.WfKnown'. -/
def wfKnownUptoCard : Claim7 := { stood := { row := wfKnownUptoRow, standIns := [], harness := (true, "5456446c786fb58f40e57dc1da1a39b33a266d04ebe127f85a60747740b92ae0"), looks := true }, kinds := [], alts := [], laidByText := true, laidKinds := [.data, .data, .data, .data, .sentinel, .sentinel, .widerDeep, .pinned], laidTests := true, laidLooks := .later }
def WfKnownUptoCardSaid : Prop := Claim7.holds Tryz.pinned (.plain (OpenSpec.upto wfKnownSpec)) wfKnownUptoCard

/-- THE SECOND FORM's CARD OF 'hopscotchlaw19.StaticAll'. -/
def staticAllUptoCard : Claim7 := { stood := { row := staticAllUptoRow, standIns := [], harness := (true, "5456446c786fb58f40e57dc1da1a39b33a266d04ebe127f85a60747740b92ae0"), looks := true }, kinds := [], alts := [], laidByText := true, laidKinds := [.data, .data, .data, .data, .sentinel, .sentinel, .widerDeep, .pinned], laidTests := true, laidLooks := .later }
def StaticAllUptoCardSaid : Prop := Claim7.holds Tryz.pinned (.plain (OpenSpec.upto staticAllSpec)) staticAllUptoCard

/-- THE SECOND FORM's CARD OF 'hopscotchlaw19.StaticFollows'. -/
def staticFollowsUptoCard : Claim7 := { stood := { row := staticFollowsUptoRow, standIns := [], harness := (true, "5456446c786fb58f40e57dc1da1a39b33a266d04ebe127f85a60747740b92ae0"), looks := true }, kinds := [], alts := [], laidByText := true, laidKinds := [.data, .data, .data, .data, .sentinel, .sentinel, .widerDeep, .pinned], laidTests := true, laidLooks := .later }
def StaticFollowsUptoCardSaid : Prop := Claim7.holds Tryz.pinned (.plain (OpenSpec.upto staticFollowsSpec)) staticFollowsUptoCard

/-- THE SECOND FORM's CARD OF 'hopscotchlaw19.StaticReach'. -/
def staticReachUptoCard : Claim7 := { stood := { row := staticReachUptoRow, standIns := [], harness := (true, "5456446c786fb58f40e57dc1da1a39b33a266d04ebe127f85a60747740b92ae0"), looks := true }, kinds := [], alts := [], laidByText := true, laidKinds := [.data, .data, .data, .data, .sentinel, .sentinel, .widerDeep, .pinned], laidTests := true, laidLooks := .later }
def StaticReachUptoCardSaid : Prop := Claim7.holds Tryz.pinned (.plain (OpenSpec.upto staticReachSpec)) staticReachUptoCard

/-- THE SECOND FORM's CARD OF 'hopscotchlaw19.StaticKnown'. -/
def staticKnownUptoCard : Claim7 := { stood := { row := staticKnownUptoRow, standIns := [], harness := (true, "5456446c786fb58f40e57dc1da1a39b33a266d04ebe127f85a60747740b92ae0"), looks := true }, kinds := [], alts := [], laidByText := true, laidKinds := [.data, .data, .data, .data, .sentinel, .sentinel, .widerDeep, .pinned], laidTests := true, laidLooks := .later }
def StaticKnownUptoCardSaid : Prop := Claim7.holds Tryz.pinned (.plain (OpenSpec.upto staticKnownSpec)) staticKnownUptoCard
end Rows
end Go.Proofs.YtegjlbpnpiigkaaGreatDoor
