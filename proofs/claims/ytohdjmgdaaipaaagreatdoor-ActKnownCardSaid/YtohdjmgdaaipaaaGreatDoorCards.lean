/-
  DERIVED. GIVEN WITH THE SEED: THE CARDS: each row of YtohdjmgdaaipaaaGreatDoorRows.lean that lists a variable, with what it lists TIED to the program's text (the seventh form; the later family's looks); each row that meets fmt, with fmt's text TOLD by the authors' own Lean function (tested against real Go, not proved from fmt's source: count such statements apart). THE CARD IS WHAT COUNTS. Prove the row's statement (the work); the ties are given (YtohdjmgdaaipaaaGreatDoorTie.lean); close each card by the builder's one call (the guide's Derived/Test/ToyasCard.lean, 'card_holds'). Laid BY PROGRAM, IN A SANDBOX (cutbox-door.mjs). By AI agents, Wed Nov 11 2026. No macro, syntax, notation, axiom, sorry.
-/
import Derived.Test.YtohdjmgdaaipaaaGreatDoorRows
import GoSem.ClaimSeven
namespace Go.Proofs.YtohdjmgdaaipaaaGreatDoor
namespace Rows

/-- THE TIED CARD OF 'hopscotchlaw11.ActParse'. -/
def actParseCard : Claim7 := { stood := { row := actParseRow, standIns := [], harness := (true, "c8c7cefbc8520813af398c24b6b114239cb915c6ff22bcb022e4887bfea97f58"), looks := true }, kinds := [], alts := [], laidByText := true, laidKinds := [.data, .data, .data, .data, .sentinel, .sentinel, .widerDeep, .pinned], laidTests := true, laidLooks := .later }
def ActParseCardSaid : Prop := Claim7.holds Tryz.pinned (.plain (OpenSpec.ofChange actParseSpec)) actParseCard

/-- THE TIED CARD OF 'hopscotchlaw11.ActJoins'. -/
def actJoinsCard : Claim7 := { stood := { row := actJoinsRow, standIns := [], harness := (true, "c8c7cefbc8520813af398c24b6b114239cb915c6ff22bcb022e4887bfea97f58"), looks := true }, kinds := [], alts := [], laidByText := true, laidKinds := [.data, .data, .data, .data, .sentinel, .sentinel, .widerDeep, .pinned], laidTests := true, laidLooks := .later }
def ActJoinsCardSaid : Prop := Claim7.holds Tryz.pinned (.plain (OpenSpec.ofChange actJoinsSpec)) actJoinsCard

/-- THE TIED CARD OF 'hopscotchlaw11.ActChecks'. -/
def actChecksCard : Claim7 := { stood := { row := actChecksRow, standIns := [], harness := (true, "c8c7cefbc8520813af398c24b6b114239cb915c6ff22bcb022e4887bfea97f58"), looks := true }, kinds := [], alts := [], laidByText := true, laidKinds := [.data, .data, .data, .data, .sentinel, .sentinel, .widerDeep, .pinned], laidTests := true, laidLooks := .later }
def ActChecksCardSaid : Prop := Claim7.holds Tryz.pinned (.plain (OpenSpec.ofChange actChecksSpec)) actChecksCard

/-- THE TIED CARD OF 'hopscotchlaw11.ActBack'. -/
def actBackCard : Claim7 := { stood := { row := actBackRow, standIns := [], harness := (true, "c8c7cefbc8520813af398c24b6b114239cb915c6ff22bcb022e4887bfea97f58"), looks := true }, kinds := [], alts := [], laidByText := true, laidKinds := [.data, .data, .data, .data, .sentinel, .sentinel, .widerDeep, .pinned], laidTests := true, laidLooks := .later }
def ActBackCardSaid : Prop := Claim7.holds Tryz.pinned (.plain (OpenSpec.ofChange actBackSpec)) actBackCard

/-- THE TIED CARD OF 'hopscotchlaw11.ActKnown'. -/
def actKnownCard : Claim7 := { stood := { row := actKnownRow, standIns := [], harness := (true, "c8c7cefbc8520813af398c24b6b114239cb915c6ff22bcb022e4887bfea97f58"), looks := true }, kinds := [], alts := [], laidByText := true, laidKinds := [.data, .data, .data, .data, .sentinel, .sentinel, .widerDeep, .pinned], laidTests := true, laidLooks := .later }
def ActKnownCardSaid : Prop := Claim7.holds Tryz.pinned (.plain (OpenSpec.ofChange actKnownSpec)) actKnownCard

/-- THE TIED CARD OF 'hopscotchlaw17.WfCheck'. -/
def wfCheckCard : Claim7 := { stood := { row := wfCheckRow, standIns := [], harness := (true, "c8c7cefbc8520813af398c24b6b114239cb915c6ff22bcb022e4887bfea97f58"), looks := true }, kinds := [], alts := [], laidByText := true, laidKinds := [.data, .data, .data, .data, .sentinel, .sentinel, .widerDeep, .pinned], laidTests := true, laidLooks := .later }
def WfCheckCardSaid : Prop := Claim7.holds Tryz.pinned (.plain (OpenSpec.ofChange wfCheckSpec)) wfCheckCard

/-- THE TIED CARD OF 'hopscotchlaw17.WfPlaces'. -/
def wfPlacesCard : Claim7 := { stood := { row := wfPlacesRow, standIns := [], harness := (true, "c8c7cefbc8520813af398c24b6b114239cb915c6ff22bcb022e4887bfea97f58"), looks := true }, kinds := [], alts := [], laidByText := true, laidKinds := [.data, .data, .data, .data, .sentinel, .sentinel, .widerDeep, .pinned], laidTests := true, laidLooks := .later }
def WfPlacesCardSaid : Prop := Claim7.holds Tryz.pinned (.plain (OpenSpec.ofChange wfPlacesSpec)) wfPlacesCard

/-- THE TIED CARD OF 'hopscotchlaw17.WfNames'. -/
def wfNamesCard : Claim7 := { stood := { row := wfNamesRow, standIns := [], harness := (true, "c8c7cefbc8520813af398c24b6b114239cb915c6ff22bcb022e4887bfea97f58"), looks := true }, kinds := [], alts := [], laidByText := true, laidKinds := [.data, .data, .data, .data, .sentinel, .sentinel, .widerDeep, .pinned], laidTests := true, laidLooks := .later }
def WfNamesCardSaid : Prop := Claim7.holds Tryz.pinned (.plain (OpenSpec.ofChange wfNamesSpec)) wfNamesCard

/-- THE TIED CARD OF 'hopscotchlaw17.WfKnown'. -/
def wfKnownCard : Claim7 := { stood := { row := wfKnownRow, standIns := [], harness := (true, "c8c7cefbc8520813af398c24b6b114239cb915c6ff22bcb022e4887bfea97f58"), looks := true }, kinds := [], alts := [], laidByText := true, laidKinds := [.data, .data, .data, .data, .sentinel, .sentinel, .widerDeep, .pinned], laidTests := true, laidLooks := .later }
def WfKnownCardSaid : Prop := Claim7.holds Tryz.pinned (.plain (OpenSpec.ofChange wfKnownSpec)) wfKnownCard

/-- THE SECOND FORM's CARD OF 'hopscotchlaw11.ActParse'. -/
def actParseUptoCard : Claim7 := { stood := { row := actParseUptoRow, standIns := [], harness := (true, "c8c7cefbc8520813af398c24b6b114239cb915c6ff22bcb022e4887bfea97f58"), looks := true }, kinds := [], alts := [], laidByText := true, laidKinds := [.data, .data, .data, .data, .sentinel, .sentinel, .widerDeep, .pinned], laidTests := true, laidLooks := .later }
def ActParseUptoCardSaid : Prop := Claim7.holds Tryz.pinned (.plain (OpenSpec.upto actParseSpec)) actParseUptoCard

/-- THE SECOND FORM's CARD OF 'hopscotchlaw11.ActJoins'. -/
def actJoinsUptoCard : Claim7 := { stood := { row := actJoinsUptoRow, standIns := [], harness := (true, "c8c7cefbc8520813af398c24b6b114239cb915c6ff22bcb022e4887bfea97f58"), looks := true }, kinds := [], alts := [], laidByText := true, laidKinds := [.data, .data, .data, .data, .sentinel, .sentinel, .widerDeep, .pinned], laidTests := true, laidLooks := .later }
def ActJoinsUptoCardSaid : Prop := Claim7.holds Tryz.pinned (.plain (OpenSpec.upto actJoinsSpec)) actJoinsUptoCard

/-- THE SECOND FORM's CARD OF 'hopscotchlaw11.ActChecks'. -/
def actChecksUptoCard : Claim7 := { stood := { row := actChecksUptoRow, standIns := [], harness := (true, "c8c7cefbc8520813af398c24b6b114239cb915c6ff22bcb022e4887bfea97f58"), looks := true }, kinds := [], alts := [], laidByText := true, laidKinds := [.data, .data, .data, .data, .sentinel, .sentinel, .widerDeep, .pinned], laidTests := true, laidLooks := .later }
def ActChecksUptoCardSaid : Prop := Claim7.holds Tryz.pinned (.plain (OpenSpec.upto actChecksSpec)) actChecksUptoCard

/-- THE SECOND FORM's CARD OF 'hopscotchlaw11.ActBack'. -/
def actBackUptoCard : Claim7 := { stood := { row := actBackUptoRow, standIns := [], harness := (true, "c8c7cefbc8520813af398c24b6b114239cb915c6ff22bcb022e4887bfea97f58"), looks := true }, kinds := [], alts := [], laidByText := true, laidKinds := [.data, .data, .data, .data, .sentinel, .sentinel, .widerDeep, .pinned], laidTests := true, laidLooks := .later }
def ActBackUptoCardSaid : Prop := Claim7.holds Tryz.pinned (.plain (OpenSpec.upto actBackSpec)) actBackUptoCard

/-- THE SECOND FORM's CARD OF 'hopscotchlaw11.ActKnown'. -/
def actKnownUptoCard : Claim7 := { stood := { row := actKnownUptoRow, standIns := [], harness := (true, "c8c7cefbc8520813af398c24b6b114239cb915c6ff22bcb022e4887bfea97f58"), looks := true }, kinds := [], alts := [], laidByText := true, laidKinds := [.data, .data, .data, .data, .sentinel, .sentinel, .widerDeep, .pinned], laidTests := true, laidLooks := .later }
def ActKnownUptoCardSaid : Prop := Claim7.holds Tryz.pinned (.plain (OpenSpec.upto actKnownSpec)) actKnownUptoCard

/-- THE SECOND FORM's CARD OF 'hopscotchlaw17.WfCheck'. -/
def wfCheckUptoCard : Claim7 := { stood := { row := wfCheckUptoRow, standIns := [], harness := (true, "c8c7cefbc8520813af398c24b6b114239cb915c6ff22bcb022e4887bfea97f58"), looks := true }, kinds := [], alts := [], laidByText := true, laidKinds := [.data, .data, .data, .data, .sentinel, .sentinel, .widerDeep, .pinned], laidTests := true, laidLooks := .later }
def WfCheckUptoCardSaid : Prop := Claim7.holds Tryz.pinned (.plain (OpenSpec.upto wfCheckSpec)) wfCheckUptoCard

/-- THE SECOND FORM's CARD OF 'hopscotchlaw17.WfPlaces'. -/
def wfPlacesUptoCard : Claim7 := { stood := { row := wfPlacesUptoRow, standIns := [], harness := (true, "c8c7cefbc8520813af398c24b6b114239cb915c6ff22bcb022e4887bfea97f58"), looks := true }, kinds := [], alts := [], laidByText := true, laidKinds := [.data, .data, .data, .data, .sentinel, .sentinel, .widerDeep, .pinned], laidTests := true, laidLooks := .later }
def WfPlacesUptoCardSaid : Prop := Claim7.holds Tryz.pinned (.plain (OpenSpec.upto wfPlacesSpec)) wfPlacesUptoCard

/-- THE SECOND FORM's CARD OF 'hopscotchlaw17.WfNames'. -/
def wfNamesUptoCard : Claim7 := { stood := { row := wfNamesUptoRow, standIns := [], harness := (true, "c8c7cefbc8520813af398c24b6b114239cb915c6ff22bcb022e4887bfea97f58"), looks := true }, kinds := [], alts := [], laidByText := true, laidKinds := [.data, .data, .data, .data, .sentinel, .sentinel, .widerDeep, .pinned], laidTests := true, laidLooks := .later }
def WfNamesUptoCardSaid : Prop := Claim7.holds Tryz.pinned (.plain (OpenSpec.upto wfNamesSpec)) wfNamesUptoCard

/-- THE SECOND FORM's CARD OF 'hopscotchlaw17.WfKnown'. -/
def wfKnownUptoCard : Claim7 := { stood := { row := wfKnownUptoRow, standIns := [], harness := (true, "c8c7cefbc8520813af398c24b6b114239cb915c6ff22bcb022e4887bfea97f58"), looks := true }, kinds := [], alts := [], laidByText := true, laidKinds := [.data, .data, .data, .data, .sentinel, .sentinel, .widerDeep, .pinned], laidTests := true, laidLooks := .later }
def WfKnownUptoCardSaid : Prop := Claim7.holds Tryz.pinned (.plain (OpenSpec.upto wfKnownSpec)) wfKnownUptoCard
end Rows
end Go.Proofs.YtohdjmgdaaipaaaGreatDoor
