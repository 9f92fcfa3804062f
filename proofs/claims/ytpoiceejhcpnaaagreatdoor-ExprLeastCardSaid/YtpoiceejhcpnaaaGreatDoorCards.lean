/-
  DERIVED. GIVEN WITH THE SEED: THE CARDS: each row of YtpoiceejhcpnaaaGreatDoorRows.lean that lists a variable, with what it lists TIED to the program's text (the seventh form; the later family's looks); each row that meets fmt, with fmt's text TOLD by the authors' own Lean function (tested against real Go, not proved from fmt's source: count such statements apart). THE CARD IS WHAT COUNTS. Prove the row's statement (the work); the ties are given (YtpoiceejhcpnaaaGreatDoorTie.lean); close each card by the builder's one call (the guide's Derived/Test/ToyasCard.lean, 'card_holds'). Laid BY PROGRAM, IN A SANDBOX (cutbox-door.mjs). By AI agents, Wed Nov 11 2026. No macro, syntax, notation, axiom, sorry.
-/
import Derived.Test.YtpoiceejhcpnaaaGreatDoorRows
import GoSem.ClaimSeven
namespace Go.Proofs.YtpoiceejhcpnaaaGreatDoor
namespace Rows

/-- THE TIED CARD OF 'hopscotchlaw09.TypesKinds'. -/
def typesKindsCard : Claim7 := { stood := { row := typesKindsRow, standIns := [], harness := (true, "c61799da9672bb93df461c861db7a63f9a2dff05b3c1b7d4d17194ccce321fe3"), looks := true }, kinds := [], alts := [], laidByText := true, laidKinds := [.data, .data, .data, .data, .sentinel, .sentinel, .widerDeep, .pinned], laidTests := true, laidLooks := .later }
def TypesKindsCardSaid : Prop := Claim7.holds Tryz.pinned (.plain (OpenSpec.ofChange typesKindsSpec)) typesKindsCard

/-- THE TIED CARD OF 'hopscotchlaw09.TypesParts'. -/
def typesPartsCard : Claim7 := { stood := { row := typesPartsRow, standIns := [], harness := (true, "c61799da9672bb93df461c861db7a63f9a2dff05b3c1b7d4d17194ccce321fe3"), looks := true }, kinds := [], alts := [], laidByText := true, laidKinds := [.data, .data, .data, .data, .sentinel, .sentinel, .widerDeep, .pinned], laidTests := true, laidLooks := .later }
def TypesPartsCardSaid : Prop := Claim7.holds Tryz.pinned (.plain (OpenSpec.ofChange typesPartsSpec)) typesPartsCard

/-- THE TIED CARD OF 'hopscotchlaw09.TypesNames'. -/
def typesNamesCard : Claim7 := { stood := { row := typesNamesRow, standIns := [], harness := (true, "c61799da9672bb93df461c861db7a63f9a2dff05b3c1b7d4d17194ccce321fe3"), looks := true }, kinds := [], alts := [], laidByText := true, laidKinds := [.data, .data, .data, .data, .sentinel, .sentinel, .widerDeep, .pinned], laidTests := true, laidLooks := .later }
def TypesNamesCardSaid : Prop := Claim7.holds Tryz.pinned (.plain (OpenSpec.ofChange typesNamesSpec)) typesNamesCard

/-- THE TIED CARD OF 'hopscotchlaw09.TypesMore'. -/
def typesMoreCard : Claim7 := { stood := { row := typesMoreRow, standIns := [], harness := (true, "c61799da9672bb93df461c861db7a63f9a2dff05b3c1b7d4d17194ccce321fe3"), looks := true }, kinds := [], alts := [], laidByText := true, laidKinds := [.data, .data, .data, .data, .sentinel, .sentinel, .widerDeep, .pinned], laidTests := true, laidLooks := .later }
def TypesMoreCardSaid : Prop := Claim7.holds Tryz.pinned (.plain (OpenSpec.ofChange typesMoreSpec)) typesMoreCard

/-- THE TIED CARD OF 'hopscotchlaw09.TypesKnown'. -/
def typesKnownCard : Claim7 := { stood := { row := typesKnownRow, standIns := [], harness := (true, "c61799da9672bb93df461c861db7a63f9a2dff05b3c1b7d4d17194ccce321fe3"), looks := true }, kinds := [], alts := [], laidByText := true, laidKinds := [.data, .data, .data, .data, .sentinel, .sentinel, .widerDeep, .pinned], laidTests := true, laidLooks := .later }
def TypesKnownCardSaid : Prop := Claim7.holds Tryz.pinned (.plain (OpenSpec.ofChange typesKnownSpec)) typesKnownCard

/-- THE TIED CARD OF 'hopscotchlaw08.ExprReads'. -/
def exprReadsCard : Claim7 := { stood := { row := exprReadsRow, standIns := [], harness := (true, "c61799da9672bb93df461c861db7a63f9a2dff05b3c1b7d4d17194ccce321fe3"), looks := true }, kinds := [], alts := [], laidByText := true, laidKinds := [.data, .data, .data, .data, .sentinel, .sentinel, .widerDeep, .pinned], laidTests := true, laidLooks := .later }
def ExprReadsCardSaid : Prop := Claim7.holds Tryz.pinned (.plain (OpenSpec.ofChange exprReadsSpec)) exprReadsCard

/-- THE TIED CARD OF 'hopscotchlaw08.ExprFrom'. -/
def exprFromCard : Claim7 := { stood := { row := exprFromRow, standIns := [], harness := (true, "c61799da9672bb93df461c861db7a63f9a2dff05b3c1b7d4d17194ccce321fe3"), looks := true }, kinds := [], alts := [], laidByText := true, laidKinds := [.data, .data, .data, .data, .sentinel, .sentinel, .widerDeep, .pinned], laidTests := true, laidLooks := .later }
def ExprFromCardSaid : Prop := Claim7.holds Tryz.pinned (.plain (OpenSpec.ofChange exprFromSpec)) exprFromCard

/-- THE TIED CARD OF 'hopscotchlaw08.ExprChecks'. -/
def exprChecksCard : Claim7 := { stood := { row := exprChecksRow, standIns := [], harness := (true, "c61799da9672bb93df461c861db7a63f9a2dff05b3c1b7d4d17194ccce321fe3"), looks := true }, kinds := [], alts := [], laidByText := true, laidKinds := [.data, .data, .data, .data, .sentinel, .sentinel, .widerDeep, .pinned], laidTests := true, laidLooks := .later }
def ExprChecksCardSaid : Prop := Claim7.holds Tryz.pinned (.plain (OpenSpec.ofChange exprChecksSpec)) exprChecksCard

/-- THE TIED CARD OF 'hopscotchlaw08.ExprBack'. -/
def exprBackCard : Claim7 := { stood := { row := exprBackRow, standIns := [], harness := (true, "c61799da9672bb93df461c861db7a63f9a2dff05b3c1b7d4d17194ccce321fe3"), looks := true }, kinds := [], alts := [], laidByText := true, laidKinds := [.data, .data, .data, .data, .sentinel, .sentinel, .widerDeep, .pinned], laidTests := true, laidLooks := .later }
def ExprBackCardSaid : Prop := Claim7.holds Tryz.pinned (.plain (OpenSpec.ofChange exprBackSpec)) exprBackCard

/-- THE TIED CARD OF 'hopscotchlaw08.ExprLeast'. -/
def exprLeastCard : Claim7 := { stood := { row := exprLeastRow, standIns := [], harness := (true, "c61799da9672bb93df461c861db7a63f9a2dff05b3c1b7d4d17194ccce321fe3"), looks := true }, kinds := [], alts := [], laidByText := true, laidKinds := [.data, .data, .data, .data, .sentinel, .sentinel, .widerDeep, .pinned], laidTests := true, laidLooks := .later }
def ExprLeastCardSaid : Prop := Claim7.holds Tryz.pinned (.plain (OpenSpec.ofChange exprLeastSpec)) exprLeastCard

/-- THE TIED CARD OF 'hopscotchlaw08.ExprKnown'. -/
def exprKnownCard : Claim7 := { stood := { row := exprKnownRow, standIns := [], harness := (true, "c61799da9672bb93df461c861db7a63f9a2dff05b3c1b7d4d17194ccce321fe3"), looks := true }, kinds := [], alts := [], laidByText := true, laidKinds := [.data, .data, .data, .data, .sentinel, .sentinel, .widerDeep, .pinned], laidTests := true, laidLooks := .later }
def ExprKnownCardSaid : Prop := Claim7.holds Tryz.pinned (.plain (OpenSpec.ofChange exprKnownSpec)) exprKnownCard

/-- THE SECOND FORM's CARD OF 'hopscotchlaw09.TypesKinds'. -/
def typesKindsUptoCard : Claim7 := { stood := { row := typesKindsUptoRow, standIns := [], harness := (true, "c61799da9672bb93df461c861db7a63f9a2dff05b3c1b7d4d17194ccce321fe3"), looks := true }, kinds := [], alts := [], laidByText := true, laidKinds := [.data, .data, .data, .data, .sentinel, .sentinel, .widerDeep, .pinned], laidTests := true, laidLooks := .later }
def TypesKindsUptoCardSaid : Prop := Claim7.holds Tryz.pinned (.plain (OpenSpec.upto typesKindsSpec)) typesKindsUptoCard

/-- THE SECOND FORM's CARD OF 'hopscotchlaw09.TypesParts'. -/
def typesPartsUptoCard : Claim7 := { stood := { row := typesPartsUptoRow, standIns := [], harness := (true, "c61799da9672bb93df461c861db7a63f9a2dff05b3c1b7d4d17194ccce321fe3"), looks := true }, kinds := [], alts := [], laidByText := true, laidKinds := [.data, .data, .data, .data, .sentinel, .sentinel, .widerDeep, .pinned], laidTests := true, laidLooks := .later }
def TypesPartsUptoCardSaid : Prop := Claim7.holds Tryz.pinned (.plain (OpenSpec.upto typesPartsSpec)) typesPartsUptoCard

/-- THE SECOND FORM's CARD OF 'hopscotchlaw09.TypesNames'. -/
def typesNamesUptoCard : Claim7 := { stood := { row := typesNamesUptoRow, standIns := [], harness := (true, "c61799da9672bb93df461c861db7a63f9a2dff05b3c1b7d4d17194ccce321fe3"), looks := true }, kinds := [], alts := [], laidByText := true, laidKinds := [.data, .data, .data, .data, .sentinel, .sentinel, .widerDeep, .pinned], laidTests := true, laidLooks := .later }
def TypesNamesUptoCardSaid : Prop := Claim7.holds Tryz.pinned (.plain (OpenSpec.upto typesNamesSpec)) typesNamesUptoCard

/-- THE SECOND FORM's CARD OF 'hopscotchlaw09.TypesMore'. -/
def typesMoreUptoCard : Claim7 := { stood := { row := typesMoreUptoRow, standIns := [], harness := (true, "c61799da9672bb93df461c861db7a63f9a2dff05b3c1b7d4d17194ccce321fe3"), looks := true }, kinds := [], alts := [], laidByText := true, laidKinds := [.data, .data, .data, .data, .sentinel, .sentinel, .widerDeep, .pinned], laidTests := true, laidLooks := .later }
def TypesMoreUptoCardSaid : Prop := Claim7.holds Tryz.pinned (.plain (OpenSpec.upto typesMoreSpec)) typesMoreUptoCard

/-- THE SECOND FORM's CARD OF 'hopscotchlaw09.TypesKnown'. -/
def typesKnownUptoCard : Claim7 := { stood := { row := typesKnownUptoRow, standIns := [], harness := (true, "c61799da9672bb93df461c861db7a63f9a2dff05b3c1b7d4d17194ccce321fe3"), looks := true }, kinds := [], alts := [], laidByText := true, laidKinds := [.data, .data, .data, .data, .sentinel, .sentinel, .widerDeep, .pinned], laidTests := true, laidLooks := .later }
def TypesKnownUptoCardSaid : Prop := Claim7.holds Tryz.pinned (.plain (OpenSpec.upto typesKnownSpec)) typesKnownUptoCard

/-- THE SECOND FORM's CARD OF 'hopscotchlaw08.ExprReads'. -/
def exprReadsUptoCard : Claim7 := { stood := { row := exprReadsUptoRow, standIns := [], harness := (true, "c61799da9672bb93df461c861db7a63f9a2dff05b3c1b7d4d17194ccce321fe3"), looks := true }, kinds := [], alts := [], laidByText := true, laidKinds := [.data, .data, .data, .data, .sentinel, .sentinel, .widerDeep, .pinned], laidTests := true, laidLooks := .later }
def ExprReadsUptoCardSaid : Prop := Claim7.holds Tryz.pinned (.plain (OpenSpec.upto exprReadsSpec)) exprReadsUptoCard

/-- THE SECOND FORM's CARD OF 'hopscotchlaw08.ExprFrom'. -/
def exprFromUptoCard : Claim7 := { stood := { row := exprFromUptoRow, standIns := [], harness := (true, "c61799da9672bb93df461c861db7a63f9a2dff05b3c1b7d4d17194ccce321fe3"), looks := true }, kinds := [], alts := [], laidByText := true, laidKinds := [.data, .data, .data, .data, .sentinel, .sentinel, .widerDeep, .pinned], laidTests := true, laidLooks := .later }
def ExprFromUptoCardSaid : Prop := Claim7.holds Tryz.pinned (.plain (OpenSpec.upto exprFromSpec)) exprFromUptoCard

/-- THE SECOND FORM's CARD OF 'hopscotchlaw08.ExprChecks'. -/
def exprChecksUptoCard : Claim7 := { stood := { row := exprChecksUptoRow, standIns := [], harness := (true, "c61799da9672bb93df461c861db7a63f9a2dff05b3c1b7d4d17194ccce321fe3"), looks := true }, kinds := [], alts := [], laidByText := true, laidKinds := [.data, .data, .data, .data, .sentinel, .sentinel, .widerDeep, .pinned], laidTests := true, laidLooks := .later }
def ExprChecksUptoCardSaid : Prop := Claim7.holds Tryz.pinned (.plain (OpenSpec.upto exprChecksSpec)) exprChecksUptoCard

/-- THE SECOND FORM's CARD OF 'hopscotchlaw08.ExprBack'. -/
def exprBackUptoCard : Claim7 := { stood := { row := exprBackUptoRow, standIns := [], harness := (true, "c61799da9672bb93df461c861db7a63f9a2dff05b3c1b7d4d17194ccce321fe3"), looks := true }, kinds := [], alts := [], laidByText := true, laidKinds := [.data, .data, .data, .data, .sentinel, .sentinel, .widerDeep, .pinned], laidTests := true, laidLooks := .later }
def ExprBackUptoCardSaid : Prop := Claim7.holds Tryz.pinned (.plain (OpenSpec.upto exprBackSpec)) exprBackUptoCard

/-- THE SECOND FORM's CARD OF 'hopscotchlaw08.ExprLeast'. -/
def exprLeastUptoCard : Claim7 := { stood := { row := exprLeastUptoRow, standIns := [], harness := (true, "c61799da9672bb93df461c861db7a63f9a2dff05b3c1b7d4d17194ccce321fe3"), looks := true }, kinds := [], alts := [], laidByText := true, laidKinds := [.data, .data, .data, .data, .sentinel, .sentinel, .widerDeep, .pinned], laidTests := true, laidLooks := .later }
def ExprLeastUptoCardSaid : Prop := Claim7.holds Tryz.pinned (.plain (OpenSpec.upto exprLeastSpec)) exprLeastUptoCard

/-- THE SECOND FORM's CARD OF 'hopscotchlaw08.ExprKnown'. -/
def exprKnownUptoCard : Claim7 := { stood := { row := exprKnownUptoRow, standIns := [], harness := (true, "c61799da9672bb93df461c861db7a63f9a2dff05b3c1b7d4d17194ccce321fe3"), looks := true }, kinds := [], alts := [], laidByText := true, laidKinds := [.data, .data, .data, .data, .sentinel, .sentinel, .widerDeep, .pinned], laidTests := true, laidLooks := .later }
def ExprKnownUptoCardSaid : Prop := Claim7.holds Tryz.pinned (.plain (OpenSpec.upto exprKnownSpec)) exprKnownUptoCard
end Rows
end Go.Proofs.YtpoiceejhcpnaaaGreatDoor
