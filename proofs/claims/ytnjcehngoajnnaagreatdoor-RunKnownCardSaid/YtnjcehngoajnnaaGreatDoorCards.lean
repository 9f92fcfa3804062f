/-
  DERIVED. GIVEN WITH THE SEED: THE CARDS: each row of YtnjcehngoajnnaaGreatDoorRows.lean that lists a variable, with what it lists TIED to the program's text (the seventh form; the later family's looks); each row that meets fmt, with fmt's text TOLD by the authors' own Lean function (tested against real Go, not proved from fmt's source: count such statements apart). THE CARD IS WHAT COUNTS. Prove the row's statement (the work); the ties are given (YtnjcehngoajnnaaGreatDoorTie.lean); close each card by the builder's one call (the guide's Derived/Test/ToyasCard.lean, 'card_holds'). Laid BY PROGRAM, IN A SANDBOX (cutbox-door.mjs). By AI agents, Wed Nov 11 2026. No macro, syntax, notation, axiom, sorry.
-/
import Derived.Test.YtnjcehngoajnnaaGreatDoorRows
import GoSem.ClaimSeven
namespace Go.Proofs.YtnjcehngoajnnaaGreatDoor
namespace Rows

/-- THE TIED CARD OF 'hopscotchlaw10.EvalShort'. -/
def evalShortCard : Claim7 := { stood := { row := evalShortRow, standIns := [], harness := (true, "79a15f59ef6ebe220c04710760e2448855e589ec49af8e3321be16fce429ac7d"), looks := true }, kinds := [], alts := [], laidByText := true, laidKinds := [.data, .data, .data, .data, .sentinel, .sentinel, .widerDeep, .pinned], laidTests := true, laidLooks := .later }
def EvalShortCardSaid : Prop := Claim7.holds Tryz.pinned (.plain (OpenSpec.ofChange evalShortSpec)) evalShortCard

/-- THE TIED CARD OF 'hopscotchlaw10.EvalWorth'. -/
def evalWorthCard : Claim7 := { stood := { row := evalWorthRow, standIns := [], harness := (true, "79a15f59ef6ebe220c04710760e2448855e589ec49af8e3321be16fce429ac7d"), looks := true }, kinds := [], alts := [], laidByText := true, laidKinds := [.data, .data, .data, .data, .sentinel, .sentinel, .widerDeep, .pinned], laidTests := true, laidLooks := .later }
def EvalWorthCardSaid : Prop := Claim7.holds Tryz.pinned (.plain (OpenSpec.ofChange evalWorthSpec)) evalWorthCard

/-- THE TIED CARD OF 'hopscotchlaw10.EvalTexts'. -/
def evalTextsCard : Claim7 := { stood := { row := evalTextsRow, standIns := [], harness := (true, "79a15f59ef6ebe220c04710760e2448855e589ec49af8e3321be16fce429ac7d"), looks := true }, kinds := [], alts := [], laidByText := true, laidKinds := [.data, .data, .data, .data, .sentinel, .sentinel, .widerDeep, .pinned], laidTests := true, laidLooks := .later }
def EvalTextsCardSaid : Prop := Claim7.holds Tryz.pinned (.plain (OpenSpec.ofChange evalTextsSpec)) evalTextsCard

/-- THE TIED CARD OF 'hopscotchlaw10.EvalTypes'. -/
def evalTypesCard : Claim7 := { stood := { row := evalTypesRow, standIns := [], harness := (true, "79a15f59ef6ebe220c04710760e2448855e589ec49af8e3321be16fce429ac7d"), looks := true }, kinds := [], alts := [], laidByText := true, laidKinds := [.data, .data, .data, .data, .sentinel, .sentinel, .widerDeep, .pinned], laidTests := true, laidLooks := .later }
def EvalTypesCardSaid : Prop := Claim7.holds Tryz.pinned (.plain (OpenSpec.ofChange evalTypesSpec)) evalTypesCard

/-- THE TIED CARD OF 'hopscotchlaw10.EvalKnown'. -/
def evalKnownCard : Claim7 := { stood := { row := evalKnownRow, standIns := [], harness := (true, "79a15f59ef6ebe220c04710760e2448855e589ec49af8e3321be16fce429ac7d"), looks := true }, kinds := [], alts := [], laidByText := true, laidKinds := [.data, .data, .data, .data, .sentinel, .sentinel, .widerDeep, .pinned], laidTests := true, laidLooks := .later }
def EvalKnownCardSaid : Prop := Claim7.holds Tryz.pinned (.plain (OpenSpec.ofChange evalKnownSpec)) evalKnownCard

/-- THE TIED CARD OF 'hopscotchlaw12.RunDoes'. -/
def runDoesCard : Claim7 := { stood := { row := runDoesRow, standIns := [], harness := (true, "79a15f59ef6ebe220c04710760e2448855e589ec49af8e3321be16fce429ac7d"), looks := true }, kinds := [], alts := [], laidByText := true, laidKinds := [.data, .data, .data, .data, .sentinel, .sentinel, .widerDeep, .pinned], laidTests := true, laidLooks := .later }
def RunDoesCardSaid : Prop := Claim7.holds Tryz.pinned (.plain (OpenSpec.ofChange runDoesSpec)) runDoesCard

/-- THE TIED CARD OF 'hopscotchlaw12.RunTexts'. -/
def runTextsCard : Claim7 := { stood := { row := runTextsRow, standIns := [], harness := (true, "79a15f59ef6ebe220c04710760e2448855e589ec49af8e3321be16fce429ac7d"), looks := true }, kinds := [], alts := [], laidByText := true, laidKinds := [.data, .data, .data, .data, .sentinel, .sentinel, .widerDeep, .pinned], laidTests := true, laidLooks := .later }
def RunTextsCardSaid : Prop := Claim7.holds Tryz.pinned (.plain (OpenSpec.ofChange runTextsSpec)) runTextsCard

/-- THE TIED CARD OF 'hopscotchlaw12.RunParts'. -/
def runPartsCard : Claim7 := { stood := { row := runPartsRow, standIns := [], harness := (true, "79a15f59ef6ebe220c04710760e2448855e589ec49af8e3321be16fce429ac7d"), looks := true }, kinds := [], alts := [], laidByText := true, laidKinds := [.data, .data, .data, .data, .sentinel, .sentinel, .widerDeep, .pinned], laidTests := true, laidLooks := .later }
def RunPartsCardSaid : Prop := Claim7.holds Tryz.pinned (.plain (OpenSpec.ofChange runPartsSpec)) runPartsCard

/-- THE TIED CARD OF 'hopscotchlaw12.RunTypes'. -/
def runTypesCard : Claim7 := { stood := { row := runTypesRow, standIns := [], harness := (true, "79a15f59ef6ebe220c04710760e2448855e589ec49af8e3321be16fce429ac7d"), looks := true }, kinds := [], alts := [], laidByText := true, laidKinds := [.data, .data, .data, .data, .sentinel, .sentinel, .widerDeep, .pinned], laidTests := true, laidLooks := .later }
def RunTypesCardSaid : Prop := Claim7.holds Tryz.pinned (.plain (OpenSpec.ofChange runTypesSpec)) runTypesCard

/-- THE TIED CARD OF 'hopscotchlaw12.RunKnown'. -/
def runKnownCard : Claim7 := { stood := { row := runKnownRow, standIns := [], harness := (true, "79a15f59ef6ebe220c04710760e2448855e589ec49af8e3321be16fce429ac7d"), looks := true }, kinds := [], alts := [], laidByText := true, laidKinds := [.data, .data, .data, .data, .sentinel, .sentinel, .widerDeep, .pinned], laidTests := true, laidLooks := .later }
def RunKnownCardSaid : Prop := Claim7.holds Tryz.pinned (.plain (OpenSpec.ofChange runKnownSpec)) runKnownCard

/-- THE SECOND FORM's CARD OF 'hopscotchlaw10.EvalShort'. -/
def evalShortUptoCard : Claim7 := { stood := { row := evalShortUptoRow, standIns := [], harness := (true, "79a15f59ef6ebe220c04710760e2448855e589ec49af8e3321be16fce429ac7d"), looks := true }, kinds := [], alts := [], laidByText := true, laidKinds := [.data, .data, .data, .data, .sentinel, .sentinel, .widerDeep, .pinned], laidTests := true, laidLooks := .later }
def EvalShortUptoCardSaid : Prop := Claim7.holds Tryz.pinned (.plain (OpenSpec.upto evalShortSpec)) evalShortUptoCard

/-- THE SECOND FORM's CARD OF 'hopscotchlaw10.EvalWorth'. -/
def evalWorthUptoCard : Claim7 := { stood := { row := evalWorthUptoRow, standIns := [], harness := (true, "79a15f59ef6ebe220c04710760e2448855e589ec49af8e3321be16fce429ac7d"), looks := true }, kinds := [], alts := [], laidByText := true, laidKinds := [.data, .data, .data, .data, .sentinel, .sentinel, .widerDeep, .pinned], laidTests := true, laidLooks := .later }
def EvalWorthUptoCardSaid : Prop := Claim7.holds Tryz.pinned (.plain (OpenSpec.upto evalWorthSpec)) evalWorthUptoCard

/-- THE SECOND FORM's CARD OF 'hopscotchlaw10.EvalTexts'. -/
def evalTextsUptoCard : Claim7 := { stood := { row := evalTextsUptoRow, standIns := [], harness := (true, "79a15f59ef6ebe220c04710760e2448855e589ec49af8e3321be16fce429ac7d"), looks := true }, kinds := [], alts := [], laidByText := true, laidKinds := [.data, .data, .data, .data, .sentinel, .sentinel, .widerDeep, .pinned], laidTests := true, laidLooks := .later }
def EvalTextsUptoCardSaid : Prop := Claim7.holds Tryz.pinned (.plain (OpenSpec.upto evalTextsSpec)) evalTextsUptoCard

/-- THE SECOND FORM's CARD OF 'hopscotchlaw10.EvalTypes'. -/
def evalTypesUptoCard : Claim7 := { stood := { row := evalTypesUptoRow, standIns := [], harness := (true, "79a15f59ef6ebe220c04710760e2448855e589ec49af8e3321be16fce429ac7d"), looks := true }, kinds := [], alts := [], laidByText := true, laidKinds := [.data, .data, .data, .data, .sentinel, .sentinel, .widerDeep, .pinned], laidTests := true, laidLooks := .later }
def EvalTypesUptoCardSaid : Prop := Claim7.holds Tryz.pinned (.plain (OpenSpec.upto evalTypesSpec)) evalTypesUptoCard

/-- THE SECOND FORM's CARD OF 'hopscotchlaw10.EvalKnown'. -/
def evalKnownUptoCard : Claim7 := { stood := { row := evalKnownUptoRow, standIns := [], harness := (true, "79a15f59ef6ebe220c04710760e2448855e589ec49af8e3321be16fce429ac7d"), looks := true }, kinds := [], alts := [], laidByText := true, laidKinds := [.data, .data, .data, .data, .sentinel, .sentinel, .widerDeep, .pinned], laidTests := true, laidLooks := .later }
def EvalKnownUptoCardSaid : Prop := Claim7.holds Tryz.pinned (.plain (OpenSpec.upto evalKnownSpec)) evalKnownUptoCard

/-- THE SECOND FORM's CARD OF 'hopscotchlaw12.RunDoes'. -/
def runDoesUptoCard : Claim7 := { stood := { row := runDoesUptoRow, standIns := [], harness := (true, "79a15f59ef6ebe220c04710760e2448855e589ec49af8e3321be16fce429ac7d"), looks := true }, kinds := [], alts := [], laidByText := true, laidKinds := [.data, .data, .data, .data, .sentinel, .sentinel, .widerDeep, .pinned], laidTests := true, laidLooks := .later }
def RunDoesUptoCardSaid : Prop := Claim7.holds Tryz.pinned (.plain (OpenSpec.upto runDoesSpec)) runDoesUptoCard

/-- THE SECOND FORM's CARD OF 'hopscotchlaw12.RunTexts'. -/
def runTextsUptoCard : Claim7 := { stood := { row := runTextsUptoRow, standIns := [], harness := (true, "79a15f59ef6ebe220c04710760e2448855e589ec49af8e3321be16fce429ac7d"), looks := true }, kinds := [], alts := [], laidByText := true, laidKinds := [.data, .data, .data, .data, .sentinel, .sentinel, .widerDeep, .pinned], laidTests := true, laidLooks := .later }
def RunTextsUptoCardSaid : Prop := Claim7.holds Tryz.pinned (.plain (OpenSpec.upto runTextsSpec)) runTextsUptoCard

/-- THE SECOND FORM's CARD OF 'hopscotchlaw12.RunParts'. -/
def runPartsUptoCard : Claim7 := { stood := { row := runPartsUptoRow, standIns := [], harness := (true, "79a15f59ef6ebe220c04710760e2448855e589ec49af8e3321be16fce429ac7d"), looks := true }, kinds := [], alts := [], laidByText := true, laidKinds := [.data, .data, .data, .data, .sentinel, .sentinel, .widerDeep, .pinned], laidTests := true, laidLooks := .later }
def RunPartsUptoCardSaid : Prop := Claim7.holds Tryz.pinned (.plain (OpenSpec.upto runPartsSpec)) runPartsUptoCard

/-- THE SECOND FORM's CARD OF 'hopscotchlaw12.RunTypes'. -/
def runTypesUptoCard : Claim7 := { stood := { row := runTypesUptoRow, standIns := [], harness := (true, "79a15f59ef6ebe220c04710760e2448855e589ec49af8e3321be16fce429ac7d"), looks := true }, kinds := [], alts := [], laidByText := true, laidKinds := [.data, .data, .data, .data, .sentinel, .sentinel, .widerDeep, .pinned], laidTests := true, laidLooks := .later }
def RunTypesUptoCardSaid : Prop := Claim7.holds Tryz.pinned (.plain (OpenSpec.upto runTypesSpec)) runTypesUptoCard

/-- THE SECOND FORM's CARD OF 'hopscotchlaw12.RunKnown'. -/
def runKnownUptoCard : Claim7 := { stood := { row := runKnownUptoRow, standIns := [], harness := (true, "79a15f59ef6ebe220c04710760e2448855e589ec49af8e3321be16fce429ac7d"), looks := true }, kinds := [], alts := [], laidByText := true, laidKinds := [.data, .data, .data, .data, .sentinel, .sentinel, .widerDeep, .pinned], laidTests := true, laidLooks := .later }
def RunKnownUptoCardSaid : Prop := Claim7.holds Tryz.pinned (.plain (OpenSpec.upto runKnownSpec)) runKnownUptoCard
end Rows
end Go.Proofs.YtnjcehngoajnnaaGreatDoor
