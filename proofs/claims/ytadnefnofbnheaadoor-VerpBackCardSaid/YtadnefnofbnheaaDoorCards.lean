/-
  DERIVED. GIVEN WITH THE SEED: THE CARDS: each row of YtadnefnofbnheaaDoorRows.lean that lists a variable, with what it lists TIED to the program's text (the seventh form; the later family's looks); each row that meets fmt, with fmt's text TOLD by the authors' own Lean function (tested against real Go, not proved from fmt's source: count such statements apart). THE CARD IS WHAT COUNTS. Prove the row's statement (the work); the ties are given (YtadnefnofbnheaaDoorTie.lean); close each card by the builder's one call (the guide's Derived/Test/ToyasCard.lean, 'card_holds'). Laid BY PROGRAM, IN A SANDBOX (cutbox-door.mjs). By AI agents, Wed Nov 11 2026. No macro, syntax, notation, axiom, sorry.
-/
import Derived.Test.YtadnefnofbnheaaDoorRows
import GoSem.ClaimSeven
namespace Go.Proofs.YtadnefnofbnheaaDoor
namespace Rows

/-- THE TIED CARD OF 'missivelaw02.WireAgain'. -/
def wireAgainCard : Claim7 := { stood := { row := wireAgainRow, standIns := [], harness := (true, "78d35624a0437658e8cffb56d2134b4201d9f40924d8434c26b350178038b40d"), looks := false }, kinds := [], alts := [], laidByText := true, laidKinds := [.data, .data, .data], laidTests := true, laidLooks := .later }
def WireAgainCardSaid : Prop := Claim7.holds Tryd.pinned (.plain (OpenSpec.ofChange wireAgainSpec)) wireAgainCard

/-- THE TIED CARD OF 'missivelaw01.TextNumbers'. -/
def textNumbersCard : Claim7 := { stood := { row := textNumbersRow, standIns := [], harness := (true, "78d35624a0437658e8cffb56d2134b4201d9f40924d8434c26b350178038b40d"), looks := false }, kinds := [], alts := [], laidByText := true, laidKinds := [.data, .data, .data], laidTests := true, laidLooks := .later }
def TextNumbersCardSaid : Prop := Claim7.holds Tryd.pinned (.plain (OpenSpec.ofChange textNumbersSpec)) textNumbersCard

/-- THE TIED CARD OF 'missivelaw38.VerpTells'. -/
def verpTellsCard : Claim7 := { stood := { row := verpTellsRow, standIns := [], harness := (true, "78d35624a0437658e8cffb56d2134b4201d9f40924d8434c26b350178038b40d"), looks := false }, kinds := [], alts := [], laidByText := true, laidKinds := [.data, .data, .data, .data, .data], laidTests := true, laidLooks := .later }
def VerpTellsCardSaid : Prop := Claim7.holds Tryd.pinned (.plain (OpenSpec.ofChange verpTellsSpec)) verpTellsCard

/-- THE TIED CARD OF 'missivelaw38.VerpOnly'. -/
def verpOnlyCard : Claim7 := { stood := { row := verpOnlyRow, standIns := [], harness := (true, "78d35624a0437658e8cffb56d2134b4201d9f40924d8434c26b350178038b40d"), looks := false }, kinds := [], alts := [], laidByText := true, laidKinds := [.data, .data, .data, .data, .data], laidTests := true, laidLooks := .later }
def VerpOnlyCardSaid : Prop := Claim7.holds Tryd.pinned (.plain (OpenSpec.ofChange verpOnlySpec)) verpOnlyCard

/-- THE TIED CARD OF 'missivelaw38.VerpDiffers'. -/
def verpDiffersCard : Claim7 := { stood := { row := verpDiffersRow, standIns := [], harness := (true, "78d35624a0437658e8cffb56d2134b4201d9f40924d8434c26b350178038b40d"), looks := false }, kinds := [], alts := [], laidByText := true, laidKinds := [.data, .data, .data, .data, .data], laidTests := true, laidLooks := .later }
def VerpDiffersCardSaid : Prop := Claim7.holds Tryd.pinned (.plain (OpenSpec.ofChange verpDiffersSpec)) verpDiffersCard

/-- THE TIED CARD OF 'missivelaw38.VerpBack'. -/
def verpBackCard : Claim7 := { stood := { row := verpBackRow, standIns := [], harness := (true, "78d35624a0437658e8cffb56d2134b4201d9f40924d8434c26b350178038b40d"), looks := false }, kinds := [], alts := [], laidByText := true, laidKinds := [.data, .data, .data, .data, .data], laidTests := true, laidLooks := .later }
def VerpBackCardSaid : Prop := Claim7.holds Tryd.pinned (.plain (OpenSpec.ofChange verpBackSpec)) verpBackCard

/-- THE TIED CARD OF 'missivelaw01.TextTells'. -/
def textTellsCard : Claim7 := { stood := { row := textTellsRow, standIns := [], harness := (true, "78d35624a0437658e8cffb56d2134b4201d9f40924d8434c26b350178038b40d"), looks := false }, kinds := [], alts := [], laidByText := true, laidKinds := [.data, .data, .data], laidTests := true, laidLooks := .later }
def TextTellsCardSaid : Prop := Claim7.holds Tryd.pinned (.plain (OpenSpec.ofChange textTellsSpec)) textTellsCard

/-- THE TIED CARD OF 'missivelaw18.FormBack'. -/
def formBackCard : Claim7 := { stood := { row := formBackRow, standIns := [], harness := (true, "78d35624a0437658e8cffb56d2134b4201d9f40924d8434c26b350178038b40d"), looks := false }, kinds := [], alts := [], laidByText := true, laidKinds := [.data, .data, .data, .data], laidTests := true, laidLooks := .later }
def FormBackCardSaid : Prop := Claim7.holds Tryd.pinned (.plain (OpenSpec.ofChange formBackSpec)) formBackCard

/-- THE TIED CARD OF 'missivelaw18.FormJoins'. -/
def formJoinsCard : Claim7 := { stood := { row := formJoinsRow, standIns := [], harness := (true, "78d35624a0437658e8cffb56d2134b4201d9f40924d8434c26b350178038b40d"), looks := false }, kinds := [], alts := [], laidByText := true, laidKinds := [.data, .data, .data, .data], laidTests := true, laidLooks := .later }
def FormJoinsCardSaid : Prop := Claim7.holds Tryd.pinned (.plain (OpenSpec.ofChange formJoinsSpec)) formJoinsCard

/-- THE TIED CARD OF 'missivelaw18.FormInts'. -/
def formIntsCard : Claim7 := { stood := { row := formIntsRow, standIns := [], harness := (true, "78d35624a0437658e8cffb56d2134b4201d9f40924d8434c26b350178038b40d"), looks := false }, kinds := [], alts := [], laidByText := true, laidKinds := [.data, .data, .data, .data], laidTests := true, laidLooks := .later }
def FormIntsCardSaid : Prop := Claim7.holds Tryd.pinned (.plain (OpenSpec.ofChange formIntsSpec)) formIntsCard

/-- THE TIED CARD OF 'missivelaw18.FormTells'. -/
def formTellsCard : Claim7 := { stood := { row := formTellsRow, standIns := [], harness := (true, "78d35624a0437658e8cffb56d2134b4201d9f40924d8434c26b350178038b40d"), looks := false }, kinds := [], alts := [], laidByText := true, laidKinds := [.data, .data, .data, .data], laidTests := true, laidLooks := .later }
def FormTellsCardSaid : Prop := Claim7.holds Tryd.pinned (.plain (OpenSpec.ofChange formTellsSpec)) formTellsCard

/-- THE TIED CARD OF 'missivelaw34.QuoteTells'. -/
def quoteTellsCard : Claim7 := { stood := { row := quoteTellsRow, standIns := [], harness := (true, "78d35624a0437658e8cffb56d2134b4201d9f40924d8434c26b350178038b40d"), looks := false }, kinds := [], alts := [], laidByText := true, laidKinds := [.data, .data, .data, .data, .pinned], laidTests := true, laidLooks := .later }
def QuoteTellsCardSaid : Prop := Claim7.holds Tryd.pinned (.plain (OpenSpec.ofChange quoteTellsSpec)) quoteTellsCard

/-- THE SECOND FORM's CARD OF 'missivelaw02.WireAgain'. -/
def wireAgainUptoCard : Claim7 := { stood := { row := wireAgainUptoRow, standIns := [], harness := (true, "78d35624a0437658e8cffb56d2134b4201d9f40924d8434c26b350178038b40d"), looks := false }, kinds := [], alts := [], laidByText := true, laidKinds := [.data, .data, .data], laidTests := true, laidLooks := .later }
def WireAgainUptoCardSaid : Prop := Claim7.holds Tryd.pinned (.plain (OpenSpec.upto wireAgainSpec)) wireAgainUptoCard

/-- THE SECOND FORM's CARD OF 'missivelaw01.TextNumbers'. -/
def textNumbersUptoCard : Claim7 := { stood := { row := textNumbersUptoRow, standIns := [], harness := (true, "78d35624a0437658e8cffb56d2134b4201d9f40924d8434c26b350178038b40d"), looks := false }, kinds := [], alts := [], laidByText := true, laidKinds := [.data, .data, .data], laidTests := true, laidLooks := .later }
def TextNumbersUptoCardSaid : Prop := Claim7.holds Tryd.pinned (.plain (OpenSpec.upto textNumbersSpec)) textNumbersUptoCard

/-- THE SECOND FORM's CARD OF 'missivelaw38.VerpTells'. -/
def verpTellsUptoCard : Claim7 := { stood := { row := verpTellsUptoRow, standIns := [], harness := (true, "78d35624a0437658e8cffb56d2134b4201d9f40924d8434c26b350178038b40d"), looks := false }, kinds := [], alts := [], laidByText := true, laidKinds := [.data, .data, .data, .data, .data], laidTests := true, laidLooks := .later }
def VerpTellsUptoCardSaid : Prop := Claim7.holds Tryd.pinned (.plain (OpenSpec.upto verpTellsSpec)) verpTellsUptoCard

/-- THE SECOND FORM's CARD OF 'missivelaw38.VerpOnly'. -/
def verpOnlyUptoCard : Claim7 := { stood := { row := verpOnlyUptoRow, standIns := [], harness := (true, "78d35624a0437658e8cffb56d2134b4201d9f40924d8434c26b350178038b40d"), looks := false }, kinds := [], alts := [], laidByText := true, laidKinds := [.data, .data, .data, .data, .data], laidTests := true, laidLooks := .later }
def VerpOnlyUptoCardSaid : Prop := Claim7.holds Tryd.pinned (.plain (OpenSpec.upto verpOnlySpec)) verpOnlyUptoCard

/-- THE SECOND FORM's CARD OF 'missivelaw38.VerpDiffers'. -/
def verpDiffersUptoCard : Claim7 := { stood := { row := verpDiffersUptoRow, standIns := [], harness := (true, "78d35624a0437658e8cffb56d2134b4201d9f40924d8434c26b350178038b40d"), looks := false }, kinds := [], alts := [], laidByText := true, laidKinds := [.data, .data, .data, .data, .data], laidTests := true, laidLooks := .later }
def VerpDiffersUptoCardSaid : Prop := Claim7.holds Tryd.pinned (.plain (OpenSpec.upto verpDiffersSpec)) verpDiffersUptoCard

/-- THE SECOND FORM's CARD OF 'missivelaw38.VerpBack'. -/
def verpBackUptoCard : Claim7 := { stood := { row := verpBackUptoRow, standIns := [], harness := (true, "78d35624a0437658e8cffb56d2134b4201d9f40924d8434c26b350178038b40d"), looks := false }, kinds := [], alts := [], laidByText := true, laidKinds := [.data, .data, .data, .data, .data], laidTests := true, laidLooks := .later }
def VerpBackUptoCardSaid : Prop := Claim7.holds Tryd.pinned (.plain (OpenSpec.upto verpBackSpec)) verpBackUptoCard

/-- THE SECOND FORM's CARD OF 'missivelaw01.TextTells'. -/
def textTellsUptoCard : Claim7 := { stood := { row := textTellsUptoRow, standIns := [], harness := (true, "78d35624a0437658e8cffb56d2134b4201d9f40924d8434c26b350178038b40d"), looks := false }, kinds := [], alts := [], laidByText := true, laidKinds := [.data, .data, .data], laidTests := true, laidLooks := .later }
def TextTellsUptoCardSaid : Prop := Claim7.holds Tryd.pinned (.plain (OpenSpec.upto textTellsSpec)) textTellsUptoCard

/-- THE SECOND FORM's CARD OF 'missivelaw18.FormBack'. -/
def formBackUptoCard : Claim7 := { stood := { row := formBackUptoRow, standIns := [], harness := (true, "78d35624a0437658e8cffb56d2134b4201d9f40924d8434c26b350178038b40d"), looks := false }, kinds := [], alts := [], laidByText := true, laidKinds := [.data, .data, .data, .data], laidTests := true, laidLooks := .later }
def FormBackUptoCardSaid : Prop := Claim7.holds Tryd.pinned (.plain (OpenSpec.upto formBackSpec)) formBackUptoCard

/-- THE SECOND FORM's CARD OF 'missivelaw18.FormJoins'. -/
def formJoinsUptoCard : Claim7 := { stood := { row := formJoinsUptoRow, standIns := [], harness := (true, "78d35624a0437658e8cffb56d2134b4201d9f40924d8434c26b350178038b40d"), looks := false }, kinds := [], alts := [], laidByText := true, laidKinds := [.data, .data, .data, .data], laidTests := true, laidLooks := .later }
def FormJoinsUptoCardSaid : Prop := Claim7.holds Tryd.pinned (.plain (OpenSpec.upto formJoinsSpec)) formJoinsUptoCard

/-- THE SECOND FORM's CARD OF 'missivelaw18.FormInts'. -/
def formIntsUptoCard : Claim7 := { stood := { row := formIntsUptoRow, standIns := [], harness := (true, "78d35624a0437658e8cffb56d2134b4201d9f40924d8434c26b350178038b40d"), looks := false }, kinds := [], alts := [], laidByText := true, laidKinds := [.data, .data, .data, .data], laidTests := true, laidLooks := .later }
def FormIntsUptoCardSaid : Prop := Claim7.holds Tryd.pinned (.plain (OpenSpec.upto formIntsSpec)) formIntsUptoCard

/-- THE SECOND FORM's CARD OF 'missivelaw18.FormTells'. -/
def formTellsUptoCard : Claim7 := { stood := { row := formTellsUptoRow, standIns := [], harness := (true, "78d35624a0437658e8cffb56d2134b4201d9f40924d8434c26b350178038b40d"), looks := false }, kinds := [], alts := [], laidByText := true, laidKinds := [.data, .data, .data, .data], laidTests := true, laidLooks := .later }
def FormTellsUptoCardSaid : Prop := Claim7.holds Tryd.pinned (.plain (OpenSpec.upto formTellsSpec)) formTellsUptoCard

/-- THE SECOND FORM's CARD OF 'missivelaw34.QuoteTells'. -/
def quoteTellsUptoCard : Claim7 := { stood := { row := quoteTellsUptoRow, standIns := [], harness := (true, "78d35624a0437658e8cffb56d2134b4201d9f40924d8434c26b350178038b40d"), looks := false }, kinds := [], alts := [], laidByText := true, laidKinds := [.data, .data, .data, .data, .pinned], laidTests := true, laidLooks := .later }
def QuoteTellsUptoCardSaid : Prop := Claim7.holds Tryd.pinned (.plain (OpenSpec.upto quoteTellsSpec)) quoteTellsUptoCard
end Rows
end Go.Proofs.YtadnefnofbnheaaDoor
