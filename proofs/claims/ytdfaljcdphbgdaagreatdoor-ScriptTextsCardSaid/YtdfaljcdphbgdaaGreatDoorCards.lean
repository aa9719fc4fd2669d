/-
  DERIVED. GIVEN WITH THE SEED: THE CARDS: each row of YtdfaljcdphbgdaaGreatDoorRows.lean that lists a variable, with what it lists TIED to the program's text (the seventh form; the later family's looks); each row that meets fmt, with fmt's text TOLD by the authors' own Lean function (tested against real Go, not proved from fmt's source: count such statements apart). THE CARD IS WHAT COUNTS. Prove the row's statement (the work); the ties are given (YtdfaljcdphbgdaaGreatDoorTie.lean); close each card by the builder's one call (the guide's Derived/Test/ToyasCard.lean, 'card_holds'). Laid BY PROGRAM, IN A SANDBOX (cutbox-door.mjs). By AI agents, Wed Nov 11 2026. No macro, syntax, notation, axiom, sorry.
-/
import Derived.Test.YtdfaljcdphbgdaaGreatDoorRows
import GoSem.ClaimSeven
namespace Go.Proofs.YtdfaljcdphbgdaaGreatDoor
namespace Rows

/-- THE TIED CARD OF 'vicinagelaw27.ScriptUnlines'. -/
def scriptUnlinesCard : Claim7 := { stood := { row := scriptUnlinesRow, standIns := [], harness := (true, "9c2402e1131ac2fdea1b1be3b17bcc8043d102575daf78e3552b46c24c67eed1"), looks := true }, kinds := [], alts := [], laidByText := true, laidKinds := [.data, .data, .data, .data, .handle, .sentinel, .sentinel, .pinned], laidTests := true, laidLooks := .later }
def ScriptUnlinesCardSaid : Prop := Claim7.holds Tryz.pinned (.plain (OpenSpec.ofChange scriptUnlinesSpec)) scriptUnlinesCard

/-- THE TIED CARD OF 'vicinagelaw27.ScriptParses'. -/
def scriptParsesCard : Claim7 := { stood := { row := scriptParsesRow, standIns := [], harness := (true, "9c2402e1131ac2fdea1b1be3b17bcc8043d102575daf78e3552b46c24c67eed1"), looks := true }, kinds := [], alts := [], laidByText := true, laidKinds := [.data, .data, .data, .data, .handle, .sentinel, .sentinel, .pinned], laidTests := true, laidLooks := .later }
def ScriptParsesCardSaid : Prop := Claim7.holds Tryz.pinned (.plain (OpenSpec.ofChange scriptParsesSpec)) scriptParsesCard

/-- THE TIED CARD OF 'vicinagelaw27.ScriptTexts'. -/
def scriptTextsCard : Claim7 := { stood := { row := scriptTextsRow, standIns := [], harness := (true, "9c2402e1131ac2fdea1b1be3b17bcc8043d102575daf78e3552b46c24c67eed1"), looks := true }, kinds := [], alts := [], laidByText := true, laidKinds := [.data, .data, .data, .data, .handle, .sentinel, .sentinel, .pinned], laidTests := true, laidLooks := .later }
def ScriptTextsCardSaid : Prop := Claim7.holds Tryz.pinned (.plain (OpenSpec.ofChange scriptTextsSpec)) scriptTextsCard

/-- THE SECOND FORM's CARD OF 'vicinagelaw27.ScriptUnlines'. -/
def scriptUnlinesUptoCard : Claim7 := { stood := { row := scriptUnlinesUptoRow, standIns := [], harness := (true, "9c2402e1131ac2fdea1b1be3b17bcc8043d102575daf78e3552b46c24c67eed1"), looks := true }, kinds := [], alts := [], laidByText := true, laidKinds := [.data, .data, .data, .data, .handle, .sentinel, .sentinel, .pinned], laidTests := true, laidLooks := .later }
def ScriptUnlinesUptoCardSaid : Prop := Claim7.holds Tryz.pinned (.plain (OpenSpec.upto scriptUnlinesSpec)) scriptUnlinesUptoCard

/-- THE SECOND FORM's CARD OF 'vicinagelaw27.ScriptParses'. -/
def scriptParsesUptoCard : Claim7 := { stood := { row := scriptParsesUptoRow, standIns := [], harness := (true, "9c2402e1131ac2fdea1b1be3b17bcc8043d102575daf78e3552b46c24c67eed1"), looks := true }, kinds := [], alts := [], laidByText := true, laidKinds := [.data, .data, .data, .data, .handle, .sentinel, .sentinel, .pinned], laidTests := true, laidLooks := .later }
def ScriptParsesUptoCardSaid : Prop := Claim7.holds Tryz.pinned (.plain (OpenSpec.upto scriptParsesSpec)) scriptParsesUptoCard

/-- THE SECOND FORM's CARD OF 'vicinagelaw27.ScriptTexts'. -/
def scriptTextsUptoCard : Claim7 := { stood := { row := scriptTextsUptoRow, standIns := [], harness := (true, "9c2402e1131ac2fdea1b1be3b17bcc8043d102575daf78e3552b46c24c67eed1"), looks := true }, kinds := [], alts := [], laidByText := true, laidKinds := [.data, .data, .data, .data, .handle, .sentinel, .sentinel, .pinned], laidTests := true, laidLooks := .later }
def ScriptTextsUptoCardSaid : Prop := Claim7.holds Tryz.pinned (.plain (OpenSpec.upto scriptTextsSpec)) scriptTextsUptoCard
end Rows
end Go.Proofs.YtdfaljcdphbgdaaGreatDoor
