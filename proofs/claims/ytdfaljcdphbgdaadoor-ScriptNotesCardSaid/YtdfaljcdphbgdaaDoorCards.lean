/-
  DERIVED. GIVEN WITH THE SEED: THE CARDS: each row of YtdfaljcdphbgdaaDoorRows.lean that lists a variable, with what it lists TIED to the program's text (the seventh form; the later family's looks); each row that meets fmt, with fmt's text TOLD by the authors' own Lean function (tested against real Go, not proved from fmt's source: count such statements apart). THE CARD IS WHAT COUNTS. Prove the row's statement (the work); the ties are given (YtdfaljcdphbgdaaDoorTie.lean); close each card by the builder's one call (the guide's Derived/Test/ToyasCard.lean, 'card_holds'). Laid BY PROGRAM, IN A SANDBOX (cutbox-door.mjs). By AI agents, Wed Nov 11 2026. No macro, syntax, notation, axiom, sorry.
-/
import Derived.Test.YtdfaljcdphbgdaaDoorRows
import GoSem.ClaimSeven
namespace Go.Proofs.YtdfaljcdphbgdaaDoor
namespace Rows

/-- THE TIED CARD OF 'vicinagelaw27.ScriptLines'. -/
def scriptLinesCard : Claim7 := { stood := { row := scriptLinesRow, standIns := [], harness := (true, "a151a126fdc12560d5b31695f5032d42feb867090c393135a48eba5299560e31"), looks := true }, kinds := [], alts := [], laidByText := true, laidKinds := [.data, .data, .data, .data, .handle, .sentinel, .sentinel, .pinned], laidTests := true, laidLooks := .later }
def ScriptLinesCardSaid : Prop := Claim7.holds Tryd.pinned (.plain (OpenSpec.ofChange scriptLinesSpec)) scriptLinesCard

/-- THE TIED CARD OF 'vicinagelaw27.ScriptNotes'. -/
def scriptNotesCard : Claim7 := { stood := { row := scriptNotesRow, standIns := [], harness := (true, "a151a126fdc12560d5b31695f5032d42feb867090c393135a48eba5299560e31"), looks := true }, kinds := [], alts := [], laidByText := true, laidKinds := [.data, .data, .data, .data, .handle, .sentinel, .sentinel, .pinned], laidTests := true, laidLooks := .later }
def ScriptNotesCardSaid : Prop := Claim7.holds Tryd.pinned (.plain (OpenSpec.ofChange scriptNotesSpec)) scriptNotesCard

/-- THE SECOND FORM's CARD OF 'vicinagelaw27.ScriptLines'. -/
def scriptLinesUptoCard : Claim7 := { stood := { row := scriptLinesUptoRow, standIns := [], harness := (true, "a151a126fdc12560d5b31695f5032d42feb867090c393135a48eba5299560e31"), looks := true }, kinds := [], alts := [], laidByText := true, laidKinds := [.data, .data, .data, .data, .handle, .sentinel, .sentinel, .pinned], laidTests := true, laidLooks := .later }
def ScriptLinesUptoCardSaid : Prop := Claim7.holds Tryd.pinned (.plain (OpenSpec.upto scriptLinesSpec)) scriptLinesUptoCard

/-- THE SECOND FORM's CARD OF 'vicinagelaw27.ScriptNotes'. -/
def scriptNotesUptoCard : Claim7 := { stood := { row := scriptNotesUptoRow, standIns := [], harness := (true, "a151a126fdc12560d5b31695f5032d42feb867090c393135a48eba5299560e31"), looks := true }, kinds := [], alts := [], laidByText := true, laidKinds := [.data, .data, .data, .data, .handle, .sentinel, .sentinel, .pinned], laidTests := true, laidLooks := .later }
def ScriptNotesUptoCardSaid : Prop := Claim7.holds Tryd.pinned (.plain (OpenSpec.upto scriptNotesSpec)) scriptNotesUptoCard
end Rows
end Go.Proofs.YtdfaljcdphbgdaaDoor
