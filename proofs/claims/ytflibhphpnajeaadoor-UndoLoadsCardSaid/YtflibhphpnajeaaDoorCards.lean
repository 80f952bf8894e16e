/-
  DERIVED. GIVEN WITH THE SEED: THE CARDS: each row of YtflibhphpnajeaaDoorRows.lean that lists a variable, with what it lists TIED to the program's text (the seventh form; the later family's looks); each row that meets fmt, with fmt's text TOLD by the authors' own Lean function (tested against real Go, not proved from fmt's source: count such statements apart). THE CARD IS WHAT COUNTS. Prove the row's statement (the work); the ties are given (YtflibhphpnajeaaDoorTie.lean); close each card by the builder's one call (the guide's Derived/Test/ToyasCard.lean, 'card_holds'). Laid BY PROGRAM, IN A SANDBOX (cutbox-door.mjs). By AI agents, Wed Nov 11 2026. No macro, syntax, notation, axiom, sorry.
-/
import Derived.Test.YtflibhphpnajeaaDoorRows
import GoSem.ClaimSeven
namespace Go.Proofs.YtflibhphpnajeaaDoor
namespace Rows

/-- THE TIED CARD OF 'barrowlaw14.UndoBack'. -/
def undoBackCard : Claim7 := { stood := { row := undoBackRow, standIns := [], harness := (true, "f77744dc96c627695c8f58eae2ca9c1cede12bbe6efe92388ab218e860622aa6"), looks := true }, kinds := [], alts := [], laidByText := true, laidKinds := [.sentinel], laidTests := true, laidLooks := .later }
def UndoBackCardSaid : Prop := Claim7.holds Tryd.pinned (.plain (OpenSpec.ofChange undoBackSpec)) undoBackCard

/-- THE TIED CARD OF 'barrowlaw14.UndoNames'. -/
def undoNamesCard : Claim7 := { stood := { row := undoNamesRow, standIns := [], harness := (true, "f77744dc96c627695c8f58eae2ca9c1cede12bbe6efe92388ab218e860622aa6"), looks := true }, kinds := [], alts := [], laidByText := true, laidKinds := [.sentinel], laidTests := true, laidLooks := .later }
def UndoNamesCardSaid : Prop := Claim7.holds Tryd.pinned (.plain (OpenSpec.ofChange undoNamesSpec)) undoNamesCard

/-- THE TIED CARD OF 'barrowlaw14.UndoCounts'. -/
def undoCountsCard : Claim7 := { stood := { row := undoCountsRow, standIns := [], harness := (true, "f77744dc96c627695c8f58eae2ca9c1cede12bbe6efe92388ab218e860622aa6"), looks := true }, kinds := [], alts := [], laidByText := true, laidKinds := [.sentinel, .sentinel, .sentinel, .sentinel, .sentinel, .sentinel, .sentinel, .sentinel, .sentinel, .sentinel, .sentinel, .sentinel, .sentinel, .sentinel], laidTests := true, laidLooks := .later }
def UndoCountsCardSaid : Prop := Claim7.holds Tryd.pinned (.plain (OpenSpec.ofChange undoCountsSpec)) undoCountsCard

/-- THE TIED CARD OF 'barrowlaw14.UndoExact'. -/
def undoExactCard : Claim7 := { stood := { row := undoExactRow, standIns := [], harness := (true, "f77744dc96c627695c8f58eae2ca9c1cede12bbe6efe92388ab218e860622aa6"), looks := true }, kinds := [], alts := [], laidByText := true, laidKinds := [.sentinel, .sentinel, .sentinel, .sentinel, .sentinel, .sentinel, .sentinel, .sentinel, .sentinel, .sentinel, .sentinel, .sentinel, .sentinel, .sentinel], laidTests := true, laidLooks := .later }
def UndoExactCardSaid : Prop := Claim7.holds Tryd.pinned (.plain (OpenSpec.ofChange undoExactSpec)) undoExactCard

/-- THE TIED CARD OF 'barrowlaw14.UndoThere'. -/
def undoThereCard : Claim7 := { stood := { row := undoThereRow, standIns := [], harness := (true, "f77744dc96c627695c8f58eae2ca9c1cede12bbe6efe92388ab218e860622aa6"), looks := true }, kinds := [], alts := [], laidByText := true, laidKinds := [.sentinel, .sentinel, .sentinel, .sentinel, .sentinel, .sentinel, .sentinel, .sentinel, .sentinel, .sentinel, .sentinel, .sentinel, .sentinel, .sentinel], laidTests := true, laidLooks := .later }
def UndoThereCardSaid : Prop := Claim7.holds Tryd.pinned (.plain (OpenSpec.ofChange undoThereSpec)) undoThereCard

/-- THE TIED CARD OF 'barrowlaw14.UndoLoads'. -/
def undoLoadsCard : Claim7 := { stood := { row := undoLoadsRow, standIns := [], harness := (true, "f77744dc96c627695c8f58eae2ca9c1cede12bbe6efe92388ab218e860622aa6"), looks := true }, kinds := [], alts := [], laidByText := true, laidKinds := [.sentinel, .sentinel, .sentinel, .sentinel, .sentinel, .sentinel, .sentinel, .sentinel, .sentinel, .sentinel, .sentinel, .sentinel, .sentinel, .sentinel], laidTests := true, laidLooks := .later }
def UndoLoadsCardSaid : Prop := Claim7.holds Tryd.pinned (.plain (OpenSpec.ofChange undoLoadsSpec)) undoLoadsCard

/-- THE SECOND FORM's CARD OF 'barrowlaw14.UndoBack'. -/
def undoBackUptoCard : Claim7 := { stood := { row := undoBackUptoRow, standIns := [], harness := (true, "f77744dc96c627695c8f58eae2ca9c1cede12bbe6efe92388ab218e860622aa6"), looks := true }, kinds := [], alts := [], laidByText := true, laidKinds := [.sentinel], laidTests := true, laidLooks := .later }
def UndoBackUptoCardSaid : Prop := Claim7.holds Tryd.pinned (.plain (OpenSpec.upto undoBackSpec)) undoBackUptoCard

/-- THE SECOND FORM's CARD OF 'barrowlaw14.UndoNames'. -/
def undoNamesUptoCard : Claim7 := { stood := { row := undoNamesUptoRow, standIns := [], harness := (true, "f77744dc96c627695c8f58eae2ca9c1cede12bbe6efe92388ab218e860622aa6"), looks := true }, kinds := [], alts := [], laidByText := true, laidKinds := [.sentinel], laidTests := true, laidLooks := .later }
def UndoNamesUptoCardSaid : Prop := Claim7.holds Tryd.pinned (.plain (OpenSpec.upto undoNamesSpec)) undoNamesUptoCard

/-- THE SECOND FORM's CARD OF 'barrowlaw14.UndoCounts'. -/
def undoCountsUptoCard : Claim7 := { stood := { row := undoCountsUptoRow, standIns := [], harness := (true, "f77744dc96c627695c8f58eae2ca9c1cede12bbe6efe92388ab218e860622aa6"), looks := true }, kinds := [], alts := [], laidByText := true, laidKinds := [.sentinel, .sentinel, .sentinel, .sentinel, .sentinel, .sentinel, .sentinel, .sentinel, .sentinel, .sentinel, .sentinel, .sentinel, .sentinel, .sentinel], laidTests := true, laidLooks := .later }
def UndoCountsUptoCardSaid : Prop := Claim7.holds Tryd.pinned (.plain (OpenSpec.upto undoCountsSpec)) undoCountsUptoCard

/-- THE SECOND FORM's CARD OF 'barrowlaw14.UndoExact'. -/
def undoExactUptoCard : Claim7 := { stood := { row := undoExactUptoRow, standIns := [], harness := (true, "f77744dc96c627695c8f58eae2ca9c1cede12bbe6efe92388ab218e860622aa6"), looks := true }, kinds := [], alts := [], laidByText := true, laidKinds := [.sentinel, .sentinel, .sentinel, .sentinel, .sentinel, .sentinel, .sentinel, .sentinel, .sentinel, .sentinel, .sentinel, .sentinel, .sentinel, .sentinel], laidTests := true, laidLooks := .later }
def UndoExactUptoCardSaid : Prop := Claim7.holds Tryd.pinned (.plain (OpenSpec.upto undoExactSpec)) undoExactUptoCard

/-- THE SECOND FORM's CARD OF 'barrowlaw14.UndoThere'. -/
def undoThereUptoCard : Claim7 := { stood := { row := undoThereUptoRow, standIns := [], harness := (true, "f77744dc96c627695c8f58eae2ca9c1cede12bbe6efe92388ab218e860622aa6"), looks := true }, kinds := [], alts := [], laidByText := true, laidKinds := [.sentinel, .sentinel, .sentinel, .sentinel, .sentinel, .sentinel, .sentinel, .sentinel, .sentinel, .sentinel, .sentinel, .sentinel, .sentinel, .sentinel], laidTests := true, laidLooks := .later }
def UndoThereUptoCardSaid : Prop := Claim7.holds Tryd.pinned (.plain (OpenSpec.upto undoThereSpec)) undoThereUptoCard

/-- THE SECOND FORM's CARD OF 'barrowlaw14.UndoLoads'. -/
def undoLoadsUptoCard : Claim7 := { stood := { row := undoLoadsUptoRow, standIns := [], harness := (true, "f77744dc96c627695c8f58eae2ca9c1cede12bbe6efe92388ab218e860622aa6"), looks := true }, kinds := [], alts := [], laidByText := true, laidKinds := [.sentinel, .sentinel, .sentinel, .sentinel, .sentinel, .sentinel, .sentinel, .sentinel, .sentinel, .sentinel, .sentinel, .sentinel, .sentinel, .sentinel], laidTests := true, laidLooks := .later }
def UndoLoadsUptoCardSaid : Prop := Claim7.holds Tryd.pinned (.plain (OpenSpec.upto undoLoadsSpec)) undoLoadsUptoCard
end Rows
end Go.Proofs.YtflibhphpnajeaaDoor
