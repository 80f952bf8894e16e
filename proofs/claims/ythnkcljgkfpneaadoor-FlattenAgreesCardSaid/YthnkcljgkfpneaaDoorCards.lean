/-
  DERIVED. GIVEN WITH THE SEED: THE CARDS: each row of YthnkcljgkfpneaaDoorRows.lean that lists a variable, with what it lists TIED to the program's text (the seventh form; the later family's looks); each row that meets fmt, with fmt's text TOLD by the authors' own Lean function (tested against real Go, not proved from fmt's source: count such statements apart). THE CARD IS WHAT COUNTS. Prove the row's statement (the work); the ties are given (YthnkcljgkfpneaaDoorTie.lean); close each card by the builder's one call (the guide's Derived/Test/ToyasCard.lean, 'card_holds'). Laid BY PROGRAM, IN A SANDBOX (cutbox-door.mjs). By AI agents, Wed Nov 11 2026. No macro, syntax, notation, axiom, sorry.
-/
import Derived.Test.YthnkcljgkfpneaaDoorRows
import GoSem.ClaimSeven
namespace Go.Proofs.YthnkcljgkfpneaaDoor
namespace Rows

/-- THE TIED CARD OF 'barrowlaw12.FlattenVotes'. -/
def flattenVotesCard : Claim7 := { stood := { row := flattenVotesRow, standIns := [], harness := (true, "2a53f9492361557c8b51f26a7dfd8c1a72ff94e8d9a9e4c6247954e0d805e852"), looks := true }, kinds := [], alts := [], laidByText := true, laidKinds := [.sentinel, .sentinel], laidTests := true, laidLooks := .later }
def FlattenVotesCardSaid : Prop := Claim7.holds Tryd.pinned (.plain (OpenSpec.ofChange flattenVotesSpec)) flattenVotesCard

/-- THE TIED CARD OF 'barrowlaw12.FlattenStage'. -/
def flattenStageCard : Claim7 := { stood := { row := flattenStageRow, standIns := [], harness := (true, "2a53f9492361557c8b51f26a7dfd8c1a72ff94e8d9a9e4c6247954e0d805e852"), looks := true }, kinds := [], alts := [], laidByText := true, laidKinds := [.sentinel, .sentinel], laidTests := true, laidLooks := .later }
def FlattenStageCardSaid : Prop := Claim7.holds Tryd.pinned (.plain (OpenSpec.ofChange flattenStageSpec)) flattenStageCard

/-- THE TIED CARD OF 'barrowlaw12.FlattenJoin'. -/
def flattenJoinCard : Claim7 := { stood := { row := flattenJoinRow, standIns := [], harness := (true, "2a53f9492361557c8b51f26a7dfd8c1a72ff94e8d9a9e4c6247954e0d805e852"), looks := true }, kinds := [], alts := [], laidByText := true, laidKinds := [.sentinel, .sentinel], laidTests := true, laidLooks := .later }
def FlattenJoinCardSaid : Prop := Claim7.holds Tryd.pinned (.plain (OpenSpec.ofChange flattenJoinSpec)) flattenJoinCard

/-- THE TIED CARD OF 'barrowlaw12.FlattenAgrees'. -/
def flattenAgreesCard : Claim7 := { stood := { row := flattenAgreesRow, standIns := [], harness := (true, "2a53f9492361557c8b51f26a7dfd8c1a72ff94e8d9a9e4c6247954e0d805e852"), looks := true }, kinds := [], alts := [], laidByText := true, laidKinds := [.sentinel, .sentinel], laidTests := true, laidLooks := .later }
def FlattenAgreesCardSaid : Prop := Claim7.holds Tryd.pinned (.plain (OpenSpec.ofChange flattenAgreesSpec)) flattenAgreesCard

/-- THE TIED CARD OF 'barrowlaw12.FlattenCut'. -/
def flattenCutCard : Claim7 := { stood := { row := flattenCutRow, standIns := [], harness := (true, "2a53f9492361557c8b51f26a7dfd8c1a72ff94e8d9a9e4c6247954e0d805e852"), looks := true }, kinds := [], alts := [], laidByText := true, laidKinds := [.sentinel, .sentinel], laidTests := true, laidLooks := .later }
def FlattenCutCardSaid : Prop := Claim7.holds Tryd.pinned (.plain (OpenSpec.ofChange flattenCutSpec)) flattenCutCard

/-- THE TIED CARD OF 'barrowlaw12.FlattenNames'. -/
def flattenNamesCard : Claim7 := { stood := { row := flattenNamesRow, standIns := [], harness := (true, "2a53f9492361557c8b51f26a7dfd8c1a72ff94e8d9a9e4c6247954e0d805e852"), looks := true }, kinds := [], alts := [], laidByText := true, laidKinds := [.sentinel, .sentinel, .sentinel, .sentinel, .sentinel, .sentinel, .sentinel, .sentinel, .sentinel, .sentinel, .sentinel, .sentinel, .sentinel, .sentinel], laidTests := true, laidLooks := .later }
def FlattenNamesCardSaid : Prop := Claim7.holds Tryd.pinned (.plain (OpenSpec.ofChange flattenNamesSpec)) flattenNamesCard

/-- THE TIED CARD OF 'barrowlaw12.FlattenExact'. -/
def flattenExactCard : Claim7 := { stood := { row := flattenExactRow, standIns := [], harness := (true, "2a53f9492361557c8b51f26a7dfd8c1a72ff94e8d9a9e4c6247954e0d805e852"), looks := true }, kinds := [], alts := [], laidByText := true, laidKinds := [.sentinel, .sentinel, .sentinel, .sentinel, .sentinel, .sentinel, .sentinel, .sentinel, .sentinel, .sentinel, .sentinel, .sentinel, .sentinel, .sentinel], laidTests := true, laidLooks := .later }
def FlattenExactCardSaid : Prop := Claim7.holds Tryd.pinned (.plain (OpenSpec.ofChange flattenExactSpec)) flattenExactCard

/-- THE SECOND FORM's CARD OF 'barrowlaw12.FlattenVotes'. -/
def flattenVotesUptoCard : Claim7 := { stood := { row := flattenVotesUptoRow, standIns := [], harness := (true, "2a53f9492361557c8b51f26a7dfd8c1a72ff94e8d9a9e4c6247954e0d805e852"), looks := true }, kinds := [], alts := [], laidByText := true, laidKinds := [.sentinel, .sentinel], laidTests := true, laidLooks := .later }
def FlattenVotesUptoCardSaid : Prop := Claim7.holds Tryd.pinned (.plain (OpenSpec.upto flattenVotesSpec)) flattenVotesUptoCard

/-- THE SECOND FORM's CARD OF 'barrowlaw12.FlattenStage'. -/
def flattenStageUptoCard : Claim7 := { stood := { row := flattenStageUptoRow, standIns := [], harness := (true, "2a53f9492361557c8b51f26a7dfd8c1a72ff94e8d9a9e4c6247954e0d805e852"), looks := true }, kinds := [], alts := [], laidByText := true, laidKinds := [.sentinel, .sentinel], laidTests := true, laidLooks := .later }
def FlattenStageUptoCardSaid : Prop := Claim7.holds Tryd.pinned (.plain (OpenSpec.upto flattenStageSpec)) flattenStageUptoCard

/-- THE SECOND FORM's CARD OF 'barrowlaw12.FlattenJoin'. -/
def flattenJoinUptoCard : Claim7 := { stood := { row := flattenJoinUptoRow, standIns := [], harness := (true, "2a53f9492361557c8b51f26a7dfd8c1a72ff94e8d9a9e4c6247954e0d805e852"), looks := true }, kinds := [], alts := [], laidByText := true, laidKinds := [.sentinel, .sentinel], laidTests := true, laidLooks := .later }
def FlattenJoinUptoCardSaid : Prop := Claim7.holds Tryd.pinned (.plain (OpenSpec.upto flattenJoinSpec)) flattenJoinUptoCard

/-- THE SECOND FORM's CARD OF 'barrowlaw12.FlattenAgrees'. -/
def flattenAgreesUptoCard : Claim7 := { stood := { row := flattenAgreesUptoRow, standIns := [], harness := (true, "2a53f9492361557c8b51f26a7dfd8c1a72ff94e8d9a9e4c6247954e0d805e852"), looks := true }, kinds := [], alts := [], laidByText := true, laidKinds := [.sentinel, .sentinel], laidTests := true, laidLooks := .later }
def FlattenAgreesUptoCardSaid : Prop := Claim7.holds Tryd.pinned (.plain (OpenSpec.upto flattenAgreesSpec)) flattenAgreesUptoCard

/-- THE SECOND FORM's CARD OF 'barrowlaw12.FlattenCut'. -/
def flattenCutUptoCard : Claim7 := { stood := { row := flattenCutUptoRow, standIns := [], harness := (true, "2a53f9492361557c8b51f26a7dfd8c1a72ff94e8d9a9e4c6247954e0d805e852"), looks := true }, kinds := [], alts := [], laidByText := true, laidKinds := [.sentinel, .sentinel], laidTests := true, laidLooks := .later }
def FlattenCutUptoCardSaid : Prop := Claim7.holds Tryd.pinned (.plain (OpenSpec.upto flattenCutSpec)) flattenCutUptoCard

/-- THE SECOND FORM's CARD OF 'barrowlaw12.FlattenNames'. -/
def flattenNamesUptoCard : Claim7 := { stood := { row := flattenNamesUptoRow, standIns := [], harness := (true, "2a53f9492361557c8b51f26a7dfd8c1a72ff94e8d9a9e4c6247954e0d805e852"), looks := true }, kinds := [], alts := [], laidByText := true, laidKinds := [.sentinel, .sentinel, .sentinel, .sentinel, .sentinel, .sentinel, .sentinel, .sentinel, .sentinel, .sentinel, .sentinel, .sentinel, .sentinel, .sentinel], laidTests := true, laidLooks := .later }
def FlattenNamesUptoCardSaid : Prop := Claim7.holds Tryd.pinned (.plain (OpenSpec.upto flattenNamesSpec)) flattenNamesUptoCard

/-- THE SECOND FORM's CARD OF 'barrowlaw12.FlattenExact'. -/
def flattenExactUptoCard : Claim7 := { stood := { row := flattenExactUptoRow, standIns := [], harness := (true, "2a53f9492361557c8b51f26a7dfd8c1a72ff94e8d9a9e4c6247954e0d805e852"), looks := true }, kinds := [], alts := [], laidByText := true, laidKinds := [.sentinel, .sentinel, .sentinel, .sentinel, .sentinel, .sentinel, .sentinel, .sentinel, .sentinel, .sentinel, .sentinel, .sentinel, .sentinel, .sentinel], laidTests := true, laidLooks := .later }
def FlattenExactUptoCardSaid : Prop := Claim7.holds Tryd.pinned (.plain (OpenSpec.upto flattenExactSpec)) flattenExactUptoCard
end Rows
end Go.Proofs.YthnkcljgkfpneaaDoor
