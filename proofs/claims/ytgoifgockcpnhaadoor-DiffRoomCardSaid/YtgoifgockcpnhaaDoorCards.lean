/-
  DERIVED. GIVEN WITH THE SEED: THE CARDS: each row of YtgoifgockcpnhaaDoorRows.lean that lists a variable, with what it lists TIED to the program's text (the seventh form; the later family's looks); each row that meets fmt, with fmt's text TOLD by the authors' own Lean function (tested against real Go, not proved from fmt's source: count such statements apart). THE CARD IS WHAT COUNTS. Prove the row's statement (the work); the ties are given (YtgoifgockcpnhaaDoorTie.lean); close each card by the builder's one call (the guide's Derived/Test/ToyasCard.lean, 'card_holds'). Laid BY PROGRAM, IN A SANDBOX (cutbox-door.mjs). By AI agents, Wed Nov 11 2026. No macro, syntax, notation, axiom, sorry.
-/
import Derived.Test.YtgoifgockcpnhaaDoorRows
import GoSem.ClaimSeven
namespace Go.Proofs.YtgoifgockcpnhaaDoor
namespace Rows

/-- THE TIED CARD OF 'barrowlaw15.DiffMetric'. -/
def diffMetricCard : Claim7 := { stood := { row := diffMetricRow, standIns := [], harness := (true, "65fa4343efb25fe5c483cc0fcb455fc724f28308de5dda0c48bc71ad90a7d36f"), looks := true }, kinds := [], alts := [], laidByText := true, laidKinds := [.data, .sentinel, .sentinel, .pinned], laidTests := true, laidLooks := .later }
def DiffMetricCardSaid : Prop := Claim7.holds Tryd.pinned (.plain (OpenSpec.ofChange diffMetricSpec)) diffMetricCard

/-- THE TIED CARD OF 'barrowlaw15.DiffCommon'. -/
def diffCommonCard : Claim7 := { stood := { row := diffCommonRow, standIns := [], harness := (true, "65fa4343efb25fe5c483cc0fcb455fc724f28308de5dda0c48bc71ad90a7d36f"), looks := true }, kinds := [], alts := [], laidByText := true, laidKinds := [.data, .sentinel, .sentinel, .pinned], laidTests := true, laidLooks := .later }
def DiffCommonCardSaid : Prop := Claim7.holds Tryd.pinned (.plain (OpenSpec.ofChange diffCommonSpec)) diffCommonCard

/-- THE TIED CARD OF 'barrowlaw15.DiffShortest'. -/
def diffShortestCard : Claim7 := { stood := { row := diffShortestRow, standIns := [], harness := (true, "65fa4343efb25fe5c483cc0fcb455fc724f28308de5dda0c48bc71ad90a7d36f"), looks := true }, kinds := [], alts := [], laidByText := true, laidKinds := [.data, .sentinel, .sentinel, .sentinel, .pinned], laidTests := true, laidLooks := .later }
def DiffShortestCardSaid : Prop := Claim7.holds Tryd.pinned (.plain (OpenSpec.ofChange diffShortestSpec)) diffShortestCard

/-- THE TIED CARD OF 'barrowlaw15.DiffBack'. -/
def diffBackCard : Claim7 := { stood := { row := diffBackRow, standIns := [], harness := (true, "65fa4343efb25fe5c483cc0fcb455fc724f28308de5dda0c48bc71ad90a7d36f"), looks := true }, kinds := [], alts := [], laidByText := true, laidKinds := [.data, .sentinel, .sentinel, .sentinel, .pinned], laidTests := true, laidLooks := .later }
def DiffBackCardSaid : Prop := Claim7.holds Tryd.pinned (.plain (OpenSpec.ofChange diffBackSpec)) diffBackCard

/-- THE TIED CARD OF 'barrowlaw15.DiffExact'. -/
def diffExactCard : Claim7 := { stood := { row := diffExactRow, standIns := [], harness := (true, "65fa4343efb25fe5c483cc0fcb455fc724f28308de5dda0c48bc71ad90a7d36f"), looks := true }, kinds := [], alts := [], laidByText := true, laidKinds := [.data, .sentinel, .sentinel, .sentinel, .sentinel, .sentinel, .sentinel, .sentinel, .sentinel, .sentinel, .sentinel, .sentinel, .sentinel, .sentinel, .sentinel, .pinned], laidTests := true, laidLooks := .later }
def DiffExactCardSaid : Prop := Claim7.holds Tryd.pinned (.plain (OpenSpec.ofChange diffExactSpec)) diffExactCard

/-- THE TIED CARD OF 'barrowlaw15.DiffRoom'. -/
def diffRoomCard : Claim7 := { stood := { row := diffRoomRow, standIns := [], harness := (true, "65fa4343efb25fe5c483cc0fcb455fc724f28308de5dda0c48bc71ad90a7d36f"), looks := true }, kinds := [], alts := [], laidByText := true, laidKinds := [.data, .sentinel, .sentinel, .sentinel, .sentinel, .sentinel, .sentinel, .sentinel, .sentinel, .sentinel, .sentinel, .sentinel, .sentinel, .sentinel, .sentinel, .pinned], laidTests := true, laidLooks := .later }
def DiffRoomCardSaid : Prop := Claim7.holds Tryd.pinned (.plain (OpenSpec.ofChange diffRoomSpec)) diffRoomCard

/-- THE TIED CARD OF 'barrowlaw15.DiffApply'. -/
def diffApplyCard : Claim7 := { stood := { row := diffApplyRow, standIns := [], harness := (true, "65fa4343efb25fe5c483cc0fcb455fc724f28308de5dda0c48bc71ad90a7d36f"), looks := true }, kinds := [], alts := [], laidByText := true, laidKinds := [.data, .sentinel, .sentinel, .sentinel, .sentinel, .sentinel, .sentinel, .sentinel, .sentinel, .sentinel, .sentinel, .sentinel, .sentinel, .sentinel, .sentinel, .pinned], laidTests := true, laidLooks := .later }
def DiffApplyCardSaid : Prop := Claim7.holds Tryd.pinned (.plain (OpenSpec.ofChange diffApplySpec)) diffApplyCard

/-- THE SECOND FORM's CARD OF 'barrowlaw15.DiffMetric'. -/
def diffMetricUptoCard : Claim7 := { stood := { row := diffMetricUptoRow, standIns := [], harness := (true, "65fa4343efb25fe5c483cc0fcb455fc724f28308de5dda0c48bc71ad90a7d36f"), looks := true }, kinds := [], alts := [], laidByText := true, laidKinds := [.data, .sentinel, .sentinel, .pinned], laidTests := true, laidLooks := .later }
def DiffMetricUptoCardSaid : Prop := Claim7.holds Tryd.pinned (.plain (OpenSpec.upto diffMetricSpec)) diffMetricUptoCard

/-- THE SECOND FORM's CARD OF 'barrowlaw15.DiffCommon'. -/
def diffCommonUptoCard : Claim7 := { stood := { row := diffCommonUptoRow, standIns := [], harness := (true, "65fa4343efb25fe5c483cc0fcb455fc724f28308de5dda0c48bc71ad90a7d36f"), looks := true }, kinds := [], alts := [], laidByText := true, laidKinds := [.data, .sentinel, .sentinel, .pinned], laidTests := true, laidLooks := .later }
def DiffCommonUptoCardSaid : Prop := Claim7.holds Tryd.pinned (.plain (OpenSpec.upto diffCommonSpec)) diffCommonUptoCard

/-- THE SECOND FORM's CARD OF 'barrowlaw15.DiffShortest'. -/
def diffShortestUptoCard : Claim7 := { stood := { row := diffShortestUptoRow, standIns := [], harness := (true, "65fa4343efb25fe5c483cc0fcb455fc724f28308de5dda0c48bc71ad90a7d36f"), looks := true }, kinds := [], alts := [], laidByText := true, laidKinds := [.data, .sentinel, .sentinel, .sentinel, .pinned], laidTests := true, laidLooks := .later }
def DiffShortestUptoCardSaid : Prop := Claim7.holds Tryd.pinned (.plain (OpenSpec.upto diffShortestSpec)) diffShortestUptoCard

/-- THE SECOND FORM's CARD OF 'barrowlaw15.DiffBack'. -/
def diffBackUptoCard : Claim7 := { stood := { row := diffBackUptoRow, standIns := [], harness := (true, "65fa4343efb25fe5c483cc0fcb455fc724f28308de5dda0c48bc71ad90a7d36f"), looks := true }, kinds := [], alts := [], laidByText := true, laidKinds := [.data, .sentinel, .sentinel, .sentinel, .pinned], laidTests := true, laidLooks := .later }
def DiffBackUptoCardSaid : Prop := Claim7.holds Tryd.pinned (.plain (OpenSpec.upto diffBackSpec)) diffBackUptoCard

/-- THE SECOND FORM's CARD OF 'barrowlaw15.DiffExact'. -/
def diffExactUptoCard : Claim7 := { stood := { row := diffExactUptoRow, standIns := [], harness := (true, "65fa4343efb25fe5c483cc0fcb455fc724f28308de5dda0c48bc71ad90a7d36f"), looks := true }, kinds := [], alts := [], laidByText := true, laidKinds := [.data, .sentinel, .sentinel, .sentinel, .sentinel, .sentinel, .sentinel, .sentinel, .sentinel, .sentinel, .sentinel, .sentinel, .sentinel, .sentinel, .sentinel, .pinned], laidTests := true, laidLooks := .later }
def DiffExactUptoCardSaid : Prop := Claim7.holds Tryd.pinned (.plain (OpenSpec.upto diffExactSpec)) diffExactUptoCard

/-- THE SECOND FORM's CARD OF 'barrowlaw15.DiffRoom'. -/
def diffRoomUptoCard : Claim7 := { stood := { row := diffRoomUptoRow, standIns := [], harness := (true, "65fa4343efb25fe5c483cc0fcb455fc724f28308de5dda0c48bc71ad90a7d36f"), looks := true }, kinds := [], alts := [], laidByText := true, laidKinds := [.data, .sentinel, .sentinel, .sentinel, .sentinel, .sentinel, .sentinel, .sentinel, .sentinel, .sentinel, .sentinel, .sentinel, .sentinel, .sentinel, .sentinel, .pinned], laidTests := true, laidLooks := .later }
def DiffRoomUptoCardSaid : Prop := Claim7.holds Tryd.pinned (.plain (OpenSpec.upto diffRoomSpec)) diffRoomUptoCard

/-- THE SECOND FORM's CARD OF 'barrowlaw15.DiffApply'. -/
def diffApplyUptoCard : Claim7 := { stood := { row := diffApplyUptoRow, standIns := [], harness := (true, "65fa4343efb25fe5c483cc0fcb455fc724f28308de5dda0c48bc71ad90a7d36f"), looks := true }, kinds := [], alts := [], laidByText := true, laidKinds := [.data, .sentinel, .sentinel, .sentinel, .sentinel, .sentinel, .sentinel, .sentinel, .sentinel, .sentinel, .sentinel, .sentinel, .sentinel, .sentinel, .sentinel, .pinned], laidTests := true, laidLooks := .later }
def DiffApplyUptoCardSaid : Prop := Claim7.holds Tryd.pinned (.plain (OpenSpec.upto diffApplySpec)) diffApplyUptoCard
end Rows
end Go.Proofs.YtgoifgockcpnhaaDoor
