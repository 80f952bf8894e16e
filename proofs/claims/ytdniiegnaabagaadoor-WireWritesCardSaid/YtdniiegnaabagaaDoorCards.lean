/-
  DERIVED. GIVEN WITH THE SEED: THE CARDS: each row of YtdniiegnaabagaaDoorRows.lean that lists a variable, with what it lists TIED to the program's text (the seventh form; the later family's looks); each row that meets fmt, with fmt's text TOLD by the authors' own Lean function (tested against real Go, not proved from fmt's source: count such statements apart). THE CARD IS WHAT COUNTS. Prove the row's statement (the work); the ties are given (YtdniiegnaabagaaDoorTie.lean); close each card by the builder's one call (the guide's Derived/Test/ToyasCard.lean, 'card_holds'). Laid BY PROGRAM, IN A SANDBOX (cutbox-door.mjs). By AI agents, Wed Nov 11 2026. No macro, syntax, notation, axiom, sorry.
-/
import Derived.Test.YtdniiegnaabagaaDoorRows
import GoSem.ClaimSeven
namespace Go.Proofs.YtdniiegnaabagaaDoor
namespace Rows

/-- THE TIED CARD OF 'barrowlaw02.WireUnlike'. -/
def wireUnlikeCard : Claim7 := { stood := { row := wireUnlikeRow, standIns := [], harness := (true, "90d9f80d8cfa0dc26f4daca3e2f5103d2c6b6593bf6299b3b5722e66534395fe"), looks := true }, kinds := [], alts := [], laidByText := true, laidKinds := [.sentinel, .sentinel, .sentinel, .sentinel], laidTests := true, laidLooks := .later }
def WireUnlikeCardSaid : Prop := Claim7.holds Tryd.pinned (.plain (OpenSpec.ofChange wireUnlikeSpec)) wireUnlikeCard

/-- THE TIED CARD OF 'barrowlaw02.WireOne'. -/
def wireOneCard : Claim7 := { stood := { row := wireOneRow, standIns := [], harness := (true, "90d9f80d8cfa0dc26f4daca3e2f5103d2c6b6593bf6299b3b5722e66534395fe"), looks := true }, kinds := [], alts := [], laidByText := true, laidKinds := [.sentinel, .sentinel, .sentinel, .sentinel], laidTests := true, laidLooks := .later }
def WireOneCardSaid : Prop := Claim7.holds Tryd.pinned (.plain (OpenSpec.ofChange wireOneSpec)) wireOneCard

/-- THE TIED CARD OF 'barrowlaw02.WireRoom'. -/
def wireRoomCard : Claim7 := { stood := { row := wireRoomRow, standIns := [], harness := (true, "90d9f80d8cfa0dc26f4daca3e2f5103d2c6b6593bf6299b3b5722e66534395fe"), looks := true }, kinds := [], alts := [], laidByText := true, laidKinds := [.sentinel, .sentinel, .sentinel, .sentinel], laidTests := true, laidLooks := .later }
def WireRoomCardSaid : Prop := Claim7.holds Tryd.pinned (.plain (OpenSpec.ofChange wireRoomSpec)) wireRoomCard

/-- THE TIED CARD OF 'barrowlaw02.WireBack'. -/
def wireBackCard : Claim7 := { stood := { row := wireBackRow, standIns := [], harness := (true, "90d9f80d8cfa0dc26f4daca3e2f5103d2c6b6593bf6299b3b5722e66534395fe"), looks := true }, kinds := [], alts := [], laidByText := true, laidKinds := [.sentinel, .sentinel, .sentinel, .sentinel, .sentinel, .sentinel, .sentinel, .sentinel, .sentinel, .sentinel, .sentinel, .sentinel, .sentinel, .sentinel], laidTests := true, laidLooks := .later }
def WireBackCardSaid : Prop := Claim7.holds Tryd.pinned (.plain (OpenSpec.ofChange wireBackSpec)) wireBackCard

/-- THE TIED CARD OF 'barrowlaw02.WireWrites'. -/
def wireWritesCard : Claim7 := { stood := { row := wireWritesRow, standIns := [], harness := (true, "90d9f80d8cfa0dc26f4daca3e2f5103d2c6b6593bf6299b3b5722e66534395fe"), looks := true }, kinds := [], alts := [], laidByText := true, laidKinds := [.sentinel, .sentinel, .sentinel, .sentinel, .sentinel, .sentinel, .sentinel, .sentinel, .sentinel, .sentinel, .sentinel, .sentinel, .sentinel, .sentinel], laidTests := true, laidLooks := .later }
def WireWritesCardSaid : Prop := Claim7.holds Tryd.pinned (.plain (OpenSpec.ofChange wireWritesSpec)) wireWritesCard

/-- THE TIED CARD OF 'barrowlaw02.WireReads'. -/
def wireReadsCard : Claim7 := { stood := { row := wireReadsRow, standIns := [], harness := (true, "90d9f80d8cfa0dc26f4daca3e2f5103d2c6b6593bf6299b3b5722e66534395fe"), looks := true }, kinds := [], alts := [], laidByText := true, laidKinds := [.sentinel, .sentinel, .sentinel, .sentinel, .sentinel, .sentinel, .sentinel, .sentinel, .sentinel, .sentinel, .sentinel, .sentinel, .sentinel, .sentinel], laidTests := true, laidLooks := .later }
def WireReadsCardSaid : Prop := Claim7.holds Tryd.pinned (.plain (OpenSpec.ofChange wireReadsSpec)) wireReadsCard

/-- THE SECOND FORM's CARD OF 'barrowlaw02.WireUnlike'. -/
def wireUnlikeUptoCard : Claim7 := { stood := { row := wireUnlikeUptoRow, standIns := [], harness := (true, "90d9f80d8cfa0dc26f4daca3e2f5103d2c6b6593bf6299b3b5722e66534395fe"), looks := true }, kinds := [], alts := [], laidByText := true, laidKinds := [.sentinel, .sentinel, .sentinel, .sentinel], laidTests := true, laidLooks := .later }
def WireUnlikeUptoCardSaid : Prop := Claim7.holds Tryd.pinned (.plain (OpenSpec.upto wireUnlikeSpec)) wireUnlikeUptoCard

/-- THE SECOND FORM's CARD OF 'barrowlaw02.WireOne'. -/
def wireOneUptoCard : Claim7 := { stood := { row := wireOneUptoRow, standIns := [], harness := (true, "90d9f80d8cfa0dc26f4daca3e2f5103d2c6b6593bf6299b3b5722e66534395fe"), looks := true }, kinds := [], alts := [], laidByText := true, laidKinds := [.sentinel, .sentinel, .sentinel, .sentinel], laidTests := true, laidLooks := .later }
def WireOneUptoCardSaid : Prop := Claim7.holds Tryd.pinned (.plain (OpenSpec.upto wireOneSpec)) wireOneUptoCard

/-- THE SECOND FORM's CARD OF 'barrowlaw02.WireRoom'. -/
def wireRoomUptoCard : Claim7 := { stood := { row := wireRoomUptoRow, standIns := [], harness := (true, "90d9f80d8cfa0dc26f4daca3e2f5103d2c6b6593bf6299b3b5722e66534395fe"), looks := true }, kinds := [], alts := [], laidByText := true, laidKinds := [.sentinel, .sentinel, .sentinel, .sentinel], laidTests := true, laidLooks := .later }
def WireRoomUptoCardSaid : Prop := Claim7.holds Tryd.pinned (.plain (OpenSpec.upto wireRoomSpec)) wireRoomUptoCard

/-- THE SECOND FORM's CARD OF 'barrowlaw02.WireBack'. -/
def wireBackUptoCard : Claim7 := { stood := { row := wireBackUptoRow, standIns := [], harness := (true, "90d9f80d8cfa0dc26f4daca3e2f5103d2c6b6593bf6299b3b5722e66534395fe"), looks := true }, kinds := [], alts := [], laidByText := true, laidKinds := [.sentinel, .sentinel, .sentinel, .sentinel, .sentinel, .sentinel, .sentinel, .sentinel, .sentinel, .sentinel, .sentinel, .sentinel, .sentinel, .sentinel], laidTests := true, laidLooks := .later }
def WireBackUptoCardSaid : Prop := Claim7.holds Tryd.pinned (.plain (OpenSpec.upto wireBackSpec)) wireBackUptoCard

/-- THE SECOND FORM's CARD OF 'barrowlaw02.WireWrites'. -/
def wireWritesUptoCard : Claim7 := { stood := { row := wireWritesUptoRow, standIns := [], harness := (true, "90d9f80d8cfa0dc26f4daca3e2f5103d2c6b6593bf6299b3b5722e66534395fe"), looks := true }, kinds := [], alts := [], laidByText := true, laidKinds := [.sentinel, .sentinel, .sentinel, .sentinel, .sentinel, .sentinel, .sentinel, .sentinel, .sentinel, .sentinel, .sentinel, .sentinel, .sentinel, .sentinel], laidTests := true, laidLooks := .later }
def WireWritesUptoCardSaid : Prop := Claim7.holds Tryd.pinned (.plain (OpenSpec.upto wireWritesSpec)) wireWritesUptoCard

/-- THE SECOND FORM's CARD OF 'barrowlaw02.WireReads'. -/
def wireReadsUptoCard : Claim7 := { stood := { row := wireReadsUptoRow, standIns := [], harness := (true, "90d9f80d8cfa0dc26f4daca3e2f5103d2c6b6593bf6299b3b5722e66534395fe"), looks := true }, kinds := [], alts := [], laidByText := true, laidKinds := [.sentinel, .sentinel, .sentinel, .sentinel, .sentinel, .sentinel, .sentinel, .sentinel, .sentinel, .sentinel, .sentinel, .sentinel, .sentinel, .sentinel], laidTests := true, laidLooks := .later }
def WireReadsUptoCardSaid : Prop := Claim7.holds Tryd.pinned (.plain (OpenSpec.upto wireReadsSpec)) wireReadsUptoCard
end Rows
end Go.Proofs.YtdniiegnaabagaaDoor
