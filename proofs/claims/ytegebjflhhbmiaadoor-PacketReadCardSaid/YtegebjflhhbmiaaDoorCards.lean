/-
  DERIVED. GIVEN WITH THE SEED: THE CARDS: each row of YtegebjflhhbmiaaDoorRows.lean that lists a variable, with what it lists TIED to the program's text (the seventh form; the later family's looks); each row that meets fmt, with fmt's text TOLD by the authors' own Lean function (tested against real Go, not proved from fmt's source: count such statements apart). THE CARD IS WHAT COUNTS. Prove the row's statement (the work); the ties are given (YtegebjflhhbmiaaDoorTie.lean); close each card by the builder's one call (the guide's Derived/Test/ToyasCard.lean, 'card_holds'). Laid BY PROGRAM, IN A SANDBOX (cutbox-door.mjs). By AI agents, Wed Nov 11 2026. No macro, syntax, notation, axiom, sorry.
-/
import Derived.Test.YtegebjflhhbmiaaDoorRows
import GoSem.ClaimSeven
namespace Go.Proofs.YtegebjflhhbmiaaDoor
namespace Rows

/-- THE TIED CARD OF 'barrowlaw09.PacketBack'. -/
def packetBackCard : Claim7 := { stood := { row := packetBackRow, standIns := [], harness := (true, "52968d73f43a5da9c4c87d11224576af69932705ac83efccf96a2876078e4df4"), looks := true }, kinds := [], alts := [], laidByText := true, laidKinds := [.sentinel, .sentinel, .sentinel, .sentinel], laidTests := true, laidLooks := .later }
def PacketBackCardSaid : Prop := Claim7.holds Tryd.pinned (.plain (OpenSpec.ofChange packetBackSpec)) packetBackCard

/-- THE TIED CARD OF 'barrowlaw09.PacketOne'. -/
def packetOneCard : Claim7 := { stood := { row := packetOneRow, standIns := [], harness := (true, "52968d73f43a5da9c4c87d11224576af69932705ac83efccf96a2876078e4df4"), looks := true }, kinds := [], alts := [], laidByText := true, laidKinds := [.sentinel, .sentinel, .sentinel, .sentinel], laidTests := true, laidLooks := .later }
def PacketOneCardSaid : Prop := Claim7.holds Tryd.pinned (.plain (OpenSpec.ofChange packetOneSpec)) packetOneCard

/-- THE TIED CARD OF 'barrowlaw09.PacketUnlike'. -/
def packetUnlikeCard : Claim7 := { stood := { row := packetUnlikeRow, standIns := [], harness := (true, "52968d73f43a5da9c4c87d11224576af69932705ac83efccf96a2876078e4df4"), looks := true }, kinds := [], alts := [], laidByText := true, laidKinds := [.sentinel, .sentinel, .sentinel, .sentinel], laidTests := true, laidLooks := .later }
def PacketUnlikeCardSaid : Prop := Claim7.holds Tryd.pinned (.plain (OpenSpec.ofChange packetUnlikeSpec)) packetUnlikeCard

/-- THE TIED CARD OF 'barrowlaw09.PacketNames'. -/
def packetNamesCard : Claim7 := { stood := { row := packetNamesRow, standIns := [], harness := (true, "52968d73f43a5da9c4c87d11224576af69932705ac83efccf96a2876078e4df4"), looks := true }, kinds := [], alts := [], laidByText := true, laidKinds := [.sentinel, .sentinel, .sentinel, .sentinel], laidTests := true, laidLooks := .later }
def PacketNamesCardSaid : Prop := Claim7.holds Tryd.pinned (.plain (OpenSpec.ofChange packetNamesSpec)) packetNamesCard

/-- THE TIED CARD OF 'barrowlaw09.PacketBytes'. -/
def packetBytesCard : Claim7 := { stood := { row := packetBytesRow, standIns := [], harness := (true, "52968d73f43a5da9c4c87d11224576af69932705ac83efccf96a2876078e4df4"), looks := true }, kinds := [], alts := [], laidByText := true, laidKinds := [.sentinel, .sentinel, .sentinel, .sentinel, .sentinel, .sentinel, .sentinel, .sentinel, .sentinel, .sentinel, .sentinel, .sentinel, .sentinel, .sentinel], laidTests := true, laidLooks := .later }
def PacketBytesCardSaid : Prop := Claim7.holds Tryd.pinned (.plain (OpenSpec.ofChange packetBytesSpec)) packetBytesCard

/-- THE TIED CARD OF 'barrowlaw09.PacketRead'. -/
def packetReadCard : Claim7 := { stood := { row := packetReadRow, standIns := [], harness := (true, "52968d73f43a5da9c4c87d11224576af69932705ac83efccf96a2876078e4df4"), looks := true }, kinds := [], alts := [], laidByText := true, laidKinds := [.sentinel, .sentinel, .sentinel, .sentinel, .sentinel, .sentinel, .sentinel, .sentinel, .sentinel, .sentinel, .sentinel, .sentinel, .sentinel, .sentinel], laidTests := true, laidLooks := .later }
def PacketReadCardSaid : Prop := Claim7.holds Tryd.pinned (.plain (OpenSpec.ofChange packetReadSpec)) packetReadCard

/-- THE SECOND FORM's CARD OF 'barrowlaw09.PacketBack'. -/
def packetBackUptoCard : Claim7 := { stood := { row := packetBackUptoRow, standIns := [], harness := (true, "52968d73f43a5da9c4c87d11224576af69932705ac83efccf96a2876078e4df4"), looks := true }, kinds := [], alts := [], laidByText := true, laidKinds := [.sentinel, .sentinel, .sentinel, .sentinel], laidTests := true, laidLooks := .later }
def PacketBackUptoCardSaid : Prop := Claim7.holds Tryd.pinned (.plain (OpenSpec.upto packetBackSpec)) packetBackUptoCard

/-- THE SECOND FORM's CARD OF 'barrowlaw09.PacketOne'. -/
def packetOneUptoCard : Claim7 := { stood := { row := packetOneUptoRow, standIns := [], harness := (true, "52968d73f43a5da9c4c87d11224576af69932705ac83efccf96a2876078e4df4"), looks := true }, kinds := [], alts := [], laidByText := true, laidKinds := [.sentinel, .sentinel, .sentinel, .sentinel], laidTests := true, laidLooks := .later }
def PacketOneUptoCardSaid : Prop := Claim7.holds Tryd.pinned (.plain (OpenSpec.upto packetOneSpec)) packetOneUptoCard

/-- THE SECOND FORM's CARD OF 'barrowlaw09.PacketUnlike'. -/
def packetUnlikeUptoCard : Claim7 := { stood := { row := packetUnlikeUptoRow, standIns := [], harness := (true, "52968d73f43a5da9c4c87d11224576af69932705ac83efccf96a2876078e4df4"), looks := true }, kinds := [], alts := [], laidByText := true, laidKinds := [.sentinel, .sentinel, .sentinel, .sentinel], laidTests := true, laidLooks := .later }
def PacketUnlikeUptoCardSaid : Prop := Claim7.holds Tryd.pinned (.plain (OpenSpec.upto packetUnlikeSpec)) packetUnlikeUptoCard

/-- THE SECOND FORM's CARD OF 'barrowlaw09.PacketNames'. -/
def packetNamesUptoCard : Claim7 := { stood := { row := packetNamesUptoRow, standIns := [], harness := (true, "52968d73f43a5da9c4c87d11224576af69932705ac83efccf96a2876078e4df4"), looks := true }, kinds := [], alts := [], laidByText := true, laidKinds := [.sentinel, .sentinel, .sentinel, .sentinel], laidTests := true, laidLooks := .later }
def PacketNamesUptoCardSaid : Prop := Claim7.holds Tryd.pinned (.plain (OpenSpec.upto packetNamesSpec)) packetNamesUptoCard

/-- THE SECOND FORM's CARD OF 'barrowlaw09.PacketBytes'. -/
def packetBytesUptoCard : Claim7 := { stood := { row := packetBytesUptoRow, standIns := [], harness := (true, "52968d73f43a5da9c4c87d11224576af69932705ac83efccf96a2876078e4df4"), looks := true }, kinds := [], alts := [], laidByText := true, laidKinds := [.sentinel, .sentinel, .sentinel, .sentinel, .sentinel, .sentinel, .sentinel, .sentinel, .sentinel, .sentinel, .sentinel, .sentinel, .sentinel, .sentinel], laidTests := true, laidLooks := .later }
def PacketBytesUptoCardSaid : Prop := Claim7.holds Tryd.pinned (.plain (OpenSpec.upto packetBytesSpec)) packetBytesUptoCard

/-- THE SECOND FORM's CARD OF 'barrowlaw09.PacketRead'. -/
def packetReadUptoCard : Claim7 := { stood := { row := packetReadUptoRow, standIns := [], harness := (true, "52968d73f43a5da9c4c87d11224576af69932705ac83efccf96a2876078e4df4"), looks := true }, kinds := [], alts := [], laidByText := true, laidKinds := [.sentinel, .sentinel, .sentinel, .sentinel, .sentinel, .sentinel, .sentinel, .sentinel, .sentinel, .sentinel, .sentinel, .sentinel, .sentinel, .sentinel], laidTests := true, laidLooks := .later }
def PacketReadUptoCardSaid : Prop := Claim7.holds Tryd.pinned (.plain (OpenSpec.upto packetReadSpec)) packetReadUptoCard
end Rows
end Go.Proofs.YtegebjflhhbmiaaDoor
