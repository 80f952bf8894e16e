/-
  DERIVED. GIVEN WITH THE SEED: THE CARDS: each row of YtnbbgcdemafcoaaDoorRows.lean that lists a variable, with what it lists TIED to the program's text (the seventh form; the later family's looks); each row that meets fmt, with fmt's text TOLD by the authors' own Lean function (tested against real Go, not proved from fmt's source: count such statements apart). THE CARD IS WHAT COUNTS. Prove the row's statement (the work); the ties are given (YtnbbgcdemafcoaaDoorTie.lean); close each card by the builder's one call (the guide's Derived/Test/ToyasCard.lean, 'card_holds'). Laid BY PROGRAM, IN A SANDBOX (cutbox-door.mjs). By AI agents, Wed Nov 11 2026. No macro, syntax, notation, axiom, sorry.
-/
import Derived.Test.YtnbbgcdemafcoaaDoorRows
import GoSem.ClaimSeven
namespace Go.Proofs.YtnbbgcdemafcoaaDoor
namespace Rows

/-- THE TIED CARD OF 'barrowlaw11.CausalDelivers'. -/
def causalDeliversCard : Claim7 := { stood := { row := causalDeliversRow, standIns := [], harness := (true, "ca57e9ebe252b44f16ed18317b2210e0f8ec434b7aa804c582197cd4e743b242"), looks := true }, kinds := [], alts := [], laidByText := true, laidKinds := [.sentinel], laidTests := true, laidLooks := .later }
def CausalDeliversCardSaid : Prop := Claim7.holds Tryd.pinned (.plain (OpenSpec.ofChange causalDeliversSpec)) causalDeliversCard

/-- THE TIED CARD OF 'barrowlaw11.CausalNames'. -/
def causalNamesCard : Claim7 := { stood := { row := causalNamesRow, standIns := [], harness := (true, "ca57e9ebe252b44f16ed18317b2210e0f8ec434b7aa804c582197cd4e743b242"), looks := true }, kinds := [], alts := [], laidByText := true, laidKinds := [.sentinel], laidTests := true, laidLooks := .later }
def CausalNamesCardSaid : Prop := Claim7.holds Tryd.pinned (.plain (OpenSpec.ofChange causalNamesSpec)) causalNamesCard

/-- THE TIED CARD OF 'barrowlaw11.CausalMissing'. -/
def causalMissingCard : Claim7 := { stood := { row := causalMissingRow, standIns := [], harness := (true, "ca57e9ebe252b44f16ed18317b2210e0f8ec434b7aa804c582197cd4e743b242"), looks := true }, kinds := [], alts := [], laidByText := true, laidKinds := [.sentinel], laidTests := true, laidLooks := .later }
def CausalMissingCardSaid : Prop := Claim7.holds Tryd.pinned (.plain (OpenSpec.ofChange causalMissingSpec)) causalMissingCard

/-- THE TIED CARD OF 'barrowlaw11.CausalLacks'. -/
def causalLacksCard : Claim7 := { stood := { row := causalLacksRow, standIns := [], harness := (true, "ca57e9ebe252b44f16ed18317b2210e0f8ec434b7aa804c582197cd4e743b242"), looks := true }, kinds := [], alts := [], laidByText := true, laidKinds := [.sentinel], laidTests := true, laidLooks := .later }
def CausalLacksCardSaid : Prop := Claim7.holds Tryd.pinned (.plain (OpenSpec.ofChange causalLacksSpec)) causalLacksCard

/-- THE TIED CARD OF 'barrowlaw11.CausalOrder'. -/
def causalOrderCard : Claim7 := { stood := { row := causalOrderRow, standIns := [], harness := (true, "ca57e9ebe252b44f16ed18317b2210e0f8ec434b7aa804c582197cd4e743b242"), looks := true }, kinds := [], alts := [], laidByText := true, laidKinds := [.sentinel], laidTests := true, laidLooks := .later }
def CausalOrderCardSaid : Prop := Claim7.holds Tryd.pinned (.plain (OpenSpec.ofChange causalOrderSpec)) causalOrderCard

/-- THE TIED CARD OF 'barrowlaw11.CausalExact'. -/
def causalExactCard : Claim7 := { stood := { row := causalExactRow, standIns := [], harness := (true, "ca57e9ebe252b44f16ed18317b2210e0f8ec434b7aa804c582197cd4e743b242"), looks := true }, kinds := [], alts := [], laidByText := true, laidKinds := [.sentinel, .sentinel, .sentinel, .sentinel, .sentinel, .sentinel, .sentinel, .sentinel, .sentinel, .sentinel, .sentinel, .sentinel, .sentinel, .sentinel], laidTests := true, laidLooks := .later }
def CausalExactCardSaid : Prop := Claim7.holds Tryd.pinned (.plain (OpenSpec.ofChange causalExactSpec)) causalExactCard

/-- THE SECOND FORM's CARD OF 'barrowlaw11.CausalDelivers'. -/
def causalDeliversUptoCard : Claim7 := { stood := { row := causalDeliversUptoRow, standIns := [], harness := (true, "ca57e9ebe252b44f16ed18317b2210e0f8ec434b7aa804c582197cd4e743b242"), looks := true }, kinds := [], alts := [], laidByText := true, laidKinds := [.sentinel], laidTests := true, laidLooks := .later }
def CausalDeliversUptoCardSaid : Prop := Claim7.holds Tryd.pinned (.plain (OpenSpec.upto causalDeliversSpec)) causalDeliversUptoCard

/-- THE SECOND FORM's CARD OF 'barrowlaw11.CausalNames'. -/
def causalNamesUptoCard : Claim7 := { stood := { row := causalNamesUptoRow, standIns := [], harness := (true, "ca57e9ebe252b44f16ed18317b2210e0f8ec434b7aa804c582197cd4e743b242"), looks := true }, kinds := [], alts := [], laidByText := true, laidKinds := [.sentinel], laidTests := true, laidLooks := .later }
def CausalNamesUptoCardSaid : Prop := Claim7.holds Tryd.pinned (.plain (OpenSpec.upto causalNamesSpec)) causalNamesUptoCard

/-- THE SECOND FORM's CARD OF 'barrowlaw11.CausalMissing'. -/
def causalMissingUptoCard : Claim7 := { stood := { row := causalMissingUptoRow, standIns := [], harness := (true, "ca57e9ebe252b44f16ed18317b2210e0f8ec434b7aa804c582197cd4e743b242"), looks := true }, kinds := [], alts := [], laidByText := true, laidKinds := [.sentinel], laidTests := true, laidLooks := .later }
def CausalMissingUptoCardSaid : Prop := Claim7.holds Tryd.pinned (.plain (OpenSpec.upto causalMissingSpec)) causalMissingUptoCard

/-- THE SECOND FORM's CARD OF 'barrowlaw11.CausalLacks'. -/
def causalLacksUptoCard : Claim7 := { stood := { row := causalLacksUptoRow, standIns := [], harness := (true, "ca57e9ebe252b44f16ed18317b2210e0f8ec434b7aa804c582197cd4e743b242"), looks := true }, kinds := [], alts := [], laidByText := true, laidKinds := [.sentinel], laidTests := true, laidLooks := .later }
def CausalLacksUptoCardSaid : Prop := Claim7.holds Tryd.pinned (.plain (OpenSpec.upto causalLacksSpec)) causalLacksUptoCard

/-- THE SECOND FORM's CARD OF 'barrowlaw11.CausalOrder'. -/
def causalOrderUptoCard : Claim7 := { stood := { row := causalOrderUptoRow, standIns := [], harness := (true, "ca57e9ebe252b44f16ed18317b2210e0f8ec434b7aa804c582197cd4e743b242"), looks := true }, kinds := [], alts := [], laidByText := true, laidKinds := [.sentinel], laidTests := true, laidLooks := .later }
def CausalOrderUptoCardSaid : Prop := Claim7.holds Tryd.pinned (.plain (OpenSpec.upto causalOrderSpec)) causalOrderUptoCard

/-- THE SECOND FORM's CARD OF 'barrowlaw11.CausalExact'. -/
def causalExactUptoCard : Claim7 := { stood := { row := causalExactUptoRow, standIns := [], harness := (true, "ca57e9ebe252b44f16ed18317b2210e0f8ec434b7aa804c582197cd4e743b242"), looks := true }, kinds := [], alts := [], laidByText := true, laidKinds := [.sentinel, .sentinel, .sentinel, .sentinel, .sentinel, .sentinel, .sentinel, .sentinel, .sentinel, .sentinel, .sentinel, .sentinel, .sentinel, .sentinel], laidTests := true, laidLooks := .later }
def CausalExactUptoCardSaid : Prop := Claim7.holds Tryd.pinned (.plain (OpenSpec.upto causalExactSpec)) causalExactUptoCard
end Rows
end Go.Proofs.YtnbbgcdemafcoaaDoor
