/-
  DERIVED. GIVEN WITH THE SEED: THE CARDS: each row of YtlgjippijbepkaaDoorRows.lean that lists a variable, with what it lists TIED to the program's text (the seventh form; the later family's looks); each row that meets fmt, with fmt's text TOLD by the authors' own Lean function (tested against real Go, not proved from fmt's source: count such statements apart). THE CARD IS WHAT COUNTS. Prove the row's statement (the work); the ties are given (YtlgjippijbepkaaDoorTie.lean); close each card by the builder's one call (the guide's Derived/Test/ToyasCard.lean, 'card_holds'). Laid BY PROGRAM, IN A SANDBOX (cutbox-door.mjs). By AI agents, Wed Nov 11 2026. No macro, syntax, notation, axiom, sorry.
-/
import Derived.Test.YtlgjippijbepkaaDoorRows
import GoSem.ClaimSeven
namespace Go.Proofs.YtlgjippijbepkaaDoor
namespace Rows

/-- THE TIED CARD OF 'barrowlaw10.BagSums'. -/
def bagSumsCard : Claim7 := { stood := { row := bagSumsRow, standIns := [], harness := (true, "9c252132a5b0bb43e00ae60484875d65c1a98f35296133fce5b11636cac59658"), looks := true }, kinds := [], alts := [], laidByText := true, laidKinds := [.sentinel, .sentinel, .sentinel], laidTests := true, laidLooks := .later }
def BagSumsCardSaid : Prop := Claim7.holds Tryd.pinned (.plain (OpenSpec.ofChange bagSumsSpec)) bagSumsCard

/-- THE TIED CARD OF 'barrowlaw10.BagNames'. -/
def bagNamesCard : Claim7 := { stood := { row := bagNamesRow, standIns := [], harness := (true, "9c252132a5b0bb43e00ae60484875d65c1a98f35296133fce5b11636cac59658"), looks := true }, kinds := [], alts := [], laidByText := true, laidKinds := [.sentinel, .sentinel, .sentinel, .sentinel, .sentinel, .sentinel, .sentinel, .sentinel, .sentinel, .sentinel, .sentinel, .sentinel, .sentinel, .sentinel], laidTests := true, laidLooks := .later }
def BagNamesCardSaid : Prop := Claim7.holds Tryd.pinned (.plain (OpenSpec.ofChange bagNamesSpec)) bagNamesCard

/-- THE TIED CARD OF 'barrowlaw10.BagOrder'. -/
def bagOrderCard : Claim7 := { stood := { row := bagOrderRow, standIns := [], harness := (true, "9c252132a5b0bb43e00ae60484875d65c1a98f35296133fce5b11636cac59658"), looks := true }, kinds := [], alts := [], laidByText := true, laidKinds := [.sentinel, .sentinel, .sentinel, .sentinel, .sentinel, .sentinel, .sentinel, .sentinel, .sentinel, .sentinel, .sentinel, .sentinel, .sentinel, .sentinel], laidTests := true, laidLooks := .later }
def BagOrderCardSaid : Prop := Claim7.holds Tryd.pinned (.plain (OpenSpec.ofChange bagOrderSpec)) bagOrderCard

/-- THE TIED CARD OF 'barrowlaw10.BagExact'. -/
def bagExactCard : Claim7 := { stood := { row := bagExactRow, standIns := [], harness := (true, "9c252132a5b0bb43e00ae60484875d65c1a98f35296133fce5b11636cac59658"), looks := true }, kinds := [], alts := [], laidByText := true, laidKinds := [.sentinel, .sentinel, .sentinel, .sentinel, .sentinel, .sentinel, .sentinel, .sentinel, .sentinel, .sentinel, .sentinel, .sentinel, .sentinel, .sentinel], laidTests := true, laidLooks := .later }
def BagExactCardSaid : Prop := Claim7.holds Tryd.pinned (.plain (OpenSpec.ofChange bagExactSpec)) bagExactCard

/-- THE TIED CARD OF 'barrowlaw10.BagLoads'. -/
def bagLoadsCard : Claim7 := { stood := { row := bagLoadsRow, standIns := [], harness := (true, "9c252132a5b0bb43e00ae60484875d65c1a98f35296133fce5b11636cac59658"), looks := true }, kinds := [], alts := [], laidByText := true, laidKinds := [.sentinel, .sentinel, .sentinel, .sentinel, .sentinel, .sentinel, .sentinel, .sentinel, .sentinel, .sentinel, .sentinel, .sentinel, .sentinel, .sentinel], laidTests := true, laidLooks := .later }
def BagLoadsCardSaid : Prop := Claim7.holds Tryd.pinned (.plain (OpenSpec.ofChange bagLoadsSpec)) bagLoadsCard

/-- THE SECOND FORM's CARD OF 'barrowlaw10.BagSums'. -/
def bagSumsUptoCard : Claim7 := { stood := { row := bagSumsUptoRow, standIns := [], harness := (true, "9c252132a5b0bb43e00ae60484875d65c1a98f35296133fce5b11636cac59658"), looks := true }, kinds := [], alts := [], laidByText := true, laidKinds := [.sentinel, .sentinel, .sentinel], laidTests := true, laidLooks := .later }
def BagSumsUptoCardSaid : Prop := Claim7.holds Tryd.pinned (.plain (OpenSpec.upto bagSumsSpec)) bagSumsUptoCard

/-- THE SECOND FORM's CARD OF 'barrowlaw10.BagNames'. -/
def bagNamesUptoCard : Claim7 := { stood := { row := bagNamesUptoRow, standIns := [], harness := (true, "9c252132a5b0bb43e00ae60484875d65c1a98f35296133fce5b11636cac59658"), looks := true }, kinds := [], alts := [], laidByText := true, laidKinds := [.sentinel, .sentinel, .sentinel, .sentinel, .sentinel, .sentinel, .sentinel, .sentinel, .sentinel, .sentinel, .sentinel, .sentinel, .sentinel, .sentinel], laidTests := true, laidLooks := .later }
def BagNamesUptoCardSaid : Prop := Claim7.holds Tryd.pinned (.plain (OpenSpec.upto bagNamesSpec)) bagNamesUptoCard

/-- THE SECOND FORM's CARD OF 'barrowlaw10.BagOrder'. -/
def bagOrderUptoCard : Claim7 := { stood := { row := bagOrderUptoRow, standIns := [], harness := (true, "9c252132a5b0bb43e00ae60484875d65c1a98f35296133fce5b11636cac59658"), looks := true }, kinds := [], alts := [], laidByText := true, laidKinds := [.sentinel, .sentinel, .sentinel, .sentinel, .sentinel, .sentinel, .sentinel, .sentinel, .sentinel, .sentinel, .sentinel, .sentinel, .sentinel, .sentinel], laidTests := true, laidLooks := .later }
def BagOrderUptoCardSaid : Prop := Claim7.holds Tryd.pinned (.plain (OpenSpec.upto bagOrderSpec)) bagOrderUptoCard

/-- THE SECOND FORM's CARD OF 'barrowlaw10.BagExact'. -/
def bagExactUptoCard : Claim7 := { stood := { row := bagExactUptoRow, standIns := [], harness := (true, "9c252132a5b0bb43e00ae60484875d65c1a98f35296133fce5b11636cac59658"), looks := true }, kinds := [], alts := [], laidByText := true, laidKinds := [.sentinel, .sentinel, .sentinel, .sentinel, .sentinel, .sentinel, .sentinel, .sentinel, .sentinel, .sentinel, .sentinel, .sentinel, .sentinel, .sentinel], laidTests := true, laidLooks := .later }
def BagExactUptoCardSaid : Prop := Claim7.holds Tryd.pinned (.plain (OpenSpec.upto bagExactSpec)) bagExactUptoCard

/-- THE SECOND FORM's CARD OF 'barrowlaw10.BagLoads'. -/
def bagLoadsUptoCard : Claim7 := { stood := { row := bagLoadsUptoRow, standIns := [], harness := (true, "9c252132a5b0bb43e00ae60484875d65c1a98f35296133fce5b11636cac59658"), looks := true }, kinds := [], alts := [], laidByText := true, laidKinds := [.sentinel, .sentinel, .sentinel, .sentinel, .sentinel, .sentinel, .sentinel, .sentinel, .sentinel, .sentinel, .sentinel, .sentinel, .sentinel, .sentinel], laidTests := true, laidLooks := .later }
def BagLoadsUptoCardSaid : Prop := Claim7.holds Tryd.pinned (.plain (OpenSpec.upto bagLoadsSpec)) bagLoadsUptoCard
end Rows
end Go.Proofs.YtlgjippijbepkaaDoor
