/- What the closings of the laws share: the reasons that are laid, a text that is handed in. -/
import Derived.Test.YtgoifgockcpnhaaDoorZDC6AX
import Derived.Deep.DeepHandedRow
import Derived.ProofKit
import Derived.ChangeMaps5
set_option linter.unusedSimpArgs false
set_option linter.unusedVariables false
namespace Go.Proofs.YtgoifgockcpnhaaDoor
open Go Go.RowKit Go.ChangeShapes Go.WideShapes Go.ChangeAt

theorem arg_str {P : Program} {t : TypeId} (ht : P.underlying t = some .string) {r : Reach} {b0 : Nat} {W : World} {H : Type} {enc : TypeId × Value → H} {base : Nat} {sp : Nat → Bool} {held : Bool} {v : Value} {y : DataW H} {p : List MemPlace}
    (hval : Value.okWide P W r b0 t v) (h : DataW.Trod enc P W base sp held t v y p) : ∃ s : ByteArray, v = .string s ∧ s.size ≤ 9223372036854775807 := by
  obtain ⟨s, rfl, _, _, hs⟩ := Go.ChangeMaps.open_string ht hval h
  exact ⟨s, rfl, by unfold maxLen at hs; omega⟩
/-- A world that the start may have left: as the door lays it, and the table that is pinned. -/
noncomputable def tabWorld (os : Os) : World := { World.doorLaid Tryd.prog 400 os with heap := (World.doorLaid Tryd.prog 400 os).heap.modify 3 fun
    | .cells _ t fr => .cells (Lib.firstTab.map fun z => Value.int .u8 z).toArray t fr
    | o => o }
end Go.Proofs.YtgoifgockcpnhaaDoor
