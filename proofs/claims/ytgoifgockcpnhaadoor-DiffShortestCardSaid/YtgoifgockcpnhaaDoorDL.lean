/- What the closings of the laws share: the reasons that are laid, a text that is handed in. -/
import Derived.Test.YtgoifgockcpnhaaDoorD7
import Derived.Deep.DeepHandedRow
import Derived.ProofKit
import Derived.ChangeMaps5
set_option linter.unusedSimpArgs false
set_option linter.unusedVariables false
namespace Go.Proofs.YtgoifgockcpnhaaDoor
open Go Go.RowKit Go.ChangeShapes Go.WideShapes Go.ChangeAt

theorem arg_str {P : Program} {t : TypeId} (ht : P.underlying t = some .string) {r : Reach} {b0 : Nat} {W : World} {H : Type} {enc : TypeId × Value → H} {base : Nat} {sp : Nat → Bool} {held : Bool} {v : Value} {y : DataW H} {p : List MemPlace}
    (hval : Value.okWide P W r b0 t v) (h : DataW.Trod enc P W base sp held t v y p) : ∃ s : ByteArray, v = .string s ∧ s.size ≤ 9223372036854775807 := by
  obtain ⟨s, rfl, _, _, hs⟩ := Go.ChangeMaps.open_string ht hval h
  exact ⟨s, rfl, by unfold maxLen at hs; omega⟩
/-- A world that the start may have left: as the door lays it, and the table that is pinned. -/
noncomputable def tabWorld (os : Os) : World := { World.doorLaid Tryd.prog 400 os with heap := (World.doorLaid Tryd.prog 400 os).heap.modify 3 fun
    | .cells _ t fr => .cells (Lib.firstTab.map fun z => Value.int .u8 z).toArray t fr
    | o => o }
theorem errB_laid {W : World} {l : List (String × DataW Unit)} (h : laidMetH Tryd.prog l W) (hh : (l.all fun x => x.2.handleName?.isNone) = true)
    (hm : ∀ k, k = 3 ∨ k = 13 → (nmE k, DataW.iface "*errors.errorString" (.ptr (.agg [.lit (.string (txE k))]))) ∈ l) : ∃ a, ErrB (Exh (fun b => W.heap[b]?)) a := by
  have hk : ∀ k, k = 3 ∨ k = 13 → ∃ x : Addr, ReadC (Exh (fun b => W.heap[b]?)) (gl k) 0 (.iface 125 (.pointer (some x))) := fun k h2 => by
    obtain ⟨x, hx, _⟩ := errAt_of_laid h hh (hm k h2) (nmE_at k (by omega) (by omega)).1 (nmE_at k (by omega) (by omega)).2
    exact ⟨x, hx⟩
  obtain ⟨x1, e1⟩ := hk 3 (by decide)
  obtain ⟨x2, e2⟩ := hk 13 (by decide)
  refine ⟨fun k => if k = 3 then x1 else x2, ⟨fun k h2 => ?_⟩⟩
  rcases h2 with rfl | rfl
  · exact e1
  · exact e2
end Go.Proofs.YtgoifgockcpnhaaDoor
