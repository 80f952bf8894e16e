/- Messages as an argument; the four reasons as they are laid. -/
import Derived.Test.YtegebjflhhbmiaaDoorZQC3BE
import Derived.Test.YtegebjflhhbmiaaDoorZQC3BC
import Derived.Test.YtegebjflhhbmiaaDoorZQC3BA
set_option linter.unusedSimpArgs false
set_option linter.unusedVariables false
namespace Go.Proofs.YtegebjflhhbmiaaDoor
open Go Go.RowKit

theorem opens_bytv : Opens Tryd.prog 5 1 bytv InB := opens_u8 Tryd.underlying5 (by kernel_rfl)
theorem errB_laid {W : World} {l : List (String × DataW Unit)} (h : laidMetH Tryd.prog l W) (hh : (l.all fun x => x.2.handleName?.isNone) = true)
    (hm : ∀ k, 1 ≤ k → (k = 1 ∨ k = 2 ∨ k = 6 ∨ k = 7) → (nmE k, DataW.iface "*errors.errorString" (.ptr (.agg [.lit (.string (txE k))]))) ∈ l) : ∃ a, ErrB (Exh (fun b => W.heap[b]?)) a := by
  have hk : ∀ k, 1 ≤ k → (k = 1 ∨ k = 2 ∨ k = 6 ∨ k = 7) → ∃ x : Addr, ReadC (Exh (fun b => W.heap[b]?)) (gl k) 0 (.iface 162 (.pointer (some x))) := fun k h1 h2 => by
    obtain ⟨x, hx, _⟩ := errAt_of_laid h hh (hm k h1 h2) (nmE_at k h1 (by omega)).1 (nmE_at k h1 (by omega)).2
    exact ⟨x, hx⟩
  obtain ⟨x1, e1⟩ := hk 1 (by decide) (by decide)
  obtain ⟨x2, e2⟩ := hk 2 (by decide) (by decide)
  obtain ⟨x3, e3⟩ := hk 6 (by decide) (by decide)
  obtain ⟨x4, e4⟩ := hk 7 (by decide) (by decide)
  refine ⟨fun k => if k = 1 then x1 else if k = 2 then x2 else if k = 6 then x3 else x4, ⟨fun k h1 h2 => ?_⟩⟩
  rcases h2 with rfl | rfl | rfl | rfl
  · exact e1
  · exact e2
  · exact e3
  · exact e4
end Go.Proofs.YtegebjflhhbmiaaDoor
