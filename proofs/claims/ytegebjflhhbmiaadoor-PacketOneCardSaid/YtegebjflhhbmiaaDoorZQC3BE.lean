/- An argument as data, of one world: a type whose parts may be slices. -/
import Derived.Test.YtegebjflhhbmiaaDoorZQC3AF
set_option linter.unusedSimpArgs false
set_option linter.unusedVariables false
namespace Go.Proofs.YtegebjflhhbmiaaDoor
open Go Go.RowKit Go.ChangeShapes Go.WideShapes Go.ChangeAt

/-- Of whatever reads as a t in this world the cells are some a's. -/
structure OpensAt (P : Program) (w : World) (t : TypeId) (n : Nat) {α : Type} (e : α → Array Value) (ok : α → Prop) : Prop where
  cells : P.cellsOf t = n
  size : ∀ a, (e a).size = n
  some : ∀ {H : Type} (enc : TypeId × Value → H) (base : Nat) (sp : Nat → Bool) (held : Bool) (fuel : Nat) (cs : List Value) (x : DataW H × List MemPlace), DataW.trod enc P w base sp held fuel t cs = some x → ∃ a, cs = (e a).toList ∧ ok a
theorem Opens.at {P : Program} {t : TypeId} {n : Nat} {α : Type} {e : α → Array Value} {ok : α → Prop} (o : Opens P t n e ok) (w : World) : OpensAt P w t n e ok := ⟨o.cells, o.size, fun enc base sp held fuel cs x h => o.some enc w base sp held fuel cs x h⟩
theorem OpensAt.cut {P : Program} {w : World} {t : TypeId} {n off : Nat} {α : Type} {e : α → Array Value} {ok : α → Prop} (o : OpensAt P w t n e ok) {H : Type} {enc : TypeId × Value → H} {base : Nat} {sp : Nat → Bool} {held : Bool} {fuel : Nat} {cs : List Value} {x : DataW H × List MemPlace} (h : DataW.trod enc P w base sp held fuel t ((cs.drop off).take (P.cellsOf t)) = .some x) : ∃ a, (cs.drop off).take n = (e a).toList ∧ ok a :=
  o.some _ _ _ _ _ _ _ (trod_cut o.cells h)
section
variable {P : Program} {t : TypeId}
end
end Go.Proofs.YtegebjflhhbmiaaDoor
