/- An argument as data, of one world, with what the size of all that is handed in says. -/
import Derived.Test.YtgoifgockcpnhaaDoorZDC5BR
import Derived.SizedLaws
set_option linter.unusedSimpArgs false
set_option linter.unusedVariables false
namespace Go.Proofs.YtgoifgockcpnhaaDoor
open Go Go.RowKit Go.ChangeShapes Go.WideShapes Go.ChangeAt

/-- No part weighs more than a machine has room for. -/
def Fits {H : Type} (P : Program) (t : TypeId) (d : DataW H) : Prop := ∀ n, n ∈ d.weights P t → n ≤ reachBytes
structure OpensZ (P : Program) (w : World) (t : TypeId) (n : Nat) {α : Type} (e : α → Array Value) (ok : α → Prop) : Prop where
  cells : P.cellsOf t = n
  size : ∀ a, (e a).size = n
  some : ∀ {H : Type} (enc : TypeId × Value → H) (base : Nat) (sp : Nat → Bool) (held : Bool) (fuel : Nat) (cs : List Value) (x : DataW H × List MemPlace), DataW.trod enc P w base sp held fuel t cs = some x → Fits P t x.1 → ∃ a, cs = (e a).toList ∧ ok a
theorem OpensAt.z {P : Program} {w : World} {t : TypeId} {n : Nat} {α : Type} {e : α → Array Value} {ok : α → Prop} (o : OpensAt P w t n e ok) : OpensZ P w t n e ok := ⟨o.cells, o.size, fun enc base sp held fuel cs x h _ => o.some enc base sp held fuel cs x h⟩
theorem OpensZ.cut {P : Program} {w : World} {t : TypeId} {n off : Nat} {α : Type} {e : α → Array Value} {ok : α → Prop} (o : OpensZ P w t n e ok) {H : Type} {enc : TypeId × Value → H} {base : Nat} {sp : Nat → Bool} {held : Bool} {fuel : Nat} {cs : List Value} {x : DataW H × List MemPlace} (h : DataW.trod enc P w base sp held fuel t ((cs.drop off).take (P.cellsOf t)) = .some x) (hf : Fits P t x.1) : ∃ a, (cs.drop off).take n = (e a).toList ∧ ok a :=
  o.some _ _ _ _ _ _ _ (trod_cut o.cells h) hf
section
variable {P : Program} {t : TypeId} {H : Type}
end
end Go.Proofs.YtgoifgockcpnhaaDoor
