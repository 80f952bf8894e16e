/- A region that draws, along several lists: every order that the edges allow is one of them, but for the reads. -/
import Derived.Test.YtegebjflhhbmiaaDoorZQC6AA
set_option linter.unusedSimpArgs false
set_option linter.unusedVariables false
namespace Go.Proofs.YtegebjflhhbmiaaDoor
open Go Go.RowKit

section
variable {P : Program} {ops : Array Oper} {J : World → Prop} {Q : Exit → Act → World → Prop}

/-- L holds with i all that i asks for. -/
def Closed (ops : Array Oper) (L : Nat → Prop) : Prop := ∀ j o, ops[j]? = some o → L j → ∀ e ∈ o.after, Region.binds .any e = true → L e.on
/-! ### packed -/
end
end Go.Proofs.YtegebjflhhbmiaaDoor
