/- A region that draws, walked in an order of one's own and cut in two: the reads behind the cut may look at what the first part's calls made. -/
import Derived.Test.YtegebjflhhbmiaaDoorZQC6AG
set_option linter.unusedSimpArgs false
set_option linter.unusedVariables false
namespace Go.Proofs.YtegebjflhhbmiaaDoor
open Go Go.RowKit

/-- An order in which the operations may be walked. -/
structure PermOk (ops : Array Oper) (π : List Nat) : Prop where
  hs : Region.noSelect ops = true
  once : ∀ s t i, π = s ++ i :: t → i ∉ s
  mem : ∀ i, i < ops.size → i ∈ π
  at_ : ∀ s t i, π = s ++ i :: t → ∃ oi, ops[i]? = some oi ∧ (∀ e ∈ oi.after, Region.binds .any e = true → e.on ∈ s) ∧
    ∀ p ∈ s, ∀ op, ops[p]? = some op → (∀ L, Closed ops L → L i → L p) ∨ (op.apart ops oi = true ∧ (chainB op = false ∨ chainB oi = false))

section
variable {P : Program} {ops : Array Oper} {J : World → Prop} {Q : Exit → Act → World → Prop}

theorem YieldsK.up {J2 : World → Prop} {o : Oper} {v : Value} {a : Act} (hJ : ∀ h, J2 h → J h) (h : YieldsK P ops J o v a) : YieldsK P ops J2 o v a := by
  rcases h with ⟨h1, h2⟩ | h
  · exact .inl ⟨h1, fun x hx => h2 x (hJ x hx)⟩
  · exact .inr h
/-! ### packed -/
end
end Go.Proofs.YtegebjflhhbmiaaDoor
