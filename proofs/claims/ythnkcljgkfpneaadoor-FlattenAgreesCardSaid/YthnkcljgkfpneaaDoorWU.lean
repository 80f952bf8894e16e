/- A session's memory, opened. -/
import Derived.Test.YthnkcljgkfpneaaDoorWT
set_option linter.unusedSimpArgs false
set_option linter.unusedVariables false
namespace Go.Proofs.YthnkcljgkfpneaaDoor
open Go Go.RowKit

/-- A session's memory, opened. -/
abbrev playO (g n k : Nat) (ps : Nat → Nat) (R : Nat → Nat → RoundD) (H : Nat → Nat → Int) (S : List (Nat → RoundD)) (A B D : Option Addr) (cA cB cD : Nat) (F : HP) : HP :=
  wrlB g ⟨A, k, cA, B, k, cB, D, S.length, cD⟩ * (row 51 1 ptv (.slice A k cA) (ptrs ps k) * (row 23 8 clk (.slice B k cB) (clks H k) * (row 38 144 rnds (.slice D S.length cD) S * (desksF n ps R k * F))))
theorem said_at {S : List (Nat → RoundD)} {E : TypeId} {g cap i c : Nat} {R : HP} (hi : i < S.length) (hc : c < 8) : Reads (row E 144 rnds (.slice (some ⟨g, 0, none⟩) S.length cap) S * R) g (i * 144 + c * 18) 18 (rnd ((S.getD i rnds0) c)) := by
  refine (reads_row (E := E) (g := g) (n := S.length) (cap := cap) (R := R) rnds_size (by rw [List.getElem?_eq_getElem hi, List.getD, List.getElem?_eq_getElem hi]; rfl : S[i]? = some (S.getD i rnds0))).part ?_ (rnds_extract _ c hc)
  omega
end Go.Proofs.YthnkcljgkfpneaaDoor
