/- The reasons, as they are laid when a law begins. -/
import Derived.Test.YtflibhphpnajeaaDoorZUC6AR
set_option linter.unusedSimpArgs false
set_option linter.unusedVariables false
namespace Go.Proofs.YtflibhphpnajeaaDoor
open Go Go.RowKit

def nmE : Nat → String
  | 1 => "barrow/api.ErrArg"
  | 2 => "barrow/api.ErrRange"
  | 3 => "barrow/api.ErrText"
  | 4 => "barrow/api.ErrFull"
  | 5 => "barrow/api.ErrFrozen"
  | 6 => "barrow/api.ErrForm"
  | 7 => "barrow/api.ErrShort"
  | 8 => "barrow/api.ErrOrder"
  | 9 => "barrow/api.ErrTwice"
  | 10 => "barrow/api.ErrEpoch"
  | 11 => "barrow/api.ErrBusy"
  | 12 => "barrow/api.ErrNone"
  | 13 => "barrow/api.ErrRoom"
  | _ => ""
def txE : Nat → List UInt8
  | 1 => [98, 97, 100, 32, 97, 114, 103, 117, 109, 101, 110, 116]
  | 2 => [111, 117, 116, 32, 111, 102, 32, 114, 97, 110, 103, 101]
  | 3 => [98, 97, 100, 32, 116, 101, 120, 116]
  | 4 => [110, 111, 32, 99, 114, 101, 100, 105, 116, 32, 108, 101, 102, 116]
  | 5 => [102, 114, 111, 122, 101, 110]
  | 6 => [98, 97, 100, 32, 102, 111, 114, 109]
  | 7 => [99, 117, 116, 32, 115, 104, 111, 114, 116]
  | 8 => [110, 111, 116, 32, 121, 101, 116]
  | 9 => [116, 104, 101, 114, 101, 32, 97, 108, 114, 101, 97, 100, 121]
  | 10 => [97, 110, 111, 116, 104, 101, 114, 32, 101, 112, 111, 99, 104]
  | 11 => [98, 117, 115, 121]
  | 12 => [110, 111, 116, 104, 105, 110, 103, 32, 116, 104, 101, 114, 101]
  | 13 => [110, 111, 32, 114, 111, 111, 109]
  | _ => []
theorem txE_inj : ∀ i j : Fin 14, 1 ≤ i.val → 1 ≤ j.val → txE i.val = txE j.val → i = j := by decide
theorem thirteen {p : Nat → Prop} (h : p 1 ∧ p 2 ∧ p 3 ∧ p 4 ∧ p 5 ∧ p 6 ∧ p 7 ∧ p 8 ∧ p 9 ∧ p 10 ∧ p 11 ∧ p 12 ∧ p 13) (k : Nat) (h1 : 1 ≤ k) (h2 : k ≤ 13) : p k := by
  obtain ⟨e1, e2, e3, e4, e5, e6, e7, e8, e9, e10, e11, e12, e13⟩ := h
  obtain rfl | rfl | rfl | rfl | rfl | rfl | rfl | rfl | rfl | rfl | rfl | rfl | rfl : k = 1 ∨ k = 2 ∨ k = 3 ∨ k = 4 ∨ k = 5 ∨ k = 6 ∨ k = 7 ∨ k = 8 ∨ k = 9 ∨ k = 10 ∨ k = 11 ∨ k = 12 ∨ k = 13 := by omega
  all_goals assumption
theorem nmE_at : ∀ k, 1 ≤ k → k ≤ 13 → Tryd.prog.globalNamed (nmE k) = some (gl k) ∧ (Tryd.prog.globals[gl k]?).map (·.type) = some 37 :=
  thirteen ⟨⟨by kernel_rfl, by kernel_rfl⟩, ⟨by kernel_rfl, by kernel_rfl⟩, ⟨by kernel_rfl, by kernel_rfl⟩, ⟨by kernel_rfl, by kernel_rfl⟩, ⟨by kernel_rfl, by kernel_rfl⟩, ⟨by kernel_rfl, by kernel_rfl⟩, ⟨by kernel_rfl, by kernel_rfl⟩, ⟨by kernel_rfl, by kernel_rfl⟩, ⟨by kernel_rfl, by kernel_rfl⟩, ⟨by kernel_rfl, by kernel_rfl⟩, ⟨by kernel_rfl, by kernel_rfl⟩, ⟨by kernel_rfl, by kernel_rfl⟩, ⟨by kernel_rfl, by kernel_rfl⟩⟩
theorem errA_laid {W : World} {l : List (String × DataW Unit)} (h : laidMetH Tryd.prog l W) (hh : (l.all fun x => x.2.handleName?.isNone) = true)
    (hm : ∀ k, 1 ≤ k → k ≤ 13 → (nmE k, DataW.iface "*errors.errorString" (.ptr (.agg [.lit (.string (txE k))]))) ∈ l) (hW : Own (Exh (fun b => W.heap[b]?)) W) : ∃ a, ErrA (Exh (fun b => W.heap[b]?)) a :=
  errA_of hW txE (fun i j i1 i2 j1 j2 e => congrArg Fin.val (txE_inj ⟨i, by omega⟩ ⟨j, by omega⟩ i1 j1 e)) fun k h1 h2 => errAt_of_laid h hh (hm k h1 h2) (nmE_at k h1 h2).1 (nmE_at k h1 h2).2
end Go.Proofs.YtflibhphpnajeaaDoor
