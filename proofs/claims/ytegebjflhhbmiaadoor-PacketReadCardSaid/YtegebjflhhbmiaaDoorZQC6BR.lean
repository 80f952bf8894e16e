/- Messages as the program holds them, and what they mean. -/
import Derived.Test.YtegebjflhhbmiaaDoorZQC6BP
import Derived.Test.YtegebjflhhbmiaaDoorZQC6BL
set_option linter.unusedSimpArgs false
set_option linter.unusedVariables false
namespace Go.Proofs.YtegebjflhhbmiaaDoor
open Go Go.RowKit

def nmP (m : MsgP) : MsgP := ⟨m.kind, m.frm, m.epoch, normC m.clock, m.acts.map normA, normR m.rounds⟩
theorem lt8 {i : Nat} (h : i < 8) : i = 0 ∨ i = 1 ∨ i = 2 ∨ i = 3 ∨ i = 4 ∨ i = 5 ∨ i = 6 ∨ i = 7 := by omega
theorem clkEq_iff8 {c d : Nat → Int} : clkEq c d = true ↔ ∀ i, i < 8 → c i = d i := by
  unfold clkEq
  simp only [Bool.and_eq_true, beq_iff_eq]
  constructor
  · rintro ⟨h0, h1, h2, h3, h4, h5, h6, h7⟩ i hi
    rcases lt8 hi with rfl | rfl | rfl | rfl | rfl | rfl | rfl | rfl <;> assumption
  · intro h
    exact ⟨h 0 (by omega), h 1 (by omega), h 2 (by omega), h 3 (by omega), h 4 (by omega), h 5 (by omega), h 6 (by omega), h 7 (by omega)⟩
theorem normC_iff {c d : Nat → Int} : normC c = normC d ↔ ∀ i, i < 8 → c i = d i := by
  constructor
  · intro h i hi
    have := congrFun h i
    rwa [normC_at hi, normC_at hi] at this
  · intro h
    funext i
    unfold normC
    split
    · exact h i (by assumption)
    · rfl
theorem clkEq_norm {c d : Nat → Int} : clkEq c d = true ↔ normC c = normC d := clkEq_iff8.trans normC_iff.symm
theorem actvEq_norm {a b : ActD} : actvEq a b = true ↔ normA a = normA b := by
  unfold actvEq normA
  simp only [Bool.and_eq_true, beq_iff_eq, opvEq_iff, clkEq_norm, ActD.mk.injEq]
theorem actsEq_norm {l m : List ActD} : actsEq l m = true ↔ l.map normA = m.map normA := by
  unfold actsEq
  simp only [Bool.and_eq_true, decide_eq_true_eq, List.all_eq_true, List.mem_range]
  constructor
  · rintro ⟨hl, h⟩
    apply List.ext_getElem?
    intro i
    rw [List.getElem?_map, List.getElem?_map]
    by_cases hi : i < l.length
    · have h1 := h i hi
      rw [za, za, List.getElem?_eq_getElem hi, List.getElem?_eq_getElem (show i < m.length by omega)] at h1
      rw [List.getElem?_eq_getElem hi, List.getElem?_eq_getElem (show i < m.length by omega)]
      exact congrArg some (actvEq_norm.1 h1)
    · rw [List.getElem?_eq_none (by omega), List.getElem?_eq_none (by omega)]
  · intro h
    have hl : l.length = m.length := by have := congrArg List.length h; simpa using this
    refine ⟨hl, fun i hi => ?_⟩
    have h1 := congrArg (fun z => z[i]?) h
    simp only [List.getElem?_map, List.getElem?_eq_getElem hi, List.getElem?_eq_getElem (show i < m.length by omega), Option.map_some] at h1
    rw [za, za, List.getElem?_eq_getElem hi, List.getElem?_eq_getElem (show i < m.length by omega)]
    exact actvEq_norm.2 (Option.some.inj h1)
theorem rndEq_norm {a b : RoundD} : rndEq a b = true ↔ normD a = normD b := by
  unfold rndEq normD
  simp only [Bool.and_eq_true, beq_iff_eq, clkEq_norm, RoundD.mk.injEq]
theorem rndsEq_norm {f g : Nat → RoundD} : rndsEq f g = true ↔ normR f = normR g := by
  rw [rndsEq_iff]
  constructor
  · intro h
    funext i
    unfold normR
    split
    · exact rndEq_norm.1 (h i (by assumption))
    · rfl
  · intro h i hi
    have := congrFun h i
    unfold normR at this
    rw [if_pos hi, if_pos hi] at this
    exact rndEq_norm.2 this
theorem msgEq_norm {d e : MsgD} {l m : List ActD} : msgEq d e l m = true ↔ nmP (mpOf d l) = nmP (mpOf e m) := by
  unfold msgEq nmP mpOf
  simp only [Bool.and_eq_true, beq_iff_eq, clkEq_norm, rndsEq_norm, actsEq_norm, MsgP.mk.injEq]
  exact ⟨fun ⟨h1, h2, h3, h4, h5, h6⟩ => ⟨h1, h2, h3, h4, h6, h5⟩, fun ⟨h1, h2, h3, h4, h6, h5⟩ => ⟨h1, h2, h3, h4, h5, h6⟩⟩
/-! ### the writing does not look beyond -/
/-! ### what is right -/
end Go.Proofs.YtegebjflhhbmiaaDoor
