/- A region that draws, with one call that may be first: ahead of it only reads, or another list's beginning; behind it several lists. -/
import Derived.Test.YtgoifgockcpnhaaDoorZDC7AG
set_option linter.unusedSimpArgs false
set_option linter.unusedVariables false
namespace Go.Proofs.YtgoifgockcpnhaaDoor
open Go Go.RowKit

section
variable {P : Program} {ops : Array Oper} {J : World → Prop} {Q : Exit → Act → World → Prop}

/-! ### packed -/
theorem wpMixI_monoQ {n : Nat} {Q' : Exit → Act → World → Prop} (hQ : ∀ a w, Q .normal a w → Q' .normal a w) : ∀ (ps : List Nat) (a : Act) (w : World), (∀ p ∈ ps, p < n) → wpMixI P ops J Q n ps a w → wpMixI P ops J Q' n ps a w
  | [], a, w, _, h => hQ _ _ h
  | p :: ps, a, w, hp, h => by
    have hpn := hp p (List.mem_cons_self ..)
    have hr : ∀ q ∈ ps, q < n := fun q hq => hp q (List.mem_cons_of_mem _ hq)
    rw [wpMixI, if_neg (by omega)] at h ⊢
    cases ho : ops[p]? with
    | none =>
      simp only [ho] at h ⊢
      exact wpMixI_monoQ hQ ps a w hr h
    | some o =>
      simp only [ho] at h ⊢
      split
      · rename_i hw
        rw [if_pos hw] at h
        split
        · rename_i hc
          rw [if_pos hc] at h
          exact Oper.wp_mono (fun a' w' hx => ⟨hx.1, wpMixI_monoQ hQ ps a' w' hr hx.2⟩) h
        · rename_i hc
          rw [if_neg hc] at h
          obtain ⟨v, h1, h2⟩ := h
          exact ⟨v, h1, wpMixI_monoQ hQ ps _ w hr h2⟩
      · rename_i hw
        rw [if_neg hw] at h
        exact wpMixI_monoQ hQ ps _ w hr h
end
end Go.Proofs.YtgoifgockcpnhaaDoor
