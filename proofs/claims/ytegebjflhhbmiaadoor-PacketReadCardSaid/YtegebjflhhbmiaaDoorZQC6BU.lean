/- The law One. -/
import Derived.Test.YtegebjflhhbmiaaDoorZQC6BQ
import Derived.Test.YtegebjflhhbmiaaDoorZQC6BT
import Derived.Test.YtegebjflhhbmiaaDoorZQC6AO
set_option linter.unusedSimpArgs false
set_option linter.unusedVariables false
namespace Go.Proofs.YtegebjflhhbmiaaDoor
open Go Go.RowKit

theorem acts_few {m : MsgP} (h : okMsg m) : 5 * m.acts.length ≤ (encMsg m).length := by
  obtain ⟨h1, _, _, hb⟩ := h
  have h5 := acts_len m.acts
  unfold encMsg
  simp only [List.length_append]
  have hz : ∀ k, okBody k (m.clock, m.acts, m.rounds) → 5 * m.acts.length ≤ (encBody k (m.clock, m.acts, m.rounds)).length := fun k hb => by
    unfold okBody at hb
    unfold encBody encActs
    dsimp only at hb ⊢
    split
    · simp only [List.length_append]; omega
    · rename_i n1
      rw [if_neg n1] at hb
      split
      · rename_i n2
        rw [if_pos n2] at hb
        rw [hb.2.1]; simp
      · rename_i n2
        rw [if_neg n2] at hb
        split
        · simp only [List.length_append]; omega
        · rename_i n3
          rw [if_neg n3] at hb
          rw [hb.2.2]; simp
  have := hz _ hb
  omega
end Go.Proofs.YtegebjflhhbmiaaDoor
