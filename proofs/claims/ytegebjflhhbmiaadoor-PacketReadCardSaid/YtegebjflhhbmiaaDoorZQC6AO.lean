/- What is right, by the document. -/
import Derived.Test.YtegebjflhhbmiaaDoorZQC6AN
set_option linter.unusedSimpArgs false
set_option linter.unusedVariables false
namespace Go.Proofs.YtegebjflhhbmiaaDoor
open Go Go.RowKit

theorem okD_iff (r : RoundD) : okD r = true ↔ 0 ≤ r.num ∧ (r.num = 0 → rndEq r rnd0 = true) ∧ 0 ≤ r.dec ∧ r.dec ≤ 2 ∧ okC r.cut ∧ okV r.votes := by
  have hz : rndEq r rnd0 = true → r.num = 0 ∧ r.dec = 0 ∧ okC r.cut ∧ okV r.votes := fun h => by
    simp only [rndEq, rnd0, clkEq, clk0, Bool.and_eq_true, beq_iff_eq] at h
    obtain ⟨h0, ⟨a0, a1, a2, a3, a4, a5, a6, a7⟩, ⟨b0, b1, b2, b3, b4, b5, b6, b7⟩, h3⟩ := h
    have ha : ∀ i, i < 8 → r.cut i = 0 := fun i hi => by
      have : i = 0 ∨ i = 1 ∨ i = 2 ∨ i = 3 ∨ i = 4 ∨ i = 5 ∨ i = 6 ∨ i = 7 := by omega
      rcases this with rfl | rfl | rfl | rfl | rfl | rfl | rfl | rfl <;> assumption
    have hb : ∀ i, i < 8 → r.votes i = 0 := fun i hi => by
      have : i = 0 ∨ i = 1 ∨ i = 2 ∨ i = 3 ∨ i = 4 ∨ i = 5 ∨ i = 6 ∨ i = 7 := by omega
      rcases this with rfl | rfl | rfl | rfl | rfl | rfl | rfl | rfl <;> assumption
    exact ⟨h0, h3, fun i hi => by rw [ha i hi]; exact Int.le_refl _, fun i hi => by rw [hb i hi]; decide⟩
  unfold okD
  by_cases h : r.num ≤ 0
  · rw [if_pos h]
    constructor
    · intro h1
      obtain ⟨e0, e1, e2, e3⟩ := hz h1
      exact ⟨by omega, fun _ => h1, by omega, by omega, e2, e3⟩
    · rintro ⟨h1, h2, _⟩
      exact h2 (by omega)
  · rw [if_neg h]
    simp only [Bool.and_eq_true, decide_eq_true_eq]
    exact ⟨fun ⟨h1, h2, h3, h4⟩ => ⟨by omega, fun h0 => by omega, h3, h4, h2, h1⟩, fun ⟨_, _, h3, h4, h2, h1⟩ => ⟨h1, h2, h3, h4⟩⟩
theorem hasActs_s (c0 : World) (F : HP) (k : Int) : Spec Tryd.prog c0 45 #[.int .i64 k] F (fun v => pu (v = .bool (useA k)) F) := by
  intro w hs
  go_enter Tryd.func45, Tryd.ntmps45
  go_wp2_with (first
        | ((with_reducible rewrite [pl_skip_eq]); rotate_left 1; (focus rfl); simp only [Act.put, zg, zh, zi])
        | ((with_reducible apply pl_guard_f); (focus rfl); (focus rfl); all_goals (intro hb; first | (cases hb; done) | ((try simp at hb); first | contradiction | ((have hF : False := (by omega)); (cases hF; done)) | (simp only [Act.put, zg, zh, zi])))))
  all_goals go_ret
  all_goals exact ⟨_, rfl, hs.mono (ent_pu (congrArg Value.bool (by unfold useA; (try simp only [beq_iff_eq, beq_eq_false_iff_ne, ne_eq] at *); first | exact (decide_eq_true (by omega)).symm | exact (decide_eq_false (by omega)).symm | (rw [Bool.eq_iff_iff]; simp; omega))) (by ((repeat (first | (with_reducible (first | exact ent_refl | exact ent_emp)) | ((with_reducible apply ent_front); (focus with_reducible (repeat (first | exact ent_here | apply ent_next | exact ent_last)); done)) | (with_reducible (first | exact ent_keep | apply ent_trans ent_drop)))); done)))⟩
theorem hasRounds_s (c0 : World) (F : HP) (k : Int) : Spec Tryd.prog c0 46 #[.int .i64 k] F (fun v => pu (v = .bool (useR k)) F) := by
  intro w hs
  go_enter Tryd.func46, Tryd.ntmps46
  go_wp2_with (first
        | ((with_reducible rewrite [pl_skip_eq]); rotate_left 1; (focus rfl); simp only [Act.put, zg, zh, zi])
        | ((with_reducible apply pl_guard_f); (focus rfl); (focus rfl); all_goals (intro hb; first | (cases hb; done) | ((try simp at hb); first | contradiction | ((have hF : False := (by omega)); (cases hF; done)) | (simp only [Act.put, zg, zh, zi])))))
  all_goals go_ret
  all_goals exact ⟨_, rfl, hs.mono (ent_pu (congrArg Value.bool (by unfold useR; (try simp only [beq_iff_eq, beq_eq_false_iff_ne, ne_eq] at *); first | exact (decide_eq_true (by omega)).symm | exact (decide_eq_false (by omega)).symm | (rw [Bool.eq_iff_iff]; simp; omega))) (by ((repeat (first | (with_reducible (first | exact ent_refl | exact ent_emp)) | ((with_reducible apply ent_front); (focus with_reducible (repeat (first | exact ent_here | apply ent_next | exact ent_last)); done)) | (with_reducible (first | exact ent_keep | apply ent_trans ent_drop)))); done)))⟩
end Go.Proofs.YtegebjflhhbmiaaDoor
