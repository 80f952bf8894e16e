/- WireBack: what was written of some items comes back, and each part of it ahead of its end is short. -/
import Derived.Test.YtdniiegnaabagaaDoorVN
set_option linter.unusedSimpArgs false
set_option linter.unusedVariables false
namespace Go.Proofs.YtdniiegnaabagaaDoor
open Go Go.RowKit

set_option maxRecDepth 20000 in
set_option maxHeartbeats 4000000 in
theorem wback_s (c0 : World) (F : HP) (ad : Nat → Addr) (v : Value) (l : List ItmD) : Spec Tryd.prog c0 6 #[v]
    (pu (ErrA F ad ∧ SlR F 4 itm v l ∧ ∀ x, x ∈ l → ItmI x) F) (fun r => pu (r = .bool true) F) := by
  intro w hq; obtain ⟨⟨hE, hsl, hI⟩, hs⟩ := hq.pu; clear hq
  have hEb : ErrB F ad := hE.b
  obtain ⟨hb1, hb2⟩ := row_bound hI 40 (Nat.le_refl _)
  have hmI : ∀ x, x ∈ rowI l → ItmI x ∧ okI x = true := fun x hx => by
    unfold rowI at hx
    rw [List.mem_filter] at hx
    exact ⟨hI x (List.mem_of_mem_take hx.1), hx.2⟩
  have hrow := fun F (w : World) (hs : Sat c0 (pu (ErrB F ad ∧ SlR F 4 itm v l) F) w) => row_s c0 F ad v l w (hs.mono (ent_pu_l fun h => ent_pu ⟨h.1, h.2, hI⟩ ent_refl))
  change ∀ F, Spec Tryd.prog c0 9 #[v] (pu (ErrB F ad ∧ SlR F 4 itm v l) F) _ at hrow
  change (encL (rowI l)).length ≤ 4360 at hb1
  change (rowI l).length ≤ 40 at hb2
  generalize rowI l = m at *
  have hmm : ∀ (vm : Value) (R : HP), SlR (row 24 4 itm vm m * R) 4 itm vm m := fun vm R => slr_row fun _ => rfl
  have hfull : ∀ F gb vm, Spec Tryd.prog c0 27 #[.slice (some ⟨gb, 0, none⟩) (encL m).length (encL m).length, vm] (pu (ErrA F ad) (row 24 4 itm vm m * (row 5 1 bytv (.slice (some ⟨gb, 0, none⟩) (encL m).length (encL m).length) (encL m) * F))) (fun r => pu (r = .tuple #[.int .i64 (m.length : Nat), .int .i64 0]) (row 24 4 itm vm m * (row 5 1 bytv (.slice (some ⟨gb, 0, none⟩) (encL m).length (encL m).length) (encL m) * F))) := fun F gb vm w hs => by
    obtain ⟨h1, hs⟩ := hs.pu
    refine (back_s c0 _ ad _ _ (encL m) m (encL m).length w (hs.mono (ent_pu ⟨h1.next.next, slr_next (slr_row fun _ => rfl), hmm _ _, hmI, by rw [List.take_length], hb1⟩ ent_refl))).mono fun ex w' ⟨r, hx, h⟩ => ⟨r, hx, ?_⟩
    obtain ⟨n, h⟩ := h.ex
    obtain ⟨c, h⟩ := h.ex
    obtain ⟨⟨hv, h2, _⟩, h9⟩ := h.pu
    obtain ⟨rfl, rfl⟩ := h2 (Nat.le_refl _)
    exact h9.mono (ent_pu hv ent_refl)
  have hpart : ∀ F gb vm k, k < (encL m).length → Spec Tryd.prog c0 27 #[.slice (some ⟨gb, 0, none⟩) k (encL m).length, vm] (pu (ErrA F ad) (row 24 4 itm vm m * (row 5 1 bytv (.slice (some ⟨gb, 0, none⟩) (encL m).length (encL m).length) (encL m) * F))) (fun r => ex fun n : Int => pu (r = .tuple #[.int .i64 n, .int .i64 7] ∧ 0 ≤ n ∧ n < m.length) (row 24 4 itm vm m * (row 5 1 bytv (.slice (some ⟨gb, 0, none⟩) (encL m).length (encL m).length) (encL m) * F))) := fun F gb vm k hk w hs => by
    obtain ⟨h1, hs⟩ := hs.pu
    refine (back_s c0 _ ad _ _ ((encL m).take k) m k w (hs.mono (ent_pu ⟨h1.next.next, slr_next (slr_row_take (fun _ => rfl) (by omega) rfl), hmm _ _, hmI, rfl, hb1⟩ ent_refl))).mono fun ex w' ⟨r, hx, h⟩ => ⟨r, hx, ?_⟩
    obtain ⟨n, h⟩ := h.ex
    obtain ⟨c, h⟩ := h.ex
    obtain ⟨⟨hv, _, h2⟩, h9⟩ := h.pu
    obtain ⟨h3, h4, rfl⟩ := h2 hk
    exact h9.mono (ent_ex n (ent_pu ⟨hv, h3, h4⟩ ent_refl))
  clear hmI hI hmm
  generalize encL m = E at *
  generalize hL : E.length = L at *
  generalize hM : m.length = M at *
  replace hL := Lib.hid hL
  replace hM := Lib.hid hM
  go_enter Tryd.func6, Tryd.ntmps6
  go_wp2_with (first
        | ((with_reducible rewrite [pl_strike_eq]); rotate_left 1; (focus rfl))
        | ((with_reducible apply pl_call hs (hrow _)); (go_must (((focus (simp only [zj, zk, zl, List.append_toArray, List.nil_append, List.cons_append, Act.eval, za, zb, zc, zd, ze, zf]; (try with_reducible rfl); done)); (focus ((repeat (first | (with_reducible (first | exact ent_refl | apply ent_puR)) | ((with_reducible apply ent_front); (focus with_reducible (repeat (first | exact ent_here | apply ent_next | exact ent_last)); done)) | (with_reducible (first | exact ent_keep | apply ent_trans ent_drop)) | (focus (first | ((repeat' (first | (with_reducible assumption) | (with_reducible apply And.intro))); done))))); done)); (focus (simp only [go_sem]))))); clear hs; (try clear w); intro v w hq; (obtain ⟨vm, hq1⟩ := hq.ex; obtain ⟨gb, hq2⟩ := hq1.ex; obtain ⟨rfl, hs⟩ := hq2.pu; clear hq1 hq2; obtain ⟨B, d, hvm, hd1, hd2⟩ := row_slice hs.own; rw [hM.out] at hvm hd1; subst hvm); clear hq; (try simp only [star_assoc, star_emp, emp_star] at hs); (try simp only [Act.put, zg, zh, zi]))
        | ((with_reducible apply pl_call hs (hfull _ gb _)); (go_must (((focus (simp only [zj, zk, zl, List.append_toArray, List.nil_append, List.cons_append, Act.eval, za, zb, zc, zd, ze, zf]; (try with_reducible rfl); done)); (focus ((repeat (first | (with_reducible (first | exact ent_refl | apply ent_puR)) | ((with_reducible apply ent_front); (focus with_reducible (repeat (first | exact ent_here | apply ent_next | exact ent_last)); done)) | (with_reducible (first | exact ent_keep | apply ent_trans ent_drop)) | (focus (first | (with_reducible assumption))))); done)); (focus (simp only [go_sem]))))); clear hs; (try clear w); intro v w hq; (obtain ⟨rfl, hs⟩ := hq.pu); clear hq; (try simp only [star_assoc, star_emp, emp_star] at hs); (try simp only [Act.put, zg, zh, zi])))
  go_loopw [5, 6, 7] (fun x y i wr => ∃ (k : Nat) (a b : Int), k ≤ L ∧ k ≤ 300 ∧ x = .int .i64 a ∧ y = .int .i64 b ∧ i = .int .i64 k ∧ Sat c0 (row 24 4 itm (.slice B M d) m * (row 5 1 bytv (.slice (some ⟨gb, 0, none⟩) L L) E * F)) wr) (fun _ _ i _ => L - (intOf i).toNat)
  case atStart => exact ⟨0, _, _, by omega, by omega, rfl, rfl, rfl, hs⟩
  case round =>
    clear hs hfull
    obtain ⟨k, a, b, hk, hk3, rfl, rfl, rfl, hs⟩ := hrel
    by_cases hlt : k < L ∧ k < 300
    · obtain ⟨hlt, hlt3⟩ := hlt
      have hp := fun F => hpart F gb (.slice B M d) k hlt
      clear hpart
      go_wp2_with (first
        | ((with_reducible rewrite [pl_strike_eq]); rotate_left 1; (focus rfl))
        | ((with_reducible apply pl_guard_f); (focus rfl); (focus rfl); all_goals (intro hb; first | (cases hb; done) | ((try simp at hb); first | contradiction | ((have hF : False := (by omega)); (cases hF; done)) | (simp only [Act.put, zg, zh, zi]))))
        | ((with_reducible apply pl_call hs (hp _)); (go_must (((focus (simp only [zj, zk, zl, List.append_toArray, List.nil_append, List.cons_append, Act.eval, za, zb, zc, zd, ze, zf]; (try with_reducible rfl); done)); (focus ((repeat (first | (with_reducible (first | exact ent_refl | apply ent_puR)) | ((with_reducible apply ent_front); (focus with_reducible (repeat (first | exact ent_here | apply ent_next | exact ent_last)); done)) | (with_reducible (first | exact ent_keep | apply ent_trans ent_drop)) | (focus (first | (with_reducible assumption))))); done)); (focus (simp only [go_sem]))))); clear hs; (try clear w); intro v w hq; (obtain ⟨a2, hq1⟩ := hq.ex; obtain ⟨⟨rfl, ha1, ha2⟩, hs⟩ := hq1.pu; clear hq1); clear hq; (try simp only [star_assoc, star_emp, emp_star] at hs); (try simp only [Act.put, zg, zh, zi])))
      exact ⟨⟨k + 1, a2, 7, by omega, by omega, rfl, rfl, by go_num, hs⟩, by simp [intOf]; omega⟩
    · have hexit : ¬ k < L ∨ (k < L ∧ ¬ (k : Int) < 300) := by omega
      clear hlt hpart
      rcases hexit with hb1 | ⟨hb1, hb2⟩
      all_goals
        go_wp2_with (first
        | ((with_reducible rewrite [pl_strike_eq]); rotate_left 1; (focus rfl))
        | ((with_reducible apply pl_call hs (wakes_s _ _ ad)); (go_must (((focus (simp only [zj, zk, zl, List.append_toArray, List.nil_append, List.cons_append, Act.eval, za, zb, zc, zd, ze, zf]; (try with_reducible rfl); done)); (focus ((repeat (first | (with_reducible (first | exact ent_refl | apply ent_puR)) | ((with_reducible apply ent_front); (focus with_reducible (repeat (first | exact ent_here | apply ent_next | exact ent_last)); done)) | (with_reducible (first | exact ent_keep | apply ent_trans ent_drop)) | (focus (first | (focus (with_reducible (repeat (first | assumption | (apply ErrA.left; assumption) | refine ErrA.exh (by assumption) ?_ | refine ErrA.exh0 (by assumption) ?_ | apply ErrA.next | (apply ErrB.left; assumption) | refine ErrB.exh (by assumption) ?_ | refine ErrB.exh0 (by assumption) ?_ | apply ErrB.next)); done)))))); done)); (focus (simp only [go_sem]))))); clear hs; (try clear w); intro v w hq; (obtain ⟨rfl, hs⟩ := hq.pu); clear hq; (try simp only [star_assoc, star_emp, emp_star] at hs); (try simp only [Act.put, zg, zh, zi])))
        (go_ret; simp only [za, zb, zc, zd, ze, zf])
        exact ⟨_, rfl, hs.mono (ent_pu rfl (by ((repeat (first | (with_reducible (first | exact ent_refl | exact ent_emp)) | ((with_reducible apply ent_front); (focus with_reducible (repeat (first | exact ent_here | apply ent_next | exact ent_last)); done)) | (with_reducible (first | exact ent_keep | apply ent_trans ent_drop)))); done)))⟩
end Go.Proofs.YtdniiegnaabagaaDoor
