/- The pair of stacks: each call, whatever there is to undo. -/
import Derived.Test.YtflibhphpnajeaaDoorZUC6AX
import Derived.Test.YtflibhphpnajeaaDoorZUC6AY
set_option linter.unusedSimpArgs false
set_option linter.unusedVariables false
namespace Go.Proofs.YtflibhphpnajeaaDoor
open Go Go.RowKit

set_option maxRecDepth 20000 in
set_option maxHeartbeats 1000000 in
/-- Two rows of edits are alike. -/
theorem hist_s (c0 : World) (F : HP) (A B : Option Addr) (n c m d : Nat) (ts us : List SlD) (ls : List (List ChgD)) : Spec Tryd.prog c0 28 #[.slice A n c, .slice B m d]
    (pu (Hid (ts.length = ls.length) ∧ Hid (us.length = ls.length)) (row 22 1 slv (.slice A n c) ts * (rowsOf 33 4 chg ts ls * (row 22 1 slv (.slice B m d) us * (rowsOf 33 4 chg us ls * F)))))
    (fun r => pu (r = .bool true) (row 22 1 slv (.slice A n c) ts * (rowsOf 33 4 chg ts ls * (row 22 1 slv (.slice B m d) us * (rowsOf 33 4 chg us ls * F))))) := by
  intro w hq; obtain ⟨⟨ht, hu⟩, hs⟩ := hq.pu; clear hq
  obtain ⟨_, _, e1, hc1, hc2⟩ := row_slice (v := .slice A n c) (l := ts) (E := 22) (s := 1) (enc := slv) (hs.own.mono (by (focus with_reducible (repeat (first | exact ent_here | apply ent_next | exact ent_last)); done)))
  obtain ⟨rfl, hn1, rfl⟩ := sl_inj e1
  obtain ⟨_, _, e2, hd1, hd2⟩ := row_slice (v := .slice B m d) (l := us) (E := 22) (s := 1) (enc := slv) (hs.own.mono (by (focus with_reducible (repeat (first | exact ent_here | apply ent_next | exact ent_last)); done)))
  obtain ⟨rfl, hn2, rfl⟩ := sl_inj e2
  clear e1 e2
  unfold maxLen at hc2
  have hnm : m = n := by have := ht.out; have := hu.out; omega
  subst hnm
  rw [← hn1] at hc1
  clear hd1 hd2
  replace hn1 := Lib.hid hn1
  replace hn2 := Lib.hid hn2
  go_enter Tryd.func28, Tryd.ntmps28
  go_wp2_with (first
        | ((with_reducible apply wp_region_sl (G := emp) (id := 6) hs 1000); (focus (exact ent_emp_l)); (focus kernel_rfl); (focus decide +kernel); clear hs; (try clear w); intro hR w hRR hs; (try simp only [star_assoc] at hs))
        | ((with_reducible apply pl_load1 hs); (focus (simp only [Act.eval, za, zb, zc, zd, ze, zf]; (try with_reducible rfl); done)); (focus (simp only [go_sem])); (focus ((repeat (first | (with_reducible (first | assumption | exact hec _ | exact hec2 _ | exact hec3 _ | exact hec4 _ _)) | ((with_reducible apply readc_here); (focus (first | (simp only [zc, zd, ze, go_sem]; (try with_reducible rfl); done) | (go_simp; (try with_reducible rfl); done)))) | (with_reducible (first | (apply readc_left; assumption) | refine readc_exh (by assumption) ?_ | refine readc_exh0 (by assumption) ?_ | apply readc_next)))); done)); (focus rfl); simp only [Act.put, zg, zh, zi])
        | ((with_reducible apply mix_end hRR hs); (focus with_reducible (repeat (first | exact ent_here | apply ent_next | exact ent_last)); done); clear hs; (try clear w); intro w hs; (try simp only [star_assoc, star_emp, emp_star] at hs); clear hRR hR)
        | ((with_reducible apply mix_thaw hRR hs); (focus with_reducible (repeat (first | exact ent_here | apply ent_next | exact ent_last)); done); clear hs; (try clear w); intro w hs; (try simp only [star_assoc, star_emp, emp_star] at hs); clear hRR hR)
        | ((with_reducible apply mx_load1 hRR); (focus (simp only [Act.eval, za, zb, zc, zd, ze, zf]; (try with_reducible rfl); done)); (focus (simp only [go_sem])); (focus ((repeat (first | (with_reducible (first | assumption | exact hec _ | exact hec2 _ | exact hec3 _ | exact hec4 _ _)) | ((with_reducible apply readc_here); (focus (first | (simp only [zc, zd, ze, go_sem]; (try with_reducible rfl); done) | (go_simp; (try with_reducible rfl); done)))) | (with_reducible (first | (apply readc_left; assumption) | refine readc_exh (by assumption) ?_ | refine readc_exh0 (by assumption) ?_ | apply readc_next)))); done)); simp only [Act.put, zg, zh, zi])
        | ((with_reducible refine mix_float ?_ ?_ ?_ (fun h hk => ?_) ?_); rotate_left 1; (focus rfl); (focus rfl); (focus (go_simp; (try (rw [if_pos (by omega)]; (try go_simp))); (try simp (disch := omega) only [IntWalk.i64_in, IntWalk.i32_in]); (try with_reducible rfl); done)); simp only [Act.put, zg, zh, zi])
        | ((with_reducible refine mix_float_skip ?_ ?_ (fun h hk => ?_) ?_); (focus rfl); (focus rfl); (focus (go_simp; done)); simp only [Act.put, zg, zh, zi]))
  go_loopw [5] (fun i wr => ∃ k : Nat, k ≤ m ∧ i = .int .i64 k ∧ Sat c0 (row 22 1 slv (.slice A m c) ts * (rowsOf 33 4 chg ts ls * (row 22 1 slv (.slice B m d) us * (rowsOf 33 4 chg us ls * F)))) wr) (fun i _ => m - (intOf i).toNat)
  case atStart => exact ⟨0, by omega, rfl, hs⟩
  case round =>
    clear hs
    obtain ⟨k, hk, rfl, hs⟩ := hrel
    by_cases hlt : k < m
    · obtain ⟨g1, ⟨p1, q1, e1⟩, rfl, hl1, hr1⟩ := row_at (E := 22) (A := A) (n := m) (cap := c) (i := k) (l := ts) (hs.own.mono (by (focus with_reducible (repeat (first | exact ent_here | apply ent_next | exact ent_last)); done))) slv_size hlt
      obtain ⟨g2, ⟨p2, q2, e2⟩, rfl, hl2, hr2⟩ := row_at (E := 22) (A := B) (n := m) (cap := d) (i := k) (l := us) (hs.own.mono (by (focus with_reducible (repeat (first | exact ent_here | apply ent_next | exact ent_last)); done))) slv_size hlt
      have hlk : ls[k]? = some (ls[k]'(by have := ht.out; have := hn1.out; omega)) := List.getElem?_eq_getElem _
      have hec : ∀ R, ReadC (row 22 1 slv (.slice (some ⟨g1, 0, none⟩) m c) ts * R) g1 (k * 1) (.slice p1 q1 e1) := fun R => (hr1 R).cell (i := 0) (by omega) (slv_0 _)
      have hec2 : ∀ R, ReadC (row 22 1 slv (.slice (some ⟨g2, 0, none⟩) m d) us * R) g2 (k * 1) (.slice p2 q2 e2) := fun R => (hr2 R).cell (i := 0) (by omega) (slv_0 _)
      rw [Nat.mul_one] at hec hec2
      have hsl : ∀ R, SlR (rowsOf 33 4 chg ts ls * R) 4 chg (.slice p1 q1 e1) _ := fun R => slr_rowsOf chg_size hl1 hlk
      have hsl2 : ∀ R, SlR (rowsOf 33 4 chg us ls * R) 4 chg (.slice p2 q2 e2) _ := fun R => slr_rowsOf chg_size hl2 hlk
      generalize ls[k]'_ = l at hsl hsl2
      clear hl1 hl2 hr1 hr2 hlk
      go_wp2_with (first
        | ((with_reducible apply wp_region_sl (G := emp) (id := 6) hs 1000); (focus (exact ent_emp_l)); (focus kernel_rfl); (focus decide +kernel); clear hs; (try clear w); intro hR w hRR hs; (try simp only [star_assoc] at hs))
        | ((with_reducible apply pl_call hs (same_chg_s _ _ _ _ l)); (go_must (((focus (simp only [zj, zk, zl, List.append_toArray, List.nil_append, List.cons_append, Act.eval, za, zb, zc, zd, ze, zf]; (try with_reducible rfl); done)); (focus ((repeat (first | (with_reducible (first | exact ent_refl | apply ent_puR)) | ((with_reducible apply ent_front); (focus with_reducible (repeat (first | exact ent_here | apply ent_next | exact ent_last)); done)) | (with_reducible (first | exact ent_keep | apply ent_trans ent_drop)) | (focus (first | (with_reducible assumption) | (focus (first | ((repeat (first | (with_reducible (first | assumption |  exact hsl _ | exact hsl2 _ | exact hsl3 _ _ _ | exact slr_nil | exact slr_row (fun _ => by simp only [go_sem]) | exact slr_one (fun _ => by simp only [go_sem]) | (apply slr_left; assumption))) | (with_reducible apply slr_next))); done) | ((repeat (first | (with_reducible (first | assumption |  exact hsl _ | exact hsl2 _ | exact hsl3 _ _ _ | exact slr_nil | exact slr_row (fun _ => by simp only [go_sem]) | exact slr_one (fun _ => by simp only [go_sem]) | (apply slr_left; assumption))) | (with_reducible (first | (apply slr_exh; focus assumption) | (apply slr_exh0; focus assumption) | apply slr_next)))); done))) | (focus ((repeat (first | (with_reducible (first | assumption | exact hec _ | exact hec2 _ | exact hec3 _ | exact hec4 _ _)) | ((with_reducible apply readc_here); (focus (first | (simp only [zc, zd, ze, go_sem]; (try with_reducible rfl); done) | (go_simp; (try with_reducible rfl); done)))) | (with_reducible (first | (apply readc_left; assumption) | refine readc_exh (by assumption) ?_ | refine readc_exh0 (by assumption) ?_ | apply readc_next)))); done)) | (focus ((repeat (first | (with_reducible (first | assumption | exact hel _ | exact hel2 _ | exact hel3 _)) | ((with_reducible apply reads_whole); (focus (first | (with_reducible rfl) | (simp only [go_sem]; done) | (simp; done)))) | ((with_reducible apply reads_part); (focus (first | (simp [go_sem]; done) | (simp only [go_sem]; omega) | go_size)); (focus (first | (simp only [Nat.reduceAdd, Nat.zero_add, go_sem]; (try with_reducible rfl); done) | (simp [go_sem]; (try with_reducible rfl); done)))) | (with_reducible (first | (apply reads_left; assumption) | refine reads_exh (by assumption) ?_ | refine reads_exh0 (by assumption) ?_ | apply reads_next)))); done)) | (focus (with_reducible (repeat (first | assumption | (apply ErrA.left; assumption) | refine ErrA.exh (by assumption) ?_ | refine ErrA.exh0 (by assumption) ?_ | apply ErrA.next)); done)) | ((repeat' (first | (with_reducible assumption) | (with_reducible apply And.intro) | omega | (focus (first | ((repeat (first | (with_reducible (first | assumption |  exact hsl _ | exact hsl2 _ | exact hsl3 _ _ _ | exact slr_nil | exact slr_row (fun _ => by simp only [go_sem]) | exact slr_one (fun _ => by simp only [go_sem]) | (apply slr_left; assumption))) | (with_reducible apply slr_next))); done) | ((repeat (first | (with_reducible (first | assumption |  exact hsl _ | exact hsl2 _ | exact hsl3 _ _ _ | exact slr_nil | exact slr_row (fun _ => by simp only [go_sem]) | exact slr_one (fun _ => by simp only [go_sem]) | (apply slr_left; assumption))) | (with_reducible (first | (apply slr_exh; focus assumption) | (apply slr_exh0; focus assumption) | apply slr_next)))); done))) | (focus ((repeat (first | (with_reducible (first | assumption | exact hec _ | exact hec2 _ | exact hec3 _ | exact hec4 _ _)) | ((with_reducible apply readc_here); (focus (first | (simp only [zc, zd, ze, go_sem]; (try with_reducible rfl); done) | (go_simp; (try with_reducible rfl); done)))) | (with_reducible (first | (apply readc_left; assumption) | refine readc_exh (by assumption) ?_ | refine readc_exh0 (by assumption) ?_ | apply readc_next)))); done)) | (focus ((repeat (first | (with_reducible (first | assumption | exact hel _ | exact hel2 _ | exact hel3 _)) | ((with_reducible apply reads_whole); (focus (first | (with_reducible rfl) | (simp only [go_sem]; done) | (simp; done)))) | ((with_reducible apply reads_part); (focus (first | (simp [go_sem]; done) | (simp only [go_sem]; omega) | go_size)); (focus (first | (simp only [Nat.reduceAdd, Nat.zero_add, go_sem]; (try with_reducible rfl); done) | (simp [go_sem]; (try with_reducible rfl); done)))) | (with_reducible (first | (apply reads_left; assumption) | refine reads_exh (by assumption) ?_ | refine reads_exh0 (by assumption) ?_ | apply reads_next)))); done)) | (focus (with_reducible (repeat (first | assumption | (apply ErrA.left; assumption) | refine ErrA.exh (by assumption) ?_ | refine ErrA.exh0 (by assumption) ?_ | apply ErrA.next)); done)) | (simp; done) | (simp; omega))); done) | (with_reducible rfl) | omega | go_size | (simp [go_sem]; done))))); done)); (focus (simp only [go_sem]))))); clear hs; (try clear w); intro v w hq; (obtain ⟨rfl, hs⟩ := hq.pu); clear hq; (try simp only [star_assoc, star_emp, emp_star] at hs); (try simp only [Act.put, zg, zh, zi]))
        | ((with_reducible apply mx_call hs (same_chg_s _ _ _ _ l)); (go_must (((focus (simp only [zj, zk, zl, List.append_toArray, List.nil_append, List.cons_append, Act.eval, za, zb, zc, zd, ze, zf]; (try with_reducible rfl); done)); (focus ((repeat (first | (with_reducible (first | exact ent_refl | apply ent_puR)) | ((with_reducible apply ent_front); (focus with_reducible (repeat (first | exact ent_here | apply ent_next | exact ent_last)); done)) | (with_reducible (first | exact ent_keep | apply ent_trans ent_drop)) | (focus (first | (with_reducible assumption) | (focus (first | ((repeat (first | (with_reducible (first | assumption |  exact hsl _ | exact hsl2 _ | exact hsl3 _ _ _ | exact slr_nil | exact slr_row (fun _ => by simp only [go_sem]) | exact slr_one (fun _ => by simp only [go_sem]) | (apply slr_left; assumption))) | (with_reducible apply slr_next))); done) | ((repeat (first | (with_reducible (first | assumption |  exact hsl _ | exact hsl2 _ | exact hsl3 _ _ _ | exact slr_nil | exact slr_row (fun _ => by simp only [go_sem]) | exact slr_one (fun _ => by simp only [go_sem]) | (apply slr_left; assumption))) | (with_reducible (first | (apply slr_exh; focus assumption) | (apply slr_exh0; focus assumption) | apply slr_next)))); done))) | (focus ((repeat (first | (with_reducible (first | assumption | exact hec _ | exact hec2 _ | exact hec3 _ | exact hec4 _ _)) | ((with_reducible apply readc_here); (focus (first | (simp only [zc, zd, ze, go_sem]; (try with_reducible rfl); done) | (go_simp; (try with_reducible rfl); done)))) | (with_reducible (first | (apply readc_left; assumption) | refine readc_exh (by assumption) ?_ | refine readc_exh0 (by assumption) ?_ | apply readc_next)))); done)) | (focus ((repeat (first | (with_reducible (first | assumption | exact hel _ | exact hel2 _ | exact hel3 _)) | ((with_reducible apply reads_whole); (focus (first | (with_reducible rfl) | (simp only [go_sem]; done) | (simp; done)))) | ((with_reducible apply reads_part); (focus (first | (simp [go_sem]; done) | (simp only [go_sem]; omega) | go_size)); (focus (first | (simp only [Nat.reduceAdd, Nat.zero_add, go_sem]; (try with_reducible rfl); done) | (simp [go_sem]; (try with_reducible rfl); done)))) | (with_reducible (first | (apply reads_left; assumption) | refine reads_exh (by assumption) ?_ | refine reads_exh0 (by assumption) ?_ | apply reads_next)))); done)) | (focus (with_reducible (repeat (first | assumption | (apply ErrA.left; assumption) | refine ErrA.exh (by assumption) ?_ | refine ErrA.exh0 (by assumption) ?_ | apply ErrA.next)); done)) | ((repeat' (first | (with_reducible assumption) | (with_reducible apply And.intro) | omega | (focus (first | ((repeat (first | (with_reducible (first | assumption |  exact hsl _ | exact hsl2 _ | exact hsl3 _ _ _ | exact slr_nil | exact slr_row (fun _ => by simp only [go_sem]) | exact slr_one (fun _ => by simp only [go_sem]) | (apply slr_left; assumption))) | (with_reducible apply slr_next))); done) | ((repeat (first | (with_reducible (first | assumption |  exact hsl _ | exact hsl2 _ | exact hsl3 _ _ _ | exact slr_nil | exact slr_row (fun _ => by simp only [go_sem]) | exact slr_one (fun _ => by simp only [go_sem]) | (apply slr_left; assumption))) | (with_reducible (first | (apply slr_exh; focus assumption) | (apply slr_exh0; focus assumption) | apply slr_next)))); done))) | (focus ((repeat (first | (with_reducible (first | assumption | exact hec _ | exact hec2 _ | exact hec3 _ | exact hec4 _ _)) | ((with_reducible apply readc_here); (focus (first | (simp only [zc, zd, ze, go_sem]; (try with_reducible rfl); done) | (go_simp; (try with_reducible rfl); done)))) | (with_reducible (first | (apply readc_left; assumption) | refine readc_exh (by assumption) ?_ | refine readc_exh0 (by assumption) ?_ | apply readc_next)))); done)) | (focus ((repeat (first | (with_reducible (first | assumption | exact hel _ | exact hel2 _ | exact hel3 _)) | ((with_reducible apply reads_whole); (focus (first | (with_reducible rfl) | (simp only [go_sem]; done) | (simp; done)))) | ((with_reducible apply reads_part); (focus (first | (simp [go_sem]; done) | (simp only [go_sem]; omega) | go_size)); (focus (first | (simp only [Nat.reduceAdd, Nat.zero_add, go_sem]; (try with_reducible rfl); done) | (simp [go_sem]; (try with_reducible rfl); done)))) | (with_reducible (first | (apply reads_left; assumption) | refine reads_exh (by assumption) ?_ | refine reads_exh0 (by assumption) ?_ | apply reads_next)))); done)) | (focus (with_reducible (repeat (first | assumption | (apply ErrA.left; assumption) | refine ErrA.exh (by assumption) ?_ | refine ErrA.exh0 (by assumption) ?_ | apply ErrA.next)); done)) | (simp; done) | (simp; omega))); done) | (with_reducible rfl) | omega | go_size | (simp [go_sem]; done))))); done)); (focus (simp only [go_sem])); (focus (intros; with_reducible (refine in_of_sat (by assumption) ?_; repeat (first | exact ent_exh_here | exact ent_last | refine ent_pu_l (fun _ => ?_) | refine ent_ex_l (fun _ => ?_) | apply ent_exh_next)); done))))); clear hs; (try clear w); intro v w hq; (obtain ⟨rfl, hs⟩ := hq.pu); clear hq; (try simp only [star_assoc, star_emp, emp_star] at hs); (try simp only [Act.put, zg, zh, zi]))
        | ((with_reducible apply pl_load1 hs); (focus (simp only [Act.eval, za, zb, zc, zd, ze, zf]; (try with_reducible rfl); done)); (focus (simp only [go_sem])); (focus ((repeat (first | (with_reducible (first | assumption | exact hec _ | exact hec2 _ | exact hec3 _ | exact hec4 _ _)) | ((with_reducible apply readc_here); (focus (first | (simp only [zc, zd, ze, go_sem]; (try with_reducible rfl); done) | (go_simp; (try with_reducible rfl); done)))) | (with_reducible (first | (apply readc_left; assumption) | refine readc_exh (by assumption) ?_ | refine readc_exh0 (by assumption) ?_ | apply readc_next)))); done)); (focus rfl); simp only [Act.put, zg, zh, zi])
        | ((with_reducible apply mix_end hRR hs); (focus with_reducible (repeat (first | exact ent_here | apply ent_next | exact ent_last)); done); clear hs; (try clear w); intro w hs; (try simp only [star_assoc, star_emp, emp_star] at hs); clear hRR hR)
        | ((with_reducible apply mix_thaw hRR hs); (focus with_reducible (repeat (first | exact ent_here | apply ent_next | exact ent_last)); done); clear hs; (try clear w); intro w hs; (try simp only [star_assoc, star_emp, emp_star] at hs); clear hRR hR)
        | ((with_reducible apply mx_load1 hRR); (focus (simp only [Act.eval, za, zb, zc, zd, ze, zf]; (try with_reducible rfl); done)); (focus (simp only [go_sem])); (focus ((repeat (first | (with_reducible (first | assumption | exact hec _ | exact hec2 _ | exact hec3 _ | exact hec4 _ _)) | ((with_reducible apply readc_here); (focus (first | (simp only [zc, zd, ze, go_sem]; (try with_reducible rfl); done) | (go_simp; (try with_reducible rfl); done)))) | (with_reducible (first | (apply readc_left; assumption) | refine readc_exh (by assumption) ?_ | refine readc_exh0 (by assumption) ?_ | apply readc_next)))); done)); simp only [Act.put, zg, zh, zi])
        | ((with_reducible refine mix_float ?_ ?_ ?_ (fun h hk => ?_) ?_); rotate_left 1; (focus rfl); (focus rfl); (focus (go_simp; (try (rw [if_pos (by omega)]; (try go_simp))); (try simp (disch := omega) only [IntWalk.i64_in, IntWalk.i32_in]); (try with_reducible rfl); done)); simp only [Act.put, zg, zh, zi])
        | ((with_reducible refine mix_float_skip ?_ ?_ (fun h hk => ?_) ?_); (focus rfl); (focus rfl); (focus (go_simp; done)); simp only [Act.put, zg, zh, zi]))
      go_roundw
      case rel => exact ⟨k + 1, by omega, by go_num, hs.mono (by ((repeat (first | (with_reducible (first | exact ent_refl | exact ent_emp)) | ((with_reducible apply ent_front); (focus with_reducible (repeat (first | exact ent_here | apply ent_next | exact ent_last)); done)) | (with_reducible (first | exact ent_keep | apply ent_trans ent_drop)))); done))⟩
      case measure => simp [intOf]; omega
    · go_wp2_with (first
        | ((with_reducible apply wp_region_sl (G := emp) (id := 6) hs 1000); (focus (exact ent_emp_l)); (focus kernel_rfl); (focus decide +kernel); clear hs; (try clear w); intro hR w hRR hs; (try simp only [star_assoc] at hs))
        | ((with_reducible apply pl_load1 hs); (focus (simp only [Act.eval, za, zb, zc, zd, ze, zf]; (try with_reducible rfl); done)); (focus (simp only [go_sem])); (focus ((repeat (first | (with_reducible (first | assumption | exact hec _ | exact hec2 _ | exact hec3 _ | exact hec4 _ _)) | ((with_reducible apply readc_here); (focus (first | (simp only [zc, zd, ze, go_sem]; (try with_reducible rfl); done) | (go_simp; (try with_reducible rfl); done)))) | (with_reducible (first | (apply readc_left; assumption) | refine readc_exh (by assumption) ?_ | refine readc_exh0 (by assumption) ?_ | apply readc_next)))); done)); (focus rfl); simp only [Act.put, zg, zh, zi])
        | ((with_reducible apply mix_end hRR hs); (focus with_reducible (repeat (first | exact ent_here | apply ent_next | exact ent_last)); done); clear hs; (try clear w); intro w hs; (try simp only [star_assoc, star_emp, emp_star] at hs); clear hRR hR)
        | ((with_reducible apply mix_thaw hRR hs); (focus with_reducible (repeat (first | exact ent_here | apply ent_next | exact ent_last)); done); clear hs; (try clear w); intro w hs; (try simp only [star_assoc, star_emp, emp_star] at hs); clear hRR hR)
        | ((with_reducible apply mx_load1 hRR); (focus (simp only [Act.eval, za, zb, zc, zd, ze, zf]; (try with_reducible rfl); done)); (focus (simp only [go_sem])); (focus ((repeat (first | (with_reducible (first | assumption | exact hec _ | exact hec2 _ | exact hec3 _ | exact hec4 _ _)) | ((with_reducible apply readc_here); (focus (first | (simp only [zc, zd, ze, go_sem]; (try with_reducible rfl); done) | (go_simp; (try with_reducible rfl); done)))) | (with_reducible (first | (apply readc_left; assumption) | refine readc_exh (by assumption) ?_ | refine readc_exh0 (by assumption) ?_ | apply readc_next)))); done)); simp only [Act.put, zg, zh, zi])
        | ((with_reducible refine mix_float ?_ ?_ ?_ (fun h hk => ?_) ?_); rotate_left 1; (focus rfl); (focus rfl); (focus (go_simp; (try (rw [if_pos (by omega)]; (try go_simp))); (try simp (disch := omega) only [IntWalk.i64_in, IntWalk.i32_in]); (try with_reducible rfl); done)); simp only [Act.put, zg, zh, zi])
        | ((with_reducible refine mix_float_skip ?_ ?_ (fun h hk => ?_) ?_); (focus rfl); (focus rfl); (focus (go_simp; done)); simp only [Act.put, zg, zh, zi]))
      (go_ret; simp only [za, zb, zc, zd, ze, zf])
      exact ⟨_, rfl, hs.mono (ent_pu rfl (by ((repeat (first | (with_reducible (first | exact ent_refl | exact ent_emp)) | ((with_reducible apply ent_front); (focus with_reducible (repeat (first | exact ent_here | apply ent_next | exact ent_last)); done)) | (with_reducible (first | exact ent_keep | apply ent_trans ent_drop)))); done)))⟩
set_option maxRecDepth 20000 in
set_option maxHeartbeats 1000000 in
theorem got_s (c0 : World) (F : HP) (a : Nat → Addr) (v e u : Value) (no : NoD) (l : List ChgD) (o : Option (List LinkD × Nat)) : Spec Tryd.prog c0 45 #[v, e, u, .agg (nov no)]
    (pu (ErrA F a ∧ l.length ≤ 4398046510976) (row 33 4 chg v l * (RefP a o e * (row 33 4 chg u l * (NoP o no * F))))) (fun r => pu (r = .bool true) F) := by
  intro w hq; obtain ⟨⟨hE, hl⟩, hs⟩ := hq.pu; clear hq
  go_enter Tryd.func45, Tryd.ntmps45
  go_wp2_with (first
        | ((with_reducible rewrite [pl_strike_eq]); rotate_left 1; (focus rfl))
        | ((with_reducible rewrite [pl_skip_eq]); rotate_left 1; (focus rfl); simp only [Act.put, zg, zh, zi])
        | ((with_reducible apply pl_guard_t); (focus rfl); (focus rfl); all_goals (intro hb; first | (cases hb; done) | ((try simp at hb); first | contradiction | ((have hF : False := (by omega)); (cases hF; done)) | (simp only [Act.put, zg, zh, zi]))))
        | ((with_reducible apply pl_guard_f); (focus rfl); (focus rfl); all_goals (intro hb; first | (cases hb; done) | ((try simp at hb); first | contradiction | ((have hF : False := (by omega)); (cases hF; done)) | (simp only [Act.put, zg, zh, zi]))))
        | ((with_reducible apply pl_call hs (same_chg_s _ _ _ _ l)); (go_must (((focus (simp only [zj, zk, zl, List.append_toArray, List.nil_append, List.cons_append, Act.eval, za, zb, zc, zd, ze, zf]; (try with_reducible rfl); done)); (focus ((repeat (first | (with_reducible (first | exact ent_refl | apply ent_puR)) | ((with_reducible apply ent_front); (focus with_reducible (repeat (first | exact ent_here | apply ent_next | exact ent_last)); done)) | (with_reducible (first | exact ent_keep | apply ent_trans ent_drop)) | (focus (first | (with_reducible assumption) | (focus (first | ((repeat (first | (with_reducible (first | assumption |  exact hsl _ | exact hsl2 _ | exact hsl3 _ _ _ | exact slr_nil | exact slr_row (fun _ => by simp only [go_sem]) | exact slr_one (fun _ => by simp only [go_sem]) | (apply slr_left; assumption))) | (with_reducible apply slr_next))); done) | ((repeat (first | (with_reducible (first | assumption |  exact hsl _ | exact hsl2 _ | exact hsl3 _ _ _ | exact slr_nil | exact slr_row (fun _ => by simp only [go_sem]) | exact slr_one (fun _ => by simp only [go_sem]) | (apply slr_left; assumption))) | (with_reducible (first | (apply slr_exh; focus assumption) | (apply slr_exh0; focus assumption) | apply slr_next)))); done))) | (focus ((repeat (first | (with_reducible (first | assumption | exact hec _ | exact hec2 _ | exact hec3 _ | exact hec4 _ _)) | ((with_reducible apply readc_here); (focus (first | (simp only [zc, zd, ze, go_sem]; (try with_reducible rfl); done) | (go_simp; (try with_reducible rfl); done)))) | (with_reducible (first | (apply readc_left; assumption) | refine readc_exh (by assumption) ?_ | refine readc_exh0 (by assumption) ?_ | apply readc_next)))); done)) | (focus ((repeat (first | (with_reducible (first | assumption | exact hel _ | exact hel2 _ | exact hel3 _)) | ((with_reducible apply reads_whole); (focus (first | (with_reducible rfl) | (simp only [go_sem]; done) | (simp; done)))) | ((with_reducible apply reads_part); (focus (first | (simp [go_sem]; done) | (simp only [go_sem]; omega) | go_size)); (focus (first | (simp only [Nat.reduceAdd, Nat.zero_add, go_sem]; (try with_reducible rfl); done) | (simp [go_sem]; (try with_reducible rfl); done)))) | (with_reducible (first | (apply reads_left; assumption) | refine reads_exh (by assumption) ?_ | refine reads_exh0 (by assumption) ?_ | apply reads_next)))); done)) | (focus (with_reducible (repeat (first | assumption | (apply ErrA.left; assumption) | refine ErrA.exh (by assumption) ?_ | refine ErrA.exh0 (by assumption) ?_ | apply ErrA.next)); done)) | ((repeat' (first | (with_reducible assumption) | (with_reducible apply And.intro) | omega | (focus (first | ((repeat (first | (with_reducible (first | assumption |  exact hsl _ | exact hsl2 _ | exact hsl3 _ _ _ | exact slr_nil | exact slr_row (fun _ => by simp only [go_sem]) | exact slr_one (fun _ => by simp only [go_sem]) | (apply slr_left; assumption))) | (with_reducible apply slr_next))); done) | ((repeat (first | (with_reducible (first | assumption |  exact hsl _ | exact hsl2 _ | exact hsl3 _ _ _ | exact slr_nil | exact slr_row (fun _ => by simp only [go_sem]) | exact slr_one (fun _ => by simp only [go_sem]) | (apply slr_left; assumption))) | (with_reducible (first | (apply slr_exh; focus assumption) | (apply slr_exh0; focus assumption) | apply slr_next)))); done))) | (focus ((repeat (first | (with_reducible (first | assumption | exact hec _ | exact hec2 _ | exact hec3 _ | exact hec4 _ _)) | ((with_reducible apply readc_here); (focus (first | (simp only [zc, zd, ze, go_sem]; (try with_reducible rfl); done) | (go_simp; (try with_reducible rfl); done)))) | (with_reducible (first | (apply readc_left; assumption) | refine readc_exh (by assumption) ?_ | refine readc_exh0 (by assumption) ?_ | apply readc_next)))); done)) | (focus ((repeat (first | (with_reducible (first | assumption | exact hel _ | exact hel2 _ | exact hel3 _)) | ((with_reducible apply reads_whole); (focus (first | (with_reducible rfl) | (simp only [go_sem]; done) | (simp; done)))) | ((with_reducible apply reads_part); (focus (first | (simp [go_sem]; done) | (simp only [go_sem]; omega) | go_size)); (focus (first | (simp only [Nat.reduceAdd, Nat.zero_add, go_sem]; (try with_reducible rfl); done) | (simp [go_sem]; (try with_reducible rfl); done)))) | (with_reducible (first | (apply reads_left; assumption) | refine reads_exh (by assumption) ?_ | refine reads_exh0 (by assumption) ?_ | apply reads_next)))); done)) | (focus (with_reducible (repeat (first | assumption | (apply ErrA.left; assumption) | refine ErrA.exh (by assumption) ?_ | refine ErrA.exh0 (by assumption) ?_ | apply ErrA.next)); done)) | (simp; done) | (simp; omega))); done) | (with_reducible rfl) | omega | go_size | (simp [go_sem]; done))))); done)); (focus (simp only [go_sem]))))); clear hs; (try clear w); intro v w hq; (obtain ⟨rfl, hs⟩ := hq.pu); clear hq; (try simp only [star_assoc, star_emp, emp_star] at hs); (try simp only [Act.put, zg, zh, zi]))
        | ((with_reducible apply pl_call hs (refused_s _ _ a o _ _)); (go_must (((focus (simp only [zj, zk, zl, List.append_toArray, List.nil_append, List.cons_append, Act.eval, za, zb, zc, zd, ze, zf]; (try with_reducible rfl); done)); (focus ((repeat (first | (with_reducible (first | exact ent_refl | apply ent_puR)) | ((with_reducible apply ent_front); (focus with_reducible (repeat (first | exact ent_here | apply ent_next | exact ent_last)); done)) | (with_reducible (first | exact ent_keep | apply ent_trans ent_drop)) | (focus (first | (with_reducible assumption) | (focus (first | ((repeat (first | (with_reducible (first | assumption |  exact hsl _ | exact hsl2 _ | exact hsl3 _ _ _ | exact slr_nil | exact slr_row (fun _ => by simp only [go_sem]) | exact slr_one (fun _ => by simp only [go_sem]) | (apply slr_left; assumption))) | (with_reducible apply slr_next))); done) | ((repeat (first | (with_reducible (first | assumption |  exact hsl _ | exact hsl2 _ | exact hsl3 _ _ _ | exact slr_nil | exact slr_row (fun _ => by simp only [go_sem]) | exact slr_one (fun _ => by simp only [go_sem]) | (apply slr_left; assumption))) | (with_reducible (first | (apply slr_exh; focus assumption) | (apply slr_exh0; focus assumption) | apply slr_next)))); done))) | (focus ((repeat (first | (with_reducible (first | assumption | exact hec _ | exact hec2 _ | exact hec3 _ | exact hec4 _ _)) | ((with_reducible apply readc_here); (focus (first | (simp only [zc, zd, ze, go_sem]; (try with_reducible rfl); done) | (go_simp; (try with_reducible rfl); done)))) | (with_reducible (first | (apply readc_left; assumption) | refine readc_exh (by assumption) ?_ | refine readc_exh0 (by assumption) ?_ | apply readc_next)))); done)) | (focus ((repeat (first | (with_reducible (first | assumption | exact hel _ | exact hel2 _ | exact hel3 _)) | ((with_reducible apply reads_whole); (focus (first | (with_reducible rfl) | (simp only [go_sem]; done) | (simp; done)))) | ((with_reducible apply reads_part); (focus (first | (simp [go_sem]; done) | (simp only [go_sem]; omega) | go_size)); (focus (first | (simp only [Nat.reduceAdd, Nat.zero_add, go_sem]; (try with_reducible rfl); done) | (simp [go_sem]; (try with_reducible rfl); done)))) | (with_reducible (first | (apply reads_left; assumption) | refine reads_exh (by assumption) ?_ | refine reads_exh0 (by assumption) ?_ | apply reads_next)))); done)) | (focus (with_reducible (repeat (first | assumption | (apply ErrA.left; assumption) | refine ErrA.exh (by assumption) ?_ | refine ErrA.exh0 (by assumption) ?_ | apply ErrA.next)); done)) | ((repeat' (first | (with_reducible assumption) | (with_reducible apply And.intro) | omega | (focus (first | ((repeat (first | (with_reducible (first | assumption |  exact hsl _ | exact hsl2 _ | exact hsl3 _ _ _ | exact slr_nil | exact slr_row (fun _ => by simp only [go_sem]) | exact slr_one (fun _ => by simp only [go_sem]) | (apply slr_left; assumption))) | (with_reducible apply slr_next))); done) | ((repeat (first | (with_reducible (first | assumption |  exact hsl _ | exact hsl2 _ | exact hsl3 _ _ _ | exact slr_nil | exact slr_row (fun _ => by simp only [go_sem]) | exact slr_one (fun _ => by simp only [go_sem]) | (apply slr_left; assumption))) | (with_reducible (first | (apply slr_exh; focus assumption) | (apply slr_exh0; focus assumption) | apply slr_next)))); done))) | (focus ((repeat (first | (with_reducible (first | assumption | exact hec _ | exact hec2 _ | exact hec3 _ | exact hec4 _ _)) | ((with_reducible apply readc_here); (focus (first | (simp only [zc, zd, ze, go_sem]; (try with_reducible rfl); done) | (go_simp; (try with_reducible rfl); done)))) | (with_reducible (first | (apply readc_left; assumption) | refine readc_exh (by assumption) ?_ | refine readc_exh0 (by assumption) ?_ | apply readc_next)))); done)) | (focus ((repeat (first | (with_reducible (first | assumption | exact hel _ | exact hel2 _ | exact hel3 _)) | ((with_reducible apply reads_whole); (focus (first | (with_reducible rfl) | (simp only [go_sem]; done) | (simp; done)))) | ((with_reducible apply reads_part); (focus (first | (simp [go_sem]; done) | (simp only [go_sem]; omega) | go_size)); (focus (first | (simp only [Nat.reduceAdd, Nat.zero_add, go_sem]; (try with_reducible rfl); done) | (simp [go_sem]; (try with_reducible rfl); done)))) | (with_reducible (first | (apply reads_left; assumption) | refine reads_exh (by assumption) ?_ | refine reads_exh0 (by assumption) ?_ | apply reads_next)))); done)) | (focus (with_reducible (repeat (first | assumption | (apply ErrA.left; assumption) | refine ErrA.exh (by assumption) ?_ | refine ErrA.exh0 (by assumption) ?_ | apply ErrA.next)); done)) | (simp; done) | (simp; omega))); done) | (with_reducible rfl) | omega | go_size | (simp [go_sem]; done))))); done)); (focus (simp only [go_sem]))))); clear hs; (try clear w); intro v w hq; (obtain ⟨rfl, hs⟩ := hq.pu); clear hq; (try simp only [star_assoc, star_emp, emp_star] at hs); (try simp only [Act.put, zg, zh, zi]))
        | ((with_reducible apply pl_call hs (spoil_chg_s _ _ _ l)); (go_must (((focus (simp only [zj, zk, zl, List.append_toArray, List.nil_append, List.cons_append, Act.eval, za, zb, zc, zd, ze, zf]; (try with_reducible rfl); done)); (focus ((repeat (first | (with_reducible (first | exact ent_refl | apply ent_puR)) | ((with_reducible apply ent_front); (focus with_reducible (repeat (first | exact ent_here | apply ent_next | exact ent_last)); done)) | (with_reducible (first | exact ent_keep | apply ent_trans ent_drop)) | (focus (first | (with_reducible assumption) | (focus (first | ((repeat (first | (with_reducible (first | assumption |  exact hsl _ | exact hsl2 _ | exact hsl3 _ _ _ | exact slr_nil | exact slr_row (fun _ => by simp only [go_sem]) | exact slr_one (fun _ => by simp only [go_sem]) | (apply slr_left; assumption))) | (with_reducible apply slr_next))); done) | ((repeat (first | (with_reducible (first | assumption |  exact hsl _ | exact hsl2 _ | exact hsl3 _ _ _ | exact slr_nil | exact slr_row (fun _ => by simp only [go_sem]) | exact slr_one (fun _ => by simp only [go_sem]) | (apply slr_left; assumption))) | (with_reducible (first | (apply slr_exh; focus assumption) | (apply slr_exh0; focus assumption) | apply slr_next)))); done))) | (focus ((repeat (first | (with_reducible (first | assumption | exact hec _ | exact hec2 _ | exact hec3 _ | exact hec4 _ _)) | ((with_reducible apply readc_here); (focus (first | (simp only [zc, zd, ze, go_sem]; (try with_reducible rfl); done) | (go_simp; (try with_reducible rfl); done)))) | (with_reducible (first | (apply readc_left; assumption) | refine readc_exh (by assumption) ?_ | refine readc_exh0 (by assumption) ?_ | apply readc_next)))); done)) | (focus ((repeat (first | (with_reducible (first | assumption | exact hel _ | exact hel2 _ | exact hel3 _)) | ((with_reducible apply reads_whole); (focus (first | (with_reducible rfl) | (simp only [go_sem]; done) | (simp; done)))) | ((with_reducible apply reads_part); (focus (first | (simp [go_sem]; done) | (simp only [go_sem]; omega) | go_size)); (focus (first | (simp only [Nat.reduceAdd, Nat.zero_add, go_sem]; (try with_reducible rfl); done) | (simp [go_sem]; (try with_reducible rfl); done)))) | (with_reducible (first | (apply reads_left; assumption) | refine reads_exh (by assumption) ?_ | refine reads_exh0 (by assumption) ?_ | apply reads_next)))); done)) | (focus (with_reducible (repeat (first | assumption | (apply ErrA.left; assumption) | refine ErrA.exh (by assumption) ?_ | refine ErrA.exh0 (by assumption) ?_ | apply ErrA.next)); done)) | ((repeat' (first | (with_reducible assumption) | (with_reducible apply And.intro) | omega | (focus (first | ((repeat (first | (with_reducible (first | assumption |  exact hsl _ | exact hsl2 _ | exact hsl3 _ _ _ | exact slr_nil | exact slr_row (fun _ => by simp only [go_sem]) | exact slr_one (fun _ => by simp only [go_sem]) | (apply slr_left; assumption))) | (with_reducible apply slr_next))); done) | ((repeat (first | (with_reducible (first | assumption |  exact hsl _ | exact hsl2 _ | exact hsl3 _ _ _ | exact slr_nil | exact slr_row (fun _ => by simp only [go_sem]) | exact slr_one (fun _ => by simp only [go_sem]) | (apply slr_left; assumption))) | (with_reducible (first | (apply slr_exh; focus assumption) | (apply slr_exh0; focus assumption) | apply slr_next)))); done))) | (focus ((repeat (first | (with_reducible (first | assumption | exact hec _ | exact hec2 _ | exact hec3 _ | exact hec4 _ _)) | ((with_reducible apply readc_here); (focus (first | (simp only [zc, zd, ze, go_sem]; (try with_reducible rfl); done) | (go_simp; (try with_reducible rfl); done)))) | (with_reducible (first | (apply readc_left; assumption) | refine readc_exh (by assumption) ?_ | refine readc_exh0 (by assumption) ?_ | apply readc_next)))); done)) | (focus ((repeat (first | (with_reducible (first | assumption | exact hel _ | exact hel2 _ | exact hel3 _)) | ((with_reducible apply reads_whole); (focus (first | (with_reducible rfl) | (simp only [go_sem]; done) | (simp; done)))) | ((with_reducible apply reads_part); (focus (first | (simp [go_sem]; done) | (simp only [go_sem]; omega) | go_size)); (focus (first | (simp only [Nat.reduceAdd, Nat.zero_add, go_sem]; (try with_reducible rfl); done) | (simp [go_sem]; (try with_reducible rfl); done)))) | (with_reducible (first | (apply reads_left; assumption) | refine reads_exh (by assumption) ?_ | refine reads_exh0 (by assumption) ?_ | apply reads_next)))); done)) | (focus (with_reducible (repeat (first | assumption | (apply ErrA.left; assumption) | refine ErrA.exh (by assumption) ?_ | refine ErrA.exh0 (by assumption) ?_ | apply ErrA.next)); done)) | (simp; done) | (simp; omega))); done) | (with_reducible rfl) | omega | go_size | (simp [go_sem]; done))))); done)); (focus (simp only [go_sem]))))); clear hs; (try clear w); intro v w hq; (have hs := hq); clear hq; (try simp only [star_assoc, star_emp, emp_star] at hs); (try simp only [Act.put, zg, zh, zi]))
        | ((with_reducible apply pl_loadN hs); (focus (simp only [Act.eval, za, zb, zc, zd, ze, zf]; (try with_reducible rfl); done)); (with_reducible (first | exact agg_44)); (focus ((repeat (first | (with_reducible (first | assumption | exact hel _ | exact hel2 _ | exact hel3 _)) | ((with_reducible apply reads_whole); (focus (first | (with_reducible rfl) | (simp only [go_sem]; done) | (simp; done)))) | ((with_reducible apply reads_part); (focus (first | (simp [go_sem]; done) | (simp only [go_sem]; omega) | go_size)); (focus (first | (simp only [Nat.reduceAdd, Nat.zero_add, go_sem]; (try with_reducible rfl); done) | (simp [go_sem]; (try with_reducible rfl); done)))) | (with_reducible (first | (apply reads_left; assumption) | refine reads_exh (by assumption) ?_ | refine reads_exh0 (by assumption) ?_ | apply reads_next)))); done)); (focus rfl); simp only [Act.put, zg, zh, zi])
        | ((with_reducible apply pl_box hs); (focus (simp only [Act.eval, za, zb, zc, zd, ze, zf]; (try with_reducible rfl); done)); (focus (first | (with_reducible (first | exact cells_slv _ _ _ | exact cells_intv _ | exact cells_agg _ | exact cells_int _ _ | exact cells_bool _ | exact cells_string _ | exact cells_slice _ _ _ | exact cells_pointer _ | exact cells_map _ | exact cells_iface _ _ | exact cells_nilIface | exact cells_func _ _ _)) | (exact cells_one (by assumption)))); clear hs; (try clear w); intro g w hs; skip; simp only [Act.put, zg, zh, zi]))
  (go_ret; simp only [za, zb, zc, zd, ze, zf])
  exact ⟨_, rfl, hs.mono (ent_pu rfl (by ((repeat (first | (with_reducible (first | exact ent_refl | exact ent_emp)) | ((with_reducible apply ent_front); (focus with_reducible (repeat (first | exact ent_here | apply ent_next | exact ent_last)); done)) | (with_reducible (first | exact ent_keep | apply ent_trans ent_drop)))); done)))⟩
end Go.Proofs.YtflibhphpnajeaaDoor

set_option linter.unusedSimpArgs false
set_option linter.unusedVariables false
namespace Go.Proofs.YtflibhphpnajeaaDoor
open Go Go.RowKit

/-! ### what the calls come to -/
def uL (dn : List (List ChgD)) : List ChgD := match dn.getLast? with | none => [] | some l => backL l
def rL (un : List (List ChgD)) : List ChgD := match un.getLast? with | none => [] | some l => againL l
def uO (dn : List (List ChgD)) : Option (List LinkD × Nat) := match dn.getLast? with | none => some ([⟨⟨#[117, 110, 100, 111]⟩, ⟨#[85, 110, 100, 111]⟩, -1⟩], 12) | some _ => none
def rO (un : List (List ChgD)) : Option (List LinkD × Nat) := match un.getLast? with | none => some ([⟨⟨#[117, 110, 100, 111]⟩, ⟨#[82, 101, 100, 111]⟩, -1⟩], 12) | some _ => none
def mv1 (x y : List (List ChgD)) : List (List ChgD) := match x.getLast? with | none => y | some l => y ++ [l]
def dDn (dn : List (List ChgD)) (l : List ChgD) : List (List ChgD) := if l = [] then dn else pushL dn l
def dUn (un : List (List ChgD)) (l : List ChgD) : List (List ChgD) := if l = [] then un else []
structure Ok64 (dn un : List (List ChgD)) : Prop where
  len : dn.length + un.length ≤ 64
  d20 : ∀ l, l ∈ dn → l.length ≤ 4398046510976
  u20 : ∀ l, l ∈ un → l.length ≤ 4398046510976
theorem Ok64.len2d {dn un : List (List ChgD)} (h : Ok64 dn un) : Len2 dn := fun l hl => by have := h.d20 l hl; omega
theorem Ok64.len2u {dn un : List (List ChgD)} (h : Ok64 dn un) : Len2 un := fun l hl => by have := h.u20 l hl; omega
theorem Ok64.undo {dn un : List (List ChgD)} (h : Ok64 dn un) : Ok64 dn.dropLast (mv1 dn un) := by
  rcases List.eq_nil_or_concat dn with rfl | ⟨d, l, rfl⟩
  · simpa [mv1] using h
  · have h1 := h.len
    rw [List.concat_eq_append] at *
    simp only [List.length_append, List.length_cons, List.length_nil] at h1
    refine ⟨by simp [mv1]; omega, fun x hx => h.d20 x (by simp at hx ⊢; exact .inl hx), fun x hx => ?_⟩
    simp only [mv1, List.getLast?_append, List.getLast?_singleton, Option.some_or, List.mem_append, List.mem_singleton] at hx
    rcases hx with hx | rfl
    · exact h.u20 x hx
    · exact h.d20 x (by simp)
theorem Ok64.swap {dn un : List (List ChgD)} (h : Ok64 dn un) : Ok64 un dn := ⟨by have := h.len; omega, h.u20, h.d20⟩
theorem Ok64.redo {dn un : List (List ChgD)} (h : Ok64 dn un) : Ok64 (mv1 un dn) un.dropLast := h.swap.undo.swap
theorem Ok64.done {dn un : List (List ChgD)} (h : Ok64 dn un) {l : List ChgD} (hl : l.length ≤ 4398046510976) : Ok64 (dDn dn l) (dUn un l) := by
  unfold dDn dUn
  split
  · exact h
  · refine ⟨?_, fun x hx => ?_, fun x hx => by cases hx⟩
    · have := pushL_len (l := l) (dn := dn) (by have := h.len; omega)
      simpa using this
    · unfold pushL pushB at hx
      rw [List.mem_append, List.mem_singleton] at hx
      rcases hx with hx | rfl
      · refine h.d20 x ?_
        split at hx
        · exact List.mem_of_mem_drop hx
        · exact hx
      · exact hl
theorem ok64_nil : Ok64 [] [] := ⟨by simp, fun _ h => (by cases h), fun _ h => (by cases h)⟩
theorem takeUA_s (c0 : World) (F : HP) (gs : Nat) (dn un : List (List ChgD)) (a : Nat → Addr) : Spec Tryd.prog c0 20 #[.pointer (some ⟨gs, 0, none⟩)]
    (pu (ErrA F a ∧ Ok64 dn un) (stk gs dn un * F)) (fun r => ex fun b => ex fun e => pu (r = .tuple #[b, e]) (row 33 4 chg b (uL dn) * (RefP a (uO dn) e * (stk gs dn.dropLast (mv1 dn un) * F)))) := fun w hs => by
  obtain ⟨⟨hE, h64⟩, hs⟩ := hs.pu
  have hlen := h64.len
  rcases List.eq_nil_or_concat dn with rfl | ⟨d0, l, rfl⟩
  · refine (undoR_s c0 F gs un a w (hs.mono (ent_pu hE ent_refl))).mono fun x w' ⟨v, hx, h⟩ => ⟨v, hx, ?_⟩
    obtain ⟨e, h⟩ := h.ex
    obtain ⟨hv, h⟩ := h.pu
    exact h.mono (ent_ex _ (ent_ex e (ent_pu hv ent_row_nil)))
  · rw [List.concat_eq_append] at *
    have hl20 : l.length ≤ 4398046510976 := h64.d20 l (by simp)
    simp only [List.length_append, List.length_cons, List.length_nil] at hlen
    refine (undo_s c0 F gs d0 un l w (hs.mono (ent_pu ⟨by omega, by omega, by omega⟩ ent_refl))).mono fun x w' ⟨v, hx, h⟩ => ⟨v, hx, ?_⟩
    obtain ⟨b, h⟩ := h.ex
    obtain ⟨hv, h⟩ := h.pu
    simp only [uL, uO, mv1, List.getLast?_append, List.getLast?_singleton, Option.some_or, List.dropLast_concat] at h ⊢
    exact h.mono (ent_ex b (ent_ex _ (ent_pu hv (star_mono ent_refl (by unfold RefP; rw [pu_star]; exact ent_pu rfl (by rw [emp_star]; exact ent_refl))))))
theorem takeRA_s (c0 : World) (F : HP) (gs : Nat) (dn un : List (List ChgD)) (a : Nat → Addr) : Spec Tryd.prog c0 23 #[.pointer (some ⟨gs, 0, none⟩)]
    (pu (ErrA F a ∧ Ok64 dn un) (stk gs dn un * F)) (fun r => ex fun b => ex fun e => pu (r = .tuple #[b, e]) (row 33 4 chg b (rL un) * (RefP a (rO un) e * (stk gs (mv1 un dn) un.dropLast * F)))) := fun w hs => by
  obtain ⟨⟨hE, h64⟩, hs⟩ := hs.pu
  have hlen := h64.len
  rcases List.eq_nil_or_concat un with rfl | ⟨d0, l, rfl⟩
  · refine (redoR_s c0 F gs dn a w (hs.mono (ent_pu hE ent_refl))).mono fun x w' ⟨v, hx, h⟩ => ⟨v, hx, ?_⟩
    obtain ⟨e, h⟩ := h.ex
    obtain ⟨hv, h⟩ := h.pu
    exact h.mono (ent_ex _ (ent_ex e (ent_pu hv ent_row_nil)))
  · rw [List.concat_eq_append] at *
    have hl20 : l.length ≤ 4398046510976 := h64.u20 l (by simp)
    simp only [List.length_append, List.length_cons, List.length_nil] at hlen
    refine (redo_s c0 F gs dn d0 l w (hs.mono (ent_pu ⟨by omega, by omega, by omega⟩ ent_refl))).mono fun x w' ⟨v, hx, h⟩ => ⟨v, hx, ?_⟩
    obtain ⟨b, h⟩ := h.ex
    obtain ⟨hv, h⟩ := h.pu
    simp only [rL, rO, mv1, List.getLast?_append, List.getLast?_singleton, Option.some_or, List.dropLast_concat, show pushL dn l = dn ++ [l] from by unfold pushL pushB; rw [if_neg (by omega)]] at h ⊢
    exact h.mono (ent_ex b (ent_ex _ (ent_pu hv (star_mono ent_refl (by unfold RefP; rw [pu_star]; exact ent_pu rfl (by rw [emp_star]; exact ent_refl))))))
theorem peekUA_s (c0 : World) (F : HP) (gs : Nat) (dn un : List (List ChgD)) (a : Nat → Addr) : Spec Tryd.prog c0 46 #[.pointer (some ⟨gs, 0, none⟩), .bool false]
    (pu (ErrA F a ∧ Ok64 dn un) (stk gs dn un * F)) (fun r => ex fun b => ex fun e => pu (r = .tuple #[b, e]) (row 33 4 chg b (uL dn) * (RefP a (uO dn) e * (stk gs dn un * F)))) := fun w hs => by
  obtain ⟨⟨hE, h64⟩, hs⟩ := hs.pu
  have hlen := h64.len
  rcases List.eq_nil_or_concat dn with rfl | ⟨d0, l, rfl⟩
  · refine (peekU0_s c0 F gs un a w (hs.mono (ent_pu hE ent_refl))).mono fun x w' ⟨v, hx, h⟩ => ⟨v, hx, ?_⟩
    obtain ⟨b, h⟩ := h.ex
    obtain ⟨e, h⟩ := h.ex
    obtain ⟨hv, h⟩ := h.pu
    exact h.mono (ent_ex b (ent_ex e (ent_pu hv ent_refl)))
  · rw [List.concat_eq_append] at *
    have hl20 : l.length ≤ 4398046510976 := h64.d20 l (by simp)
    simp only [List.length_append, List.length_cons, List.length_nil] at hlen
    refine (peekU_s c0 F gs d0 un l w (hs.mono (ent_pu ⟨by omega, by omega, by omega⟩ ent_refl))).mono fun x w' ⟨v, hx, h⟩ => ⟨v, hx, ?_⟩
    obtain ⟨b, h⟩ := h.ex
    obtain ⟨hv, h⟩ := h.pu
    simp only [uL, uO, List.getLast?_append, List.getLast?_singleton, Option.some_or, List.dropLast_concat] at h ⊢
    exact h.mono (ent_ex b (ent_ex _ (ent_pu hv (star_mono ent_refl (by unfold RefP; rw [pu_star]; exact ent_pu rfl (by rw [emp_star]; exact ent_refl))))))
theorem peekRA_s (c0 : World) (F : HP) (gs : Nat) (dn un : List (List ChgD)) (a : Nat → Addr) : Spec Tryd.prog c0 46 #[.pointer (some ⟨gs, 0, none⟩), .bool true]
    (pu (ErrA F a ∧ Ok64 dn un) (stk gs dn un * F)) (fun r => ex fun b => ex fun e => pu (r = .tuple #[b, e]) (row 33 4 chg b (rL un) * (RefP a (rO un) e * (stk gs dn un * F)))) := fun w hs => by
  obtain ⟨⟨hE, h64⟩, hs⟩ := hs.pu
  have hlen := h64.len
  rcases List.eq_nil_or_concat un with rfl | ⟨d0, l, rfl⟩
  · refine (peekR0_s c0 F gs dn a w (hs.mono (ent_pu hE ent_refl))).mono fun x w' ⟨v, hx, h⟩ => ⟨v, hx, ?_⟩
    obtain ⟨b, h⟩ := h.ex
    obtain ⟨e, h⟩ := h.ex
    obtain ⟨hv, h⟩ := h.pu
    exact h.mono (ent_ex b (ent_ex e (ent_pu hv ent_refl)))
  · rw [List.concat_eq_append] at *
    have hl20 : l.length ≤ 4398046510976 := h64.u20 l (by simp)
    simp only [List.length_append, List.length_cons, List.length_nil] at hlen
    refine (peekR_s c0 F gs dn d0 l w (hs.mono (ent_pu ⟨by omega, by omega, by omega⟩ ent_refl))).mono fun x w' ⟨v, hx, h⟩ => ⟨v, hx, ?_⟩
    obtain ⟨b, h⟩ := h.ex
    obtain ⟨hv, h⟩ := h.pu
    simp only [rL, rO, List.getLast?_append, List.getLast?_singleton, Option.some_or, List.dropLast_concat] at h ⊢
    exact h.mono (ent_ex b (ent_ex _ (ent_pu hv (star_mono ent_refl (by unfold RefP; rw [pu_star]; exact ent_pu rfl (by rw [emp_star]; exact ent_refl))))))
theorem rtakeUA_s (c0 : World) (F : HP) (gs : Nat) (dn un : List (List ChgD)) (a : Nat → Addr) : Spec Tryd.prog c0 44 #[.pointer (some ⟨gs, 0, none⟩), .bool false]
    (pu (ErrA F a ∧ Ok64 dn un) (rstk gs dn un * F)) (fun r => ex fun b => ex fun e : NoD => pu (r = .tuple #[b, .agg (nov e)]) (row 33 4 chg b (uL dn) * (NoP (uO dn) e * (rstk gs dn.dropLast (mv1 dn un) * F)))) := fun w hs => by
  obtain ⟨⟨hE, h64⟩, hs⟩ := hs.pu
  have hlen := h64.len
  rcases List.eq_nil_or_concat dn with rfl | ⟨d0, l, rfl⟩
  · refine (rTakeU0_s c0 F gs un w (hs)).mono fun x w' ⟨v, hx, h⟩ => ⟨v, hx, ?_⟩
    obtain ⟨e, h⟩ := h.ex
    obtain ⟨hv, h⟩ := h.pu
    exact h.mono (ent_ex _ (ent_ex e (ent_pu hv ent_row_nil)))
  · rw [List.concat_eq_append] at *
    have hl20 : l.length ≤ 4398046510976 := h64.d20 l (by simp)
    simp only [List.length_append, List.length_cons, List.length_nil] at hlen
    refine (rTakeU_s c0 F gs d0 un l w (hs.mono (ent_pu ⟨by omega, by omega, by omega⟩ ent_refl))).mono fun x w' ⟨v, hx, h⟩ => ⟨v, hx, ?_⟩
    obtain ⟨b, h⟩ := h.ex
    obtain ⟨m, h⟩ := h.ex
    obtain ⟨⟨hv, hm⟩, h⟩ := h.pu
    simp only [uL, uO, mv1, List.getLast?_append, List.getLast?_singleton, Option.some_or, List.dropLast_concat, show pushL un l = un ++ [l] from by unfold pushL pushB; rw [if_neg (by omega)]] at h ⊢
    exact h.mono (ent_ex b (ent_ex m (ent_pu hv (star_mono ent_refl (by unfold NoP; rw [pu_star]; exact ent_pu hm (by rw [emp_star]; exact ent_refl))))))
theorem rtakeRA_s (c0 : World) (F : HP) (gs : Nat) (dn un : List (List ChgD)) (a : Nat → Addr) : Spec Tryd.prog c0 44 #[.pointer (some ⟨gs, 0, none⟩), .bool true]
    (pu (ErrA F a ∧ Ok64 dn un) (rstk gs dn un * F)) (fun r => ex fun b => ex fun e : NoD => pu (r = .tuple #[b, .agg (nov e)]) (row 33 4 chg b (rL un) * (NoP (rO un) e * (rstk gs (mv1 un dn) un.dropLast * F)))) := fun w hs => by
  obtain ⟨⟨hE, h64⟩, hs⟩ := hs.pu
  have hlen := h64.len
  rcases List.eq_nil_or_concat un with rfl | ⟨d0, l, rfl⟩
  · refine (rTakeR0_s c0 F gs dn w (hs)).mono fun x w' ⟨v, hx, h⟩ => ⟨v, hx, ?_⟩
    obtain ⟨e, h⟩ := h.ex
    obtain ⟨hv, h⟩ := h.pu
    exact h.mono (ent_ex _ (ent_ex e (ent_pu hv ent_row_nil)))
  · rw [List.concat_eq_append] at *
    have hl20 : l.length ≤ 4398046510976 := h64.u20 l (by simp)
    simp only [List.length_append, List.length_cons, List.length_nil] at hlen
    refine (rTakeR_s c0 F gs dn d0 l w (hs.mono (ent_pu ⟨by omega, by omega, by omega⟩ ent_refl))).mono fun x w' ⟨v, hx, h⟩ => ⟨v, hx, ?_⟩
    obtain ⟨b, h⟩ := h.ex
    obtain ⟨m, h⟩ := h.ex
    obtain ⟨⟨hv, hm⟩, h⟩ := h.pu
    simp only [rL, rO, mv1, List.getLast?_append, List.getLast?_singleton, Option.some_or, List.dropLast_concat, show pushL dn l = dn ++ [l] from by unfold pushL pushB; rw [if_neg (by omega)]] at h ⊢
    exact h.mono (ent_ex b (ent_ex m (ent_pu hv (star_mono ent_refl (by unfold NoP; rw [pu_star]; exact ent_pu hm (by rw [emp_star]; exact ent_refl))))))
theorem rpeekUA_s (c0 : World) (F : HP) (gs : Nat) (dn un : List (List ChgD)) (a : Nat → Addr) : Spec Tryd.prog c0 47 #[.pointer (some ⟨gs, 0, none⟩), .bool false]
    (pu (ErrA F a ∧ Ok64 dn un) (rstk gs dn un * F)) (fun r => ex fun b => ex fun e : NoD => pu (r = .tuple #[b, .agg (nov e)]) (row 33 4 chg b (uL dn) * (NoP (uO dn) e * (rstk gs dn un * F)))) := fun w hs => by
  obtain ⟨⟨hE, h64⟩, hs⟩ := hs.pu
  have hlen := h64.len
  rcases List.eq_nil_or_concat dn with rfl | ⟨d0, l, rfl⟩
  · refine (rPeekU0_s c0 F gs un w (hs)).mono fun x w' ⟨v, hx, h⟩ => ⟨v, hx, ?_⟩
    obtain ⟨e, h⟩ := h.ex
    obtain ⟨hv, h⟩ := h.pu
    exact h.mono (ent_ex _ (ent_ex e (ent_pu hv ent_row_nil)))
  · rw [List.concat_eq_append] at *
    have hl20 : l.length ≤ 4398046510976 := h64.d20 l (by simp)
    simp only [List.length_append, List.length_cons, List.length_nil] at hlen
    refine (rPeekU_s c0 F gs d0 un l w (hs.mono (ent_pu ⟨by omega, by omega, by omega⟩ ent_refl))).mono fun x w' ⟨v, hx, h⟩ => ⟨v, hx, ?_⟩
    obtain ⟨b, h⟩ := h.ex
    obtain ⟨m, h⟩ := h.ex
    obtain ⟨⟨hv, hm⟩, h⟩ := h.pu
    simp only [uL, uO, List.getLast?_append, List.getLast?_singleton, Option.some_or, List.dropLast_concat] at h ⊢
    exact h.mono (ent_ex b (ent_ex m (ent_pu hv (star_mono ent_refl (by unfold NoP; rw [pu_star]; exact ent_pu hm (by rw [emp_star]; exact ent_refl))))))
theorem rpeekRA_s (c0 : World) (F : HP) (gs : Nat) (dn un : List (List ChgD)) (a : Nat → Addr) : Spec Tryd.prog c0 47 #[.pointer (some ⟨gs, 0, none⟩), .bool true]
    (pu (ErrA F a ∧ Ok64 dn un) (rstk gs dn un * F)) (fun r => ex fun b => ex fun e : NoD => pu (r = .tuple #[b, .agg (nov e)]) (row 33 4 chg b (rL un) * (NoP (rO un) e * (rstk gs dn un * F)))) := fun w hs => by
  obtain ⟨⟨hE, h64⟩, hs⟩ := hs.pu
  have hlen := h64.len
  rcases List.eq_nil_or_concat un with rfl | ⟨d0, l, rfl⟩
  · refine (rPeekR0_s c0 F gs dn w (hs)).mono fun x w' ⟨v, hx, h⟩ => ⟨v, hx, ?_⟩
    obtain ⟨e, h⟩ := h.ex
    obtain ⟨hv, h⟩ := h.pu
    exact h.mono (ent_ex _ (ent_ex e (ent_pu hv ent_row_nil)))
  · rw [List.concat_eq_append] at *
    have hl20 : l.length ≤ 4398046510976 := h64.u20 l (by simp)
    simp only [List.length_append, List.length_cons, List.length_nil] at hlen
    refine (rPeekR_s c0 F gs dn d0 l w (hs.mono (ent_pu ⟨by omega, by omega, by omega⟩ ent_refl))).mono fun x w' ⟨v, hx, h⟩ => ⟨v, hx, ?_⟩
    obtain ⟨b, h⟩ := h.ex
    obtain ⟨m, h⟩ := h.ex
    obtain ⟨⟨hv, hm⟩, h⟩ := h.pu
    simp only [rL, rO, List.getLast?_append, List.getLast?_singleton, Option.some_or, List.dropLast_concat] at h ⊢
    exact h.mono (ent_ex b (ent_ex m (ent_pu hv (star_mono ent_refl (by unfold NoP; rw [pu_star]; exact ent_pu hm (by rw [emp_star]; exact ent_refl))))))
theorem doneA_s (c0 : World) (F : HP) (gs : Nat) (dn un : List (List ChgD)) (v : Value) (l : List ChgD) : Spec Tryd.prog c0 18 #[.pointer (some ⟨gs, 0, none⟩), v]
    (pu (SlR F 4 chg v l ∧ l.length ≤ 4398046510976 ∧ Ok64 dn un) (stk gs dn un * F)) (fun _ => stk gs (dDn dn l) (dUn un l) * F) := fun w hs => by
  obtain ⟨⟨hv, hl, h64⟩, hs2⟩ := hs.pu
  clear hs
  have hlen := h64.len
  by_cases h0 : l = []
  · subst h0
    exact done0_s c0 (stk gs dn un * F) gs v w (hs2.mono (ent_pu (slr_next hv) ent_refl))
  · have := List.length_pos_iff.2 h0
    unfold dDn dUn
    rw [if_neg h0, if_neg h0]
    exact done_s c0 F gs dn un v l w (hs2.mono (ent_pu ⟨hv, this, by omega, by omega⟩ ent_refl))
theorem rPushA_s (c0 : World) (F : HP) (gs : Nat) (dn un : List (List ChgD)) (v : Value) (l : List ChgD) : Spec Tryd.prog c0 43 #[.pointer (some ⟨gs, 0, none⟩), v]
    (pu (SlR F 4 chg v l ∧ l.length ≤ 4398046510976 ∧ Ok64 dn un) (rstk gs dn un * F)) (fun _ => rstk gs (dDn dn l) (dUn un l) * F) := fun w hs => by
  obtain ⟨⟨hv, hl, h64⟩, hs2⟩ := hs.pu
  clear hs
  have hlen := h64.len
  by_cases h0 : l = []
  · subst h0
    exact rPush0_s c0 (rstk gs dn un * F) gs v w (hs2.mono (ent_pu (slr_next hv) ent_refl))
  · have := List.length_pos_iff.2 h0
    unfold dDn dUn
    rw [if_neg h0, if_neg h0]
    exact rPush_s c0 F gs dn un v l w (hs2.mono (ent_pu ⟨hv, this, by omega, by omega⟩ ent_refl))
end Go.Proofs.YtflibhphpnajeaaDoor
