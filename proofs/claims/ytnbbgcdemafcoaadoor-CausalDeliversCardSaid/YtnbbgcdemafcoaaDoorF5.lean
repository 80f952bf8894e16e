/- What was lent is as it was. -/
import Derived.Test.YtnbbgcdemafcoaaDoorF4
set_option linter.unusedSimpArgs false
set_option linter.unusedVariables false
namespace Go.Proofs.YtnbbgcdemafcoaaDoor
open Go Go.RowKit

theorem marks_at (l : List ActD) (k : Nat) (h : k < 4) : (l ++ marks)[l.length + k]? = some (mk (k : Int)) := by
  rw [List.getElem?_append_right (by omega)]
  match k, h with
  | 0, _ => simp [marks]
  | 1, _ => simp [marks]
  | 2, _ => simp [marks]
  | 3, _ => simp [marks]
set_option maxHeartbeats 800000 in
set_option maxRecDepth 20000 in
theorem intact_s (c0 : World) (F : HP) (v : Value) (l : List ActD) (g c : Nat) : Spec Tryd.prog c0 20 #[.slice (some ⟨g, 0, none⟩) l.length c, v] (pu (SlR F 13 actv v l ∧ l.length ≤ 40) (lent g c l * F)) (fun r => pu (r = .bool true) F) := by
  intro w hq; obtain ⟨⟨hsl, h40⟩, hs⟩ := hq.pu; clear hq
  unfold lent at hs
  obtain ⟨hx, hc1, hc2⟩ := row_len hs.own
  clear hx
  obtain ⟨A, cp, rfl⟩ := slr_form hsl (hs.own.mono (by ((repeat (first | (with_reducible exact ent_refl) | (with_reducible exact ent_emp) | ((with_reducible apply ent_front); (focus ((repeat (first | (with_reducible exact ent_here) | (with_reducible apply ent_next) | (with_reducible exact ent_last))); done))) | (with_reducible exact ent_keep) | (with_reducible apply ent_trans ent_drop))); done)))
  have hel0 := marks_at l
  have htk : (l ++ marks).take l.length = l := by simp
  have hml := marks_len l
  generalize hM : l ++ marks = M at *
  generalize hn : l.length = n at *
  replace hn := Lib.hid hn
  replace hml := Lib.hid hml
  replace htk := Lib.hid htk
  unfold maxLen at hc2
  clear hM
  have hsl2 : ∀ R, SlR (row 35 13 actv (.slice (some ⟨g, 0, none⟩) (n + 4) c) M * R) 13 actv (.slice (some ⟨g, 0, none⟩) n c) l := fun R => slr_row_take actv_size (by omega) htk.out
  replace hel0 := Lib.hid hel0
  go_enter Tryd.func20, Tryd.ntmps20
  go_wp2_with (first
        | ((with_reducible apply pl_call hs (acts_s _ _ _ _ l)); (go_must (((focus (simp only [List.map_toArray, List.map_cons, List.map_nil, List.append_toArray, List.nil_append, List.cons_append, Act.eval, List.getD_eq_getElem?_getD, Array.getD_eq_getD_getElem?, List.getElem?_toArray, List.getElem?_cons_zero, List.getElem?_cons_succ, Option.getD_some]; (try with_reducible rfl); done)); (focus ((repeat (first | (with_reducible exact ent_refl) | (with_reducible apply ent_puR) | ((with_reducible apply ent_front); (focus ((repeat (first | (with_reducible exact ent_here) | (with_reducible apply ent_next) | (with_reducible exact ent_last))); done))) | (with_reducible exact ent_keep) | (with_reducible apply ent_trans ent_drop) | (focus (first | (with_reducible assumption) | (focus ((repeat (first | (with_reducible assumption) | (with_reducible exact hsl _) | (with_reducible exact hsl2 _) | (with_reducible exact hsl3 _ _ _) | (with_reducible exact slr_nil) | (with_reducible exact slr_row (fun _ => by simp only [go_sem])) | ((with_reducible apply slr_left); (with_reducible assumption)) | (with_reducible refine slr_exh (by with_reducible assumption) ?_) | (with_reducible refine slr_exh0 (by with_reducible assumption) ?_) | (with_reducible apply slr_next))); done)) | ((repeat' (first | (with_reducible assumption) | (with_reducible apply And.intro) | omega | (focus ((repeat (first | (with_reducible assumption) | (with_reducible exact hsl _) | (with_reducible exact hsl2 _) | (with_reducible exact hsl3 _ _ _) | (with_reducible exact slr_nil) | (with_reducible exact slr_row (fun _ => by simp only [go_sem])) | ((with_reducible apply slr_left); (with_reducible assumption)) | (with_reducible refine slr_exh (by with_reducible assumption) ?_) | (with_reducible refine slr_exh0 (by with_reducible assumption) ?_) | (with_reducible apply slr_next))); done)) | (simp; done) | (simp; omega))); done) | (with_reducible rfl) | omega | go_size | (simp [go_sem]; done))))); done)); (focus (simp only [go_sem]))))); clear hs; (try clear w); intro v w hq; (obtain ⟨rfl, hs⟩ := hq.pu); clear hq; (try simp only [star_assoc, star_emp, emp_star] at hs); simp only [Act.put, List.setIfInBounds_toArray, List.set_cons_zero, List.set_cons_succ]))
  go_loopw [6, 7] (fun u i wr => ∃ k : Nat, k ≤ 4 ∧ i = .int .i64 k ∧ u = .bool true ∧ Sat c0 (row 35 13 actv (.slice (some ⟨g, 0, none⟩) (n + 4) c) M * F) wr) (fun _ i _ => 4 - (intOf i).toNat)
  case atStart => exact ⟨0, by omega, rfl, rfl, hs⟩
  case round =>
    obtain ⟨k, hk, rfl, rfl, hs⟩ := hrel
    by_cases hlt : k < 4
    · have hel : ∀ R, Reads (row 35 13 actv (.slice (some ⟨g, 0, none⟩) (n + 4) c) M * R) g ((n + k) * 13) 13 (actv (mk k)) := fun R => reads_row actv_size (hel0.out k hlt)
      have hee := actEq_refl (mk k)
      have hx1 : (0 : Int) ≤ (n : Int) + (k : Int) := by omega
      have hx2 : ((n : Int) + (k : Int)).toNat = n + k := by omega
      have hx3 : ((n : Int) + (k : Int) < (n : Int) + 4) := by omega
      go_wp2_with (first
        | ((with_reducible apply wp_region_sl (G := emp) (id := 6) hs 1000); (focus (exact ent_emp_l)); (focus kernel_rfl); (focus decide +kernel); clear hs; (try clear w); intro hR w hRR hs; (try simp only [star_assoc] at hs))
        | ((with_reducible apply mx_call hs (kact_s _ _ _)); (go_must (((focus (simp only [List.map_toArray, List.map_cons, List.map_nil, List.append_toArray, List.nil_append, List.cons_append, Act.eval, List.getD_eq_getElem?_getD, Array.getD_eq_getD_getElem?, List.getElem?_toArray, List.getElem?_cons_zero, List.getElem?_cons_succ, Option.getD_some]; (try with_reducible rfl); done)); (focus ((repeat (first | (with_reducible exact ent_refl) | (with_reducible apply ent_puR) | ((with_reducible apply ent_front); (focus ((repeat (first | (with_reducible exact ent_here) | (with_reducible apply ent_next) | (with_reducible exact ent_last))); done))) | (with_reducible exact ent_keep) | (with_reducible apply ent_trans ent_drop) | (focus (first | (with_reducible assumption) | (focus ((repeat (first | (with_reducible assumption) | (with_reducible exact hsl _) | (with_reducible exact hsl2 _) | (with_reducible exact hsl3 _ _ _) | (with_reducible exact slr_nil) | (with_reducible exact slr_row (fun _ => by simp only [go_sem])) | ((with_reducible apply slr_left); (with_reducible assumption)) | (with_reducible refine slr_exh (by with_reducible assumption) ?_) | (with_reducible refine slr_exh0 (by with_reducible assumption) ?_) | (with_reducible apply slr_next))); done)) | ((repeat' (first | (with_reducible assumption) | (with_reducible apply And.intro) | omega | (focus ((repeat (first | (with_reducible assumption) | (with_reducible exact hsl _) | (with_reducible exact hsl2 _) | (with_reducible exact hsl3 _ _ _) | (with_reducible exact slr_nil) | (with_reducible exact slr_row (fun _ => by simp only [go_sem])) | ((with_reducible apply slr_left); (with_reducible assumption)) | (with_reducible refine slr_exh (by with_reducible assumption) ?_) | (with_reducible refine slr_exh0 (by with_reducible assumption) ?_) | (with_reducible apply slr_next))); done)) | (simp; done) | (simp; omega))); done) | (with_reducible rfl) | omega | go_size | (simp [go_sem]; done))))); done)); (focus (simp only [go_sem])); (focus (intros; (with_reducible refine in_of_sat (by assumption) ?_); (repeat (first | (with_reducible exact ent_exh_here) | (with_reducible exact ent_last) | (with_reducible refine ent_pu_l (fun _ => ?_)) | (with_reducible refine ent_ex_l (fun _ => ?_)) | (with_reducible apply ent_exh_next))); done))))); clear hs; (try clear w); intro v w hq; (obtain ⟨rfl, hs⟩ := hq.pu); clear hq; (try simp only [star_assoc, star_emp, emp_star] at hs); simp only [Act.put, List.setIfInBounds_toArray, List.set_cons_zero, List.set_cons_succ])
        | ((with_reducible apply mix_end hRR hs); (focus ((repeat (first | (with_reducible exact ent_here) | (with_reducible apply ent_next) | (with_reducible exact ent_last))); done)); clear hs; (try clear w); intro w hs; (try simp only [star_assoc, star_emp, emp_star] at hs); clear hRR hR)
        | ((with_reducible apply mx_strike); (focus rfl))
        | ((with_reducible apply mx_loadN hRR); (focus (simp only [Act.eval, List.getD_eq_getElem?_getD, Array.getD_eq_getD_getElem?, List.getElem?_toArray, List.getElem?_cons_zero, List.getElem?_cons_succ, Option.getD_some]; (try with_reducible rfl); done)); (first | (with_reducible exact agg_35)); (focus ((repeat (first | (with_reducible assumption) | (with_reducible exact hel _) | (with_reducible exact hel2 _) | ((with_reducible apply reads_whole); (focus (first | (with_reducible rfl) | (simp only [go_sem]; done) | (simp; done)))) | ((with_reducible apply reads_part); (focus (first | (simp [go_sem]; done) | (simp only [go_sem]; omega) | go_size)); (focus (first | (simp only [Nat.reduceAdd, Nat.zero_add, go_sem]; (try with_reducible rfl); done) | (simp [go_sem]; (try with_reducible rfl); done)))) | ((with_reducible apply reads_left); (with_reducible assumption)) | (with_reducible refine reads_exh (by with_reducible assumption) ?_) | (with_reducible refine reads_exh0 (by with_reducible assumption) ?_) | (with_reducible apply reads_next))); done)); simp only [Act.put, List.setIfInBounds_toArray, List.set_cons_zero, List.set_cons_succ])
        | ((with_reducible refine mix_float ?_ ?_ ?_ (fun h hk => ?_) ?_); rotate_left 1; (focus rfl); (focus rfl); (focus (go_simp; (try simp (disch := omega) only [IntWalk.i64_in, IntWalk.i32_in]); (try with_reducible rfl); done)); simp only [Act.put, List.setIfInBounds_toArray, List.set_cons_zero, List.set_cons_succ]))
      go_roundw
      case rel => exact ⟨k + 1, by omega, by go_num, rfl, hs.mono (by ((repeat (first | (with_reducible exact ent_refl) | (with_reducible exact ent_emp) | ((with_reducible apply ent_front); (focus ((repeat (first | (with_reducible exact ent_here) | (with_reducible apply ent_next) | (with_reducible exact ent_last))); done))) | (with_reducible exact ent_keep) | (with_reducible apply ent_trans ent_drop))); done))⟩
      case measure => simp [intOf]; omega
    · go_wp2_with fail
      go_loopw [8] (fun i wr => ∃ (k : Nat) (M' : List ActD), k ≤ n + 4 ∧ i = .int .i64 k ∧ Hid (M'.length = n + 4) ∧ Sat c0 (row 35 13 actv (.slice (some ⟨g, 0, none⟩) (n + 4) c) M' * F) wr) (fun i _ => n + 4 - (intOf i).toNat)
      case atStart => exact ⟨0, M, by omega, rfl, hml, hs⟩
      case round =>
        obtain ⟨k2, M', hk2, rfl, hM', hs⟩ := hrel
        by_cases hlt2 : k2 < n + 4
        · have hkl : k2 < M'.length := by rw [hM'.out]; exact hlt2
          go_wp2_with (first
        | ((with_reducible apply pl_call hs (kact_s _ _ _)); (go_must (((focus (simp only [List.map_toArray, List.map_cons, List.map_nil, List.append_toArray, List.nil_append, List.cons_append, Act.eval, List.getD_eq_getElem?_getD, Array.getD_eq_getD_getElem?, List.getElem?_toArray, List.getElem?_cons_zero, List.getElem?_cons_succ, Option.getD_some]; (try with_reducible rfl); done)); (focus ((repeat (first | (with_reducible exact ent_refl) | (with_reducible apply ent_puR) | ((with_reducible apply ent_front); (focus ((repeat (first | (with_reducible exact ent_here) | (with_reducible apply ent_next) | (with_reducible exact ent_last))); done))) | (with_reducible exact ent_keep) | (with_reducible apply ent_trans ent_drop) | (focus (first | (with_reducible assumption) | (focus ((repeat (first | (with_reducible assumption) | (with_reducible exact hsl _) | (with_reducible exact hsl2 _) | (with_reducible exact hsl3 _ _ _) | (with_reducible exact slr_nil) | (with_reducible exact slr_row (fun _ => by simp only [go_sem])) | ((with_reducible apply slr_left); (with_reducible assumption)) | (with_reducible refine slr_exh (by with_reducible assumption) ?_) | (with_reducible refine slr_exh0 (by with_reducible assumption) ?_) | (with_reducible apply slr_next))); done)) | ((repeat' (first | (with_reducible assumption) | (with_reducible apply And.intro) | omega | (focus ((repeat (first | (with_reducible assumption) | (with_reducible exact hsl _) | (with_reducible exact hsl2 _) | (with_reducible exact hsl3 _ _ _) | (with_reducible exact slr_nil) | (with_reducible exact slr_row (fun _ => by simp only [go_sem])) | ((with_reducible apply slr_left); (with_reducible assumption)) | (with_reducible refine slr_exh (by with_reducible assumption) ?_) | (with_reducible refine slr_exh0 (by with_reducible assumption) ?_) | (with_reducible apply slr_next))); done)) | (simp; done) | (simp; omega))); done) | (with_reducible rfl) | omega | go_size | (simp [go_sem]; done))))); done)); (focus (simp only [go_sem]))))); clear hs; (try clear w); intro v w hq; (obtain ⟨rfl, hs⟩ := hq.pu); clear hq; (try simp only [star_assoc, star_emp, emp_star] at hs); simp only [Act.put, List.setIfInBounds_toArray, List.set_cons_zero, List.set_cons_succ])
        | ((with_reducible apply pl_storeRow hs); (focus (simp only [Act.eval, List.getD_eq_getElem?_getD, Array.getD_eq_getD_getElem?, List.getElem?_toArray, List.getElem?_cons_zero, List.getElem?_cons_succ, Option.getD_some]; (try with_reducible rfl); done)); (focus ((repeat (first | (with_reducible exact ent_here) | (with_reducible apply ent_next) | (with_reducible exact ent_last))); done)); (focus (simp only [Act.eval, List.getD_eq_getElem?_getD, Array.getD_eq_getD_getElem?, List.getElem?_toArray, List.getElem?_cons_zero, List.getElem?_cons_succ, Option.getD_some]; (try with_reducible rfl); done)); (first | (with_reducible exact agg_35)); (focus (first | (with_reducible rfl) | (simp; done))); (focus (first | omega | (simp [go_sem]; omega) | (simp only [go_sem]; omega))); (focus (intro _; simp only [go_sem])); (focus (intro _; simp only [go_sem])); clear hs; (try clear w); intro w hs; skip; simp only [Act.put, List.setIfInBounds_toArray, List.set_cons_zero, List.set_cons_succ]))
          go_roundw
          case rel => exact ⟨k2 + 1, _, by omega, by go_num, (by unfold Hid; rw [List.length_set]; exact hM'.out), hs⟩
          case measure => simp [intOf]; omega
        · go_wp2_with fail
          (go_ret; simp only [List.getD_eq_getElem?_getD, Array.getD_eq_getD_getElem?, List.getElem?_toArray, List.getElem?_cons_zero, List.getElem?_cons_succ, Option.getD_some])
          exact ⟨_, rfl, hs.mono (ent_pu rfl (by ((repeat (first | (with_reducible exact ent_refl) | (with_reducible exact ent_emp) | ((with_reducible apply ent_front); (focus ((repeat (first | (with_reducible exact ent_here) | (with_reducible apply ent_next) | (with_reducible exact ent_last))); done))) | (with_reducible exact ent_keep) | (with_reducible apply ent_trans ent_drop))); done)))⟩
end Go.Proofs.YtnbbgcdemafcoaaDoor
