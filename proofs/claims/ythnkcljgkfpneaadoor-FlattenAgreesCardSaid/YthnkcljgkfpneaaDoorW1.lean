/- Clocks: who covers whom; votes. -/
import Derived.Test.YthnkcljgkfpneaaDoorT0
set_option linter.unusedSimpArgs false
set_option linter.unusedVariables false
namespace Go.Proofs.YthnkcljgkfpneaaDoor
open Go Go.RowKit

def Cov (c d : Nat → Int) : Prop := ∀ i, i < 8 → d i ≤ c i
instance (c d : Nat → Int) : Decidable (Cov c d) := by unfold Cov; infer_instance
def covB (c d : Nat → Int) : Bool := decide (Cov c d)
theorem cov_s (c0 : World) (F : HP) (c d : Nat → Int) : Spec Tryd.prog c0 53 #[.agg (clk c), .agg (clk d)] F (fun v => pu (v = .bool (covB c d)) F) := by
  intro w hs
  go_enter Tryd.func53, Tryd.ntmps53
  go_wp2_with (first
        | ((with_reducible apply pl_loadN hs); (focus (simp only [Act.eval, List.getD_eq_getElem?_getD, Array.getD_eq_getD_getElem?, List.getElem?_toArray, List.getElem?_cons_zero, List.getElem?_cons_succ, Option.getD_some]; (try with_reducible rfl); done)); (first | (with_reducible exact agg_23)); (focus ((repeat (first | (with_reducible assumption) | (with_reducible exact hel _) | (with_reducible exact hel2 _) | (with_reducible exact hel3 _) | ((with_reducible apply reads_whole); (focus (first | (with_reducible rfl) | (simp only [go_sem]; done) | (simp; done)))) | ((with_reducible apply reads_part); (focus (first | (simp [go_sem]; done) | (simp only [go_sem]; omega) | go_size)); (focus (first | (simp only [Nat.reduceAdd, Nat.zero_add, go_sem]; (try with_reducible rfl); done) | (simp [go_sem]; (try with_reducible rfl); done)))) | ((with_reducible apply reads_left); (with_reducible assumption)) | (with_reducible refine reads_exh (by with_reducible assumption) ?_) | (with_reducible refine reads_exh0 (by with_reducible assumption) ?_) | (with_reducible apply reads_next))); done)); (focus rfl); simp only [Act.put, List.setIfInBounds_toArray, List.set_cons_zero, List.set_cons_succ])
        | ((with_reducible apply pl_box hs); (focus (simp only [Act.eval, List.getD_eq_getElem?_getD, Array.getD_eq_getD_getElem?, List.getElem?_toArray, List.getElem?_cons_zero, List.getElem?_cons_succ, Option.getD_some]; (try with_reducible rfl); done)); (focus (first | (with_reducible exact cells_intv _) | (with_reducible exact cells_ptv _) | (with_reducible exact cells_agg _) | (with_reducible exact cells_int _ _) | (with_reducible exact cells_bool _) | (with_reducible exact cells_string _) | (with_reducible exact cells_slice _ _ _) | (with_reducible exact cells_pointer _) | (with_reducible exact cells_map _) | (with_reducible exact cells_iface _ _) | (with_reducible exact cells_nilIface) | (with_reducible exact cells_func _ _ _) | (exact cells_one (by assumption)))); clear hs; (try clear w); intro g w hs; skip; simp only [Act.put, List.setIfInBounds_toArray, List.set_cons_zero, List.set_cons_succ]))
  obtain ⟨H1, hH1, hq⟩ := Sat.name hs; clear hs; have hs := hq; clear hq
  go_loopw [8] (fun i wr => ∃ k : Nat, k ≤ 8 ∧ (∀ j, j < k → d j ≤ c j) ∧ i = .int .i64 k ∧ Sat c0 H1 wr) (fun i _ => 8 - (intOf i).toNat)
  case atStart => exact ⟨0, by omega, by omega, rfl, hs⟩
  case round =>
    obtain ⟨k, hk, hall, rfl, hs⟩ := hrel
    replace hall := Lib.hid hall
    by_cases hlt : k < 8
    · subst hH1
      go_wp2_with (first
        | ((with_reducible apply pl_load1 hs); (focus (simp only [Act.eval, List.getD_eq_getElem?_getD, Array.getD_eq_getD_getElem?, List.getElem?_toArray, List.getElem?_cons_zero, List.getElem?_cons_succ, Option.getD_some]; (try with_reducible rfl); done)); (focus (simp only [go_sem])); (focus ((repeat (first | (with_reducible assumption) | (with_reducible exact hec _) | (with_reducible exact hec2 _) | (with_reducible exact hec3 _) | (with_reducible exact hec4 _ _) | ((with_reducible apply readc_here); (focus (first | (simp only [List.getElem?_toArray, List.getElem?_cons_zero, List.getElem?_cons_succ, go_sem]; (try with_reducible rfl); done) | (go_simp; (try with_reducible rfl); done)))) | ((with_reducible apply readc_left); (with_reducible assumption)) | (with_reducible refine readc_exh (by with_reducible assumption) ?_) | (with_reducible refine readc_exh0 (by with_reducible assumption) ?_) | (with_reducible apply readc_next))); done)); (focus rfl); simp only [Act.put, List.setIfInBounds_toArray, List.set_cons_zero, List.set_cons_succ]))
      · go_ret
        refine ⟨_, rfl, hs.mono (ent_pu ?_ ?_)⟩
        · exact congrArg Value.bool (decide_eq_false (fun h => by have := h k hlt; omega)).symm
        · ((repeat (first | (with_reducible exact ent_refl) | (with_reducible exact ent_emp) | ((with_reducible apply ent_front); (focus ((repeat (first | (with_reducible exact ent_here) | (with_reducible apply ent_next) | (with_reducible exact ent_last))); done))) | (with_reducible exact ent_keep) | (with_reducible apply ent_trans ent_drop))); done)
      · go_roundw
        case rel => exact ⟨k + 1, by omega, fun j hj => by
          rcases Nat.lt_or_eq_of_le (Nat.le_of_lt_succ hj) with h | h
          · exact hall.out j h
          · subst h; assumption, by go_num, hs⟩
        case measure => simp [intOf]; omega
    · subst hH1
      go_wp2_with fail
      go_ret
      refine ⟨_, rfl, hs.mono (ent_pu ?_ ?_)⟩
      · exact congrArg Value.bool (decide_eq_true (fun i hi => hall.out i (by omega))).symm
      · ((repeat (first | (with_reducible exact ent_refl) | (with_reducible exact ent_emp) | ((with_reducible apply ent_front); (focus ((repeat (first | (with_reducible exact ent_here) | (with_reducible apply ent_next) | (with_reducible exact ent_last))); done))) | (with_reducible exact ent_keep) | (with_reducible apply ent_trans ent_drop))); done)
theorem rcov_s (c0 : World) (F : HP) (c d : Nat → Int) : Spec Tryd.prog c0 30 #[.agg (clk c), .agg (clk d)] F (fun v => pu (v = .bool (covB c d)) F) := by
  intro w hs
  go_enter Tryd.func30, Tryd.ntmps30
  go_wp2_with (first
        | ((with_reducible apply pl_box hs); (focus (simp only [Act.eval, List.getD_eq_getElem?_getD, Array.getD_eq_getD_getElem?, List.getElem?_toArray, List.getElem?_cons_zero, List.getElem?_cons_succ, Option.getD_some]; (try with_reducible rfl); done)); (focus (first | (with_reducible exact cells_intv _) | (with_reducible exact cells_ptv _) | (with_reducible exact cells_agg _) | (with_reducible exact cells_int _ _) | (with_reducible exact cells_bool _) | (with_reducible exact cells_string _) | (with_reducible exact cells_slice _ _ _) | (with_reducible exact cells_pointer _) | (with_reducible exact cells_map _) | (with_reducible exact cells_iface _ _) | (with_reducible exact cells_nilIface) | (with_reducible exact cells_func _ _ _) | (exact cells_one (by assumption)))); clear hs; (try clear w); intro g w hs; skip; simp only [Act.put, List.setIfInBounds_toArray, List.set_cons_zero, List.set_cons_succ]))
  obtain ⟨H1, hH1, hq⟩ := Sat.name hs; clear hs; have hs := hq; clear hq
  go_loopw [5] (fun i wr => ∃ k : Nat, k ≤ 8 ∧ (∀ j, j < k → d j ≤ c j) ∧ i = .int .i64 k ∧ Sat c0 H1 wr) (fun i _ => 8 - (intOf i).toNat)
  case atStart => exact ⟨0, by omega, by omega, rfl, hs⟩
  case round =>
    obtain ⟨k, hk, hall, rfl, hs⟩ := hrel
    replace hall := Lib.hid hall
    by_cases hlt : k < 8
    · subst hH1
      go_wp2_with (first
        | ((with_reducible apply wp_region_sl (G := emp) (id := 4) hs 1000); (focus (exact ent_emp_l)); (focus kernel_rfl); (focus decide +kernel); clear hs; (try clear w); intro hR w hRR hs; (try simp only [star_assoc] at hs))
        | ((with_reducible apply mix_end hRR hs); (focus ((repeat (first | (with_reducible exact ent_here) | (with_reducible apply ent_next) | (with_reducible exact ent_last))); done)); clear hs; (try clear w); intro w hs; (try simp only [star_assoc, star_emp, emp_star] at hs); clear hRR hR)
        | ((with_reducible apply mx_load1 hRR); (focus (simp only [Act.eval, List.getD_eq_getElem?_getD, Array.getD_eq_getD_getElem?, List.getElem?_toArray, List.getElem?_cons_zero, List.getElem?_cons_succ, Option.getD_some]; (try with_reducible rfl); done)); (focus (simp only [go_sem])); (focus ((repeat (first | (with_reducible assumption) | (with_reducible exact hec _) | (with_reducible exact hec2 _) | (with_reducible exact hec3 _) | (with_reducible exact hec4 _ _) | ((with_reducible apply readc_here); (focus (first | (simp only [List.getElem?_toArray, List.getElem?_cons_zero, List.getElem?_cons_succ, go_sem]; (try with_reducible rfl); done) | (go_simp; (try with_reducible rfl); done)))) | ((with_reducible apply readc_left); (with_reducible assumption)) | (with_reducible refine readc_exh (by with_reducible assumption) ?_) | (with_reducible refine readc_exh0 (by with_reducible assumption) ?_) | (with_reducible apply readc_next))); done)); simp only [Act.put, List.setIfInBounds_toArray, List.set_cons_zero, List.set_cons_succ])
        | ((with_reducible refine mix_float ?_ ?_ ?_ (fun h hk => ?_) ?_); rotate_left 1; (focus rfl); (focus rfl); (focus (go_simp; (try (rw [if_pos (by omega)]; (try go_simp))); (try simp (disch := omega) only [IntWalk.i64_in, IntWalk.i32_in]); (try with_reducible rfl); done)); simp only [Act.put, List.setIfInBounds_toArray, List.set_cons_zero, List.set_cons_succ]))
      · go_ret
        refine ⟨_, rfl, hs.mono (ent_pu ?_ ?_)⟩
        · exact congrArg Value.bool (decide_eq_false (fun h => by have := h k hlt; omega)).symm
        · ((repeat (first | (with_reducible exact ent_refl) | (with_reducible exact ent_emp) | ((with_reducible apply ent_front); (focus ((repeat (first | (with_reducible exact ent_here) | (with_reducible apply ent_next) | (with_reducible exact ent_last))); done))) | (with_reducible exact ent_keep) | (with_reducible apply ent_trans ent_drop))); done)
      · go_roundw
        case rel => exact ⟨k + 1, by omega, fun j hj => by
          rcases Nat.lt_or_eq_of_le (Nat.le_of_lt_succ hj) with h | h
          · exact hall.out j h
          · subst h; assumption, by go_num, hs⟩
        case measure => simp [intOf]; omega
    · subst hH1
      go_wp2_with fail
      go_ret
      refine ⟨_, rfl, hs.mono (ent_pu ?_ ?_)⟩
      · exact congrArg Value.bool (decide_eq_true (fun i hi => hall.out i (by omega))).symm
      · ((repeat (first | (with_reducible exact ent_refl) | (with_reducible exact ent_emp) | ((with_reducible apply ent_front); (focus ((repeat (first | (with_reducible exact ent_here) | (with_reducible apply ent_next) | (with_reducible exact ent_last))); done))) | (with_reducible exact ent_keep) | (with_reducible apply ent_trans ent_drop))); done)


/-- How two clocks stand to each other. -/
def cmpV (c d : Nat → Int) : Int := if clkEq c d then 0 else if covB d c then 1 else if covB c d then 2 else 3
set_option maxRecDepth 20000 in
set_option maxHeartbeats 1000000 in
theorem cmp_s (c0 : World) (F : HP) (c d : Nat → Int) : Spec Tryd.prog c0 29 #[.agg (clk c), .agg (clk d)] F (fun v => pu (v = .int .i64 (cmpV c d)) F) := by
  intro w hs
  cases h1 : clkEq c d <;> cases h2 : covB d c <;> cases h3 : covB c d
  all_goals
    have hv : cmpV c d = cmpV c d := rfl
    conv at hv => rhs; unfold cmpV; rw [h1, h2, h3]; simp
    rw [hv]
    clear hv
    go_enter Tryd.func29, Tryd.ntmps29
    go_wp2_with (first
        | ((with_reducible apply pl_call hs (cov_s _ _ _ _)); (go_must (((focus (simp only [List.map_toArray, List.map_cons, List.map_nil, List.append_toArray, List.nil_append, List.cons_append, Act.eval, List.getD_eq_getElem?_getD, Array.getD_eq_getD_getElem?, List.getElem?_toArray, List.getElem?_cons_zero, List.getElem?_cons_succ, Option.getD_some]; (try with_reducible rfl); done)); (focus ((repeat (first | (with_reducible exact ent_refl) | (with_reducible apply ent_puR) | ((with_reducible apply ent_front); (focus ((repeat (first | (with_reducible exact ent_here) | (with_reducible apply ent_next) | (with_reducible exact ent_last))); done))) | (with_reducible exact ent_keep) | (with_reducible apply ent_trans ent_drop) | (fail))); done)); (focus (simp only [go_sem]))))); clear hs; (try clear w); intro v w hq; (obtain ⟨hv, hs⟩ := hq.pu; (try rw [h2] at hv); (try rw [h3] at hv); subst hv); clear hq; (try simp only [star_assoc, star_emp, emp_star] at hs); (try simp only [Act.put, List.setIfInBounds_toArray, List.set_cons_zero, List.set_cons_succ]))
        | ((with_reducible apply pl_loadN hs); (focus (simp only [Act.eval, List.getD_eq_getElem?_getD, Array.getD_eq_getD_getElem?, List.getElem?_toArray, List.getElem?_cons_zero, List.getElem?_cons_succ, Option.getD_some]; (try with_reducible rfl); done)); (first | (with_reducible exact agg_23)); (focus ((repeat (first | (with_reducible assumption) | (with_reducible exact hel _) | (with_reducible exact hel2 _) | (with_reducible exact hel3 _) | ((with_reducible apply reads_whole); (focus (first | (with_reducible rfl) | (simp only [go_sem]; done) | (simp; done)))) | ((with_reducible apply reads_part); (focus (first | (simp [go_sem]; done) | (simp only [go_sem]; omega) | go_size)); (focus (first | (simp only [Nat.reduceAdd, Nat.zero_add, go_sem]; (try with_reducible rfl); done) | (simp [go_sem]; (try with_reducible rfl); done)))) | ((with_reducible apply reads_left); (with_reducible assumption)) | (with_reducible refine reads_exh (by with_reducible assumption) ?_) | (with_reducible refine reads_exh0 (by with_reducible assumption) ?_) | (with_reducible apply reads_next))); done)); (focus rfl); simp only [Act.put, List.setIfInBounds_toArray, List.set_cons_zero, List.set_cons_succ])
        | ((with_reducible apply pl_box hs); (focus (simp only [Act.eval, List.getD_eq_getElem?_getD, Array.getD_eq_getD_getElem?, List.getElem?_toArray, List.getElem?_cons_zero, List.getElem?_cons_succ, Option.getD_some]; (try with_reducible rfl); done)); (focus (first | (with_reducible exact cells_intv _) | (with_reducible exact cells_ptv _) | (with_reducible exact cells_agg _) | (with_reducible exact cells_int _ _) | (with_reducible exact cells_bool _) | (with_reducible exact cells_string _) | (with_reducible exact cells_slice _ _ _) | (with_reducible exact cells_pointer _) | (with_reducible exact cells_map _) | (with_reducible exact cells_iface _ _) | (with_reducible exact cells_nilIface) | (with_reducible exact cells_func _ _ _) | (exact cells_one (by assumption)))); clear hs; (try clear w); intro g w hs; skip; simp only [Act.put, List.setIfInBounds_toArray, List.set_cons_zero, List.set_cons_succ]))
    (go_ret; simp only [List.getD_eq_getElem?_getD, Array.getD_eq_getD_getElem?, List.getElem?_toArray, List.getElem?_cons_zero, List.getElem?_cons_succ, Option.getD_some])
    exact ⟨_, rfl, hs.mono (ent_pu rfl (by ((repeat (first | (with_reducible exact ent_refl) | (with_reducible exact ent_emp) | ((with_reducible apply ent_front); (focus ((repeat (first | (with_reducible exact ent_here) | (with_reducible apply ent_next) | (with_reducible exact ent_last))); done))) | (with_reducible exact ent_keep) | (with_reducible apply ent_trans ent_drop))); done)))⟩
/-- What a site says of a cut. -/
def voteV (cut have_ : Nat → Int) : Int := if clkEq cut have_ then 1 else if covB cut have_ then 0 else 2
theorem clkEq_comm (c d : Nat → Int) : clkEq c d = clkEq d c := by
  unfold clkEq
  rw [Bool.eq_iff_iff]
  simp only [Bool.and_eq_true, beq_iff_eq]
  constructor <;> (rintro ⟨a, b, c, d, e, f, g, h⟩; exact ⟨a.symm, b.symm, c.symm, d.symm, e.symm, f.symm, g.symm, h.symm⟩)
set_option maxRecDepth 20000 in
set_option maxHeartbeats 1000000 in
theorem vote_s (c0 : World) (F : HP) (c d : Nat → Int) : Spec Tryd.prog c0 10 #[.agg (clk c), .agg (clk d)] F (fun v => pu (v = .int .i64 (voteV c d)) F) := by
  intro w hs
  cases h1 : clkEq c d <;> cases h2 : covB c d <;> cases h3 : covB d c
  all_goals
    have hw : cmpV d c = cmpV d c := rfl
    conv at hw => rhs; unfold cmpV; rw [clkEq_comm d c, h1, h2, h3]; simp
    have hv : voteV c d = voteV c d := rfl
    conv at hv => rhs; unfold voteV; rw [h1, h2]; simp
    rw [hv]
    clear hv
    replace hw := Lib.hid hw
    go_enter Tryd.func10, Tryd.ntmps10
    go_wp2_with (first
        | ((with_reducible apply pl_call hs (cmp_s _ _ _ _)); (go_must (((focus (simp only [List.map_toArray, List.map_cons, List.map_nil, List.append_toArray, List.nil_append, List.cons_append, Act.eval, List.getD_eq_getElem?_getD, Array.getD_eq_getD_getElem?, List.getElem?_toArray, List.getElem?_cons_zero, List.getElem?_cons_succ, Option.getD_some]; (try with_reducible rfl); done)); (focus ((repeat (first | (with_reducible exact ent_refl) | (with_reducible apply ent_puR) | ((with_reducible apply ent_front); (focus ((repeat (first | (with_reducible exact ent_here) | (with_reducible apply ent_next) | (with_reducible exact ent_last))); done))) | (with_reducible exact ent_keep) | (with_reducible apply ent_trans ent_drop) | (fail))); done)); (focus (simp only [go_sem]))))); clear hs; (try clear w); intro v w hq; (obtain ⟨hv, hs⟩ := hq.pu; rw [hw.out] at hv; subst hv); clear hq; (try simp only [star_assoc, star_emp, emp_star] at hs); (try simp only [Act.put, List.setIfInBounds_toArray, List.set_cons_zero, List.set_cons_succ]))
        | ((with_reducible apply pl_loadN hs); (focus (simp only [Act.eval, List.getD_eq_getElem?_getD, Array.getD_eq_getD_getElem?, List.getElem?_toArray, List.getElem?_cons_zero, List.getElem?_cons_succ, Option.getD_some]; (try with_reducible rfl); done)); (first | (with_reducible exact agg_23)); (focus ((repeat (first | (with_reducible assumption) | (with_reducible exact hel _) | (with_reducible exact hel2 _) | (with_reducible exact hel3 _) | ((with_reducible apply reads_whole); (focus (first | (with_reducible rfl) | (simp only [go_sem]; done) | (simp; done)))) | ((with_reducible apply reads_part); (focus (first | (simp [go_sem]; done) | (simp only [go_sem]; omega) | go_size)); (focus (first | (simp only [Nat.reduceAdd, Nat.zero_add, go_sem]; (try with_reducible rfl); done) | (simp [go_sem]; (try with_reducible rfl); done)))) | ((with_reducible apply reads_left); (with_reducible assumption)) | (with_reducible refine reads_exh (by with_reducible assumption) ?_) | (with_reducible refine reads_exh0 (by with_reducible assumption) ?_) | (with_reducible apply reads_next))); done)); (focus rfl); simp only [Act.put, List.setIfInBounds_toArray, List.set_cons_zero, List.set_cons_succ])
        | ((with_reducible apply pl_box hs); (focus (simp only [Act.eval, List.getD_eq_getElem?_getD, Array.getD_eq_getD_getElem?, List.getElem?_toArray, List.getElem?_cons_zero, List.getElem?_cons_succ, Option.getD_some]; (try with_reducible rfl); done)); (focus (first | (with_reducible exact cells_intv _) | (with_reducible exact cells_ptv _) | (with_reducible exact cells_agg _) | (with_reducible exact cells_int _ _) | (with_reducible exact cells_bool _) | (with_reducible exact cells_string _) | (with_reducible exact cells_slice _ _ _) | (with_reducible exact cells_pointer _) | (with_reducible exact cells_map _) | (with_reducible exact cells_iface _ _) | (with_reducible exact cells_nilIface) | (with_reducible exact cells_func _ _ _) | (exact cells_one (by assumption)))); clear hs; (try clear w); intro g w hs; skip; simp only [Act.put, List.setIfInBounds_toArray, List.set_cons_zero, List.set_cons_succ]))
    (go_ret; simp only [List.getD_eq_getElem?_getD, Array.getD_eq_getD_getElem?, List.getElem?_toArray, List.getElem?_cons_zero, List.getElem?_cons_succ, Option.getD_some])
    exact ⟨_, rfl, hs.mono (ent_pu rfl (by ((repeat (first | (with_reducible exact ent_refl) | (with_reducible exact ent_emp) | ((with_reducible apply ent_front); (focus ((repeat (first | (with_reducible exact ent_here) | (with_reducible apply ent_next) | (with_reducible exact ent_last))); done))) | (with_reducible exact ent_keep) | (with_reducible apply ent_trans ent_drop))); done)))⟩
set_option maxRecDepth 20000 in
set_option maxHeartbeats 1000000 in
theorem rvote_s (c0 : World) (F : HP) (c d : Nat → Int) : Spec Tryd.prog c0 11 #[.agg (clk c), .agg (clk d)] F (fun v => pu (v = .int .i64 (voteV c d)) F) := by
  intro w hs
  cases h1 : clkEq c d <;> cases h2 : covB c d
  all_goals
    have hv : voteV c d = voteV c d := rfl
    conv at hv => rhs; unfold voteV; rw [h1, h2]; simp
    rw [hv]
    clear hv
    go_enter Tryd.func11, Tryd.ntmps11
    go_wp2_with (first
        | ((with_reducible apply pl_call hs (rcov_s _ _ _ _)); (go_must (((focus (simp only [List.map_toArray, List.map_cons, List.map_nil, List.append_toArray, List.nil_append, List.cons_append, Act.eval, List.getD_eq_getElem?_getD, Array.getD_eq_getD_getElem?, List.getElem?_toArray, List.getElem?_cons_zero, List.getElem?_cons_succ, Option.getD_some]; (try with_reducible rfl); done)); (focus ((repeat (first | (with_reducible exact ent_refl) | (with_reducible apply ent_puR) | ((with_reducible apply ent_front); (focus ((repeat (first | (with_reducible exact ent_here) | (with_reducible apply ent_next) | (with_reducible exact ent_last))); done))) | (with_reducible exact ent_keep) | (with_reducible apply ent_trans ent_drop) | (fail))); done)); (focus (simp only [go_sem]))))); clear hs; (try clear w); intro v w hq; (obtain ⟨hv, hs⟩ := hq.pu; rw [h2] at hv; subst hv); clear hq; (try simp only [star_assoc, star_emp, emp_star] at hs); (try simp only [Act.put, List.setIfInBounds_toArray, List.set_cons_zero, List.set_cons_succ]))
        | ((with_reducible apply pl_loadN hs); (focus (simp only [Act.eval, List.getD_eq_getElem?_getD, Array.getD_eq_getD_getElem?, List.getElem?_toArray, List.getElem?_cons_zero, List.getElem?_cons_succ, Option.getD_some]; (try with_reducible rfl); done)); (first | (with_reducible exact agg_23)); (focus ((repeat (first | (with_reducible assumption) | (with_reducible exact hel _) | (with_reducible exact hel2 _) | (with_reducible exact hel3 _) | ((with_reducible apply reads_whole); (focus (first | (with_reducible rfl) | (simp only [go_sem]; done) | (simp; done)))) | ((with_reducible apply reads_part); (focus (first | (simp [go_sem]; done) | (simp only [go_sem]; omega) | go_size)); (focus (first | (simp only [Nat.reduceAdd, Nat.zero_add, go_sem]; (try with_reducible rfl); done) | (simp [go_sem]; (try with_reducible rfl); done)))) | ((with_reducible apply reads_left); (with_reducible assumption)) | (with_reducible refine reads_exh (by with_reducible assumption) ?_) | (with_reducible refine reads_exh0 (by with_reducible assumption) ?_) | (with_reducible apply reads_next))); done)); (focus rfl); simp only [Act.put, List.setIfInBounds_toArray, List.set_cons_zero, List.set_cons_succ])
        | ((with_reducible apply pl_box hs); (focus (simp only [Act.eval, List.getD_eq_getElem?_getD, Array.getD_eq_getD_getElem?, List.getElem?_toArray, List.getElem?_cons_zero, List.getElem?_cons_succ, Option.getD_some]; (try with_reducible rfl); done)); (focus (first | (with_reducible exact cells_intv _) | (with_reducible exact cells_ptv _) | (with_reducible exact cells_agg _) | (with_reducible exact cells_int _ _) | (with_reducible exact cells_bool _) | (with_reducible exact cells_string _) | (with_reducible exact cells_slice _ _ _) | (with_reducible exact cells_pointer _) | (with_reducible exact cells_map _) | (with_reducible exact cells_iface _ _) | (with_reducible exact cells_nilIface) | (with_reducible exact cells_func _ _ _) | (exact cells_one (by assumption)))); clear hs; (try clear w); intro g w hs; skip; simp only [Act.put, List.setIfInBounds_toArray, List.set_cons_zero, List.set_cons_succ]))
    (go_ret; simp only [List.getD_eq_getElem?_getD, Array.getD_eq_getD_getElem?, List.getElem?_toArray, List.getElem?_cons_zero, List.getElem?_cons_succ, Option.getD_some])
    exact ⟨_, rfl, hs.mono (ent_pu rfl (by ((repeat (first | (with_reducible exact ent_refl) | (with_reducible exact ent_emp) | ((with_reducible apply ent_front); (focus ((repeat (first | (with_reducible exact ent_here) | (with_reducible apply ent_next) | (with_reducible exact ent_last))); done))) | (with_reducible exact ent_keep) | (with_reducible apply ent_trans ent_drop))); done)))⟩
end Go.Proofs.YthnkcljgkfpneaaDoor
