/- Verdicts and stages. -/
import Derived.Test.YthnkcljgkfpneaaDoorW1
set_option linter.unusedSimpArgs false
set_option linter.unusedVariables false
namespace Go.Proofs.YthnkcljgkfpneaaDoor
open Go Go.RowKit

/-- What the votes come to. -/
def verdN (v : Nat → Int) (m : Nat) : Int := if (List.range m).any (fun i => v i == 2) then 2 else if (List.range m).all (fun i => v i == 1) then 1 else 0
def verdV (v : Nat → Int) (n : Int) : Int := if n < 1 then 0 else verdN v (min n 8).toNat
theorem verd_no {v : Nat → Int} {m k : Nat} (hk : k < m) (h : v k = 2) : verdN v m = 2 := by
  unfold verdN
  rw [if_pos (List.any_eq_true.2 ⟨k, List.mem_range.2 hk, by simp [h]⟩)]
def yesN (v : Nat → Int) (k : Nat) : Nat := (List.range k).countP fun i => v i == 1
theorem yesN_succ (v : Nat → Int) (k : Nat) : yesN v (k + 1) = yesN v k + if v k == 1 then 1 else 0 := by
  unfold yesN
  rw [List.range_succ, List.countP_append]
  simp [List.countP_cons]
theorem yesN_le (v : Nat → Int) (k : Nat) : yesN v k ≤ k := by
  have := List.countP_le_length (p := fun i => v i == 1) (l := List.range k)
  simpa [yesN] using this
theorem verd_end {v : Nat → Int} {m : Nat} (h : ∀ i, i < m → v i ≠ 2) : verdN v m = if yesN v m = m then 1 else 0 := by
  unfold verdN
  have h1 : (List.range m).any (fun i => v i == 2) = false := List.any_eq_false.2 fun i hi => by simpa using h i (List.mem_range.1 hi)
  rw [h1]
  simp only [Bool.false_eq_true, if_false]
  by_cases hy : yesN v m = m
  · rw [if_pos hy]
    have : (List.range m).all (fun i => v i == 1) = true := by
      have h2 : (List.range m).countP (fun i => v i == 1) = (List.range m).length := by rw [List.length_range]; exact hy
      exact List.all_eq_true.2 (List.countP_eq_length.1 h2)
    rw [this]; rfl
  · rw [if_neg hy]
    have : (List.range m).all (fun i => v i == 1) = false := by
      cases h3 : (List.range m).all (fun i => v i == 1) with
      | false => rfl
      | true =>
        exfalso
        apply hy
        have := List.countP_eq_length.2 (List.all_eq_true.1 h3)
        rwa [List.length_range] at this
    rw [this]; rfl
theorem arl_votes : Tryd.prog.arrayLen 22 = 8 := by kernel_rfl
theorem ell_votes : Tryd.prog.elem 22 = 3 := by kernel_rfl
theorem szi_votes (w : World) : (sizeOf 3).run Tryd.prog w = .ok 1 w := by simp [run_sizeOf]
@[go_sem high] theorem slice_votes (a : Addr) (m : Nat) (w : World) (h : m ≤ 8) : (Instr.sliceAt 22 (.pointer (some a)) none (some (.int .i64 (m : Int))) none).run Tryd.prog w = .ok (.slice (some a) m 8) w := by
  rw [run_sliceAt_array_h w 22 a (by rw [arl_votes, ell_votes]; exact Tryd.underlying22) .i64 m (by omega) (by rw [arl_votes]; omega), arl_votes, ell_votes, szi_votes]
  simp [slicedAt, Addr.add]
set_option maxRecDepth 20000 in
set_option maxHeartbeats 1000000 in
theorem verdict_s (c0 : World) (F : HP) (r : RoundD) (n : Int) : Spec Tryd.prog c0 12 #[.agg (rnd r), .int .i64 n] F (fun x => pu (x = .int .i64 (verdV r.votes n)) F) := by
  intro w hs
  by_cases hn : n < 1
  · have hv : verdV r.votes n = 0 := if_pos hn
    rw [hv]
    go_enter Tryd.func12, Tryd.ntmps12
    go_wp2_with (first
        | ((with_reducible apply pl_box hs); (focus (simp only [Act.eval, List.getD_eq_getElem?_getD, Array.getD_eq_getD_getElem?, List.getElem?_toArray, List.getElem?_cons_zero, List.getElem?_cons_succ, Option.getD_some]; (try with_reducible rfl); done)); (focus (first | (with_reducible exact cells_intv _) | (with_reducible exact cells_ptv _) | (with_reducible exact cells_agg _) | (with_reducible exact cells_int _ _) | (with_reducible exact cells_bool _) | (with_reducible exact cells_string _) | (with_reducible exact cells_slice _ _ _) | (with_reducible exact cells_pointer _) | (with_reducible exact cells_map _) | (with_reducible exact cells_iface _ _) | (with_reducible exact cells_nilIface) | (with_reducible exact cells_func _ _ _) | (exact cells_one (by assumption)))); clear hs; (try clear w); intro g w hs; skip; simp only [Act.put, List.setIfInBounds_toArray, List.set_cons_zero, List.set_cons_succ]))
    (go_ret; simp only [List.getD_eq_getElem?_getD, Array.getD_eq_getD_getElem?, List.getElem?_toArray, List.getElem?_cons_zero, List.getElem?_cons_succ, Option.getD_some])
    exact ⟨_, rfl, hs.mono (ent_pu rfl (by ((repeat (first | (with_reducible exact ent_refl) | (with_reducible exact ent_emp) | ((with_reducible apply ent_front); (focus ((repeat (first | (with_reducible exact ent_here) | (with_reducible apply ent_next) | (with_reducible exact ent_last))); done))) | (with_reducible exact ent_keep) | (with_reducible apply ent_trans ent_drop))); done)))⟩
  · have hv : verdV r.votes n = verdN r.votes (min n 8).toNat := if_neg hn
    rw [hv]
    clear hv
    obtain ⟨m, hm, h1, h8⟩ : ∃ m : Nat, (min n 8 : Int) = m ∧ 1 ≤ m ∧ m ≤ 8 := ⟨(min n 8).toNat, by omega, by omega, by omega⟩
    have hm2 : (min n 8).toNat = m := by omega
    rw [hm2]
    have hm3 : (if n < 8 then n else 8) = (m : Int) := by split <;> omega
    have hm4 : (if 8 < n then 8 else n) = (m : Int) := by split <;> omega
    have hm5 : (if n ≤ 8 then n else 8) = (m : Int) := by split <;> omega
    clear hm
    clear hm2
    go_enter Tryd.func12, Tryd.ntmps12
    go_wp2_with (first
        | ((with_reducible apply pl_box hs); (focus (simp only [Act.eval, List.getD_eq_getElem?_getD, Array.getD_eq_getD_getElem?, List.getElem?_toArray, List.getElem?_cons_zero, List.getElem?_cons_succ, Option.getD_some]; (try with_reducible rfl); done)); (focus (first | (with_reducible exact cells_intv _) | (with_reducible exact cells_ptv _) | (with_reducible exact cells_agg _) | (with_reducible exact cells_int _ _) | (with_reducible exact cells_bool _) | (with_reducible exact cells_string _) | (with_reducible exact cells_slice _ _ _) | (with_reducible exact cells_pointer _) | (with_reducible exact cells_map _) | (with_reducible exact cells_iface _ _) | (with_reducible exact cells_nilIface) | (with_reducible exact cells_func _ _ _) | (exact cells_one (by assumption)))); clear hs; (try clear w); intro g w hs; skip; simp only [Act.put, List.setIfInBounds_toArray, List.set_cons_zero, List.set_cons_succ]))
    obtain ⟨H1, hH1, hq⟩ := Sat.name hs; clear hs; have hs := hq; clear hq
    go_loopw [5, 17] (fun y i wr => ∃ k : Nat, k ≤ m ∧ Hid (∀ j, j < k → r.votes j ≠ 2) ∧ y = .int .i64 (yesN r.votes k) ∧ i = .int .i64 k ∧ Sat c0 H1 wr) (fun _ i _ => m - (intOf i).toNat)
    case atStart => exact ⟨0, by omega, Lib.hid (by intro j hj; omega), rfl, rfl, hs⟩
    case round =>
      obtain ⟨k, hk, hall, rfl, rfl, hs⟩ := hrel
      by_cases hlt : k < m
      · have hec4 : ∀ g R, ReadC (blk g (.cells (rnd r) 25 (0, 0)) * R) g (9 + k) (.int .i64 (r.votes k)) := fun g R => readc_here (rnd_clk9 r k (by omega))
        by_cases h2 : r.votes k = 2
        · subst hH1
          go_wp2_with (first
        | ((with_reducible apply pl_load1 hs); (focus (simp only [Act.eval, List.getD_eq_getElem?_getD, Array.getD_eq_getD_getElem?, List.getElem?_toArray, List.getElem?_cons_zero, List.getElem?_cons_succ, Option.getD_some]; (try with_reducible rfl); done)); (focus (simp only [go_sem])); (focus ((repeat (first | (with_reducible assumption) | (with_reducible exact hec _) | (with_reducible exact hec2 _) | (with_reducible exact hec3 _) | (with_reducible exact hec4 _ _) | ((with_reducible apply readc_here); (focus (first | (simp only [List.getElem?_toArray, List.getElem?_cons_zero, List.getElem?_cons_succ, go_sem]; (try with_reducible rfl); done) | (go_simp; (try with_reducible rfl); done)))) | ((with_reducible apply readc_left); (with_reducible assumption)) | (with_reducible refine readc_exh (by with_reducible assumption) ?_) | (with_reducible refine readc_exh0 (by with_reducible assumption) ?_) | (with_reducible apply readc_next))); done)); (focus rfl); simp only [Act.put, List.setIfInBounds_toArray, List.set_cons_zero, List.set_cons_succ]))
          go_ret
          exact ⟨_, rfl, hs.mono (ent_pu (by rw [verd_no hlt h2]; rfl) (by ((repeat (first | (with_reducible exact ent_refl) | (with_reducible exact ent_emp) | ((with_reducible apply ent_front); (focus ((repeat (first | (with_reducible exact ent_here) | (with_reducible apply ent_next) | (with_reducible exact ent_last))); done))) | (with_reducible exact ent_keep) | (with_reducible apply ent_trans ent_drop))); done)))⟩
        · have hall2 : ∀ j, j < k + 1 → r.votes j ≠ 2 := fun j hj => by
            rcases Nat.lt_or_eq_of_le (Nat.le_of_lt_succ hj) with h | h
            · exact hall.out j h
            · subst h; exact h2
          replace hall2 := Lib.hid hall2
          by_cases h3 : r.votes k = 1
          · subst hH1
            go_wp2_with (first
        | ((with_reducible apply pl_load1 hs); (focus (simp only [Act.eval, List.getD_eq_getElem?_getD, Array.getD_eq_getD_getElem?, List.getElem?_toArray, List.getElem?_cons_zero, List.getElem?_cons_succ, Option.getD_some]; (try with_reducible rfl); done)); (focus (simp only [go_sem])); (focus ((repeat (first | (with_reducible assumption) | (with_reducible exact hec _) | (with_reducible exact hec2 _) | (with_reducible exact hec3 _) | (with_reducible exact hec4 _ _) | ((with_reducible apply readc_here); (focus (first | (simp only [List.getElem?_toArray, List.getElem?_cons_zero, List.getElem?_cons_succ, go_sem]; (try with_reducible rfl); done) | (go_simp; (try with_reducible rfl); done)))) | ((with_reducible apply readc_left); (with_reducible assumption)) | (with_reducible refine readc_exh (by with_reducible assumption) ?_) | (with_reducible refine readc_exh0 (by with_reducible assumption) ?_) | (with_reducible apply readc_next))); done)); (focus rfl); simp only [Act.put, List.setIfInBounds_toArray, List.set_cons_zero, List.set_cons_succ]))
            have hy := yesN_le r.votes k
            exact ⟨⟨k + 1, by omega, hall2, by
              have hw : wrap64 ((yesN r.votes k : Int) + 1) = (yesN r.votes k : Int) + 1 := by unfold wrap64; omega
              rw [yesN_succ, h3, hw]; simp, by simp, hs⟩, by simp [intOf]; omega⟩
          · subst hH1
            go_wp2_with (first
        | ((with_reducible apply pl_load1 hs); (focus (simp only [Act.eval, List.getD_eq_getElem?_getD, Array.getD_eq_getD_getElem?, List.getElem?_toArray, List.getElem?_cons_zero, List.getElem?_cons_succ, Option.getD_some]; (try with_reducible rfl); done)); (focus (simp only [go_sem])); (focus ((repeat (first | (with_reducible assumption) | (with_reducible exact hec _) | (with_reducible exact hec2 _) | (with_reducible exact hec3 _) | (with_reducible exact hec4 _ _) | ((with_reducible apply readc_here); (focus (first | (simp only [List.getElem?_toArray, List.getElem?_cons_zero, List.getElem?_cons_succ, go_sem]; (try with_reducible rfl); done) | (go_simp; (try with_reducible rfl); done)))) | ((with_reducible apply readc_left); (with_reducible assumption)) | (with_reducible refine readc_exh (by with_reducible assumption) ?_) | (with_reducible refine readc_exh0 (by with_reducible assumption) ?_) | (with_reducible apply readc_next))); done)); (focus rfl); simp only [Act.put, List.setIfInBounds_toArray, List.set_cons_zero, List.set_cons_succ]))
            exact ⟨⟨k + 1, by omega, hall2, by rw [yesN_succ]; simp [h3], by simp, hs⟩, by simp [intOf]; omega⟩
      · have hkm : k = m := by omega
        subst hkm
        have hv := verd_end hall.out
        by_cases hy : yesN r.votes k = k
        · have hyi : ((yesN r.votes k : Nat) : Int) = (k : Int) := by omega
          rw [if_pos hy] at hv
          clear hy
          replace hv := Lib.hid hv
          subst hH1
          go_wp2_with fail
          go_ret
          exact ⟨_, rfl, hs.mono (ent_pu (by rw [hv.out]; rfl) (by ((repeat (first | (with_reducible exact ent_refl) | (with_reducible exact ent_emp) | ((with_reducible apply ent_front); (focus ((repeat (first | (with_reducible exact ent_here) | (with_reducible apply ent_next) | (with_reducible exact ent_last))); done))) | (with_reducible exact ent_keep) | (with_reducible apply ent_trans ent_drop))); done)))⟩
        · have hyi : ¬ ((yesN r.votes k : Nat) : Int) = (k : Int) := by omega
          rw [if_neg hy] at hv
          clear hy
          replace hv := Lib.hid hv
          subst hH1
          go_wp2_with fail
          go_ret
          exact ⟨_, rfl, hs.mono (ent_pu (by rw [hv.out]; rfl) (by ((repeat (first | (with_reducible exact ent_refl) | (with_reducible exact ent_emp) | ((with_reducible apply ent_front); (focus ((repeat (first | (with_reducible exact ent_here) | (with_reducible apply ent_next) | (with_reducible exact ent_last))); done))) | (with_reducible exact ent_keep) | (with_reducible apply ent_trans ent_drop))); done)))⟩
set_option maxRecDepth 20000 in
set_option maxHeartbeats 1000000 in
theorem rverdict_s (c0 : World) (F : HP) (r : RoundD) (n : Int) : Spec Tryd.prog c0 13 #[.agg (rnd r), .int .i64 n] F (fun x => pu (x = .int .i64 (verdV r.votes n)) F) := by
  intro w hs
  by_cases hn : n < 1
  · have hv : verdV r.votes n = 0 := if_pos hn
    rw [hv]
    go_enter Tryd.func13, Tryd.ntmps13
    go_wp2_with (first
        | ((with_reducible apply pl_box hs); (focus (simp only [Act.eval, List.getD_eq_getElem?_getD, Array.getD_eq_getD_getElem?, List.getElem?_toArray, List.getElem?_cons_zero, List.getElem?_cons_succ, Option.getD_some]; (try with_reducible rfl); done)); (focus (first | (with_reducible exact cells_intv _) | (with_reducible exact cells_ptv _) | (with_reducible exact cells_agg _) | (with_reducible exact cells_int _ _) | (with_reducible exact cells_bool _) | (with_reducible exact cells_string _) | (with_reducible exact cells_slice _ _ _) | (with_reducible exact cells_pointer _) | (with_reducible exact cells_map _) | (with_reducible exact cells_iface _ _) | (with_reducible exact cells_nilIface) | (with_reducible exact cells_func _ _ _) | (exact cells_one (by assumption)))); clear hs; (try clear w); intro g w hs; skip; simp only [Act.put, List.setIfInBounds_toArray, List.set_cons_zero, List.set_cons_succ]))
    (go_ret; simp only [List.getD_eq_getElem?_getD, Array.getD_eq_getD_getElem?, List.getElem?_toArray, List.getElem?_cons_zero, List.getElem?_cons_succ, Option.getD_some])
    exact ⟨_, rfl, hs.mono (ent_pu rfl (by ((repeat (first | (with_reducible exact ent_refl) | (with_reducible exact ent_emp) | ((with_reducible apply ent_front); (focus ((repeat (first | (with_reducible exact ent_here) | (with_reducible apply ent_next) | (with_reducible exact ent_last))); done))) | (with_reducible exact ent_keep) | (with_reducible apply ent_trans ent_drop))); done)))⟩
  · have hv : verdV r.votes n = verdN r.votes (min n 8).toNat := if_neg hn
    rw [hv]
    clear hv
    obtain ⟨m, hm, h1, h8⟩ : ∃ m : Nat, (min n 8 : Int) = m ∧ 1 ≤ m ∧ m ≤ 8 := ⟨(min n 8).toNat, by omega, by omega, by omega⟩
    have hm2 : (min n 8).toNat = m := by omega
    rw [hm2]
    clear hm2
    replace hm := Lib.hid hm
    go_enter Tryd.func13, Tryd.ntmps13
    go_wp2_with (first
        | ((with_reducible apply pl_box hs); (focus (simp only [Act.eval, List.getD_eq_getElem?_getD, Array.getD_eq_getD_getElem?, List.getElem?_toArray, List.getElem?_cons_zero, List.getElem?_cons_succ, Option.getD_some]; (try with_reducible rfl); done)); (focus (first | (with_reducible exact cells_intv _) | (with_reducible exact cells_ptv _) | (with_reducible exact cells_agg _) | (with_reducible exact cells_int _ _) | (with_reducible exact cells_bool _) | (with_reducible exact cells_string _) | (with_reducible exact cells_slice _ _ _) | (with_reducible exact cells_pointer _) | (with_reducible exact cells_map _) | (with_reducible exact cells_iface _ _) | (with_reducible exact cells_nilIface) | (with_reducible exact cells_func _ _ _) | (exact cells_one (by assumption)))); clear hs; (try clear w); intro g w hs; skip; simp only [Act.put, List.setIfInBounds_toArray, List.set_cons_zero, List.set_cons_succ]))
    obtain ⟨H1, hH1, hq⟩ := Sat.name hs; clear hs; have hs := hq; clear hq
    go_loopw [5, 6] (fun y i wr => ∃ (k : Nat) (b : Bool), k ≤ m ∧ Hid (∀ j, j < k → r.votes j ≠ 2) ∧ Hid (b = decide (yesN r.votes k = k)) ∧ y = .bool b ∧ i = .int .i64 k ∧ Sat c0 H1 wr) (fun _ i _ => m - (intOf i).toNat)
    case atStart => exact ⟨0, true, by omega, Lib.hid (by intro j hj; omega), Lib.hid rfl, rfl, rfl, hs⟩
    case round =>
      obtain ⟨k, b, hk, hall, hb, rfl, rfl, hs⟩ := hrel
      have hy := yesN_le r.votes k
      by_cases hlt : k < m
      · have hec4 : ∀ g R, ReadC (blk g (.cells (rnd r) 25 (0, 0)) * R) g (9 + k) (.int .i64 (r.votes k)) := fun g R => readc_here (rnd_clk9 r k (by omega))
        have hk1 : (k : Int) < n := by have := hm.out; omega
        have hk2 : (k : Int) < 8 := by omega
        by_cases h2 : r.votes k = 2
        · subst hH1
          go_wp2_with (first
        | ((with_reducible rewrite [pl_strike_eq]); rotate_left 1; (focus rfl))
        | ((with_reducible apply pl_load1 hs); (focus (simp only [Act.eval, List.getD_eq_getElem?_getD, Array.getD_eq_getD_getElem?, List.getElem?_toArray, List.getElem?_cons_zero, List.getElem?_cons_succ, Option.getD_some]; (try with_reducible rfl); done)); (focus (simp only [go_sem])); (focus ((repeat (first | (with_reducible assumption) | (with_reducible exact hec _) | (with_reducible exact hec2 _) | (with_reducible exact hec3 _) | (with_reducible exact hec4 _ _) | ((with_reducible apply readc_here); (focus (first | (simp only [List.getElem?_toArray, List.getElem?_cons_zero, List.getElem?_cons_succ, go_sem]; (try with_reducible rfl); done) | (go_simp; (try with_reducible rfl); done)))) | ((with_reducible apply readc_left); (with_reducible assumption)) | (with_reducible refine readc_exh (by with_reducible assumption) ?_) | (with_reducible refine readc_exh0 (by with_reducible assumption) ?_) | (with_reducible apply readc_next))); done)); (focus rfl); simp only [Act.put, List.setIfInBounds_toArray, List.set_cons_zero, List.set_cons_succ]))
          go_ret
          exact ⟨_, rfl, hs.mono (ent_pu (by rw [verd_no hlt h2]; rfl) (by ((repeat (first | (with_reducible exact ent_refl) | (with_reducible exact ent_emp) | ((with_reducible apply ent_front); (focus ((repeat (first | (with_reducible exact ent_here) | (with_reducible apply ent_next) | (with_reducible exact ent_last))); done))) | (with_reducible exact ent_keep) | (with_reducible apply ent_trans ent_drop))); done)))⟩
        · have hall2 : ∀ j, j < k + 1 → r.votes j ≠ 2 := fun j hj => by
            rcases Nat.lt_or_eq_of_le (Nat.le_of_lt_succ hj) with h | h
            · exact hall.out j h
            · subst h; exact h2
          replace hall2 := Lib.hid hall2
          by_cases h3 : r.votes k = 1
          all_goals
            have hys : yesN r.votes (k + 1) = yesN r.votes k + if r.votes k == 1 then 1 else 0 := yesN_succ r.votes k
            simp only [h3, beq_iff_eq, if_true, if_false] at hys
            replace hys := Lib.hid hys
            cases b
            all_goals
              subst hH1
              go_wp2_with (first
        | ((with_reducible rewrite [pl_strike_eq]); rotate_left 1; (focus rfl))
        | ((with_reducible apply pl_load1 hs); (focus (simp only [Act.eval, List.getD_eq_getElem?_getD, Array.getD_eq_getD_getElem?, List.getElem?_toArray, List.getElem?_cons_zero, List.getElem?_cons_succ, Option.getD_some]; (try with_reducible rfl); done)); (focus (simp only [go_sem])); (focus ((repeat (first | (with_reducible assumption) | (with_reducible exact hec _) | (with_reducible exact hec2 _) | (with_reducible exact hec3 _) | (with_reducible exact hec4 _ _) | ((with_reducible apply readc_here); (focus (first | (simp only [List.getElem?_toArray, List.getElem?_cons_zero, List.getElem?_cons_succ, go_sem]; (try with_reducible rfl); done) | (go_simp; (try with_reducible rfl); done)))) | ((with_reducible apply readc_left); (with_reducible assumption)) | (with_reducible refine readc_exh (by with_reducible assumption) ?_) | (with_reducible refine readc_exh0 (by with_reducible assumption) ?_) | (with_reducible apply readc_next))); done)); (focus rfl); simp only [Act.put, List.setIfInBounds_toArray, List.set_cons_zero, List.set_cons_succ]))
              exact ⟨⟨k + 1, _, by omega, hall2, Lib.hid (by
                have e1 := hys.out
                have e2 := hb.out.symm
                simp only [decide_eq_true_eq, decide_eq_false_iff_not] at e2
                try rw [show (r.votes k == 1) = false from by simpa using h3]
                first | exact (decide_eq_false (by omega)).symm | exact (decide_eq_true (by omega)).symm), rfl, by simp, hs⟩, by simp [intOf]; omega⟩
      · have hkm : k = m := by omega
        subst hkm
        have hv := verd_end hall.out
        have hb2 := hb.out
        have hm2 := hm.out
        by_cases hkn : (k : Int) < n
        all_goals
          have hk2 : 8 ≤ (k : Int) ∨ n ≤ (k : Int) := by omega
          cases b
          all_goals
            first | (rw [if_pos (of_decide_eq_true hb2.symm)] at hv) | (rw [if_neg (of_decide_eq_false hb2.symm)] at hv)
            replace hv := Lib.hid hv
            clear hb2
            clear hm2
            subst hH1
            go_wp2_with (first
        | ((with_reducible rewrite [pl_strike_eq]); rotate_left 1; (focus rfl)))
            go_ret
            exact ⟨_, rfl, hs.mono (ent_pu (by rw [hv.out]; rfl) (by ((repeat (first | (with_reducible exact ent_refl) | (with_reducible exact ent_emp) | ((with_reducible apply ent_front); (focus ((repeat (first | (with_reducible exact ent_here) | (with_reducible apply ent_next) | (with_reducible exact ent_last))); done))) | (with_reducible exact ent_keep) | (with_reducible apply ent_trans ent_drop))); done)))⟩
end Go.Proofs.YthnkcljgkfpneaaDoor
