/- Rows of acts: cut, lent, compared, found missing. -/
import Derived.Test.YtnbbgcdemafcoaaDoorF1
set_option linter.unusedSimpArgs false
set_option linter.unusedVariables false
namespace Go.Proofs.YtnbbgcdemafcoaaDoor
open Go Go.RowKit

theorem retA {c0 w : World} {H : HP} {fn : Func} {a : Act} {p : Tmp} {post : Value → HP} {x : ActD} {g : Nat} (hs : Sat c0 H w) (hr : fn.results = #[.cell p 35]) (hp : a.tmps.getD p undef = .pointer (some ⟨g, 0, none⟩)) (hw : Reads H g 0 13 (actv x)) (hdf : a.defers = []) (h : Ent H (post (.agg (actv x)))) :
    bodyPost Tryd.prog fn (fun e w' => ∃ v, e = .returned v ∧ Sat c0 (post v) w') .ret a w :=
  ret_cell (n := 13) hr Tryd.underlying35 rfl (by kernel_rfl) g hp _ (hw w hs.own) hdf ⟨_, rfl, hs.mono h⟩
abbrev mk (i : Int) : ActD := ⟨0, 0, 0, 0, -7 - i, clk0⟩
set_option maxRecDepth 20000 in
theorem kact_s (c0 : World) (F : HP) (i : Int) : Spec Tryd.prog c0 38 #[.int .i64 i] (pu (0 ≤ i ∧ i < 1000) F) (fun v => pu (v = .agg (actv (mk i))) F) := by
  intro w hq; obtain ⟨⟨h0, h9⟩, hs⟩ := hq.pu; clear hq
  go_enter Tryd.func38, Tryd.ntmps38
  go_wp2_with (first
        | ((with_reducible apply pl_build hs); (focus (simp only [List.map_toArray, List.map_cons, List.map_nil, Act.eval, List.getD_eq_getElem?_getD, Array.getD_eq_getD_getElem?, List.getElem?_toArray, List.getElem?_cons_zero, List.getElem?_cons_succ, Option.getD_some]; (try with_reducible rfl); done)); (first | (with_reducible exact bld_3 _)); (focus rfl); simp only [Act.put, List.setIfInBounds_toArray, List.set_cons_zero, List.set_cons_succ])
        | ((with_reducible apply pl_alloc hs); (first | (with_reducible exact zero_35)); clear hs; (try clear w); intro g w hs; skip; simp only [Act.put, List.setIfInBounds_toArray, List.set_cons_zero, List.set_cons_succ])
        | ((with_reducible apply pl_storeN hs); (focus (simp only [Act.eval, List.getD_eq_getElem?_getD, Array.getD_eq_getD_getElem?, List.getElem?_toArray, List.getElem?_cons_zero, List.getElem?_cons_succ, Option.getD_some]; (try with_reducible rfl); done)); (focus (simp only [Act.eval, List.getD_eq_getElem?_getD, Array.getD_eq_getD_getElem?, List.getElem?_toArray, List.getElem?_cons_zero, List.getElem?_cons_succ, Option.getD_some]; (try with_reducible rfl); done)); (first | (with_reducible exact agg_35)); (focus ((repeat (first | (with_reducible exact ent_here) | (with_reducible apply ent_next) | (with_reducible exact ent_last))); done)); (focus (first | (with_reducible rfl) | (simp only [go_sem]; done) | (simp; done))); (focus (first | (simp [go_sem]; done) | (simp only [go_sem]; omega) | go_size)); (focus (first | (simp only [go_sem]; done) | (simp [go_sem]; done))); (focus (first | ((with_reducible apply splice_whole); (focus (first | (with_reducible rfl) | (simp only [go_sem]; done) | (simp; done)))) | (simp [splice, go_sem]; done) | (simp only [go_sem]; (try with_reducible rfl); done))); clear hs; (try clear w); intro w hs; (try simp only [List.setIfInBounds_toArray, List.set_cons_zero, List.set_cons_succ, clk_set, actv_set4] at hs); simp only [Act.put, List.setIfInBounds_toArray, List.set_cons_zero, List.set_cons_succ]))
  exact retA hs rfl rfl (by (focus ((repeat (first | (with_reducible assumption) | (with_reducible exact hel _) | (with_reducible exact hel2 _) | ((with_reducible apply reads_whole); (focus (first | (with_reducible rfl) | (simp only [go_sem]; done) | (simp; done)))) | ((with_reducible apply reads_part); (focus (first | (simp [go_sem]; done) | (simp only [go_sem]; omega) | go_size)); (focus (first | (simp only [Nat.reduceAdd, Nat.zero_add, go_sem]; (try with_reducible rfl); done) | (simp [go_sem]; (try with_reducible rfl); done)))) | ((with_reducible apply reads_left); (with_reducible assumption)) | (with_reducible refine reads_exh (by with_reducible assumption) ?_) | (with_reducible refine reads_exh0 (by with_reducible assumption) ?_) | (with_reducible apply reads_next))); done))) rfl (ent_pu rfl (by ((repeat (first | (with_reducible exact ent_refl) | (with_reducible exact ent_emp) | ((with_reducible apply ent_front); (focus ((repeat (first | (with_reducible exact ent_here) | (with_reducible apply ent_next) | (with_reducible exact ent_last))); done))) | (with_reducible exact ent_keep) | (with_reducible apply ent_trans ent_drop))); done)))

theorem cut_s (c0 : World) (F : HP) (v : Value) (l : List ActD) : Spec Tryd.prog c0 10 #[v] (pu (SlR F 13 actv v l) F) (fun r => pu (SlR F 13 actv r (l.take 40)) F) := by
  intro w hq; obtain ⟨hv, hs⟩ := hq.pu; clear hq
  obtain ⟨A, c, rfl⟩ := slr_form hv hs.own
  obtain ⟨_, h2, h3, _⟩ := slr_len hv hs.own
  unfold maxLen at h3
  generalize hn : l.length = n at *
  replace hn := Lib.hid hn
  go_enter Tryd.func10, Tryd.ntmps10
  go_wp2_with fail
  all_goals go_ret
  · exact ⟨_, rfl, hs.mono (ent_pu (slr_take hv 40 (by omega)) (by ((repeat (first | (with_reducible exact ent_refl) | (with_reducible exact ent_emp) | ((with_reducible apply ent_front); (focus ((repeat (first | (with_reducible exact ent_here) | (with_reducible apply ent_next) | (with_reducible exact ent_last))); done))) | (with_reducible exact ent_keep) | (with_reducible apply ent_trans ent_drop))); done)))⟩
  · refine ⟨_, rfl, hs.mono (ent_pu ?_ (by ((repeat (first | (with_reducible exact ent_refl) | (with_reducible exact ent_emp) | ((with_reducible apply ent_front); (focus ((repeat (first | (with_reducible exact ent_here) | (with_reducible apply ent_next) | (with_reducible exact ent_last))); done))) | (with_reducible exact ent_keep) | (with_reducible apply ent_trans ent_drop))); done)))⟩
    rw [List.take_of_length_le (by have := hn.out; omega)]
    exact hv

theorem acts_s (c0 : World) (F : HP) (u v : Value) (l : List ActD) : Spec Tryd.prog c0 21 #[u, v] (pu (SlR F 13 actv u l ∧ SlR F 13 actv v l) F) (fun r => pu (r = .bool true) F) := by
  intro w hq; obtain ⟨⟨hu, hv⟩, hs⟩ := hq.pu; clear hq
  obtain ⟨A, c, rfl⟩ := slr_form hu hs.own
  obtain ⟨A', c', rfl⟩ := slr_form hv hs.own
  obtain ⟨_, h2, h3, _⟩ := slr_len hu hs.own
  unfold maxLen at h3
  generalize hn : l.length = n at *
  replace hn := Lib.hid hn
  go_enter Tryd.func21, Tryd.ntmps21
  go_wp2_with fail
  go_loopw [5] (fun i wr => ∃ k : Nat, k ≤ n ∧ i = .int .i64 k ∧ Sat c0 F wr) (fun i _ => n - (intOf i).toNat)
  case atStart => exact ⟨0, by omega, rfl, hs⟩
  case round =>
    obtain ⟨k, hk, rfl, hs⟩ := hrel
    by_cases hlt : k < n
    · obtain ⟨b, o, a, rfl, hla, hwa⟩ := slr_get hu hs.own hlt
      obtain ⟨b', o', a', rfl, hla', hwa'⟩ := slr_get hv hs.own hlt
      have : a = a' := by rw [hla] at hla'; exact Option.some.inj hla'
      subst this
      have hee := actEq_refl a
      clear hla hla' hu hv
      go_wp2_with (first
        | ((with_reducible apply wp_region_sl (G := emp) (id := 6) hs 1000); (focus (exact ent_emp_l)); (focus kernel_rfl); (focus decide +kernel); clear hs; (try clear w); intro hR w hRR hs; (try simp only [star_assoc] at hs))
        | ((with_reducible apply mix_end hRR hs); (focus ((repeat (first | (with_reducible exact ent_here) | (with_reducible apply ent_next) | (with_reducible exact ent_last))); done)); clear hs; (try clear w); intro w hs; (try simp only [star_assoc, star_emp, emp_star] at hs); clear hRR hR)
        | ((with_reducible apply mx_loadN hRR); (focus (simp only [Act.eval, List.getD_eq_getElem?_getD, Array.getD_eq_getD_getElem?, List.getElem?_toArray, List.getElem?_cons_zero, List.getElem?_cons_succ, Option.getD_some]; (try with_reducible rfl); done)); (first | (with_reducible exact agg_35)); (focus ((repeat (first | (with_reducible assumption) | (with_reducible exact hel _) | (with_reducible exact hel2 _) | ((with_reducible apply reads_whole); (focus (first | (with_reducible rfl) | (simp only [go_sem]; done) | (simp; done)))) | ((with_reducible apply reads_part); (focus (first | (simp [go_sem]; done) | (simp only [go_sem]; omega) | go_size)); (focus (first | (simp only [Nat.reduceAdd, Nat.zero_add, go_sem]; (try with_reducible rfl); done) | (simp [go_sem]; (try with_reducible rfl); done)))) | ((with_reducible apply reads_left); (with_reducible assumption)) | (with_reducible refine reads_exh (by with_reducible assumption) ?_) | (with_reducible refine reads_exh0 (by with_reducible assumption) ?_) | (with_reducible apply reads_next))); done)); simp only [Act.put, List.setIfInBounds_toArray, List.set_cons_zero, List.set_cons_succ])
        | ((with_reducible refine mix_float ?_ ?_ ?_ (fun h hk => ?_) ?_); rotate_left 1; (focus rfl); (focus rfl); (focus (go_simp; (try simp (disch := omega) only [IntWalk.i64_in, IntWalk.i32_in]); (try with_reducible rfl); done)); simp only [Act.put, List.setIfInBounds_toArray, List.set_cons_zero, List.set_cons_succ]))
      go_roundw
      case rel => exact ⟨k + 1, by omega, by go_num, hs⟩
      case measure => simp [intOf]; omega
    · go_wp2_with fail
      go_ret
      exact ⟨_, rfl, hs.mono (ent_pu rfl (by ((repeat (first | (with_reducible exact ent_refl) | (with_reducible exact ent_emp) | ((with_reducible apply ent_front); (focus ((repeat (first | (with_reducible exact ent_here) | (with_reducible apply ent_next) | (with_reducible exact ent_last))); done))) | (with_reducible exact ent_keep) | (with_reducible apply ent_trans ent_drop))); done)))⟩
end Go.Proofs.YtnbbgcdemafcoaaDoor
