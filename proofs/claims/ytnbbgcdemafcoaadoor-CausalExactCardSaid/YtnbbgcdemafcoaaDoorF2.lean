/- Rows of acts: cut, lent, compared, found missing. -/
import Derived.Test.YtnbbgcdemafcoaaDoorF1
set_option linter.unusedSimpArgs false
set_option linter.unusedVariables false
namespace Go.Proofs.YtnbbgcdemafcoaaDoor
open Go Go.RowKit

theorem retA {c0 w : World} {H : HP} {fn : Func} {a : Act} {p : Tmp} {post : Value → HP} {x : ActD} {g : Nat} (hs : Sat c0 H w) (hr : fn.results = #[.cell p 35]) (hp : a.tmps.getD p undef = .pointer (some ⟨g, 0, none⟩)) (hw : Reads H g 0 13 (actv x)) (hdf : a.defers = []) (h : Ent H (post (.agg (actv x)))) :
    bodyPost Tryd.prog fn (fun e w' => ∃ v, e = .returned v ∧ Sat c0 (post v) w') .ret a w :=
  ret_cell (n := 13) hr Tryd.underlying35 rfl (by kernel_rfl) g hp _ (hw w hs.own) hdf ⟨_, rfl, hs.mono h⟩
abbrev mk (i : Int) : ActD := ⟨0, 0, 0, 0, -7 - i, clk0⟩
set_option maxRecDepth 20000 in
theorem kact_s (c0 : World) (F : HP) (i : Int) : Spec Tryd.prog c0 38 #[.int .i64 i] (pu (0 ≤ i ∧ i < 1000) F) (fun v => pu (v = .agg (actv (mk i))) F) := by
  intro w hq; obtain ⟨⟨h0, h9⟩, hs⟩ := hq.pu; clear hq
  go_enter Tryd.func38, Tryd.ntmps38
  go_wp2_with (first
        | ((with_reducible apply pl_build hs); (focus (simp only [zj, zk, zl, Act.eval, za, zb, zc, zd, ze, zf]; (try with_reducible rfl); done)); (first | (with_reducible exact bld_3 _)); (focus rfl); simp only [Act.put, zg, zh, zi])
        | ((with_reducible apply pl_alloc hs); (with_reducible (first | exact zero_35)); clear hs; (try clear w); intro g w hs; skip; simp only [Act.put, zg, zh, zi])
        | ((with_reducible apply pl_storeN hs); (focus (simp only [Act.eval, za, zb, zc, zd, ze, zf]; (try with_reducible rfl); done)); (focus (simp only [Act.eval, za, zb, zc, zd, ze, zf]; (try with_reducible rfl); done)); (with_reducible (first | exact agg_35)); (focus with_reducible (repeat (first | exact ent_here | apply ent_next | exact ent_last)); done); (focus (first | (with_reducible rfl) | (simp only [go_sem]; done) | (simp; done))); (focus (first | (simp [go_sem]; done) | (simp only [go_sem]; omega) | go_size)); (focus (first | (simp only [go_sem]; done) | (simp [go_sem]; done))); (focus (first | ((with_reducible apply splice_whole); (focus (first | (with_reducible rfl) | (simp only [go_sem]; done) | (simp; done)))) | (simp [splice, go_sem]; done) | (simp only [go_sem]; (try with_reducible rfl); done))); clear hs; (try clear w); intro w hs; (try simp only [zg, zh, zi, clk_set, actv_set4] at hs); simp only [Act.put, zg, zh, zi]))
  exact retA hs rfl rfl (by (focus ((repeat (first | (with_reducible (first | assumption | exact hel _ | exact hel2 _ | exact hel3 _)) | ((with_reducible apply reads_whole); (focus (first | (with_reducible rfl) | (simp only [go_sem]; done) | (simp; done)))) | ((with_reducible apply reads_part); (focus (first | (simp [go_sem]; done) | (simp only [go_sem]; omega) | go_size)); (focus (first | (simp only [Nat.reduceAdd, Nat.zero_add, go_sem]; (try with_reducible rfl); done) | (simp [go_sem]; (try with_reducible rfl); done)))) | (with_reducible (first | (apply reads_left; assumption) | refine reads_exh (by assumption) ?_ | refine reads_exh0 (by assumption) ?_ | apply reads_next)))); done))) rfl (ent_pu rfl (by ((repeat (first | (with_reducible (first | exact ent_refl | exact ent_emp)) | ((with_reducible apply ent_front); (focus with_reducible (repeat (first | exact ent_here | apply ent_next | exact ent_last)); done)) | (with_reducible (first | exact ent_keep | apply ent_trans ent_drop)))); done)))

theorem cut_s (c0 : World) (F : HP) (v : Value) (l : List ActD) : Spec Tryd.prog c0 10 #[v] (pu (SlR F 13 actv v l) F) (fun r => pu (SlR F 13 actv r (l.take 40)) F) := by
  intro w hq; obtain ⟨hv, hs⟩ := hq.pu; clear hq
  obtain ⟨A, c, rfl⟩ := slr_form hv hs.own
  obtain ⟨_, h2, h3, _⟩ := slr_len hv hs.own
  unfold maxLen at h3
  generalize hn : l.length = n at *
  replace hn := Lib.hid hn
  go_enter Tryd.func10, Tryd.ntmps10
  go_wp2_with fail
  all_goals go_ret
  · exact ⟨_, rfl, hs.mono (ent_pu (slr_take hv 40 (by omega)) (by ((repeat (first | (with_reducible (first | exact ent_refl | exact ent_emp)) | ((with_reducible apply ent_front); (focus with_reducible (repeat (first | exact ent_here | apply ent_next | exact ent_last)); done)) | (with_reducible (first | exact ent_keep | apply ent_trans ent_drop)))); done)))⟩
  · refine ⟨_, rfl, hs.mono (ent_pu ?_ (by ((repeat (first | (with_reducible (first | exact ent_refl | exact ent_emp)) | ((with_reducible apply ent_front); (focus with_reducible (repeat (first | exact ent_here | apply ent_next | exact ent_last)); done)) | (with_reducible (first | exact ent_keep | apply ent_trans ent_drop)))); done)))⟩
    rw [List.take_of_length_le (by have := hn.out; omega)]
    exact hv

theorem acts_s (c0 : World) (F : HP) (u v : Value) (l : List ActD) : Spec Tryd.prog c0 21 #[u, v] (pu (SlR F 13 actv u l ∧ SlR F 13 actv v l) F) (fun r => pu (r = .bool true) F) := by
  intro w hq; obtain ⟨⟨hu, hv⟩, hs⟩ := hq.pu; clear hq
  obtain ⟨A, c, rfl⟩ := slr_form hu hs.own
  obtain ⟨A', c', rfl⟩ := slr_form hv hs.own
  obtain ⟨_, h2, h3, _⟩ := slr_len hu hs.own
  unfold maxLen at h3
  generalize hn : l.length = n at *
  replace hn := Lib.hid hn
  go_enter Tryd.func21, Tryd.ntmps21
  go_wp2_with fail
  go_loopw [5] (fun i wr => ∃ k : Nat, k ≤ n ∧ i = .int .i64 k ∧ Sat c0 F wr) (fun i _ => n - (intOf i).toNat)
  case atStart => exact ⟨0, by omega, rfl, hs⟩
  case round =>
    obtain ⟨k, hk, rfl, hs⟩ := hrel
    by_cases hlt : k < n
    · obtain ⟨b, o, a, rfl, hla, hwa⟩ := slr_get hu hs.own hlt
      obtain ⟨b', o', a', rfl, hla', hwa'⟩ := slr_get hv hs.own hlt
      have : a = a' := by rw [hla] at hla'; exact Option.some.inj hla'
      subst this
      have hee := actEq_refl a
      clear hla hla' hu hv
      go_wp2_with (first
        | ((with_reducible apply wp_region_sl (G := emp) (id := 6) hs 1000); (focus (exact ent_emp_l)); (focus kernel_rfl); (focus decide +kernel); clear hs; (try clear w); intro hR w hRR hs; (try simp only [star_assoc] at hs))
        | ((with_reducible apply mix_end hRR hs); (focus with_reducible (repeat (first | exact ent_here | apply ent_next | exact ent_last)); done); clear hs; (try clear w); intro w hs; (try simp only [star_assoc, star_emp, emp_star] at hs); clear hRR hR)
        | ((with_reducible apply mx_loadN hRR); (focus (simp only [Act.eval, za, zb, zc, zd, ze, zf]; (try with_reducible rfl); done)); (with_reducible (first | exact agg_35)); (focus ((repeat (first | (with_reducible (first | assumption | exact hel _ | exact hel2 _ | exact hel3 _)) | ((with_reducible apply reads_whole); (focus (first | (with_reducible rfl) | (simp only [go_sem]; done) | (simp; done)))) | ((with_reducible apply reads_part); (focus (first | (simp [go_sem]; done) | (simp only [go_sem]; omega) | go_size)); (focus (first | (simp only [Nat.reduceAdd, Nat.zero_add, go_sem]; (try with_reducible rfl); done) | (simp [go_sem]; (try with_reducible rfl); done)))) | (with_reducible (first | (apply reads_left; assumption) | refine reads_exh (by assumption) ?_ | refine reads_exh0 (by assumption) ?_ | apply reads_next)))); done)); simp only [Act.put, zg, zh, zi])
        | ((with_reducible refine mix_float ?_ ?_ ?_ (fun h hk => ?_) ?_); rotate_left 1; (focus rfl); (focus rfl); (focus (go_simp; (try (rw [if_pos (by omega)]; (try go_simp))); (try simp (disch := omega) only [IntWalk.i64_in, IntWalk.i32_in]); (try with_reducible rfl); done)); simp only [Act.put, zg, zh, zi]))
      go_roundw
      case rel => exact ⟨k + 1, by omega, by go_num, hs⟩
      case measure => simp [intOf]; omega
    · go_wp2_with fail
      go_ret
      exact ⟨_, rfl, hs.mono (ent_pu rfl (by ((repeat (first | (with_reducible (first | exact ent_refl | exact ent_emp)) | ((with_reducible apply ent_front); (focus with_reducible (repeat (first | exact ent_here | apply ent_next | exact ent_last)); done)) | (with_reducible (first | exact ent_keep | apply ent_trans ent_drop)))); done)))⟩
end Go.Proofs.YtnbbgcdemafcoaaDoor
