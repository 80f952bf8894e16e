/- Bytes that are lent, and spoilt. -/
import Derived.Test.YtegebjflhhbmiaaDoorZQC5BQ
import Derived.Test.YtegebjflhhbmiaaDoorZQC5AW
import Derived.Test.YtegebjflhhbmiaaDoorZQC5AI
import Derived.Test.YtegebjflhhbmiaaDoorZQC5AG
set_option linter.unusedSimpArgs false
set_option linter.unusedVariables false
namespace Go.Proofs.YtegebjflhhbmiaaDoor
open Go Go.RowKit

set_option maxRecDepth 20000 in
theorem spoil_bytv_s (c0 : World) (F : HP) (v : Value) (l : List Int) : Spec Tryd.prog c0 22 #[v] (pu (l.length ≤ 140737488351232) (row 5 1 bytv v l * F)) (fun _ => F) := by
  intro w hq; obtain ⟨hl, hs⟩ := hq.pu; clear hq
  obtain ⟨A, cap, rfl, h1, h2⟩ := row_slice hs.own
  unfold maxLen at h2
  generalize hn : l.length = n at *
  replace hn := Lib.hid hn
  go_enter Tryd.func22, Tryd.ntmps22
  go_wp2_with fail
  go_loopw [2] (fun i wr => ∃ (k : Nat) (l' : List Int), k ≤ n ∧ i = .int .i64 k ∧ Hid (l'.length = n) ∧ Sat c0 (row 5 1 bytv (.slice A n cap) l' * F) wr) (fun i _ => n - (intOf i).toNat)
  case atStart => exact ⟨0, l, by omega, rfl, hn, hs⟩
  case round =>
    clear hs
    obtain ⟨k, l', hk, rfl, hn', hs⟩ := hrel
    by_cases hlt : k < n
    · have hkl : k < l'.length := by rw [hn'.out]; exact hlt
      obtain ⟨g, b, rfl, hlb, hel⟩ := row_at hs.own bytv_size hlt
      have hec : ∀ R, ReadC (row 5 1 bytv (.slice (some ⟨g, 0, none⟩) n cap) l' * R) g (k * 1) (.int .u8 b) := fun R => (hel R).cell (i := 0) (by omega) (bytv_0 b)
      rw [Nat.mul_one] at hec
      clear hel
      go_wp2_with (first
        | (((with_reducible apply pl_storeIn (i := k) (j := 0) hs); (focus (simp only [Act.eval, za, zb, zc, zd, ze, zf]; (try with_reducible rfl); done)); (focus with_reducible (repeat (first | exact ent_here | apply ent_next | exact ent_last)); done); (focus (simp only [Act.eval, za, zb, zc, zd, ze, zf]; (try with_reducible rfl); done)); (focus (simp only [go_sem])); (focus rfl); (focus omega); (focus omega); (focus (exact hlb)); (focus (exact bytv_set _ _)); (focus (exact bytv_size)); clear hs; (try clear w);  intro w hs; simp only [Act.put, zg, zh, zi]))
        | ((with_reducible apply pl_load1 hs); (focus (simp only [Act.eval, za, zb, zc, zd, ze, zf]; (try with_reducible rfl); done)); (focus (simp only [go_sem])); (focus ((repeat (first | (with_reducible (first | assumption | exact hec _ | exact hec2 _ | exact hec3 _ | exact hec4 _ _)) | ((with_reducible apply readc_here); (focus (first | (simp only [zc, zd, ze, go_sem]; (try with_reducible rfl); done) | (go_simp; (try with_reducible rfl); done)))) | (with_reducible (first | (apply readc_left; assumption) | refine readc_exh (by assumption) ?_ | refine readc_exh0 (by assumption) ?_ | apply readc_next)))); done)); (focus rfl); simp only [Act.put, zg, zh, zi]))
      go_roundw
      case rel => exact ⟨k + 1, _, by omega, by go_num, (by unfold Hid; rw [List.length_set]; exact hn'.out), hs⟩
      case measure => simp [intOf]; omega
    · go_wp2_with fail
      go_loopw [0, 3] (fun u i wr => ∃ (k : Nat) (l' : List Int), k ≤ 40 ∧ i = .int .i64 k ∧ l'.length ≤ 140737488351232 + k ∧ Sat c0 (row 5 1 bytv u l' * F) wr) (fun _ i _ => 40 - (intOf i).toNat)
      case atStart => exact ⟨0, l', by omega, rfl, by have := hn'.out; omega, hs⟩
      case round =>
        clear hs
        obtain ⟨k, l', hk, rfl, hl', hs⟩ := hrel
        obtain ⟨A', cap', rfl, h1', h2'⟩ := row_slice hs.own
        by_cases hlt : k < 40
        · go_wp2_with (first
        | ((with_reducible apply pl_bs1 hs); (with_reducible (first | exact bst_32)); (focus (simp only [Act.eval, za, zb, zc, zd, ze, zf]; (try with_reducible rfl); done)); (focus (first | (with_reducible (first | exact cells_intv _ | exact cells_bytv _ | exact cells_agg _ | exact cells_int _ _ | exact cells_bool _ | exact cells_string _ | exact cells_slice _ _ _ | exact cells_pointer _ | exact cells_map _ | exact cells_iface _ _ | exact cells_nilIface | exact cells_func _ _ _)) | (exact cells_one (by assumption)))); (focus (first | (with_reducible rfl) | (simp only [go_sem]; done) | (simp; done))); clear hs; (try clear w); intro g w hs; skip; simp only [Act.put, zg, zh, zi])
        | ((with_reducible apply pl_append1 hs); (with_reducible (first | exact app_24 | exact app_32 | exact app_45 | exact app_46 | exact app_47 | exact app_122)); (focus (simp only [Act.eval, za, zb, zc, zd, ze, zf]; (try with_reducible rfl); done)); (first | (focus with_reducible (repeat (first | exact ent_here | apply ent_next | exact ent_last)); done) | (focus (with_reducible exact ent_row_nil)) | (focus ((with_reducible apply ent_row_of_blk); (focus with_reducible (repeat (first | exact ent_here | apply ent_next | exact ent_last)); done); (focus (simp only [go_sem]))))); (focus (simp only [Act.eval, za, zb, zc, zd, ze, zf]; (try with_reducible rfl); done)); (focus ((repeat (first | (with_reducible (first | assumption | exact hel _ | exact hel2 _ | exact hel3 _)) | ((with_reducible apply reads_whole); (focus (first | (with_reducible rfl) | (simp only [go_sem]; done) | (simp; done)))) | ((with_reducible apply reads_part); (focus (first | (simp [go_sem]; done) | (simp only [go_sem]; omega) | go_size)); (focus (first | (simp only [Nat.reduceAdd, Nat.zero_add, go_sem]; (try with_reducible rfl); done) | (simp [go_sem]; (try with_reducible rfl); done)))) | (with_reducible (first | (apply reads_left; assumption) | refine reads_exh (by assumption) ?_ | refine reads_exh0 (by assumption) ?_ | apply reads_next)))); done)); (focus (first | (simp only [maxLen] at *; omega) | (simp [maxLen] at *; omega))); (focus (first | (simp only [maxLen] at *; omega) | (simp [maxLen] at *; omega))); clear hs; (try clear w); intro Ap cq w hs; skip; simp only [Act.put, zg, zh, zi]))
          go_roundw
          case rel => exact ⟨k + 1, l' ++ [_], by omega, by go_num, (by simp only [List.length_append, List.length_cons, List.length_nil]; omega), hs.mono (by ((repeat (first | (with_reducible (first | exact ent_refl | exact ent_emp)) | ((with_reducible apply ent_front); (focus with_reducible (repeat (first | exact ent_here | apply ent_next | exact ent_last)); done)) | (with_reducible (first | exact ent_keep | apply ent_trans ent_drop)))); done))⟩
          case measure => simp [intOf]; omega
        · go_wp2_with fail
          exact bodyPost_end (results_none rfl _ _ _) rfl ⟨_, rfl, hs.mono (by ((repeat (first | (with_reducible (first | exact ent_refl | exact ent_emp)) | ((with_reducible apply ent_front); (focus with_reducible (repeat (first | exact ent_here | apply ent_next | exact ent_last)); done)) | (with_reducible (first | exact ent_keep | apply ent_trans ent_drop)))); done))⟩
/-! ### alike, lent -/
end Go.Proofs.YtegebjflhhbmiaaDoor
