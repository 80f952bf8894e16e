/- Bytes that are lent, and spoilt. -/
import Derived.Test.YtdniiegnaabagaaDoorV8
set_option linter.unusedSimpArgs false
set_option linter.unusedVariables false
namespace Go.Proofs.YtdniiegnaabagaaDoor
open Go Go.RowKit

set_option maxRecDepth 20000 in
theorem spoil_bytv_s (c0 : World) (F : HP) (v : Value) (l : List Int) : Spec Tryd.prog c0 33 #[v] (pu (l.length ≤ 140737488351232) (row 5 1 bytv v l * F)) (fun _ => F) := by
  intro w hq; obtain ⟨hl, hs⟩ := hq.pu; clear hq
  obtain ⟨A, cap, rfl, h1, h2⟩ := row_slice hs.own
  unfold maxLen at h2
  generalize hn : l.length = n at *
  replace hn := Lib.hid hn
  go_enter Tryd.func33, Tryd.ntmps33
  go_wp2_with fail
  go_loopw [2] (fun i wr => ∃ (k : Nat) (l' : List Int), k ≤ n ∧ i = .int .i64 k ∧ Hid (l'.length = n) ∧ Sat c0 (row 5 1 bytv (.slice A n cap) l' * F) wr) (fun i _ => n - (intOf i).toNat)
  case atStart => exact ⟨0, l, by omega, rfl, hn, hs⟩
  case round =>
    clear hs
    obtain ⟨k, l', hk, rfl, hn', hs⟩ := hrel
    by_cases hlt : k < n
    · have hkl : k < l'.length := by rw [hn'.out]; exact hlt
      obtain ⟨g, b, rfl, hlb, hel⟩ := row_at hs.own bytv_size hlt
      have hec : ∀ R, ReadC (row 5 1 bytv (.slice (some ⟨g, 0, none⟩) n cap) l' * R) g (k * 1) (.int .u8 b) := fun R => (hel R).cell (i := 0) (by omega) (bytv_0 b)
      rw [Nat.mul_one] at hec
      clear hel
      go_wp2_with (first
        | (((with_reducible apply pl_storeIn (i := k) (j := 0) hs); (focus (simp only [Act.eval, za, zb, zc, zd, ze, zf]; (try with_reducible rfl); done)); (focus with_reducible (repeat (first | exact ent_here | apply ent_next | exact ent_last)); done); (focus (simp only [Act.eval, za, zb, zc, zd, ze, zf]; (try with_reducible rfl); done)); (focus (simp only [go_sem])); (focus rfl); (focus omega); (focus omega); (focus (exact hlb)); (focus (exact bytv_set _ _)); (focus (exact bytv_size)); clear hs; (try clear w);  intro w hs; simp only [Act.put, zg, zh, zi]))
        | ((with_reducible apply pl_load1 hs); (focus (simp only [Act.eval, za, zb, zc, zd, ze, zf]; (try with_reducible rfl); done)); (focus (simp only [go_sem])); (focus ((repeat (first | (with_reducible (first | assumption | exact hec _ | exact hec2 _ | exact hec3 _ | exact hec4 _ _)) | ((with_reducible apply readc_here); (focus (first | (simp only [zc, zd, ze, go_sem]; (try with_reducible rfl); done) | (go_simp; (try with_reducible rfl); done)))) | (with_reducible (first | (apply readc_left; assumption) | refine readc_exh (by assumption) ?_ | refine readc_exh0 (by assumption) ?_ | apply readc_next)))); done)); (focus rfl); simp only [Act.put, zg, zh, zi]))
      go_roundw
      case rel => exact ⟨k + 1, _, by omega, by go_num, (by unfold Hid; rw [List.length_set]; exact hn'.out), hs⟩
      case measure => simp [intOf]; omega
    · go_wp2_with fail
      go_loopw [0, 3] (fun u i wr => ∃ (k : Nat) (l' : List Int), k ≤ 40 ∧ i = .int .i64 k ∧ l'.length ≤ 140737488351232 + k ∧ Sat c0 (row 5 1 bytv u l' * F) wr) (fun _ i _ => 40 - (intOf i).toNat)
      case atStart => exact ⟨0, l', by omega, rfl, by have := hn'.out; omega, hs⟩
      case round =>
        clear hs
        obtain ⟨k, l', hk, rfl, hl', hs⟩ := hrel
        obtain ⟨A', cap', rfl, h1', h2'⟩ := row_slice hs.own
        by_cases hlt : k < 40
        · go_wp2_with (first
        | ((with_reducible apply pl_bs1 hs); (with_reducible (first | exact bst_25)); (focus (simp only [Act.eval, za, zb, zc, zd, ze, zf]; (try with_reducible rfl); done)); (focus (first | (with_reducible (first | exact cells_intv _ | exact cells_bytv _ | exact cells_agg _ | exact cells_int _ _ | exact cells_bool _ | exact cells_string _ | exact cells_slice _ _ _ | exact cells_pointer _ | exact cells_map _ | exact cells_iface _ _ | exact cells_nilIface | exact cells_func _ _ _)) | (exact cells_one (by assumption)))); (focus (first | (with_reducible rfl) | (simp only [go_sem]; done) | (simp; done))); clear hs; (try clear w); intro g w hs; skip; simp only [Act.put, zg, zh, zi])
        | ((with_reducible apply pl_append1 hs); (with_reducible (first | exact app_22 | exact app_25 | exact app_31 | exact app_55 | exact app_65)); (focus (simp only [Act.eval, za, zb, zc, zd, ze, zf]; (try with_reducible rfl); done)); (first | (focus with_reducible (repeat (first | exact ent_here | apply ent_next | exact ent_last)); done) | (focus (with_reducible exact ent_row_nil)) | (focus ((with_reducible apply ent_row_of_blk); (focus with_reducible (repeat (first | exact ent_here | apply ent_next | exact ent_last)); done); (focus (simp only [go_sem]))))); (focus (simp only [Act.eval, za, zb, zc, zd, ze, zf]; (try with_reducible rfl); done)); (focus ((repeat (first | (with_reducible (first | assumption | exact hel _ | exact hel2 _ | exact hel3 _)) | ((with_reducible apply reads_whole); (focus (first | (with_reducible rfl) | (simp only [go_sem]; done) | (simp; done)))) | ((with_reducible apply reads_part); (focus (first | (simp [go_sem]; done) | (simp only [go_sem]; omega) | go_size)); (focus (first | (simp only [Nat.reduceAdd, Nat.zero_add, go_sem]; (try with_reducible rfl); done) | (simp [go_sem]; (try with_reducible rfl); done)))) | (with_reducible (first | (apply reads_left; assumption) | refine reads_exh (by assumption) ?_ | refine reads_exh0 (by assumption) ?_ | apply reads_next)))); done)); (focus (first | (simp only [maxLen] at *; omega) | (simp [maxLen] at *; omega))); (focus (first | (simp only [maxLen] at *; omega) | (simp [maxLen] at *; omega))); clear hs; (try clear w); intro Ap cq w hs; skip; simp only [Act.put, zg, zh, zi]))
          go_roundw
          case rel => exact ⟨k + 1, l' ++ [_], by omega, by go_num, (by simp only [List.length_append, List.length_cons, List.length_nil]; omega), hs.mono (by ((repeat (first | (with_reducible (first | exact ent_refl | exact ent_emp)) | ((with_reducible apply ent_front); (focus with_reducible (repeat (first | exact ent_here | apply ent_next | exact ent_last)); done)) | (with_reducible (first | exact ent_keep | apply ent_trans ent_drop)))); done))⟩
          case measure => simp [intOf]; omega
        · go_wp2_with fail
          exact bodyPost_end (results_none rfl _ _ _) rfl ⟨_, rfl, hs.mono (by ((repeat (first | (with_reducible (first | exact ent_refl | exact ent_emp)) | ((with_reducible apply ent_front); (focus with_reducible (repeat (first | exact ent_here | apply ent_next | exact ent_last)); done)) | (with_reducible (first | exact ent_keep | apply ent_trans ent_drop)))); done))⟩
/-! ### alike, lent -/
/-- What is lent: a row with four marks behind. -/
def lentP (v : Value) (l : List Int) : HP := ex fun A : Option Addr => ex fun c : Nat => pu (v = .slice A l.length c) (row 5 1 bytv (.slice A (l.length + 4) c) (l ++ [201, 202, 203, 204]))
set_option maxRecDepth 20000 in
set_option maxHeartbeats 2000000 in
theorem lend_s (c0 : World) (F : HP) (v : Value) (l : List Int) : Spec Tryd.prog c0 34 #[v] (pu (SlR F 1 bytv v l ∧ l.length ≤ 1000000) F) (fun r => lentP r l * F) := by
  intro w hq; obtain ⟨⟨hsl, hl⟩, hs⟩ := hq.pu; clear hq
  obtain ⟨A, c, rfl⟩ := slr_form hsl hs.own
  go_enter Tryd.func34, Tryd.ntmps34
  go_wp2_with (first
        | ((with_reducible apply pl_bsL (enc := bytv) (s := 1) [201, 202, 203, 204] hs); (focus (intro w; go_simp; (try rfl); done)); (focus rfl); (focus rfl); (focus rfl); (focus (simp only [maxLen]; omega)); clear hs; (try clear w); intro g w hs; simp only [Act.put, zg, zh, zi])
        | ((with_reducible apply pl_bs0r hs); (with_reducible (first | exact app_25)); clear hs; (try clear w); intro g w hs; skip; simp only [Act.put, zg, zh, zi])
        | ((with_reducible apply pl_appendN hs); (with_reducible (first | exact app_22 | exact app_25 | exact app_31 | exact app_55 | exact app_65)); (focus (simp only [Act.eval, za, zb, zc, zd, ze, zf]; (try with_reducible rfl); done)); (first | (focus with_reducible (repeat (first | exact ent_here | apply ent_next | exact ent_last)); done) | (focus (with_reducible exact ent_row_nil)) | (focus ((with_reducible apply ent_row_of_blk); (focus with_reducible (repeat (first | exact ent_here | apply ent_next | exact ent_last)); done); (focus (simp only [go_sem]))))); (focus (simp only [Act.eval, za, zb, zc, zd, ze, zf]; (try with_reducible rfl); done)); (focus (first | ((repeat (first | (with_reducible (first | assumption | exact slr_ro |  exact hsl _ | exact hsl2 _ | exact hsl3 _ _ _ | exact slr_nil | exact slr_row (fun _ => by simp only [go_sem]) | exact slr_one (fun _ => by simp only [go_sem]) | (apply slr_left; assumption))) | (with_reducible apply slr_next))); done) | ((repeat (first | (with_reducible (first | assumption | exact slr_ro |  exact hsl _ | exact hsl2 _ | exact hsl3 _ _ _ | exact slr_nil | exact slr_row (fun _ => by simp only [go_sem]) | exact slr_one (fun _ => by simp only [go_sem]) | (apply slr_left; assumption))) | (with_reducible (first | (apply slr_exh; focus assumption) | (apply slr_exh0; focus assumption) | apply slr_next)))); done))); (focus (first | (simp only [maxLen] at *; omega) | (simp [maxLen] at *; omega))); (focus (first | (simp only [maxLen] at *; omega) | (simp [maxLen] at *; omega))); clear hs; (try clear w); intro Ap cq w hs; (try simp only [List.length_nil, Nat.zero_add, List.nil_append] at hs ⊢); simp only [Act.put, zg, zh, zi]))
  · obtain ⟨_, _, e1, h1, h2⟩ := row_slice hs.own
    obtain ⟨_, _, rfl⟩ := sl_inj e1
    (go_ret; simp only [za, zb, zc, zd, ze, zf])
    refine ⟨_, rfl, hs.mono (star_mono (ent_ex Ap (ent_ex cq (ent_pu rfl (by simp only [List.length_cons, List.length_nil, Nat.zero_add, Nat.reduceAdd]; exact ent_refl)))) ent_drop)⟩
  · obtain ⟨_, _, e1, h1, h2⟩ := row_slice hs.own
    obtain ⟨_, _, e2⟩ := sl_inj e1
    have hF : False := by
      simp only [List.length_append, List.length_cons, List.length_nil] at h1
      omega
    cases hF
theorem lentP_open {v : Value} {l : List Int} {F : HP} {c0 w : World} (hs : Sat c0 (lentP v l * F) w) : ∃ A c, v = .slice A l.length c ∧ l.length + 4 ≤ c ∧ c ≤ maxLen ∧ Sat c0 (row 5 1 bytv (.slice A (l.length + 4) c) (l ++ [201, 202, 203, 204]) * F) w := by
  unfold lentP at hs
  rw [ex_star] at hs
  obtain ⟨A, hs⟩ := hs.ex
  rw [ex_star] at hs
  obtain ⟨c, hs⟩ := hs.ex
  rw [pu_star] at hs
  obtain ⟨hv, hs⟩ := hs.pu
  obtain ⟨_, _, e1, h1, h2⟩ := row_slice hs.own
  obtain ⟨_, _, rfl⟩ := sl_inj e1
  exact ⟨A, c, hv, by simpa using h1, h2, hs⟩
theorem slr_lentP {v : Value} {l : List Int} : SlR (lentP v l) 1 bytv v l := fun w hw => by
  obtain ⟨A, c, rfl, h1, h2, hs⟩ := lentP_open (c0 := w) (F := emp) (w := w) ⟨rfl, rfl, rfl, hw.mono ent_last⟩
  obtain ⟨g, _, rfl, _, _⟩ := row_at (E := 5) (A := A) (n := l.length + 4) (cap := c) (i := 0) (l := l ++ [201, 202, 203, 204]) hs.own bytv_size (by omega)
  exact slr_row_take (E := 5) (s := 1) (g := g) (n := l.length + 4) (cap := c) (enc := bytv) (l := l ++ [201, 202, 203, 204]) (m := l) (k := l.length) bytv_size (by omega) List.take_left w hs.own
set_option maxRecDepth 20000 in
set_option maxHeartbeats 2000000 in
theorem intact_s (c0 : World) (F : HP) (u v : Value) (l : List Int) : Spec Tryd.prog c0 35 #[u, v] (pu (SlR F 1 bytv v l ∧ l.length ≤ 1000000) (lentP u l * F)) (fun r => pu (r = .bool true) F) := by
  intro w hq; obtain ⟨⟨hsl, hl⟩, hs⟩ := hq.pu; clear hq
  obtain ⟨A, c, rfl, h1, h2, hs⟩ := lentP_open hs
  obtain ⟨B, d, rfl⟩ := slr_form hsl (hs.own.mono ent_drop)
  unfold maxLen at h2
  have hbt : bts (l ++ [201, 202, 203, 204]) = bts l ++ ⟨#[201, 202, 203, 204]⟩ := by rw [bts_append]; rfl
  have hlm : (l ++ [201, 202, 203, 204]).length = l.length + 4 := by simp
  obtain ⟨m, hm⟩ : ∃ m, m = l ++ [201, 202, 203, 204] := ⟨_, rfl⟩
  rw [← hm] at hs hbt hlm
  replace hm := Lib.hid hm
  go_enter Tryd.func35, Tryd.ntmps35
  go_wp2_with (first
        | ((with_reducible apply pl_cvBS hs); (focus (simp only [Act.eval, za, zb, zc, zd, ze, zf]; (try with_reducible rfl); done)); (first | (with_reducible exact byt_25_9)); (focus (first | ((repeat (first | (with_reducible (first | assumption | exact slr_ro |  exact hsl _ | exact hsl2 _ | exact hsl3 _ _ _ | exact slr_nil | exact slr_row (fun _ => by simp only [go_sem]) | exact slr_one (fun _ => by simp only [go_sem]) | (apply slr_left; assumption))) | (with_reducible apply slr_next))); done) | ((repeat (first | (with_reducible (first | assumption | exact slr_ro |  exact hsl _ | exact hsl2 _ | exact hsl3 _ _ _ | exact slr_nil | exact slr_row (fun _ => by simp only [go_sem]) | exact slr_one (fun _ => by simp only [go_sem]) | (apply slr_left; assumption))) | (with_reducible (first | (apply slr_exh; focus assumption) | (apply slr_exh0; focus assumption) | apply slr_next)))); done))); (focus rfl); simp only [Act.put, zg, zh, zi]))
  · have hF : False := by
      have hbs := bts_size l
      omega
    cases hF
  go_loopw [7] (fun i wr => ∃ (k : Nat) (m' : List Int), k ≤ l.length + 4 ∧ i = .int .i64 k ∧ m'.length = l.length + 4 ∧ Sat c0 (row 5 1 bytv (.slice A (l.length + 4) c) m' * F) wr) (fun i _ => (l.length + 4) - (intOf i).toNat)
  case atStart => exact ⟨0, m, by omega, rfl, hlm, hs⟩
  case round =>
    clear hs
    obtain ⟨k, m', hk, rfl, hm', hs⟩ := hrel
    by_cases hlt : k < l.length + 4
    · have hkl : k < m'.length := by omega
      obtain ⟨g, b, rfl, hlb, hel⟩ := row_at hs.own bytv_size hlt
      clear hel
      go_wp2_with (first
        | (((with_reducible apply pl_storeIn (i := k) (j := 0) hs); (focus (simp only [Act.eval, za, zb, zc, zd, ze, zf]; (try with_reducible rfl); done)); (focus with_reducible (repeat (first | exact ent_here | apply ent_next | exact ent_last)); done); (focus (simp only [Act.eval, za, zb, zc, zd, ze, zf]; (try with_reducible rfl); done)); (focus (simp only [go_sem])); (focus rfl); (focus omega); (focus omega); (focus (exact hlb)); (focus (exact bytv_set _ _)); (focus (exact bytv_size)); clear hs; (try clear w);  intro w hs; simp only [Act.put, zg, zh, zi])))
      exact ⟨⟨k + 1, _, by omega, by go_num, (by rw [List.length_set]; exact hm'), hs⟩, by simp [intOf]; omega⟩
    · go_wp2_with fail
      (go_ret; simp only [za, zb, zc, zd, ze, zf])
      exact ⟨_, rfl, hs.mono (ent_pu rfl ent_drop)⟩
end Go.Proofs.YtdniiegnaabagaaDoor
