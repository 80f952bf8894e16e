/- The inbox: its parts. -/
import Derived.Test.YtnbbgcdemafcoaaDoorF5
import Derived.Test.YtnbbgcdemafcoaaDoorK
set_option linter.unusedSimpArgs false
set_option linter.unusedVariables false
namespace Go.Proofs.YtnbbgcdemafcoaaDoor
open Go Go.RowKit

@[go_sem] theorem keyv_size (a b : Int) : (keyv a b).size = 2 := by unfold keyv; simp
@[go_sem] theorem keyv_flat (a b : Int) : flat (keyv a b) = true := by simp [flat, keyv, Value.oneCell']
theorem clr_act : ClearT Tryd.prog 35 := ⟨.agg (actv act0), by kernel_rfl, actv_flat _⟩
theorem ret_key {c0 w : World} {H : HP} {fn : Func} {a : Act} {p : Tmp} {post : Value → HP} {cs : Array Value} {g : Nat} (hs : Sat c0 H w) (hr : fn.results = #[.cell p 74]) (hp : a.tmps.getD p undef = .pointer (some ⟨g, 0, none⟩)) (hw : Reads H g 0 2 cs) (hdf : a.defers = []) (h : Ent H (post (.agg cs))) :
    bodyPost Tryd.prog fn (fun e w' => ∃ v, e = .returned v ∧ Sat c0 (post v) w') .ret a w :=
  ret_cell (n := 2) hr Tryd.underlying74 rfl (by kernel_rfl) g hp _ (hw w hs.own) hdf ⟨_, rfl, hs.mono h⟩
theorem named_s (c0 : World) (F : HP) (a : ActD) : Spec Tryd.prog c0 31 #[.agg (actv a)] F (fun v => pu (v = .agg (keyv a.rep a.num)) F) := by
  intro w hs
  go_enter Tryd.func31, Tryd.ntmps31
  go_wp2_with (first
        | ((with_reducible apply pl_load1 hs); (focus (simp only [Act.eval, za, zb, zc, zd, ze, zf]; (try with_reducible rfl); done)); (focus (simp only [go_sem])); (focus ((repeat (first | (with_reducible (first | assumption | exact hec _ | exact hec2 _ | exact hec3 _ | exact hec4 _ _)) | ((with_reducible apply readc_here); (focus (first | (simp only [zc, zd, ze, go_sem]; (try with_reducible rfl); done) | (go_simp; (try with_reducible rfl); done)))) | (with_reducible (first | (apply readc_left; assumption) | refine readc_exh (by assumption) ?_ | refine readc_exh0 (by assumption) ?_ | apply readc_next)))); done)); (focus rfl); simp only [Act.put, zg, zh, zi])
        | ((with_reducible apply pl_build hs); (focus (simp only [zj, zk, zl, Act.eval, za, zb, zc, zd, ze, zf]; (try with_reducible rfl); done)); (first | (with_reducible exact bld_11 _ _)); (focus rfl); simp only [Act.put, zg, zh, zi])
        | ((with_reducible apply pl_alloc hs); (with_reducible (first | exact zero_74)); clear hs; (try clear w); intro g w hs; skip; simp only [Act.put, zg, zh, zi])
        | ((with_reducible apply pl_box hs); (focus (simp only [Act.eval, za, zb, zc, zd, ze, zf]; (try with_reducible rfl); done)); (focus (first | (with_reducible (first | exact cells_agg _ | exact cells_int _ _ | exact cells_bool _ | exact cells_string _ | exact cells_slice _ _ _ | exact cells_pointer _ | exact cells_map _ | exact cells_iface _ _ | exact cells_nilIface | exact cells_func _ _ _)) | (exact cells_one (by assumption)))); clear hs; (try clear w); intro g w hs; skip; simp only [Act.put, zg, zh, zi])
        | ((with_reducible apply pl_storeN hs); (focus (simp only [Act.eval, za, zb, zc, zd, ze, zf]; (try with_reducible rfl); done)); (focus (simp only [Act.eval, za, zb, zc, zd, ze, zf]; (try with_reducible rfl); done)); (with_reducible (first | exact agg_74)); (focus with_reducible (repeat (first | exact ent_here | apply ent_next | exact ent_last)); done); (focus (first | (with_reducible rfl) | (simp only [go_sem]; done) | (simp; done))); (focus (first | (simp [go_sem]; done) | (simp only [go_sem]; omega) | go_size)); (focus (first | (simp only [go_sem]; done) | (simp [go_sem]; done))); (focus (first | ((with_reducible apply splice_whole); (focus (first | (with_reducible rfl) | (simp only [go_sem]; done) | (simp; done)))) | (simp [splice, go_sem]; done) | (simp only [go_sem]; (try with_reducible rfl); done))); clear hs; (try clear w); intro w hs; (try simp only [zg, zh, zi, clk_set, actv_set4] at hs); simp only [Act.put, zg, zh, zi]))
  exact ret_key (cs := #[.int .i64 a.rep, .int .i64 a.num]) hs rfl rfl (by (focus ((repeat (first | (with_reducible (first | assumption | exact hel _ | exact hel2 _ | exact hel3 _)) | ((with_reducible apply reads_whole); (focus (first | (with_reducible rfl) | (simp only [go_sem]; done) | (simp; done)))) | ((with_reducible apply reads_part); (focus (first | (simp [go_sem]; done) | (simp only [go_sem]; omega) | go_size)); (focus (first | (simp only [Nat.reduceAdd, Nat.zero_add, go_sem]; (try with_reducible rfl); done) | (simp [go_sem]; (try with_reducible rfl); done)))) | (with_reducible (first | (apply reads_left; assumption) | refine reads_exh (by assumption) ?_ | refine reads_exh0 (by assumption) ?_ | apply reads_next)))); done))) rfl (ent_pu rfl (by ((repeat (first | (with_reducible (first | exact ent_refl | exact ent_emp)) | ((with_reducible apply ent_front); (focus with_reducible (repeat (first | exact ent_here | apply ent_next | exact ent_last)); done)) | (with_reducible (first | exact ent_keep | apply ent_trans ent_drop)))); done)))

set_option maxHeartbeats 800000 in
theorem delete_s (c0 : World) (F : HP) (l : List ActD) (g n cap i : Nat) : Spec Tryd.prog c0 35 #[.slice (some ⟨g, 0, none⟩) n cap, .int .i64 i, .int .i64 (i + 1)]
    (pu (i < n) (row 35 13 actv (.slice (some ⟨g, 0, none⟩) n cap) l * F)) (fun r => pu (r = .slice (some ⟨g, 0, none⟩) (n - 1) cap) (row 35 13 actv (.slice (some ⟨g, 0, none⟩) (n - 1) cap) (l.eraseIdx i) * F)) := by
  intro w hq; obtain ⟨hi, hs⟩ := hq.pu; clear hq
  obtain ⟨hn, hc1, hc2⟩ := row_len hs.own
  replace hn := Lib.hid hn
  unfold maxLen at hc2
  have hq1 : i ≤ cap := by omega
  have hq2 : (0 : Int) ≤ ↑i + 1 ∧ (↑i + 1 : Int) ≤ ↑n := by omega
  have hq3 : ((i : Int) == (i : Int) + 1) = false := by simp; omega
  have hq4 : n - 1 ≤ n := by omega
  have hq5 : n - (n - 1) = 1 := by omega
  have hl2 : (l.drop (i + 1)).length = n - (i + 1) := by have := hn.out; simp; omega
  have hsl : ∀ R, SlR (row 35 13 actv (.slice (some ⟨g, 0, none⟩) n cap) l * R) 13 actv _ (l.drop (i + 1)) := fun R => slr_drop (slr_row actv_size) (i + 1) (by omega)
  have hil : i ≤ l.length := by have := hn.out; omega
  have hrl : i + (l.drop (i + 1)).length ≤ cap := by omega
  have happ : i + (l.drop (i + 1)).length = n - 1 := by omega
  clear hl2
  obtain ⟨ad, had⟩ : ∃ ad, (if cap = i + 1 then some ⟨g, 0, none⟩ else some ⟨g, (i + 1) * 13, none⟩ : Option Addr) = ad := ⟨_, rfl⟩
  rw [had] at hsl
  have hcapB : ((cap = i + 1) = True ∧ ad = some ⟨g, 0, none⟩) ∨ ((cap = i + 1) = False ∧ ad = some ⟨g, (i + 1) * 13, none⟩) := by
    by_cases hc : cap = i + 1
    · rw [if_pos hc] at had; exact .inl ⟨eq_true hc, had.symm⟩
    · rw [if_neg hc] at had; exact .inr ⟨eq_false hc, had.symm⟩
  clear had
  go_enter Tryd.func35, Tryd.ntmps35
  rcases hcapB with ⟨hcap, rfl⟩ | ⟨hcap, rfl⟩
  all_goals go_wp2_with (first
        | ((with_reducible apply wp_region_sl (G := (row _ _ _ _ _)) (id := 5) hs 1000); (focus with_reducible (repeat (first | exact ent_here | apply ent_next | exact ent_last)); done); (focus kernel_rfl); (focus decide +kernel); clear hs; (try clear w); intro hR w hRR hs; (try simp only [star_assoc] at hs))
        | ((with_reducible apply pl_clearTail hs); (with_reducible (first | exact app_22 | exact app_51 | exact app_52)); (focus (first | (with_reducible exact clr_act))); (focus (simp only [Act.eval, za, zb, zc, zd, ze, zf]; (try with_reducible rfl); done)); (focus with_reducible (repeat (first | exact ent_here | apply ent_next | exact ent_last)); done); (focus (first | (with_reducible rfl) | (simp; done))); (focus (first | (with_reducible assumption) | omega | (simp; done) | (simp; omega))); clear hs; (try clear w); intro w hs; skip; simp only [Act.put, zg, zh, zi])
        | ((with_reducible apply mix_end hRR hs); (focus with_reducible (repeat (first | exact ent_here | apply ent_next | exact ent_last)); done); clear hs; (try clear w); intro w hs; (try simp only [star_assoc, star_emp, emp_star] at hs); clear hRR hR)
        | ((with_reducible apply mx_appCut hs); (with_reducible (first | exact app_22 | exact app_51 | exact app_52)); (focus (simp only [Act.eval, za, zb, zc, zd, ze, zf]; (try with_reducible rfl); done)); (focus with_reducible (repeat (first | exact ent_here | apply ent_next | exact ent_last)); done); (focus (simp only [Act.eval, za, zb, zc, zd, ze, zf]; (try with_reducible rfl); done)); (focus (first | ((repeat (first | (with_reducible (first | assumption |  exact hsl _ | exact hsl2 _ | exact hsl3 _ _ _ | exact slr_nil | exact slr_row (fun _ => by simp only [go_sem]) | (apply slr_left; assumption))) | (with_reducible apply slr_next))); done) | ((repeat (first | (with_reducible (first | assumption |  exact hsl _ | exact hsl2 _ | exact hsl3 _ _ _ | exact slr_nil | exact slr_row (fun _ => by simp only [go_sem]) | (apply slr_left; assumption))) | (with_reducible (first | (apply slr_exh; focus assumption) | (apply slr_exh0; focus assumption) | apply slr_next)))); done))); (focus (first | (with_reducible assumption) | omega | (simp; done) | (simp; omega))); (focus (first | (with_reducible assumption) | omega | (simp; done) | (simp; omega))); (focus (intros; with_reducible (refine in_of_sat (by assumption) ?_; repeat (first | exact ent_exh_here | exact ent_last | refine ent_pu_l (fun _ => ?_) | refine ent_ex_l (fun _ => ?_) | apply ent_exh_next)); done)); clear hs; (try clear w); intro w hs; (try simp only [happ] at hs ⊢); simp only [Act.put, zg, zh, zi])
        | ((with_reducible refine mix_float ?_ ?_ ?_ (fun h hk => ?_) ?_); rotate_left 1; (focus rfl); (focus rfl); (focus (go_simp; (try (rw [if_pos (by omega)]; (try go_simp))); (try simp (disch := omega) only [IntWalk.i64_in, IntWalk.i32_in]); (try with_reducible rfl); done)); simp only [Act.put, zg, zh, zi]))
  all_goals (go_ret; simp only [za, zb, zc, zd, ze, zf])
  all_goals exact ⟨_, rfl, hs.mono (ent_pu rfl (by rw [List.eraseIdx_eq_take_drop_succ]; ((repeat (first | (with_reducible (first | exact ent_refl | exact ent_emp)) | ((with_reducible apply ent_front); (focus with_reducible (repeat (first | exact ent_here | apply ent_next | exact ent_last)); done)) | (with_reducible (first | exact ent_keep | apply ent_trans ent_drop)))); done)))⟩
end Go.Proofs.YtnbbgcdemafcoaaDoor
