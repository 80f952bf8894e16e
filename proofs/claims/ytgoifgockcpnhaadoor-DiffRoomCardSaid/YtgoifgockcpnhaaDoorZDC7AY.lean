/- The document's walk: the edits, and what is common. -/
import Derived.Test.YtgoifgockcpnhaaDoorZDC7AX
import Derived.WalkMore
set_option linter.unusedSimpArgs false
set_option linter.unusedVariables false
namespace Go.Proofs.YtgoifgockcpnhaaDoor
open Go Go.RowKit

/-- A variable of a closure's that holds a row of characters. -/
def rl (gl : Nat) (l : List Int) : HP := ex fun t : SlD => pu (t.n = l.length) (blk gl (.cells #[.slice t.p t.n t.c] 33 (0, 0)) * row 21 1 runv (.slice t.p t.n t.c) l)
theorem rl_shut {gl : Nat} {A : Option Addr} {n c : Nat} {l : List Int} {F : HP} (hn : n = l.length) : Ent (blk gl (.cells #[.slice A n c] 33 (0, 0)) * (row 21 1 runv (.slice A n c) l * F)) (rl gl l * F) := by
  unfold rl
  rw [ex_star]
  refine ent_ex ⟨A, n, c⟩ ?_
  rw [pu_star, star_assoc]
  exact ent_pu hn ent_refl
theorem rl_open {gl : Nat} {l : List Int} {F : HP} {c0 w : World} (hs : Sat c0 (rl gl l * F) w) : ∃ A c, Sat c0 (blk gl (.cells #[.slice A l.length c] 33 (0, 0)) * (row 21 1 runv (.slice A l.length c) l * F)) w := by
  unfold rl at hs
  rw [ex_star] at hs
  obtain ⟨⟨A, n, c⟩, hs⟩ := hs.ex
  rw [pu_star, star_assoc] at hs
  obtain ⟨h, hs⟩ := hs.pu
  dsimp only at h hs
  subst h
  exact ⟨A, c, hs⟩
@[go_sem] theorem enter_c1 : entB Tryd.prog 34 = true := by kernel_rfl
theorem common1_s (c0 : World) (F : HP) (i j : Value) : Spec Tryd.prog c0 34 #[i, j] F (fun _ => F) := by
  intro w hs
  go_enter Tryd.func34, Tryd.ntmps34
  go_wp2_with fail
  refine bodyPost_end (results_none rfl _ _ _) rfl ?_; first | exact ⟨_, rfl, hs⟩ | exact ⟨⟨_, rfl⟩, hs⟩
theorem common2_s (c0 : World) (F : HP) (gl gx : Nat) (u : Value) (x l : List Int) (i : Nat) (j : Value) (a : Int) : Spec Tryd.prog c0 36 #[.int .i64 i, j, .pointer (some ⟨gl, 0, none⟩), .pointer (some ⟨gx, 0, none⟩)] (pu (ReadC F gx 0 u ∧ SlR F 1 runv u x ∧ x[i]? = some a ∧ l.length ≤ 10000000) (rl gl l * F)) (fun _ => rl gl (l ++ [a]) * F) := by
  intro w hq; obtain ⟨⟨hx, hu, hi, hl⟩, hs⟩ := hq.pu; clear hq
  obtain ⟨A, c, hs⟩ := rl_open hs
  obtain ⟨B, d, rfl⟩ := slr_form hu (hs.own.mono (ent_trans ent_drop ent_drop))
  have hlt : i < x.length := (List.getElem?_eq_some_iff.1 hi).1
  obtain ⟨bx, ox, ax, rfl, hxk, hcx⟩ := slr_rune hu (hs.own.mono (ent_trans ent_drop ent_drop)) hlt
  obtain rfl : ax = a := by rw [hi] at hxk; exact (Option.some.inj hxk).symm
  obtain ⟨_, hx1, hx2, _⟩ := slr_len hu (hs.own.mono (ent_trans ent_drop ent_drop))
  have hxm : (x.length : Int) ≤ 9223372036854775807 := by unfold maxLen at hx2; omega
  clear hxk hi hx1 hx2
  generalize x.length = n at *
  go_enter Tryd.func36, Tryd.ntmps36
  go_wp2_with (first
        | ((with_reducible apply wp_region_sl (G := (row _ 1 runv _ _)) (id := 0) hs 7); (focus with_reducible (repeat (first | exact ent_here | apply ent_next | exact ent_last)); done); (focus kernel_rfl); (focus decide +kernel); clear hs; (try clear w); intro hR w hRR hs; (try simp only [star_assoc] at hs))
        | ((with_reducible apply pl_store1 hs); (focus (simp only [Act.eval, za, zb, zc, zd, ze, zf]; (try with_reducible rfl); done)); (focus (simp only [Act.eval, za, zb, zc, zd, ze, zf]; (try with_reducible rfl); done)); (focus (simp only [go_sem])); (focus with_reducible (repeat (first | exact ent_here | apply ent_next | exact ent_last)); done); (focus (first | (simp [go_sem]; done) | (simp only [go_sem]; omega) | go_size)); (focus (first | (simp only [go_sem]; done) | (simp [go_sem]; done))); clear hs; (try clear w); intro w hs; (try simp only [zg, zh, zi, edt_s0, edt_s1, edt_s2, txt_s0, txt_s1, txt_s2, txt_s3, lnk_s0, lnk_s1, lnk_s2, nov_s0, nov_s1, nov_s2, intv_set, bytv_set, runv_set, slv_set] at hs); simp only [Act.put, zg, zh, zi])
        | ((with_reducible apply mix_thaw hRR hs); (focus with_reducible (repeat (first | exact ent_here | apply ent_next | exact ent_last)); done); clear hs; (try clear w); intro w hs; (try simp only [star_assoc, star_emp, emp_star] at hs); clear hRR hR)
        | ((with_reducible apply mx_load1 hRR); (focus (simp only [Act.eval, za, zb, zc, zd, ze, zf]; (try with_reducible rfl); done)); (focus (simp only [go_sem])); (focus ((repeat (first | (with_reducible (first | assumption | exact hec _ | exact hec2 _ | exact hec3 _ | exact hec4 _ _)) | ((with_reducible apply readc_here); (focus (first | (simp only [zc, zd, ze, go_sem]; (try with_reducible rfl); done) | (go_simp; (try with_reducible rfl); done)))) | (with_reducible (first | (apply readc_left; assumption) | refine readc_exh (by assumption) ?_ | refine readc_exh0 (by assumption) ?_ | apply readc_next)))); done)); simp only [Act.put, zg, zh, zi])
        | ((with_reducible apply mx_bs1 hs); (with_reducible (first | exact bst_33)); (focus (simp only [Act.eval, za, zb, zc, zd, ze, zf]; (try with_reducible rfl); done)); (focus (first | (with_reducible (first | exact cells_intv _ | exact cells_bytv _ | exact cells_runv _ | exact cells_slv _ _ _ | exact cells_agg _ | exact cells_int _ _ | exact cells_bool _ | exact cells_string _ | exact cells_slice _ _ _ | exact cells_pointer _ | exact cells_map _ | exact cells_iface _ _ | exact cells_nilIface | exact cells_func _ _ _)) | (exact cells_one (by assumption)))); (focus (first | (with_reducible rfl) | (simp only [go_sem]; done) | (simp; done))); (focus (intros; with_reducible (refine in_of_sat (by assumption) ?_; repeat (first | exact ent_exh_here | exact ent_last | refine ent_pu_l (fun _ => ?_) | refine ent_ex_l (fun _ => ?_) | apply ent_exh_next)); done)); clear hs; (try clear w); intro g w hs; skip; simp only [Act.put, zg, zh, zi])
        | ((with_reducible apply mx_append1 hs); (with_reducible (first | exact app_22 | exact app_33 | exact app_47 | exact app_48 | exact app_80 | exact app_90 | exact app_97)); (focus (simp only [Act.eval, za, zb, zc, zd, ze, zf]; (try with_reducible rfl); done)); (first | (focus with_reducible (repeat (first | exact ent_here | apply ent_next | exact ent_last)); done) | (focus (with_reducible exact ent_row_nil)) | (focus ((with_reducible apply ent_row_of_blk); (focus with_reducible (repeat (first | exact ent_here | apply ent_next | exact ent_last)); done); (focus (simp only [go_sem]))))); (focus (simp only [Act.eval, za, zb, zc, zd, ze, zf]; (try with_reducible rfl); done)); (focus ((repeat (first | (with_reducible (first | assumption | exact hel _ | exact hel2 _ | exact hel3 _)) | ((with_reducible apply reads_whole); (focus (first | (with_reducible rfl) | (simp only [go_sem]; done) | (simp; done)))) | ((with_reducible apply reads_part); (focus (first | (simp [go_sem]; done) | (simp only [go_sem]; omega) | go_size)); (focus (first | (simp only [Nat.reduceAdd, Nat.zero_add, go_sem]; (try with_reducible rfl); done) | (simp [go_sem]; (try with_reducible rfl); done)))) | (with_reducible (first | (apply reads_left; assumption) | refine reads_exh (by assumption) ?_ | refine reads_exh0 (by assumption) ?_ | apply reads_next)))); done)); (focus (first | (simp only [maxLen] at *; omega) | (simp [maxLen] at *; omega))); (focus (first | (simp only [maxLen] at *; omega) | (simp [maxLen] at *; omega))); (focus (intros; with_reducible (refine in_of_sat (by assumption) ?_; repeat (first | exact ent_exh_here | exact ent_last | refine ent_pu_l (fun _ => ?_) | refine ent_ex_l (fun _ => ?_) | apply ent_exh_next)); done)); clear hs; (try clear w); intro Ap cq w hs; skip; simp only [Act.put, zg, zh, zi])
        | ((with_reducible refine mix_float ?_ ?_ ?_ (fun h hk => ?_) ?_); rotate_left 1; (focus rfl); (focus rfl); (focus (go_simp; (try (rw [if_pos (by omega)]; (try go_simp))); (try simp (disch := omega) only [IntWalk.i64_in, IntWalk.i32_in]); (try with_reducible rfl); done)); simp only [Act.put, zg, zh, zi]))
  refine bodyPost_end (results_none rfl _ _ _) rfl ⟨⟨_, rfl⟩, hs.mono (ent_trans (by ((repeat (first | (with_reducible (first | exact ent_refl | exact ent_emp)) | ((with_reducible apply ent_front); (focus with_reducible (repeat (first | exact ent_here | apply ent_next | exact ent_last)); done)) | (with_reducible (first | exact ent_keep | apply ent_trans ent_drop)))); done)) (rl_shut (A := Ap) (n := l.length + 1) (c := cq) (by simp)))⟩
/-! ### the walk -/
theorem cmn_step_eq {x y : List Int} {i j : Nat} {a : Int} (hx : x[i]? = some a) (hy : y[j]? = some a) : cmn (x.drop i) (y.drop j) = a :: cmn (x.drop (i + 1)) (y.drop (j + 1)) := by rw [drop_get hx, drop_get hy, cmn_eq]
theorem cmn_step_x {x y : List Int} {i j : Nat} (hj : y.length = j) : cmn (x.drop i) (y.drop j) = cmn (x.drop (i + 1)) (y.drop j) := by rw [List.drop_of_length_le (l := y) (by omega), cmn_nil', cmn_nil']
theorem cmn_step_y {x y : List Int} {i j : Nat} (hi : x.length = i) : cmn (x.drop i) (y.drop j) = cmn (x.drop i) (y.drop (j + 1)) := by rw [List.drop_of_length_le (l := x) (by omega), cmn_nil, cmn_nil]
theorem cmn_step_le {x y : List Int} {i j : Nat} {a b : Int} (hx : x[i]? = some a) (hy : y[j]? = some b) (h : a ≠ b) (hd : dA x y (i + 1) j ≤ dA x y i (j + 1)) : cmn (x.drop i) (y.drop j) = cmn (x.drop (i + 1)) (y.drop j) := by
  unfold dA at hd
  rw [drop_get hx, drop_get hy] at *
  rw [cmn_ne h, if_pos hd]
theorem cmn_step_gt {x y : List Int} {i j : Nat} {a b : Int} (hx : x[i]? = some a) (hy : y[j]? = some b) (h : a ≠ b) (hd : ¬ dA x y (i + 1) j ≤ dA x y i (j + 1)) : cmn (x.drop i) (y.drop j) = cmn (x.drop i) (y.drop (j + 1)) := by
  unfold dA at hd
  rw [drop_get hx, drop_get hy] at *
  rw [cmn_ne h, if_neg hd]
set_option maxRecDepth 20000 in
set_option maxHeartbeats 4000000 in
theorem walkC_s (c0 : World) (F : HP) (gt gl gx : Nat) (u v : Value) (x y : List Int) : Spec Tryd.prog c0 35 #[.pointer (some ⟨gt, 0, none⟩), .func (.func 36) #[] #[.pointer (some ⟨gl, 0, none⟩), .pointer (some ⟨gx, 0, none⟩)], .func (.func 34) #[] #[], .func (.func 34) #[] #[]]
    (pu (TblF F gt u v x y ∧ SlR F 1 runv u x ∧ SlR F 1 runv v y ∧ ReadC F gx 0 u ∧ x.length ≤ 1000000 ∧ y.length ≤ 1000000) (rl gl [] * F)) (fun _ => rl gl (cmn x y) * F) := by
  intro w hq; obtain ⟨⟨hT, hu, hv, hgx, hxl, hyl⟩, hs⟩ := hq.pu; clear hq
  have hc0 := hT.c0
  have hc1 := hT.c1
  obtain ⟨A, c, rfl⟩ := slr_form hu (hs.own.mono ent_drop)
  obtain ⟨B, d, rfl⟩ := slr_form hv (hs.own.mono ent_drop)
  have hat := fun F i j => at_s c0 F gt (.slice A x.length c) (.slice B y.length d) x y i j
  have hcm := fun F l i j a => common2_s c0 F gl gx (.slice A x.length c) x l i (.int .i64 (j : Nat)) a
  generalize hn : x.length = n at *
  generalize hm : y.length = m at *
  replace hn := Lib.hid hn
  replace hm := Lib.hid hm
  replace hat := Lib.hid hat
  replace hcm := Lib.hid hcm
  go_enter Tryd.func35, Tryd.ntmps35
  go_step3
  go_wp2_with fail
  go_step3
  go_wp2_with fail
  go_loopw [8, 9] (fun iv jv wr => ∃ (i j : Nat) (l : List Int), i ≤ n ∧ j ≤ m ∧ iv = .int .i64 i ∧ jv = .int .i64 j ∧ l.length ≤ i ∧ Hid (l ++ cmn (x.drop i) (y.drop j) = cmn x y) ∧ Sat c0 (rl gl l * F) wr) (fun iv jv _ => (n - (intOf iv).toNat) + (m - (intOf jv).toNat))
  case atStart => exact ⟨0, 0, [], by omega, by omega, rfl, rfl, by simp, Lib.hid (by simp), hs⟩
  case round =>
    clear hs
    obtain ⟨i, j, l, hi, hj, rfl, rfl, hl, hrl, hs⟩ := hrel
    by_cases hin : i = n
    · have hiI : ¬ ((i : Int) < n) := by omega
      by_cases hjm : j = m
      · have hjI : ¬ ((j : Int) < m) := by omega
        have hfin : l = cmn x y := by
          have := hrl.out
          rwa [List.drop_of_length_le (l := x) (by have := hn.out; omega), cmn_nil, List.append_nil] at this
        replace hfin := Lib.hid hfin
        go_wp2_with (first
        | ((with_reducible apply wp_region_sl (G := emp) (id := 1) hs 1000); (focus (exact ent_emp_l)); (focus kernel_rfl); (focus decide +kernel); clear hs; (try clear w); intro hR w hRR hs; (try simp only [star_assoc] at hs))
        | ((with_reducible rewrite [pl_strike_eq]); rotate_left 1; (focus rfl))
        | ((with_reducible apply mix_end hRR hs); (focus with_reducible (repeat (first | exact ent_here | apply ent_next | exact ent_last)); done); clear hs; (try clear w); intro w hs; (try simp only [star_assoc, star_emp, emp_star] at hs); clear hRR hR)
        | ((with_reducible apply mx_load1 hRR); (focus (simp only [Act.eval, za, zb, zc, zd, ze, zf]; (try with_reducible rfl); done)); (focus (simp only [go_sem])); (focus ((repeat (first | (with_reducible (first | assumption | exact hec _ | exact hec2 _ | exact hec3 _ | exact hec4 _ _)) | ((with_reducible apply readc_here); (focus (first | (simp only [zc, zd, ze, go_sem]; (try with_reducible rfl); done) | (go_simp; (try with_reducible rfl); done)))) | (with_reducible (first | (apply readc_left; assumption) | refine readc_exh (by assumption) ?_ | refine readc_exh0 (by assumption) ?_ | apply readc_next)))); done)); simp only [Act.put, zg, zh, zi])
        | ((with_reducible refine mix_float ?_ ?_ ?_ (fun h hk => ?_) ?_); rotate_left 1; (focus rfl); (focus rfl); (focus (go_simp; (try (rw [if_pos (by omega)]; (try go_simp))); (try simp (disch := omega) only [IntWalk.i64_in, IntWalk.i32_in]); (try with_reducible rfl); done)); simp only [Act.put, zg, zh, zi]))
        refine bodyPost_end (results_none rfl _ _ _) rfl ⟨⟨_, rfl⟩, hs.mono (by rw [← hfin.out]; ((repeat (first | (with_reducible (first | exact ent_refl | exact ent_emp)) | ((with_reducible apply ent_front); (focus with_reducible (repeat (first | exact ent_here | apply ent_next | exact ent_last)); done)) | (with_reducible (first | exact ent_keep | apply ent_trans ent_drop)))); done))⟩
      · have hjI : (j : Int) < m := by omega
        have hst := cmn_step_y (y := y) (j := j) (hn.out.trans hin.symm)
        replace hst := Lib.hid hst
        go_wp2_with (first
        | ((with_reducible apply wp_region_sl (G := emp) (id := 1) hs 1000); (focus (exact ent_emp_l)); (focus kernel_rfl); (focus decide +kernel); clear hs; (try clear w); intro hR w hRR hs; (try simp only [star_assoc] at hs))
        | ((with_reducible apply wp_region_sl (G := emp) (id := 3) hs 1000); (focus (exact ent_emp_l)); (focus kernel_rfl); (focus decide +kernel); clear hs; (try clear w); intro hR w hRR hs; (try simp only [star_assoc] at hs))
        | ((with_reducible rewrite [pl_strike_eq]); rotate_left 1; (focus rfl))
        | ((with_reducible apply pl_callv hs (common1_s _ _ _ _)); (focus (simp only [Act.eval, za, zb, zc, zd, ze, zf]; (try with_reducible rfl); done)); ((((focus (simp only [zj, zk, zl, List.append_toArray, List.nil_append, List.cons_append, Act.eval, za, zb, zc, zd, ze, zf]; (try with_reducible rfl); done)); (focus ((repeat (first | (with_reducible (first | exact ent_refl | apply ent_puR)) | ((with_reducible apply ent_front); (focus with_reducible (repeat (first | exact ent_here | apply ent_next | exact ent_last)); done)) | (with_reducible (first | exact ent_keep | apply ent_trans ent_drop)) | (fail))); done)); (focus (simp only [go_sem]))))); clear hs; (try clear w); intro v w hq; (have hs := hq); clear hq; (try simp only [star_assoc, star_emp, emp_star] at hs); (try simp only [Act.put, zg, zh, zi]))
        | ((with_reducible apply mix_end hRR hs); (focus with_reducible (repeat (first | exact ent_here | apply ent_next | exact ent_last)); done); clear hs; (try clear w); intro w hs; (try simp only [star_assoc, star_emp, emp_star] at hs); clear hRR hR)
        | ((with_reducible apply mx_skip); (focus rfl); simp only [Act.put, zg, zh, zi])
        | ((with_reducible apply mx_load1 hRR); (focus (simp only [Act.eval, za, zb, zc, zd, ze, zf]; (try with_reducible rfl); done)); (focus (simp only [go_sem])); (focus ((repeat (first | (with_reducible (first | assumption | exact hec _ | exact hec2 _ | exact hec3 _ | exact hec4 _ _)) | ((with_reducible apply readc_here); (focus (first | (simp only [zc, zd, ze, go_sem]; (try with_reducible rfl); done) | (go_simp; (try with_reducible rfl); done)))) | (with_reducible (first | (apply readc_left; assumption) | refine readc_exh (by assumption) ?_ | refine readc_exh0 (by assumption) ?_ | apply readc_next)))); done)); simp only [Act.put, zg, zh, zi])
        | ((with_reducible refine mix_float ?_ ?_ ?_ (fun h hk => ?_) ?_); rotate_left 1; (focus rfl); (focus rfl); (focus (go_simp; (try (rw [if_pos (by omega)]; (try go_simp))); (try simp (disch := omega) only [IntWalk.i64_in, IntWalk.i32_in]); (try with_reducible rfl); done)); simp only [Act.put, zg, zh, zi]))
        exact ⟨⟨i, j + 1, l, by omega, by omega, rfl, congrArg (Value.int .i64) (by omega), by omega, Lib.hid (by rw [← hst.out]; exact hrl.out), hs⟩, by simp only [intOf]; omega⟩
    · have hiI : (i : Int) < n := by omega
      obtain ⟨bx, ox, ax, hA, hxk, hcx⟩ := slr_rune hu (hs.own.mono ent_drop) (show i < n by omega)
      by_cases hjm : j = m
      · have hjI : ¬ ((j : Int) < m) := by omega
        have hst := cmn_step_x (x := x) (i := i) (hm.out.trans hjm.symm)
        replace hst := Lib.hid hst
        clear hxk
        go_wp2_with (first
        | ((with_reducible apply wp_region_sl (G := emp) (id := 1) hs 1000); (focus (exact ent_emp_l)); (focus kernel_rfl); (focus decide +kernel); clear hs; (try clear w); intro hR w hRR hs; (try simp only [star_assoc] at hs))
        | ((with_reducible apply wp_region_sl (G := emp) (id := 3) hs 1000); (focus (exact ent_emp_l)); (focus kernel_rfl); (focus decide +kernel); clear hs; (try clear w); intro hR w hRR hs; (try simp only [star_assoc] at hs))
        | ((with_reducible rewrite [pl_strike_eq]); rotate_left 1; (focus rfl))
        | ((with_reducible apply pl_callv hs (common1_s _ _ _ _)); (focus (simp only [Act.eval, za, zb, zc, zd, ze, zf]; (try with_reducible rfl); done)); ((((focus (simp only [zj, zk, zl, List.append_toArray, List.nil_append, List.cons_append, Act.eval, za, zb, zc, zd, ze, zf]; (try with_reducible rfl); done)); (focus ((repeat (first | (with_reducible (first | exact ent_refl | apply ent_puR)) | ((with_reducible apply ent_front); (focus with_reducible (repeat (first | exact ent_here | apply ent_next | exact ent_last)); done)) | (with_reducible (first | exact ent_keep | apply ent_trans ent_drop)) | (fail))); done)); (focus (simp only [go_sem]))))); clear hs; (try clear w); intro v w hq; (have hs := hq); clear hq; (try simp only [star_assoc, star_emp, emp_star] at hs); (try simp only [Act.put, zg, zh, zi]))
        | ((with_reducible apply mix_end hRR hs); (focus with_reducible (repeat (first | exact ent_here | apply ent_next | exact ent_last)); done); clear hs; (try clear w); intro w hs; (try simp only [star_assoc, star_emp, emp_star] at hs); clear hRR hR)
        | ((with_reducible apply mx_strike); (focus rfl))
        | ((with_reducible apply mx_skip); (focus rfl); simp only [Act.put, zg, zh, zi])
        | ((with_reducible apply mx_load1 hRR); (focus (simp only [Act.eval, za, zb, zc, zd, ze, zf]; (try with_reducible rfl); done)); (focus (simp only [go_sem])); (focus ((repeat (first | (with_reducible (first | assumption | exact hec _ | exact hec2 _ | exact hec3 _ | exact hec4 _ _)) | ((with_reducible apply readc_here); (focus (first | (simp only [zc, zd, ze, go_sem]; (try with_reducible rfl); done) | (go_simp; (try with_reducible rfl); done)))) | (with_reducible (first | (apply readc_left; assumption) | refine readc_exh (by assumption) ?_ | refine readc_exh0 (by assumption) ?_ | apply readc_next)))); done)); simp only [Act.put, zg, zh, zi])
        | ((with_reducible refine mix_float ?_ ?_ ?_ (fun h hk => ?_) ?_); rotate_left 1; (focus rfl); (focus rfl); (focus (go_simp; (try (rw [if_pos (by omega)]; (try go_simp))); (try simp (disch := omega) only [IntWalk.i64_in, IntWalk.i32_in]); (try with_reducible rfl); done)); simp only [Act.put, zg, zh, zi]))
        exact ⟨⟨i + 1, j, l, by omega, by omega, congrArg (Value.int .i64) (by omega), rfl, by omega, Lib.hid (by rw [← hst.out]; exact hrl.out), hs⟩, by simp only [intOf]; omega⟩
      · have hjI : (j : Int) < m := by omega
        obtain ⟨by', oy, ay, hB, hyj, hcy⟩ := slr_rune hv (hs.own.mono ent_drop) (show j < m by omega)
        by_cases hab : ax = ay
        · subst hab
          have hst := cmn_step_eq hxk hyj
          have hcm2 : ∀ F, Spec Tryd.prog c0 36 #[.int .i64 i, .int .i64 j, .pointer (some ⟨gl, 0, none⟩), .pointer (some ⟨gx, 0, none⟩)] (pu (ReadC F gx 0 (.slice A n c) ∧ SlR F 1 runv (.slice A n c) x) (rl gl l * F)) (fun _ => rl gl (l ++ [ax]) * F) := fun F w hs => by
            obtain ⟨⟨h1, h2⟩, hs⟩ := hs.pu
            exact hcm.out F l i j ax w (hs.mono (ent_pu ⟨h1, h2, hxk, by omega⟩ ent_refl))
          replace hst := Lib.hid hst
          replace hxk := Lib.hid hxk
          replace hyj := Lib.hid hyj
          subst hA
          subst hB
          go_wp2_with (first
        | ((with_reducible apply wp_region_sl (G := emp) (id := 1) hs 1000); (focus (exact ent_emp_l)); (focus kernel_rfl); (focus decide +kernel); clear hs; (try clear w); intro hR w hRR hs; (try simp only [star_assoc] at hs))
        | ((with_reducible apply wp_region_sl (G := emp) (id := 3) hs 1000); (focus (exact ent_emp_l)); (focus kernel_rfl); (focus decide +kernel); clear hs; (try clear w); intro hR w hRR hs; (try simp only [star_assoc] at hs))
        | ((with_reducible apply pl_callv hs (hcm2 _)); (focus (simp only [Act.eval, za, zb, zc, zd, ze, zf]; (try with_reducible rfl); done)); ((((focus (simp only [zj, zk, zl, List.append_toArray, List.nil_append, List.cons_append, Act.eval, za, zb, zc, zd, ze, zf]; (try with_reducible rfl); done)); (focus ((repeat (first | (with_reducible (first | exact ent_refl | apply ent_puR)) | ((with_reducible apply ent_front); (focus with_reducible (repeat (first | exact ent_here | apply ent_next | exact ent_last)); done)) | (with_reducible (first | exact ent_keep | apply ent_trans ent_drop)) | (focus (first | ((repeat' (first | (with_reducible assumption) | (with_reducible apply And.intro))); done))))); done)); (focus (simp only [go_sem]))))); clear hs; (try clear w); intro v w hq; (have hs := hq); clear hq; (try simp only [star_assoc, star_emp, emp_star] at hs); (try simp only [Act.put, zg, zh, zi]))
        | ((with_reducible apply mix_end hRR hs); (focus with_reducible (repeat (first | exact ent_here | apply ent_next | exact ent_last)); done); clear hs; (try clear w); intro w hs; (try simp only [star_assoc, star_emp, emp_star] at hs); clear hRR hR)
        | ((with_reducible apply mx_strike); (focus rfl))
        | ((with_reducible apply mx_load1 hRR); (focus (simp only [Act.eval, za, zb, zc, zd, ze, zf]; (try with_reducible rfl); done)); (focus (simp only [go_sem])); (focus ((repeat (first | (with_reducible (first | assumption | exact hec _ | exact hec2 _ | exact hec3 _ | exact hec4 _ _)) | ((with_reducible apply readc_here); (focus (first | (simp only [zc, zd, ze, go_sem]; (try with_reducible rfl); done) | (go_simp; (try with_reducible rfl); done)))) | (with_reducible (first | (apply readc_left; assumption) | refine readc_exh (by assumption) ?_ | refine readc_exh0 (by assumption) ?_ | apply readc_next)))); done)); simp only [Act.put, zg, zh, zi])
        | ((with_reducible refine mix_float ?_ ?_ ?_ (fun h hk => ?_) ?_); rotate_left 1; (focus rfl); (focus rfl); (focus (go_simp; (try (rw [if_pos (by omega)]; (try go_simp))); (try simp (disch := omega) only [IntWalk.i64_in, IntWalk.i32_in]); (try with_reducible rfl); done)); simp only [Act.put, zg, zh, zi]))
          exact ⟨⟨i + 1, j + 1, l ++ [ax], by omega, by omega, congrArg (Value.int .i64) (by omega), congrArg (Value.int .i64) (by omega), by simp; omega, Lib.hid (by rw [List.append_assoc, List.singleton_append, ← hst.out]; exact hrl.out), hs⟩, by simp only [intOf]; omega⟩
        · have hne : (ax == ay) = false := by simpa using hab
          have hat1 : ∀ F, Spec Tryd.prog c0 33 #[.pointer (some ⟨gt, 0, none⟩), .int .i64 ((i : Int) + 1), .int .i64 j] (pu (TblF F gt (.slice A n c) (.slice B m d) x y) F) (fun r => pu (r = .int .i64 (dA x y (i + 1) j : Nat)) F) := fun F w hs => by
            obtain ⟨h1, hs⟩ := hs.pu
            have := hat.out F (i + 1) j w (hs.mono (ent_pu ⟨h1, by omega, by omega, by omega, by omega⟩ ent_refl))
            rwa [show ((i + 1 : Nat) : Int) = (i : Int) + 1 by omega] at this
          have hat2 : ∀ F, Spec Tryd.prog c0 33 #[.pointer (some ⟨gt, 0, none⟩), .int .i64 i, .int .i64 ((j : Int) + 1)] (pu (TblF F gt (.slice A n c) (.slice B m d) x y) F) (fun r => pu (r = .int .i64 (dA x y i (j + 1) : Nat)) F) := fun F w hs => by
            obtain ⟨h1, hs⟩ := hs.pu
            have := hat.out F i (j + 1) w (hs.mono (ent_pu ⟨h1, by omega, by omega, by omega, by omega⟩ ent_refl))
            rwa [show ((j + 1 : Nat) : Int) = (j : Int) + 1 by omega] at this
          subst hA
          subst hB
          by_cases hd : dA x y (i + 1) j ≤ dA x y i (j + 1)
          · have hst := cmn_step_le hxk hyj hab hd
            have hdI : (dA x y (i + 1) j : Int) ≤ (dA x y i (j + 1) : Int) := by omega
            replace hst := Lib.hid hst
            replace hxk := Lib.hid hxk
            replace hyj := Lib.hid hyj
            go_wp2_with (first
        | ((with_reducible apply wp_region_sl (G := emp) (id := 1) hs 1000); (focus (exact ent_emp_l)); (focus kernel_rfl); (focus decide +kernel); clear hs; (try clear w); intro hR w hRR hs; (try simp only [star_assoc] at hs))
        | ((with_reducible apply wp_region_sl (G := emp) (id := 3) hs 1000); (focus (exact ent_emp_l)); (focus kernel_rfl); (focus decide +kernel); clear hs; (try clear w); intro hR w hRR hs; (try simp only [star_assoc] at hs))
        | ((with_reducible rewrite [pl_strike_eq]); rotate_left 1; (focus rfl))
        | ((with_reducible apply pl_callv hs (common1_s _ _ _ _)); (focus (simp only [Act.eval, za, zb, zc, zd, ze, zf]; (try with_reducible rfl); done)); ((((focus (simp only [zj, zk, zl, List.append_toArray, List.nil_append, List.cons_append, Act.eval, za, zb, zc, zd, ze, zf]; (try with_reducible rfl); done)); (focus ((repeat (first | (with_reducible (first | exact ent_refl | apply ent_puR)) | ((with_reducible apply ent_front); (focus with_reducible (repeat (first | exact ent_here | apply ent_next | exact ent_last)); done)) | (with_reducible (first | exact ent_keep | apply ent_trans ent_drop)) | (fail))); done)); (focus (simp only [go_sem]))))); clear hs; (try clear w); intro v w hq; (have hs := hq); clear hq; (try simp only [star_assoc, star_emp, emp_star] at hs); (try simp only [Act.put, zg, zh, zi]))
        | ((with_reducible apply pl_call hs (hat1 _)); ((((focus (simp only [zj, zk, zl, List.append_toArray, List.nil_append, List.cons_append, Act.eval, za, zb, zc, zd, ze, zf]; (try with_reducible rfl); done)); (focus ((repeat (first | (with_reducible (first | exact ent_refl | apply ent_puR)) | ((with_reducible apply ent_front); (focus with_reducible (repeat (first | exact ent_here | apply ent_next | exact ent_last)); done)) | (with_reducible (first | exact ent_keep | apply ent_trans ent_drop)) | (focus (first | ((repeat' (first | (focus (with_reducible (repeat (first | assumption | (apply TblF.left; assumption) | refine TblF.exh (by assumption) ?_ | refine TblF.exh0 (by assumption) ?_ | exact (tblF_of (by assumption)) | apply TblF.next)); done)))); done))))); done)); (focus (simp only [go_sem]))))); clear hs; (try clear w); intro v w hq; (obtain ⟨rfl, hs⟩ := hq.pu); clear hq; (try simp only [star_assoc, star_emp, emp_star] at hs); (try simp only [Act.put, zg, zh, zi]))
        | ((with_reducible apply pl_call hs (hat2 _)); ((((focus (simp only [zj, zk, zl, List.append_toArray, List.nil_append, List.cons_append, Act.eval, za, zb, zc, zd, ze, zf]; (try with_reducible rfl); done)); (focus ((repeat (first | (with_reducible (first | exact ent_refl | apply ent_puR)) | ((with_reducible apply ent_front); (focus with_reducible (repeat (first | exact ent_here | apply ent_next | exact ent_last)); done)) | (with_reducible (first | exact ent_keep | apply ent_trans ent_drop)) | (focus (first | ((repeat' (first | (focus (with_reducible (repeat (first | assumption | (apply TblF.left; assumption) | refine TblF.exh (by assumption) ?_ | refine TblF.exh0 (by assumption) ?_ | exact (tblF_of (by assumption)) | apply TblF.next)); done)))); done))))); done)); (focus (simp only [go_sem]))))); clear hs; (try clear w); intro v w hq; (obtain ⟨rfl, hs⟩ := hq.pu); clear hq; (try simp only [star_assoc, star_emp, emp_star] at hs); (try simp only [Act.put, zg, zh, zi]))
        | ((with_reducible apply mix_end hRR hs); (focus with_reducible (repeat (first | exact ent_here | apply ent_next | exact ent_last)); done); clear hs; (try clear w); intro w hs; (try simp only [star_assoc, star_emp, emp_star] at hs); clear hRR hR)
        | ((with_reducible apply mx_strike); (focus rfl))
        | ((with_reducible apply mx_load1 hRR); (focus (simp only [Act.eval, za, zb, zc, zd, ze, zf]; (try with_reducible rfl); done)); (focus (simp only [go_sem])); (focus ((repeat (first | (with_reducible (first | assumption | exact hec _ | exact hec2 _ | exact hec3 _ | exact hec4 _ _)) | ((with_reducible apply readc_here); (focus (first | (simp only [zc, zd, ze, go_sem]; (try with_reducible rfl); done) | (go_simp; (try with_reducible rfl); done)))) | (with_reducible (first | (apply readc_left; assumption) | refine readc_exh (by assumption) ?_ | refine readc_exh0 (by assumption) ?_ | apply readc_next)))); done)); simp only [Act.put, zg, zh, zi])
        | ((with_reducible refine mix_float ?_ ?_ ?_ (fun h hk => ?_) ?_); rotate_left 1; (focus rfl); (focus rfl); (focus (go_simp; (try (rw [if_pos (by omega)]; (try go_simp))); (try simp (disch := omega) only [IntWalk.i64_in, IntWalk.i32_in]); (try with_reducible rfl); done)); simp only [Act.put, zg, zh, zi]))
            exact ⟨⟨i + 1, j, l, by omega, by omega, congrArg (Value.int .i64) (by omega), rfl, by omega, Lib.hid (by rw [← hst.out]; exact hrl.out), hs⟩, by simp only [intOf]; omega⟩
          · have hst := cmn_step_gt hxk hyj hab hd
            have hdI : ¬ ((dA x y (i + 1) j : Int) ≤ (dA x y i (j + 1) : Int)) := by omega
            replace hst := Lib.hid hst
            replace hxk := Lib.hid hxk
            replace hyj := Lib.hid hyj
            go_wp2_with (first
        | ((with_reducible apply wp_region_sl (G := emp) (id := 1) hs 1000); (focus (exact ent_emp_l)); (focus kernel_rfl); (focus decide +kernel); clear hs; (try clear w); intro hR w hRR hs; (try simp only [star_assoc] at hs))
        | ((with_reducible apply wp_region_sl (G := emp) (id := 3) hs 1000); (focus (exact ent_emp_l)); (focus kernel_rfl); (focus decide +kernel); clear hs; (try clear w); intro hR w hRR hs; (try simp only [star_assoc] at hs))
        | ((with_reducible rewrite [pl_strike_eq]); rotate_left 1; (focus rfl))
        | ((with_reducible apply pl_callv hs (common1_s _ _ _ _)); (focus (simp only [Act.eval, za, zb, zc, zd, ze, zf]; (try with_reducible rfl); done)); ((((focus (simp only [zj, zk, zl, List.append_toArray, List.nil_append, List.cons_append, Act.eval, za, zb, zc, zd, ze, zf]; (try with_reducible rfl); done)); (focus ((repeat (first | (with_reducible (first | exact ent_refl | apply ent_puR)) | ((with_reducible apply ent_front); (focus with_reducible (repeat (first | exact ent_here | apply ent_next | exact ent_last)); done)) | (with_reducible (first | exact ent_keep | apply ent_trans ent_drop)) | (fail))); done)); (focus (simp only [go_sem]))))); clear hs; (try clear w); intro v w hq; (have hs := hq); clear hq; (try simp only [star_assoc, star_emp, emp_star] at hs); (try simp only [Act.put, zg, zh, zi]))
        | ((with_reducible apply pl_call hs (hat1 _)); ((((focus (simp only [zj, zk, zl, List.append_toArray, List.nil_append, List.cons_append, Act.eval, za, zb, zc, zd, ze, zf]; (try with_reducible rfl); done)); (focus ((repeat (first | (with_reducible (first | exact ent_refl | apply ent_puR)) | ((with_reducible apply ent_front); (focus with_reducible (repeat (first | exact ent_here | apply ent_next | exact ent_last)); done)) | (with_reducible (first | exact ent_keep | apply ent_trans ent_drop)) | (focus (first | ((repeat' (first | (focus (with_reducible (repeat (first | assumption | (apply TblF.left; assumption) | refine TblF.exh (by assumption) ?_ | refine TblF.exh0 (by assumption) ?_ | exact (tblF_of (by assumption)) | apply TblF.next)); done)))); done))))); done)); (focus (simp only [go_sem]))))); clear hs; (try clear w); intro v w hq; (obtain ⟨rfl, hs⟩ := hq.pu); clear hq; (try simp only [star_assoc, star_emp, emp_star] at hs); (try simp only [Act.put, zg, zh, zi]))
        | ((with_reducible apply pl_call hs (hat2 _)); ((((focus (simp only [zj, zk, zl, List.append_toArray, List.nil_append, List.cons_append, Act.eval, za, zb, zc, zd, ze, zf]; (try with_reducible rfl); done)); (focus ((repeat (first | (with_reducible (first | exact ent_refl | apply ent_puR)) | ((with_reducible apply ent_front); (focus with_reducible (repeat (first | exact ent_here | apply ent_next | exact ent_last)); done)) | (with_reducible (first | exact ent_keep | apply ent_trans ent_drop)) | (focus (first | ((repeat' (first | (focus (with_reducible (repeat (first | assumption | (apply TblF.left; assumption) | refine TblF.exh (by assumption) ?_ | refine TblF.exh0 (by assumption) ?_ | exact (tblF_of (by assumption)) | apply TblF.next)); done)))); done))))); done)); (focus (simp only [go_sem]))))); clear hs; (try clear w); intro v w hq; (obtain ⟨rfl, hs⟩ := hq.pu); clear hq; (try simp only [star_assoc, star_emp, emp_star] at hs); (try simp only [Act.put, zg, zh, zi]))
        | ((with_reducible apply mix_end hRR hs); (focus with_reducible (repeat (first | exact ent_here | apply ent_next | exact ent_last)); done); clear hs; (try clear w); intro w hs; (try simp only [star_assoc, star_emp, emp_star] at hs); clear hRR hR)
        | ((with_reducible apply mx_strike); (focus rfl))
        | ((with_reducible apply mx_load1 hRR); (focus (simp only [Act.eval, za, zb, zc, zd, ze, zf]; (try with_reducible rfl); done)); (focus (simp only [go_sem])); (focus ((repeat (first | (with_reducible (first | assumption | exact hec _ | exact hec2 _ | exact hec3 _ | exact hec4 _ _)) | ((with_reducible apply readc_here); (focus (first | (simp only [zc, zd, ze, go_sem]; (try with_reducible rfl); done) | (go_simp; (try with_reducible rfl); done)))) | (with_reducible (first | (apply readc_left; assumption) | refine readc_exh (by assumption) ?_ | refine readc_exh0 (by assumption) ?_ | apply readc_next)))); done)); simp only [Act.put, zg, zh, zi])
        | ((with_reducible refine mix_float ?_ ?_ ?_ (fun h hk => ?_) ?_); rotate_left 1; (focus rfl); (focus rfl); (focus (go_simp; (try (rw [if_pos (by omega)]; (try go_simp))); (try simp (disch := omega) only [IntWalk.i64_in, IntWalk.i32_in]); (try with_reducible rfl); done)); simp only [Act.put, zg, zh, zi]))
            exact ⟨⟨i, j + 1, l, by omega, by omega, rfl, congrArg (Value.int .i64) (by omega), by omega, Lib.hid (by rw [← hst.out]; exact hrl.out), hs⟩, by simp only [intOf]; omega⟩
end Go.Proofs.YtgoifgockcpnhaaDoor

set_option linter.unusedSimpArgs false
set_option linter.unusedVariables false
namespace Go.Proofs.YtgoifgockcpnhaaDoor
open Go Go.RowKit

def encE (d : Ed) : EdtD := ⟨d.at_, d.er, rts d.ins⟩
theorem fl_no (a : Nat) : fl a 0 [] = [] := by unfold fl; rw [if_pos ⟨rfl, rfl⟩]
theorem fl_yes {a e : Nat} {m : List Int} (h : 0 < e ∨ 0 < m.length) : fl a e m = [⟨a, e, m⟩] := by
  unfold fl
  rw [if_neg]
  rintro ⟨rfl, rfl⟩
  simp at h
/-! steps of the edits to come -/
section
variable {x y m : List Int} {i j a e : Nat} {p q : Int}
theorem wk_step_eq (hx : x[i]? = some p) (hy : y[j]? = some p) : wk a e m (x.drop i) (y.drop j) = fl a e m ++ wk (a + m.length + 1) 0 [] (x.drop (i + 1)) (y.drop (j + 1)) := by rw [drop_get hx, drop_get hy, wk_eq]
theorem wk_step_end (hx : x.length = i) (hy : y.length = j) : wk a e m (x.drop i) (y.drop j) = fl a e m := by
  rw [List.drop_of_length_le (l := x) (by omega), List.drop_of_length_le (l := y) (by omega), wk_nil]
theorem wk_step_x (hx : x[i]? = some p) (hy : y.length = j) : wk a e m (x.drop i) (y.drop j) = wk a (e + 1) m (x.drop (i + 1)) (y.drop j) := by
  rw [drop_get hx, List.drop_of_length_le (l := y) (by omega), wk_er]
theorem wk_step_y (hx : x.length = i) (hy : y[j]? = some q) : wk a e m (x.drop i) (y.drop j) = wk a e (m ++ [q]) (x.drop i) (y.drop (j + 1)) := by
  rw [drop_get hy, List.drop_of_length_le (l := x) (by omega), wk_ins]
theorem wk_step_le (hx : x[i]? = some p) (hy : y[j]? = some q) (h : p ≠ q) (hd : dA x y (i + 1) j ≤ dA x y i (j + 1)) : wk a e m (x.drop i) (y.drop j) = wk a (e + 1) m (x.drop (i + 1)) (y.drop j) := by
  unfold dA at hd
  rw [drop_get hx, drop_get hy] at *
  rw [wk_ne h, if_pos hd]
theorem wk_step_gt (hx : x[i]? = some p) (hy : y[j]? = some q) (h : p ≠ q) (hd : ¬ dA x y (i + 1) j ≤ dA x y i (j + 1)) : wk a e m (x.drop i) (y.drop j) = wk a e (m ++ [q]) (x.drop i) (y.drop (j + 1)) := by
  unfold dA at hd
  rw [drop_get hx, drop_get hy] at *
  rw [wk_ne h, if_neg hd]
end
end Go.Proofs.YtgoifgockcpnhaaDoor
