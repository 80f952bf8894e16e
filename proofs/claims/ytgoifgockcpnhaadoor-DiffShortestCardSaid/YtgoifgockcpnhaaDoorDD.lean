/- The program's walk for Edits. -/
import Derived.Test.YtgoifgockcpnhaaDoorDC
set_option linter.unusedSimpArgs false
set_option linter.unusedVariables false
namespace Go.Proofs.YtgoifgockcpnhaaDoor
open Go Go.RowKit

set_option maxRecDepth 20000 in
set_option maxHeartbeats 4000000 in
theorem walkE_s (c0 : World) (F : HP) (gt gl go ge gy : Nat) (u v : Value) (x y : List Int) : Spec Tryd.prog c0 35 #[.pointer (some ⟨gt, 0, none⟩), .func (.func 38) #[] #[.pointer (some ⟨go, 0, none⟩)], .func (.func 39) #[] #[.pointer (some ⟨ge, 0, none⟩)], .func (.func 40) #[] #[.pointer (some ⟨ge, 0, none⟩), .pointer (some ⟨gy, 0, none⟩)]]
    (pu (TblF F gt u v x y ∧ SlR F 1 runv u x ∧ SlR F 1 runv v y ∧ ReadC F ge 0 (edV gl go) ∧ ReadC F gy 0 v ∧ x.length ≤ 1000000 ∧ y.length ≤ 1000000 ∧ (∀ c, c ∈ y → RuneI c)) (el gl go [] false * F)) (fun _ => ex fun b : Bool => el gl go ((wk 0 0 [] x y).map encE) b * F) := by
  intro w hq; obtain ⟨⟨hT, hu, hv, hge, hgy, hxl, hyl, hyI⟩, hs⟩ := hq.pu; clear hq
  have hc0 := hT.c0
  have hc1 := hT.c1
  obtain ⟨A, c, rfl⟩ := slr_form hu (hs.own.mono ent_drop)
  obtain ⟨B, d, rfl⟩ := slr_form hv (hs.own.mono ent_drop)
  have hat := fun F i j => at_s c0 F gt (.slice A x.length c) (.slice B y.length d) x y i j
  generalize hn : x.length = n at *
  generalize hm : y.length = m at *
  replace hn := Lib.hid hn
  replace hm := Lib.hid hm
  replace hat := Lib.hid hat
  replace hyI := Lib.hid hyI
  go_enter Tryd.func35, Tryd.ntmps35
  go_step3
  go_wp2_with fail
  go_step3
  go_wp2_with fail
  go_loopw [8, 9] (fun iv jv wr => ∃ (i j a e : Nat) (q : List Int) (E : List Ed), i ≤ n ∧ j ≤ m ∧ iv = .int .i64 i ∧ jv = .int .i64 j ∧ j = a + q.length ∧ e ≤ i ∧ E.length ≤ i + j ∧ (∀ c, c ∈ q → RuneI c) ∧ Hid (E ++ wk a e q (x.drop i) (y.drop j) = wk 0 0 [] x y) ∧ (0 < e ∨ 0 < q.length → E.length < i + j) ∧ Sat c0 (elE gl go E a e q * F) wr) (fun iv jv _ => (n - (intOf iv).toNat) + (m - (intOf jv).toNat))
  case atStart => exact ⟨0, 0, 0, 0, [], [], by omega, by omega, rfl, rfl, rfl, by omega, by simp, by simp, Lib.hid (by simp), by simp, hs⟩
  case round =>
    clear hs
    obtain ⟨i, j, a, e, q, E, hi, hj, rfl, rfl, hja, hei, hEl, hqI, hre, hEp, hs⟩ := hrel
    replace hja := Lib.hid hja
    have hql : q.length ≤ 1000000 := by have := hja.out; omega
    have her : ∀ F iv, Spec Tryd.prog c0 39 #[iv, .int .i64 j, .pointer (some ⟨ge, 0, none⟩)] (pu (ReadC F ge 0 (edV gl go)) (elE gl go E a e q * F)) (fun _ => elE gl go E a (e + 1) q * F) := fun F iv => eraseE_s c0 F gl go ge E a e j q iv hja.out (by omega) (by omega)
    have hbo := fun F iv jv => bothE_s c0 F gl go E a e (j + 1) q iv jv
    have hfll : (E ++ fl a e q).length ≤ i + j := by
      by_cases hp : 0 < e ∨ 0 < q.length
      · rw [fl_yes hp, List.length_append]; have := hEp hp; simp; omega
      · obtain ⟨h1, h2, _⟩ := pendB_no hp; rw [h1, h2, fl_no, List.append_nil]; exact hEl
    clear hEp
    by_cases hin : i = n
    · have hiI : ¬ ((i : Int) < n) := by omega
      by_cases hjm : j = m
      · have hjI : ¬ ((j : Int) < m) := by omega
        have hfin : E ++ fl a e q = wk 0 0 [] x y := by
          have := hre.out
          rwa [wk_step_end (hn.out.trans hin.symm) (hm.out.trans hjm.symm)] at this
        replace hfin := Lib.hid hfin
        go_wp2_with (first
        | ((with_reducible apply wp_region_sl (G := emp) (id := 1) hs 1000); (focus (exact ent_emp_l)); (focus kernel_rfl); (focus decide +kernel); clear hs; (try clear w); intro hR w hRR hs; (try simp only [star_assoc] at hs))
        | ((with_reducible rewrite [pl_strike_eq]); rotate_left 1; (focus rfl))
        | ((with_reducible apply mix_end hRR hs); (focus with_reducible (repeat (first | exact ent_here | apply ent_next | exact ent_last)); done); clear hs; (try clear w); intro w hs; (try simp only [star_assoc, star_emp, emp_star] at hs); clear hRR hR)
        | ((with_reducible apply mx_load1 hRR); (focus (simp only [Act.eval, za, zb, zc, zd, ze, zf]; (try with_reducible rfl); done)); (focus (simp only [go_sem])); (focus ((repeat (first | (with_reducible (first | assumption | exact hec _ | exact hec2 _ | exact hec3 _ | exact hec4 _ _)) | ((with_reducible apply readc_here); (focus (first | (simp only [zc, zd, ze, go_sem]; (try with_reducible rfl); done) | (go_simp; (try with_reducible rfl); done)))) | (with_reducible (first | (apply readc_left; assumption) | refine readc_exh (by assumption) ?_ | refine readc_exh0 (by assumption) ?_ | apply readc_next)))); done)); simp only [Act.put, zg, zh, zi])
        | ((with_reducible refine mix_float ?_ ?_ ?_ (fun h hk => ?_) ?_); rotate_left 1; (focus rfl); (focus rfl); (focus (go_simp; (try (rw [if_pos (by omega)]; (try go_simp))); (try simp (disch := omega) only [IntWalk.i64_in, IntWalk.i32_in]); (try with_reducible rfl); done)); simp only [Act.put, zg, zh, zi]))
        refine bodyPost_end (results_none rfl _ _ _) rfl ?_; have hfn : Sat c0 (ex fun b : Bool => el gl go ((wk 0 0 [] x y).map encE) b * F) _ := hs.mono (by rw [← hfin.out]; exact ent_ex (pendB e q) ent_refl); first | exact ⟨_, rfl, hfn⟩ | exact ⟨⟨_, rfl⟩, hfn⟩
      · have hjI : (j : Int) < m := by omega
        obtain ⟨by', oy, ay, hB, hyj, hcy⟩ := slr_rune hv (hs.own.mono ent_drop) (show j < m by omega)
        have hst := wk_step_y (x := x) (m := q) (a := a) (e := e) (hn.out.trans hin.symm) hyj
        have hins : ∀ F iv, Spec Tryd.prog c0 40 #[iv, .int .i64 j, .pointer (some ⟨ge, 0, none⟩), .pointer (some ⟨gy, 0, none⟩)] (pu (ReadC F ge 0 (edV gl go) ∧ ReadC F gy 0 (.slice B m d) ∧ SlR F 1 runv (.slice B m d) y) (elE gl go E a e q * F)) (fun _ => elE gl go E a e (q ++ [ay]) * F) := fun F iv w hs => by
          obtain ⟨⟨h1, h2, h3⟩, hs⟩ := hs.pu
          exact insertE_s c0 F gl go ge gy _ y E a e j q ay iv hja.out (by omega) (by omega) hqI (hyI.out ay (List.mem_of_getElem? hyj)) w (hs.mono (ent_pu ⟨h1, h2, h3, hyj⟩ ent_refl))
        replace hst := Lib.hid hst
        replace hyj := Lib.hid hyj
        subst hB
        go_wp2_with (first
        | ((with_reducible apply wp_region_sl (G := emp) (id := 1) hs 1000); (focus (exact ent_emp_l)); (focus kernel_rfl); (focus decide +kernel); clear hs; (try clear w); intro hR w hRR hs; (try simp only [star_assoc] at hs))
        | ((with_reducible apply wp_region_sl (G := emp) (id := 3) hs 1000); (focus (exact ent_emp_l)); (focus kernel_rfl); (focus decide +kernel); clear hs; (try clear w); intro hR w hRR hs; (try simp only [star_assoc] at hs))
        | ((with_reducible rewrite [pl_strike_eq]); rotate_left 1; (focus rfl))
        | ((with_reducible apply pl_callv hs (hins _ _)); (focus (simp only [Act.eval, za, zb, zc, zd, ze, zf]; (try with_reducible rfl); done)); ((((focus (simp only [zj, zk, zl, List.append_toArray, List.nil_append, List.cons_append, Act.eval, za, zb, zc, zd, ze, zf]; (try with_reducible rfl); done)); (focus ((repeat (first | (with_reducible (first | exact ent_refl | apply ent_puR)) | ((with_reducible apply ent_front); (focus with_reducible (repeat (first | exact ent_here | apply ent_next | exact ent_last)); done)) | (with_reducible (first | exact ent_keep | apply ent_trans ent_drop)) | (focus (first | ((repeat' (first | (with_reducible assumption) | (with_reducible apply And.intro))); done))))); done)); (focus (simp only [go_sem]))))); clear hs; (try clear w); intro v w hq; (have hs := hq); clear hq; (try simp only [star_assoc, star_emp, emp_star] at hs); (try simp only [Act.put, zg, zh, zi]))
        | ((with_reducible apply mix_end hRR hs); (focus with_reducible (repeat (first | exact ent_here | apply ent_next | exact ent_last)); done); clear hs; (try clear w); intro w hs; (try simp only [star_assoc, star_emp, emp_star] at hs); clear hRR hR)
        | ((with_reducible apply mx_skip); (focus rfl); simp only [Act.put, zg, zh, zi])
        | ((with_reducible apply mx_load1 hRR); (focus (simp only [Act.eval, za, zb, zc, zd, ze, zf]; (try with_reducible rfl); done)); (focus (simp only [go_sem])); (focus ((repeat (first | (with_reducible (first | assumption | exact hec _ | exact hec2 _ | exact hec3 _ | exact hec4 _ _)) | ((with_reducible apply readc_here); (focus (first | (simp only [zc, zd, ze, go_sem]; (try with_reducible rfl); done) | (go_simp; (try with_reducible rfl); done)))) | (with_reducible (first | (apply readc_left; assumption) | refine readc_exh (by assumption) ?_ | refine readc_exh0 (by assumption) ?_ | apply readc_next)))); done)); simp only [Act.put, zg, zh, zi])
        | ((with_reducible refine mix_float ?_ ?_ ?_ (fun h hk => ?_) ?_); rotate_left 1; (focus rfl); (focus rfl); (focus (go_simp; (try (rw [if_pos (by omega)]; (try go_simp))); (try simp (disch := omega) only [IntWalk.i64_in, IntWalk.i32_in]); (try with_reducible rfl); done)); simp only [Act.put, zg, zh, zi]))
        exact ⟨⟨i, j + 1, a, e, q ++ [ay], E, by omega, by omega, rfl, congrArg (Value.int .i64) (by omega), by have := hja.out; simp; omega, by omega, by omega, fun z hz => (List.mem_append.1 hz).elim (hqI z) (fun h => by rw [List.mem_singleton] at h; subst h; exact hyI.out _ (List.mem_of_getElem? hyj.out)), Lib.hid (by rw [← hst.out]; exact hre.out), fun _ => by omega, hs⟩, by simp only [intOf]; omega⟩
    · have hiI : (i : Int) < n := by omega
      obtain ⟨bx, ox, ax, hA, hxk, hcx⟩ := slr_rune hu (hs.own.mono ent_drop) (show i < n by omega)
      by_cases hjm : j = m
      · have hjI : ¬ ((j : Int) < m) := by omega
        have hst := wk_step_x (y := y) (m := q) (a := a) (e := e) hxk (hm.out.trans hjm.symm)
        replace hst := Lib.hid hst
        clear hxk
        go_wp2_with (first
        | ((with_reducible apply wp_region_sl (G := emp) (id := 1) hs 1000); (focus (exact ent_emp_l)); (focus kernel_rfl); (focus decide +kernel); clear hs; (try clear w); intro hR w hRR hs; (try simp only [star_assoc] at hs))
        | ((with_reducible apply wp_region_sl (G := emp) (id := 3) hs 1000); (focus (exact ent_emp_l)); (focus kernel_rfl); (focus decide +kernel); clear hs; (try clear w); intro hR w hRR hs; (try simp only [star_assoc] at hs))
        | ((with_reducible rewrite [pl_strike_eq]); rotate_left 1; (focus rfl))
        | ((with_reducible apply pl_callv hs (her _ _)); (focus (simp only [Act.eval, za, zb, zc, zd, ze, zf]; (try with_reducible rfl); done)); ((((focus (simp only [zj, zk, zl, List.append_toArray, List.nil_append, List.cons_append, Act.eval, za, zb, zc, zd, ze, zf]; (try with_reducible rfl); done)); (focus ((repeat (first | (with_reducible (first | exact ent_refl | apply ent_puR)) | ((with_reducible apply ent_front); (focus with_reducible (repeat (first | exact ent_here | apply ent_next | exact ent_last)); done)) | (with_reducible (first | exact ent_keep | apply ent_trans ent_drop)) | (focus (first | (with_reducible assumption))))); done)); (focus (simp only [go_sem]))))); clear hs; (try clear w); intro v w hq; (have hs := hq); clear hq; (try simp only [star_assoc, star_emp, emp_star] at hs); (try simp only [Act.put, zg, zh, zi]))
        | ((with_reducible apply mix_end hRR hs); (focus with_reducible (repeat (first | exact ent_here | apply ent_next | exact ent_last)); done); clear hs; (try clear w); intro w hs; (try simp only [star_assoc, star_emp, emp_star] at hs); clear hRR hR)
        | ((with_reducible apply mx_strike); (focus rfl))
        | ((with_reducible apply mx_skip); (focus rfl); simp only [Act.put, zg, zh, zi])
        | ((with_reducible apply mx_load1 hRR); (focus (simp only [Act.eval, za, zb, zc, zd, ze, zf]; (try with_reducible rfl); done)); (focus (simp only [go_sem])); (focus ((repeat (first | (with_reducible (first | assumption | exact hec _ | exact hec2 _ | exact hec3 _ | exact hec4 _ _)) | ((with_reducible apply readc_here); (focus (first | (simp only [zc, zd, ze, go_sem]; (try with_reducible rfl); done) | (go_simp; (try with_reducible rfl); done)))) | (with_reducible (first | (apply readc_left; assumption) | refine readc_exh (by assumption) ?_ | refine readc_exh0 (by assumption) ?_ | apply readc_next)))); done)); simp only [Act.put, zg, zh, zi])
        | ((with_reducible refine mix_float ?_ ?_ ?_ (fun h hk => ?_) ?_); rotate_left 1; (focus rfl); (focus rfl); (focus (go_simp; (try (rw [if_pos (by omega)]; (try go_simp))); (try simp (disch := omega) only [IntWalk.i64_in, IntWalk.i32_in]); (try with_reducible rfl); done)); simp only [Act.put, zg, zh, zi]))
        exact ⟨⟨i + 1, j, a, e + 1, q, E, by omega, by omega, congrArg (Value.int .i64) (by omega), rfl, hja.out, by omega, by omega, hqI, Lib.hid (by rw [← hst.out]; exact hre.out), fun _ => by omega, hs⟩, by simp only [intOf]; omega⟩
      · have hjI : (j : Int) < m := by omega
        obtain ⟨by', oy, ay, hB, hyj, hcy⟩ := slr_rune hv (hs.own.mono ent_drop) (show j < m by omega)
        by_cases hab : ax = ay
        · subst hab
          have hst := wk_step_eq (m := q) (a := a) (e := e) hxk hyj
          rw [← hja.out] at hst
          replace hst := Lib.hid hst
          replace hxk := Lib.hid hxk
          replace hyj := Lib.hid hyj
          subst hA
          subst hB
          go_wp2_with (first
        | ((with_reducible apply wp_region_sl (G := emp) (id := 1) hs 1000); (focus (exact ent_emp_l)); (focus kernel_rfl); (focus decide +kernel); clear hs; (try clear w); intro hR w hRR hs; (try simp only [star_assoc] at hs))
        | ((with_reducible apply wp_region_sl (G := emp) (id := 3) hs 1000); (focus (exact ent_emp_l)); (focus kernel_rfl); (focus decide +kernel); clear hs; (try clear w); intro hR w hRR hs; (try simp only [star_assoc] at hs))
        | ((with_reducible apply pl_callv hs (hbo _ _ _)); (focus (simp only [Act.eval, za, zb, zc, zd, ze, zf]; (try with_reducible rfl); done)); ((((focus (simp only [zj, zk, zl, List.append_toArray, List.nil_append, List.cons_append, Act.eval, za, zb, zc, zd, ze, zf]; (try with_reducible rfl); done)); (focus ((repeat (first | (with_reducible (first | exact ent_refl | apply ent_puR)) | ((with_reducible apply ent_front); (focus with_reducible (repeat (first | exact ent_here | apply ent_next | exact ent_last)); done)) | (with_reducible (first | exact ent_keep | apply ent_trans ent_drop)) | (fail))); done)); (focus (simp only [go_sem]))))); clear hs; (try clear w); intro v w hq; (have hs := hq); clear hq; (try simp only [star_assoc, star_emp, emp_star] at hs); (try simp only [Act.put, zg, zh, zi]))
        | ((with_reducible apply mix_end hRR hs); (focus with_reducible (repeat (first | exact ent_here | apply ent_next | exact ent_last)); done); clear hs; (try clear w); intro w hs; (try simp only [star_assoc, star_emp, emp_star] at hs); clear hRR hR)
        | ((with_reducible apply mx_strike); (focus rfl))
        | ((with_reducible apply mx_load1 hRR); (focus (simp only [Act.eval, za, zb, zc, zd, ze, zf]; (try with_reducible rfl); done)); (focus (simp only [go_sem])); (focus ((repeat (first | (with_reducible (first | assumption | exact hec _ | exact hec2 _ | exact hec3 _ | exact hec4 _ _)) | ((with_reducible apply readc_here); (focus (first | (simp only [zc, zd, ze, go_sem]; (try with_reducible rfl); done) | (go_simp; (try with_reducible rfl); done)))) | (with_reducible (first | (apply readc_left; assumption) | refine readc_exh (by assumption) ?_ | refine readc_exh0 (by assumption) ?_ | apply readc_next)))); done)); simp only [Act.put, zg, zh, zi])
        | ((with_reducible refine mix_float ?_ ?_ ?_ (fun h hk => ?_) ?_); rotate_left 1; (focus rfl); (focus rfl); (focus (go_simp; (try (rw [if_pos (by omega)]; (try go_simp))); (try simp (disch := omega) only [IntWalk.i64_in, IntWalk.i32_in]); (try with_reducible rfl); done)); simp only [Act.put, zg, zh, zi]))
          exact ⟨⟨i + 1, j + 1, j + 1, 0, [], E ++ fl a e q, by omega, by omega, congrArg (Value.int .i64) (by omega), congrArg (Value.int .i64) (by omega), by simp, by omega, by omega, by simp, Lib.hid (by rw [List.append_assoc, ← hst.out]; exact hre.out), by simp, hs⟩, by simp only [intOf]; omega⟩
        · have hne : (ax == ay) = false := by simpa using hab
          have hat1 : ∀ F, Spec Tryd.prog c0 33 #[.pointer (some ⟨gt, 0, none⟩), .int .i64 ((i : Int) + 1), .int .i64 j] (pu (TblF F gt (.slice A n c) (.slice B m d) x y) F) (fun r => pu (r = .int .i64 (dA x y (i + 1) j : Nat)) F) := fun F w hs => by
            obtain ⟨h1, hs⟩ := hs.pu
            have := hat.out F (i + 1) j w (hs.mono (ent_pu ⟨h1, by omega, by omega, by omega, by omega⟩ ent_refl))
            rwa [show ((i + 1 : Nat) : Int) = (i : Int) + 1 by omega] at this
          have hat2 : ∀ F, Spec Tryd.prog c0 33 #[.pointer (some ⟨gt, 0, none⟩), .int .i64 i, .int .i64 ((j : Int) + 1)] (pu (TblF F gt (.slice A n c) (.slice B m d) x y) F) (fun r => pu (r = .int .i64 (dA x y i (j + 1) : Nat)) F) := fun F w hs => by
            obtain ⟨h1, hs⟩ := hs.pu
            have := hat.out F i (j + 1) w (hs.mono (ent_pu ⟨h1, by omega, by omega, by omega, by omega⟩ ent_refl))
            rwa [show ((j + 1 : Nat) : Int) = (j : Int) + 1 by omega] at this
          have hins : ∀ F iv, Spec Tryd.prog c0 40 #[iv, .int .i64 j, .pointer (some ⟨ge, 0, none⟩), .pointer (some ⟨gy, 0, none⟩)] (pu (ReadC F ge 0 (edV gl go) ∧ ReadC F gy 0 (.slice B m d) ∧ SlR F 1 runv (.slice B m d) y) (elE gl go E a e q * F)) (fun _ => elE gl go E a e (q ++ [ay]) * F) := fun F iv w hs => by
            obtain ⟨⟨h1, h2, h3⟩, hs⟩ := hs.pu
            exact insertE_s c0 F gl go ge gy _ y E a e j q ay iv hja.out (by omega) (by omega) hqI (hyI.out ay (List.mem_of_getElem? hyj)) w (hs.mono (ent_pu ⟨h1, h2, h3, hyj⟩ ent_refl))
          subst hA
          subst hB
          by_cases hd : dA x y (i + 1) j ≤ dA x y i (j + 1)
          · have hst := wk_step_le (m := q) (a := a) (e := e) hxk hyj hab hd
            have hdI : (dA x y (i + 1) j : Int) ≤ (dA x y i (j + 1) : Int) := by omega
            replace hst := Lib.hid hst
            replace hxk := Lib.hid hxk
            replace hyj := Lib.hid hyj
            go_wp2_with (first
        | ((with_reducible apply wp_region_sl (G := emp) (id := 1) hs 1000); (focus (exact ent_emp_l)); (focus kernel_rfl); (focus decide +kernel); clear hs; (try clear w); intro hR w hRR hs; (try simp only [star_assoc] at hs))
        | ((with_reducible apply wp_region_sl (G := emp) (id := 3) hs 1000); (focus (exact ent_emp_l)); (focus kernel_rfl); (focus decide +kernel); clear hs; (try clear w); intro hR w hRR hs; (try simp only [star_assoc] at hs))
        | ((with_reducible rewrite [pl_strike_eq]); rotate_left 1; (focus rfl))
        | ((with_reducible apply pl_callv hs (her _ _)); (focus (simp only [Act.eval, za, zb, zc, zd, ze, zf]; (try with_reducible rfl); done)); ((((focus (simp only [zj, zk, zl, List.append_toArray, List.nil_append, List.cons_append, Act.eval, za, zb, zc, zd, ze, zf]; (try with_reducible rfl); done)); (focus ((repeat (first | (with_reducible (first | exact ent_refl | apply ent_puR)) | ((with_reducible apply ent_front); (focus with_reducible (repeat (first | exact ent_here | apply ent_next | exact ent_last)); done)) | (with_reducible (first | exact ent_keep | apply ent_trans ent_drop)) | (focus (first | (with_reducible assumption))))); done)); (focus (simp only [go_sem]))))); clear hs; (try clear w); intro v w hq; (have hs := hq); clear hq; (try simp only [star_assoc, star_emp, emp_star] at hs); (try simp only [Act.put, zg, zh, zi]))
        | ((with_reducible apply pl_call hs (hat1 _)); ((((focus (simp only [zj, zk, zl, List.append_toArray, List.nil_append, List.cons_append, Act.eval, za, zb, zc, zd, ze, zf]; (try with_reducible rfl); done)); (focus ((repeat (first | (with_reducible (first | exact ent_refl | apply ent_puR)) | ((with_reducible apply ent_front); (focus with_reducible (repeat (first | exact ent_here | apply ent_next | exact ent_last)); done)) | (with_reducible (first | exact ent_keep | apply ent_trans ent_drop)) | (focus (first | ((repeat' (first | (focus (with_reducible (repeat (first | assumption | (apply TblF.left; assumption) | refine TblF.exh (by assumption) ?_ | refine TblF.exh0 (by assumption) ?_ | exact (tblF_of (by assumption)) | apply TblF.next)); done)))); done))))); done)); (focus (simp only [go_sem]))))); clear hs; (try clear w); intro v w hq; (obtain ⟨rfl, hs⟩ := hq.pu); clear hq; (try simp only [star_assoc, star_emp, emp_star] at hs); (try simp only [Act.put, zg, zh, zi]))
        | ((with_reducible apply pl_call hs (hat2 _)); ((((focus (simp only [zj, zk, zl, List.append_toArray, List.nil_append, List.cons_append, Act.eval, za, zb, zc, zd, ze, zf]; (try with_reducible rfl); done)); (focus ((repeat (first | (with_reducible (first | exact ent_refl | apply ent_puR)) | ((with_reducible apply ent_front); (focus with_reducible (repeat (first | exact ent_here | apply ent_next | exact ent_last)); done)) | (with_reducible (first | exact ent_keep | apply ent_trans ent_drop)) | (focus (first | ((repeat' (first | (focus (with_reducible (repeat (first | assumption | (apply TblF.left; assumption) | refine TblF.exh (by assumption) ?_ | refine TblF.exh0 (by assumption) ?_ | exact (tblF_of (by assumption)) | apply TblF.next)); done)))); done))))); done)); (focus (simp only [go_sem]))))); clear hs; (try clear w); intro v w hq; (obtain ⟨rfl, hs⟩ := hq.pu); clear hq; (try simp only [star_assoc, star_emp, emp_star] at hs); (try simp only [Act.put, zg, zh, zi]))
        | ((with_reducible apply mix_end hRR hs); (focus with_reducible (repeat (first | exact ent_here | apply ent_next | exact ent_last)); done); clear hs; (try clear w); intro w hs; (try simp only [star_assoc, star_emp, emp_star] at hs); clear hRR hR)
        | ((with_reducible apply mx_strike); (focus rfl))
        | ((with_reducible apply mx_load1 hRR); (focus (simp only [Act.eval, za, zb, zc, zd, ze, zf]; (try with_reducible rfl); done)); (focus (simp only [go_sem])); (focus ((repeat (first | (with_reducible (first | assumption | exact hec _ | exact hec2 _ | exact hec3 _ | exact hec4 _ _)) | ((with_reducible apply readc_here); (focus (first | (simp only [zc, zd, ze, go_sem]; (try with_reducible rfl); done) | (go_simp; (try with_reducible rfl); done)))) | (with_reducible (first | (apply readc_left; assumption) | refine readc_exh (by assumption) ?_ | refine readc_exh0 (by assumption) ?_ | apply readc_next)))); done)); simp only [Act.put, zg, zh, zi])
        | ((with_reducible refine mix_float ?_ ?_ ?_ (fun h hk => ?_) ?_); rotate_left 1; (focus rfl); (focus rfl); (focus (go_simp; (try (rw [if_pos (by omega)]; (try go_simp))); (try simp (disch := omega) only [IntWalk.i64_in, IntWalk.i32_in]); (try with_reducible rfl); done)); simp only [Act.put, zg, zh, zi]))
            exact ⟨⟨i + 1, j, a, e + 1, q, E, by omega, by omega, congrArg (Value.int .i64) (by omega), rfl, hja.out, by omega, by omega, hqI, Lib.hid (by rw [← hst.out]; exact hre.out), fun _ => by omega, hs⟩, by simp only [intOf]; omega⟩
          · have hst := wk_step_gt (m := q) (a := a) (e := e) hxk hyj hab hd
            have hdI : ¬ ((dA x y (i + 1) j : Int) ≤ (dA x y i (j + 1) : Int)) := by omega
            replace hst := Lib.hid hst
            replace hxk := Lib.hid hxk
            replace hyj := Lib.hid hyj
            go_wp2_with (first
        | ((with_reducible apply wp_region_sl (G := emp) (id := 1) hs 1000); (focus (exact ent_emp_l)); (focus kernel_rfl); (focus decide +kernel); clear hs; (try clear w); intro hR w hRR hs; (try simp only [star_assoc] at hs))
        | ((with_reducible apply wp_region_sl (G := emp) (id := 3) hs 1000); (focus (exact ent_emp_l)); (focus kernel_rfl); (focus decide +kernel); clear hs; (try clear w); intro hR w hRR hs; (try simp only [star_assoc] at hs))
        | ((with_reducible rewrite [pl_strike_eq]); rotate_left 1; (focus rfl))
        | ((with_reducible apply pl_callv hs (hins _ _)); (focus (simp only [Act.eval, za, zb, zc, zd, ze, zf]; (try with_reducible rfl); done)); ((((focus (simp only [zj, zk, zl, List.append_toArray, List.nil_append, List.cons_append, Act.eval, za, zb, zc, zd, ze, zf]; (try with_reducible rfl); done)); (focus ((repeat (first | (with_reducible (first | exact ent_refl | apply ent_puR)) | ((with_reducible apply ent_front); (focus with_reducible (repeat (first | exact ent_here | apply ent_next | exact ent_last)); done)) | (with_reducible (first | exact ent_keep | apply ent_trans ent_drop)) | (focus (first | ((repeat' (first | (with_reducible assumption) | (with_reducible apply And.intro))); done))))); done)); (focus (simp only [go_sem]))))); clear hs; (try clear w); intro v w hq; (have hs := hq); clear hq; (try simp only [star_assoc, star_emp, emp_star] at hs); (try simp only [Act.put, zg, zh, zi]))
        | ((with_reducible apply pl_call hs (hat1 _)); ((((focus (simp only [zj, zk, zl, List.append_toArray, List.nil_append, List.cons_append, Act.eval, za, zb, zc, zd, ze, zf]; (try with_reducible rfl); done)); (focus ((repeat (first | (with_reducible (first | exact ent_refl | apply ent_puR)) | ((with_reducible apply ent_front); (focus with_reducible (repeat (first | exact ent_here | apply ent_next | exact ent_last)); done)) | (with_reducible (first | exact ent_keep | apply ent_trans ent_drop)) | (focus (first | ((repeat' (first | (focus (with_reducible (repeat (first | assumption | (apply TblF.left; assumption) | refine TblF.exh (by assumption) ?_ | refine TblF.exh0 (by assumption) ?_ | exact (tblF_of (by assumption)) | apply TblF.next)); done)))); done))))); done)); (focus (simp only [go_sem]))))); clear hs; (try clear w); intro v w hq; (obtain ⟨rfl, hs⟩ := hq.pu); clear hq; (try simp only [star_assoc, star_emp, emp_star] at hs); (try simp only [Act.put, zg, zh, zi]))
        | ((with_reducible apply pl_call hs (hat2 _)); ((((focus (simp only [zj, zk, zl, List.append_toArray, List.nil_append, List.cons_append, Act.eval, za, zb, zc, zd, ze, zf]; (try with_reducible rfl); done)); (focus ((repeat (first | (with_reducible (first | exact ent_refl | apply ent_puR)) | ((with_reducible apply ent_front); (focus with_reducible (repeat (first | exact ent_here | apply ent_next | exact ent_last)); done)) | (with_reducible (first | exact ent_keep | apply ent_trans ent_drop)) | (focus (first | ((repeat' (first | (focus (with_reducible (repeat (first | assumption | (apply TblF.left; assumption) | refine TblF.exh (by assumption) ?_ | refine TblF.exh0 (by assumption) ?_ | exact (tblF_of (by assumption)) | apply TblF.next)); done)))); done))))); done)); (focus (simp only [go_sem]))))); clear hs; (try clear w); intro v w hq; (obtain ⟨rfl, hs⟩ := hq.pu); clear hq; (try simp only [star_assoc, star_emp, emp_star] at hs); (try simp only [Act.put, zg, zh, zi]))
        | ((with_reducible apply mix_end hRR hs); (focus with_reducible (repeat (first | exact ent_here | apply ent_next | exact ent_last)); done); clear hs; (try clear w); intro w hs; (try simp only [star_assoc, star_emp, emp_star] at hs); clear hRR hR)
        | ((with_reducible apply mx_strike); (focus rfl))
        | ((with_reducible apply mx_load1 hRR); (focus (simp only [Act.eval, za, zb, zc, zd, ze, zf]; (try with_reducible rfl); done)); (focus (simp only [go_sem])); (focus ((repeat (first | (with_reducible (first | assumption | exact hec _ | exact hec2 _ | exact hec3 _ | exact hec4 _ _)) | ((with_reducible apply readc_here); (focus (first | (simp only [zc, zd, ze, go_sem]; (try with_reducible rfl); done) | (go_simp; (try with_reducible rfl); done)))) | (with_reducible (first | (apply readc_left; assumption) | refine readc_exh (by assumption) ?_ | refine readc_exh0 (by assumption) ?_ | apply readc_next)))); done)); simp only [Act.put, zg, zh, zi])
        | ((with_reducible refine mix_float ?_ ?_ ?_ (fun h hk => ?_) ?_); rotate_left 1; (focus rfl); (focus rfl); (focus (go_simp; (try (rw [if_pos (by omega)]; (try go_simp))); (try simp (disch := omega) only [IntWalk.i64_in, IntWalk.i32_in]); (try with_reducible rfl); done)); simp only [Act.put, zg, zh, zi]))
            exact ⟨⟨i, j + 1, a, e, q ++ [ay], E, by omega, by omega, rfl, congrArg (Value.int .i64) (by omega), by have := hja.out; simp; omega, by omega, by omega, fun z hz => (List.mem_append.1 hz).elim (hqI z) (fun h => by rw [List.mem_singleton] at h; subst h; exact hyI.out _ (List.mem_of_getElem? hyj.out)), Lib.hid (by rw [← hst.out]; exact hre.out), fun _ => by omega, hs⟩, by simp only [intOf]; omega⟩
end Go.Proofs.YtgoifgockcpnhaaDoor
