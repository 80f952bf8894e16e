/- The document's walk: the edits, and what is common. -/
import Derived.Test.YtgoifgockcpnhaaDoorZDC6BB
set_option linter.unusedSimpArgs false
set_option linter.unusedVariables false
namespace Go.Proofs.YtgoifgockcpnhaaDoor
open Go Go.RowKit

def encE (d : Ed) : EdtD := ⟨d.at_, d.er, rts d.ins⟩
def slN : Value → Nat
  | .slice _ n _ => n
  | _ => 0
theorem slN_slice (A : Option Addr) (n c : Nat) : slN (.slice A n c) = n := rfl
def pend (e : Nat) (k : Nat) : Nat := if e = 0 ∧ k = 0 then 0 else 1
theorem pend_0 : pend 0 0 = 0 := rfl
theorem pend_1 {e k : Nat} (h : 0 < e ∨ 0 < k) : pend e k = 1 := by unfold pend; rw [if_neg (by omega)]
theorem fl_no (a : Nat) : fl a 0 [] = [] := by unfold fl; rw [if_pos ⟨rfl, rfl⟩]
theorem fl_yes {a e : Nat} {m : List Int} (h : 0 < e ∨ 0 < m.length) : fl a e m = [⟨a, e, m⟩] := by
  unfold fl
  rw [if_neg]
  rintro ⟨rfl, rfl⟩
  simp at h
/-! steps of the edits to come -/
section
variable {x y m : List Int} {i j a e : Nat} {p q : Int}
theorem wk_step_eq (hx : x[i]? = some p) (hy : y[j]? = some p) : wk a e m (x.drop i) (y.drop j) = fl a e m ++ wk (a + m.length + 1) 0 [] (x.drop (i + 1)) (y.drop (j + 1)) := by rw [drop_get hx, drop_get hy, wk_eq]
theorem wk_step_end (hx : x.length = i) (hy : y.length = j) : wk a e m (x.drop i) (y.drop j) = fl a e m := by
  rw [List.drop_of_length_le (l := x) (by omega), List.drop_of_length_le (l := y) (by omega), wk_nil]
theorem wk_step_x (hx : x[i]? = some p) (hy : y.length = j) : wk a e m (x.drop i) (y.drop j) = wk a (e + 1) m (x.drop (i + 1)) (y.drop j) := by
  rw [drop_get hx, List.drop_of_length_le (l := y) (by omega), wk_er]
theorem wk_step_y (hx : x.length = i) (hy : y[j]? = some q) : wk a e m (x.drop i) (y.drop j) = wk a e (m ++ [q]) (x.drop i) (y.drop (j + 1)) := by
  rw [drop_get hy, List.drop_of_length_le (l := x) (by omega), wk_ins]
theorem wk_step_le (hx : x[i]? = some p) (hy : y[j]? = some q) (h : p ≠ q) (hd : dA x y (i + 1) j ≤ dA x y i (j + 1)) : wk a e m (x.drop i) (y.drop j) = wk a (e + 1) m (x.drop (i + 1)) (y.drop j) := by
  unfold dA at hd
  rw [drop_get hx, drop_get hy] at *
  rw [wk_ne h, if_pos hd]
theorem wk_step_gt (hx : x[i]? = some p) (hy : y[j]? = some q) (h : p ≠ q) (hd : ¬ dA x y (i + 1) j ≤ dA x y i (j + 1)) : wk a e m (x.drop i) (y.drop j) = wk a e (m ++ [q]) (x.drop i) (y.drop (j + 1)) := by
  unfold dA at hd
  rw [drop_get hx, drop_get hy] at *
  rw [wk_ne h, if_neg hd]
end
set_option maxRecDepth 20000 in
set_option maxHeartbeats 8000000 in
theorem rwalk_s (c0 : World) (F : HP) (u v : Value) (x y : List Int) : Spec Tryd.prog c0 53 #[u, v] (pu (SlR F 1 runv u x ∧ SlR F 1 runv v y ∧ x.length ≤ 1000000 ∧ y.length ≤ 1000000 ∧ (∀ c, c ∈ y → RuneI c)) F)
    (fun r => ex fun ve : Value => ex fun vc : Value => pu (r = .tuple #[ve, vc]) (row 44 3 edt ve ((wk 0 0 [] x y).map encE) * (row 21 1 runv vc (cmn x y) * F))) := by
  intro w hq; obtain ⟨⟨hu, hv, hxl, hyl, hyI⟩, hs⟩ := hq.pu; clear hq
  go_enter Tryd.func53, Tryd.ntmps53
  go_wp2_with (first
        | ((with_reducible apply pl_call hs (table_s _ _ _ _ x y)); ((((focus (simp only [zj, zk, zl, List.append_toArray, List.nil_append, List.cons_append, Act.eval, za, zb, zc, zd, ze, zf]; (try with_reducible rfl); done)); (focus ((repeat (first | (with_reducible (first | exact ent_refl | apply ent_puR)) | ((with_reducible apply ent_front); (focus with_reducible (repeat (first | exact ent_here | apply ent_next | exact ent_last)); done)) | (with_reducible (first | exact ent_keep | apply ent_trans ent_drop)) | (focus (first | ((repeat' (first | (with_reducible assumption) | (with_reducible apply And.intro))); done))))); done)); (focus (simp only [go_sem]))))); clear hs; (try clear w); intro v w hq; (obtain ⟨gd, hq1⟩ := hq.ex; obtain ⟨ts, hq2⟩ := hq1.ex; obtain ⟨⟨rfl, hts⟩, hs⟩ := hq2.pu; clear hq1 hq2); clear hq; (try simp only [star_assoc, star_emp, emp_star] at hs); (try simp only [Act.put, zg, zh, zi])))
  -- LOOP
  have hSl := sl2_rows2 (s := 1) (enc := intv) (fun _ => rfl) (ES := 48) (E := 3) (v := .slice (some ⟨gd, 0, none⟩) (x.length + 1) (x.length + 1)) (ts := ts) (ls := tabL x y) (R := F) (by rw [hts, tabL_len])
  have hu1 : SlR (row 48 1 slv (.slice (some ⟨gd, 0, none⟩) (x.length + 1) (x.length + 1)) ts * (rowsOf 3 1 intv ts (tabL x y) * F)) 1 runv u x := slr_next (slr_next hu)
  have hv1 : SlR (row 48 1 slv (.slice (some ⟨gd, 0, none⟩) (x.length + 1) (x.length + 1)) ts * (rowsOf 3 1 intv ts (tabL x y) * F)) 1 runv v y := slr_next (slr_next hv)
  have hfr : Ent (row 48 1 slv (.slice (some ⟨gd, 0, none⟩) (x.length + 1) (x.length + 1)) ts * (rowsOf 3 1 intv ts (tabL x y) * F)) F := ent_trans ent_drop ent_drop
  generalize hF1 : row 48 1 slv (.slice (some ⟨gd, 0, none⟩) (x.length + 1) (x.length + 1)) ts * (rowsOf 3 1 intv ts (tabL x y) * F) = F1 at *
  generalize hdv : Value.slice (some ⟨gd, 0, none⟩) (x.length + 1) (x.length + 1) = dv at *
  clear hF1 hdv hts hu hv
  obtain ⟨A, c, rfl⟩ := slr_form hu1 hs.own
  obtain ⟨B, d, rfl⟩ := slr_form hv1 hs.own
  have hdvs := hSl
  obtain ⟨ts', hds, _⟩ := hdvs
  obtain ⟨D, dq, rfl⟩ := slr_form hds hs.own
  obtain ⟨_, hD1, hD2, _⟩ := slr_len hds hs.own
  generalize ts'.length = N at *
  clear hds
  have hle := fun i j => dA_le x y i j
  generalize hn : x.length = n at *
  generalize hm0 : y.length = m0 at *
  replace hle := Lib.hid hle
  replace hn := Lib.hid hn
  replace hm0 := Lib.hid hm0
  replace hyI := Lib.hid hyI
  replace hSl := Lib.hid hSl
  go_loopw [7, 8, 9, 10, 11, 12, 13] (fun ov cv mv ev av iv jv wr => ∃ (i j a e : Nat) (m : List Int) (E : List Ed) (L : List Int), i ≤ n ∧ j ≤ m0 ∧ iv = .int .i64 i ∧ jv = .int .i64 j ∧ ev = .int .i64 e ∧ av = .int .i64 a ∧ j = a + m.length ∧ e ≤ i ∧ E.length ≤ j + i ∧ L.length ≤ i ∧ slN mv = m.length ∧ Hid (E ++ wk a e m (x.drop i) (y.drop j) = wk 0 0 [] x y) ∧ Hid (L ++ cmn (x.drop i) (y.drop j) = cmn x y) ∧ (∀ c, c ∈ m → RuneI c) ∧ (0 < e ∨ 0 < m.length → E.length < j + i) ∧ Sat c0 (row 44 3 edt ov (E.map encE) * (row 21 1 runv cv L * (row 21 1 runv mv m * F1))) wr) (fun _ _ mv ev _ iv jv _ => 2 * ((n - (intOf iv).toNat) + (m0 - (intOf jv).toNat)) + pend (intOf ev).toNat (slN mv))
  case atStart => exact ⟨0, 0, 0, 0, [], [], [], by omega, by omega, rfl, rfl, rfl, rfl, rfl, by omega, by simp, by simp, rfl, Lib.hid (by simp), Lib.hid (by simp), by simp, by simp, hs.mono (ent_trans ent_row_nil (ent_trans ent_row_nil ent_row_nil))⟩
  case round =>
    clear hs
    obtain ⟨i, j, a, e, m, E, L, hi, hj, rfl, rfl, rfl, rfl, hja, hei, hEl, hLl, hml, hre, hrl, hmI, hEp, hs⟩ := hrel
    obtain ⟨Ao, co, rfl, ho1, ho2⟩ := row_slice hs.own
    obtain ⟨Ac, cc, rfl, hc1, hc2⟩ := row_slice (hs.own.mono ent_drop)
    obtain ⟨Am, cm, rfl, hm1, hm2⟩ := row_slice (hs.own.mono (ent_trans ent_drop ent_drop))
    have hown := hs.own.mono (ent_trans ent_drop (ent_trans ent_drop ent_drop))
    clear hml
    unfold maxLen at ho2 hc2 hm2
    have hmlen : m.length ≤ 1000000 := by omega
    have hEE : (E.map encE).length = E.length := List.length_map ..
    have hfl0 : 0 < e ∨ 0 < m.length → (E ++ fl a e m).map encE = E.map encE ++ [⟨a, e, rts m⟩] := fun h => by rw [fl_yes h, List.map_append]; rfl
    have hfl1 : 0 < e ∨ 0 < m.length → (E ++ fl a e m).length = E.length + 1 := fun h => by rw [fl_yes h, List.length_append]; rfl
    generalize hEEd : E.map encE = EE at *
    replace hEEd := Lib.hid hEEd
    by_cases hin : i = n
    · have hiI : ¬ ((i : Int) < n) := by omega
      have hie : ((i : Int) == (n : Int)) = true := by simp; omega
      by_cases hjm : j = m0
      · have hjI : ¬ ((j : Int) < m0) := by omega
        have hje : ((j : Int) == (m0 : Int)) = true := by simp; omega
        have hst := wk_step_end (x := x) (y := y) (m := m) (a := a) (e := e) (hn.out.trans hin.symm) (hm0.out.trans hjm.symm)
        by_cases hp : 0 < e ∨ 0 < m.length
        · have hf0 := hfl0 hp
          have hf1 := hfl1 hp
          have hEs := hEp hp
          replace hst := Lib.hid hst
          have hst2 := wk_step_end (x := x) (y := y) (m := []) (a := j) (e := 0) (hn.out.trans hin.symm) (hm0.out.trans hjm.symm)
          replace hst2 := Lib.hid hst2
          replace hf0 := Lib.hid hf0
          replace hja := Lib.hid hja
          have hpd := pend_1 hp
          replace hpd := Lib.hid hpd
          clear hfl0 hfl1 hEp
          by_cases he : 0 < e
          · have heI : (0 : Int) < e := by omega
            clear hp
            go_wp2_with (first
        | ((with_reducible apply wp_region_sl (G := emp) (id := 8) hs 1000); (focus (exact ent_emp_l)); (focus kernel_rfl); (focus decide +kernel); clear hs; (try clear w); intro hR w hRR hs; (try simp only [star_assoc] at hs))
        | ((with_reducible rewrite [pl_strike_eq]); rotate_left 1; (focus rfl))
        | ((with_reducible apply pl_call hs (utf8_s _ _ _ m)); ((((focus (simp only [zj, zk, zl, List.append_toArray, List.nil_append, List.cons_append, Act.eval, za, zb, zc, zd, ze, zf]; (try with_reducible rfl); done)); (focus ((repeat (first | (with_reducible (first | exact ent_refl | apply ent_puR)) | ((with_reducible apply ent_front); (focus with_reducible (repeat (first | exact ent_here | apply ent_next | exact ent_last)); done)) | (with_reducible (first | exact ent_keep | apply ent_trans ent_drop)) | (focus (first | ((repeat' (first | (with_reducible assumption) | (with_reducible apply And.intro) | (focus (first | ((repeat (first | (with_reducible (first | assumption | exact slr_ro |  exact hsl _ | exact hsl2 _ | exact hsl3 _ _ _ | exact slr_nil | exact slr_row (fun _ => by simp only [go_sem]) | exact slr_one (fun _ => by simp only [go_sem]) | (apply slr_left; assumption))) | (with_reducible apply slr_next))); done) | ((repeat (first | (with_reducible (first | assumption | exact slr_ro |  exact hsl _ | exact hsl2 _ | exact hsl3 _ _ _ | exact slr_nil | exact slr_row (fun _ => by simp only [go_sem]) | exact slr_one (fun _ => by simp only [go_sem]) | (apply slr_left; assumption))) | (with_reducible (first | (apply slr_exh; focus assumption) | (apply slr_exh0; focus assumption) | apply slr_next)))); done))))); done))))); done)); (focus (simp only [go_sem]))))); clear hs; (try clear w); intro v w hq; (obtain ⟨rfl, hs⟩ := hq.pu); clear hq; (try simp only [star_assoc, star_emp, emp_star] at hs); (try simp only [Act.put, zg, zh, zi]))
        | ((with_reducible apply pl_build hs); (focus (simp only [zj, zk, zl, Act.eval, za, zb, zc, zd, ze, zf]; (try with_reducible rfl); done)); (first | (with_reducible exact bld_1 _ _ _)); (focus rfl); simp only [Act.put, zg, zh, zi])
        | ((with_reducible apply pl_bs1 hs); (with_reducible (first | exact bst_22 | exact bst_33)); (focus (simp only [Act.eval, za, zb, zc, zd, ze, zf]; (try with_reducible rfl); done)); (focus (first | (with_reducible (first | exact cells_intv _ | exact cells_bytv _ | exact cells_runv _ | exact cells_slv _ _ _ | exact cells_agg _ | exact cells_int _ _ | exact cells_bool _ | exact cells_string _ | exact cells_slice _ _ _ | exact cells_pointer _ | exact cells_map _ | exact cells_iface _ _ | exact cells_nilIface | exact cells_func _ _ _)) | (exact cells_one (by assumption)))); (focus (first | (with_reducible rfl) | (simp only [go_sem]; done) | (simp; done))); clear hs; (try clear w); intro g w hs; skip; simp only [Act.put, zg, zh, zi])
        | ((with_reducible apply pl_append1 hs); (with_reducible (first | exact app_22 | exact app_33 | exact app_47 | exact app_48 | exact app_80 | exact app_90 | exact app_97)); (focus (simp only [Act.eval, za, zb, zc, zd, ze, zf]; (try with_reducible rfl); done)); (first | (focus with_reducible (repeat (first | exact ent_here | apply ent_next | exact ent_last)); done) | (focus (with_reducible exact ent_row_nil)) | (focus ((with_reducible apply ent_row_of_blk); (focus with_reducible (repeat (first | exact ent_here | apply ent_next | exact ent_last)); done); (focus (simp only [go_sem]))))); (focus (simp only [Act.eval, za, zb, zc, zd, ze, zf]; (try with_reducible rfl); done)); (focus ((repeat (first | (with_reducible (first | assumption | exact hel _ | exact hel2 _ | exact hel3 _)) | ((with_reducible apply reads_whole); (focus (first | (with_reducible rfl) | (simp only [go_sem]; done) | (simp; done)))) | ((with_reducible apply reads_part); (focus (first | (simp [go_sem]; done) | (simp only [go_sem]; omega) | go_size)); (focus (first | (simp only [Nat.reduceAdd, Nat.zero_add, go_sem]; (try with_reducible rfl); done) | (simp [go_sem]; (try with_reducible rfl); done)))) | (with_reducible (first | (apply reads_left; assumption) | refine reads_exh (by assumption) ?_ | refine reads_exh0 (by assumption) ?_ | apply reads_next)))); done)); (focus (first | (simp only [maxLen] at *; omega) | (simp [maxLen] at *; omega))); (focus (first | (simp only [maxLen] at *; omega) | (simp [maxLen] at *; omega))); clear hs; (try clear w); intro Ap cq w hs; skip; simp only [Act.put, zg, zh, zi])
        | ((with_reducible apply mix_end hRR hs); (focus with_reducible (repeat (first | exact ent_here | apply ent_next | exact ent_last)); done); clear hs; (try clear w); intro w hs; (try simp only [star_assoc, star_emp, emp_star] at hs); clear hRR hR)
        | ((with_reducible apply mx_skip); (focus rfl); simp only [Act.put, zg, zh, zi])
        | ((with_reducible refine mix_float ?_ ?_ ?_ (fun h hk => ?_) ?_); rotate_left 1; (focus rfl); (focus rfl); (focus (go_simp; (try (rw [if_pos (by omega)]; (try go_simp))); (try simp (disch := omega) only [IntWalk.i64_in, IntWalk.i32_in]); (try with_reducible rfl); done)); simp only [Act.put, zg, zh, zi]))
            refine ⟨⟨i, j, j, 0, [], E ++ fl a e m, L, by omega, by omega, rfl, rfl, rfl, rfl, by simp, by omega, by omega, by omega, rfl, Lib.hid (by rw [hst2.out, fl_no, List.append_nil, ← hst.out]; exact hre.out), Lib.hid (hrl.out), by simp, by simp, hs.mono (by rw [hf0.out]; exact (ent_trans (by ((repeat (first | (with_reducible (first | exact ent_refl | exact ent_emp)) | ((with_reducible apply ent_front); (focus with_reducible (repeat (first | exact ent_here | apply ent_next | exact ent_last)); done)) | (with_reducible (first | exact ent_keep | apply ent_trans ent_drop)))); done) : Ent _ (row 44 3 edt _ _ * (row 21 1 runv _ _ * F1))) (star_mono ent_refl (star_mono ent_refl ent_row_nil))))⟩, by simp only [intOf, slN_slice, Int.toNat_natCast, Int.toNat_zero]; rw [hpd.out, pend_0]; omega⟩
          · obtain rfl : e = 0 := by omega
            have hmI2 : (0 : Int) < m.length := by omega
            clear hp
            go_wp2_with (first
        | ((with_reducible apply wp_region_sl (G := emp) (id := 8) hs 1000); (focus (exact ent_emp_l)); (focus kernel_rfl); (focus decide +kernel); clear hs; (try clear w); intro hR w hRR hs; (try simp only [star_assoc] at hs))
        | ((with_reducible rewrite [pl_strike_eq]); rotate_left 1; (focus rfl))
        | ((with_reducible apply pl_call hs (utf8_s _ _ _ m)); ((((focus (simp only [zj, zk, zl, List.append_toArray, List.nil_append, List.cons_append, Act.eval, za, zb, zc, zd, ze, zf]; (try with_reducible rfl); done)); (focus ((repeat (first | (with_reducible (first | exact ent_refl | apply ent_puR)) | ((with_reducible apply ent_front); (focus with_reducible (repeat (first | exact ent_here | apply ent_next | exact ent_last)); done)) | (with_reducible (first | exact ent_keep | apply ent_trans ent_drop)) | (focus (first | ((repeat' (first | (with_reducible assumption) | (with_reducible apply And.intro) | (focus (first | ((repeat (first | (with_reducible (first | assumption | exact slr_ro |  exact hsl _ | exact hsl2 _ | exact hsl3 _ _ _ | exact slr_nil | exact slr_row (fun _ => by simp only [go_sem]) | exact slr_one (fun _ => by simp only [go_sem]) | (apply slr_left; assumption))) | (with_reducible apply slr_next))); done) | ((repeat (first | (with_reducible (first | assumption | exact slr_ro |  exact hsl _ | exact hsl2 _ | exact hsl3 _ _ _ | exact slr_nil | exact slr_row (fun _ => by simp only [go_sem]) | exact slr_one (fun _ => by simp only [go_sem]) | (apply slr_left; assumption))) | (with_reducible (first | (apply slr_exh; focus assumption) | (apply slr_exh0; focus assumption) | apply slr_next)))); done))))); done))))); done)); (focus (simp only [go_sem]))))); clear hs; (try clear w); intro v w hq; (obtain ⟨rfl, hs⟩ := hq.pu); clear hq; (try simp only [star_assoc, star_emp, emp_star] at hs); (try simp only [Act.put, zg, zh, zi]))
        | ((with_reducible apply pl_build hs); (focus (simp only [zj, zk, zl, Act.eval, za, zb, zc, zd, ze, zf]; (try with_reducible rfl); done)); (first | (with_reducible exact bld_1 _ _ _)); (focus rfl); simp only [Act.put, zg, zh, zi])
        | ((with_reducible apply pl_bs1 hs); (with_reducible (first | exact bst_22 | exact bst_33)); (focus (simp only [Act.eval, za, zb, zc, zd, ze, zf]; (try with_reducible rfl); done)); (focus (first | (with_reducible (first | exact cells_intv _ | exact cells_bytv _ | exact cells_runv _ | exact cells_slv _ _ _ | exact cells_agg _ | exact cells_int _ _ | exact cells_bool _ | exact cells_string _ | exact cells_slice _ _ _ | exact cells_pointer _ | exact cells_map _ | exact cells_iface _ _ | exact cells_nilIface | exact cells_func _ _ _)) | (exact cells_one (by assumption)))); (focus (first | (with_reducible rfl) | (simp only [go_sem]; done) | (simp; done))); clear hs; (try clear w); intro g w hs; skip; simp only [Act.put, zg, zh, zi])
        | ((with_reducible apply pl_append1 hs); (with_reducible (first | exact app_22 | exact app_33 | exact app_47 | exact app_48 | exact app_80 | exact app_90 | exact app_97)); (focus (simp only [Act.eval, za, zb, zc, zd, ze, zf]; (try with_reducible rfl); done)); (first | (focus with_reducible (repeat (first | exact ent_here | apply ent_next | exact ent_last)); done) | (focus (with_reducible exact ent_row_nil)) | (focus ((with_reducible apply ent_row_of_blk); (focus with_reducible (repeat (first | exact ent_here | apply ent_next | exact ent_last)); done); (focus (simp only [go_sem]))))); (focus (simp only [Act.eval, za, zb, zc, zd, ze, zf]; (try with_reducible rfl); done)); (focus ((repeat (first | (with_reducible (first | assumption | exact hel _ | exact hel2 _ | exact hel3 _)) | ((with_reducible apply reads_whole); (focus (first | (with_reducible rfl) | (simp only [go_sem]; done) | (simp; done)))) | ((with_reducible apply reads_part); (focus (first | (simp [go_sem]; done) | (simp only [go_sem]; omega) | go_size)); (focus (first | (simp only [Nat.reduceAdd, Nat.zero_add, go_sem]; (try with_reducible rfl); done) | (simp [go_sem]; (try with_reducible rfl); done)))) | (with_reducible (first | (apply reads_left; assumption) | refine reads_exh (by assumption) ?_ | refine reads_exh0 (by assumption) ?_ | apply reads_next)))); done)); (focus (first | (simp only [maxLen] at *; omega) | (simp [maxLen] at *; omega))); (focus (first | (simp only [maxLen] at *; omega) | (simp [maxLen] at *; omega))); clear hs; (try clear w); intro Ap cq w hs; skip; simp only [Act.put, zg, zh, zi])
        | ((with_reducible apply mix_end hRR hs); (focus with_reducible (repeat (first | exact ent_here | apply ent_next | exact ent_last)); done); clear hs; (try clear w); intro w hs; (try simp only [star_assoc, star_emp, emp_star] at hs); clear hRR hR)
        | ((with_reducible apply mx_skip); (focus rfl); simp only [Act.put, zg, zh, zi])
        | ((with_reducible refine mix_float ?_ ?_ ?_ (fun h hk => ?_) ?_); rotate_left 1; (focus rfl); (focus rfl); (focus (go_simp; (try (rw [if_pos (by omega)]; (try go_simp))); (try simp (disch := omega) only [IntWalk.i64_in, IntWalk.i32_in]); (try with_reducible rfl); done)); simp only [Act.put, zg, zh, zi]))
            refine ⟨⟨i, j, j, 0, [], E ++ fl a 0 m, L, by omega, by omega, rfl, rfl, rfl, rfl, by simp, by omega, by omega, by omega, rfl, Lib.hid (by rw [hst2.out, fl_no, List.append_nil, ← hst.out]; exact hre.out), Lib.hid (hrl.out), by simp, by simp, hs.mono (by rw [hf0.out]; exact (ent_trans (by ((repeat (first | (with_reducible (first | exact ent_refl | exact ent_emp)) | ((with_reducible apply ent_front); (focus with_reducible (repeat (first | exact ent_here | apply ent_next | exact ent_last)); done)) | (with_reducible (first | exact ent_keep | apply ent_trans ent_drop)))); done) : Ent _ (row 44 3 edt _ _ * (row 21 1 runv _ _ * F1))) (star_mono ent_refl (star_mono ent_refl ent_row_nil))))⟩, by simp only [intOf, slN_slice, Int.toNat_natCast, Int.toNat_zero]; rw [hpd.out, pend_0]; omega⟩
        · obtain rfl : e = 0 := by omega
          obtain rfl : m = [] := List.eq_nil_of_length_eq_zero (by omega)
          have hfE : E = wk 0 0 [] x y := by
            have := hre.out
            rwa [hst, fl_no, List.append_nil] at this
          have hfL : L = cmn x y := by
            have := hrl.out
            rwa [List.drop_of_length_le (l := x) (by have := hn.out; omega), cmn_nil, List.append_nil] at this
          replace hfE := Lib.hid hfE
          replace hfL := Lib.hid hfL
          clear hfl0 hfl1 hEp hst
          go_wp2_with (first
        | ((with_reducible rewrite [pl_strike_eq]); rotate_left 1; (focus rfl)))
          (go_ret2; simp only [za, zb, zc, zd, ze, zf])
          rw [hEE] at hs
          exact ⟨_, rfl, hs.mono (ent_ex _ (ent_ex _ (ent_pu rfl (by rw [← hfE.out, ← hfL.out, hEEd.out]; exact star_mono ent_refl (star_mono ent_refl (ent_trans ent_drop hfr))))))⟩
      · have hjI : (j : Int) < m0 := by omega
        have hje : ((j : Int) == (m0 : Int)) = false := by simp; omega
        obtain ⟨by', oy, ay, hB, hyj, hcy⟩ := slr_rune hv1 hown (show j < m0 by omega)
        have hst := wk_step_y (x := x) (m := m) (a := a) (e := e) (hn.out.trans hin.symm) hyj
        have hst2 := cmn_step_y (y := y) (j := j) (hn.out.trans hin.symm)
        have hyR := hyI.out ay (List.mem_of_getElem? hyj)
        replace hst := Lib.hid hst
        replace hst2 := Lib.hid hst2
        replace hyj := Lib.hid hyj
        replace hyR := Lib.hid hyR
        replace hja := Lib.hid hja
        clear hfl0 hfl1 hEp
        subst hB
        go_wp2_with (first
        | ((with_reducible apply wp_region_sl (G := emp) (id := 8) hs 1000); (focus (exact ent_emp_l)); (focus kernel_rfl); (focus decide +kernel); clear hs; (try clear w); intro hR w hRR hs; (try simp only [star_assoc] at hs))
        | ((with_reducible apply wp_region_sl (G := emp) (id := 19) hs 1000); (focus (exact ent_emp_l)); (focus kernel_rfl); (focus decide +kernel); clear hs; (try clear w); intro hR w hRR hs; (try simp only [star_assoc] at hs))
        | ((with_reducible rewrite [pl_strike_eq]); rotate_left 1; (focus rfl))
        | ((with_reducible apply pl_load1 hs); (focus (simp only [Act.eval, za, zb, zc, zd, ze, zf]; (try with_reducible rfl); done)); (focus (simp only [go_sem])); (focus ((repeat (first | (with_reducible (first | assumption | exact hec _ | exact hec2 _ | exact hec3 _ | exact hec4 _ _)) | ((with_reducible apply readc_here); (focus (first | (simp only [zc, zd, ze, go_sem]; (try with_reducible rfl); done) | (go_simp; (try with_reducible rfl); done)))) | (with_reducible (first | (apply readc_left; assumption) | refine readc_exh (by assumption) ?_ | refine readc_exh0 (by assumption) ?_ | apply readc_next)))); done)); (focus rfl); simp only [Act.put, zg, zh, zi])
        | ((with_reducible apply pl_bs1 hs); (with_reducible (first | exact bst_22 | exact bst_33)); (focus (simp only [Act.eval, za, zb, zc, zd, ze, zf]; (try with_reducible rfl); done)); (focus (first | (with_reducible (first | exact cells_intv _ | exact cells_bytv _ | exact cells_runv _ | exact cells_slv _ _ _ | exact cells_agg _ | exact cells_int _ _ | exact cells_bool _ | exact cells_string _ | exact cells_slice _ _ _ | exact cells_pointer _ | exact cells_map _ | exact cells_iface _ _ | exact cells_nilIface | exact cells_func _ _ _)) | (exact cells_one (by assumption)))); (focus (first | (with_reducible rfl) | (simp only [go_sem]; done) | (simp; done))); clear hs; (try clear w); intro g w hs; skip; simp only [Act.put, zg, zh, zi])
        | ((with_reducible apply pl_append1 hs); (with_reducible (first | exact app_22 | exact app_33 | exact app_47 | exact app_48 | exact app_80 | exact app_90 | exact app_97)); (focus (simp only [Act.eval, za, zb, zc, zd, ze, zf]; (try with_reducible rfl); done)); (first | (focus with_reducible (repeat (first | exact ent_here | apply ent_next | exact ent_last)); done) | (focus (with_reducible exact ent_row_nil)) | (focus ((with_reducible apply ent_row_of_blk); (focus with_reducible (repeat (first | exact ent_here | apply ent_next | exact ent_last)); done); (focus (simp only [go_sem]))))); (focus (simp only [Act.eval, za, zb, zc, zd, ze, zf]; (try with_reducible rfl); done)); (focus ((repeat (first | (with_reducible (first | assumption | exact hel _ | exact hel2 _ | exact hel3 _)) | ((with_reducible apply reads_whole); (focus (first | (with_reducible rfl) | (simp only [go_sem]; done) | (simp; done)))) | ((with_reducible apply reads_part); (focus (first | (simp [go_sem]; done) | (simp only [go_sem]; omega) | go_size)); (focus (first | (simp only [Nat.reduceAdd, Nat.zero_add, go_sem]; (try with_reducible rfl); done) | (simp [go_sem]; (try with_reducible rfl); done)))) | (with_reducible (first | (apply reads_left; assumption) | refine reads_exh (by assumption) ?_ | refine reads_exh0 (by assumption) ?_ | apply reads_next)))); done)); (focus (first | (simp only [maxLen] at *; omega) | (simp [maxLen] at *; omega))); (focus (first | (simp only [maxLen] at *; omega) | (simp [maxLen] at *; omega))); clear hs; (try clear w); intro Ap cq w hs; skip; simp only [Act.put, zg, zh, zi])
        | ((with_reducible apply mix_end hRR hs); (focus with_reducible (repeat (first | exact ent_here | apply ent_next | exact ent_last)); done); clear hs; (try clear w); intro w hs; (try simp only [star_assoc, star_emp, emp_star] at hs); clear hRR hR)
        | ((with_reducible apply mx_skip); (focus rfl); simp only [Act.put, zg, zh, zi])
        | ((with_reducible refine mix_float ?_ ?_ ?_ (fun h hk => ?_) ?_); rotate_left 1; (focus rfl); (focus rfl); (focus (go_simp; (try (rw [if_pos (by omega)]; (try go_simp))); (try simp (disch := omega) only [IntWalk.i64_in, IntWalk.i32_in]); (try with_reducible rfl); done)); simp only [Act.put, zg, zh, zi]))
        refine ⟨⟨i, j + 1, a, e, m ++ [ay], E, L, by omega, by omega, rfl, congrArg (Value.int .i64) (by omega), rfl, rfl, by have := hja.out; simp; omega, by omega, by omega, by omega, by simp [slN_slice], Lib.hid (by rw [← hst.out]; exact hre.out), Lib.hid (by rw [← hst2.out]; exact hrl.out), fun q hq => (List.mem_append.1 hq).elim (hmI q) (fun h => by rw [List.mem_singleton] at h; subst h; exact hyR.out), fun _ => by omega, hs.mono (by rw [hEEd.out]; ((repeat (first | (with_reducible (first | exact ent_refl | exact ent_emp)) | ((with_reducible apply ent_front); (focus with_reducible (repeat (first | exact ent_here | apply ent_next | exact ent_last)); done)) | (with_reducible (first | exact ent_keep | apply ent_trans ent_drop)))); done))⟩, by simp only [intOf, slN_slice]; unfold pend; (repeat' split) <;> omega⟩
    · have hiI : (i : Int) < n := by omega
      have hie : ((i : Int) == (n : Int)) = false := by simp; omega
      obtain ⟨bx, ox, ax, hA, hxk, hcx⟩ := slr_rune hu1 hown (show i < n by omega)
      by_cases hjm : j = m0
      · have hjI : ¬ ((j : Int) < m0) := by omega
        have hje : ((j : Int) == (m0 : Int)) = true := by simp; omega
        have hst := wk_step_x (y := y) (m := m) (a := a) (e := e) hxk (hm0.out.trans hjm.symm)
        have hst2 := cmn_step_x (x := x) (i := i) (hm0.out.trans hjm.symm)
        replace hst := Lib.hid hst
        replace hst2 := Lib.hid hst2
        replace hxk := Lib.hid hxk
        replace hja := Lib.hid hja
        clear hfl0 hfl1 hEp
        subst hA
        go_wp2_with (first
        | ((with_reducible apply wp_region_sl (G := emp) (id := 8) hs 1000); (focus (exact ent_emp_l)); (focus kernel_rfl); (focus decide +kernel); clear hs; (try clear w); intro hR w hRR hs; (try simp only [star_assoc] at hs))
        | ((with_reducible apply wp_region_sl (G := emp) (id := 19) hs 1000); (focus (exact ent_emp_l)); (focus kernel_rfl); (focus decide +kernel); clear hs; (try clear w); intro hR w hRR hs; (try simp only [star_assoc] at hs))
        | ((with_reducible rewrite [pl_strike_eq]); rotate_left 1; (focus rfl))
        | ((with_reducible apply mix_end hRR hs); (focus with_reducible (repeat (first | exact ent_here | apply ent_next | exact ent_last)); done); clear hs; (try clear w); intro w hs; (try simp only [star_assoc, star_emp, emp_star] at hs); clear hRR hR)
        | ((with_reducible apply mx_strike); (focus rfl))
        | ((with_reducible apply mx_skip); (focus rfl); simp only [Act.put, zg, zh, zi])
        | ((with_reducible refine mix_float ?_ ?_ ?_ (fun h hk => ?_) ?_); rotate_left 1; (focus rfl); (focus rfl); (focus (go_simp; (try (rw [if_pos (by omega)]; (try go_simp))); (try simp (disch := omega) only [IntWalk.i64_in, IntWalk.i32_in]); (try with_reducible rfl); done)); simp only [Act.put, zg, zh, zi]))
        refine ⟨⟨i + 1, j, a, e + 1, m, E, L, by omega, by omega, congrArg (Value.int .i64) (by omega), rfl, congrArg (Value.int .i64) (by omega), rfl, hja.out, by omega, by omega, by omega, rfl, Lib.hid (by rw [← hst.out]; exact hre.out), Lib.hid (by rw [← hst2.out]; exact hrl.out), hmI, fun _ => by omega, hs.mono (by rw [hEEd.out]; ((repeat (first | (with_reducible (first | exact ent_refl | exact ent_emp)) | ((with_reducible apply ent_front); (focus with_reducible (repeat (first | exact ent_here | apply ent_next | exact ent_last)); done)) | (with_reducible (first | exact ent_keep | apply ent_trans ent_drop)))); done))⟩, by simp only [intOf, slN_slice]; unfold pend; (repeat' split) <;> omega⟩
      · have hjI : (j : Int) < m0 := by omega
        have hje : ((j : Int) == (m0 : Int)) = false := by simp; omega
        obtain ⟨by', oy, ay, hB, hyj, hcy⟩ := slr_rune hv1 hown (show j < m0 by omega)
        by_cases hab : ax = ay
        · subst hab
          have hst := wk_step_eq (m := m) (a := a) (e := e) hxk hyj
          rw [← hja] at hst
          have hst2 := cmn_step_eq hxk hyj
          replace hst := Lib.hid hst
          replace hst2 := Lib.hid hst2
          replace hxk := Lib.hid hxk
          replace hyj := Lib.hid hyj
          replace hja := Lib.hid hja
          subst hA
          subst hB
          by_cases hp : 0 < e ∨ 0 < m.length
          · have hf0 := hfl0 hp
            have hf1 := hfl1 hp
            replace hf0 := Lib.hid hf0
            clear hfl0 hfl1 hEp
            by_cases he : 0 < e
            · have heI : (0 : Int) < e := by omega
              clear hp
              go_wp2_with (first
        | ((with_reducible apply wp_region_sl (G := emp) (id := 8) hs 1000); (focus (exact ent_emp_l)); (focus kernel_rfl); (focus decide +kernel); clear hs; (try clear w); intro hR w hRR hs; (try simp only [star_assoc] at hs))
        | ((with_reducible apply pl_call hs (utf8_s _ _ _ m)); ((((focus (simp only [zj, zk, zl, List.append_toArray, List.nil_append, List.cons_append, Act.eval, za, zb, zc, zd, ze, zf]; (try with_reducible rfl); done)); (focus ((repeat (first | (with_reducible (first | exact ent_refl | apply ent_puR)) | ((with_reducible apply ent_front); (focus with_reducible (repeat (first | exact ent_here | apply ent_next | exact ent_last)); done)) | (with_reducible (first | exact ent_keep | apply ent_trans ent_drop)) | (focus (first | ((repeat' (first | (with_reducible assumption) | (with_reducible apply And.intro) | (focus (first | ((repeat (first | (with_reducible (first | assumption | exact slr_ro |  exact hsl _ | exact hsl2 _ | exact hsl3 _ _ _ | exact slr_nil | exact slr_row (fun _ => by simp only [go_sem]) | exact slr_one (fun _ => by simp only [go_sem]) | (apply slr_left; assumption))) | (with_reducible apply slr_next))); done) | ((repeat (first | (with_reducible (first | assumption | exact slr_ro |  exact hsl _ | exact hsl2 _ | exact hsl3 _ _ _ | exact slr_nil | exact slr_row (fun _ => by simp only [go_sem]) | exact slr_one (fun _ => by simp only [go_sem]) | (apply slr_left; assumption))) | (with_reducible (first | (apply slr_exh; focus assumption) | (apply slr_exh0; focus assumption) | apply slr_next)))); done))))); done))))); done)); (focus (simp only [go_sem]))))); clear hs; (try clear w); intro v w hq; (obtain ⟨rfl, hs⟩ := hq.pu); clear hq; (try simp only [star_assoc, star_emp, emp_star] at hs); (try simp only [Act.put, zg, zh, zi]))
        | ((with_reducible apply pl_load1 hs); (focus (simp only [Act.eval, za, zb, zc, zd, ze, zf]; (try with_reducible rfl); done)); (focus (simp only [go_sem])); (focus ((repeat (first | (with_reducible (first | assumption | exact hec _ | exact hec2 _ | exact hec3 _ | exact hec4 _ _)) | ((with_reducible apply readc_here); (focus (first | (simp only [zc, zd, ze, go_sem]; (try with_reducible rfl); done) | (go_simp; (try with_reducible rfl); done)))) | (with_reducible (first | (apply readc_left; assumption) | refine readc_exh (by assumption) ?_ | refine readc_exh0 (by assumption) ?_ | apply readc_next)))); done)); (focus rfl); simp only [Act.put, zg, zh, zi])
        | ((with_reducible apply pl_build hs); (focus (simp only [zj, zk, zl, Act.eval, za, zb, zc, zd, ze, zf]; (try with_reducible rfl); done)); (first | (with_reducible exact bld_1 _ _ _)); (focus rfl); simp only [Act.put, zg, zh, zi])
        | ((with_reducible apply pl_bs1 hs); (with_reducible (first | exact bst_22 | exact bst_33)); (focus (simp only [Act.eval, za, zb, zc, zd, ze, zf]; (try with_reducible rfl); done)); (focus (first | (with_reducible (first | exact cells_intv _ | exact cells_bytv _ | exact cells_runv _ | exact cells_slv _ _ _ | exact cells_agg _ | exact cells_int _ _ | exact cells_bool _ | exact cells_string _ | exact cells_slice _ _ _ | exact cells_pointer _ | exact cells_map _ | exact cells_iface _ _ | exact cells_nilIface | exact cells_func _ _ _)) | (exact cells_one (by assumption)))); (focus (first | (with_reducible rfl) | (simp only [go_sem]; done) | (simp; done))); clear hs; (try clear w); intro g w hs; skip; simp only [Act.put, zg, zh, zi])
        | ((with_reducible apply pl_append1 hs); (with_reducible (first | exact app_22 | exact app_33 | exact app_47 | exact app_48 | exact app_80 | exact app_90 | exact app_97)); (focus (simp only [Act.eval, za, zb, zc, zd, ze, zf]; (try with_reducible rfl); done)); (first | (focus with_reducible (repeat (first | exact ent_here | apply ent_next | exact ent_last)); done) | (focus (with_reducible exact ent_row_nil)) | (focus ((with_reducible apply ent_row_of_blk); (focus with_reducible (repeat (first | exact ent_here | apply ent_next | exact ent_last)); done); (focus (simp only [go_sem]))))); (focus (simp only [Act.eval, za, zb, zc, zd, ze, zf]; (try with_reducible rfl); done)); (focus ((repeat (first | (with_reducible (first | assumption | exact hel _ | exact hel2 _ | exact hel3 _)) | ((with_reducible apply reads_whole); (focus (first | (with_reducible rfl) | (simp only [go_sem]; done) | (simp; done)))) | ((with_reducible apply reads_part); (focus (first | (simp [go_sem]; done) | (simp only [go_sem]; omega) | go_size)); (focus (first | (simp only [Nat.reduceAdd, Nat.zero_add, go_sem]; (try with_reducible rfl); done) | (simp [go_sem]; (try with_reducible rfl); done)))) | (with_reducible (first | (apply reads_left; assumption) | refine reads_exh (by assumption) ?_ | refine reads_exh0 (by assumption) ?_ | apply reads_next)))); done)); (focus (first | (simp only [maxLen] at *; omega) | (simp [maxLen] at *; omega))); (focus (first | (simp only [maxLen] at *; omega) | (simp [maxLen] at *; omega))); clear hs; (try clear w); intro Ap cq w hs; skip; simp only [Act.put, zg, zh, zi])
        | ((with_reducible apply mix_end hRR hs); (focus with_reducible (repeat (first | exact ent_here | apply ent_next | exact ent_last)); done); clear hs; (try clear w); intro w hs; (try simp only [star_assoc, star_emp, emp_star] at hs); clear hRR hR)
        | ((with_reducible apply mx_strike); (focus rfl))
        | ((with_reducible apply mx_load1 hRR); (focus (simp only [Act.eval, za, zb, zc, zd, ze, zf]; (try with_reducible rfl); done)); (focus (simp only [go_sem])); (focus ((repeat (first | (with_reducible (first | assumption | exact hec _ | exact hec2 _ | exact hec3 _ | exact hec4 _ _)) | ((with_reducible apply readc_here); (focus (first | (simp only [zc, zd, ze, go_sem]; (try with_reducible rfl); done) | (go_simp; (try with_reducible rfl); done)))) | (with_reducible (first | (apply readc_left; assumption) | refine readc_exh (by assumption) ?_ | refine readc_exh0 (by assumption) ?_ | apply readc_next)))); done)); simp only [Act.put, zg, zh, zi])
        | ((with_reducible refine mix_float ?_ ?_ ?_ (fun h hk => ?_) ?_); rotate_left 1; (focus rfl); (focus rfl); (focus (go_simp; (try (rw [if_pos (by omega)]; (try go_simp))); (try simp (disch := omega) only [IntWalk.i64_in, IntWalk.i32_in]); (try with_reducible rfl); done)); simp only [Act.put, zg, zh, zi]))
              refine ⟨⟨i + 1, j + 1, j + 1, 0, [], E ++ fl a e m, L ++ [ax], by omega, by omega, congrArg (Value.int .i64) (by omega), congrArg (Value.int .i64) (by omega), rfl, congrArg (Value.int .i64) (by omega), by simp, by omega, by omega, by simp; omega, rfl, Lib.hid (by rw [List.append_assoc, ← hst.out]; exact hre.out), Lib.hid (by rw [List.append_assoc, List.singleton_append, ← hst2.out]; exact hrl.out), by simp, by simp, hs.mono (by rw [hf0.out]; exact (ent_trans (by ((repeat (first | (with_reducible (first | exact ent_refl | exact ent_emp)) | ((with_reducible apply ent_front); (focus with_reducible (repeat (first | exact ent_here | apply ent_next | exact ent_last)); done)) | (with_reducible (first | exact ent_keep | apply ent_trans ent_drop)))); done) : Ent _ (row 44 3 edt _ _ * (row 21 1 runv _ _ * F1))) (star_mono ent_refl (star_mono ent_refl ent_row_nil))))⟩, by simp only [intOf, slN_slice]; unfold pend; (repeat' split) <;> omega⟩
            · obtain rfl : e = 0 := by omega
              have hmI2 : (0 : Int) < m.length := by omega
              clear hp
              go_wp2_with (first
        | ((with_reducible apply wp_region_sl (G := emp) (id := 8) hs 1000); (focus (exact ent_emp_l)); (focus kernel_rfl); (focus decide +kernel); clear hs; (try clear w); intro hR w hRR hs; (try simp only [star_assoc] at hs))
        | ((with_reducible rewrite [pl_strike_eq]); rotate_left 1; (focus rfl))
        | ((with_reducible apply pl_call hs (utf8_s _ _ _ m)); ((((focus (simp only [zj, zk, zl, List.append_toArray, List.nil_append, List.cons_append, Act.eval, za, zb, zc, zd, ze, zf]; (try with_reducible rfl); done)); (focus ((repeat (first | (with_reducible (first | exact ent_refl | apply ent_puR)) | ((with_reducible apply ent_front); (focus with_reducible (repeat (first | exact ent_here | apply ent_next | exact ent_last)); done)) | (with_reducible (first | exact ent_keep | apply ent_trans ent_drop)) | (focus (first | ((repeat' (first | (with_reducible assumption) | (with_reducible apply And.intro) | (focus (first | ((repeat (first | (with_reducible (first | assumption | exact slr_ro |  exact hsl _ | exact hsl2 _ | exact hsl3 _ _ _ | exact slr_nil | exact slr_row (fun _ => by simp only [go_sem]) | exact slr_one (fun _ => by simp only [go_sem]) | (apply slr_left; assumption))) | (with_reducible apply slr_next))); done) | ((repeat (first | (with_reducible (first | assumption | exact slr_ro |  exact hsl _ | exact hsl2 _ | exact hsl3 _ _ _ | exact slr_nil | exact slr_row (fun _ => by simp only [go_sem]) | exact slr_one (fun _ => by simp only [go_sem]) | (apply slr_left; assumption))) | (with_reducible (first | (apply slr_exh; focus assumption) | (apply slr_exh0; focus assumption) | apply slr_next)))); done))))); done))))); done)); (focus (simp only [go_sem]))))); clear hs; (try clear w); intro v w hq; (obtain ⟨rfl, hs⟩ := hq.pu); clear hq; (try simp only [star_assoc, star_emp, emp_star] at hs); (try simp only [Act.put, zg, zh, zi]))
        | ((with_reducible apply pl_load1 hs); (focus (simp only [Act.eval, za, zb, zc, zd, ze, zf]; (try with_reducible rfl); done)); (focus (simp only [go_sem])); (focus ((repeat (first | (with_reducible (first | assumption | exact hec _ | exact hec2 _ | exact hec3 _ | exact hec4 _ _)) | ((with_reducible apply readc_here); (focus (first | (simp only [zc, zd, ze, go_sem]; (try with_reducible rfl); done) | (go_simp; (try with_reducible rfl); done)))) | (with_reducible (first | (apply readc_left; assumption) | refine readc_exh (by assumption) ?_ | refine readc_exh0 (by assumption) ?_ | apply readc_next)))); done)); (focus rfl); simp only [Act.put, zg, zh, zi])
        | ((with_reducible apply pl_build hs); (focus (simp only [zj, zk, zl, Act.eval, za, zb, zc, zd, ze, zf]; (try with_reducible rfl); done)); (first | (with_reducible exact bld_1 _ _ _)); (focus rfl); simp only [Act.put, zg, zh, zi])
        | ((with_reducible apply pl_bs1 hs); (with_reducible (first | exact bst_22 | exact bst_33)); (focus (simp only [Act.eval, za, zb, zc, zd, ze, zf]; (try with_reducible rfl); done)); (focus (first | (with_reducible (first | exact cells_intv _ | exact cells_bytv _ | exact cells_runv _ | exact cells_slv _ _ _ | exact cells_agg _ | exact cells_int _ _ | exact cells_bool _ | exact cells_string _ | exact cells_slice _ _ _ | exact cells_pointer _ | exact cells_map _ | exact cells_iface _ _ | exact cells_nilIface | exact cells_func _ _ _)) | (exact cells_one (by assumption)))); (focus (first | (with_reducible rfl) | (simp only [go_sem]; done) | (simp; done))); clear hs; (try clear w); intro g w hs; skip; simp only [Act.put, zg, zh, zi])
        | ((with_reducible apply pl_append1 hs); (with_reducible (first | exact app_22 | exact app_33 | exact app_47 | exact app_48 | exact app_80 | exact app_90 | exact app_97)); (focus (simp only [Act.eval, za, zb, zc, zd, ze, zf]; (try with_reducible rfl); done)); (first | (focus with_reducible (repeat (first | exact ent_here | apply ent_next | exact ent_last)); done) | (focus (with_reducible exact ent_row_nil)) | (focus ((with_reducible apply ent_row_of_blk); (focus with_reducible (repeat (first | exact ent_here | apply ent_next | exact ent_last)); done); (focus (simp only [go_sem]))))); (focus (simp only [Act.eval, za, zb, zc, zd, ze, zf]; (try with_reducible rfl); done)); (focus ((repeat (first | (with_reducible (first | assumption | exact hel _ | exact hel2 _ | exact hel3 _)) | ((with_reducible apply reads_whole); (focus (first | (with_reducible rfl) | (simp only [go_sem]; done) | (simp; done)))) | ((with_reducible apply reads_part); (focus (first | (simp [go_sem]; done) | (simp only [go_sem]; omega) | go_size)); (focus (first | (simp only [Nat.reduceAdd, Nat.zero_add, go_sem]; (try with_reducible rfl); done) | (simp [go_sem]; (try with_reducible rfl); done)))) | (with_reducible (first | (apply reads_left; assumption) | refine reads_exh (by assumption) ?_ | refine reads_exh0 (by assumption) ?_ | apply reads_next)))); done)); (focus (first | (simp only [maxLen] at *; omega) | (simp [maxLen] at *; omega))); (focus (first | (simp only [maxLen] at *; omega) | (simp [maxLen] at *; omega))); clear hs; (try clear w); intro Ap cq w hs; skip; simp only [Act.put, zg, zh, zi])
        | ((with_reducible apply mix_end hRR hs); (focus with_reducible (repeat (first | exact ent_here | apply ent_next | exact ent_last)); done); clear hs; (try clear w); intro w hs; (try simp only [star_assoc, star_emp, emp_star] at hs); clear hRR hR)
        | ((with_reducible apply mx_strike); (focus rfl))
        | ((with_reducible apply mx_load1 hRR); (focus (simp only [Act.eval, za, zb, zc, zd, ze, zf]; (try with_reducible rfl); done)); (focus (simp only [go_sem])); (focus ((repeat (first | (with_reducible (first | assumption | exact hec _ | exact hec2 _ | exact hec3 _ | exact hec4 _ _)) | ((with_reducible apply readc_here); (focus (first | (simp only [zc, zd, ze, go_sem]; (try with_reducible rfl); done) | (go_simp; (try with_reducible rfl); done)))) | (with_reducible (first | (apply readc_left; assumption) | refine readc_exh (by assumption) ?_ | refine readc_exh0 (by assumption) ?_ | apply readc_next)))); done)); simp only [Act.put, zg, zh, zi])
        | ((with_reducible refine mix_float ?_ ?_ ?_ (fun h hk => ?_) ?_); rotate_left 1; (focus rfl); (focus rfl); (focus (go_simp; (try (rw [if_pos (by omega)]; (try go_simp))); (try simp (disch := omega) only [IntWalk.i64_in, IntWalk.i32_in]); (try with_reducible rfl); done)); simp only [Act.put, zg, zh, zi]))
              refine ⟨⟨i + 1, j + 1, j + 1, 0, [], E ++ fl a 0 m, L ++ [ax], by omega, by omega, congrArg (Value.int .i64) (by omega), congrArg (Value.int .i64) (by omega), rfl, congrArg (Value.int .i64) (by omega), by simp, by omega, by omega, by simp; omega, rfl, Lib.hid (by rw [List.append_assoc, ← hst.out]; exact hre.out), Lib.hid (by rw [List.append_assoc, List.singleton_append, ← hst2.out]; exact hrl.out), by simp, by simp, hs.mono (by rw [hf0.out]; exact (ent_trans (by ((repeat (first | (with_reducible (first | exact ent_refl | exact ent_emp)) | ((with_reducible apply ent_front); (focus with_reducible (repeat (first | exact ent_here | apply ent_next | exact ent_last)); done)) | (with_reducible (first | exact ent_keep | apply ent_trans ent_drop)))); done) : Ent _ (row 44 3 edt _ _ * (row 21 1 runv _ _ * F1))) (star_mono ent_refl (star_mono ent_refl ent_row_nil))))⟩, by simp only [intOf, slN_slice]; unfold pend; (repeat' split) <;> omega⟩
          · obtain rfl : e = 0 := by omega
            obtain rfl : m = [] := List.eq_nil_of_length_eq_zero (by omega)
            have hf0 : Hid ((E ++ fl a 0 []).map encE = EE) := Lib.hid (by rw [fl_no, List.append_nil]; exact hEEd.out)
            have hf1 : (E ++ fl a 0 []).length = E.length := by rw [fl_no, List.append_nil]
            clear hfl0 hfl1 hEp
            go_wp2_with (first
        | ((with_reducible apply wp_region_sl (G := emp) (id := 8) hs 1000); (focus (exact ent_emp_l)); (focus kernel_rfl); (focus decide +kernel); clear hs; (try clear w); intro hR w hRR hs; (try simp only [star_assoc] at hs))
        | ((with_reducible rewrite [pl_strike_eq]); rotate_left 1; (focus rfl))
        | ((with_reducible apply pl_load1 hs); (focus (simp only [Act.eval, za, zb, zc, zd, ze, zf]; (try with_reducible rfl); done)); (focus (simp only [go_sem])); (focus ((repeat (first | (with_reducible (first | assumption | exact hec _ | exact hec2 _ | exact hec3 _ | exact hec4 _ _)) | ((with_reducible apply readc_here); (focus (first | (simp only [zc, zd, ze, go_sem]; (try with_reducible rfl); done) | (go_simp; (try with_reducible rfl); done)))) | (with_reducible (first | (apply readc_left; assumption) | refine readc_exh (by assumption) ?_ | refine readc_exh0 (by assumption) ?_ | apply readc_next)))); done)); (focus rfl); simp only [Act.put, zg, zh, zi])
        | ((with_reducible apply pl_bs1 hs); (with_reducible (first | exact bst_22 | exact bst_33)); (focus (simp only [Act.eval, za, zb, zc, zd, ze, zf]; (try with_reducible rfl); done)); (focus (first | (with_reducible (first | exact cells_intv _ | exact cells_bytv _ | exact cells_runv _ | exact cells_slv _ _ _ | exact cells_agg _ | exact cells_int _ _ | exact cells_bool _ | exact cells_string _ | exact cells_slice _ _ _ | exact cells_pointer _ | exact cells_map _ | exact cells_iface _ _ | exact cells_nilIface | exact cells_func _ _ _)) | (exact cells_one (by assumption)))); (focus (first | (with_reducible rfl) | (simp only [go_sem]; done) | (simp; done))); clear hs; (try clear w); intro g w hs; skip; simp only [Act.put, zg, zh, zi])
        | ((with_reducible apply pl_append1 hs); (with_reducible (first | exact app_22 | exact app_33 | exact app_47 | exact app_48 | exact app_80 | exact app_90 | exact app_97)); (focus (simp only [Act.eval, za, zb, zc, zd, ze, zf]; (try with_reducible rfl); done)); (first | (focus with_reducible (repeat (first | exact ent_here | apply ent_next | exact ent_last)); done) | (focus (with_reducible exact ent_row_nil)) | (focus ((with_reducible apply ent_row_of_blk); (focus with_reducible (repeat (first | exact ent_here | apply ent_next | exact ent_last)); done); (focus (simp only [go_sem]))))); (focus (simp only [Act.eval, za, zb, zc, zd, ze, zf]; (try with_reducible rfl); done)); (focus ((repeat (first | (with_reducible (first | assumption | exact hel _ | exact hel2 _ | exact hel3 _)) | ((with_reducible apply reads_whole); (focus (first | (with_reducible rfl) | (simp only [go_sem]; done) | (simp; done)))) | ((with_reducible apply reads_part); (focus (first | (simp [go_sem]; done) | (simp only [go_sem]; omega) | go_size)); (focus (first | (simp only [Nat.reduceAdd, Nat.zero_add, go_sem]; (try with_reducible rfl); done) | (simp [go_sem]; (try with_reducible rfl); done)))) | (with_reducible (first | (apply reads_left; assumption) | refine reads_exh (by assumption) ?_ | refine reads_exh0 (by assumption) ?_ | apply reads_next)))); done)); (focus (first | (simp only [maxLen] at *; omega) | (simp [maxLen] at *; omega))); (focus (first | (simp only [maxLen] at *; omega) | (simp [maxLen] at *; omega))); clear hs; (try clear w); intro Ap cq w hs; skip; simp only [Act.put, zg, zh, zi])
        | ((with_reducible apply mix_end hRR hs); (focus with_reducible (repeat (first | exact ent_here | apply ent_next | exact ent_last)); done); clear hs; (try clear w); intro w hs; (try simp only [star_assoc, star_emp, emp_star] at hs); clear hRR hR)
        | ((with_reducible apply mx_strike); (focus rfl))
        | ((with_reducible apply mx_load1 hRR); (focus (simp only [Act.eval, za, zb, zc, zd, ze, zf]; (try with_reducible rfl); done)); (focus (simp only [go_sem])); (focus ((repeat (first | (with_reducible (first | assumption | exact hec _ | exact hec2 _ | exact hec3 _ | exact hec4 _ _)) | ((with_reducible apply readc_here); (focus (first | (simp only [zc, zd, ze, go_sem]; (try with_reducible rfl); done) | (go_simp; (try with_reducible rfl); done)))) | (with_reducible (first | (apply readc_left; assumption) | refine readc_exh (by assumption) ?_ | refine readc_exh0 (by assumption) ?_ | apply readc_next)))); done)); simp only [Act.put, zg, zh, zi])
        | ((with_reducible refine mix_float ?_ ?_ ?_ (fun h hk => ?_) ?_); rotate_left 1; (focus rfl); (focus rfl); (focus (go_simp; (try (rw [if_pos (by omega)]; (try go_simp))); (try simp (disch := omega) only [IntWalk.i64_in, IntWalk.i32_in]); (try with_reducible rfl); done)); simp only [Act.put, zg, zh, zi]))
            refine ⟨⟨i + 1, j + 1, j + 1, 0, [], E ++ fl a 0 [], L ++ [ax], by omega, by omega, congrArg (Value.int .i64) (by omega), congrArg (Value.int .i64) (by omega), rfl, congrArg (Value.int .i64) (by omega), by simp, by omega, by omega, by simp; omega, rfl, Lib.hid (by rw [List.append_assoc, ← hst.out]; exact hre.out), Lib.hid (by rw [List.append_assoc, List.singleton_append, ← hst2.out]; exact hrl.out), by simp, by simp, hs.mono (by rw [hf0.out]; exact (ent_trans (by ((repeat (first | (with_reducible (first | exact ent_refl | exact ent_emp)) | ((with_reducible apply ent_front); (focus with_reducible (repeat (first | exact ent_here | apply ent_next | exact ent_last)); done)) | (with_reducible (first | exact ent_keep | apply ent_trans ent_drop)))); done) : Ent _ (row 44 3 edt _ _ * (row 21 1 runv _ _ * F1))) (star_mono ent_refl (star_mono ent_refl ent_row_nil))))⟩, by simp only [intOf, slN_slice]; unfold pend; (repeat' split) <;> omega⟩
        · have hne : (ax == ay) = false := by simpa using hab
          obtain ⟨g, o, _, mq, dd, g', o', hDa, hin2, hjm2, hr1, _, hr2⟩ := sl2_at hSl.out (f := fun i => Value.int .i64 i) (fun _ => rfl) hown (tabL_get (y := y) (i := i + 1) (by have := hn.out; omega)) (tabR_get (x := x) (i := i + 1) (j := j) (by have := hm0.out; omega))
          obtain ⟨g2, o2, _, mq2, dd2, g2', o2', hDb, hin3, hjm3, hr3, _, hr4⟩ := sl2_at hSl.out (f := fun i => Value.int .i64 i) (fun _ => rfl) hown (tabL_get (y := y) (i := i) (by have := hn.out; omega)) (tabR_get (x := x) (i := i) (j := j + 1) (by have := hm0.out; omega))
          subst hDa
          obtain ⟨rfl, rfl, _⟩ : g2 = g ∧ o2 = o ∧ True := by
            injection hDb with h1
            injection h1 with h1 h2 h3
            exact ⟨h1.symm, h2.symm, trivial⟩
          by_cases hd : dA x y (i + 1) j ≤ dA x y i (j + 1)
          · have hdI : (dA x y (i + 1) j : Int) ≤ (dA x y i (j + 1) : Int) := by omega
            have hst := wk_step_le (m := m) (a := a) (e := e) hxk hyj hab hd
            have hst2 := cmn_step_le hxk hyj hab hd
            replace hst := Lib.hid hst
            replace hst2 := Lib.hid hst2
            replace hxk := Lib.hid hxk
            replace hyj := Lib.hid hyj
            replace hja := Lib.hid hja
            clear hfl0 hfl1 hEp hDb
            subst hA
            subst hB
            go_wp2_with (first
        | ((with_reducible apply wp_region_sl (G := emp) (id := 8) hs 1000); (focus (exact ent_emp_l)); (focus kernel_rfl); (focus decide +kernel); clear hs; (try clear w); intro hR w hRR hs; (try simp only [star_assoc] at hs))
        | ((with_reducible apply wp_region_sl (G := emp) (id := 19) hs 1000); (focus (exact ent_emp_l)); (focus kernel_rfl); (focus decide +kernel); clear hs; (try clear w); intro hR w hRR hs; (try simp only [star_assoc] at hs))
        | ((with_reducible rewrite [pl_strike_eq]); rotate_left 1; (focus rfl))
        | ((with_reducible apply mix_end hRR hs); (focus with_reducible (repeat (first | exact ent_here | apply ent_next | exact ent_last)); done); clear hs; (try clear w); intro w hs; (try simp only [star_assoc, star_emp, emp_star] at hs); clear hRR hR)
        | ((with_reducible apply mx_strike); (focus rfl))
        | ((with_reducible apply mx_load1 hRR); (focus (simp only [Act.eval, za, zb, zc, zd, ze, zf]; (try with_reducible rfl); done)); (focus (simp only [go_sem])); (focus ((repeat (first | (with_reducible (first | assumption | exact hec _ | exact hec2 _ | exact hec3 _ | exact hec4 _ _)) | ((with_reducible apply readc_here); (focus (first | (simp only [zc, zd, ze, go_sem]; (try with_reducible rfl); done) | (go_simp; (try with_reducible rfl); done)))) | (with_reducible (first | (apply readc_left; assumption) | refine readc_exh (by assumption) ?_ | refine readc_exh0 (by assumption) ?_ | apply readc_next)))); done)); simp only [Act.put, zg, zh, zi])
        | ((with_reducible refine mix_float ?_ ?_ ?_ (fun h hk => ?_) ?_); rotate_left 1; (focus rfl); (focus rfl); (focus (go_simp; (try (rw [if_pos (by omega)]; (try go_simp))); (try simp (disch := omega) only [IntWalk.i64_in, IntWalk.i32_in]); (try with_reducible rfl); done)); simp only [Act.put, zg, zh, zi]))
            refine ⟨⟨i + 1, j, a, e + 1, m, E, L, by omega, by omega, congrArg (Value.int .i64) (by omega), rfl, congrArg (Value.int .i64) (by omega), rfl, hja.out, by omega, by omega, by omega, rfl, Lib.hid (by rw [← hst.out]; exact hre.out), Lib.hid (by rw [← hst2.out]; exact hrl.out), hmI, fun _ => by omega, hs.mono (by rw [hEEd.out]; ((repeat (first | (with_reducible (first | exact ent_refl | exact ent_emp)) | ((with_reducible apply ent_front); (focus with_reducible (repeat (first | exact ent_here | apply ent_next | exact ent_last)); done)) | (with_reducible (first | exact ent_keep | apply ent_trans ent_drop)))); done))⟩, by simp only [intOf, slN_slice]; unfold pend; (repeat' split) <;> omega⟩
          · have hdI : ¬ ((dA x y (i + 1) j : Int) ≤ (dA x y i (j + 1) : Int)) := by omega
            have hst := wk_step_gt (m := m) (a := a) (e := e) hxk hyj hab hd
            have hst2 := cmn_step_gt hxk hyj hab hd
            have hyR := hyI.out ay (List.mem_of_getElem? hyj)
            replace hst := Lib.hid hst
            replace hst2 := Lib.hid hst2
            replace hxk := Lib.hid hxk
            replace hyj := Lib.hid hyj
            replace hyR := Lib.hid hyR
            replace hja := Lib.hid hja
            clear hfl0 hfl1 hEp hDb
            subst hA
            subst hB
            go_wp2_with (first
        | ((with_reducible apply wp_region_sl (G := emp) (id := 8) hs 1000); (focus (exact ent_emp_l)); (focus kernel_rfl); (focus decide +kernel); clear hs; (try clear w); intro hR w hRR hs; (try simp only [star_assoc] at hs))
        | ((with_reducible apply wp_region_sl (G := emp) (id := 19) hs 1000); (focus (exact ent_emp_l)); (focus kernel_rfl); (focus decide +kernel); clear hs; (try clear w); intro hR w hRR hs; (try simp only [star_assoc] at hs))
        | ((with_reducible rewrite [pl_strike_eq]); rotate_left 1; (focus rfl))
        | ((with_reducible apply pl_load1 hs); (focus (simp only [Act.eval, za, zb, zc, zd, ze, zf]; (try with_reducible rfl); done)); (focus (simp only [go_sem])); (focus ((repeat (first | (with_reducible (first | assumption | exact hec _ | exact hec2 _ | exact hec3 _ | exact hec4 _ _)) | ((with_reducible apply readc_here); (focus (first | (simp only [zc, zd, ze, go_sem]; (try with_reducible rfl); done) | (go_simp; (try with_reducible rfl); done)))) | (with_reducible (first | (apply readc_left; assumption) | refine readc_exh (by assumption) ?_ | refine readc_exh0 (by assumption) ?_ | apply readc_next)))); done)); (focus rfl); simp only [Act.put, zg, zh, zi])
        | ((with_reducible apply pl_bs1 hs); (with_reducible (first | exact bst_22 | exact bst_33)); (focus (simp only [Act.eval, za, zb, zc, zd, ze, zf]; (try with_reducible rfl); done)); (focus (first | (with_reducible (first | exact cells_intv _ | exact cells_bytv _ | exact cells_runv _ | exact cells_slv _ _ _ | exact cells_agg _ | exact cells_int _ _ | exact cells_bool _ | exact cells_string _ | exact cells_slice _ _ _ | exact cells_pointer _ | exact cells_map _ | exact cells_iface _ _ | exact cells_nilIface | exact cells_func _ _ _)) | (exact cells_one (by assumption)))); (focus (first | (with_reducible rfl) | (simp only [go_sem]; done) | (simp; done))); clear hs; (try clear w); intro g w hs; skip; simp only [Act.put, zg, zh, zi])
        | ((with_reducible apply pl_append1 hs); (with_reducible (first | exact app_22 | exact app_33 | exact app_47 | exact app_48 | exact app_80 | exact app_90 | exact app_97)); (focus (simp only [Act.eval, za, zb, zc, zd, ze, zf]; (try with_reducible rfl); done)); (first | (focus with_reducible (repeat (first | exact ent_here | apply ent_next | exact ent_last)); done) | (focus (with_reducible exact ent_row_nil)) | (focus ((with_reducible apply ent_row_of_blk); (focus with_reducible (repeat (first | exact ent_here | apply ent_next | exact ent_last)); done); (focus (simp only [go_sem]))))); (focus (simp only [Act.eval, za, zb, zc, zd, ze, zf]; (try with_reducible rfl); done)); (focus ((repeat (first | (with_reducible (first | assumption | exact hel _ | exact hel2 _ | exact hel3 _)) | ((with_reducible apply reads_whole); (focus (first | (with_reducible rfl) | (simp only [go_sem]; done) | (simp; done)))) | ((with_reducible apply reads_part); (focus (first | (simp [go_sem]; done) | (simp only [go_sem]; omega) | go_size)); (focus (first | (simp only [Nat.reduceAdd, Nat.zero_add, go_sem]; (try with_reducible rfl); done) | (simp [go_sem]; (try with_reducible rfl); done)))) | (with_reducible (first | (apply reads_left; assumption) | refine reads_exh (by assumption) ?_ | refine reads_exh0 (by assumption) ?_ | apply reads_next)))); done)); (focus (first | (simp only [maxLen] at *; omega) | (simp [maxLen] at *; omega))); (focus (first | (simp only [maxLen] at *; omega) | (simp [maxLen] at *; omega))); clear hs; (try clear w); intro Ap cq w hs; skip; simp only [Act.put, zg, zh, zi])
        | ((with_reducible apply mix_end hRR hs); (focus with_reducible (repeat (first | exact ent_here | apply ent_next | exact ent_last)); done); clear hs; (try clear w); intro w hs; (try simp only [star_assoc, star_emp, emp_star] at hs); clear hRR hR)
        | ((with_reducible apply mx_strike); (focus rfl))
        | ((with_reducible apply mx_load1 hRR); (focus (simp only [Act.eval, za, zb, zc, zd, ze, zf]; (try with_reducible rfl); done)); (focus (simp only [go_sem])); (focus ((repeat (first | (with_reducible (first | assumption | exact hec _ | exact hec2 _ | exact hec3 _ | exact hec4 _ _)) | ((with_reducible apply readc_here); (focus (first | (simp only [zc, zd, ze, go_sem]; (try with_reducible rfl); done) | (go_simp; (try with_reducible rfl); done)))) | (with_reducible (first | (apply readc_left; assumption) | refine readc_exh (by assumption) ?_ | refine readc_exh0 (by assumption) ?_ | apply readc_next)))); done)); simp only [Act.put, zg, zh, zi])
        | ((with_reducible refine mix_float ?_ ?_ ?_ (fun h hk => ?_) ?_); rotate_left 1; (focus rfl); (focus rfl); (focus (go_simp; (try (rw [if_pos (by omega)]; (try go_simp))); (try simp (disch := omega) only [IntWalk.i64_in, IntWalk.i32_in]); (try with_reducible rfl); done)); simp only [Act.put, zg, zh, zi]))
            refine ⟨⟨i, j + 1, a, e, m ++ [ay], E, L, by omega, by omega, rfl, congrArg (Value.int .i64) (by omega), rfl, rfl, by have := hja.out; simp; omega, by omega, by omega, by omega, by simp [slN_slice], Lib.hid (by rw [← hst.out]; exact hre.out), Lib.hid (by rw [← hst2.out]; exact hrl.out), fun q hq => (List.mem_append.1 hq).elim (hmI q) (fun h => by rw [List.mem_singleton] at h; subst h; exact hyR.out), fun _ => by omega, hs.mono (by rw [hEEd.out]; ((repeat (first | (with_reducible (first | exact ent_refl | exact ent_emp)) | ((with_reducible apply ent_front); (focus with_reducible (repeat (first | exact ent_here | apply ent_next | exact ent_last)); done)) | (with_reducible (first | exact ent_keep | apply ent_trans ent_drop)))); done))⟩, by simp only [intOf, slN_slice]; unfold pend; (repeat' split) <;> omega⟩
end Go.Proofs.YtgoifgockcpnhaaDoor
