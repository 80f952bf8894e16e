/- The pair of stacks: all that is told; one call. -/
import Derived.Test.YtflibhphpnajeaaDoorUB
set_option linter.unusedSimpArgs false
set_option linter.unusedVariables false
namespace Go.Proofs.YtflibhphpnajeaaDoor
open Go Go.RowKit

theorem editsO_s (c0 : World) (F : HP) (gs : Nat) (dn un : List (List ChgD)) : Spec Tryd.prog c0 27 #[.pointer (some ⟨gs, 0, none⟩)] (pu (Ok64 dn un) (stk gs dn un * F))
    (fun r => ex fun x : SlD => ex fun tx : List SlD => ex fun y : SlD => ex fun ty : List SlD => pu (r = .tuple #[.slice x.p dn.length x.c, .slice y.p un.length y.c] ∧ Hid (tx.length = dn.length) ∧ Hid (ty.length = un.length) ∧ dn.length ≤ x.c ∧ x.c ≤ maxLen)
      (row 22 1 slv (.slice x.p dn.length x.c) tx * (rowsOf 33 4 chg tx dn * (row 22 1 slv (.slice y.p un.length y.c) ty * (rowsOf 33 4 chg ty un * (stk gs dn un * F)))))) := fun w hs => by
  obtain ⟨h64, hs⟩ := hs.pu
  have hlen := h64.len
  refine (edits_s c0 F gs dn un w (hs.mono (ent_pu ⟨by omega, by omega, h64.len2d, h64.len2u⟩ ent_refl))).mono fun e w' ⟨v, hx, h⟩ => ⟨v, hx, ?_⟩
  obtain ⟨x, h⟩ := h.ex
  obtain ⟨y, h⟩ := h.ex
  obtain ⟨hv, h⟩ := h.pu
  obtain ⟨tx, hxl, h⟩ := rows2_open h
  obtain ⟨ty, hyl, h⟩ := rows2_open (F := row 22 1 slv x tx * (rowsOf 33 4 chg tx dn * (stk gs dn un * F))) (h.mono (by ((repeat (first | (with_reducible exact ent_refl) | (with_reducible exact ent_emp) | ((with_reducible apply ent_front); (focus ((repeat (first | (with_reducible exact ent_here) | (with_reducible apply ent_next) | (with_reducible exact ent_last))); done))) | (with_reducible exact ent_keep) | (with_reducible apply ent_trans ent_drop))); done)))
  obtain ⟨A, c, rfl, hc1, hc2⟩ := row_slice (v := x) (l := tx) (E := 22) (s := 1) (enc := slv) (h.own.mono (by (focus ((repeat (first | (with_reducible exact ent_here) | (with_reducible apply ent_next) | (with_reducible exact ent_last))); done))))
  obtain ⟨B, d, rfl, _, _⟩ := row_slice (v := y) (l := ty) (E := 22) (s := 1) (enc := slv) (h.own.mono (by (focus ((repeat (first | (with_reducible exact ent_here) | (with_reducible apply ent_next) | (with_reducible exact ent_last))); done))))
  rw [hxl, hyl] at h hv
  rw [hxl] at hc1
  exact h.mono (ent_ex ⟨A, 0, c⟩ (ent_ex tx (ent_ex ⟨B, 0, d⟩ (ent_ex ty (ent_pu ⟨hv, Lib.hid hxl, Lib.hid hyl, hc1, hc2⟩ (by dsimp only; ((repeat (first | (with_reducible exact ent_refl) | (with_reducible exact ent_emp) | ((with_reducible apply ent_front); (focus ((repeat (first | (with_reducible exact ent_here) | (with_reducible apply ent_next) | (with_reducible exact ent_last))); done))) | (with_reducible exact ent_keep) | (with_reducible apply ent_trans ent_drop))); done)))))))
def pairK (gp gs gr : Nat) (dn un : List (List ChgD)) : HP := blk gp (.cells (prv ⟨some ⟨gs, 0, none⟩, some ⟨gr, 0, none⟩⟩) 54 (0, 0)) * (stk gs dn un * rstk gr dn un)
theorem drop_cons {α : Type} {l : List α} {k : Nat} {x : α} (h : l[k]? = some x) : l.drop k = x :: l.drop (k + 1) := by
  obtain ⟨hk, rfl⟩ := List.getElem?_eq_some_iff.1 h
  exact List.drop_eq_getElem_cons hk
set_option maxRecDepth 20000 in
set_option maxHeartbeats 2000000 in
theorem same_s (c0 : World) (F : HP) (gp gs gr : Nat) (dn un : List (List ChgD)) : Spec Tryd.prog c0 26 #[.pointer (some ⟨gp, 0, none⟩)] (pu (Ok64 dn un) (pairK gp gs gr dn un * F))
    (fun r => pu (r = .bool true) (pairK gp gs gr dn un * F)) := by
  intro w hq; obtain ⟨h64, hs⟩ := hq.pu; clear hq
  unfold pairK at hs
  simp only [star_assoc] at hs
  obtain ⟨A, n, c, ts, B, m, d, us, ht, hu, rfl, rfl, hc1, hc2, hd1, hd2, hs⟩ := rstk_open (F := blk gp (.cells (prv ⟨some ⟨gs, 0, none⟩, some ⟨gr, 0, none⟩⟩) 54 (0, 0)) * (stk gs dn un * F)) (hs.mono (by ((repeat (first | (with_reducible exact ent_refl) | (with_reducible exact ent_emp) | ((with_reducible apply ent_front); (focus ((repeat (first | (with_reducible exact ent_here) | (with_reducible apply ent_next) | (with_reducible exact ent_last))); done))) | (with_reducible exact ent_keep) | (with_reducible apply ent_trans ent_drop))); done)))
  unfold rstkO at hs
  rw [ht, hu] at hs
  have hlen := h64.len
  have hl20 : ∀ l, l ∈ dn → l.length ≤ 1000000 := fun l hl => by have := h64.d20 l hl; omega
  replace hl20 := Lib.hid hl20
  generalize hD : dn.length = D at *
  generalize hU : un.length = V at *
  have htD : Hid (ts.length = dn.length) := ht.trans hD.symm
  have huV : Hid (us.length = un.length) := hu.trans hU.symm
  clear hc1 hd1
  replace ht := Lib.hid ht
  replace hu := Lib.hid hu
  replace hD := Lib.hid hD
  replace hU := Lib.hid hU
  have hdep : ∀ F, Spec Tryd.prog c0 19 #[.pointer (some ⟨gs, 0, none⟩)] (stk gs dn un * F) (fun r => pu (r = .tuple #[.int .i64 D, .int .i64 V]) (stk gs dn un * F)) := fun F => by
    rw [← hD.out, ← hU.out]
    exact depth_s c0 F gs dn un
  have hedi : ∀ F, Spec Tryd.prog c0 27 #[.pointer (some ⟨gs, 0, none⟩)] (stk gs dn un * F)
      (fun r => ex fun x : SlD => ex fun tx : List SlD => ex fun y : SlD => ex fun ty : List SlD => pu (r = .tuple #[.slice x.p D x.c, .slice y.p V y.c] ∧ Hid (tx.length = dn.length) ∧ Hid (ty.length = un.length) ∧ D ≤ x.c ∧ x.c ≤ maxLen)
      (row 22 1 slv (.slice x.p D x.c) tx * (rowsOf 33 4 chg tx dn * (row 22 1 slv (.slice y.p V y.c) ty * (rowsOf 33 4 chg ty un * (stk gs dn un * F)))))) := fun F w hs => by
    rw [← hD.out, ← hU.out]
    exact editsO_s c0 F gs dn un w (hs.mono (ent_pu h64 ent_refl))
  go_enter Tryd.func26, Tryd.ntmps26
  go_wp2_with (first
        | ((with_reducible rewrite [pl_strike_eq]); rotate_left 1; (focus rfl))
        | ((with_reducible apply pl_call hs (hdep _)); (go_must (((focus (simp only [List.map_toArray, List.map_cons, List.map_nil, List.append_toArray, List.nil_append, List.cons_append, Act.eval, List.getD_eq_getElem?_getD, Array.getD_eq_getD_getElem?, List.getElem?_toArray, List.getElem?_cons_zero, List.getElem?_cons_succ, Option.getD_some]; (try with_reducible rfl); done)); (focus ((repeat (first | (with_reducible exact ent_refl) | (with_reducible apply ent_puR) | ((with_reducible apply ent_front); (focus ((repeat (first | (with_reducible exact ent_here) | (with_reducible apply ent_next) | (with_reducible exact ent_last))); done))) | (with_reducible exact ent_keep) | (with_reducible apply ent_trans ent_drop) | (fail))); done)); (focus (simp only [go_sem]))))); clear hs; (try clear w); intro v w hq; (obtain ⟨rfl, hs⟩ := hq.pu); clear hq; (try simp only [star_assoc, star_emp, emp_star] at hs); (try simp only [Act.put, List.setIfInBounds_toArray, List.set_cons_zero, List.set_cons_succ]))
        | ((with_reducible apply pl_call hs (hedi _)); (go_must (((focus (simp only [List.map_toArray, List.map_cons, List.map_nil, List.append_toArray, List.nil_append, List.cons_append, Act.eval, List.getD_eq_getElem?_getD, Array.getD_eq_getD_getElem?, List.getElem?_toArray, List.getElem?_cons_zero, List.getElem?_cons_succ, Option.getD_some]; (try with_reducible rfl); done)); (focus ((repeat (first | (with_reducible exact ent_refl) | (with_reducible apply ent_puR) | ((with_reducible apply ent_front); (focus ((repeat (first | (with_reducible exact ent_here) | (with_reducible apply ent_next) | (with_reducible exact ent_last))); done))) | (with_reducible exact ent_keep) | (with_reducible apply ent_trans ent_drop) | (fail))); done)); (focus (simp only [go_sem]))))); clear hs; (try clear w); intro v w hq; (obtain ⟨⟨x, x0, xc⟩, hq1⟩ := hq.ex; obtain ⟨tx, hq2⟩ := hq1.ex; obtain ⟨⟨y, y0, yc⟩, hq3⟩ := hq2.ex; obtain ⟨ty, hq4⟩ := hq3.ex; obtain ⟨⟨rfl, htx, hty, hxc1, hxc2⟩, hs⟩ := hq4.pu; clear hq1 hq2 hq3 hq4; dsimp only at hs hxc1 hxc2); clear hq; (try simp only [star_assoc, star_emp, emp_star] at hs); (try simp only [Act.put, List.setIfInBounds_toArray, List.set_cons_zero, List.set_cons_succ]))
        | ((with_reducible apply pl_call hs (hist_s _ _ _ _ _ _ _ _ _ _ _)); (go_must (((focus (simp only [List.map_toArray, List.map_cons, List.map_nil, List.append_toArray, List.nil_append, List.cons_append, Act.eval, List.getD_eq_getElem?_getD, Array.getD_eq_getD_getElem?, List.getElem?_toArray, List.getElem?_cons_zero, List.getElem?_cons_succ, Option.getD_some]; (try with_reducible rfl); done)); (focus ((repeat (first | (with_reducible exact ent_refl) | (with_reducible apply ent_puR) | ((with_reducible apply ent_front); (focus ((repeat (first | (with_reducible exact ent_here) | (with_reducible apply ent_next) | (with_reducible exact ent_last))); done))) | (with_reducible exact ent_keep) | (with_reducible apply ent_trans ent_drop) | (focus (first | ((repeat' (first | (with_reducible assumption) | (with_reducible apply And.intro))); done))))); done)); (focus (simp only [go_sem]))))); clear hs; (try clear w); intro v w hq; (obtain ⟨rfl, hs⟩ := hq.pu); clear hq; (try simp only [star_assoc, star_emp, emp_star] at hs); (try simp only [Act.put, List.setIfInBounds_toArray, List.set_cons_zero, List.set_cons_succ]))
        | ((with_reducible apply pl_load1 hs); (focus (simp only [Act.eval, List.getD_eq_getElem?_getD, Array.getD_eq_getD_getElem?, List.getElem?_toArray, List.getElem?_cons_zero, List.getElem?_cons_succ, Option.getD_some]; (try with_reducible rfl); done)); (focus (simp only [go_sem])); (focus ((repeat (first | (with_reducible assumption) | (with_reducible exact hec _) | (with_reducible exact hec2 _) | (with_reducible exact hec3 _) | (with_reducible exact hec4 _ _) | ((with_reducible apply readc_here); (focus (first | (simp only [List.getElem?_toArray, List.getElem?_cons_zero, List.getElem?_cons_succ, go_sem]; (try with_reducible rfl); done) | (go_simp; (try with_reducible rfl); done)))) | ((with_reducible apply readc_left); (with_reducible assumption)) | (with_reducible refine readc_exh (by with_reducible assumption) ?_) | (with_reducible refine readc_exh0 (by with_reducible assumption) ?_) | (with_reducible apply readc_next))); done)); (focus rfl); simp only [Act.put, List.setIfInBounds_toArray, List.set_cons_zero, List.set_cons_succ]))
  go_loopw [8] (fun i wr => ∃ (k : Nat) (tz : List SlD), k ≤ D ∧ i = .int .i64 k ∧ Hid (tz.length = D) ∧ Hid (tz.drop k = tx.drop k) ∧ Sat c0 (row 22 1 slv (.slice x D xc) tz * (rowsOf 33 4 chg (tx.drop k) (dn.drop k) * (stk gs dn un * (blk gr (.cells #[.slice A D c, .slice B V d] 52 (0, 0)) * (row 22 1 slv (.slice A D c) ts * (rowsOf 33 4 chg ts dn * (row 22 1 slv (.slice B V d) us * (rowsOf 33 4 chg us un * (blk gp (.cells (prv ⟨some ⟨gs, 0, none⟩, some ⟨gr, 0, none⟩⟩) 54 (0, 0)) * F))))))))) wr) (fun i _ => D - (intOf i).toNat)
  case atStart => exact ⟨0, tx, by omega, rfl, htx.out.trans hD.out, rfl, hs.mono (by rw [List.drop_zero, List.drop_zero]; ((repeat (first | (with_reducible exact ent_refl) | (with_reducible exact ent_emp) | ((with_reducible apply ent_front); (focus ((repeat (first | (with_reducible exact ent_here) | (with_reducible apply ent_next) | (with_reducible exact ent_last))); done))) | (with_reducible exact ent_keep) | (with_reducible apply ent_trans ent_drop))); done))⟩
  case round =>
    clear hs
    obtain ⟨k, tz, hk, rfl, htz, hdz, hs⟩ := hrel
    by_cases hlt : k < D
    · obtain ⟨g1, ⟨p1, q1, e1⟩, rfl, hl1, hr1⟩ := row_at (E := 22) (A := x) (n := D) (cap := xc) (i := k) (l := tz) (hs.own.mono (by (focus ((repeat (first | (with_reducible exact ent_here) | (with_reducible apply ent_next) | (with_reducible exact ent_last))); done)))) slv_size hlt
      have hec : ∀ R, ReadC (row 22 1 slv (.slice (some ⟨g1, 0, none⟩) D xc) tz * R) g1 (k * 1) (.slice p1 q1 e1) := fun R => (hr1 R).cell (i := 0) (by omega) (slv_0 _)
      rw [Nat.mul_one] at hec
      have hkd : k < dn.length := by have := hD.out; omega
      have hkx : tx[k]? = some ⟨p1, q1, e1⟩ := by
        have h1 : (tz.drop k)[0]? = (tx.drop k)[0]? := by rw [hdz.out]
        rw [List.getElem?_drop, List.getElem?_drop, Nat.add_zero, hl1] at h1
        exact h1.symm
      have hdx : tz.drop (k + 1) = tx.drop (k + 1) := by
        have h1 : (tz.drop k).drop 1 = (tx.drop k).drop 1 := by rw [hdz.out]
        rwa [List.drop_drop, List.drop_drop] at h1
      have hkn : dn[k]? = some (dn[k]) := List.getElem?_eq_getElem hkd
      have hlk := hl20.out _ (List.getElem_mem hkd)
      generalize dn[k] = lk at hkn hlk
      rw [drop_cons hkx, drop_cons hkn, rowsOf] at hs
      simp only [star_assoc] at hs
      clear hkd hr1 hkx hkn
      go_wp2_with (first
        | (((with_reducible apply pl_storeIn (i := k) (j := 0) hs); (focus (simp only [Act.eval, List.getD_eq_getElem?_getD, Array.getD_eq_getD_getElem?, List.getElem?_toArray, List.getElem?_cons_zero, List.getElem?_cons_succ, Option.getD_some]; (try with_reducible rfl); done)); (focus ((repeat (first | (with_reducible exact ent_here) | (with_reducible apply ent_next) | (with_reducible exact ent_last))); done)); (focus (simp only [Act.eval, List.getD_eq_getElem?_getD, Array.getD_eq_getD_getElem?, List.getElem?_toArray, List.getElem?_cons_zero, List.getElem?_cons_succ, Option.getD_some]; (try with_reducible rfl); done)); (focus (simp only [go_sem])); (focus rfl); (focus omega); (focus omega); (focus (exact hl1)); (focus (exact slv_set _ _ _ _)); (focus (exact slv_size)); clear hs; (try clear w);  intro w hs; simp only [Act.put, List.setIfInBounds_toArray, List.set_cons_zero, List.set_cons_succ]))
        | ((with_reducible apply pl_call hs (spoil_chg_s _ _ _ lk)); (go_must (((focus (simp only [List.map_toArray, List.map_cons, List.map_nil, List.append_toArray, List.nil_append, List.cons_append, Act.eval, List.getD_eq_getElem?_getD, Array.getD_eq_getD_getElem?, List.getElem?_toArray, List.getElem?_cons_zero, List.getElem?_cons_succ, Option.getD_some]; (try with_reducible rfl); done)); (focus ((repeat (first | (with_reducible exact ent_refl) | (with_reducible apply ent_puR) | ((with_reducible apply ent_front); (focus ((repeat (first | (with_reducible exact ent_here) | (with_reducible apply ent_next) | (with_reducible exact ent_last))); done))) | (with_reducible exact ent_keep) | (with_reducible apply ent_trans ent_drop) | (focus (first | (with_reducible assumption))))); done)); (focus (simp only [go_sem]))))); clear hs; (try clear w); intro v w hq; (have hs := hq); clear hq; (try simp only [star_assoc, star_emp, emp_star] at hs); (try simp only [Act.put, List.setIfInBounds_toArray, List.set_cons_zero, List.set_cons_succ]))
        | ((with_reducible apply pl_load1 hs); (focus (simp only [Act.eval, List.getD_eq_getElem?_getD, Array.getD_eq_getD_getElem?, List.getElem?_toArray, List.getElem?_cons_zero, List.getElem?_cons_succ, Option.getD_some]; (try with_reducible rfl); done)); (focus (simp only [go_sem])); (focus ((repeat (first | (with_reducible assumption) | (with_reducible exact hec _) | (with_reducible exact hec2 _) | (with_reducible exact hec3 _) | (with_reducible exact hec4 _ _) | ((with_reducible apply readc_here); (focus (first | (simp only [List.getElem?_toArray, List.getElem?_cons_zero, List.getElem?_cons_succ, go_sem]; (try with_reducible rfl); done) | (go_simp; (try with_reducible rfl); done)))) | ((with_reducible apply readc_left); (with_reducible assumption)) | (with_reducible refine readc_exh (by with_reducible assumption) ?_) | (with_reducible refine readc_exh0 (by with_reducible assumption) ?_) | (with_reducible apply readc_next))); done)); (focus rfl); simp only [Act.put, List.setIfInBounds_toArray, List.set_cons_zero, List.set_cons_succ]))
      exact ⟨⟨k + 1, tz.set k ⟨none, 0, 0⟩, by omega, by go_num, (by unfold Hid; rw [List.length_set]; exact htz.out), (by unfold Hid; rw [List.drop_set_of_lt (by omega)]; exact hdx), hs.mono (by ((repeat (first | (with_reducible exact ent_refl) | (with_reducible exact ent_emp) | ((with_reducible apply ent_front); (focus ((repeat (first | (with_reducible exact ent_here) | (with_reducible apply ent_next) | (with_reducible exact ent_last))); done))) | (with_reducible exact ent_keep) | (with_reducible apply ent_trans ent_drop))); done))⟩, by simp [intOf]; omega⟩
    · replace hs := hs.mono (ent_trans ent_drop ent_drop)
      clear hdz htz
      go_wp2_with (first
        | ((with_reducible rewrite [pl_strike_eq]); rotate_left 1; (focus rfl))
        | ((with_reducible apply pl_call hs (hedi _)); (go_must (((focus (simp only [List.map_toArray, List.map_cons, List.map_nil, List.append_toArray, List.nil_append, List.cons_append, Act.eval, List.getD_eq_getElem?_getD, Array.getD_eq_getD_getElem?, List.getElem?_toArray, List.getElem?_cons_zero, List.getElem?_cons_succ, Option.getD_some]; (try with_reducible rfl); done)); (focus ((repeat (first | (with_reducible exact ent_refl) | (with_reducible apply ent_puR) | ((with_reducible apply ent_front); (focus ((repeat (first | (with_reducible exact ent_here) | (with_reducible apply ent_next) | (with_reducible exact ent_last))); done))) | (with_reducible exact ent_keep) | (with_reducible apply ent_trans ent_drop) | (fail))); done)); (focus (simp only [go_sem]))))); clear hs; (try clear w); intro v w hq; (obtain ⟨⟨x, x0, xc⟩, hq1⟩ := hq.ex; obtain ⟨tx, hq2⟩ := hq1.ex; obtain ⟨⟨y, y0, yc⟩, hq3⟩ := hq2.ex; obtain ⟨ty, hq4⟩ := hq3.ex; obtain ⟨⟨rfl, htx, hty, hxc1, hxc2⟩, hs⟩ := hq4.pu; clear hq1 hq2 hq3 hq4; dsimp only at hs hxc1 hxc2); clear hq; (try simp only [star_assoc, star_emp, emp_star] at hs); (try simp only [Act.put, List.setIfInBounds_toArray, List.set_cons_zero, List.set_cons_succ]))
        | ((with_reducible apply pl_call hs (hist_s _ _ _ _ _ _ _ _ _ _ _)); (go_must (((focus (simp only [List.map_toArray, List.map_cons, List.map_nil, List.append_toArray, List.nil_append, List.cons_append, Act.eval, List.getD_eq_getElem?_getD, Array.getD_eq_getD_getElem?, List.getElem?_toArray, List.getElem?_cons_zero, List.getElem?_cons_succ, Option.getD_some]; (try with_reducible rfl); done)); (focus ((repeat (first | (with_reducible exact ent_refl) | (with_reducible apply ent_puR) | ((with_reducible apply ent_front); (focus ((repeat (first | (with_reducible exact ent_here) | (with_reducible apply ent_next) | (with_reducible exact ent_last))); done))) | (with_reducible exact ent_keep) | (with_reducible apply ent_trans ent_drop) | (focus (first | ((repeat' (first | (with_reducible assumption) | (with_reducible apply And.intro))); done))))); done)); (focus (simp only [go_sem]))))); clear hs; (try clear w); intro v w hq; (obtain ⟨rfl, hs⟩ := hq.pu); clear hq; (try simp only [star_assoc, star_emp, emp_star] at hs); (try simp only [Act.put, List.setIfInBounds_toArray, List.set_cons_zero, List.set_cons_succ]))
        | ((with_reducible apply pl_load1 hs); (focus (simp only [Act.eval, List.getD_eq_getElem?_getD, Array.getD_eq_getD_getElem?, List.getElem?_toArray, List.getElem?_cons_zero, List.getElem?_cons_succ, Option.getD_some]; (try with_reducible rfl); done)); (focus (simp only [go_sem])); (focus ((repeat (first | (with_reducible assumption) | (with_reducible exact hec _) | (with_reducible exact hec2 _) | (with_reducible exact hec3 _) | (with_reducible exact hec4 _ _) | ((with_reducible apply readc_here); (focus (first | (simp only [List.getElem?_toArray, List.getElem?_cons_zero, List.getElem?_cons_succ, go_sem]; (try with_reducible rfl); done) | (go_simp; (try with_reducible rfl); done)))) | ((with_reducible apply readc_left); (with_reducible assumption)) | (with_reducible refine readc_exh (by with_reducible assumption) ?_) | (with_reducible refine readc_exh0 (by with_reducible assumption) ?_) | (with_reducible apply readc_next))); done)); (focus rfl); simp only [Act.put, List.setIfInBounds_toArray, List.set_cons_zero, List.set_cons_succ]))
      (go_ret; simp only [List.getD_eq_getElem?_getD, Array.getD_eq_getD_getElem?, List.getElem?_toArray, List.getElem?_cons_zero, List.getElem?_cons_succ, Option.getD_some])
      exact ⟨_, rfl, hs.mono (ent_pu rfl (ent_trans (B := stk gs dn un * (blk gp (.cells (prv ⟨some ⟨gs, 0, none⟩, some ⟨gr, 0, none⟩⟩) 54 (0, 0)) * (rstkO gr A D c ts dn B V d us un F))) (by unfold rstkO; ((repeat (first | (with_reducible exact ent_refl) | (with_reducible exact ent_emp) | ((with_reducible apply ent_front); (focus ((repeat (first | (with_reducible exact ent_here) | (with_reducible apply ent_next) | (with_reducible exact ent_last))); done))) | (with_reducible exact ent_keep) | (with_reducible apply ent_trans ent_drop))); done)) (by
        refine ent_trans (star_mono ent_refl (star_mono ent_refl rstk_shut)) ?_
        unfold pairK
        simp only [star_assoc]
        ((repeat (first | (with_reducible exact ent_refl) | (with_reducible exact ent_emp) | ((with_reducible apply ent_front); (focus ((repeat (first | (with_reducible exact ent_here) | (with_reducible apply ent_next) | (with_reducible exact ent_last))); done))) | (with_reducible exact ent_keep) | (with_reducible apply ent_trans ent_drop))); done))))⟩
theorem within_s (c0 : World) (F : HP) (n m : Int) : Spec Tryd.prog c0 42 #[.int .i64 n, .int .i64 m] (pu (1 ≤ m ∧ m ≤ 1000 ∧ InI n) F) (fun r => ex fun k : Nat => pu (r = .int .i64 k ∧ (k : Int) < m) F) := by
  intro w hq; obtain ⟨⟨h1, h2, h3⟩, hs⟩ := hq.pu; clear hq
  have hz : (m == 0) = false := by simp; omega
  have hm1 : n.tmod m < m ∧ - m < n.tmod m := ⟨Int.tmod_lt_of_pos _ (by omega), by have := Int.lt_tmod_of_pos n (show 0 < m by omega); omega⟩
  obtain ⟨hm1, hm2⟩ := hm1
  have hw1 : IntKind.i64.wrap (n.tmod m) = n.tmod m := IntWalk.i64_in _ (by omega)
  have hw2 : IntKind.i64.wrap (n.tmod m + m) = n.tmod m + m := IntWalk.i64_in _ (by omega)
  go_enter Tryd.func42, Tryd.ntmps42
  go_wp2_with fail
  all_goals (go_ret; simp only [List.getD_eq_getElem?_getD, Array.getD_eq_getD_getElem?, List.getElem?_toArray, List.getElem?_cons_zero, List.getElem?_cons_succ, Option.getD_some])
  · exact ⟨_, rfl, hs.mono (ent_ex (n.tmod m + m).toNat (ent_pu ⟨by congr 1; omega, by omega⟩ (by ((repeat (first | (with_reducible exact ent_refl) | (with_reducible exact ent_emp) | ((with_reducible apply ent_front); (focus ((repeat (first | (with_reducible exact ent_here) | (with_reducible apply ent_next) | (with_reducible exact ent_last))); done))) | (with_reducible exact ent_keep) | (with_reducible apply ent_trans ent_drop))); done))))⟩
  · exact ⟨_, rfl, hs.mono (ent_ex (n.tmod m).toNat (ent_pu ⟨by congr 1; omega, by omega⟩ (by ((repeat (first | (with_reducible exact ent_refl) | (with_reducible exact ent_emp) | ((with_reducible apply ent_front); (focus ((repeat (first | (with_reducible exact ent_here) | (with_reducible apply ent_next) | (with_reducible exact ent_last))); done))) | (with_reducible exact ent_keep) | (with_reducible apply ent_trans ent_drop))); done))))⟩
end Go.Proofs.YtflibhphpnajeaaDoor
