/- Calls as an argument. -/
import Derived.Test.YtflibhphpnajeaaDoorZUC6AZ
set_option linter.unusedSimpArgs false
set_option linter.unusedVariables false
namespace Go.Proofs.YtflibhphpnajeaaDoor
open Go Go.RowKit

theorem editsO_s (c0 : World) (F : HP) (gs : Nat) (dn un : List (List ChgD)) : Spec Tryd.prog c0 27 #[.pointer (some ⟨gs, 0, none⟩)] (pu (Ok64 dn un) (stk gs dn un * F))
    (fun r => ex fun x : SlD => ex fun tx : List SlD => ex fun y : SlD => ex fun ty : List SlD => pu (r = .tuple #[.slice x.p dn.length x.c, .slice y.p un.length y.c] ∧ Hid (tx.length = dn.length) ∧ Hid (ty.length = un.length) ∧ dn.length ≤ x.c ∧ x.c ≤ maxLen)
      (row 22 1 slv (.slice x.p dn.length x.c) tx * (rowsOf 33 4 chg tx dn * (row 22 1 slv (.slice y.p un.length y.c) ty * (rowsOf 33 4 chg ty un * (stk gs dn un * F)))))) := fun w hs => by
  obtain ⟨h64, hs⟩ := hs.pu
  have hlen := h64.len
  refine (edits_s c0 F gs dn un w (hs.mono (ent_pu ⟨by omega, by omega, h64.len2d, h64.len2u⟩ ent_refl))).mono fun e w' ⟨v, hx, h⟩ => ⟨v, hx, ?_⟩
  obtain ⟨x, h⟩ := h.ex
  obtain ⟨y, h⟩ := h.ex
  obtain ⟨hv, h⟩ := h.pu
  obtain ⟨tx, hxl, h⟩ := rows2_open h
  obtain ⟨ty, hyl, h⟩ := rows2_open (F := row 22 1 slv x tx * (rowsOf 33 4 chg tx dn * (stk gs dn un * F))) (h.mono (by ((repeat (first | (with_reducible (first | exact ent_refl | exact ent_emp)) | ((with_reducible apply ent_front); (focus with_reducible (repeat (first | exact ent_here | apply ent_next | exact ent_last)); done)) | (with_reducible (first | exact ent_keep | apply ent_trans ent_drop)))); done)))
  obtain ⟨A, c, rfl, hc1, hc2⟩ := row_slice (v := x) (l := tx) (E := 22) (s := 1) (enc := slv) (h.own.mono (by (focus with_reducible (repeat (first | exact ent_here | apply ent_next | exact ent_last)); done)))
  obtain ⟨B, d, rfl, _, _⟩ := row_slice (v := y) (l := ty) (E := 22) (s := 1) (enc := slv) (h.own.mono (by (focus with_reducible (repeat (first | exact ent_here | apply ent_next | exact ent_last)); done)))
  rw [hxl, hyl] at h hv
  rw [hxl] at hc1
  exact h.mono (ent_ex ⟨A, 0, c⟩ (ent_ex tx (ent_ex ⟨B, 0, d⟩ (ent_ex ty (ent_pu ⟨hv, Lib.hid hxl, Lib.hid hyl, hc1, hc2⟩ (by dsimp only; ((repeat (first | (with_reducible (first | exact ent_refl | exact ent_emp)) | ((with_reducible apply ent_front); (focus with_reducible (repeat (first | exact ent_here | apply ent_next | exact ent_last)); done)) | (with_reducible (first | exact ent_keep | apply ent_trans ent_drop)))); done)))))))
def pairK (gp gs gr : Nat) (dn un : List (List ChgD)) : HP := blk gp (.cells (prv ⟨some ⟨gs, 0, none⟩, some ⟨gr, 0, none⟩⟩) 54 (0, 0)) * (stk gs dn un * rstk gr dn un)
theorem drop_cons {α : Type} {l : List α} {k : Nat} {x : α} (h : l[k]? = some x) : l.drop k = x :: l.drop (k + 1) := by
  obtain ⟨hk, rfl⟩ := List.getElem?_eq_some_iff.1 h
  exact List.drop_eq_getElem_cons hk
set_option maxRecDepth 20000 in
set_option maxHeartbeats 2000000 in
theorem same_s (c0 : World) (F : HP) (gp gs gr : Nat) (dn un : List (List ChgD)) : Spec Tryd.prog c0 26 #[.pointer (some ⟨gp, 0, none⟩)] (pu (Ok64 dn un) (pairK gp gs gr dn un * F))
    (fun r => pu (r = .bool true) (pairK gp gs gr dn un * F)) := by
  intro w hq; obtain ⟨h64, hs⟩ := hq.pu; clear hq
  unfold pairK at hs
  simp only [star_assoc] at hs
  obtain ⟨A, n, c, ts, B, m, d, us, ht, hu, rfl, rfl, hc1, hc2, hd1, hd2, hs⟩ := rstk_open (F := blk gp (.cells (prv ⟨some ⟨gs, 0, none⟩, some ⟨gr, 0, none⟩⟩) 54 (0, 0)) * (stk gs dn un * F)) (hs.mono (by ((repeat (first | (with_reducible (first | exact ent_refl | exact ent_emp)) | ((with_reducible apply ent_front); (focus with_reducible (repeat (first | exact ent_here | apply ent_next | exact ent_last)); done)) | (with_reducible (first | exact ent_keep | apply ent_trans ent_drop)))); done)))
  unfold rstkO at hs
  rw [ht, hu] at hs
  have hlen := h64.len
  have hl20 : ∀ l, l ∈ dn → l.length ≤ 4398046510976 := fun l hl => by have := h64.d20 l hl; omega
  replace hl20 := Lib.hid hl20
  generalize hD : dn.length = D at *
  generalize hU : un.length = V at *
  have htD : Hid (ts.length = dn.length) := ht.trans hD.symm
  have huV : Hid (us.length = un.length) := hu.trans hU.symm
  clear hc1 hd1
  replace ht := Lib.hid ht
  replace hu := Lib.hid hu
  replace hD := Lib.hid hD
  replace hU := Lib.hid hU
  have hdep : ∀ F, Spec Tryd.prog c0 19 #[.pointer (some ⟨gs, 0, none⟩)] (stk gs dn un * F) (fun r => pu (r = .tuple #[.int .i64 D, .int .i64 V]) (stk gs dn un * F)) := fun F => by
    rw [← hD.out, ← hU.out]
    exact depth_s c0 F gs dn un
  have hedi : ∀ F, Spec Tryd.prog c0 27 #[.pointer (some ⟨gs, 0, none⟩)] (stk gs dn un * F)
      (fun r => ex fun x : SlD => ex fun tx : List SlD => ex fun y : SlD => ex fun ty : List SlD => pu (r = .tuple #[.slice x.p D x.c, .slice y.p V y.c] ∧ Hid (tx.length = dn.length) ∧ Hid (ty.length = un.length) ∧ D ≤ x.c ∧ x.c ≤ maxLen)
      (row 22 1 slv (.slice x.p D x.c) tx * (rowsOf 33 4 chg tx dn * (row 22 1 slv (.slice y.p V y.c) ty * (rowsOf 33 4 chg ty un * (stk gs dn un * F)))))) := fun F w hs => by
    rw [← hD.out, ← hU.out]
    exact editsO_s c0 F gs dn un w (hs.mono (ent_pu h64 ent_refl))
  go_enter Tryd.func26, Tryd.ntmps26
  go_wp2_with (first
        | ((with_reducible rewrite [pl_strike_eq]); rotate_left 1; (focus rfl))
        | ((with_reducible apply pl_call hs (hdep _)); (go_must (((focus (simp only [zj, zk, zl, List.append_toArray, List.nil_append, List.cons_append, Act.eval, za, zb, zc, zd, ze, zf]; (try with_reducible rfl); done)); (focus ((repeat (first | (with_reducible (first | exact ent_refl | apply ent_puR)) | ((with_reducible apply ent_front); (focus with_reducible (repeat (first | exact ent_here | apply ent_next | exact ent_last)); done)) | (with_reducible (first | exact ent_keep | apply ent_trans ent_drop)) | (fail))); done)); (focus (simp only [go_sem]))))); clear hs; (try clear w); intro v w hq; (obtain ⟨rfl, hs⟩ := hq.pu); clear hq; (try simp only [star_assoc, star_emp, emp_star] at hs); (try simp only [Act.put, zg, zh, zi]))
        | ((with_reducible apply pl_call hs (hedi _)); (go_must (((focus (simp only [zj, zk, zl, List.append_toArray, List.nil_append, List.cons_append, Act.eval, za, zb, zc, zd, ze, zf]; (try with_reducible rfl); done)); (focus ((repeat (first | (with_reducible (first | exact ent_refl | apply ent_puR)) | ((with_reducible apply ent_front); (focus with_reducible (repeat (first | exact ent_here | apply ent_next | exact ent_last)); done)) | (with_reducible (first | exact ent_keep | apply ent_trans ent_drop)) | (fail))); done)); (focus (simp only [go_sem]))))); clear hs; (try clear w); intro v w hq; (obtain ⟨⟨x, x0, xc⟩, hq1⟩ := hq.ex; obtain ⟨tx, hq2⟩ := hq1.ex; obtain ⟨⟨y, y0, yc⟩, hq3⟩ := hq2.ex; obtain ⟨ty, hq4⟩ := hq3.ex; obtain ⟨⟨rfl, htx, hty, hxc1, hxc2⟩, hs⟩ := hq4.pu; clear hq1 hq2 hq3 hq4; dsimp only at hs hxc1 hxc2); clear hq; (try simp only [star_assoc, star_emp, emp_star] at hs); (try simp only [Act.put, zg, zh, zi]))
        | ((with_reducible apply pl_call hs (hist_s _ _ _ _ _ _ _ _ _ _ _)); (go_must (((focus (simp only [zj, zk, zl, List.append_toArray, List.nil_append, List.cons_append, Act.eval, za, zb, zc, zd, ze, zf]; (try with_reducible rfl); done)); (focus ((repeat (first | (with_reducible (first | exact ent_refl | apply ent_puR)) | ((with_reducible apply ent_front); (focus with_reducible (repeat (first | exact ent_here | apply ent_next | exact ent_last)); done)) | (with_reducible (first | exact ent_keep | apply ent_trans ent_drop)) | (focus (first | ((repeat' (first | (with_reducible assumption) | (with_reducible apply And.intro))); done))))); done)); (focus (simp only [go_sem]))))); clear hs; (try clear w); intro v w hq; (obtain ⟨rfl, hs⟩ := hq.pu); clear hq; (try simp only [star_assoc, star_emp, emp_star] at hs); (try simp only [Act.put, zg, zh, zi]))
        | ((with_reducible apply pl_load1 hs); (focus (simp only [Act.eval, za, zb, zc, zd, ze, zf]; (try with_reducible rfl); done)); (focus (simp only [go_sem])); (focus ((repeat (first | (with_reducible (first | assumption | exact hec _ | exact hec2 _ | exact hec3 _ | exact hec4 _ _)) | ((with_reducible apply readc_here); (focus (first | (simp only [zc, zd, ze, go_sem]; (try with_reducible rfl); done) | (go_simp; (try with_reducible rfl); done)))) | (with_reducible (first | (apply readc_left; assumption) | refine readc_exh (by assumption) ?_ | refine readc_exh0 (by assumption) ?_ | apply readc_next)))); done)); (focus rfl); simp only [Act.put, zg, zh, zi]))
  go_loopw [8] (fun i wr => ∃ (k : Nat) (tz : List SlD), k ≤ D ∧ i = .int .i64 k ∧ Hid (tz.length = D) ∧ Hid (tz.drop k = tx.drop k) ∧ Sat c0 (row 22 1 slv (.slice x D xc) tz * (rowsOf 33 4 chg (tx.drop k) (dn.drop k) * (stk gs dn un * (blk gr (.cells #[.slice A D c, .slice B V d] 52 (0, 0)) * (row 22 1 slv (.slice A D c) ts * (rowsOf 33 4 chg ts dn * (row 22 1 slv (.slice B V d) us * (rowsOf 33 4 chg us un * (blk gp (.cells (prv ⟨some ⟨gs, 0, none⟩, some ⟨gr, 0, none⟩⟩) 54 (0, 0)) * F))))))))) wr) (fun i _ => D - (intOf i).toNat)
  case atStart => exact ⟨0, tx, by omega, rfl, htx.out.trans hD.out, rfl, hs.mono (by rw [List.drop_zero, List.drop_zero]; ((repeat (first | (with_reducible (first | exact ent_refl | exact ent_emp)) | ((with_reducible apply ent_front); (focus with_reducible (repeat (first | exact ent_here | apply ent_next | exact ent_last)); done)) | (with_reducible (first | exact ent_keep | apply ent_trans ent_drop)))); done))⟩
  case round =>
    clear hs
    obtain ⟨k, tz, hk, rfl, htz, hdz, hs⟩ := hrel
    by_cases hlt : k < D
    · obtain ⟨g1, ⟨p1, q1, e1⟩, rfl, hl1, hr1⟩ := row_at (E := 22) (A := x) (n := D) (cap := xc) (i := k) (l := tz) (hs.own.mono (by (focus with_reducible (repeat (first | exact ent_here | apply ent_next | exact ent_last)); done))) slv_size hlt
      have hec : ∀ R, ReadC (row 22 1 slv (.slice (some ⟨g1, 0, none⟩) D xc) tz * R) g1 (k * 1) (.slice p1 q1 e1) := fun R => (hr1 R).cell (i := 0) (by omega) (slv_0 _)
      rw [Nat.mul_one] at hec
      have hkd : k < dn.length := by have := hD.out; omega
      have hkx : tx[k]? = some ⟨p1, q1, e1⟩ := by
        have h1 : (tz.drop k)[0]? = (tx.drop k)[0]? := by rw [hdz.out]
        rw [List.getElem?_drop, List.getElem?_drop, Nat.add_zero, hl1] at h1
        exact h1.symm
      have hdx : tz.drop (k + 1) = tx.drop (k + 1) := by
        have h1 : (tz.drop k).drop 1 = (tx.drop k).drop 1 := by rw [hdz.out]
        rwa [List.drop_drop, List.drop_drop] at h1
      have hkn : dn[k]? = some (dn[k]) := List.getElem?_eq_getElem hkd
      have hlk := hl20.out _ (List.getElem_mem hkd)
      generalize dn[k] = lk at hkn hlk
      rw [drop_cons hkx, drop_cons hkn, rowsOf] at hs
      simp only [star_assoc] at hs
      clear hkd hr1 hkx hkn
      go_wp2_with (first
        | (((with_reducible apply pl_storeIn (i := k) (j := 0) hs); (focus (simp only [Act.eval, za, zb, zc, zd, ze, zf]; (try with_reducible rfl); done)); (focus with_reducible (repeat (first | exact ent_here | apply ent_next | exact ent_last)); done); (focus (simp only [Act.eval, za, zb, zc, zd, ze, zf]; (try with_reducible rfl); done)); (focus (simp only [go_sem])); (focus rfl); (focus omega); (focus omega); (focus (exact hl1)); (focus (exact slv_set _ _ _ _)); (focus (exact slv_size)); clear hs; (try clear w);  intro w hs; simp only [Act.put, zg, zh, zi]))
        | ((with_reducible apply pl_call hs (spoil_chg_s _ _ _ lk)); (go_must (((focus (simp only [zj, zk, zl, List.append_toArray, List.nil_append, List.cons_append, Act.eval, za, zb, zc, zd, ze, zf]; (try with_reducible rfl); done)); (focus ((repeat (first | (with_reducible (first | exact ent_refl | apply ent_puR)) | ((with_reducible apply ent_front); (focus with_reducible (repeat (first | exact ent_here | apply ent_next | exact ent_last)); done)) | (with_reducible (first | exact ent_keep | apply ent_trans ent_drop)) | (focus (first | (with_reducible assumption))))); done)); (focus (simp only [go_sem]))))); clear hs; (try clear w); intro v w hq; (have hs := hq); clear hq; (try simp only [star_assoc, star_emp, emp_star] at hs); (try simp only [Act.put, zg, zh, zi]))
        | ((with_reducible apply pl_load1 hs); (focus (simp only [Act.eval, za, zb, zc, zd, ze, zf]; (try with_reducible rfl); done)); (focus (simp only [go_sem])); (focus ((repeat (first | (with_reducible (first | assumption | exact hec _ | exact hec2 _ | exact hec3 _ | exact hec4 _ _)) | ((with_reducible apply readc_here); (focus (first | (simp only [zc, zd, ze, go_sem]; (try with_reducible rfl); done) | (go_simp; (try with_reducible rfl); done)))) | (with_reducible (first | (apply readc_left; assumption) | refine readc_exh (by assumption) ?_ | refine readc_exh0 (by assumption) ?_ | apply readc_next)))); done)); (focus rfl); simp only [Act.put, zg, zh, zi]))
      exact ⟨⟨k + 1, tz.set k ⟨none, 0, 0⟩, by omega, by go_num, (by unfold Hid; rw [List.length_set]; exact htz.out), (by unfold Hid; rw [List.drop_set_of_lt (by omega)]; exact hdx), hs.mono (by ((repeat (first | (with_reducible (first | exact ent_refl | exact ent_emp)) | ((with_reducible apply ent_front); (focus with_reducible (repeat (first | exact ent_here | apply ent_next | exact ent_last)); done)) | (with_reducible (first | exact ent_keep | apply ent_trans ent_drop)))); done))⟩, by simp [intOf]; omega⟩
    · replace hs := hs.mono (ent_trans ent_drop ent_drop)
      clear hdz htz
      go_wp2_with (first
        | ((with_reducible rewrite [pl_strike_eq]); rotate_left 1; (focus rfl))
        | ((with_reducible apply pl_call hs (hedi _)); (go_must (((focus (simp only [zj, zk, zl, List.append_toArray, List.nil_append, List.cons_append, Act.eval, za, zb, zc, zd, ze, zf]; (try with_reducible rfl); done)); (focus ((repeat (first | (with_reducible (first | exact ent_refl | apply ent_puR)) | ((with_reducible apply ent_front); (focus with_reducible (repeat (first | exact ent_here | apply ent_next | exact ent_last)); done)) | (with_reducible (first | exact ent_keep | apply ent_trans ent_drop)) | (fail))); done)); (focus (simp only [go_sem]))))); clear hs; (try clear w); intro v w hq; (obtain ⟨⟨x, x0, xc⟩, hq1⟩ := hq.ex; obtain ⟨tx, hq2⟩ := hq1.ex; obtain ⟨⟨y, y0, yc⟩, hq3⟩ := hq2.ex; obtain ⟨ty, hq4⟩ := hq3.ex; obtain ⟨⟨rfl, htx, hty, hxc1, hxc2⟩, hs⟩ := hq4.pu; clear hq1 hq2 hq3 hq4; dsimp only at hs hxc1 hxc2); clear hq; (try simp only [star_assoc, star_emp, emp_star] at hs); (try simp only [Act.put, zg, zh, zi]))
        | ((with_reducible apply pl_call hs (hist_s _ _ _ _ _ _ _ _ _ _ _)); (go_must (((focus (simp only [zj, zk, zl, List.append_toArray, List.nil_append, List.cons_append, Act.eval, za, zb, zc, zd, ze, zf]; (try with_reducible rfl); done)); (focus ((repeat (first | (with_reducible (first | exact ent_refl | apply ent_puR)) | ((with_reducible apply ent_front); (focus with_reducible (repeat (first | exact ent_here | apply ent_next | exact ent_last)); done)) | (with_reducible (first | exact ent_keep | apply ent_trans ent_drop)) | (focus (first | ((repeat' (first | (with_reducible assumption) | (with_reducible apply And.intro))); done))))); done)); (focus (simp only [go_sem]))))); clear hs; (try clear w); intro v w hq; (obtain ⟨rfl, hs⟩ := hq.pu); clear hq; (try simp only [star_assoc, star_emp, emp_star] at hs); (try simp only [Act.put, zg, zh, zi]))
        | ((with_reducible apply pl_load1 hs); (focus (simp only [Act.eval, za, zb, zc, zd, ze, zf]; (try with_reducible rfl); done)); (focus (simp only [go_sem])); (focus ((repeat (first | (with_reducible (first | assumption | exact hec _ | exact hec2 _ | exact hec3 _ | exact hec4 _ _)) | ((with_reducible apply readc_here); (focus (first | (simp only [zc, zd, ze, go_sem]; (try with_reducible rfl); done) | (go_simp; (try with_reducible rfl); done)))) | (with_reducible (first | (apply readc_left; assumption) | refine readc_exh (by assumption) ?_ | refine readc_exh0 (by assumption) ?_ | apply readc_next)))); done)); (focus rfl); simp only [Act.put, zg, zh, zi]))
      (go_ret; simp only [za, zb, zc, zd, ze, zf])
      exact ⟨_, rfl, hs.mono (ent_pu rfl (ent_trans (B := stk gs dn un * (blk gp (.cells (prv ⟨some ⟨gs, 0, none⟩, some ⟨gr, 0, none⟩⟩) 54 (0, 0)) * (rstkO gr A D c ts dn B V d us un F))) (by unfold rstkO; ((repeat (first | (with_reducible (first | exact ent_refl | exact ent_emp)) | ((with_reducible apply ent_front); (focus with_reducible (repeat (first | exact ent_here | apply ent_next | exact ent_last)); done)) | (with_reducible (first | exact ent_keep | apply ent_trans ent_drop)))); done)) (by
        refine ent_trans (star_mono ent_refl (star_mono ent_refl rstk_shut)) ?_
        unfold pairK
        simp only [star_assoc]
        ((repeat (first | (with_reducible (first | exact ent_refl | exact ent_emp)) | ((with_reducible apply ent_front); (focus with_reducible (repeat (first | exact ent_here | apply ent_next | exact ent_last)); done)) | (with_reducible (first | exact ent_keep | apply ent_trans ent_drop)))); done))))⟩
theorem within_s (c0 : World) (F : HP) (n m : Int) : Spec Tryd.prog c0 42 #[.int .i64 n, .int .i64 m] (pu (1 ≤ m ∧ m ≤ 1000 ∧ InI n) F) (fun r => ex fun k : Nat => pu (r = .int .i64 k ∧ (k : Int) < m) F) := by
  intro w hq; obtain ⟨⟨h1, h2, h3⟩, hs⟩ := hq.pu; clear hq
  have hz : (m == 0) = false := by simp; omega
  have hm1 : n.tmod m < m ∧ - m < n.tmod m := ⟨Int.tmod_lt_of_pos _ (by omega), by have := Int.lt_tmod_of_pos n (show 0 < m by omega); omega⟩
  obtain ⟨hm1, hm2⟩ := hm1
  have hw1 : IntKind.i64.wrap (n.tmod m) = n.tmod m := IntWalk.i64_in _ (by omega)
  have hw2 : IntKind.i64.wrap (n.tmod m + m) = n.tmod m + m := IntWalk.i64_in _ (by omega)
  go_enter Tryd.func42, Tryd.ntmps42
  go_wp2_with fail
  all_goals (go_ret; simp only [za, zb, zc, zd, ze, zf])
  · exact ⟨_, rfl, hs.mono (ent_ex (n.tmod m + m).toNat (ent_pu ⟨by congr 1; omega, by omega⟩ (by ((repeat (first | (with_reducible (first | exact ent_refl | exact ent_emp)) | ((with_reducible apply ent_front); (focus with_reducible (repeat (first | exact ent_here | apply ent_next | exact ent_last)); done)) | (with_reducible (first | exact ent_keep | apply ent_trans ent_drop)))); done))))⟩
  · exact ⟨_, rfl, hs.mono (ent_ex (n.tmod m).toNat (ent_pu ⟨by congr 1; omega, by omega⟩ (by ((repeat (first | (with_reducible (first | exact ent_refl | exact ent_emp)) | ((with_reducible apply ent_front); (focus with_reducible (repeat (first | exact ent_here | apply ent_next | exact ent_last)); done)) | (with_reducible (first | exact ent_keep | apply ent_trans ent_drop)))); done))))⟩
end Go.Proofs.YtflibhphpnajeaaDoor

set_option linter.unusedSimpArgs false
set_option linter.unusedVariables false
namespace Go.Proofs.YtflibhphpnajeaaDoor
open Go Go.RowKit

def pL : Bool → List (List ChgD) → List (List ChgD) → List ChgD | true, _, un => rL un | false, dn, _ => uL dn
def pO : Bool → List (List ChgD) → List (List ChgD) → Option (List LinkD × Nat) | true, _, un => rO un | false, dn, _ => uO dn
def tD : Bool → List (List ChgD) → List (List ChgD) → List (List ChgD) | true, dn, un => mv1 un dn | false, dn, _ => dn.dropLast
def tU : Bool → List (List ChgD) → List (List ChgD) → List (List ChgD) | true, _, un => un.dropLast | false, dn, un => mv1 dn un
theorem tD_t (dn un : List (List ChgD)) : tD true dn un = mv1 un dn := rfl
theorem tD_f (dn un : List (List ChgD)) : tD false dn un = dn.dropLast := rfl
theorem tU_t (dn un : List (List ChgD)) : tU true dn un = un.dropLast := rfl
theorem tU_f (dn un : List (List ChgD)) : tU false dn un = mv1 dn un := rfl
theorem pL_t (dn un : List (List ChgD)) : pL true dn un = rL un := rfl
theorem pL_f (dn un : List (List ChgD)) : pL false dn un = uL dn := rfl
theorem pO_t (dn un : List (List ChgD)) : pO true dn un = rO un := rfl
theorem pO_f (dn un : List (List ChgD)) : pO false dn un = uO dn := rfl
theorem uL_len {dn un : List (List ChgD)} (h : Ok64 dn un) : (uL dn).length ≤ 4398046510976 := by
  unfold uL
  cases h0 : dn.getLast? with
  | none => simp
  | some l => exact Nat.le_trans (backL_len l) (h.d20 l (List.mem_of_getLast? h0))
theorem rL_len {dn un : List (List ChgD)} (h : Ok64 dn un) : (rL un).length ≤ 4398046510976 := by
  unfold rL
  cases h0 : un.getLast? with
  | none => simp
  | some l => exact Nat.le_trans (againL_len l) (h.u20 l (List.mem_of_getLast? h0))
theorem pL_len {dn un : List (List ChgD)} (h : Ok64 dn un) : ∀ b, (pL b dn un).length ≤ 4398046510976
  | true => rL_len h
  | false => uL_len h
theorem peekA_s (c0 : World) (F : HP) (gs : Nat) (dn un : List (List ChgD)) (a : Nat → Addr) (rd : Bool) : Spec Tryd.prog c0 46 #[.pointer (some ⟨gs, 0, none⟩), .bool rd]
    (pu (ErrA F a ∧ Ok64 dn un) (stk gs dn un * F)) (fun r => ex fun b => ex fun e => pu (r = .tuple #[b, e]) (row 33 4 chg b (pL rd dn un) * (RefP a (pO rd dn un) e * (stk gs dn un * F)))) := by
  cases rd
  · exact peekUA_s c0 F gs dn un a
  · exact peekRA_s c0 F gs dn un a
theorem rpeekA_s (c0 : World) (F : HP) (gs : Nat) (dn un : List (List ChgD)) (a : Nat → Addr) (rd : Bool) : Spec Tryd.prog c0 47 #[.pointer (some ⟨gs, 0, none⟩), .bool rd]
    (pu (ErrA F a ∧ Ok64 dn un) (rstk gs dn un * F)) (fun r => ex fun b => ex fun e : NoD => pu (r = .tuple #[b, .agg (nov e)]) (row 33 4 chg b (pL rd dn un) * (NoP (pO rd dn un) e * (rstk gs dn un * F)))) := by
  cases rd
  · exact rpeekUA_s c0 F gs dn un a
  · exact rpeekRA_s c0 F gs dn un a
theorem rtakeA_s (c0 : World) (F : HP) (gs : Nat) (dn un : List (List ChgD)) (a : Nat → Addr) (rd : Bool) : Spec Tryd.prog c0 44 #[.pointer (some ⟨gs, 0, none⟩), .bool rd]
    (pu (ErrA F a ∧ Ok64 dn un) (rstk gs dn un * F)) (fun r => ex fun b => ex fun e : NoD => pu (r = .tuple #[b, .agg (nov e)]) (row 33 4 chg b (pL rd dn un) * (NoP (pO rd dn un) e * (rstk gs (tD rd dn un) (tU rd dn un) * F)))) := by
  cases rd
  · exact rtakeUA_s c0 F gs dn un a
  · exact rtakeRA_s c0 F gs dn un a
theorem rstk_nil {g : Nat} {F : HP} : Ent (blk g (.cells #[.slice none 0 0, .slice none 0 0] 52 (0, 0)) * F) (rstk g [] [] * F) := by
  refine ent_trans ?_ (rstk_shut (A := none) (n := 0) (c := 0) (ts := []) (B := none) (m := 0) (d := 0) (us := []))
  unfold rstkO
  refine star_mono ent_refl ?_
  unfold rowsOf
  simp only [emp_star]
  exact ent_trans ent_row_nil (star_mono ent_refl ent_row_nil)
theorem clearR_s (c0 : World) (F : HP) (gs gr : Nat) (dn un : List (List ChgD)) : Spec Tryd.prog c0 48 #[.pointer (some ⟨gs, 0, none⟩)] (stk gs dn un * (rstk gr dn un * F))
    (fun _ => ex fun x : SlD => ex fun y : SlD => stk gs [] [] * (blk gr (.cells #[.slice x.p x.n x.c, .slice y.p y.n y.c] 52 (0, 0)) * F)) := by
  intro w hs
  refine (clear_s c0 (rstk gr dn un * F) gs dn un w hs).mono fun e w' ⟨v, hx, h⟩ => ⟨v, hx, ?_⟩
  obtain ⟨A, n, c, ts, B, m, d, us, ht, hu, rfl, rfl, hc1, hc2, hd1, hd2, h⟩ := rstk_open (F := stk gs [] [] * F) (h.mono (by ((repeat (first | (with_reducible (first | exact ent_refl | exact ent_emp)) | ((with_reducible apply ent_front); (focus with_reducible (repeat (first | exact ent_here | apply ent_next | exact ent_last)); done)) | (with_reducible (first | exact ent_keep | apply ent_trans ent_drop)))); done)))
  unfold rstkO at h
  exact h.mono (ent_ex ⟨A, ts.length, c⟩ (ent_ex ⟨B, us.length, d⟩ (by dsimp only; ((repeat (first | (with_reducible (first | exact ent_refl | exact ent_emp)) | ((with_reducible apply ent_front); (focus with_reducible (repeat (first | exact ent_here | apply ent_next | exact ent_last)); done)) | (with_reducible (first | exact ent_keep | apply ent_trans ent_drop)))); done))))
theorem same2_s (c0 : World) (F : HP) (gp gs gr : Nat) (dn un : List (List ChgD)) : Spec Tryd.prog c0 26 #[.pointer (some ⟨gp, 0, none⟩)] (pu (Ok64 dn un) (blk gp (.cells (prv ⟨some ⟨gs, 0, none⟩, some ⟨gr, 0, none⟩⟩) 54 (0, 0)) * (stk gs dn un * (rstk gr dn un * F))))
    (fun r => pu (r = .bool true) (blk gp (.cells (prv ⟨some ⟨gs, 0, none⟩, some ⟨gr, 0, none⟩⟩) 54 (0, 0)) * (stk gs dn un * (rstk gr dn un * F)))) := by
  have := same_s c0 F gp gs gr dn un
  unfold pairK at this
  simp only [star_assoc] at this
  exact this
theorem ucut2_s (c0 : World) (F : HP) (A : Option Addr) (n c q : Nat) : Spec Tryd.prog c0 9 #[.slice A n c] (pu (q = min n 20 ∧ n ≤ c ∧ c ≤ maxLen) F) (fun r => pu (r = .slice A q c) F) := by
  intro w hq; obtain ⟨⟨rfl, h1, h2⟩, hs⟩ := hq.pu; clear hq
  unfold maxLen at h2
  by_cases h : n ≤ 20
  · have hm : min n 20 = n := by omega
    rw [hm]
    go_enter Tryd.func9, Tryd.ntmps9
    go_wp2_with fail
    (go_ret; simp only [za, zb, zc, zd, ze, zf])
    exact ⟨_, rfl, hs.mono (ent_pu rfl (by ((repeat (first | (with_reducible (first | exact ent_refl | exact ent_emp)) | ((with_reducible apply ent_front); (focus with_reducible (repeat (first | exact ent_here | apply ent_next | exact ent_last)); done)) | (with_reducible (first | exact ent_keep | apply ent_trans ent_drop)))); done)))⟩
  · have hm : min n 20 = 20 := by omega
    rw [hm]
    go_enter Tryd.func9, Tryd.ntmps9
    go_wp2_with fail
    (go_ret; simp only [za, zb, zc, zd, ze, zf])
    exact ⟨_, rfl, hs.mono (ent_pu rfl (by ((repeat (first | (with_reducible (first | exact ent_refl | exact ent_emp)) | ((with_reducible apply ent_front); (focus with_reducible (repeat (first | exact ent_here | apply ent_next | exact ent_last)); done)) | (with_reducible (first | exact ent_keep | apply ent_trans ent_drop)))); done)))⟩
set_option maxRecDepth 20000 in
set_option maxHeartbeats 4000000 in
theorem does_s (c0 : World) (F : HP) (gp gs gr : Nat) (dn un : List (List ChgD)) (a : Nat → Addr) (o : UopD) (l : List ChgD) : Spec Tryd.prog c0 25 #[.pointer (some ⟨gp, 0, none⟩), .agg (uop o)]
    (pu (InI o.what ∧ SlR F 4 chg (.slice o.lp o.ln o.lc) l ∧ ErrA F a ∧ Ok64 dn un) (pairK gp gs gr dn un * F))
    (fun r => ex fun dn' => ex fun un' => pu (r = .bool true ∧ Ok64 dn' un') (pairK gp gs gr dn' un' * F)) := by
  intro w hq; obtain ⟨⟨hwh, hsl, hE, h64⟩, hs⟩ := hq.pu; clear hq
  unfold pairK at hs
  simp only [star_assoc] at hs
  obtain ⟨wh, rd, A, n, c⟩ := o
  dsimp only at hwh hsl
  have hF : Own F w := hs.own.mono (ent_trans ent_drop (ent_trans ent_drop ent_drop))
  obtain ⟨hn, hnc, hcm, _⟩ := slr_len hsl hF
  have hwi : ∀ F, Spec Tryd.prog c0 42 #[.int .i64 wh, .int .i64 6] F (fun r => ex fun k : Nat => pu (r = .int .i64 k ∧ (k : Int) < 6) F) := fun F w hs => within_s c0 F wh 6 w (hs.mono (ent_pu ⟨by omega, by omega, hwh⟩ ent_refl))
  have hcu : ∀ F, Spec Tryd.prog c0 9 #[.slice A n c] F (fun r => pu (r = .slice A (min n 20) c) F) := fun F w hs => ucut2_s c0 F A n c _ w (hs.mono (ent_pu ⟨rfl, hnc, hcm⟩ ent_refl))
  have hst : SlR F 4 chg (.slice A (min n 20) c) (l.take 20) := by
    have e : l.take (min n 20) = l.take 20 := by
      rcases Nat.le_total n 20 with h | h
      · rw [Nat.min_eq_left h, List.take_of_length_le (by omega), List.take_of_length_le (by omega)]
      · rw [Nat.min_eq_right h]
    rw [← e]
    exact slr_take hsl _ (by omega)
  have hm20 : (l.take 20).length ≤ 4398046510976 := by simp; omega
  have hml : (l.take 20).length = min n 20 := by rw [List.length_take, hn]; omega
  generalize min n 20 = q at *
  generalize l.take 20 = m at *
  have huL := uL_len h64
  have hrL := rL_len h64
  have hpL := pL_len h64 rd
  have hlen := h64.len
  clear hsl hnc hcm hn hwh hF
  replace hml := Lib.hid hml
  go_enter Tryd.func25, Tryd.ntmps25
  go_wp2_with (first
        | ((with_reducible apply wp_region_sl (G := (rstk _ _ _)) (id := 6) hs 1000); (focus with_reducible (repeat (first | exact ent_here | apply ent_next | exact ent_last)); done); (focus kernel_rfl); (focus decide +kernel); clear hs; (try clear w); intro hR w hRR hs; (try simp only [star_assoc] at hs))
        | ((with_reducible apply wp_region_sl (G := (stk _ _ _)) (id := 17) hs 1000); (focus with_reducible (repeat (first | exact ent_here | apply ent_next | exact ent_last)); done); (focus kernel_rfl); (focus decide +kernel); clear hs; (try clear w); intro hR w hRR hs; (try simp only [star_assoc] at hs))
        | ((with_reducible apply wp_region_al (G := (rstk _ _ _)) (id := 18) hs 12 [[0, 1, 2, 3, 4, 5, 6, 7, 8, 9, 10, 11], [0, 1, 2, 3, 4, 5, 10, 6, 7, 8, 9, 11]]); (focus with_reducible (repeat (first | exact ent_here | apply ent_next | exact ent_last)); done); (focus kernel_rfl); (focus decide +kernel); clear hs; (try clear w); intro hR w hRR hs; (try simp only [star_assoc] at hs); simp only [zk, zl, opsAlong, List.filterMap_cons, List.filterMap_nil, zd, ze, List.drop_succ_cons, List.drop_zero, List.cons_append, List.nil_append, allAlong])
        | ((with_reducible apply pl_call hs (hwi _)); (go_must (((focus (simp only [zj, zk, zl, List.append_toArray, List.nil_append, List.cons_append, Act.eval, za, zb, zc, zd, ze, zf]; (try with_reducible rfl); done)); (focus ((repeat (first | (with_reducible (first | exact ent_refl | apply ent_puR)) | ((with_reducible apply ent_front); (focus with_reducible (repeat (first | exact ent_here | apply ent_next | exact ent_last)); done)) | (with_reducible (first | exact ent_keep | apply ent_trans ent_drop)) | (fail))); done)); (focus (simp only [go_sem]))))); clear hs; (try clear w); intro v w hq; (obtain ⟨ka, hq1⟩ := hq.ex; obtain ⟨⟨rfl, hka⟩, hs⟩ := hq1.pu; clear hq1); clear hq; (try simp only [star_assoc, star_emp, emp_star] at hs); (try simp only [Act.put, zg, zh, zi]))
        | ((with_reducible apply pl_call hs (hcu _)); (go_must (((focus (simp only [zj, zk, zl, List.append_toArray, List.nil_append, List.cons_append, Act.eval, za, zb, zc, zd, ze, zf]; (try with_reducible rfl); done)); (focus ((repeat (first | (with_reducible (first | exact ent_refl | apply ent_puR)) | ((with_reducible apply ent_front); (focus with_reducible (repeat (first | exact ent_here | apply ent_next | exact ent_last)); done)) | (with_reducible (first | exact ent_keep | apply ent_trans ent_drop)) | (fail))); done)); (focus (simp only [go_sem]))))); clear hs; (try clear w); intro v w hq; (obtain ⟨rfl, hs⟩ := hq.pu); clear hq; (try simp only [star_assoc, star_emp, emp_star] at hs); (try simp only [Act.put, zg, zh, zi]))
        | ((with_reducible apply mx_call hs (hcu _)); (go_must (((focus (simp only [zj, zk, zl, List.append_toArray, List.nil_append, List.cons_append, Act.eval, za, zb, zc, zd, ze, zf]; (try with_reducible rfl); done)); (focus ((repeat (first | (with_reducible (first | exact ent_refl | apply ent_puR)) | ((with_reducible apply ent_front); (focus with_reducible (repeat (first | exact ent_here | apply ent_next | exact ent_last)); done)) | (with_reducible (first | exact ent_keep | apply ent_trans ent_drop)) | (fail))); done)); (focus (simp only [go_sem])); (focus (intros; with_reducible (refine in_of_sat (by assumption) ?_; repeat (first | exact ent_exh_here | exact ent_last | refine ent_pu_l (fun _ => ?_) | refine ent_ex_l (fun _ => ?_) | apply ent_exh_next)); done))))); clear hs; (try clear w); intro v w hq; (obtain ⟨rfl, hs⟩ := hq.pu); clear hq; (try simp only [star_assoc, star_emp, emp_star] at hs); (try simp only [Act.put, zg, zh, zi]))
        | ((with_reducible apply pl_call hs (doneA_s _ _ _ dn un _ m)); (go_must (((focus (simp only [zj, zk, zl, List.append_toArray, List.nil_append, List.cons_append, Act.eval, za, zb, zc, zd, ze, zf]; (try with_reducible rfl); done)); (focus ((repeat (first | (with_reducible (first | exact ent_refl | apply ent_puR)) | ((with_reducible apply ent_front); (focus with_reducible (repeat (first | exact ent_here | apply ent_next | exact ent_last)); done)) | (with_reducible (first | exact ent_keep | apply ent_trans ent_drop)) | (focus (first | ((repeat' (first | (with_reducible assumption) | (with_reducible apply And.intro) | (focus (first | ((repeat (first | (with_reducible (first | assumption |  exact hsl _ | exact hsl2 _ | exact hsl3 _ _ _ | exact slr_nil | exact slr_row (fun _ => by simp only [go_sem]) | exact slr_one (fun _ => by simp only [go_sem]) | (apply slr_left; assumption))) | (with_reducible apply slr_next))); done) | ((repeat (first | (with_reducible (first | assumption |  exact hsl _ | exact hsl2 _ | exact hsl3 _ _ _ | exact slr_nil | exact slr_row (fun _ => by simp only [go_sem]) | exact slr_one (fun _ => by simp only [go_sem]) | (apply slr_left; assumption))) | (with_reducible (first | (apply slr_exh; focus assumption) | (apply slr_exh0; focus assumption) | apply slr_next)))); done))))); done))))); done)); (focus (simp only [go_sem]))))); clear hs; (try clear w); intro v w hq; (have hs := hq); clear hq; (try simp only [star_assoc, star_emp, emp_star] at hs); (try simp only [Act.put, zg, zh, zi]))
        | ((with_reducible apply pl_call hs (spoil_chg_s _ _ _ m)); (go_must (((focus (simp only [zj, zk, zl, List.append_toArray, List.nil_append, List.cons_append, Act.eval, za, zb, zc, zd, ze, zf]; (try with_reducible rfl); done)); (focus ((repeat (first | (with_reducible (first | exact ent_refl | apply ent_puR)) | ((with_reducible apply ent_front); (focus with_reducible (repeat (first | exact ent_here | apply ent_next | exact ent_last)); done)) | (with_reducible (first | exact ent_keep | apply ent_trans ent_drop)) | (focus (first | ((repeat' (first | omega)); done))))); done)); (focus (simp only [go_sem]))))); clear hs; (try clear w); intro v w hq; (have hs := hq); clear hq; (try simp only [star_assoc, star_emp, emp_star] at hs); (try simp only [Act.put, zg, zh, zi]))
        | ((with_reducible apply mx_call hs (rPushA_s _ _ _ dn un _ m)); (go_must (((focus (simp only [zj, zk, zl, List.append_toArray, List.nil_append, List.cons_append, Act.eval, za, zb, zc, zd, ze, zf]; (try with_reducible rfl); done)); (focus ((repeat (first | (with_reducible (first | exact ent_refl | apply ent_puR)) | ((with_reducible apply ent_front); (focus with_reducible (repeat (first | exact ent_here | apply ent_next | exact ent_last)); done)) | (with_reducible (first | exact ent_keep | apply ent_trans ent_drop)) | (focus (first | ((repeat' (first | (with_reducible assumption) | (with_reducible apply And.intro) | (focus (first | ((repeat (first | (with_reducible (first | assumption |  exact hsl _ | exact hsl2 _ | exact hsl3 _ _ _ | exact slr_nil | exact slr_row (fun _ => by simp only [go_sem]) | exact slr_one (fun _ => by simp only [go_sem]) | (apply slr_left; assumption))) | (with_reducible apply slr_next))); done) | ((repeat (first | (with_reducible (first | assumption |  exact hsl _ | exact hsl2 _ | exact hsl3 _ _ _ | exact slr_nil | exact slr_row (fun _ => by simp only [go_sem]) | exact slr_one (fun _ => by simp only [go_sem]) | (apply slr_left; assumption))) | (with_reducible (first | (apply slr_exh; focus assumption) | (apply slr_exh0; focus assumption) | apply slr_next)))); done))))); done))))); done)); (focus (simp only [go_sem])); (focus (intros; with_reducible (refine in_of_sat (by assumption) ?_; repeat (first | exact ent_exh_here | exact ent_last | refine ent_pu_l (fun _ => ?_) | refine ent_ex_l (fun _ => ?_) | apply ent_exh_next)); done))))); clear hs; (try clear w); intro v w hq; (have hs := hq); clear hq; (try simp only [star_assoc, star_emp, emp_star] at hs); (try simp only [Act.put, zg, zh, zi]))
        | ((with_reducible apply pl_call hs (takeUA_s _ _ _ dn un a)); (go_must (((focus (simp only [zj, zk, zl, List.append_toArray, List.nil_append, List.cons_append, Act.eval, za, zb, zc, zd, ze, zf]; (try with_reducible rfl); done)); (focus ((repeat (first | (with_reducible (first | exact ent_refl | apply ent_puR)) | ((with_reducible apply ent_front); (focus with_reducible (repeat (first | exact ent_here | apply ent_next | exact ent_last)); done)) | (with_reducible (first | exact ent_keep | apply ent_trans ent_drop)) | (focus (first | ((repeat' (first | (with_reducible assumption) | (with_reducible apply And.intro) | (focus (with_reducible (repeat (first | assumption | (apply ErrA.left; assumption) | refine ErrA.exh (by assumption) ?_ | refine ErrA.exh0 (by assumption) ?_ | apply ErrA.next)); done)))); done))))); done)); (focus (simp only [go_sem]))))); clear hs; (try clear w); intro v w hq; (obtain ⟨b, hq1⟩ := hq.ex; obtain ⟨e, hq2⟩ := hq1.ex; obtain ⟨rfl, hs⟩ := hq2.pu; clear hq1 hq2); clear hq; (try simp only [star_assoc, star_emp, emp_star] at hs); (try simp only [Act.put, zg, zh, zi]))
        | ((with_reducible apply pl_call hs (takeRA_s _ _ _ dn un a)); (go_must (((focus (simp only [zj, zk, zl, List.append_toArray, List.nil_append, List.cons_append, Act.eval, za, zb, zc, zd, ze, zf]; (try with_reducible rfl); done)); (focus ((repeat (first | (with_reducible (first | exact ent_refl | apply ent_puR)) | ((with_reducible apply ent_front); (focus with_reducible (repeat (first | exact ent_here | apply ent_next | exact ent_last)); done)) | (with_reducible (first | exact ent_keep | apply ent_trans ent_drop)) | (focus (first | ((repeat' (first | (with_reducible assumption) | (with_reducible apply And.intro) | (focus (with_reducible (repeat (first | assumption | (apply ErrA.left; assumption) | refine ErrA.exh (by assumption) ?_ | refine ErrA.exh0 (by assumption) ?_ | apply ErrA.next)); done)))); done))))); done)); (focus (simp only [go_sem]))))); clear hs; (try clear w); intro v w hq; (obtain ⟨b, hq1⟩ := hq.ex; obtain ⟨e, hq2⟩ := hq1.ex; obtain ⟨rfl, hs⟩ := hq2.pu; clear hq1 hq2); clear hq; (try simp only [star_assoc, star_emp, emp_star] at hs); (try simp only [Act.put, zg, zh, zi]))
        | ((with_reducible apply mx_call hs (peekA_s _ _ _ dn un a rd)); (go_must (((focus (simp only [zj, zk, zl, List.append_toArray, List.nil_append, List.cons_append, Act.eval, za, zb, zc, zd, ze, zf]; (try with_reducible rfl); done)); (focus ((repeat (first | (with_reducible (first | exact ent_refl | apply ent_puR)) | ((with_reducible apply ent_front); (focus with_reducible (repeat (first | exact ent_here | apply ent_next | exact ent_last)); done)) | (with_reducible (first | exact ent_keep | apply ent_trans ent_drop)) | (focus (first | ((repeat' (first | (with_reducible assumption) | (with_reducible apply And.intro) | (focus (with_reducible (repeat (first | assumption | (apply ErrA.left; assumption) | refine ErrA.exh (by assumption) ?_ | refine ErrA.exh0 (by assumption) ?_ | apply ErrA.next)); done)))); done))))); done)); (focus (simp only [go_sem])); (focus (intros; with_reducible (refine in_of_sat (by assumption) ?_; repeat (first | exact ent_exh_here | exact ent_last | refine ent_pu_l (fun _ => ?_) | refine ent_ex_l (fun _ => ?_) | apply ent_exh_next)); done))))); clear hs; (try clear w); intro v w hq; (obtain ⟨b, hq1⟩ := hq.ex; obtain ⟨e, hq2⟩ := hq1.ex; obtain ⟨rfl, hs⟩ := hq2.pu; clear hq1 hq2); clear hq; (try simp only [star_assoc, star_emp, emp_star] at hs); (try simp only [Act.put, zg, zh, zi]))
        | ((with_reducible apply mx_call hs (rpeekA_s _ _ _ dn un a rd)); (go_must (((focus (simp only [zj, zk, zl, List.append_toArray, List.nil_append, List.cons_append, Act.eval, za, zb, zc, zd, ze, zf]; (try with_reducible rfl); done)); (focus ((repeat (first | (with_reducible (first | exact ent_refl | apply ent_puR)) | ((with_reducible apply ent_front); (focus with_reducible (repeat (first | exact ent_here | apply ent_next | exact ent_last)); done)) | (with_reducible (first | exact ent_keep | apply ent_trans ent_drop)) | (focus (first | ((repeat' (first | (with_reducible assumption) | (with_reducible apply And.intro) | (focus (with_reducible (repeat (first | assumption | (apply ErrA.left; assumption) | refine ErrA.exh (by assumption) ?_ | refine ErrA.exh0 (by assumption) ?_ | apply ErrA.next)); done)))); done))))); done)); (focus (simp only [go_sem])); (focus (intros; with_reducible (refine in_of_sat (by assumption) ?_; repeat (first | exact ent_exh_here | exact ent_last | refine ent_pu_l (fun _ => ?_) | refine ent_ex_l (fun _ => ?_) | apply ent_exh_next)); done))))); clear hs; (try clear w); intro v w hq; (obtain ⟨b, hq1⟩ := hq.ex; obtain ⟨e, hq2⟩ := hq1.ex; obtain ⟨rfl, hs⟩ := hq2.pu; clear hq1 hq2); clear hq; (try simp only [star_assoc, star_emp, emp_star] at hs); (try simp only [Act.put, zg, zh, zi]))
        | ((with_reducible apply pl_call hs (rtakeA_s _ _ _ dn un a _)); (go_must (((focus (simp only [zj, zk, zl, List.append_toArray, List.nil_append, List.cons_append, Act.eval, za, zb, zc, zd, ze, zf]; (try with_reducible rfl); done)); (focus ((repeat (first | (with_reducible (first | exact ent_refl | apply ent_puR)) | ((with_reducible apply ent_front); (focus with_reducible (repeat (first | exact ent_here | apply ent_next | exact ent_last)); done)) | (with_reducible (first | exact ent_keep | apply ent_trans ent_drop)) | (focus (first | ((repeat' (first | (with_reducible assumption) | (with_reducible apply And.intro) | (focus (with_reducible (repeat (first | assumption | (apply ErrA.left; assumption) | refine ErrA.exh (by assumption) ?_ | refine ErrA.exh0 (by assumption) ?_ | apply ErrA.next)); done)))); done))))); done)); (focus (simp only [go_sem]))))); clear hs; (try clear w); intro v w hq; (obtain ⟨b, hq1⟩ := hq.ex; obtain ⟨e, hq2⟩ := hq1.ex; obtain ⟨rfl, hs⟩ := hq2.pu; clear hq1 hq2; simp only [tD_t, tD_f, tU_t, tU_f, pL_t, pL_f, pO_t, pO_f] at hs); clear hq; (try simp only [star_assoc, star_emp, emp_star] at hs); (try simp only [Act.put, zg, zh, zi]))
        | ((with_reducible apply pl_call hs (got_s _ _ a _ _ _ _ _ _)); (go_must (((focus (simp only [zj, zk, zl, List.append_toArray, List.nil_append, List.cons_append, Act.eval, za, zb, zc, zd, ze, zf]; (try with_reducible rfl); done)); (focus ((repeat (first | (with_reducible (first | exact ent_refl | apply ent_puR)) | ((with_reducible apply ent_front); (focus with_reducible (repeat (first | exact ent_here | apply ent_next | exact ent_last)); done)) | (with_reducible (first | exact ent_keep | apply ent_trans ent_drop)) | (focus (first | ((repeat' (first | (with_reducible apply And.intro) | omega | (focus (with_reducible (repeat (first | assumption | (apply ErrA.left; assumption) | refine ErrA.exh (by assumption) ?_ | refine ErrA.exh0 (by assumption) ?_ | apply ErrA.next)); done)))); done))))); done)); (focus (simp only [go_sem]))))); clear hs; (try clear w); intro v w hq; (obtain ⟨rfl, hs⟩ := hq.pu); clear hq; (try simp only [star_assoc, star_emp, emp_star] at hs); (try simp only [Act.put, zg, zh, zi]))
        | ((with_reducible apply pl_call hs (clearR_s _ _ _ _ _ _)); (go_must (((focus (simp only [zj, zk, zl, List.append_toArray, List.nil_append, List.cons_append, Act.eval, za, zb, zc, zd, ze, zf]; (try with_reducible rfl); done)); (focus ((repeat (first | (with_reducible (first | exact ent_refl | apply ent_puR)) | ((with_reducible apply ent_front); (focus with_reducible (repeat (first | exact ent_here | apply ent_next | exact ent_last)); done)) | (with_reducible (first | exact ent_keep | apply ent_trans ent_drop)) | (fail))); done)); (focus (simp only [go_sem]))))); clear hs; (try clear w); intro v w hq; (obtain ⟨⟨x, x1, x2⟩, hq1⟩ := hq.ex; obtain ⟨⟨y, y1, y2⟩, hs⟩ := hq1.ex; clear hq1); clear hq; (try simp only [star_assoc, star_emp, emp_star] at hs); (try simp only [Act.put, zg, zh, zi]))
        | ((with_reducible apply pl_call hs (same2_s _ _ gp gs gr dn un)); (go_must (((focus (simp only [zj, zk, zl, List.append_toArray, List.nil_append, List.cons_append, Act.eval, za, zb, zc, zd, ze, zf]; (try with_reducible rfl); done)); (focus ((repeat (first | (with_reducible (first | exact ent_refl | apply ent_puR)) | ((with_reducible apply ent_front); (focus with_reducible (repeat (first | exact ent_here | apply ent_next | exact ent_last)); done)) | (with_reducible (first | exact ent_keep | apply ent_trans ent_drop)) | (focus (first | (with_reducible assumption))))); done)); (focus (simp only [go_sem]))))); clear hs; (try clear w); intro v w hq; (obtain ⟨rfl, hs⟩ := hq.pu); clear hq; (try simp only [star_assoc, star_emp, emp_star] at hs); (try simp only [Act.put, zg, zh, zi]))
        | ((with_reducible apply pl_loadN hs); (focus (simp only [Act.eval, za, zb, zc, zd, ze, zf]; (try with_reducible rfl); done)); (with_reducible (first | exact agg_44)); (focus ((repeat (first | (with_reducible (first | assumption | exact hel _ | exact hel2 _ | exact hel3 _)) | ((with_reducible apply reads_whole); (focus (first | (with_reducible rfl) | (simp only [go_sem]; done) | (simp; done)))) | ((with_reducible apply reads_part); (focus (first | (simp [go_sem]; done) | (simp only [go_sem]; omega) | go_size)); (focus (first | (simp only [Nat.reduceAdd, Nat.zero_add, go_sem]; (try with_reducible rfl); done) | (simp [go_sem]; (try with_reducible rfl); done)))) | (with_reducible (first | (apply reads_left; assumption) | refine reads_exh (by assumption) ?_ | refine reads_exh0 (by assumption) ?_ | apply reads_next)))); done)); (focus rfl); simp only [Act.put, zg, zh, zi])
        | ((with_reducible apply pl_load1 hs); (focus (simp only [Act.eval, za, zb, zc, zd, ze, zf]; (try with_reducible rfl); done)); (focus (simp only [go_sem])); (focus ((repeat (first | (with_reducible (first | assumption | exact hec _ | exact hec2 _ | exact hec3 _ | exact hec4 _ _)) | ((with_reducible apply readc_here); (focus (first | (simp only [zc, zd, ze, go_sem]; (try with_reducible rfl); done) | (go_simp; (try with_reducible rfl); done)))) | (with_reducible (first | (apply readc_left; assumption) | refine readc_exh (by assumption) ?_ | refine readc_exh0 (by assumption) ?_ | apply readc_next)))); done)); (focus rfl); simp only [Act.put, zg, zh, zi])
        | ((with_reducible apply pl_alloc hs); (with_reducible (first | exact zero_44)); clear hs; (try clear w); intro g w hs; skip; simp only [Act.put, zg, zh, zi])
        | ((with_reducible apply pl_box hs); (focus (simp only [Act.eval, za, zb, zc, zd, ze, zf]; (try with_reducible rfl); done)); (focus (first | (with_reducible (first | exact cells_slv _ _ _ | exact cells_intv _ | exact cells_agg _ | exact cells_int _ _ | exact cells_bool _ | exact cells_string _ | exact cells_slice _ _ _ | exact cells_pointer _ | exact cells_map _ | exact cells_iface _ _ | exact cells_nilIface | exact cells_func _ _ _)) | (exact cells_one (by assumption)))); clear hs; (try clear w); intro g w hs; skip; simp only [Act.put, zg, zh, zi])
        | ((with_reducible apply pl_bs0r hs); (with_reducible (first | exact app_22)); clear hs; (try clear w); intro g w hs; skip; simp only [Act.put, zg, zh, zi])
        | ((with_reducible apply pl_store1 hs); (focus (simp only [Act.eval, za, zb, zc, zd, ze, zf]; (try with_reducible rfl); done)); (focus (simp only [Act.eval, za, zb, zc, zd, ze, zf]; (try with_reducible rfl); done)); (focus (simp only [go_sem])); (focus with_reducible (repeat (first | exact ent_here | apply ent_next | exact ent_last)); done); (focus (first | (simp [go_sem]; done) | (simp only [go_sem]; omega) | go_size)); (focus (first | (simp only [go_sem]; done) | (simp [go_sem]; done))); clear hs; (try clear w); intro w hs; (try simp only [zg, zh, zi, idv_s0, idv_s1, idv_s2, chg_s0, chg_s1, chg_s2, chg_s3, uop_s0, uop_s1, uop_s2, prv_s0, prv_s1, lnk_s0, lnk_s1, lnk_s2, nov_s0, nov_s1, nov_s2, slv_set, intv_set] at hs); simp only [Act.put, zg, zh, zi])
        | ((with_reducible apply pl_storeN hs); (focus (simp only [Act.eval, za, zb, zc, zd, ze, zf]; (try with_reducible rfl); done)); (focus (simp only [Act.eval, za, zb, zc, zd, ze, zf]; (try with_reducible rfl); done)); (with_reducible (first | exact agg_44)); (focus with_reducible (repeat (first | exact ent_here | apply ent_next | exact ent_last)); done); (focus (first | (with_reducible rfl) | (simp only [go_sem]; done) | (simp; done))); (focus (first | (simp [go_sem]; done) | (simp only [go_sem]; omega) | go_size)); (focus (first | (simp only [go_sem]; done) | (simp [go_sem]; done))); (focus (first | ((with_reducible apply splice_whole); (focus (first | (with_reducible rfl) | (simp only [go_sem]; done) | (simp; done)))) | (simp [splice, go_sem]; done) | (simp only [go_sem]; (try with_reducible rfl); done))); clear hs; (try clear w); intro w hs; (try simp only [zg, zh, zi, idv_s0, idv_s1, idv_s2, chg_s0, chg_s1, chg_s2, chg_s3, uop_s0, uop_s1, uop_s2, prv_s0, prv_s1, lnk_s0, lnk_s1, lnk_s2, nov_s0, nov_s1, nov_s2, slv_set, intv_set] at hs); simp only [Act.put, zg, zh, zi])
        | ((with_reducible apply pl_appendN hs); (with_reducible (first | exact app_22 | exact app_41 | exact app_42 | exact app_47 | exact app_50)); (focus (simp only [Act.eval, za, zb, zc, zd, ze, zf]; (try with_reducible rfl); done)); (first | (focus with_reducible (repeat (first | exact ent_here | apply ent_next | exact ent_last)); done) | (focus (with_reducible exact ent_row_nil)) | (focus ((with_reducible apply ent_row_of_blk); (focus with_reducible (repeat (first | exact ent_here | apply ent_next | exact ent_last)); done); (focus (simp only [go_sem]))))); (focus (simp only [Act.eval, za, zb, zc, zd, ze, zf]; (try with_reducible rfl); done)); (focus (first | ((repeat (first | (with_reducible (first | assumption |  exact hsl _ | exact hsl2 _ | exact hsl3 _ _ _ | exact slr_nil | exact slr_row (fun _ => by simp only [go_sem]) | exact slr_one (fun _ => by simp only [go_sem]) | (apply slr_left; assumption))) | (with_reducible apply slr_next))); done) | ((repeat (first | (with_reducible (first | assumption |  exact hsl _ | exact hsl2 _ | exact hsl3 _ _ _ | exact slr_nil | exact slr_row (fun _ => by simp only [go_sem]) | exact slr_one (fun _ => by simp only [go_sem]) | (apply slr_left; assumption))) | (with_reducible (first | (apply slr_exh; focus assumption) | (apply slr_exh0; focus assumption) | apply slr_next)))); done))); (focus (first | (simp only [maxLen] at *; omega) | (simp [maxLen] at *; omega))); (focus (first | (simp only [maxLen] at *; omega) | (simp [maxLen] at *; omega))); clear hs; (try clear w); intro Ap cq w hs; (try simp only [List.length_nil, Nat.zero_add, List.nil_append] at hs ⊢); simp only [Act.put, zg, zh, zi])
        | ((with_reducible apply mix_end hRR hs); (focus with_reducible (repeat (first | exact ent_here | apply ent_next | exact ent_last)); done); clear hs; (try clear w); intro w hs; (try simp only [star_assoc, star_emp, emp_star] at hs); clear hRR hR)
        | (with_reducible refine And.intro (?_ : wpMix _ _ _ _ _ _ _ _) ?_)
        | ((with_reducible apply mix_thaw hRR hs); (focus with_reducible (repeat (first | exact ent_here | apply ent_next | exact ent_last)); done); clear hs; (try clear w); intro w hs; (try simp only [star_assoc, star_emp, emp_star] at hs); clear hRR hR)
        | ((with_reducible apply mx_load1 hRR); (focus (simp only [Act.eval, za, zb, zc, zd, ze, zf]; (try with_reducible rfl); done)); (focus (simp only [go_sem])); (focus ((repeat (first | (with_reducible (first | assumption | exact hec _ | exact hec2 _ | exact hec3 _ | exact hec4 _ _)) | ((with_reducible apply readc_here); (focus (first | (simp only [zc, zd, ze, go_sem]; (try with_reducible rfl); done) | (go_simp; (try with_reducible rfl); done)))) | (with_reducible (first | (apply readc_left; assumption) | refine readc_exh (by assumption) ?_ | refine readc_exh0 (by assumption) ?_ | apply readc_next)))); done)); simp only [Act.put, zg, zh, zi])
        | ((with_reducible apply mx_alloc hs); (with_reducible (first | exact zero_44)); (focus (intros; with_reducible (refine in_of_sat (by assumption) ?_; repeat (first | exact ent_exh_here | exact ent_last | refine ent_pu_l (fun _ => ?_) | refine ent_ex_l (fun _ => ?_) | apply ent_exh_next)); done)); clear hs; (try clear w); intro g w hs; skip; simp only [Act.put, zg, zh, zi])
        | ((with_reducible refine mix_float ?_ ?_ ?_ (fun h hk => ?_) ?_); rotate_left 1; (focus rfl); (focus rfl); (focus (go_simp; (try (rw [if_pos (by omega)]; (try go_simp))); (try simp (disch := omega) only [IntWalk.i64_in, IntWalk.i32_in]); (try with_reducible rfl); done)); simp only [Act.put, zg, zh, zi]))
  all_goals (go_ret; simp only [za, zb, zc, zd, ze, zf])
  all_goals
    first
    | (refine ⟨_, rfl, hs.mono (ent_ex (dDn dn m) (ent_ex (dUn un m) (ent_pu ⟨rfl, h64.done hm20⟩ ?_)))⟩; unfold pairK; simp only [star_assoc]; ((repeat (first | (with_reducible (first | exact ent_refl | exact ent_emp)) | ((with_reducible apply ent_front); (focus with_reducible (repeat (first | exact ent_here | apply ent_next | exact ent_last)); done)) | (with_reducible (first | exact ent_keep | apply ent_trans ent_drop)))); done); done)
    | (refine ⟨_, rfl, hs.mono (ent_ex dn.dropLast (ent_ex (mv1 dn un) (ent_pu ⟨rfl, h64.undo⟩ ?_)))⟩; unfold pairK; simp only [star_assoc]; ((repeat (first | (with_reducible (first | exact ent_refl | exact ent_emp)) | ((with_reducible apply ent_front); (focus with_reducible (repeat (first | exact ent_here | apply ent_next | exact ent_last)); done)) | (with_reducible (first | exact ent_keep | apply ent_trans ent_drop)))); done); done)
    | (refine ⟨_, rfl, hs.mono (ent_ex (mv1 un dn) (ent_ex un.dropLast (ent_pu ⟨rfl, h64.redo⟩ ?_)))⟩; unfold pairK; simp only [star_assoc]; ((repeat (first | (with_reducible (first | exact ent_refl | exact ent_emp)) | ((with_reducible apply ent_front); (focus with_reducible (repeat (first | exact ent_here | apply ent_next | exact ent_last)); done)) | (with_reducible (first | exact ent_keep | apply ent_trans ent_drop)))); done); done)
    | (refine ⟨_, rfl, hs.mono (ent_ex dn (ent_ex un (ent_pu ⟨rfl, h64⟩ ?_)))⟩; unfold pairK; simp only [star_assoc]; ((repeat (first | (with_reducible (first | exact ent_refl | exact ent_emp)) | ((with_reducible apply ent_front); (focus with_reducible (repeat (first | exact ent_here | apply ent_next | exact ent_last)); done)) | (with_reducible (first | exact ent_keep | apply ent_trans ent_drop)))); done); done)
    | (refine ⟨_, rfl, hs.mono (ent_trans rstk_nil (ent_ex [] (ent_ex [] (ent_pu ⟨rfl, ok64_nil⟩ ?_))))⟩; unfold pairK; simp only [star_assoc]; ((repeat (first | (with_reducible (first | exact ent_refl | exact ent_emp)) | ((with_reducible apply ent_front); (focus with_reducible (repeat (first | exact ent_here | apply ent_next | exact ent_last)); done)) | (with_reducible (first | exact ent_keep | apply ent_trans ent_drop)))); done); done)
end Go.Proofs.YtflibhphpnajeaaDoor

set_option linter.unusedSimpArgs false
set_option linter.unusedVariables false
namespace Go.Proofs.YtflibhphpnajeaaDoor
open Go Go.RowKit

theorem refP_iface {a : Nat → Addr} {ls : List LinkD} {k : Nat} {v : Value} {F : HP} {c w : World} (hs : Sat c (RefP a (some (ls, k)) v * F) w) : ∃ t p, v = .iface t (.pointer p) := fch_iface (refP_some hs).2
/-- The calls as data. -/
def OpsI (F : HP) (l : List UopD) : Prop := ∀ o, o ∈ l → InI o.what ∧ ∃ m, SlR F 4 chg (.slice o.lp o.ln o.lc) m
end Go.Proofs.YtflibhphpnajeaaDoor

set_option linter.unusedSimpArgs false
set_option linter.unusedVariables false
namespace Go.Proofs.YtflibhphpnajeaaDoor
open Go Go.RowKit

theorem opens_uop (W : World) : OpensAt Tryd.prog W 57 3 uop (fun a => InI a.what ∧ ∃ m, SlIs W W.heap.size 4 chg (.slice a.lp a.ln a.lc) m ∧ ∀ c, c ∈ m → ChgDI c) :=
  ⟨by kernel_rfl, uop_size, fun enc base sp held fuel cs x h => by
    obtain ⟨xs, m, rfl, rfl, hl, hxl, hx⟩ := DataW.trod_struct Tryd.underlying57 h
    rw [show Tryd.prog.cellsOf 57 = 3 by kernel_rfl] at hl
    have h0 := hx 0 _ rfl
    have h1 := hx 1 _ rfl
    have h2 := hx 2 _ rfl
    have hxl : xs.length = 3 := hxl
    rw [List.getElem?_eq_getElem (by omega)] at h0 h1 h2
    obtain ⟨v0, k0, r0⟩ := (opens_int.at W).cut h0
    obtain ⟨v1, k1, r1⟩ := (opens_boolv.at W).cut h1
    obtain ⟨v2, k2, r2⟩ := (opens_slA Tryd.underlying22 (by kernel_rfl) (opens_chg.at W) (by decide)).cut h2
    refine ⟨⟨v0, v1, v2.p, v2.n, v2.c⟩, ?_, ⟨r0, r2⟩⟩
    have e := catCut_eq cs [1, 1, 1] 0
    simp only [catCut, List.drop_zero, Nat.zero_add, Nat.reduceAdd] at e
    replace k0 : List.take 1 cs = _ := k0
    replace k1 : List.take 1 (List.drop 1 cs) = _ := k1
    replace k2 : List.take 1 (List.drop 2 cs) = _ := k2
    rw [k0, k1, k2, List.drop_of_length_le (by omega), List.append_nil] at e
    rw [← e]
    simp [uop, slv]⟩
theorem opsI_of {W : World} {l : List UopD} (h : ∀ a, a ∈ l → InI a.what ∧ ∃ m, SlIs W W.heap.size 4 chg (.slice a.lp a.ln a.lc) m ∧ ∀ c, c ∈ m → ChgDI c) : OpsI (Exh (fun b => W.heap[b]?)) l := fun o ho => by
  obtain ⟨h1, m, h2, _⟩ := h o ho
  exact ⟨h1, m, slr_start h2⟩
end Go.Proofs.YtflibhphpnajeaaDoor
