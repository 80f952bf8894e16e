/- What the laws of texts share: how long, awake, within. -/
import Derived.Test.YtgoifgockcpnhaaDoorDE
set_option linter.unusedSimpArgs false
set_option linter.unusedVariables false
namespace Go.Proofs.YtgoifgockcpnhaaDoor
open Go Go.RowKit

def lenI (s : ByteArray) : Int := match runesL s.data.toList with
  | some l => l.length
  | none => -1
theorem lenI_some {s : ByteArray} {l : List Int} (h : runesL s.data.toList = some l) : lenI s = l.length := by unfold lenI; rw [h]
theorem lenI_none {s : ByteArray} (h : runesL s.data.toList = none) : lenI s = -1 := by unfold lenI; rw [h]
theorem length_s (c0 : World) (F : HP) (s : ByteArray) : Spec Tryd.prog c0 11 #[.string s] (pu (s.size ≤ 1000000) F) (fun r => pu (r = .int .i64 (lenI s)) F) := by
  intro w hq; obtain ⟨hsz, hs⟩ := hq.pu; clear hq
  rcases Option.eq_none_or_eq_some (runesL s.data.toList) with hx | ⟨x, hx⟩
  · rw [lenI_none hx]
    have hrd : ∀ F, Spec Tryd.prog c0 14 #[.string s] F (fun r => pu (r = .tuple #[.slice none 0 0, .bool false]) F) := fun F w hs => runesN_s c0 F s w (Sat.mono hs (ent_pu ⟨hsz, hx⟩ ent_refl))
    clear hx
    go_enter Tryd.func11, Tryd.ntmps11
    go_wp2_with (first
        | ((with_reducible apply pl_call hs (hrd _)); ((((focus (simp only [zj, zk, zl, List.append_toArray, List.nil_append, List.cons_append, Act.eval, za, zb, zc, zd, ze, zf]; (try with_reducible rfl); done)); (focus ((repeat (first | (with_reducible (first | exact ent_refl | apply ent_puR)) | ((with_reducible apply ent_front); (focus with_reducible (repeat (first | exact ent_here | apply ent_next | exact ent_last)); done)) | (with_reducible (first | exact ent_keep | apply ent_trans ent_drop)) | (fail))); done)); (focus (simp only [go_sem]))))); clear hs; (try clear w); intro v w hq; (obtain ⟨rfl, hs⟩ := hq.pu); clear hq; (try simp only [star_assoc, star_emp, emp_star] at hs); (try simp only [Act.put, zg, zh, zi])))
    (go_ret; simp only [za, zb, zc, zd, ze, zf])
    exact ⟨_, rfl, hs.mono (ent_pu rfl (by ((repeat (first | (with_reducible (first | exact ent_refl | exact ent_emp)) | ((with_reducible apply ent_front); (focus with_reducible (repeat (first | exact ent_here | apply ent_next | exact ent_last)); done)) | (with_reducible (first | exact ent_keep | apply ent_trans ent_drop)))); done)))⟩
  · rw [lenI_some hx]
    have hrx : ∀ F, Spec Tryd.prog c0 14 #[.string s] F (fun r => ex fun v : Value => pu (r = .tuple #[v, .bool true]) (row 21 1 runv v x * F)) := fun F w hs => runesS_s c0 F s x w (Sat.mono hs (ent_pu ⟨hsz, hx⟩ ent_refl))
    clear hx
    go_enter Tryd.func11, Tryd.ntmps11
    go_wp2_with (first
        | ((with_reducible apply pl_call hs (hrx _)); ((((focus (simp only [zj, zk, zl, List.append_toArray, List.nil_append, List.cons_append, Act.eval, za, zb, zc, zd, ze, zf]; (try with_reducible rfl); done)); (focus ((repeat (first | (with_reducible (first | exact ent_refl | apply ent_puR)) | ((with_reducible apply ent_front); (focus with_reducible (repeat (first | exact ent_here | apply ent_next | exact ent_last)); done)) | (with_reducible (first | exact ent_keep | apply ent_trans ent_drop)) | (fail))); done)); (focus (simp only [go_sem]))))); clear hs; (try clear w); intro v w hq; (obtain ⟨vx, hq1⟩ := hq.ex; obtain ⟨rfl, hs⟩ := hq1.pu; clear hq1; obtain ⟨Ax, cx, rfl, hx1, hx2⟩ := row_slice hs.own); clear hq; (try simp only [star_assoc, star_emp, emp_star] at hs); (try simp only [Act.put, zg, zh, zi])))
    (go_ret; simp only [za, zb, zc, zd, ze, zf])
    exact ⟨_, rfl, hs.mono (ent_pu rfl (by ((repeat (first | (with_reducible (first | exact ent_refl | exact ent_emp)) | ((with_reducible apply ent_front); (focus with_reducible (repeat (first | exact ent_here | apply ent_next | exact ent_last)); done)) | (with_reducible (first | exact ent_keep | apply ent_trans ent_drop)))); done)))⟩
theorem txt_small {A B : ByteArray} {x y : List Int} (hx : runesL A.data.toList = some x) (hy : runesL B.data.toList = some y) (hA : A.size ≤ 2000) (hB : B.size ≤ 2000) : txtR A B = .ok (x, y) := by
  have h1 := runes_len hx
  have h2 := runes_len hy
  unfold txtR
  rw [hx, hy]
  simp only
  rw [if_neg]
  rintro ⟨h3, h4⟩
  have h5 : (2000 : Int) ≤ 4194304 / (x.length : Int) := Int.le_ediv_of_mul_le (by omega) (by omega)
  omega
theorem txt_bad {A B : ByteArray} (h : runesL A.data.toList = none ∨ runesL B.data.toList = none) : ∃ p k, txtR A B = .error (p, k) := by
  unfold txtR
  rcases h with h | h
  · rw [h]; exact ⟨_, _, rfl⟩
  · rw [h]
    split
    · exact ⟨_, _, rfl⟩
    · exact ⟨_, _, rfl⟩
    · rename_i h1 h2; cases h2
theorem clipB_size (s : ByteArray) : (clipB s).size ≤ 120 := by
  unfold clipB
  split
  · rw [ByteArray.size_extract]; omega
  · omega
theorem wkE : wk 0 0 [] [97, 98, 99, 100] [97, 120, 99, 100] = [⟨1, 1, [120]⟩] := by simp [wk, dst, fl]
theorem wkD : dst [97, 98] [98, 97] = 2 := by simp [dst]
theorem one_read {g n c : Nat} {l : List EdtD} {d : EdtD} (h : l[0]? = some d) : ∀ R, Reads (row 44 3 edt (.slice (some ⟨g, 0, none⟩) n c) l * R) g 0 3 (edt d) := fun R => by
  have := reads_row (E := 44) (g := g) (n := n) (cap := c) (R := R) edt_size h
  rwa [Nat.zero_mul] at this
set_option maxRecDepth 20000 in
set_option maxHeartbeats 1000000 in
theorem wakes_s (c0 : World) (F : HP) (a : Nat → Addr) : Spec Tryd.prog c0 12 #[] (pu (ErrB F a ∧ TabF F) F) (fun r => pu (r = .bool true) F) := by
  intro w hq; obtain ⟨⟨hE, hT⟩, hs⟩ := hq.pu; clear hq
  have hed : ∀ F, Spec Tryd.prog c0 17 #[.string ⟨#[97, 98, 99, 100]⟩, .string ⟨#[97, 120, 99, 100]⟩] (pu (ErrB F a ∧ TabF F) F) (fun r => ex fun v : Value => pu (r = .tuple #[v, .nilIface]) (row 44 3 edt v [⟨1, 1, ⟨#[120]⟩⟩] * F)) := fun F w hs => by
    obtain ⟨⟨h1, h2⟩, hs⟩ := hs.pu
    have := edits_s c0 F a ⟨#[97, 98, 99, 100]⟩ ⟨#[97, 120, 99, 100]⟩ w (hs.mono (ent_pu ⟨h1, h2, by decide, by decide⟩ ent_refl))
    unfold EdR at this
    rw [show txtR ⟨#[97, 98, 99, 100]⟩ ⟨#[97, 120, 99, 100]⟩ = .ok ([97, 98, 99, 100], [97, 120, 99, 100]) from rfl] at this
    simp only [wkE] at this
    exact this
  have hdi : ∀ F, Spec Tryd.prog c0 13 #[.string ⟨#[97, 98]⟩, .string ⟨#[98, 97]⟩] (pu (ErrB F a ∧ TabF F) F) (fun r => pu (r = .tuple #[.int .i64 2, .nilIface]) F) := fun F w hs => by
    obtain ⟨⟨h1, h2⟩, hs⟩ := hs.pu
    have := distance_s c0 F a ⟨#[97, 98]⟩ ⟨#[98, 97]⟩ w (hs.mono (ent_pu ⟨h1, h2, by decide, by decide⟩ ent_refl))
    unfold DiR at this
    rw [show txtR ⟨#[97, 98]⟩ ⟨#[98, 97]⟩ = .ok ([97, 98], [98, 97]) from rfl] at this
    simp only [wkD] at this
    exact this
  go_enter Tryd.func12, Tryd.ntmps12
  go_wp2_with (first
        | ((with_reducible rewrite [pl_strike_eq]); rotate_left 1; (focus rfl))
        | ((with_reducible apply pl_call hs (hed _)); ((((focus (simp only [zj, zk, zl, List.append_toArray, List.nil_append, List.cons_append, Act.eval, za, zb, zc, zd, ze, zf]; (try with_reducible rfl); done)); (focus ((repeat (first | (with_reducible (first | exact ent_refl | apply ent_puR)) | ((with_reducible apply ent_front); (focus with_reducible (repeat (first | exact ent_here | apply ent_next | exact ent_last)); done)) | (with_reducible (first | exact ent_keep | apply ent_trans ent_drop)) | (focus (first | ((repeat' (first | (with_reducible assumption) | (with_reducible apply And.intro))); done))))); done)); (focus (simp only [go_sem]))))); clear hs; (try clear w); intro v w hq; (obtain ⟨v, hq1⟩ := hq.ex; obtain ⟨rfl, hs⟩ := hq1.pu; clear hq1; obtain ⟨g, cap, rfl⟩ := edts_row_some hs.own (by simp); (simp only [List.length_cons, List.length_nil, Nat.zero_add] at hs ⊢); have hel := one_read (g := g) (n := 1) (c := cap) (l := [(⟨1, 1, ⟨#[120]⟩⟩ : EdtD)]) rfl); clear hq; (try simp only [star_assoc, star_emp, emp_star] at hs); (try simp only [Act.put, zg, zh, zi]))
        | ((with_reducible apply pl_call hs (hdi _)); ((((focus (simp only [zj, zk, zl, List.append_toArray, List.nil_append, List.cons_append, Act.eval, za, zb, zc, zd, ze, zf]; (try with_reducible rfl); done)); (focus ((repeat (first | (with_reducible (first | exact ent_refl | apply ent_puR)) | ((with_reducible apply ent_front); (focus with_reducible (repeat (first | exact ent_here | apply ent_next | exact ent_last)); done)) | (with_reducible (first | exact ent_keep | apply ent_trans ent_drop)) | (focus (first | ((repeat' (first | (with_reducible apply And.intro) | (focus (with_reducible (repeat (first | assumption | (apply ErrA.left; assumption) | refine ErrA.exh (by assumption) ?_ | refine ErrA.exh0 (by assumption) ?_ | apply ErrA.next | (apply ErrB.left; assumption) | refine ErrB.exh (by assumption) ?_ | refine ErrB.exh0 (by assumption) ?_ | apply ErrB.next)); done)) | (focus (with_reducible (repeat (first | assumption | (apply TabF.left; assumption) | refine TabF.exh (by assumption) ?_ | refine TabF.exh0 (by assumption) ?_ | exact (tblF_of (by assumption)) | apply TabF.next)); done)))); done))))); done)); (focus (simp only [go_sem]))))); clear hs; (try clear w); intro v w hq; (obtain ⟨rfl, hs⟩ := hq.pu); clear hq; (try simp only [star_assoc, star_emp, emp_star] at hs); (try simp only [Act.put, zg, zh, zi]))
        | ((with_reducible apply pl_loadN hs); (focus (simp only [Act.eval, za, zb, zc, zd, ze, zf]; (try with_reducible rfl); done)); (with_reducible (first | exact agg_44)); (focus ((repeat (first | (with_reducible (first | assumption | exact hel _ | exact hel2 _ | exact hel3 _)) | ((with_reducible apply reads_whole); (focus (first | (with_reducible rfl) | (simp only [go_sem]; done) | (simp; done)))) | ((with_reducible apply reads_part); (focus (first | (simp [go_sem]; done) | (simp only [go_sem]; omega) | go_size)); (focus (first | (simp only [Nat.reduceAdd, Nat.zero_add, go_sem]; (try with_reducible rfl); done) | (simp [go_sem]; (try with_reducible rfl); done)))) | (with_reducible (first | (apply reads_left; assumption) | refine reads_exh (by assumption) ?_ | refine reads_exh0 (by assumption) ?_ | apply reads_next)))); done)); (focus rfl); simp only [Act.put, zg, zh, zi])
        | ((with_reducible apply pl_build hs); (focus (simp only [zj, zk, zl, Act.eval, za, zb, zc, zd, ze, zf]; (try with_reducible rfl); done)); (first | (with_reducible exact bld_1 _ _ _)); (focus rfl); simp only [Act.put, zg, zh, zi]))
  (go_ret; simp only [za, zb, zc, zd, ze, zf])
  exact ⟨_, rfl, hs.mono (ent_pu (by rw [edtEq_refl]) (by ((repeat (first | (with_reducible (first | exact ent_refl | exact ent_emp)) | ((with_reducible apply ent_front); (focus with_reducible (repeat (first | exact ent_here | apply ent_next | exact ent_last)); done)) | (with_reducible (first | exact ent_keep | apply ent_trans ent_drop)))); done)))⟩
/-! ### does a row stand in another one, with gaps? -/
theorem sub_match {z x : List Int} {k i : Nat} {c : Int} (h : List.Sublist (z.drop k) (x.drop i)) (hx : x[i]? = some c) (hz : z[k]? = some c) : List.Sublist (z.drop (k + 1)) (x.drop (i + 1)) := by
  rw [drop_get hx, drop_get hz] at h
  exact List.cons_sublist_cons.1 h
theorem sub_skip {z x : List Int} {k i : Nat} {c d : Int} (h : List.Sublist (z.drop k) (x.drop i)) (hx : x[i]? = some c) (hz : z[k]? = some d) (hcd : c ≠ d) : List.Sublist (z.drop k) (x.drop (i + 1)) := by
  rw [drop_get hx] at h
  rw [drop_get hz] at h ⊢
  cases h with
  | cons _ h => exact h
  | cons_cons _ h => exact absurd rfl hcd
theorem sub_end {z x : List Int} {k i : Nat} (h : List.Sublist (z.drop k) (x.drop i)) (hi : x.length ≤ i) (hk : k ≤ z.length) : k = z.length := by
  rw [List.drop_of_length_le hi] at h
  have := h.length_le
  rw [List.length_drop, List.length_nil] at this
  omega
set_option maxRecDepth 20000 in
set_option maxHeartbeats 1000000 in
theorem within_s (c0 : World) (F : HP) (u v : Value) (z x : List Int) : Spec Tryd.prog c0 16 #[u, v] (pu (SlR F 1 runv u z ∧ SlR F 1 runv v x ∧ List.Sublist z x) F) (fun r => pu (r = .bool true) F) := by
  intro w hq; obtain ⟨⟨hu, hv, hsub⟩, hs⟩ := hq.pu; clear hq
  obtain ⟨A, c, rfl⟩ := slr_form hu hs.own
  obtain ⟨B, d, rfl⟩ := slr_form hv hs.own
  obtain ⟨_, h2, h3, _⟩ := slr_len hu hs.own
  obtain ⟨_, h5, h6, _⟩ := slr_len hv hs.own
  unfold maxLen at h3 h6
  generalize hn : z.length = n at *
  generalize hm : x.length = m at *
  replace hn := Lib.hid hn
  replace hm := Lib.hid hm
  go_enter Tryd.func16, Tryd.ntmps16
  go_wp2_with fail
  go_loopw [5, 6] (fun kv iv wr => ∃ (k i : Nat), k ≤ n ∧ i ≤ m ∧ kv = .int .i64 k ∧ iv = .int .i64 i ∧ Hid (List.Sublist (z.drop k) (x.drop i)) ∧ Sat c0 F wr) (fun _ iv _ => m - (intOf iv).toNat)
  case atStart => exact ⟨0, 0, by omega, by omega, rfl, rfl, Lib.hid hsub, hs⟩
  case round =>
    clear hs
    obtain ⟨k, i, hk, hi, rfl, rfl, hsb, hs⟩ := hrel
    by_cases him : i < m
    · have hiI : (i : Int) < m := by omega
      by_cases hkn : k < n
      · have hkI : (k : Int) < n := by omega
        obtain ⟨b, o, a, rfl, hxi, hcx⟩ := slr_rune hv hs.own him
        obtain ⟨b', o', a', rfl, hzk, hcz⟩ := slr_rune hu hs.own hkn
        by_cases hab : a = a'
        · subst hab
          have hst := sub_match hsb.out hxi hzk
          replace hst := Lib.hid hst
          clear hxi hzk hsb hsub
          go_wp2_with (first
        | ((with_reducible apply wp_region_sl (G := emp) (id := 5) hs 1000); (focus (exact ent_emp_l)); (focus kernel_rfl); (focus decide +kernel); clear hs; (try clear w); intro hR w hRR hs; (try simp only [star_assoc] at hs))
        | ((with_reducible rewrite [pl_strike_eq]); rotate_left 1; (focus rfl))
        | ((with_reducible apply mix_end hRR hs); (focus with_reducible (repeat (first | exact ent_here | apply ent_next | exact ent_last)); done); clear hs; (try clear w); intro w hs; (try simp only [star_assoc, star_emp, emp_star] at hs); clear hRR hR)
        | ((with_reducible apply mx_load1 hRR); (focus (simp only [Act.eval, za, zb, zc, zd, ze, zf]; (try with_reducible rfl); done)); (focus (simp only [go_sem])); (focus ((repeat (first | (with_reducible (first | assumption | exact hec _ | exact hec2 _ | exact hec3 _ | exact hec4 _ _)) | ((with_reducible apply readc_here); (focus (first | (simp only [zc, zd, ze, go_sem]; (try with_reducible rfl); done) | (go_simp; (try with_reducible rfl); done)))) | (with_reducible (first | (apply readc_left; assumption) | refine readc_exh (by assumption) ?_ | refine readc_exh0 (by assumption) ?_ | apply readc_next)))); done)); simp only [Act.put, zg, zh, zi])
        | ((with_reducible refine mix_float ?_ ?_ ?_ (fun h hk => ?_) ?_); rotate_left 1; (focus rfl); (focus rfl); (focus (go_simp; (try (rw [if_pos (by omega)]; (try go_simp))); (try simp (disch := omega) only [IntWalk.i64_in, IntWalk.i32_in]); (try with_reducible rfl); done)); simp only [Act.put, zg, zh, zi]))
          exact ⟨⟨k + 1, i + 1, by omega, by omega, congrArg (Value.int .i64) (by omega), congrArg (Value.int .i64) (by omega), hst, hs⟩, by simp only [intOf]; omega⟩
        · have hne : (a == a') = false := by simpa using hab
          have hst := sub_skip hsb.out hxi hzk hab
          replace hst := Lib.hid hst
          clear hxi hzk hsb hsub
          go_wp2_with (first
        | ((with_reducible apply wp_region_sl (G := emp) (id := 5) hs 1000); (focus (exact ent_emp_l)); (focus kernel_rfl); (focus decide +kernel); clear hs; (try clear w); intro hR w hRR hs; (try simp only [star_assoc] at hs))
        | ((with_reducible rewrite [pl_strike_eq]); rotate_left 1; (focus rfl))
        | ((with_reducible apply mix_end hRR hs); (focus with_reducible (repeat (first | exact ent_here | apply ent_next | exact ent_last)); done); clear hs; (try clear w); intro w hs; (try simp only [star_assoc, star_emp, emp_star] at hs); clear hRR hR)
        | ((with_reducible apply mx_load1 hRR); (focus (simp only [Act.eval, za, zb, zc, zd, ze, zf]; (try with_reducible rfl); done)); (focus (simp only [go_sem])); (focus ((repeat (first | (with_reducible (first | assumption | exact hec _ | exact hec2 _ | exact hec3 _ | exact hec4 _ _)) | ((with_reducible apply readc_here); (focus (first | (simp only [zc, zd, ze, go_sem]; (try with_reducible rfl); done) | (go_simp; (try with_reducible rfl); done)))) | (with_reducible (first | (apply readc_left; assumption) | refine readc_exh (by assumption) ?_ | refine readc_exh0 (by assumption) ?_ | apply readc_next)))); done)); simp only [Act.put, zg, zh, zi])
        | ((with_reducible refine mix_float ?_ ?_ ?_ (fun h hk => ?_) ?_); rotate_left 1; (focus rfl); (focus rfl); (focus (go_simp; (try (rw [if_pos (by omega)]; (try go_simp))); (try simp (disch := omega) only [IntWalk.i64_in, IntWalk.i32_in]); (try with_reducible rfl); done)); simp only [Act.put, zg, zh, zi]))
          exact ⟨⟨k, i + 1, by omega, by omega, rfl, congrArg (Value.int .i64) (by omega), hst, hs⟩, by simp only [intOf]; omega⟩
      · obtain rfl : k = n := by omega
        have hkI : ¬ ((k : Int) < k) := by omega
        go_wp2_with (first
        | ((with_reducible rewrite [pl_strike_eq]); rotate_left 1; (focus rfl)))
        (go_ret; simp only [za, zb, zc, zd, ze, zf])
        exact ⟨_, rfl, hs.mono (ent_pu (by simp) (by ((repeat (first | (with_reducible (first | exact ent_refl | exact ent_emp)) | ((with_reducible apply ent_front); (focus with_reducible (repeat (first | exact ent_here | apply ent_next | exact ent_last)); done)) | (with_reducible (first | exact ent_keep | apply ent_trans ent_drop)))); done)))⟩
    · have hiI : ¬ ((i : Int) < m) := by omega
      obtain rfl : k = n := by have := sub_end hsb.out (by have := hm.out; omega) (by have := hn.out; omega); have := hn.out; omega
      go_wp2_with fail
      (go_ret; simp only [za, zb, zc, zd, ze, zf])
      exact ⟨_, rfl, hs.mono (ent_pu (by simp) (by ((repeat (first | (with_reducible (first | exact ent_refl | exact ent_emp)) | ((with_reducible apply ent_front); (focus with_reducible (repeat (first | exact ent_here | apply ent_next | exact ent_last)); done)) | (with_reducible (first | exact ent_keep | apply ent_trans ent_drop)))); done)))⟩
end Go.Proofs.YtgoifgockcpnhaaDoor
