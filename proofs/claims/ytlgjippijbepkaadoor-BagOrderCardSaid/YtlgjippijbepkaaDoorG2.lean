/- The program's bag: its row. -/
import Derived.Test.YtlgjippijbepkaaDoorG1
set_option linter.unusedSimpArgs false
set_option linter.unusedVariables false
namespace Go.Proofs.YtlgjippijbepkaaDoor
open Go Go.RowKit

/-- A row of one's own behind a slice whose room may be cut. -/
def rowF {α : Type} (E : TypeId) (s : Nat) (enc : α → Array Value) (v : Value) (l : List α) : HP := ex fun A : Option Addr => ex fun c : Nat => ex fun c' : Nat => pu (v = .slice A l.length c ∧ (c = c' ∨ c = l.length) ∧ c ≤ c') (row E s enc (.slice A l.length c') l)
section
variable {α : Type} {E : TypeId} {s : Nat} {enc : α → Array Value} {v : Value} {l : List α} {F : HP} {c0 w : World}
theorem rowF_open (hs : Sat c0 (rowF E s enc v l * F) w) : ∃ A c c', v = .slice A l.length c ∧ (c = c' ∨ c = l.length) ∧ c ≤ c' ∧ l.length ≤ c ∧ c' ≤ maxLen ∧ Sat c0 (row E s enc (.slice A l.length c') l * F) w := by
  unfold rowF at hs
  rw [ex_star] at hs
  obtain ⟨A, hs⟩ := hs.ex
  rw [ex_star] at hs
  obtain ⟨c, hs⟩ := hs.ex
  rw [ex_star] at hs
  obtain ⟨c', hs⟩ := hs.ex
  rw [pu_star] at hs
  obtain ⟨⟨h1, h2, h3⟩, hs⟩ := hs.pu
  obtain ⟨A', c2, he, h4, h5⟩ := row_slice hs.own
  obtain ⟨_, _, rfl⟩ := sl_inj he
  exact ⟨A, c, c', h1, h2, h3, by omega, h5, hs⟩
theorem rowF_shut {A : Option Addr} {c c' : Nat} (h : (c = c' ∨ c = l.length) ∧ c ≤ c') : Ent (row E s enc (.slice A l.length c') l * F) (rowF E s enc (.slice A l.length c) l * F) := by
  unfold rowF
  rw [ex_star]
  refine ent_ex A ?_
  rw [ex_star]
  refine ent_ex c ?_
  rw [ex_star]
  refine ent_ex c' ?_
  rw [pu_star]
  exact ent_pu ⟨rfl, h.1, h.2⟩ ent_refl
theorem rowF_of_row : Ent (row E s enc v l * F) (rowF E s enc v l * F) := fun x hx => by
  have hv : ∃ A c, v = .slice A l.length c := by
    obtain ⟨h1, h2, d, l1, l2, ⟨_, x1⟩, x2⟩ := hx
    rcases x1 with ⟨e, hl⟩ | ⟨g, cap, cur, e, _⟩
    · exact ⟨none, 0, by rw [e, hl]⟩
    · exact ⟨_, cap, e⟩
  obtain ⟨A, c, rfl⟩ := hv
  exact rowF_shut ⟨.inl rfl, Nat.le_refl _⟩ x hx
end
/-- A slice whose room is cut reads the same. -/
theorem slr_cut {α : Type} {H : HP} {s n c c' : Nat} {enc : α → Array Value} {A : Option Addr} {l : List α} (h : SlR H s enc (.slice A n c) l) (h1 : n ≤ c') (h2 : c' ≤ c) : SlR H s enc (.slice A n c') l := fun w hw => by
  obtain ⟨A', c2, he, h3, h4, h5, h6⟩ := h w hw
  obtain ⟨rfl, rfl, rfl⟩ := sl_inj he
  exact ⟨A, c', rfl, h1, by omega, (fun ha => by have := h5 ha; omega), h6⟩
abbrev bagB (g : Nat) (b : BagD) : HP := blk g (.cells (bgv b) 70 (0, 0))
/-- The program's bag. -/
def bagP (g : Nat) (m s : Int) (ts : List PclD) (x y z d : Int) : HP := ex fun v : SlD => bagB g ⟨m, s, v.p, v.n, v.c, x, y, z, d⟩ * rowF 37 4 pcl (.slice v.p v.n v.c) ts
theorem bag_open {g : Nat} {m s : Int} {ts : List PclD} {x y z d : Int} {F : HP} {c0 w : World} (hs : Sat c0 (bagP g m s ts x y z d * F) w) :
    ∃ A c c', (c = c' ∨ c = ts.length) ∧ c ≤ c' ∧ ts.length ≤ c ∧ c' ≤ maxLen ∧ Sat c0 (bagB g ⟨m, s, A, ts.length, c, x, y, z, d⟩ * (row 37 4 pcl (.slice A ts.length c') ts * F)) w := by
  unfold bagP at hs
  rw [ex_star] at hs
  obtain ⟨v, hs⟩ := hs.ex
  rw [star_assoc] at hs
  obtain ⟨A, c, c', hv, h1, h2, h3, h4, hs⟩ := rowF_open (hs.mono ent_left)
  obtain ⟨h5, h6, h7⟩ := sl_inj hv
  rw [h5, h6, h7] at hs
  exact ⟨A, c, c', h1, h2, h3, h4, hs.mono ent_left⟩
theorem bag_shut {g : Nat} {m s : Int} {ts : List PclD} {x y z d : Int} {F : HP} {A : Option Addr} {c c' n : Nat} (h : (c = c' ∨ c = ts.length) ∧ c ≤ c') (hn : n = ts.length) : Ent (bagB g ⟨m, s, A, n, c, x, y, z, d⟩ * (row 37 4 pcl (.slice A n c') ts * F)) (bagP g m s ts x y z d * F) := by
  subst hn
  unfold bagP
  rw [ex_star]
  refine ent_ex ⟨A, ts.length, c⟩ ?_
  rw [star_assoc]
  exact star_mono ent_refl (rowF_shut h)
theorem len_s (c0 : World) (F : HP) (g : Nat) (m s : Int) (ts : List PclD) (x y z d : Int) : Spec Tryd.prog c0 18 #[.pointer (some ⟨g, 0, none⟩)] (bagP g m s ts x y z d * F) (fun r => pu (r = .int .i64 ts.length) (bagP g m s ts x y z d * F)) := by
  intro w hs
  obtain ⟨A, c, c', h1, h2, h3, h4, hs⟩ := bag_open hs
  go_enter Tryd.func18, Tryd.ntmps18
  go_wp2_with (first
        | ((with_reducible apply pl_load1 hs); (focus (simp only [Act.eval, za, zb, zc, zd, ze, zf]; (try with_reducible rfl); done)); (focus (simp only [go_sem])); (focus ((repeat (first | (with_reducible (first | assumption | exact hec _ | exact hec2 _ | exact hec3 _ | exact hec4 _ _)) | ((with_reducible apply readc_here); (focus (first | (simp only [zc, zd, ze, go_sem]; (try with_reducible rfl); done) | (go_simp; (try with_reducible rfl); done)))) | (with_reducible (first | (apply readc_left; assumption) | refine readc_exh (by assumption) ?_ | refine readc_exh0 (by assumption) ?_ | apply readc_next)))); done)); (focus rfl); simp only [Act.put, zg, zh, zi]))
  (go_ret; simp only [za, zb, zc, zd, ze, zf])
  exact ⟨_, rfl, hs.mono (ent_pu rfl (bag_shut ⟨h1, h2⟩ rfl))⟩
theorem holds_s (c0 : World) (F : HP) (g : Nat) (m s i : Int) (ts : List PclD) (x y z d : Int) : Spec Tryd.prog c0 32 #[.pointer (some ⟨g, 0, none⟩), .int .i64 i] (bagP g m s ts x y z d * F) (fun r => pu (r = .bool (decide (0 ≤ i ∧ i < ts.length))) (bagP g m s ts x y z d * F)) := by
  intro w hs
  obtain ⟨A, c, c', h1, h2, h3, h4, hs⟩ := bag_open hs
  go_enter Tryd.func32, Tryd.ntmps32
  go_wp2_with (first
        | ((with_reducible rewrite [pl_strike_eq]); rotate_left 1; (focus rfl))
        | ((with_reducible apply pl_load1 hs); (focus (simp only [Act.eval, za, zb, zc, zd, ze, zf]; (try with_reducible rfl); done)); (focus (simp only [go_sem])); (focus ((repeat (first | (with_reducible (first | assumption | exact hec _ | exact hec2 _ | exact hec3 _ | exact hec4 _ _)) | ((with_reducible apply readc_here); (focus (first | (simp only [zc, zd, ze, go_sem]; (try with_reducible rfl); done) | (go_simp; (try with_reducible rfl); done)))) | (with_reducible (first | (apply readc_left; assumption) | refine readc_exh (by assumption) ?_ | refine readc_exh0 (by assumption) ?_ | apply readc_next)))); done)); (focus rfl); simp only [Act.put, zg, zh, zi]))
  all_goals (go_ret; simp only [za, zb, zc, zd, ze, zf])
  all_goals (refine ⟨_, rfl, hs.mono (ent_pu ?_ (bag_shut ⟨h1, h2⟩ rfl))⟩; congr 1; (try simp only [← Bool.decide_and] ); first | (exact (decide_eq_false (by omega)).symm) | (exact decide_eq_decide.2 (by omega)))
set_option maxRecDepth 20000 in
set_option maxHeartbeats 1000000 in
theorem leaves_s (c0 : World) (F : HP) (g i : Nat) (m s : Int) (ts : List PclD) (x y z d : Int) : Spec Tryd.prog c0 33 #[.pointer (some ⟨g, 0, none⟩), .int .i64 i] (pu (i < ts.length ∧ ts.length ≤ 1000000) (bagP g m s ts x y z d * F)) (fun _ => bagP g m s (ts.take i ++ ts.drop (i + 1)) x y z d * F) := by
  intro w hq; obtain ⟨⟨hi, hm⟩, hs⟩ := hq.pu; clear hq
  obtain ⟨A, c, c', h1, h2, h3, h4, hs⟩ := bag_open hs
  unfold maxLen at h4
  generalize hn : ts.length = n at *
  obtain ⟨ga, _, rfl, _, _⟩ := row_at (E := 37) (A := A) (n := n) (cap := c') (i := i) (l := ts) (hs.own.mono (by (focus with_reducible (repeat (first | exact ent_here | apply ent_next | exact ent_last)); done))) pcl_size hi
  by_cases hlast : i + 1 = n
  · subst hlast
    go_enter Tryd.func33, Tryd.ntmps33
    go_wp2_with (first
        | ((with_reducible apply wp_region_sl (G := emp) (id := 0) hs 18); (focus (exact ent_emp_l)); (focus kernel_rfl); (focus decide +kernel); clear hs; (try clear w); intro hR w hRR hs; (try simp only [star_assoc] at hs))
        | ((with_reducible apply pl_store1 hs); (focus (simp only [Act.eval, za, zb, zc, zd, ze, zf]; (try with_reducible rfl); done)); (focus (simp only [Act.eval, za, zb, zc, zd, ze, zf]; (try with_reducible rfl); done)); (focus (simp only [go_sem])); (focus with_reducible (repeat (first | exact ent_here | apply ent_next | exact ent_last)); done); (focus (first | (simp [go_sem]; done) | (simp only [go_sem]; omega) | go_size)); (focus (first | (simp only [go_sem]; done) | (simp [go_sem]; done))); clear hs; (try clear w); intro w hs; (try simp only [zg, zh, zi, pcl_s0, pcl_s1, pcl_s2, pcl_s3, opg_s0, opg_s1, opg_s2, opg_s3, bgv_s0, bgv_s1, bgv_s2, bgv_s3, bgv_s4, bgv_s5, bgv_s6, rbg_s0, rbg_s1, rbg_s2, rbg_s3, rbg_s4, rbg_s5, rbg_s6, prv_s0, prv_s1, lnk_s0, lnk_s1, lnk_s2, nov_s0, nov_s1, nov_s2, intv_set, bytv_set] at hs); simp only [Act.put, zg, zh, zi])
        | ((with_reducible apply mix_thaw hRR hs); (focus with_reducible (repeat (first | exact ent_here | apply ent_next | exact ent_last)); done); clear hs; (try clear w); intro w hs; (try simp only [star_assoc, star_emp, emp_star] at hs); clear hRR hR)
        | ((with_reducible apply mx_load1 hRR); (focus (simp only [Act.eval, za, zb, zc, zd, ze, zf]; (try with_reducible rfl); done)); (focus (simp only [go_sem])); (focus ((repeat (first | (with_reducible (first | assumption | exact hec _ | exact hec2 _ | exact hec3 _ | exact hec4 _ _)) | ((with_reducible apply readc_here); (focus (first | (simp only [zc, zd, ze, go_sem]; (try with_reducible rfl); done) | (go_simp; (try with_reducible rfl); done)))) | (with_reducible (first | (apply readc_left; assumption) | refine readc_exh (by assumption) ?_ | refine readc_exh0 (by assumption) ?_ | apply readc_next)))); done)); simp only [Act.put, zg, zh, zi])
        | ((with_reducible apply mx_appNil hs); (with_reducible (first | exact app_22 | exact app_29 | exact app_30 | exact app_31 | exact app_49)); (focus (simp only [Act.eval, za, zb, zc, zd, ze, zf]; (try with_reducible rfl); done)); (focus (simp only [Act.eval, za, zb, zc, zd, ze, zf]; (try with_reducible rfl); done)); (focus (first | (with_reducible assumption) | omega | (simp; done) | (simp; omega))); (focus (intros; with_reducible (refine in_of_sat (by assumption) ?_; repeat (first | exact ent_exh_here | exact ent_last | refine ent_pu_l (fun _ => ?_) | refine ent_ex_l (fun _ => ?_) | apply ent_exh_next)); done)); clear hs; (try clear w); intro w hs; skip; simp only [Act.put, zg, zh, zi])
        | ((with_reducible refine mix_float ?_ ?_ ?_ (fun h hk => ?_) ?_); rotate_left 1; (focus rfl); (focus rfl); (focus (go_simp; (try (rw [if_pos (by omega)]; (try go_simp))); (try simp (disch := omega) only [IntWalk.i64_in, IntWalk.i32_in]); (try with_reducible rfl); done)); simp only [Act.put, zg, zh, zi]))
    all_goals
      refine bodyPost_end (results_none rfl _ _ _) rfl ?_
      have hd : ts.drop (i + 1) = [] := List.drop_of_length_le (by omega)
      rw [hd, List.append_nil]
      refine ⟨⟨_, rfl⟩, hs.mono ?_⟩
      have hl : (ts.take i).length = i := by rw [List.length_take]; omega
      refine ent_trans ent_left (ent_trans (ent_row_take pcl_size i (by omega)) (ent_trans ent_left ?_))
      exact bag_shut (c := i) (n := i) ⟨.inr hl.symm, by omega⟩ hl.symm
  · have hi2 : i + 1 < n := by omega
    have hsl : ∀ R, SlR (row 37 4 pcl (.slice (some ⟨ga, 0, none⟩) n c') ts * R) 4 pcl (.slice (some ⟨ga, 0, none⟩) i i) (ts.take i) := fun R => slr_cut (slr_row_take pcl_size (by omega) rfl) (Nat.le_refl _) (by omega)
    have hsl2 : ∀ R, SlR (row 37 4 pcl (.slice (some ⟨ga, 0, none⟩) n c') ts * R) 4 pcl (.slice (some ⟨ga, (i + 1) * 4, none⟩) (n - (i + 1)) (c - (i + 1))) (ts.drop (i + 1)) := fun R => by
      have h5 : SlR (row 37 4 pcl (.slice (some ⟨ga, 0, none⟩) n c') ts * R) 4 pcl (.slice (some ⟨ga, 0, none⟩) n c) ts := slr_cut (slr_row pcl_size) h3 h2
      have := slr_drop h5 (i + 1) (by omega)
      rwa [if_neg (by omega)] at this
    go_enter Tryd.func33, Tryd.ntmps33
    go_wp2_with (first
        | ((with_reducible apply wp_region_sl (G := emp) (id := 0) hs 18); (focus (exact ent_emp_l)); (focus kernel_rfl); (focus decide +kernel); clear hs; (try clear w); intro hR w hRR hs; (try simp only [star_assoc] at hs))
        | ((with_reducible apply pl_store1 hs); (focus (simp only [Act.eval, za, zb, zc, zd, ze, zf]; (try with_reducible rfl); done)); (focus (simp only [Act.eval, za, zb, zc, zd, ze, zf]; (try with_reducible rfl); done)); (focus (simp only [go_sem])); (focus with_reducible (repeat (first | exact ent_here | apply ent_next | exact ent_last)); done); (focus (first | (simp [go_sem]; done) | (simp only [go_sem]; omega) | go_size)); (focus (first | (simp only [go_sem]; done) | (simp [go_sem]; done))); clear hs; (try clear w); intro w hs; (try simp only [zg, zh, zi, pcl_s0, pcl_s1, pcl_s2, pcl_s3, opg_s0, opg_s1, opg_s2, opg_s3, bgv_s0, bgv_s1, bgv_s2, bgv_s3, bgv_s4, bgv_s5, bgv_s6, rbg_s0, rbg_s1, rbg_s2, rbg_s3, rbg_s4, rbg_s5, rbg_s6, prv_s0, prv_s1, lnk_s0, lnk_s1, lnk_s2, nov_s0, nov_s1, nov_s2, intv_set, bytv_set] at hs); simp only [Act.put, zg, zh, zi])
        | ((with_reducible apply mix_thaw hRR hs); (focus with_reducible (repeat (first | exact ent_here | apply ent_next | exact ent_last)); done); clear hs; (try clear w); intro w hs; (try simp only [star_assoc, star_emp, emp_star] at hs); clear hRR hR)
        | ((with_reducible apply mx_load1 hRR); (focus (simp only [Act.eval, za, zb, zc, zd, ze, zf]; (try with_reducible rfl); done)); (focus (simp only [go_sem])); (focus ((repeat (first | (with_reducible (first | assumption | exact hec _ | exact hec2 _ | exact hec3 _ | exact hec4 _ _)) | ((with_reducible apply readc_here); (focus (first | (simp only [zc, zd, ze, go_sem]; (try with_reducible rfl); done) | (go_simp; (try with_reducible rfl); done)))) | (with_reducible (first | (apply readc_left; assumption) | refine readc_exh (by assumption) ?_ | refine readc_exh0 (by assumption) ?_ | apply readc_next)))); done)); simp only [Act.put, zg, zh, zi])
        | ((with_reducible apply mx_appG hs); (with_reducible (first | exact app_22 | exact app_29 | exact app_30 | exact app_31 | exact app_49)); (focus (simp only [Act.eval, za, zb, zc, zd, ze, zf]; (try with_reducible rfl); done)); (focus (first | ((repeat (first | (with_reducible (first | assumption | exact slr_ro |  exact hsl _ | exact hsl2 _ | exact hsl3 _ _ _ | exact slr_nil | exact slr_row (fun _ => by simp only [go_sem]) | exact slr_one (fun _ => by simp only [go_sem]) | (apply slr_left; assumption))) | (with_reducible apply slr_next))); done) | ((repeat (first | (with_reducible (first | assumption | exact slr_ro |  exact hsl _ | exact hsl2 _ | exact hsl3 _ _ _ | exact slr_nil | exact slr_row (fun _ => by simp only [go_sem]) | exact slr_one (fun _ => by simp only [go_sem]) | (apply slr_left; assumption))) | (with_reducible (first | (apply slr_exh; focus assumption) | (apply slr_exh0; focus assumption) | apply slr_next)))); done))); (focus (simp only [Act.eval, za, zb, zc, zd, ze, zf]; (try with_reducible rfl); done)); (focus (first | ((repeat (first | (with_reducible (first | assumption | exact slr_ro |  exact hsl _ | exact hsl2 _ | exact hsl3 _ _ _ | exact slr_nil | exact slr_row (fun _ => by simp only [go_sem]) | exact slr_one (fun _ => by simp only [go_sem]) | (apply slr_left; assumption))) | (with_reducible apply slr_next))); done) | ((repeat (first | (with_reducible (first | assumption | exact slr_ro |  exact hsl _ | exact hsl2 _ | exact hsl3 _ _ _ | exact slr_nil | exact slr_row (fun _ => by simp only [go_sem]) | exact slr_one (fun _ => by simp only [go_sem]) | (apply slr_left; assumption))) | (with_reducible (first | (apply slr_exh; focus assumption) | (apply slr_exh0; focus assumption) | apply slr_next)))); done))); (focus (first | (with_reducible assumption) | omega | (simp; done) | (simp; omega))); (focus (first | (simp only [maxLen] at *; omega) | (simp [maxLen] at *; omega))); (focus (first | (simp only [maxLen] at *; omega) | (simp [maxLen] at *; omega))); (focus (intros; with_reducible (refine in_of_sat (by assumption) ?_; repeat (first | exact ent_exh_here | exact ent_last | refine ent_pu_l (fun _ => ?_) | refine ent_ex_l (fun _ => ?_) | apply ent_exh_next)); done)); clear hs; (try clear w); intro Ap cq w hs; (try simp only [List.length_cons, List.length_nil, Nat.zero_add, List.nil_append] at hs ⊢); simp only [Act.put, zg, zh, zi])
        | ((with_reducible refine mix_float ?_ ?_ ?_ (fun h hk => ?_) ?_); rotate_left 1; (focus rfl); (focus rfl); (focus (go_simp; (try (rw [if_pos (by omega)]; (try go_simp))); (try simp (disch := omega) only [IntWalk.i64_in, IntWalk.i32_in]); (try with_reducible rfl); done)); simp only [Act.put, zg, zh, zi]))
    refine bodyPost_end (results_none rfl _ _ _) rfl ?_
    refine ⟨⟨_, rfl⟩, hs.mono (ent_trans ?_ (bag_shut (A := Ap) (c := cq) (c' := cq) (n := (ts.take i).length + (ts.drop (i + 1)).length) ⟨.inl rfl, Nat.le_refl _⟩ (by rw [List.length_append])))⟩
    ((repeat (first | (with_reducible (first | exact ent_refl | exact ent_emp)) | ((with_reducible apply ent_front); (focus with_reducible (repeat (first | exact ent_here | apply ent_next | exact ent_last)); done)) | (with_reducible (first | exact ent_keep | apply ent_trans ent_drop)))); done)
end Go.Proofs.YtlgjippijbepkaaDoor
