/- The stack: rows of edits; copies, the oldest struck. -/
import Derived.Test.YtflibhphpnajeaaDoorZUC6AJ
set_option linter.unusedSimpArgs false
set_option linter.unusedVariables false
namespace Go.Proofs.YtflibhphpnajeaaDoor
open Go Go.RowKit

theorem clr_slv : ClearT Tryd.prog 22 := ⟨.slice none 0 0, by kernel_rfl, by simp [flat, Value.cells, Value.oneCell']⟩
set_option maxHeartbeats 800000 in
theorem delete0_s (c0 : World) (F : HP) (l : List SlD) (A : Option Addr) (n cap : Nat) : Spec Tryd.prog c0 55 #[.slice A n cap, .int .i64 0, .int .i64 1]
    (pu (0 < n) (row 22 1 slv (.slice A n cap) l * F)) (fun r => pu (r = .slice A (n - 1) cap) (row 22 1 slv (.slice A (n - 1) cap) (l.drop 1) * F)) := by
  intro w hq; obtain ⟨hi, hs⟩ := hq.pu; clear hq
  obtain ⟨g, _, rfl, _, _⟩ := row_at hs.own slv_size hi
  obtain ⟨hn, hc1, hc2⟩ := row_len hs.own
  replace hn := Lib.hid hn
  unfold maxLen at hc2
  have hq1 : 1 ≤ cap := by omega
  have hq2 : (1 : Int) ≤ ↑n := by omega
  have hq4 : n - 1 ≤ n := by omega
  have hq5 : n - (n - 1) = 1 := by omega
  have hl2 : (l.drop 1).length = n - 1 := by have := hn.out; simp; omega
  have hsl : ∀ R, SlR (row 22 1 slv (.slice (some ⟨g, 0, none⟩) n cap) l * R) 1 slv _ (l.drop 1) := fun R => slr_drop (slr_row slv_size) 1 (by omega)
  have hrl : 0 + (l.drop 1).length ≤ cap := by omega
  have happ : 0 + (l.drop 1).length = n - 1 := by omega
  clear hl2
  obtain ⟨ad, had⟩ : ∃ ad, (if cap = 1 then some ⟨g, 0, none⟩ else some ⟨g, 1 * 1, none⟩ : Option Addr) = ad := ⟨_, rfl⟩
  rw [had] at hsl
  have hcapB : ((cap = 1) = True ∧ ad = some ⟨g, 0, none⟩) ∨ ((cap = 1) = False ∧ ad = some ⟨g, 1, none⟩) := by
    by_cases hc : cap = 1
    · rw [if_pos hc] at had; exact .inl ⟨eq_true hc, had.symm⟩
    · rw [if_neg hc] at had; exact .inr ⟨eq_false hc, had.symm⟩
  clear had
  go_enter Tryd.func55, Tryd.ntmps55
  rcases hcapB with ⟨hcap, rfl⟩ | ⟨hcap, rfl⟩
  all_goals go_wp2_with (first
        | ((with_reducible apply wp_region_sl (G := (row _ _ _ _ _)) (id := 5) hs 1000); (focus with_reducible (repeat (first | exact ent_here | apply ent_next | exact ent_last)); done); (focus kernel_rfl); (focus decide +kernel); clear hs; (try clear w); intro hR w hRR hs; (try simp only [star_assoc] at hs))
        | ((with_reducible apply pl_clearTail hs); (with_reducible (first | exact app_22 | exact app_41 | exact app_42 | exact app_47 | exact app_50)); (focus (first | (with_reducible exact clr_slv))); (focus (simp only [Act.eval, za, zb, zc, zd, ze, zf]; (try with_reducible rfl); done)); (focus with_reducible (repeat (first | exact ent_here | apply ent_next | exact ent_last)); done); (focus (first | (with_reducible rfl) | (simp; done))); (focus (first | (with_reducible assumption) | omega | (simp; done) | (simp; omega))); clear hs; (try clear w); intro w hs; skip; simp only [Act.put, zg, zh, zi])
        | ((with_reducible apply mix_end hRR hs); (focus with_reducible (repeat (first | exact ent_here | apply ent_next | exact ent_last)); done); clear hs; (try clear w); intro w hs; (try simp only [star_assoc, star_emp, emp_star] at hs); clear hRR hR)
        | ((with_reducible apply mx_appCut hs); (with_reducible (first | exact app_22 | exact app_41 | exact app_42 | exact app_47 | exact app_50)); (focus (simp only [Act.eval, za, zb, zc, zd, ze, zf]; (try with_reducible rfl); done)); (focus with_reducible (repeat (first | exact ent_here | apply ent_next | exact ent_last)); done); (focus (simp only [Act.eval, za, zb, zc, zd, ze, zf]; (try with_reducible rfl); done)); (focus (first | ((repeat (first | (with_reducible (first | assumption |  exact hsl _ | exact hsl2 _ | exact hsl3 _ _ _ | exact slr_nil | exact slr_row (fun _ => by simp only [go_sem]) | exact slr_one (fun _ => by simp only [go_sem]) | (apply slr_left; assumption))) | (with_reducible apply slr_next))); done) | ((repeat (first | (with_reducible (first | assumption |  exact hsl _ | exact hsl2 _ | exact hsl3 _ _ _ | exact slr_nil | exact slr_row (fun _ => by simp only [go_sem]) | exact slr_one (fun _ => by simp only [go_sem]) | (apply slr_left; assumption))) | (with_reducible (first | (apply slr_exh; focus assumption) | (apply slr_exh0; focus assumption) | apply slr_next)))); done))); (focus (first | (with_reducible assumption) | omega | (simp; done) | (simp; omega))); (focus (first | (with_reducible assumption) | omega | (simp; done) | (simp; omega))); (focus (intros; with_reducible (refine in_of_sat (by assumption) ?_; repeat (first | exact ent_exh_here | exact ent_last | refine ent_pu_l (fun _ => ?_) | refine ent_ex_l (fun _ => ?_) | apply ent_exh_next)); done)); clear hs; (try clear w); intro w hs; (try simp only [happ] at hs ⊢); simp only [Act.put, zg, zh, zi])
        | ((with_reducible refine mix_float ?_ ?_ ?_ (fun h hk => ?_) ?_); rotate_left 1; (focus rfl); (focus rfl); (focus (go_simp; (try (rw [if_pos (by omega)]; (try go_simp))); (try simp (disch := omega) only [IntWalk.i64_in, IntWalk.i32_in]); (try with_reducible rfl); done)); simp only [Act.put, zg, zh, zi]))
  all_goals (go_ret; simp only [za, zb, zc, zd, ze, zf])
  all_goals simp only [star_emp, List.take_zero, List.nil_append] at hs
  all_goals exact ⟨_, rfl, hs.mono (ent_pu rfl (by ((repeat (first | (with_reducible (first | exact ent_refl | exact ent_emp)) | ((with_reducible apply ent_front); (focus with_reducible (repeat (first | exact ent_here | apply ent_next | exact ent_last)); done)) | (with_reducible (first | exact ent_keep | apply ent_trans ent_drop)))); done)))⟩
/-- Copies of rows. -/
def Len2 (ls : List (List ChgD)) : Prop := ∀ l, l ∈ ls → l.length ≤ 4398046510976
set_option maxHeartbeats 1000000 in
set_option maxRecDepth 20000 in
theorem copied_s (c0 : World) (F : HP) (v : Value) (ls : List (List ChgD)) : Spec Tryd.prog c0 34 #[v] (pu (Sl2 F 4 chg v ls ∧ ls.length ≤ 4398046510976 ∧ Len2 ls) F) (fun r => rows2 22 33 4 chg r ls * F) := by
  intro w hq; obtain ⟨⟨⟨ts, hsl, hts, hin⟩, h40, hl2⟩, hs⟩ := hq.pu; clear hq
  obtain ⟨A, cp, rfl⟩ := slr_form hsl hs.own
  generalize hn : ts.length = n at *
  rw [← hts] at h40
  replace hn := Lib.hid hn
  replace hts := Lib.hid hts
  replace hin := Lib.hid hin
  replace hl2 := Lib.hid hl2
  go_enter Tryd.func34, Tryd.ntmps34
  go_wp2_with fail
  go_loopw [3, 8] (fun out i wr => ∃ (k : Nat) (us : List SlD), k ≤ n ∧ i = .int .i64 k ∧ Hid (us.length = k) ∧ Sat c0 (row 22 1 slv out us * (rowsOf 33 4 chg us (ls.take k) * F)) wr) (fun _ i _ => n - (intOf i).toNat)
  case atStart => exact ⟨0, [], by omega, rfl, rfl, hs.mono (by unfold rowsOf; rw [List.take_zero]; simp only; rw [emp_star]; exact ent_row_nil)⟩
  case round =>
    obtain ⟨k, us, hk, rfl, hus, hs⟩ := hrel
    by_cases hlt : k < n
    · obtain ⟨b, o, t, rfl, hla, hwa⟩ := slr_get hsl (hs.own.mono (by ((repeat (first | (with_reducible (first | exact ent_refl | exact ent_emp)) | ((with_reducible apply ent_front); (focus with_reducible (repeat (first | exact ent_here | apply ent_next | exact ent_last)); done)) | (with_reducible (first | exact ent_keep | apply ent_trans ent_drop)))); done))) hlt
      have hkl : k < ls.length := by have := hts.out; omega
      have hil := hin.out k t _ hla (List.getElem?_eq_getElem hkl)
      have hl3 := hl2.out _ (List.getElem_mem hkl)
      have htk := Lib.hid (List.take_succ_eq_append_getElem hkl)
      generalize ls[k] = l at *
      have hw0 : ReadC F b (o + k * 1) (.slice t.p t.n t.c) := hwa.cell (i := 0) (by omega) (slv_0 _)
      obtain ⟨p, m, c⟩ := t
      dsimp only at hil hw0
      rw [Nat.mul_one] at hw0
      clear hla hsl
      have hul : us.length ≤ 4398046510976 := by have := hus.out; omega
      go_wp2_with (first
        | ((with_reducible apply pl_load1 hs); (focus (simp only [Act.eval, za, zb, zc, zd, ze, zf]; (try with_reducible rfl); done)); (focus (simp only [go_sem])); (focus ((repeat (first | (with_reducible (first | assumption | exact hec _ | exact hec2 _ | exact hec3 _ | exact hec4 _ _)) | ((with_reducible apply readc_here); (focus (first | (simp only [zc, zd, ze, go_sem]; (try with_reducible rfl); done) | (go_simp; (try with_reducible rfl); done)))) | (with_reducible (first | (apply readc_left; assumption) | refine readc_exh (by assumption) ?_ | refine readc_exh0 (by assumption) ?_ | apply readc_next)))); done)); (focus rfl); simp only [Act.put, zg, zh, zi])
        | ((with_reducible apply pl_bs1 hs); (with_reducible (first | exact bst_50)); (focus (simp only [Act.eval, za, zb, zc, zd, ze, zf]; (try with_reducible rfl); done)); (focus (first | (with_reducible (first | exact cells_slv _ _ _ | exact cells_intv _ | exact cells_agg _ | exact cells_int _ _ | exact cells_bool _ | exact cells_string _ | exact cells_slice _ _ _ | exact cells_pointer _ | exact cells_map _ | exact cells_iface _ _ | exact cells_nilIface | exact cells_func _ _ _)) | (exact cells_one (by assumption)))); (focus (first | (with_reducible rfl) | (simp only [go_sem]; done) | (simp; done))); clear hs; (try clear w); intro g w hs; skip; simp only [Act.put, zg, zh, zi])
        | ((with_reducible apply pl_append1 hs); (with_reducible (first | exact app_22 | exact app_41 | exact app_42 | exact app_47 | exact app_50)); (focus (simp only [Act.eval, za, zb, zc, zd, ze, zf]; (try with_reducible rfl); done)); (first | (focus with_reducible (repeat (first | exact ent_here | apply ent_next | exact ent_last)); done) | (focus (with_reducible exact ent_row_nil)) | (focus ((with_reducible apply ent_row_of_blk); (focus with_reducible (repeat (first | exact ent_here | apply ent_next | exact ent_last)); done); (focus (simp only [go_sem]))))); (focus (simp only [Act.eval, za, zb, zc, zd, ze, zf]; (try with_reducible rfl); done)); (focus ((repeat (first | (with_reducible (first | assumption | exact hel _ | exact hel2 _ | exact hel3 _)) | ((with_reducible apply reads_whole); (focus (first | (with_reducible rfl) | (simp only [go_sem]; done) | (simp; done)))) | ((with_reducible apply reads_part); (focus (first | (simp [go_sem]; done) | (simp only [go_sem]; omega) | go_size)); (focus (first | (simp only [Nat.reduceAdd, Nat.zero_add, go_sem]; (try with_reducible rfl); done) | (simp [go_sem]; (try with_reducible rfl); done)))) | (with_reducible (first | (apply reads_left; assumption) | refine reads_exh (by assumption) ?_ | refine reads_exh0 (by assumption) ?_ | apply reads_next)))); done)); (focus (first | (simp only [maxLen] at *; omega) | (simp [maxLen] at *; omega))); (focus (first | (simp only [maxLen] at *; omega) | (simp [maxLen] at *; omega))); clear hs; (try clear w); intro Ap cq w hs; skip; simp only [Act.put, zg, zh, zi])
        | ((with_reducible apply pl_appendN hs); (with_reducible (first | exact app_22 | exact app_41 | exact app_42 | exact app_47 | exact app_50)); (focus (simp only [Act.eval, za, zb, zc, zd, ze, zf]; (try with_reducible rfl); done)); (first | (focus with_reducible (repeat (first | exact ent_here | apply ent_next | exact ent_last)); done) | (focus (with_reducible exact ent_row_nil)) | (focus ((with_reducible apply ent_row_of_blk); (focus with_reducible (repeat (first | exact ent_here | apply ent_next | exact ent_last)); done); (focus (simp only [go_sem]))))); (focus (simp only [Act.eval, za, zb, zc, zd, ze, zf]; (try with_reducible rfl); done)); (focus (first | ((repeat (first | (with_reducible (first | assumption |  exact hsl _ | exact hsl2 _ | exact hsl3 _ _ _ | exact slr_nil | exact slr_row (fun _ => by simp only [go_sem]) | exact slr_one (fun _ => by simp only [go_sem]) | (apply slr_left; assumption))) | (with_reducible apply slr_next))); done) | ((repeat (first | (with_reducible (first | assumption |  exact hsl _ | exact hsl2 _ | exact hsl3 _ _ _ | exact slr_nil | exact slr_row (fun _ => by simp only [go_sem]) | exact slr_one (fun _ => by simp only [go_sem]) | (apply slr_left; assumption))) | (with_reducible (first | (apply slr_exh; focus assumption) | (apply slr_exh0; focus assumption) | apply slr_next)))); done))); (focus (first | (simp only [maxLen] at *; omega) | (simp [maxLen] at *; omega))); (focus (first | (simp only [maxLen] at *; omega) | (simp [maxLen] at *; omega))); clear hs; (try clear w); intro Ap cq w hs; (try simp only [List.length_nil, Nat.zero_add, List.nil_append] at hs ⊢); simp only [Act.put, zg, zh, zi]))
      go_roundw
      case rel => exact ⟨k + 1, us ++ [⟨_, _, _⟩], by omega, by go_num, (by unfold Hid; rw [List.length_append, hus.out]; rfl), by rw [htk.out, rowsOf_snoc _ _ (by rw [hus.out, List.length_take]; omega), star_assoc]; dsimp only; exact hs.mono (by ((repeat (first | (with_reducible (first | exact ent_refl | exact ent_emp)) | ((with_reducible apply ent_front); (focus with_reducible (repeat (first | exact ent_here | apply ent_next | exact ent_last)); done)) | (with_reducible (first | exact ent_keep | apply ent_trans ent_drop)))); done))⟩
      case measure => simp [intOf]; omega
    · have hln : ls.take k = ls := List.take_of_length_le (by have := hts.out; omega)
      rw [hln] at hs
      go_wp2_with fail
      (go_ret; simp only [za, zb, zc, zd, ze, zf])
      exact ⟨_, rfl, hs.mono rows2_shut⟩
/-! ### the stack -/
def stk (g : Nat) (dn un : List (List ChgD)) : HP := ex fun v => ex fun u => blk g (.cells #[v, u] 70 (0, 0)) * (rows2 22 33 4 chg v dn * rows2 22 33 4 chg u un)
/-- The stack, opened. -/
def stkO (g : Nat) (A : Option Addr) (n c : Nat) (ts : List SlD) (dn : List (List ChgD)) (B : Option Addr) (m d : Nat) (us : List SlD) (un : List (List ChgD)) (F : HP) : HP :=
  blk g (.cells #[.slice A n c, .slice B m d] 70 (0, 0)) * (row 22 1 slv (.slice A n c) ts * (rowsOf 33 4 chg ts dn * (row 22 1 slv (.slice B m d) us * (rowsOf 33 4 chg us un * F))))
theorem stk_open {g : Nat} {dn un : List (List ChgD)} {F : HP} {c0 w : World} (hs : Sat c0 (stk g dn un * F) w) :
    ∃ A n c ts B m d us, ts.length = dn.length ∧ us.length = un.length ∧ n = ts.length ∧ m = us.length ∧ n ≤ c ∧ c ≤ maxLen ∧ m ≤ d ∧ d ≤ maxLen ∧ Sat c0 (stkO g A n c ts dn B m d us un F) w := by
  unfold stk at hs
  rw [ex_star] at hs
  obtain ⟨v, hs⟩ := hs.ex
  rw [ex_star] at hs
  obtain ⟨u, hs⟩ := hs.ex
  simp only [star_assoc] at hs
  have h1 : Sat c0 (rows2 22 33 4 chg v dn * (rows2 22 33 4 chg u un * (blk g (.cells #[v, u] 70 (0, 0)) * F))) w := hs.mono (by ((repeat (first | (with_reducible (first | exact ent_refl | exact ent_emp)) | ((with_reducible apply ent_front); (focus with_reducible (repeat (first | exact ent_here | apply ent_next | exact ent_last)); done)) | (with_reducible (first | exact ent_keep | apply ent_trans ent_drop)))); done))
  obtain ⟨ts, ht, h1⟩ := rows2_open h1
  have h2 : Sat c0 (rows2 22 33 4 chg u un * (blk g (.cells #[v, u] 70 (0, 0)) * (row 22 1 slv v ts * (rowsOf 33 4 chg ts dn * F)))) w := h1.mono (by ((repeat (first | (with_reducible (first | exact ent_refl | exact ent_emp)) | ((with_reducible apply ent_front); (focus with_reducible (repeat (first | exact ent_here | apply ent_next | exact ent_last)); done)) | (with_reducible (first | exact ent_keep | apply ent_trans ent_drop)))); done))
  obtain ⟨us, hu, h2⟩ := rows2_open h2
  obtain ⟨A, c, rfl, hc1, hc2⟩ := row_slice (v := v) (l := ts) (E := 22) (s := 1) (enc := slv) (h2.own.mono (by (focus with_reducible (repeat (first | exact ent_here | apply ent_next | exact ent_last)); done)))
  obtain ⟨B, d, rfl, hd1, hd2⟩ := row_slice (v := u) (l := us) (E := 22) (s := 1) (enc := slv) (h2.own.mono (by (focus with_reducible (repeat (first | exact ent_here | apply ent_next | exact ent_last)); done)))
  exact ⟨A, _, c, ts, B, _, d, us, ht, hu, rfl, rfl, hc1, hc2, hd1, hd2, h2.mono (by unfold stkO; ((repeat (first | (with_reducible (first | exact ent_refl | exact ent_emp)) | ((with_reducible apply ent_front); (focus with_reducible (repeat (first | exact ent_here | apply ent_next | exact ent_last)); done)) | (with_reducible (first | exact ent_keep | apply ent_trans ent_drop)))); done))⟩
theorem stk_shut {g : Nat} {A : Option Addr} {n c : Nat} {ts : List SlD} {dn : List (List ChgD)} {B : Option Addr} {m d : Nat} {us : List SlD} {un : List (List ChgD)} {F : HP} : Ent (stkO g A n c ts dn B m d us un F) (stk g dn un * F) := by
  unfold stk stkO
  rw [ex_star]
  refine ent_ex (.slice A n c) ?_
  rw [ex_star]
  refine ent_ex (.slice B m d) ?_
  rw [star_assoc, star_assoc]
  exact star_mono ent_refl (ent_trans (star_mono ent_refl (star_mono ent_refl rows2_shut)) rows2_shut)
/-- The stack whose newest edit lies where t says. -/
def stkP (g : Nat) (t : SlD) (d0 : List (List ChgD)) (l : List ChgD) (un : List (List ChgD)) : HP := ex fun x : SlD => ex fun ts : List SlD => ex fun y : SlD => ex fun us : List SlD => pu (ts.length = d0.length ∧ us.length = un.length ∧ x.n = ts.length + 1 ∧ y.n = us.length ∧ x.n ≤ x.c ∧ x.c ≤ maxLen ∧ y.n ≤ y.c ∧ y.c ≤ maxLen)
  (blk g (.cells #[.slice x.p x.n x.c, .slice y.p y.n y.c] 70 (0, 0)) * (row 22 1 slv (.slice x.p x.n x.c) (ts ++ [t]) * (rowsOf 33 4 chg ts d0 * (row 33 4 chg (.slice t.p t.n t.c) l * (row 22 1 slv (.slice y.p y.n y.c) us * rowsOf 33 4 chg us un)))))
theorem stkP_open {g : Nat} {t : SlD} {d0 : List (List ChgD)} {l : List ChgD} {un : List (List ChgD)} {F : HP} {c0 w : World} (hs : Sat c0 (stkP g t d0 l un * F) w) :
    ∃ A n c ts B m d us, ts.length = d0.length ∧ us.length = un.length ∧ n = ts.length + 1 ∧ m = us.length ∧ n ≤ c ∧ c ≤ maxLen ∧ m ≤ d ∧ d ≤ maxLen ∧ Sat c0 (blk g (.cells #[.slice A n c, .slice B m d] 70 (0, 0)) * (row 22 1 slv (.slice A n c) (ts ++ [t]) * (rowsOf 33 4 chg ts d0 * (row 33 4 chg (.slice t.p t.n t.c) l * (row 22 1 slv (.slice B m d) us * (rowsOf 33 4 chg us un * F)))))) w := by
  unfold stkP at hs
  rw [ex_star] at hs
  obtain ⟨x, hs⟩ := hs.ex
  rw [ex_star] at hs
  obtain ⟨ts, hs⟩ := hs.ex
  rw [ex_star] at hs
  obtain ⟨y, hs⟩ := hs.ex
  rw [ex_star] at hs
  obtain ⟨us, hs⟩ := hs.ex
  rw [pu_star] at hs
  obtain ⟨⟨h1, h2, h3, h4, h5, h6, h7, h8⟩, hs⟩ := hs.pu
  simp only [star_assoc] at hs
  exact ⟨x.p, x.n, x.c, ts, y.p, y.n, y.c, us, h1, h2, h3, h4, h5, h6, h7, h8, hs⟩
theorem stkP_shut {g : Nat} {t : SlD} {d0 : List (List ChgD)} {l : List ChgD} {un : List (List ChgD)} {F : HP} {A : Option Addr} {n c : Nat} {ts : List SlD} {B : Option Addr} {m d : Nat} {us : List SlD}
    (h : ts.length = d0.length ∧ us.length = un.length ∧ n = ts.length + 1 ∧ m = us.length ∧ n ≤ c ∧ c ≤ maxLen ∧ m ≤ d ∧ d ≤ maxLen) :
    Ent (blk g (.cells #[.slice A n c, .slice B m d] 70 (0, 0)) * (row 22 1 slv (.slice A n c) (ts ++ [t]) * (rowsOf 33 4 chg ts d0 * (row 33 4 chg (.slice t.p t.n t.c) l * (row 22 1 slv (.slice B m d) us * (rowsOf 33 4 chg us un * F)))))) (stkP g t d0 l un * F) := by
  unfold stkP
  rw [ex_star]
  refine ent_ex ⟨A, n, c⟩ ?_
  rw [ex_star]
  refine ent_ex ts ?_
  rw [ex_star]
  refine ent_ex ⟨B, m, d⟩ ?_
  rw [ex_star]
  refine ent_ex us ?_
  rw [pu_star]
  refine ent_pu h ?_
  simp only [star_assoc]
  exact ent_refl
theorem stkP_stk {g : Nat} {t : SlD} {d0 : List (List ChgD)} {l : List ChgD} {un : List (List ChgD)} {F : HP} {c0 w : World} (hs : Sat c0 (stkP g t d0 l un * F) w) : Sat c0 (stk g (d0 ++ [l]) un * F) w := by
  obtain ⟨A, n, c, ts, B, m, d, us, h1, h2, h3, h4, h5, h6, h7, h8, hs⟩ := stkP_open hs
  refine hs.mono (ent_trans ?_ (stk_shut (A := A) (n := n) (c := c) (ts := ts ++ [t]) (B := B) (m := m) (d := d) (us := us)))
  unfold stkO
  rw [rowsOf_snoc _ _ h1]
  simp only [star_assoc]
  exact ent_refl
/-- What is left of the older edits when one more comes. -/
def pushB (dn : List (List ChgD)) : List (List ChgD) := if 64 ≤ dn.length then dn.drop 1 else dn
def pushL (dn : List (List ChgD)) (l : List ChgD) : List (List ChgD) := pushB dn ++ [l]
theorem pushL_len {dn : List (List ChgD)} {l : List ChgD} (h : dn.length ≤ 64) : (pushL dn l).length ≤ 64 := by
  unfold pushL pushB
  split <;> simp <;> omega
set_option maxRecDepth 20000 in
set_option maxHeartbeats 1000000 in
theorem push_s (c0 : World) (F : HP) (g : Nat) (dn un : List (List ChgD)) (t : SlD) (l : List ChgD) : Spec Tryd.prog c0 33 #[.pointer (some ⟨g, 0, none⟩), .slice t.p t.n t.c]
    (pu (dn.length ≤ 64) (row 33 4 chg (.slice t.p t.n t.c) l * (stk g dn un * F))) (fun _ => stkP g t (pushB dn) l un * F) := by
  intro w hq; obtain ⟨h64, hs⟩ := hq.pu; clear hq
  obtain ⟨X, q, xc⟩ := t
  dsimp only at *
  obtain ⟨A, n, c, ts, B, m, d, us, ht, hu, rfl, rfl, hc1, hc2, hd1, hd2, hs⟩ := stk_open (F := row 33 4 chg (.slice X q xc) l * F) (hs.mono (by ((repeat (first | (with_reducible (first | exact ent_refl | exact ent_emp)) | ((with_reducible apply ent_front); (focus with_reducible (repeat (first | exact ent_here | apply ent_next | exact ent_last)); done)) | (with_reducible (first | exact ent_keep | apply ent_trans ent_drop)))); done)))
  unfold stkO at hs
  have hdr : 0 < ts.length → (ts ++ [(⟨X, q, xc⟩ : SlD)]).drop 1 = ts.drop 1 ++ [⟨X, q, xc⟩] := fun h => List.drop_append_of_le_length (by omega)
  replace hdr := Lib.hid hdr
  rw [← ht] at h64
  replace ht := Lib.hid ht
  replace hu := Lib.hid hu
  have hb1 : ts.length ≤ 4398046510976 := by omega
  by_cases hfull : ts.length = 64
  · have hx1 : (64 : Int) < (ts.length : Int) + 1 := by omega
    have hpos : 0 < ts.length := by omega
    replace hfull := Lib.hid hfull
    go_enter Tryd.func33, Tryd.ntmps33
    go_wp2_with (first
        | ((with_reducible apply pl_call hs (delete0_s _ _ _ _ _ _)); (go_must (((focus (simp only [zj, zk, zl, List.append_toArray, List.nil_append, List.cons_append, Act.eval, za, zb, zc, zd, ze, zf]; (try with_reducible rfl); done)); (focus ((repeat (first | (with_reducible (first | exact ent_refl | apply ent_puR)) | ((with_reducible apply ent_front); (focus with_reducible (repeat (first | exact ent_here | apply ent_next | exact ent_last)); done)) | (with_reducible (first | exact ent_keep | apply ent_trans ent_drop)) | (focus (first | (with_reducible assumption) | (focus (first | ((repeat (first | (with_reducible (first | assumption |  exact hsl _ | exact hsl2 _ | exact hsl3 _ _ _ | exact slr_nil | exact slr_row (fun _ => by simp only [go_sem]) | exact slr_one (fun _ => by simp only [go_sem]) | (apply slr_left; assumption))) | (with_reducible apply slr_next))); done) | ((repeat (first | (with_reducible (first | assumption |  exact hsl _ | exact hsl2 _ | exact hsl3 _ _ _ | exact slr_nil | exact slr_row (fun _ => by simp only [go_sem]) | exact slr_one (fun _ => by simp only [go_sem]) | (apply slr_left; assumption))) | (with_reducible (first | (apply slr_exh; focus assumption) | (apply slr_exh0; focus assumption) | apply slr_next)))); done))) | (focus ((repeat (first | (with_reducible (first | assumption | exact hec _ | exact hec2 _ | exact hec3 _ | exact hec4 _ _)) | ((with_reducible apply readc_here); (focus (first | (simp only [zc, zd, ze, go_sem]; (try with_reducible rfl); done) | (go_simp; (try with_reducible rfl); done)))) | (with_reducible (first | (apply readc_left; assumption) | refine readc_exh (by assumption) ?_ | refine readc_exh0 (by assumption) ?_ | apply readc_next)))); done)) | (focus ((repeat (first | (with_reducible (first | assumption | exact hel _ | exact hel2 _ | exact hel3 _)) | ((with_reducible apply reads_whole); (focus (first | (with_reducible rfl) | (simp only [go_sem]; done) | (simp; done)))) | ((with_reducible apply reads_part); (focus (first | (simp [go_sem]; done) | (simp only [go_sem]; omega) | go_size)); (focus (first | (simp only [Nat.reduceAdd, Nat.zero_add, go_sem]; (try with_reducible rfl); done) | (simp [go_sem]; (try with_reducible rfl); done)))) | (with_reducible (first | (apply reads_left; assumption) | refine reads_exh (by assumption) ?_ | refine reads_exh0 (by assumption) ?_ | apply reads_next)))); done)) | (focus (with_reducible (repeat (first | assumption | (apply ErrA.left; assumption) | refine ErrA.exh (by assumption) ?_ | refine ErrA.exh0 (by assumption) ?_ | apply ErrA.next)); done)) | ((repeat' (first | (with_reducible assumption) | (with_reducible apply And.intro) | omega | (focus (first | ((repeat (first | (with_reducible (first | assumption |  exact hsl _ | exact hsl2 _ | exact hsl3 _ _ _ | exact slr_nil | exact slr_row (fun _ => by simp only [go_sem]) | exact slr_one (fun _ => by simp only [go_sem]) | (apply slr_left; assumption))) | (with_reducible apply slr_next))); done) | ((repeat (first | (with_reducible (first | assumption |  exact hsl _ | exact hsl2 _ | exact hsl3 _ _ _ | exact slr_nil | exact slr_row (fun _ => by simp only [go_sem]) | exact slr_one (fun _ => by simp only [go_sem]) | (apply slr_left; assumption))) | (with_reducible (first | (apply slr_exh; focus assumption) | (apply slr_exh0; focus assumption) | apply slr_next)))); done))) | (focus ((repeat (first | (with_reducible (first | assumption | exact hec _ | exact hec2 _ | exact hec3 _ | exact hec4 _ _)) | ((with_reducible apply readc_here); (focus (first | (simp only [zc, zd, ze, go_sem]; (try with_reducible rfl); done) | (go_simp; (try with_reducible rfl); done)))) | (with_reducible (first | (apply readc_left; assumption) | refine readc_exh (by assumption) ?_ | refine readc_exh0 (by assumption) ?_ | apply readc_next)))); done)) | (focus ((repeat (first | (with_reducible (first | assumption | exact hel _ | exact hel2 _ | exact hel3 _)) | ((with_reducible apply reads_whole); (focus (first | (with_reducible rfl) | (simp only [go_sem]; done) | (simp; done)))) | ((with_reducible apply reads_part); (focus (first | (simp [go_sem]; done) | (simp only [go_sem]; omega) | go_size)); (focus (first | (simp only [Nat.reduceAdd, Nat.zero_add, go_sem]; (try with_reducible rfl); done) | (simp [go_sem]; (try with_reducible rfl); done)))) | (with_reducible (first | (apply reads_left; assumption) | refine reads_exh (by assumption) ?_ | refine reads_exh0 (by assumption) ?_ | apply reads_next)))); done)) | (focus (with_reducible (repeat (first | assumption | (apply ErrA.left; assumption) | refine ErrA.exh (by assumption) ?_ | refine ErrA.exh0 (by assumption) ?_ | apply ErrA.next)); done)) | (simp; done) | (simp; omega))); done) | (with_reducible rfl) | omega | go_size | (simp [go_sem]; done))))); done)); (focus (simp only [go_sem]))))); clear hs; (try clear w); intro v w hq; (obtain ⟨rfl, hs⟩ := hq.pu); clear hq; (try simp only [star_assoc, star_emp, emp_star] at hs); (try simp only [Act.put, zg, zh, zi]))
        | ((with_reducible apply pl_load1 hs); (focus (simp only [Act.eval, za, zb, zc, zd, ze, zf]; (try with_reducible rfl); done)); (focus (simp only [go_sem])); (focus ((repeat (first | (with_reducible (first | assumption | exact hec _ | exact hec2 _ | exact hec3 _ | exact hec4 _ _)) | ((with_reducible apply readc_here); (focus (first | (simp only [zc, zd, ze, go_sem]; (try with_reducible rfl); done) | (go_simp; (try with_reducible rfl); done)))) | (with_reducible (first | (apply readc_left; assumption) | refine readc_exh (by assumption) ?_ | refine readc_exh0 (by assumption) ?_ | apply readc_next)))); done)); (focus rfl); simp only [Act.put, zg, zh, zi])
        | ((with_reducible apply pl_bs1 hs); (with_reducible (first | exact bst_50)); (focus (simp only [Act.eval, za, zb, zc, zd, ze, zf]; (try with_reducible rfl); done)); (focus (first | (with_reducible (first | exact cells_slv _ _ _ | exact cells_intv _ | exact cells_agg _ | exact cells_int _ _ | exact cells_bool _ | exact cells_string _ | exact cells_slice _ _ _ | exact cells_pointer _ | exact cells_map _ | exact cells_iface _ _ | exact cells_nilIface | exact cells_func _ _ _)) | (exact cells_one (by assumption)))); (focus (first | (with_reducible rfl) | (simp only [go_sem]; done) | (simp; done))); clear hs; (try clear w); intro g w hs; skip; simp only [Act.put, zg, zh, zi])
        | ((with_reducible apply pl_store1 hs); (focus (simp only [Act.eval, za, zb, zc, zd, ze, zf]; (try with_reducible rfl); done)); (focus (simp only [Act.eval, za, zb, zc, zd, ze, zf]; (try with_reducible rfl); done)); (focus (simp only [go_sem])); (focus with_reducible (repeat (first | exact ent_here | apply ent_next | exact ent_last)); done); (focus (first | (simp [go_sem]; done) | (simp only [go_sem]; omega) | go_size)); (focus (first | (simp only [go_sem]; done) | (simp [go_sem]; done))); clear hs; (try clear w); intro w hs; (try simp only [zg, zh, zi, idv_s0, idv_s1, idv_s2, chg_s0, chg_s1, chg_s2, chg_s3, uop_s0, uop_s1, uop_s2, prv_s0, prv_s1, lnk_s0, lnk_s1, lnk_s2, nov_s0, nov_s1, nov_s2, slv_set, intv_set] at hs); simp only [Act.put, zg, zh, zi])
        | ((with_reducible apply pl_append1 hs); (with_reducible (first | exact app_22 | exact app_41 | exact app_42 | exact app_47 | exact app_50)); (focus (simp only [Act.eval, za, zb, zc, zd, ze, zf]; (try with_reducible rfl); done)); (first | (focus with_reducible (repeat (first | exact ent_here | apply ent_next | exact ent_last)); done) | (focus (with_reducible exact ent_row_nil)) | (focus ((with_reducible apply ent_row_of_blk); (focus with_reducible (repeat (first | exact ent_here | apply ent_next | exact ent_last)); done); (focus (simp only [go_sem]))))); (focus (simp only [Act.eval, za, zb, zc, zd, ze, zf]; (try with_reducible rfl); done)); (focus ((repeat (first | (with_reducible (first | assumption | exact hel _ | exact hel2 _ | exact hel3 _)) | ((with_reducible apply reads_whole); (focus (first | (with_reducible rfl) | (simp only [go_sem]; done) | (simp; done)))) | ((with_reducible apply reads_part); (focus (first | (simp [go_sem]; done) | (simp only [go_sem]; omega) | go_size)); (focus (first | (simp only [Nat.reduceAdd, Nat.zero_add, go_sem]; (try with_reducible rfl); done) | (simp [go_sem]; (try with_reducible rfl); done)))) | (with_reducible (first | (apply reads_left; assumption) | refine reads_exh (by assumption) ?_ | refine reads_exh0 (by assumption) ?_ | apply reads_next)))); done)); (focus (first | (simp only [maxLen] at *; omega) | (simp [maxLen] at *; omega))); (focus (first | (simp only [maxLen] at *; omega) | (simp [maxLen] at *; omega))); clear hs; (try clear w); intro Ap cq w hs; skip; simp only [Act.put, zg, zh, zi]))
    refine bodyPost_end (results_none rfl _ _ _) rfl ?_
    rw [hdr.out hpos] at hs
    obtain ⟨hq1, hq2, hq3⟩ : ts.length + 1 - 1 = (ts.drop 1).length + 1 ∧ ts.length + 1 - 1 ≤ cq ∧ cq ≤ maxLen := by
      obtain ⟨_, _, h1, h2, h3⟩ := row_slice (v := .slice Ap (ts.length + 1 - 1) cq) (l := ts.drop 1 ++ [(⟨X, q, xc⟩ : SlD)]) (E := 22) (s := 1) (enc := slv) (hs.own.mono (by (focus with_reducible (repeat (first | exact ent_here | apply ent_next | exact ent_last)); done)))
      obtain ⟨rfl, h4, rfl⟩ := sl_inj h1
      simp only [List.length_append, List.length_drop, List.length_cons, List.length_nil] at h4 h2 ⊢
      omega
    refine ⟨_, rfl, hs.mono (ent_trans ?_ (stkP_shut (A := Ap) (n := ts.length + 1 - 1) (c := cq) (ts := ts.drop 1) (B := B) (m := us.length) (d := d) (us := us) ⟨?_, hu.out, hq1, rfl, hq2, hq3, hd1, hd2⟩))⟩
    · rw [show pushB dn = dn.drop 1 from if_pos (by have := hfull.out; have := ht.out; omega), rowsOf_split ht.out 1]
      simp only [star_assoc]
      ((repeat (first | (with_reducible (first | exact ent_refl | exact ent_emp)) | ((with_reducible apply ent_front); (focus with_reducible (repeat (first | exact ent_here | apply ent_next | exact ent_last)); done)) | (with_reducible (first | exact ent_keep | apply ent_trans ent_drop)))); done)
    · rw [show pushB dn = dn.drop 1 from if_pos (by have := hfull.out; have := ht.out; omega)]
      have := ht.out
      simp [this]
  · have hlt : ts.length < 64 := by omega
    have hx1 : (ts.length : Int) + 1 ≤ 64 := by omega
    clear hfull
    go_enter Tryd.func33, Tryd.ntmps33
    go_wp2_with (first
        | ((with_reducible apply pl_load1 hs); (focus (simp only [Act.eval, za, zb, zc, zd, ze, zf]; (try with_reducible rfl); done)); (focus (simp only [go_sem])); (focus ((repeat (first | (with_reducible (first | assumption | exact hec _ | exact hec2 _ | exact hec3 _ | exact hec4 _ _)) | ((with_reducible apply readc_here); (focus (first | (simp only [zc, zd, ze, go_sem]; (try with_reducible rfl); done) | (go_simp; (try with_reducible rfl); done)))) | (with_reducible (first | (apply readc_left; assumption) | refine readc_exh (by assumption) ?_ | refine readc_exh0 (by assumption) ?_ | apply readc_next)))); done)); (focus rfl); simp only [Act.put, zg, zh, zi])
        | ((with_reducible apply pl_bs1 hs); (with_reducible (first | exact bst_50)); (focus (simp only [Act.eval, za, zb, zc, zd, ze, zf]; (try with_reducible rfl); done)); (focus (first | (with_reducible (first | exact cells_slv _ _ _ | exact cells_intv _ | exact cells_agg _ | exact cells_int _ _ | exact cells_bool _ | exact cells_string _ | exact cells_slice _ _ _ | exact cells_pointer _ | exact cells_map _ | exact cells_iface _ _ | exact cells_nilIface | exact cells_func _ _ _)) | (exact cells_one (by assumption)))); (focus (first | (with_reducible rfl) | (simp only [go_sem]; done) | (simp; done))); clear hs; (try clear w); intro g w hs; skip; simp only [Act.put, zg, zh, zi])
        | ((with_reducible apply pl_store1 hs); (focus (simp only [Act.eval, za, zb, zc, zd, ze, zf]; (try with_reducible rfl); done)); (focus (simp only [Act.eval, za, zb, zc, zd, ze, zf]; (try with_reducible rfl); done)); (focus (simp only [go_sem])); (focus with_reducible (repeat (first | exact ent_here | apply ent_next | exact ent_last)); done); (focus (first | (simp [go_sem]; done) | (simp only [go_sem]; omega) | go_size)); (focus (first | (simp only [go_sem]; done) | (simp [go_sem]; done))); clear hs; (try clear w); intro w hs; (try simp only [zg, zh, zi, idv_s0, idv_s1, idv_s2, chg_s0, chg_s1, chg_s2, chg_s3, uop_s0, uop_s1, uop_s2, prv_s0, prv_s1, lnk_s0, lnk_s1, lnk_s2, nov_s0, nov_s1, nov_s2, slv_set, intv_set] at hs); simp only [Act.put, zg, zh, zi])
        | ((with_reducible apply pl_append1 hs); (with_reducible (first | exact app_22 | exact app_41 | exact app_42 | exact app_47 | exact app_50)); (focus (simp only [Act.eval, za, zb, zc, zd, ze, zf]; (try with_reducible rfl); done)); (first | (focus with_reducible (repeat (first | exact ent_here | apply ent_next | exact ent_last)); done) | (focus (with_reducible exact ent_row_nil)) | (focus ((with_reducible apply ent_row_of_blk); (focus with_reducible (repeat (first | exact ent_here | apply ent_next | exact ent_last)); done); (focus (simp only [go_sem]))))); (focus (simp only [Act.eval, za, zb, zc, zd, ze, zf]; (try with_reducible rfl); done)); (focus ((repeat (first | (with_reducible (first | assumption | exact hel _ | exact hel2 _ | exact hel3 _)) | ((with_reducible apply reads_whole); (focus (first | (with_reducible rfl) | (simp only [go_sem]; done) | (simp; done)))) | ((with_reducible apply reads_part); (focus (first | (simp [go_sem]; done) | (simp only [go_sem]; omega) | go_size)); (focus (first | (simp only [Nat.reduceAdd, Nat.zero_add, go_sem]; (try with_reducible rfl); done) | (simp [go_sem]; (try with_reducible rfl); done)))) | (with_reducible (first | (apply reads_left; assumption) | refine reads_exh (by assumption) ?_ | refine reads_exh0 (by assumption) ?_ | apply reads_next)))); done)); (focus (first | (simp only [maxLen] at *; omega) | (simp [maxLen] at *; omega))); (focus (first | (simp only [maxLen] at *; omega) | (simp [maxLen] at *; omega))); clear hs; (try clear w); intro Ap cq w hs; skip; simp only [Act.put, zg, zh, zi]))
    refine bodyPost_end (results_none rfl _ _ _) rfl ?_
    obtain ⟨hq2, hq3⟩ : ts.length + 1 ≤ cq ∧ cq ≤ maxLen := by
      obtain ⟨_, _, h1, h2, h3⟩ := row_slice (v := .slice Ap (ts.length + 1) cq) (l := ts ++ [(⟨X, q, xc⟩ : SlD)]) (E := 22) (s := 1) (enc := slv) (hs.own.mono (by (focus with_reducible (repeat (first | exact ent_here | apply ent_next | exact ent_last)); done)))
      obtain ⟨rfl, h4, rfl⟩ := sl_inj h1
      simp only [List.length_append, List.length_cons, List.length_nil] at h2
      exact ⟨h2, h3⟩
    have hpb : pushB dn = dn := if_neg (by have := ht.out; omega)
    refine ⟨_, rfl, hs.mono (ent_trans ?_ (stkP_shut (A := Ap) (n := ts.length + 1) (c := cq) (ts := ts) (B := B) (m := us.length) (d := d) (us := us) ⟨by rw [hpb]; exact ht.out, hu.out, rfl, rfl, hq2, hq3, hd1, hd2⟩))⟩
    rw [hpb]
    ((repeat (first | (with_reducible (first | exact ent_refl | exact ent_emp)) | ((with_reducible apply ent_front); (focus with_reducible (repeat (first | exact ent_here | apply ent_next | exact ent_last)); done)) | (with_reducible (first | exact ent_keep | apply ent_trans ent_drop)))); done)
theorem copied1_s (c0 : World) (F : HP) (gb : Nat) (t : SlD) (l : List ChgD) : Spec Tryd.prog c0 34 #[.slice (some ⟨gb, 0, none⟩) 1 1] (pu (SlR F 4 chg (.slice t.p t.n t.c) l ∧ l.length ≤ 4398046510976) (blk gb (.cells (slv t) 22 (0, 0)) * F)) (fun r => rows2 22 33 4 chg r [l] * F) := by
  refine Spec.mono (copied_s c0 (row 22 1 slv (.slice (some ⟨gb, 0, none⟩) 1 1) [t] * F) (.slice (some ⟨gb, 0, none⟩) 1 1) [l]) ?_ (fun v => star_mono ent_refl ent_drop)
  refine ent_pu_l fun ⟨h1, h2⟩ => ent_pu ⟨⟨[t], slr_row slv_size, rfl, fun i t' l' e1 e2 => ?_⟩, by simp, fun x hx => by rw [List.mem_singleton.1 hx]; exact h2⟩ (ent_bs1_row (slv_size t))
  match i with
  | 0 =>
    obtain rfl : t = t' := by simpa using e1
    obtain rfl : l = l' := by simpa using e2
    exact slr_next h1
  | i + 1 => simp at e1
theorem rows2_at0 {ES E : TypeId} {v : Value} {l : List ChgD} {F : HP} {c0 w : World} (hs : Sat c0 (rows2 ES E 4 chg v [l] * F) w) :
    ∃ g A n c d, v = .slice (some ⟨g, 0, none⟩) 1 d ∧ (∀ R, ReadC (row ES 1 slv v [⟨A, n, c⟩] * R) g 0 (.slice A n c)) ∧ Sat c0 (row ES 1 slv v [⟨A, n, c⟩] * (row E 4 chg (.slice A n c) l * F)) w := by
  obtain ⟨ts, ht, hs⟩ := rows2_open hs
  match ts, ht with
  | [t], _ =>
    obtain ⟨A', c, rfl, h1, h2⟩ := row_slice hs.own
    obtain ⟨g, a, rfl, hla, hel⟩ := row_at hs.own slv_size (show 0 < 1 by omega)
    obtain rfl : t = a := by simpa using hla
    refine ⟨g, t.p, t.n, t.c, c, rfl, fun R => ?_, ?_⟩
    · have := (hel R).cell (i := 0) (by omega) (slv_0 t)
      simpa using this
    · rw [rowsOf_one] at hs
      exact hs
theorem done0_s (c0 : World) (F : HP) (g : Nat) (v : Value) : Spec Tryd.prog c0 18 #[.pointer (some ⟨g, 0, none⟩), v] (pu (SlR F 4 chg v ([] : List ChgD)) F) (fun _ => F) := by
  intro w hq; obtain ⟨hsl, hs⟩ := hq.pu; clear hq
  obtain ⟨A, cp, rfl⟩ := slr_form hsl hs.own
  go_enter Tryd.func18, Tryd.ntmps18
  go_wp2_with fail
  exact bodyPost_ret (results_none rfl _ _ _) rfl ⟨_, rfl, hs⟩
set_option maxRecDepth 20000 in
set_option maxHeartbeats 1000000 in
theorem done_s (c0 : World) (F : HP) (gs : Nat) (dn un : List (List ChgD)) (v : Value) (l : List ChgD) : Spec Tryd.prog c0 18 #[.pointer (some ⟨gs, 0, none⟩), v]
    (pu (SlR F 4 chg v l ∧ 0 < l.length ∧ l.length ≤ 4398046510976 ∧ dn.length ≤ 64) (stk gs dn un * F)) (fun _ => stk gs (pushL dn l) [] * F) := by
  intro w hq; obtain ⟨⟨hsl, hl0, hl, h64⟩, hs⟩ := hq.pu; clear hq
  obtain ⟨A, cp, rfl⟩ := slr_form hsl (hs.own.mono ent_drop)
  have hz : ((l.length : Int) == 0) = false := by simp only [beq_eq_false_iff_ne]; omega
  go_enter Tryd.func18, Tryd.ntmps18
  go_wp2_with (first
        | ((with_reducible apply pl_call hs (copied1_s _ _ _ _ l)); (go_must (((focus (simp only [zj, zk, zl, List.append_toArray, List.nil_append, List.cons_append, Act.eval, za, zb, zc, zd, ze, zf]; (try with_reducible rfl); done)); (focus ((repeat (first | (with_reducible (first | exact ent_refl | apply ent_puR)) | ((with_reducible apply ent_front); (focus with_reducible (repeat (first | exact ent_here | apply ent_next | exact ent_last)); done)) | (with_reducible (first | exact ent_keep | apply ent_trans ent_drop)) | (focus (first | (with_reducible assumption) | (focus (first | ((repeat (first | (with_reducible (first | assumption |  exact hsl _ | exact hsl2 _ | exact hsl3 _ _ _ | exact slr_nil | exact slr_row (fun _ => by simp only [go_sem]) | exact slr_one (fun _ => by simp only [go_sem]) | (apply slr_left; assumption))) | (with_reducible apply slr_next))); done) | ((repeat (first | (with_reducible (first | assumption |  exact hsl _ | exact hsl2 _ | exact hsl3 _ _ _ | exact slr_nil | exact slr_row (fun _ => by simp only [go_sem]) | exact slr_one (fun _ => by simp only [go_sem]) | (apply slr_left; assumption))) | (with_reducible (first | (apply slr_exh; focus assumption) | (apply slr_exh0; focus assumption) | apply slr_next)))); done))) | (focus ((repeat (first | (with_reducible (first | assumption | exact hec _ | exact hec2 _ | exact hec3 _ | exact hec4 _ _)) | ((with_reducible apply readc_here); (focus (first | (simp only [zc, zd, ze, go_sem]; (try with_reducible rfl); done) | (go_simp; (try with_reducible rfl); done)))) | (with_reducible (first | (apply readc_left; assumption) | refine readc_exh (by assumption) ?_ | refine readc_exh0 (by assumption) ?_ | apply readc_next)))); done)) | (focus ((repeat (first | (with_reducible (first | assumption | exact hel _ | exact hel2 _ | exact hel3 _)) | ((with_reducible apply reads_whole); (focus (first | (with_reducible rfl) | (simp only [go_sem]; done) | (simp; done)))) | ((with_reducible apply reads_part); (focus (first | (simp [go_sem]; done) | (simp only [go_sem]; omega) | go_size)); (focus (first | (simp only [Nat.reduceAdd, Nat.zero_add, go_sem]; (try with_reducible rfl); done) | (simp [go_sem]; (try with_reducible rfl); done)))) | (with_reducible (first | (apply reads_left; assumption) | refine reads_exh (by assumption) ?_ | refine reads_exh0 (by assumption) ?_ | apply reads_next)))); done)) | (focus (with_reducible (repeat (first | assumption | (apply ErrA.left; assumption) | refine ErrA.exh (by assumption) ?_ | refine ErrA.exh0 (by assumption) ?_ | apply ErrA.next)); done)) | ((repeat' (first | (with_reducible assumption) | (with_reducible apply And.intro) | omega | (focus (first | ((repeat (first | (with_reducible (first | assumption |  exact hsl _ | exact hsl2 _ | exact hsl3 _ _ _ | exact slr_nil | exact slr_row (fun _ => by simp only [go_sem]) | exact slr_one (fun _ => by simp only [go_sem]) | (apply slr_left; assumption))) | (with_reducible apply slr_next))); done) | ((repeat (first | (with_reducible (first | assumption |  exact hsl _ | exact hsl2 _ | exact hsl3 _ _ _ | exact slr_nil | exact slr_row (fun _ => by simp only [go_sem]) | exact slr_one (fun _ => by simp only [go_sem]) | (apply slr_left; assumption))) | (with_reducible (first | (apply slr_exh; focus assumption) | (apply slr_exh0; focus assumption) | apply slr_next)))); done))) | (focus ((repeat (first | (with_reducible (first | assumption | exact hec _ | exact hec2 _ | exact hec3 _ | exact hec4 _ _)) | ((with_reducible apply readc_here); (focus (first | (simp only [zc, zd, ze, go_sem]; (try with_reducible rfl); done) | (go_simp; (try with_reducible rfl); done)))) | (with_reducible (first | (apply readc_left; assumption) | refine readc_exh (by assumption) ?_ | refine readc_exh0 (by assumption) ?_ | apply readc_next)))); done)) | (focus ((repeat (first | (with_reducible (first | assumption | exact hel _ | exact hel2 _ | exact hel3 _)) | ((with_reducible apply reads_whole); (focus (first | (with_reducible rfl) | (simp only [go_sem]; done) | (simp; done)))) | ((with_reducible apply reads_part); (focus (first | (simp [go_sem]; done) | (simp only [go_sem]; omega) | go_size)); (focus (first | (simp only [Nat.reduceAdd, Nat.zero_add, go_sem]; (try with_reducible rfl); done) | (simp [go_sem]; (try with_reducible rfl); done)))) | (with_reducible (first | (apply reads_left; assumption) | refine reads_exh (by assumption) ?_ | refine reads_exh0 (by assumption) ?_ | apply reads_next)))); done)) | (focus (with_reducible (repeat (first | assumption | (apply ErrA.left; assumption) | refine ErrA.exh (by assumption) ?_ | refine ErrA.exh0 (by assumption) ?_ | apply ErrA.next)); done)) | (simp; done) | (simp; omega))); done) | (with_reducible rfl) | omega | go_size | (simp [go_sem]; done))))); done)); (focus (simp only [go_sem]))))); clear hs; (try clear w); intro v w hq; (obtain ⟨g1, A1, n1, c1, d1, rfl, hec, hs⟩ := rows2_at0 hq); clear hq; (try simp only [star_assoc, star_emp, emp_star] at hs); (try simp only [Act.put, zg, zh, zi]))
        | ((with_reducible apply pl_call hs (push_s _ _ _ dn un ⟨_, _, _⟩ l)); (go_must (((focus (simp only [zj, zk, zl, List.append_toArray, List.nil_append, List.cons_append, Act.eval, za, zb, zc, zd, ze, zf]; (try with_reducible rfl); done)); (focus ((repeat (first | (with_reducible (first | exact ent_refl | apply ent_puR)) | ((with_reducible apply ent_front); (focus with_reducible (repeat (first | exact ent_here | apply ent_next | exact ent_last)); done)) | (with_reducible (first | exact ent_keep | apply ent_trans ent_drop)) | (focus (first | (with_reducible assumption) | (focus (first | ((repeat (first | (with_reducible (first | assumption |  exact hsl _ | exact hsl2 _ | exact hsl3 _ _ _ | exact slr_nil | exact slr_row (fun _ => by simp only [go_sem]) | exact slr_one (fun _ => by simp only [go_sem]) | (apply slr_left; assumption))) | (with_reducible apply slr_next))); done) | ((repeat (first | (with_reducible (first | assumption |  exact hsl _ | exact hsl2 _ | exact hsl3 _ _ _ | exact slr_nil | exact slr_row (fun _ => by simp only [go_sem]) | exact slr_one (fun _ => by simp only [go_sem]) | (apply slr_left; assumption))) | (with_reducible (first | (apply slr_exh; focus assumption) | (apply slr_exh0; focus assumption) | apply slr_next)))); done))) | (focus ((repeat (first | (with_reducible (first | assumption | exact hec _ | exact hec2 _ | exact hec3 _ | exact hec4 _ _)) | ((with_reducible apply readc_here); (focus (first | (simp only [zc, zd, ze, go_sem]; (try with_reducible rfl); done) | (go_simp; (try with_reducible rfl); done)))) | (with_reducible (first | (apply readc_left; assumption) | refine readc_exh (by assumption) ?_ | refine readc_exh0 (by assumption) ?_ | apply readc_next)))); done)) | (focus ((repeat (first | (with_reducible (first | assumption | exact hel _ | exact hel2 _ | exact hel3 _)) | ((with_reducible apply reads_whole); (focus (first | (with_reducible rfl) | (simp only [go_sem]; done) | (simp; done)))) | ((with_reducible apply reads_part); (focus (first | (simp [go_sem]; done) | (simp only [go_sem]; omega) | go_size)); (focus (first | (simp only [Nat.reduceAdd, Nat.zero_add, go_sem]; (try with_reducible rfl); done) | (simp [go_sem]; (try with_reducible rfl); done)))) | (with_reducible (first | (apply reads_left; assumption) | refine reads_exh (by assumption) ?_ | refine reads_exh0 (by assumption) ?_ | apply reads_next)))); done)) | (focus (with_reducible (repeat (first | assumption | (apply ErrA.left; assumption) | refine ErrA.exh (by assumption) ?_ | refine ErrA.exh0 (by assumption) ?_ | apply ErrA.next)); done)) | ((repeat' (first | (with_reducible assumption) | (with_reducible apply And.intro) | omega | (focus (first | ((repeat (first | (with_reducible (first | assumption |  exact hsl _ | exact hsl2 _ | exact hsl3 _ _ _ | exact slr_nil | exact slr_row (fun _ => by simp only [go_sem]) | exact slr_one (fun _ => by simp only [go_sem]) | (apply slr_left; assumption))) | (with_reducible apply slr_next))); done) | ((repeat (first | (with_reducible (first | assumption |  exact hsl _ | exact hsl2 _ | exact hsl3 _ _ _ | exact slr_nil | exact slr_row (fun _ => by simp only [go_sem]) | exact slr_one (fun _ => by simp only [go_sem]) | (apply slr_left; assumption))) | (with_reducible (first | (apply slr_exh; focus assumption) | (apply slr_exh0; focus assumption) | apply slr_next)))); done))) | (focus ((repeat (first | (with_reducible (first | assumption | exact hec _ | exact hec2 _ | exact hec3 _ | exact hec4 _ _)) | ((with_reducible apply readc_here); (focus (first | (simp only [zc, zd, ze, go_sem]; (try with_reducible rfl); done) | (go_simp; (try with_reducible rfl); done)))) | (with_reducible (first | (apply readc_left; assumption) | refine readc_exh (by assumption) ?_ | refine readc_exh0 (by assumption) ?_ | apply readc_next)))); done)) | (focus ((repeat (first | (with_reducible (first | assumption | exact hel _ | exact hel2 _ | exact hel3 _)) | ((with_reducible apply reads_whole); (focus (first | (with_reducible rfl) | (simp only [go_sem]; done) | (simp; done)))) | ((with_reducible apply reads_part); (focus (first | (simp [go_sem]; done) | (simp only [go_sem]; omega) | go_size)); (focus (first | (simp only [Nat.reduceAdd, Nat.zero_add, go_sem]; (try with_reducible rfl); done) | (simp [go_sem]; (try with_reducible rfl); done)))) | (with_reducible (first | (apply reads_left; assumption) | refine reads_exh (by assumption) ?_ | refine reads_exh0 (by assumption) ?_ | apply reads_next)))); done)) | (focus (with_reducible (repeat (first | assumption | (apply ErrA.left; assumption) | refine ErrA.exh (by assumption) ?_ | refine ErrA.exh0 (by assumption) ?_ | apply ErrA.next)); done)) | (simp; done) | (simp; omega))); done) | (with_reducible rfl) | omega | go_size | (simp [go_sem]; done))))); done)); (focus (simp only [go_sem]))))); clear hs; (try clear w); intro v w hq; (obtain ⟨A2, n2, c2, ts, B2, m2, d2, us, ht, hu, h1, h2, h3, h4, h5, h6, hs⟩ := stk_open (stkP_stk hq); unfold stkO at hs; clear h1 h2 ht hu); clear hq; (try simp only [star_assoc, star_emp, emp_star] at hs); (try simp only [Act.put, zg, zh, zi]))
        | ((with_reducible apply pl_load1 hs); (focus (simp only [Act.eval, za, zb, zc, zd, ze, zf]; (try with_reducible rfl); done)); (focus (simp only [go_sem])); (focus ((repeat (first | (with_reducible (first | assumption | exact hec _ | exact hec2 _ | exact hec3 _ | exact hec4 _ _)) | ((with_reducible apply readc_here); (focus (first | (simp only [zc, zd, ze, go_sem]; (try with_reducible rfl); done) | (go_simp; (try with_reducible rfl); done)))) | (with_reducible (first | (apply readc_left; assumption) | refine readc_exh (by assumption) ?_ | refine readc_exh0 (by assumption) ?_ | apply readc_next)))); done)); (focus rfl); simp only [Act.put, zg, zh, zi])
        | ((with_reducible apply pl_bs1 hs); (with_reducible (first | exact bst_50)); (focus (simp only [Act.eval, za, zb, zc, zd, ze, zf]; (try with_reducible rfl); done)); (focus (first | (with_reducible (first | exact cells_slv _ _ _ | exact cells_intv _ | exact cells_agg _ | exact cells_int _ _ | exact cells_bool _ | exact cells_string _ | exact cells_slice _ _ _ | exact cells_pointer _ | exact cells_map _ | exact cells_iface _ _ | exact cells_nilIface | exact cells_func _ _ _)) | (exact cells_one (by assumption)))); (focus (first | (with_reducible rfl) | (simp only [go_sem]; done) | (simp; done))); clear hs; (try clear w); intro g w hs; skip; simp only [Act.put, zg, zh, zi])
        | ((with_reducible apply pl_store1 hs); (focus (simp only [Act.eval, za, zb, zc, zd, ze, zf]; (try with_reducible rfl); done)); (focus (simp only [Act.eval, za, zb, zc, zd, ze, zf]; (try with_reducible rfl); done)); (focus (simp only [go_sem])); (focus with_reducible (repeat (first | exact ent_here | apply ent_next | exact ent_last)); done); (focus (first | (simp [go_sem]; done) | (simp only [go_sem]; omega) | go_size)); (focus (first | (simp only [go_sem]; done) | (simp [go_sem]; done))); clear hs; (try clear w); intro w hs; (try simp only [zg, zh, zi, idv_s0, idv_s1, idv_s2, chg_s0, chg_s1, chg_s2, chg_s3, uop_s0, uop_s1, uop_s2, prv_s0, prv_s1, lnk_s0, lnk_s1, lnk_s2, nov_s0, nov_s1, nov_s2, slv_set, intv_set] at hs); simp only [Act.put, zg, zh, zi]))
  refine bodyPost_end (results_none rfl _ _ _) rfl ?_
  refine ⟨_, rfl, hs.mono ?_⟩
  unfold pushL
  refine ent_trans ?_ (stk_shut (A := A2) (n := n2) (c := c2) (ts := ts) (B := none) (m := 0) (d := 0) (us := []))
  unfold stkO
  rw [show rowsOf 33 4 chg [] [] = emp from rfl, emp_star]
  exact ent_trans (B := blk gs (.cells #[.slice A2 n2 c2, .slice none 0 0] 70 (0, 0)) * (row 22 1 slv (.slice A2 n2 c2) ts * (rowsOf 33 4 chg ts (pushB dn ++ [l]) * F))) (by ((repeat (first | (with_reducible (first | exact ent_refl | exact ent_emp)) | ((with_reducible apply ent_front); (focus with_reducible (repeat (first | exact ent_here | apply ent_next | exact ent_last)); done)) | (with_reducible (first | exact ent_keep | apply ent_trans ent_drop)))); done)) (star_mono ent_refl (star_mono ent_refl (star_mono ent_refl ent_row_nil)))
/-! ### what is taken off -/
set_option maxHeartbeats 1000000 in
theorem take_s (c0 : World) (F : HP) (nm : ByteArray) (A : Option Addr) (c k : Nat) (ts : List SlD) (p : Option Addr) (m d : Nat) : Spec Tryd.prog c0 35 #[.slice A (k + 1) c, .string nm]
    (pu (ts.length = k ∧ k ≤ 4398046510976) (row 22 1 slv (.slice A (k + 1) c) (ts ++ [⟨p, m, d⟩]) * F)) (fun r => pu (r = .tuple #[.slice p m d, .slice A k c, .nilIface]) (row 22 1 slv (.slice A (k + 1) c) (ts ++ [⟨p, m, d⟩]) * F)) := by
  intro w hq; obtain ⟨⟨hk, hk9⟩, hs⟩ := hq.pu; clear hq
  obtain ⟨g, t, rfl, hla, hel⟩ := row_at (i := k) hs.own slv_size (by omega)
  obtain ⟨hn, hc1, hc2⟩ := row_len hs.own
  clear hn
  rw [List.getElem?_append_right (by omega), hk] at hla
  obtain rfl : (⟨p, m, d⟩ : SlD) = t := by simpa using hla
  clear hla
  have hec : ∀ R, ReadC (row 22 1 slv (.slice (some ⟨g, 0, none⟩) (k + 1) c) (ts ++ [⟨p, m, d⟩]) * R) g k (.slice p m d) := fun R => by
    have := (hel R).cell (i := 0) (by omega) (slv_0 _)
    simpa using this
  clear hel
  have hz : ((k : Int) + 1 == 0) = false := by simp only [beq_eq_false_iff_ne]; omega
  have h1 : (k : Int) + 1 - 1 = k := by omega
  have h2 : (k : Int) < (k : Int) + 1 := by omega
  have h3 : ((k : Int) ≤ (c : Int)) := by omega
  replace hk := Lib.hid hk
  go_enter Tryd.func35, Tryd.ntmps35
  go_wp2_with (first
        | ((with_reducible apply wp_region_sl (G := emp) (id := 3) hs 1000); (focus (exact ent_emp_l)); (focus kernel_rfl); (focus decide +kernel); clear hs; (try clear w); intro hR w hRR hs; (try simp only [star_assoc] at hs))
        | ((with_reducible apply mix_end hRR hs); (focus with_reducible (repeat (first | exact ent_here | apply ent_next | exact ent_last)); done); clear hs; (try clear w); intro w hs; (try simp only [star_assoc, star_emp, emp_star] at hs); clear hRR hR)
        | ((with_reducible apply mx_load1 hRR); (focus (simp only [Act.eval, za, zb, zc, zd, ze, zf]; (try with_reducible rfl); done)); (focus (simp only [go_sem])); (focus ((repeat (first | (with_reducible (first | assumption | exact hec _ | exact hec2 _ | exact hec3 _ | exact hec4 _ _)) | ((with_reducible apply readc_here); (focus (first | (simp only [zc, zd, ze, go_sem]; (try with_reducible rfl); done) | (go_simp; (try with_reducible rfl); done)))) | (with_reducible (first | (apply readc_left; assumption) | refine readc_exh (by assumption) ?_ | refine readc_exh0 (by assumption) ?_ | apply readc_next)))); done)); simp only [Act.put, zg, zh, zi])
        | ((with_reducible refine mix_float ?_ ?_ ?_ (fun h hk => ?_) ?_); rotate_left 1; (focus rfl); (focus rfl); (focus (go_simp; (try (rw [if_pos (by omega)]; (try go_simp))); (try simp (disch := omega) only [IntWalk.i64_in, IntWalk.i32_in]); (try with_reducible rfl); done)); simp only [Act.put, zg, zh, zi]))
  (go_ret3; simp only [za, zb, zc, zd, ze, zf])
  exact ⟨_, rfl, hs.mono (ent_pu rfl (by ((repeat (first | (with_reducible (first | exact ent_refl | exact ent_emp)) | ((with_reducible apply ent_front); (focus with_reducible (repeat (first | exact ent_here | apply ent_next | exact ent_last)); done)) | (with_reducible (first | exact ent_keep | apply ent_trans ent_drop)))); done)))⟩
end Go.Proofs.YtflibhphpnajeaaDoor
