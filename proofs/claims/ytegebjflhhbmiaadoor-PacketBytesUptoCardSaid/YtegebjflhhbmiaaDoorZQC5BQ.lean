/- Rows of acts: lent, held intact, spoilt. -/
import Derived.Test.YtegebjflhhbmiaaDoorZQC5BG
import Derived.Test.YtegebjflhhbmiaaDoorZQC5BM
set_option linter.unusedSimpArgs false
set_option linter.unusedVariables false
namespace Go.Proofs.YtegebjflhhbmiaaDoor
open Go Go.RowKit

abbrev mkA (i : Int) : ActD := ⟨op0, -7 - i, clk0⟩
theorem actvEq_refl (a : ActD) : actvEq a a = true := by
  unfold actvEq
  rw [opvEq_refl, clkEq_refl]
  simp
theorem actsEq_same (l : List ActD) : actsEq l l = true := by
  unfold actsEq
  rw [decide_eq_true rfl, Bool.true_and]
  exact List.all_eq_true.2 fun i _ => actvEq_refl _

set_option maxRecDepth 20000 in
theorem kact_s (c0 : World) (F : HP) (i : Int) : Spec Tryd.prog c0 54 #[.int .i64 i] (pu (0 ≤ i ∧ i < 1000) F) (fun v => pu (v = .agg (actv (mkA i))) F) := by
  intro w hq; obtain ⟨⟨h0, h9⟩, hs⟩ := hq.pu; clear hq
  go_enter Tryd.func54, Tryd.ntmps54
  go_wp2_with (first
        | ((with_reducible apply pl_build hs); (focus (simp only [zj, zk, zl, Act.eval, za, zb, zc, zd, ze, zf]; (try with_reducible rfl); done)); (first | (with_reducible exact bld_10 _)); (focus rfl); simp only [Act.put, zg, zh, zi])
        | ((with_reducible apply pl_alloc hs); (with_reducible (first | exact zero_78)); clear hs; (try clear w); intro g w hs; skip; simp only [Act.put, zg, zh, zi])
        | ((with_reducible apply pl_storeN hs); (focus (simp only [Act.eval, za, zb, zc, zd, ze, zf]; (try with_reducible rfl); done)); (focus (simp only [Act.eval, za, zb, zc, zd, ze, zf]; (try with_reducible rfl); done)); (with_reducible (first | exact agg_78)); (focus with_reducible (repeat (first | exact ent_here | apply ent_next | exact ent_last)); done); (focus (first | (with_reducible rfl) | (simp only [go_sem]; done) | (simp; done))); (focus (first | (simp [go_sem]; done) | (simp only [go_sem]; omega) | go_size)); (focus (first | (simp only [go_sem]; done) | (simp [go_sem]; done))); (focus (first | ((with_reducible apply splice_whole); (focus (first | (with_reducible rfl) | (simp only [go_sem]; done) | (simp; done)))) | (simp [splice, go_sem]; done) | (simp only [go_sem]; (try with_reducible rfl); done))); clear hs; (try clear w); intro w hs; (try simp only [zg, zh, zi, clk_set, opv_s0, opv_s1, opv_s2, opv_s3, actv_s0, actv_s1, actv_s2, actv_s3, actv_s4, rnd_s0, rnd_s17, lnk_s0, lnk_s1, lnk_s2, nov_s0, nov_s1, nov_s2, intv_set, bytv_set] at hs); simp only [Act.put, zg, zh, zi]))
  exact ret_cell (n := 13) rfl Tryd.underlying78 rfl (by kernel_rfl) _ rfl _ ((by (focus ((repeat (first | (with_reducible (first | assumption | exact hel _ | exact hel2 _ | exact hel3 _)) | ((with_reducible apply reads_whole); (focus (first | (with_reducible rfl) | (simp only [go_sem]; done) | (simp; done)))) | ((with_reducible apply reads_part); (focus (first | (simp [go_sem]; done) | (simp only [go_sem]; omega) | go_size)); (focus (first | (simp only [Nat.reduceAdd, Nat.zero_add, go_sem]; (try with_reducible rfl); done) | (simp [go_sem]; (try with_reducible rfl); done)))) | (with_reducible (first | (apply reads_left; assumption) | refine reads_exh (by assumption) ?_ | refine reads_exh0 (by assumption) ?_ | apply reads_next)))); done)) : Reads _ _ 0 13 (actv (mkA i))) w hs.own) rfl ⟨_, rfl, hs.mono (ent_pu rfl (by ((repeat (first | (with_reducible (first | exact ent_refl | exact ent_emp)) | ((with_reducible apply ent_front); (focus with_reducible (repeat (first | exact ent_here | apply ent_next | exact ent_last)); done)) | (with_reducible (first | exact ent_keep | apply ent_trans ent_drop)))); done)))⟩
def marks : List ActD := [mkA 0, mkA 1, mkA 2, mkA 3]
def marksTo (k : Nat) : List ActD := (List.range k).map fun (i : Nat) => mkA (i : Int)
theorem marksTo_succ (k : Nat) : marksTo (k + 1) = marksTo k ++ [mkA (k : Int)] := by simp [marksTo, List.range_succ]
theorem marksTo_length (k : Nat) : (marksTo k).length = k := by simp [marksTo]
theorem marks_len (l : List ActD) : (l ++ marks).length = l.length + 4 := by simp [marks]
/-- What is lentA. -/
def lentA (g c : Nat) (l : List ActD) : HP := row 78 13 actv (.slice (some ⟨g, 0, none⟩) (l.length + 4) c) (l ++ marks)
set_option maxHeartbeats 400000 in
theorem lendA_s (c0 : World) (F : HP) (v : Value) (l : List ActD) : Spec Tryd.prog c0 19 #[v] (pu (SlR F 13 actv v l ∧ l.length ≤ 60) F) (fun r => ex fun g => ex fun c => pu (r = .slice (some ⟨g, 0, none⟩) l.length c) (lentA g c l * F)) := by
  intro w hq; obtain ⟨⟨hsl, h40⟩, hs⟩ := hq.pu; clear hq
  obtain ⟨A, c, rfl⟩ := slr_form hsl hs.own
  go_enter Tryd.func19, Tryd.ntmps19
  go_wp2_with (first
        | ((with_reducible apply pl_bs0r hs); (with_reducible (first | exact app_24)); clear hs; (try clear w); intro g w hs; skip; simp only [Act.put, zg, zh, zi])
        | ((with_reducible apply pl_appendN hs); (with_reducible (first | exact app_24 | exact app_32 | exact app_45 | exact app_46 | exact app_47 | exact app_122)); (focus (simp only [Act.eval, za, zb, zc, zd, ze, zf]; (try with_reducible rfl); done)); (first | (focus with_reducible (repeat (first | exact ent_here | apply ent_next | exact ent_last)); done) | (focus (with_reducible exact ent_row_nil)) | (focus ((with_reducible apply ent_row_of_blk); (focus with_reducible (repeat (first | exact ent_here | apply ent_next | exact ent_last)); done); (focus (simp only [go_sem]))))); (focus (simp only [Act.eval, za, zb, zc, zd, ze, zf]; (try with_reducible rfl); done)); (focus (first | ((repeat (first | (with_reducible (first | assumption | exact slr_ro |  exact hsl _ | exact hsl2 _ | exact hsl3 _ _ _ | exact slr_nil | exact slr_row (fun _ => by simp only [go_sem]) | exact slr_one (fun _ => by simp only [go_sem]) | (apply slr_left; assumption))) | (with_reducible apply slr_next))); done) | ((repeat (first | (with_reducible (first | assumption | exact slr_ro |  exact hsl _ | exact hsl2 _ | exact hsl3 _ _ _ | exact slr_nil | exact slr_row (fun _ => by simp only [go_sem]) | exact slr_one (fun _ => by simp only [go_sem]) | (apply slr_left; assumption))) | (with_reducible (first | (apply slr_exh; focus assumption) | (apply slr_exh0; focus assumption) | apply slr_next)))); done))); (focus (first | (simp only [maxLen] at *; omega) | (simp [maxLen] at *; omega))); (focus (first | (simp only [maxLen] at *; omega) | (simp [maxLen] at *; omega))); clear hs; (try clear w); intro Ap cq w hs; (try simp only [List.length_nil, Nat.zero_add, List.nil_append] at hs ⊢); simp only [Act.put, zg, zh, zi]))
  go_loopw [3, 4] (fun out i wr => ∃ k : Nat, k ≤ 4 ∧ i = .int .i64 k ∧ Sat c0 (row 78 13 actv out (l ++ marksTo k) * F) wr) (fun _ i _ => 4 - (intOf i).toNat)
  case atStart => exact ⟨0, by omega, rfl, by simpa [marksTo] using hs⟩
  case round =>
    obtain ⟨k, hk, rfl, hs⟩ := hrel
    have hlen : (l ++ marksTo k).length ≤ 64 := by simp [marksTo_length]; omega
    by_cases hlt : k < 4
    · go_wp2_with (first
        | ((with_reducible apply pl_call hs (kact_s _ _ _)); (go_must (((focus (simp only [zj, zk, zl, List.append_toArray, List.nil_append, List.cons_append, Act.eval, za, zb, zc, zd, ze, zf]; (try with_reducible rfl); done)); (focus ((repeat (first | (with_reducible (first | exact ent_refl | apply ent_puR)) | ((with_reducible apply ent_front); (focus with_reducible (repeat (first | exact ent_here | apply ent_next | exact ent_last)); done)) | (with_reducible (first | exact ent_keep | apply ent_trans ent_drop)) | (focus (first | ((repeat' (first | (with_reducible apply And.intro) | omega)); done))))); done)); (focus (simp only [go_sem]))))); clear hs; (try clear w); intro v w hq; (obtain ⟨rfl, hs⟩ := hq.pu); clear hq; (try simp only [star_assoc, star_emp, emp_star] at hs); (try simp only [Act.put, zg, zh, zi]))
        | ((with_reducible apply pl_bs1 hs); (with_reducible (first | exact bst_24)); (focus (simp only [Act.eval, za, zb, zc, zd, ze, zf]; (try with_reducible rfl); done)); (focus (first | (with_reducible (first | exact cells_intv _ | exact cells_bytv _ | exact cells_agg _ | exact cells_int _ _ | exact cells_bool _ | exact cells_string _ | exact cells_slice _ _ _ | exact cells_pointer _ | exact cells_map _ | exact cells_iface _ _ | exact cells_nilIface | exact cells_func _ _ _)) | (exact cells_one (by assumption)))); (focus (first | (with_reducible rfl) | (simp only [go_sem]; done) | (simp; done))); clear hs; (try clear w); intro g w hs; skip; simp only [Act.put, zg, zh, zi])
        | ((with_reducible apply pl_append1 hs); (with_reducible (first | exact app_24 | exact app_32 | exact app_45 | exact app_46 | exact app_47 | exact app_122)); (focus (simp only [Act.eval, za, zb, zc, zd, ze, zf]; (try with_reducible rfl); done)); (first | (focus with_reducible (repeat (first | exact ent_here | apply ent_next | exact ent_last)); done) | (focus (with_reducible exact ent_row_nil)) | (focus ((with_reducible apply ent_row_of_blk); (focus with_reducible (repeat (first | exact ent_here | apply ent_next | exact ent_last)); done); (focus (simp only [go_sem]))))); (focus (simp only [Act.eval, za, zb, zc, zd, ze, zf]; (try with_reducible rfl); done)); (focus ((repeat (first | (with_reducible (first | assumption | exact hel _ | exact hel2 _ | exact hel3 _)) | ((with_reducible apply reads_whole); (focus (first | (with_reducible rfl) | (simp only [go_sem]; done) | (simp; done)))) | ((with_reducible apply reads_part); (focus (first | (simp [go_sem]; done) | (simp only [go_sem]; omega) | go_size)); (focus (first | (simp only [Nat.reduceAdd, Nat.zero_add, go_sem]; (try with_reducible rfl); done) | (simp [go_sem]; (try with_reducible rfl); done)))) | (with_reducible (first | (apply reads_left; assumption) | refine reads_exh (by assumption) ?_ | refine reads_exh0 (by assumption) ?_ | apply reads_next)))); done)); (focus (first | (simp only [maxLen] at *; omega) | (simp [maxLen] at *; omega))); (focus (first | (simp only [maxLen] at *; omega) | (simp [maxLen] at *; omega))); clear hs; (try clear w); intro Ap cq w hs; skip; simp only [Act.put, zg, zh, zi]))
      go_roundw
      case rel => exact ⟨k + 1, by omega, by go_num, by rw [marksTo_succ, ← List.append_assoc]; exact hs.mono (by ((repeat (first | (with_reducible (first | exact ent_refl | exact ent_emp)) | ((with_reducible apply ent_front); (focus with_reducible (repeat (first | exact ent_here | apply ent_next | exact ent_last)); done)) | (with_reducible (first | exact ent_keep | apply ent_trans ent_drop)))); done))⟩
      case measure => simp [intOf]; omega
    · obtain rfl : k = 4 := by omega
      rcases row_form hs.own with ⟨_, hnil⟩ | ⟨g, cap, rfl, h1, h2⟩
      · exact absurd hnil (by simp [marksTo])
      · have hll : (l ++ marksTo 4).length = l.length + 4 := by simp [marksTo_length]
        rw [hll] at hs h1 ⊢
        have hs : Sat c0 (lentA g cap l * F) wr := hs
        unfold maxLen at h2
        go_wp2_with fail
        go_ret
        exact ⟨_, rfl, hs.mono (ent_ex _ (ent_ex _ (ent_pu rfl (by ((repeat (first | (with_reducible (first | exact ent_refl | exact ent_emp)) | ((with_reducible apply ent_front); (focus with_reducible (repeat (first | exact ent_here | apply ent_next | exact ent_last)); done)) | (with_reducible (first | exact ent_keep | apply ent_trans ent_drop)))); done)))))⟩

theorem slr_lentA {g c : Nat} {l : List ActD} {R : HP} : SlR (lentA g c l * R) 13 actv (.slice (some ⟨g, 0, none⟩) l.length c) l := by
  unfold lentA
  exact slr_row_take actv_size (by omega) (by simp)
theorem marks_at (l : List ActD) (k : Nat) (h : k < 4) : (l ++ marks)[l.length + k]? = some (mkA (k : Int)) := by
  rw [List.getElem?_append_right (by omega)]
  match k, h with
  | 0, _ => simp [marks]
  | 1, _ => simp [marks]
  | 2, _ => simp [marks]
  | 3, _ => simp [marks]
set_option maxHeartbeats 800000 in
set_option maxRecDepth 20000 in
theorem intactA_s (c0 : World) (F : HP) (v : Value) (l : List ActD) (g c : Nat) : Spec Tryd.prog c0 21 #[.slice (some ⟨g, 0, none⟩) l.length c, v] (pu (SlR F 13 actv v l ∧ l.length ≤ 60) (lentA g c l * F)) (fun r => pu (r = .bool true) F) := by
  intro w hq; obtain ⟨⟨hsl, h40⟩, hs⟩ := hq.pu; clear hq
  unfold lentA at hs
  obtain ⟨hx, hc1, hc2⟩ := row_len hs.own
  clear hx
  obtain ⟨A, cp, rfl⟩ := slr_form hsl (hs.own.mono (by ((repeat (first | (with_reducible (first | exact ent_refl | exact ent_emp)) | ((with_reducible apply ent_front); (focus with_reducible (repeat (first | exact ent_here | apply ent_next | exact ent_last)); done)) | (with_reducible (first | exact ent_keep | apply ent_trans ent_drop)))); done)))
  have hel0 := marks_at l
  have htk : (l ++ marks).take l.length = l := by simp
  have hml := marks_len l
  generalize hM : l ++ marks = M at *
  generalize hn : l.length = n at *
  replace hn := Lib.hid hn
  replace hml := Lib.hid hml
  replace htk := Lib.hid htk
  unfold maxLen at hc2
  clear hM
  have hsl2 : ∀ R, SlR (row 78 13 actv (.slice (some ⟨g, 0, none⟩) (n + 4) c) M * R) 13 actv (.slice (some ⟨g, 0, none⟩) n c) l := fun R => slr_row_take actv_size (by omega) htk.out
  replace hel0 := Lib.hid hel0
  go_enter Tryd.func21, Tryd.ntmps21
  go_wp2_with (first
        | ((with_reducible apply pl_call hs (actsK_s _ _ _ _ l l)); (go_must (((focus (simp only [zj, zk, zl, List.append_toArray, List.nil_append, List.cons_append, Act.eval, za, zb, zc, zd, ze, zf]; (try with_reducible rfl); done)); (focus ((repeat (first | (with_reducible (first | exact ent_refl | apply ent_puR)) | ((with_reducible apply ent_front); (focus with_reducible (repeat (first | exact ent_here | apply ent_next | exact ent_last)); done)) | (with_reducible (first | exact ent_keep | apply ent_trans ent_drop)) | (focus (first | ((repeat' (first | (with_reducible apply And.intro) | (focus (first | ((repeat (first | (with_reducible (first | assumption | exact slr_ro |  exact hsl _ | exact hsl2 _ | exact hsl3 _ _ _ | exact slr_nil | exact slr_row (fun _ => by simp only [go_sem]) | exact slr_one (fun _ => by simp only [go_sem]) | (apply slr_left; assumption))) | (with_reducible apply slr_next))); done) | ((repeat (first | (with_reducible (first | assumption | exact slr_ro |  exact hsl _ | exact hsl2 _ | exact hsl3 _ _ _ | exact slr_nil | exact slr_row (fun _ => by simp only [go_sem]) | exact slr_one (fun _ => by simp only [go_sem]) | (apply slr_left; assumption))) | (with_reducible (first | (apply slr_exh; focus assumption) | (apply slr_exh0; focus assumption) | apply slr_next)))); done))))); done))))); done)); (focus (simp only [go_sem]))))); clear hs; (try clear w); intro v w hq; (obtain ⟨hv, hs⟩ := hq.pu; rw [actsEq_same] at hv; subst hv); clear hq; (try simp only [star_assoc, star_emp, emp_star] at hs); (try simp only [Act.put, zg, zh, zi])))
  go_loopw [6, 7] (fun u i wr => ∃ k : Nat, k ≤ 4 ∧ i = .int .i64 k ∧ u = .bool true ∧ Sat c0 (row 78 13 actv (.slice (some ⟨g, 0, none⟩) (n + 4) c) M * F) wr) (fun _ i _ => 4 - (intOf i).toNat)
  case atStart => exact ⟨0, by omega, rfl, rfl, hs⟩
  case round =>
    obtain ⟨k, hk, rfl, rfl, hs⟩ := hrel
    by_cases hlt : k < 4
    · have hel : ∀ R, Reads (row 78 13 actv (.slice (some ⟨g, 0, none⟩) (n + 4) c) M * R) g ((n + k) * 13) 13 (actv (mkA k)) := fun R => reads_row actv_size (hel0.out k hlt)
      have hee := actvEq_refl (mkA k)
      have hx1 : (0 : Int) ≤ (n : Int) + (k : Int) := by omega
      have hx2 : ((n : Int) + (k : Int)).toNat = n + k := by omega
      have hx3 : ((n : Int) + (k : Int) < (n : Int) + 4) := by omega
      go_wp2_with (first
        | ((with_reducible apply wp_region_sl (G := emp) (id := 6) hs 1000); (focus (exact ent_emp_l)); (focus kernel_rfl); (focus decide +kernel); clear hs; (try clear w); intro hR w hRR hs; (try simp only [star_assoc] at hs))
        | ((with_reducible apply mx_call hs (kact_s _ _ _)); (go_must (((focus (simp only [zj, zk, zl, List.append_toArray, List.nil_append, List.cons_append, Act.eval, za, zb, zc, zd, ze, zf]; (try with_reducible rfl); done)); (focus ((repeat (first | (with_reducible (first | exact ent_refl | apply ent_puR)) | ((with_reducible apply ent_front); (focus with_reducible (repeat (first | exact ent_here | apply ent_next | exact ent_last)); done)) | (with_reducible (first | exact ent_keep | apply ent_trans ent_drop)) | (focus (first | ((repeat' (first | (with_reducible apply And.intro) | omega)); done))))); done)); (focus (simp only [go_sem])); (focus (intros; with_reducible (refine in_of_sat (by assumption) ?_; repeat (first | exact ent_exh_here | exact ent_last | refine ent_pu_l (fun _ => ?_) | refine ent_ex_l (fun _ => ?_) | apply ent_exh_next)); done))))); clear hs; (try clear w); intro v w hq; (obtain ⟨rfl, hs⟩ := hq.pu); clear hq; (try simp only [star_assoc, star_emp, emp_star] at hs); (try simp only [Act.put, zg, zh, zi]))
        | ((with_reducible apply mix_end hRR hs); (focus with_reducible (repeat (first | exact ent_here | apply ent_next | exact ent_last)); done); clear hs; (try clear w); intro w hs; (try simp only [star_assoc, star_emp, emp_star] at hs); clear hRR hR)
        | ((with_reducible apply mx_strike); (focus rfl))
        | ((with_reducible apply mx_loadN hRR); (focus (simp only [Act.eval, za, zb, zc, zd, ze, zf]; (try with_reducible rfl); done)); (with_reducible (first | exact agg_78)); (focus ((repeat (first | (with_reducible (first | assumption | exact hel _ | exact hel2 _ | exact hel3 _)) | ((with_reducible apply reads_whole); (focus (first | (with_reducible rfl) | (simp only [go_sem]; done) | (simp; done)))) | ((with_reducible apply reads_part); (focus (first | (simp [go_sem]; done) | (simp only [go_sem]; omega) | go_size)); (focus (first | (simp only [Nat.reduceAdd, Nat.zero_add, go_sem]; (try with_reducible rfl); done) | (simp [go_sem]; (try with_reducible rfl); done)))) | (with_reducible (first | (apply reads_left; assumption) | refine reads_exh (by assumption) ?_ | refine reads_exh0 (by assumption) ?_ | apply reads_next)))); done)); simp only [Act.put, zg, zh, zi])
        | ((with_reducible refine mix_float ?_ ?_ ?_ (fun h hk => ?_) ?_); rotate_left 1; (focus rfl); (focus rfl); (focus (go_simp; (try (rw [if_pos (by omega)]; (try go_simp))); (try simp (disch := omega) only [IntWalk.i64_in, IntWalk.i32_in]); (try with_reducible rfl); done)); simp only [Act.put, zg, zh, zi]))
      go_roundw
      case rel => exact ⟨k + 1, by omega, by go_num, rfl, hs.mono (by ((repeat (first | (with_reducible (first | exact ent_refl | exact ent_emp)) | ((with_reducible apply ent_front); (focus with_reducible (repeat (first | exact ent_here | apply ent_next | exact ent_last)); done)) | (with_reducible (first | exact ent_keep | apply ent_trans ent_drop)))); done))⟩
      case measure => simp [intOf]; omega
    · go_wp2_with fail
      go_loopw [8] (fun i wr => ∃ (k : Nat) (M' : List ActD), k ≤ n + 4 ∧ i = .int .i64 k ∧ Hid (M'.length = n + 4) ∧ Sat c0 (row 78 13 actv (.slice (some ⟨g, 0, none⟩) (n + 4) c) M' * F) wr) (fun i _ => n + 4 - (intOf i).toNat)
      case atStart => exact ⟨0, M, by omega, rfl, hml, hs⟩
      case round =>
        obtain ⟨k2, M', hk2, rfl, hM', hs⟩ := hrel
        by_cases hlt2 : k2 < n + 4
        · have hkl : k2 < M'.length := by rw [hM'.out]; exact hlt2
          go_wp2_with (first
        | ((with_reducible apply pl_call hs (kact_s _ _ _)); (go_must (((focus (simp only [zj, zk, zl, List.append_toArray, List.nil_append, List.cons_append, Act.eval, za, zb, zc, zd, ze, zf]; (try with_reducible rfl); done)); (focus ((repeat (first | (with_reducible (first | exact ent_refl | apply ent_puR)) | ((with_reducible apply ent_front); (focus with_reducible (repeat (first | exact ent_here | apply ent_next | exact ent_last)); done)) | (with_reducible (first | exact ent_keep | apply ent_trans ent_drop)) | (focus (first | ((repeat' (first | (with_reducible apply And.intro) | omega)); done))))); done)); (focus (simp only [go_sem]))))); clear hs; (try clear w); intro v w hq; (obtain ⟨rfl, hs⟩ := hq.pu); clear hq; (try simp only [star_assoc, star_emp, emp_star] at hs); (try simp only [Act.put, zg, zh, zi]))
        | ((with_reducible apply pl_storeRow hs); (focus (simp only [Act.eval, za, zb, zc, zd, ze, zf]; (try with_reducible rfl); done)); (focus with_reducible (repeat (first | exact ent_here | apply ent_next | exact ent_last)); done); (focus (simp only [Act.eval, za, zb, zc, zd, ze, zf]; (try with_reducible rfl); done)); (with_reducible (first | exact agg_78)); (focus (first | (with_reducible rfl) | (simp; done))); (focus (first | omega | (simp [go_sem]; omega) | (simp only [go_sem]; omega))); (focus (intro _; simp only [go_sem])); (focus (intro _; simp only [go_sem])); clear hs; (try clear w); intro w hs; skip; simp only [Act.put, zg, zh, zi]))
          go_roundw
          case rel => exact ⟨k2 + 1, _, by omega, by go_num, (by unfold Hid; rw [List.length_set]; exact hM'.out), hs⟩
          case measure => simp [intOf]; omega
        · go_wp2_with fail
          (go_ret; simp only [za, zb, zc, zd, ze, zf])
          exact ⟨_, rfl, hs.mono (ent_pu rfl (by ((repeat (first | (with_reducible (first | exact ent_refl | exact ent_emp)) | ((with_reducible apply ent_front); (focus with_reducible (repeat (first | exact ent_here | apply ent_next | exact ent_last)); done)) | (with_reducible (first | exact ent_keep | apply ent_trans ent_drop)))); done)))⟩
end Go.Proofs.YtegebjflhhbmiaaDoor
