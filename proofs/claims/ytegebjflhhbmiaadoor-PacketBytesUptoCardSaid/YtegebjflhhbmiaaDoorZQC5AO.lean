/- What is right, by the document. -/
import Derived.Test.YtegebjflhhbmiaaDoorZQC5AN
set_option linter.unusedSimpArgs false
set_option linter.unusedVariables false
namespace Go.Proofs.YtegebjflhhbmiaaDoor
open Go Go.RowKit

set_option maxHeartbeats 4000000 in
theorem valid_s (c0 : World) (F : HP) (c : Nat → Int) : Spec Tryd.prog c0 44 #[.agg (clk c), .int .i64 8] F (fun v => pu (v = .bool (decide (okC c))) F) := by
  intro w hs
  go_enter Tryd.func44, Tryd.ntmps44
  go_wp2_with (first
        | ((with_reducible rewrite [pl_strike_eq]); rotate_left 1; (focus rfl))
        | ((with_reducible apply pl_box hs); (focus (simp only [Act.eval, za, zb, zc, zd, ze, zf]; (try with_reducible rfl); done)); (focus (first | (with_reducible (first | exact cells_intv _ | exact cells_bytv _ | exact cells_agg _ | exact cells_int _ _ | exact cells_bool _ | exact cells_string _ | exact cells_slice _ _ _ | exact cells_pointer _ | exact cells_map _ | exact cells_iface _ _ | exact cells_nilIface | exact cells_func _ _ _)) | (exact cells_one (by assumption)))); clear hs; (try clear w); intro g w hs; skip; simp only [Act.put, zg, zh, zi]))
  obtain ⟨H1, hH1, hq⟩ := Sat.name hs; clear hs; have hs := hq; clear hq
  go_loopw [5] (fun i wr => ∃ k : Nat, k ≤ 8 ∧ (∀ j, j < k → 0 ≤ c j) ∧ i = .int .i64 k ∧ Sat c0 H1 wr) (fun i _ => 8 - (intOf i).toNat)
  case atStart => exact ⟨0, by omega, by omega, rfl, hs⟩
  case round =>
    obtain ⟨k, hk, hall, rfl, hs⟩ := hrel
    replace hall := Lib.hid hall
    subst hH1
    by_cases hlt : k < 8
    · have hnk : ¬ (8 : Int) ≤ k := by omega
      go_wp2_with (first
        | ((with_reducible apply pl_guard_f); (focus rfl); (focus rfl); all_goals (intro hb; first | (cases hb; done) | ((try simp at hb); first | contradiction | ((have hF : False := (by omega)); (cases hF; done)) | (simp only [Act.put, zg, zh, zi]))))
        | ((with_reducible apply pl_load1 hs); (focus (simp only [Act.eval, za, zb, zc, zd, ze, zf]; (try with_reducible rfl); done)); (focus (simp only [go_sem])); (focus ((repeat (first | (with_reducible (first | assumption | exact hec _ | exact hec2 _ | exact hec3 _ | exact hec4 _ _)) | ((with_reducible apply readc_here); (focus (first | (simp only [zc, zd, ze, go_sem]; (try with_reducible rfl); done) | (go_simp; (try with_reducible rfl); done)))) | (with_reducible (first | (apply readc_left; assumption) | refine readc_exh (by assumption) ?_ | refine readc_exh0 (by assumption) ?_ | apply readc_next)))); done)); (focus rfl); simp only [Act.put, zg, zh, zi]))
      · exact ⟨⟨k + 1, by omega, fun j hj => by
          rcases Nat.lt_or_eq_of_le (Nat.le_of_lt_succ hj) with h | h
          · exact hall.out j h
          · subst h; omega, by go_num, hs⟩, by simp [intOf]; omega⟩
      · go_ret
        exact ⟨_, rfl, hs.mono (ent_pu (congrArg Value.bool (decide_eq_false (fun h : okC c => by have := h k hlt; omega)).symm) (by ((repeat (first | (with_reducible (first | exact ent_refl | exact ent_emp)) | ((with_reducible apply ent_front); (focus with_reducible (repeat (first | exact ent_here | apply ent_next | exact ent_last)); done)) | (with_reducible (first | exact ent_keep | apply ent_trans ent_drop)))); done)))⟩
    · go_wp2_with fail
      go_ret
      exact ⟨_, rfl, hs.mono (ent_pu (congrArg Value.bool (decide_eq_true (fun i hi => hall.out i (by omega))).symm) (by ((repeat (first | (with_reducible (first | exact ent_refl | exact ent_emp)) | ((with_reducible apply ent_front); (focus with_reducible (repeat (first | exact ent_here | apply ent_next | exact ent_last)); done)) | (with_reducible (first | exact ent_keep | apply ent_trans ent_drop)))); done)))⟩
set_option maxHeartbeats 4000000 in
theorem rightAct_s (c0 : World) (F : HP) (a : ActD) : Spec Tryd.prog c0 47 #[.agg (actv a)] F (fun v => pu (v = .bool (okA a)) F) := by
  intro w hs
  have hA : okA a = true ↔ ((1 ≤ a.op.kind ∧ a.op.kind ≤ 3) ∧ (0 ≤ a.op.rep ∧ a.op.rep ≤ 7) ∧ 0 ≤ a.op.pl ∧ (a.op.kind = 1 → 0 ≤ a.op.char ∧ a.op.char ≤ 1114111) ∧ (a.op.kind ≠ 1 → a.op.char = 0)) ∧ 1 ≤ a.num ∧ okC a.clock := by
    unfold okA
    simp only [Bool.and_eq_true, decide_eq_true_eq, okOp_iff]
  replace hA := Lib.hid hA
  go_enter Tryd.func47, Tryd.ntmps47
  go_wp2_with (first
        | ((with_reducible rewrite [pl_strike_eq]); rotate_left 1; (focus rfl))
        | ((with_reducible rewrite [pl_skip_eq]); rotate_left 1; (focus rfl); simp only [Act.put, zg, zh, zi])
        | ((with_reducible apply pl_guard_t); (focus rfl); (focus rfl); all_goals (intro hb; first | (cases hb; done) | ((try simp at hb); first | contradiction | ((have hF : False := (by omega)); (cases hF; done)) | (simp only [Act.put, zg, zh, zi]))))
        | ((with_reducible apply pl_guard_f); (focus rfl); (focus rfl); all_goals (intro hb; first | (cases hb; done) | ((try simp at hb); first | contradiction | ((have hF : False := (by omega)); (cases hF; done)) | (simp only [Act.put, zg, zh, zi]))))
        | ((with_reducible apply pl_call hs (valid_s _ _ _)); (go_must (((focus (simp only [zj, zk, zl, List.append_toArray, List.nil_append, List.cons_append, Act.eval, za, zb, zc, zd, ze, zf]; (try with_reducible rfl); done)); (focus ((repeat (first | (with_reducible (first | exact ent_refl | apply ent_puR)) | ((with_reducible apply ent_front); (focus with_reducible (repeat (first | exact ent_here | apply ent_next | exact ent_last)); done)) | (with_reducible (first | exact ent_keep | apply ent_trans ent_drop)) | (fail))); done)); (focus (simp only [go_sem]))))); clear hs; (try clear w); intro v w hq; (obtain ⟨rfl, hs⟩ := hq.pu); clear hq; (try simp only [star_assoc, star_emp, emp_star] at hs); (try simp only [Act.put, zg, zh, zi]))
        | ((with_reducible apply pl_loadN hs); (focus (simp only [Act.eval, za, zb, zc, zd, ze, zf]; (try with_reducible rfl); done)); (with_reducible (first | exact agg_23 | exact agg_76)); (focus ((repeat (first | (with_reducible (first | assumption | exact hel _ | exact hel2 _ | exact hel3 _)) | ((with_reducible apply reads_whole); (focus (first | (with_reducible rfl) | (simp only [go_sem]; done) | (simp; done)))) | ((with_reducible apply reads_part); (focus (first | (simp [go_sem]; done) | (simp only [go_sem]; omega) | go_size)); (focus (first | (simp only [Nat.reduceAdd, Nat.zero_add, go_sem]; (try with_reducible rfl); done) | (simp [go_sem]; (try with_reducible rfl); done)))) | (with_reducible (first | (apply reads_left; assumption) | refine reads_exh (by assumption) ?_ | refine reads_exh0 (by assumption) ?_ | apply reads_next)))); done)); (focus rfl); simp only [Act.put, zg, zh, zi])
        | ((with_reducible apply pl_load1 hs); (focus (simp only [Act.eval, za, zb, zc, zd, ze, zf]; (try with_reducible rfl); done)); (focus (simp only [go_sem])); (focus ((repeat (first | (with_reducible (first | assumption | exact hec _ | exact hec2 _ | exact hec3 _ | exact hec4 _ _)) | ((with_reducible apply readc_here); (focus (first | (simp only [zc, zd, ze, go_sem]; (try with_reducible rfl); done) | (go_simp; (try with_reducible rfl); done)))) | (with_reducible (first | (apply readc_left; assumption) | refine readc_exh (by assumption) ?_ | refine readc_exh0 (by assumption) ?_ | apply readc_next)))); done)); (focus rfl); simp only [Act.put, zg, zh, zi])
        | ((with_reducible apply pl_alloc hs); (with_reducible (first | exact zero_76)); clear hs; (try clear w); intro g w hs; skip; simp only [Act.put, zg, zh, zi])
        | ((with_reducible apply pl_box hs); (focus (simp only [Act.eval, za, zb, zc, zd, ze, zf]; (try with_reducible rfl); done)); (focus (first | (with_reducible (first | exact cells_intv _ | exact cells_bytv _ | exact cells_agg _ | exact cells_int _ _ | exact cells_bool _ | exact cells_string _ | exact cells_slice _ _ _ | exact cells_pointer _ | exact cells_map _ | exact cells_iface _ _ | exact cells_nilIface | exact cells_func _ _ _)) | (exact cells_one (by assumption)))); clear hs; (try clear w); intro g w hs; skip; simp only [Act.put, zg, zh, zi])
        | ((with_reducible apply pl_storeN hs); (focus (simp only [Act.eval, za, zb, zc, zd, ze, zf]; (try with_reducible rfl); done)); (focus (simp only [Act.eval, za, zb, zc, zd, ze, zf]; (try with_reducible rfl); done)); (with_reducible (first | exact agg_76)); (focus with_reducible (repeat (first | exact ent_here | apply ent_next | exact ent_last)); done); (focus (first | (with_reducible rfl) | (simp only [go_sem]; done) | (simp; done))); (focus (first | (simp [go_sem]; done) | (simp only [go_sem]; omega) | go_size)); (focus (first | (simp only [go_sem]; done) | (simp [go_sem]; done))); (focus (first | ((with_reducible apply splice_whole); (focus (first | (with_reducible rfl) | (simp only [go_sem]; done) | (simp; done)))) | (simp [splice, go_sem]; done) | (simp only [go_sem]; (try with_reducible rfl); done))); clear hs; (try clear w); intro w hs; (try simp only [zg, zh, zi, clk_set, opv_s0, opv_s1, opv_s2, opv_s3, actv_s0, actv_s1, actv_s2, actv_s3, actv_s4, rnd_s0, rnd_s17, lnk_s0, lnk_s1, lnk_s2, nov_s0, nov_s1, nov_s2, intv_set, bytv_set] at hs); simp only [Act.put, zg, zh, zi]))
  all_goals go_ret
  all_goals first
    | exact ⟨_, rfl, hs.mono (ent_pu (congrArg Value.bool (Eq.symm (Bool.eq_false_iff.2 fun h => by
        obtain ⟨q1, q2, _⟩ := hA.out.1 h
        (try simp only [beq_iff_eq, beq_eq_false_iff_ne, ne_eq] at *)
        omega))) (by ((repeat (first | (with_reducible (first | exact ent_refl | exact ent_emp)) | ((with_reducible apply ent_front); (focus with_reducible (repeat (first | exact ent_here | apply ent_next | exact ent_last)); done)) | (with_reducible (first | exact ent_keep | apply ent_trans ent_drop)))); done)))⟩
    | exact ⟨_, rfl, hs.mono (ent_pu (congrArg Value.bool (by
        rw [Bool.eq_iff_iff, hA.out, decide_eq_true_eq]
        (try simp only [beq_iff_eq, beq_eq_false_iff_ne, ne_eq] at *)
        refine ⟨fun h => ⟨by omega, by omega, h⟩, fun h => h.2.2⟩)) (by ((repeat (first | (with_reducible (first | exact ent_refl | exact ent_emp)) | ((with_reducible apply ent_front); (focus with_reducible (repeat (first | exact ent_here | apply ent_next | exact ent_last)); done)) | (with_reducible (first | exact ent_keep | apply ent_trans ent_drop)))); done)))⟩
theorem okD_iff (r : RoundD) : okD r = true ↔ 0 ≤ r.num ∧ (r.num = 0 → rndEq r rnd0 = true) ∧ 0 ≤ r.dec ∧ r.dec ≤ 2 ∧ okC r.cut ∧ okV r.votes := by
  have hz : rndEq r rnd0 = true → r.num = 0 ∧ r.dec = 0 ∧ okC r.cut ∧ okV r.votes := fun h => by
    simp only [rndEq, rnd0, clkEq, clk0, Bool.and_eq_true, beq_iff_eq] at h
    obtain ⟨h0, ⟨a0, a1, a2, a3, a4, a5, a6, a7⟩, ⟨b0, b1, b2, b3, b4, b5, b6, b7⟩, h3⟩ := h
    have ha : ∀ i, i < 8 → r.cut i = 0 := fun i hi => by
      have : i = 0 ∨ i = 1 ∨ i = 2 ∨ i = 3 ∨ i = 4 ∨ i = 5 ∨ i = 6 ∨ i = 7 := by omega
      rcases this with rfl | rfl | rfl | rfl | rfl | rfl | rfl | rfl <;> assumption
    have hb : ∀ i, i < 8 → r.votes i = 0 := fun i hi => by
      have : i = 0 ∨ i = 1 ∨ i = 2 ∨ i = 3 ∨ i = 4 ∨ i = 5 ∨ i = 6 ∨ i = 7 := by omega
      rcases this with rfl | rfl | rfl | rfl | rfl | rfl | rfl | rfl <;> assumption
    exact ⟨h0, h3, fun i hi => by rw [ha i hi]; exact Int.le_refl _, fun i hi => by rw [hb i hi]; decide⟩
  unfold okD
  by_cases h : r.num ≤ 0
  · rw [if_pos h]
    constructor
    · intro h1
      obtain ⟨e0, e1, e2, e3⟩ := hz h1
      exact ⟨by omega, fun _ => h1, by omega, by omega, e2, e3⟩
    · rintro ⟨h1, h2, _⟩
      exact h2 (by omega)
  · rw [if_neg h]
    simp only [Bool.and_eq_true, decide_eq_true_eq]
    exact ⟨fun ⟨h1, h2, h3, h4⟩ => ⟨by omega, fun h0 => by omega, h3, h4, h2, h1⟩, fun ⟨_, _, h3, h4, h2, h1⟩ => ⟨h1, h2, h3, h4⟩⟩
set_option maxHeartbeats 4000000 in
theorem rightRounds_s (c0 : World) (F : HP) (f : Nat → RoundD) : Spec Tryd.prog c0 48 #[.agg (rnds f)] F (fun v => pu (v = .bool (okDs f)) F) := by
  intro w hs
  go_enter Tryd.func48, Tryd.ntmps48
  go_wp2_with (first
        | ((with_reducible apply pl_box hs); (focus (simp only [Act.eval, za, zb, zc, zd, ze, zf]; (try with_reducible rfl); done)); (focus (first | (with_reducible (first | exact cells_intv _ | exact cells_bytv _ | exact cells_agg _ | exact cells_int _ _ | exact cells_bool _ | exact cells_string _ | exact cells_slice _ _ _ | exact cells_pointer _ | exact cells_map _ | exact cells_iface _ _ | exact cells_nilIface | exact cells_func _ _ _)) | (exact cells_one (by assumption)))); clear hs; (try clear w); intro g w hs; skip; simp only [Act.put, zg, zh, zi]))
  (obtain ⟨gx, hgg⟩ : ∃ x, x = g := ⟨_, rfl⟩); subst hgg
  obtain ⟨H1, hH1, hq⟩ := Sat.name hs; clear hs; have hs := hq; clear hq
  go_loopw [3] (fun i wr => ∃ k : Nat, k ≤ 8 ∧ (∀ j, j < k → okD (f j) = true) ∧ i = .int .i64 k ∧ Sat c0 H1 wr) (fun i _ => 8 - (intOf i).toNat)
  case atStart => exact ⟨0, by omega, by omega, rfl, hs⟩
  case round =>
    obtain ⟨k, hk, hall, rfl, hs⟩ := hrel
    replace hall := Lib.hid hall
    subst hH1
    by_cases hlt : k < 8
    · have hel : ∀ R, Reads (blk gx (.cells (rnds f) 28 (0, 0)) * R) gx (k * 18) 18 (rnd (f k)) := fun R => reads_part (by rw [rnds_size]; omega) (rnds_extract f k hlt)
      have hfin : okD (f k) = false → okDs f = false := fun h => List.all_eq_false.2 ⟨k, List.mem_range.2 hlt, by simp [h]⟩
      have hgo : okD (f k) = true → ∀ j, j < k + 1 → okD (f j) = true := fun h j hj => by
        rcases Nat.lt_or_eq_of_le (Nat.le_of_lt_succ hj) with h1 | h1
        · exact hall.out j h1
        · subst h1; exact h
      generalize hr : f k = r at *
      have hD := okD_iff r
      replace hgo := Lib.hid hgo
      replace hfin := Lib.hid hfin
      replace hD := Lib.hid hD
      go_wp2_with (first
        | ((with_reducible rewrite [pl_strike_eq]); rotate_left 1; (focus rfl))
        | ((with_reducible rewrite [pl_skip_eq]); rotate_left 1; (focus rfl); simp only [Act.put, zg, zh, zi])
        | ((with_reducible apply pl_guard_t); (focus rfl); (focus rfl); all_goals (intro hb; first | (cases hb; done) | ((try simp at hb); first | contradiction | ((have hF : False := (by omega)); (cases hF; done)) | (simp only [Act.put, zg, zh, zi]))))
        | ((with_reducible apply pl_guard_f); (focus rfl); (focus rfl); all_goals (intro hb; first | (cases hb; done) | ((try simp at hb); first | contradiction | ((have hF : False := (by omega)); (cases hF; done)) | (simp only [Act.put, zg, zh, zi]))))
        | ((with_reducible apply pl_call hs (valid_s _ _ _)); (go_must (((focus (simp only [zj, zk, zl, List.append_toArray, List.nil_append, List.cons_append, Act.eval, za, zb, zc, zd, ze, zf]; (try with_reducible rfl); done)); (focus ((repeat (first | (with_reducible (first | exact ent_refl | apply ent_puR)) | ((with_reducible apply ent_front); (focus with_reducible (repeat (first | exact ent_here | apply ent_next | exact ent_last)); done)) | (with_reducible (first | exact ent_keep | apply ent_trans ent_drop)) | (fail))); done)); (focus (simp only [go_sem]))))); clear hs; (try clear w); intro v w hq; (obtain ⟨rfl, hs⟩ := hq.pu); clear hq; (try simp only [star_assoc, star_emp, emp_star] at hs); (try simp only [Act.put, zg, zh, zi]))
        | ((with_reducible apply pl_loadN hs); (focus (simp only [Act.eval, za, zb, zc, zd, ze, zf]; (try with_reducible rfl); done)); (with_reducible (first | exact agg_23 | exact agg_26)); (focus ((repeat (first | (with_reducible (first | assumption | exact hel _ | exact hel2 _ | exact hel3 _)) | ((with_reducible apply reads_whole); (focus (first | (with_reducible rfl) | (simp only [go_sem]; done) | (simp; done)))) | ((with_reducible apply reads_part); (focus (first | (simp [go_sem]; done) | (simp only [go_sem]; omega) | go_size)); (focus (first | (simp only [Nat.reduceAdd, Nat.zero_add, go_sem]; (try with_reducible rfl); done) | (simp [go_sem]; (try with_reducible rfl); done)))) | (with_reducible (first | (apply reads_left; assumption) | refine reads_exh (by assumption) ?_ | refine reads_exh0 (by assumption) ?_ | apply reads_next)))); done)); (focus rfl); simp only [Act.put, zg, zh, zi])
        | ((with_reducible apply pl_load1 hs); (focus (simp only [Act.eval, za, zb, zc, zd, ze, zf]; (try with_reducible rfl); done)); (focus (simp only [go_sem])); (focus ((repeat (first | (with_reducible (first | assumption | exact hec _ | exact hec2 _ | exact hec3 _ | exact hec4 _ _)) | ((with_reducible apply readc_here); (focus (first | (simp only [zc, zd, ze, go_sem]; (try with_reducible rfl); done) | (go_simp; (try with_reducible rfl); done)))) | (with_reducible (first | (apply readc_left; assumption) | refine readc_exh (by assumption) ?_ | refine readc_exh0 (by assumption) ?_ | apply readc_next)))); done)); (focus rfl); simp only [Act.put, zg, zh, zi])
        | ((with_reducible apply pl_build hs); (focus (simp only [zj, zk, zl, Act.eval, za, zb, zc, zd, ze, zf]; (try with_reducible rfl); done)); (first | (with_reducible exact bld_2)); (focus rfl); simp only [Act.put, zg, zh, zi])
        | ((with_reducible apply pl_alloc hs); (with_reducible (first | exact zero_26)); clear hs; (try clear w); intro g w hs; skip; simp only [Act.put, zg, zh, zi])
        | ((with_reducible apply pl_storeN hs); (focus (simp only [Act.eval, za, zb, zc, zd, ze, zf]; (try with_reducible rfl); done)); (focus (simp only [Act.eval, za, zb, zc, zd, ze, zf]; (try with_reducible rfl); done)); (with_reducible (first | exact agg_26)); (focus with_reducible (repeat (first | exact ent_here | apply ent_next | exact ent_last)); done); (focus (first | (with_reducible rfl) | (simp only [go_sem]; done) | (simp; done))); (focus (first | (simp [go_sem]; done) | (simp only [go_sem]; omega) | go_size)); (focus (first | (simp only [go_sem]; done) | (simp [go_sem]; done))); (focus (first | ((with_reducible apply splice_whole); (focus (first | (with_reducible rfl) | (simp only [go_sem]; done) | (simp; done)))) | (simp [splice, go_sem]; done) | (simp only [go_sem]; (try with_reducible rfl); done))); clear hs; (try clear w); intro w hs; (try simp only [zg, zh, zi, clk_set, opv_s0, opv_s1, opv_s2, opv_s3, actv_s0, actv_s1, actv_s2, actv_s3, actv_s4, rnd_s0, rnd_s17, lnk_s0, lnk_s1, lnk_s2, nov_s0, nov_s1, nov_s2, intv_set, bytv_set] at hs); simp only [Act.put, zg, zh, zi]))
      all_goals first
        | (go_ret
           exact ⟨_, rfl, hs.mono (ent_pu (congrArg Value.bool (hfin.out (Bool.eq_false_iff.2 fun h => by
             obtain ⟨q1, q2, q3, q4, q5, _⟩ := hD.out.1 h
             first
             | omega
             | (have hz := ‹(!decide (okC r.cut)) = true›; rw [decide_eq_true q5] at hz; cases hz)
             | (have hz := q2 (by assumption); rw [show rndEq r rnd0 = false by assumption] at hz; cases hz))).symm) (by ((repeat (first | (with_reducible (first | exact ent_refl | exact ent_emp)) | ((with_reducible apply ent_front); (focus with_reducible (repeat (first | exact ent_here | apply ent_next | exact ent_last)); done)) | (with_reducible (first | exact ent_keep | apply ent_trans ent_drop)))); done)))⟩)
        | skip
      all_goals (
        have hV : okD r = true ↔ okV r.votes := by
          rw [hD.out]
          have hc : okC r.cut := by simpa using ‹(!decide (okC r.cut)) = false›
          exact ⟨fun h => h.2.2.2.2.2, fun h => ⟨by omega, fun h0 => by first | assumption | omega, by omega, by omega, hc, h⟩⟩
        clear hD
        replace hV := Lib.hid hV
        (obtain ⟨gy, hgg⟩ : ∃ x, x = g := ⟨_, rfl⟩); subst hgg
        obtain ⟨H1, hH1, hq⟩ := Sat.name hs; clear hs; have hs := hq; clear hq
        rw [show (decide ((k : Int) < 8)) = true from decide_eq_true (by omega)]
        (try rw [show rndEq r _ = true by assumption])
        (try rw [show (!decide (okC r.cut)) = false by assumption])
        (try rw [decide_eq_false (show ¬ r.num < 0 by omega)])
        (try rw [show (r.num == 0) = true by simp; omega])
        (try rw [show (r.num == 0) = false by simp; omega])
        (try rw [show r.num = 0 by assumption])
        (try simp only [Bool.not_true])
        go_loopw [2, 5] (fun _ i wr => ∃ s : Nat, s ≤ 8 ∧ (∀ j, j < s → 0 ≤ r.votes j ∧ r.votes j ≤ 2) ∧ i = .int .i64 s ∧ Sat c0 H1 wr) (fun _ i _ => 8 - (intOf i).toNat)
        case atStart => exact ⟨0, by omega, by omega, rfl, hs⟩
        case round =>
          obtain ⟨s, hs8, hal, rfl, hs⟩ := hrel
          replace hal := Lib.hid hal
          subst hH1
          by_cases hlt8 : s < 8
          · have hec4 : ∀ g R, ReadC (blk g (.cells (rnd r) 26 (0, 0)) * R) g (9 + s) (.int .i64 (r.votes s)) := fun g R => readc_here (rnd_clk9 r s hlt8)
            go_wp2_with (first
        | ((with_reducible rewrite [pl_strike_eq]); rotate_left 1; (focus rfl))
        | ((with_reducible rewrite [pl_skip_eq]); rotate_left 1; (focus rfl); simp only [Act.put, zg, zh, zi])
        | ((with_reducible apply pl_guard_f); (focus rfl); (focus rfl); all_goals (intro hb; first | (cases hb; done) | ((try simp at hb); first | contradiction | ((have hF : False := (by omega)); (cases hF; done)) | (simp only [Act.put, zg, zh, zi]))))
        | ((with_reducible apply pl_load1 hs); (focus (simp only [Act.eval, za, zb, zc, zd, ze, zf]; (try with_reducible rfl); done)); (focus (simp only [go_sem])); (focus ((repeat (first | (with_reducible (first | assumption | exact hec _ | exact hec2 _ | exact hec3 _ | exact hec4 _ _)) | ((with_reducible apply readc_here); (focus (first | (simp only [zc, zd, ze, go_sem]; (try with_reducible rfl); done) | (go_simp; (try with_reducible rfl); done)))) | (with_reducible (first | (apply readc_left; assumption) | refine readc_exh (by assumption) ?_ | refine readc_exh0 (by assumption) ?_ | apply readc_next)))); done)); (focus rfl); simp only [Act.put, zg, zh, zi]))
            all_goals first
              | exact ⟨⟨s + 1, by omega, fun j hj => by
                  rcases Nat.lt_or_eq_of_le (Nat.le_of_lt_succ hj) with h | h
                  · exact hal.out j h
                  · subst h; omega, by go_num, hs⟩, by simp [intOf]; omega⟩
              | (go_roundw
                 case rel => exact ⟨s + 1, by omega, fun j hj => by
                    rcases Nat.lt_or_eq_of_le (Nat.le_of_lt_succ hj) with h | h
                    · exact hal.out j h
                    · subst h; omega, by go_num, hs⟩
                 case measure => simp [intOf]; omega)
              | (go_ret
                 exact ⟨_, rfl, hs.mono (ent_pu (congrArg Value.bool (hfin.out (Bool.eq_false_iff.2 fun h => by
                   have := hV.out.1 h s hlt8
                   omega)).symm) (by ((repeat (first | (with_reducible (first | exact ent_refl | exact ent_emp)) | ((with_reducible apply ent_front); (focus with_reducible (repeat (first | exact ent_here | apply ent_next | exact ent_last)); done)) | (with_reducible (first | exact ent_keep | apply ent_trans ent_drop)))); done)))⟩)
          · go_wp2_with fail
            exact ⟨⟨k + 1, by omega, hgo.out (hV.out.2 fun i hi => hal.out i (by omega)), by go_num, hs.mono (by ((repeat (first | (with_reducible (first | exact ent_refl | exact ent_emp)) | ((with_reducible apply ent_front); (focus with_reducible (repeat (first | exact ent_here | apply ent_next | exact ent_last)); done)) | (with_reducible (first | exact ent_keep | apply ent_trans ent_drop)))); done))⟩, by simp [intOf]; omega⟩)
    · go_wp2_with fail
      go_ret
      exact ⟨_, rfl, hs.mono (ent_pu (congrArg Value.bool (show okDs f = true from List.all_eq_true.2 fun i hi => hall.out i (by have := List.mem_range.1 hi; omega)).symm) (by ((repeat (first | (with_reducible (first | exact ent_refl | exact ent_emp)) | ((with_reducible apply ent_front); (focus with_reducible (repeat (first | exact ent_here | apply ent_next | exact ent_last)); done)) | (with_reducible (first | exact ent_keep | apply ent_trans ent_drop)))); done)))⟩
theorem hasActs_s (c0 : World) (F : HP) (k : Int) : Spec Tryd.prog c0 45 #[.int .i64 k] F (fun v => pu (v = .bool (useA k)) F) := by
  intro w hs
  go_enter Tryd.func45, Tryd.ntmps45
  go_wp2_with (first
        | ((with_reducible rewrite [pl_skip_eq]); rotate_left 1; (focus rfl); simp only [Act.put, zg, zh, zi])
        | ((with_reducible apply pl_guard_f); (focus rfl); (focus rfl); all_goals (intro hb; first | (cases hb; done) | ((try simp at hb); first | contradiction | ((have hF : False := (by omega)); (cases hF; done)) | (simp only [Act.put, zg, zh, zi])))))
  all_goals go_ret
  all_goals exact ⟨_, rfl, hs.mono (ent_pu (congrArg Value.bool (by unfold useA; (try simp only [beq_iff_eq, beq_eq_false_iff_ne, ne_eq] at *); first | exact (decide_eq_true (by omega)).symm | exact (decide_eq_false (by omega)).symm | (rw [Bool.eq_iff_iff]; simp; omega))) (by ((repeat (first | (with_reducible (first | exact ent_refl | exact ent_emp)) | ((with_reducible apply ent_front); (focus with_reducible (repeat (first | exact ent_here | apply ent_next | exact ent_last)); done)) | (with_reducible (first | exact ent_keep | apply ent_trans ent_drop)))); done)))⟩
theorem hasRounds_s (c0 : World) (F : HP) (k : Int) : Spec Tryd.prog c0 46 #[.int .i64 k] F (fun v => pu (v = .bool (useR k)) F) := by
  intro w hs
  go_enter Tryd.func46, Tryd.ntmps46
  go_wp2_with (first
        | ((with_reducible rewrite [pl_skip_eq]); rotate_left 1; (focus rfl); simp only [Act.put, zg, zh, zi])
        | ((with_reducible apply pl_guard_f); (focus rfl); (focus rfl); all_goals (intro hb; first | (cases hb; done) | ((try simp at hb); first | contradiction | ((have hF : False := (by omega)); (cases hF; done)) | (simp only [Act.put, zg, zh, zi])))))
  all_goals go_ret
  all_goals exact ⟨_, rfl, hs.mono (ent_pu (congrArg Value.bool (by unfold useR; (try simp only [beq_iff_eq, beq_eq_false_iff_ne, ne_eq] at *); first | exact (decide_eq_true (by omega)).symm | exact (decide_eq_false (by omega)).symm | (rw [Bool.eq_iff_iff]; simp; omega))) (by ((repeat (first | (with_reducible (first | exact ent_refl | exact ent_emp)) | ((with_reducible apply ent_front); (focus with_reducible (repeat (first | exact ent_here | apply ent_next | exact ent_last)); done)) | (with_reducible (first | exact ent_keep | apply ent_trans ent_drop)))); done)))⟩
set_option maxHeartbeats 4000000 in
theorem rright_s (c0 : World) (F : HP) (d : MsgD) (l : List ActD) : Spec Tryd.prog c0 17 #[.agg (msg d)] (pu (SlR F 13 actv d.s l) F) (fun v => pu (v = .bool (okM d l)) F) := by
  intro w hq; obtain ⟨hsl, hs⟩ := hq.pu; clear hq
  obtain ⟨kind, frm, ep, ck, A, n, cap, rs⟩ := d
  replace hsl : SlR F 13 actv (.slice A n cap) l := hsl
  obtain ⟨hn, hn1, hn2, _⟩ := slr_len hsl hs.own
  unfold maxLen at hn2
  by_cases hk : 1 ≤ kind ∧ kind ≤ 4
  · have hA : useA 1 = true ∧ useA 2 = false ∧ useA 3 = true ∧ useA 4 = false := by decide
    have hR : useR 1 = false ∧ useR 2 = false ∧ useR 3 = true ∧ useR 4 = true := by decide
    have hC : useC 1 = false ∧ useC 2 = true ∧ useC 3 = false ∧ useC 4 = false := by decide
    have hK : useK 1 = true ∧ useK 2 = true ∧ useK 3 = true ∧ useK 4 = true := by decide
    obtain ⟨K, hKe⟩ : ∃ K, K = kind := ⟨_, rfl⟩
    have hk4 : kind = 1 ∨ kind = 2 ∨ kind = 3 ∨ kind = 4 := by omega
    clear hk
    rcases hk4 with rfl | rfl | rfl | rfl
    all_goals (
      go_enter Tryd.func17, Tryd.ntmps17
      go_wp2_with (first
        | ((with_reducible rewrite [pl_strike_eq]); rotate_left 1; (focus rfl))
        | ((with_reducible rewrite [pl_skip_eq]); rotate_left 1; (focus rfl); simp only [Act.put, zg, zh, zi])
        | ((with_reducible apply pl_guard_f); (focus rfl); (focus rfl); all_goals (intro hb; first | (cases hb; done) | ((try simp at hb); first | contradiction | ((have hF : False := (by omega)); (cases hF; done)) | (simp only [Act.put, zg, zh, zi]))))
        | ((with_reducible apply pl_call hs (valid_s _ _ _)); (go_must (((focus (simp only [zj, zk, zl, List.append_toArray, List.nil_append, List.cons_append, Act.eval, za, zb, zc, zd, ze, zf]; (try with_reducible rfl); done)); (focus ((repeat (first | (with_reducible (first | exact ent_refl | apply ent_puR)) | ((with_reducible apply ent_front); (focus with_reducible (repeat (first | exact ent_here | apply ent_next | exact ent_last)); done)) | (with_reducible (first | exact ent_keep | apply ent_trans ent_drop)) | (fail))); done)); (focus (simp only [go_sem]))))); clear hs; (try clear w); intro v w hq; (obtain ⟨rfl, hs⟩ := hq.pu); clear hq; (try simp only [star_assoc, star_emp, emp_star] at hs); (try simp only [Act.put, zg, zh, zi]))
        | ((with_reducible apply pl_call hs (hasActs_s _ _ _)); (go_must (((focus (simp only [zj, zk, zl, List.append_toArray, List.nil_append, List.cons_append, Act.eval, za, zb, zc, zd, ze, zf]; (try with_reducible rfl); done)); (focus ((repeat (first | (with_reducible (first | exact ent_refl | apply ent_puR)) | ((with_reducible apply ent_front); (focus with_reducible (repeat (first | exact ent_here | apply ent_next | exact ent_last)); done)) | (with_reducible (first | exact ent_keep | apply ent_trans ent_drop)) | (fail))); done)); (focus (simp only [go_sem]))))); clear hs; (try clear w); intro v w hq; (obtain ⟨hv, hs⟩ := hq.pu; simp only [hA] at hv; subst hv); clear hq; (try simp only [star_assoc, star_emp, emp_star] at hs); (try simp only [Act.put, zg, zh, zi]))
        | ((with_reducible apply pl_call hs (hasRounds_s _ _ _)); (go_must (((focus (simp only [zj, zk, zl, List.append_toArray, List.nil_append, List.cons_append, Act.eval, za, zb, zc, zd, ze, zf]; (try with_reducible rfl); done)); (focus ((repeat (first | (with_reducible (first | exact ent_refl | apply ent_puR)) | ((with_reducible apply ent_front); (focus with_reducible (repeat (first | exact ent_here | apply ent_next | exact ent_last)); done)) | (with_reducible (first | exact ent_keep | apply ent_trans ent_drop)) | (fail))); done)); (focus (simp only [go_sem]))))); clear hs; (try clear w); intro v w hq; (obtain ⟨hv, hs⟩ := hq.pu; simp only [hR] at hv; subst hv); clear hq; (try simp only [star_assoc, star_emp, emp_star] at hs); (try simp only [Act.put, zg, zh, zi]))
        | ((with_reducible apply pl_loadN hs); (focus (simp only [Act.eval, za, zb, zc, zd, ze, zf]; (try with_reducible rfl); done)); (with_reducible (first | exact agg_23 | exact agg_28 | exact agg_78)); (focus ((repeat (first | (with_reducible (first | assumption | exact hel _ | exact hel2 _ | exact hel3 _)) | ((with_reducible apply reads_whole); (focus (first | (with_reducible rfl) | (simp only [go_sem]; done) | (simp; done)))) | ((with_reducible apply reads_part); (focus (first | (simp [go_sem]; done) | (simp only [go_sem]; omega) | go_size)); (focus (first | (simp only [Nat.reduceAdd, Nat.zero_add, go_sem]; (try with_reducible rfl); done) | (simp [go_sem]; (try with_reducible rfl); done)))) | (with_reducible (first | (apply reads_left; assumption) | refine reads_exh (by assumption) ?_ | refine reads_exh0 (by assumption) ?_ | apply reads_next)))); done)); (focus rfl); simp only [Act.put, zg, zh, zi])
        | ((with_reducible apply pl_load1 hs); (focus (simp only [Act.eval, za, zb, zc, zd, ze, zf]; (try with_reducible rfl); done)); (focus (simp only [go_sem])); (focus ((repeat (first | (with_reducible (first | assumption | exact hec _ | exact hec2 _ | exact hec3 _ | exact hec4 _ _)) | ((with_reducible apply readc_here); (focus (first | (simp only [zc, zd, ze, go_sem]; (try with_reducible rfl); done) | (go_simp; (try with_reducible rfl); done)))) | (with_reducible (first | (apply readc_left; assumption) | refine readc_exh (by assumption) ?_ | refine readc_exh0 (by assumption) ?_ | apply readc_next)))); done)); (focus rfl); simp only [Act.put, zg, zh, zi])
        | ((with_reducible apply pl_build hs); (focus (simp only [zj, zk, zl, Act.eval, za, zb, zc, zd, ze, zf]; (try with_reducible rfl); done)); (first | (with_reducible exact bld_0) | (with_reducible exact bld_3)); (focus rfl); simp only [Act.put, zg, zh, zi])
        | ((with_reducible apply pl_box hs); (focus (simp only [Act.eval, za, zb, zc, zd, ze, zf]; (try with_reducible rfl); done)); (focus (first | (with_reducible (first | exact cells_intv _ | exact cells_bytv _ | exact cells_agg _ | exact cells_int _ _ | exact cells_bool _ | exact cells_string _ | exact cells_slice _ _ _ | exact cells_pointer _ | exact cells_map _ | exact cells_iface _ _ | exact cells_nilIface | exact cells_func _ _ _)) | (exact cells_one (by assumption)))); clear hs; (try clear w); intro g w hs; skip; simp only [Act.put, zg, zh, zi])))
    all_goals first
      | (go_ret
         exact ⟨_, rfl, hs.mono (ent_pu (congrArg Value.bool (Eq.symm (Bool.eq_false_iff.2 fun h => by
           simp only [okM, hA, hC, hR, hK, Bool.and_eq_true, Bool.or_eq_true, decide_eq_true_eq] at h
           first | omega | (simp_all; done)))) (by ((repeat (first | (with_reducible (first | exact ent_refl | exact ent_emp)) | ((with_reducible apply ent_front); (focus with_reducible (repeat (first | exact ent_here | apply ent_next | exact ent_last)); done)) | (with_reducible (first | exact ent_keep | apply ent_trans ent_drop)))); done)))⟩)
      | skip
    all_goals (
      have hM : okM ⟨K, frm, ep, ck, A, n, cap, rs⟩ l = (l.all okA && okDs rs) := by
        rw [hKe]
        have hz : decide (l.length = 0) = !decide (0 < l.length) := by rw [Bool.eq_iff_iff]; simp only [decide_eq_true_eq, Bool.not_eq_true', decide_eq_false_iff_not]; omega
        simp only [okM, hA, hC, hR, hK, hz]
        simp_all
      rw [hKe] at hM
      clear hA hR hC hK hKe
      (try rw [show clkEq ck clk0 = true by assumption])
      (try rw [show decide (okC ck) = true from decide_eq_true (by assumption)])
      (try rw [show (!rndsEq rs rnds0) = false by assumption])
      (try simp only [Bool.not_true])
      clear hb
      replace hM := Lib.hid hM
      (obtain ⟨gx, hgg⟩ : ∃ x, x = g := ⟨_, rfl⟩); subst hgg
      obtain ⟨H1, hH1, hq⟩ := Sat.name hs; clear hs; have hs := hq; clear hq
      go_loopw [2, 3] (fun _ i wr => ∃ k : Nat, k ≤ l.length ∧ (∀ j a, j < k → l[j]? = some a → okA a = true) ∧ i = .int .i64 k ∧ Sat c0 H1 wr) (fun _ i _ => n - (intOf i).toNat)
      case atStart => exact ⟨0, Nat.zero_le _, by omega, rfl, hs⟩
      case round =>
        obtain ⟨k, hk, hall, rfl, hs⟩ := hrel
        replace hall := Lib.hid hall
        subst hH1
        by_cases hlt : k < l.length
        · have hltn : k < n := by omega
          obtain ⟨gb, o, x, rfl, hlx, hel0⟩ := slr_get hsl (hs.own.mono ent_drop) hltn
          have hel : ∀ R, Reads (R * F) gb (o + k * 13) 13 (actv x) := fun R => reads_next hel0
          have hfin : okA x = false → (l.all okA && okDs rs) = false := fun h => by
             rw [List.all_eq_false.2 ⟨x, List.mem_of_getElem? hlx, by simp [h]⟩]; rfl
          rw [← hM.out] at hfin
          have hgo : okA x = true → ∀ j a, j < k + 1 → l[j]? = some a → okA a = true := fun h j a hj ha => by
             rcases Nat.lt_or_eq_of_le (Nat.le_of_lt_succ hj) with h1 | h1
             · exact hall.out j a h1 ha
             · subst h1; rw [hlx] at ha; cases ha; exact h
          replace hgo := Lib.hid hgo
          replace hfin := Lib.hid hfin
          clear hlx hM
          go_wp2_with (first
        | ((with_reducible apply pl_call hs (rightAct_s _ _ _)); (go_must (((focus (simp only [zj, zk, zl, List.append_toArray, List.nil_append, List.cons_append, Act.eval, za, zb, zc, zd, ze, zf]; (try with_reducible rfl); done)); (focus ((repeat (first | (with_reducible (first | exact ent_refl | apply ent_puR)) | ((with_reducible apply ent_front); (focus with_reducible (repeat (first | exact ent_here | apply ent_next | exact ent_last)); done)) | (with_reducible (first | exact ent_keep | apply ent_trans ent_drop)) | (fail))); done)); (focus (simp only [go_sem]))))); clear hs; (try clear w); intro v w hq; (obtain ⟨rfl, hs⟩ := hq.pu); clear hq; (try simp only [star_assoc, star_emp, emp_star] at hs); (try simp only [Act.put, zg, zh, zi]))
        | ((with_reducible apply pl_loadN hs); (focus (simp only [Act.eval, za, zb, zc, zd, ze, zf]; (try with_reducible rfl); done)); (with_reducible (first | exact agg_23 | exact agg_28 | exact agg_78)); (focus ((repeat (first | (with_reducible (first | assumption | exact hel _ | exact hel2 _ | exact hel3 _)) | ((with_reducible apply reads_whole); (focus (first | (with_reducible rfl) | (simp only [go_sem]; done) | (simp; done)))) | ((with_reducible apply reads_part); (focus (first | (simp [go_sem]; done) | (simp only [go_sem]; omega) | go_size)); (focus (first | (simp only [Nat.reduceAdd, Nat.zero_add, go_sem]; (try with_reducible rfl); done) | (simp [go_sem]; (try with_reducible rfl); done)))) | (with_reducible (first | (apply reads_left; assumption) | refine reads_exh (by assumption) ?_ | refine reads_exh0 (by assumption) ?_ | apply reads_next)))); done)); (focus rfl); simp only [Act.put, zg, zh, zi])
        | ((with_reducible apply pl_load1 hs); (focus (simp only [Act.eval, za, zb, zc, zd, ze, zf]; (try with_reducible rfl); done)); (focus (simp only [go_sem])); (focus ((repeat (first | (with_reducible (first | assumption | exact hec _ | exact hec2 _ | exact hec3 _ | exact hec4 _ _)) | ((with_reducible apply readc_here); (focus (first | (simp only [zc, zd, ze, go_sem]; (try with_reducible rfl); done) | (go_simp; (try with_reducible rfl); done)))) | (with_reducible (first | (apply readc_left; assumption) | refine readc_exh (by assumption) ?_ | refine readc_exh0 (by assumption) ?_ | apply readc_next)))); done)); (focus rfl); simp only [Act.put, zg, zh, zi]))
          all_goals first
            | (go_roundw
               case rel => exact ⟨k + 1, by omega, hgo.out (by simpa using ‹(!okA x) = false›), by go_num, hs.mono (by ((repeat (first | (with_reducible (first | exact ent_refl | exact ent_emp)) | ((with_reducible apply ent_front); (focus with_reducible (repeat (first | exact ent_here | apply ent_next | exact ent_last)); done)) | (with_reducible (first | exact ent_keep | apply ent_trans ent_drop)))); done))⟩
               case measure => simp [intOf]; omega)
            | exact ⟨⟨k + 1, by omega, hgo.out (by simpa using ‹(!okA x) = false›), by go_num, hs.mono (by ((repeat (first | (with_reducible (first | exact ent_refl | exact ent_emp)) | ((with_reducible apply ent_front); (focus with_reducible (repeat (first | exact ent_here | apply ent_next | exact ent_last)); done)) | (with_reducible (first | exact ent_keep | apply ent_trans ent_drop)))); done))⟩, by simp [intOf]; omega⟩
            | (go_ret; exact ⟨_, rfl, hs.mono (ent_pu (congrArg Value.bool (hfin.out (by simpa using ‹(!okA x) = true›)).symm) (by ((repeat (first | (with_reducible (first | exact ent_refl | exact ent_emp)) | ((with_reducible apply ent_front); (focus with_reducible (repeat (first | exact ent_here | apply ent_next | exact ent_last)); done)) | (with_reducible (first | exact ent_keep | apply ent_trans ent_drop)))); done)))⟩)
        · have hle : l.all okA = true := List.all_eq_true.2 fun a ha => by
            obtain ⟨j, hj, rfl⟩ := List.getElem_of_mem ha
            exact hall.out j _ (by omega) (List.getElem?_eq_getElem hj)
          have hM2 := hM.out
          rw [hle, Bool.true_and] at hM2
          replace hM2 := Lib.hid hM2
          clear hM hle hall
          go_wp2_with (first
        | ((with_reducible apply pl_call hs (rightRounds_s _ _ _)); (go_must (((focus (simp only [zj, zk, zl, List.append_toArray, List.nil_append, List.cons_append, Act.eval, za, zb, zc, zd, ze, zf]; (try with_reducible rfl); done)); (focus ((repeat (first | (with_reducible (first | exact ent_refl | apply ent_puR)) | ((with_reducible apply ent_front); (focus with_reducible (repeat (first | exact ent_here | apply ent_next | exact ent_last)); done)) | (with_reducible (first | exact ent_keep | apply ent_trans ent_drop)) | (fail))); done)); (focus (simp only [go_sem]))))); clear hs; (try clear w); intro v w hq; (obtain ⟨rfl, hs⟩ := hq.pu); clear hq; (try simp only [star_assoc, star_emp, emp_star] at hs); (try simp only [Act.put, zg, zh, zi]))
        | ((with_reducible apply pl_loadN hs); (focus (simp only [Act.eval, za, zb, zc, zd, ze, zf]; (try with_reducible rfl); done)); (with_reducible (first | exact agg_23 | exact agg_28 | exact agg_78)); (focus ((repeat (first | (with_reducible (first | assumption | exact hel _ | exact hel2 _ | exact hel3 _)) | ((with_reducible apply reads_whole); (focus (first | (with_reducible rfl) | (simp only [go_sem]; done) | (simp; done)))) | ((with_reducible apply reads_part); (focus (first | (simp [go_sem]; done) | (simp only [go_sem]; omega) | go_size)); (focus (first | (simp only [Nat.reduceAdd, Nat.zero_add, go_sem]; (try with_reducible rfl); done) | (simp [go_sem]; (try with_reducible rfl); done)))) | (with_reducible (first | (apply reads_left; assumption) | refine reads_exh (by assumption) ?_ | refine reads_exh0 (by assumption) ?_ | apply reads_next)))); done)); (focus rfl); simp only [Act.put, zg, zh, zi])
        | ((with_reducible apply pl_load1 hs); (focus (simp only [Act.eval, za, zb, zc, zd, ze, zf]; (try with_reducible rfl); done)); (focus (simp only [go_sem])); (focus ((repeat (first | (with_reducible (first | assumption | exact hec _ | exact hec2 _ | exact hec3 _ | exact hec4 _ _)) | ((with_reducible apply readc_here); (focus (first | (simp only [zc, zd, ze, go_sem]; (try with_reducible rfl); done) | (go_simp; (try with_reducible rfl); done)))) | (with_reducible (first | (apply readc_left; assumption) | refine readc_exh (by assumption) ?_ | refine readc_exh0 (by assumption) ?_ | apply readc_next)))); done)); (focus rfl); simp only [Act.put, zg, zh, zi]))
          go_ret
          exact ⟨_, rfl, hs.mono (ent_pu (congrArg Value.bool hM2.out.symm) (by ((repeat (first | (with_reducible (first | exact ent_refl | exact ent_emp)) | ((with_reducible apply ent_front); (focus with_reducible (repeat (first | exact ent_here | apply ent_next | exact ent_last)); done)) | (with_reducible (first | exact ent_keep | apply ent_trans ent_drop)))); done)))⟩)
  · go_enter Tryd.func17, Tryd.ntmps17
    go_wp2_with (first
        | ((with_reducible rewrite [pl_strike_eq]); rotate_left 1; (focus rfl))
        | ((with_reducible rewrite [pl_skip_eq]); rotate_left 1; (focus rfl); simp only [Act.put, zg, zh, zi])
        | ((with_reducible apply pl_guard_f); (focus rfl); (focus rfl); all_goals (intro hb; first | (cases hb; done) | ((try simp at hb); first | contradiction | ((have hF : False := (by omega)); (cases hF; done)) | (simp only [Act.put, zg, zh, zi]))))
        | ((with_reducible apply pl_load1 hs); (focus (simp only [Act.eval, za, zb, zc, zd, ze, zf]; (try with_reducible rfl); done)); (focus (simp only [go_sem])); (focus ((repeat (first | (with_reducible (first | assumption | exact hec _ | exact hec2 _ | exact hec3 _ | exact hec4 _ _)) | ((with_reducible apply readc_here); (focus (first | (simp only [zc, zd, ze, go_sem]; (try with_reducible rfl); done) | (go_simp; (try with_reducible rfl); done)))) | (with_reducible (first | (apply readc_left; assumption) | refine readc_exh (by assumption) ?_ | refine readc_exh0 (by assumption) ?_ | apply readc_next)))); done)); (focus rfl); simp only [Act.put, zg, zh, zi])
        | ((with_reducible apply pl_box hs); (focus (simp only [Act.eval, za, zb, zc, zd, ze, zf]; (try with_reducible rfl); done)); (focus (first | (with_reducible (first | exact cells_intv _ | exact cells_bytv _ | exact cells_agg _ | exact cells_int _ _ | exact cells_bool _ | exact cells_string _ | exact cells_slice _ _ _ | exact cells_pointer _ | exact cells_map _ | exact cells_iface _ _ | exact cells_nilIface | exact cells_func _ _ _)) | (exact cells_one (by assumption)))); clear hs; (try clear w); intro g w hs; skip; simp only [Act.put, zg, zh, zi]))
    all_goals (
      go_ret
      exact ⟨_, rfl, hs.mono (ent_pu (congrArg Value.bool (Eq.symm (Bool.eq_false_iff.2 fun h => by
         simp only [okM, useK, Bool.and_eq_true, Bool.or_eq_true, decide_eq_true_eq] at h
         exact hk h.1))) (by ((repeat (first | (with_reducible (first | exact ent_refl | exact ent_emp)) | ((with_reducible apply ent_front); (focus with_reducible (repeat (first | exact ent_here | apply ent_next | exact ent_last)); done)) | (with_reducible (first | exact ent_keep | apply ent_trans ent_drop)))); done)))⟩)
end Go.Proofs.YtegebjflhhbmiaaDoor
