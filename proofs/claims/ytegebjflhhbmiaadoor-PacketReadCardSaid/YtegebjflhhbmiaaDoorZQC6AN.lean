/- What is right, by the program: rounds, a message. -/
import Derived.Test.YtegebjflhhbmiaaDoorZQC6AM
set_option linter.unusedSimpArgs false
set_option linter.unusedVariables false
namespace Go.Proofs.YtegebjflhhbmiaaDoor
open Go Go.RowKit

def okC (c : Nat → Int) : Prop := ∀ i, i < 8 → 0 ≤ c i
instance (c : Nat → Int) : Decidable (okC c) := by unfold okC; infer_instance
theorem rightClock_s (c0 : World) (F : HP) (c : Nat → Int) : Spec Tryd.prog c0 38 #[.agg (clk c)] F (fun v => pu (v = .bool (decide (okC c))) F) := by
  intro w hs
  go_enter Tryd.func38, Tryd.ntmps38
  go_wp2_with (first
        | ((with_reducible apply pl_loadN hs); (focus (simp only [Act.eval, za, zb, zc, zd, ze, zf]; (try with_reducible rfl); done)); (with_reducible (first | exact agg_23)); (focus ((repeat (first | (with_reducible (first | assumption | exact hel _ | exact hel2 _ | exact hel3 _)) | ((with_reducible apply reads_whole); (focus (first | (with_reducible rfl) | (simp only [go_sem]; done) | (simp; done)))) | ((with_reducible apply reads_part); (focus (first | (simp [go_sem]; done) | (simp only [go_sem]; omega) | go_size)); (focus (first | (simp only [Nat.reduceAdd, Nat.zero_add, go_sem]; (try with_reducible rfl); done) | (simp [go_sem]; (try with_reducible rfl); done)))) | (with_reducible (first | (apply reads_left; assumption) | refine reads_exh (by assumption) ?_ | refine reads_exh0 (by assumption) ?_ | apply reads_next)))); done)); (focus rfl); simp only [Act.put, zg, zh, zi])
        | ((with_reducible apply pl_box hs); (focus (simp only [Act.eval, za, zb, zc, zd, ze, zf]; (try with_reducible rfl); done)); (focus (first | (with_reducible (first | exact cells_intv _ | exact cells_bytv _ | exact cells_agg _ | exact cells_int _ _ | exact cells_bool _ | exact cells_string _ | exact cells_slice _ _ _ | exact cells_pointer _ | exact cells_map _ | exact cells_iface _ _ | exact cells_nilIface | exact cells_func _ _ _)) | (exact cells_one (by assumption)))); clear hs; (try clear w); intro g w hs; skip; simp only [Act.put, zg, zh, zi]))
  obtain ⟨H1, hH1, hq⟩ := Sat.name hs; clear hs; have hs := hq; clear hq
  go_loopw [6] (fun i wr => ∃ k : Nat, k ≤ 8 ∧ (∀ j, j < k → 0 ≤ c j) ∧ i = .int .i64 k ∧ Sat c0 H1 wr) (fun i _ => 8 - (intOf i).toNat)
  case atStart => exact ⟨0, by omega, by omega, rfl, hs⟩
  case round =>
    obtain ⟨k, hk, hall, rfl, hs⟩ := hrel
    replace hall := Lib.hid hall
    by_cases hlt : k < 8
    · subst hH1
      go_wp2_with fail
      · go_ret
        refine ⟨_, rfl, hs.mono (ent_pu ?_ ?_)⟩
        · exact congrArg Value.bool (decide_eq_false (fun h => by have := h k hlt; omega)).symm
        · ((repeat (first | (with_reducible (first | exact ent_refl | exact ent_emp)) | ((with_reducible apply ent_front); (focus with_reducible (repeat (first | exact ent_here | apply ent_next | exact ent_last)); done)) | (with_reducible (first | exact ent_keep | apply ent_trans ent_drop)))); done)
      · go_roundw
        case rel => exact ⟨k + 1, by omega, fun j hj => by
          rcases Nat.lt_or_eq_of_le (Nat.le_of_lt_succ hj) with h | h
          · exact hall.out j h
          · subst h; omega, by go_num, hs⟩
        case measure => simp [intOf]; omega
    · subst hH1
      go_wp2_with fail
      go_ret
      refine ⟨_, rfl, hs.mono (ent_pu ?_ ?_)⟩
      · exact congrArg Value.bool (decide_eq_true (fun i hi => hall.out i (by omega))).symm
      · ((repeat (first | (with_reducible (first | exact ent_refl | exact ent_emp)) | ((with_reducible apply ent_front); (focus with_reducible (repeat (first | exact ent_here | apply ent_next | exact ent_last)); done)) | (with_reducible (first | exact ent_keep | apply ent_trans ent_drop)))); done)
def okOp (o : OpD) : Prop := (1 ≤ o.kind ∧ o.kind ≤ 3) ∧ (0 ≤ o.rep ∧ o.rep ≤ 7) ∧ 0 ≤ o.pl ∧ (if o.kind = 1 then 0 ≤ o.char ∧ o.char ≤ 1114111 else o.char = 0)
instance (o : OpD) : Decidable (okOp o) := by unfold okOp; infer_instance
theorem okOp_iff (o : OpD) : okOp o ↔ (1 ≤ o.kind ∧ o.kind ≤ 3) ∧ (0 ≤ o.rep ∧ o.rep ≤ 7) ∧ 0 ≤ o.pl ∧ (o.kind = 1 → 0 ≤ o.char ∧ o.char ≤ 1114111) ∧ (o.kind ≠ 1 → o.char = 0) := by
  unfold okOp
  split <;> simp_all
theorem okOp_by {o : OpD} {b : Bool} (h : okOp o ↔ b = true) : b = decide (okOp o) := by
  cases b <;> simp [h]
theorem rightOp_s (c0 : World) (F : HP) (o : OpD) : Spec Tryd.prog c0 37 #[.agg (opv o)] F (fun v => pu (v = .bool (decide (okOp o))) F) := by
  intro w hs
  go_enter Tryd.func37, Tryd.ntmps37
  go_wp2_with (first
        | ((with_reducible rewrite [pl_strike_eq]); rotate_left 1; (focus rfl))
        | ((with_reducible rewrite [pl_skip_eq]); rotate_left 1; (focus rfl); simp only [Act.put, zg, zh, zi])
        | ((with_reducible apply pl_guard_t); (focus rfl); (focus rfl); all_goals (intro hb; first | (cases hb; done) | ((try simp at hb); first | contradiction | ((have hF : False := (by omega)); (cases hF; done)) | (simp only [Act.put, zg, zh, zi]))))
        | ((with_reducible apply pl_guard_f); (focus rfl); (focus rfl); all_goals (intro hb; first | (cases hb; done) | ((try simp at hb); first | contradiction | ((have hF : False := (by omega)); (cases hF; done)) | (simp only [Act.put, zg, zh, zi]))))
        | ((with_reducible apply pl_load1 hs); (focus (simp only [Act.eval, za, zb, zc, zd, ze, zf]; (try with_reducible rfl); done)); (focus (simp only [go_sem])); (focus ((repeat (first | (with_reducible (first | assumption | exact hec _ | exact hec2 _ | exact hec3 _ | exact hec4 _ _)) | ((with_reducible apply readc_here); (focus (first | (simp only [zc, zd, ze, go_sem]; (try with_reducible rfl); done) | (go_simp; (try with_reducible rfl); done)))) | (with_reducible (first | (apply readc_left; assumption) | refine readc_exh (by assumption) ?_ | refine readc_exh0 (by assumption) ?_ | apply readc_next)))); done)); (focus rfl); simp only [Act.put, zg, zh, zi])
        | ((with_reducible apply pl_box hs); (focus (simp only [Act.eval, za, zb, zc, zd, ze, zf]; (try with_reducible rfl); done)); (focus (first | (with_reducible (first | exact cells_intv _ | exact cells_bytv _ | exact cells_agg _ | exact cells_int _ _ | exact cells_bool _ | exact cells_string _ | exact cells_slice _ _ _ | exact cells_pointer _ | exact cells_map _ | exact cells_iface _ _ | exact cells_nilIface | exact cells_func _ _ _)) | (exact cells_one (by assumption)))); clear hs; (try clear w); intro g w hs; skip; simp only [Act.put, zg, zh, zi]))
  all_goals go_ret
  all_goals exact ⟨_, rfl, hs.mono (ent_pu (congrArg Value.bool (okOp_by (by rw [okOp_iff]; simp only [beq_iff_eq, beq_eq_false_iff_ne, bne_iff_ne, bne_eq_false_iff_eq, decide_eq_true_eq, ge_iff_le, Bool.false_eq_true, iff_false, iff_true] at *; omega))) (by ((repeat (first | (with_reducible (first | exact ent_refl | exact ent_emp)) | ((with_reducible apply ent_front); (focus with_reducible (repeat (first | exact ent_here | apply ent_next | exact ent_last)); done)) | (with_reducible (first | exact ent_keep | apply ent_trans ent_drop)))); done)))⟩
end Go.Proofs.YtegebjflhhbmiaaDoor

set_option linter.unusedSimpArgs false
set_option linter.unusedVariables false
namespace Go.Proofs.YtegebjflhhbmiaaDoor
open Go Go.RowKit

theorem results_tmp4 {fn : Func} {t u v x : Tmp} (h : fn.results = #[.tmp t, .tmp u, .tmp v, .tmp x]) (tmps : Array Value) (P : Program) (w : World) : (results fn tmps).run P w = .ok (.tuple #[tmps.getD t undef, tmps.getD u undef, tmps.getD v undef, tmps.getD x undef]) w := by
  simp [results, h]
def useA (k : Int) : Bool := decide (k = 1 ∨ k = 3)
def useC (k : Int) : Bool := decide (k = 2)
def useR (k : Int) : Bool := decide (k = 3 ∨ k = 4)
def useK (k : Int) : Bool := decide (1 ≤ k ∧ k ≤ 4)
theorem uses_s (c0 : World) (F : HP) (k : Int) : Spec Tryd.prog c0 36 #[.int .i64 k] F (fun v => pu (v = .tuple #[.bool (useA k), .bool (useC k), .bool (useR k), .bool (useK k)]) F) := by
  intro w hs
  by_cases h1 : k = 1
  · subst h1
    go_enter Tryd.func36, Tryd.ntmps36
    go_wp2_with fail
    refine bodyPost_ret (results_tmp4 rfl _ _ _) rfl ?_
    simp only [za, zb, zc, zd, ze, zf]
    exact ⟨_, rfl, hs.mono (ent_pu rfl ent_refl)⟩
  by_cases h2 : k = 2
  · subst h2
    go_enter Tryd.func36, Tryd.ntmps36
    go_wp2_with fail
    refine bodyPost_ret (results_tmp4 rfl _ _ _) rfl ?_
    simp only [za, zb, zc, zd, ze, zf]
    exact ⟨_, rfl, hs.mono (ent_pu rfl ent_refl)⟩
  by_cases h3 : k = 3
  · subst h3
    go_enter Tryd.func36, Tryd.ntmps36
    go_wp2_with fail
    refine bodyPost_ret (results_tmp4 rfl _ _ _) rfl ?_
    simp only [za, zb, zc, zd, ze, zf]
    exact ⟨_, rfl, hs.mono (ent_pu rfl ent_refl)⟩
  by_cases h4 : k = 4
  · subst h4
    go_enter Tryd.func36, Tryd.ntmps36
    go_wp2_with fail
    refine bodyPost_ret (results_tmp4 rfl _ _ _) rfl ?_
    simp only [za, zb, zc, zd, ze, zf]
    exact ⟨_, rfl, hs.mono (ent_pu rfl ent_refl)⟩
  have e1 : useA k = false := decide_eq_false (by omega)
  have e2 : useC k = false := decide_eq_false h2
  have e3 : useR k = false := decide_eq_false (by omega)
  have e4 : useK k = false := decide_eq_false (by omega)
  have b1 : (k == 1) = false := beq_eq_false_iff_ne.2 h1
  have b2 : (k == 2) = false := beq_eq_false_iff_ne.2 h2
  have b3 : (k == 3) = false := beq_eq_false_iff_ne.2 h3
  have b4 : (k == 4) = false := beq_eq_false_iff_ne.2 h4
  rw [e1, e2, e3, e4]
  go_enter Tryd.func36, Tryd.ntmps36
  go_wp2_with fail
  refine bodyPost_ret (results_tmp4 rfl _ _ _) rfl ?_
  simp only [za, zb, zc, zd, ze, zf]
  exact ⟨_, rfl, hs.mono (ent_pu rfl ent_refl)⟩
def okV (c : Nat → Int) : Prop := ∀ i, i < 8 → 0 ≤ c i ∧ c i ≤ 2
instance (c : Nat → Int) : Decidable (okV c) := by unfold okV; infer_instance
def okD (r : RoundD) : Bool := if r.num ≤ 0 then rndEq r rnd0 else decide (okV r.votes) && (decide (okC r.cut) && (decide (0 ≤ r.dec) && decide (r.dec ≤ 2)))
theorem rightRound_s (c0 : World) (F : HP) (r : RoundD) : Spec Tryd.prog c0 39 #[.agg (rnd r)] F (fun v => pu (v = .bool (okD r)) F) := by
  intro w hs
  by_cases hn : r.num ≤ 0
  · have hD : okD r = rndEq r rnd0 := if_pos hn
    rw [hD]
    go_enter Tryd.func39, Tryd.ntmps39
    go_wp2_with (first
        | ((with_reducible apply pl_loadN hs); (focus (simp only [Act.eval, za, zb, zc, zd, ze, zf]; (try with_reducible rfl); done)); (with_reducible (first | exact agg_22 | exact agg_23 | exact agg_26)); (focus ((repeat (first | (with_reducible (first | assumption | exact hel _ | exact hel2 _ | exact hel3 _)) | ((with_reducible apply reads_whole); (focus (first | (with_reducible rfl) | (simp only [go_sem]; done) | (simp; done)))) | ((with_reducible apply reads_part); (focus (first | (simp [go_sem]; done) | (simp only [go_sem]; omega) | go_size)); (focus (first | (simp only [Nat.reduceAdd, Nat.zero_add, go_sem]; (try with_reducible rfl); done) | (simp [go_sem]; (try with_reducible rfl); done)))) | (with_reducible (first | (apply reads_left; assumption) | refine reads_exh (by assumption) ?_ | refine reads_exh0 (by assumption) ?_ | apply reads_next)))); done)); (focus rfl); simp only [Act.put, zg, zh, zi])
        | ((with_reducible apply pl_load1 hs); (focus (simp only [Act.eval, za, zb, zc, zd, ze, zf]; (try with_reducible rfl); done)); (focus (simp only [go_sem])); (focus ((repeat (first | (with_reducible (first | assumption | exact hec _ | exact hec2 _ | exact hec3 _ | exact hec4 _ _)) | ((with_reducible apply readc_here); (focus (first | (simp only [zc, zd, ze, go_sem]; (try with_reducible rfl); done) | (go_simp; (try with_reducible rfl); done)))) | (with_reducible (first | (apply readc_left; assumption) | refine readc_exh (by assumption) ?_ | refine readc_exh0 (by assumption) ?_ | apply readc_next)))); done)); (focus rfl); simp only [Act.put, zg, zh, zi])
        | ((with_reducible apply pl_build hs); (focus (simp only [zj, zk, zl, Act.eval, za, zb, zc, zd, ze, zf]; (try with_reducible rfl); done)); (first | (with_reducible exact bld_2)); (focus rfl); simp only [Act.put, zg, zh, zi])
        | ((with_reducible apply pl_box hs); (focus (simp only [Act.eval, za, zb, zc, zd, ze, zf]; (try with_reducible rfl); done)); (focus (first | (with_reducible (first | exact cells_intv _ | exact cells_bytv _ | exact cells_agg _ | exact cells_int _ _ | exact cells_bool _ | exact cells_string _ | exact cells_slice _ _ _ | exact cells_pointer _ | exact cells_map _ | exact cells_iface _ _ | exact cells_nilIface | exact cells_func _ _ _)) | (exact cells_one (by assumption)))); clear hs; (try clear w); intro g w hs; skip; simp only [Act.put, zg, zh, zi]))
    go_ret
    exact ⟨_, rfl, hs.mono (ent_pu rfl (by ((repeat (first | (with_reducible (first | exact ent_refl | exact ent_emp)) | ((with_reducible apply ent_front); (focus with_reducible (repeat (first | exact ent_here | apply ent_next | exact ent_last)); done)) | (with_reducible (first | exact ent_keep | apply ent_trans ent_drop)))); done)))⟩
  have hD : okD r = (decide (okV r.votes) && (decide (okC r.cut) && (decide (0 ≤ r.dec) && decide (r.dec ≤ 2)))) := if_neg hn
  replace hn : 0 < r.num := by omega
  go_enter Tryd.func39, Tryd.ntmps39
  go_wp2_with (first
        | ((with_reducible apply pl_loadN hs); (focus (simp only [Act.eval, za, zb, zc, zd, ze, zf]; (try with_reducible rfl); done)); (with_reducible (first | exact agg_22 | exact agg_23 | exact agg_26)); (focus ((repeat (first | (with_reducible (first | assumption | exact hel _ | exact hel2 _ | exact hel3 _)) | ((with_reducible apply reads_whole); (focus (first | (with_reducible rfl) | (simp only [go_sem]; done) | (simp; done)))) | ((with_reducible apply reads_part); (focus (first | (simp [go_sem]; done) | (simp only [go_sem]; omega) | go_size)); (focus (first | (simp only [Nat.reduceAdd, Nat.zero_add, go_sem]; (try with_reducible rfl); done) | (simp [go_sem]; (try with_reducible rfl); done)))) | (with_reducible (first | (apply reads_left; assumption) | refine reads_exh (by assumption) ?_ | refine reads_exh0 (by assumption) ?_ | apply reads_next)))); done)); (focus rfl); simp only [Act.put, zg, zh, zi])
        | ((with_reducible apply pl_load1 hs); (focus (simp only [Act.eval, za, zb, zc, zd, ze, zf]; (try with_reducible rfl); done)); (focus (simp only [go_sem])); (focus ((repeat (first | (with_reducible (first | assumption | exact hec _ | exact hec2 _ | exact hec3 _ | exact hec4 _ _)) | ((with_reducible apply readc_here); (focus (first | (simp only [zc, zd, ze, go_sem]; (try with_reducible rfl); done) | (go_simp; (try with_reducible rfl); done)))) | (with_reducible (first | (apply readc_left; assumption) | refine readc_exh (by assumption) ?_ | refine readc_exh0 (by assumption) ?_ | apply readc_next)))); done)); (focus rfl); simp only [Act.put, zg, zh, zi])
        | ((with_reducible apply pl_box hs); (focus (simp only [Act.eval, za, zb, zc, zd, ze, zf]; (try with_reducible rfl); done)); (focus (first | (with_reducible (first | exact cells_intv _ | exact cells_bytv _ | exact cells_agg _ | exact cells_int _ _ | exact cells_bool _ | exact cells_string _ | exact cells_slice _ _ _ | exact cells_pointer _ | exact cells_map _ | exact cells_iface _ _ | exact cells_nilIface | exact cells_func _ _ _)) | (exact cells_one (by assumption)))); clear hs; (try clear w); intro g w hs; skip; simp only [Act.put, zg, zh, zi]))
  obtain ⟨H1, hH1, hq⟩ := Sat.name hs; clear hs; have hs := hq; clear hq
  go_loopw [4, 13] (fun _ i wr => ∃ k : Nat, k ≤ 8 ∧ (∀ j, j < k → 0 ≤ r.votes j ∧ r.votes j ≤ 2) ∧ i = .int .i64 k ∧ Sat c0 H1 wr) (fun _ i _ => 8 - (intOf i).toNat)
  case atStart => exact ⟨0, by omega, by omega, rfl, hs⟩
  case round =>
    obtain ⟨k, hk, hall, rfl, hs⟩ := hrel
    replace hall := Lib.hid hall
    by_cases hlt : k < 8
    · subst hH1
      go_wp2_with (first
        | ((with_reducible apply pl_guard_f); (focus rfl); (focus rfl); all_goals (intro hb; first | (cases hb; done) | ((try simp at hb); first | contradiction | ((have hF : False := (by omega)); (cases hF; done)) | (simp only [Act.put, zg, zh, zi])))))
      all_goals first
        | exact ⟨⟨k + 1, by omega, fun j hj => by
            rcases Nat.lt_or_eq_of_le (Nat.le_of_lt_succ hj) with h | h
            · exact hall.out j h
            · subst h; omega, by go_num, hs⟩, by simp [intOf]; omega⟩
        | (go_ret
           have hnv : ¬ okV r.votes := fun h => by have := h k hlt; omega
           exact ⟨_, rfl, hs.mono (ent_pu (by first | (rw [hD, decide_eq_false hnv]; rfl) | (rw [decide_eq_false hnv]; rfl)) (by ((repeat (first | (with_reducible (first | exact ent_refl | exact ent_emp)) | ((with_reducible apply ent_front); (focus with_reducible (repeat (first | exact ent_here | apply ent_next | exact ent_last)); done)) | (with_reducible (first | exact ent_keep | apply ent_trans ent_drop)))); done)))⟩)
    · have hv : okV r.votes := fun i hi => hall.out i (by omega)
      subst hH1
      go_wp2_with (first
        | ((with_reducible rewrite [pl_strike_eq]); rotate_left 1; (focus rfl))
        | ((with_reducible rewrite [pl_skip_eq]); rotate_left 1; (focus rfl); simp only [Act.put, zg, zh, zi])
        | ((with_reducible apply pl_guard_t); (focus rfl); (focus rfl); all_goals (intro hb; first | (cases hb; done) | ((try simp at hb); first | contradiction | ((have hF : False := (by omega)); (cases hF; done)) | (simp only [Act.put, zg, zh, zi]))))
        | ((with_reducible apply pl_call hs (rightClock_s _ _ _)); (go_must (((focus (simp only [zj, zk, zl, List.append_toArray, List.nil_append, List.cons_append, Act.eval, za, zb, zc, zd, ze, zf]; (try with_reducible rfl); done)); (focus ((repeat (first | (with_reducible (first | exact ent_refl | apply ent_puR)) | ((with_reducible apply ent_front); (focus with_reducible (repeat (first | exact ent_here | apply ent_next | exact ent_last)); done)) | (with_reducible (first | exact ent_keep | apply ent_trans ent_drop)) | (fail))); done)); (focus (simp only [go_sem]))))); clear hs; (try clear w); intro v w hq; (obtain ⟨rfl, hs⟩ := hq.pu); clear hq; (try simp only [star_assoc, star_emp, emp_star] at hs); (try simp only [Act.put, zg, zh, zi]))
        | ((with_reducible apply pl_loadN hs); (focus (simp only [Act.eval, za, zb, zc, zd, ze, zf]; (try with_reducible rfl); done)); (with_reducible (first | exact agg_22 | exact agg_23 | exact agg_26)); (focus ((repeat (first | (with_reducible (first | assumption | exact hel _ | exact hel2 _ | exact hel3 _)) | ((with_reducible apply reads_whole); (focus (first | (with_reducible rfl) | (simp only [go_sem]; done) | (simp; done)))) | ((with_reducible apply reads_part); (focus (first | (simp [go_sem]; done) | (simp only [go_sem]; omega) | go_size)); (focus (first | (simp only [Nat.reduceAdd, Nat.zero_add, go_sem]; (try with_reducible rfl); done) | (simp [go_sem]; (try with_reducible rfl); done)))) | (with_reducible (first | (apply reads_left; assumption) | refine reads_exh (by assumption) ?_ | refine reads_exh0 (by assumption) ?_ | apply reads_next)))); done)); (focus rfl); simp only [Act.put, zg, zh, zi])
        | ((with_reducible apply pl_load1 hs); (focus (simp only [Act.eval, za, zb, zc, zd, ze, zf]; (try with_reducible rfl); done)); (focus (simp only [go_sem])); (focus ((repeat (first | (with_reducible (first | assumption | exact hec _ | exact hec2 _ | exact hec3 _ | exact hec4 _ _)) | ((with_reducible apply readc_here); (focus (first | (simp only [zc, zd, ze, go_sem]; (try with_reducible rfl); done) | (go_simp; (try with_reducible rfl); done)))) | (with_reducible (first | (apply readc_left; assumption) | refine readc_exh (by assumption) ?_ | refine readc_exh0 (by assumption) ?_ | apply readc_next)))); done)); (focus rfl); simp only [Act.put, zg, zh, zi]))
      all_goals go_ret
      all_goals exact ⟨_, rfl, hs.mono (ent_pu (by rw [hD]; simp [*] <;> omega) (by ((repeat (first | (with_reducible (first | exact ent_refl | exact ent_emp)) | ((with_reducible apply ent_front); (focus with_reducible (repeat (first | exact ent_here | apply ent_next | exact ent_last)); done)) | (with_reducible (first | exact ent_keep | apply ent_trans ent_drop)))); done)))⟩
def okA (a : ActD) : Bool := decide (okOp a.op) && (decide (1 ≤ a.num) && decide (okC a.clock))
def okDs (f : Nat → RoundD) : Bool := (List.range 8).all (fun i => okD (f i))
def okM (d : MsgD) (l : List ActD) : Bool := useK d.kind && (decide (0 ≤ d.frm) && (decide (d.frm ≤ 7) && (decide (0 ≤ d.ep) && ((useA d.kind || decide (l.length = 0)) && ((useC d.kind || clkEq d.c clk0) && ((useR d.kind || rndsEq d.r rnds0) && (l.all okA && (okDs d.r && decide (okC d.c)))))))))
theorem use_cases (k : Int) : (useA k = true ∧ useC k = false ∧ useR k = false ∧ useK k = true) ∨ (useA k = false ∧ useC k = true ∧ useR k = false ∧ useK k = true) ∨ (useA k = true ∧ useC k = false ∧ useR k = true ∧ useK k = true) ∨ (useA k = false ∧ useC k = false ∧ useR k = true ∧ useK k = true) ∨ (useA k = false ∧ useC k = false ∧ useR k = false ∧ useK k = false) := by
  by_cases h1 : k = 1
  · subst h1; exact .inl ⟨rfl, rfl, rfl, rfl⟩
  by_cases h2 : k = 2
  · subst h2; exact .inr (.inl ⟨rfl, rfl, rfl, rfl⟩)
  by_cases h3 : k = 3
  · subst h3; exact .inr (.inr (.inl ⟨rfl, rfl, rfl, rfl⟩))
  by_cases h4 : k = 4
  · subst h4; exact .inr (.inr (.inr (.inl ⟨rfl, rfl, rfl, rfl⟩)))
  exact .inr (.inr (.inr (.inr ⟨decide_eq_false (by omega), decide_eq_false h2, decide_eq_false (by omega), decide_eq_false (by omega)⟩)))
set_option maxHeartbeats 4000000 in
theorem right_s (c0 : World) (F : HP) (d : MsgD) (l : List ActD) : Spec Tryd.prog c0 11 #[.agg (msg d)] (pu (SlR F 13 actv d.s l) F) (fun v => pu (v = .bool (okM d l)) F) := by
  intro w hq; obtain ⟨hsl, hs⟩ := hq.pu; clear hq
  obtain ⟨kind, frm, ep, ck, A, n, cap, rs⟩ := d
  replace hsl : SlR F 13 actv (.slice A n cap) l := hsl
  obtain ⟨hn, hn1, hn2, _⟩ := slr_len hsl hs.own
  unfold maxLen at hn2
  rcases use_cases kind with ⟨e1, e2, e3, e4⟩ | ⟨e1, e2, e3, e4⟩ | ⟨e1, e2, e3, e4⟩ | ⟨e1, e2, e3, e4⟩ | ⟨e1, e2, e3, e4⟩
  all_goals (
    go_enter Tryd.func11, Tryd.ntmps11
    go_wp2_with (first
        | ((with_reducible rewrite [pl_strike_eq]); rotate_left 1; (focus rfl))
        | ((with_reducible rewrite [pl_skip_eq]); rotate_left 1; (focus rfl); simp only [Act.put, zg, zh, zi])
        | ((with_reducible apply pl_call hs (uses_s _ _ _)); (go_must (((focus (simp only [zj, zk, zl, List.append_toArray, List.nil_append, List.cons_append, Act.eval, za, zb, zc, zd, ze, zf]; (try with_reducible rfl); done)); (focus ((repeat (first | (with_reducible (first | exact ent_refl | apply ent_puR)) | ((with_reducible apply ent_front); (focus with_reducible (repeat (first | exact ent_here | apply ent_next | exact ent_last)); done)) | (with_reducible (first | exact ent_keep | apply ent_trans ent_drop)) | (fail))); done)); (focus (simp only [go_sem]))))); clear hs; (try clear w); intro v w hq; (obtain ⟨hv, hs⟩ := hq.pu; rw [e1, e2, e3, e4] at hv; subst hv); clear hq; (try simp only [star_assoc, star_emp, emp_star] at hs); (try simp only [Act.put, zg, zh, zi]))
        | ((with_reducible apply pl_loadN hs); (focus (simp only [Act.eval, za, zb, zc, zd, ze, zf]; (try with_reducible rfl); done)); (with_reducible (first | exact agg_23 | exact agg_26 | exact agg_28 | exact agg_76 | exact agg_78)); (focus ((repeat (first | (with_reducible (first | assumption | exact hel _ | exact hel2 _ | exact hel3 _)) | ((with_reducible apply reads_whole); (focus (first | (with_reducible rfl) | (simp only [go_sem]; done) | (simp; done)))) | ((with_reducible apply reads_part); (focus (first | (simp [go_sem]; done) | (simp only [go_sem]; omega) | go_size)); (focus (first | (simp only [Nat.reduceAdd, Nat.zero_add, go_sem]; (try with_reducible rfl); done) | (simp [go_sem]; (try with_reducible rfl); done)))) | (with_reducible (first | (apply reads_left; assumption) | refine reads_exh (by assumption) ?_ | refine reads_exh0 (by assumption) ?_ | apply reads_next)))); done)); (focus rfl); simp only [Act.put, zg, zh, zi])
        | ((with_reducible apply pl_load1 hs); (focus (simp only [Act.eval, za, zb, zc, zd, ze, zf]; (try with_reducible rfl); done)); (focus (simp only [go_sem])); (focus ((repeat (first | (with_reducible (first | assumption | exact hec _ | exact hec2 _ | exact hec3 _ | exact hec4 _ _)) | ((with_reducible apply readc_here); (focus (first | (simp only [zc, zd, ze, go_sem]; (try with_reducible rfl); done) | (go_simp; (try with_reducible rfl); done)))) | (with_reducible (first | (apply readc_left; assumption) | refine readc_exh (by assumption) ?_ | refine readc_exh0 (by assumption) ?_ | apply readc_next)))); done)); (focus rfl); simp only [Act.put, zg, zh, zi])
        | ((with_reducible apply pl_build hs); (focus (simp only [zj, zk, zl, Act.eval, za, zb, zc, zd, ze, zf]; (try with_reducible rfl); done)); (first | (with_reducible exact bld_0) | (with_reducible exact bld_3)); (focus rfl); simp only [Act.put, zg, zh, zi])
        | ((with_reducible apply pl_box hs); (focus (simp only [Act.eval, za, zb, zc, zd, ze, zf]; (try with_reducible rfl); done)); (focus (first | (with_reducible (first | exact cells_intv _ | exact cells_bytv _ | exact cells_agg _ | exact cells_int _ _ | exact cells_bool _ | exact cells_string _ | exact cells_slice _ _ _ | exact cells_pointer _ | exact cells_map _ | exact cells_iface _ _ | exact cells_nilIface | exact cells_func _ _ _)) | (exact cells_one (by assumption)))); clear hs; (try clear w); intro g w hs; skip; simp only [Act.put, zg, zh, zi])))
  all_goals first
    | (go_ret
       exact ⟨_, rfl, hs.mono (ent_pu (congrArg Value.bool (Eq.symm (Bool.eq_false_iff.2 fun h => by
         simp only [okM, e1, e2, e3, e4, Bool.and_eq_true, Bool.or_eq_true, decide_eq_true_eq] at h
         first | omega | (simp_all; done)))) (by ((repeat (first | (with_reducible (first | exact ent_refl | exact ent_emp)) | ((with_reducible apply ent_front); (focus with_reducible (repeat (first | exact ent_here | apply ent_next | exact ent_last)); done)) | (with_reducible (first | exact ent_keep | apply ent_trans ent_drop)))); done)))⟩)
    | exact absurd (Eq.trans (Eq.symm (show (!clkEq ck clk0) = true by assumption)) (show (!clkEq ck clk0) = false by assumption)) (by decide)
    | skip
  all_goals (
    have hM : okM ⟨kind, frm, ep, ck, A, n, cap, rs⟩ l = (l.all okA && (okDs rs && decide (okC ck))) := by
      have hz : decide (l.length = 0) = !decide (0 < l.length) := by rw [Bool.eq_iff_iff]; simp only [decide_eq_true_eq, Bool.not_eq_true', decide_eq_false_iff_not]; omega
      simp only [okM, e1, e2, e3, e4, hz]
      simp_all
    clear e1 e2 e3 e4
    obtain ⟨H1, hH1, hq⟩ := Sat.name hs; clear hs; have hs := hq; clear hq
    go_loopw [59] (fun i wr => ∃ k : Nat, k ≤ l.length ∧ (∀ j a, j < k → l[j]? = some a → okA a = true) ∧ i = .int .i64 k ∧ Sat c0 H1 wr) (fun i _ => l.length - (intOf i).toNat)
    case atStart => exact ⟨0, by omega, by omega, rfl, hs⟩
    case round =>
      obtain ⟨k, hk, hall, rfl, hs⟩ := hrel
      replace hall := Lib.hid hall
      subst hH1
      by_cases hlt : k < l.length
      · first
        | exact absurd hlt (by omega)
        | (have hltn : k < n := by omega
           obtain ⟨gb, o, x, rfl, hlx, hel0⟩ := slr_get hsl (hs.own.mono ent_drop) hltn
           have hel : ∀ R, Reads (R * F) gb (o + k * 13) 13 (actv x) := fun R => reads_next hel0
           have hfin : okA x = false → okM ⟨kind, frm, ep, ck, some ⟨gb, o, none⟩, n, cap, rs⟩ l = false := fun h => by
             rw [hM, List.all_eq_false.2 ⟨x, List.mem_of_getElem? hlx, by simp [h]⟩]; rfl
           have hgo : okA x = true → ∀ j a, j < k + 1 → l[j]? = some a → okA a = true := fun h j a hj ha => by
             rcases Nat.lt_or_eq_of_le (Nat.le_of_lt_succ hj) with h1 | h1
             · exact hall.out j a h1 ha
             · subst h1; rw [hlx] at ha; cases ha; exact h
           replace hgo := Lib.hid hgo
           replace hfin := Lib.hid hfin
           clear hlx hM
           go_wp2_with (first
        | ((with_reducible rewrite [pl_strike_eq]); rotate_left 1; (focus rfl))
        | ((with_reducible rewrite [pl_skip_eq]); rotate_left 1; (focus rfl); simp only [Act.put, zg, zh, zi])
        | ((with_reducible apply pl_guard_f); (focus rfl); (focus rfl); all_goals (intro hb; first | (cases hb; done) | ((try simp at hb); first | contradiction | ((have hF : False := (by omega)); (cases hF; done)) | (simp only [Act.put, zg, zh, zi]))))
        | ((with_reducible apply pl_call hs (rightOp_s _ _ _)); (go_must (((focus (simp only [zj, zk, zl, List.append_toArray, List.nil_append, List.cons_append, Act.eval, za, zb, zc, zd, ze, zf]; (try with_reducible rfl); done)); (focus ((repeat (first | (with_reducible (first | exact ent_refl | apply ent_puR)) | ((with_reducible apply ent_front); (focus with_reducible (repeat (first | exact ent_here | apply ent_next | exact ent_last)); done)) | (with_reducible (first | exact ent_keep | apply ent_trans ent_drop)) | (fail))); done)); (focus (simp only [go_sem]))))); clear hs; (try clear w); intro v w hq; (obtain ⟨rfl, hs⟩ := hq.pu); clear hq; (try simp only [star_assoc, star_emp, emp_star] at hs); (try simp only [Act.put, zg, zh, zi]))
        | ((with_reducible apply pl_call hs (rightClock_s _ _ _)); (go_must (((focus (simp only [zj, zk, zl, List.append_toArray, List.nil_append, List.cons_append, Act.eval, za, zb, zc, zd, ze, zf]; (try with_reducible rfl); done)); (focus ((repeat (first | (with_reducible (first | exact ent_refl | apply ent_puR)) | ((with_reducible apply ent_front); (focus with_reducible (repeat (first | exact ent_here | apply ent_next | exact ent_last)); done)) | (with_reducible (first | exact ent_keep | apply ent_trans ent_drop)) | (fail))); done)); (focus (simp only [go_sem]))))); clear hs; (try clear w); intro v w hq; (obtain ⟨rfl, hs⟩ := hq.pu); clear hq; (try simp only [star_assoc, star_emp, emp_star] at hs); (try simp only [Act.put, zg, zh, zi]))
        | ((with_reducible apply pl_loadN hs); (focus (simp only [Act.eval, za, zb, zc, zd, ze, zf]; (try with_reducible rfl); done)); (with_reducible (first | exact agg_23 | exact agg_26 | exact agg_28 | exact agg_76 | exact agg_78)); (focus ((repeat (first | (with_reducible (first | assumption | exact hel _ | exact hel2 _ | exact hel3 _)) | ((with_reducible apply reads_whole); (focus (first | (with_reducible rfl) | (simp only [go_sem]; done) | (simp; done)))) | ((with_reducible apply reads_part); (focus (first | (simp [go_sem]; done) | (simp only [go_sem]; omega) | go_size)); (focus (first | (simp only [Nat.reduceAdd, Nat.zero_add, go_sem]; (try with_reducible rfl); done) | (simp [go_sem]; (try with_reducible rfl); done)))) | (with_reducible (first | (apply reads_left; assumption) | refine reads_exh (by assumption) ?_ | refine reads_exh0 (by assumption) ?_ | apply reads_next)))); done)); (focus rfl); simp only [Act.put, zg, zh, zi])
        | ((with_reducible apply pl_load1 hs); (focus (simp only [Act.eval, za, zb, zc, zd, ze, zf]; (try with_reducible rfl); done)); (focus (simp only [go_sem])); (focus ((repeat (first | (with_reducible (first | assumption | exact hec _ | exact hec2 _ | exact hec3 _ | exact hec4 _ _)) | ((with_reducible apply readc_here); (focus (first | (simp only [zc, zd, ze, go_sem]; (try with_reducible rfl); done) | (go_simp; (try with_reducible rfl); done)))) | (with_reducible (first | (apply readc_left; assumption) | refine readc_exh (by assumption) ?_ | refine readc_exh0 (by assumption) ?_ | apply readc_next)))); done)); (focus rfl); simp only [Act.put, zg, zh, zi])
        | ((with_reducible apply pl_alloc hs); (with_reducible (first | exact zero_26 | exact zero_78)); clear hs; (try clear w); intro g w hs; skip; simp only [Act.put, zg, zh, zi])
        | ((with_reducible apply pl_storeN hs); (focus (simp only [Act.eval, za, zb, zc, zd, ze, zf]; (try with_reducible rfl); done)); (focus (simp only [Act.eval, za, zb, zc, zd, ze, zf]; (try with_reducible rfl); done)); (with_reducible (first | exact agg_26 | exact agg_78)); (focus with_reducible (repeat (first | exact ent_here | apply ent_next | exact ent_last)); done); (focus (first | (with_reducible rfl) | (simp only [go_sem]; done) | (simp; done))); (focus (first | (simp [go_sem]; done) | (simp only [go_sem]; omega) | go_size)); (focus (first | (simp only [go_sem]; done) | (simp [go_sem]; done))); (focus (first | ((with_reducible apply splice_whole); (focus (first | (with_reducible rfl) | (simp only [go_sem]; done) | (simp; done)))) | (simp [splice, go_sem]; done) | (simp only [go_sem]; (try with_reducible rfl); done))); clear hs; (try clear w); intro w hs; (try simp only [zg, zh, zi, clk_set, opv_s0, opv_s1, opv_s2, opv_s3, actv_s0, actv_s1, actv_s2, actv_s3, actv_s4, rnd_s0, rnd_s17, lnk_s0, lnk_s1, lnk_s2, nov_s0, nov_s1, nov_s2, intv_set, bytv_set] at hs); simp only [Act.put, zg, zh, zi]))
           all_goals first
             | exact ⟨⟨k + 1, by omega, hgo.out (by unfold okA; simp_all), by go_num, hs.mono (by ((repeat (first | (with_reducible (first | exact ent_refl | exact ent_emp)) | ((with_reducible apply ent_front); (focus with_reducible (repeat (first | exact ent_here | apply ent_next | exact ent_last)); done)) | (with_reducible (first | exact ent_keep | apply ent_trans ent_drop)))); done))⟩, by simp [intOf]; omega⟩
             | (go_ret; exact ⟨_, rfl, hs.mono (ent_pu (congrArg Value.bool (hfin.out (by
                 rw [Bool.eq_false_iff]; intro h; unfold okA at h
                 simp only [Bool.and_eq_true, decide_eq_true_eq] at h
                 (try simp only [Bool.not_eq_true', decide_eq_false_iff_not] at *)
                 first | omega | exact absurd h.1 (by assumption) | exact absurd h.2.2 (by assumption))).symm) (by ((repeat (first | (with_reducible (first | exact ent_refl | exact ent_emp)) | ((with_reducible apply ent_front); (focus with_reducible (repeat (first | exact ent_here | apply ent_next | exact ent_last)); done)) | (with_reducible (first | exact ent_keep | apply ent_trans ent_drop)))); done)))⟩))
      · have hle : l.all okA = true := List.all_eq_true.2 fun a ha => by
          obtain ⟨j, hj, rfl⟩ := List.getElem_of_mem ha
          exact hall.out j _ (by omega) (List.getElem?_eq_getElem hj)
        rw [hle, Bool.true_and] at hM
        replace hM := Lib.hid hM
        clear hle hall
        go_wp2_with (first
        | ((with_reducible apply pl_loadN hs); (focus (simp only [Act.eval, za, zb, zc, zd, ze, zf]; (try with_reducible rfl); done)); (with_reducible (first | exact agg_23 | exact agg_26 | exact agg_28 | exact agg_76 | exact agg_78)); (focus ((repeat (first | (with_reducible (first | assumption | exact hel _ | exact hel2 _ | exact hel3 _)) | ((with_reducible apply reads_whole); (focus (first | (with_reducible rfl) | (simp only [go_sem]; done) | (simp; done)))) | ((with_reducible apply reads_part); (focus (first | (simp [go_sem]; done) | (simp only [go_sem]; omega) | go_size)); (focus (first | (simp only [Nat.reduceAdd, Nat.zero_add, go_sem]; (try with_reducible rfl); done) | (simp [go_sem]; (try with_reducible rfl); done)))) | (with_reducible (first | (apply reads_left; assumption) | refine reads_exh (by assumption) ?_ | refine reads_exh0 (by assumption) ?_ | apply reads_next)))); done)); (focus rfl); simp only [Act.put, zg, zh, zi]))
        obtain ⟨H1, hH1, hq⟩ := Sat.name hs; clear hs; have hs := hq; clear hq
        go_loopw [81] (fun i wr => ∃ k : Nat, k ≤ 8 ∧ (∀ j, j < k → okD (rs j) = true) ∧ i = .int .i64 k ∧ Sat c0 H1 wr) (fun i _ => 8 - (intOf i).toNat)
        case atStart => exact ⟨0, by omega, by omega, rfl, hs⟩
        case round =>
          obtain ⟨j, hj, hal, rfl, hs⟩ := hrel
          replace hal := Lib.hid hal
          subst hH1
          by_cases hj8 : j < 8
          · have hix : ∀ w, (idxS 28 (.agg (rnds rs)) (.int .i64 (j : Int))).run Tryd.prog w = .ok (.agg (rnd (rs j))) w := idx_rnds rs j hj8
            have hfin : okD (rs j) = false → okM ⟨kind, frm, ep, ck, A, n, cap, rs⟩ l = false := fun h => by
              rw [hM.out, show okDs rs = false from List.all_eq_false.2 ⟨j, List.mem_range.2 hj8, by simp [h]⟩]; rfl
            replace hfin := Lib.hid hfin
            go_wp2_with (first
        | ((with_reducible apply pl_call hs (rightRound_s _ _ _)); (go_must (((focus (simp only [zj, zk, zl, List.append_toArray, List.nil_append, List.cons_append, Act.eval, za, zb, zc, zd, ze, zf]; (try with_reducible rfl); done)); (focus ((repeat (first | (with_reducible (first | exact ent_refl | apply ent_puR)) | ((with_reducible apply ent_front); (focus with_reducible (repeat (first | exact ent_here | apply ent_next | exact ent_last)); done)) | (with_reducible (first | exact ent_keep | apply ent_trans ent_drop)) | (fail))); done)); (focus (simp only [go_sem]))))); clear hs; (try clear w); intro v w hq; (obtain ⟨rfl, hs⟩ := hq.pu); clear hq; (try simp only [star_assoc, star_emp, emp_star] at hs); (try simp only [Act.put, zg, zh, zi]))
        | ((with_reducible apply pl_loadN hs); (focus (simp only [Act.eval, za, zb, zc, zd, ze, zf]; (try with_reducible rfl); done)); (with_reducible (first | exact agg_23 | exact agg_26 | exact agg_28 | exact agg_76 | exact agg_78)); (focus ((repeat (first | (with_reducible (first | assumption | exact hel _ | exact hel2 _ | exact hel3 _)) | ((with_reducible apply reads_whole); (focus (first | (with_reducible rfl) | (simp only [go_sem]; done) | (simp; done)))) | ((with_reducible apply reads_part); (focus (first | (simp [go_sem]; done) | (simp only [go_sem]; omega) | go_size)); (focus (first | (simp only [Nat.reduceAdd, Nat.zero_add, go_sem]; (try with_reducible rfl); done) | (simp [go_sem]; (try with_reducible rfl); done)))) | (with_reducible (first | (apply reads_left; assumption) | refine reads_exh (by assumption) ?_ | refine reads_exh0 (by assumption) ?_ | apply reads_next)))); done)); (focus rfl); simp only [Act.put, zg, zh, zi])
        | ((with_reducible apply pl_alloc hs); (with_reducible (first | exact zero_26 | exact zero_78)); clear hs; (try clear w); intro g w hs; skip; simp only [Act.put, zg, zh, zi])
        | ((with_reducible apply pl_storeN hs); (focus (simp only [Act.eval, za, zb, zc, zd, ze, zf]; (try with_reducible rfl); done)); (focus (simp only [Act.eval, za, zb, zc, zd, ze, zf]; (try with_reducible rfl); done)); (with_reducible (first | exact agg_26 | exact agg_78)); (focus with_reducible (repeat (first | exact ent_here | apply ent_next | exact ent_last)); done); (focus (first | (with_reducible rfl) | (simp only [go_sem]; done) | (simp; done))); (focus (first | (simp [go_sem]; done) | (simp only [go_sem]; omega) | go_size)); (focus (first | (simp only [go_sem]; done) | (simp [go_sem]; done))); (focus (first | ((with_reducible apply splice_whole); (focus (first | (with_reducible rfl) | (simp only [go_sem]; done) | (simp; done)))) | (simp [splice, go_sem]; done) | (simp only [go_sem]; (try with_reducible rfl); done))); clear hs; (try clear w); intro w hs; (try simp only [zg, zh, zi, clk_set, opv_s0, opv_s1, opv_s2, opv_s3, actv_s0, actv_s1, actv_s2, actv_s3, actv_s4, rnd_s0, rnd_s17, lnk_s0, lnk_s1, lnk_s2, nov_s0, nov_s1, nov_s2, intv_set, bytv_set] at hs); simp only [Act.put, zg, zh, zi]))
            all_goals first
              | exact ⟨⟨j + 1, by omega, fun i hi => by
                  rcases Nat.lt_or_eq_of_le (Nat.le_of_lt_succ hi) with h1 | h1
                  · exact hal.out i h1
                  · subst h1; simpa using ‹(!okD (rs i)) = false›, by go_num, hs.mono (by ((repeat (first | (with_reducible (first | exact ent_refl | exact ent_emp)) | ((with_reducible apply ent_front); (focus with_reducible (repeat (first | exact ent_here | apply ent_next | exact ent_last)); done)) | (with_reducible (first | exact ent_keep | apply ent_trans ent_drop)))); done))⟩, by simp [intOf]; omega⟩
              | (go_ret; exact ⟨_, rfl, hs.mono (ent_pu (congrArg Value.bool (hfin.out (by simpa using ‹(!okD (rs j)) = true›)).symm) (by ((repeat (first | (with_reducible (first | exact ent_refl | exact ent_emp)) | ((with_reducible apply ent_front); (focus with_reducible (repeat (first | exact ent_here | apply ent_next | exact ent_last)); done)) | (with_reducible (first | exact ent_keep | apply ent_trans ent_drop)))); done)))⟩)
          · have hle : okDs rs = true := List.all_eq_true.2 fun i hi => hal.out i (by have := List.mem_range.1 hi; omega)
            have hM2 := hM.out
            rw [hle, Bool.true_and] at hM2
            replace hM2 := Lib.hid hM2
            go_wp2_with (first
        | ((with_reducible apply pl_call hs (rightClock_s _ _ _)); (go_must (((focus (simp only [zj, zk, zl, List.append_toArray, List.nil_append, List.cons_append, Act.eval, za, zb, zc, zd, ze, zf]; (try with_reducible rfl); done)); (focus ((repeat (first | (with_reducible (first | exact ent_refl | apply ent_puR)) | ((with_reducible apply ent_front); (focus with_reducible (repeat (first | exact ent_here | apply ent_next | exact ent_last)); done)) | (with_reducible (first | exact ent_keep | apply ent_trans ent_drop)) | (fail))); done)); (focus (simp only [go_sem]))))); clear hs; (try clear w); intro v w hq; (obtain ⟨rfl, hs⟩ := hq.pu); clear hq; (try simp only [star_assoc, star_emp, emp_star] at hs); (try simp only [Act.put, zg, zh, zi]))
        | ((with_reducible apply pl_loadN hs); (focus (simp only [Act.eval, za, zb, zc, zd, ze, zf]; (try with_reducible rfl); done)); (with_reducible (first | exact agg_23 | exact agg_26 | exact agg_28 | exact agg_76 | exact agg_78)); (focus ((repeat (first | (with_reducible (first | assumption | exact hel _ | exact hel2 _ | exact hel3 _)) | ((with_reducible apply reads_whole); (focus (first | (with_reducible rfl) | (simp only [go_sem]; done) | (simp; done)))) | ((with_reducible apply reads_part); (focus (first | (simp [go_sem]; done) | (simp only [go_sem]; omega) | go_size)); (focus (first | (simp only [Nat.reduceAdd, Nat.zero_add, go_sem]; (try with_reducible rfl); done) | (simp [go_sem]; (try with_reducible rfl); done)))) | (with_reducible (first | (apply reads_left; assumption) | refine reads_exh (by assumption) ?_ | refine reads_exh0 (by assumption) ?_ | apply reads_next)))); done)); (focus rfl); simp only [Act.put, zg, zh, zi]))
            go_ret
            exact ⟨_, rfl, hs.mono (ent_pu (congrArg Value.bool hM2.out.symm) (by ((repeat (first | (with_reducible (first | exact ent_refl | exact ent_emp)) | ((with_reducible apply ent_front); (focus with_reducible (repeat (first | exact ent_here | apply ent_next | exact ent_last)); done)) | (with_reducible (first | exact ent_keep | apply ent_trans ent_drop)))); done)))⟩)
end Go.Proofs.YtegebjflhhbmiaaDoor
