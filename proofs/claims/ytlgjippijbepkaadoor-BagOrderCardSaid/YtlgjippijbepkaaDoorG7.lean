/- The program's bag: Swap. -/
import Derived.Test.YtlgjippijbepkaaDoorG5
set_option linter.unusedSimpArgs false
set_option linter.unusedVariables false
namespace Go.Proofs.YtlgjippijbepkaaDoor
open Go Go.RowKit

@[go_sem ↓] theorem index_p2 (x i : Value) : Instr.index 75 x i = idxS 75 x i := (idxS_eq 75 x i).symm
@[go_sem] theorem idx_p2 (cs : Array Value) (k : IntKind) (i : Int) (w : World) : (idxS 75 (.agg cs) (.int k i)).run Tryd.prog w = idxArr Tryd.prog 75 2 cs k i w :=
  run_idxS Tryd.prog 75 3 2 _ Tryd.underlying75 Tryd.underlying3 rfl (by kernel_rfl) cs k i w
theorem swap_list {α : Type} {l : List α} {i j : Nat} {p q : α} (hi : l[i]? = some p) (hj : l[j]? = some q) : i < l.length ∧ j < l.length ∧ j < (l.set i q).length := by
  have h1 := (List.getElem?_eq_some_iff.1 hi).1
  have h2 := (List.getElem?_eq_some_iff.1 hj).1
  exact ⟨h1, h2, by rw [List.length_set]; exact h2⟩
set_option maxRecDepth 20000 in
set_option maxHeartbeats 2000000 in
theorem swap0_s (c0 : World) (F : HP) (a : Nat → Addr) (g : Nat) (m s i j : Int) (ts : List PclD) (x y z d : Int) : Spec Tryd.prog c0 16 #[.pointer (some ⟨g, 0, none⟩), .int .i64 i, .int .i64 j]
    (pu (ErrB F a ∧ ¬ ((0 ≤ i ∧ i < ts.length) ∧ (0 ≤ j ∧ j < ts.length))) (bagP g m s ts x y z d * F)) (fun r => RefP a (some ([⟨⟨#[98, 97, 103]⟩, ⟨#[83, 119, 97, 112]⟩, atV (if 0 ≤ i ∧ i < ts.length then j else i)⟩], 2)) r * (bagP g m s ts x y z d * F)) := by
  intro w hq; obtain ⟨⟨hE, hij⟩, hs⟩ := hq.pu; clear hq
  have hg2 : ReadC F 2 0 (.iface 113 (.pointer (some (a 2)))) := hE.ad 2 (by decide) (by decide)
  by_cases hi : 0 ≤ i ∧ i < ts.length
  · simp only [if_pos hi]
    have hj : ¬ (0 ≤ j ∧ j < ts.length) := fun h => hij ⟨hi, h⟩
    have hno := holds_no hj
    have hyes : decide (0 ≤ i ∧ i < (ts.length : Int)) = true := decide_eq_true hi
    replace hij := Lib.hid hij
    replace hi := Lib.hid hi
    replace hj := Lib.hid hj
    go_enter Tryd.func16, Tryd.ntmps16
    go_wp2_with (first
        | ((with_reducible apply pl_build hs); (focus (simp only [zj, zk, zl, Act.eval, za, zb, zc, zd, ze, zf]; (try with_reducible rfl); done)); (first | (with_reducible exact bld_9 _ _)); (focus rfl); simp only [Act.put, zg, zh, zi]))
    go_loopw [12] (fun k wr => (k = .int .i64 0 ∨ k = .int .i64 1) ∧ Sat c0 (bagP g m s ts x y z d * F) wr) (fun k _ => 2 - (intOf k).toNat)
    case atStart => exact ⟨.inl rfl, hs⟩
    case round =>
      clear hs
      obtain ⟨rfl | rfl, hs⟩ := hrel
      · go_wp2_with (first
        | ((with_reducible apply pl_call hs (holds_s _ _ _ m s _ ts x y z d)); (go_must (((focus (simp only [zj, zk, zl, List.append_toArray, List.nil_append, List.cons_append, Act.eval, za, zb, zc, zd, ze, zf]; (try with_reducible rfl); done)); (focus ((repeat (first | (with_reducible (first | exact ent_refl | apply ent_puR)) | ((with_reducible apply ent_front); (focus with_reducible (repeat (first | exact ent_here | apply ent_next | exact ent_last)); done)) | (with_reducible (first | exact ent_keep | apply ent_trans ent_drop)) | (fail))); done)); (focus (simp only [go_sem]))))); clear hs; (try clear w); intro v w hq; (obtain ⟨hv, hs⟩ := hq.pu; rw [hyes] at hv; subst hv); clear hq; (try simp only [star_assoc, star_emp, emp_star] at hs); (try simp only [Act.put, zg, zh, zi])))
        go_roundw
        case rel => exact ⟨by first | exact .inr rfl | exact .inr (.inl rfl), hs⟩
        case measure => simp [intOf]
      · go_wp2_with (first
        | ((with_reducible apply pl_call hs (holds_s _ _ _ m s _ ts x y z d)); (go_must (((focus (simp only [zj, zk, zl, List.append_toArray, List.nil_append, List.cons_append, Act.eval, za, zb, zc, zd, ze, zf]; (try with_reducible rfl); done)); (focus ((repeat (first | (with_reducible (first | exact ent_refl | apply ent_puR)) | ((with_reducible apply ent_front); (focus with_reducible (repeat (first | exact ent_here | apply ent_next | exact ent_last)); done)) | (with_reducible (first | exact ent_keep | apply ent_trans ent_drop)) | (fail))); done)); (focus (simp only [go_sem]))))); clear hs; (try clear w); intro v w hq; (obtain ⟨hv, hs⟩ := hq.pu; rw [hno] at hv; subst hv); clear hq; (try simp only [star_assoc, star_emp, emp_star] at hs); (try simp only [Act.put, zg, zh, zi]))
        | ((with_reducible apply pl_call hs (refusedB_s _ _ a _ _ 2)); (go_must (((focus (simp only [zj, zk, zl, List.append_toArray, List.nil_append, List.cons_append, Act.eval, za, zb, zc, zd, ze, zf]; (try with_reducible rfl); done)); (focus ((repeat (first | (with_reducible (first | exact ent_refl | apply ent_puR)) | ((with_reducible apply ent_front); (focus with_reducible (repeat (first | exact ent_here | apply ent_next | exact ent_last)); done)) | (with_reducible (first | exact ent_keep | apply ent_trans ent_drop)) | (focus (first | ((repeat' (first | (with_reducible apply And.intro) | omega)); done))))); done)); (focus (simp only [go_sem]))))); clear hs; (try clear w); intro v w hq; (have hs := hq); clear hq; (try simp only [star_assoc, star_emp, emp_star] at hs); (try simp only [Act.put, zg, zh, zi]))
        | ((with_reducible apply pl_load1 hs); (focus (simp only [Act.eval, za, zb, zc, zd, ze, zf]; (try with_reducible rfl); done)); (focus (simp only [go_sem])); (focus ((repeat (first | (with_reducible (first | assumption | exact hec _ | exact hec2 _ | exact hec3 _ | exact hec4 _ _)) | ((with_reducible apply readc_here); (focus (first | (simp only [zc, zd, ze, go_sem]; (try with_reducible rfl); done) | (go_simp; (try with_reducible rfl); done)))) | (with_reducible (first | (apply readc_left; assumption) | refine readc_exh (by assumption) ?_ | refine readc_exh0 (by assumption) ?_ | apply readc_next)))); done)); (focus rfl); simp only [Act.put, zg, zh, zi]))
        (go_ret; simp only [za, zb, zc, zd, ze, zf])
        exact ⟨_, rfl, hs⟩
  · simp only [if_neg hi]
    have hno := holds_no hi
    replace hij := Lib.hid hij
    replace hi := Lib.hid hi
    go_enter Tryd.func16, Tryd.ntmps16
    go_wp2_with (first
        | ((with_reducible apply pl_build hs); (focus (simp only [zj, zk, zl, Act.eval, za, zb, zc, zd, ze, zf]; (try with_reducible rfl); done)); (first | (with_reducible exact bld_9 _ _)); (focus rfl); simp only [Act.put, zg, zh, zi]))
    go_loopw [12] (fun k wr => k = .int .i64 0 ∧ Sat c0 (bagP g m s ts x y z d * F) wr) (fun k _ => 2 - (intOf k).toNat)
    case atStart => exact ⟨rfl, hs⟩
    case round =>
      clear hs
      obtain ⟨rfl, hs⟩ := hrel
      go_wp2_with (first
        | ((with_reducible apply pl_call hs (holds_s _ _ _ m s _ ts x y z d)); (go_must (((focus (simp only [zj, zk, zl, List.append_toArray, List.nil_append, List.cons_append, Act.eval, za, zb, zc, zd, ze, zf]; (try with_reducible rfl); done)); (focus ((repeat (first | (with_reducible (first | exact ent_refl | apply ent_puR)) | ((with_reducible apply ent_front); (focus with_reducible (repeat (first | exact ent_here | apply ent_next | exact ent_last)); done)) | (with_reducible (first | exact ent_keep | apply ent_trans ent_drop)) | (fail))); done)); (focus (simp only [go_sem]))))); clear hs; (try clear w); intro v w hq; (obtain ⟨hv, hs⟩ := hq.pu; rw [hno] at hv; subst hv); clear hq; (try simp only [star_assoc, star_emp, emp_star] at hs); (try simp only [Act.put, zg, zh, zi]))
        | ((with_reducible apply pl_call hs (refusedB_s _ _ a _ _ 2)); (go_must (((focus (simp only [zj, zk, zl, List.append_toArray, List.nil_append, List.cons_append, Act.eval, za, zb, zc, zd, ze, zf]; (try with_reducible rfl); done)); (focus ((repeat (first | (with_reducible (first | exact ent_refl | apply ent_puR)) | ((with_reducible apply ent_front); (focus with_reducible (repeat (first | exact ent_here | apply ent_next | exact ent_last)); done)) | (with_reducible (first | exact ent_keep | apply ent_trans ent_drop)) | (focus (first | ((repeat' (first | (with_reducible apply And.intro) | omega)); done))))); done)); (focus (simp only [go_sem]))))); clear hs; (try clear w); intro v w hq; (have hs := hq); clear hq; (try simp only [star_assoc, star_emp, emp_star] at hs); (try simp only [Act.put, zg, zh, zi]))
        | ((with_reducible apply pl_load1 hs); (focus (simp only [Act.eval, za, zb, zc, zd, ze, zf]; (try with_reducible rfl); done)); (focus (simp only [go_sem])); (focus ((repeat (first | (with_reducible (first | assumption | exact hec _ | exact hec2 _ | exact hec3 _ | exact hec4 _ _)) | ((with_reducible apply readc_here); (focus (first | (simp only [zc, zd, ze, go_sem]; (try with_reducible rfl); done) | (go_simp; (try with_reducible rfl); done)))) | (with_reducible (first | (apply readc_left; assumption) | refine readc_exh (by assumption) ?_ | refine readc_exh0 (by assumption) ?_ | apply readc_next)))); done)); (focus rfl); simp only [Act.put, zg, zh, zi]))
      (go_ret; simp only [za, zb, zc, zd, ze, zf])
      exact ⟨_, rfl, hs⟩
set_option maxRecDepth 20000 in
set_option maxHeartbeats 2000000 in
theorem swap_s (c0 : World) (F : HP) (g i j : Nat) (m s : Int) (ts : List PclD) (x y z d : Int) (p r0 : PclD) : Spec Tryd.prog c0 16 #[.pointer (some ⟨g, 0, none⟩), .int .i64 i, .int .i64 j]
    (pu (ts[i]? = some p ∧ ts[j]? = some r0 ∧ ts.length ≤ 1000000) (bagP g m s ts x y z d * F)) (fun r => pu (r = .nilIface) (bagP g m s ((ts.set i r0).set j p) x y z d * F)) := by
  intro w hq; obtain ⟨⟨hp, hr, hts⟩, hs⟩ := hq.pu; clear hq
  obtain ⟨hil, hjl, hjl2⟩ := swap_list hp hr
  have hyes := holds_yes hil
  have hyes2 := holds_yes hjl
  go_enter Tryd.func16, Tryd.ntmps16
  go_wp2_with (first
        | ((with_reducible apply pl_build hs); (focus (simp only [zj, zk, zl, Act.eval, za, zb, zc, zd, ze, zf]; (try with_reducible rfl); done)); (first | (with_reducible exact bld_9 _ _)); (focus rfl); simp only [Act.put, zg, zh, zi]))
  go_loopw [12] (fun k wr => (k = .int .i64 0 ∨ k = .int .i64 1 ∨ k = .int .i64 2) ∧ Sat c0 (bagP g m s ts x y z d * F) wr) (fun k _ => 2 - (intOf k).toNat)
  case atStart => exact ⟨.inl rfl, hs⟩
  case round =>
    clear hs
    obtain ⟨rfl | rfl | rfl, hs⟩ := hrel
    · go_wp2_with (first
        | ((with_reducible apply pl_call hs (holds_s _ _ _ m s _ ts x y z d)); (go_must (((focus (simp only [zj, zk, zl, List.append_toArray, List.nil_append, List.cons_append, Act.eval, za, zb, zc, zd, ze, zf]; (try with_reducible rfl); done)); (focus ((repeat (first | (with_reducible (first | exact ent_refl | apply ent_puR)) | ((with_reducible apply ent_front); (focus with_reducible (repeat (first | exact ent_here | apply ent_next | exact ent_last)); done)) | (with_reducible (first | exact ent_keep | apply ent_trans ent_drop)) | (fail))); done)); (focus (simp only [go_sem]))))); clear hs; (try clear w); intro v w hq; (obtain ⟨hv, hs⟩ := hq.pu; rw [hyes] at hv; subst hv); clear hq; (try simp only [star_assoc, star_emp, emp_star] at hs); (try simp only [Act.put, zg, zh, zi])))
      go_roundw
      case rel => exact ⟨by first | exact .inr rfl | exact .inr (.inl rfl), hs⟩
      case measure => simp [intOf]
    · go_wp2_with (first
        | ((with_reducible apply pl_call hs (holds_s _ _ _ m s _ ts x y z d)); (go_must (((focus (simp only [zj, zk, zl, List.append_toArray, List.nil_append, List.cons_append, Act.eval, za, zb, zc, zd, ze, zf]; (try with_reducible rfl); done)); (focus ((repeat (first | (with_reducible (first | exact ent_refl | apply ent_puR)) | ((with_reducible apply ent_front); (focus with_reducible (repeat (first | exact ent_here | apply ent_next | exact ent_last)); done)) | (with_reducible (first | exact ent_keep | apply ent_trans ent_drop)) | (fail))); done)); (focus (simp only [go_sem]))))); clear hs; (try clear w); intro v w hq; (obtain ⟨hv, hs⟩ := hq.pu; rw [hyes2] at hv; subst hv); clear hq; (try simp only [star_assoc, star_emp, emp_star] at hs); (try simp only [Act.put, zg, zh, zi])))
      go_roundw
      case rel => exact ⟨.inr (.inr rfl), hs⟩
      case measure => simp [intOf]
    · obtain ⟨A, c, c', h1, h2, h3, h4, hs⟩ := bag_open hs
      unfold maxLen at h4
      obtain ⟨ga, q1, rfl, hla, hel⟩ := row_at (E := 37) (A := A) (n := ts.length) (cap := c') (i := i) (l := ts) (hs.own.mono ent_left) pcl_size hil
      obtain rfl : p = q1 := Option.some.inj (hp.symm.trans hla)
      obtain ⟨ga', q2, hga, hlb, hel2⟩ := row_at (E := 37) (A := some ⟨ga, 0, none⟩) (n := ts.length) (cap := c') (i := j) (l := ts) (hs.own.mono ent_left) pcl_size hjl
      obtain rfl : ga = ga' := by simpa using hga
      obtain rfl : r0 = q2 := Option.some.inj (hr.symm.trans hlb)
      clear hga hla hlb
      replace hp := Lib.hid hp
      replace hr := Lib.hid hr
      go_wp2_with (first
        | ((with_reducible apply wp_region_mv (G := emp) (id := 7) hs 24 23 [9] [0, 1, 2, 3, 4, 5, 6, 7, 8, 10, 11, 12, 13, 14, 15, 16, 17, 18, 19, 20, 21, 22, 23, 24, 25, 26, 27]); (focus (exact ent_emp_l)); (focus kernel_rfl); (focus decide +kernel); clear hs; (try clear w); intro hR w hRR hs; (try simp only [star_assoc] at hs); simp only [zk, zl, List.getD_cons_zero, List.getD_cons_succ, movedA, moveOf, zc, Act.eval, Act.put, za, zb, zc, zd, ze, zf, zg, zh, zi])
        | ((with_reducible apply pl_storeRow hs); (focus (simp only [Act.eval, za, zb, zc, zd, ze, zf]; (try with_reducible rfl); done)); (focus with_reducible (repeat (first | exact ent_here | apply ent_next | exact ent_last)); done); (focus (simp only [Act.eval, za, zb, zc, zd, ze, zf]; (try with_reducible rfl); done)); (with_reducible (first | exact agg_37)); (focus (first | (with_reducible rfl) | (simp; done))); (focus (first | omega | (simp [go_sem]; omega) | (simp only [go_sem]; omega))); (focus (intro _; simp only [go_sem])); (focus (intro _; simp only [go_sem])); clear hs; (try clear w); intro w hs; skip; simp only [Act.put, zg, zh, zi])
        | (with_reducible refine And.intro rfl ?_)
        | ((with_reducible apply mix_thaw hRR hs); (focus with_reducible (repeat (first | exact ent_here | apply ent_next | exact ent_last)); done); clear hs; (try clear w); intro w hs; (try simp only [star_assoc, star_emp, emp_star] at hs); clear hRR hR)
        | ((with_reducible apply mx_loadN hRR); (focus (simp only [Act.eval, za, zb, zc, zd, ze, zf]; (try with_reducible rfl); done)); (with_reducible (first | exact agg_37)); (focus ((repeat (first | (with_reducible (first | assumption | exact hel _ | exact hel2 _ | exact hel3 _)) | ((with_reducible apply reads_whole); (focus (first | (with_reducible rfl) | (simp only [go_sem]; done) | (simp; done)))) | ((with_reducible apply reads_part); (focus (first | (simp [go_sem]; done) | (simp only [go_sem]; omega) | go_size)); (focus (first | (simp only [Nat.reduceAdd, Nat.zero_add, go_sem]; (try with_reducible rfl); done) | (simp [go_sem]; (try with_reducible rfl); done)))) | (with_reducible (first | (apply reads_left; assumption) | refine reads_exh (by assumption) ?_ | refine reads_exh0 (by assumption) ?_ | apply reads_next)))); done)); simp only [Act.put, zg, zh, zi])
        | ((with_reducible apply mx_load1 hRR); (focus (simp only [Act.eval, za, zb, zc, zd, ze, zf]; (try with_reducible rfl); done)); (focus (simp only [go_sem])); (focus ((repeat (first | (with_reducible (first | assumption | exact hec _ | exact hec2 _ | exact hec3 _ | exact hec4 _ _)) | ((with_reducible apply readc_here); (focus (first | (simp only [zc, zd, ze, go_sem]; (try with_reducible rfl); done) | (go_simp; (try with_reducible rfl); done)))) | (with_reducible (first | (apply readc_left; assumption) | refine readc_exh (by assumption) ?_ | refine readc_exh0 (by assumption) ?_ | apply readc_next)))); done)); simp only [Act.put, zg, zh, zi])
        | ((with_reducible refine mix_float ?_ ?_ ?_ (fun h hk => ?_) ?_); rotate_left 1; (focus rfl); (focus rfl); (focus (go_simp; (try (rw [if_pos (by omega)]; (try go_simp))); (try simp (disch := omega) only [IntWalk.i64_in, IntWalk.i32_in]); (try with_reducible rfl); done)); simp only [Act.put, zg, zh, zi]))
      (go_ret; simp only [za, zb, zc, zd, ze, zf])
      refine ⟨_, rfl, hs.mono (ent_pu rfl (ent_trans ent_left (bag_shut (A := some ⟨ga, 0, none⟩) (c := c) (c' := c') (n := ts.length) ⟨by simpa using h1, h2⟩ (by simp))))⟩
end Go.Proofs.YtlgjippijbepkaaDoor
