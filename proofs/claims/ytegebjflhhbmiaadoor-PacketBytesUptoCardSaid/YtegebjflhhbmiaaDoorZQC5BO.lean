/- The document's bytes: rounds. -/
import Derived.Test.YtegebjflhhbmiaaDoorZQC5BN
set_option linter.unusedSimpArgs false
set_option linter.unusedVariables false
namespace Go.Proofs.YtegebjflhhbmiaaDoor
open Go Go.RowKit

theorem rowE_small {c : Nat → Int} (h : ∀ i, i < 8 → 0 ≤ c i ∧ c i ≤ 2) {k : Nat} (hk : k < usedN c 8) : rowE c (k + 1) = rowE c k ++ [c k] := by
  have hu := usedN_le c 8
  obtain ⟨h1, h2⟩ := h k (by omega)
  rw [rowE_succ c hk, form_lo (by omega), Int.toNat_of_nonneg h1]
set_option maxRecDepth 20000 in
set_option maxHeartbeats 4000000 in
theorem rroundsB_s (c0 : World) (F : HP) (f : Nat → RoundD) : Spec Tryd.prog c0 53 #[.agg (rnds f)] (pu (∀ i, i < 8 → okD (f i) = true ∧ RoundDI (f i)) F) (fun r => row 5 1 bytv r (encRounds f) * F) := by
  intro w hq; obtain ⟨hI, hs⟩ := hq.pu; clear hq
  have hE := encRounds_eq f
  have hrl := rndE_len hI
  have hu := usedN_le (numsOf f) 8
  have hf8 := form_le8 hu
  have hsucc : ∀ k, k < usedN (numsOf f) 8 → rndE f (k + 1) = rndE f k ++ encRound (f k) := fun k => rndE_succ f
  have hz : rndE f 0 = [] := rfl
  have hst : ∀ k, usedN (numsOf f) (k + 1) = if (f k).num = 0 then usedN (numsOf f) k else k + 1 := fun k => rfl
  have hle : ∀ k, usedN (numsOf f) k ≤ k := usedN_le (numsOf f)
  have hz0 : usedN (numsOf f) 0 = 0 := rfl
  generalize encRounds f = E at *
  go_enter Tryd.func53, Tryd.ntmps53
  go_wp2_with (first
        | ((with_reducible apply pl_box hs); (focus (simp only [Act.eval, za, zb, zc, zd, ze, zf]; (try with_reducible rfl); done)); (focus (first | (with_reducible (first | exact cells_intv _ | exact cells_bytv _ | exact cells_agg _ | exact cells_int _ _ | exact cells_bool _ | exact cells_string _ | exact cells_slice _ _ _ | exact cells_pointer _ | exact cells_map _ | exact cells_iface _ _ | exact cells_nilIface | exact cells_func _ _ _)) | (exact cells_one (by assumption)))); clear hs; (try clear w); intro g w hs; skip; simp only [Act.put, zg, zh, zi]))
  (obtain ⟨gy, hgg⟩ : ∃ x, x = g := ⟨_, rfl⟩); subst hgg
  go_loopw [3, 4] (fun u i wr => ∃ k : Nat, k ≤ 8 ∧ u = .int .i64 (usedN (numsOf f) k : Nat) ∧ i = .int .i64 k ∧ Sat c0 (blk gy (.cells (rnds f) 28 (0, 0)) * F) wr) (fun _ i _ => 8 - (intOf i).toNat)
  case atStart => exact ⟨0, by omega, by rw [hz0]; rfl, rfl, hs⟩
  case round =>
    clear hs
    obtain ⟨k, hk, rfl, rfl, hs⟩ := hrel
    by_cases hlt : k < 8
    · have hlt' : (k : Int) < 8 := by omega
      have hstk := hst k
      have hel : ∀ R, Reads (blk gy (.cells (rnds f) 28 (0, 0)) * R) gy (k * 18) 18 (rnd (f k)) := fun R => reads_part (by rw [rnds_size]; omega) (rnds_extract f k hlt)
      have hec : ∀ R, ReadC (blk gy (.cells (rnds f) 28 (0, 0)) * R) gy (k * 18) (.int .i64 (f k).num) := fun R => by have := (hel R).cell (i := 0) (by omega) (rnd_0 (f k)); simpa using this
      by_cases hc : (f k).num = 0
      · rw [if_pos hc] at hstk
        go_wp2_with (first
        | ((with_reducible apply pl_load1 hs); (focus (simp only [Act.eval, za, zb, zc, zd, ze, zf]; (try with_reducible rfl); done)); (focus (simp only [go_sem])); (focus ((repeat (first | (with_reducible (first | assumption | exact hec _ | exact hec2 _ | exact hec3 _ | exact hec4 _ _)) | ((with_reducible apply readc_here); (focus (first | (simp only [zc, zd, ze, go_sem]; (try with_reducible rfl); done) | (go_simp; (try with_reducible rfl); done)))) | (with_reducible (first | (apply readc_left; assumption) | refine readc_exh (by assumption) ?_ | refine readc_exh0 (by assumption) ?_ | apply readc_next)))); done)); (focus rfl); simp only [Act.put, zg, zh, zi]))
        exact ⟨⟨k + 1, by omega, by rw [hstk], by go_num, hs⟩, by simp [intOf]; omega⟩
      · rw [if_neg hc] at hstk
        go_wp2_with (first
        | ((with_reducible apply pl_load1 hs); (focus (simp only [Act.eval, za, zb, zc, zd, ze, zf]; (try with_reducible rfl); done)); (focus (simp only [go_sem])); (focus ((repeat (first | (with_reducible (first | assumption | exact hec _ | exact hec2 _ | exact hec3 _ | exact hec4 _ _)) | ((with_reducible apply readc_here); (focus (first | (simp only [zc, zd, ze, go_sem]; (try with_reducible rfl); done) | (go_simp; (try with_reducible rfl); done)))) | (with_reducible (first | (apply readc_left; assumption) | refine readc_exh (by assumption) ?_ | refine readc_exh0 (by assumption) ?_ | apply readc_next)))); done)); (focus rfl); simp only [Act.put, zg, zh, zi]))
        exact ⟨⟨k + 1, by omega, by rw [hstk]; go_num, by go_num, hs⟩, by simp [intOf]; omega⟩
    · obtain rfl : k = 8 := by omega
      clear hst hle hz0
      generalize hnu : usedN (numsOf f) 8 = n at *
      replace hnu := Lib.hid hnu
      replace hE := Lib.hid hE
      replace hsucc := Lib.hid hsucc
      replace hrl := Lib.hid hrl
      replace hI := Lib.hid hI
      go_wp2_with (first
        | ((with_reducible apply pl_call hs (form_s _ _ n)); (go_must (((focus (simp only [zj, zk, zl, List.append_toArray, List.nil_append, List.cons_append, Act.eval, za, zb, zc, zd, ze, zf]; (try with_reducible rfl); done)); (focus ((repeat (first | (with_reducible (first | exact ent_refl | apply ent_puR)) | ((with_reducible apply ent_front); (focus with_reducible (repeat (first | exact ent_here | apply ent_next | exact ent_last)); done)) | (with_reducible (first | exact ent_keep | apply ent_trans ent_drop)) | (focus (first | ((repeat' (first | omega)); done))))); done)); (focus (simp only [go_sem]))))); clear hs; (try clear w); intro v w hq; (have hs := hq; obtain ⟨Af, cf, rfl, hf1, hf2⟩ := row_slice hs.own); clear hq; (try simp only [star_assoc, star_emp, emp_star] at hs); (try simp only [Act.put, zg, zh, zi])))
      go_loopw [5, 6] (fun v i wr => ∃ k : Nat, k ≤ n ∧ i = .int .i64 k ∧ Sat c0 (row 5 1 bytv v (form n ++ rndE f k) * (blk gy (.cells (rnds f) 28 (0, 0)) * F)) wr) (fun _ i _ => n - (intOf i).toNat)
      case atStart => exact ⟨0, by omega, rfl, by rw [hz, List.append_nil]; exact hs⟩
      case round =>
        clear hs hk hlt
        obtain ⟨k, hk, rfl, hs⟩ := hrel
        obtain ⟨B, d, rfl, hd1, hd2⟩ := row_slice hs.own
        have hL : (form n ++ rndE f k).length + 500 ≤ 100000 := by have := hrl.out k; rw [List.length_append]; omega
        by_cases hlt : k < n
        · have hlt' : (k : Int) < n := by omega
          have hk8 : k < 8 := by omega
          have hel : ∀ R, Reads (blk gy (.cells (rnds f) 28 (0, 0)) * R) gy (k * 18) 18 (rnd (f k)) := fun R => reads_part (by rw [rnds_size]; omega) (rnds_extract f k hk8)
          have hsu : form n ++ rndE f (k + 1) = form n ++ rndE f k ++ encRound (f k) := by rw [hsucc.out k hlt, List.append_assoc]
          obtain ⟨hD, hDI⟩ := hI.out k hk8
          generalize f k = r at *
          obtain ⟨h1, h2, h3, h4, h5, h6⟩ := (okD_iff r).1 hD
          have hp := hDI.num
          have hcI := hDI.cut
          unfold InI at hp
          unfold ClkI InI at hcI
          have hck : ∀ i, i < 8 → 0 ≤ r.cut i ∧ r.cut i ≤ mst := fun i hi => ⟨h5 i hi, by have := hcI i hi; have hmst : mst = 9223372036854775807 := rfl; omega⟩
          have hcv : ∀ i, i < 8 → 0 ≤ r.votes i ∧ r.votes i ≤ mst := fun i hi => ⟨(h6 i hi).1, by have := h6 i hi; have hmst : mst = 9223372036854775807 := rfl; omega⟩
          have hec1 := encRow_len fun i hi => (hck i hi).2
          have hvl := rowE_len fun i hi => (hcv i hi).2
          have hve := encRow_eq r.votes
          have hvs : ∀ j, j < usedN r.votes 8 → rowE r.votes (j + 1) = rowE r.votes j ++ [r.votes j] := fun j hj => rowE_small h6 hj
          have hvz : rowE r.votes 0 = [] := rfl
          have hst : ∀ k, usedN r.votes (k + 1) = if r.votes k = 0 then usedN r.votes k else k + 1 := fun k => rfl
          have hle := usedN_le r.votes
          have hz0 : usedN r.votes 0 = 0 := rfl
          have hmst : mst = 9223372036854775807 := rfl
          have hle1 : r.num ≤ mst := by omega
          have e1 := form9 hle1
          clear hD hDI h2 h5 hcI
          replace hsu := Lib.hid hsu
          generalize form n ++ rndE f k = L1 at *
          have a1 : (L1 ++ form r.num.toNat).length ≤ L1.length + 9 := by rw [List.length_append]; omega
          have a2 : (L1 ++ form r.num.toNat ++ encRow r.cut).length ≤ L1.length + 82 := by rw [List.length_append]; omega
          go_wp2_with (first
        | ((with_reducible apply pl_call hs (formI_s _ _ _)); (go_must (((focus (simp only [zj, zk, zl, List.append_toArray, List.nil_append, List.cons_append, Act.eval, za, zb, zc, zd, ze, zf]; (try with_reducible rfl); done)); (focus ((repeat (first | (with_reducible (first | exact ent_refl | apply ent_puR)) | ((with_reducible apply ent_front); (focus with_reducible (repeat (first | exact ent_here | apply ent_next | exact ent_last)); done)) | (with_reducible (first | exact ent_keep | apply ent_trans ent_drop)) | (focus (first | ((repeat' (first | (with_reducible assumption) | (with_reducible apply And.intro))); done))))); done)); (focus (simp only [go_sem]))))); clear hs; (try clear w); intro v w hq; (have hs := hq; obtain ⟨Ag, cg, rfl, hg1, hg2⟩ := row_slice hs.own); clear hq; (try simp only [star_assoc, star_emp, emp_star] at hs); (try simp only [Act.put, zg, zh, zi]))
        | ((with_reducible apply pl_call hs (rclock_s _ _ r.cut)); (go_must (((focus (simp only [zj, zk, zl, List.append_toArray, List.nil_append, List.cons_append, Act.eval, za, zb, zc, zd, ze, zf]; (try with_reducible rfl); done)); (focus ((repeat (first | (with_reducible (first | exact ent_refl | apply ent_puR)) | ((with_reducible apply ent_front); (focus with_reducible (repeat (first | exact ent_here | apply ent_next | exact ent_last)); done)) | (with_reducible (first | exact ent_keep | apply ent_trans ent_drop)) | (focus (first | (with_reducible assumption))))); done)); (focus (simp only [go_sem]))))); clear hs; (try clear w); intro v w hq; (have hs := hq; obtain ⟨Ag, cg, rfl, hg1, hg2⟩ := row_slice hs.own); clear hq; (try simp only [star_assoc, star_emp, emp_star] at hs); (try simp only [Act.put, zg, zh, zi]))
        | ((with_reducible apply pl_loadN hs); (focus (simp only [Act.eval, za, zb, zc, zd, ze, zf]; (try with_reducible rfl); done)); (with_reducible (first | exact agg_23 | exact agg_26)); (focus ((repeat (first | (with_reducible (first | assumption | exact hel _ | exact hel2 _ | exact hel3 _)) | ((with_reducible apply reads_whole); (focus (first | (with_reducible rfl) | (simp only [go_sem]; done) | (simp; done)))) | ((with_reducible apply reads_part); (focus (first | (simp [go_sem]; done) | (simp only [go_sem]; omega) | go_size)); (focus (first | (simp only [Nat.reduceAdd, Nat.zero_add, go_sem]; (try with_reducible rfl); done) | (simp [go_sem]; (try with_reducible rfl); done)))) | (with_reducible (first | (apply reads_left; assumption) | refine reads_exh (by assumption) ?_ | refine reads_exh0 (by assumption) ?_ | apply reads_next)))); done)); (focus rfl); simp only [Act.put, zg, zh, zi])
        | ((with_reducible apply pl_load1 hs); (focus (simp only [Act.eval, za, zb, zc, zd, ze, zf]; (try with_reducible rfl); done)); (focus (simp only [go_sem])); (focus ((repeat (first | (with_reducible (first | assumption | exact hec _ | exact hec2 _ | exact hec3 _ | exact hec4 _ _)) | ((with_reducible apply readc_here); (focus (first | (simp only [zc, zd, ze, go_sem]; (try with_reducible rfl); done) | (go_simp; (try with_reducible rfl); done)))) | (with_reducible (first | (apply readc_left; assumption) | refine readc_exh (by assumption) ?_ | refine readc_exh0 (by assumption) ?_ | apply readc_next)))); done)); (focus rfl); simp only [Act.put, zg, zh, zi])
        | ((with_reducible apply pl_alloc hs); (with_reducible (first | exact zero_26)); clear hs; (try clear w); intro g w hs; skip; simp only [Act.put, zg, zh, zi])
        | ((with_reducible apply pl_storeN hs); (focus (simp only [Act.eval, za, zb, zc, zd, ze, zf]; (try with_reducible rfl); done)); (focus (simp only [Act.eval, za, zb, zc, zd, ze, zf]; (try with_reducible rfl); done)); (with_reducible (first | exact agg_26)); (focus with_reducible (repeat (first | exact ent_here | apply ent_next | exact ent_last)); done); (focus (first | (with_reducible rfl) | (simp only [go_sem]; done) | (simp; done))); (focus (first | (simp [go_sem]; done) | (simp only [go_sem]; omega) | go_size)); (focus (first | (simp only [go_sem]; done) | (simp [go_sem]; done))); (focus (first | ((with_reducible apply splice_whole); (focus (first | (with_reducible rfl) | (simp only [go_sem]; done) | (simp; done)))) | (simp [splice, go_sem]; done) | (simp only [go_sem]; (try with_reducible rfl); done))); clear hs; (try clear w); intro w hs; (try simp only [zg, zh, zi, clk_set, opv_s0, opv_s1, opv_s2, opv_s3, actv_s0, actv_s1, actv_s2, actv_s3, actv_s4, rnd_s0, rnd_s17, lnk_s0, lnk_s1, lnk_s2, nov_s0, nov_s1, nov_s2, intv_set, bytv_set] at hs); simp only [Act.put, zg, zh, zi])
        | ((with_reducible apply pl_appendN hs); (with_reducible (first | exact app_24 | exact app_32 | exact app_45 | exact app_46 | exact app_47 | exact app_122)); (focus (simp only [Act.eval, za, zb, zc, zd, ze, zf]; (try with_reducible rfl); done)); (first | (focus with_reducible (repeat (first | exact ent_here | apply ent_next | exact ent_last)); done) | (focus (with_reducible exact ent_row_nil)) | (focus ((with_reducible apply ent_row_of_blk); (focus with_reducible (repeat (first | exact ent_here | apply ent_next | exact ent_last)); done); (focus (simp only [go_sem]))))); (focus (simp only [Act.eval, za, zb, zc, zd, ze, zf]; (try with_reducible rfl); done)); (focus (first | ((repeat (first | (with_reducible (first | assumption | exact slr_ro |  exact hsl _ | exact hsl2 _ | exact hsl3 _ _ _ | exact slr_nil | exact slr_row (fun _ => by simp only [go_sem]) | exact slr_one (fun _ => by simp only [go_sem]) | (apply slr_left; assumption))) | (with_reducible apply slr_next))); done) | ((repeat (first | (with_reducible (first | assumption | exact slr_ro |  exact hsl _ | exact hsl2 _ | exact hsl3 _ _ _ | exact slr_nil | exact slr_row (fun _ => by simp only [go_sem]) | exact slr_one (fun _ => by simp only [go_sem]) | (apply slr_left; assumption))) | (with_reducible (first | (apply slr_exh; focus assumption) | (apply slr_exh0; focus assumption) | apply slr_next)))); done))); (focus (first | (simp only [maxLen] at *; omega) | (simp [maxLen] at *; omega))); (focus (first | (simp only [maxLen] at *; omega) | (simp [maxLen] at *; omega))); clear hs; (try clear w); intro Ap cq w hs; (try simp only [List.length_nil, Nat.zero_add, List.nil_append] at hs ⊢); simp only [Act.put, zg, zh, zi]))
          · have hk1 : r.num = 0 := by simpa using ‹(r.num == 0) = true›
            exact ⟨⟨k + 1, by omega, by go_num, hs.mono (by rw [hsu.out, show L1 ++ encRound r = L1 ++ form r.num.toNat by unfold encRound; rw [if_pos hk1]; simp [List.append_assoc]]; ((repeat (first | (with_reducible (first | exact ent_refl | exact ent_emp)) | ((with_reducible apply ent_front); (focus with_reducible (repeat (first | exact ent_here | apply ent_next | exact ent_last)); done)) | (with_reducible (first | exact ent_keep | apply ent_trans ent_drop)))); done))⟩, by simp [intOf]; omega⟩
          have hk1 : ¬ r.num = 0 := by simpa using ‹(r.num == 0) = false›
          have hen : L1 ++ encRound r = L1 ++ form r.num.toNat ++ encRow r.cut ++ (form (usedN r.votes 8) ++ rowE r.votes (usedN r.votes 8)) ++ [r.dec] := by
            unfold encRound
            rw [if_neg hk1, hve, form_lo (n := r.dec.toNat) (by omega), Int.toNat_of_nonneg h3]
            simp [List.append_assoc]
          replace hen := Lib.hid hen
          have hll : (L1 ++ form r.num.toNat).length + (encRow r.cut).length = (L1 ++ form r.num.toNat ++ encRow r.cut).length := by simp [Nat.add_assoc]
          have hll2 : L1.length + (form r.num.toNat).length + (encRow r.cut).length = (L1 ++ form r.num.toNat ++ encRow r.cut).length := by simp [Nat.add_assoc]
          rw [hll] at hs
          rw [hll2]
          clear hll hll2
          have hq1 := a2
          generalize L1 ++ form r.num.toNat ++ encRow r.cut = L2 at *
          have hmst : mst = 9223372036854775807 := rfl
          replace hs : Sat c0 (row 5 1 bytv (Value.slice Ap L2.length cq) L2 * (blk g (.cells (rnd r) 26 (0, 0)) * (blk gy (.cells (rnds f) 28 (0, 0)) * F))) w := hs.mono (by ((repeat (first | (with_reducible (first | exact ent_refl | exact ent_emp)) | ((with_reducible apply ent_front); (focus with_reducible (repeat (first | exact ent_here | apply ent_next | exact ent_last)); done)) | (with_reducible (first | exact ent_keep | apply ent_trans ent_drop)))); done))
          generalize hH1 : blk gy (.cells (rnds f) 28 (0, 0)) * F = H1 at *
          clear hel hmst
          go_loopw [8, 9] (fun u i wr => ∃ j : Nat, j ≤ 8 ∧ u = .int .i64 (usedN r.votes j : Nat) ∧ i = .int .i64 j ∧ Sat c0 (row 5 1 bytv (Value.slice Ap L2.length cq) L2 * (blk g (.cells (rnd r) 26 (0, 0)) * H1)) wr) (fun _ i _ => 8 - (intOf i).toNat)
          case atStart => exact ⟨0, by omega, by rw [hz0]; rfl, rfl, hs⟩
          case round =>
            clear hs
            obtain ⟨j, hj, rfl, rfl, hs⟩ := hrel
            by_cases hltj : j < 8
            · have hlt' : (j : Int) < 8 := by omega
              have hstk := hst j
              have hec : ∀ R, ReadC (blk g (.cells (rnd r) 26 (0, 0)) * R) g (9 + j) (.int .i64 (r.votes j)) := fun R => readc_here (rnd_clk9 r j hltj)
              by_cases hc : r.votes j = 0
              · rw [if_pos hc] at hstk
                go_wp2_with (first
        | ((with_reducible apply pl_load1 hs); (focus (simp only [Act.eval, za, zb, zc, zd, ze, zf]; (try with_reducible rfl); done)); (focus (simp only [go_sem])); (focus ((repeat (first | (with_reducible (first | assumption | exact hec _ | exact hec2 _ | exact hec3 _ | exact hec4 _ _)) | ((with_reducible apply readc_here); (focus (first | (simp only [zc, zd, ze, go_sem]; (try with_reducible rfl); done) | (go_simp; (try with_reducible rfl); done)))) | (with_reducible (first | (apply readc_left; assumption) | refine readc_exh (by assumption) ?_ | refine readc_exh0 (by assumption) ?_ | apply readc_next)))); done)); (focus rfl); simp only [Act.put, zg, zh, zi]))
                exact ⟨⟨j + 1, by omega, by rw [hstk], by go_num, hs⟩, by simp [intOf]; omega⟩
              · rw [if_neg hc] at hstk
                go_wp2_with (first
        | ((with_reducible apply pl_load1 hs); (focus (simp only [Act.eval, za, zb, zc, zd, ze, zf]; (try with_reducible rfl); done)); (focus (simp only [go_sem])); (focus ((repeat (first | (with_reducible (first | assumption | exact hec _ | exact hec2 _ | exact hec3 _ | exact hec4 _ _)) | ((with_reducible apply readc_here); (focus (first | (simp only [zc, zd, ze, go_sem]; (try with_reducible rfl); done) | (go_simp; (try with_reducible rfl); done)))) | (with_reducible (first | (apply readc_left; assumption) | refine readc_exh (by assumption) ?_ | refine readc_exh0 (by assumption) ?_ | apply readc_next)))); done)); (focus rfl); simp only [Act.put, zg, zh, zi]))
                exact ⟨⟨j + 1, by omega, by rw [hstk]; go_num, by go_num, hs⟩, by simp [intOf]; omega⟩
            · obtain rfl : j = 8 := by omega
              have hfm := form_le8 (hle 8)
              have hm8 := hle 8
              clear hst hle hz0 hltj
              generalize hm : usedN r.votes 8 = m at *
              replace hm := Lib.hid hm
              replace hvs := Lib.hid hvs
              replace hvl := Lib.hid hvl
              go_wp2_with (first
        | ((with_reducible apply pl_call hs (form_s _ _ m)); (go_must (((focus (simp only [zj, zk, zl, List.append_toArray, List.nil_append, List.cons_append, Act.eval, za, zb, zc, zd, ze, zf]; (try with_reducible rfl); done)); (focus ((repeat (first | (with_reducible (first | exact ent_refl | apply ent_puR)) | ((with_reducible apply ent_front); (focus with_reducible (repeat (first | exact ent_here | apply ent_next | exact ent_last)); done)) | (with_reducible (first | exact ent_keep | apply ent_trans ent_drop)) | (focus (first | ((repeat' (first | omega)); done))))); done)); (focus (simp only [go_sem]))))); clear hs; (try clear w); intro v w hq; (have hs := hq; obtain ⟨Af, cf, rfl, hf1, hf2⟩ := row_slice hs.own); clear hq; (try simp only [star_assoc, star_emp, emp_star] at hs); (try simp only [Act.put, zg, zh, zi]))
        | ((with_reducible apply pl_appendN hs); (with_reducible (first | exact app_24 | exact app_32 | exact app_45 | exact app_46 | exact app_47 | exact app_122)); (focus (simp only [Act.eval, za, zb, zc, zd, ze, zf]; (try with_reducible rfl); done)); (first | (focus with_reducible (repeat (first | exact ent_here | apply ent_next | exact ent_last)); done) | (focus (with_reducible exact ent_row_nil)) | (focus ((with_reducible apply ent_row_of_blk); (focus with_reducible (repeat (first | exact ent_here | apply ent_next | exact ent_last)); done); (focus (simp only [go_sem]))))); (focus (simp only [Act.eval, za, zb, zc, zd, ze, zf]; (try with_reducible rfl); done)); (focus (first | ((repeat (first | (with_reducible (first | assumption | exact slr_ro |  exact hsl _ | exact hsl2 _ | exact hsl3 _ _ _ | exact slr_nil | exact slr_row (fun _ => by simp only [go_sem]) | exact slr_one (fun _ => by simp only [go_sem]) | (apply slr_left; assumption))) | (with_reducible apply slr_next))); done) | ((repeat (first | (with_reducible (first | assumption | exact slr_ro |  exact hsl _ | exact hsl2 _ | exact hsl3 _ _ _ | exact slr_nil | exact slr_row (fun _ => by simp only [go_sem]) | exact slr_one (fun _ => by simp only [go_sem]) | (apply slr_left; assumption))) | (with_reducible (first | (apply slr_exh; focus assumption) | (apply slr_exh0; focus assumption) | apply slr_next)))); done))); (focus (first | (simp only [maxLen] at *; omega) | (simp [maxLen] at *; omega))); (focus (first | (simp only [maxLen] at *; omega) | (simp [maxLen] at *; omega))); clear hs; (try clear w); intro Ap cq w hs; (try simp only [List.length_nil, Nat.zero_add, List.nil_append] at hs ⊢); simp only [Act.put, zg, zh, zi]))
              go_loopw [5, 10] (fun v i wr => ∃ j : Nat, j ≤ m ∧ i = .int .i64 j ∧ Sat c0 (row 5 1 bytv v (L2 ++ form m ++ rowE r.votes j) * (blk g (.cells (rnd r) 26 (0, 0)) * H1)) wr) (fun _ i _ => m - (intOf i).toNat)
              case atStart => exact ⟨0, by omega, rfl, by rw [hvz, List.append_nil]; exact hs.mono (by ((repeat (first | (with_reducible (first | exact ent_refl | exact ent_emp)) | ((with_reducible apply ent_front); (focus with_reducible (repeat (first | exact ent_here | apply ent_next | exact ent_last)); done)) | (with_reducible (first | exact ent_keep | apply ent_trans ent_drop)))); done))⟩
              case round =>
                clear hs hd1 hd2 hf1 hf2 hg1 hg2
                obtain ⟨j, hj, rfl, hs⟩ := hrel
                obtain ⟨B, d, rfl, hd1, hd2⟩ := row_slice hs.own
                have hL3 : (L2 ++ form m ++ rowE r.votes j).length + 300 ≤ 100000 := by have := hvl.out j; rw [List.length_append, List.length_append]; omega
                by_cases hltj : j < m
                · have hlt' : (j : Int) < m := by omega
                  have hj8 : j < 8 := by omega
                  have hj8' : (j : Int) < 8 := by omega
                  have hec : ∀ R, ReadC (blk g (.cells (rnd r) 26 (0, 0)) * R) g (9 + j) (.int .i64 (r.votes j)) := fun R => readc_here (rnd_clk9 r j hj8)
                  obtain ⟨v1, v2⟩ := h6 j hj8
                  have hsv : L2 ++ form m ++ rowE r.votes (j + 1) = L2 ++ form m ++ rowE r.votes j ++ [r.votes j] := by rw [hvs.out j hltj, List.append_assoc _ (rowE r.votes j)]
                  replace hsv := Lib.hid hsv
                  generalize L2 ++ form m ++ rowE r.votes j = L at *
                  go_wp2_with (first
        | ((with_reducible apply pl_load1 hs); (focus (simp only [Act.eval, za, zb, zc, zd, ze, zf]; (try with_reducible rfl); done)); (focus (simp only [go_sem])); (focus ((repeat (first | (with_reducible (first | assumption | exact hec _ | exact hec2 _ | exact hec3 _ | exact hec4 _ _)) | ((with_reducible apply readc_here); (focus (first | (simp only [zc, zd, ze, go_sem]; (try with_reducible rfl); done) | (go_simp; (try with_reducible rfl); done)))) | (with_reducible (first | (apply readc_left; assumption) | refine readc_exh (by assumption) ?_ | refine readc_exh0 (by assumption) ?_ | apply readc_next)))); done)); (focus rfl); simp only [Act.put, zg, zh, zi])
        | ((with_reducible apply pl_bs1 hs); (with_reducible (first | exact bst_32)); (focus (simp only [Act.eval, za, zb, zc, zd, ze, zf]; (try with_reducible rfl); done)); (focus (first | (with_reducible (first | exact cells_intv _ | exact cells_bytv _ | exact cells_agg _ | exact cells_int _ _ | exact cells_bool _ | exact cells_string _ | exact cells_slice _ _ _ | exact cells_pointer _ | exact cells_map _ | exact cells_iface _ _ | exact cells_nilIface | exact cells_func _ _ _)) | (exact cells_one (by assumption)))); (focus (first | (with_reducible rfl) | (simp only [go_sem]; done) | (simp; done))); clear hs; (try clear w); intro g w hs; skip; simp only [Act.put, zg, zh, zi])
        | ((with_reducible apply pl_append1 hs); (with_reducible (first | exact app_24 | exact app_32 | exact app_45 | exact app_46 | exact app_47 | exact app_122)); (focus (simp only [Act.eval, za, zb, zc, zd, ze, zf]; (try with_reducible rfl); done)); (first | (focus with_reducible (repeat (first | exact ent_here | apply ent_next | exact ent_last)); done) | (focus (with_reducible exact ent_row_nil)) | (focus ((with_reducible apply ent_row_of_blk); (focus with_reducible (repeat (first | exact ent_here | apply ent_next | exact ent_last)); done); (focus (simp only [go_sem]))))); (focus (simp only [Act.eval, za, zb, zc, zd, ze, zf]; (try with_reducible rfl); done)); (focus ((repeat (first | (with_reducible (first | assumption | exact hel _ | exact hel2 _ | exact hel3 _)) | ((with_reducible apply reads_whole); (focus (first | (with_reducible rfl) | (simp only [go_sem]; done) | (simp; done)))) | ((with_reducible apply reads_part); (focus (first | (simp [go_sem]; done) | (simp only [go_sem]; omega) | go_size)); (focus (first | (simp only [Nat.reduceAdd, Nat.zero_add, go_sem]; (try with_reducible rfl); done) | (simp [go_sem]; (try with_reducible rfl); done)))) | (with_reducible (first | (apply reads_left; assumption) | refine reads_exh (by assumption) ?_ | refine reads_exh0 (by assumption) ?_ | apply reads_next)))); done)); (focus (first | (simp only [maxLen] at *; omega) | (simp [maxLen] at *; omega))); (focus (first | (simp only [maxLen] at *; omega) | (simp [maxLen] at *; omega))); clear hs; (try clear w); intro Ap cq w hs; skip; simp only [Act.put, zg, zh, zi]))
                  exact ⟨⟨j + 1, by omega, by go_num, by rw [hsv.out]; exact hs.mono (by ((repeat (first | (with_reducible (first | exact ent_refl | exact ent_emp)) | ((with_reducible apply ent_front); (focus with_reducible (repeat (first | exact ent_here | apply ent_next | exact ent_last)); done)) | (with_reducible (first | exact ent_keep | apply ent_trans ent_drop)))); done))⟩, by simp [intOf]; omega⟩
                · have hlt' : ¬ (j : Int) < m := by omega
                  have hfin : L2 ++ form m ++ rowE r.votes j = L2 ++ (form m ++ rowE r.votes m) := by rw [List.append_assoc, show j = m by omega]
                  rw [hfin] at hs hd1 hL3 ⊢
                  generalize L2 ++ (form m ++ rowE r.votes m) = L at *
                  subst hH1
                  go_wp2_with (first
        | ((with_reducible apply pl_load1 hs); (focus (simp only [Act.eval, za, zb, zc, zd, ze, zf]; (try with_reducible rfl); done)); (focus (simp only [go_sem])); (focus ((repeat (first | (with_reducible (first | assumption | exact hec _ | exact hec2 _ | exact hec3 _ | exact hec4 _ _)) | ((with_reducible apply readc_here); (focus (first | (simp only [zc, zd, ze, go_sem]; (try with_reducible rfl); done) | (go_simp; (try with_reducible rfl); done)))) | (with_reducible (first | (apply readc_left; assumption) | refine readc_exh (by assumption) ?_ | refine readc_exh0 (by assumption) ?_ | apply readc_next)))); done)); (focus rfl); simp only [Act.put, zg, zh, zi])
        | ((with_reducible apply pl_bs1 hs); (with_reducible (first | exact bst_32)); (focus (simp only [Act.eval, za, zb, zc, zd, ze, zf]; (try with_reducible rfl); done)); (focus (first | (with_reducible (first | exact cells_intv _ | exact cells_bytv _ | exact cells_agg _ | exact cells_int _ _ | exact cells_bool _ | exact cells_string _ | exact cells_slice _ _ _ | exact cells_pointer _ | exact cells_map _ | exact cells_iface _ _ | exact cells_nilIface | exact cells_func _ _ _)) | (exact cells_one (by assumption)))); (focus (first | (with_reducible rfl) | (simp only [go_sem]; done) | (simp; done))); clear hs; (try clear w); intro g w hs; skip; simp only [Act.put, zg, zh, zi])
        | ((with_reducible apply pl_append1 hs); (with_reducible (first | exact app_24 | exact app_32 | exact app_45 | exact app_46 | exact app_47 | exact app_122)); (focus (simp only [Act.eval, za, zb, zc, zd, ze, zf]; (try with_reducible rfl); done)); (first | (focus with_reducible (repeat (first | exact ent_here | apply ent_next | exact ent_last)); done) | (focus (with_reducible exact ent_row_nil)) | (focus ((with_reducible apply ent_row_of_blk); (focus with_reducible (repeat (first | exact ent_here | apply ent_next | exact ent_last)); done); (focus (simp only [go_sem]))))); (focus (simp only [Act.eval, za, zb, zc, zd, ze, zf]; (try with_reducible rfl); done)); (focus ((repeat (first | (with_reducible (first | assumption | exact hel _ | exact hel2 _ | exact hel3 _)) | ((with_reducible apply reads_whole); (focus (first | (with_reducible rfl) | (simp only [go_sem]; done) | (simp; done)))) | ((with_reducible apply reads_part); (focus (first | (simp [go_sem]; done) | (simp only [go_sem]; omega) | go_size)); (focus (first | (simp only [Nat.reduceAdd, Nat.zero_add, go_sem]; (try with_reducible rfl); done) | (simp [go_sem]; (try with_reducible rfl); done)))) | (with_reducible (first | (apply reads_left; assumption) | refine reads_exh (by assumption) ?_ | refine reads_exh0 (by assumption) ?_ | apply reads_next)))); done)); (focus (first | (simp only [maxLen] at *; omega) | (simp [maxLen] at *; omega))); (focus (first | (simp only [maxLen] at *; omega) | (simp [maxLen] at *; omega))); clear hs; (try clear w); intro Ap cq w hs; skip; simp only [Act.put, zg, zh, zi]))
                  exact ⟨⟨k + 1, by omega, by go_num, by rw [hsu.out, hen.out]; exact hs.mono (by ((repeat (first | (with_reducible (first | exact ent_refl | exact ent_emp)) | ((with_reducible apply ent_front); (focus with_reducible (repeat (first | exact ent_here | apply ent_next | exact ent_last)); done)) | (with_reducible (first | exact ent_keep | apply ent_trans ent_drop)))); done))⟩, by simp [intOf]; omega⟩
        · have hlt' : ¬ (k : Int) < n := by omega
          have hfin : form n ++ rndE f k = E := by rw [hE.out, show k = n by omega]
          rw [hfin] at hs hd1 ⊢
          go_wp2_with fail
          (go_ret; simp only [za, zb, zc, zd, ze, zf])
          exact ⟨_, rfl, hs.mono (by ((repeat (first | (with_reducible (first | exact ent_refl | exact ent_emp)) | ((with_reducible apply ent_front); (focus with_reducible (repeat (first | exact ent_here | apply ent_next | exact ent_last)); done)) | (with_reducible (first | exact ent_keep | apply ent_trans ent_drop)))); done))⟩
end Go.Proofs.YtegebjflhhbmiaaDoor
