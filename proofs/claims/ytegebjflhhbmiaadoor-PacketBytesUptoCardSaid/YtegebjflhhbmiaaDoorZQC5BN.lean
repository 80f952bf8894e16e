/- The document's bytes: numbers, clocks. -/
import Derived.Test.YtegebjflhhbmiaaDoorZQC5BK
import Derived.Test.YtegebjflhhbmiaaDoorZQC5BM
set_option linter.unusedSimpArgs false
set_option linter.unusedVariables false
namespace Go.Proofs.YtegebjflhhbmiaaDoor
open Go Go.RowKit

set_option maxRecDepth 20000 in
theorem form_s (c0 : World) (F : HP) (n : Nat) : Spec Tryd.prog c0 50 #[.int .i64 n] (pu (n < 9223372036854775808) F) (fun r => row 5 1 bytv r (form n) * F) := by
  intro w hq; obtain ⟨hn, hs⟩ := hq.pu; clear hq
  go_enter Tryd.func50, Tryd.ntmps50
  go_wp2_with fail
  go_loopw [0, 3] (fun i u wr => ∃ (m : Nat) (l' : List Int), m ≤ n ∧ i = .int .i64 m ∧ Hid (l' ++ form m = form n) ∧ Sat c0 (row 5 1 bytv u l' * F) wr) (fun i _ _ => (intOf i).toNat)
  case atStart => exact ⟨n, [], by omega, rfl, rfl, hs.mono ent_row_nil⟩
  case round =>
    clear hs
    obtain ⟨m, l', hm, rfl, hlm, hs⟩ := hrel
    obtain ⟨A, c, rfl, h1, h2⟩ := row_slice hs.own
    have hll : l'.length + (form m).length = (form n).length := by have := congrArg List.length hlm.out; simpa using this
    have hfp := form_pos m
    have hfl := form_len 8 n (by omega)
    have hl2 : l'.length + 1 ≤ 140737488355328 := by omega
    clear hll hfp hfl
    have hm0 : (0 : Int) ≤ m := by omega
    rcases Nat.lt_or_ge m 128 with h | h
    · have h' : (m : Int) < 128 := by omega
      go_wp2_with (first
        | ((with_reducible apply pl_bs1 hs); (with_reducible (first | exact bst_32)); (focus (simp only [Act.eval, za, zb, zc, zd, ze, zf]; (try with_reducible rfl); done)); (focus (first | (with_reducible (first | exact cells_intv _ | exact cells_bytv _ | exact cells_agg _ | exact cells_int _ _ | exact cells_bool _ | exact cells_string _ | exact cells_slice _ _ _ | exact cells_pointer _ | exact cells_map _ | exact cells_iface _ _ | exact cells_nilIface | exact cells_func _ _ _)) | (exact cells_one (by assumption)))); (focus (first | (with_reducible rfl) | (simp only [go_sem]; done) | (simp; done))); clear hs; (try clear w); intro g w hs; skip; simp only [Act.put, zg, zh, zi])
        | ((with_reducible apply pl_append1 hs); (with_reducible (first | exact app_24 | exact app_32 | exact app_45 | exact app_46 | exact app_47 | exact app_122)); (focus (simp only [Act.eval, za, zb, zc, zd, ze, zf]; (try with_reducible rfl); done)); (first | (focus with_reducible (repeat (first | exact ent_here | apply ent_next | exact ent_last)); done) | (focus (with_reducible exact ent_row_nil)) | (focus ((with_reducible apply ent_row_of_blk); (focus with_reducible (repeat (first | exact ent_here | apply ent_next | exact ent_last)); done); (focus (simp only [go_sem]))))); (focus (simp only [Act.eval, za, zb, zc, zd, ze, zf]; (try with_reducible rfl); done)); (focus ((repeat (first | (with_reducible (first | assumption | exact hel _ | exact hel2 _ | exact hel3 _)) | ((with_reducible apply reads_whole); (focus (first | (with_reducible rfl) | (simp only [go_sem]; done) | (simp; done)))) | ((with_reducible apply reads_part); (focus (first | (simp [go_sem]; done) | (simp only [go_sem]; omega) | go_size)); (focus (first | (simp only [Nat.reduceAdd, Nat.zero_add, go_sem]; (try with_reducible rfl); done) | (simp [go_sem]; (try with_reducible rfl); done)))) | (with_reducible (first | (apply reads_left; assumption) | refine reads_exh (by assumption) ?_ | refine reads_exh0 (by assumption) ?_ | apply reads_next)))); done)); (focus (first | (simp only [maxLen] at *; omega) | (simp [maxLen] at *; omega))); (focus (first | (simp only [maxLen] at *; omega) | (simp [maxLen] at *; omega))); clear hs; (try clear w); intro Ap cq w hs; skip; simp only [Act.put, zg, zh, zi]))
      rw [← hlm.out, form_lo h]
      (go_ret; simp only [za, zb, zc, zd, ze, zf])
      exact ⟨_, rfl, hs.mono (by ((repeat (first | (with_reducible (first | exact ent_refl | exact ent_emp)) | ((with_reducible apply ent_front); (focus with_reducible (repeat (first | exact ent_here | apply ent_next | exact ent_last)); done)) | (with_reducible (first | exact ent_keep | apply ent_trans ent_drop)))); done))⟩
    · have h' : (128 : Int) ≤ m := by omega
      go_wp2_with (first
        | ((with_reducible apply pl_bs1 hs); (with_reducible (first | exact bst_32)); (focus (simp only [Act.eval, za, zb, zc, zd, ze, zf]; (try with_reducible rfl); done)); (focus (first | (with_reducible (first | exact cells_intv _ | exact cells_bytv _ | exact cells_agg _ | exact cells_int _ _ | exact cells_bool _ | exact cells_string _ | exact cells_slice _ _ _ | exact cells_pointer _ | exact cells_map _ | exact cells_iface _ _ | exact cells_nilIface | exact cells_func _ _ _)) | (exact cells_one (by assumption)))); (focus (first | (with_reducible rfl) | (simp only [go_sem]; done) | (simp; done))); clear hs; (try clear w); intro g w hs; skip; simp only [Act.put, zg, zh, zi])
        | ((with_reducible apply pl_append1 hs); (with_reducible (first | exact app_24 | exact app_32 | exact app_45 | exact app_46 | exact app_47 | exact app_122)); (focus (simp only [Act.eval, za, zb, zc, zd, ze, zf]; (try with_reducible rfl); done)); (first | (focus with_reducible (repeat (first | exact ent_here | apply ent_next | exact ent_last)); done) | (focus (with_reducible exact ent_row_nil)) | (focus ((with_reducible apply ent_row_of_blk); (focus with_reducible (repeat (first | exact ent_here | apply ent_next | exact ent_last)); done); (focus (simp only [go_sem]))))); (focus (simp only [Act.eval, za, zb, zc, zd, ze, zf]; (try with_reducible rfl); done)); (focus ((repeat (first | (with_reducible (first | assumption | exact hel _ | exact hel2 _ | exact hel3 _)) | ((with_reducible apply reads_whole); (focus (first | (with_reducible rfl) | (simp only [go_sem]; done) | (simp; done)))) | ((with_reducible apply reads_part); (focus (first | (simp [go_sem]; done) | (simp only [go_sem]; omega) | go_size)); (focus (first | (simp only [Nat.reduceAdd, Nat.zero_add, go_sem]; (try with_reducible rfl); done) | (simp [go_sem]; (try with_reducible rfl); done)))) | (with_reducible (first | (apply reads_left; assumption) | refine reads_exh (by assumption) ?_ | refine reads_exh0 (by assumption) ?_ | apply reads_next)))); done)); (focus (first | (simp only [maxLen] at *; omega) | (simp [maxLen] at *; omega))); (focus (first | (simp only [maxLen] at *; omega) | (simp [maxLen] at *; omega))); clear hs; (try clear w); intro Ap cq w hs; skip; simp only [Act.put, zg, zh, zi]))
      exact ⟨⟨m / 128, l' ++ [(m : Int) % 128 + 128], by omega, by simp, (by unfold Hid; rw [← hlm.out, form_hi h, List.append_assoc, List.singleton_append, show (m : Int) % 128 + 128 = ((m % 128 + 128 : Nat) : Int) by omega]), hs.mono (by ((repeat (first | (with_reducible (first | exact ent_refl | exact ent_emp)) | ((with_reducible apply ent_front); (focus with_reducible (repeat (first | exact ent_here | apply ent_next | exact ent_last)); done)) | (with_reducible (first | exact ent_keep | apply ent_trans ent_drop)))); done))⟩, by simp [intOf]; omega⟩
theorem formI_s (c0 : World) (F : HP) (n : Int) : Spec Tryd.prog c0 50 #[.int .i64 n] (pu (0 ≤ n ∧ n ≤ mst) F) (fun r => row 5 1 bytv r (form n.toNat) * F) := fun w hq => by
  obtain ⟨⟨h0, h1⟩, hs⟩ := hq.pu
  have hm : mst = 9223372036854775807 := rfl
  have h3 := form_s c0 F n.toNat w (hs.mono (ent_pu (by omega) ent_refl))
  rw [Int.toNat_of_nonneg h0] at h3
  exact h3
set_option maxRecDepth 20000 in
set_option maxHeartbeats 2000000 in
theorem rclock_s (c0 : World) (F : HP) (c : Nat → Int) : Spec Tryd.prog c0 52 #[.agg (clk c)] (pu (∀ i, i < 8 → 0 ≤ c i ∧ c i ≤ mst) F) (fun r => row 5 1 bytv r (encRow c) * F) := by
  intro w hq; obtain ⟨hI, hs⟩ := hq.pu; clear hq
  have hu := usedN_le c 8
  have hf := form_le8 hu
  have hE := encRow_eq c
  have hrl := rowE_len fun i hi => (hI i hi).2
  have hlast : ∀ k, k < usedN c 8 → rowE c (k + 1) = rowE c k ++ form (c k).toNat := fun k => rowE_succ c
  have hz : rowE c 0 = [] := rfl
  have hst : ∀ k, usedN c (k + 1) = if c k = 0 then usedN c k else k + 1 := fun k => rfl
  have hle : ∀ k, usedN c k ≤ k := usedN_le c
  have hz0 : usedN c 0 = 0 := rfl
  have hmst : mst = 9223372036854775807 := rfl
  generalize encRow c = E at *
  go_enter Tryd.func52, Tryd.ntmps52
  go_wp2_with (first
        | ((with_reducible apply pl_box hs); (focus (simp only [Act.eval, za, zb, zc, zd, ze, zf]; (try with_reducible rfl); done)); (focus (first | (with_reducible (first | exact cells_intv _ | exact cells_bytv _ | exact cells_agg _ | exact cells_int _ _ | exact cells_bool _ | exact cells_string _ | exact cells_slice _ _ _ | exact cells_pointer _ | exact cells_map _ | exact cells_iface _ _ | exact cells_nilIface | exact cells_func _ _ _)) | (exact cells_one (by assumption)))); clear hs; (try clear w); intro g w hs; skip; simp only [Act.put, zg, zh, zi]))
  (obtain ⟨gc, hgg⟩ : ∃ x, x = g := ⟨_, rfl⟩); subst hgg
  go_loopw [3, 4] (fun u i wr => ∃ k : Nat, k ≤ 8 ∧ u = .int .i64 (usedN c k : Nat) ∧ i = .int .i64 k ∧ Sat c0 (blk gc (.cells (clk c) 23 (0, 0)) * F) wr) (fun _ i _ => 8 - (intOf i).toNat)
  case atStart => exact ⟨0, by omega, by rw [hz0]; rfl, rfl, hs⟩
  case round =>
    clear hs
    obtain ⟨k, hk, rfl, rfl, hs⟩ := hrel
    by_cases hlt : k < 8
    · have hlt' : (k : Int) < 8 := by omega
      have hstk := hst k
      by_cases hc : c k = 0
      · rw [if_pos hc] at hstk
        go_wp2_with (first
        | ((with_reducible apply pl_load1 hs); (focus (simp only [Act.eval, za, zb, zc, zd, ze, zf]; (try with_reducible rfl); done)); (focus (simp only [go_sem])); (focus ((repeat (first | (with_reducible (first | assumption | exact hec _ | exact hec2 _ | exact hec3 _ | exact hec4 _ _)) | ((with_reducible apply readc_here); (focus (first | (simp only [zc, zd, ze, go_sem]; (try with_reducible rfl); done) | (go_simp; (try with_reducible rfl); done)))) | (with_reducible (first | (apply readc_left; assumption) | refine readc_exh (by assumption) ?_ | refine readc_exh0 (by assumption) ?_ | apply readc_next)))); done)); (focus rfl); simp only [Act.put, zg, zh, zi]))
        exact ⟨⟨k + 1, by omega, by rw [hstk], by go_num, hs⟩, by simp [intOf]; omega⟩
      · rw [if_neg hc] at hstk
        go_wp2_with (first
        | ((with_reducible apply pl_load1 hs); (focus (simp only [Act.eval, za, zb, zc, zd, ze, zf]; (try with_reducible rfl); done)); (focus (simp only [go_sem])); (focus ((repeat (first | (with_reducible (first | assumption | exact hec _ | exact hec2 _ | exact hec3 _ | exact hec4 _ _)) | ((with_reducible apply readc_here); (focus (first | (simp only [zc, zd, ze, go_sem]; (try with_reducible rfl); done) | (go_simp; (try with_reducible rfl); done)))) | (with_reducible (first | (apply readc_left; assumption) | refine readc_exh (by assumption) ?_ | refine readc_exh0 (by assumption) ?_ | apply readc_next)))); done)); (focus rfl); simp only [Act.put, zg, zh, zi]))
        exact ⟨⟨k + 1, by omega, by rw [hstk]; go_num, by go_num, hs⟩, by simp [intOf]; omega⟩
    · obtain rfl : k = 8 := by omega
      clear hst hle hz0
      generalize hnu : usedN c 8 = n at *
      replace hnu := Lib.hid hnu
      replace hE := Lib.hid hE
      replace hlast := Lib.hid hlast
      replace hrl := Lib.hid hrl
      go_wp2_with (first
        | ((with_reducible apply pl_call hs (form_s _ _ n)); (go_must (((focus (simp only [zj, zk, zl, List.append_toArray, List.nil_append, List.cons_append, Act.eval, za, zb, zc, zd, ze, zf]; (try with_reducible rfl); done)); (focus ((repeat (first | (with_reducible (first | exact ent_refl | apply ent_puR)) | ((with_reducible apply ent_front); (focus with_reducible (repeat (first | exact ent_here | apply ent_next | exact ent_last)); done)) | (with_reducible (first | exact ent_keep | apply ent_trans ent_drop)) | (focus (first | ((repeat' (first | omega)); done))))); done)); (focus (simp only [go_sem]))))); clear hs; (try clear w); intro v w hq; (have hs := hq; obtain ⟨Af, cf, rfl, hf1, hf2⟩ := row_slice hs.own); clear hq; (try simp only [star_assoc, star_emp, emp_star] at hs); (try simp only [Act.put, zg, zh, zi])))
      go_loopw [5, 6] (fun v i wr => ∃ k : Nat, k ≤ n ∧ i = .int .i64 k ∧ Sat c0 (row 5 1 bytv v (form n ++ rowE c k) * (blk gc (.cells (clk c) 23 (0, 0)) * F)) wr) (fun _ i _ => n - (intOf i).toNat)
      case atStart => exact ⟨0, by omega, rfl, by rw [hz, List.append_nil]; exact hs⟩
      case round =>
        clear hs
        obtain ⟨k, hk, rfl, hs⟩ := hrel
        obtain ⟨B, d, rfl, hd1, hd2⟩ := row_slice hs.own
        have hL : (form n ++ rowE c k).length + 9 ≤ 100000 := by have := hrl.out k; rw [List.length_append]; omega
        by_cases hlt : k < n
        · have hlt' : (k : Int) < n := by omega
          have hk8 : k < 8 := by omega
          have hk8' : (k : Int) < 8 := by omega
          obtain ⟨c1, c2⟩ := hI k hk8
          have h9 := form9 c2
          have hsu : form n ++ rowE c (k + 1) = form n ++ rowE c k ++ form (c k).toNat := by rw [hlast.out k hlt, List.append_assoc]
          replace hsu := Lib.hid hsu
          generalize form n ++ rowE c k = L at *
          go_wp2_with (first
        | ((with_reducible apply pl_call hs (formI_s _ _ (c k))); (go_must (((focus (simp only [zj, zk, zl, List.append_toArray, List.nil_append, List.cons_append, Act.eval, za, zb, zc, zd, ze, zf]; (try with_reducible rfl); done)); (focus ((repeat (first | (with_reducible (first | exact ent_refl | apply ent_puR)) | ((with_reducible apply ent_front); (focus with_reducible (repeat (first | exact ent_here | apply ent_next | exact ent_last)); done)) | (with_reducible (first | exact ent_keep | apply ent_trans ent_drop)) | (focus (first | ((repeat' (first | (with_reducible assumption) | (with_reducible apply And.intro))); done))))); done)); (focus (simp only [go_sem]))))); clear hs; (try clear w); intro v w hq; (have hs := hq; obtain ⟨Ag, cg, rfl, hg1, hg2⟩ := row_slice hs.own); clear hq; (try simp only [star_assoc, star_emp, emp_star] at hs); (try simp only [Act.put, zg, zh, zi]))
        | ((with_reducible apply pl_load1 hs); (focus (simp only [Act.eval, za, zb, zc, zd, ze, zf]; (try with_reducible rfl); done)); (focus (simp only [go_sem])); (focus ((repeat (first | (with_reducible (first | assumption | exact hec _ | exact hec2 _ | exact hec3 _ | exact hec4 _ _)) | ((with_reducible apply readc_here); (focus (first | (simp only [zc, zd, ze, go_sem]; (try with_reducible rfl); done) | (go_simp; (try with_reducible rfl); done)))) | (with_reducible (first | (apply readc_left; assumption) | refine readc_exh (by assumption) ?_ | refine readc_exh0 (by assumption) ?_ | apply readc_next)))); done)); (focus rfl); simp only [Act.put, zg, zh, zi])
        | ((with_reducible apply pl_appendN hs); (with_reducible (first | exact app_24 | exact app_32 | exact app_45 | exact app_46 | exact app_47 | exact app_122)); (focus (simp only [Act.eval, za, zb, zc, zd, ze, zf]; (try with_reducible rfl); done)); (first | (focus with_reducible (repeat (first | exact ent_here | apply ent_next | exact ent_last)); done) | (focus (with_reducible exact ent_row_nil)) | (focus ((with_reducible apply ent_row_of_blk); (focus with_reducible (repeat (first | exact ent_here | apply ent_next | exact ent_last)); done); (focus (simp only [go_sem]))))); (focus (simp only [Act.eval, za, zb, zc, zd, ze, zf]; (try with_reducible rfl); done)); (focus (first | ((repeat (first | (with_reducible (first | assumption | exact slr_ro |  exact hsl _ | exact hsl2 _ | exact hsl3 _ _ _ | exact slr_nil | exact slr_row (fun _ => by simp only [go_sem]) | exact slr_one (fun _ => by simp only [go_sem]) | (apply slr_left; assumption))) | (with_reducible apply slr_next))); done) | ((repeat (first | (with_reducible (first | assumption | exact slr_ro |  exact hsl _ | exact hsl2 _ | exact hsl3 _ _ _ | exact slr_nil | exact slr_row (fun _ => by simp only [go_sem]) | exact slr_one (fun _ => by simp only [go_sem]) | (apply slr_left; assumption))) | (with_reducible (first | (apply slr_exh; focus assumption) | (apply slr_exh0; focus assumption) | apply slr_next)))); done))); (focus (first | (simp only [maxLen] at *; omega) | (simp [maxLen] at *; omega))); (focus (first | (simp only [maxLen] at *; omega) | (simp [maxLen] at *; omega))); clear hs; (try clear w); intro Ap cq w hs; (try simp only [List.length_nil, Nat.zero_add, List.nil_append] at hs ⊢); simp only [Act.put, zg, zh, zi]))
          exact ⟨⟨k + 1, by omega, by go_num, by rw [hsu.out]; exact hs.mono (by ((repeat (first | (with_reducible (first | exact ent_refl | exact ent_emp)) | ((with_reducible apply ent_front); (focus with_reducible (repeat (first | exact ent_here | apply ent_next | exact ent_last)); done)) | (with_reducible (first | exact ent_keep | apply ent_trans ent_drop)))); done))⟩, by simp [intOf]; omega⟩
        · have hlt' : ¬ (k : Int) < n := by omega
          have hfin : form n ++ rowE c k = E := by rw [hE.out, show k = n by omega]
          rw [hfin] at hs hd1 ⊢
          go_wp2_with fail
          (go_ret; simp only [za, zb, zc, zd, ze, zf])
          exact ⟨_, rfl, hs.mono (by ((repeat (first | (with_reducible (first | exact ent_refl | exact ent_emp)) | ((with_reducible apply ent_front); (focus with_reducible (repeat (first | exact ent_here | apply ent_next | exact ent_last)); done)) | (with_reducible (first | exact ent_keep | apply ent_trans ent_drop)))); done))⟩
set_option maxRecDepth 20000 in
set_option maxHeartbeats 4000000 in
theorem ractsB_s (c0 : World) (F : HP) (v : Value) (l : List ActD) : Spec Tryd.prog c0 51 #[v] (pu (SlR F 13 actv v l ∧ (∀ a, a ∈ l → okA a = true ∧ ActDI a) ∧ l.length ≤ 1000000) F) (fun r => row 5 1 bytv r (encActs l) * F) := by
  intro w hq; obtain ⟨⟨hsl, hI, hl⟩, hs⟩ := hq.pu; clear hq
  obtain ⟨A, cp, rfl⟩ := slr_form hsl hs.own
  obtain ⟨_, hn1, hn2, _⟩ := slr_len hsl hs.own
  unfold maxLen at hn2
  have hmst : mst = 9223372036854775807 := rfl
  have hf9 := form9 (c := (l.length : Int)) (by omega)
  rw [Int.toNat_natCast] at hf9
  have hlen : ∀ k, (form l.length ++ (l.take k).flatMap encAct).length + 280 ≤ 200000000 := fun k => by
    have h1 := acts_le (l := l.take k) fun a ha => hI a (List.mem_of_mem_take ha)
    have h2 := List.length_take_le' k l
    rw [List.length_append]
    omega
  replace hlen := Lib.hid hlen
  generalize hnl : l.length = n at *
  replace hnl := Lib.hid hnl
  go_enter Tryd.func51, Tryd.ntmps51
  go_wp2_with (first
        | ((with_reducible apply pl_call hs (form_s _ _ n)); (go_must (((focus (simp only [zj, zk, zl, List.append_toArray, List.nil_append, List.cons_append, Act.eval, za, zb, zc, zd, ze, zf]; (try with_reducible rfl); done)); (focus ((repeat (first | (with_reducible (first | exact ent_refl | apply ent_puR)) | ((with_reducible apply ent_front); (focus with_reducible (repeat (first | exact ent_here | apply ent_next | exact ent_last)); done)) | (with_reducible (first | exact ent_keep | apply ent_trans ent_drop)) | (focus (first | ((repeat' (first | omega)); done))))); done)); (focus (simp only [go_sem]))))); clear hs; (try clear w); intro v w hq; (have hs := hq; obtain ⟨Af, cf, rfl, hf1, hf2⟩ := row_slice hs.own); clear hq; (try simp only [star_assoc, star_emp, emp_star] at hs); (try simp only [Act.put, zg, zh, zi])))
  go_loopw [3, 4] (fun u i wr => ∃ k : Nat, k ≤ n ∧ i = .int .i64 k ∧ Sat c0 (row 5 1 bytv u (form n ++ (l.take k).flatMap encAct) * F) wr) (fun _ i _ => n - (intOf i).toNat)
  case atStart => exact ⟨0, by omega, rfl, by rw [List.take_zero, List.flatMap_nil, List.append_nil]; exact hs⟩
  case round =>
    clear hs
    obtain ⟨k, hk, rfl, hs⟩ := hrel
    obtain ⟨B, d, rfl, hd1, hd2⟩ := row_slice hs.own
    have hL := hlen.out k
    by_cases hlt : k < n
    · have hlt' : (k : Int) < n := by omega
      obtain ⟨gb, o, x, rfl, hlx, hel0⟩ := slr_get hsl (hs.own.mono ent_drop) hlt
      have hsucc : form n ++ (l.take (k + 1)).flatMap encAct = form n ++ (l.take k).flatMap encAct ++ encAct x := by
        rw [List.take_add_one, hlx, List.flatMap_append]
        simp
      obtain ⟨hA, hAI⟩ := hI x (List.mem_of_getElem? hlx)
      obtain ⟨⟨⟨k1, k2⟩, ⟨r1, r2⟩, p1, q1, q2⟩, m1, okc⟩ := (okA_iff x).1 hA
      have hp := hAI.op.pl
      have hm := hAI.num
      have hcI := hAI.clock
      unfold InI at hp hm
      unfold ClkI InI at hcI
      have hck : ∀ i, i < 8 → 0 ≤ x.clock i ∧ x.clock i ≤ mst := fun i hi => ⟨okc i hi, by have := hcI i hi; have hmst : mst = 9223372036854775807 := rfl; omega⟩
      clear hlx hI hA hAI okc hcI
      replace hsucc := Lib.hid hsucc
      have hmst : mst = 9223372036854775807 := rfl
      have hcl : x.op.char ≤ mst ∧ 0 ≤ x.op.char := by by_cases h : x.op.kind = 1; have := q1 h; omega; have := q2 h; omega
      have hrp : x.op.rep ≤ mst := by omega
      have hpp : x.op.pl ≤ mst := by omega
      have hnm : x.num ≤ mst := by omega
      obtain ⟨hcl, hcl0⟩ := hcl
      have b1 := form9 hrp
      have b2 := form9 hpp
      have b3 := form9 hcl
      have b4 := form9 hnm
      have b5 := encRow_len fun i hi => (hck i hi).2
      generalize form n ++ (l.take k).flatMap encAct = L1 at *
      have a1 : (L1 ++ [x.op.kind]).length = L1.length + 1 := by simp
      have a2 : (L1 ++ [x.op.kind] ++ form x.op.rep.toNat).length ≤ L1.length + 10 := by rw [List.length_append, a1]; omega
      have a3 : (L1 ++ [x.op.kind] ++ form x.op.rep.toNat ++ form x.op.pl.toNat).length ≤ L1.length + 19 := by rw [List.length_append]; omega
      have a4 : (L1 ++ [x.op.kind] ++ form x.op.rep.toNat ++ form x.op.pl.toNat ++ form x.op.char.toNat).length ≤ L1.length + 28 := by rw [List.length_append]; omega
      have a5 : (L1 ++ [x.op.kind] ++ form x.op.rep.toNat ++ form x.op.pl.toNat ++ form x.op.char.toNat ++ form x.num.toNat).length ≤ L1.length + 37 := by rw [List.length_append]; omega
      have a6 : (L1 ++ [x.op.kind] ++ form x.op.rep.toNat ++ form x.op.pl.toNat ++ form x.num.toNat).length ≤ L1.length + 28 := by rw [List.length_append]; omega
      have hel : ∀ R, Reads (R * F) gb (o + k * 13) 4 (opv x.op) := fun R => by have := (reads_next (A := R) hel0).part (i := 0) (m := 4) (by omega) (actv_x0 x); simpa using this
      have hec : ∀ R, ReadC (R * F) gb (o + k * 13 + 4) (.int .i64 x.num) := fun R => (reads_next hel0).cell (by omega) (actv_4 x)
      have hel2 : ∀ R, Reads (R * F) gb (o + k * 13 + 5) 8 (clk x.clock) := fun R => (reads_next hel0).part (by omega) (actv_x5 x)
      clear hel0
      clear hmst
      by_cases hk1 : x.op.kind = 1
      · go_wp2_with (first
        | ((with_reducible apply pl_call hs (formI_s _ _ _)); (go_must (((focus (simp only [zj, zk, zl, List.append_toArray, List.nil_append, List.cons_append, Act.eval, za, zb, zc, zd, ze, zf]; (try with_reducible rfl); done)); (focus ((repeat (first | (with_reducible (first | exact ent_refl | apply ent_puR)) | ((with_reducible apply ent_front); (focus with_reducible (repeat (first | exact ent_here | apply ent_next | exact ent_last)); done)) | (with_reducible (first | exact ent_keep | apply ent_trans ent_drop)) | (focus (first | ((repeat' (first | (with_reducible assumption) | (with_reducible apply And.intro) | omega)); done))))); done)); (focus (simp only [go_sem]))))); clear hs; (try clear w); intro v w hq; (have hs := hq; obtain ⟨Ag, cg, rfl, hg1, hg2⟩ := row_slice hs.own); clear hq; (try simp only [star_assoc, star_emp, emp_star] at hs); (try simp only [Act.put, zg, zh, zi]))
        | ((with_reducible apply pl_call hs (rclock_s _ _ x.clock)); (go_must (((focus (simp only [zj, zk, zl, List.append_toArray, List.nil_append, List.cons_append, Act.eval, za, zb, zc, zd, ze, zf]; (try with_reducible rfl); done)); (focus ((repeat (first | (with_reducible (first | exact ent_refl | apply ent_puR)) | ((with_reducible apply ent_front); (focus with_reducible (repeat (first | exact ent_here | apply ent_next | exact ent_last)); done)) | (with_reducible (first | exact ent_keep | apply ent_trans ent_drop)) | (focus (first | (with_reducible assumption))))); done)); (focus (simp only [go_sem]))))); clear hs; (try clear w); intro v w hq; (have hs := hq; obtain ⟨Ag, cg, rfl, hg1, hg2⟩ := row_slice hs.own); clear hq; (try simp only [star_assoc, star_emp, emp_star] at hs); (try simp only [Act.put, zg, zh, zi]))
        | ((with_reducible apply pl_loadN hs); (focus (simp only [Act.eval, za, zb, zc, zd, ze, zf]; (try with_reducible rfl); done)); (with_reducible (first | exact agg_23 | exact agg_76)); (focus ((repeat (first | (with_reducible (first | assumption | exact hel _ | exact hel2 _ | exact hel3 _)) | ((with_reducible apply reads_whole); (focus (first | (with_reducible rfl) | (simp only [go_sem]; done) | (simp; done)))) | ((with_reducible apply reads_part); (focus (first | (simp [go_sem]; done) | (simp only [go_sem]; omega) | go_size)); (focus (first | (simp only [Nat.reduceAdd, Nat.zero_add, go_sem]; (try with_reducible rfl); done) | (simp [go_sem]; (try with_reducible rfl); done)))) | (with_reducible (first | (apply reads_left; assumption) | refine reads_exh (by assumption) ?_ | refine reads_exh0 (by assumption) ?_ | apply reads_next)))); done)); (focus rfl); simp only [Act.put, zg, zh, zi])
        | ((with_reducible apply pl_load1 hs); (focus (simp only [Act.eval, za, zb, zc, zd, ze, zf]; (try with_reducible rfl); done)); (focus (simp only [go_sem])); (focus ((repeat (first | (with_reducible (first | assumption | exact hec _ | exact hec2 _ | exact hec3 _ | exact hec4 _ _)) | ((with_reducible apply readc_here); (focus (first | (simp only [zc, zd, ze, go_sem]; (try with_reducible rfl); done) | (go_simp; (try with_reducible rfl); done)))) | (with_reducible (first | (apply readc_left; assumption) | refine readc_exh (by assumption) ?_ | refine readc_exh0 (by assumption) ?_ | apply readc_next)))); done)); (focus rfl); simp only [Act.put, zg, zh, zi])
        | ((with_reducible apply pl_alloc hs); (with_reducible (first | exact zero_76)); clear hs; (try clear w); intro g w hs; skip; simp only [Act.put, zg, zh, zi])
        | ((with_reducible apply pl_bs1 hs); (with_reducible (first | exact bst_32)); (focus (simp only [Act.eval, za, zb, zc, zd, ze, zf]; (try with_reducible rfl); done)); (focus (first | (with_reducible (first | exact cells_intv _ | exact cells_bytv _ | exact cells_agg _ | exact cells_int _ _ | exact cells_bool _ | exact cells_string _ | exact cells_slice _ _ _ | exact cells_pointer _ | exact cells_map _ | exact cells_iface _ _ | exact cells_nilIface | exact cells_func _ _ _)) | (exact cells_one (by assumption)))); (focus (first | (with_reducible rfl) | (simp only [go_sem]; done) | (simp; done))); clear hs; (try clear w); intro g w hs; skip; simp only [Act.put, zg, zh, zi])
        | ((with_reducible apply pl_storeN hs); (focus (simp only [Act.eval, za, zb, zc, zd, ze, zf]; (try with_reducible rfl); done)); (focus (simp only [Act.eval, za, zb, zc, zd, ze, zf]; (try with_reducible rfl); done)); (with_reducible (first | exact agg_76)); (focus with_reducible (repeat (first | exact ent_here | apply ent_next | exact ent_last)); done); (focus (first | (with_reducible rfl) | (simp only [go_sem]; done) | (simp; done))); (focus (first | (simp [go_sem]; done) | (simp only [go_sem]; omega) | go_size)); (focus (first | (simp only [go_sem]; done) | (simp [go_sem]; done))); (focus (first | ((with_reducible apply splice_whole); (focus (first | (with_reducible rfl) | (simp only [go_sem]; done) | (simp; done)))) | (simp [splice, go_sem]; done) | (simp only [go_sem]; (try with_reducible rfl); done))); clear hs; (try clear w); intro w hs; (try simp only [zg, zh, zi, clk_set, opv_s0, opv_s1, opv_s2, opv_s3, actv_s0, actv_s1, actv_s2, actv_s3, actv_s4, rnd_s0, rnd_s17, lnk_s0, lnk_s1, lnk_s2, nov_s0, nov_s1, nov_s2, intv_set, bytv_set] at hs); simp only [Act.put, zg, zh, zi])
        | ((with_reducible apply pl_append1 hs); (with_reducible (first | exact app_24 | exact app_32 | exact app_45 | exact app_46 | exact app_47 | exact app_122)); (focus (simp only [Act.eval, za, zb, zc, zd, ze, zf]; (try with_reducible rfl); done)); (first | (focus with_reducible (repeat (first | exact ent_here | apply ent_next | exact ent_last)); done) | (focus (with_reducible exact ent_row_nil)) | (focus ((with_reducible apply ent_row_of_blk); (focus with_reducible (repeat (first | exact ent_here | apply ent_next | exact ent_last)); done); (focus (simp only [go_sem]))))); (focus (simp only [Act.eval, za, zb, zc, zd, ze, zf]; (try with_reducible rfl); done)); (focus ((repeat (first | (with_reducible (first | assumption | exact hel _ | exact hel2 _ | exact hel3 _)) | ((with_reducible apply reads_whole); (focus (first | (with_reducible rfl) | (simp only [go_sem]; done) | (simp; done)))) | ((with_reducible apply reads_part); (focus (first | (simp [go_sem]; done) | (simp only [go_sem]; omega) | go_size)); (focus (first | (simp only [Nat.reduceAdd, Nat.zero_add, go_sem]; (try with_reducible rfl); done) | (simp [go_sem]; (try with_reducible rfl); done)))) | (with_reducible (first | (apply reads_left; assumption) | refine reads_exh (by assumption) ?_ | refine reads_exh0 (by assumption) ?_ | apply reads_next)))); done)); (focus (first | (simp only [maxLen] at *; omega) | (simp [maxLen] at *; omega))); (focus (first | (simp only [maxLen] at *; omega) | (simp [maxLen] at *; omega))); clear hs; (try clear w); intro Ap cq w hs; skip; simp only [Act.put, zg, zh, zi])
        | ((with_reducible apply pl_appendN hs); (with_reducible (first | exact app_24 | exact app_32 | exact app_45 | exact app_46 | exact app_47 | exact app_122)); (focus (simp only [Act.eval, za, zb, zc, zd, ze, zf]; (try with_reducible rfl); done)); (first | (focus with_reducible (repeat (first | exact ent_here | apply ent_next | exact ent_last)); done) | (focus (with_reducible exact ent_row_nil)) | (focus ((with_reducible apply ent_row_of_blk); (focus with_reducible (repeat (first | exact ent_here | apply ent_next | exact ent_last)); done); (focus (simp only [go_sem]))))); (focus (simp only [Act.eval, za, zb, zc, zd, ze, zf]; (try with_reducible rfl); done)); (focus (first | ((repeat (first | (with_reducible (first | assumption | exact slr_ro |  exact hsl _ | exact hsl2 _ | exact hsl3 _ _ _ | exact slr_nil | exact slr_row (fun _ => by simp only [go_sem]) | exact slr_one (fun _ => by simp only [go_sem]) | (apply slr_left; assumption))) | (with_reducible apply slr_next))); done) | ((repeat (first | (with_reducible (first | assumption | exact slr_ro |  exact hsl _ | exact hsl2 _ | exact hsl3 _ _ _ | exact slr_nil | exact slr_row (fun _ => by simp only [go_sem]) | exact slr_one (fun _ => by simp only [go_sem]) | (apply slr_left; assumption))) | (with_reducible (first | (apply slr_exh; focus assumption) | (apply slr_exh0; focus assumption) | apply slr_next)))); done))); (focus (first | (simp only [maxLen] at *; omega) | (simp [maxLen] at *; omega))); (focus (first | (simp only [maxLen] at *; omega) | (simp [maxLen] at *; omega))); clear hs; (try clear w); intro Ap cq w hs; (try simp only [List.length_nil, Nat.zero_add, List.nil_append] at hs ⊢); simp only [Act.put, zg, zh, zi]))
        exact ⟨⟨k + 1, by omega, by go_num, hs.mono (by rw [hsucc.out, show L1 ++ encAct x = L1 ++ [1] ++ form x.op.rep.toNat ++ form x.op.pl.toNat ++ form x.op.char.toNat ++ form x.num.toNat ++ encRow x.clock by unfold encAct encChar; rw [if_pos hk1, hk1]; simp [List.append_assoc]]; ((repeat (first | (with_reducible (first | exact ent_refl | exact ent_emp)) | ((with_reducible apply ent_front); (focus with_reducible (repeat (first | exact ent_here | apply ent_next | exact ent_last)); done)) | (with_reducible (first | exact ent_keep | apply ent_trans ent_drop)))); done))⟩, by simp [intOf]; omega⟩
      · go_wp2_with (first
        | ((with_reducible apply pl_call hs (formI_s _ _ _)); (go_must (((focus (simp only [zj, zk, zl, List.append_toArray, List.nil_append, List.cons_append, Act.eval, za, zb, zc, zd, ze, zf]; (try with_reducible rfl); done)); (focus ((repeat (first | (with_reducible (first | exact ent_refl | apply ent_puR)) | ((with_reducible apply ent_front); (focus with_reducible (repeat (first | exact ent_here | apply ent_next | exact ent_last)); done)) | (with_reducible (first | exact ent_keep | apply ent_trans ent_drop)) | (focus (first | ((repeat' (first | (with_reducible assumption) | (with_reducible apply And.intro) | omega)); done))))); done)); (focus (simp only [go_sem]))))); clear hs; (try clear w); intro v w hq; (have hs := hq; obtain ⟨Ag, cg, rfl, hg1, hg2⟩ := row_slice hs.own); clear hq; (try simp only [star_assoc, star_emp, emp_star] at hs); (try simp only [Act.put, zg, zh, zi]))
        | ((with_reducible apply pl_call hs (rclock_s _ _ x.clock)); (go_must (((focus (simp only [zj, zk, zl, List.append_toArray, List.nil_append, List.cons_append, Act.eval, za, zb, zc, zd, ze, zf]; (try with_reducible rfl); done)); (focus ((repeat (first | (with_reducible (first | exact ent_refl | apply ent_puR)) | ((with_reducible apply ent_front); (focus with_reducible (repeat (first | exact ent_here | apply ent_next | exact ent_last)); done)) | (with_reducible (first | exact ent_keep | apply ent_trans ent_drop)) | (focus (first | (with_reducible assumption))))); done)); (focus (simp only [go_sem]))))); clear hs; (try clear w); intro v w hq; (have hs := hq; obtain ⟨Ag, cg, rfl, hg1, hg2⟩ := row_slice hs.own); clear hq; (try simp only [star_assoc, star_emp, emp_star] at hs); (try simp only [Act.put, zg, zh, zi]))
        | ((with_reducible apply pl_loadN hs); (focus (simp only [Act.eval, za, zb, zc, zd, ze, zf]; (try with_reducible rfl); done)); (with_reducible (first | exact agg_23 | exact agg_76)); (focus ((repeat (first | (with_reducible (first | assumption | exact hel _ | exact hel2 _ | exact hel3 _)) | ((with_reducible apply reads_whole); (focus (first | (with_reducible rfl) | (simp only [go_sem]; done) | (simp; done)))) | ((with_reducible apply reads_part); (focus (first | (simp [go_sem]; done) | (simp only [go_sem]; omega) | go_size)); (focus (first | (simp only [Nat.reduceAdd, Nat.zero_add, go_sem]; (try with_reducible rfl); done) | (simp [go_sem]; (try with_reducible rfl); done)))) | (with_reducible (first | (apply reads_left; assumption) | refine reads_exh (by assumption) ?_ | refine reads_exh0 (by assumption) ?_ | apply reads_next)))); done)); (focus rfl); simp only [Act.put, zg, zh, zi])
        | ((with_reducible apply pl_load1 hs); (focus (simp only [Act.eval, za, zb, zc, zd, ze, zf]; (try with_reducible rfl); done)); (focus (simp only [go_sem])); (focus ((repeat (first | (with_reducible (first | assumption | exact hec _ | exact hec2 _ | exact hec3 _ | exact hec4 _ _)) | ((with_reducible apply readc_here); (focus (first | (simp only [zc, zd, ze, go_sem]; (try with_reducible rfl); done) | (go_simp; (try with_reducible rfl); done)))) | (with_reducible (first | (apply readc_left; assumption) | refine readc_exh (by assumption) ?_ | refine readc_exh0 (by assumption) ?_ | apply readc_next)))); done)); (focus rfl); simp only [Act.put, zg, zh, zi])
        | ((with_reducible apply pl_alloc hs); (with_reducible (first | exact zero_76)); clear hs; (try clear w); intro g w hs; skip; simp only [Act.put, zg, zh, zi])
        | ((with_reducible apply pl_bs1 hs); (with_reducible (first | exact bst_32)); (focus (simp only [Act.eval, za, zb, zc, zd, ze, zf]; (try with_reducible rfl); done)); (focus (first | (with_reducible (first | exact cells_intv _ | exact cells_bytv _ | exact cells_agg _ | exact cells_int _ _ | exact cells_bool _ | exact cells_string _ | exact cells_slice _ _ _ | exact cells_pointer _ | exact cells_map _ | exact cells_iface _ _ | exact cells_nilIface | exact cells_func _ _ _)) | (exact cells_one (by assumption)))); (focus (first | (with_reducible rfl) | (simp only [go_sem]; done) | (simp; done))); clear hs; (try clear w); intro g w hs; skip; simp only [Act.put, zg, zh, zi])
        | ((with_reducible apply pl_storeN hs); (focus (simp only [Act.eval, za, zb, zc, zd, ze, zf]; (try with_reducible rfl); done)); (focus (simp only [Act.eval, za, zb, zc, zd, ze, zf]; (try with_reducible rfl); done)); (with_reducible (first | exact agg_76)); (focus with_reducible (repeat (first | exact ent_here | apply ent_next | exact ent_last)); done); (focus (first | (with_reducible rfl) | (simp only [go_sem]; done) | (simp; done))); (focus (first | (simp [go_sem]; done) | (simp only [go_sem]; omega) | go_size)); (focus (first | (simp only [go_sem]; done) | (simp [go_sem]; done))); (focus (first | ((with_reducible apply splice_whole); (focus (first | (with_reducible rfl) | (simp only [go_sem]; done) | (simp; done)))) | (simp [splice, go_sem]; done) | (simp only [go_sem]; (try with_reducible rfl); done))); clear hs; (try clear w); intro w hs; (try simp only [zg, zh, zi, clk_set, opv_s0, opv_s1, opv_s2, opv_s3, actv_s0, actv_s1, actv_s2, actv_s3, actv_s4, rnd_s0, rnd_s17, lnk_s0, lnk_s1, lnk_s2, nov_s0, nov_s1, nov_s2, intv_set, bytv_set] at hs); simp only [Act.put, zg, zh, zi])
        | ((with_reducible apply pl_append1 hs); (with_reducible (first | exact app_24 | exact app_32 | exact app_45 | exact app_46 | exact app_47 | exact app_122)); (focus (simp only [Act.eval, za, zb, zc, zd, ze, zf]; (try with_reducible rfl); done)); (first | (focus with_reducible (repeat (first | exact ent_here | apply ent_next | exact ent_last)); done) | (focus (with_reducible exact ent_row_nil)) | (focus ((with_reducible apply ent_row_of_blk); (focus with_reducible (repeat (first | exact ent_here | apply ent_next | exact ent_last)); done); (focus (simp only [go_sem]))))); (focus (simp only [Act.eval, za, zb, zc, zd, ze, zf]; (try with_reducible rfl); done)); (focus ((repeat (first | (with_reducible (first | assumption | exact hel _ | exact hel2 _ | exact hel3 _)) | ((with_reducible apply reads_whole); (focus (first | (with_reducible rfl) | (simp only [go_sem]; done) | (simp; done)))) | ((with_reducible apply reads_part); (focus (first | (simp [go_sem]; done) | (simp only [go_sem]; omega) | go_size)); (focus (first | (simp only [Nat.reduceAdd, Nat.zero_add, go_sem]; (try with_reducible rfl); done) | (simp [go_sem]; (try with_reducible rfl); done)))) | (with_reducible (first | (apply reads_left; assumption) | refine reads_exh (by assumption) ?_ | refine reads_exh0 (by assumption) ?_ | apply reads_next)))); done)); (focus (first | (simp only [maxLen] at *; omega) | (simp [maxLen] at *; omega))); (focus (first | (simp only [maxLen] at *; omega) | (simp [maxLen] at *; omega))); clear hs; (try clear w); intro Ap cq w hs; skip; simp only [Act.put, zg, zh, zi])
        | ((with_reducible apply pl_appendN hs); (with_reducible (first | exact app_24 | exact app_32 | exact app_45 | exact app_46 | exact app_47 | exact app_122)); (focus (simp only [Act.eval, za, zb, zc, zd, ze, zf]; (try with_reducible rfl); done)); (first | (focus with_reducible (repeat (first | exact ent_here | apply ent_next | exact ent_last)); done) | (focus (with_reducible exact ent_row_nil)) | (focus ((with_reducible apply ent_row_of_blk); (focus with_reducible (repeat (first | exact ent_here | apply ent_next | exact ent_last)); done); (focus (simp only [go_sem]))))); (focus (simp only [Act.eval, za, zb, zc, zd, ze, zf]; (try with_reducible rfl); done)); (focus (first | ((repeat (first | (with_reducible (first | assumption | exact slr_ro |  exact hsl _ | exact hsl2 _ | exact hsl3 _ _ _ | exact slr_nil | exact slr_row (fun _ => by simp only [go_sem]) | exact slr_one (fun _ => by simp only [go_sem]) | (apply slr_left; assumption))) | (with_reducible apply slr_next))); done) | ((repeat (first | (with_reducible (first | assumption | exact slr_ro |  exact hsl _ | exact hsl2 _ | exact hsl3 _ _ _ | exact slr_nil | exact slr_row (fun _ => by simp only [go_sem]) | exact slr_one (fun _ => by simp only [go_sem]) | (apply slr_left; assumption))) | (with_reducible (first | (apply slr_exh; focus assumption) | (apply slr_exh0; focus assumption) | apply slr_next)))); done))); (focus (first | (simp only [maxLen] at *; omega) | (simp [maxLen] at *; omega))); (focus (first | (simp only [maxLen] at *; omega) | (simp [maxLen] at *; omega))); clear hs; (try clear w); intro Ap cq w hs; (try simp only [List.length_nil, Nat.zero_add, List.nil_append] at hs ⊢); simp only [Act.put, zg, zh, zi]))
        exact ⟨⟨k + 1, by omega, by go_num, hs.mono (by rw [hsucc.out, show L1 ++ encAct x = L1 ++ [x.op.kind] ++ form x.op.rep.toNat ++ form x.op.pl.toNat ++ form x.num.toNat ++ encRow x.clock by unfold encAct encChar; rw [if_neg hk1]; simp [List.append_assoc]]; ((repeat (first | (with_reducible (first | exact ent_refl | exact ent_emp)) | ((with_reducible apply ent_front); (focus with_reducible (repeat (first | exact ent_here | apply ent_next | exact ent_last)); done)) | (with_reducible (first | exact ent_keep | apply ent_trans ent_drop)))); done))⟩, by simp [intOf]; omega⟩
    · have hlt' : ¬ (k : Int) < n := by omega
      have hfin : form n ++ (l.take k).flatMap encAct = encActs l := by rw [List.take_of_length_le (by have := hnl.out; omega)]; unfold encActs; rw [hnl.out]
      rw [hfin] at hs hd1 ⊢
      go_wp2_with fail
      (go_ret; simp only [za, zb, zc, zd, ze, zf])
      exact ⟨_, rfl, hs.mono (by ((repeat (first | (with_reducible (first | exact ent_refl | exact ent_emp)) | ((with_reducible apply ent_front); (focus with_reducible (repeat (first | exact ent_here | apply ent_next | exact ent_last)); done)) | (with_reducible (first | exact ent_keep | apply ent_trans ent_drop)))); done))⟩
end Go.Proofs.YtegebjflhhbmiaaDoor
