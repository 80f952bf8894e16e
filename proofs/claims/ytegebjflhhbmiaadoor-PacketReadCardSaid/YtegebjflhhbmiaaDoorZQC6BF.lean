/- The document's reader: a number. -/
import Derived.Test.YtegebjflhhbmiaaDoorZQC6AX
set_option linter.unusedSimpArgs false
set_option linter.unusedVariables false
namespace Go.Proofs.YtegebjflhhbmiaaDoor
open Go Go.RowKit

/-- The document's reader in memory. -/
abbrev rdd (g : Nat) (A : Option Addr) (n c : Nat) (p : Int) (m : NoD) : HP := blk g (.cells #[.slice A n c, .int .i64 p, .int .i64 m.code, .slice m.chainp m.chainn m.chainc, .slice m.codesp m.codesn m.codesc] 107 (0, 0))
def rnV : Except Nat (Nat × Nat) → Value
  | .ok (v, k) => .tuple #[.int .i64 (v : Nat), .int .i64 (k : Nat), .int .i64 0]
  | .error e => .tuple #[.int .i64 0, .int .i64 0, .int .i64 (e : Nat)]
theorem rdN_eq {most : Int} {j acc : Nat} {b : Int} {t : List Int} (hj : j < 9) : rdN most (9 - j) j acc (b :: t) = if 128 ≤ b then rdN most (9 - (j + 1)) (j + 1) (acc + (b % 128).toNat * 128 ^ j) t else if b = 0 ∧ 0 < j then .error 6 else if most < ((acc + (b % 128).toNat * 128 ^ j : Nat) : Int) then .error 2 else .ok (acc + (b % 128).toNat * 128 ^ j, j + 1) := by
  obtain ⟨f, hf⟩ : ∃ f, 9 - j = f + 1 := ⟨9 - (j + 1), by omega⟩
  rw [hf, rdN, show 9 - (j + 1) = f by omega]
theorem rdN_nil {most : Int} {j acc : Nat} (hj : j < 9) : rdN most (9 - j) j acc [] = .error 7 := by
  obtain ⟨f, hf⟩ : ∃ f, 9 - j = f + 1 := ⟨9 - (j + 1), by omega⟩
  rw [hf, rdN]
theorem num_add {acc j : Nat} {b : Int} (ha : acc < 128 ^ j) (hj : j < 9) : ∃ z : Nat, wrap64 (b % 128 * 2 ^ (7 * j)) = (z : Int) ∧ wrap64 ((acc : Int) + (z : Int)) = ((acc + (b % 128).toNat * 128 ^ j : Nat) : Int) ∧ IntKind.i64.wrap ((acc : Int) + (z : Int)) = ((acc + (b % 128).toNat * 128 ^ j : Nat) : Int) ∧ acc + (b % 128).toNat * 128 ^ j < 128 ^ (j + 1) := by
  have h1 : (b % 128).toNat < 128 := by omega
  have h2 : 128 ^ (j + 1) ≤ 128 ^ 9 := Nat.pow_le_pow_right (by omega) (by omega)
  have h3 : acc + (b % 128).toNat * 128 ^ j < 128 ^ (j + 1) := by
    have : ((b % 128).toNat + 1) * 128 ^ j ≤ 128 * 128 ^ j := Nat.mul_le_mul_right _ (by omega)
    rw [Nat.pow_succ, Nat.mul_comm (128 ^ j)]
    rw [Nat.add_mul, Nat.one_mul] at this
    omega
  have h4 : b % 128 * 2 ^ (7 * j) = (((b % 128).toNat * 128 ^ j : Nat) : Int) := by
    rw [Int.natCast_mul, Int.natCast_pow, Int.pow_mul]
    congr 1
    omega
  refine ⟨(b % 128).toNat * 128 ^ j, ?_, ?_, ?_, h3⟩
  all_goals generalize (b % 128).toNat * 128 ^ j = z at *
  · rw [h4]
    unfold wrap64
    omega
  · unfold wrap64
    omega
  · rw [IntWalk.i64_in _ (by omega)]
    omega
set_option maxRecDepth 20000 in
set_option maxHeartbeats 2000000 in
theorem dnumber_s (c0 : World) (F : HP) (g : Nat) (A : Option Addr) (n c p : Nat) (m : NoD) (raw : List Int) (most : Int) : Spec Tryd.prog c0 100 #[.pointer (some ⟨g, 0, none⟩), .int .i64 most]
    (pu (SlR F 1 bytv (.slice A n c) raw ∧ p ≤ n ∧ (∀ b, b ∈ raw → InB b)) (rdd g A n c p m * F)) (fun r => pu (r = rnV (rd0 most (raw.drop p))) (rdd g A n c p m * F)) := by
  intro w hq; obtain ⟨⟨hsl, hp, hI⟩, hs⟩ := hq.pu; clear hq
  obtain ⟨hn, h1, h2, _⟩ := slr_len hsl (hs.own.mono ent_drop)
  unfold maxLen at h2
  generalize hX : rd0 most (raw.drop p) = X at *
  have hX0 : rdN most (9 - 0) 0 0 (raw.drop (p + 0)) = X := hX
  clear hX
  replace hn := Lib.hid hn
  go_enter Tryd.func100, Tryd.ntmps100
  go_wp2_with fail
  go_loopw [7, 8, 9] (fun s sh i wr => ∃ j acc : Nat, j ≤ 9 ∧ acc < 128 ^ j ∧ p + j ≤ n ∧ s = .int .i64 acc ∧ sh = .int .u64 (7 * (j : Int)) ∧ i = .int .i64 j ∧ Hid (rdN most (9 - j) j acc (raw.drop (p + j)) = X) ∧ Sat c0 (rdd g A n c p m * F) wr) (fun _ _ i _ => 9 - (intOf i).toNat)
  case atStart => exact ⟨0, 0, by omega, by omega, by omega, rfl, rfl, rfl, hX0, hs⟩
  case round =>
    clear hs hX0
    obtain ⟨j, acc, hj, hacc, hpj, rfl, rfl, rfl, hr, hs⟩ := hrel
    by_cases h9 : j < 9
    · by_cases hlt : p + j < n
      · obtain ⟨gb, o, b, rfl, hb, hrd⟩ := slr_get hsl (hs.own.mono ent_drop) hlt
        have hec0 : ReadC F gb (o + (p + j) * 1) (.int .u8 b) := hrd.cell (i := 0) (by omega) (bytv_0 b)
        rw [Nat.mul_one] at hec0
        have hd : raw.drop (p + j) = b :: raw.drop (p + (j + 1)) := by
          have hlt' : p + j < raw.length := by rw [← hn.out]; exact hlt
          rw [List.drop_eq_getElem_cons hlt', ← Nat.add_assoc]
          congr 1
          exact Option.some.inj ((List.getElem?_eq_getElem hlt').symm.trans hb)
        have hbI := hI b (List.mem_of_getElem? hb)
        unfold InB at hbI
        obtain ⟨hb1, hb2⟩ := hbI
        replace hr := hr.out
        rw [hd, rdN_eq h9] at hr
        obtain ⟨z, hnw, hna, hna2, hlt2⟩ := num_add (b := b) hacc h9
        have htn : ((p : Int) + (j : Int)).toNat = p + j := by omega
        clear hrd hb hd
        generalize hnx : acc + (b % 128).toNat * 128 ^ j = nx at *
        by_cases hb3 : 128 ≤ b
        · rw [if_pos hb3] at hr
          replace hr := Lib.hid hr
          have hb0 : b ≠ 0 := by omega
          clear hnx
          go_wp2_with (first
        | ((with_reducible apply wp_region_sl (G := emp) (id := 6) hs 1000); (focus (exact ent_emp_l)); (focus kernel_rfl); (focus decide +kernel); clear hs; (try clear w); intro hR w hRR hs; (try simp only [star_assoc] at hs))
        | ((with_reducible apply wp_region_sl (G := emp) (id := 8) hs 1000); (focus (exact ent_emp_l)); (focus kernel_rfl); (focus decide +kernel); clear hs; (try clear w); intro hR w hRR hs; (try simp only [star_assoc] at hs))
        | ((with_reducible apply mix_end hRR hs); (focus with_reducible (repeat (first | exact ent_here | apply ent_next | exact ent_last)); done); clear hs; (try clear w); intro w hs; (try simp only [star_assoc, star_emp, emp_star] at hs); clear hRR hR)
        | ((with_reducible apply mx_load1 hRR); (focus (simp only [Act.eval, za, zb, zc, zd, ze, zf]; (try with_reducible rfl); done)); (focus (simp only [go_sem])); (focus ((repeat (first | (with_reducible (first | assumption | exact hec _ | exact hec2 _ | exact hec3 _ | exact hec4 _ _)) | ((with_reducible apply readc_here); (focus (first | (simp only [zc, zd, ze, go_sem]; (try with_reducible rfl); done) | (go_simp; (try with_reducible rfl); done)))) | (with_reducible (first | (apply readc_left; assumption) | refine readc_exh (by assumption) ?_ | refine readc_exh0 (by assumption) ?_ | apply readc_next)))); done)); simp only [Act.put, zg, zh, zi])
        | ((with_reducible refine mix_float ?_ ?_ ?_ (fun h hk => ?_) ?_); rotate_left 1; (focus rfl); (focus rfl); (focus (go_simp; (try (rw [if_pos (by omega)]; (try go_simp))); (try simp (disch := omega) only [IntWalk.i64_in, IntWalk.i32_in]); (try with_reducible rfl); done)); simp only [Act.put, zg, zh, zi]))
          exact ⟨⟨j + 1, nx, by omega, hlt2, by omega, by go_num, by go_num, by go_num, hr, hs⟩, by simp [intOf]; omega⟩
        · rw [if_neg hb3] at hr
          by_cases hb0 : b = 0
          · subst hb0
            by_cases hj0 : 0 < j
            · rw [if_pos ⟨rfl, hj0⟩] at hr
              subst hr
              clear hnx
              go_wp2_with (first
        | ((with_reducible apply wp_region_sl (G := emp) (id := 6) hs 1000); (focus (exact ent_emp_l)); (focus kernel_rfl); (focus decide +kernel); clear hs; (try clear w); intro hR w hRR hs; (try simp only [star_assoc] at hs))
        | ((with_reducible apply wp_region_sl (G := emp) (id := 8) hs 1000); (focus (exact ent_emp_l)); (focus kernel_rfl); (focus decide +kernel); clear hs; (try clear w); intro hR w hRR hs; (try simp only [star_assoc] at hs))
        | ((with_reducible rewrite [pl_strike_eq]); rotate_left 1; (focus rfl))
        | ((with_reducible apply mix_end hRR hs); (focus with_reducible (repeat (first | exact ent_here | apply ent_next | exact ent_last)); done); clear hs; (try clear w); intro w hs; (try simp only [star_assoc, star_emp, emp_star] at hs); clear hRR hR)
        | ((with_reducible apply mx_load1 hRR); (focus (simp only [Act.eval, za, zb, zc, zd, ze, zf]; (try with_reducible rfl); done)); (focus (simp only [go_sem])); (focus ((repeat (first | (with_reducible (first | assumption | exact hec _ | exact hec2 _ | exact hec3 _ | exact hec4 _ _)) | ((with_reducible apply readc_here); (focus (first | (simp only [zc, zd, ze, go_sem]; (try with_reducible rfl); done) | (go_simp; (try with_reducible rfl); done)))) | (with_reducible (first | (apply readc_left; assumption) | refine readc_exh (by assumption) ?_ | refine readc_exh0 (by assumption) ?_ | apply readc_next)))); done)); simp only [Act.put, zg, zh, zi])
        | ((with_reducible refine mix_float ?_ ?_ ?_ (fun h hk => ?_) ?_); rotate_left 1; (focus rfl); (focus rfl); (focus (go_simp; (try (rw [if_pos (by omega)]; (try go_simp))); (try simp (disch := omega) only [IntWalk.i64_in, IntWalk.i32_in]); (try with_reducible rfl); done)); simp only [Act.put, zg, zh, zi]))
              (go_ret3; simp only [za, zb, zc, zd, ze, zf])
              exact ⟨_, rfl, hs.mono (ent_pu rfl (by ((repeat (first | (with_reducible (first | exact ent_refl | exact ent_emp)) | ((with_reducible apply ent_front); (focus with_reducible (repeat (first | exact ent_here | apply ent_next | exact ent_last)); done)) | (with_reducible (first | exact ent_keep | apply ent_trans ent_drop)))); done)))⟩
            · obtain rfl : j = 0 := by omega
              rw [if_neg (by omega)] at hr
              rw [Nat.add_zero] at hec0
              obtain rfl : acc = 0 := by omega
              obtain rfl : 0 = nx := by simpa using hnx
              obtain rfl : z = 0 := by
                have e : wrap64 ((0 : Int) % 128 * 2 ^ (7 * 0)) = 0 := by decide +kernel
                rw [e] at hnw
                omega
              clear hnx hna hna2 hnw
              by_cases hm : most < ((0 : Nat) : Int)
              · rw [if_pos hm] at hr
                have hm0 : most < 0 := hm
                subst hr
                go_wp2_with (first
        | ((with_reducible apply wp_region_sl (G := emp) (id := 6) hs 1000); (focus (exact ent_emp_l)); (focus kernel_rfl); (focus decide +kernel); clear hs; (try clear w); intro hR w hRR hs; (try simp only [star_assoc] at hs))
        | ((with_reducible apply wp_region_sl (G := emp) (id := 8) hs 1000); (focus (exact ent_emp_l)); (focus kernel_rfl); (focus decide +kernel); clear hs; (try clear w); intro hR w hRR hs; (try simp only [star_assoc] at hs))
        | ((with_reducible rewrite [pl_strike_eq]); rotate_left 1; (focus rfl))
        | ((with_reducible apply mix_end hRR hs); (focus with_reducible (repeat (first | exact ent_here | apply ent_next | exact ent_last)); done); clear hs; (try clear w); intro w hs; (try simp only [star_assoc, star_emp, emp_star] at hs); clear hRR hR)
        | ((with_reducible apply mx_load1 hRR); (focus (simp only [Act.eval, za, zb, zc, zd, ze, zf]; (try with_reducible rfl); done)); (focus (simp only [go_sem])); (focus ((repeat (first | (with_reducible (first | assumption | exact hec _ | exact hec2 _ | exact hec3 _ | exact hec4 _ _)) | ((with_reducible apply readc_here); (focus (first | (simp only [zc, zd, ze, go_sem]; (try with_reducible rfl); done) | (go_simp; (try with_reducible rfl); done)))) | (with_reducible (first | (apply readc_left; assumption) | refine readc_exh (by assumption) ?_ | refine readc_exh0 (by assumption) ?_ | apply readc_next)))); done)); simp only [Act.put, zg, zh, zi])
        | ((with_reducible refine mix_float ?_ ?_ ?_ (fun h hk => ?_) ?_); rotate_left 1; (focus rfl); (focus rfl); (focus (go_simp; (try (rw [if_pos (by omega)]; (try go_simp))); (try simp (disch := omega) only [IntWalk.i64_in, IntWalk.i32_in]); (try with_reducible rfl); done)); simp only [Act.put, zg, zh, zi]))
                (go_ret3; simp only [za, zb, zc, zd, ze, zf])
                exact ⟨_, rfl, hs.mono (ent_pu rfl (by ((repeat (first | (with_reducible (first | exact ent_refl | exact ent_emp)) | ((with_reducible apply ent_front); (focus with_reducible (repeat (first | exact ent_here | apply ent_next | exact ent_last)); done)) | (with_reducible (first | exact ent_keep | apply ent_trans ent_drop)))); done)))⟩
              · rw [if_neg hm] at hr
                have hm0 : ¬ most < 0 := hm
                subst hr
                go_wp2_with (first
        | ((with_reducible apply wp_region_sl (G := emp) (id := 6) hs 1000); (focus (exact ent_emp_l)); (focus kernel_rfl); (focus decide +kernel); clear hs; (try clear w); intro hR w hRR hs; (try simp only [star_assoc] at hs))
        | ((with_reducible apply wp_region_sl (G := emp) (id := 8) hs 1000); (focus (exact ent_emp_l)); (focus kernel_rfl); (focus decide +kernel); clear hs; (try clear w); intro hR w hRR hs; (try simp only [star_assoc] at hs))
        | ((with_reducible rewrite [pl_strike_eq]); rotate_left 1; (focus rfl))
        | ((with_reducible apply mix_end hRR hs); (focus with_reducible (repeat (first | exact ent_here | apply ent_next | exact ent_last)); done); clear hs; (try clear w); intro w hs; (try simp only [star_assoc, star_emp, emp_star] at hs); clear hRR hR)
        | ((with_reducible apply mx_load1 hRR); (focus (simp only [Act.eval, za, zb, zc, zd, ze, zf]; (try with_reducible rfl); done)); (focus (simp only [go_sem])); (focus ((repeat (first | (with_reducible (first | assumption | exact hec _ | exact hec2 _ | exact hec3 _ | exact hec4 _ _)) | ((with_reducible apply readc_here); (focus (first | (simp only [zc, zd, ze, go_sem]; (try with_reducible rfl); done) | (go_simp; (try with_reducible rfl); done)))) | (with_reducible (first | (apply readc_left; assumption) | refine readc_exh (by assumption) ?_ | refine readc_exh0 (by assumption) ?_ | apply readc_next)))); done)); simp only [Act.put, zg, zh, zi])
        | ((with_reducible refine mix_float ?_ ?_ ?_ (fun h hk => ?_) ?_); rotate_left 1; (focus rfl); (focus rfl); (focus (go_simp; (try (rw [if_pos (by omega)]; (try go_simp))); (try simp (disch := omega) only [IntWalk.i64_in, IntWalk.i32_in]); (try with_reducible rfl); done)); simp only [Act.put, zg, zh, zi]))
                (go_ret3; simp only [za, zb, zc, zd, ze, zf])
                exact ⟨_, rfl, hs.mono (ent_pu rfl (by ((repeat (first | (with_reducible (first | exact ent_refl | exact ent_emp)) | ((with_reducible apply ent_front); (focus with_reducible (repeat (first | exact ent_here | apply ent_next | exact ent_last)); done)) | (with_reducible (first | exact ent_keep | apply ent_trans ent_drop)))); done)))⟩
          · rw [if_neg (fun h => hb0 h.1)] at hr
            clear hnx
            by_cases hm : most < ((nx : Nat) : Int)
            · rw [if_pos hm] at hr
              subst hr
              go_wp2_with (first
        | ((with_reducible apply wp_region_sl (G := emp) (id := 6) hs 1000); (focus (exact ent_emp_l)); (focus kernel_rfl); (focus decide +kernel); clear hs; (try clear w); intro hR w hRR hs; (try simp only [star_assoc] at hs))
        | ((with_reducible apply wp_region_sl (G := emp) (id := 8) hs 1000); (focus (exact ent_emp_l)); (focus kernel_rfl); (focus decide +kernel); clear hs; (try clear w); intro hR w hRR hs; (try simp only [star_assoc] at hs))
        | ((with_reducible apply pl_guard_t); (focus rfl); (focus rfl); all_goals (intro hb; first | (cases hb; done) | ((try simp at hb); first | contradiction | ((have hF : False := (by omega)); (cases hF; done)) | (simp only [Act.put, zg, zh, zi]))))
        | ((with_reducible apply mix_end hRR hs); (focus with_reducible (repeat (first | exact ent_here | apply ent_next | exact ent_last)); done); clear hs; (try clear w); intro w hs; (try simp only [star_assoc, star_emp, emp_star] at hs); clear hRR hR)
        | ((with_reducible apply mx_load1 hRR); (focus (simp only [Act.eval, za, zb, zc, zd, ze, zf]; (try with_reducible rfl); done)); (focus (simp only [go_sem])); (focus ((repeat (first | (with_reducible (first | assumption | exact hec _ | exact hec2 _ | exact hec3 _ | exact hec4 _ _)) | ((with_reducible apply readc_here); (focus (first | (simp only [zc, zd, ze, go_sem]; (try with_reducible rfl); done) | (go_simp; (try with_reducible rfl); done)))) | (with_reducible (first | (apply readc_left; assumption) | refine readc_exh (by assumption) ?_ | refine readc_exh0 (by assumption) ?_ | apply readc_next)))); done)); simp only [Act.put, zg, zh, zi])
        | ((with_reducible refine mix_float ?_ ?_ ?_ (fun h hk => ?_) ?_); rotate_left 1; (focus rfl); (focus rfl); (focus (go_simp; (try (rw [if_pos (by omega)]; (try go_simp))); (try simp (disch := omega) only [IntWalk.i64_in, IntWalk.i32_in]); (try with_reducible rfl); done)); simp only [Act.put, zg, zh, zi]))
              (go_ret3; simp only [za, zb, zc, zd, ze, zf])
              exact ⟨_, rfl, hs.mono (ent_pu rfl (by ((repeat (first | (with_reducible (first | exact ent_refl | exact ent_emp)) | ((with_reducible apply ent_front); (focus with_reducible (repeat (first | exact ent_here | apply ent_next | exact ent_last)); done)) | (with_reducible (first | exact ent_keep | apply ent_trans ent_drop)))); done)))⟩
            · rw [if_neg hm] at hr
              subst hr
              go_wp2_with (first
        | ((with_reducible apply wp_region_sl (G := emp) (id := 6) hs 1000); (focus (exact ent_emp_l)); (focus kernel_rfl); (focus decide +kernel); clear hs; (try clear w); intro hR w hRR hs; (try simp only [star_assoc] at hs))
        | ((with_reducible apply wp_region_sl (G := emp) (id := 8) hs 1000); (focus (exact ent_emp_l)); (focus kernel_rfl); (focus decide +kernel); clear hs; (try clear w); intro hR w hRR hs; (try simp only [star_assoc] at hs))
        | ((with_reducible apply pl_guard_t); (focus rfl); (focus rfl); all_goals (intro hb; first | (cases hb; done) | ((try simp at hb); first | contradiction | ((have hF : False := (by omega)); (cases hF; done)) | (simp only [Act.put, zg, zh, zi]))))
        | ((with_reducible apply mix_end hRR hs); (focus with_reducible (repeat (first | exact ent_here | apply ent_next | exact ent_last)); done); clear hs; (try clear w); intro w hs; (try simp only [star_assoc, star_emp, emp_star] at hs); clear hRR hR)
        | ((with_reducible apply mx_load1 hRR); (focus (simp only [Act.eval, za, zb, zc, zd, ze, zf]; (try with_reducible rfl); done)); (focus (simp only [go_sem])); (focus ((repeat (first | (with_reducible (first | assumption | exact hec _ | exact hec2 _ | exact hec3 _ | exact hec4 _ _)) | ((with_reducible apply readc_here); (focus (first | (simp only [zc, zd, ze, go_sem]; (try with_reducible rfl); done) | (go_simp; (try with_reducible rfl); done)))) | (with_reducible (first | (apply readc_left; assumption) | refine readc_exh (by assumption) ?_ | refine readc_exh0 (by assumption) ?_ | apply readc_next)))); done)); simp only [Act.put, zg, zh, zi])
        | ((with_reducible refine mix_float ?_ ?_ ?_ (fun h hk => ?_) ?_); rotate_left 1; (focus rfl); (focus rfl); (focus (go_simp; (try (rw [if_pos (by omega)]; (try go_simp))); (try simp (disch := omega) only [IntWalk.i64_in, IntWalk.i32_in]); (try with_reducible rfl); done)); simp only [Act.put, zg, zh, zi]))
              (go_ret3; simp only [za, zb, zc, zd, ze, zf])
              exact ⟨_, rfl, hs.mono (ent_pu rfl (by ((repeat (first | (with_reducible (first | exact ent_refl | exact ent_emp)) | ((with_reducible apply ent_front); (focus with_reducible (repeat (first | exact ent_here | apply ent_next | exact ent_last)); done)) | (with_reducible (first | exact ent_keep | apply ent_trans ent_drop)))); done)))⟩
      · have hd : raw.drop (p + j) = [] := List.drop_eq_nil_of_le (by have := hn.out; omega)
        replace hr := hr.out
        rw [hd, rdN_nil h9] at hr
        subst hr
        clear hd
        go_wp2_with (first
        | ((with_reducible apply wp_region_sl (G := emp) (id := 6) hs 1000); (focus (exact ent_emp_l)); (focus kernel_rfl); (focus decide +kernel); clear hs; (try clear w); intro hR w hRR hs; (try simp only [star_assoc] at hs))
        | ((with_reducible apply mix_end hRR hs); (focus with_reducible (repeat (first | exact ent_here | apply ent_next | exact ent_last)); done); clear hs; (try clear w); intro w hs; (try simp only [star_assoc, star_emp, emp_star] at hs); clear hRR hR)
        | ((with_reducible apply mx_load1 hRR); (focus (simp only [Act.eval, za, zb, zc, zd, ze, zf]; (try with_reducible rfl); done)); (focus (simp only [go_sem])); (focus ((repeat (first | (with_reducible (first | assumption | exact hec _ | exact hec2 _ | exact hec3 _ | exact hec4 _ _)) | ((with_reducible apply readc_here); (focus (first | (simp only [zc, zd, ze, go_sem]; (try with_reducible rfl); done) | (go_simp; (try with_reducible rfl); done)))) | (with_reducible (first | (apply readc_left; assumption) | refine readc_exh (by assumption) ?_ | refine readc_exh0 (by assumption) ?_ | apply readc_next)))); done)); simp only [Act.put, zg, zh, zi])
        | ((with_reducible refine mix_float ?_ ?_ ?_ (fun h hk => ?_) ?_); rotate_left 1; (focus rfl); (focus rfl); (focus (go_simp; (try (rw [if_pos (by omega)]; (try go_simp))); (try simp (disch := omega) only [IntWalk.i64_in, IntWalk.i32_in]); (try with_reducible rfl); done)); simp only [Act.put, zg, zh, zi]))
        (go_ret3; simp only [za, zb, zc, zd, ze, zf])
        exact ⟨_, rfl, hs.mono (ent_pu rfl (by ((repeat (first | (with_reducible (first | exact ent_refl | exact ent_emp)) | ((with_reducible apply ent_front); (focus with_reducible (repeat (first | exact ent_here | apply ent_next | exact ent_last)); done)) | (with_reducible (first | exact ent_keep | apply ent_trans ent_drop)))); done)))⟩
    · obtain rfl : j = 9 := by omega
      replace hr := hr.out
      rw [show 9 - 9 = 0 from rfl, rdN] at hr
      subst hr
      go_wp2_with fail
      (go_ret3; simp only [za, zb, zc, zd, ze, zf])
      exact ⟨_, rfl, hs.mono (ent_pu rfl (by ((repeat (first | (with_reducible (first | exact ent_refl | exact ent_emp)) | ((with_reducible apply ent_front); (focus with_reducible (repeat (first | exact ent_here | apply ent_next | exact ent_last)); done)) | (with_reducible (first | exact ent_keep | apply ent_trans ent_drop)))); done)))⟩
end Go.Proofs.YtegebjflhhbmiaaDoor
