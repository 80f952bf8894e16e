/- DiffRoom: texts whose lengths, as a product, pass 2^22 are refused, no others. -/
import Derived.Test.YtgoifgockcpnhaaDoorZDC7AZ
import Derived.Test.YtgoifgockcpnhaaDoorZDC7BB
set_option linter.unusedSimpArgs false
set_option linter.unusedVariables false
namespace Go.Proofs.YtgoifgockcpnhaaDoor
open Go Go.RowKit

theorem kwithin_s (c0 : World) (F : HP) (n m : Int) : Spec Tryd.prog c0 26 #[.int .i64 n, .int .i64 m] (pu (1 ≤ m ∧ m ≤ 100000 ∧ InI n) F) (fun r => ex fun k : Nat => pu (r = .int .i64 k ∧ (k : Int) < m) F) := by
  intro w hq; obtain ⟨⟨h1, h2, h3⟩, hs⟩ := hq.pu; clear hq
  have hz : (m == 0) = false := by simp; omega
  have hm1 : n.tmod m < m ∧ - m < n.tmod m := ⟨Int.tmod_lt_of_pos _ (by omega), by have := Int.lt_tmod_of_pos n (show 0 < m by omega); omega⟩
  obtain ⟨hm1, hm2⟩ := hm1
  have hw1 : IntKind.i64.wrap (n.tmod m) = n.tmod m := IntWalk.i64_in _ (by omega)
  have hw2 : IntKind.i64.wrap (n.tmod m + m) = n.tmod m + m := IntWalk.i64_in _ (by omega)
  go_enter Tryd.func26, Tryd.ntmps26
  go_wp2_with fail
  all_goals (go_ret; simp only [za, zb, zc, zd, ze, zf])
  · exact ⟨_, rfl, hs.mono (ent_ex (n.tmod m + m).toNat (ent_pu ⟨by congr 1; omega, by omega⟩ (by ((repeat (first | (with_reducible (first | exact ent_refl | exact ent_emp)) | ((with_reducible apply ent_front); (focus with_reducible (repeat (first | exact ent_here | apply ent_next | exact ent_last)); done)) | (with_reducible (first | exact ent_keep | apply ent_trans ent_drop)))); done))))⟩
  · exact ⟨_, rfl, hs.mono (ent_ex (n.tmod m).toNat (ent_pu ⟨by congr 1; omega, by omega⟩ (by ((repeat (first | (with_reducible (first | exact ent_refl | exact ent_emp)) | ((with_reducible apply ent_front); (focus with_reducible (repeat (first | exact ent_here | apply ent_next | exact ent_last)); done)) | (with_reducible (first | exact ent_keep | apply ent_trans ent_drop)))); done))))⟩
def manyB (N : Int) (c : Nat) : ByteArray := bts (List.replicate N.toNat (c : Int))
theorem many_ext {n : Nat} {l : List Int} {c : Int} (hl : l.length = n) (h : ∀ i, i < n → l[i]? = some c) : l = List.replicate n c := by
  apply List.ext_getElem?
  intro i
  by_cases hi : i < n
  · rw [h i hi, List.getElem?_replicate, if_pos hi]
  · rw [List.getElem?_eq_none (by omega), List.getElem?_eq_none (by simp; omega)]
theorem many_put {n k : Nat} {l : List Int} {c : Int} (hl : l.length = n) (h : ∀ i, i < k → l[i]? = some c) (hk : k < n) : (l.set k c).length = n ∧ ∀ i, i < k + 1 → (l.set k c)[i]? = some c := by
  refine ⟨by rw [List.length_set, hl], fun i hi => ?_⟩
  rw [List.getElem?_set]
  by_cases hki : k = i
  · rw [if_pos hki, if_pos (by omega)]
  · rw [if_neg hki]; exact h i (by omega)
set_option maxRecDepth 20000 in
set_option maxHeartbeats 2000000 in
theorem many_s (c0 : World) (F : HP) (N : Int) (c : Nat) : Spec Tryd.prog c0 27 #[.int .i64 N, .int .u8 c] (pu (0 ≤ N ∧ N ≤ 100000) F) (fun r => pu (r = .string (manyB N c)) F) := by
  intro w hq; obtain ⟨⟨h1, h2⟩, hs⟩ := hq.pu; clear hq
  obtain ⟨n, rfl⟩ := Int.eq_ofNat_of_zero_le h1
  have hmx : 0 ≤ maxLen := Nat.zero_le _
  unfold manyB
  rw [Int.toNat_natCast]
  go_enter Tryd.func27, Tryd.ntmps27
  go_wp2_with (first
        | (((with_reducible apply pl_make hs); (first | (with_reducible exact mk_90)); (focus (simp only [Act.eval, za, zb, zc, zd, ze, zf]; (try with_reducible rfl); done)); (focus (simp only [Act.eval, za, zb, zc, zd, ze, zf]; (try with_reducible rfl); done)); (focus (first | (simp only [maxLen] at *; omega) | (simp [maxLen] at *; omega))); (focus (first | (simp only [maxLen]; omega) | omega)); clear hs; (try clear w); intro gm w hs; simp only [Act.put, zg, zh, zi])))
  go_loopw [6] (fun iv wr => ∃ (k : Nat) (l' : List Int), k ≤ n ∧ iv = .int .i64 k ∧ Hid (l'.length = n ∧ ∀ i, i < k → l'[i]? = some (c : Int)) ∧ Sat c0 (row 5 1 bytv (.slice (some ⟨gm, 0, none⟩) n n) l' * F) wr) (fun iv _ => n - (intOf iv).toNat)
  case atStart => exact ⟨0, _, by omega, rfl, ⟨by rw [List.length_replicate], by omega⟩, hs⟩
  case round =>
    clear hs
    obtain ⟨k, l', hk, rfl, hl', hs⟩ := hrel
    by_cases hlt : k < n
    · have hlI : (k : Int) < n := by omega
      have hput := many_put hl'.out.1 hl'.out.2 hlt
      replace hput := Lib.hid hput
      have hlb : l'[k]? = some (l'[k]'(by have := hl'.out.1; omega)) := List.getElem?_eq_getElem _
      generalize (l'[k]'(by have := hl'.out.1; omega)) = b at hlb
      have hkl : k < l'.length := by have := hl'.out.1; omega
      go_wp2_with (first
        | (((with_reducible apply pl_storeIn (i := k) (j := 0) hs); (focus (simp only [Act.eval, za, zb, zc, zd, ze, zf]; (try with_reducible rfl); done)); (focus with_reducible (repeat (first | exact ent_here | apply ent_next | exact ent_last)); done); (focus (simp only [Act.eval, za, zb, zc, zd, ze, zf]; (try with_reducible rfl); done)); (focus (simp only [go_sem])); (focus rfl); (focus omega); (focus omega); (focus (exact hlb)); (focus (exact bytv_set _ _)); (focus (exact bytv_size)); clear hs; (try clear w); intro w hs; simp only [Act.put, zg, zh, zi])))
      exact ⟨⟨k + 1, _, by omega, congrArg (Value.int .i64) (by omega), hput, hs⟩, by simp only [intOf]; omega⟩
    · obtain rfl : n = k := by omega
      have hlI : ¬ (n : Int) < n := by omega
      obtain rfl := many_ext hl'.out.1 hl'.out.2
      clear hl'
      go_wp2_with (first
        | ((with_reducible apply pl_cvBS hs); (focus (simp only [Act.eval, za, zb, zc, zd, ze, zf]; (try with_reducible rfl); done)); (first | (with_reducible exact byt_90_9)); (focus (first | ((repeat (first | (with_reducible (first | assumption | exact slr_ro |  exact hsl _ | exact hsl2 _ | exact hsl3 _ _ _ | exact slr_nil | exact slr_row (fun _ => by simp only [go_sem]) | exact slr_one (fun _ => by simp only [go_sem]) | (apply slr_left; assumption))) | (with_reducible apply slr_next))); done) | ((repeat (first | (with_reducible (first | assumption | exact slr_ro |  exact hsl _ | exact hsl2 _ | exact hsl3 _ _ _ | exact slr_nil | exact slr_row (fun _ => by simp only [go_sem]) | exact slr_one (fun _ => by simp only [go_sem]) | (apply slr_left; assumption))) | (with_reducible (first | (apply slr_exh; focus assumption) | (apply slr_exh0; focus assumption) | apply slr_next)))); done))); (focus rfl); simp only [Act.put, zg, zh, zi]))
      (go_ret; simp only [za, zb, zc, zd, ze, zf])
      exact ⟨_, rfl, hs.mono (ent_pu rfl (by ((repeat (first | (with_reducible (first | exact ent_refl | exact ent_emp)) | ((with_reducible apply ent_front); (focus with_reducible (repeat (first | exact ent_here | apply ent_next | exact ent_last)); done)) | (with_reducible (first | exact ent_keep | apply ent_trans ent_drop)))); done)))⟩
theorem manyA_s (c0 : World) (F : HP) (N : Int) : Spec Tryd.prog c0 27 #[.int .i64 N, .int .u8 97] (pu (0 ≤ N ∧ N ≤ 100000) F) (fun r => pu (r = .string (manyB N 97)) F) := many_s c0 F N 97
theorem manyC_s (c0 : World) (F : HP) (N : Int) : Spec Tryd.prog c0 27 #[.int .i64 N, .int .u8 98] (pu (0 ≤ N ∧ N ≤ 100000) F) (fun r => pu (r = .string (manyB N 98)) F) := many_s c0 F N 98
theorem encs_many (n k : Nat) (hk : k < 128) : encs (List.replicate n (k : Int)) = List.replicate n (UInt8.ofNat k) := by
  unfold encs
  induction n with
  | zero => rfl
  | succ n ih => rw [List.replicate_succ, List.flatMap_cons, ih, encR_1 hk, List.replicate_succ]; rfl
theorem many_rts (N : Int) (k : Nat) (hk : k < 128) : manyB N k = rts (List.replicate N.toNat (k : Int)) := by
  unfold manyB rts bts
  rw [encs_many _ _ hk, List.map_replicate, Int.toNat_natCast]
theorem runes_many (N : Int) (k : Nat) (hk : k < 128) : runesL (manyB N k).data.toList = some (List.replicate N.toNat (k : Int)) := by
  rw [many_rts N k hk]
  exact runes_rts fun c hc => by obtain ⟨_, rfl⟩ := List.mem_replicate.1 hc; exact ⟨by omega, by omega, by omega⟩
theorem many_size (N : Int) (k : Nat) : (manyB N k).size = N.toNat := by unfold manyB; rw [bts_size, List.length_replicate]
theorem txt_many {X Y : Int} {a b : Nat} (ha : a < 128) (hb : b < 128) (hX : 1 ≤ X) (h : (4194304 : Int) / X < Y) : txtR (manyB X a) (manyB Y b) = .error (-1, 13) := by
  unfold txtR
  rw [runes_many X a ha, runes_many Y b hb]
  have h1 : ((X.toNat : Nat) : Int) = X := Int.toNat_of_nonneg (by omega)
  have h2 : (Y : Int) ≤ ((Y.toNat : Nat) : Int) := Int.self_le_toNat Y
  simp only [List.length_replicate]
  rw [if_pos]
  refine ⟨by omega, ?_⟩
  rw [h1]
  omega
theorem txt_none {X : Int} {b : Nat} (hb : b < 128) : txtR ⟨#[]⟩ (manyB X b) = .ok ([], List.replicate X.toNat (b : Int)) := by
  unfold txtR
  rw [runes_many X b hb, show runesL (⟨#[]⟩ : ByteArray).data.toList = some [] from runesL_nil]
  simp
theorem quo_in (k : Nat) (h : (k : Int) < 2000) : 1036 ≤ (4194304 : Int) / (2049 + (k : Int)) ∧ (4194304 : Int) / (2049 + (k : Int)) ≤ 2047 :=
  ⟨Int.le_ediv_of_mul_le (by omega) (by omega), by have := Int.ediv_lt_of_lt_mul (a := 4194304) (b := 2048) (c := 2049 + (k : Int)) (by omega) (by omega); omega⟩
theorem quo_in2 (y : Int) (h : 1036 ≤ y) : 0 ≤ (4194304 : Int) / y ∧ (4194304 : Int) / y ≤ 4048 :=
  ⟨Int.ediv_nonneg (by omega) (by omega), by have := Int.ediv_lt_of_lt_mul (a := 4194304) (b := 4049) (c := y) (by omega) (by omega); omega⟩
theorem wrap_quo (x : Int) (h : 1 ≤ x) : IntKind.i64.wrap (Int.tdiv 4194304 x) = 4194304 / x := by
  have h1 : 0 ≤ (4194304 : Int) / x := Int.ediv_nonneg (by omega) (by omega)
  have h2 : (4194304 : Int) / x ≤ 4194304 := Int.ediv_le_self x (by omega)
  rw [Int.tdiv_eq_ediv_of_nonneg (by omega)]
  exact IntWalk.i64_in _ (by omega)
@[go_sem high] theorem wrap_quo1 (k : Nat) : IntKind.i64.wrap (Int.tdiv 4194304 (2049 + (k : Int))) = 4194304 / (2049 + (k : Int)) := wrap_quo _ (by omega)
@[go_sem high] theorem wrap_quo2 (k j : Nat) : IntKind.i64.wrap (Int.tdiv 4194304 (4194304 / (2049 + (k : Int)) + 1 + (j : Int))) = 4194304 / (4194304 / (2049 + (k : Int)) + 1 + (j : Int)) := wrap_quo _ (by have : 0 ≤ (4194304 : Int) / (2049 + (k : Int)) := Int.ediv_nonneg (by omega) (by omega); omega)
set_option maxRecDepth 20000 in
set_option maxHeartbeats 8000000 in
theorem lawRoom_s (c0 : World) (F : HP) (a : Nat → Addr) (n e : Int) : Spec Tryd.prog c0 8 #[.int .i64 n, .int .i64 e] (pu (ErrA F a ∧ TabF F ∧ InI n ∧ InI e) F) (fun r => pu (r = .bool true) F) := by
  intro w hq; obtain ⟨⟨hEA, hT, hn, he⟩, hs⟩ := hq.pu; clear hq
  have hE := hEA.b
  have hdi : ∀ F X Y, Spec Tryd.prog c0 13 #[.string (manyB X 97), .string (manyB Y 98)] (pu (ErrB F a ∧ TabF F ∧ 1 ≤ X ∧ X ≤ 100000 ∧ Y ≤ 100000 ∧ (4194304 : Int) / X < Y) F) (fun r => ex fun e : Value => pu (r = .tuple #[.int .i64 0, e]) (RefP a (some ([⟨dfB, cDi, -1⟩], 13)) e * F)) := fun F X Y w hs => by
    obtain ⟨⟨h1, h2, h3, h4, h5, h6⟩, hs⟩ := hs.pu
    have := distance_s c0 F a (manyB X 97) (manyB Y 98) w (hs.mono (ent_pu ⟨h1, h2, by rw [many_size]; omega, by rw [many_size]; omega⟩ ent_refl))
    unfold DiR at this
    rw [txt_many (by omega) (by omega) h3 h6] at this
    exact this
  have hed : ∀ F X Y, Spec Tryd.prog c0 17 #[.string (manyB X 97), .string (manyB Y 98)] (pu (ErrB F a ∧ TabF F ∧ 1 ≤ X ∧ X ≤ 100000 ∧ Y ≤ 100000 ∧ (4194304 : Int) / X < Y) F) (fun r => ex fun e : Value => pu (r = .tuple #[.slice none 0 0, e]) (RefP a (some ([⟨dfB, cEd, -1⟩], 13)) e * F)) := fun F X Y w hs => by
    obtain ⟨⟨h1, h2, h3, h4, h5, h6⟩, hs⟩ := hs.pu
    have := edits_s c0 F a (manyB X 97) (manyB Y 98) w (hs.mono (ent_pu ⟨h1, h2, by rw [many_size]; omega, by rw [many_size]; omega⟩ ent_refl))
    unfold EdR at this
    rw [txt_many (by omega) (by omega) h3 h6] at this
    exact this
  have hco : ∀ F X Y, Spec Tryd.prog c0 15 #[.string (manyB X 97), .string (manyB Y 98)] (pu (ErrB F a ∧ TabF F ∧ 1 ≤ X ∧ X ≤ 100000 ∧ Y ≤ 100000 ∧ (4194304 : Int) / X < Y) F) (fun r => ex fun e : Value => pu (r = .tuple #[.string ⟨#[]⟩, e]) (RefP a (some ([⟨dfB, cCo, -1⟩], 13)) e * F)) := fun F X Y w hs => by
    obtain ⟨⟨h1, h2, h3, h4, h5, h6⟩, hs⟩ := hs.pu
    have := common_s c0 F a (manyB X 97) (manyB Y 98) w (hs.mono (ent_pu ⟨h1, h2, by rw [many_size]; omega, by rw [many_size]; omega⟩ ent_refl))
    unfold CoR at this
    rw [txt_many (by omega) (by omega) h3 h6] at this
    exact this
  have hd0 : ∀ F X, Spec Tryd.prog c0 13 #[.string ⟨#[]⟩, .string (manyB X 98)] (pu (ErrB F a ∧ TabF F ∧ 0 ≤ X ∧ X ≤ 100000) F) (fun r => pu (r = .tuple #[.int .i64 X, .nilIface]) F) := fun F X w hs => by
    obtain ⟨⟨h1, h2, h3, h4⟩, hs⟩ := hs.pu
    have := distance_s c0 F a ⟨#[]⟩ (manyB X 98) w (hs.mono (ent_pu ⟨h1, h2, by decide, by rw [many_size]; omega⟩ ent_refl))
    unfold DiR at this
    rw [txt_none (by omega)] at this
    simp only [dst_nil, List.length_replicate] at this
    rwa [Int.toNat_of_nonneg h3] at this
  go_enter Tryd.func8, Tryd.ntmps8
  go_wp2_with (first
        | ((with_reducible rewrite [pl_strike_eq]); rotate_left 1; (focus rfl))
        | ((with_reducible apply wp_region_sl (G := emp) (id := 2) hs 1000); (focus (exact ent_emp_l)); (focus kernel_rfl); (focus decide +kernel); clear hs; (try clear w); intro hR w hRR hs; (try simp only [star_assoc] at hs))
        | ((with_reducible apply wp_region_sl (G := emp) (id := 5) hs 1000); (focus (exact ent_emp_l)); (focus kernel_rfl); (focus decide +kernel); clear hs; (try clear w); intro hR w hRR hs; (try simp only [star_assoc] at hs))
        | ((with_reducible apply pl_call hs (kwithin_s _ _ n 2000)); ((((focus (simp only [zj, zk, zl, List.append_toArray, List.nil_append, List.cons_append, Act.eval, za, zb, zc, zd, ze, zf]; (try with_reducible rfl); done)); (focus ((repeat (first | (with_reducible (first | exact ent_refl | apply ent_puR)) | ((with_reducible apply ent_front); (focus with_reducible (repeat (first | exact ent_here | apply ent_next | exact ent_last)); done)) | (with_reducible (first | exact ent_keep | apply ent_trans ent_drop)) | (focus (first | ((repeat' (first | (with_reducible assumption) | (with_reducible apply And.intro) | omega)); done))))); done)); (focus (simp only [go_sem]))))); clear hs; (try clear w); intro v w hq; (obtain ⟨k1, hq1⟩ := hq.ex; obtain ⟨⟨rfl, hk1⟩, hs⟩ := hq1.pu; clear hq1; obtain ⟨hx1, hx2⟩ := quo_in k1 hk1; have hz : (2049 + (k1 : Int)) ≠ 0 := (by omega); have hz1 : (0 : Int) < 2049 + (k1 : Int) := (by omega)); clear hq; (try simp only [star_assoc, star_emp, emp_star] at hs); (try simp only [Act.put, zg, zh, zi]))
        | ((with_reducible apply mx_call hs (kwithin_s _ _ e 3)); ((((focus (simp only [zj, zk, zl, List.append_toArray, List.nil_append, List.cons_append, Act.eval, za, zb, zc, zd, ze, zf]; (try with_reducible rfl); done)); (focus ((repeat (first | (with_reducible (first | exact ent_refl | apply ent_puR)) | ((with_reducible apply ent_front); (focus with_reducible (repeat (first | exact ent_here | apply ent_next | exact ent_last)); done)) | (with_reducible (first | exact ent_keep | apply ent_trans ent_drop)) | (focus (first | ((repeat' (first | (with_reducible assumption) | (with_reducible apply And.intro) | omega)); done))))); done)); (focus (simp only [go_sem])); (focus (intros; with_reducible (refine in_of_sat (by assumption) ?_; repeat (first | exact ent_exh_here | exact ent_last | refine ent_pu_l (fun _ => ?_) | refine ent_ex_l (fun _ => ?_) | apply ent_exh_next)); done))))); clear hs; (try clear w); intro v w hq; (obtain ⟨k2, hq1⟩ := hq.ex; obtain ⟨⟨rfl, hk2⟩, hs⟩ := hq1.pu; clear hq1; obtain ⟨hx3, hx4⟩ := quo_in2 ((4194304 : Int) / (2049 + (k1 : Int)) + 1 + (k2 : Int)) (by omega); have hy : ((4194304 : Int) / (2049 + (k1 : Int)) + 1 + (k2 : Int)) ≠ 0 := (by omega); have hy1 : (0 : Int) < (4194304 : Int) / (2049 + (k1 : Int)) + 1 + (k2 : Int) := (by omega)); clear hq; (try simp only [star_assoc, star_emp, emp_star] at hs); (try simp only [Act.put, zg, zh, zi]))
        | ((with_reducible apply pl_call hs (manyA_s _ _ _)); ((((focus (simp only [zj, zk, zl, List.append_toArray, List.nil_append, List.cons_append, Act.eval, za, zb, zc, zd, ze, zf]; (try with_reducible rfl); done)); (focus ((repeat (first | (with_reducible (first | exact ent_refl | apply ent_puR)) | ((with_reducible apply ent_front); (focus with_reducible (repeat (first | exact ent_here | apply ent_next | exact ent_last)); done)) | (with_reducible (first | exact ent_keep | apply ent_trans ent_drop)) | (focus (first | ((repeat' (first | (with_reducible apply And.intro) | omega)); done))))); done)); (focus (simp only [go_sem]))))); clear hs; (try clear w); intro v w hq; (obtain ⟨rfl, hs⟩ := hq.pu); clear hq; (try simp only [star_assoc, star_emp, emp_star] at hs); (try simp only [Act.put, zg, zh, zi]))
        | ((with_reducible apply mx_call hs (manyA_s _ _ _)); ((((focus (simp only [zj, zk, zl, List.append_toArray, List.nil_append, List.cons_append, Act.eval, za, zb, zc, zd, ze, zf]; (try with_reducible rfl); done)); (focus ((repeat (first | (with_reducible (first | exact ent_refl | apply ent_puR)) | ((with_reducible apply ent_front); (focus with_reducible (repeat (first | exact ent_here | apply ent_next | exact ent_last)); done)) | (with_reducible (first | exact ent_keep | apply ent_trans ent_drop)) | (focus (first | ((repeat' (first | (with_reducible apply And.intro) | omega)); done))))); done)); (focus (simp only [go_sem])); (focus (intros; with_reducible (refine in_of_sat (by assumption) ?_; repeat (first | exact ent_exh_here | exact ent_last | refine ent_pu_l (fun _ => ?_) | refine ent_ex_l (fun _ => ?_) | apply ent_exh_next)); done))))); clear hs; (try clear w); intro v w hq; (obtain ⟨rfl, hs⟩ := hq.pu); clear hq; (try simp only [star_assoc, star_emp, emp_star] at hs); (try simp only [Act.put, zg, zh, zi]))
        | ((with_reducible apply pl_call hs (manyC_s _ _ _)); ((((focus (simp only [zj, zk, zl, List.append_toArray, List.nil_append, List.cons_append, Act.eval, za, zb, zc, zd, ze, zf]; (try with_reducible rfl); done)); (focus ((repeat (first | (with_reducible (first | exact ent_refl | apply ent_puR)) | ((with_reducible apply ent_front); (focus with_reducible (repeat (first | exact ent_here | apply ent_next | exact ent_last)); done)) | (with_reducible (first | exact ent_keep | apply ent_trans ent_drop)) | (focus (first | ((repeat' (first | (with_reducible apply And.intro) | omega)); done))))); done)); (focus (simp only [go_sem]))))); clear hs; (try clear w); intro v w hq; (obtain ⟨rfl, hs⟩ := hq.pu); clear hq; (try simp only [star_assoc, star_emp, emp_star] at hs); (try simp only [Act.put, zg, zh, zi]))
        | ((with_reducible apply mx_call hs (manyC_s _ _ _)); ((((focus (simp only [zj, zk, zl, List.append_toArray, List.nil_append, List.cons_append, Act.eval, za, zb, zc, zd, ze, zf]; (try with_reducible rfl); done)); (focus ((repeat (first | (with_reducible (first | exact ent_refl | apply ent_puR)) | ((with_reducible apply ent_front); (focus with_reducible (repeat (first | exact ent_here | apply ent_next | exact ent_last)); done)) | (with_reducible (first | exact ent_keep | apply ent_trans ent_drop)) | (focus (first | ((repeat' (first | (with_reducible apply And.intro) | omega)); done))))); done)); (focus (simp only [go_sem])); (focus (intros; with_reducible (refine in_of_sat (by assumption) ?_; repeat (first | exact ent_exh_here | exact ent_last | refine ent_pu_l (fun _ => ?_) | refine ent_ex_l (fun _ => ?_) | apply ent_exh_next)); done))))); clear hs; (try clear w); intro v w hq; (obtain ⟨rfl, hs⟩ := hq.pu); clear hq; (try simp only [star_assoc, star_emp, emp_star] at hs); (try simp only [Act.put, zg, zh, zi]))
        | ((with_reducible apply pl_call hs (hdi _ _ _)); ((((focus (simp only [zj, zk, zl, List.append_toArray, List.nil_append, List.cons_append, Act.eval, za, zb, zc, zd, ze, zf]; (try with_reducible rfl); done)); (focus ((repeat (first | (with_reducible (first | exact ent_refl | apply ent_puR)) | ((with_reducible apply ent_front); (focus with_reducible (repeat (first | exact ent_here | apply ent_next | exact ent_last)); done)) | (with_reducible (first | exact ent_keep | apply ent_trans ent_drop)) | (focus (first | ((repeat' (first | (with_reducible assumption) | (with_reducible apply And.intro) | omega)); done))))); done)); (focus (simp only [go_sem]))))); clear hs; (try clear w); intro v w hq; (obtain ⟨e1, hq1⟩ := hq.ex; obtain ⟨rfl, hs⟩ := hq1.pu; clear hq1; obtain ⟨te, pe, rfl⟩ := refP_iface hs); clear hq; (try simp only [star_assoc, star_emp, emp_star] at hs); (try simp only [Act.put, zg, zh, zi]))
        | ((with_reducible apply pl_call hs (hed _ _ _)); ((((focus (simp only [zj, zk, zl, List.append_toArray, List.nil_append, List.cons_append, Act.eval, za, zb, zc, zd, ze, zf]; (try with_reducible rfl); done)); (focus ((repeat (first | (with_reducible (first | exact ent_refl | apply ent_puR)) | ((with_reducible apply ent_front); (focus with_reducible (repeat (first | exact ent_here | apply ent_next | exact ent_last)); done)) | (with_reducible (first | exact ent_keep | apply ent_trans ent_drop)) | (focus (first | ((repeat' (first | (with_reducible apply And.intro) | omega | (focus (with_reducible (repeat (first | assumption | (apply ErrA.left; assumption) | refine ErrA.exh (by assumption) ?_ | refine ErrA.exh0 (by assumption) ?_ | apply ErrA.next | (apply ErrB.left; assumption) | refine ErrB.exh (by assumption) ?_ | refine ErrB.exh0 (by assumption) ?_ | apply ErrB.next)); done)) | (focus (with_reducible (repeat (first | assumption | (apply TabF.left; assumption) | refine TabF.exh (by assumption) ?_ | refine TabF.exh0 (by assumption) ?_ | exact (tblF_of (by assumption)) | apply TabF.next)); done)))); done))))); done)); (focus (simp only [go_sem]))))); clear hs; (try clear w); intro v w hq; (obtain ⟨e1, hq1⟩ := hq.ex; obtain ⟨rfl, hs⟩ := hq1.pu; clear hq1; obtain ⟨tf, pf, rfl⟩ := refP_iface hs); clear hq; (try simp only [star_assoc, star_emp, emp_star] at hs); (try simp only [Act.put, zg, zh, zi]))
        | ((with_reducible apply mx_call hs (hco _ _ _)); ((((focus (simp only [zj, zk, zl, List.append_toArray, List.nil_append, List.cons_append, Act.eval, za, zb, zc, zd, ze, zf]; (try with_reducible rfl); done)); (focus ((repeat (first | (with_reducible (first | exact ent_refl | apply ent_puR)) | ((with_reducible apply ent_front); (focus with_reducible (repeat (first | exact ent_here | apply ent_next | exact ent_last)); done)) | (with_reducible (first | exact ent_keep | apply ent_trans ent_drop)) | (focus (first | ((repeat' (first | (with_reducible apply And.intro) | omega | (focus (with_reducible (repeat (first | assumption | (apply ErrA.left; assumption) | refine ErrA.exh (by assumption) ?_ | refine ErrA.exh0 (by assumption) ?_ | apply ErrA.next | (apply ErrB.left; assumption) | refine ErrB.exh (by assumption) ?_ | refine ErrB.exh0 (by assumption) ?_ | apply ErrB.next)); done)) | (focus (with_reducible (repeat (first | assumption | (apply TabF.left; assumption) | refine TabF.exh (by assumption) ?_ | refine TabF.exh0 (by assumption) ?_ | exact (tblF_of (by assumption)) | apply TabF.next)); done)))); done))))); done)); (focus (simp only [go_sem])); (focus (intros; with_reducible (refine in_of_sat (by assumption) ?_; repeat (first | exact ent_exh_here | exact ent_last | refine ent_pu_l (fun _ => ?_) | refine ent_ex_l (fun _ => ?_) | apply ent_exh_next)); done))))); clear hs; (try clear w); intro v w hq; (obtain ⟨e1, hq1⟩ := hq.ex; obtain ⟨rfl, hs⟩ := hq1.pu; clear hq1; obtain ⟨tg, pg, rfl⟩ := refP_iface hs); clear hq; (try simp only [star_assoc, star_emp, emp_star] at hs); (try simp only [Act.put, zg, zh, zi]))
        | ((with_reducible apply pl_call hs (hd0 _ _)); ((((focus (simp only [zj, zk, zl, List.append_toArray, List.nil_append, List.cons_append, Act.eval, za, zb, zc, zd, ze, zf]; (try with_reducible rfl); done)); (focus ((repeat (first | (with_reducible (first | exact ent_refl | apply ent_puR)) | ((with_reducible apply ent_front); (focus with_reducible (repeat (first | exact ent_here | apply ent_next | exact ent_last)); done)) | (with_reducible (first | exact ent_keep | apply ent_trans ent_drop)) | (focus (first | ((repeat' (first | (with_reducible apply And.intro) | omega | (focus (with_reducible (repeat (first | assumption | (apply ErrA.left; assumption) | refine ErrA.exh (by assumption) ?_ | refine ErrA.exh0 (by assumption) ?_ | apply ErrA.next | (apply ErrB.left; assumption) | refine ErrB.exh (by assumption) ?_ | refine ErrB.exh0 (by assumption) ?_ | apply ErrB.next)); done)) | (focus (with_reducible (repeat (first | assumption | (apply TabF.left; assumption) | refine TabF.exh (by assumption) ?_ | refine TabF.exh0 (by assumption) ?_ | exact (tblF_of (by assumption)) | apply TabF.next)); done)))); done))))); done)); (focus (simp only [go_sem]))))); clear hs; (try clear w); intro v w hq; (obtain ⟨rfl, hs⟩ := hq.pu); clear hq; (try simp only [star_assoc, star_emp, emp_star] at hs); (try simp only [Act.put, zg, zh, zi]))
        | ((with_reducible apply pl_call hs (sayK_s _ _ _ _ _ _ 13)); ((((focus (simp only [zj, zk, zl, List.append_toArray, List.nil_append, List.cons_append, Act.eval, za, zb, zc, zd, ze, zf]; (try with_reducible rfl); done)); (focus ((repeat (first | (with_reducible (first | exact ent_refl | apply ent_puR)) | ((with_reducible apply ent_front); (focus with_reducible (repeat (first | exact ent_here | apply ent_next | exact ent_last)); done)) | (with_reducible (first | exact ent_keep | apply ent_trans ent_drop)) | (focus (first | ((repeat' (first | (with_reducible apply And.intro) | omega)); done))))); done)); (focus (simp only [go_sem]))))); clear hs; (try clear w); intro v w hq; (obtain ⟨mn, hq1⟩ := hq.ex; obtain ⟨rfl, hs⟩ := hq1.pu; clear hq1; rw [atV_m1] at hs); clear hq; (try simp only [star_assoc, star_emp, emp_star] at hs); (try simp only [Act.put, zg, zh, zi]))
        | ((with_reducible apply pl_call hs (refused_s _ _ a (some ([⟨dfB, cDi, -1⟩], 13)) _ _)); ((((focus (simp only [zj, zk, zl, List.append_toArray, List.nil_append, List.cons_append, Act.eval, za, zb, zc, zd, ze, zf]; (try with_reducible rfl); done)); (focus ((repeat (first | (with_reducible (first | exact ent_refl | apply ent_puR)) | ((with_reducible apply ent_front); (focus with_reducible (repeat (first | exact ent_here | apply ent_next | exact ent_last)); done)) | (with_reducible (first | exact ent_keep | apply ent_trans ent_drop)) | (focus (first | (focus (with_reducible (repeat (first | assumption | (apply ErrA.left; assumption) | refine ErrA.exh (by assumption) ?_ | refine ErrA.exh0 (by assumption) ?_ | apply ErrA.next | (apply ErrB.left; assumption) | refine ErrB.exh (by assumption) ?_ | refine ErrB.exh0 (by assumption) ?_ | apply ErrB.next)); done)))))); done)); (focus (simp only [go_sem]))))); clear hs; (try clear w); intro v w hq; (obtain ⟨rfl, hs⟩ := hq.pu); clear hq; (try simp only [star_assoc, star_emp, emp_star] at hs); (try simp only [Act.put, zg, zh, zi]))
        | ((with_reducible apply pl_call hs (refused_s _ _ a (some ([⟨dfB, cEd, -1⟩], 13)) _ _)); ((((focus (simp only [zj, zk, zl, List.append_toArray, List.nil_append, List.cons_append, Act.eval, za, zb, zc, zd, ze, zf]; (try with_reducible rfl); done)); (focus ((repeat (first | (with_reducible (first | exact ent_refl | apply ent_puR)) | ((with_reducible apply ent_front); (focus with_reducible (repeat (first | exact ent_here | apply ent_next | exact ent_last)); done)) | (with_reducible (first | exact ent_keep | apply ent_trans ent_drop)) | (focus (first | (focus (with_reducible (repeat (first | assumption | (apply ErrA.left; assumption) | refine ErrA.exh (by assumption) ?_ | refine ErrA.exh0 (by assumption) ?_ | apply ErrA.next | (apply ErrB.left; assumption) | refine ErrB.exh (by assumption) ?_ | refine ErrB.exh0 (by assumption) ?_ | apply ErrB.next)); done)))))); done)); (focus (simp only [go_sem]))))); clear hs; (try clear w); intro v w hq; (obtain ⟨rfl, hs⟩ := hq.pu); clear hq; (try simp only [star_assoc, star_emp, emp_star] at hs); (try simp only [Act.put, zg, zh, zi]))
        | ((with_reducible apply pl_call hs (refused_s _ _ a (some ([⟨dfB, cCo, -1⟩], 13)) _ _)); ((((focus (simp only [zj, zk, zl, List.append_toArray, List.nil_append, List.cons_append, Act.eval, za, zb, zc, zd, ze, zf]; (try with_reducible rfl); done)); (focus ((repeat (first | (with_reducible (first | exact ent_refl | apply ent_puR)) | ((with_reducible apply ent_front); (focus with_reducible (repeat (first | exact ent_here | apply ent_next | exact ent_last)); done)) | (with_reducible (first | exact ent_keep | apply ent_trans ent_drop)) | (focus (first | (focus (with_reducible (repeat (first | assumption | (apply ErrA.left; assumption) | refine ErrA.exh (by assumption) ?_ | refine ErrA.exh0 (by assumption) ?_ | apply ErrA.next | (apply ErrB.left; assumption) | refine ErrB.exh (by assumption) ?_ | refine ErrB.exh0 (by assumption) ?_ | apply ErrB.next)); done)))))); done)); (focus (simp only [go_sem]))))); clear hs; (try clear w); intro v w hq; (obtain ⟨rfl, hs⟩ := hq.pu); clear hq; (try simp only [star_assoc, star_emp, emp_star] at hs); (try simp only [Act.put, zg, zh, zi]))
        | ((with_reducible apply pl_call hs (wakes_s _ _ a)); ((((focus (simp only [zj, zk, zl, List.append_toArray, List.nil_append, List.cons_append, Act.eval, za, zb, zc, zd, ze, zf]; (try with_reducible rfl); done)); (focus ((repeat (first | (with_reducible (first | exact ent_refl | apply ent_puR)) | ((with_reducible apply ent_front); (focus with_reducible (repeat (first | exact ent_here | apply ent_next | exact ent_last)); done)) | (with_reducible (first | exact ent_keep | apply ent_trans ent_drop)) | (focus (first | ((repeat' (first | (with_reducible assumption) | (with_reducible apply And.intro))); done))))); done)); (focus (simp only [go_sem]))))); clear hs; (try clear w); intro v w hq; (obtain ⟨rfl, hs⟩ := hq.pu); clear hq; (try simp only [star_assoc, star_emp, emp_star] at hs); (try simp only [Act.put, zg, zh, zi]))
        | ((with_reducible apply mix_end hRR hs); (focus with_reducible (repeat (first | exact ent_here | apply ent_next | exact ent_last)); done); clear hs; (try clear w); intro w hs; (try simp only [star_assoc, star_emp, emp_star] at hs); clear hRR hR)
        | ((with_reducible refine mix_float ?_ ?_ ?_ (fun h hk => ?_) ?_); rotate_left 1; (focus rfl); (focus rfl); (focus (go_simp; (try (rw [if_pos (by omega)]; (try go_simp))); (try simp (disch := omega) only [IntWalk.i64_in, IntWalk.i32_in]); (try with_reducible rfl); done)); simp only [Act.put, zg, zh, zi]))
  (go_ret; simp only [za, zb, zc, zd, ze, zf])
  exact ⟨_, rfl, hs.mono (ent_pu (by simp) (by ((repeat (first | (with_reducible (first | exact ent_refl | exact ent_emp)) | ((with_reducible apply ent_front); (focus with_reducible (repeat (first | exact ent_here | apply ent_next | exact ent_last)); done)) | (with_reducible (first | exact ent_keep | apply ent_trans ent_drop)))); done)))⟩
end Go.Proofs.YtgoifgockcpnhaaDoor
