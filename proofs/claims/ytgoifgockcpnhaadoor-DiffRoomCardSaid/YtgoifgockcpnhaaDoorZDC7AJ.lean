/- Characters and their bytes, plainly. -/
import Derived.Lib.ValidLaws
import Derived.Lib.DecodeN
set_option linter.unusedSimpArgs false
set_option linter.unusedVariables false
set_option maxRecDepth 100000
namespace Go.Proofs.YtgoifgockcpnhaaDoor
open Go Go.Lib

/-- A character's number. -/
def RuneI (c : Int) : Prop := 0 ≤ c ∧ c ≤ 1114111 ∧ (c < 55296 ∨ 57343 < c)
/-! ### one step, in the document's words -/
theorem dec_one {n b0 b1 b2 b3 : Nat} (h : b0 < 128) : decodeN n b0 b1 b2 b3 = (b0, 1) := by
  unfold decodeN; rw [if_pos h]
theorem dec_two {n b0 b1 b2 b3 c : Nat} (h0 : 192 ≤ b0) (h0' : b0 < 224) (hn : 1 < n) (h1 : 128 ≤ b1) (h1' : b1 < 192) (hc : c + 128 = 64 * (b0 - 192) + b1) (hl : 128 ≤ c) : decodeN n b0 b1 b2 b3 = (c, 2) := by
  unfold decodeN
  rw [if_neg (by omega), if_pos (by omega), if_pos (by omega)]
  apply Prod.ext <;> simp only <;> omega
theorem dec_three {n b0 b1 b2 b3 c : Nat} (h0 : 224 ≤ b0) (h0' : b0 < 240) (hn : 2 < n) (h1 : 128 ≤ b1) (h1' : b1 < 192) (h2 : 128 ≤ b2) (h2' : b2 < 192) (hc : c + 128 = 64 * (64 * (b0 - 224) + b1 - 128) + b2) (hl : 2048 ≤ c)
    (hs : c < 55296 ∨ 57343 < c) : decodeN n b0 b1 b2 b3 = (c, 3) := by
  unfold decodeN
  rw [if_neg (by omega), if_neg (by omega), if_pos (by omega), if_pos (by omega)]
  apply Prod.ext <;> simp only <;> omega
theorem dec_four {n b0 b1 b2 b3 c : Nat} (h0 : 240 ≤ b0) (h0' : b0 < 248) (hn : 3 < n) (h1 : 128 ≤ b1) (h1' : b1 < 192) (h2 : 128 ≤ b2) (h2' : b2 < 192) (h3 : 128 ≤ b3) (h3' : b3 < 192)
    (hc : c + 128 = 64 * (64 * (64 * (b0 - 240) + b1 - 128) + b2 - 128) + b3) (hl : 65536 ≤ c) (hm : c ≤ 1114111) : decodeN n b0 b1 b2 b3 = (c, 4) := by
  unfold decodeN
  rw [if_neg (by omega), if_neg (by omega), if_neg (by omega), if_pos (by omega), if_pos (by omega)]
  apply Prod.ext <;> simp only <;> omega
/-- What is no character. -/
def NoRune (n b0 b1 b2 b3 : Nat) : Prop := 128 ≤ b0 ∧
  (b0 < 192 ∨ 248 ≤ b0 ∨
   (192 ≤ b0 ∧ b0 < 224 ∧ (n < 2 ∨ b1 < 128 ∨ 192 ≤ b1 ∨ 64 * (b0 - 192) + b1 < 256)) ∨
   (224 ≤ b0 ∧ b0 < 240 ∧ (n < 3 ∨ b1 < 128 ∨ 192 ≤ b1 ∨ b2 < 128 ∨ 192 ≤ b2 ∨ 64 * (64 * (b0 - 224) + b1 - 128) + b2 < 2176 ∨ (55424 ≤ 64 * (64 * (b0 - 224) + b1 - 128) + b2 ∧ 64 * (64 * (b0 - 224) + b1 - 128) + b2 ≤ 57471))) ∨
   (240 ≤ b0 ∧ b0 < 248 ∧ (n < 4 ∨ b1 < 128 ∨ 192 ≤ b1 ∨ b2 < 128 ∨ 192 ≤ b2 ∨ b3 < 128 ∨ 192 ≤ b3 ∨ 64 * (64 * (64 * (b0 - 240) + b1 - 128) + b2 - 128) + b3 < 65664 ∨ 1114239 < 64 * (64 * (64 * (b0 - 240) + b1 - 128) + b2 - 128) + b3)))
set_option maxHeartbeats 2000000 in
theorem dec_none {n b0 b1 b2 b3 : Nat} (h : NoRune n b0 b1 b2 b3) (h256 : b0 < 256) : decodeN n b0 b1 b2 b3 = (65533, 1) := by
  unfold NoRune at h
  unfold decodeN
  repeat' split
  all_goals first | rfl | (exfalso; omega)
set_option maxHeartbeats 2000000 in
/-- Each step is one of these. -/
theorem dec_cases (n b0 b1 b2 b3 : Nat) (h0 : b0 < 256) : b0 < 128 ∨ NoRune n b0 b1 b2 b3 ∨ ∃ c,
    (192 ≤ b0 ∧ b0 < 224 ∧ 1 < n ∧ 128 ≤ b1 ∧ b1 < 192 ∧ c + 128 = 64 * (b0 - 192) + b1 ∧ 128 ≤ c) ∨
    (224 ≤ b0 ∧ b0 < 240 ∧ 2 < n ∧ 128 ≤ b1 ∧ b1 < 192 ∧ 128 ≤ b2 ∧ b2 < 192 ∧ c + 128 = 64 * (64 * (b0 - 224) + b1 - 128) + b2 ∧ 2048 ≤ c ∧ (c < 55296 ∨ 57343 < c)) ∨
    (240 ≤ b0 ∧ b0 < 248 ∧ 3 < n ∧ 128 ≤ b1 ∧ b1 < 192 ∧ 128 ≤ b2 ∧ b2 < 192 ∧ 128 ≤ b3 ∧ b3 < 192 ∧ c + 128 = 64 * (64 * (64 * (b0 - 240) + b1 - 128) + b2 - 128) + b3 ∧ 65536 ≤ c ∧ c ≤ 1114111) := by
  rcases Nat.lt_or_ge b0 128 with h | h
  · exact .inl h
  · refine .inr ?_
    by_cases hN : NoRune n b0 b1 b2 b3
    · exact .inl hN
    · refine .inr ?_
      unfold NoRune at hN
      by_cases h2 : b0 < 224
      · exact ⟨64 * (b0 - 192) + b1 - 128, .inl (by omega)⟩
      · by_cases h3 : b0 < 240
        · exact ⟨64 * (64 * (b0 - 224) + b1 - 128) + b2 - 128, .inr (.inl (by omega))⟩
        · exact ⟨64 * (64 * (64 * (b0 - 240) + b1 - 128) + b2 - 128) + b3 - 128, .inr (.inr (by omega))⟩
/-! ### all of a text -/
def runesGo : Nat → List UInt8 → Option (List Int)
  | 0, _ => some []
  | n + 1, l => if l = [] then some [] else if (decodeL l).1 = 65533 ∧ (decodeL l).2 = 1 then none else (runesGo n (l.drop (decodeL l).2)).map (((decodeL l).1 : Int) :: ·)
def runesL (l : List UInt8) : Option (List Int) := runesGo l.length l
theorem runesGo_nil : ∀ n, runesGo n [] = some []
  | 0 => rfl
  | _ + 1 => by simp [runesGo]
theorem runesGo_fuel : ∀ (n m : Nat) (l : List UInt8), l.length ≤ n → l.length ≤ m → runesGo n l = runesGo m l
  | 0, m, l, hn, _ => by
    have : l = [] := List.eq_nil_of_length_eq_zero (by omega)
    subst this
    rw [runesGo_nil, runesGo_nil]
  | n + 1, 0, l, _, hm => by
    have : l = [] := List.eq_nil_of_length_eq_zero (by omega)
    subst this
    rw [runesGo_nil, runesGo_nil]
  | n + 1, m + 1, l, hn, hm => by
    unfold runesGo
    by_cases hne : l = []
    · simp [hne]
    · have hw := decodeL_width l
      have hl : 0 < l.length := List.length_pos_iff.2 hne
      rw [if_neg hne, if_neg hne, runesGo_fuel n m (l.drop (decodeL l).2) (by rw [List.length_drop]; omega) (by rw [List.length_drop]; omega)]
theorem runesL_nil : runesL [] = some [] := rfl
theorem runesL_step (l : List UInt8) (hne : l ≠ []) : runesL l = if (decodeL l).1 = 65533 ∧ (decodeL l).2 = 1 then none else (runesL (l.drop (decodeL l).2)).map (((decodeL l).1 : Int) :: ·) := by
  have hl : 0 < l.length := List.length_pos_iff.2 hne
  have hw := decodeL_width l
  obtain ⟨n, hn⟩ : ∃ n, l.length = n + 1 := ⟨l.length - 1, by omega⟩
  unfold runesL
  rw [hn]
  show (if l = [] then some [] else _) = _
  rw [if_neg hne, runesGo_fuel n (l.drop (decodeL l).2).length _ (by rw [List.length_drop]; omega) (Nat.le_refl _)]
theorem runesL_valid : ∀ (n : Nat) (l : List UInt8), l.length ≤ n → validD l = (runesL l).isSome
  | 0, l, h => by
    have : l = [] := List.eq_nil_of_length_eq_zero (by omega)
    subst this
    rfl
  | n + 1, l, h => by
    by_cases hne : l = []
    · subst hne; rfl
    · have hw := decodeL_width l
      have hl : 0 < l.length := List.length_pos_iff.2 hne
      rw [validD_step l hne, runesL_step l hne]
      split
      · rfl
      · rw [Option.isSome_map]
        exact runesL_valid n _ (by rw [List.length_drop]; omega)
/-! ### written -/
def encR (c : Int) : List UInt8 := (Utf8.encode c).data.toList
def encs (l : List Int) : List UInt8 := l.flatMap encR
theorem valid_rune {c : Nat} (h : c ≤ 1114111) (hs : c < 55296 ∨ 57343 < c) : Utf8.valid (c : Int) = true := by
  unfold Utf8.valid
  simp
  omega
theorem encR_1 {c : Nat} (h : c < 128) : encR c = [UInt8.ofNat c] := by
  have hv := valid_rune (c := c) (by omega) (by omega)
  unfold encR Utf8.encode
  simp only [hv, if_true, Int.toNat_natCast]
  rw [if_pos (by omega)]
theorem encR_2 {c : Nat} (h : 128 ≤ c) (h' : c < 2048) : encR c = [UInt8.ofNat (192 + c / 64), UInt8.ofNat (128 + c % 64)] := by
  have hv := valid_rune (c := c) (by omega) (by omega)
  unfold encR Utf8.encode
  simp only [hv, if_true, Int.toNat_natCast]
  rw [if_neg (by omega), if_pos (by omega)]
theorem encR_3 {c : Nat} (h : 2048 ≤ c) (h' : c < 65536) (hs : c < 55296 ∨ 57343 < c) : encR c = [UInt8.ofNat (224 + c / 4096), UInt8.ofNat (128 + c / 64 % 64), UInt8.ofNat (128 + c % 64)] := by
  have hv := valid_rune (c := c) (by omega) hs
  unfold encR Utf8.encode
  simp only [hv, if_true, Int.toNat_natCast]
  rw [if_neg (by omega), if_neg (by omega), if_pos (by omega)]
theorem encR_4 {c : Nat} (h : 65536 ≤ c) (h' : c ≤ 1114111) : encR c = [UInt8.ofNat (240 + c / 262144), UInt8.ofNat (128 + c / 4096 % 64), UInt8.ofNat (128 + c / 64 % 64), UInt8.ofNat (128 + c % 64)] := by
  have hv := valid_rune (c := c) (by omega) (by omega)
  unfold encR Utf8.encode
  simp only [hv, if_true, Int.toNat_natCast]
  rw [if_neg (by omega), if_neg (by omega), if_neg (by omega)]
theorem u8_of {x : UInt8} {n : Nat} (h : n = x.toNat) : UInt8.ofNat n = x := by
  subst h
  exact UInt8.ofNat_toNat
/-- What is read is what was written. -/
theorem dec_enc (l : List UInt8) (hne : l ≠ []) : ((decodeL l).1 = 65533 ∧ (decodeL l).2 = 1) ∨ (¬ ((decodeL l).1 = 65533 ∧ (decodeL l).2 = 1) ∧ RuneI (decodeL l).1 ∧ l = encR (decodeL l).1 ++ l.drop (decodeL l).2) := by
  rw [decodeL_N]
  match l, hne with
  | x0 :: t, _ =>
    have hx0 := x0.toNat_lt
    rcases dec_cases (x0 :: t).length x0.toNat ((x0 :: t).getD 1 0).toNat ((x0 :: t).getD 2 0).toNat ((x0 :: t).getD 3 0).toNat (by omega) with h | h | ⟨c, h | h | h⟩
    · refine .inr ?_
      rw [show ((x0 :: t).getD 0 0) = x0 from rfl, dec_one h]
      refine ⟨by simp only; omega, by unfold RuneI; simp only; omega, ?_⟩
      simp only
      rw [encR_1 h, u8_of rfl]
      rfl
    · refine .inl ?_
      rw [show ((x0 :: t).getD 0 0) = x0 from rfl, dec_none h (by omega)]
      exact ⟨rfl, rfl⟩
    · refine .inr ?_
      obtain ⟨h0, h0', hn, h1, h1', hc, hl⟩ := h
      match t, hn with
      | x1 :: t, _ =>
        simp only [List.getD_cons_zero, List.getD_cons_succ] at *
        rw [dec_two h0 h0' (by simp) h1 h1' hc hl]
        refine ⟨by simp only; omega, by unfold RuneI; simp only; omega, ?_⟩
        simp only
        rw [encR_2 hl (by omega), u8_of (x := x0) (by omega), u8_of (x := x1) (by omega)]
        rfl
    · refine .inr ?_
      obtain ⟨h0, h0', hn, h1, h1', h2, h2', hc, hl, hs⟩ := h
      match t, hn with
      | x1 :: x2 :: t, _ =>
        simp only [List.getD_cons_zero, List.getD_cons_succ] at *
        rw [dec_three h0 h0' (by simp) h1 h1' h2 h2' hc hl hs]
        refine ⟨by simp only; omega, by unfold RuneI; simp only; omega, ?_⟩
        simp only
        rw [encR_3 hl (by omega) hs, u8_of (x := x0) (by omega), u8_of (x := x1) (by omega), u8_of (x := x2) (by omega)]
        rfl
    · refine .inr ?_
      obtain ⟨h0, h0', hn, h1, h1', h2, h2', h3, h3', hc, hl, hm⟩ := h
      match t, hn with
      | x1 :: x2 :: x3 :: t, _ =>
        simp only [List.getD_cons_zero, List.getD_cons_succ] at *
        rw [dec_four h0 h0' (by simp) h1 h1' h2 h2' h3 h3' hc hl hm]
        refine ⟨by simp only; omega, by unfold RuneI; simp only; omega, ?_⟩
        simp only
        rw [encR_4 hl hm, u8_of (x := x0) (by omega), u8_of (x := x1) (by omega), u8_of (x := x2) (by omega), u8_of (x := x3) (by omega)]
        rfl
theorem u8_nat {n : Nat} (h : n < 256) : (UInt8.ofNat n).toNat = n := by simp; omega
/-- What is written is read. -/
theorem enc_dec {c : Int} (h : RuneI c) (t : List UInt8) : decodeL (encR c ++ t) = (c.toNat, (encR c).length) ∧ ¬ (c = 65533 ∧ (encR c).length = 1) ∧ 0 < (encR c).length ∧ (encR c).length ≤ 4 := by
  unfold RuneI at h
  obtain ⟨n, rfl⟩ : ∃ n : Nat, c = n := ⟨c.toNat, by omega⟩
  rw [decodeL_N, Int.toNat_natCast]
  rcases Nat.lt_or_ge n 128 with h1 | h1
  · rw [encR_1 h1]
    simp only [List.cons_append, List.nil_append, List.getD_cons_zero, List.getD_cons_succ, u8_nat (show n < 256 by omega)]
    exact ⟨dec_one h1, by simp; omega, by simp, by simp⟩
  · rcases Nat.lt_or_ge n 2048 with h2 | h2
    · rw [encR_2 h1 h2]
      simp only [List.cons_append, List.nil_append, List.getD_cons_zero, List.getD_cons_succ, u8_nat (show 192 + n / 64 < 256 by omega), u8_nat (show 128 + n % 64 < 256 by omega)]
      exact ⟨dec_two (by omega) (by omega) (by simp) (by omega) (by omega) (by omega) h1, by simp, by simp, by simp⟩
    · rcases Nat.lt_or_ge n 65536 with h3 | h3
      · rw [encR_3 h2 h3 (by omega)]
        simp only [List.cons_append, List.nil_append, List.getD_cons_zero, List.getD_cons_succ, u8_nat (show 224 + n / 4096 < 256 by omega), u8_nat (show 128 + n / 64 % 64 < 256 by omega), u8_nat (show 128 + n % 64 < 256 by omega)]
        exact ⟨dec_three (by omega) (by omega) (by simp) (by omega) (by omega) (by omega) (by omega) (by omega) h2 (by omega), by simp, by simp, by simp⟩
      · rw [encR_4 h3 (by omega)]
        simp only [List.cons_append, List.nil_append, List.getD_cons_zero, List.getD_cons_succ, u8_nat (show 240 + n / 262144 < 256 by omega), u8_nat (show 128 + n / 4096 % 64 < 256 by omega), u8_nat (show 128 + n / 64 % 64 < 256 by omega), u8_nat (show 128 + n % 64 < 256 by omega)]
        exact ⟨dec_four (by omega) (by omega) (by simp) (by omega) (by omega) (by omega) (by omega) (by omega) (by omega) (by omega) h3 (by omega), by simp, by simp, by simp⟩
theorem runes_encs : ∀ (l : List Int), (∀ c, c ∈ l → RuneI c) → runesL (encs l) = some l
  | [], _ => rfl
  | c :: l, h => by
    have hc := h c (List.mem_cons_self ..)
    obtain ⟨h1, h2, h3, _⟩ := enc_dec hc (encs l)
    have h0 : 0 ≤ c := hc.1
    have he : encs (c :: l) = encR c ++ encs l := by unfold encs; rw [List.flatMap_cons]
    rw [he, runesL_step _ (by intro h; rw [List.append_eq_nil_iff] at h; rw [h.1] at h3; simp at h3), h1]
    have hn : ¬ (c.toNat = 65533 ∧ (encR c).length = 1) := fun hh => h2 ⟨by have := hh.1; omega, hh.2⟩
    rw [if_neg hn, List.drop_left, runes_encs l fun x hx => h x (List.mem_cons_of_mem _ hx), Option.map_some, Int.toNat_of_nonneg h0]
theorem encs_runes : ∀ (n : Nat) (b : List UInt8) (l : List Int), b.length ≤ n → runesL b = some l → encs l = b ∧ (∀ c, c ∈ l → RuneI c) ∧ l.length ≤ b.length
  | 0, b, l, hn, h => by
    have : b = [] := List.eq_nil_of_length_eq_zero (by omega)
    subst this
    rw [runesL_nil] at h
    cases h
    exact ⟨rfl, (fun _ h => by cases h), by simp⟩
  | n + 1, b, l, hn, h => by
    by_cases hne : b = []
    · subst hne
      rw [runesL_nil] at h
      cases h
      exact ⟨rfl, (fun _ h => by cases h), by simp⟩
    · have hw := decodeL_width b
      have hl : 0 < b.length := List.length_pos_iff.2 hne
      rw [runesL_step b hne] at h
      rcases dec_enc b hne with hb | ⟨hb, hr, he⟩
      · rw [if_pos hb] at h; cases h
      · rw [if_neg hb] at h
        cases hm : runesL (b.drop (decodeL b).2) with
        | none => rw [hm] at h; cases h
        | some m =>
          rw [hm] at h
          cases h
          have hdl : (b.drop (decodeL b).2).length ≤ n := by rw [List.length_drop]; omega
          obtain ⟨h1, h2, h3⟩ := encs_runes n _ m hdl hm
          refine ⟨?_, ?_, ?_⟩
          · have : encs (((decodeL b).1 : Int) :: m) = encR (decodeL b).1 ++ encs m := by unfold encs; rw [List.flatMap_cons]
            rw [this, h1]
            exact he.symm
          · intro c hc
            rcases List.mem_cons.1 hc with rfl | hc
            · exact hr
            · exact h2 c hc
          · rw [List.length_drop] at h3
            simp only [List.length_cons]
            omega
end Go.Proofs.YtgoifgockcpnhaaDoor
