/- Numbers, texts and bytes as rows of bytes: how they are written, and how they are read again. -/
import Derived.Test.YtegebjflhhbmiaaDoorZQC6AI
set_option linter.unusedSimpArgs false
set_option linter.unusedVariables false
namespace Go.Proofs.YtegebjflhhbmiaaDoor
open Go Go.RowKit

/-! ### a number -/
def form (n : Nat) : List Int := if n < 128 then [(n : Int)] else ((n % 128 + 128 : Nat) : Int) :: form (n / 128)
termination_by n
decreasing_by omega
theorem form_lo {n : Nat} (h : n < 128) : form n = [(n : Int)] := by rw [form, if_pos h]
theorem form_hi {n : Nat} (h : 128 ≤ n) : form n = ((n % 128 + 128 : Nat) : Int) :: form (n / 128) := by rw [form, if_neg (by omega)]
theorem form_pos (n : Nat) : 0 < (form n).length := by
  rcases Nat.lt_or_ge n 128 with h | h
  · rw [form_lo h]; simp
  · rw [form_hi h]; simp
theorem form_len : ∀ (k n : Nat), n < 128 ^ (k + 1) → (form n).length ≤ k + 1
  | 0, n, h => by rw [form_lo (by simpa using h)]; simp
  | k + 1, n, h => by
    rcases Nat.lt_or_ge n 128 with h1 | h1
    · rw [form_lo h1]; simp
    · rw [form_hi h1, List.length_cons]
      have := form_len k (n / 128) (by
        rw [Nat.div_lt_iff_lt_mul (by omega)]
        rw [Nat.pow_succ] at h
        exact h)
      omega
theorem form_lt : ∀ (k n : Nat), (form n).length ≤ k → n < 128 ^ k
  | 0, n, h => by have := form_pos n; omega
  | k + 1, n, h => by
    rcases Nat.lt_or_ge n 128 with h1 | h1
    · have : 128 ^ 1 ≤ 128 ^ (k + 1) := Nat.pow_le_pow_right (by omega) (by omega)
      omega
    · rw [form_hi h1, List.length_cons] at h
      have := form_lt k (n / 128) (by omega)
      rw [Nat.pow_succ]
      omega
/-- A number is read: the number and how many bytes it has, or the reason why not. -/
def rdN (most : Int) : Nat → Nat → Nat → List Int → Except Nat (Nat × Nat)
  | 0, _, _, _ => .error 6
  | _ + 1, _, _, [] => .error 7
  | f + 1, sz, acc, b :: l =>
    if 128 ≤ b then rdN most f (sz + 1) (acc + (b % 128).toNat * 128 ^ sz) l
    else if b = 0 ∧ 0 < sz then .error 6
    else if most < ((acc + (b % 128).toNat * 128 ^ sz : Nat) : Int) then .error 2
    else .ok (acc + (b % 128).toNat * 128 ^ sz, sz + 1)
theorem rdN_form (most : Int) : ∀ (f n sz acc : Nat) (t : List Int), (form n).length ≤ f → (0 < sz → 0 < n) → ((acc + n * 128 ^ sz : Nat) : Int) ≤ most →
    rdN most f sz acc (form n ++ t) = .ok (acc + n * 128 ^ sz, sz + (form n).length)
  | 0, n, _, _, _, h, _, _ => by have := form_pos n; omega
  | f + 1, n, sz, acc, t, h, hz, hm => by
    rcases Nat.lt_or_ge n 128 with h1 | h1
    · rw [form_lo h1, List.singleton_append]
      have e : ((n : Int) % 128).toNat = n := by omega
      rw [rdN, if_neg (by omega), if_neg (by omega), e, if_neg (by omega)]
      rfl
    · rw [form_hi h1] at h ⊢
      rw [List.length_cons] at h ⊢
      have e : ((((n % 128 + 128 : Nat) : Int)) % 128).toNat = n % 128 := by omega
      have e2 : acc + n % 128 * 128 ^ sz + n / 128 * 128 ^ (sz + 1) = acc + n * 128 ^ sz := by
        rw [Nat.pow_succ, Nat.add_assoc]
        congr 1
        rw [Nat.mul_comm (128 ^ sz) 128, ← Nat.mul_assoc, ← Nat.add_mul]
        congr 1
        omega
      rw [List.cons_append, rdN, if_pos (by omega), e, rdN_form most f (n / 128) (sz + 1) (acc + n % 128 * 128 ^ sz) t (by omega) (by omega) (by rw [e2]; exact hm), e2]
      congr 2
      omega
theorem rdN_ok (most : Int) : ∀ (f sz acc : Nat) (l : List Int) (v k : Nat), (∀ b, b ∈ l → InB b) → rdN most f sz acc l = .ok (v, k) →
    ∃ n t, v = acc + n * 128 ^ sz ∧ k = sz + (form n).length ∧ l = form n ++ t ∧ (v : Int) ≤ most ∧ (0 < sz → 0 < n) ∧ (form n).length ≤ f
  | 0, _, _, _, _, _, _, h => by rw [rdN] at h; cases h
  | f + 1, _, _, [], _, _, _, h => by rw [rdN] at h; cases h
  | f + 1, sz, acc, b :: l, v, k, hb, h => by
    have hb0 := hb b (List.mem_cons_self ..)
    unfold InB at hb0
    rw [rdN] at h
    split at h
    · rename_i h1
      obtain ⟨n, t, h2, h3, h4, h5, h6, h7⟩ := rdN_ok most f (sz + 1) _ l v k (fun c hc => hb c (List.mem_cons_of_mem _ hc)) h
      have hn := h6 (by omega)
      refine ⟨(b % 128).toNat + n * 128, t, ?_, ?_, ?_, h5, by omega, ?_⟩
      · rw [h2, Nat.pow_succ, Nat.add_mul, Nat.add_assoc, Nat.mul_assoc, Nat.mul_comm 128 (128 ^ sz)]
      · rw [form_hi (by omega), List.length_cons, show ((b % 128).toNat + n * 128) / 128 = n by omega]
        omega
      · rw [form_hi (by omega), show ((b % 128).toNat + n * 128) / 128 = n by omega, List.cons_append, ← h4]
        congr 1
        omega
      · rw [form_hi (by omega), List.length_cons, show ((b % 128).toNat + n * 128) / 128 = n by omega]
        omega
    · split at h
      · cases h
      · split at h
        · cases h
        · rename_i h1 h2 h3
          cases h
          have e : (b % 128).toNat < 128 := by omega
          refine ⟨(b % 128).toNat, l, rfl, ?_, ?_, by omega, by omega, ?_⟩
          · rw [form_lo e]; rfl
          · rw [form_lo e, List.singleton_append]
            congr 1
            omega
          · rw [form_lo e]; simp
/-- What is read of a number, from the beginning. -/
def rd0 (most : Int) (l : List Int) : Except Nat (Nat × Nat) := rdN most 9 0 0 l
theorem rd0_form {most : Int} {n : Nat} (t : List Int) (h : n < 9223372036854775808) (hm : (n : Int) ≤ most) : rd0 most (form n ++ t) = .ok (n, (form n).length) := by
  have := rdN_form most 9 n 0 0 t (form_len 8 n (by simpa using h)) (by omega) (by simpa using hm)
  simpa [rd0] using this
theorem rd0_ok {most : Int} {l : List Int} {v k : Nat} (hb : ∀ b, b ∈ l → InB b) (h : rd0 most l = .ok (v, k)) : ∃ t, k = (form v).length ∧ l = form v ++ t ∧ (v : Int) ≤ most ∧ v < 9223372036854775808 := by
  obtain ⟨n, t, h1, h2, h3, h4, _, h5⟩ := rdN_ok most 9 0 0 l v k hb h
  obtain rfl : v = n := by simpa using h1
  exact ⟨t, by simpa using h2, h3, h4, by simpa using form_lt 9 v h5⟩
theorem rd0_err {most : Int} : ∀ {l : List Int} {e : Nat}, rd0 most l = .error e → e = 2 ∨ e = 6 ∨ e = 7 := by
  have : ∀ (f sz acc : Nat) (l : List Int) (e : Nat), rdN most f sz acc l = .error e → e = 2 ∨ e = 6 ∨ e = 7 := by
    intro f
    induction f with
    | zero => intro sz acc l e h; rw [rdN] at h; cases h; omega
    | succ f ih =>
      intro sz acc l e h
      cases l with
      | nil => rw [rdN] at h; cases h; omega
      | cons b l =>
        rw [rdN] at h
        split at h
        · exact ih _ _ _ _ h
        · split at h
          · cases h; omega
          · split at h
            · cases h; omega
            · cases h
  exact fun {_ _} h => this _ _ _ _ _ h
/-- One byte of a number that can be read. -/
theorem rdN_step {most : Int} {j acc : Nat} {l : List Int} {v k : Nat} (hj : j ≤ 9) (h : rdN most (9 - j) j acc l = .ok (v, k)) : ∃ b t, j < 9 ∧ l = b :: t ∧
    ((128 ≤ b ∧ rdN most (9 - (j + 1)) (j + 1) (acc + (b % 128).toNat * 128 ^ j) t = .ok (v, k)) ∨ (b < 128 ∧ (b = 0 → j = 0) ∧ (v : Int) ≤ most ∧ v = acc + (b % 128).toNat * 128 ^ j ∧ k = j + 1)) := by
  rcases Nat.lt_or_eq_of_le hj with h9 | rfl
  · obtain ⟨f, hf⟩ : ∃ f, 9 - j = f + 1 := ⟨9 - (j + 1), by omega⟩
    rw [hf] at h
    cases l with
    | nil => rw [rdN] at h; cases h
    | cons b t =>
      refine ⟨b, t, h9, rfl, ?_⟩
      rw [rdN] at h
      split at h
      · rename_i h1
        exact .inl ⟨h1, by rw [show 9 - (j + 1) = f by omega]; exact h⟩
      · split at h
        · cases h
        · split at h
          · cases h
          · rename_i h1 h2 h3
            cases h
            exact .inr ⟨by omega, by omega, by omega, rfl, rfl⟩
  · rw [Nat.sub_self, rdN] at h
    cases h
theorem shl_or {acc j : Nat} {x : Nat} (ha : acc < 128 ^ j) : acc ||| (x <<< (7 * j)) = acc + x * 128 ^ j := by
  rw [Nat.shiftLeft_eq, Nat.pow_mul, show 2 ^ 7 = 128 by decide]
  have h := Nat.two_pow_add_eq_or_of_lt (i := 7 * j) (b := acc) (by rw [Nat.pow_mul]; exact ha) x
  rw [Nat.pow_mul, show 2 ^ 7 = 128 by decide] at h
  rw [Nat.or_comm, Nat.mul_comm x, ← h, Nat.add_comm]
theorem bits_or {x y : Nat} (hx : x < 2 ^ 63) (hy : y < 2 ^ 63) : Go.bits .or .i64 (x : Int) (y : Int) = ((x ||| y : Nat) : Int) := by
  unfold Go.bits
  simp only [show IntKind.i64.bits = 64 from rfl]
  rw [BitVec.ofInt_natCast, BitVec.ofInt_natCast, BitVec.toNat_or, BitVec.toNat_ofNat, BitVec.toNat_ofNat, show x % 2 ^ IntKind.i64.bits = x from Nat.mod_eq_of_lt (show x < 2 ^ 64 by omega), show y % 2 ^ IntKind.i64.bits = y from Nat.mod_eq_of_lt (show y < 2 ^ 64 by omega)]
  exact IntWalk.i64_in _ (by have := Nat.or_lt_two_pow hx hy; omega)
theorem num_bits {acc j : Nat} {b : Int} (ha : acc < 128 ^ j) (hj : j < 9) : Go.bits .or .i64 (acc : Int) (wrap64 (b % 128 * 2 ^ (7 * j))) = ((acc + (b % 128).toNat * 128 ^ j : Nat) : Int) ∧ acc + (b % 128).toNat * 128 ^ j < 128 ^ (j + 1) := by
  have h1 : (b % 128).toNat < 128 := by omega
  have h2 : 128 ^ (j + 1) ≤ 128 ^ 9 := Nat.pow_le_pow_right (by omega) (by omega)
  have h3 : acc + (b % 128).toNat * 128 ^ j < 128 ^ (j + 1) := by
    have : ((b % 128).toNat + 1) * 128 ^ j ≤ 128 * 128 ^ j := Nat.mul_le_mul_right _ (by omega)
    rw [Nat.pow_succ, Nat.mul_comm (128 ^ j)]
    rw [Nat.add_mul, Nat.one_mul] at this
    omega
  have h4 : b % 128 * 2 ^ (7 * j) = (((b % 128).toNat <<< (7 * j) : Nat) : Int) := by
    rw [Nat.shiftLeft_eq, Int.natCast_mul, Int.natCast_pow]
    congr 1
    omega
  have h5 : (b % 128).toNat <<< (7 * j) = (b % 128).toNat * 128 ^ j := by rw [Nat.shiftLeft_eq, Nat.pow_mul]
  refine ⟨?_, h3⟩
  rw [h4]
  have h6 : wrap64 (((b % 128).toNat <<< (7 * j) : Nat) : Int) = (((b % 128).toNat <<< (7 * j) : Nat) : Int) := by
    unfold wrap64
    rw [h5]
    generalize (b % 128).toNat * 128 ^ j = z at *
    omega
  rw [h6, bits_or (by generalize 128 ^ (j + 1) = z at *; omega) (by rw [h5]; generalize (b % 128).toNat * 128 ^ j = z at *; omega), shl_or ha]
theorem drop_at {l : List Int} {i : Nat} {b : Int} {t : List Int} (h : l.drop i = b :: t) : l[i]? = some b ∧ l.drop (i + 1) = t ∧ i < l.length := by
  have h0 : (l.drop i)[0]? = some b := by rw [h]; rfl
  rw [List.getElem?_drop, Nat.add_zero] at h0
  refine ⟨h0, ?_, (List.getElem?_eq_some_iff.1 h0).1⟩
  rw [← List.drop_drop, h]
  rfl
/-! ### the reader -/
/-- Bytes, the place, and what was refused first: by which call, at which place, for which reason. -/
structure RdS where
  raw : List Int
  pos : Nat
  bad : Option (ByteArray × Nat × Nat)
def RdS.fail (s : RdS) (c : ByteArray) (k : Nat) : RdS := { s with bad := some (c, s.pos, k) }
def RdS.to (s : RdS) (p : Nat) : RdS := { s with pos := p }
/-- A call that reads: nothing more behind a refusal. -/
def RdS.call {α : Type} (s : RdS) (c : ByteArray) (z : α) (r : Except Nat (α × Nat)) : α × RdS :=
  match s.bad with
  | some _ => (z, s)
  | none => match r with
    | .ok (x, p) => (x, s.to p)
    | .error e => (z, s.fail c e)
def cNumber : ByteArray := ⟨#[78, 117, 109, 98, 101, 114]⟩
def cText : ByteArray := ⟨#[84, 101, 120, 116]⟩
def cByte : ByteArray := ⟨#[66, 121, 116, 101]⟩
def cCount : ByteArray := ⟨#[67, 111, 117, 110, 116]⟩
def cEnd : ByteArray := ⟨#[69, 110, 100]⟩
def RdS.xNum (s : RdS) (most : Int) : Except Nat (Nat × Nat) := match rd0 most (s.raw.drop s.pos) with
  | .ok (n, k) => .ok (n, s.pos + k)
  | .error e => .error e
def RdS.xByte (s : RdS) : Except Nat (Int × Nat) := match s.raw[s.pos]? with
  | some b => .ok (b, s.pos + 1)
  | none => .error 7
def RdS.xText (s : RdS) (most : Int) : Except Nat (List Int × Nat) := match s.xNum most with
  | .ok (n, p) => if s.raw.length - p < n then .error 7 else .ok ((s.raw.drop p).take n, p + n)
  | .error e => .error e
def RdS.xCount (s : RdS) (least most : Int) : Except Nat (Nat × Nat) := match s.xNum most with
  | .ok (n, p) => if (s.raw.length - p) / (max least 1).toNat < n then .error 7 else .ok (n, p)
  | .error e => .error e
def RdS.xEnd (s : RdS) : Except Nat (Unit × Nat) := if s.pos < s.raw.length then .error 6 else .ok ((), s.pos)
def RdS.num (s : RdS) (most : Int) : Nat × RdS := s.call cNumber 0 (s.xNum most)
def RdS.byte (s : RdS) : Int × RdS := s.call cByte 0 s.xByte
def RdS.text (s : RdS) (most : Int) : List Int × RdS := s.call cText [] (s.xText most)
def RdS.count (s : RdS) (least most : Int) : Nat × RdS := s.call cCount 0 (s.xCount least most)
def RdS.fin (s : RdS) : Unit × RdS := s.call cEnd () s.xEnd
/-- The place is one in the row. -/
def RdS.In (s : RdS) : Prop := s.pos ≤ s.raw.length ∧ ∀ b, b ∈ s.raw → InB b
theorem RdS.xNum_ok {s : RdS} {most : Int} {n p : Nat} (hI : s.In) (h : s.xNum most = .ok (n, p)) : p = s.pos + (form n).length ∧ p ≤ s.raw.length ∧ (n : Int) ≤ most ∧ n < 9223372036854775808 ∧ s.raw.take p = s.raw.take s.pos ++ form n := by
  unfold RdS.xNum at h
  split at h
  · rename_i m k hr
    cases h
    obtain ⟨t, h1, h2, h3, h4⟩ := rd0_ok (fun b hb => hI.2 b (List.mem_of_mem_drop hb)) hr
    have hl : (s.raw.drop s.pos).length = (form n).length + t.length := by rw [h2, List.length_append]
    rw [List.length_drop] at hl
    refine ⟨by rw [h1], by rw [h1]; have := form_pos n; omega, h3, h4, ?_⟩
    rw [List.take_add, h2, h1, List.take_left]
  · cases h
end Go.Proofs.YtegebjflhhbmiaaDoor
