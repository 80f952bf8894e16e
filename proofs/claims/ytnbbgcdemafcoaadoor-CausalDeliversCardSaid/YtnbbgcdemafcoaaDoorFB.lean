/- In what order acts can be delivered: the plain side. -/
import Derived.Test.YtnbbgcdemafcoaaDoorF9
set_option linter.unusedSimpArgs false
set_option linter.unusedVariables false
namespace Go.Proofs.YtnbbgcdemafcoaaDoor
open Go Go.RowKit

def fire (c : Nat → Int) (a : ActD) : Nat → Int := setAt c a.rep.toNat a.num
theorem rdy_facts {c : Nat → Int} {a : ActD} (h : rdyB c a = true) : (0 ≤ a.rep ∧ a.rep < 8) ∧ 1 ≤ a.num ∧ a.num = c a.rep.toNat + 1 ∧ c a.rep.toNat ≠ 9223372036854775807 ∧ a.clock a.rep.toNat = c a.rep.toNat ∧ covB c a.clock = true := by
  unfold rdyB inB at h
  simp only [Bool.and_eq_true, Bool.not_eq_true', decide_eq_true_eq, beq_iff_eq, beq_eq_false_iff_ne] at h
  obtain ⟨h1, h2, h3, h4, h5, h6⟩ := h
  exact ⟨h1, h3, h4, h2, h5, h6⟩
theorem rdy_of {c : Nat → Int} {a : ActD} (h1 : 0 ≤ a.rep ∧ a.rep < 8) (h3 : 1 ≤ a.num) (h4 : a.num = c a.rep.toNat + 1) (h2 : c a.rep.toNat ≠ 9223372036854775807) (h5 : a.clock a.rep.toNat = c a.rep.toNat) (h6 : covB c a.clock = true) : rdyB c a = true := by
  unfold rdyB inB
  simp only [Bool.and_eq_true, Bool.not_eq_true', decide_eq_true_eq, beq_iff_eq, beq_eq_false_iff_ne]
  exact ⟨h1, h2, h3, h4, h5, h6⟩
theorem fire_clkI {c : Nat → Int} {a : ActD} (hc : ClkI c) (ha : InI a.num) : ClkI (fire c a) := fun i hi => by
  unfold fire setAt
  split
  · exact ha
  · exact hc i hi
theorem fire_ge {c : Nat → Int} {a : ActD} (h : rdyB c a = true) (i : Nat) : c i ≤ fire c a i := by
  obtain ⟨_, _, h4, _⟩ := rdy_facts h
  unfold fire setAt
  split
  · subst_vars; omega
  · exact Int.le_refl _
def fires (c : Nat → Int) (s : List ActD) : Nat → Int := s.foldl fire c
theorem fires_snoc (c : Nat → Int) (s : List ActD) (a : ActD) : fires c (s ++ [a]) = fire (fires c s) a := by simp [fires, List.foldl_append]
theorem fires_cons (c : Nat → Int) (s : List ActD) (a : ActD) : fires c (a :: s) = fires (fire c a) s := rfl
def delivB (c : Nat → Int) : List ActD → Bool
  | [] => true
  | a :: s => rdyB c a && delivB (fire c a) s
theorem deliv_snoc (c : Nat → Int) (s : List ActD) (a : ActD) : delivB c (s ++ [a]) = (delivB c s && rdyB (fires c s) a) := by
  induction s generalizing c with
  | nil => simp [delivB, fires]
  | cons b s ih => simp [delivB, ih, fires_cons, Bool.and_assoc]
theorem deliv_take {c : Nat → Int} {s : List ActD} (h : delivB c s = true) (k : Nat) : delivB c (s.take k) = true := by
  induction s generalizing c k with
  | nil => simp [delivB]
  | cons b s ih =>
    cases k with
    | zero => rfl
    | succ k =>
      simp only [delivB, Bool.and_eq_true] at h
      simp only [List.take_succ_cons, delivB, Bool.and_eq_true]
      exact ⟨h.1, ih h.2 k⟩
theorem deliv_at {c : Nat → Int} {s : List ActD} (h : delivB c s = true) {k : Nat} {a : ActD} (ha : s[k]? = some a) : rdyB (fires c (s.take k)) a = true := by
  have h2 := deliv_take h (k + 1)
  rw [List.take_add_one, ha] at h2
  have h2 : delivB c (s.take k ++ [a]) = true := h2
  rw [deliv_snoc, Bool.and_eq_true] at h2
  exact h2.2
theorem fires_take {c : Nat → Int} {s : List ActD} {k : Nat} {a : ActD} (ha : s[k]? = some a) : fires c (s.take (k + 1)) = fire (fires c (s.take k)) a := by
  rw [List.take_add_one, ha]
  exact fires_snoc _ _ _
theorem fires_clkI {c : Nat → Int} {s : List ActD} (hc : ClkI c) (hs : ∀ a, a ∈ s → InI a.num) : ClkI (fires c s) := by
  induction s generalizing c with
  | nil => exact hc
  | cons b s ih => exact ih (fire_clkI hc (hs b (List.mem_cons_self ..))) (fun a ha => hs a (List.mem_cons_of_mem _ ha))

/-! ### by steps -/
abbrev OX := (Nat → Int) × List ActD
def stepO (l : List ActD) (x : OX) : OX := match nextI x.1 l with
  | none => x
  | some i => (fire x.1 (l.getD i act0), x.2 ++ [l.getD i act0])
def iterO (l : List ActD) : Nat → OX → OX
  | 0, x => x
  | k + 1, x => stepO l (iterO l k x)
def muO (c : Nat → Int) (l : List ActD) : Nat := l.countP fun a => inB a.rep && decide (c a.rep.toNat < a.num)
/-- What stands in the order, and the clock behind it. -/
def ordX (c : Nat → Int) (l : List ActD) : OX := iterO l l.length (c, [])
def ordS (c : Nat → Int) (l : List ActD) : List ActD := (ordX c l).2
def ordR (c : Nat → Int) (l : List ActD) : List ActD := missL (ordX c l).1 l
theorem next_facts {c : Nat → Int} {l : List ActD} {i : Nat} (h : nextI c l = some i) : l[i]? = some (l.getD i act0) ∧ rdyB c (l.getD i act0) = true ∧ ∀ j a, j < i → l[j]? = some a → rdyB c a = false := by
  unfold nextI at h
  rw [List.findIdx?_eq_some_iff_getElem] at h
  obtain ⟨hk, hr, hp⟩ := h
  have : l.getD i act0 = l[i] := by rw [List.getD_eq_getElem?_getD, List.getElem?_eq_getElem hk]; rfl
  rw [this]
  refine ⟨List.getElem?_eq_getElem hk, hr, fun j a hj ha => ?_⟩
  have := hp j hj
  obtain ⟨hk2, rfl⟩ := List.getElem?_eq_some_iff.1 ha
  simpa using this
theorem countP_lt {α : Type} {p q : α → Bool} {a : α} : ∀ {l : List α}, (∀ x, x ∈ l → q x = true → p x = true) → a ∈ l → p a = true → q a = false → l.countP q < l.countP p
  | b :: l, h, ha, hp, hq => by
    have hle : l.countP q ≤ l.countP p := List.countP_mono_left fun x hx hqx => h x (List.mem_cons_of_mem _ hx) hqx
    rcases List.mem_cons.1 ha with rfl | hm
    · rw [List.countP_cons_of_pos hp, List.countP_cons_of_neg (by simp [hq])]
      omega
    · have ih := countP_lt (fun x hx => h x (List.mem_cons_of_mem _ hx)) hm hp hq
      by_cases hqb : q b = true
      · rw [List.countP_cons_of_pos hqb, List.countP_cons_of_pos (h b (List.mem_cons_self ..) hqb)]
        omega
      · rw [List.countP_cons_of_neg hqb]
        have := List.countP_le_length (p := p) (l := l)
        rw [List.countP_cons]
        omega
theorem mu_fire {c : Nat → Int} {l : List ActD} {a : ActD} (ha : a ∈ l) (h : rdyB c a = true) : muO (fire c a) l < muO c l := by
  obtain ⟨h1, h3, h4, _⟩ := rdy_facts h
  refine countP_lt (a := a) (fun x _ hx => ?_) ha ?_ ?_
  · simp only [Bool.and_eq_true, decide_eq_true_eq] at hx ⊢
    exact ⟨hx.1, Int.lt_of_le_of_lt (fire_ge h _) hx.2⟩
  · simp only [inB, Bool.and_eq_true, decide_eq_true_eq]
    exact ⟨h1, by omega⟩
  · simp [fire, setAt]
theorem mu_le (c : Nat → Int) (l : List ActD) : muO c l ≤ l.length := List.countP_le_length
theorem step_some {l : List ActD} {x : OX} {i : Nat} (h : nextI x.1 l = some i) : stepO l x = (fire x.1 (l.getD i act0), x.2 ++ [l.getD i act0]) := by unfold stepO; rw [h]
theorem step_none {l : List ActD} {x : OX} (h : nextI x.1 l = none) : stepO l x = x := by unfold stepO; rw [h]
theorem iter_stuck {l : List ActD} {x : OX} {k : Nat} (h : nextI (iterO l k x).1 l = none) : ∀ m, iterO l (k + m) x = iterO l k x
  | 0 => rfl
  | m + 1 => by
    show stepO l (iterO l (k + m) x) = _
    rw [iter_stuck h m, step_none h]
theorem iter_mu {l : List ActD} {x : OX} : ∀ k, (∀ j, j < k → nextI (iterO l j x).1 l ≠ none) → muO (iterO l k x).1 l + k ≤ muO x.1 l
  | 0, _ => Nat.le_refl _
  | k + 1, h => by
    have ih := iter_mu k (fun j hj => h j (by omega))
    have hk := h k (by omega)
    obtain ⟨i, hi⟩ := Option.ne_none_iff_exists'.1 hk
    obtain ⟨h1, h2, _⟩ := next_facts hi
    show muO (stepO l (iterO l k x)).1 l + (k + 1) ≤ _
    rw [step_some hi]
    have := mu_fire (List.mem_of_getElem? h1) h2
    show muO (fire (iterO l k x).1 (l.getD i act0)) l + (k + 1) ≤ _
    omega
theorem ordX_none (c : Nat → Int) (l : List ActD) : nextI (ordX c l).1 l = none := by
  by_cases hall : ∀ j, j < l.length → nextI (iterO l j (c, [])).1 l ≠ none
  · have h := iter_mu _ hall
    have h2 := mu_le c l
    refine Classical.byContradiction fun hne => ?_
    obtain ⟨i, hi⟩ := Option.ne_none_iff_exists'.1 hne
    obtain ⟨h3, h4, _⟩ := next_facts hi
    have h5 := mu_fire (List.mem_of_getElem? h3) h4
    unfold ordX at h5
    have h : muO (iterO l l.length (c, [])).1 l + l.length ≤ muO c l := h
    omega
  · obtain ⟨j, hj⟩ := Classical.not_forall.1 hall
    obtain ⟨h1, h2⟩ := Classical.not_imp.1 hj
    replace h2 := Classical.not_not.1 h2
    have h3 := iter_stuck h2 (l.length - j)
    rw [show j + (l.length - j) = l.length by omega] at h3
    unfold ordX
    rw [h3]
    exact h2
theorem ordX_of {c : Nat → Int} {l : List ActD} {k : Nat} (hk : k ≤ l.length) (h : nextI (iterO l k (c, [])).1 l = none) : ordX c l = iterO l k (c, []) := by
  have := iter_stuck h (l.length - k)
  rw [show k + (l.length - k) = l.length by omega] at this
  exact this
/-- What is known of each step. -/
structure OrdI (c : Nat → Int) (l : List ActD) (k : Nat) (x : OX) : Prop where
  at_ : x = iterO l k (c, [])
  mu : muO x.1 l + k ≤ l.length
  len : x.2.length = k
  clk : x.1 = fires c x.2
  del : delivB c x.2 = true
  mem : ∀ a, a ∈ x.2 → a ∈ l
theorem ord_start (c : Nat → Int) (l : List ActD) : OrdI c l 0 (c, []) := ⟨rfl, mu_le c l, rfl, rfl, rfl, fun _ h => nomatch h⟩
theorem ord_step {c : Nat → Int} {l : List ActD} {k i : Nat} {x : OX} (h : OrdI c l k x) (hi : nextI x.1 l = some i) : OrdI c l (k + 1) (fire x.1 (l.getD i act0), x.2 ++ [l.getD i act0]) := by
  obtain ⟨h1, h2, _⟩ := next_facts hi
  have h3 := mu_fire (List.mem_of_getElem? h1) h2
  refine ⟨?_, ?_, ?_, ?_, ?_, fun a ha => ?_⟩
  · show _ = stepO l (iterO l k (c, []))
    rw [← h.at_, step_some hi]
  · have := h.mu
    show muO (fire x.1 _) l + (k + 1) ≤ _
    omega
  · show (x.2 ++ [_]).length = _
    simp [h.len]
  · show fire x.1 _ = fires c (x.2 ++ [_])
    rw [fires_snoc, ← h.clk]
  · show delivB c (x.2 ++ [_]) = true
    rw [deliv_snoc, h.del, ← h.clk, h2]
    rfl
  · rcases List.mem_append.1 ha with ha | ha
    · exact h.mem a ha
    · rw [List.mem_singleton.1 ha]; exact List.mem_of_getElem? h1
theorem ord_room {c : Nat → Int} {l : List ActD} {k i : Nat} {x : OX} (h : OrdI c l k x) (hi : nextI x.1 l = some i) : k < l.length := by
  obtain ⟨h1, h2, _⟩ := next_facts hi
  have h3 := mu_fire (List.mem_of_getElem? h1) h2
  have := h.mu
  omega
theorem ord_end {c : Nat → Int} {l : List ActD} {k : Nat} {x : OX} (h : OrdI c l k x) (hn : nextI x.1 l = none) : ordX c l = x := by
  have := h.mu
  have h1 := h.at_
  rw [h1] at hn
  rw [ordX_of (by omega) hn, ← h1]
theorem ord_is (c : Nat → Int) (l : List ActD) : ∃ k, OrdI c l k (ordX c l) := by
  have : ∀ m k x, OrdI c l k x → l.length - k = m → ∃ k' x', OrdI c l k' x' ∧ nextI x'.1 l = none := by
    intro m
    induction m with
    | zero =>
      intro k x h hm
      cases hi : nextI x.1 l with
      | none => exact ⟨k, x, h, hi⟩
      | some i => have := ord_room h hi; omega
    | succ m ih =>
      intro k x h hm
      cases hi : nextI x.1 l with
      | none => exact ⟨k, x, h, hi⟩
      | some i => exact ih _ _ (ord_step h hi) (by omega)
  obtain ⟨k, x, h, hn⟩ := this _ 0 _ (ord_start c l) rfl
  rw [ord_end h hn]
  exact ⟨k, h⟩
theorem ordS_len (c : Nat → Int) (l : List ActD) : (ordS c l).length ≤ l.length := by
  obtain ⟨k, h⟩ := ord_is c l
  have := h.len
  have := h.mu
  unfold ordS
  omega
theorem ordS_deliv (c : Nat → Int) (l : List ActD) : delivB c (ordS c l) = true := (ord_is c l).choose_spec.del
theorem ordS_mem {c : Nat → Int} {l : List ActD} {a : ActD} (h : a ∈ ordS c l) : a ∈ l := (ord_is c l).choose_spec.mem a h
theorem ordS_clk (c : Nat → Int) (l : List ActD) : (ordX c l).1 = fires c (ordS c l) := (ord_is c l).choose_spec.clk
/-- Who has delivered the row has what it had, and the row. -/
theorem has_fires {c : Nat → Int} {s : List ActD} (h : delivB c s = true) (r n : Int) : hasB (fires c s) r n = (hasB c r n || s.any fun a => a.rep == r && a.num == n) := by
  induction s generalizing c with
  | nil => simp [fires]
  | cons a s ih =>
    simp only [delivB, Bool.and_eq_true] at h
    obtain ⟨h1, h2⟩ := h
    rw [fires_cons, ih h2, List.any_cons, ← Bool.or_assoc]
    congr 1
    obtain ⟨g1, g3, g4, _⟩ := rdy_facts h1
    unfold hasB fire setAt inB
    rw [Bool.eq_iff_iff]
    simp only [Bool.or_eq_true, Bool.and_eq_true, decide_eq_true_eq, beq_iff_eq]
    constructor
    · rintro ⟨⟨hr0, hr8⟩, hn1, hn⟩
      by_cases he : r = a.rep
      · subst he
        rw [if_pos rfl] at hn
        by_cases hn2 : n = a.num
        · exact .inr ⟨rfl, hn2.symm⟩
        · exact .inl ⟨⟨hr0, hr8⟩, hn1, by omega⟩
      · rw [if_neg (by omega)] at hn
        exact .inl ⟨⟨hr0, hr8⟩, hn1, hn⟩
    · rintro (⟨⟨hr0, hr8⟩, hn1, hn⟩ | ⟨rfl, rfl⟩)
      · refine ⟨⟨hr0, hr8⟩, hn1, ?_⟩
        split
        · rename_i he
          have : r = a.rep := by omega
          subst this
          omega
        · exact hn
      · exact ⟨g1, g3, by rw [if_pos rfl]; exact Int.le_refl _⟩
end Go.Proofs.YtnbbgcdemafcoaaDoor
