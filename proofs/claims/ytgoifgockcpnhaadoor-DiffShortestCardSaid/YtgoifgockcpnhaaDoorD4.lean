/- Edits of a text, plainly: what makes one text of another, what takes edits back. -/
import Derived.Test.YtgoifgockcpnhaaDoorD2
set_option linter.unusedSimpArgs false
set_option linter.unusedVariables false
namespace Go.Proofs.YtgoifgockcpnhaaDoor

/-- An edit: where, how many characters go, which come. -/
structure Ed where
  at_ : Nat
  er : Nat
  ins : List Int
/-- Is something under way? -/
def fl (a e : Nat) (m : List Int) : List Ed := if e = 0 ∧ m = [] then [] else [⟨a, e, m⟩]
/-- What is under way at a place, and what is left of both texts: the edits to come. -/
def wk (a e : Nat) (m : List Int) : List Int → List Int → List Ed
  | [], [] => fl a e m
  | [], c :: y => wk a e (m ++ [c]) [] y
  | _ :: x, [] => wk a (e + 1) m x []
  | b :: x, c :: y => if b = c then fl a e m ++ wk (a + m.length + 1) 0 [] x y else if dst x (c :: y) ≤ dst (b :: x) y then wk a (e + 1) m x (c :: y) else wk a e (m ++ [c]) (b :: x) y
termination_by x y => x.length + y.length
theorem wk_nil (a e : Nat) (m : List Int) : wk a e m [] [] = fl a e m := by rw [wk]
theorem wk_ins (a e : Nat) (m : List Int) (c : Int) (y : List Int) : wk a e m [] (c :: y) = wk a e (m ++ [c]) [] y := by rw [wk]
theorem wk_er (a e : Nat) (m : List Int) (b : Int) (x : List Int) : wk a e m (b :: x) [] = wk a (e + 1) m x [] := by rw [wk]
theorem wk_eq (a e : Nat) (m : List Int) (b : Int) (x y : List Int) : wk a e m (b :: x) (b :: y) = fl a e m ++ wk (a + m.length + 1) 0 [] x y := by rw [wk, if_pos rfl]
theorem wk_ne {b c : Int} (h : b ≠ c) (a e : Nat) (m x y : List Int) : wk a e m (b :: x) (c :: y) = if dst x (c :: y) ≤ dst (b :: x) y then wk a (e + 1) m x (c :: y) else wk a e (m ++ [c]) (b :: x) y := by rw [wk, if_neg h]
/-! ### done -/
def ap1 (t : List Int) (d : Ed) : List Int := t.take d.at_ ++ d.ins ++ t.drop (d.at_ + d.er)
def okE (t : List Int) (d : Ed) : Prop := d.at_ ≤ t.length ∧ d.er ≤ t.length - d.at_
instance (t : List Int) (d : Ed) : Decidable (okE t d) := inferInstanceAs (Decidable (_ ∧ _))
def apE (t : List Int) : List Ed → Option (List Int)
  | [] => some t
  | d :: l => if okE t d then apE (ap1 t d) l else none
theorem apE_append (t : List Int) (l l' : List Ed) : apE t (l ++ l') = (apE t l).bind fun u => apE u l' := by
  induction l generalizing t with
  | nil => rfl
  | cons d l ih =>
    simp only [List.cons_append, apE]
    split
    · exact ih _
    · rfl
theorem apE_fl (p g m x : List Int) (l : List Ed) : apE (p ++ g ++ x) (fl p.length g.length m ++ l) = apE (p ++ m ++ x) l := by
  unfold fl
  split
  · rename_i h
    obtain ⟨h1, rfl⟩ := h
    obtain rfl : g = [] := List.eq_nil_of_length_eq_zero h1
    rfl
  · simp only [List.cons_append, List.nil_append, apE]
    rw [if_pos (by unfold okE; simp only [List.length_append]; omega)]
    congr 1
    unfold ap1
    simp only
    rw [List.append_assoc p g x, List.take_left, ← List.drop_drop, List.drop_left, List.drop_left, List.append_assoc]
/-- What is laid makes the second text of the first. -/
theorem apE_wk : ∀ (n : Nat) (p g m x y : List Int), x.length + y.length ≤ n → apE (p ++ g ++ x) (wk p.length g.length m x y) = some (p ++ m ++ y)
  | _, p, g, m, [], [], _ => by
    have := apE_fl p g m [] []
    rw [wk_nil]
    simpa [apE] using this
  | 0, _, _, _, _ :: _, _, h => by simp at h
  | 0, _, _, _, [], _ :: _, h => by simp at h
  | n + 1, p, g, m, [], c :: y, h => by
    rw [wk_ins, apE_wk n p g (m ++ [c]) [] y (by simp at h ⊢; omega)]
    simp
  | n + 1, p, g, m, b :: x, [], h => by
    have := apE_wk n p (g ++ [b]) m x [] (by simp at h ⊢; omega)
    rw [wk_er]
    simpa using this
  | n + 1, p, g, m, b :: x, c :: y, h => by
    simp only [List.length_cons] at h
    by_cases hb : b = c
    · subst hb
      rw [wk_eq, apE_fl]
      have := apE_wk n (p ++ m ++ [b]) [] [] x y (by omega)
      simpa [Nat.add_assoc] using this
    · rw [wk_ne hb]
      split
      · have := apE_wk n p (g ++ [b]) m x (c :: y) (by simp only [List.length_cons]; omega)
        simpa using this
      · have := apE_wk n p g (m ++ [c]) (b :: x) y (by simp only [List.length_cons]; omega)
        simpa using this
theorem apE_all (x y : List Int) : apE x (wk 0 0 [] x y) = some y := by
  have := apE_wk _ [] [] [] x y (Nat.le_refl _)
  simpa using this
/-! ### how much, and in which order -/
def sumE (l : List Ed) : Nat := (l.map fun d => d.er + d.ins.length).sum
theorem sumE_append (l l' : List Ed) : sumE (l ++ l') = sumE l + sumE l' := by unfold sumE; simp
theorem sumE_fl (a e : Nat) (m : List Int) : sumE (fl a e m) = e + m.length := by
  unfold fl sumE
  split
  · rename_i h; obtain ⟨rfl, rfl⟩ := h; rfl
  · simp
theorem sumE_wk : ∀ (n : Nat) (a e : Nat) (m x y : List Int), x.length + y.length ≤ n → sumE (wk a e m x y) = e + m.length + dst x y
  | _, a, e, m, [], [], _ => by rw [wk_nil, sumE_fl, dst_nil]; rfl
  | 0, _, _, _, _ :: _, _, h => by simp at h
  | 0, _, _, _, [], _ :: _, h => by simp at h
  | n + 1, a, e, m, [], c :: y, h => by
    rw [wk_ins, sumE_wk n a e (m ++ [c]) [] y (by simp at h ⊢; omega), dst_nil, dst_nil]
    simp; omega
  | n + 1, a, e, m, b :: x, [], h => by
    rw [wk_er, sumE_wk n a (e + 1) m x [] (by simp at h ⊢; omega), dst_nil', dst_nil']
    simp; omega
  | n + 1, a, e, m, b :: x, c :: y, h => by
    simp only [List.length_cons] at h
    by_cases hb : b = c
    · subst hb
      rw [wk_eq, sumE_append, sumE_fl, sumE_wk n _ 0 [] x y (by omega), dst_eq]
      simp
    · rw [wk_ne hb, dst_ne hb]
      split
      · rw [sumE_wk n a (e + 1) m x (c :: y) (by simp only [List.length_cons]; omega)]
        omega
      · rw [sumE_wk n a e (m ++ [c]) (b :: x) y (by simp only [List.length_cons]; omega)]
        simp; omega
theorem sumE_all (x y : List Int) : sumE (wk 0 0 [] x y) = dst x y := by
  have := sumE_wk _ 0 0 [] x y (Nat.le_refl _)
  simpa using this
/-- Each does something, and stands behind a place; they rise. -/
def rises : Int → List Ed → Prop
  | _, [] => True
  | k, d :: l => 1 ≤ d.er + d.ins.length ∧ k < d.at_ ∧ rises (d.at_ + d.ins.length) l
theorem rises_fl {k : Int} {a e : Nat} {m : List Int} {l : List Ed} (hk : k < a) (h : ∀ j : Int, j < a + m.length + 1 → rises j l) : rises k (fl a e m ++ l) := by
  unfold fl
  split
  · exact h k (by omega)
  · rename_i hn
    refine ⟨?_, hk, h _ (by simp only; omega)⟩
    simp only
    by_cases h1 : e = 0
    · have : m ≠ [] := fun h2 => hn ⟨h1, h2⟩
      have := List.length_pos_iff.2 this
      omega
    · omega
theorem rises_wk : ∀ (n : Nat) (k : Int) (a e : Nat) (m x y : List Int), x.length + y.length ≤ n → k < a → rises k (wk a e m x y)
  | _, k, a, e, m, [], [], _, hk => by
    rw [wk_nil]
    have := rises_fl (e := e) (m := m) (l := []) hk (fun _ _ => trivial)
    simpa using this
  | 0, _, _, _, _, _ :: _, _, h, _ => by simp at h
  | 0, _, _, _, _, [], _ :: _, h, _ => by simp at h
  | n + 1, k, a, e, m, [], c :: y, h, hk => by
    rw [wk_ins]
    exact rises_wk n k a e (m ++ [c]) [] y (by simp at h ⊢; omega) hk
  | n + 1, k, a, e, m, b :: x, [], h, hk => by
    rw [wk_er]
    exact rises_wk n k a (e + 1) m x [] (by simp at h ⊢; omega) hk
  | n + 1, k, a, e, m, b :: x, c :: y, h, hk => by
    simp only [List.length_cons] at h
    by_cases hb : b = c
    · subst hb
      rw [wk_eq]
      exact rises_fl hk fun j hj => rises_wk n j _ 0 [] x y (by omega) (by omega)
    · rw [wk_ne hb]
      split
      · exact rises_wk n k a (e + 1) m x (c :: y) (by simp only [List.length_cons]; omega) hk
      · exact rises_wk n k a e (m ++ [c]) (b :: x) y (by simp only [List.length_cons]; omega) hk
theorem dst_zero {x y : List Int} (h : dst x y = 0) : x = y := by
  have h1 := cmn_len _ x y (Nat.le_refl _)
  obtain ⟨h2, h3⟩ := cmn_sub _ x y (Nat.le_refl _)
  have l2 := h2.length_le
  have l3 := h3.length_le
  have e2 := h2.eq_of_length (by omega)
  have e3 := h3.eq_of_length (by omega)
  rw [← e2]
  exact e3
theorem dst_self (x : List Int) : dst x x = 0 := by
  have h1 := cmn_len _ x x (Nat.le_refl _)
  rw [cmn_self] at h1
  omega
/-- All that is laid stands in the texts. -/
theorem wk_ins_in : ∀ (n : Nat) (a e : Nat) (m x y : List Int) (d : Ed), x.length + y.length ≤ n → d ∈ wk a e m x y → (∀ c, c ∈ d.ins → c ∈ m ∨ c ∈ y) ∧ d.at_ ≤ a + m.length + y.length ∧ d.er ≤ e + x.length ∧ d.ins.length ≤ m.length + y.length
  | _, a, e, m, [], [], d, _, hd => by
    rw [wk_nil] at hd
    unfold fl at hd
    split at hd
    · cases hd
    · rw [List.mem_singleton] at hd
      subst hd
      exact ⟨fun c hc => .inl hc, by simp, by simp, by simp⟩
  | 0, _, _, _, _ :: _, _, _, h, _ => by simp at h
  | 0, _, _, _, [], _ :: _, _, h, _ => by simp at h
  | n + 1, a, e, m, [], c :: y, d, h, hd => by
    rw [wk_ins] at hd
    obtain ⟨h1, h2, h3, h4⟩ := wk_ins_in n a e (m ++ [c]) [] y d (by simp at h ⊢; omega) hd
    refine ⟨fun q hq => ?_, by simp at h2 ⊢; omega, h3, by simp at h4 ⊢; omega⟩
    rcases h1 q hq with h5 | h5
    · rcases List.mem_append.1 h5 with h6 | h6
      · exact .inl h6
      · rw [List.mem_singleton] at h6; subst h6; exact .inr (List.mem_cons_self ..)
    · exact .inr (List.mem_cons_of_mem _ h5)
  | n + 1, a, e, m, b :: x, [], d, h, hd => by
    rw [wk_er] at hd
    obtain ⟨h1, h2, h3, h4⟩ := wk_ins_in n a (e + 1) m x [] d (by simp at h ⊢; omega) hd
    exact ⟨h1, h2, by simp; omega, h4⟩
  | n + 1, a, e, m, b :: x, c :: y, d, h, hd => by
    simp only [List.length_cons] at h
    by_cases hb : b = c
    · subst hb
      rw [wk_eq, List.mem_append] at hd
      rcases hd with hd | hd
      · unfold fl at hd
        split at hd
        · cases hd
        · rw [List.mem_singleton] at hd
          subst hd
          exact ⟨fun c hc => .inl hc, by simp only; omega, by simp only; omega, by simp only; omega⟩
      · obtain ⟨h1, h2, h3, h4⟩ := wk_ins_in n _ 0 [] x y d (by omega) hd
        refine ⟨fun q hq => ?_, by simp at h2 ⊢; omega, by simp at h3 ⊢; omega, by simp at h4 ⊢; omega⟩
        rcases h1 q hq with h5 | h5
        · cases h5
        · exact .inr (List.mem_cons_of_mem _ h5)
    · rw [wk_ne hb] at hd
      split at hd
      · obtain ⟨h1, h2, h3, h4⟩ := wk_ins_in n a (e + 1) m x (c :: y) d (by simp only [List.length_cons]; omega) hd
        exact ⟨h1, h2, by simp at h3 ⊢; omega, h4⟩
      · obtain ⟨h1, h2, h3, h4⟩ := wk_ins_in n a e (m ++ [c]) (b :: x) y d (by simp only [List.length_cons]; omega) hd
        refine ⟨fun q hq => ?_, by simp at h2 ⊢; omega, h3, by simp at h4 ⊢; omega⟩
        rcases h1 q hq with h5 | h5
        · rcases List.mem_append.1 h5 with h6 | h6
          · exact .inl h6
          · rw [List.mem_singleton] at h6; subst h6; exact .inr (List.mem_cons_self ..)
        · exact .inr (List.mem_cons_of_mem _ h5)
/-! ### taken back -/
def bk1 (t : List Int) (d : Ed) : Ed := ⟨d.at_, d.ins.length, (t.drop d.at_).take d.er⟩
/-- The edits that take edits back, the last one first. -/
def bkE (t : List Int) : List Ed → List Ed
  | [] => []
  | d :: l => bkE (ap1 t d) l ++ [bk1 t d]
theorem bkE_len (t : List Int) (l : List Ed) : (bkE t l).length = l.length := by
  induction l generalizing t with
  | nil => rfl
  | cons d l ih => simp [bkE, ih]
theorem ap1_bk1 (t : List Int) (d : Ed) (h : okE t d) : okE (ap1 t d) (bk1 t d) ∧ ap1 (ap1 t d) (bk1 t d) = t := by
  obtain ⟨h1, h2⟩ := h
  have ht : (t.take d.at_).length = d.at_ := by rw [List.length_take]; omega
  constructor
  · unfold okE ap1 bk1
    simp only [List.length_append, ht]
    omega
  · unfold ap1 bk1
    simp only
    have e0 : t.take d.at_ ++ d.ins ++ t.drop (d.at_ + d.er) = t.take d.at_ ++ (d.ins ++ t.drop (d.at_ + d.er)) := List.append_assoc ..
    rw [e0]
    have e1 : (t.take d.at_ ++ (d.ins ++ t.drop (d.at_ + d.er))).take d.at_ = t.take d.at_ := by
      rw [List.take_append_of_le_length (by omega), List.take_of_length_le (by omega)]
    have e2 : (t.take d.at_ ++ (d.ins ++ t.drop (d.at_ + d.er))).drop (d.at_ + d.ins.length) = t.drop (d.at_ + d.er) := by
      rw [List.drop_append, List.drop_of_length_le (by omega), List.nil_append, ht, show d.at_ + d.ins.length - d.at_ = d.ins.length by omega, List.drop_left]
    rw [e1, e2, List.append_assoc, ← List.drop_drop, List.take_append_drop, List.take_append_drop]
theorem apE_bkE : ∀ (l : List Ed) (t u : List Int), apE t l = some u → apE u (bkE t l) = some t
  | [], t, u, h => by cases h; rfl
  | d :: l, t, u, h => by
    unfold apE at h
    split at h
    · rename_i hok
      have := apE_bkE l (ap1 t d) u h
      obtain ⟨h1, h2⟩ := ap1_bk1 t d hok
      unfold bkE
      rw [apE_append, this]
      show apE (ap1 t d) [bk1 t d] = some t
      unfold apE
      rw [if_pos h1, h2]
      rfl
    · cases h
end Go.Proofs.YtgoifgockcpnhaaDoor
