/- Edits of a text, plainly: what makes one text of another, what takes edits back. -/
import Derived.Test.YtgoifgockcpnhaaDoorZDC5AN
set_option linter.unusedSimpArgs false
set_option linter.unusedVariables false
namespace Go.Proofs.YtgoifgockcpnhaaDoor

/-- An edit: where, how many characters go, which come. -/
structure Ed where
  at_ : Nat
  er : Nat
  ins : List Int
/-- Is something under way? -/
def fl (a e : Nat) (m : List Int) : List Ed := if e = 0 ∧ m = [] then [] else [⟨a, e, m⟩]
/-- What is under way at a place, and what is left of both texts: the edits to come. -/
def wk (a e : Nat) (m : List Int) : List Int → List Int → List Ed
  | [], [] => fl a e m
  | [], c :: y => wk a e (m ++ [c]) [] y
  | _ :: x, [] => wk a (e + 1) m x []
  | b :: x, c :: y => if b = c then fl a e m ++ wk (a + m.length + 1) 0 [] x y else if dst x (c :: y) ≤ dst (b :: x) y then wk a (e + 1) m x (c :: y) else wk a e (m ++ [c]) (b :: x) y
termination_by x y => x.length + y.length
theorem wk_nil (a e : Nat) (m : List Int) : wk a e m [] [] = fl a e m := by rw [wk]
theorem wk_ins (a e : Nat) (m : List Int) (c : Int) (y : List Int) : wk a e m [] (c :: y) = wk a e (m ++ [c]) [] y := by rw [wk]
theorem wk_er (a e : Nat) (m : List Int) (b : Int) (x : List Int) : wk a e m (b :: x) [] = wk a (e + 1) m x [] := by rw [wk]
theorem wk_eq (a e : Nat) (m : List Int) (b : Int) (x y : List Int) : wk a e m (b :: x) (b :: y) = fl a e m ++ wk (a + m.length + 1) 0 [] x y := by rw [wk, if_pos rfl]
theorem wk_ne {b c : Int} (h : b ≠ c) (a e : Nat) (m x y : List Int) : wk a e m (b :: x) (c :: y) = if dst x (c :: y) ≤ dst (b :: x) y then wk a (e + 1) m x (c :: y) else wk a e (m ++ [c]) (b :: x) y := by rw [wk, if_neg h]
/-! ### done -/
def ap1 (t : List Int) (d : Ed) : List Int := t.take d.at_ ++ d.ins ++ t.drop (d.at_ + d.er)
def okE (t : List Int) (d : Ed) : Prop := d.at_ ≤ t.length ∧ d.er ≤ t.length - d.at_
instance (t : List Int) (d : Ed) : Decidable (okE t d) := inferInstanceAs (Decidable (_ ∧ _))
def apE (t : List Int) : List Ed → Option (List Int)
  | [] => some t
  | d :: l => if okE t d then apE (ap1 t d) l else none
theorem apE_append (t : List Int) (l l' : List Ed) : apE t (l ++ l') = (apE t l).bind fun u => apE u l' := by
  induction l generalizing t with
  | nil => rfl
  | cons d l ih =>
    simp only [List.cons_append, apE]
    split
    · exact ih _
    · rfl
/-! ### how much, and in which order -/
/-! ### taken back -/
def bk1 (t : List Int) (d : Ed) : Ed := ⟨d.at_, d.ins.length, (t.drop d.at_).take d.er⟩
/-- The edits that take edits back, the last one first. -/
def bkE (t : List Int) : List Ed → List Ed
  | [] => []
  | d :: l => bkE (ap1 t d) l ++ [bk1 t d]
theorem bkE_len (t : List Int) (l : List Ed) : (bkE t l).length = l.length := by
  induction l generalizing t with
  | nil => rfl
  | cons d l ih => simp [bkE, ih]
theorem ap1_bk1 (t : List Int) (d : Ed) (h : okE t d) : okE (ap1 t d) (bk1 t d) ∧ ap1 (ap1 t d) (bk1 t d) = t := by
  obtain ⟨h1, h2⟩ := h
  have ht : (t.take d.at_).length = d.at_ := by rw [List.length_take]; omega
  constructor
  · unfold okE ap1 bk1
    simp only [List.length_append, ht]
    omega
  · unfold ap1 bk1
    simp only
    have e0 : t.take d.at_ ++ d.ins ++ t.drop (d.at_ + d.er) = t.take d.at_ ++ (d.ins ++ t.drop (d.at_ + d.er)) := List.append_assoc ..
    rw [e0]
    have e1 : (t.take d.at_ ++ (d.ins ++ t.drop (d.at_ + d.er))).take d.at_ = t.take d.at_ := by
      rw [List.take_append_of_le_length (by omega), List.take_of_length_le (by omega)]
    have e2 : (t.take d.at_ ++ (d.ins ++ t.drop (d.at_ + d.er))).drop (d.at_ + d.ins.length) = t.drop (d.at_ + d.er) := by
      rw [List.drop_append, List.drop_of_length_le (by omega), List.nil_append, ht, show d.at_ + d.ins.length - d.at_ = d.ins.length by omega, List.drop_left]
    rw [e1, e2, List.append_assoc, ← List.drop_drop, List.take_append_drop, List.take_append_drop]
theorem apE_bkE : ∀ (l : List Ed) (t u : List Int), apE t l = some u → apE u (bkE t l) = some t
  | [], t, u, h => by cases h; rfl
  | d :: l, t, u, h => by
    unfold apE at h
    split at h
    · rename_i hok
      have := apE_bkE l (ap1 t d) u h
      obtain ⟨h1, h2⟩ := ap1_bk1 t d hok
      unfold bkE
      rw [apE_append, this]
      show apE (ap1 t d) [bk1 t d] = some t
      unfold apE
      rw [if_pos h1, h2]
      rfl
    · cases h
end Go.Proofs.YtgoifgockcpnhaaDoor
