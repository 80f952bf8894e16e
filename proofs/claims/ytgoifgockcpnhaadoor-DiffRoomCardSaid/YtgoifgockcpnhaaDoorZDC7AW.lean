/- Edits of a text, plainly: what makes one text of another, what takes edits back. -/
import Derived.Test.YtgoifgockcpnhaaDoorZDC7AN
set_option linter.unusedSimpArgs false
set_option linter.unusedVariables false
namespace Go.Proofs.YtgoifgockcpnhaaDoor

/-- An edit: where, how many characters go, which come. -/
structure Ed where
  at_ : Nat
  er : Nat
  ins : List Int
/-- Is something under way? -/
def fl (a e : Nat) (m : List Int) : List Ed := if e = 0 ∧ m = [] then [] else [⟨a, e, m⟩]
/-- What is under way at a place, and what is left of both texts: the edits to come. -/
def wk (a e : Nat) (m : List Int) : List Int → List Int → List Ed
  | [], [] => fl a e m
  | [], c :: y => wk a e (m ++ [c]) [] y
  | _ :: x, [] => wk a (e + 1) m x []
  | b :: x, c :: y => if b = c then fl a e m ++ wk (a + m.length + 1) 0 [] x y else if dst x (c :: y) ≤ dst (b :: x) y then wk a (e + 1) m x (c :: y) else wk a e (m ++ [c]) (b :: x) y
termination_by x y => x.length + y.length
theorem wk_nil (a e : Nat) (m : List Int) : wk a e m [] [] = fl a e m := by rw [wk]
theorem wk_ins (a e : Nat) (m : List Int) (c : Int) (y : List Int) : wk a e m [] (c :: y) = wk a e (m ++ [c]) [] y := by rw [wk]
theorem wk_er (a e : Nat) (m : List Int) (b : Int) (x : List Int) : wk a e m (b :: x) [] = wk a (e + 1) m x [] := by rw [wk]
theorem wk_eq (a e : Nat) (m : List Int) (b : Int) (x y : List Int) : wk a e m (b :: x) (b :: y) = fl a e m ++ wk (a + m.length + 1) 0 [] x y := by rw [wk, if_pos rfl]
theorem wk_ne {b c : Int} (h : b ≠ c) (a e : Nat) (m x y : List Int) : wk a e m (b :: x) (c :: y) = if dst x (c :: y) ≤ dst (b :: x) y then wk a (e + 1) m x (c :: y) else wk a e (m ++ [c]) (b :: x) y := by rw [wk, if_neg h]
/-! ### done -/
def okE (t : List Int) (d : Ed) : Prop := d.at_ ≤ t.length ∧ d.er ≤ t.length - d.at_
instance (t : List Int) (d : Ed) : Decidable (okE t d) := inferInstanceAs (Decidable (_ ∧ _))
/-! ### how much, and in which order -/
/-! ### taken back -/
end Go.Proofs.YtgoifgockcpnhaaDoor
