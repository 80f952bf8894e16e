/- How far two texts are apart, plainly. -/
import Derived.Test.YtgoifgockcpnhaaDoorZDC7AJ
set_option linter.unusedSimpArgs false
set_option linter.unusedVariables false
namespace Go.Proofs.YtgoifgockcpnhaaDoor

def dst : List Int → List Int → Nat
  | [], y => y.length
  | a :: x, [] => x.length + 1
  | a :: x, b :: y => if a = b then dst x y else 1 + min (dst x (b :: y)) (dst (a :: x) y)
termination_by x y => x.length + y.length
theorem dst_nil (y : List Int) : dst [] y = y.length := by rw [dst]
theorem dst_nil' : ∀ x : List Int, dst x [] = x.length
  | [] => by rw [dst]
  | a :: x => by rw [dst]; rfl
theorem dst_eq (a : Int) (x y : List Int) : dst (a :: x) (a :: y) = dst x y := by rw [dst, if_pos rfl]
theorem dst_ne {a b : Int} (h : a ≠ b) (x y : List Int) : dst (a :: x) (b :: y) = 1 + min (dst x (b :: y)) (dst (a :: x) y) := by rw [dst, if_neg h]
theorem dst_comm : ∀ (n : Nat) (x y : List Int), x.length + y.length ≤ n → dst x y = dst y x
  | _, [], y, _ => by rw [dst_nil, dst_nil']
  | _, a :: x, [], _ => by rw [dst_nil, dst_nil']
  | 0, a :: x, b :: y, h => by simp at h
  | n + 1, a :: x, b :: y, h => by
    simp only [List.length_cons] at h
    by_cases hab : a = b
    · subst hab
      rw [dst_eq, dst_eq, dst_comm n x y (by omega)]
    · rw [dst_ne hab, dst_ne (Ne.symm hab), dst_comm n x (b :: y) (by simp only [List.length_cons]; omega), dst_comm n (a :: x) y (by simp only [List.length_cons]; omega), Nat.min_comm]
theorem dst_symm (x y : List Int) : dst x y = dst y x := dst_comm _ x y (Nat.le_refl _)
/-- One character more or less is one apart. -/
theorem dst_near0 : ∀ (n : Nat) (a : Int) (x y : List Int), x.length + y.length ≤ n → dst (a :: x) y ≤ 1 + dst x y ∧ dst x y ≤ 1 + dst (a :: x) y
  | _, a, x, [], _ => by rw [dst_nil', dst_nil']; simp; omega
  | 0, a, x, b :: y, h => by simp at h
  | n + 1, a, x, b :: y, h => by
    simp only [List.length_cons] at h
    have h1 := dst_near0 n b y x (by omega)
    have h2 := dst_near0 n a x y (by omega)
    rw [dst_symm y x, dst_symm (b :: y) x] at h1
    by_cases hab : a = b
    · subst hab
      rw [dst_eq]
      exact ⟨h1.2, h1.1⟩
    · rw [dst_ne hab]
      omega
theorem dst_near (a : Int) (x y : List Int) : dst (a :: x) y ≤ 1 + dst x y ∧ dst x y ≤ 1 + dst (a :: x) y := dst_near0 _ a x y (Nat.le_refl _)
theorem dst_len : ∀ (x y : List Int), dst x y ≤ x.length + y.length ∧ x.length ≤ dst x y + y.length ∧ y.length ≤ dst x y + x.length
  | [], y => by rw [dst_nil]; simp
  | a :: x, y => by
    have h1 := dst_len x y
    have h2 := dst_near a x y
    simp only [List.length_cons]
    refine ⟨by omega, ?_, by omega⟩
    match y with
    | [] => rw [dst_nil']; simp
    | b :: y =>
      by_cases hab : a = b
      · subst hab
        rw [dst_eq]
        have := (dst_len x y).2.1
        simp only [List.length_cons]
        omega
      · rw [dst_ne hab]
        have h3 := (dst_len x (b :: y)).2.1
        have h4 := dst_near a x y
        have h5 := (dst_len x y).2.1
        simp only [List.length_cons] at *
        have h6 : x.length + 1 ≤ dst (a :: x) y + y.length := dst_len1 a x y
        omega
where dst_len1 (a : Int) (x : List Int) : ∀ y : List Int, x.length + 1 ≤ dst (a :: x) y + y.length
  | [] => by rw [dst_nil']; simp
  | b :: y => by
    by_cases hab : a = b
    · subst hab
      rw [dst_eq]
      have := (dst_len x y).2.1
      simp only [List.length_cons]
      omega
    · rw [dst_ne hab]
      have h3 := (dst_len x (b :: y)).2.1
      have h6 := dst_len1 a x y
      simp only [List.length_cons] at *
      omega
/-- What two texts have in common. -/
def cmn : List Int → List Int → List Int
  | [], _ => []
  | _ :: _, [] => []
  | a :: x, b :: y => if a = b then a :: cmn x y else if dst x (b :: y) ≤ dst (a :: x) y then cmn x (b :: y) else cmn (a :: x) y
termination_by x y => x.length + y.length
theorem cmn_nil (y : List Int) : cmn [] y = [] := by rw [cmn]
theorem cmn_nil' : ∀ x : List Int, cmn x [] = []
  | [] => by rw [cmn]
  | a :: x => by rw [cmn]
theorem cmn_eq (a : Int) (x y : List Int) : cmn (a :: x) (a :: y) = a :: cmn x y := by rw [cmn, if_pos rfl]
theorem cmn_ne {a b : Int} (h : a ≠ b) (x y : List Int) : cmn (a :: x) (b :: y) = if dst x (b :: y) ≤ dst (a :: x) y then cmn x (b :: y) else cmn (a :: x) y := by rw [cmn, if_neg h]
end Go.Proofs.YtgoifgockcpnhaaDoor
