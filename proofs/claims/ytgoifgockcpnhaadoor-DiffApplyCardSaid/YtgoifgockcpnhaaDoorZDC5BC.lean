/- The document's walk: the edits, and what is common. -/
import Derived.Test.YtgoifgockcpnhaaDoorZDC5BB
import Derived.WalkMore
set_option linter.unusedSimpArgs false
set_option linter.unusedVariables false
namespace Go.Proofs.YtgoifgockcpnhaaDoor
open Go Go.RowKit

@[go_sem] theorem enter_c1 : entB Tryd.prog 34 = true := by kernel_rfl
/-! ### the walk -/
end Go.Proofs.YtgoifgockcpnhaaDoor

set_option linter.unusedSimpArgs false
set_option linter.unusedVariables false
namespace Go.Proofs.YtgoifgockcpnhaaDoor
open Go Go.RowKit

def encE (d : Ed) : EdtD := ⟨d.at_, d.er, rts d.ins⟩
theorem fl_no (a : Nat) : fl a 0 [] = [] := by unfold fl; rw [if_pos ⟨rfl, rfl⟩]
theorem fl_yes {a e : Nat} {m : List Int} (h : 0 < e ∨ 0 < m.length) : fl a e m = [⟨a, e, m⟩] := by
  unfold fl
  rw [if_neg]
  rintro ⟨rfl, rfl⟩
  simp at h
/-! steps of the edits to come -/
section
variable {x y m : List Int} {i j a e : Nat} {p q : Int}
theorem wk_step_eq (hx : x[i]? = some p) (hy : y[j]? = some p) : wk a e m (x.drop i) (y.drop j) = fl a e m ++ wk (a + m.length + 1) 0 [] (x.drop (i + 1)) (y.drop (j + 1)) := by rw [drop_get hx, drop_get hy, wk_eq]
theorem wk_step_end (hx : x.length = i) (hy : y.length = j) : wk a e m (x.drop i) (y.drop j) = fl a e m := by
  rw [List.drop_of_length_le (l := x) (by omega), List.drop_of_length_le (l := y) (by omega), wk_nil]
theorem wk_step_x (hx : x[i]? = some p) (hy : y.length = j) : wk a e m (x.drop i) (y.drop j) = wk a (e + 1) m (x.drop (i + 1)) (y.drop j) := by
  rw [drop_get hx, List.drop_of_length_le (l := y) (by omega), wk_er]
theorem wk_step_y (hx : x.length = i) (hy : y[j]? = some q) : wk a e m (x.drop i) (y.drop j) = wk a e (m ++ [q]) (x.drop i) (y.drop (j + 1)) := by
  rw [drop_get hy, List.drop_of_length_le (l := x) (by omega), wk_ins]
theorem wk_step_le (hx : x[i]? = some p) (hy : y[j]? = some q) (h : p ≠ q) (hd : dA x y (i + 1) j ≤ dA x y i (j + 1)) : wk a e m (x.drop i) (y.drop j) = wk a (e + 1) m (x.drop (i + 1)) (y.drop j) := by
  unfold dA at hd
  rw [drop_get hx, drop_get hy] at *
  rw [wk_ne h, if_pos hd]
theorem wk_step_gt (hx : x[i]? = some p) (hy : y[j]? = some q) (h : p ≠ q) (hd : ¬ dA x y (i + 1) j ≤ dA x y i (j + 1)) : wk a e m (x.drop i) (y.drop j) = wk a e (m ++ [q]) (x.drop i) (y.drop (j + 1)) := by
  unfold dA at hd
  rw [drop_get hx, drop_get hy] at *
  rw [wk_ne h, if_neg hd]
end
end Go.Proofs.YtgoifgockcpnhaaDoor
