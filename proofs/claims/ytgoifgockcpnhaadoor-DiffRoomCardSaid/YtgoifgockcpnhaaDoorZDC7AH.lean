/- Rows of rows: a slice of slices of one's own, and one that is only read; an element of a row of one's own. -/
import Derived.Test.YtgoifgockcpnhaaDoorZDC7AG
set_option linter.unusedSimpArgs false
set_option linter.unusedVariables false
namespace Go.Proofs.YtgoifgockcpnhaaDoor
open Go Go.RowKit

theorem sl_inj {A A' : Option Addr} {n n' c c' : Nat} (h : Value.slice A n c = .slice A' n' c') : A = A' ∧ n = n' ∧ c = c' := by injection h with a b c; exact ⟨a, b, c⟩
theorem Reads.part {H : HP} {g o n : Nat} {cs cs' : Array Value} (h : Reads H g o n cs) {i m : Nat} (hi : i + m ≤ n) (he : cs.extract i (i + m) = cs') : Reads H g (o + i) m cs' := fun w hw => by
  have h1 := h w hw
  unfold win at h1 ⊢
  split at h1
  · split at h1
    · rename_i c _ _ _ hle
      injection h1 with h1
      subst h1
      rw [if_pos (by omega), ← he, Array.extract_extract]
      congr 2
      omega
    · cases h1
  · cases h1
theorem ent_bs1_row {α : Type} {E : TypeId} {s g : Nat} {enc : α → Array Value} {a : α} {R : HP} (hs : (enc a).size = s) : Ent (blk g (.cells (enc a) E (0, 0)) * R) (row E s enc (.slice (some ⟨g, 0, none⟩) 1 1) [a] * R) :=
  star_mono (fun h x => ⟨by simp [flatL, hs], .inr ⟨g, 1, enc a, rfl, x, Nat.le_refl _, by decide, by rw [hs, Nat.one_mul], by rw [List.length_singleton, Nat.one_mul, List.take_of_length_le (by rw [Array.length_toList, hs]; exact Nat.le_refl _)]; simp [flatL]⟩⟩) ent_refl
theorem ent_row_of_blk {α : Type} {E : TypeId} {s g : Nat} {enc : α → Array Value} {a : α} {H R : HP} (h : Ent H (blk g (.cells (enc a) E (0, 0)) * R)) (hs : (enc a).size = s) : Ent H (row E s enc (.slice (some ⟨g, 0, none⟩) 1 1) [a] * R) := ent_trans h (ent_bs1_row hs)
theorem slr_one {α : Type} {E : TypeId} {s g : Nat} {enc : α → Array Value} {a : α} {R : HP} (hs : ∀ a, (enc a).size = s) : SlR (blk g (.cells (enc a) E (0, 0)) * R) s enc (.slice (some ⟨g, 0, none⟩) 1 1) [a] :=
  SlR.mono (slr_row hs) (ent_bs1_row (hs a))
/-- A cell that holds a slice. -/
structure SlD where
  p : Option Addr
  n : Nat
  c : Nat
def SlD.v (t : SlD) : Value := .slice t.p t.n t.c
def slv (t : SlD) : Array Value := #[.slice t.p t.n t.c]
def sl0 : SlD := ⟨none, 0, 0⟩
instance : Inhabited SlD := ⟨sl0⟩
@[go_sem] theorem slv_size (t : SlD) : (slv t).size = 1 := rfl
@[go_sem] theorem slv_flat (t : SlD) : flat (slv t) = true := by simp [flat, slv, Value.oneCell']
@[go_sem] theorem slv_0 (t : SlD) : (slv t)[0]? = some (.slice t.p t.n t.c) := rfl
@[go_sem] theorem slv_set (t : SlD) (p : Option Addr) (n c : Nat) : (slv t).setIfInBounds 0 (.slice p n c) = slv ⟨p, n, c⟩ := rfl
theorem cells_slv (a : Option Addr) (n c : Nat) : (Value.slice a n c).cells = slv ⟨a, n, c⟩ := rfl
@[go_sem] theorem intv_0 (i : Int) : (intv i)[0]? = some (.int .i64 i) := rfl
@[go_sem] theorem intv_set (i j : Int) : (intv i).setIfInBounds 0 (.int .i64 j) = intv j := rfl
theorem cells_intv (i : Int) : (Value.int .i64 i).cells = intv i := rfl
section
variable {α : Type} {E : TypeId} {s : Nat} {enc : α → Array Value}
def rowsOf (E : TypeId) (s : Nat) (enc : α → Array Value) : List SlD → List (List α) → HP
  | [], [] => emp
  | t :: ts, l :: ls => row E s enc (.slice t.p t.n t.c) l * rowsOf E s enc ts ls
  | [], _ :: _ => pu False emp
  | _ :: _, [] => pu False emp
theorem rowsOf_pick {R : HP} {t : SlD} {l : List α} : ∀ {ts : List SlD} {ls : List (List α)} {i : Nat}, ts[i]? = some t → ls[i]? = some l → rowsOf E s enc ts ls * R = row E s enc (.slice t.p t.n t.c) l * (rowsOf E s enc (ts.eraseIdx i) (ls.eraseIdx i) * R)
  | t' :: ts, l' :: ls, 0, h1, h2 => by
    obtain rfl : t' = t := by simpa using h1
    obtain rfl : l' = l := by simpa using h2
    simp only [List.eraseIdx_zero, List.tail_cons]
    rw [rowsOf, star_assoc]
  | t' :: ts, l' :: ls, i + 1, h1, h2 => by
    have := rowsOf_pick (R := R) (ts := ts) (ls := ls) (i := i) (by simpa using h1) (by simpa using h2)
    simp only [List.eraseIdx_cons_succ]
    rw [rowsOf, rowsOf, star_assoc, this, ← star_assoc, star_comm (A := row E s enc (.slice t'.p t'.n t'.c) l'), star_assoc, star_assoc]
  | [], _, _, h1, _ => by simp at h1
  | _ :: _, [], _, _, h2 => by simp at h2
theorem slr_rowsOf (hs : ∀ a, (enc a).size = s) {R : HP} {t : SlD} {l : List α} {ts : List SlD} {ls : List (List α)} {i : Nat} (h1 : ts[i]? = some t) (h2 : ls[i]? = some l) : SlR (rowsOf E s enc ts ls * R) s enc (.slice t.p t.n t.c) l := by
  rw [rowsOf_pick h1 h2]
  exact slr_row hs
/-- A slice of slices that reads as a list of lists. -/
def Sl2 (H : HP) (s : Nat) (enc : α → Array Value) (v : Value) (ls : List (List α)) : Prop :=
  ∃ ts : List SlD, SlR H 1 slv v ts ∧ ts.length = ls.length ∧ ∀ (i : Nat) (t : SlD) (l : List α), ts[i]? = some t → ls[i]? = some l → SlR H s enc (.slice t.p t.n t.c) l
end
end Go.Proofs.YtgoifgockcpnhaaDoor
