/- Rows of rows: a slice of slices of one's own, and one that is only read; an element of a row of one's own. -/
import Derived.Test.YtegebjflhhbmiaaDoorZQC6AG
set_option linter.unusedSimpArgs false
set_option linter.unusedVariables false
namespace Go.Proofs.YtegebjflhhbmiaaDoor
open Go Go.RowKit

theorem sl_inj {A A' : Option Addr} {n n' c c' : Nat} (h : Value.slice A n c = .slice A' n' c') : A = A' ∧ n = n' ∧ c = c' := by injection h with a b c; exact ⟨a, b, c⟩
theorem row_at {α : Type} {E : TypeId} {s n cap i : Nat} {enc : α → Array Value} {A : Option Addr} {l : List α} {R : HP} {w : World} (h : Own (row E s enc (.slice A n cap) l * R) w) (hs : ∀ a, (enc a).size = s) (hi : i < n) :
    ∃ g a, A = some ⟨g, 0, none⟩ ∧ l[i]? = some a ∧ (∀ R, Reads (row E s enc (.slice (some ⟨g, 0, none⟩) n cap) l * R) g (i * s) s (enc a)) := by
  rcases row_form h with ⟨he, _⟩ | ⟨g, cap', he, _, _⟩
  · obtain ⟨_, rfl, _⟩ := sl_inj he
    omega
  · obtain ⟨rfl, rfl, rfl⟩ := sl_inj he
    have hg : l[i]? = some l[i] := List.getElem?_eq_getElem hi
    exact ⟨g, _, rfl, hg, fun R => reads_row hs hg⟩
theorem Reads.part {H : HP} {g o n : Nat} {cs cs' : Array Value} (h : Reads H g o n cs) {i m : Nat} (hi : i + m ≤ n) (he : cs.extract i (i + m) = cs') : Reads H g (o + i) m cs' := fun w hw => by
  have h1 := h w hw
  unfold win at h1 ⊢
  split at h1
  · split at h1
    · rename_i c _ _ _ hle
      injection h1 with h1
      subst h1
      rw [if_pos (by omega), ← he, Array.extract_extract]
      congr 2
      omega
    · cases h1
  · cases h1
theorem ent_bs1_row {α : Type} {E : TypeId} {s g : Nat} {enc : α → Array Value} {a : α} {R : HP} (hs : (enc a).size = s) : Ent (blk g (.cells (enc a) E (0, 0)) * R) (row E s enc (.slice (some ⟨g, 0, none⟩) 1 1) [a] * R) :=
  star_mono (fun h x => ⟨by simp [flatL, hs], .inr ⟨g, 1, enc a, rfl, x, Nat.le_refl _, by decide, by rw [hs, Nat.one_mul], by rw [List.length_singleton, Nat.one_mul, List.take_of_length_le (by rw [Array.length_toList, hs]; exact Nat.le_refl _)]; simp [flatL]⟩⟩) ent_refl
theorem ent_row_of_blk {α : Type} {E : TypeId} {s g : Nat} {enc : α → Array Value} {a : α} {H R : HP} (h : Ent H (blk g (.cells (enc a) E (0, 0)) * R)) (hs : (enc a).size = s) : Ent H (row E s enc (.slice (some ⟨g, 0, none⟩) 1 1) [a] * R) := ent_trans h (ent_bs1_row hs)
theorem slr_one {α : Type} {E : TypeId} {s g : Nat} {enc : α → Array Value} {a : α} {R : HP} (hs : ∀ a, (enc a).size = s) : SlR (blk g (.cells (enc a) E (0, 0)) * R) s enc (.slice (some ⟨g, 0, none⟩) 1 1) [a] :=
  SlR.mono (slr_row hs) (ent_bs1_row (hs a))
/-- A cell that holds a slice. -/
structure SlD where
  p : Option Addr
  n : Nat
  c : Nat
def SlD.v (t : SlD) : Value := .slice t.p t.n t.c
def slv (t : SlD) : Array Value := #[.slice t.p t.n t.c]
def sl0 : SlD := ⟨none, 0, 0⟩
instance : Inhabited SlD := ⟨sl0⟩
@[go_sem] theorem slv_size (t : SlD) : (slv t).size = 1 := rfl
@[go_sem] theorem slv_flat (t : SlD) : flat (slv t) = true := by simp [flat, slv, Value.oneCell']
@[go_sem] theorem slv_0 (t : SlD) : (slv t)[0]? = some (.slice t.p t.n t.c) := rfl
@[go_sem] theorem slv_set (t : SlD) (p : Option Addr) (n c : Nat) : (slv t).setIfInBounds 0 (.slice p n c) = slv ⟨p, n, c⟩ := rfl
@[go_sem] theorem intv_0 (i : Int) : (intv i)[0]? = some (.int .i64 i) := rfl
@[go_sem] theorem intv_set (i j : Int) : (intv i).setIfInBounds 0 (.int .i64 j) = intv j := rfl
theorem cells_intv (i : Int) : (Value.int .i64 i).cells = intv i := rfl
section
variable {α : Type} {E : TypeId} {s : Nat} {enc : α → Array Value}
end
end Go.Proofs.YtegebjflhhbmiaaDoor
