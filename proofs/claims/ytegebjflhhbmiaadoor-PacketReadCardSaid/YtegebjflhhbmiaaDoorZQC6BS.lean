/- An argument as data, of one world: a type whose parts may be slices. -/
import Derived.Test.YtegebjflhhbmiaaDoorZQC6AH
set_option linter.unusedSimpArgs false
set_option linter.unusedVariables false
namespace Go.Proofs.YtegebjflhhbmiaaDoor
open Go Go.RowKit Go.ChangeShapes Go.WideShapes Go.ChangeAt

/-- Of whatever reads as a t in this world the cells are some a's. -/
structure OpensAt (P : Program) (w : World) (t : TypeId) (n : Nat) {α : Type} (e : α → Array Value) (ok : α → Prop) : Prop where
  cells : P.cellsOf t = n
  size : ∀ a, (e a).size = n
  some : ∀ {H : Type} (enc : TypeId × Value → H) (base : Nat) (sp : Nat → Bool) (held : Bool) (fuel : Nat) (cs : List Value) (x : DataW H × List MemPlace), DataW.trod enc P w base sp held fuel t cs = some x → ∃ a, cs = (e a).toList ∧ ok a
theorem Opens.at {P : Program} {t : TypeId} {n : Nat} {α : Type} {e : α → Array Value} {ok : α → Prop} (o : Opens P t n e ok) (w : World) : OpensAt P w t n e ok := ⟨o.cells, o.size, fun enc base sp held fuel cs x h => o.some enc w base sp held fuel cs x h⟩
theorem OpensAt.cut {P : Program} {w : World} {t : TypeId} {n off : Nat} {α : Type} {e : α → Array Value} {ok : α → Prop} (o : OpensAt P w t n e ok) {H : Type} {enc : TypeId × Value → H} {base : Nat} {sp : Nat → Bool} {held : Bool} {fuel : Nat} {cs : List Value} {x : DataW H × List MemPlace} (h : DataW.trod enc P w base sp held fuel t ((cs.drop off).take (P.cellsOf t)) = .some x) : ∃ a, (cs.drop off).take n = (e a).toList ∧ ok a :=
  o.some _ _ _ _ _ _ _ (trod_cut o.cells h)
section
variable {P : Program} {t : TypeId}
/-- A slice: the list that it reads as. -/
theorem open_slA {α : Type} [Inhabited α] {E : TypeId} {s : Nat} {e : α → Array Value} {ok : α → Prop} {w : World} (ht : P.underlying t = some (.slice E)) (o : OpensAt P w E s e ok) (hs : 0 < s) {H : Type} {enc : TypeId × Value → H} {base : Nat} {sp : Nat → Bool} {held : Bool} {fuel : Nat} {cs : List Value} {x : DataW H × List MemPlace} (h : DataW.trod enc P w base sp held fuel t cs = some x) :
    ∃ v l, cs = [v] ∧ SlIs w w.heap.size s e v l ∧ ∀ a, a ∈ l → ok a := by
  rcases Deep.open_slice ht h with ⟨rfl, _⟩ | ⟨a, len, cap, m, n, D, Pl, rfl, hb, hl, hm, hmm, rfl, hx⟩
  · exact ⟨_, [], rfl, SlIs.nil, fun a h => by cases h⟩
  have hle : len ≤ m := by rw [hmm]; split <;> omega
  have hy : ∀ i, i < len → ∃ y : α, w.cells? base (a.add (i * s)) s = some (e y).toList ∧ ok y := fun i hi => by
    obtain ⟨cs', h1, h2⟩ := hx i (by omega)
    obtain ⟨y, rfl, hy⟩ := o.some _ _ _ _ _ _ _ h2
    rw [o.cells] at h1
    exact ⟨y, h1, hy⟩
  obtain ⟨f, hf⟩ := Deep.choose_lt hy
  have hlen : ((List.range len).map f).length = len := by simp
  refine ⟨_, (List.range len).map f, rfl, ⟨some a, cap, by rw [hlen], by omega, hm, (fun h => nomatch h), fun hn => ?_⟩, fun y hy => ?_⟩
  · rw [hlen] at hn
    obtain ⟨b, off, spot⟩ := a
    have hc0 := World.cells?_some (hf 0 hn).1
    have hspot : spot = none := by
      have h3 := hc0.2.2 0 hs
      rw [List.getElem?_eq_getElem (by rw [hc0.2.1]; exact hs)] at h3
      have := World.cell?_spot h3
      simpa [Addr.add] using this
    subst hspot
    refine ⟨b, off, rfl, ?_, fun i y hy => ?_⟩
    · have := win_of_cells (o := off + 0) (b := b) (w := w) (base := base) (n := s) (cs := (e (f 0)).toList) (by have := (hf 0 hn).1; rw [add_plain] at this; simpa using this) hs
      exact win_lt this
    · have hi : i < len := by
        have := (List.getElem?_eq_some_iff.1 hy).1
        simpa using this
      have : y = f i := by simp [hi] at hy; exact hy.symm
      subst this
      have h4 := (hf i hi).1
      rw [add_plain] at h4
      have := win_of_cells h4 hs
      simpa using this
  · obtain ⟨i, hi, rfl⟩ := List.mem_map.1 hy
    exact (hf i (List.mem_range.1 hi)).2
/-- A slice as a part of something. -/
theorem opens_slA {α : Type} [Inhabited α] {E : TypeId} {s : Nat} {e : α → Array Value} {ok : α → Prop} {w : World} (ht : P.underlying t = some (.slice E)) (hc : P.cellsOf t = 1) (o : OpensAt P w E s e ok) (hs : 0 < s) :
    OpensAt P w t 1 slv (fun d => ∃ l, SlIs w w.heap.size s e (.slice d.p d.n d.c) l ∧ ∀ a, a ∈ l → ok a) :=
  ⟨hc, fun _ => rfl, fun enc base sp held fuel cs x h => by
    obtain ⟨v, l, rfl, h1, h2⟩ := open_slA ht o hs h
    obtain ⟨A, c, rfl, _⟩ := id h1
    exact ⟨⟨A, l.length, c⟩, rfl, l, h1, h2⟩⟩
theorem arg_slA {α : Type} [Inhabited α] {E : TypeId} {s : Nat} {e : α → Array Value} {W : World} {ok : α → Prop} (ht : P.underlying t = some (.slice E)) (o : OpensAt P W E s e ok) (hs : 0 < s) {r : Reach} {b0 : Nat} {H : Type} {enc : TypeId × Value → H} {base : Nat} {sp : Nat → Bool} {held : Bool} {v : Value} {y : DataW H} {p : List MemPlace}
    (hval : Value.okWide P W r b0 t v) (h : DataW.Trod enc P W base sp held t v y p) : ∃ l, SlR (Exh (fun b => W.heap[b]?)) s e v l ∧ ∀ a, a ∈ l → ok a := by
  obtain ⟨a, n, c, rfl⟩ := okWide_slice ht hval
  obtain ⟨fuel, h⟩ := h
  obtain ⟨v', l, h1, h2, h3⟩ := open_slA ht o hs h
  have h1 : [Value.slice a n c] = [v'] := h1
  injection h1 with h1 _
  subst h1
  exact ⟨l, slr_start h2, h3⟩
end
end Go.Proofs.YtegebjflhhbmiaaDoor
