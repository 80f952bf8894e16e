/- Items, calls and bytes as arguments; the four reasons as they are laid. -/
import Derived.Test.YtdniiegnaabagaaDoorV8
import Derived.Test.YtdniiegnaabagaaDoorOZ
set_option linter.unusedSimpArgs false
set_option linter.unusedVariables false
namespace Go.Proofs.YtdniiegnaabagaaDoor
open Go Go.RowKit

theorem opens_bytv : Opens Tryd.prog 5 1 bytv InB := opens_u8 Tryd.underlying5 (by kernel_rfl)
theorem opens_strZ (W : World) : OpensZ Tryd.prog W 9 1 (fun b : ByteArray => #[.string b]) (fun b => b.size ≤ 140737488351232) :=
  ⟨by kernel_rfl, fun _ => rfl, fun enc base sp held fuel cs x h hf => by
    obtain ⟨s, rfl, rfl, _⟩ := DataW.trod_string Tryd.underlying9 h
    refine ⟨s, rfl, ?_⟩
    have := hf s.data.toList.length (by simp [DataW.weights])
    rw [Array.length_toList] at this
    exact this⟩
theorem opens_itm (W : World) : OpensZ Tryd.prog W 24 4 itm ItmI :=
  ⟨by kernel_rfl, itm_size, fun enc base sp held fuel cs x h hf => by
    obtain ⟨xs, m, rfl, rfl, hl, hxl, hx⟩ := DataW.trod_struct Tryd.underlying24 h
    rw [show Tryd.prog.cellsOf 24 = 4 by kernel_rfl] at hl
    have h0 := hx 0 _ rfl
    have h1 := hx 1 _ rfl
    have h2 := hx 2 _ rfl
    have h3 := hx 3 _ rfl
    have hxl : xs.length = 4 := hxl
    have f2 := fits_part Tryd.underlying24 (ps := []) hf (i := 2) (x := xs[2]'(by omega)) rfl (List.getElem?_eq_getElem (by omega))
    rw [List.getElem?_eq_getElem (by omega)] at h0 h1 h2 h3
    obtain ⟨v0, k0, r0⟩ := (opens_int.at W).cut h0
    obtain ⟨v1, k1, r1⟩ := (opens_int.at W).cut h1
    obtain ⟨v2, k2, r2⟩ := (opens_strZ W).cut h2 f2
    obtain ⟨v3, k3, r3⟩ := (opens_byte.at W).cut h3
    refine ⟨⟨v0, v1, v2, v3⟩, ?_, ⟨r0, r1, r2, r3⟩⟩
    have e := catCut_eq cs [1, 1, 1, 1] 0
    simp only [catCut, List.drop_zero, Nat.zero_add, Nat.reduceAdd] at e
    replace k0 : List.take 1 cs = _ := k0
    replace k1 : List.take 1 (List.drop 1 cs) = _ := k1
    replace k2 : List.take 1 (List.drop 2 cs) = _ := k2
    replace k3 : List.take 1 (List.drop 3 cs) = _ := k3
    rw [k0, k1, k2, k3, List.drop_of_length_le (by omega), List.append_nil] at e
    rw [← e]
    simp [itm]⟩
theorem bytes_len {n : Nat} (h : n * Tryd.prog.bytesOf 5 ≤ reachBytes) : n ≤ 140737488351232 := by
  rw [show Tryd.prog.bytesOf 5 = 1 by kernel_rfl] at h
  exact Nat.le_trans (by omega) h
theorem errB_laid {W : World} {l : List (String × DataW Unit)} (h : laidMetH Tryd.prog l W) (hh : (l.all fun x => x.2.handleName?.isNone) = true)
    (hm : ∀ k, 1 ≤ k → (k = 1 ∨ k = 2 ∨ k = 6 ∨ k = 7) → (nmE k, DataW.iface "*errors.errorString" (.ptr (.agg [.lit (.string (txE k))]))) ∈ l) : ∃ a, ErrB (Exh (fun b => W.heap[b]?)) a := by
  have hk : ∀ k, 1 ≤ k → (k = 1 ∨ k = 2 ∨ k = 6 ∨ k = 7) → ∃ x : Addr, ReadC (Exh (fun b => W.heap[b]?)) (gl k) 0 (.iface 115 (.pointer (some x))) := fun k h1 h2 => by
    obtain ⟨x, hx, _⟩ := errAt_of_laid h hh (hm k h1 h2) (nmE_at k h1 (by omega)).1 (nmE_at k h1 (by omega)).2
    exact ⟨x, hx⟩
  obtain ⟨x1, e1⟩ := hk 1 (by decide) (by decide)
  obtain ⟨x2, e2⟩ := hk 2 (by decide) (by decide)
  obtain ⟨x3, e3⟩ := hk 6 (by decide) (by decide)
  obtain ⟨x4, e4⟩ := hk 7 (by decide) (by decide)
  refine ⟨fun k => if k = 1 then x1 else if k = 2 then x2 else if k = 6 then x3 else x4, ⟨fun k h1 h2 => ?_⟩⟩
  rcases h2 with rfl | rfl | rfl | rfl
  · exact e1
  · exact e2
  · exact e3
  · exact e4
end Go.Proofs.YtdniiegnaabagaaDoor
