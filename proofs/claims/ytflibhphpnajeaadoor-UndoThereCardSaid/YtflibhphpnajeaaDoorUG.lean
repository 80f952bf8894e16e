/- Calls as an argument. -/
import Derived.Test.YtflibhphpnajeaaDoorUF
set_option linter.unusedSimpArgs false
set_option linter.unusedVariables false
namespace Go.Proofs.YtflibhphpnajeaaDoor
open Go Go.RowKit

theorem opens_uop (W : World) : OpensAt Tryd.prog W 57 3 uop (fun a => InI a.what ∧ ∃ m, SlIs W W.heap.size 4 chg (.slice a.lp a.ln a.lc) m ∧ ∀ c, c ∈ m → ChgDI c) :=
  ⟨by kernel_rfl, uop_size, fun enc base sp held fuel cs x h => by
    obtain ⟨xs, m, rfl, rfl, hl, hxl, hx⟩ := DataW.trod_struct Tryd.underlying57 h
    rw [show Tryd.prog.cellsOf 57 = 3 by kernel_rfl] at hl
    have h0 := hx 0 _ rfl
    have h1 := hx 1 _ rfl
    have h2 := hx 2 _ rfl
    have hxl : xs.length = 3 := hxl
    rw [List.getElem?_eq_getElem (by omega)] at h0 h1 h2
    obtain ⟨v0, k0, r0⟩ := (opens_int.at W).cut h0
    obtain ⟨v1, k1, r1⟩ := (opens_boolv.at W).cut h1
    obtain ⟨v2, k2, r2⟩ := (opens_slA Tryd.underlying22 (by kernel_rfl) (opens_chg.at W) (by decide)).cut h2
    refine ⟨⟨v0, v1, v2.p, v2.n, v2.c⟩, ?_, ⟨r0, r2⟩⟩
    have e := catCut_eq cs [1, 1, 1] 0
    simp only [catCut, List.drop_zero, Nat.zero_add, Nat.reduceAdd] at e
    replace k0 : List.take 1 cs = _ := k0
    replace k1 : List.take 1 (List.drop 1 cs) = _ := k1
    replace k2 : List.take 1 (List.drop 2 cs) = _ := k2
    rw [k0, k1, k2, List.drop_of_length_le (by omega), List.append_nil] at e
    rw [← e]
    simp [uop, slv]⟩
theorem opsI_of {W : World} {l : List UopD} (h : ∀ a, a ∈ l → InI a.what ∧ ∃ m, SlIs W W.heap.size 4 chg (.slice a.lp a.ln a.lc) m ∧ ∀ c, c ∈ m → ChgDI c) : OpsI (Exh (fun b => W.heap[b]?)) l := fun o ho => by
  obtain ⟨h1, m, h2, _⟩ := h o ho
  exact ⟨h1, m, slr_start h2⟩
end Go.Proofs.YtflibhphpnajeaaDoor
