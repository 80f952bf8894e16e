/- Calls of an inbox as an argument. -/
import Derived.Test.YtnbbgcdemafcoaaDoorFT
set_option linter.unusedSimpArgs false
set_option linter.unusedVariables false
namespace Go.Proofs.YtnbbgcdemafcoaaDoor
open Go Go.RowKit

theorem actI_W {a : ActD} (h : ActI a) : ActW a := ⟨WalkArith.wf_i64 ⟨by have := h.rep.1; omega, by have := h.rep.2; omega⟩, WalkArith.wf_i64 ⟨by have := h.num.1; omega, by have := h.num.2; omega⟩⟩
set_option maxRecDepth 20000 in
theorem opens_opx : Opens Tryd.prog 64 22 opx (fun o => InI o.d ∧ ClkI o.c ∧ ActI o.a) :=
  ⟨by kernel_rfl, opx_size, fun enc w base sp held fuel cs x h => by
    obtain ⟨xs, m, rfl, rfl, hl, hxl, hx⟩ := DataW.trod_struct Tryd.underlying64 h
    rw [show Tryd.prog.cellsOf 64 = 22 by kernel_rfl] at hl
    have h0 := hx 0 _ rfl
    have h1 := hx 1 _ rfl
    have h2 := hx 2 _ rfl
    have hxl : xs.length = 3 := hxl
    rw [List.getElem?_eq_getElem (by omega)] at h0 h1 h2
    obtain ⟨v0, k0, r0⟩ := opens_int.cut h0
    obtain ⟨v1, k1, r1⟩ := opens_clk.cut h1
    obtain ⟨v2, k2, r2⟩ := opens_act.cut h2
    refine ⟨⟨v0, v1, v2⟩, ?_, ⟨r0, r1, r2⟩⟩
    have e := catCut_eq cs [1, 8, 13] 0
    simp only [catCut, List.drop_zero, Nat.zero_add, Nat.reduceAdd] at e
    replace k0 : List.take 1 cs = _ := k0
    replace k1 : List.take 8 (List.drop 1 cs) = _ := k1
    replace k2 : List.take 13 (List.drop 9 cs) = _ := k2
    rw [k0, k1, k2, List.drop_of_length_le (by omega), List.append_nil] at e
    rw [← e]
    simp [opx, opv]⟩
theorem opx_of {l : List IopD} (h : ∀ o, o ∈ l → InI o.d ∧ ClkI o.c ∧ ActI o.a) : ∀ o, o ∈ l → InI o.d ∧ ClkI o.c ∧ ActW o.a := fun o ho => by
  obtain ⟨h1, h2, h3⟩ := h o ho
  exact ⟨h1, h2, actI_W h3⟩
end Go.Proofs.YtnbbgcdemafcoaaDoor
