/- Calls of a bag as an argument; the three reasons as they are laid. -/
import Derived.Test.YtlgjippijbepkaaDoorGH
import Derived.Test.YtlgjippijbepkaaDoorE7
set_option linter.unusedSimpArgs false
set_option linter.unusedVariables false
namespace Go.Proofs.YtlgjippijbepkaaDoor
open Go Go.RowKit

def OpgI (F : HP) (l : List OpgD) : Prop := ∀ o, o ∈ l → InI o.what ∧ InI o.i ∧ InI o.j ∧ ∃ r, SlR F 1 bytv (.slice o.rawp o.rawn o.rawc) r
theorem opens_bytv : Opens Tryd.prog 5 1 bytv InB := opens_u8 Tryd.underlying5 (by kernel_rfl)
theorem opens_opg (W : World) : OpensAt Tryd.prog W 33 4 opg (fun a => InI a.what ∧ InI a.i ∧ InI a.j ∧ ∃ m, SlIs W W.heap.size 1 bytv (.slice a.rawp a.rawn a.rawc) m ∧ ∀ c, c ∈ m → InB c) :=
  ⟨by kernel_rfl, opg_size, fun enc base sp held fuel cs x h => by
    obtain ⟨xs, m, rfl, rfl, hl, hxl, hx⟩ := DataW.trod_struct Tryd.underlying33 h
    rw [show Tryd.prog.cellsOf 33 = 4 by kernel_rfl] at hl
    have h0 := hx 0 _ rfl
    have h1 := hx 1 _ rfl
    have h2 := hx 2 _ rfl
    have h3 := hx 3 _ rfl
    have hxl : xs.length = 4 := hxl
    rw [List.getElem?_eq_getElem (by omega)] at h0 h1 h2 h3
    obtain ⟨v0, k0, r0⟩ := (opens_int.at W).cut h0
    obtain ⟨v1, k1, r1⟩ := (opens_int.at W).cut h1
    obtain ⟨v2, k2, r2⟩ := (opens_int.at W).cut h2
    obtain ⟨v3, k3, r3⟩ := (opens_slA Tryd.underlying31 (by kernel_rfl) (opens_bytv.at W) (by decide)).cut h3
    refine ⟨⟨v0, v1, v2, v3.p, v3.n, v3.c⟩, ?_, ⟨r0, r1, r2, r3⟩⟩
    have e := catCut_eq cs [1, 1, 1, 1] 0
    simp only [catCut, List.drop_zero, Nat.zero_add, Nat.reduceAdd] at e
    replace k0 : List.take 1 cs = _ := k0
    replace k1 : List.take 1 (List.drop 1 cs) = _ := k1
    replace k2 : List.take 1 (List.drop 2 cs) = _ := k2
    replace k3 : List.take 1 (List.drop 3 cs) = _ := k3
    rw [k0, k1, k2, k3, List.drop_of_length_le (by omega), List.append_nil] at e
    rw [← e]
    simp [opg, slv]⟩
theorem opgI_of {W : World} {l : List OpgD} (h : ∀ a, a ∈ l → InI a.what ∧ InI a.i ∧ InI a.j ∧ ∃ m, SlIs W W.heap.size 1 bytv (.slice a.rawp a.rawn a.rawc) m ∧ ∀ c, c ∈ m → InB c) : OpgI (Exh (fun b => W.heap[b]?)) l := fun o ho => by
  obtain ⟨h1, h2, h3, m, h4, _⟩ := h o ho
  exact ⟨h1, h2, h3, m, slr_start h4⟩
end Go.Proofs.YtlgjippijbepkaaDoor
