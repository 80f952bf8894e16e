/- Texts with edits as an argument. -/
import Derived.Test.YtgoifgockcpnhaaDoorZDC5BQ
import Derived.Test.YtgoifgockcpnhaaDoorZDC5BS
set_option linter.unusedSimpArgs false
set_option linter.unusedVariables false
namespace Go.Proofs.YtgoifgockcpnhaaDoor
open Go Go.RowKit

theorem opens_strA {P : Program} {t : TypeId} (W : World) (ht : P.underlying t = some .string) (hc : P.cellsOf t = 1) : OpensAt P W t 1 (fun s : ByteArray => #[.string s]) (fun s => s.size ≤ 9223372036854775807) :=
  ⟨hc, fun _ => rfl, fun enc base sp held fuel cs x h => by
    obtain ⟨s, h1, _, h3⟩ := DataW.trod_string ht h
    exact ⟨s, by rw [h1], by unfold maxLen at h3; omega⟩⟩
theorem opens_edt (W : World) : OpensAt Tryd.prog W 44 3 edt (fun a => InI a.at_ ∧ InI a.er ∧ a.ins.size ≤ 9223372036854775807) :=
  ⟨by kernel_rfl, edt_size, fun enc base sp held fuel cs x h => by
    obtain ⟨xs, m, rfl, rfl, hl, hxl, hx⟩ := DataW.trod_struct Tryd.underlying44 h
    rw [show Tryd.prog.cellsOf 44 = 3 by kernel_rfl] at hl
    have h0 := hx 0 _ rfl
    have h1 := hx 1 _ rfl
    have h2 := hx 2 _ rfl
    have hxl : xs.length = 3 := hxl
    rw [List.getElem?_eq_getElem (by omega)] at h0 h1 h2
    obtain ⟨v0, k0, r0⟩ := (opens_int.at W).cut h0
    obtain ⟨v1, k1, r1⟩ := (opens_int.at W).cut h1
    obtain ⟨v2, k2, r2⟩ := (opens_strA W Tryd.underlying9 (by kernel_rfl)).cut h2
    refine ⟨⟨v0, v1, v2⟩, ?_, ⟨r0, r1, r2⟩⟩
    have e := catCut_eq cs [1, 1, 1] 0
    simp only [catCut, List.drop_zero, Nat.zero_add, Nat.reduceAdd] at e
    replace k0 : List.take 1 cs = _ := k0
    replace k1 : List.take 1 (List.drop 1 cs) = _ := k1
    replace k2 : List.take 1 (List.drop 2 cs) = _ := k2
    rw [k0, k1, k2, List.drop_of_length_le (by omega), List.append_nil] at e
    rw [← e]
    simp [edt]⟩
/-- What is handed in. -/
def TxtI (W : World) (a : TxtD) : Prop := a.a.size ≤ 9223372036854775807 ∧ a.b.size ≤ 9223372036854775807 ∧ a.c.size ≤ 9223372036854775807 ∧ ∃ m : List EdtD, SlIs W W.heap.size 3 edt (.slice a.lp a.ln a.lc) m ∧ ∀ d, d ∈ m → InI d.at_ ∧ InI d.er ∧ d.ins.size ≤ 9223372036854775807
theorem opens_txt (W : World) : OpensAt Tryd.prog W 24 4 txt (TxtI W) :=
  ⟨by kernel_rfl, txt_size, fun enc base sp held fuel cs x h => by
    obtain ⟨xs, m, rfl, rfl, hl, hxl, hx⟩ := DataW.trod_struct Tryd.underlying24 h
    rw [show Tryd.prog.cellsOf 24 = 4 by kernel_rfl] at hl
    have h0 := hx 0 _ rfl
    have h1 := hx 1 _ rfl
    have h2 := hx 2 _ rfl
    have h3 := hx 3 _ rfl
    have hxl : xs.length = 4 := hxl
    rw [List.getElem?_eq_getElem (by omega)] at h0 h1 h2 h3
    obtain ⟨v0, k0, r0⟩ := (opens_strA W Tryd.underlying9 (by kernel_rfl)).cut h0
    obtain ⟨v1, k1, r1⟩ := (opens_strA W Tryd.underlying9 (by kernel_rfl)).cut h1
    obtain ⟨v2, k2, r2⟩ := (opens_strA W Tryd.underlying9 (by kernel_rfl)).cut h2
    obtain ⟨v3, k3, r3⟩ := (opens_slA Tryd.underlying22 (by kernel_rfl) (opens_edt W) (by decide)).cut h3
    refine ⟨⟨v0, v1, v2, v3.p, v3.n, v3.c⟩, ?_, ⟨r0, r1, r2, r3⟩⟩
    have e := catCut_eq cs [1, 1, 1, 1] 0
    simp only [catCut, List.drop_zero, Nat.zero_add, Nat.reduceAdd] at e
    replace k0 : List.take 1 cs = _ := k0
    replace k1 : List.take 1 (List.drop 1 cs) = _ := k1
    replace k2 : List.take 1 (List.drop 2 cs) = _ := k2
    replace k3 : List.take 1 (List.drop 3 cs) = _ := k3
    rw [k0, k1, k2, k3, List.drop_of_length_le (by omega), List.append_nil] at e
    rw [← e]
    simp [txt, slv]⟩
end Go.Proofs.YtgoifgockcpnhaaDoor
