/- Messages as an argument; the four reasons as they are laid. -/
import Derived.Test.YtegebjflhhbmiaaDoorZQC5BI
import Derived.Test.YtegebjflhhbmiaaDoorZQC5BG
import Derived.Test.YtegebjflhhbmiaaDoorZQC5BE
set_option linter.unusedSimpArgs false
set_option linter.unusedVariables false
namespace Go.Proofs.YtegebjflhhbmiaaDoor
open Go Go.RowKit

theorem opens_rnds : Opens Tryd.prog 28 144 rnds (fun f => ∀ i, i < 8 → RoundDI (f i)) :=
  ⟨by kernel_rfl, rnds_size, fun enc w base sp held fuel cs x h => by
    obtain ⟨xs, m, rfl, rfl, hl, hxl, hx⟩ := DataW.trod_array Tryd.underlying28 h
    rw [show Tryd.prog.cellsOf 28 = 144 by kernel_rfl] at hl
    have hx' : ∀ i, i < 8 → ∃ r : RoundD, (cs.drop (i * 18)).take 18 = (rnd r).toList ∧ RoundDI r := fun i hi => by
      have h1 := hx i hi
      rw [cellsOf_rnd, List.getElem?_eq_getElem (by omega)] at h1
      obtain ⟨r, h2, h3⟩ := opens_rnd.some _ _ _ _ _ _ _ _ h1
      exact ⟨r, h2, h3⟩
    obtain ⟨f, hf⟩ := Deep.choose_lt hx'
    refine ⟨f, ?_, fun i hi => (hf i hi).2⟩
    have : cs.toArray = rnds f := rnds_ext (by simp [hl]) fun i j hi hj => by
      have h1 := congrArg (fun l => l[j]?) (hf i hi).1
      simp only [List.getElem?_take, List.getElem?_drop, if_pos hj, Array.getElem?_toList] at h1
      rw [zc, h1]
    rw [← this]⟩
theorem opens_msg (W : World) : OpensAt Tryd.prog W 30 156 msg (fun d => InI d.kind ∧ InI d.frm ∧ InI d.ep ∧ ClkI d.c ∧ (∃ l, SlIs W W.heap.size 13 actv d.s l ∧ ∀ a, a ∈ l → ActDI a) ∧ ∀ i, i < 8 → RoundDI (d.r i)) :=
  ⟨by kernel_rfl, msg_size, fun enc base sp held fuel cs x h => by
    obtain ⟨xs, m, rfl, rfl, hl, hxl, hx⟩ := DataW.trod_struct Tryd.underlying30 h
    rw [show Tryd.prog.cellsOf 30 = 156 by kernel_rfl] at hl
    have h0 := hx 0 _ rfl
    have h1 := hx 1 _ rfl
    have h2 := hx 2 _ rfl
    have h3 := hx 3 _ rfl
    have h4 := hx 4 _ rfl
    have h5 := hx 5 _ rfl
    have hxl : xs.length = 6 := hxl
    rw [List.getElem?_eq_getElem (by omega)] at h0 h1 h2 h3 h4 h5
    obtain ⟨v0, k0, r0⟩ := (opens_int.at W).cut h0
    obtain ⟨v1, k1, r1⟩ := (opens_int.at W).cut h1
    obtain ⟨v2, k2, r2⟩ := (opens_int.at W).cut h2
    obtain ⟨v3, k3, r3⟩ := (opens_clk.at W).cut h3
    obtain ⟨v4, k4, r4⟩ := (opens_slA Tryd.underlying24 (by kernel_rfl) (opens_actv.at W) (by decide)).cut h4
    obtain ⟨v5, k5, r5⟩ := (opens_rnds.at W).cut h5
    refine ⟨⟨v0, v1, v2, v3, v4.p, v4.n, v4.c, v5⟩, ?_, ⟨r0, r1, r2, r3, r4, r5⟩⟩
    have e := catCut_eq cs [1, 1, 1, 8, 1, 144] 0
    simp only [catCut, List.drop_zero, Nat.zero_add, Nat.reduceAdd] at e
    replace k0 : List.take 1 cs = _ := k0
    replace k1 : List.take 1 (List.drop 1 cs) = _ := k1
    replace k2 : List.take 1 (List.drop 2 cs) = _ := k2
    replace k3 : List.take 8 (List.drop 3 cs) = _ := k3
    replace k4 : List.take 1 (List.drop 11 cs) = _ := k4
    replace k5 : List.take 144 (List.drop 12 cs) = _ := k5
    rw [k0, k1, k2, k3, k4, k5, List.drop_of_length_le (by omega), List.append_nil] at e
    rw [← e]
    simp only [msg, slv, Array.toList_append, List.append_assoc]
    rfl⟩
/-- A message as it is handed in. -/
def MsgA (F : HP) (d : MsgD) : Prop := ∃ l, SlR F 13 actv d.s l ∧ MsgI d l
theorem msgA_of {W : World} {d : MsgD} (h : InI d.kind ∧ InI d.frm ∧ InI d.ep ∧ ClkI d.c ∧ (∃ l, SlIs W W.heap.size 13 actv d.s l ∧ ∀ a, a ∈ l → ActDI a) ∧ ∀ i, i < 8 → RoundDI (d.r i)) : MsgA (Exh (fun b => W.heap[b]?)) d := by
  obtain ⟨h1, h2, h3, h4, ⟨l, h5, h6⟩, h7⟩ := h
  exact ⟨l, slr_start h5, ⟨h1, h2, h3, h4, h7, h6⟩⟩
end Go.Proofs.YtegebjflhhbmiaaDoor
