/- Parcels as an argument. -/
import Derived.Test.YtlgjippijbepkaaDoorGV
import Derived.Test.YtlgjippijbepkaaDoorGM
import Derived.Test.YtlgjippijbepkaaDoorOZ
set_option linter.unusedSimpArgs false
set_option linter.unusedVariables false
namespace Go.Proofs.YtlgjippijbepkaaDoor
open Go Go.RowKit

def PclI (F : HP) (l : List PclD) : Prop := ∀ p, p ∈ l → ∃ r, SlR F 1 bytv (.slice p.rawp p.rawn p.rawc) r ∧ r.length ≤ 140737488351232
theorem opens_pcl (W : World) : OpensZ Tryd.prog W 37 4 pcl (fun a => InI a.serial ∧ InI a.src ∧ InI a.dst ∧ ∃ m, SlIs W W.heap.size 1 bytv (.slice a.rawp a.rawn a.rawc) m ∧ (∀ c, c ∈ m → InB c) ∧ m.length * Tryd.prog.bytesOf 5 ≤ reachBytes) :=
  ⟨by kernel_rfl, pcl_size, fun enc base sp held fuel cs x h hf => by
    obtain ⟨xs, m, rfl, rfl, hl, hxl, hx⟩ := DataW.trod_struct Tryd.underlying37 h
    rw [show Tryd.prog.cellsOf 37 = 4 by kernel_rfl] at hl
    have h0 := hx 0 _ rfl
    have h1 := hx 1 _ rfl
    have h2 := hx 2 _ rfl
    have h3 := hx 3 _ rfl
    have hxl : xs.length = 4 := hxl
    have f3 := fits_part Tryd.underlying37 (ps := []) hf (i := 3) (x := xs[3]'(by omega)) rfl (List.getElem?_eq_getElem (by omega))
    rw [List.getElem?_eq_getElem (by omega)] at h0 h1 h2 h3
    obtain ⟨v0, k0, r0⟩ := (opens_int.at W).cut h0
    obtain ⟨v1, k1, r1⟩ := (opens_int.at W).cut h1
    obtain ⟨v2, k2, r2⟩ := (opens_int.at W).cut h2
    obtain ⟨v3, k3, r3⟩ := (opens_slZ Tryd.underlying31 (by kernel_rfl) (opens_bytv.at W).z (by decide)).cut h3 f3
    refine ⟨⟨v0, v1, v2, v3.p, v3.n, v3.c⟩, ?_, ⟨r0, r1, r2, r3⟩⟩
    have e := catCut_eq cs [1, 1, 1, 1] 0
    simp only [catCut, List.drop_zero, Nat.zero_add, Nat.reduceAdd] at e
    replace k0 : List.take 1 cs = _ := k0
    replace k1 : List.take 1 (List.drop 1 cs) = _ := k1
    replace k2 : List.take 1 (List.drop 2 cs) = _ := k2
    replace k3 : List.take 1 (List.drop 3 cs) = _ := k3
    rw [k0, k1, k2, k3, List.drop_of_length_le (by omega), List.append_nil] at e
    rw [← e]
    simp [pcl, slv]⟩
theorem pclI_of {W : World} {l : List PclD} (h : ∀ a, a ∈ l → InI a.serial ∧ InI a.src ∧ InI a.dst ∧ ∃ m, SlIs W W.heap.size 1 bytv (.slice a.rawp a.rawn a.rawc) m ∧ (∀ c, c ∈ m → InB c) ∧ m.length * Tryd.prog.bytesOf 5 ≤ reachBytes) : PclI (Exh (fun b => W.heap[b]?)) l := fun o ho => by
  obtain ⟨_, _, _, m, h4, _, h5⟩ := h o ho
  rw [show Tryd.prog.bytesOf 5 = 1 by kernel_rfl] at h5
  exact ⟨m, slr_start h4, Nat.le_trans (by omega) h5⟩
theorem prs_of {F : HP} : ∀ {l : List PclD}, PclI F l → ∃ L, PRs F l L
  | [], _ => ⟨[], prs_nil⟩
  | p :: l, h => by
    obtain ⟨L, hl⟩ := prs_of (l := l) fun q hq => h q (List.mem_cons_of_mem _ hq)
    obtain ⟨r, h1, h2⟩ := h p (List.mem_cons_self ..)
    refine ⟨⟨p.serial, p.src, p.dst, r⟩ :: L, by simp [hl.len], fun i a b ha hb => ?_⟩
    cases i with
    | zero =>
      obtain rfl : p = a := by simpa using ha
      obtain rfl : _ = b := by simpa using hb
      exact ⟨rfl, rfl, rfl, h1, h2⟩
    | succ i => exact hl.ea i a b (by simpa using ha) (by simpa using hb)
end Go.Proofs.YtlgjippijbepkaaDoor
