/- utf8.ValidString and utf8.RuneCountInString, by the contracts of the library. -/
import Derived.Test.YtgoifgockcpnhaaDoorZDC7AP
import Derived.Test.YtgoifgockcpnhaaDoorZDC7AM
import Derived.Test.YtgoifgockcpnhaaDoorZDC7AJ
import Derived.Shelf.Unicode.ValidAny
import Derived.Shelf.Utf8.RuneCount
import Derived.Lib.LaidU8T
set_option linter.unusedSimpArgs false
set_option linter.unusedVariables false
set_option linter.unusedSimpArgs false
set_option linter.unusedVariables false
namespace Go.Proofs.YtgoifgockcpnhaaDoor
open Go Go.RowKit Go.Shelf

def laysV_ren : Go.Shelf.Ren := ⟨fun | 196 => 57 | 259 => 65 | n => n, fun | 9 => 9 | 4 => 4 | 3 => 3 | 5 => 5 | 12 => 12 | 119 => 107 | 0 => 0 | 46 => 111 | 139 => 110 | 138 => 109 | 53 => 122 | n => n, fun | 3 => 3 | 4 => 4 | n => n⟩
theorem laysV : Go.Proofs.Lays.n196 Tryd.prog laysV_ren := {
  mixed := by kernel_rfl
  f196 := Tryd.func57.trans (congrArg some (by kernel_rfl))
  f259 := Tryd.func65.trans (congrArg some (by kernel_rfl))
  t0 := Tryd.underlying0
  a0 := Tryd.isAgg0
  z0 := Tryd.sizeOf0
  v0 := Tryd.zeroValue0
  t3 := Tryd.underlying3
  a3 := Tryd.isAgg3
  z3 := Tryd.sizeOf3
  v3 := Tryd.zeroValue3
  t4 := Tryd.underlying4
  a4 := Tryd.isAgg4
  z4 := Tryd.sizeOf4
  v4 := Tryd.zeroValue4
  t5 := Tryd.underlying5
  a5 := Tryd.isAgg5
  z5 := Tryd.sizeOf5
  v5 := Tryd.zeroValue5
  t9 := Tryd.underlying9
  a9 := Tryd.isAgg9
  z9 := Tryd.sizeOf9
  v9 := Tryd.zeroValue9
  t12 := Tryd.underlying12
  a12 := Tryd.isAgg12
  z12 := Tryd.sizeOf12
  v12 := Tryd.zeroValue12
  t46 := Tryd.underlying111
  a46 := Tryd.isAgg111
  z46 := Tryd.sizeOf111
  v46 := Tryd.zeroValue111
  t53 := Tryd.underlying122
  a53 := Tryd.isAgg122
  z53 := Tryd.sizeOf122
  v53 := Tryd.zeroValue122
  t119 := Tryd.underlying107
  a119 := Tryd.isAgg107
  z119 := Tryd.sizeOf107
  t138 := Tryd.underlying109
  a138 := Tryd.isAgg109
  z138 := Tryd.sizeOf109
  v138 := Tryd.zeroValue109
  t139 := Tryd.underlying110
  a139 := Tryd.isAgg110
  z139 := Tryd.sizeOf110
  v139 := Tryd.zeroValue110
  g3 := by kernel_rfl
  g4 := by kernel_rfl }
/-- The two tables of unicode/utf8 are there. -/
structure TabF (F : HP) : Prop where
  out : ∀ w, Own F w → Lib.Utf8Tabs (laysV_ren.g 3) (laysV_ren.g 4) w
theorem TabF.next {A R : HP} (h : TabF R) : TabF (A * R) := ⟨fun w hw => h.out w (own_next hw)⟩
theorem TabF.left {A R : HP} (h : TabF A) : TabF (A * R) := ⟨fun w hw => h.out w (hw.mono ent_keep)⟩
theorem TabF.exh {hR : Hp} {H A : HP} (hh : H.on hR) (h : TabF H) : TabF (Exh hR * A) := ⟨fun w hw => h.out w (own_exh hh hw)⟩
theorem TabF.exh0 {hR : Hp} {H : HP} (hh : H.on hR) (h : TabF H) : TabF (Exh hR) := ⟨fun w hw => h.out w (own_exh0 hh hw)⟩
theorem valid_s (c0 : World) (F : HP) (s : ByteArray) : Spec Tryd.prog c0 57 #[.string s] (pu (TabF F ∧ s.size ≤ 140737488355328) F) (fun r => pu (r = .bool (runesL s.data.toList).isSome) F) := fun w hs => by
  obtain ⟨⟨hT, hz⟩, hs⟩ := hs.pu
  refine Spec.of_below (H := F) (v := .bool (runesL s.data.toList).isSome) (fun w hw => ?_) w hs
  have := Any.utf8_ValidString laysV s w (by omega) (hT.out w hw)
  rw [runesL_valid _ _ (Nat.le_refl _)] at this
  exact this
/-- The tables, laid. -/
theorem tabF_laid {W : World} {l : List (String × DataW Unit)} (h : laidMetH Tryd.prog l W) (hh : (l.all fun x => x.2.handleName?.isNone) = true) {d3 d4 : DataW Unit} (e3 : d3 = Lib.firstData) (e4 : d4 = Lib.acceptData)
    (m3 : ("unicode/utf8.first", d3) ∈ l) (m4 : ("unicode/utf8.acceptRanges", d4) ∈ l) : TabF (Exh (fun b => W.heap[b]?)) := by
  subst e3 e4
  have he : (l.filter fun x => x.2.handleName?.isSome) = [] := List.filter_eq_nil_iff.2 fun x hx hs => by
    have := List.all_eq_true.1 hh x hx
    revert hs this
    cases x.2.handleName? <;> simp
  unfold laidMetH at h
  rw [he] at h
  obtain ⟨ps, hv, _, _⟩ := h
  have hT : Lib.Utf8Tabs (laysV_ren.g 3) (laysV_ren.g 4) W := Go.Proofs.utf8Tabs_of_readsT (U8Types.of196 laysV) ⟨by kernel_rfl, by kernel_rfl, by kernel_rfl, by kernel_rfl, by kernel_rfl, by kernel_rfl, by kernel_rfl⟩ (Lib.LaidVars_reads hv _ _ m3) (Lib.LaidVars_reads hv _ _ m4)
  exact ⟨fun w hw => ⟨fun c hc => cell_of_own hw (hT.1 c hc), fun i hi => ⟨cell_of_own hw (hT.2 i hi).1, cell_of_own hw (hT.2 i hi).2⟩⟩⟩
end Go.Proofs.YtgoifgockcpnhaaDoor
