/- Rows of edits as an argument. -/
import Derived.Test.YtflibhphpnajeaaDoorZUC6BI
import Derived.Test.YtflibhphpnajeaaDoorZUC6BJ
set_option linter.unusedSimpArgs false
set_option linter.unusedVariables false
namespace Go.Proofs.YtflibhphpnajeaaDoor
open Go Go.RowKit Go.ChangeShapes Go.WideShapes Go.ChangeAt

instance : Inhabited SlD := ⟨sl0⟩
theorem opens_chl (W : World) : OpensZ Tryd.prog W 22 1 slv (fun d => ∃ l, SlIs W W.heap.size 4 chg (.slice d.p d.n d.c) l ∧ (∀ a, a ∈ l → ChgDI a) ∧ l.length * Tryd.prog.bytesOf 33 ≤ reachBytes) :=
  opens_slZ Tryd.underlying22 (by kernel_rfl) (opens_chg.at W).z (by decide)
theorem ps_of {W : World} : ∀ {ts : List SlD}, (∀ d, d ∈ ts → ∃ l, SlIs W W.heap.size 4 chg (.slice d.p d.n d.c) l ∧ (∀ a, a ∈ l → ChgDI a) ∧ l.length * Tryd.prog.bytesOf 33 ≤ reachBytes) →
    ∃ ls, ts.length = ls.length ∧ PS ts ls (Exh (fun b => W.heap[b]?)) ∧ Len2 ls
  | [], _ => ⟨[], rfl, ⟨fun i t l h _ => by simp at h⟩, fun l hl => by cases hl⟩
  | d :: ts, h => by
    obtain ⟨l, h1, _, h3⟩ := h d (List.mem_cons_self ..)
    obtain ⟨ls, k1, k2, k3⟩ := ps_of (ts := ts) fun e he => h e (List.mem_cons_of_mem _ he)
    have hb : Tryd.prog.bytesOf 33 = 32 := by kernel_rfl
    have hr : reachBytes ≤ 140737488351232 := by decide
    rw [hb] at h3
    refine ⟨l :: ls, by simp [k1], ⟨fun i t m ht hm => ?_⟩, fun m hm => ?_⟩
    · cases i with
      | zero => cases ht; cases hm; exact slr_start h1
      | succ i => exact k2.at_ i t m ht hm
    · rcases List.mem_cons.1 hm with rfl | hm
      · omega
      · exact k3 m hm
end Go.Proofs.YtflibhphpnajeaaDoor
