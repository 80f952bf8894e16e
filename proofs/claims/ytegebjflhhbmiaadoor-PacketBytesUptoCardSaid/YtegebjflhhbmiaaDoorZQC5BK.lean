/- The laws Names and Unlike. -/
import Derived.Test.YtegebjflhhbmiaaDoorZQC5BH
import Derived.Test.YtegebjflhhbmiaaDoorZQC5BJ
import Derived.Test.YtegebjflhhbmiaaDoorZQC5AO
set_option linter.unusedSimpArgs false
set_option linter.unusedVariables false
namespace Go.Proofs.YtegebjflhhbmiaaDoor
open Go Go.RowKit

theorem msgI_cut {d : MsgD} {l : List ActD} (h : MsgI d l) : MsgI (cutM d) (l.take 60) := by
  have h6 : ∀ x, x ∈ l.take 60 → ActDI x := fun x hx => h.a x (List.mem_of_mem_take hx)
  unfold cutM
  split
  · exact ⟨h.kind, h.frm, h.ep, h.c, h.r, h6⟩
  · exact ⟨h.kind, h.frm, h.ep, h.c, h.r, h6⟩
end Go.Proofs.YtegebjflhhbmiaaDoor
