/- What the closings of the laws share: the reasons that are laid, a text that is handed in. -/
import Derived.Test.YtgoifgockcpnhaaDoorZDC7AV
import Derived.Deep.DeepHandedRow
import Derived.ProofKit
import Derived.ChangeMaps5
set_option linter.unusedSimpArgs false
set_option linter.unusedVariables false
namespace Go.Proofs.YtgoifgockcpnhaaDoor
open Go Go.RowKit Go.ChangeShapes Go.WideShapes Go.ChangeAt

/-- A world that the start may have left: as the door lays it, and the table that is pinned. -/
noncomputable def tabWorld (os : Os) : World := { World.doorLaid Tryd.prog 400 os with heap := (World.doorLaid Tryd.prog 400 os).heap.modify 3 fun
    | .cells _ t fr => .cells (Lib.firstTab.map fun z => Value.int .u8 z).toArray t fr
    | o => o }
end Go.Proofs.YtgoifgockcpnhaaDoor
