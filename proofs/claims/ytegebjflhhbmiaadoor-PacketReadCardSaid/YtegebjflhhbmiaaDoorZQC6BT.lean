/- Messages as an argument; the four reasons as they are laid. -/
import Derived.Test.YtegebjflhhbmiaaDoorZQC6BR
import Derived.Test.YtegebjflhhbmiaaDoorZQC6BS
set_option linter.unusedSimpArgs false
set_option linter.unusedVariables false
namespace Go.Proofs.YtegebjflhhbmiaaDoor
open Go Go.RowKit

theorem opens_bytv : Opens Tryd.prog 5 1 bytv InB := opens_u8 Tryd.underlying5 (by kernel_rfl)
end Go.Proofs.YtegebjflhhbmiaaDoor
