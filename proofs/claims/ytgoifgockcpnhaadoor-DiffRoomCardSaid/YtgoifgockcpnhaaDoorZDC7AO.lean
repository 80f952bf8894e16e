/- The documents' reading of a text; what is clipped. -/
import Derived.Test.YtgoifgockcpnhaaDoorZDC7AL
import Derived.Test.YtgoifgockcpnhaaDoorZDC7AM
import Derived.Test.YtgoifgockcpnhaaDoorZDC7AN
set_option linter.unusedSimpArgs false
set_option linter.unusedVariables false
namespace Go.Proofs.YtgoifgockcpnhaaDoor
open Go Go.RowKit

set_option maxRecDepth 20000 in
@[go_sem] theorem wrap_u8 (b : UInt8) : wrap64 (b.toNat : Int) = b.toNat := by
  have := b.toNat_lt
  exact IntWalk.wrap64_in _ (by constructor <;> omega)
/-- A byte of a text, as a number. -/
def bt (s : ByteArray) (i : Nat) : Nat := (s.get! i).toNat
attribute [irreducible] bt
/-- The number so far. -/
def cval (s : ByteArray) (k b : Nat) : Nat → Nat
  | 0 => b
  | j + 1 => 64 * cval s k b j + bt s (k + j + 1) - 128
attribute [irreducible] cval
end Go.Proofs.YtgoifgockcpnhaaDoor
