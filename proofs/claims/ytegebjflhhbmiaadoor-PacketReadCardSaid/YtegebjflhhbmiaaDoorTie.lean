/-
  DERIVED. GIVEN WITH THE SEED: THE PROGRAM's TIES (one call each: nine closed facts by the kernel) AND EACH ROW's TIE, after the 31st guide's Derived/Test/Toyas{Tie, Card}.lean. No idea stands in it: it is a product of the set-up. Laid BY PROGRAM, IN A SANDBOX (cutbox-door.mjs). By AI agents, Wed Nov 11 2026. No macro, syntax, notation, axiom, sorry.
-/
import Derived.Test.YtegebjflhhbmiaaDoorRows
import Derived.LaidByTextLater
import Derived.SevenTiedAt
import Derived.LaidSub
import Derived.LaidOnce
namespace Go.Proofs.YtegebjflhhbmiaaDoor
open Go
set_option maxRecDepth 100000
theorem seatTie1 : Tryd.prog.laidByTextLater [("barrow/api.ErrArg", Rows.laid_barrow_api_ErrArg), ("barrow/api.ErrRange", Rows.laid_barrow_api_ErrRange), ("barrow/api.ErrText", Rows.laid_barrow_api_ErrText), ("barrow/api.ErrFull", Rows.laid_barrow_api_ErrFull), ("barrow/api.ErrFrozen", Rows.laid_barrow_api_ErrFrozen), ("barrow/api.ErrForm", Rows.laid_barrow_api_ErrForm), ("barrow/api.ErrShort", Rows.laid_barrow_api_ErrShort), ("barrow/api.ErrOrder", Rows.laid_barrow_api_ErrOrder), ("barrow/api.ErrTwice", Rows.laid_barrow_api_ErrTwice), ("barrow/api.ErrEpoch", Rows.laid_barrow_api_ErrEpoch), ("barrow/api.ErrBusy", Rows.laid_barrow_api_ErrBusy), ("barrow/api.ErrNone", Rows.laid_barrow_api_ErrNone), ("barrow/api.ErrRoom", Rows.laid_barrow_api_ErrRoom), ("barrow/api.ErrOther", Rows.laid_barrow_api_ErrOther)] [.sentinel, .sentinel, .sentinel, .sentinel, .sentinel, .sentinel, .sentinel, .sentinel, .sentinel, .sentinel, .sentinel, .sentinel, .sentinel, .sentinel] true :=
  Program.laidByTextLater_by_one 275 8 2 (by kernel_rfl) (by kernel_rfl) (by kernel_rfl) (by kernel_rfl) (by kernel_rfl) (by kernel_rfl) (fun _ _ => by kernel_rfl)
theorem noOwnUnsafe : Tryd.pinned.checked.prog.headLifts.contains "ownunsafe" = false := by kernel_rfl
theorem tie : Tryd.prog.laidByTextLater [("barrow/api.ErrArg", Rows.laid_barrow_api_ErrArg), ("barrow/api.ErrRange", Rows.laid_barrow_api_ErrRange), ("barrow/api.ErrForm", Rows.laid_barrow_api_ErrForm), ("barrow/api.ErrShort", Rows.laid_barrow_api_ErrShort)] [.sentinel, .sentinel, .sentinel, .sentinel] true :=
  Program.laidByTextLater.sub seatTie1 ["barrow/api.ErrArg", "barrow/api.ErrRange", "barrow/api.ErrForm", "barrow/api.ErrShort"] (by kernel_rfl) (by kernel_rfl)
theorem packetBack_row_tie : Rows.packetBackRow.laidByTextAt .later Tryd.pinned [.sentinel, .sentinel, .sentinel, .sentinel] true :=
  OpenClaim.laidByTextAt_later rfl rfl tie noOwnUnsafe
theorem packetOne_row_tie : Rows.packetOneRow.laidByTextAt .later Tryd.pinned [.sentinel, .sentinel, .sentinel, .sentinel] true :=
  OpenClaim.laidByTextAt_later rfl rfl tie noOwnUnsafe
theorem packetUnlike_row_tie : Rows.packetUnlikeRow.laidByTextAt .later Tryd.pinned [.sentinel, .sentinel, .sentinel, .sentinel] true :=
  OpenClaim.laidByTextAt_later rfl rfl tie noOwnUnsafe
theorem packetNames_row_tie : Rows.packetNamesRow.laidByTextAt .later Tryd.pinned [.sentinel, .sentinel, .sentinel, .sentinel] true :=
  OpenClaim.laidByTextAt_later rfl rfl tie noOwnUnsafe
theorem tie2 : Tryd.prog.laidByTextLater [("barrow/api.ErrArg", Rows.laid_barrow_api_ErrArg), ("barrow/api.ErrRange", Rows.laid_barrow_api_ErrRange), ("barrow/api.ErrText", Rows.laid_barrow_api_ErrText), ("barrow/api.ErrFull", Rows.laid_barrow_api_ErrFull), ("barrow/api.ErrFrozen", Rows.laid_barrow_api_ErrFrozen), ("barrow/api.ErrForm", Rows.laid_barrow_api_ErrForm), ("barrow/api.ErrShort", Rows.laid_barrow_api_ErrShort), ("barrow/api.ErrOrder", Rows.laid_barrow_api_ErrOrder), ("barrow/api.ErrTwice", Rows.laid_barrow_api_ErrTwice), ("barrow/api.ErrEpoch", Rows.laid_barrow_api_ErrEpoch), ("barrow/api.ErrBusy", Rows.laid_barrow_api_ErrBusy), ("barrow/api.ErrNone", Rows.laid_barrow_api_ErrNone), ("barrow/api.ErrRoom", Rows.laid_barrow_api_ErrRoom), ("barrow/api.ErrOther", Rows.laid_barrow_api_ErrOther)] [.sentinel, .sentinel, .sentinel, .sentinel, .sentinel, .sentinel, .sentinel, .sentinel, .sentinel, .sentinel, .sentinel, .sentinel, .sentinel, .sentinel] true :=
  Program.laidByTextLater.sub seatTie1 ["barrow/api.ErrArg", "barrow/api.ErrRange", "barrow/api.ErrText", "barrow/api.ErrFull", "barrow/api.ErrFrozen", "barrow/api.ErrForm", "barrow/api.ErrShort", "barrow/api.ErrOrder", "barrow/api.ErrTwice", "barrow/api.ErrEpoch", "barrow/api.ErrBusy", "barrow/api.ErrNone", "barrow/api.ErrRoom", "barrow/api.ErrOther"] (by kernel_rfl) (by kernel_rfl)
theorem packetBytes_row_tie : Rows.packetBytesRow.laidByTextAt .later Tryd.pinned [.sentinel, .sentinel, .sentinel, .sentinel, .sentinel, .sentinel, .sentinel, .sentinel, .sentinel, .sentinel, .sentinel, .sentinel, .sentinel, .sentinel] true :=
  OpenClaim.laidByTextAt_later rfl rfl tie2 noOwnUnsafe
theorem packetRead_row_tie : Rows.packetReadRow.laidByTextAt .later Tryd.pinned [.sentinel, .sentinel, .sentinel, .sentinel, .sentinel, .sentinel, .sentinel, .sentinel, .sentinel, .sentinel, .sentinel, .sentinel, .sentinel, .sentinel] true :=
  OpenClaim.laidByTextAt_later rfl rfl tie2 noOwnUnsafe
theorem packetBackUpto_row_tie : Rows.packetBackUptoRow.laidByTextAt .later Tryd.pinned [.sentinel, .sentinel, .sentinel, .sentinel] true :=
  OpenClaim.laidByTextAt_later rfl rfl tie noOwnUnsafe
theorem packetOneUpto_row_tie : Rows.packetOneUptoRow.laidByTextAt .later Tryd.pinned [.sentinel, .sentinel, .sentinel, .sentinel] true :=
  OpenClaim.laidByTextAt_later rfl rfl tie noOwnUnsafe
theorem packetUnlikeUpto_row_tie : Rows.packetUnlikeUptoRow.laidByTextAt .later Tryd.pinned [.sentinel, .sentinel, .sentinel, .sentinel] true :=
  OpenClaim.laidByTextAt_later rfl rfl tie noOwnUnsafe
theorem packetNamesUpto_row_tie : Rows.packetNamesUptoRow.laidByTextAt .later Tryd.pinned [.sentinel, .sentinel, .sentinel, .sentinel] true :=
  OpenClaim.laidByTextAt_later rfl rfl tie noOwnUnsafe
theorem packetBytesUpto_row_tie : Rows.packetBytesUptoRow.laidByTextAt .later Tryd.pinned [.sentinel, .sentinel, .sentinel, .sentinel, .sentinel, .sentinel, .sentinel, .sentinel, .sentinel, .sentinel, .sentinel, .sentinel, .sentinel, .sentinel] true :=
  OpenClaim.laidByTextAt_later rfl rfl tie2 noOwnUnsafe
theorem packetReadUpto_row_tie : Rows.packetReadUptoRow.laidByTextAt .later Tryd.pinned [.sentinel, .sentinel, .sentinel, .sentinel, .sentinel, .sentinel, .sentinel, .sentinel, .sentinel, .sentinel, .sentinel, .sentinel, .sentinel, .sentinel] true :=
  OpenClaim.laidByTextAt_later rfl rfl tie2 noOwnUnsafe
end Go.Proofs.YtegebjflhhbmiaaDoor
