/-
  NARROWER THAN 'FOR EVERY INPUT', by the rows' own cells (each row's printed sentence says how): DiffMetric: laid · DiffCommon: laid · DiffShortest: laid · DiffBack: laid · DiffExact: laid · DiffRoom: laid · DiffApply: laid.
  DERIVED. THE GIVEN ROWS OF THIS SEAT. 7 by the template 'for every input the law returns true; each argument reads behind the call as it read before'; 0 by the template 'total and deterministic' (their statements: YtgoifgockcpnhaaDoorTotals.lean).
  GIVEN WITH THE SEED: the statements are not yours to turn. If you find one false, say at which input.
  Laid BY PROGRAM, IN A SANDBOX (cutbox-rows.mjs): the forced cells as the released guide's own fill.sh prints them over the translation 5d184aae4c96748b… (all of the seat's roots in one cut). By AI agents, Wed Nov 11 2026. No macro, syntax, notation, axiom, sorry.
-/
import Derived.Test.YtgoifgockcpnhaaDoorChecked
import GoSem.PinnedTables
import GoSem.Claim
import GoSem.ClaimJoined
import GoSem.ClaimMapViews
import Derived.JoinedTies
import Derived.KernelRfl
namespace Go.Proofs.YtgoifgockcpnhaaDoor
/- THE CELL 'sum', in the pinned program and in every row, IS THE sha256 OF THE DUMP (.gsa) THAT YtgoifgockcpnhaaDoorProg.lean LOADS. Nothing in Lean hashes anything: it is a label: what it is worth is what the hold of that sum in a sandbox is worth. -/
noncomputable def Tryd.pinned : Pinned := { name := "ytgoifgockcpnhaadoor", sum := "5d184aae4c96748b6316a2ed4d2266d3b7b4a540ccd7a4c624c47d57fb3a0ef4", checked := Tryd.checked }
namespace Rows
def none {H : Type} : Left H := { results := [], args := [] }

/- WHAT THE LISTED PACKAGE-LEVEL VARIABLES READ AS WHEN THE CALL BEGINS. Each datum BY PROGRAM (the guide's laid-datum.mjs) off the statement by which the dump's own 'gosem.cut.vars' lays the variable. In a bare row this is a premise. The card (YtgoifgockcpnhaaDoorCards.lean) ties it to the program's text. -/
def laid_unicode_utf8_acceptRanges {H : Type} : DataW H := .agg [.agg [.lit (.int .u8 128), .lit (.int .u8 191)], .agg [.lit (.int .u8 160), .lit (.int .u8 191)], .agg [.lit (.int .u8 128), .lit (.int .u8 159)], .agg [.lit (.int .u8 144), .lit (.int .u8 191)], .agg [.lit (.int .u8 128), .lit (.int .u8 143)], .agg [.lit (.int .u8 0), .lit (.int .u8 0)], .agg [.lit (.int .u8 0), .lit (.int .u8 0)], .agg [.lit (.int .u8 0), .lit (.int .u8 0)], .agg [.lit (.int .u8 0), .lit (.int .u8 0)], .agg [.lit (.int .u8 0), .lit (.int .u8 0)], .agg [.lit (.int .u8 0), .lit (.int .u8 0)], .agg [.lit (.int .u8 0), .lit (.int .u8 0)], .agg [.lit (.int .u8 0), .lit (.int .u8 0)], .agg [.lit (.int .u8 0), .lit (.int .u8 0)], .agg [.lit (.int .u8 0), .lit (.int .u8 0)], .agg [.lit (.int .u8 0), .lit (.int .u8 0)]]
def laid_barrow_api_ErrText {H : Type} : DataW H := .iface "*errors.errorString" (.ptr (.agg [.lit (.string [98, 97, 100, 32, 116, 101, 120, 116])]))
def laid_barrow_api_ErrRoom {H : Type} : DataW H := .iface "*errors.errorString" (.ptr (.agg [.lit (.string [110, 111, 32, 114, 111, 111, 109])]))
/-- One of Go's own tables, pinned by name: the form's constant. -/
def laid_unicode_utf8_first : DataW Unit := Go.Pinned.utf8First
def laid_barrow_api_ErrRange {H : Type} : DataW H := .iface "*errors.errorString" (.ptr (.agg [.lit (.string [111, 117, 116, 32, 111, 102, 32, 114, 97, 110, 103, 101])]))
def laid_barrow_api_ErrArg {H : Type} : DataW H := .iface "*errors.errorString" (.ptr (.agg [.lit (.string [98, 97, 100, 32, 97, 114, 103, 117, 109, 101, 110, 116])]))
def laid_barrow_api_ErrFull {H : Type} : DataW H := .iface "*errors.errorString" (.ptr (.agg [.lit (.string [110, 111, 32, 99, 114, 101, 100, 105, 116, 32, 108, 101, 102, 116])]))
def laid_barrow_api_ErrFrozen {H : Type} : DataW H := .iface "*errors.errorString" (.ptr (.agg [.lit (.string [102, 114, 111, 122, 101, 110])]))
def laid_barrow_api_ErrForm {H : Type} : DataW H := .iface "*errors.errorString" (.ptr (.agg [.lit (.string [98, 97, 100, 32, 102, 111, 114, 109])]))
def laid_barrow_api_ErrShort {H : Type} : DataW H := .iface "*errors.errorString" (.ptr (.agg [.lit (.string [99, 117, 116, 32, 115, 104, 111, 114, 116])]))
def laid_barrow_api_ErrOrder {H : Type} : DataW H := .iface "*errors.errorString" (.ptr (.agg [.lit (.string [110, 111, 116, 32, 121, 101, 116])]))
def laid_barrow_api_ErrTwice {H : Type} : DataW H := .iface "*errors.errorString" (.ptr (.agg [.lit (.string [116, 104, 101, 114, 101, 32, 97, 108, 114, 101, 97, 100, 121])]))
def laid_barrow_api_ErrEpoch {H : Type} : DataW H := .iface "*errors.errorString" (.ptr (.agg [.lit (.string [97, 110, 111, 116, 104, 101, 114, 32, 101, 112, 111, 99, 104])]))
def laid_barrow_api_ErrBusy {H : Type} : DataW H := .iface "*errors.errorString" (.ptr (.agg [.lit (.string [98, 117, 115, 121])]))
def laid_barrow_api_ErrNone {H : Type} : DataW H := .iface "*errors.errorString" (.ptr (.agg [.lit (.string [110, 111, 116, 104, 105, 110, 103, 32, 116, 104, 101, 114, 101])]))
def laid_barrow_api_ErrOther {H : Type} : DataW H := .iface "*errors.errorString" (.ptr (.agg [.lit (.string [115, 111, 109, 101, 116, 104, 105, 110, 103, 32, 101, 108, 115, 101])]))

/-- 'barrowlaw15.DiffMetric': WHATEVER THE INPUT: true; the input reads as it did. -/
def diffMetricSpec : ChangeSpec := { name := "diffMetric", fn := fun _ => fun
  | [d] => { results := [.lit (.bool true)], args := [d] }
  | _ => none }
def diffMetricRow : OpenClaim := { program := "ytgoifgockcpnhaadoor", sum := "5d184aae4c96748b6316a2ed4d2266d3b7b4a540ccd7a4c624c47d57fb3a0ef4", func := "barrow/barrowlaw15.DiffMetric", spec := "diffMetric", unfollowed := true, recurses := true, named := ["barrow/api.ErrText", "barrow/api.ErrRoom", "unicode/utf8.first", "unicode/utf8.acceptRanges"], apart := false, laid := [("unicode/utf8.acceptRanges", laid_unicode_utf8_acceptRanges), ("barrow/api.ErrText", laid_barrow_api_ErrText), ("barrow/api.ErrRoom", laid_barrow_api_ErrRoom), ("unicode/utf8.first", laid_unicode_utf8_first)] }
def DiffMetricSaid : Prop := diffMetricRow.holds Tryd.pinned (OpenSpec.ofChange diffMetricSpec)

/-- ITS FALSE NEIGHBOUR: 'it returns false'. Refute it at one input. -/
def diffMetricWrong : ChangeSpec := { name := "diffMetric", fn := fun _ => fun
  | [d] => { results := [.lit (.bool false)], args := [d] }
  | _ => none }
def DiffMetricWrongFalsely : Prop := diffMetricRow.holds Tryd.pinned (OpenSpec.ofChange diffMetricWrong)

/-- 'barrowlaw15.DiffCommon': WHATEVER THE INPUT: true; the input reads as it did. -/
def diffCommonSpec : ChangeSpec := { name := "diffCommon", fn := fun _ => fun
  | [d1, d2] => { results := [.lit (.bool true)], args := [d1, d2] }
  | _ => none }
def diffCommonRow : OpenClaim := { program := "ytgoifgockcpnhaadoor", sum := "5d184aae4c96748b6316a2ed4d2266d3b7b4a540ccd7a4c624c47d57fb3a0ef4", func := "barrow/barrowlaw15.DiffCommon", spec := "diffCommon", unfollowed := true, recurses := true, named := ["barrow/api.ErrText", "barrow/api.ErrRoom", "unicode/utf8.first", "unicode/utf8.acceptRanges"], apart := false, laid := [("unicode/utf8.acceptRanges", laid_unicode_utf8_acceptRanges), ("barrow/api.ErrText", laid_barrow_api_ErrText), ("barrow/api.ErrRoom", laid_barrow_api_ErrRoom), ("unicode/utf8.first", laid_unicode_utf8_first)] }
def DiffCommonSaid : Prop := diffCommonRow.holds Tryd.pinned (OpenSpec.ofChange diffCommonSpec)

/-- ITS FALSE NEIGHBOUR: 'it returns false'. Refute it at one input. -/
def diffCommonWrong : ChangeSpec := { name := "diffCommon", fn := fun _ => fun
  | [d1, d2] => { results := [.lit (.bool false)], args := [d1, d2] }
  | _ => none }
def DiffCommonWrongFalsely : Prop := diffCommonRow.holds Tryd.pinned (OpenSpec.ofChange diffCommonWrong)

/-- 'barrowlaw15.DiffShortest': WHATEVER THE INPUT: true; the input reads as it did. -/
def diffShortestSpec : ChangeSpec := { name := "diffShortest", fn := fun _ => fun
  | [d1, d2] => { results := [.lit (.bool true)], args := [d1, d2] }
  | _ => none }
def diffShortestRow : OpenClaim := { program := "ytgoifgockcpnhaadoor", sum := "5d184aae4c96748b6316a2ed4d2266d3b7b4a540ccd7a4c624c47d57fb3a0ef4", func := "barrow/barrowlaw15.DiffShortest", spec := "diffShortest", unfollowed := true, recurses := true, named := ["barrow/api.ErrText", "barrow/api.ErrRoom", "unicode/utf8.first", "unicode/utf8.acceptRanges", "barrow/api.ErrRange"], apart := false, laid := [("unicode/utf8.acceptRanges", laid_unicode_utf8_acceptRanges), ("barrow/api.ErrRange", laid_barrow_api_ErrRange), ("barrow/api.ErrText", laid_barrow_api_ErrText), ("barrow/api.ErrRoom", laid_barrow_api_ErrRoom), ("unicode/utf8.first", laid_unicode_utf8_first)] }
def DiffShortestSaid : Prop := diffShortestRow.holds Tryd.pinned (OpenSpec.ofChange diffShortestSpec)

/-- ITS FALSE NEIGHBOUR: 'it returns false'. Refute it at one input. -/
def diffShortestWrong : ChangeSpec := { name := "diffShortest", fn := fun _ => fun
  | [d1, d2] => { results := [.lit (.bool false)], args := [d1, d2] }
  | _ => none }
def DiffShortestWrongFalsely : Prop := diffShortestRow.holds Tryd.pinned (OpenSpec.ofChange diffShortestWrong)

/-- 'barrowlaw15.DiffBack': WHATEVER THE INPUT: true; the input reads as it did. -/
def diffBackSpec : ChangeSpec := { name := "diffBack", fn := fun _ => fun
  | [d] => { results := [.lit (.bool true)], args := [d] }
  | _ => none }
def diffBackRow : OpenClaim := { program := "ytgoifgockcpnhaadoor", sum := "5d184aae4c96748b6316a2ed4d2266d3b7b4a540ccd7a4c624c47d57fb3a0ef4", func := "barrow/barrowlaw15.DiffBack", spec := "diffBack", unfollowed := true, recurses := true, named := ["barrow/api.ErrText", "barrow/api.ErrRange", "unicode/utf8.first", "unicode/utf8.acceptRanges", "barrow/api.ErrRoom"], apart := false, laid := [("unicode/utf8.acceptRanges", laid_unicode_utf8_acceptRanges), ("barrow/api.ErrRange", laid_barrow_api_ErrRange), ("barrow/api.ErrText", laid_barrow_api_ErrText), ("barrow/api.ErrRoom", laid_barrow_api_ErrRoom), ("unicode/utf8.first", laid_unicode_utf8_first)] }
def DiffBackSaid : Prop := diffBackRow.holds Tryd.pinned (OpenSpec.ofChange diffBackSpec)

/-- ITS FALSE NEIGHBOUR: 'it returns false'. Refute it at one input. -/
def diffBackWrong : ChangeSpec := { name := "diffBack", fn := fun _ => fun
  | [d] => { results := [.lit (.bool false)], args := [d] }
  | _ => none }
def DiffBackWrongFalsely : Prop := diffBackRow.holds Tryd.pinned (OpenSpec.ofChange diffBackWrong)

/-- 'barrowlaw15.DiffExact': WHATEVER THE INPUT: true; the input reads as it did. -/
def diffExactSpec : ChangeSpec := { name := "diffExact", fn := fun _ => fun
  | [d1, d2] => { results := [.lit (.bool true)], args := [d1, d2] }
  | _ => none }
def diffExactRow : OpenClaim := { program := "ytgoifgockcpnhaadoor", sum := "5d184aae4c96748b6316a2ed4d2266d3b7b4a540ccd7a4c624c47d57fb3a0ef4", func := "barrow/barrowlaw15.DiffExact", spec := "diffExact", unfollowed := true, recurses := true, named := ["barrow/api.ErrText", "barrow/api.ErrRoom", "unicode/utf8.first", "unicode/utf8.acceptRanges", "barrow/api.ErrArg", "barrow/api.ErrRange", "barrow/api.ErrFull", "barrow/api.ErrFrozen", "barrow/api.ErrForm", "barrow/api.ErrShort", "barrow/api.ErrOrder", "barrow/api.ErrTwice", "barrow/api.ErrEpoch", "barrow/api.ErrBusy", "barrow/api.ErrNone", "barrow/api.ErrOther"], apart := false, laid := [("unicode/utf8.acceptRanges", laid_unicode_utf8_acceptRanges), ("barrow/api.ErrArg", laid_barrow_api_ErrArg), ("barrow/api.ErrRange", laid_barrow_api_ErrRange), ("barrow/api.ErrText", laid_barrow_api_ErrText), ("barrow/api.ErrFull", laid_barrow_api_ErrFull), ("barrow/api.ErrFrozen", laid_barrow_api_ErrFrozen), ("barrow/api.ErrForm", laid_barrow_api_ErrForm), ("barrow/api.ErrShort", laid_barrow_api_ErrShort), ("barrow/api.ErrOrder", laid_barrow_api_ErrOrder), ("barrow/api.ErrTwice", laid_barrow_api_ErrTwice), ("barrow/api.ErrEpoch", laid_barrow_api_ErrEpoch), ("barrow/api.ErrBusy", laid_barrow_api_ErrBusy), ("barrow/api.ErrNone", laid_barrow_api_ErrNone), ("barrow/api.ErrRoom", laid_barrow_api_ErrRoom), ("barrow/api.ErrOther", laid_barrow_api_ErrOther), ("unicode/utf8.first", laid_unicode_utf8_first)] }
def DiffExactSaid : Prop := diffExactRow.holds Tryd.pinned (OpenSpec.ofChange diffExactSpec)

/-- ITS FALSE NEIGHBOUR: 'it returns false'. Refute it at one input. -/
def diffExactWrong : ChangeSpec := { name := "diffExact", fn := fun _ => fun
  | [d1, d2] => { results := [.lit (.bool false)], args := [d1, d2] }
  | _ => none }
def DiffExactWrongFalsely : Prop := diffExactRow.holds Tryd.pinned (OpenSpec.ofChange diffExactWrong)

/-- 'barrowlaw15.DiffRoom': WHATEVER THE INPUT: true; the input reads as it did. -/
def diffRoomSpec : ChangeSpec := { name := "diffRoom", fn := fun _ => fun
  | [d1, d2] => { results := [.lit (.bool true)], args := [d1, d2] }
  | _ => none }
def diffRoomRow : OpenClaim := { program := "ytgoifgockcpnhaadoor", sum := "5d184aae4c96748b6316a2ed4d2266d3b7b4a540ccd7a4c624c47d57fb3a0ef4", func := "barrow/barrowlaw15.DiffRoom", spec := "diffRoom", unfollowed := true, recurses := true, named := ["barrow/api.ErrText", "barrow/api.ErrRoom", "unicode/utf8.first", "unicode/utf8.acceptRanges", "barrow/api.ErrArg", "barrow/api.ErrRange", "barrow/api.ErrFull", "barrow/api.ErrFrozen", "barrow/api.ErrForm", "barrow/api.ErrShort", "barrow/api.ErrOrder", "barrow/api.ErrTwice", "barrow/api.ErrEpoch", "barrow/api.ErrBusy", "barrow/api.ErrNone", "barrow/api.ErrOther"], apart := false, laid := [("unicode/utf8.acceptRanges", laid_unicode_utf8_acceptRanges), ("barrow/api.ErrArg", laid_barrow_api_ErrArg), ("barrow/api.ErrRange", laid_barrow_api_ErrRange), ("barrow/api.ErrText", laid_barrow_api_ErrText), ("barrow/api.ErrFull", laid_barrow_api_ErrFull), ("barrow/api.ErrFrozen", laid_barrow_api_ErrFrozen), ("barrow/api.ErrForm", laid_barrow_api_ErrForm), ("barrow/api.ErrShort", laid_barrow_api_ErrShort), ("barrow/api.ErrOrder", laid_barrow_api_ErrOrder), ("barrow/api.ErrTwice", laid_barrow_api_ErrTwice), ("barrow/api.ErrEpoch", laid_barrow_api_ErrEpoch), ("barrow/api.ErrBusy", laid_barrow_api_ErrBusy), ("barrow/api.ErrNone", laid_barrow_api_ErrNone), ("barrow/api.ErrRoom", laid_barrow_api_ErrRoom), ("barrow/api.ErrOther", laid_barrow_api_ErrOther), ("unicode/utf8.first", laid_unicode_utf8_first)] }
def DiffRoomSaid : Prop := diffRoomRow.holds Tryd.pinned (OpenSpec.ofChange diffRoomSpec)

/-- ITS FALSE NEIGHBOUR: 'it returns false'. Refute it at one input. -/
def diffRoomWrong : ChangeSpec := { name := "diffRoom", fn := fun _ => fun
  | [d1, d2] => { results := [.lit (.bool false)], args := [d1, d2] }
  | _ => none }
def DiffRoomWrongFalsely : Prop := diffRoomRow.holds Tryd.pinned (OpenSpec.ofChange diffRoomWrong)

/-- 'barrowlaw15.DiffApply': WHATEVER THE INPUT: true; the input reads as it did. -/
def diffApplySpec : ChangeSpec := { name := "diffApply", fn := fun _ => fun
  | [d] => { results := [.lit (.bool true)], args := [d] }
  | _ => none }
def diffApplyRow : OpenClaim := { program := "ytgoifgockcpnhaadoor", sum := "5d184aae4c96748b6316a2ed4d2266d3b7b4a540ccd7a4c624c47d57fb3a0ef4", func := "barrow/barrowlaw15.DiffApply", spec := "diffApply", unfollowed := true, recurses := true, named := ["barrow/api.ErrText", "barrow/api.ErrRange", "unicode/utf8.first", "unicode/utf8.acceptRanges", "barrow/api.ErrArg", "barrow/api.ErrFull", "barrow/api.ErrFrozen", "barrow/api.ErrForm", "barrow/api.ErrShort", "barrow/api.ErrOrder", "barrow/api.ErrTwice", "barrow/api.ErrEpoch", "barrow/api.ErrBusy", "barrow/api.ErrNone", "barrow/api.ErrRoom", "barrow/api.ErrOther"], apart := false, laid := [("unicode/utf8.acceptRanges", laid_unicode_utf8_acceptRanges), ("barrow/api.ErrArg", laid_barrow_api_ErrArg), ("barrow/api.ErrRange", laid_barrow_api_ErrRange), ("barrow/api.ErrText", laid_barrow_api_ErrText), ("barrow/api.ErrFull", laid_barrow_api_ErrFull), ("barrow/api.ErrFrozen", laid_barrow_api_ErrFrozen), ("barrow/api.ErrForm", laid_barrow_api_ErrForm), ("barrow/api.ErrShort", laid_barrow_api_ErrShort), ("barrow/api.ErrOrder", laid_barrow_api_ErrOrder), ("barrow/api.ErrTwice", laid_barrow_api_ErrTwice), ("barrow/api.ErrEpoch", laid_barrow_api_ErrEpoch), ("barrow/api.ErrBusy", laid_barrow_api_ErrBusy), ("barrow/api.ErrNone", laid_barrow_api_ErrNone), ("barrow/api.ErrRoom", laid_barrow_api_ErrRoom), ("barrow/api.ErrOther", laid_barrow_api_ErrOther), ("unicode/utf8.first", laid_unicode_utf8_first)] }
def DiffApplySaid : Prop := diffApplyRow.holds Tryd.pinned (OpenSpec.ofChange diffApplySpec)

/-- ITS FALSE NEIGHBOUR: 'it returns false'. Refute it at one input. -/
def diffApplyWrong : ChangeSpec := { name := "diffApply", fn := fun _ => fun
  | [d] => { results := [.lit (.bool false)], args := [d] }
  | _ => none }
def DiffApplyWrongFalsely : Prop := diffApplyRow.holds Tryd.pinned (OpenSpec.ofChange diffApplyWrong)

/- THE SECOND FORM. 'bulk': how many values and letters a reading holds, each counted each time it is reached (what is shared counts as often as it is met; a slice's spare places count too). A statement '..UptoSaid' is the law's where the arguments, and the package variables that the reading takes, are together of bulk at most 1048576: NARROWER than '..Said'. Prove '..Said' where nothing that the law and all that it calls make is longer than what came in: it says more and counts as full. Else prove '..UptoSaid'. A law counts once. -/
mutual
def uptoBulk {H : Type} : DataW H → Nat
  | .lit (.string bytes) => bytes.length + 1
  | .lit _ => 1
  | .nil => 1
  | .ptr d => uptoBulk d + 1
  | .slice elems spare => uptoBulkAll elems + uptoBulkAll spare + 1
  | .agg parts => uptoBulkAll parts + 1
  | .iface _ d => uptoBulk d + 1
  | .map entries => uptoBulkEntries entries + 1
  | .held _ => 1
def uptoBulkAll {H : Type} : List (DataW H) → Nat
  | [] => 0
  | d :: r => uptoBulk d + uptoBulkAll r
def uptoBulkEntries {H : Type} : List (Lit × DataW H) → Nat
  | [] => 0
  | x :: r => uptoBulkEntry x + uptoBulkEntries r
def uptoBulkEntry {H : Type} : Lit × DataW H → Nat
  | (.string bytes, d) => bytes.length + uptoBulk d + 1
  | (_, d) => uptoBulk d + 1
 end
def uptoSmall : (H : Type) → List (DataW H) → Bool := fun _ ds => decide (uptoBulkAll ds ≤ 1048576)
def OpenSpec.upto (s : _root_.Go.ChangeSpec) : _root_.Go.OpenSpec := { _root_.Go.OpenSpec.ofChange s with cond := some uptoSmall }

/-- 'barrowlaw15.DiffMetric', WHERE WHAT IT READS IS OF BULK AT MOST 1048576: true; the input reads as it did. -/
def diffMetricUptoRow : OpenClaim := { program := "ytgoifgockcpnhaadoor", sum := "5d184aae4c96748b6316a2ed4d2266d3b7b4a540ccd7a4c624c47d57fb3a0ef4", func := "barrow/barrowlaw15.DiffMetric", spec := "diffMetric", unfollowed := true, recurses := true, named := ["barrow/api.ErrText", "barrow/api.ErrRoom", "unicode/utf8.first", "unicode/utf8.acceptRanges"], apart := false, laid := [("unicode/utf8.acceptRanges", laid_unicode_utf8_acceptRanges), ("barrow/api.ErrText", laid_barrow_api_ErrText), ("barrow/api.ErrRoom", laid_barrow_api_ErrRoom), ("unicode/utf8.first", laid_unicode_utf8_first)], narrowed := true }
def DiffMetricUptoSaid : Prop := diffMetricUptoRow.holds Tryd.pinned (OpenSpec.upto diffMetricSpec)

/-- 'barrowlaw15.DiffCommon', WHERE WHAT IT READS IS OF BULK AT MOST 1048576: true; the input reads as it did. -/
def diffCommonUptoRow : OpenClaim := { program := "ytgoifgockcpnhaadoor", sum := "5d184aae4c96748b6316a2ed4d2266d3b7b4a540ccd7a4c624c47d57fb3a0ef4", func := "barrow/barrowlaw15.DiffCommon", spec := "diffCommon", unfollowed := true, recurses := true, named := ["barrow/api.ErrText", "barrow/api.ErrRoom", "unicode/utf8.first", "unicode/utf8.acceptRanges"], apart := false, laid := [("unicode/utf8.acceptRanges", laid_unicode_utf8_acceptRanges), ("barrow/api.ErrText", laid_barrow_api_ErrText), ("barrow/api.ErrRoom", laid_barrow_api_ErrRoom), ("unicode/utf8.first", laid_unicode_utf8_first)], narrowed := true }
def DiffCommonUptoSaid : Prop := diffCommonUptoRow.holds Tryd.pinned (OpenSpec.upto diffCommonSpec)

/-- 'barrowlaw15.DiffShortest', WHERE WHAT IT READS IS OF BULK AT MOST 1048576: true; the input reads as it did. -/
def diffShortestUptoRow : OpenClaim := { program := "ytgoifgockcpnhaadoor", sum := "5d184aae4c96748b6316a2ed4d2266d3b7b4a540ccd7a4c624c47d57fb3a0ef4", func := "barrow/barrowlaw15.DiffShortest", spec := "diffShortest", unfollowed := true, recurses := true, named := ["barrow/api.ErrText", "barrow/api.ErrRoom", "unicode/utf8.first", "unicode/utf8.acceptRanges", "barrow/api.ErrRange"], apart := false, laid := [("unicode/utf8.acceptRanges", laid_unicode_utf8_acceptRanges), ("barrow/api.ErrRange", laid_barrow_api_ErrRange), ("barrow/api.ErrText", laid_barrow_api_ErrText), ("barrow/api.ErrRoom", laid_barrow_api_ErrRoom), ("unicode/utf8.first", laid_unicode_utf8_first)], narrowed := true }
def DiffShortestUptoSaid : Prop := diffShortestUptoRow.holds Tryd.pinned (OpenSpec.upto diffShortestSpec)

/-- 'barrowlaw15.DiffBack', WHERE WHAT IT READS IS OF BULK AT MOST 1048576: true; the input reads as it did. -/
def diffBackUptoRow : OpenClaim := { program := "ytgoifgockcpnhaadoor", sum := "5d184aae4c96748b6316a2ed4d2266d3b7b4a540ccd7a4c624c47d57fb3a0ef4", func := "barrow/barrowlaw15.DiffBack", spec := "diffBack", unfollowed := true, recurses := true, named := ["barrow/api.ErrText", "barrow/api.ErrRange", "unicode/utf8.first", "unicode/utf8.acceptRanges", "barrow/api.ErrRoom"], apart := false, laid := [("unicode/utf8.acceptRanges", laid_unicode_utf8_acceptRanges), ("barrow/api.ErrRange", laid_barrow_api_ErrRange), ("barrow/api.ErrText", laid_barrow_api_ErrText), ("barrow/api.ErrRoom", laid_barrow_api_ErrRoom), ("unicode/utf8.first", laid_unicode_utf8_first)], narrowed := true }
def DiffBackUptoSaid : Prop := diffBackUptoRow.holds Tryd.pinned (OpenSpec.upto diffBackSpec)

/-- 'barrowlaw15.DiffExact', WHERE WHAT IT READS IS OF BULK AT MOST 1048576: true; the input reads as it did. -/
def diffExactUptoRow : OpenClaim := { program := "ytgoifgockcpnhaadoor", sum := "5d184aae4c96748b6316a2ed4d2266d3b7b4a540ccd7a4c624c47d57fb3a0ef4", func := "barrow/barrowlaw15.DiffExact", spec := "diffExact", unfollowed := true, recurses := true, named := ["barrow/api.ErrText", "barrow/api.ErrRoom", "unicode/utf8.first", "unicode/utf8.acceptRanges", "barrow/api.ErrArg", "barrow/api.ErrRange", "barrow/api.ErrFull", "barrow/api.ErrFrozen", "barrow/api.ErrForm", "barrow/api.ErrShort", "barrow/api.ErrOrder", "barrow/api.ErrTwice", "barrow/api.ErrEpoch", "barrow/api.ErrBusy", "barrow/api.ErrNone", "barrow/api.ErrOther"], apart := false, laid := [("unicode/utf8.acceptRanges", laid_unicode_utf8_acceptRanges), ("barrow/api.ErrArg", laid_barrow_api_ErrArg), ("barrow/api.ErrRange", laid_barrow_api_ErrRange), ("barrow/api.ErrText", laid_barrow_api_ErrText), ("barrow/api.ErrFull", laid_barrow_api_ErrFull), ("barrow/api.ErrFrozen", laid_barrow_api_ErrFrozen), ("barrow/api.ErrForm", laid_barrow_api_ErrForm), ("barrow/api.ErrShort", laid_barrow_api_ErrShort), ("barrow/api.ErrOrder", laid_barrow_api_ErrOrder), ("barrow/api.ErrTwice", laid_barrow_api_ErrTwice), ("barrow/api.ErrEpoch", laid_barrow_api_ErrEpoch), ("barrow/api.ErrBusy", laid_barrow_api_ErrBusy), ("barrow/api.ErrNone", laid_barrow_api_ErrNone), ("barrow/api.ErrRoom", laid_barrow_api_ErrRoom), ("barrow/api.ErrOther", laid_barrow_api_ErrOther), ("unicode/utf8.first", laid_unicode_utf8_first)], narrowed := true }
def DiffExactUptoSaid : Prop := diffExactUptoRow.holds Tryd.pinned (OpenSpec.upto diffExactSpec)

/-- 'barrowlaw15.DiffRoom', WHERE WHAT IT READS IS OF BULK AT MOST 1048576: true; the input reads as it did. -/
def diffRoomUptoRow : OpenClaim := { program := "ytgoifgockcpnhaadoor", sum := "5d184aae4c96748b6316a2ed4d2266d3b7b4a540ccd7a4c624c47d57fb3a0ef4", func := "barrow/barrowlaw15.DiffRoom", spec := "diffRoom", unfollowed := true, recurses := true, named := ["barrow/api.ErrText", "barrow/api.ErrRoom", "unicode/utf8.first", "unicode/utf8.acceptRanges", "barrow/api.ErrArg", "barrow/api.ErrRange", "barrow/api.ErrFull", "barrow/api.ErrFrozen", "barrow/api.ErrForm", "barrow/api.ErrShort", "barrow/api.ErrOrder", "barrow/api.ErrTwice", "barrow/api.ErrEpoch", "barrow/api.ErrBusy", "barrow/api.ErrNone", "barrow/api.ErrOther"], apart := false, laid := [("unicode/utf8.acceptRanges", laid_unicode_utf8_acceptRanges), ("barrow/api.ErrArg", laid_barrow_api_ErrArg), ("barrow/api.ErrRange", laid_barrow_api_ErrRange), ("barrow/api.ErrText", laid_barrow_api_ErrText), ("barrow/api.ErrFull", laid_barrow_api_ErrFull), ("barrow/api.ErrFrozen", laid_barrow_api_ErrFrozen), ("barrow/api.ErrForm", laid_barrow_api_ErrForm), ("barrow/api.ErrShort", laid_barrow_api_ErrShort), ("barrow/api.ErrOrder", laid_barrow_api_ErrOrder), ("barrow/api.ErrTwice", laid_barrow_api_ErrTwice), ("barrow/api.ErrEpoch", laid_barrow_api_ErrEpoch), ("barrow/api.ErrBusy", laid_barrow_api_ErrBusy), ("barrow/api.ErrNone", laid_barrow_api_ErrNone), ("barrow/api.ErrRoom", laid_barrow_api_ErrRoom), ("barrow/api.ErrOther", laid_barrow_api_ErrOther), ("unicode/utf8.first", laid_unicode_utf8_first)], narrowed := true }
def DiffRoomUptoSaid : Prop := diffRoomUptoRow.holds Tryd.pinned (OpenSpec.upto diffRoomSpec)

/-- 'barrowlaw15.DiffApply', WHERE WHAT IT READS IS OF BULK AT MOST 1048576: true; the input reads as it did. -/
def diffApplyUptoRow : OpenClaim := { program := "ytgoifgockcpnhaadoor", sum := "5d184aae4c96748b6316a2ed4d2266d3b7b4a540ccd7a4c624c47d57fb3a0ef4", func := "barrow/barrowlaw15.DiffApply", spec := "diffApply", unfollowed := true, recurses := true, named := ["barrow/api.ErrText", "barrow/api.ErrRange", "unicode/utf8.first", "unicode/utf8.acceptRanges", "barrow/api.ErrArg", "barrow/api.ErrFull", "barrow/api.ErrFrozen", "barrow/api.ErrForm", "barrow/api.ErrShort", "barrow/api.ErrOrder", "barrow/api.ErrTwice", "barrow/api.ErrEpoch", "barrow/api.ErrBusy", "barrow/api.ErrNone", "barrow/api.ErrRoom", "barrow/api.ErrOther"], apart := false, laid := [("unicode/utf8.acceptRanges", laid_unicode_utf8_acceptRanges), ("barrow/api.ErrArg", laid_barrow_api_ErrArg), ("barrow/api.ErrRange", laid_barrow_api_ErrRange), ("barrow/api.ErrText", laid_barrow_api_ErrText), ("barrow/api.ErrFull", laid_barrow_api_ErrFull), ("barrow/api.ErrFrozen", laid_barrow_api_ErrFrozen), ("barrow/api.ErrForm", laid_barrow_api_ErrForm), ("barrow/api.ErrShort", laid_barrow_api_ErrShort), ("barrow/api.ErrOrder", laid_barrow_api_ErrOrder), ("barrow/api.ErrTwice", laid_barrow_api_ErrTwice), ("barrow/api.ErrEpoch", laid_barrow_api_ErrEpoch), ("barrow/api.ErrBusy", laid_barrow_api_ErrBusy), ("barrow/api.ErrNone", laid_barrow_api_ErrNone), ("barrow/api.ErrRoom", laid_barrow_api_ErrRoom), ("barrow/api.ErrOther", laid_barrow_api_ErrOther), ("unicode/utf8.first", laid_unicode_utf8_first)], narrowed := true }
def DiffApplyUptoSaid : Prop := diffApplyUptoRow.holds Tryd.pinned (OpenSpec.upto diffApplySpec)

end Rows
end Go.Proofs.YtgoifgockcpnhaaDoor
