/-
  NARROWER THAN 'FOR EVERY INPUT', by the rows' own cells (each row's printed sentence says how): BagSums: laid · BagNames: laid · BagOrder: laid · BagExact: laid · BagLoads: laid.
  DERIVED. THE GIVEN ROWS OF THIS SEAT. 5 by the template 'for every input the law returns true; each argument reads behind the call as it read before'; 0 by the template 'total and deterministic' (their statements: YtlgjippijbepkaaDoorTotals.lean).
  GIVEN WITH THE SEED: the statements are not yours to turn. If you find one false, say at which input.
  Laid BY PROGRAM, IN A SANDBOX (cutbox-rows.mjs): the forced cells as the released guide's own fill.sh prints them over the translation 0f299cc15d7a26d0… (all of the seat's roots in one cut). By AI agents, Wed Nov 11 2026. No macro, syntax, notation, axiom, sorry.
-/
import Derived.Test.YtlgjippijbepkaaDoorChecked
import GoSem.Claim
import GoSem.ClaimJoined
import GoSem.ClaimMapViews
import Derived.JoinedTies
import Derived.KernelRfl
namespace Go.Proofs.YtlgjippijbepkaaDoor
/- THE CELL 'sum', in the pinned program and in every row, IS THE sha256 OF THE DUMP (.gsa) THAT YtlgjippijbepkaaDoorProg.lean LOADS. Nothing in Lean hashes anything: it is a label: what it is worth is what the hold of that sum in a sandbox is worth. -/
noncomputable def Tryd.pinned : Pinned := { name := "ytlgjippijbepkaadoor", sum := "0f299cc15d7a26d07449d9f8cb834335ecd42a98d3da6b9cfcf4c0a36f357afe", checked := Tryd.checked }
namespace Rows
def none {H : Type} : Left H := { results := [], args := [] }

/- WHAT THE LISTED PACKAGE-LEVEL VARIABLES READ AS WHEN THE CALL BEGINS. Each datum BY PROGRAM (the guide's laid-datum.mjs) off the statement by which the dump's own 'gosem.cut.vars' lays the variable. In a bare row this is a premise. The card (YtlgjippijbepkaaDoorCards.lean) ties it to the program's text. -/
def laid_barrow_api_ErrArg {H : Type} : DataW H := .iface "*errors.errorString" (.ptr (.agg [.lit (.string [98, 97, 100, 32, 97, 114, 103, 117, 109, 101, 110, 116])]))
def laid_barrow_api_ErrRange {H : Type} : DataW H := .iface "*errors.errorString" (.ptr (.agg [.lit (.string [111, 117, 116, 32, 111, 102, 32, 114, 97, 110, 103, 101])]))
def laid_barrow_api_ErrRoom {H : Type} : DataW H := .iface "*errors.errorString" (.ptr (.agg [.lit (.string [110, 111, 32, 114, 111, 111, 109])]))
def laid_barrow_api_ErrText {H : Type} : DataW H := .iface "*errors.errorString" (.ptr (.agg [.lit (.string [98, 97, 100, 32, 116, 101, 120, 116])]))
def laid_barrow_api_ErrFull {H : Type} : DataW H := .iface "*errors.errorString" (.ptr (.agg [.lit (.string [110, 111, 32, 99, 114, 101, 100, 105, 116, 32, 108, 101, 102, 116])]))
def laid_barrow_api_ErrFrozen {H : Type} : DataW H := .iface "*errors.errorString" (.ptr (.agg [.lit (.string [102, 114, 111, 122, 101, 110])]))
def laid_barrow_api_ErrForm {H : Type} : DataW H := .iface "*errors.errorString" (.ptr (.agg [.lit (.string [98, 97, 100, 32, 102, 111, 114, 109])]))
def laid_barrow_api_ErrShort {H : Type} : DataW H := .iface "*errors.errorString" (.ptr (.agg [.lit (.string [99, 117, 116, 32, 115, 104, 111, 114, 116])]))
def laid_barrow_api_ErrOrder {H : Type} : DataW H := .iface "*errors.errorString" (.ptr (.agg [.lit (.string [110, 111, 116, 32, 121, 101, 116])]))
def laid_barrow_api_ErrTwice {H : Type} : DataW H := .iface "*errors.errorString" (.ptr (.agg [.lit (.string [116, 104, 101, 114, 101, 32, 97, 108, 114, 101, 97, 100, 121])]))
def laid_barrow_api_ErrEpoch {H : Type} : DataW H := .iface "*errors.errorString" (.ptr (.agg [.lit (.string [97, 110, 111, 116, 104, 101, 114, 32, 101, 112, 111, 99, 104])]))
def laid_barrow_api_ErrBusy {H : Type} : DataW H := .iface "*errors.errorString" (.ptr (.agg [.lit (.string [98, 117, 115, 121])]))
def laid_barrow_api_ErrNone {H : Type} : DataW H := .iface "*errors.errorString" (.ptr (.agg [.lit (.string [110, 111, 116, 104, 105, 110, 103, 32, 116, 104, 101, 114, 101])]))
def laid_barrow_api_ErrOther {H : Type} : DataW H := .iface "*errors.errorString" (.ptr (.agg [.lit (.string [115, 111, 109, 101, 116, 104, 105, 110, 103, 32, 101, 108, 115, 101])]))

/-- 'barrowlaw10.BagSums': WHATEVER THE INPUT: true; the input reads as it did. -/
def bagSumsSpec : ChangeSpec := { name := "bagSums", fn := fun _ => fun
  | [d1, d2] => { results := [.lit (.bool true)], args := [d1, d2] }
  | _ => none }
def bagSumsRow : OpenClaim := { program := "ytlgjippijbepkaadoor", sum := "0f299cc15d7a26d07449d9f8cb834335ecd42a98d3da6b9cfcf4c0a36f357afe", func := "barrow/barrowlaw10.BagSums", spec := "bagSums", named := ["barrow/api.ErrArg", "barrow/api.ErrRoom", "barrow/api.ErrRange"], apart := false, laid := [("barrow/api.ErrArg", laid_barrow_api_ErrArg), ("barrow/api.ErrRange", laid_barrow_api_ErrRange), ("barrow/api.ErrRoom", laid_barrow_api_ErrRoom)] }
def BagSumsSaid : Prop := bagSumsRow.holds Tryd.pinned (OpenSpec.ofChange bagSumsSpec)

/-- ITS FALSE NEIGHBOUR: 'it returns false'. Refute it at one input. -/
def bagSumsWrong : ChangeSpec := { name := "bagSums", fn := fun _ => fun
  | [d1, d2] => { results := [.lit (.bool false)], args := [d1, d2] }
  | _ => none }
def BagSumsWrongFalsely : Prop := bagSumsRow.holds Tryd.pinned (OpenSpec.ofChange bagSumsWrong)

/-- 'barrowlaw10.BagNames': WHATEVER THE INPUT: true; the input reads as it did. -/
def bagNamesSpec : ChangeSpec := { name := "bagNames", fn := fun _ => fun
  | [] => { results := [.lit (.bool true)], args := [] }
  | _ => none }
def bagNamesRow : OpenClaim := { program := "ytlgjippijbepkaadoor", sum := "0f299cc15d7a26d07449d9f8cb834335ecd42a98d3da6b9cfcf4c0a36f357afe", func := "barrow/barrowlaw10.BagNames", spec := "bagNames", unfollowed := true, recurses := true, named := ["barrow/api.ErrArg", "barrow/api.ErrRange", "barrow/api.ErrText", "barrow/api.ErrFull", "barrow/api.ErrFrozen", "barrow/api.ErrForm", "barrow/api.ErrShort", "barrow/api.ErrOrder", "barrow/api.ErrTwice", "barrow/api.ErrEpoch", "barrow/api.ErrBusy", "barrow/api.ErrNone", "barrow/api.ErrRoom", "barrow/api.ErrOther"], apart := false, laid := [("barrow/api.ErrArg", laid_barrow_api_ErrArg), ("barrow/api.ErrRange", laid_barrow_api_ErrRange), ("barrow/api.ErrText", laid_barrow_api_ErrText), ("barrow/api.ErrFull", laid_barrow_api_ErrFull), ("barrow/api.ErrFrozen", laid_barrow_api_ErrFrozen), ("barrow/api.ErrForm", laid_barrow_api_ErrForm), ("barrow/api.ErrShort", laid_barrow_api_ErrShort), ("barrow/api.ErrOrder", laid_barrow_api_ErrOrder), ("barrow/api.ErrTwice", laid_barrow_api_ErrTwice), ("barrow/api.ErrEpoch", laid_barrow_api_ErrEpoch), ("barrow/api.ErrBusy", laid_barrow_api_ErrBusy), ("barrow/api.ErrNone", laid_barrow_api_ErrNone), ("barrow/api.ErrRoom", laid_barrow_api_ErrRoom), ("barrow/api.ErrOther", laid_barrow_api_ErrOther)] }
def BagNamesSaid : Prop := bagNamesRow.holds Tryd.pinned (OpenSpec.ofChange bagNamesSpec)

/-- ITS FALSE NEIGHBOUR: 'it returns false'. Refute it at one input. -/
def bagNamesWrong : ChangeSpec := { name := "bagNames", fn := fun _ => fun
  | [] => { results := [.lit (.bool false)], args := [] }
  | _ => none }
def BagNamesWrongFalsely : Prop := bagNamesRow.holds Tryd.pinned (OpenSpec.ofChange bagNamesWrong)

/-- 'barrowlaw10.BagOrder': WHATEVER THE INPUT: true; the input reads as it did. -/
def bagOrderSpec : ChangeSpec := { name := "bagOrder", fn := fun _ => fun
  | [d1, d2] => { results := [.lit (.bool true)], args := [d1, d2] }
  | _ => none }
def bagOrderRow : OpenClaim := { program := "ytlgjippijbepkaadoor", sum := "0f299cc15d7a26d07449d9f8cb834335ecd42a98d3da6b9cfcf4c0a36f357afe", func := "barrow/barrowlaw10.BagOrder", spec := "bagOrder", unfollowed := true, recurses := true, named := ["barrow/api.ErrArg", "barrow/api.ErrForm", "barrow/api.ErrRange", "barrow/api.ErrText", "barrow/api.ErrFull", "barrow/api.ErrFrozen", "barrow/api.ErrShort", "barrow/api.ErrOrder", "barrow/api.ErrTwice", "barrow/api.ErrEpoch", "barrow/api.ErrBusy", "barrow/api.ErrNone", "barrow/api.ErrRoom", "barrow/api.ErrOther"], apart := false, laid := [("barrow/api.ErrArg", laid_barrow_api_ErrArg), ("barrow/api.ErrRange", laid_barrow_api_ErrRange), ("barrow/api.ErrText", laid_barrow_api_ErrText), ("barrow/api.ErrFull", laid_barrow_api_ErrFull), ("barrow/api.ErrFrozen", laid_barrow_api_ErrFrozen), ("barrow/api.ErrForm", laid_barrow_api_ErrForm), ("barrow/api.ErrShort", laid_barrow_api_ErrShort), ("barrow/api.ErrOrder", laid_barrow_api_ErrOrder), ("barrow/api.ErrTwice", laid_barrow_api_ErrTwice), ("barrow/api.ErrEpoch", laid_barrow_api_ErrEpoch), ("barrow/api.ErrBusy", laid_barrow_api_ErrBusy), ("barrow/api.ErrNone", laid_barrow_api_ErrNone), ("barrow/api.ErrRoom", laid_barrow_api_ErrRoom), ("barrow/api.ErrOther", laid_barrow_api_ErrOther)] }
def BagOrderSaid : Prop := bagOrderRow.holds Tryd.pinned (OpenSpec.ofChange bagOrderSpec)

/-- ITS FALSE NEIGHBOUR: 'it returns false'. Refute it at one input. -/
def bagOrderWrong : ChangeSpec := { name := "bagOrder", fn := fun _ => fun
  | [d1, d2] => { results := [.lit (.bool false)], args := [d1, d2] }
  | _ => none }
def BagOrderWrongFalsely : Prop := bagOrderRow.holds Tryd.pinned (OpenSpec.ofChange bagOrderWrong)

/-- 'barrowlaw10.BagExact': WHATEVER THE INPUT: true; the input reads as it did. -/
def bagExactSpec : ChangeSpec := { name := "bagExact", fn := fun _ => fun
  | [d1, d2] => { results := [.lit (.bool true)], args := [d1, d2] }
  | _ => none }
def bagExactRow : OpenClaim := { program := "ytlgjippijbepkaadoor", sum := "0f299cc15d7a26d07449d9f8cb834335ecd42a98d3da6b9cfcf4c0a36f357afe", func := "barrow/barrowlaw10.BagExact", spec := "bagExact", unfollowed := true, recurses := true, named := ["barrow/api.ErrArg", "barrow/api.ErrRange", "barrow/api.ErrText", "barrow/api.ErrFull", "barrow/api.ErrFrozen", "barrow/api.ErrForm", "barrow/api.ErrShort", "barrow/api.ErrOrder", "barrow/api.ErrTwice", "barrow/api.ErrEpoch", "barrow/api.ErrBusy", "barrow/api.ErrNone", "barrow/api.ErrRoom", "barrow/api.ErrOther"], apart := false, laid := [("barrow/api.ErrArg", laid_barrow_api_ErrArg), ("barrow/api.ErrRange", laid_barrow_api_ErrRange), ("barrow/api.ErrText", laid_barrow_api_ErrText), ("barrow/api.ErrFull", laid_barrow_api_ErrFull), ("barrow/api.ErrFrozen", laid_barrow_api_ErrFrozen), ("barrow/api.ErrForm", laid_barrow_api_ErrForm), ("barrow/api.ErrShort", laid_barrow_api_ErrShort), ("barrow/api.ErrOrder", laid_barrow_api_ErrOrder), ("barrow/api.ErrTwice", laid_barrow_api_ErrTwice), ("barrow/api.ErrEpoch", laid_barrow_api_ErrEpoch), ("barrow/api.ErrBusy", laid_barrow_api_ErrBusy), ("barrow/api.ErrNone", laid_barrow_api_ErrNone), ("barrow/api.ErrRoom", laid_barrow_api_ErrRoom), ("barrow/api.ErrOther", laid_barrow_api_ErrOther)] }
def BagExactSaid : Prop := bagExactRow.holds Tryd.pinned (OpenSpec.ofChange bagExactSpec)

/-- ITS FALSE NEIGHBOUR: 'it returns false'. Refute it at one input. -/
def bagExactWrong : ChangeSpec := { name := "bagExact", fn := fun _ => fun
  | [d1, d2] => { results := [.lit (.bool false)], args := [d1, d2] }
  | _ => none }
def BagExactWrongFalsely : Prop := bagExactRow.holds Tryd.pinned (OpenSpec.ofChange bagExactWrong)

/-- 'barrowlaw10.BagLoads': WHATEVER THE INPUT: true; the input reads as it did. -/
def bagLoadsSpec : ChangeSpec := { name := "bagLoads", fn := fun _ => fun
  | [d1, d2, d3] => { results := [.lit (.bool true)], args := [d1, d2, d3] }
  | _ => none }
def bagLoadsRow : OpenClaim := { program := "ytlgjippijbepkaadoor", sum := "0f299cc15d7a26d07449d9f8cb834335ecd42a98d3da6b9cfcf4c0a36f357afe", func := "barrow/barrowlaw10.BagLoads", spec := "bagLoads", unfollowed := true, recurses := true, named := ["barrow/api.ErrArg", "barrow/api.ErrForm", "barrow/api.ErrRange", "barrow/api.ErrText", "barrow/api.ErrFull", "barrow/api.ErrFrozen", "barrow/api.ErrShort", "barrow/api.ErrOrder", "barrow/api.ErrTwice", "barrow/api.ErrEpoch", "barrow/api.ErrBusy", "barrow/api.ErrNone", "barrow/api.ErrRoom", "barrow/api.ErrOther"], apart := false, laid := [("barrow/api.ErrArg", laid_barrow_api_ErrArg), ("barrow/api.ErrRange", laid_barrow_api_ErrRange), ("barrow/api.ErrText", laid_barrow_api_ErrText), ("barrow/api.ErrFull", laid_barrow_api_ErrFull), ("barrow/api.ErrFrozen", laid_barrow_api_ErrFrozen), ("barrow/api.ErrForm", laid_barrow_api_ErrForm), ("barrow/api.ErrShort", laid_barrow_api_ErrShort), ("barrow/api.ErrOrder", laid_barrow_api_ErrOrder), ("barrow/api.ErrTwice", laid_barrow_api_ErrTwice), ("barrow/api.ErrEpoch", laid_barrow_api_ErrEpoch), ("barrow/api.ErrBusy", laid_barrow_api_ErrBusy), ("barrow/api.ErrNone", laid_barrow_api_ErrNone), ("barrow/api.ErrRoom", laid_barrow_api_ErrRoom), ("barrow/api.ErrOther", laid_barrow_api_ErrOther)] }
def BagLoadsSaid : Prop := bagLoadsRow.holds Tryd.pinned (OpenSpec.ofChange bagLoadsSpec)

/-- ITS FALSE NEIGHBOUR: 'it returns false'. Refute it at one input. -/
def bagLoadsWrong : ChangeSpec := { name := "bagLoads", fn := fun _ => fun
  | [d1, d2, d3] => { results := [.lit (.bool false)], args := [d1, d2, d3] }
  | _ => none }
def BagLoadsWrongFalsely : Prop := bagLoadsRow.holds Tryd.pinned (OpenSpec.ofChange bagLoadsWrong)

/- THE SECOND FORM. 'bulk': how many values and letters a reading holds, each counted each time it is reached (what is shared counts as often as it is met; a slice's spare places count too). A statement '..UptoSaid' is the law's where the arguments, and the package variables that the reading takes, are together of bulk at most 1048576: NARROWER than '..Said'. Prove '..Said' where nothing that the law and all that it calls make is longer than what came in: it says more and counts as full. Else prove '..UptoSaid'. A law counts once. -/
mutual
def uptoBulk {H : Type} : DataW H → Nat
  | .lit (.string bytes) => bytes.length + 1
  | .lit _ => 1
  | .nil => 1
  | .ptr d => uptoBulk d + 1
  | .slice elems spare => uptoBulkAll elems + uptoBulkAll spare + 1
  | .agg parts => uptoBulkAll parts + 1
  | .iface _ d => uptoBulk d + 1
  | .map entries => uptoBulkEntries entries + 1
  | .held _ => 1
def uptoBulkAll {H : Type} : List (DataW H) → Nat
  | [] => 0
  | d :: r => uptoBulk d + uptoBulkAll r
def uptoBulkEntries {H : Type} : List (Lit × DataW H) → Nat
  | [] => 0
  | x :: r => uptoBulkEntry x + uptoBulkEntries r
def uptoBulkEntry {H : Type} : Lit × DataW H → Nat
  | (.string bytes, d) => bytes.length + uptoBulk d + 1
  | (_, d) => uptoBulk d + 1
 end
def uptoSmall : (H : Type) → List (DataW H) → Bool := fun _ ds => decide (uptoBulkAll ds ≤ 1048576)
def OpenSpec.upto (s : _root_.Go.ChangeSpec) : _root_.Go.OpenSpec := { _root_.Go.OpenSpec.ofChange s with cond := some uptoSmall }

/-- 'barrowlaw10.BagSums', WHERE WHAT IT READS IS OF BULK AT MOST 1048576: true; the input reads as it did. -/
def bagSumsUptoRow : OpenClaim := { program := "ytlgjippijbepkaadoor", sum := "0f299cc15d7a26d07449d9f8cb834335ecd42a98d3da6b9cfcf4c0a36f357afe", func := "barrow/barrowlaw10.BagSums", spec := "bagSums", named := ["barrow/api.ErrArg", "barrow/api.ErrRoom", "barrow/api.ErrRange"], apart := false, laid := [("barrow/api.ErrArg", laid_barrow_api_ErrArg), ("barrow/api.ErrRange", laid_barrow_api_ErrRange), ("barrow/api.ErrRoom", laid_barrow_api_ErrRoom)], narrowed := true }
def BagSumsUptoSaid : Prop := bagSumsUptoRow.holds Tryd.pinned (OpenSpec.upto bagSumsSpec)

/-- 'barrowlaw10.BagNames', WHERE WHAT IT READS IS OF BULK AT MOST 1048576: true; the input reads as it did. -/
def bagNamesUptoRow : OpenClaim := { program := "ytlgjippijbepkaadoor", sum := "0f299cc15d7a26d07449d9f8cb834335ecd42a98d3da6b9cfcf4c0a36f357afe", func := "barrow/barrowlaw10.BagNames", spec := "bagNames", unfollowed := true, recurses := true, named := ["barrow/api.ErrArg", "barrow/api.ErrRange", "barrow/api.ErrText", "barrow/api.ErrFull", "barrow/api.ErrFrozen", "barrow/api.ErrForm", "barrow/api.ErrShort", "barrow/api.ErrOrder", "barrow/api.ErrTwice", "barrow/api.ErrEpoch", "barrow/api.ErrBusy", "barrow/api.ErrNone", "barrow/api.ErrRoom", "barrow/api.ErrOther"], apart := false, laid := [("barrow/api.ErrArg", laid_barrow_api_ErrArg), ("barrow/api.ErrRange", laid_barrow_api_ErrRange), ("barrow/api.ErrText", laid_barrow_api_ErrText), ("barrow/api.ErrFull", laid_barrow_api_ErrFull), ("barrow/api.ErrFrozen", laid_barrow_api_ErrFrozen), ("barrow/api.ErrForm", laid_barrow_api_ErrForm), ("barrow/api.ErrShort", laid_barrow_api_ErrShort), ("barrow/api.ErrOrder", laid_barrow_api_ErrOrder), ("barrow/api.ErrTwice", laid_barrow_api_ErrTwice), ("barrow/api.ErrEpoch", laid_barrow_api_ErrEpoch), ("barrow/api.ErrBusy", laid_barrow_api_ErrBusy), ("barrow/api.ErrNone", laid_barrow_api_ErrNone), ("barrow/api.ErrRoom", laid_barrow_api_ErrRoom), ("barrow/api.ErrOther", laid_barrow_api_ErrOther)], narrowed := true }
def BagNamesUptoSaid : Prop := bagNamesUptoRow.holds Tryd.pinned (OpenSpec.upto bagNamesSpec)

/-- 'barrowlaw10.BagOrder', WHERE WHAT IT READS IS OF BULK AT MOST 1048576: true; the input reads as it did. -/
def bagOrderUptoRow : OpenClaim := { program := "ytlgjippijbepkaadoor", sum := "0f299cc15d7a26d07449d9f8cb834335ecd42a98d3da6b9cfcf4c0a36f357afe", func := "barrow/barrowlaw10.BagOrder", spec := "bagOrder", unfollowed := true, recurses := true, named := ["barrow/api.ErrArg", "barrow/api.ErrForm", "barrow/api.ErrRange", "barrow/api.ErrText", "barrow/api.ErrFull", "barrow/api.ErrFrozen", "barrow/api.ErrShort", "barrow/api.ErrOrder", "barrow/api.ErrTwice", "barrow/api.ErrEpoch", "barrow/api.ErrBusy", "barrow/api.ErrNone", "barrow/api.ErrRoom", "barrow/api.ErrOther"], apart := false, laid := [("barrow/api.ErrArg", laid_barrow_api_ErrArg), ("barrow/api.ErrRange", laid_barrow_api_ErrRange), ("barrow/api.ErrText", laid_barrow_api_ErrText), ("barrow/api.ErrFull", laid_barrow_api_ErrFull), ("barrow/api.ErrFrozen", laid_barrow_api_ErrFrozen), ("barrow/api.ErrForm", laid_barrow_api_ErrForm), ("barrow/api.ErrShort", laid_barrow_api_ErrShort), ("barrow/api.ErrOrder", laid_barrow_api_ErrOrder), ("barrow/api.ErrTwice", laid_barrow_api_ErrTwice), ("barrow/api.ErrEpoch", laid_barrow_api_ErrEpoch), ("barrow/api.ErrBusy", laid_barrow_api_ErrBusy), ("barrow/api.ErrNone", laid_barrow_api_ErrNone), ("barrow/api.ErrRoom", laid_barrow_api_ErrRoom), ("barrow/api.ErrOther", laid_barrow_api_ErrOther)], narrowed := true }
def BagOrderUptoSaid : Prop := bagOrderUptoRow.holds Tryd.pinned (OpenSpec.upto bagOrderSpec)

/-- 'barrowlaw10.BagExact', WHERE WHAT IT READS IS OF BULK AT MOST 1048576: true; the input reads as it did. -/
def bagExactUptoRow : OpenClaim := { program := "ytlgjippijbepkaadoor", sum := "0f299cc15d7a26d07449d9f8cb834335ecd42a98d3da6b9cfcf4c0a36f357afe", func := "barrow/barrowlaw10.BagExact", spec := "bagExact", unfollowed := true, recurses := true, named := ["barrow/api.ErrArg", "barrow/api.ErrRange", "barrow/api.ErrText", "barrow/api.ErrFull", "barrow/api.ErrFrozen", "barrow/api.ErrForm", "barrow/api.ErrShort", "barrow/api.ErrOrder", "barrow/api.ErrTwice", "barrow/api.ErrEpoch", "barrow/api.ErrBusy", "barrow/api.ErrNone", "barrow/api.ErrRoom", "barrow/api.ErrOther"], apart := false, laid := [("barrow/api.ErrArg", laid_barrow_api_ErrArg), ("barrow/api.ErrRange", laid_barrow_api_ErrRange), ("barrow/api.ErrText", laid_barrow_api_ErrText), ("barrow/api.ErrFull", laid_barrow_api_ErrFull), ("barrow/api.ErrFrozen", laid_barrow_api_ErrFrozen), ("barrow/api.ErrForm", laid_barrow_api_ErrForm), ("barrow/api.ErrShort", laid_barrow_api_ErrShort), ("barrow/api.ErrOrder", laid_barrow_api_ErrOrder), ("barrow/api.ErrTwice", laid_barrow_api_ErrTwice), ("barrow/api.ErrEpoch", laid_barrow_api_ErrEpoch), ("barrow/api.ErrBusy", laid_barrow_api_ErrBusy), ("barrow/api.ErrNone", laid_barrow_api_ErrNone), ("barrow/api.ErrRoom", laid_barrow_api_ErrRoom), ("barrow/api.ErrOther", laid_barrow_api_ErrOther)], narrowed := true }
def BagExactUptoSaid : Prop := bagExactUptoRow.holds Tryd.pinned (OpenSpec.upto bagExactSpec)

/-- 'barrowlaw10.BagLoads', WHERE WHAT IT READS IS OF BULK AT MOST 1048576: true; the input reads as it did. -/
def bagLoadsUptoRow : OpenClaim := { program := "ytlgjippijbepkaadoor", sum := "0f299cc15d7a26d07449d9f8cb834335ecd42a98d3da6b9cfcf4c0a36f357afe", func := "barrow/barrowlaw10.BagLoads", spec := "bagLoads", unfollowed := true, recurses := true, named := ["barrow/api.ErrArg", "barrow/api.ErrForm", "barrow/api.ErrRange", "barrow/api.ErrText", "barrow/api.ErrFull", "barrow/api.ErrFrozen", "barrow/api.ErrShort", "barrow/api.ErrOrder", "barrow/api.ErrTwice", "barrow/api.ErrEpoch", "barrow/api.ErrBusy", "barrow/api.ErrNone", "barrow/api.ErrRoom", "barrow/api.ErrOther"], apart := false, laid := [("barrow/api.ErrArg", laid_barrow_api_ErrArg), ("barrow/api.ErrRange", laid_barrow_api_ErrRange), ("barrow/api.ErrText", laid_barrow_api_ErrText), ("barrow/api.ErrFull", laid_barrow_api_ErrFull), ("barrow/api.ErrFrozen", laid_barrow_api_ErrFrozen), ("barrow/api.ErrForm", laid_barrow_api_ErrForm), ("barrow/api.ErrShort", laid_barrow_api_ErrShort), ("barrow/api.ErrOrder", laid_barrow_api_ErrOrder), ("barrow/api.ErrTwice", laid_barrow_api_ErrTwice), ("barrow/api.ErrEpoch", laid_barrow_api_ErrEpoch), ("barrow/api.ErrBusy", laid_barrow_api_ErrBusy), ("barrow/api.ErrNone", laid_barrow_api_ErrNone), ("barrow/api.ErrRoom", laid_barrow_api_ErrRoom), ("barrow/api.ErrOther", laid_barrow_api_ErrOther)], narrowed := true }
def BagLoadsUptoSaid : Prop := bagLoadsUptoRow.holds Tryd.pinned (OpenSpec.upto bagLoadsSpec)

end Rows
end Go.Proofs.YtlgjippijbepkaaDoor
