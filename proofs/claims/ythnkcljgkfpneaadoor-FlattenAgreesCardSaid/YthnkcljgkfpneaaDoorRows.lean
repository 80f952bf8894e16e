/-
  NARROWER THAN 'FOR EVERY INPUT', by the rows' own cells (each row's printed sentence says how): FlattenVotes: laid · FlattenStage: laid · FlattenJoin: laid · FlattenAgrees: laid · FlattenCut: laid · FlattenNames: laid · FlattenExact: laid.
  DERIVED. THE GIVEN ROWS OF THIS SEAT. 7 by the template 'for every input the law returns true; each argument reads behind the call as it read before'; 0 by the template 'total and deterministic' (their statements: YthnkcljgkfpneaaDoorTotals.lean).
  GIVEN WITH THE SEED: the statements are not yours to turn. If you find one false, say at which input.
  Laid BY PROGRAM, IN A SANDBOX (cutbox-rows.mjs): the forced cells as the released guide's own fill.sh prints them over the translation cabf9505fe4380d7… (all of the seat's roots in one cut). By AI agents, Wed Nov 11 2026. No macro, syntax, notation, axiom, sorry.
-/
import Derived.Test.YthnkcljgkfpneaaDoorChecked
import GoSem.Claim
import GoSem.ClaimJoined
import GoSem.ClaimMapViews
import Derived.JoinedTies
import Derived.KernelRfl
namespace Go.Proofs.YthnkcljgkfpneaaDoor
/- THE CELL 'sum', in the pinned program and in every row, IS THE sha256 OF THE DUMP (.gsa) THAT YthnkcljgkfpneaaDoorProg.lean LOADS. Nothing in Lean hashes anything: it is a label: what it is worth is what the hold of that sum in a sandbox is worth. -/
noncomputable def Tryd.pinned : Pinned := { name := "ythnkcljgkfpneaadoor", sum := "cabf9505fe4380d71763a4b2061b7bed988c1e3c03649f5ebb0fe6dad3ff508a", checked := Tryd.checked }
namespace Rows
def none {H : Type} : Left H := { results := [], args := [] }

/- WHAT THE LISTED PACKAGE-LEVEL VARIABLES READ AS WHEN THE CALL BEGINS. Each datum BY PROGRAM (the guide's laid-datum.mjs) off the statement by which the dump's own 'gosem.cut.vars' lays the variable. In a bare row this is a premise. The card (YthnkcljgkfpneaaDoorCards.lean) ties it to the program's text. -/
def laid_barrow_api_ErrArg {H : Type} : DataW H := .iface "*errors.errorString" (.ptr (.agg [.lit (.string [98, 97, 100, 32, 97, 114, 103, 117, 109, 101, 110, 116])]))
def laid_barrow_api_ErrBusy {H : Type} : DataW H := .iface "*errors.errorString" (.ptr (.agg [.lit (.string [98, 117, 115, 121])]))
def laid_barrow_api_ErrRange {H : Type} : DataW H := .iface "*errors.errorString" (.ptr (.agg [.lit (.string [111, 117, 116, 32, 111, 102, 32, 114, 97, 110, 103, 101])]))
def laid_barrow_api_ErrText {H : Type} : DataW H := .iface "*errors.errorString" (.ptr (.agg [.lit (.string [98, 97, 100, 32, 116, 101, 120, 116])]))
def laid_barrow_api_ErrFull {H : Type} : DataW H := .iface "*errors.errorString" (.ptr (.agg [.lit (.string [110, 111, 32, 99, 114, 101, 100, 105, 116, 32, 108, 101, 102, 116])]))
def laid_barrow_api_ErrFrozen {H : Type} : DataW H := .iface "*errors.errorString" (.ptr (.agg [.lit (.string [102, 114, 111, 122, 101, 110])]))
def laid_barrow_api_ErrForm {H : Type} : DataW H := .iface "*errors.errorString" (.ptr (.agg [.lit (.string [98, 97, 100, 32, 102, 111, 114, 109])]))
def laid_barrow_api_ErrShort {H : Type} : DataW H := .iface "*errors.errorString" (.ptr (.agg [.lit (.string [99, 117, 116, 32, 115, 104, 111, 114, 116])]))
def laid_barrow_api_ErrOrder {H : Type} : DataW H := .iface "*errors.errorString" (.ptr (.agg [.lit (.string [110, 111, 116, 32, 121, 101, 116])]))
def laid_barrow_api_ErrTwice {H : Type} : DataW H := .iface "*errors.errorString" (.ptr (.agg [.lit (.string [116, 104, 101, 114, 101, 32, 97, 108, 114, 101, 97, 100, 121])]))
def laid_barrow_api_ErrEpoch {H : Type} : DataW H := .iface "*errors.errorString" (.ptr (.agg [.lit (.string [97, 110, 111, 116, 104, 101, 114, 32, 101, 112, 111, 99, 104])]))
def laid_barrow_api_ErrNone {H : Type} : DataW H := .iface "*errors.errorString" (.ptr (.agg [.lit (.string [110, 111, 116, 104, 105, 110, 103, 32, 116, 104, 101, 114, 101])]))
def laid_barrow_api_ErrRoom {H : Type} : DataW H := .iface "*errors.errorString" (.ptr (.agg [.lit (.string [110, 111, 32, 114, 111, 111, 109])]))
def laid_barrow_api_ErrOther {H : Type} : DataW H := .iface "*errors.errorString" (.ptr (.agg [.lit (.string [115, 111, 109, 101, 116, 104, 105, 110, 103, 32, 101, 108, 115, 101])]))

/-- 'barrowlaw12.FlattenVotes': WHATEVER THE INPUT: true; the input reads as it did. -/
def flattenVotesSpec : ChangeSpec := { name := "flattenVotes", fn := fun _ => fun
  | [d] => { results := [.lit (.bool true)], args := [d] }
  | _ => none }
def flattenVotesRow : OpenClaim := { program := "ythnkcljgkfpneaadoor", sum := "cabf9505fe4380d71763a4b2061b7bed988c1e3c03649f5ebb0fe6dad3ff508a", func := "barrow/barrowlaw12.FlattenVotes", spec := "flattenVotes", named := ["barrow/api.ErrArg", "barrow/api.ErrBusy"], apart := false, laid := [("barrow/api.ErrArg", laid_barrow_api_ErrArg), ("barrow/api.ErrBusy", laid_barrow_api_ErrBusy)] }
def FlattenVotesSaid : Prop := flattenVotesRow.holds Tryd.pinned (OpenSpec.ofChange flattenVotesSpec)

/-- ITS FALSE NEIGHBOUR: 'it returns false'. Refute it at one input. -/
def flattenVotesWrong : ChangeSpec := { name := "flattenVotes", fn := fun _ => fun
  | [d] => { results := [.lit (.bool false)], args := [d] }
  | _ => none }
def FlattenVotesWrongFalsely : Prop := flattenVotesRow.holds Tryd.pinned (OpenSpec.ofChange flattenVotesWrong)

/-- 'barrowlaw12.FlattenStage': WHATEVER THE INPUT: true; the input reads as it did. -/
def flattenStageSpec : ChangeSpec := { name := "flattenStage", fn := fun _ => fun
  | [d] => { results := [.lit (.bool true)], args := [d] }
  | _ => none }
def flattenStageRow : OpenClaim := { program := "ythnkcljgkfpneaadoor", sum := "cabf9505fe4380d71763a4b2061b7bed988c1e3c03649f5ebb0fe6dad3ff508a", func := "barrow/barrowlaw12.FlattenStage", spec := "flattenStage", named := ["barrow/api.ErrArg", "barrow/api.ErrBusy"], apart := false, laid := [("barrow/api.ErrArg", laid_barrow_api_ErrArg), ("barrow/api.ErrBusy", laid_barrow_api_ErrBusy)] }
def FlattenStageSaid : Prop := flattenStageRow.holds Tryd.pinned (OpenSpec.ofChange flattenStageSpec)

/-- ITS FALSE NEIGHBOUR: 'it returns false'. Refute it at one input. -/
def flattenStageWrong : ChangeSpec := { name := "flattenStage", fn := fun _ => fun
  | [d] => { results := [.lit (.bool false)], args := [d] }
  | _ => none }
def FlattenStageWrongFalsely : Prop := flattenStageRow.holds Tryd.pinned (OpenSpec.ofChange flattenStageWrong)

/-- 'barrowlaw12.FlattenJoin': WHATEVER THE INPUT: true; the input reads as it did. -/
def flattenJoinSpec : ChangeSpec := { name := "flattenJoin", fn := fun _ => fun
  | [d1, d2, d3] => { results := [.lit (.bool true)], args := [d1, d2, d3] }
  | _ => none }
def flattenJoinRow : OpenClaim := { program := "ythnkcljgkfpneaadoor", sum := "cabf9505fe4380d71763a4b2061b7bed988c1e3c03649f5ebb0fe6dad3ff508a", func := "barrow/barrowlaw12.FlattenJoin", spec := "flattenJoin", named := ["barrow/api.ErrArg", "barrow/api.ErrBusy"], apart := false, laid := [("barrow/api.ErrArg", laid_barrow_api_ErrArg), ("barrow/api.ErrBusy", laid_barrow_api_ErrBusy)] }
def FlattenJoinSaid : Prop := flattenJoinRow.holds Tryd.pinned (OpenSpec.ofChange flattenJoinSpec)

/-- ITS FALSE NEIGHBOUR: 'it returns false'. Refute it at one input. -/
def flattenJoinWrong : ChangeSpec := { name := "flattenJoin", fn := fun _ => fun
  | [d1, d2, d3] => { results := [.lit (.bool false)], args := [d1, d2, d3] }
  | _ => none }
def FlattenJoinWrongFalsely : Prop := flattenJoinRow.holds Tryd.pinned (OpenSpec.ofChange flattenJoinWrong)

/-- 'barrowlaw12.FlattenAgrees': WHATEVER THE INPUT: true; the input reads as it did. -/
def flattenAgreesSpec : ChangeSpec := { name := "flattenAgrees", fn := fun _ => fun
  | [d1, d2] => { results := [.lit (.bool true)], args := [d1, d2] }
  | _ => none }
def flattenAgreesRow : OpenClaim := { program := "ythnkcljgkfpneaadoor", sum := "cabf9505fe4380d71763a4b2061b7bed988c1e3c03649f5ebb0fe6dad3ff508a", func := "barrow/barrowlaw12.FlattenAgrees", spec := "flattenAgrees", named := ["barrow/api.ErrArg", "barrow/api.ErrBusy"], apart := false, laid := [("barrow/api.ErrArg", laid_barrow_api_ErrArg), ("barrow/api.ErrBusy", laid_barrow_api_ErrBusy)] }
def FlattenAgreesSaid : Prop := flattenAgreesRow.holds Tryd.pinned (OpenSpec.ofChange flattenAgreesSpec)

/-- ITS FALSE NEIGHBOUR: 'it returns false'. Refute it at one input. -/
def flattenAgreesWrong : ChangeSpec := { name := "flattenAgrees", fn := fun _ => fun
  | [d1, d2] => { results := [.lit (.bool false)], args := [d1, d2] }
  | _ => none }
def FlattenAgreesWrongFalsely : Prop := flattenAgreesRow.holds Tryd.pinned (OpenSpec.ofChange flattenAgreesWrong)

/-- 'barrowlaw12.FlattenCut': WHATEVER THE INPUT: true; the input reads as it did. -/
def flattenCutSpec : ChangeSpec := { name := "flattenCut", fn := fun _ => fun
  | [d1, d2] => { results := [.lit (.bool true)], args := [d1, d2] }
  | _ => none }
def flattenCutRow : OpenClaim := { program := "ythnkcljgkfpneaadoor", sum := "cabf9505fe4380d71763a4b2061b7bed988c1e3c03649f5ebb0fe6dad3ff508a", func := "barrow/barrowlaw12.FlattenCut", spec := "flattenCut", named := ["barrow/api.ErrArg", "barrow/api.ErrBusy"], apart := false, laid := [("barrow/api.ErrArg", laid_barrow_api_ErrArg), ("barrow/api.ErrBusy", laid_barrow_api_ErrBusy)] }
def FlattenCutSaid : Prop := flattenCutRow.holds Tryd.pinned (OpenSpec.ofChange flattenCutSpec)

/-- ITS FALSE NEIGHBOUR: 'it returns false'. Refute it at one input. -/
def flattenCutWrong : ChangeSpec := { name := "flattenCut", fn := fun _ => fun
  | [d1, d2] => { results := [.lit (.bool false)], args := [d1, d2] }
  | _ => none }
def FlattenCutWrongFalsely : Prop := flattenCutRow.holds Tryd.pinned (OpenSpec.ofChange flattenCutWrong)

/-- 'barrowlaw12.FlattenNames': WHATEVER THE INPUT: true; the input reads as it did. -/
def flattenNamesSpec : ChangeSpec := { name := "flattenNames", fn := fun _ => fun
  | [] => { results := [.lit (.bool true)], args := [] }
  | _ => none }
def flattenNamesRow : OpenClaim := { program := "ythnkcljgkfpneaadoor", sum := "cabf9505fe4380d71763a4b2061b7bed988c1e3c03649f5ebb0fe6dad3ff508a", func := "barrow/barrowlaw12.FlattenNames", spec := "flattenNames", unfollowed := true, recurses := true, named := ["barrow/api.ErrArg", "barrow/api.ErrRange", "barrow/api.ErrText", "barrow/api.ErrFull", "barrow/api.ErrFrozen", "barrow/api.ErrForm", "barrow/api.ErrShort", "barrow/api.ErrOrder", "barrow/api.ErrTwice", "barrow/api.ErrEpoch", "barrow/api.ErrBusy", "barrow/api.ErrNone", "barrow/api.ErrRoom", "barrow/api.ErrOther"], apart := false, laid := [("barrow/api.ErrArg", laid_barrow_api_ErrArg), ("barrow/api.ErrRange", laid_barrow_api_ErrRange), ("barrow/api.ErrText", laid_barrow_api_ErrText), ("barrow/api.ErrFull", laid_barrow_api_ErrFull), ("barrow/api.ErrFrozen", laid_barrow_api_ErrFrozen), ("barrow/api.ErrForm", laid_barrow_api_ErrForm), ("barrow/api.ErrShort", laid_barrow_api_ErrShort), ("barrow/api.ErrOrder", laid_barrow_api_ErrOrder), ("barrow/api.ErrTwice", laid_barrow_api_ErrTwice), ("barrow/api.ErrEpoch", laid_barrow_api_ErrEpoch), ("barrow/api.ErrBusy", laid_barrow_api_ErrBusy), ("barrow/api.ErrNone", laid_barrow_api_ErrNone), ("barrow/api.ErrRoom", laid_barrow_api_ErrRoom), ("barrow/api.ErrOther", laid_barrow_api_ErrOther)] }
def FlattenNamesSaid : Prop := flattenNamesRow.holds Tryd.pinned (OpenSpec.ofChange flattenNamesSpec)

/-- ITS FALSE NEIGHBOUR: 'it returns false'. Refute it at one input. -/
def flattenNamesWrong : ChangeSpec := { name := "flattenNames", fn := fun _ => fun
  | [] => { results := [.lit (.bool false)], args := [] }
  | _ => none }
def FlattenNamesWrongFalsely : Prop := flattenNamesRow.holds Tryd.pinned (OpenSpec.ofChange flattenNamesWrong)

/-- 'barrowlaw12.FlattenExact': WHATEVER THE INPUT: true; the input reads as it did. -/
def flattenExactSpec : ChangeSpec := { name := "flattenExact", fn := fun _ => fun
  | [d1, d2, d3] => { results := [.lit (.bool true)], args := [d1, d2, d3] }
  | _ => none }
def flattenExactRow : OpenClaim := { program := "ythnkcljgkfpneaadoor", sum := "cabf9505fe4380d71763a4b2061b7bed988c1e3c03649f5ebb0fe6dad3ff508a", func := "barrow/barrowlaw12.FlattenExact", spec := "flattenExact", unfollowed := true, recurses := true, named := ["barrow/api.ErrArg", "barrow/api.ErrRange", "barrow/api.ErrText", "barrow/api.ErrFull", "barrow/api.ErrFrozen", "barrow/api.ErrForm", "barrow/api.ErrShort", "barrow/api.ErrOrder", "barrow/api.ErrTwice", "barrow/api.ErrEpoch", "barrow/api.ErrBusy", "barrow/api.ErrNone", "barrow/api.ErrRoom", "barrow/api.ErrOther"], apart := false, laid := [("barrow/api.ErrArg", laid_barrow_api_ErrArg), ("barrow/api.ErrRange", laid_barrow_api_ErrRange), ("barrow/api.ErrText", laid_barrow_api_ErrText), ("barrow/api.ErrFull", laid_barrow_api_ErrFull), ("barrow/api.ErrFrozen", laid_barrow_api_ErrFrozen), ("barrow/api.ErrForm", laid_barrow_api_ErrForm), ("barrow/api.ErrShort", laid_barrow_api_ErrShort), ("barrow/api.ErrOrder", laid_barrow_api_ErrOrder), ("barrow/api.ErrTwice", laid_barrow_api_ErrTwice), ("barrow/api.ErrEpoch", laid_barrow_api_ErrEpoch), ("barrow/api.ErrBusy", laid_barrow_api_ErrBusy), ("barrow/api.ErrNone", laid_barrow_api_ErrNone), ("barrow/api.ErrRoom", laid_barrow_api_ErrRoom), ("barrow/api.ErrOther", laid_barrow_api_ErrOther)] }
def FlattenExactSaid : Prop := flattenExactRow.holds Tryd.pinned (OpenSpec.ofChange flattenExactSpec)

/-- ITS FALSE NEIGHBOUR: 'it returns false'. Refute it at one input. -/
def flattenExactWrong : ChangeSpec := { name := "flattenExact", fn := fun _ => fun
  | [d1, d2, d3] => { results := [.lit (.bool false)], args := [d1, d2, d3] }
  | _ => none }
def FlattenExactWrongFalsely : Prop := flattenExactRow.holds Tryd.pinned (OpenSpec.ofChange flattenExactWrong)

/- THE SECOND FORM. 'bulk': how many values and letters a reading holds, each counted each time it is reached (what is shared counts as often as it is met; a slice's spare places count too). A statement '..UptoSaid' is the law's where the arguments, and the package variables that the reading takes, are together of bulk at most 1048576: NARROWER than '..Said'. Prove '..Said' where nothing that the law and all that it calls make is longer than what came in: it says more and counts as full. Else prove '..UptoSaid'. A law counts once. -/
mutual
def uptoBulk {H : Type} : DataW H → Nat
  | .lit (.string bytes) => bytes.length + 1
  | .lit _ => 1
  | .nil => 1
  | .ptr d => uptoBulk d + 1
  | .slice elems spare => uptoBulkAll elems + uptoBulkAll spare + 1
  | .agg parts => uptoBulkAll parts + 1
  | .iface _ d => uptoBulk d + 1
  | .map entries => uptoBulkEntries entries + 1
  | .held _ => 1
def uptoBulkAll {H : Type} : List (DataW H) → Nat
  | [] => 0
  | d :: r => uptoBulk d + uptoBulkAll r
def uptoBulkEntries {H : Type} : List (Lit × DataW H) → Nat
  | [] => 0
  | x :: r => uptoBulkEntry x + uptoBulkEntries r
def uptoBulkEntry {H : Type} : Lit × DataW H → Nat
  | (.string bytes, d) => bytes.length + uptoBulk d + 1
  | (_, d) => uptoBulk d + 1
 end
def uptoSmall : (H : Type) → List (DataW H) → Bool := fun _ ds => decide (uptoBulkAll ds ≤ 1048576)
def OpenSpec.upto (s : _root_.Go.ChangeSpec) : _root_.Go.OpenSpec := { _root_.Go.OpenSpec.ofChange s with cond := some uptoSmall }

/-- 'barrowlaw12.FlattenVotes', WHERE WHAT IT READS IS OF BULK AT MOST 1048576: true; the input reads as it did. -/
def flattenVotesUptoRow : OpenClaim := { program := "ythnkcljgkfpneaadoor", sum := "cabf9505fe4380d71763a4b2061b7bed988c1e3c03649f5ebb0fe6dad3ff508a", func := "barrow/barrowlaw12.FlattenVotes", spec := "flattenVotes", named := ["barrow/api.ErrArg", "barrow/api.ErrBusy"], apart := false, laid := [("barrow/api.ErrArg", laid_barrow_api_ErrArg), ("barrow/api.ErrBusy", laid_barrow_api_ErrBusy)], narrowed := true }
def FlattenVotesUptoSaid : Prop := flattenVotesUptoRow.holds Tryd.pinned (OpenSpec.upto flattenVotesSpec)

/-- 'barrowlaw12.FlattenStage', WHERE WHAT IT READS IS OF BULK AT MOST 1048576: true; the input reads as it did. -/
def flattenStageUptoRow : OpenClaim := { program := "ythnkcljgkfpneaadoor", sum := "cabf9505fe4380d71763a4b2061b7bed988c1e3c03649f5ebb0fe6dad3ff508a", func := "barrow/barrowlaw12.FlattenStage", spec := "flattenStage", named := ["barrow/api.ErrArg", "barrow/api.ErrBusy"], apart := false, laid := [("barrow/api.ErrArg", laid_barrow_api_ErrArg), ("barrow/api.ErrBusy", laid_barrow_api_ErrBusy)], narrowed := true }
def FlattenStageUptoSaid : Prop := flattenStageUptoRow.holds Tryd.pinned (OpenSpec.upto flattenStageSpec)

/-- 'barrowlaw12.FlattenJoin', WHERE WHAT IT READS IS OF BULK AT MOST 1048576: true; the input reads as it did. -/
def flattenJoinUptoRow : OpenClaim := { program := "ythnkcljgkfpneaadoor", sum := "cabf9505fe4380d71763a4b2061b7bed988c1e3c03649f5ebb0fe6dad3ff508a", func := "barrow/barrowlaw12.FlattenJoin", spec := "flattenJoin", named := ["barrow/api.ErrArg", "barrow/api.ErrBusy"], apart := false, laid := [("barrow/api.ErrArg", laid_barrow_api_ErrArg), ("barrow/api.ErrBusy", laid_barrow_api_ErrBusy)], narrowed := true }
def FlattenJoinUptoSaid : Prop := flattenJoinUptoRow.holds Tryd.pinned (OpenSpec.upto flattenJoinSpec)

/-- 'barrowlaw12.FlattenAgrees', WHERE WHAT IT READS IS OF BULK AT MOST 1048576: true; the input reads as it did. -/
def flattenAgreesUptoRow : OpenClaim := { program := "ythnkcljgkfpneaadoor", sum := "cabf9505fe4380d71763a4b2061b7bed988c1e3c03649f5ebb0fe6dad3ff508a", func := "barrow/barrowlaw12.FlattenAgrees", spec := "flattenAgrees", named := ["barrow/api.ErrArg", "barrow/api.ErrBusy"], apart := false, laid := [("barrow/api.ErrArg", laid_barrow_api_ErrArg), ("barrow/api.ErrBusy", laid_barrow_api_ErrBusy)], narrowed := true }
def FlattenAgreesUptoSaid : Prop := flattenAgreesUptoRow.holds Tryd.pinned (OpenSpec.upto flattenAgreesSpec)

/-- 'barrowlaw12.FlattenCut', WHERE WHAT IT READS IS OF BULK AT MOST 1048576: true; the input reads as it did. -/
def flattenCutUptoRow : OpenClaim := { program := "ythnkcljgkfpneaadoor", sum := "cabf9505fe4380d71763a4b2061b7bed988c1e3c03649f5ebb0fe6dad3ff508a", func := "barrow/barrowlaw12.FlattenCut", spec := "flattenCut", named := ["barrow/api.ErrArg", "barrow/api.ErrBusy"], apart := false, laid := [("barrow/api.ErrArg", laid_barrow_api_ErrArg), ("barrow/api.ErrBusy", laid_barrow_api_ErrBusy)], narrowed := true }
def FlattenCutUptoSaid : Prop := flattenCutUptoRow.holds Tryd.pinned (OpenSpec.upto flattenCutSpec)

/-- 'barrowlaw12.FlattenNames', WHERE WHAT IT READS IS OF BULK AT MOST 1048576: true; the input reads as it did. -/
def flattenNamesUptoRow : OpenClaim := { program := "ythnkcljgkfpneaadoor", sum := "cabf9505fe4380d71763a4b2061b7bed988c1e3c03649f5ebb0fe6dad3ff508a", func := "barrow/barrowlaw12.FlattenNames", spec := "flattenNames", unfollowed := true, recurses := true, named := ["barrow/api.ErrArg", "barrow/api.ErrRange", "barrow/api.ErrText", "barrow/api.ErrFull", "barrow/api.ErrFrozen", "barrow/api.ErrForm", "barrow/api.ErrShort", "barrow/api.ErrOrder", "barrow/api.ErrTwice", "barrow/api.ErrEpoch", "barrow/api.ErrBusy", "barrow/api.ErrNone", "barrow/api.ErrRoom", "barrow/api.ErrOther"], apart := false, laid := [("barrow/api.ErrArg", laid_barrow_api_ErrArg), ("barrow/api.ErrRange", laid_barrow_api_ErrRange), ("barrow/api.ErrText", laid_barrow_api_ErrText), ("barrow/api.ErrFull", laid_barrow_api_ErrFull), ("barrow/api.ErrFrozen", laid_barrow_api_ErrFrozen), ("barrow/api.ErrForm", laid_barrow_api_ErrForm), ("barrow/api.ErrShort", laid_barrow_api_ErrShort), ("barrow/api.ErrOrder", laid_barrow_api_ErrOrder), ("barrow/api.ErrTwice", laid_barrow_api_ErrTwice), ("barrow/api.ErrEpoch", laid_barrow_api_ErrEpoch), ("barrow/api.ErrBusy", laid_barrow_api_ErrBusy), ("barrow/api.ErrNone", laid_barrow_api_ErrNone), ("barrow/api.ErrRoom", laid_barrow_api_ErrRoom), ("barrow/api.ErrOther", laid_barrow_api_ErrOther)], narrowed := true }
def FlattenNamesUptoSaid : Prop := flattenNamesUptoRow.holds Tryd.pinned (OpenSpec.upto flattenNamesSpec)

/-- 'barrowlaw12.FlattenExact', WHERE WHAT IT READS IS OF BULK AT MOST 1048576: true; the input reads as it did. -/
def flattenExactUptoRow : OpenClaim := { program := "ythnkcljgkfpneaadoor", sum := "cabf9505fe4380d71763a4b2061b7bed988c1e3c03649f5ebb0fe6dad3ff508a", func := "barrow/barrowlaw12.FlattenExact", spec := "flattenExact", unfollowed := true, recurses := true, named := ["barrow/api.ErrArg", "barrow/api.ErrRange", "barrow/api.ErrText", "barrow/api.ErrFull", "barrow/api.ErrFrozen", "barrow/api.ErrForm", "barrow/api.ErrShort", "barrow/api.ErrOrder", "barrow/api.ErrTwice", "barrow/api.ErrEpoch", "barrow/api.ErrBusy", "barrow/api.ErrNone", "barrow/api.ErrRoom", "barrow/api.ErrOther"], apart := false, laid := [("barrow/api.ErrArg", laid_barrow_api_ErrArg), ("barrow/api.ErrRange", laid_barrow_api_ErrRange), ("barrow/api.ErrText", laid_barrow_api_ErrText), ("barrow/api.ErrFull", laid_barrow_api_ErrFull), ("barrow/api.ErrFrozen", laid_barrow_api_ErrFrozen), ("barrow/api.ErrForm", laid_barrow_api_ErrForm), ("barrow/api.ErrShort", laid_barrow_api_ErrShort), ("barrow/api.ErrOrder", laid_barrow_api_ErrOrder), ("barrow/api.ErrTwice", laid_barrow_api_ErrTwice), ("barrow/api.ErrEpoch", laid_barrow_api_ErrEpoch), ("barrow/api.ErrBusy", laid_barrow_api_ErrBusy), ("barrow/api.ErrNone", laid_barrow_api_ErrNone), ("barrow/api.ErrRoom", laid_barrow_api_ErrRoom), ("barrow/api.ErrOther", laid_barrow_api_ErrOther)], narrowed := true }
def FlattenExactUptoSaid : Prop := flattenExactUptoRow.holds Tryd.pinned (OpenSpec.upto flattenExactSpec)

end Rows
end Go.Proofs.YthnkcljgkfpneaaDoor
