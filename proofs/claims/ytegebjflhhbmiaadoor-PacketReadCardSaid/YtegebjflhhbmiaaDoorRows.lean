/-
  NARROWER THAN 'FOR EVERY INPUT', by the rows' own cells (each row's printed sentence says how): PacketBack: laid · PacketOne: laid · PacketUnlike: laid · PacketNames: laid · PacketBytes: laid · PacketRead: laid.
  DERIVED. THE GIVEN ROWS OF THIS SEAT. 6 by the template 'for every input the law returns true; each argument reads behind the call as it read before'; 0 by the template 'total and deterministic' (their statements: YtegebjflhhbmiaaDoorTotals.lean).
  GIVEN WITH THE SEED: the statements are not yours to turn. If you find one false, say at which input.
  Laid BY PROGRAM, IN A SANDBOX (cutbox-rows.mjs): the forced cells as the released guide's own fill.sh prints them over the translation 7de39896882582fe… (all of the seat's roots in one cut). By AI agents, Wed Nov 11 2026. No macro, syntax, notation, axiom, sorry.
-/
import Derived.Test.YtegebjflhhbmiaaDoorChecked
import GoSem.Claim
import GoSem.ClaimJoined
import GoSem.ClaimMapViews
import Derived.JoinedTies
import Derived.KernelRfl
namespace Go.Proofs.YtegebjflhhbmiaaDoor
/- THE CELL 'sum', in the pinned program and in every row, IS THE sha256 OF THE DUMP (.gsa) THAT YtegebjflhhbmiaaDoorProg.lean LOADS. Nothing in Lean hashes anything: it is a label: what it is worth is what the hold of that sum in a sandbox is worth. -/
noncomputable def Tryd.pinned : Pinned := { name := "ytegebjflhhbmiaadoor", sum := "7de39896882582fef12491f79871ad0a8a55bdbcec827aab246f0fabd56aa454", checked := Tryd.checked }
namespace Rows
def none {H : Type} : Left H := { results := [], args := [] }

/- WHAT THE LISTED PACKAGE-LEVEL VARIABLES READ AS WHEN THE CALL BEGINS. Each datum BY PROGRAM (the guide's laid-datum.mjs) off the statement by which the dump's own 'gosem.cut.vars' lays the variable. In a bare row this is a premise. The card (YtegebjflhhbmiaaDoorCards.lean) ties it to the program's text. -/
def laid_barrow_api_ErrArg {H : Type} : DataW H := .iface "*errors.errorString" (.ptr (.agg [.lit (.string [98, 97, 100, 32, 97, 114, 103, 117, 109, 101, 110, 116])]))
def laid_barrow_api_ErrRange {H : Type} : DataW H := .iface "*errors.errorString" (.ptr (.agg [.lit (.string [111, 117, 116, 32, 111, 102, 32, 114, 97, 110, 103, 101])]))
def laid_barrow_api_ErrForm {H : Type} : DataW H := .iface "*errors.errorString" (.ptr (.agg [.lit (.string [98, 97, 100, 32, 102, 111, 114, 109])]))
def laid_barrow_api_ErrShort {H : Type} : DataW H := .iface "*errors.errorString" (.ptr (.agg [.lit (.string [99, 117, 116, 32, 115, 104, 111, 114, 116])]))
def laid_barrow_api_ErrText {H : Type} : DataW H := .iface "*errors.errorString" (.ptr (.agg [.lit (.string [98, 97, 100, 32, 116, 101, 120, 116])]))
def laid_barrow_api_ErrFull {H : Type} : DataW H := .iface "*errors.errorString" (.ptr (.agg [.lit (.string [110, 111, 32, 99, 114, 101, 100, 105, 116, 32, 108, 101, 102, 116])]))
def laid_barrow_api_ErrFrozen {H : Type} : DataW H := .iface "*errors.errorString" (.ptr (.agg [.lit (.string [102, 114, 111, 122, 101, 110])]))
def laid_barrow_api_ErrOrder {H : Type} : DataW H := .iface "*errors.errorString" (.ptr (.agg [.lit (.string [110, 111, 116, 32, 121, 101, 116])]))
def laid_barrow_api_ErrTwice {H : Type} : DataW H := .iface "*errors.errorString" (.ptr (.agg [.lit (.string [116, 104, 101, 114, 101, 32, 97, 108, 114, 101, 97, 100, 121])]))
def laid_barrow_api_ErrEpoch {H : Type} : DataW H := .iface "*errors.errorString" (.ptr (.agg [.lit (.string [97, 110, 111, 116, 104, 101, 114, 32, 101, 112, 111, 99, 104])]))
def laid_barrow_api_ErrBusy {H : Type} : DataW H := .iface "*errors.errorString" (.ptr (.agg [.lit (.string [98, 117, 115, 121])]))
def laid_barrow_api_ErrNone {H : Type} : DataW H := .iface "*errors.errorString" (.ptr (.agg [.lit (.string [110, 111, 116, 104, 105, 110, 103, 32, 116, 104, 101, 114, 101])]))
def laid_barrow_api_ErrRoom {H : Type} : DataW H := .iface "*errors.errorString" (.ptr (.agg [.lit (.string [110, 111, 32, 114, 111, 111, 109])]))
def laid_barrow_api_ErrOther {H : Type} : DataW H := .iface "*errors.errorString" (.ptr (.agg [.lit (.string [115, 111, 109, 101, 116, 104, 105, 110, 103, 32, 101, 108, 115, 101])]))

/-- 'barrowlaw09.PacketBack': WHATEVER THE INPUT: true; the input reads as it did. -/
def packetBackSpec : ChangeSpec := { name := "packetBack", fn := fun _ => fun
  | [d] => { results := [.lit (.bool true)], args := [d] }
  | _ => none }
def packetBackRow : OpenClaim := { program := "ytegebjflhhbmiaadoor", sum := "7de39896882582fef12491f79871ad0a8a55bdbcec827aab246f0fabd56aa454", func := "barrow/barrowlaw09.PacketBack", spec := "packetBack", unfollowed := true, recurses := true, named := ["barrow/api.ErrForm", "barrow/api.ErrArg", "barrow/api.ErrShort", "barrow/api.ErrRange"], apart := false, laid := [("barrow/api.ErrArg", laid_barrow_api_ErrArg), ("barrow/api.ErrRange", laid_barrow_api_ErrRange), ("barrow/api.ErrForm", laid_barrow_api_ErrForm), ("barrow/api.ErrShort", laid_barrow_api_ErrShort)] }
def PacketBackSaid : Prop := packetBackRow.holds Tryd.pinned (OpenSpec.ofChange packetBackSpec)

/-- ITS FALSE NEIGHBOUR: 'it returns false'. Refute it at one input. -/
def packetBackWrong : ChangeSpec := { name := "packetBack", fn := fun _ => fun
  | [d] => { results := [.lit (.bool false)], args := [d] }
  | _ => none }
def PacketBackWrongFalsely : Prop := packetBackRow.holds Tryd.pinned (OpenSpec.ofChange packetBackWrong)

/-- 'barrowlaw09.PacketOne': WHATEVER THE INPUT: true; the input reads as it did. -/
def packetOneSpec : ChangeSpec := { name := "packetOne", fn := fun _ => fun
  | [d] => { results := [.lit (.bool true)], args := [d] }
  | _ => none }
def packetOneRow : OpenClaim := { program := "ytegebjflhhbmiaadoor", sum := "7de39896882582fef12491f79871ad0a8a55bdbcec827aab246f0fabd56aa454", func := "barrow/barrowlaw09.PacketOne", spec := "packetOne", unfollowed := true, recurses := true, named := ["barrow/api.ErrForm", "barrow/api.ErrShort", "barrow/api.ErrRange", "barrow/api.ErrArg"], apart := false, laid := [("barrow/api.ErrArg", laid_barrow_api_ErrArg), ("barrow/api.ErrRange", laid_barrow_api_ErrRange), ("barrow/api.ErrForm", laid_barrow_api_ErrForm), ("barrow/api.ErrShort", laid_barrow_api_ErrShort)] }
def PacketOneSaid : Prop := packetOneRow.holds Tryd.pinned (OpenSpec.ofChange packetOneSpec)

/-- ITS FALSE NEIGHBOUR: 'it returns false'. Refute it at one input. -/
def packetOneWrong : ChangeSpec := { name := "packetOne", fn := fun _ => fun
  | [d] => { results := [.lit (.bool false)], args := [d] }
  | _ => none }
def PacketOneWrongFalsely : Prop := packetOneRow.holds Tryd.pinned (OpenSpec.ofChange packetOneWrong)

/-- 'barrowlaw09.PacketUnlike': WHATEVER THE INPUT: true; the input reads as it did. -/
def packetUnlikeSpec : ChangeSpec := { name := "packetUnlike", fn := fun _ => fun
  | [d1, d2] => { results := [.lit (.bool true)], args := [d1, d2] }
  | _ => none }
def packetUnlikeRow : OpenClaim := { program := "ytegebjflhhbmiaadoor", sum := "7de39896882582fef12491f79871ad0a8a55bdbcec827aab246f0fabd56aa454", func := "barrow/barrowlaw09.PacketUnlike", spec := "packetUnlike", unfollowed := true, recurses := true, named := ["barrow/api.ErrForm", "barrow/api.ErrArg", "barrow/api.ErrShort", "barrow/api.ErrRange"], apart := false, laid := [("barrow/api.ErrArg", laid_barrow_api_ErrArg), ("barrow/api.ErrRange", laid_barrow_api_ErrRange), ("barrow/api.ErrForm", laid_barrow_api_ErrForm), ("barrow/api.ErrShort", laid_barrow_api_ErrShort)] }
def PacketUnlikeSaid : Prop := packetUnlikeRow.holds Tryd.pinned (OpenSpec.ofChange packetUnlikeSpec)

/-- ITS FALSE NEIGHBOUR: 'it returns false'. Refute it at one input. -/
def packetUnlikeWrong : ChangeSpec := { name := "packetUnlike", fn := fun _ => fun
  | [d1, d2] => { results := [.lit (.bool false)], args := [d1, d2] }
  | _ => none }
def PacketUnlikeWrongFalsely : Prop := packetUnlikeRow.holds Tryd.pinned (OpenSpec.ofChange packetUnlikeWrong)

/-- 'barrowlaw09.PacketNames': WHATEVER THE INPUT: true; the input reads as it did. -/
def packetNamesSpec : ChangeSpec := { name := "packetNames", fn := fun _ => fun
  | [] => { results := [.lit (.bool true)], args := [] }
  | _ => none }
def packetNamesRow : OpenClaim := { program := "ytegebjflhhbmiaadoor", sum := "7de39896882582fef12491f79871ad0a8a55bdbcec827aab246f0fabd56aa454", func := "barrow/barrowlaw09.PacketNames", spec := "packetNames", unfollowed := true, recurses := true, named := ["barrow/api.ErrForm", "barrow/api.ErrArg", "barrow/api.ErrShort", "barrow/api.ErrRange"], apart := false, laid := [("barrow/api.ErrArg", laid_barrow_api_ErrArg), ("barrow/api.ErrRange", laid_barrow_api_ErrRange), ("barrow/api.ErrForm", laid_barrow_api_ErrForm), ("barrow/api.ErrShort", laid_barrow_api_ErrShort)] }
def PacketNamesSaid : Prop := packetNamesRow.holds Tryd.pinned (OpenSpec.ofChange packetNamesSpec)

/-- ITS FALSE NEIGHBOUR: 'it returns false'. Refute it at one input. -/
def packetNamesWrong : ChangeSpec := { name := "packetNames", fn := fun _ => fun
  | [] => { results := [.lit (.bool false)], args := [] }
  | _ => none }
def PacketNamesWrongFalsely : Prop := packetNamesRow.holds Tryd.pinned (OpenSpec.ofChange packetNamesWrong)

/-- 'barrowlaw09.PacketBytes': WHATEVER THE INPUT: true; the input reads as it did. -/
def packetBytesSpec : ChangeSpec := { name := "packetBytes", fn := fun _ => fun
  | [d] => { results := [.lit (.bool true)], args := [d] }
  | _ => none }
def packetBytesRow : OpenClaim := { program := "ytegebjflhhbmiaadoor", sum := "7de39896882582fef12491f79871ad0a8a55bdbcec827aab246f0fabd56aa454", func := "barrow/barrowlaw09.PacketBytes", spec := "packetBytes", unfollowed := true, recurses := true, named := ["barrow/api.ErrForm", "barrow/api.ErrArg", "barrow/api.ErrRange", "barrow/api.ErrText", "barrow/api.ErrFull", "barrow/api.ErrFrozen", "barrow/api.ErrShort", "barrow/api.ErrOrder", "barrow/api.ErrTwice", "barrow/api.ErrEpoch", "barrow/api.ErrBusy", "barrow/api.ErrNone", "barrow/api.ErrRoom", "barrow/api.ErrOther"], apart := false, laid := [("barrow/api.ErrArg", laid_barrow_api_ErrArg), ("barrow/api.ErrRange", laid_barrow_api_ErrRange), ("barrow/api.ErrText", laid_barrow_api_ErrText), ("barrow/api.ErrFull", laid_barrow_api_ErrFull), ("barrow/api.ErrFrozen", laid_barrow_api_ErrFrozen), ("barrow/api.ErrForm", laid_barrow_api_ErrForm), ("barrow/api.ErrShort", laid_barrow_api_ErrShort), ("barrow/api.ErrOrder", laid_barrow_api_ErrOrder), ("barrow/api.ErrTwice", laid_barrow_api_ErrTwice), ("barrow/api.ErrEpoch", laid_barrow_api_ErrEpoch), ("barrow/api.ErrBusy", laid_barrow_api_ErrBusy), ("barrow/api.ErrNone", laid_barrow_api_ErrNone), ("barrow/api.ErrRoom", laid_barrow_api_ErrRoom), ("barrow/api.ErrOther", laid_barrow_api_ErrOther)] }
def PacketBytesSaid : Prop := packetBytesRow.holds Tryd.pinned (OpenSpec.ofChange packetBytesSpec)

/-- ITS FALSE NEIGHBOUR: 'it returns false'. Refute it at one input. -/
def packetBytesWrong : ChangeSpec := { name := "packetBytes", fn := fun _ => fun
  | [d] => { results := [.lit (.bool false)], args := [d] }
  | _ => none }
def PacketBytesWrongFalsely : Prop := packetBytesRow.holds Tryd.pinned (OpenSpec.ofChange packetBytesWrong)

/-- 'barrowlaw09.PacketRead': WHATEVER THE INPUT: true; the input reads as it did. -/
def packetReadSpec : ChangeSpec := { name := "packetRead", fn := fun _ => fun
  | [d] => { results := [.lit (.bool true)], args := [d] }
  | _ => none }
def packetReadRow : OpenClaim := { program := "ytegebjflhhbmiaadoor", sum := "7de39896882582fef12491f79871ad0a8a55bdbcec827aab246f0fabd56aa454", func := "barrow/barrowlaw09.PacketRead", spec := "packetRead", unfollowed := true, recurses := true, named := ["barrow/api.ErrForm", "barrow/api.ErrShort", "barrow/api.ErrRange", "barrow/api.ErrArg", "barrow/api.ErrText", "barrow/api.ErrFull", "barrow/api.ErrFrozen", "barrow/api.ErrOrder", "barrow/api.ErrTwice", "barrow/api.ErrEpoch", "barrow/api.ErrBusy", "barrow/api.ErrNone", "barrow/api.ErrRoom", "barrow/api.ErrOther"], apart := false, laid := [("barrow/api.ErrArg", laid_barrow_api_ErrArg), ("barrow/api.ErrRange", laid_barrow_api_ErrRange), ("barrow/api.ErrText", laid_barrow_api_ErrText), ("barrow/api.ErrFull", laid_barrow_api_ErrFull), ("barrow/api.ErrFrozen", laid_barrow_api_ErrFrozen), ("barrow/api.ErrForm", laid_barrow_api_ErrForm), ("barrow/api.ErrShort", laid_barrow_api_ErrShort), ("barrow/api.ErrOrder", laid_barrow_api_ErrOrder), ("barrow/api.ErrTwice", laid_barrow_api_ErrTwice), ("barrow/api.ErrEpoch", laid_barrow_api_ErrEpoch), ("barrow/api.ErrBusy", laid_barrow_api_ErrBusy), ("barrow/api.ErrNone", laid_barrow_api_ErrNone), ("barrow/api.ErrRoom", laid_barrow_api_ErrRoom), ("barrow/api.ErrOther", laid_barrow_api_ErrOther)] }
def PacketReadSaid : Prop := packetReadRow.holds Tryd.pinned (OpenSpec.ofChange packetReadSpec)

/-- ITS FALSE NEIGHBOUR: 'it returns false'. Refute it at one input. -/
def packetReadWrong : ChangeSpec := { name := "packetRead", fn := fun _ => fun
  | [d] => { results := [.lit (.bool false)], args := [d] }
  | _ => none }
def PacketReadWrongFalsely : Prop := packetReadRow.holds Tryd.pinned (OpenSpec.ofChange packetReadWrong)

/- THE SECOND FORM. 'bulk': how many values and letters a reading holds, each counted each time it is reached (what is shared counts as often as it is met; a slice's spare places count too). A statement '..UptoSaid' is the law's where the arguments, and the package variables that the reading takes, are together of bulk at most 1048576: NARROWER than '..Said'. Prove '..Said' where nothing that the law and all that it calls make is longer than what came in: it says more and counts as full. Else prove '..UptoSaid'. A law counts once. -/
mutual
def uptoBulk {H : Type} : DataW H → Nat
  | .lit (.string bytes) => bytes.length + 1
  | .lit _ => 1
  | .nil => 1
  | .ptr d => uptoBulk d + 1
  | .slice elems spare => uptoBulkAll elems + uptoBulkAll spare + 1
  | .agg parts => uptoBulkAll parts + 1
  | .iface _ d => uptoBulk d + 1
  | .map entries => uptoBulkEntries entries + 1
  | .held _ => 1
def uptoBulkAll {H : Type} : List (DataW H) → Nat
  | [] => 0
  | d :: r => uptoBulk d + uptoBulkAll r
def uptoBulkEntries {H : Type} : List (Lit × DataW H) → Nat
  | [] => 0
  | x :: r => uptoBulkEntry x + uptoBulkEntries r
def uptoBulkEntry {H : Type} : Lit × DataW H → Nat
  | (.string bytes, d) => bytes.length + uptoBulk d + 1
  | (_, d) => uptoBulk d + 1
 end
def uptoSmall : (H : Type) → List (DataW H) → Bool := fun _ ds => decide (uptoBulkAll ds ≤ 1048576)
def OpenSpec.upto (s : _root_.Go.ChangeSpec) : _root_.Go.OpenSpec := { _root_.Go.OpenSpec.ofChange s with cond := some uptoSmall }

/-- 'barrowlaw09.PacketBack', WHERE WHAT IT READS IS OF BULK AT MOST 1048576: true; the input reads as it did. -/
def packetBackUptoRow : OpenClaim := { program := "ytegebjflhhbmiaadoor", sum := "7de39896882582fef12491f79871ad0a8a55bdbcec827aab246f0fabd56aa454", func := "barrow/barrowlaw09.PacketBack", spec := "packetBack", unfollowed := true, recurses := true, named := ["barrow/api.ErrForm", "barrow/api.ErrArg", "barrow/api.ErrShort", "barrow/api.ErrRange"], apart := false, laid := [("barrow/api.ErrArg", laid_barrow_api_ErrArg), ("barrow/api.ErrRange", laid_barrow_api_ErrRange), ("barrow/api.ErrForm", laid_barrow_api_ErrForm), ("barrow/api.ErrShort", laid_barrow_api_ErrShort)], narrowed := true }
def PacketBackUptoSaid : Prop := packetBackUptoRow.holds Tryd.pinned (OpenSpec.upto packetBackSpec)

/-- 'barrowlaw09.PacketOne', WHERE WHAT IT READS IS OF BULK AT MOST 1048576: true; the input reads as it did. -/
def packetOneUptoRow : OpenClaim := { program := "ytegebjflhhbmiaadoor", sum := "7de39896882582fef12491f79871ad0a8a55bdbcec827aab246f0fabd56aa454", func := "barrow/barrowlaw09.PacketOne", spec := "packetOne", unfollowed := true, recurses := true, named := ["barrow/api.ErrForm", "barrow/api.ErrShort", "barrow/api.ErrRange", "barrow/api.ErrArg"], apart := false, laid := [("barrow/api.ErrArg", laid_barrow_api_ErrArg), ("barrow/api.ErrRange", laid_barrow_api_ErrRange), ("barrow/api.ErrForm", laid_barrow_api_ErrForm), ("barrow/api.ErrShort", laid_barrow_api_ErrShort)], narrowed := true }
def PacketOneUptoSaid : Prop := packetOneUptoRow.holds Tryd.pinned (OpenSpec.upto packetOneSpec)

/-- 'barrowlaw09.PacketUnlike', WHERE WHAT IT READS IS OF BULK AT MOST 1048576: true; the input reads as it did. -/
def packetUnlikeUptoRow : OpenClaim := { program := "ytegebjflhhbmiaadoor", sum := "7de39896882582fef12491f79871ad0a8a55bdbcec827aab246f0fabd56aa454", func := "barrow/barrowlaw09.PacketUnlike", spec := "packetUnlike", unfollowed := true, recurses := true, named := ["barrow/api.ErrForm", "barrow/api.ErrArg", "barrow/api.ErrShort", "barrow/api.ErrRange"], apart := false, laid := [("barrow/api.ErrArg", laid_barrow_api_ErrArg), ("barrow/api.ErrRange", laid_barrow_api_ErrRange), ("barrow/api.ErrForm", laid_barrow_api_ErrForm), ("barrow/api.ErrShort", laid_barrow_api_ErrShort)], narrowed := true }
def PacketUnlikeUptoSaid : Prop := packetUnlikeUptoRow.holds Tryd.pinned (OpenSpec.upto packetUnlikeSpec)

/-- 'barrowlaw09.PacketNames', WHERE WHAT IT READS IS OF BULK AT MOST 1048576: true; the input reads as it did. -/
def packetNamesUptoRow : OpenClaim := { program := "ytegebjflhhbmiaadoor", sum := "7de39896882582fef12491f79871ad0a8a55bdbcec827aab246f0fabd56aa454", func := "barrow/barrowlaw09.PacketNames", spec := "packetNames", unfollowed := true, recurses := true, named := ["barrow/api.ErrForm", "barrow/api.ErrArg", "barrow/api.ErrShort", "barrow/api.ErrRange"], apart := false, laid := [("barrow/api.ErrArg", laid_barrow_api_ErrArg), ("barrow/api.ErrRange", laid_barrow_api_ErrRange), ("barrow/api.ErrForm", laid_barrow_api_ErrForm), ("barrow/api.ErrShort", laid_barrow_api_ErrShort)], narrowed := true }
def PacketNamesUptoSaid : Prop := packetNamesUptoRow.holds Tryd.pinned (OpenSpec.upto packetNamesSpec)

/-- 'barrowlaw09.PacketBytes', WHERE WHAT IT READS IS OF BULK AT MOST 1048576: true; the input reads as it did. -/
def packetBytesUptoRow : OpenClaim := { program := "ytegebjflhhbmiaadoor", sum := "7de39896882582fef12491f79871ad0a8a55bdbcec827aab246f0fabd56aa454", func := "barrow/barrowlaw09.PacketBytes", spec := "packetBytes", unfollowed := true, recurses := true, named := ["barrow/api.ErrForm", "barrow/api.ErrArg", "barrow/api.ErrRange", "barrow/api.ErrText", "barrow/api.ErrFull", "barrow/api.ErrFrozen", "barrow/api.ErrShort", "barrow/api.ErrOrder", "barrow/api.ErrTwice", "barrow/api.ErrEpoch", "barrow/api.ErrBusy", "barrow/api.ErrNone", "barrow/api.ErrRoom", "barrow/api.ErrOther"], apart := false, laid := [("barrow/api.ErrArg", laid_barrow_api_ErrArg), ("barrow/api.ErrRange", laid_barrow_api_ErrRange), ("barrow/api.ErrText", laid_barrow_api_ErrText), ("barrow/api.ErrFull", laid_barrow_api_ErrFull), ("barrow/api.ErrFrozen", laid_barrow_api_ErrFrozen), ("barrow/api.ErrForm", laid_barrow_api_ErrForm), ("barrow/api.ErrShort", laid_barrow_api_ErrShort), ("barrow/api.ErrOrder", laid_barrow_api_ErrOrder), ("barrow/api.ErrTwice", laid_barrow_api_ErrTwice), ("barrow/api.ErrEpoch", laid_barrow_api_ErrEpoch), ("barrow/api.ErrBusy", laid_barrow_api_ErrBusy), ("barrow/api.ErrNone", laid_barrow_api_ErrNone), ("barrow/api.ErrRoom", laid_barrow_api_ErrRoom), ("barrow/api.ErrOther", laid_barrow_api_ErrOther)], narrowed := true }
def PacketBytesUptoSaid : Prop := packetBytesUptoRow.holds Tryd.pinned (OpenSpec.upto packetBytesSpec)

/-- 'barrowlaw09.PacketRead', WHERE WHAT IT READS IS OF BULK AT MOST 1048576: true; the input reads as it did. -/
def packetReadUptoRow : OpenClaim := { program := "ytegebjflhhbmiaadoor", sum := "7de39896882582fef12491f79871ad0a8a55bdbcec827aab246f0fabd56aa454", func := "barrow/barrowlaw09.PacketRead", spec := "packetRead", unfollowed := true, recurses := true, named := ["barrow/api.ErrForm", "barrow/api.ErrShort", "barrow/api.ErrRange", "barrow/api.ErrArg", "barrow/api.ErrText", "barrow/api.ErrFull", "barrow/api.ErrFrozen", "barrow/api.ErrOrder", "barrow/api.ErrTwice", "barrow/api.ErrEpoch", "barrow/api.ErrBusy", "barrow/api.ErrNone", "barrow/api.ErrRoom", "barrow/api.ErrOther"], apart := false, laid := [("barrow/api.ErrArg", laid_barrow_api_ErrArg), ("barrow/api.ErrRange", laid_barrow_api_ErrRange), ("barrow/api.ErrText", laid_barrow_api_ErrText), ("barrow/api.ErrFull", laid_barrow_api_ErrFull), ("barrow/api.ErrFrozen", laid_barrow_api_ErrFrozen), ("barrow/api.ErrForm", laid_barrow_api_ErrForm), ("barrow/api.ErrShort", laid_barrow_api_ErrShort), ("barrow/api.ErrOrder", laid_barrow_api_ErrOrder), ("barrow/api.ErrTwice", laid_barrow_api_ErrTwice), ("barrow/api.ErrEpoch", laid_barrow_api_ErrEpoch), ("barrow/api.ErrBusy", laid_barrow_api_ErrBusy), ("barrow/api.ErrNone", laid_barrow_api_ErrNone), ("barrow/api.ErrRoom", laid_barrow_api_ErrRoom), ("barrow/api.ErrOther", laid_barrow_api_ErrOther)], narrowed := true }
def PacketReadUptoSaid : Prop := packetReadUptoRow.holds Tryd.pinned (OpenSpec.upto packetReadSpec)

end Rows
end Go.Proofs.YtegebjflhhbmiaaDoor
