/-
  NARROWER THAN 'FOR EVERY INPUT', by the rows' own cells (each row's printed sentence says how): CausalDelivers: laid · CausalNames: laid · CausalMissing: laid · CausalLacks: laid · CausalOrder: laid · CausalExact: laid.
  DERIVED. THE GIVEN ROWS OF THIS SEAT. 6 by the template 'for every input the law returns true; each argument reads behind the call as it read before'; 0 by the template 'total and deterministic' (their statements: YtnbbgcdemafcoaaDoorTotals.lean).
  GIVEN WITH THE SEED: the statements are not yours to turn. If you find one false, say at which input.
  Laid BY PROGRAM, IN A SANDBOX (cutbox-rows.mjs): the forced cells as the released guide's own fill.sh prints them over the translation cb707dfe167ad7cf… (all of the seat's roots in one cut). By AI agents, Wed Nov 11 2026. No macro, syntax, notation, axiom, sorry.
-/
import Derived.Test.YtnbbgcdemafcoaaDoorChecked
import GoSem.Claim
import GoSem.ClaimJoined
import GoSem.ClaimMapViews
import Derived.JoinedTies
import Derived.KernelRfl
namespace Go.Proofs.YtnbbgcdemafcoaaDoor
/- THE CELL 'sum', in the pinned program and in every row, IS THE sha256 OF THE DUMP (.gsa) THAT YtnbbgcdemafcoaaDoorProg.lean LOADS. Nothing in Lean hashes anything: it is a label: what it is worth is what the hold of that sum in a sandbox is worth. -/
noncomputable def Tryd.pinned : Pinned := { name := "ytnbbgcdemafcoaadoor", sum := "cb707dfe167ad7cf62ff5f3bc9109376438be1d6a5f18b5f3280e39c5d22c492", checked := Tryd.checked }
namespace Rows
def none {H : Type} : Left H := { results := [], args := [] }

/- WHAT THE LISTED PACKAGE-LEVEL VARIABLES READ AS WHEN THE CALL BEGINS. Each datum BY PROGRAM (the guide's laid-datum.mjs) off the statement by which the dump's own 'gosem.cut.vars' lays the variable. In a bare row this is a premise. The card (YtnbbgcdemafcoaaDoorCards.lean) ties it to the program's text. -/
def laid_barrow_api_ErrArg {H : Type} : DataW H := .iface "*errors.errorString" (.ptr (.agg [.lit (.string [98, 97, 100, 32, 97, 114, 103, 117, 109, 101, 110, 116])]))
def laid_barrow_api_ErrRange {H : Type} : DataW H := .iface "*errors.errorString" (.ptr (.agg [.lit (.string [111, 117, 116, 32, 111, 102, 32, 114, 97, 110, 103, 101])]))
def laid_barrow_api_ErrText {H : Type} : DataW H := .iface "*errors.errorString" (.ptr (.agg [.lit (.string [98, 97, 100, 32, 116, 101, 120, 116])]))
def laid_barrow_api_ErrFull {H : Type} : DataW H := .iface "*errors.errorString" (.ptr (.agg [.lit (.string [110, 111, 32, 99, 114, 101, 100, 105, 116, 32, 108, 101, 102, 116])]))
def laid_barrow_api_ErrFrozen {H : Type} : DataW H := .iface "*errors.errorString" (.ptr (.agg [.lit (.string [102, 114, 111, 122, 101, 110])]))
def laid_barrow_api_ErrForm {H : Type} : DataW H := .iface "*errors.errorString" (.ptr (.agg [.lit (.string [98, 97, 100, 32, 102, 111, 114, 109])]))
def laid_barrow_api_ErrShort {H : Type} : DataW H := .iface "*errors.errorString" (.ptr (.agg [.lit (.string [99, 117, 116, 32, 115, 104, 111, 114, 116])]))
def laid_barrow_api_ErrOrder {H : Type} : DataW H := .iface "*errors.errorString" (.ptr (.agg [.lit (.string [110, 111, 116, 32, 121, 101, 116])]))
def laid_barrow_api_ErrTwice {H : Type} : DataW H := .iface "*errors.errorString" (.ptr (.agg [.lit (.string [116, 104, 101, 114, 101, 32, 97, 108, 114, 101, 97, 100, 121])]))
def laid_barrow_api_ErrEpoch {H : Type} : DataW H := .iface "*errors.errorString" (.ptr (.agg [.lit (.string [97, 110, 111, 116, 104, 101, 114, 32, 101, 112, 111, 99, 104])]))
def laid_barrow_api_ErrBusy {H : Type} : DataW H := .iface "*errors.errorString" (.ptr (.agg [.lit (.string [98, 117, 115, 121])]))
def laid_barrow_api_ErrNone {H : Type} : DataW H := .iface "*errors.errorString" (.ptr (.agg [.lit (.string [110, 111, 116, 104, 105, 110, 103, 32, 116, 104, 101, 114, 101])]))
def laid_barrow_api_ErrRoom {H : Type} : DataW H := .iface "*errors.errorString" (.ptr (.agg [.lit (.string [110, 111, 32, 114, 111, 111, 109])]))
def laid_barrow_api_ErrOther {H : Type} : DataW H := .iface "*errors.errorString" (.ptr (.agg [.lit (.string [115, 111, 109, 101, 116, 104, 105, 110, 103, 32, 101, 108, 115, 101])]))

/-- 'barrowlaw11.CausalDelivers': WHATEVER THE INPUT: true; the input reads as it did. -/
def causalDeliversSpec : ChangeSpec := { name := "causalDelivers", fn := fun _ => fun
  | [d1, d2, d3] => { results := [.lit (.bool true)], args := [d1, d2, d3] }
  | _ => none }
def causalDeliversRow : OpenClaim := { program := "ytnbbgcdemafcoaadoor", sum := "cb707dfe167ad7cf62ff5f3bc9109376438be1d6a5f18b5f3280e39c5d22c492", func := "barrow/barrowlaw11.CausalDelivers", spec := "causalDelivers", named := ["barrow/api.ErrArg"], plainKeys := false, apart := false, laid := [("barrow/api.ErrArg", laid_barrow_api_ErrArg)] }
def CausalDeliversSaid : Prop := causalDeliversRow.holds Tryd.pinned (OpenSpec.ofChange causalDeliversSpec)

/-- ITS FALSE NEIGHBOUR: 'it returns false'. Refute it at one input. -/
def causalDeliversWrong : ChangeSpec := { name := "causalDelivers", fn := fun _ => fun
  | [d1, d2, d3] => { results := [.lit (.bool false)], args := [d1, d2, d3] }
  | _ => none }
def CausalDeliversWrongFalsely : Prop := causalDeliversRow.holds Tryd.pinned (OpenSpec.ofChange causalDeliversWrong)

/-- 'barrowlaw11.CausalNames': WHATEVER THE INPUT: true; the input reads as it did. -/
def causalNamesSpec : ChangeSpec := { name := "causalNames", fn := fun _ => fun
  | [] => { results := [.lit (.bool true)], args := [] }
  | _ => none }
def causalNamesRow : OpenClaim := { program := "ytnbbgcdemafcoaadoor", sum := "cb707dfe167ad7cf62ff5f3bc9109376438be1d6a5f18b5f3280e39c5d22c492", func := "barrow/barrowlaw11.CausalNames", spec := "causalNames", named := ["barrow/api.ErrArg"], plainKeys := false, apart := false, laid := [("barrow/api.ErrArg", laid_barrow_api_ErrArg)] }
def CausalNamesSaid : Prop := causalNamesRow.holds Tryd.pinned (OpenSpec.ofChange causalNamesSpec)

/-- ITS FALSE NEIGHBOUR: 'it returns false'. Refute it at one input. -/
def causalNamesWrong : ChangeSpec := { name := "causalNames", fn := fun _ => fun
  | [] => { results := [.lit (.bool false)], args := [] }
  | _ => none }
def CausalNamesWrongFalsely : Prop := causalNamesRow.holds Tryd.pinned (OpenSpec.ofChange causalNamesWrong)

/-- 'barrowlaw11.CausalMissing': WHATEVER THE INPUT: true; the input reads as it did. -/
def causalMissingSpec : ChangeSpec := { name := "causalMissing", fn := fun _ => fun
  | [d1, d2, d3] => { results := [.lit (.bool true)], args := [d1, d2, d3] }
  | _ => none }
def causalMissingRow : OpenClaim := { program := "ytnbbgcdemafcoaadoor", sum := "cb707dfe167ad7cf62ff5f3bc9109376438be1d6a5f18b5f3280e39c5d22c492", func := "barrow/barrowlaw11.CausalMissing", spec := "causalMissing", named := ["barrow/api.ErrArg"], plainKeys := false, apart := false, laid := [("barrow/api.ErrArg", laid_barrow_api_ErrArg)] }
def CausalMissingSaid : Prop := causalMissingRow.holds Tryd.pinned (OpenSpec.ofChange causalMissingSpec)

/-- ITS FALSE NEIGHBOUR: 'it returns false'. Refute it at one input. -/
def causalMissingWrong : ChangeSpec := { name := "causalMissing", fn := fun _ => fun
  | [d1, d2, d3] => { results := [.lit (.bool false)], args := [d1, d2, d3] }
  | _ => none }
def CausalMissingWrongFalsely : Prop := causalMissingRow.holds Tryd.pinned (OpenSpec.ofChange causalMissingWrong)

/-- 'barrowlaw11.CausalLacks': WHATEVER THE INPUT: true; the input reads as it did. -/
def causalLacksSpec : ChangeSpec := { name := "causalLacks", fn := fun _ => fun
  | [d1, d2, d3] => { results := [.lit (.bool true)], args := [d1, d2, d3] }
  | _ => none }
def causalLacksRow : OpenClaim := { program := "ytnbbgcdemafcoaadoor", sum := "cb707dfe167ad7cf62ff5f3bc9109376438be1d6a5f18b5f3280e39c5d22c492", func := "barrow/barrowlaw11.CausalLacks", spec := "causalLacks", named := ["barrow/api.ErrArg"], plainKeys := false, apart := false, laid := [("barrow/api.ErrArg", laid_barrow_api_ErrArg)] }
def CausalLacksSaid : Prop := causalLacksRow.holds Tryd.pinned (OpenSpec.ofChange causalLacksSpec)

/-- ITS FALSE NEIGHBOUR: 'it returns false'. Refute it at one input. -/
def causalLacksWrong : ChangeSpec := { name := "causalLacks", fn := fun _ => fun
  | [d1, d2, d3] => { results := [.lit (.bool false)], args := [d1, d2, d3] }
  | _ => none }
def CausalLacksWrongFalsely : Prop := causalLacksRow.holds Tryd.pinned (OpenSpec.ofChange causalLacksWrong)

/-- 'barrowlaw11.CausalOrder': WHATEVER THE INPUT: true; the input reads as it did. -/
def causalOrderSpec : ChangeSpec := { name := "causalOrder", fn := fun _ => fun
  | [d1, d2] => { results := [.lit (.bool true)], args := [d1, d2] }
  | _ => none }
def causalOrderRow : OpenClaim := { program := "ytnbbgcdemafcoaadoor", sum := "cb707dfe167ad7cf62ff5f3bc9109376438be1d6a5f18b5f3280e39c5d22c492", func := "barrow/barrowlaw11.CausalOrder", spec := "causalOrder", unfollowed := true, recurses := true, named := ["barrow/api.ErrArg"], plainKeys := false, apart := false, laid := [("barrow/api.ErrArg", laid_barrow_api_ErrArg)] }
def CausalOrderSaid : Prop := causalOrderRow.holds Tryd.pinned (OpenSpec.ofChange causalOrderSpec)

/-- ITS FALSE NEIGHBOUR: 'it returns false'. Refute it at one input. -/
def causalOrderWrong : ChangeSpec := { name := "causalOrder", fn := fun _ => fun
  | [d1, d2] => { results := [.lit (.bool false)], args := [d1, d2] }
  | _ => none }
def CausalOrderWrongFalsely : Prop := causalOrderRow.holds Tryd.pinned (OpenSpec.ofChange causalOrderWrong)

/-- 'barrowlaw11.CausalExact': WHATEVER THE INPUT: true; the input reads as it did. -/
def causalExactSpec : ChangeSpec := { name := "causalExact", fn := fun _ => fun
  | [d1, d2] => { results := [.lit (.bool true)], args := [d1, d2] }
  | _ => none }
def causalExactRow : OpenClaim := { program := "ytnbbgcdemafcoaadoor", sum := "cb707dfe167ad7cf62ff5f3bc9109376438be1d6a5f18b5f3280e39c5d22c492", func := "barrow/barrowlaw11.CausalExact", spec := "causalExact", unfollowed := true, recurses := true, named := ["barrow/api.ErrArg", "barrow/api.ErrRange", "barrow/api.ErrText", "barrow/api.ErrFull", "barrow/api.ErrFrozen", "barrow/api.ErrForm", "barrow/api.ErrShort", "barrow/api.ErrOrder", "barrow/api.ErrTwice", "barrow/api.ErrEpoch", "barrow/api.ErrBusy", "barrow/api.ErrNone", "barrow/api.ErrRoom", "barrow/api.ErrOther"], plainKeys := false, apart := false, laid := [("barrow/api.ErrArg", laid_barrow_api_ErrArg), ("barrow/api.ErrRange", laid_barrow_api_ErrRange), ("barrow/api.ErrText", laid_barrow_api_ErrText), ("barrow/api.ErrFull", laid_barrow_api_ErrFull), ("barrow/api.ErrFrozen", laid_barrow_api_ErrFrozen), ("barrow/api.ErrForm", laid_barrow_api_ErrForm), ("barrow/api.ErrShort", laid_barrow_api_ErrShort), ("barrow/api.ErrOrder", laid_barrow_api_ErrOrder), ("barrow/api.ErrTwice", laid_barrow_api_ErrTwice), ("barrow/api.ErrEpoch", laid_barrow_api_ErrEpoch), ("barrow/api.ErrBusy", laid_barrow_api_ErrBusy), ("barrow/api.ErrNone", laid_barrow_api_ErrNone), ("barrow/api.ErrRoom", laid_barrow_api_ErrRoom), ("barrow/api.ErrOther", laid_barrow_api_ErrOther)] }
def CausalExactSaid : Prop := causalExactRow.holds Tryd.pinned (OpenSpec.ofChange causalExactSpec)

/-- ITS FALSE NEIGHBOUR: 'it returns false'. Refute it at one input. -/
def causalExactWrong : ChangeSpec := { name := "causalExact", fn := fun _ => fun
  | [d1, d2] => { results := [.lit (.bool false)], args := [d1, d2] }
  | _ => none }
def CausalExactWrongFalsely : Prop := causalExactRow.holds Tryd.pinned (OpenSpec.ofChange causalExactWrong)

/- THE SECOND FORM. 'bulk': how many values and letters a reading holds, each counted each time it is reached (what is shared counts as often as it is met; a slice's spare places count too). A statement '..UptoSaid' is the law's where the arguments, and the package variables that the reading takes, are together of bulk at most 1048576: NARROWER than '..Said'. Prove '..Said' where nothing that the law and all that it calls make is longer than what came in: it says more and counts as full. Else prove '..UptoSaid'. A law counts once. -/
mutual
def uptoBulk {H : Type} : DataW H → Nat
  | .lit (.string bytes) => bytes.length + 1
  | .lit _ => 1
  | .nil => 1
  | .ptr d => uptoBulk d + 1
  | .slice elems spare => uptoBulkAll elems + uptoBulkAll spare + 1
  | .agg parts => uptoBulkAll parts + 1
  | .iface _ d => uptoBulk d + 1
  | .map entries => uptoBulkEntries entries + 1
  | .held _ => 1
def uptoBulkAll {H : Type} : List (DataW H) → Nat
  | [] => 0
  | d :: r => uptoBulk d + uptoBulkAll r
def uptoBulkEntries {H : Type} : List (Lit × DataW H) → Nat
  | [] => 0
  | x :: r => uptoBulkEntry x + uptoBulkEntries r
def uptoBulkEntry {H : Type} : Lit × DataW H → Nat
  | (.string bytes, d) => bytes.length + uptoBulk d + 1
  | (_, d) => uptoBulk d + 1
 end
def uptoSmall : (H : Type) → List (DataW H) → Bool := fun _ ds => decide (uptoBulkAll ds ≤ 1048576)
def OpenSpec.upto (s : _root_.Go.ChangeSpec) : _root_.Go.OpenSpec := { _root_.Go.OpenSpec.ofChange s with cond := some uptoSmall }

/-- 'barrowlaw11.CausalDelivers', WHERE WHAT IT READS IS OF BULK AT MOST 1048576: true; the input reads as it did. -/
def causalDeliversUptoRow : OpenClaim := { program := "ytnbbgcdemafcoaadoor", sum := "cb707dfe167ad7cf62ff5f3bc9109376438be1d6a5f18b5f3280e39c5d22c492", func := "barrow/barrowlaw11.CausalDelivers", spec := "causalDelivers", named := ["barrow/api.ErrArg"], plainKeys := false, apart := false, laid := [("barrow/api.ErrArg", laid_barrow_api_ErrArg)], narrowed := true }
def CausalDeliversUptoSaid : Prop := causalDeliversUptoRow.holds Tryd.pinned (OpenSpec.upto causalDeliversSpec)

/-- 'barrowlaw11.CausalNames', WHERE WHAT IT READS IS OF BULK AT MOST 1048576: true; the input reads as it did. -/
def causalNamesUptoRow : OpenClaim := { program := "ytnbbgcdemafcoaadoor", sum := "cb707dfe167ad7cf62ff5f3bc9109376438be1d6a5f18b5f3280e39c5d22c492", func := "barrow/barrowlaw11.CausalNames", spec := "causalNames", named := ["barrow/api.ErrArg"], plainKeys := false, apart := false, laid := [("barrow/api.ErrArg", laid_barrow_api_ErrArg)], narrowed := true }
def CausalNamesUptoSaid : Prop := causalNamesUptoRow.holds Tryd.pinned (OpenSpec.upto causalNamesSpec)

/-- 'barrowlaw11.CausalMissing', WHERE WHAT IT READS IS OF BULK AT MOST 1048576: true; the input reads as it did. -/
def causalMissingUptoRow : OpenClaim := { program := "ytnbbgcdemafcoaadoor", sum := "cb707dfe167ad7cf62ff5f3bc9109376438be1d6a5f18b5f3280e39c5d22c492", func := "barrow/barrowlaw11.CausalMissing", spec := "causalMissing", named := ["barrow/api.ErrArg"], plainKeys := false, apart := false, laid := [("barrow/api.ErrArg", laid_barrow_api_ErrArg)], narrowed := true }
def CausalMissingUptoSaid : Prop := causalMissingUptoRow.holds Tryd.pinned (OpenSpec.upto causalMissingSpec)

/-- 'barrowlaw11.CausalLacks', WHERE WHAT IT READS IS OF BULK AT MOST 1048576: true; the input reads as it did. -/
def causalLacksUptoRow : OpenClaim := { program := "ytnbbgcdemafcoaadoor", sum := "cb707dfe167ad7cf62ff5f3bc9109376438be1d6a5f18b5f3280e39c5d22c492", func := "barrow/barrowlaw11.CausalLacks", spec := "causalLacks", named := ["barrow/api.ErrArg"], plainKeys := false, apart := false, laid := [("barrow/api.ErrArg", laid_barrow_api_ErrArg)], narrowed := true }
def CausalLacksUptoSaid : Prop := causalLacksUptoRow.holds Tryd.pinned (OpenSpec.upto causalLacksSpec)

/-- 'barrowlaw11.CausalOrder', WHERE WHAT IT READS IS OF BULK AT MOST 1048576: true; the input reads as it did. -/
def causalOrderUptoRow : OpenClaim := { program := "ytnbbgcdemafcoaadoor", sum := "cb707dfe167ad7cf62ff5f3bc9109376438be1d6a5f18b5f3280e39c5d22c492", func := "barrow/barrowlaw11.CausalOrder", spec := "causalOrder", unfollowed := true, recurses := true, named := ["barrow/api.ErrArg"], plainKeys := false, apart := false, laid := [("barrow/api.ErrArg", laid_barrow_api_ErrArg)], narrowed := true }
def CausalOrderUptoSaid : Prop := causalOrderUptoRow.holds Tryd.pinned (OpenSpec.upto causalOrderSpec)

/-- 'barrowlaw11.CausalExact', WHERE WHAT IT READS IS OF BULK AT MOST 1048576: true; the input reads as it did. -/
def causalExactUptoRow : OpenClaim := { program := "ytnbbgcdemafcoaadoor", sum := "cb707dfe167ad7cf62ff5f3bc9109376438be1d6a5f18b5f3280e39c5d22c492", func := "barrow/barrowlaw11.CausalExact", spec := "causalExact", unfollowed := true, recurses := true, named := ["barrow/api.ErrArg", "barrow/api.ErrRange", "barrow/api.ErrText", "barrow/api.ErrFull", "barrow/api.ErrFrozen", "barrow/api.ErrForm", "barrow/api.ErrShort", "barrow/api.ErrOrder", "barrow/api.ErrTwice", "barrow/api.ErrEpoch", "barrow/api.ErrBusy", "barrow/api.ErrNone", "barrow/api.ErrRoom", "barrow/api.ErrOther"], plainKeys := false, apart := false, laid := [("barrow/api.ErrArg", laid_barrow_api_ErrArg), ("barrow/api.ErrRange", laid_barrow_api_ErrRange), ("barrow/api.ErrText", laid_barrow_api_ErrText), ("barrow/api.ErrFull", laid_barrow_api_ErrFull), ("barrow/api.ErrFrozen", laid_barrow_api_ErrFrozen), ("barrow/api.ErrForm", laid_barrow_api_ErrForm), ("barrow/api.ErrShort", laid_barrow_api_ErrShort), ("barrow/api.ErrOrder", laid_barrow_api_ErrOrder), ("barrow/api.ErrTwice", laid_barrow_api_ErrTwice), ("barrow/api.ErrEpoch", laid_barrow_api_ErrEpoch), ("barrow/api.ErrBusy", laid_barrow_api_ErrBusy), ("barrow/api.ErrNone", laid_barrow_api_ErrNone), ("barrow/api.ErrRoom", laid_barrow_api_ErrRoom), ("barrow/api.ErrOther", laid_barrow_api_ErrOther)], narrowed := true }
def CausalExactUptoSaid : Prop := causalExactUptoRow.holds Tryd.pinned (OpenSpec.upto causalExactSpec)

end Rows
end Go.Proofs.YtnbbgcdemafcoaaDoor
