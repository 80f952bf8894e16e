/- The types of this seat: records as data, and what the walk does with them. -/
import Derived.Test.YtnbbgcdemafcoaaDoorT2
import Derived.Test.YtnbbgcdemafcoaaDoorR2
import Derived.Test.YtnbbgcdemafcoaaDoorProg
import Derived.ChangeKeysEq
set_option linter.unusedSimpArgs false
set_option linter.unusedVariables false
namespace Go.Proofs.YtnbbgcdemafcoaaDoor
open Go Go.RowKit

/-- A list cut into pieces. -/
def catCut (cs : List Value) : Nat → List Nat → List Value
  | o, [] => cs.drop o
  | o, n :: ns => (cs.drop o).take n ++ catCut cs (o + n) ns
theorem catCut_eq (cs : List Value) : ∀ (ns : List Nat) (o : Nat), catCut cs o ns = cs.drop o
  | [], _ => rfl
  | n :: ns, o => by
    unfold catCut
    rw [catCut_eq cs ns, ← List.drop_drop]
    exact List.take_append_drop n (cs.drop o)

theorem ba_iff {a b : ByteArray} : a.toList = b.toList ↔ a = b := ⟨fun h => by rw [ByteArray.toList_eq, ByteArray.toList_eq] at h; exact ByteArray.ext (Array.toList_inj.1 h), fun h => by rw [h]⟩
/-! ### barrow/api.Link -/
structure LinkD where
  layer : ByteArray
  call : ByteArray
  pos : Int
def lnk (a : LinkD) : Array Value := #[.string a.layer, .string a.call, .int .i64 a.pos]
def lnk0 : LinkD := ⟨.empty, .empty, 0⟩
@[go_sem] theorem lnk_size (a : LinkD) : (lnk a).size = 3 := by unfold lnk; simp
@[go_sem] theorem lnk_flat (a : LinkD) : flat (lnk a) = true := by simp [flat, lnk, Value.oneCell']
@[go_sem] theorem lnk_0 (a : LinkD) : (lnk a)[0]? = some (.string a.layer) := by unfold lnk; simp
@[go_sem] theorem lnk_e0 (a : LinkD) (h : 0 < (lnk a).size) : (lnk a)[0] = .string a.layer := by unfold lnk; simp
@[go_sem] theorem lnk_1 (a : LinkD) : (lnk a)[1]? = some (.string a.call) := by unfold lnk; simp
@[go_sem] theorem lnk_e1 (a : LinkD) (h : 1 < (lnk a).size) : (lnk a)[1] = .string a.call := by unfold lnk; simp
@[go_sem] theorem lnk_2 (a : LinkD) : (lnk a)[2]? = some (.int .i64 a.pos) := by unfold lnk; simp
@[go_sem] theorem lnk_e2 (a : LinkD) (h : 2 < (lnk a).size) : (lnk a)[2] = .int .i64 a.pos := by unfold lnk; simp
@[go_sem] theorem lnk_s0 (a : LinkD) (v : ByteArray) : (lnk a).setIfInBounds 0 (.string v) = lnk { a with layer := v } := by unfold lnk; simp
@[go_sem] theorem lnk_s1 (a : LinkD) (v : ByteArray) : (lnk a).setIfInBounds 1 (.string v) = lnk { a with call := v } := by unfold lnk; simp
@[go_sem] theorem lnk_s2 (a : LinkD) (v : Int) : (lnk a).setIfInBounds 2 (.int .i64 v) = lnk { a with pos := v } := by unfold lnk; simp
@[go_sem ↓] theorem field_lnk (x : Value) (f : Nat) : Instr.field 98 x f = fldS 98 x f := (fldS_eq 98 x f).symm
@[go_sem] theorem fld_lnk0 (cs : Array Value) (w : World) : (fldS 98 (.agg cs) 0).run Tryd.prog w = fldOne Tryd.prog 98 0 0 cs w :=
  run_fldS Tryd.prog 98 0 _ _ _ Tryd.underlying98 rfl Tryd.underlying9 rfl cs w
@[go_sem] theorem fld_lnk1 (cs : Array Value) (w : World) : (fldS 98 (.agg cs) 1).run Tryd.prog w = fldOne Tryd.prog 98 1 1 cs w :=
  run_fldS Tryd.prog 98 1 _ _ _ Tryd.underlying98 rfl Tryd.underlying9 rfl cs w
@[go_sem] theorem fld_lnk2 (cs : Array Value) (w : World) : (fldS 98 (.agg cs) 2).run Tryd.prog w = fldOne Tryd.prog 98 2 2 cs w :=
  run_fldS Tryd.prog 98 2 _ _ _ Tryd.underlying98 rfl Tryd.underlying3 rfl cs w
def lnkEq (a b : LinkD) : Bool := (a.layer.toList == b.layer.toList) && ((a.call.toList == b.call.toList) && (a.pos == b.pos))
@[go_sem high] theorem neq_lnk (a b : LinkD) (w : World) : (binOp .neq 98 (.agg (lnk a)) (.agg (lnk b))).run Tryd.prog w = .ok (.bool (!lnkEq a b)) w := by
  unfold lnk lnkEq
  go_simp
  (repeat' split) <;> simp_all
@[go_sem high] theorem eql_lnk (a b : LinkD) (w : World) : (binOp .eql 98 (.agg (lnk a)) (.agg (lnk b))).run Tryd.prog w = .ok (.bool (lnkEq a b)) w := by
  unfold lnk lnkEq
  go_simp
  (repeat' split) <;> simp_all
theorem lnkEq_iff {a b : LinkD} : lnkEq a b = true ↔ a = b := by
  obtain ⟨a0, a1, a2⟩ := a
  obtain ⟨b0, b1, b2⟩ := b
  simp [lnkEq, ba_iff]
theorem lnkEq_refl (a : LinkD) : lnkEq a a = true := lnkEq_iff.2 rfl
instance : Inhabited LinkD := ⟨lnk0⟩

/-! ### barrow/barrowref01.No -/
structure NoD where
  code : Int
  chainp : Option Addr
  chainn : Nat
  chainc : Nat
  codesp : Option Addr
  codesn : Nat
  codesc : Nat
def nov (a : NoD) : Array Value := #[.int .i64 a.code, .slice a.chainp a.chainn a.chainc, .slice a.codesp a.codesn a.codesc]
def nov0 : NoD := ⟨0, none, 0, 0, none, 0, 0⟩
@[go_sem] theorem nov_size (a : NoD) : (nov a).size = 3 := by unfold nov; simp
@[go_sem] theorem nov_flat (a : NoD) : flat (nov a) = true := by simp [flat, nov, Value.oneCell']
@[go_sem] theorem nov_0 (a : NoD) : (nov a)[0]? = some (.int .i64 a.code) := by unfold nov; simp
@[go_sem] theorem nov_e0 (a : NoD) (h : 0 < (nov a).size) : (nov a)[0] = .int .i64 a.code := by unfold nov; simp
@[go_sem] theorem nov_1 (a : NoD) : (nov a)[1]? = some (.slice a.chainp a.chainn a.chainc) := by unfold nov; simp
@[go_sem] theorem nov_e1 (a : NoD) (h : 1 < (nov a).size) : (nov a)[1] = .slice a.chainp a.chainn a.chainc := by unfold nov; simp
@[go_sem] theorem nov_2 (a : NoD) : (nov a)[2]? = some (.slice a.codesp a.codesn a.codesc) := by unfold nov; simp
@[go_sem] theorem nov_e2 (a : NoD) (h : 2 < (nov a).size) : (nov a)[2] = .slice a.codesp a.codesn a.codesc := by unfold nov; simp
@[go_sem] theorem nov_s0 (a : NoD) (v : Int) : (nov a).setIfInBounds 0 (.int .i64 v) = nov { a with code := v } := by unfold nov; simp
@[go_sem] theorem nov_s1 (a : NoD) (p : Option Addr) (n c : Nat) : (nov a).setIfInBounds 1 (.slice p n c) = nov { a with chainp := p, chainn := n, chainc := c } := by unfold nov; simp
@[go_sem] theorem nov_s2 (a : NoD) (p : Option Addr) (n c : Nat) : (nov a).setIfInBounds 2 (.slice p n c) = nov { a with codesp := p, codesn := n, codesc := c } := by unfold nov; simp
@[go_sem ↓] theorem field_nov (x : Value) (f : Nat) : Instr.field 54 x f = fldS 54 x f := (fldS_eq 54 x f).symm
@[go_sem] theorem fld_nov0 (cs : Array Value) (w : World) : (fldS 54 (.agg cs) 0).run Tryd.prog w = fldOne Tryd.prog 54 0 0 cs w :=
  run_fldS Tryd.prog 54 0 _ _ _ Tryd.underlying54 rfl Tryd.underlying3 rfl cs w
@[go_sem] theorem fld_nov1 (cs : Array Value) (w : World) : (fldS 54 (.agg cs) 1).run Tryd.prog w = fldOne Tryd.prog 54 1 1 cs w :=
  run_fldS Tryd.prog 54 1 _ _ _ Tryd.underlying54 rfl Tryd.underlying51 rfl cs w
@[go_sem] theorem fld_nov2 (cs : Array Value) (w : World) : (fldS 54 (.agg cs) 2).run Tryd.prog w = fldOne Tryd.prog 54 2 2 cs w :=
  run_fldS Tryd.prog 54 2 _ _ _ Tryd.underlying54 rfl Tryd.underlying52 rfl cs w
instance : Inhabited NoD := ⟨nov0⟩

end Go.Proofs.YtnbbgcdemafcoaaDoor
