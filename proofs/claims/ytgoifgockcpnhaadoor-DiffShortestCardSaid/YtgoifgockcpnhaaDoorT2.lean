/- The types of this seat: records as data, and what the walk does with them. -/
import Derived.Test.YtgoifgockcpnhaaDoorR2
import Derived.Test.YtgoifgockcpnhaaDoorH8
import Derived.Test.YtgoifgockcpnhaaDoorHS
import Derived.Test.YtgoifgockcpnhaaDoorHU
import Derived.Test.YtgoifgockcpnhaaDoorProg
import Derived.ChangeKeysEq
set_option linter.unusedSimpArgs false
set_option linter.unusedVariables false
namespace Go.Proofs.YtgoifgockcpnhaaDoor
open Go Go.RowKit

/-- A list cut into pieces. -/
def catCut (cs : List Value) : Nat → List Nat → List Value
  | o, [] => cs.drop o
  | o, n :: ns => (cs.drop o).take n ++ catCut cs (o + n) ns
theorem catCut_eq (cs : List Value) : ∀ (ns : List Nat) (o : Nat), catCut cs o ns = cs.drop o
  | [], _ => rfl
  | n :: ns, o => by
    unfold catCut
    rw [catCut_eq cs ns, ← List.drop_drop]
    exact List.take_append_drop n (cs.drop o)

theorem opens_int : Opens Tryd.prog 3 1 (fun i : Int => #[.int .i64 i]) InI := opens_i64 Tryd.underlying3 (by kernel_rfl)
theorem ba_iff {a b : ByteArray} : a.toList = b.toList ↔ a = b := ⟨fun h => by rw [ByteArray.toList_eq, ByteArray.toList_eq] at h; exact ByteArray.ext (Array.toList_inj.1 h), fun h => by rw [h]⟩
/-! ### barrow/api.Edit -/
structure EdtD where
  at_ : Int
  er : Int
  ins : ByteArray
def edt (a : EdtD) : Array Value := #[.int .i64 a.at_, .int .i64 a.er, .string a.ins]
def edt0 : EdtD := ⟨0, 0, .empty⟩
@[go_sem] theorem edt_size (a : EdtD) : (edt a).size = 3 := by unfold edt; simp
@[go_sem] theorem edt_flat (a : EdtD) : flat (edt a) = true := by simp [flat, edt, Value.oneCell']
@[go_sem] theorem edt_0 (a : EdtD) : (edt a)[0]? = some (.int .i64 a.at_) := by unfold edt; simp
@[go_sem] theorem edt_e0 (a : EdtD) (h : 0 < (edt a).size) : (edt a)[0] = .int .i64 a.at_ := by unfold edt; simp
@[go_sem] theorem edt_1 (a : EdtD) : (edt a)[1]? = some (.int .i64 a.er) := by unfold edt; simp
@[go_sem] theorem edt_e1 (a : EdtD) (h : 1 < (edt a).size) : (edt a)[1] = .int .i64 a.er := by unfold edt; simp
@[go_sem] theorem edt_2 (a : EdtD) : (edt a)[2]? = some (.string a.ins) := by unfold edt; simp
@[go_sem] theorem edt_e2 (a : EdtD) (h : 2 < (edt a).size) : (edt a)[2] = .string a.ins := by unfold edt; simp
@[go_sem] theorem edt_s0 (a : EdtD) (v : Int) : (edt a).setIfInBounds 0 (.int .i64 v) = edt { a with at_ := v } := by unfold edt; simp
@[go_sem] theorem edt_s1 (a : EdtD) (v : Int) : (edt a).setIfInBounds 1 (.int .i64 v) = edt { a with er := v } := by unfold edt; simp
@[go_sem] theorem edt_s2 (a : EdtD) (v : ByteArray) : (edt a).setIfInBounds 2 (.string v) = edt { a with ins := v } := by unfold edt; simp
@[go_sem ↓] theorem field_edt (x : Value) (f : Nat) : Instr.field 44 x f = fldS 44 x f := (fldS_eq 44 x f).symm
@[go_sem] theorem fld_edt0 (cs : Array Value) (w : World) : (fldS 44 (.agg cs) 0).run Tryd.prog w = fldOne Tryd.prog 44 0 0 cs w :=
  run_fldS Tryd.prog 44 0 _ _ _ Tryd.underlying44 rfl Tryd.underlying3 rfl cs w
@[go_sem] theorem fld_edt1 (cs : Array Value) (w : World) : (fldS 44 (.agg cs) 1).run Tryd.prog w = fldOne Tryd.prog 44 1 1 cs w :=
  run_fldS Tryd.prog 44 1 _ _ _ Tryd.underlying44 rfl Tryd.underlying3 rfl cs w
@[go_sem] theorem fld_edt2 (cs : Array Value) (w : World) : (fldS 44 (.agg cs) 2).run Tryd.prog w = fldOne Tryd.prog 44 2 2 cs w :=
  run_fldS Tryd.prog 44 2 _ _ _ Tryd.underlying44 rfl Tryd.underlying9 rfl cs w
def edtEq (a b : EdtD) : Bool := a.at_ == b.at_ && (a.er == b.er && ((a.ins.toList == b.ins.toList)))
@[go_sem high] theorem neq_edt (a b : EdtD) (w : World) : (binOp .neq 44 (.agg (edt a)) (.agg (edt b))).run Tryd.prog w = .ok (.bool (!edtEq a b)) w := by
  unfold edt edtEq
  go_simp
  (repeat' split) <;> simp_all
@[go_sem high] theorem eql_edt (a b : EdtD) (w : World) : (binOp .eql 44 (.agg (edt a)) (.agg (edt b))).run Tryd.prog w = .ok (.bool (edtEq a b)) w := by
  unfold edt edtEq
  go_simp
  (repeat' split) <;> simp_all
theorem edtEq_iff {a b : EdtD} : edtEq a b = true ↔ a = b := by
  obtain ⟨a0, a1, a2⟩ := a
  obtain ⟨b0, b1, b2⟩ := b
  simp [edtEq, ba_iff]
theorem edtEq_refl (a : EdtD) : edtEq a a = true := edtEq_iff.2 rfl
instance : Inhabited EdtD := ⟨edt0⟩

/-! ### barrow/barrowlaw15.Texts -/
structure TxtD where
  a : ByteArray
  b : ByteArray
  c : ByteArray
  lp : Option Addr
  ln : Nat
  lc : Nat
def txt (a : TxtD) : Array Value := #[.string a.a, .string a.b, .string a.c, .slice a.lp a.ln a.lc]
def txt0 : TxtD := ⟨.empty, .empty, .empty, none, 0, 0⟩
@[go_sem] theorem txt_size (a : TxtD) : (txt a).size = 4 := by unfold txt; simp
@[go_sem] theorem txt_flat (a : TxtD) : flat (txt a) = true := by simp [flat, txt, Value.oneCell']
@[go_sem] theorem txt_0 (a : TxtD) : (txt a)[0]? = some (.string a.a) := by unfold txt; simp
@[go_sem] theorem txt_e0 (a : TxtD) (h : 0 < (txt a).size) : (txt a)[0] = .string a.a := by unfold txt; simp
@[go_sem] theorem txt_1 (a : TxtD) : (txt a)[1]? = some (.string a.b) := by unfold txt; simp
@[go_sem] theorem txt_e1 (a : TxtD) (h : 1 < (txt a).size) : (txt a)[1] = .string a.b := by unfold txt; simp
@[go_sem] theorem txt_2 (a : TxtD) : (txt a)[2]? = some (.string a.c) := by unfold txt; simp
@[go_sem] theorem txt_e2 (a : TxtD) (h : 2 < (txt a).size) : (txt a)[2] = .string a.c := by unfold txt; simp
@[go_sem] theorem txt_3 (a : TxtD) : (txt a)[3]? = some (.slice a.lp a.ln a.lc) := by unfold txt; simp
@[go_sem] theorem txt_e3 (a : TxtD) (h : 3 < (txt a).size) : (txt a)[3] = .slice a.lp a.ln a.lc := by unfold txt; simp
@[go_sem] theorem txt_s0 (a : TxtD) (v : ByteArray) : (txt a).setIfInBounds 0 (.string v) = txt { a with a := v } := by unfold txt; simp
@[go_sem] theorem txt_s1 (a : TxtD) (v : ByteArray) : (txt a).setIfInBounds 1 (.string v) = txt { a with b := v } := by unfold txt; simp
@[go_sem] theorem txt_s2 (a : TxtD) (v : ByteArray) : (txt a).setIfInBounds 2 (.string v) = txt { a with c := v } := by unfold txt; simp
@[go_sem] theorem txt_s3 (a : TxtD) (p : Option Addr) (n c : Nat) : (txt a).setIfInBounds 3 (.slice p n c) = txt { a with lp := p, ln := n, lc := c } := by unfold txt; simp
@[go_sem ↓] theorem field_txt (x : Value) (f : Nat) : Instr.field 24 x f = fldS 24 x f := (fldS_eq 24 x f).symm
@[go_sem] theorem fld_txt0 (cs : Array Value) (w : World) : (fldS 24 (.agg cs) 0).run Tryd.prog w = fldOne Tryd.prog 24 0 0 cs w :=
  run_fldS Tryd.prog 24 0 _ _ _ Tryd.underlying24 rfl Tryd.underlying9 rfl cs w
@[go_sem] theorem fld_txt1 (cs : Array Value) (w : World) : (fldS 24 (.agg cs) 1).run Tryd.prog w = fldOne Tryd.prog 24 1 1 cs w :=
  run_fldS Tryd.prog 24 1 _ _ _ Tryd.underlying24 rfl Tryd.underlying9 rfl cs w
@[go_sem] theorem fld_txt2 (cs : Array Value) (w : World) : (fldS 24 (.agg cs) 2).run Tryd.prog w = fldOne Tryd.prog 24 2 2 cs w :=
  run_fldS Tryd.prog 24 2 _ _ _ Tryd.underlying24 rfl Tryd.underlying9 rfl cs w
@[go_sem] theorem fld_txt3 (cs : Array Value) (w : World) : (fldS 24 (.agg cs) 3).run Tryd.prog w = fldOne Tryd.prog 24 3 3 cs w :=
  run_fldS Tryd.prog 24 3 _ _ _ Tryd.underlying24 rfl Tryd.underlying22 rfl cs w
instance : Inhabited TxtD := ⟨txt0⟩

/-! ### barrow/api.Link -/
structure LinkD where
  layer : ByteArray
  call : ByteArray
  pos : Int
def lnk (a : LinkD) : Array Value := #[.string a.layer, .string a.call, .int .i64 a.pos]
def lnk0 : LinkD := ⟨.empty, .empty, 0⟩
@[go_sem] theorem lnk_size (a : LinkD) : (lnk a).size = 3 := by unfold lnk; simp
@[go_sem] theorem lnk_flat (a : LinkD) : flat (lnk a) = true := by simp [flat, lnk, Value.oneCell']
@[go_sem] theorem lnk_0 (a : LinkD) : (lnk a)[0]? = some (.string a.layer) := by unfold lnk; simp
@[go_sem] theorem lnk_e0 (a : LinkD) (h : 0 < (lnk a).size) : (lnk a)[0] = .string a.layer := by unfold lnk; simp
@[go_sem] theorem lnk_1 (a : LinkD) : (lnk a)[1]? = some (.string a.call) := by unfold lnk; simp
@[go_sem] theorem lnk_e1 (a : LinkD) (h : 1 < (lnk a).size) : (lnk a)[1] = .string a.call := by unfold lnk; simp
@[go_sem] theorem lnk_2 (a : LinkD) : (lnk a)[2]? = some (.int .i64 a.pos) := by unfold lnk; simp
@[go_sem] theorem lnk_e2 (a : LinkD) (h : 2 < (lnk a).size) : (lnk a)[2] = .int .i64 a.pos := by unfold lnk; simp
@[go_sem] theorem lnk_s0 (a : LinkD) (v : ByteArray) : (lnk a).setIfInBounds 0 (.string v) = lnk { a with layer := v } := by unfold lnk; simp
@[go_sem] theorem lnk_s1 (a : LinkD) (v : ByteArray) : (lnk a).setIfInBounds 1 (.string v) = lnk { a with call := v } := by unfold lnk; simp
@[go_sem] theorem lnk_s2 (a : LinkD) (v : Int) : (lnk a).setIfInBounds 2 (.int .i64 v) = lnk { a with pos := v } := by unfold lnk; simp
@[go_sem ↓] theorem field_lnk (x : Value) (f : Nat) : Instr.field 104 x f = fldS 104 x f := (fldS_eq 104 x f).symm
@[go_sem] theorem fld_lnk0 (cs : Array Value) (w : World) : (fldS 104 (.agg cs) 0).run Tryd.prog w = fldOne Tryd.prog 104 0 0 cs w :=
  run_fldS Tryd.prog 104 0 _ _ _ Tryd.underlying104 rfl Tryd.underlying9 rfl cs w
@[go_sem] theorem fld_lnk1 (cs : Array Value) (w : World) : (fldS 104 (.agg cs) 1).run Tryd.prog w = fldOne Tryd.prog 104 1 1 cs w :=
  run_fldS Tryd.prog 104 1 _ _ _ Tryd.underlying104 rfl Tryd.underlying9 rfl cs w
@[go_sem] theorem fld_lnk2 (cs : Array Value) (w : World) : (fldS 104 (.agg cs) 2).run Tryd.prog w = fldOne Tryd.prog 104 2 2 cs w :=
  run_fldS Tryd.prog 104 2 _ _ _ Tryd.underlying104 rfl Tryd.underlying3 rfl cs w
def lnkEq (a b : LinkD) : Bool := (a.layer.toList == b.layer.toList) && ((a.call.toList == b.call.toList) && (a.pos == b.pos))
@[go_sem high] theorem neq_lnk (a b : LinkD) (w : World) : (binOp .neq 104 (.agg (lnk a)) (.agg (lnk b))).run Tryd.prog w = .ok (.bool (!lnkEq a b)) w := by
  unfold lnk lnkEq
  go_simp
  (repeat' split) <;> simp_all
@[go_sem high] theorem eql_lnk (a b : LinkD) (w : World) : (binOp .eql 104 (.agg (lnk a)) (.agg (lnk b))).run Tryd.prog w = .ok (.bool (lnkEq a b)) w := by
  unfold lnk lnkEq
  go_simp
  (repeat' split) <;> simp_all
theorem lnkEq_iff {a b : LinkD} : lnkEq a b = true ↔ a = b := by
  obtain ⟨a0, a1, a2⟩ := a
  obtain ⟨b0, b1, b2⟩ := b
  simp [lnkEq, ba_iff]
theorem lnkEq_refl (a : LinkD) : lnkEq a a = true := lnkEq_iff.2 rfl
instance : Inhabited LinkD := ⟨lnk0⟩

/-! ### barrow/barrowref01.No -/
structure NoD where
  code : Int
  chainp : Option Addr
  chainn : Nat
  chainc : Nat
  codesp : Option Addr
  codesn : Nat
  codesc : Nat
def nov (a : NoD) : Array Value := #[.int .i64 a.code, .slice a.chainp a.chainn a.chainc, .slice a.codesp a.codesn a.codesc]
def nov0 : NoD := ⟨0, none, 0, 0, none, 0, 0⟩
@[go_sem] theorem nov_size (a : NoD) : (nov a).size = 3 := by unfold nov; simp
@[go_sem] theorem nov_flat (a : NoD) : flat (nov a) = true := by simp [flat, nov, Value.oneCell']
@[go_sem] theorem nov_0 (a : NoD) : (nov a)[0]? = some (.int .i64 a.code) := by unfold nov; simp
@[go_sem] theorem nov_e0 (a : NoD) (h : 0 < (nov a).size) : (nov a)[0] = .int .i64 a.code := by unfold nov; simp
@[go_sem] theorem nov_1 (a : NoD) : (nov a)[1]? = some (.slice a.chainp a.chainn a.chainc) := by unfold nov; simp
@[go_sem] theorem nov_e1 (a : NoD) (h : 1 < (nov a).size) : (nov a)[1] = .slice a.chainp a.chainn a.chainc := by unfold nov; simp
@[go_sem] theorem nov_2 (a : NoD) : (nov a)[2]? = some (.slice a.codesp a.codesn a.codesc) := by unfold nov; simp
@[go_sem] theorem nov_e2 (a : NoD) (h : 2 < (nov a).size) : (nov a)[2] = .slice a.codesp a.codesn a.codesc := by unfold nov; simp
@[go_sem] theorem nov_s0 (a : NoD) (v : Int) : (nov a).setIfInBounds 0 (.int .i64 v) = nov { a with code := v } := by unfold nov; simp
@[go_sem] theorem nov_s1 (a : NoD) (p : Option Addr) (n c : Nat) : (nov a).setIfInBounds 1 (.slice p n c) = nov { a with chainp := p, chainn := n, chainc := c } := by unfold nov; simp
@[go_sem] theorem nov_s2 (a : NoD) (p : Option Addr) (n c : Nat) : (nov a).setIfInBounds 2 (.slice p n c) = nov { a with codesp := p, codesn := n, codesc := c } := by unfold nov; simp
@[go_sem ↓] theorem field_nov (x : Value) (f : Nat) : Instr.field 50 x f = fldS 50 x f := (fldS_eq 50 x f).symm
@[go_sem] theorem fld_nov0 (cs : Array Value) (w : World) : (fldS 50 (.agg cs) 0).run Tryd.prog w = fldOne Tryd.prog 50 0 0 cs w :=
  run_fldS Tryd.prog 50 0 _ _ _ Tryd.underlying50 rfl Tryd.underlying3 rfl cs w
@[go_sem] theorem fld_nov1 (cs : Array Value) (w : World) : (fldS 50 (.agg cs) 1).run Tryd.prog w = fldOne Tryd.prog 50 1 1 cs w :=
  run_fldS Tryd.prog 50 1 _ _ _ Tryd.underlying50 rfl Tryd.underlying47 rfl cs w
@[go_sem] theorem fld_nov2 (cs : Array Value) (w : World) : (fldS 50 (.agg cs) 2).run Tryd.prog w = fldOne Tryd.prog 50 2 2 cs w :=
  run_fldS Tryd.prog 50 2 _ _ _ Tryd.underlying50 rfl Tryd.underlying48 rfl cs w
instance : Inhabited NoD := ⟨nov0⟩

end Go.Proofs.YtgoifgockcpnhaaDoor
