/- Facts of the types and the functions of this seat. -/
import Derived.Test.YtgoifgockcpnhaaDoorZDC7AH
import Derived.Test.YtgoifgockcpnhaaDoorZDC7AI
import Derived.Test.YtgoifgockcpnhaaDoorZDC7AK
import Derived.Test.YtgoifgockcpnhaaDoorProg
import Derived.ChangeKeysEq
import Derived.Lib.AppendStr
set_option linter.unusedSimpArgs false
set_option linter.unusedVariables false
namespace Go.Proofs.YtgoifgockcpnhaaDoor
open Go Go.RowKit

theorem ba_iff {a b : ByteArray} : a.toList = b.toList ↔ a = b := ⟨fun h => by rw [ByteArray.toList_eq, ByteArray.toList_eq] at h; exact ByteArray.ext (Array.toList_inj.1 h), fun h => by rw [h]⟩
/-! ### barrow/api.Edit -/
structure EdtD where
  at_ : Int
  er : Int
  ins : ByteArray
def edt (a : EdtD) : Array Value := #[.int .i64 a.at_, .int .i64 a.er, .string a.ins]
def edt0 : EdtD := ⟨0, 0, .empty⟩
@[go_sem] theorem edt_size (a : EdtD) : (edt a).size = 3 := by unfold edt; simp
@[go_sem] theorem edt_flat (a : EdtD) : flat (edt a) = true := by simp [flat, edt, Value.oneCell']
@[go_sem] theorem edt_0 (a : EdtD) : (edt a)[0]? = some (.int .i64 a.at_) := by unfold edt; simp
@[go_sem] theorem edt_e0 (a : EdtD) (h : 0 < (edt a).size) : (edt a)[0] = .int .i64 a.at_ := by unfold edt; simp
@[go_sem] theorem edt_1 (a : EdtD) : (edt a)[1]? = some (.int .i64 a.er) := by unfold edt; simp
@[go_sem] theorem edt_e1 (a : EdtD) (h : 1 < (edt a).size) : (edt a)[1] = .int .i64 a.er := by unfold edt; simp
@[go_sem] theorem edt_2 (a : EdtD) : (edt a)[2]? = some (.string a.ins) := by unfold edt; simp
@[go_sem] theorem edt_e2 (a : EdtD) (h : 2 < (edt a).size) : (edt a)[2] = .string a.ins := by unfold edt; simp
@[go_sem] theorem edt_s0 (a : EdtD) (v : Int) : (edt a).setIfInBounds 0 (.int .i64 v) = edt { a with at_ := v } := by unfold edt; simp
@[go_sem] theorem edt_s1 (a : EdtD) (v : Int) : (edt a).setIfInBounds 1 (.int .i64 v) = edt { a with er := v } := by unfold edt; simp
@[go_sem] theorem edt_s2 (a : EdtD) (v : ByteArray) : (edt a).setIfInBounds 2 (.string v) = edt { a with ins := v } := by unfold edt; simp
@[go_sem ↓] theorem field_edt (x : Value) (f : Nat) : Instr.field 44 x f = fldS 44 x f := (fldS_eq 44 x f).symm
@[go_sem] theorem fld_edt0 (cs : Array Value) (w : World) : (fldS 44 (.agg cs) 0).run Tryd.prog w = fldOne Tryd.prog 44 0 0 cs w :=
  run_fldS Tryd.prog 44 0 _ _ _ Tryd.underlying44 rfl Tryd.underlying3 rfl cs w
@[go_sem] theorem fld_edt1 (cs : Array Value) (w : World) : (fldS 44 (.agg cs) 1).run Tryd.prog w = fldOne Tryd.prog 44 1 1 cs w :=
  run_fldS Tryd.prog 44 1 _ _ _ Tryd.underlying44 rfl Tryd.underlying3 rfl cs w
@[go_sem] theorem fld_edt2 (cs : Array Value) (w : World) : (fldS 44 (.agg cs) 2).run Tryd.prog w = fldOne Tryd.prog 44 2 2 cs w :=
  run_fldS Tryd.prog 44 2 _ _ _ Tryd.underlying44 rfl Tryd.underlying9 rfl cs w
def edtEq (a b : EdtD) : Bool := a.at_ == b.at_ && (a.er == b.er && ((a.ins.toList == b.ins.toList)))
@[go_sem high] theorem neq_edt (a b : EdtD) (w : World) : (binOp .neq 44 (.agg (edt a)) (.agg (edt b))).run Tryd.prog w = .ok (.bool (!edtEq a b)) w := by
  unfold edt edtEq
  go_simp
  (repeat' split) <;> simp_all
@[go_sem high] theorem eql_edt (a b : EdtD) (w : World) : (binOp .eql 44 (.agg (edt a)) (.agg (edt b))).run Tryd.prog w = .ok (.bool (edtEq a b)) w := by
  unfold edt edtEq
  go_simp
  (repeat' split) <;> simp_all
theorem edtEq_iff {a b : EdtD} : edtEq a b = true ↔ a = b := by
  obtain ⟨a0, a1, a2⟩ := a
  obtain ⟨b0, b1, b2⟩ := b
  simp [edtEq, ba_iff]
theorem edtEq_refl (a : EdtD) : edtEq a a = true := edtEq_iff.2 rfl
instance : Inhabited EdtD := ⟨edt0⟩

/-! ### barrow/barrowlaw15.Texts -/
structure TxtD where
  a : ByteArray
  b : ByteArray
  c : ByteArray
  lp : Option Addr
  ln : Nat
  lc : Nat
def txt (a : TxtD) : Array Value := #[.string a.a, .string a.b, .string a.c, .slice a.lp a.ln a.lc]
def txt0 : TxtD := ⟨.empty, .empty, .empty, none, 0, 0⟩
@[go_sem] theorem txt_size (a : TxtD) : (txt a).size = 4 := by unfold txt; simp
@[go_sem] theorem txt_flat (a : TxtD) : flat (txt a) = true := by simp [flat, txt, Value.oneCell']
@[go_sem] theorem txt_0 (a : TxtD) : (txt a)[0]? = some (.string a.a) := by unfold txt; simp
@[go_sem] theorem txt_e0 (a : TxtD) (h : 0 < (txt a).size) : (txt a)[0] = .string a.a := by unfold txt; simp
@[go_sem] theorem txt_1 (a : TxtD) : (txt a)[1]? = some (.string a.b) := by unfold txt; simp
@[go_sem] theorem txt_e1 (a : TxtD) (h : 1 < (txt a).size) : (txt a)[1] = .string a.b := by unfold txt; simp
@[go_sem] theorem txt_2 (a : TxtD) : (txt a)[2]? = some (.string a.c) := by unfold txt; simp
@[go_sem] theorem txt_e2 (a : TxtD) (h : 2 < (txt a).size) : (txt a)[2] = .string a.c := by unfold txt; simp
@[go_sem] theorem txt_3 (a : TxtD) : (txt a)[3]? = some (.slice a.lp a.ln a.lc) := by unfold txt; simp
@[go_sem] theorem txt_e3 (a : TxtD) (h : 3 < (txt a).size) : (txt a)[3] = .slice a.lp a.ln a.lc := by unfold txt; simp
@[go_sem] theorem txt_s0 (a : TxtD) (v : ByteArray) : (txt a).setIfInBounds 0 (.string v) = txt { a with a := v } := by unfold txt; simp
@[go_sem] theorem txt_s1 (a : TxtD) (v : ByteArray) : (txt a).setIfInBounds 1 (.string v) = txt { a with b := v } := by unfold txt; simp
@[go_sem] theorem txt_s2 (a : TxtD) (v : ByteArray) : (txt a).setIfInBounds 2 (.string v) = txt { a with c := v } := by unfold txt; simp
@[go_sem] theorem txt_s3 (a : TxtD) (p : Option Addr) (n c : Nat) : (txt a).setIfInBounds 3 (.slice p n c) = txt { a with lp := p, ln := n, lc := c } := by unfold txt; simp
@[go_sem ↓] theorem field_txt (x : Value) (f : Nat) : Instr.field 24 x f = fldS 24 x f := (fldS_eq 24 x f).symm
@[go_sem] theorem fld_txt0 (cs : Array Value) (w : World) : (fldS 24 (.agg cs) 0).run Tryd.prog w = fldOne Tryd.prog 24 0 0 cs w :=
  run_fldS Tryd.prog 24 0 _ _ _ Tryd.underlying24 rfl Tryd.underlying9 rfl cs w
@[go_sem] theorem fld_txt1 (cs : Array Value) (w : World) : (fldS 24 (.agg cs) 1).run Tryd.prog w = fldOne Tryd.prog 24 1 1 cs w :=
  run_fldS Tryd.prog 24 1 _ _ _ Tryd.underlying24 rfl Tryd.underlying9 rfl cs w
@[go_sem] theorem fld_txt2 (cs : Array Value) (w : World) : (fldS 24 (.agg cs) 2).run Tryd.prog w = fldOne Tryd.prog 24 2 2 cs w :=
  run_fldS Tryd.prog 24 2 _ _ _ Tryd.underlying24 rfl Tryd.underlying9 rfl cs w
@[go_sem] theorem fld_txt3 (cs : Array Value) (w : World) : (fldS 24 (.agg cs) 3).run Tryd.prog w = fldOne Tryd.prog 24 3 3 cs w :=
  run_fldS Tryd.prog 24 3 _ _ _ Tryd.underlying24 rfl Tryd.underlying22 rfl cs w
instance : Inhabited TxtD := ⟨txt0⟩

/-! ### barrow/api.Link -/
structure LinkD where
  layer : ByteArray
  call : ByteArray
  pos : Int
def lnk (a : LinkD) : Array Value := #[.string a.layer, .string a.call, .int .i64 a.pos]
def lnk0 : LinkD := ⟨.empty, .empty, 0⟩
@[go_sem] theorem lnk_size (a : LinkD) : (lnk a).size = 3 := by unfold lnk; simp
@[go_sem] theorem lnk_flat (a : LinkD) : flat (lnk a) = true := by simp [flat, lnk, Value.oneCell']
@[go_sem] theorem lnk_0 (a : LinkD) : (lnk a)[0]? = some (.string a.layer) := by unfold lnk; simp
@[go_sem] theorem lnk_e0 (a : LinkD) (h : 0 < (lnk a).size) : (lnk a)[0] = .string a.layer := by unfold lnk; simp
@[go_sem] theorem lnk_1 (a : LinkD) : (lnk a)[1]? = some (.string a.call) := by unfold lnk; simp
@[go_sem] theorem lnk_e1 (a : LinkD) (h : 1 < (lnk a).size) : (lnk a)[1] = .string a.call := by unfold lnk; simp
@[go_sem] theorem lnk_2 (a : LinkD) : (lnk a)[2]? = some (.int .i64 a.pos) := by unfold lnk; simp
@[go_sem] theorem lnk_e2 (a : LinkD) (h : 2 < (lnk a).size) : (lnk a)[2] = .int .i64 a.pos := by unfold lnk; simp
@[go_sem] theorem lnk_s0 (a : LinkD) (v : ByteArray) : (lnk a).setIfInBounds 0 (.string v) = lnk { a with layer := v } := by unfold lnk; simp
@[go_sem] theorem lnk_s1 (a : LinkD) (v : ByteArray) : (lnk a).setIfInBounds 1 (.string v) = lnk { a with call := v } := by unfold lnk; simp
@[go_sem] theorem lnk_s2 (a : LinkD) (v : Int) : (lnk a).setIfInBounds 2 (.int .i64 v) = lnk { a with pos := v } := by unfold lnk; simp
@[go_sem ↓] theorem field_lnk (x : Value) (f : Nat) : Instr.field 104 x f = fldS 104 x f := (fldS_eq 104 x f).symm
@[go_sem] theorem fld_lnk0 (cs : Array Value) (w : World) : (fldS 104 (.agg cs) 0).run Tryd.prog w = fldOne Tryd.prog 104 0 0 cs w :=
  run_fldS Tryd.prog 104 0 _ _ _ Tryd.underlying104 rfl Tryd.underlying9 rfl cs w
@[go_sem] theorem fld_lnk1 (cs : Array Value) (w : World) : (fldS 104 (.agg cs) 1).run Tryd.prog w = fldOne Tryd.prog 104 1 1 cs w :=
  run_fldS Tryd.prog 104 1 _ _ _ Tryd.underlying104 rfl Tryd.underlying9 rfl cs w
@[go_sem] theorem fld_lnk2 (cs : Array Value) (w : World) : (fldS 104 (.agg cs) 2).run Tryd.prog w = fldOne Tryd.prog 104 2 2 cs w :=
  run_fldS Tryd.prog 104 2 _ _ _ Tryd.underlying104 rfl Tryd.underlying3 rfl cs w
def lnkEq (a b : LinkD) : Bool := (a.layer.toList == b.layer.toList) && ((a.call.toList == b.call.toList) && (a.pos == b.pos))
@[go_sem high] theorem neq_lnk (a b : LinkD) (w : World) : (binOp .neq 104 (.agg (lnk a)) (.agg (lnk b))).run Tryd.prog w = .ok (.bool (!lnkEq a b)) w := by
  unfold lnk lnkEq
  go_simp
  (repeat' split) <;> simp_all
@[go_sem high] theorem eql_lnk (a b : LinkD) (w : World) : (binOp .eql 104 (.agg (lnk a)) (.agg (lnk b))).run Tryd.prog w = .ok (.bool (lnkEq a b)) w := by
  unfold lnk lnkEq
  go_simp
  (repeat' split) <;> simp_all
theorem lnkEq_iff {a b : LinkD} : lnkEq a b = true ↔ a = b := by
  obtain ⟨a0, a1, a2⟩ := a
  obtain ⟨b0, b1, b2⟩ := b
  simp [lnkEq, ba_iff]
theorem lnkEq_refl (a : LinkD) : lnkEq a a = true := lnkEq_iff.2 rfl
instance : Inhabited LinkD := ⟨lnk0⟩

/-! ### barrow/barrowref01.No -/
structure NoD where
  code : Int
  chainp : Option Addr
  chainn : Nat
  chainc : Nat
  codesp : Option Addr
  codesn : Nat
  codesc : Nat
def nov (a : NoD) : Array Value := #[.int .i64 a.code, .slice a.chainp a.chainn a.chainc, .slice a.codesp a.codesn a.codesc]
def nov0 : NoD := ⟨0, none, 0, 0, none, 0, 0⟩
@[go_sem] theorem nov_size (a : NoD) : (nov a).size = 3 := by unfold nov; simp
@[go_sem] theorem nov_flat (a : NoD) : flat (nov a) = true := by simp [flat, nov, Value.oneCell']
@[go_sem] theorem nov_0 (a : NoD) : (nov a)[0]? = some (.int .i64 a.code) := by unfold nov; simp
@[go_sem] theorem nov_e0 (a : NoD) (h : 0 < (nov a).size) : (nov a)[0] = .int .i64 a.code := by unfold nov; simp
@[go_sem] theorem nov_1 (a : NoD) : (nov a)[1]? = some (.slice a.chainp a.chainn a.chainc) := by unfold nov; simp
@[go_sem] theorem nov_e1 (a : NoD) (h : 1 < (nov a).size) : (nov a)[1] = .slice a.chainp a.chainn a.chainc := by unfold nov; simp
@[go_sem] theorem nov_2 (a : NoD) : (nov a)[2]? = some (.slice a.codesp a.codesn a.codesc) := by unfold nov; simp
@[go_sem] theorem nov_e2 (a : NoD) (h : 2 < (nov a).size) : (nov a)[2] = .slice a.codesp a.codesn a.codesc := by unfold nov; simp
@[go_sem] theorem nov_s0 (a : NoD) (v : Int) : (nov a).setIfInBounds 0 (.int .i64 v) = nov { a with code := v } := by unfold nov; simp
@[go_sem] theorem nov_s1 (a : NoD) (p : Option Addr) (n c : Nat) : (nov a).setIfInBounds 1 (.slice p n c) = nov { a with chainp := p, chainn := n, chainc := c } := by unfold nov; simp
@[go_sem] theorem nov_s2 (a : NoD) (p : Option Addr) (n c : Nat) : (nov a).setIfInBounds 2 (.slice p n c) = nov { a with codesp := p, codesn := n, codesc := c } := by unfold nov; simp
@[go_sem ↓] theorem field_nov (x : Value) (f : Nat) : Instr.field 50 x f = fldS 50 x f := (fldS_eq 50 x f).symm
@[go_sem] theorem fld_nov0 (cs : Array Value) (w : World) : (fldS 50 (.agg cs) 0).run Tryd.prog w = fldOne Tryd.prog 50 0 0 cs w :=
  run_fldS Tryd.prog 50 0 _ _ _ Tryd.underlying50 rfl Tryd.underlying3 rfl cs w
@[go_sem] theorem fld_nov1 (cs : Array Value) (w : World) : (fldS 50 (.agg cs) 1).run Tryd.prog w = fldOne Tryd.prog 50 1 1 cs w :=
  run_fldS Tryd.prog 50 1 _ _ _ Tryd.underlying50 rfl Tryd.underlying47 rfl cs w
@[go_sem] theorem fld_nov2 (cs : Array Value) (w : World) : (fldS 50 (.agg cs) 2).run Tryd.prog w = fldOne Tryd.prog 50 2 2 cs w :=
  run_fldS Tryd.prog 50 2 _ _ _ Tryd.underlying50 rfl Tryd.underlying48 rfl cs w
instance : Inhabited NoD := ⟨nov0⟩

end Go.Proofs.YtgoifgockcpnhaaDoor

set_option linter.unusedSimpArgs false
set_option linter.unusedVariables false
set_option maxRecDepth 4000
namespace Go.Proofs.YtgoifgockcpnhaaDoor
open Go Go.RowKit

@[go_sem] theorem sc_1 : ScT Tryd.prog 1 := ⟨⟨_, Tryd.underlying1, rfl⟩, by kernel_rfl⟩
@[go_sem] theorem sc_2 : ScT Tryd.prog 2 := ⟨⟨_, Tryd.underlying2, rfl⟩, by kernel_rfl⟩
@[go_sem] theorem sc_3 : ScT Tryd.prog 3 := ⟨⟨_, Tryd.underlying3, rfl⟩, by kernel_rfl⟩
theorem zero_3 : ZeroT Tryd.prog 3 #[.int .i64 0] := ⟨.int .i64 0, by kernel_rfl, rfl⟩
@[go_sem] theorem sc_4 : ScT Tryd.prog 4 := ⟨⟨_, Tryd.underlying4, rfl⟩, by kernel_rfl⟩
theorem zero_4 : ZeroT Tryd.prog 4 #[.bool false] := ⟨.bool false, by kernel_rfl, rfl⟩
@[go_sem] theorem sc_5 : ScT Tryd.prog 5 := ⟨⟨_, Tryd.underlying5, rfl⟩, by kernel_rfl⟩
@[go_sem] theorem sc_6 : ScT Tryd.prog 6 := ⟨⟨_, Tryd.underlying6, rfl⟩, by kernel_rfl⟩
@[go_sem] theorem sc_9 : ScT Tryd.prog 9 := ⟨⟨_, Tryd.underlying9, rfl⟩, by kernel_rfl⟩
@[go_sem] theorem sc_10 : ScT Tryd.prog 10 := ⟨⟨_, Tryd.underlying10, rfl⟩, by kernel_rfl⟩
@[go_sem] theorem sc_11 : ScT Tryd.prog 11 := ⟨⟨_, Tryd.underlying11, rfl⟩, by kernel_rfl⟩
@[go_sem] theorem sc_12 : ScT Tryd.prog 12 := ⟨⟨_, Tryd.underlying12, rfl⟩, by kernel_rfl⟩
@[go_sem] theorem sc_15 : ScT Tryd.prog 15 := ⟨⟨_, Tryd.underlying15, rfl⟩, by kernel_rfl⟩
@[go_sem] theorem sc_16 : ScT Tryd.prog 16 := ⟨⟨_, Tryd.underlying16, rfl⟩, by kernel_rfl⟩
@[go_sem] theorem sc_17 : ScT Tryd.prog 17 := ⟨⟨_, Tryd.underlying17, rfl⟩, by kernel_rfl⟩
@[go_sem] theorem sc_20 : ScT Tryd.prog 20 := ⟨⟨_, Tryd.underlying20, rfl⟩, by kernel_rfl⟩
@[go_sem] theorem sc_21 : ScT Tryd.prog 21 := ⟨⟨_, Tryd.underlying21, rfl⟩, by kernel_rfl⟩
@[go_sem] theorem sc_22 : ScT Tryd.prog 22 := ⟨⟨_, Tryd.underlying22, rfl⟩, by kernel_rfl⟩
theorem zero_22 : ZeroT Tryd.prog 22 #[.slice none 0 0] := ⟨.slice none 0 0, by kernel_rfl, rfl⟩
@[go_sem] theorem sc_25 : ScT Tryd.prog 25 := ⟨⟨_, Tryd.underlying25, rfl⟩, by kernel_rfl⟩
@[go_sem] theorem sc_26 : ScT Tryd.prog 26 := ⟨⟨_, Tryd.underlying26, rfl⟩, by kernel_rfl⟩
@[go_sem] theorem sc_27 : ScT Tryd.prog 27 := ⟨⟨_, Tryd.underlying27, rfl⟩, by kernel_rfl⟩
@[go_sem] theorem sc_28 : ScT Tryd.prog 28 := ⟨⟨_, Tryd.underlying28, rfl⟩, by kernel_rfl⟩
@[go_sem] theorem sc_29 : ScT Tryd.prog 29 := ⟨⟨_, Tryd.underlying29, rfl⟩, by kernel_rfl⟩
@[go_sem] theorem sc_31 : ScT Tryd.prog 31 := ⟨⟨_, Tryd.underlying31, rfl⟩, by kernel_rfl⟩
@[go_sem] theorem sc_32 : ScT Tryd.prog 32 := ⟨⟨_, Tryd.underlying32, rfl⟩, by kernel_rfl⟩
@[go_sem] theorem sc_33 : ScT Tryd.prog 33 := ⟨⟨_, Tryd.underlying33, rfl⟩, by kernel_rfl⟩
theorem zero_33 : ZeroT Tryd.prog 33 #[.slice none 0 0] := ⟨.slice none 0 0, by kernel_rfl, rfl⟩
@[go_sem] theorem sc_35 : ScT Tryd.prog 35 := ⟨⟨_, Tryd.underlying35, rfl⟩, by kernel_rfl⟩
@[go_sem] theorem sc_37 : ScT Tryd.prog 37 := ⟨⟨_, Tryd.underlying37, rfl⟩, by kernel_rfl⟩
@[go_sem] theorem sc_38 : ScT Tryd.prog 38 := ⟨⟨_, Tryd.underlying38, rfl⟩, by kernel_rfl⟩
@[go_sem] theorem sc_39 : ScT Tryd.prog 39 := ⟨⟨_, Tryd.underlying39, rfl⟩, by kernel_rfl⟩
@[go_sem] theorem sc_41 : ScT Tryd.prog 41 := ⟨⟨_, Tryd.underlying41, rfl⟩, by kernel_rfl⟩
@[go_sem] theorem sc_42 : ScT Tryd.prog 42 := ⟨⟨_, Tryd.underlying42, rfl⟩, by kernel_rfl⟩
theorem agg_44 : AggT Tryd.prog 44 3 := ⟨_, Tryd.underlying44, rfl, by kernel_rfl⟩
@[go_sem] theorem sc_45 : ScT Tryd.prog 45 := ⟨⟨_, Tryd.underlying45, rfl⟩, by kernel_rfl⟩
@[go_sem] theorem sc_46 : ScT Tryd.prog 46 := ⟨⟨_, Tryd.underlying46, rfl⟩, by kernel_rfl⟩
@[go_sem] theorem sc_47 : ScT Tryd.prog 47 := ⟨⟨_, Tryd.underlying47, rfl⟩, by kernel_rfl⟩
@[go_sem] theorem sc_48 : ScT Tryd.prog 48 := ⟨⟨_, Tryd.underlying48, rfl⟩, by kernel_rfl⟩
theorem zero_48 : ZeroT Tryd.prog 48 #[.slice none 0 0] := ⟨.slice none 0 0, by kernel_rfl, rfl⟩
theorem agg_50 : AggT Tryd.prog 50 3 := ⟨_, Tryd.underlying50, rfl, by kernel_rfl⟩
theorem zero_50 : ZeroT Tryd.prog 50 (nov nov0) := ⟨.agg (nov nov0), by kernel_rfl, rfl⟩
@[go_sem] theorem sc_52 : ScT Tryd.prog 52 := ⟨⟨_, Tryd.underlying52, rfl⟩, by kernel_rfl⟩
@[go_sem] theorem sc_53 : ScT Tryd.prog 53 := ⟨⟨_, Tryd.underlying53, rfl⟩, by kernel_rfl⟩
@[go_sem] theorem sc_55 : ScT Tryd.prog 55 := ⟨⟨_, Tryd.underlying55, rfl⟩, by kernel_rfl⟩
@[go_sem] theorem sc_56 : ScT Tryd.prog 56 := ⟨⟨_, Tryd.underlying56, rfl⟩, by kernel_rfl⟩
@[go_sem] theorem sc_58 : ScT Tryd.prog 58 := ⟨⟨_, Tryd.underlying58, rfl⟩, by kernel_rfl⟩
@[go_sem] theorem sc_59 : ScT Tryd.prog 59 := ⟨⟨_, Tryd.underlying59, rfl⟩, by kernel_rfl⟩
@[go_sem] theorem sc_60 : ScT Tryd.prog 60 := ⟨⟨_, Tryd.underlying60, rfl⟩, by kernel_rfl⟩
@[go_sem] theorem sc_61 : ScT Tryd.prog 61 := ⟨⟨_, Tryd.underlying61, rfl⟩, by kernel_rfl⟩
@[go_sem] theorem sc_62 : ScT Tryd.prog 62 := ⟨⟨_, Tryd.underlying62, rfl⟩, by kernel_rfl⟩
@[go_sem] theorem sc_63 : ScT Tryd.prog 63 := ⟨⟨_, Tryd.underlying63, rfl⟩, by kernel_rfl⟩
@[go_sem] theorem sc_64 : ScT Tryd.prog 64 := ⟨⟨_, Tryd.underlying64, rfl⟩, by kernel_rfl⟩
@[go_sem] theorem sc_66 : ScT Tryd.prog 66 := ⟨⟨_, Tryd.underlying66, rfl⟩, by kernel_rfl⟩
@[go_sem] theorem sc_67 : ScT Tryd.prog 67 := ⟨⟨_, Tryd.underlying67, rfl⟩, by kernel_rfl⟩
@[go_sem] theorem sc_68 : ScT Tryd.prog 68 := ⟨⟨_, Tryd.underlying68, rfl⟩, by kernel_rfl⟩
@[go_sem] theorem sc_70 : ScT Tryd.prog 70 := ⟨⟨_, Tryd.underlying70, rfl⟩, by kernel_rfl⟩
@[go_sem] theorem sc_71 : ScT Tryd.prog 71 := ⟨⟨_, Tryd.underlying71, rfl⟩, by kernel_rfl⟩
@[go_sem] theorem sc_72 : ScT Tryd.prog 72 := ⟨⟨_, Tryd.underlying72, rfl⟩, by kernel_rfl⟩
@[go_sem] theorem sc_73 : ScT Tryd.prog 73 := ⟨⟨_, Tryd.underlying73, rfl⟩, by kernel_rfl⟩
@[go_sem] theorem sc_75 : ScT Tryd.prog 75 := ⟨⟨_, Tryd.underlying75, rfl⟩, by kernel_rfl⟩
@[go_sem] theorem sc_76 : ScT Tryd.prog 76 := ⟨⟨_, Tryd.underlying76, rfl⟩, by kernel_rfl⟩
@[go_sem] theorem sc_77 : ScT Tryd.prog 77 := ⟨⟨_, Tryd.underlying77, rfl⟩, by kernel_rfl⟩
@[go_sem] theorem sc_79 : ScT Tryd.prog 79 := ⟨⟨_, Tryd.underlying79, rfl⟩, by kernel_rfl⟩
@[go_sem] theorem sc_80 : ScT Tryd.prog 80 := ⟨⟨_, Tryd.underlying80, rfl⟩, by kernel_rfl⟩
@[go_sem] theorem sc_81 : ScT Tryd.prog 81 := ⟨⟨_, Tryd.underlying81, rfl⟩, by kernel_rfl⟩
@[go_sem] theorem sc_82 : ScT Tryd.prog 82 := ⟨⟨_, Tryd.underlying82, rfl⟩, by kernel_rfl⟩
@[go_sem] theorem sc_83 : ScT Tryd.prog 83 := ⟨⟨_, Tryd.underlying83, rfl⟩, by kernel_rfl⟩
@[go_sem] theorem sc_84 : ScT Tryd.prog 84 := ⟨⟨_, Tryd.underlying84, rfl⟩, by kernel_rfl⟩
@[go_sem] theorem sc_85 : ScT Tryd.prog 85 := ⟨⟨_, Tryd.underlying85, rfl⟩, by kernel_rfl⟩
@[go_sem] theorem sc_86 : ScT Tryd.prog 86 := ⟨⟨_, Tryd.underlying86, rfl⟩, by kernel_rfl⟩
@[go_sem] theorem sc_88 : ScT Tryd.prog 88 := ⟨⟨_, Tryd.underlying88, rfl⟩, by kernel_rfl⟩
@[go_sem] theorem sc_89 : ScT Tryd.prog 89 := ⟨⟨_, Tryd.underlying89, rfl⟩, by kernel_rfl⟩
@[go_sem] theorem sc_90 : ScT Tryd.prog 90 := ⟨⟨_, Tryd.underlying90, rfl⟩, by kernel_rfl⟩
@[go_sem] theorem sc_91 : ScT Tryd.prog 91 := ⟨⟨_, Tryd.underlying91, rfl⟩, by kernel_rfl⟩
@[go_sem] theorem sc_93 : ScT Tryd.prog 93 := ⟨⟨_, Tryd.underlying93, rfl⟩, by kernel_rfl⟩
@[go_sem] theorem sc_95 : ScT Tryd.prog 95 := ⟨⟨_, Tryd.underlying95, rfl⟩, by kernel_rfl⟩
@[go_sem] theorem sc_96 : ScT Tryd.prog 96 := ⟨⟨_, Tryd.underlying96, rfl⟩, by kernel_rfl⟩
@[go_sem] theorem sc_97 : ScT Tryd.prog 97 := ⟨⟨_, Tryd.underlying97, rfl⟩, by kernel_rfl⟩
@[go_sem] theorem sc_100 : ScT Tryd.prog 100 := ⟨⟨_, Tryd.underlying100, rfl⟩, by kernel_rfl⟩
@[go_sem] theorem sc_101 : ScT Tryd.prog 101 := ⟨⟨_, Tryd.underlying101, rfl⟩, by kernel_rfl⟩
@[go_sem] theorem sc_102 : ScT Tryd.prog 102 := ⟨⟨_, Tryd.underlying102, rfl⟩, by kernel_rfl⟩
theorem agg_104 : AggT Tryd.prog 104 3 := ⟨_, Tryd.underlying104, rfl, by kernel_rfl⟩
theorem zero_104 : ZeroT Tryd.prog 104 (lnk lnk0) := ⟨.agg (lnk lnk0), by kernel_rfl, rfl⟩
@[go_sem] theorem sc_105 : ScT Tryd.prog 105 := ⟨⟨_, Tryd.underlying105, rfl⟩, by kernel_rfl⟩
@[go_sem] theorem sc_106 : ScT Tryd.prog 106 := ⟨⟨_, Tryd.underlying106, rfl⟩, by kernel_rfl⟩
@[go_sem] theorem sc_111 : ScT Tryd.prog 111 := ⟨⟨_, Tryd.underlying111, rfl⟩, by kernel_rfl⟩
@[go_sem] theorem sc_112 : ScT Tryd.prog 112 := ⟨⟨_, Tryd.underlying112, rfl⟩, by kernel_rfl⟩
@[go_sem] theorem sc_115 : ScT Tryd.prog 115 := ⟨⟨_, Tryd.underlying115, rfl⟩, by kernel_rfl⟩
@[go_sem] theorem sc_116 : ScT Tryd.prog 116 := ⟨⟨_, Tryd.underlying116, rfl⟩, by kernel_rfl⟩
@[go_sem] theorem sc_117 : ScT Tryd.prog 117 := ⟨⟨_, Tryd.underlying117, rfl⟩, by kernel_rfl⟩
@[go_sem] theorem sc_118 : ScT Tryd.prog 118 := ⟨⟨_, Tryd.underlying118, rfl⟩, by kernel_rfl⟩
@[go_sem] theorem sc_119 : ScT Tryd.prog 119 := ⟨⟨_, Tryd.underlying119, rfl⟩, by kernel_rfl⟩
@[go_sem] theorem sc_120 : ScT Tryd.prog 120 := ⟨⟨_, Tryd.underlying120, rfl⟩, by kernel_rfl⟩
@[go_sem] theorem sc_121 : ScT Tryd.prog 121 := ⟨⟨_, Tryd.underlying121, rfl⟩, by kernel_rfl⟩
@[go_sem] theorem sc_122 : ScT Tryd.prog 122 := ⟨⟨_, Tryd.underlying122, rfl⟩, by kernel_rfl⟩
@[go_sem] theorem sc_125 : ScT Tryd.prog 125 := ⟨⟨_, Tryd.underlying125, rfl⟩, by kernel_rfl⟩
@[go_sem] theorem sc_126 : ScT Tryd.prog 126 := ⟨⟨_, Tryd.underlying126, rfl⟩, by kernel_rfl⟩
@[go_sem] theorem sc_132 : ScT Tryd.prog 132 := ⟨⟨_, Tryd.underlying132, rfl⟩, by kernel_rfl⟩
@[go_sem] theorem sc_133 : ScT Tryd.prog 133 := ⟨⟨_, Tryd.underlying133, rfl⟩, by kernel_rfl⟩
@[go_sem] theorem sc_134 : ScT Tryd.prog 134 := ⟨⟨_, Tryd.underlying134, rfl⟩, by kernel_rfl⟩
@[go_sem] theorem sc_135 : ScT Tryd.prog 135 := ⟨⟨_, Tryd.underlying135, rfl⟩, by kernel_rfl⟩
@[go_sem] theorem sc_136 : ScT Tryd.prog 136 := ⟨⟨_, Tryd.underlying136, rfl⟩, by kernel_rfl⟩
@[go_sem] theorem sc_137 : ScT Tryd.prog 137 := ⟨⟨_, Tryd.underlying137, rfl⟩, by kernel_rfl⟩
@[go_sem] theorem sc_138 : ScT Tryd.prog 138 := ⟨⟨_, Tryd.underlying138, rfl⟩, by kernel_rfl⟩
@[go_sem] theorem sc_139 : ScT Tryd.prog 139 := ⟨⟨_, Tryd.underlying139, rfl⟩, by kernel_rfl⟩
@[go_sem] theorem sc_145 : ScT Tryd.prog 145 := ⟨⟨_, Tryd.underlying145, rfl⟩, by kernel_rfl⟩
theorem app_22 : AppT Tryd.prog 22 44 3 32 edt := ⟨Tryd.underlying22, ⟨.agg (edt edt0), by kernel_rfl, (by first | rfl | (simp only [Value.cells, go_sem]))⟩, by decide, fun a => by simp only [go_sem], fun a => by simp only [go_sem]⟩
theorem app_33 : AppT Tryd.prog 33 21 1 4 runv := ⟨Tryd.underlying33, ⟨.int .i32 0, by kernel_rfl, (by first | rfl | (simp only [Value.cells, go_sem]))⟩, by decide, fun a => by simp only [go_sem], fun a => by simp only [go_sem]⟩
theorem app_47 : AppT Tryd.prog 47 104 3 40 lnk := ⟨Tryd.underlying47, ⟨.agg (lnk lnk0), by kernel_rfl, (by first | rfl | (simp only [Value.cells, go_sem]))⟩, by decide, fun a => by simp only [go_sem], fun a => by simp only [go_sem]⟩
theorem app_48 : AppT Tryd.prog 48 3 1 8 intv := ⟨Tryd.underlying48, ⟨.int .i64 0, by kernel_rfl, (by first | rfl | (simp only [Value.cells, go_sem]))⟩, by decide, fun a => by simp only [go_sem], fun a => by simp only [go_sem]⟩
theorem app_80 : AppT Tryd.prog 80 48 1 24 slv := ⟨Tryd.underlying80, ⟨.slice none 0 0, by kernel_rfl, (by first | rfl | (simp only [Value.cells, go_sem]))⟩, by decide, fun a => by simp only [go_sem], fun a => by simp only [go_sem]⟩
theorem app_90 : AppT Tryd.prog 90 5 1 1 bytv := ⟨Tryd.underlying90, ⟨.int .u8 0, by kernel_rfl, (by first | rfl | (simp only [Value.cells, go_sem]))⟩, by decide, fun a => by simp only [go_sem], fun a => by simp only [go_sem]⟩
theorem app_97 : AppT Tryd.prog 97 33 1 24 slv := ⟨Tryd.underlying97, ⟨.slice none 0 0, by kernel_rfl, (by first | rfl | (simp only [Value.cells, go_sem]))⟩, by decide, fun a => by simp only [go_sem], fun a => by simp only [go_sem]⟩
theorem mk_33 : MakeT Tryd.prog 33 21 1 4 runv (0) := ⟨Tryd.underlying33, ⟨.int .i32 0, by kernel_rfl, (by first | rfl | (simp only [Value.cells, go_sem]))⟩, by decide, fun a => by simp only [go_sem]⟩
theorem mk_90 : MakeT Tryd.prog 90 5 1 1 bytv (0) := ⟨Tryd.underlying90, ⟨.int .u8 0, by kernel_rfl, (by first | rfl | (simp only [Value.cells, go_sem]))⟩, by decide, fun a => by simp only [go_sem]⟩
theorem mk_97 : MakeT Tryd.prog 97 33 1 24 slv (sl0) := ⟨Tryd.underlying97, ⟨.slice none 0 0, by kernel_rfl, (by first | rfl | (simp only [Value.cells, go_sem]))⟩, by decide, fun a => by simp only [go_sem]⟩
theorem byt_90_9 : BytesT Tryd.prog 90 9 := ⟨_, Tryd.underlying90, Tryd.underlying5, Tryd.underlying9⟩
theorem rut_33_9 : RunesT Tryd.prog 33 9 21 := ⟨Tryd.underlying33, Tryd.underlying21, Tryd.underlying9⟩
theorem bst_22 : BsT Tryd.prog 22 44 3 := ⟨Tryd.underlying22, .agg (edt edt0), by kernel_rfl, (by first | rfl | (simp only [Value.cells, go_sem])), by decide, by decide⟩
theorem bst_33 : BsT Tryd.prog 33 21 1 := ⟨Tryd.underlying33, .int .i32 0, by kernel_rfl, (by first | rfl | (simp only [Value.cells, go_sem])), by decide, by decide⟩
theorem bst_47 : BsT Tryd.prog 47 104 3 := ⟨Tryd.underlying47, .agg (lnk lnk0), by kernel_rfl, (by first | rfl | (simp only [Value.cells, go_sem])), by decide, by decide⟩
theorem bst_48 : BsT Tryd.prog 48 3 1 := ⟨Tryd.underlying48, .int .i64 0, by kernel_rfl, (by first | rfl | (simp only [Value.cells, go_sem])), by decide, by decide⟩
theorem bld_0 (x0_0 : Int) : BuildT Tryd.prog 44 #[(0, .int .i64 x0_0)] (.agg (edt ⟨x0_0, 0, .empty⟩)) := fun w => by kernel_rfl
theorem bld_1 (x0_0 : Int) (x1_0 : Int) (x2_0 : ByteArray) : BuildT Tryd.prog 44 #[(0, .int .i64 x0_0), (1, .int .i64 x1_0), (2, .string x2_0)] (.agg (edt ⟨x0_0, x1_0, x2_0⟩)) := fun w => by kernel_rfl
theorem bld_3 (x0_0 : Int) (x1_0_1 : Option Addr) (x1_0_2 x1_0_3 : Nat) (x2_0_1 : Option Addr) (x2_0_2 x2_0_3 : Nat) : BuildT Tryd.prog 50 #[(0, .int .i64 x0_0), (1, .slice x1_0_1 x1_0_2 x1_0_3), (2, .slice x2_0_1 x2_0_2 x2_0_3)] (.agg (nov ⟨x0_0, x1_0_1, x1_0_2, x1_0_3, x2_0_1, x2_0_2, x2_0_3⟩)) := fun w => by kernel_rfl
theorem bld_4 (x0_0 : Int) (x2_0_1 : Option Addr) (x2_0_2 x2_0_3 : Nat) : BuildT Tryd.prog 50 #[(0, .int .i64 x0_0), (2, .slice x2_0_1 x2_0_2 x2_0_3)] (.agg (nov ⟨x0_0, none, 0, 0, x2_0_1, x2_0_2, x2_0_3⟩)) := fun w => by kernel_rfl
theorem bld_6 (x0_0 : ByteArray) (x1_0 : ByteArray) : BuildT Tryd.prog 94 #[(0, .string x0_0), (1, .string x1_0)] (.agg #[.string x0_0, .string x1_0]) := fun w => by kernel_rfl
theorem bld_7 (x0_0_1 : Option Addr) (x0_0_2 x0_0_3 : Nat) (x1_0_1 : Option Addr) (x1_0_2 x1_0_3 : Nat) (x2_0_1 : Option Addr) (x2_0_2 x2_0_3 : Nat) : BuildT Tryd.prog 99 #[(0, .slice x0_0_1 x0_0_2 x0_0_3), (1, .slice x1_0_1 x1_0_2 x1_0_3), (2, .slice x2_0_1 x2_0_2 x2_0_3)] (.agg #[.slice x0_0_1 x0_0_2 x0_0_3, .slice x1_0_1 x1_0_2 x1_0_3, .slice x2_0_1 x2_0_2 x2_0_3]) := fun w => by kernel_rfl
theorem bld_8 (x0_0 : ByteArray) (x1_0 : ByteArray) (x2_0 : Int) : BuildT Tryd.prog 104 #[(0, .string x0_0), (1, .string x1_0), (2, .int .i64 x2_0)] (.agg (lnk ⟨x0_0, x1_0, x2_0⟩)) := fun w => by kernel_rfl
theorem bld_9 (x0_0 : ByteArray) (x1_0 : ByteArray) (x2_0 : Int) (x3_0t : TypeId) (x3_0p : Option Addr) : BuildT Tryd.prog 114 #[(0, .string x0_0), (1, .string x1_0), (2, .int .i64 x2_0), (3, (.iface x3_0t (.pointer x3_0p)))] (.agg #[.string x0_0, .string x1_0, .int .i64 x2_0, (.iface x3_0t (.pointer x3_0p))]) := fun w => by kernel_rfl
@[go_sem] theorem enter_3 : entB Tryd.prog 3 = true := by kernel_rfl
@[go_sem] theorem enter_4 : entB Tryd.prog 4 = true := by kernel_rfl
@[go_sem] theorem enter_5 : entB Tryd.prog 5 = true := by kernel_rfl
@[go_sem] theorem enter_6 : entB Tryd.prog 6 = true := by kernel_rfl
@[go_sem] theorem enter_7 : entB Tryd.prog 7 = true := by kernel_rfl
@[go_sem] theorem enter_8 : entB Tryd.prog 8 = true := by kernel_rfl
@[go_sem] theorem enter_9 : entB Tryd.prog 9 = true := by kernel_rfl
@[go_sem] theorem enter_10 : entB Tryd.prog 10 = true := by kernel_rfl
@[go_sem] theorem enter_11 : entB Tryd.prog 11 = true := by kernel_rfl
@[go_sem] theorem enter_12 : entB Tryd.prog 12 = true := by kernel_rfl
@[go_sem] theorem enter_13 : entB Tryd.prog 13 = true := by kernel_rfl
@[go_sem] theorem enter_14 : entB Tryd.prog 14 = true := by kernel_rfl
@[go_sem] theorem enter_15 : entB Tryd.prog 15 = true := by kernel_rfl
@[go_sem] theorem enter_16 : entB Tryd.prog 16 = true := by kernel_rfl
@[go_sem] theorem enter_17 : entB Tryd.prog 17 = true := by kernel_rfl
@[go_sem] theorem enter_18 : entB Tryd.prog 18 = true := by kernel_rfl
@[go_sem] theorem enter_19 : entB Tryd.prog 19 = true := by kernel_rfl
@[go_sem] theorem enter_20 : entB Tryd.prog 20 = true := by kernel_rfl
@[go_sem] theorem enter_21 : entB Tryd.prog 21 = true := by kernel_rfl
@[go_sem] theorem enter_22 : entB Tryd.prog 22 = true := by kernel_rfl
@[go_sem] theorem enter_23 : entB Tryd.prog 23 = true := by kernel_rfl
@[go_sem] theorem enter_24 : entB Tryd.prog 24 = true := by kernel_rfl
@[go_sem] theorem enter_25 : entB Tryd.prog 25 = true := by kernel_rfl
@[go_sem] theorem enter_26 : entB Tryd.prog 26 = true := by kernel_rfl
@[go_sem] theorem enter_27 : entB Tryd.prog 27 = true := by kernel_rfl
@[go_sem] theorem enter_28 : entB Tryd.prog 28 = true := by kernel_rfl
@[go_sem] theorem enter_29 : entB Tryd.prog 29 = true := by kernel_rfl
@[go_sem] theorem enter_30 : entB Tryd.prog 30 = true := by kernel_rfl
@[go_sem] theorem enter_31 : entB Tryd.prog 31 = true := by kernel_rfl
@[go_sem] theorem enter_32 : entB Tryd.prog 32 = true := by kernel_rfl
@[go_sem] theorem enter_33 : entB Tryd.prog 33 = true := by kernel_rfl
@[go_sem] theorem enter_35 : entB Tryd.prog 35 = true := by kernel_rfl
@[go_sem] theorem enter_36 : entB Tryd.prog 36 = true := by kernel_rfl
@[go_sem] theorem enter_37 : entB Tryd.prog 37 = true := by kernel_rfl
@[go_sem] theorem enter_38 : entB Tryd.prog 38 = true := by kernel_rfl
@[go_sem] theorem enter_39 : entB Tryd.prog 39 = true := by kernel_rfl
@[go_sem] theorem enter_40 : entB Tryd.prog 40 = true := by kernel_rfl
@[go_sem] theorem enter_41 : entB Tryd.prog 41 = true := by kernel_rfl
@[go_sem] theorem enter_42 : entB Tryd.prog 42 = true := by kernel_rfl
@[go_sem] theorem enter_43 : entB Tryd.prog 43 = true := by kernel_rfl
@[go_sem] theorem enter_44 : entB Tryd.prog 44 = true := by kernel_rfl
@[go_sem] theorem enter_45 : entB Tryd.prog 45 = true := by kernel_rfl
@[go_sem] theorem enter_46 : entB Tryd.prog 46 = true := by kernel_rfl
@[go_sem] theorem enter_47 : entB Tryd.prog 47 = true := by kernel_rfl
@[go_sem] theorem enter_48 : entB Tryd.prog 48 = true := by kernel_rfl
@[go_sem] theorem enter_49 : entB Tryd.prog 49 = true := by kernel_rfl
@[go_sem] theorem enter_50 : entB Tryd.prog 50 = true := by kernel_rfl
@[go_sem] theorem enter_51 : entB Tryd.prog 51 = true := by kernel_rfl
@[go_sem] theorem enter_52 : entB Tryd.prog 52 = true := by kernel_rfl
@[go_sem] theorem enter_53 : entB Tryd.prog 53 = true := by kernel_rfl
@[go_sem] theorem enter_54 : entB Tryd.prog 54 = true := by kernel_rfl
@[go_sem] theorem enter_55 : entB Tryd.prog 55 = true := by kernel_rfl
@[go_sem] theorem enter_56 : entB Tryd.prog 56 = true := by kernel_rfl
@[go_sem] theorem enter_57 : entB Tryd.prog 57 = true := by kernel_rfl
@[go_sem] theorem enter_58 : entB Tryd.prog 58 = true := by kernel_rfl
@[go_sem] theorem enter_59 : entB Tryd.prog 59 = true := by kernel_rfl
@[go_sem] theorem enter_60 : entB Tryd.prog 60 = true := by kernel_rfl
@[go_sem] theorem enter_61 : entB Tryd.prog 61 = true := by kernel_rfl
@[go_sem] theorem enter_62 : entB Tryd.prog 62 = true := by kernel_rfl
@[go_sem] theorem enter_63 : entB Tryd.prog 63 = true := by kernel_rfl
@[go_sem] theorem enter_64 : entB Tryd.prog 64 = true := by kernel_rfl
@[go_sem] theorem enter_65 : entB Tryd.prog 65 = true := by kernel_rfl
@[go_sem] theorem enter_66 : entB Tryd.prog 66 = true := by kernel_rfl
@[go_sem] theorem enter_67 : entB Tryd.prog 67 = true := by kernel_rfl
@[go_sem] theorem enter_68 : entB Tryd.prog 68 = true := by kernel_rfl
@[go_sem] theorem enter_69 : entB Tryd.prog 69 = true := by kernel_rfl
@[go_sem] theorem enter_70 : entB Tryd.prog 70 = true := by kernel_rfl
@[go_sem] theorem enter_90 : entB Tryd.prog 90 = true := by kernel_rfl
end Go.Proofs.YtgoifgockcpnhaaDoor
