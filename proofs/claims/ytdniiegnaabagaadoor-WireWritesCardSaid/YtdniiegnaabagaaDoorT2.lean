/- The types of this seat: records as data, and what the walk does with them. -/
import Derived.Test.YtdniiegnaabagaaDoorR2
import Derived.Test.YtdniiegnaabagaaDoorH8
import Derived.Test.YtdniiegnaabagaaDoorHS
import Derived.Test.YtdniiegnaabagaaDoorProg
import Derived.ChangeKeysEq
set_option linter.unusedSimpArgs false
set_option linter.unusedVariables false
namespace Go.Proofs.YtdniiegnaabagaaDoor
open Go Go.RowKit

/-- A list cut into pieces. -/
def catCut (cs : List Value) : Nat → List Nat → List Value
  | o, [] => cs.drop o
  | o, n :: ns => (cs.drop o).take n ++ catCut cs (o + n) ns
theorem catCut_eq (cs : List Value) : ∀ (ns : List Nat) (o : Nat), catCut cs o ns = cs.drop o
  | [], _ => rfl
  | n :: ns, o => by
    unfold catCut
    rw [catCut_eq cs ns, ← List.drop_drop]
    exact List.take_append_drop n (cs.drop o)

theorem opens_int : Opens Tryd.prog 3 1 (fun i : Int => #[.int .i64 i]) InI := opens_i64 Tryd.underlying3 (by kernel_rfl)
theorem opens_byte : Opens Tryd.prog 5 1 (fun i : Int => #[.int .u8 i]) InB := opens_u8 Tryd.underlying5 (by kernel_rfl)
theorem ba_iff {a b : ByteArray} : a.toList = b.toList ↔ a = b := ⟨fun h => by rw [ByteArray.toList_eq, ByteArray.toList_eq] at h; exact ByteArray.ext (Array.toList_inj.1 h), fun h => by rw [h]⟩
/-! ### barrow/barrowlaw02.Item -/
structure ItmD where
  kind : Int
  n : Int
  s : ByteArray
  b : Int
def itm (a : ItmD) : Array Value := #[.int .i64 a.kind, .int .i64 a.n, .string a.s, .int .u8 a.b]
def itm0 : ItmD := ⟨0, 0, .empty, 0⟩
@[go_sem] theorem itm_size (a : ItmD) : (itm a).size = 4 := by unfold itm; simp
@[go_sem] theorem itm_flat (a : ItmD) : flat (itm a) = true := by simp [flat, itm, Value.oneCell']
@[go_sem] theorem itm_0 (a : ItmD) : (itm a)[0]? = some (.int .i64 a.kind) := by unfold itm; simp
@[go_sem] theorem itm_e0 (a : ItmD) (h : 0 < (itm a).size) : (itm a)[0] = .int .i64 a.kind := by unfold itm; simp
@[go_sem] theorem itm_1 (a : ItmD) : (itm a)[1]? = some (.int .i64 a.n) := by unfold itm; simp
@[go_sem] theorem itm_e1 (a : ItmD) (h : 1 < (itm a).size) : (itm a)[1] = .int .i64 a.n := by unfold itm; simp
@[go_sem] theorem itm_2 (a : ItmD) : (itm a)[2]? = some (.string a.s) := by unfold itm; simp
@[go_sem] theorem itm_e2 (a : ItmD) (h : 2 < (itm a).size) : (itm a)[2] = .string a.s := by unfold itm; simp
@[go_sem] theorem itm_3 (a : ItmD) : (itm a)[3]? = some (.int .u8 a.b) := by unfold itm; simp
@[go_sem] theorem itm_e3 (a : ItmD) (h : 3 < (itm a).size) : (itm a)[3] = .int .u8 a.b := by unfold itm; simp
@[go_sem] theorem itm_s0 (a : ItmD) (v : Int) : (itm a).setIfInBounds 0 (.int .i64 v) = itm { a with kind := v } := by unfold itm; simp
@[go_sem] theorem itm_s1 (a : ItmD) (v : Int) : (itm a).setIfInBounds 1 (.int .i64 v) = itm { a with n := v } := by unfold itm; simp
@[go_sem] theorem itm_s2 (a : ItmD) (v : ByteArray) : (itm a).setIfInBounds 2 (.string v) = itm { a with s := v } := by unfold itm; simp
@[go_sem] theorem itm_s3 (a : ItmD) (v : Int) : (itm a).setIfInBounds 3 (.int .u8 v) = itm { a with b := v } := by unfold itm; simp
@[go_sem ↓] theorem field_itm (x : Value) (f : Nat) : Instr.field 24 x f = fldS 24 x f := (fldS_eq 24 x f).symm
@[go_sem] theorem fld_itm0 (cs : Array Value) (w : World) : (fldS 24 (.agg cs) 0).run Tryd.prog w = fldOne Tryd.prog 24 0 0 cs w :=
  run_fldS Tryd.prog 24 0 _ _ _ Tryd.underlying24 rfl Tryd.underlying3 rfl cs w
@[go_sem] theorem fld_itm1 (cs : Array Value) (w : World) : (fldS 24 (.agg cs) 1).run Tryd.prog w = fldOne Tryd.prog 24 1 1 cs w :=
  run_fldS Tryd.prog 24 1 _ _ _ Tryd.underlying24 rfl Tryd.underlying3 rfl cs w
@[go_sem] theorem fld_itm2 (cs : Array Value) (w : World) : (fldS 24 (.agg cs) 2).run Tryd.prog w = fldOne Tryd.prog 24 2 2 cs w :=
  run_fldS Tryd.prog 24 2 _ _ _ Tryd.underlying24 rfl Tryd.underlying9 rfl cs w
@[go_sem] theorem fld_itm3 (cs : Array Value) (w : World) : (fldS 24 (.agg cs) 3).run Tryd.prog w = fldOne Tryd.prog 24 3 3 cs w :=
  run_fldS Tryd.prog 24 3 _ _ _ Tryd.underlying24 rfl Tryd.underlying5 rfl cs w
instance : Inhabited ItmD := ⟨itm0⟩

/-! ### barrow/barrowlaw02.Call -/
structure CalD where
  kind : Int
  least : Int
  most : Int
def cal (a : CalD) : Array Value := #[.int .i64 a.kind, .int .i64 a.least, .int .i64 a.most]
def cal0 : CalD := ⟨0, 0, 0⟩
@[go_sem] theorem cal_size (a : CalD) : (cal a).size = 3 := by unfold cal; simp
@[go_sem] theorem cal_flat (a : CalD) : flat (cal a) = true := by simp [flat, cal, Value.oneCell']
@[go_sem] theorem cal_0 (a : CalD) : (cal a)[0]? = some (.int .i64 a.kind) := by unfold cal; simp
@[go_sem] theorem cal_e0 (a : CalD) (h : 0 < (cal a).size) : (cal a)[0] = .int .i64 a.kind := by unfold cal; simp
@[go_sem] theorem cal_1 (a : CalD) : (cal a)[1]? = some (.int .i64 a.least) := by unfold cal; simp
@[go_sem] theorem cal_e1 (a : CalD) (h : 1 < (cal a).size) : (cal a)[1] = .int .i64 a.least := by unfold cal; simp
@[go_sem] theorem cal_2 (a : CalD) : (cal a)[2]? = some (.int .i64 a.most) := by unfold cal; simp
@[go_sem] theorem cal_e2 (a : CalD) (h : 2 < (cal a).size) : (cal a)[2] = .int .i64 a.most := by unfold cal; simp
@[go_sem] theorem cal_s0 (a : CalD) (v : Int) : (cal a).setIfInBounds 0 (.int .i64 v) = cal { a with kind := v } := by unfold cal; simp
@[go_sem] theorem cal_s1 (a : CalD) (v : Int) : (cal a).setIfInBounds 1 (.int .i64 v) = cal { a with least := v } := by unfold cal; simp
@[go_sem] theorem cal_s2 (a : CalD) (v : Int) : (cal a).setIfInBounds 2 (.int .i64 v) = cal { a with most := v } := by unfold cal; simp
@[go_sem ↓] theorem field_cal (x : Value) (f : Nat) : Instr.field 38 x f = fldS 38 x f := (fldS_eq 38 x f).symm
@[go_sem] theorem fld_cal0 (cs : Array Value) (w : World) : (fldS 38 (.agg cs) 0).run Tryd.prog w = fldOne Tryd.prog 38 0 0 cs w :=
  run_fldS Tryd.prog 38 0 _ _ _ Tryd.underlying38 rfl Tryd.underlying3 rfl cs w
@[go_sem] theorem fld_cal1 (cs : Array Value) (w : World) : (fldS 38 (.agg cs) 1).run Tryd.prog w = fldOne Tryd.prog 38 1 1 cs w :=
  run_fldS Tryd.prog 38 1 _ _ _ Tryd.underlying38 rfl Tryd.underlying3 rfl cs w
@[go_sem] theorem fld_cal2 (cs : Array Value) (w : World) : (fldS 38 (.agg cs) 2).run Tryd.prog w = fldOne Tryd.prog 38 2 2 cs w :=
  run_fldS Tryd.prog 38 2 _ _ _ Tryd.underlying38 rfl Tryd.underlying3 rfl cs w
structure CalDI (a : CalD) : Prop where
  kind : InI a.kind
  least : InI a.least
  most : InI a.most
set_option maxRecDepth 20000 in
theorem opens_cal : Opens Tryd.prog 38 3 cal CalDI :=
  ⟨by kernel_rfl, cal_size, fun enc w base sp held fuel cs x h => by
    obtain ⟨xs, m, rfl, rfl, hl, hxl, hx⟩ := DataW.trod_struct Tryd.underlying38 h
    rw [show Tryd.prog.cellsOf 38 = 3 by kernel_rfl] at hl
    have h0 := hx 0 _ rfl
    have h1 := hx 1 _ rfl
    have h2 := hx 2 _ rfl
    have hxl : xs.length = 3 := hxl
    rw [List.getElem?_eq_getElem (by omega)] at h0 h1 h2
    obtain ⟨v0, k0, r0⟩ := opens_int.cut h0
    obtain ⟨v1, k1, r1⟩ := opens_int.cut h1
    obtain ⟨v2, k2, r2⟩ := opens_int.cut h2
    refine ⟨⟨v0, v1, v2⟩, ?_, ⟨r0, r1, r2⟩⟩
    have e := catCut_eq cs [1, 1, 1] 0
    simp only [catCut, List.drop_zero, Nat.zero_add, Nat.reduceAdd] at e
    replace k0 : List.take 1 cs = _ := k0
    replace k1 : List.take 1 (List.drop 1 cs) = _ := k1
    replace k2 : List.take 1 (List.drop 2 cs) = _ := k2
    rw [k0, k1, k2, List.drop_of_length_le (by omega), List.append_nil] at e
    rw [← e]
    simp [cal]⟩
instance : Inhabited CalD := ⟨cal0⟩

/-! ### barrow/api.Link -/
structure LinkD where
  layer : ByteArray
  call : ByteArray
  pos : Int
def lnk (a : LinkD) : Array Value := #[.string a.layer, .string a.call, .int .i64 a.pos]
def lnk0 : LinkD := ⟨.empty, .empty, 0⟩
@[go_sem] theorem lnk_size (a : LinkD) : (lnk a).size = 3 := by unfold lnk; simp
@[go_sem] theorem lnk_flat (a : LinkD) : flat (lnk a) = true := by simp [flat, lnk, Value.oneCell']
@[go_sem] theorem lnk_0 (a : LinkD) : (lnk a)[0]? = some (.string a.layer) := by unfold lnk; simp
@[go_sem] theorem lnk_e0 (a : LinkD) (h : 0 < (lnk a).size) : (lnk a)[0] = .string a.layer := by unfold lnk; simp
@[go_sem] theorem lnk_1 (a : LinkD) : (lnk a)[1]? = some (.string a.call) := by unfold lnk; simp
@[go_sem] theorem lnk_e1 (a : LinkD) (h : 1 < (lnk a).size) : (lnk a)[1] = .string a.call := by unfold lnk; simp
@[go_sem] theorem lnk_2 (a : LinkD) : (lnk a)[2]? = some (.int .i64 a.pos) := by unfold lnk; simp
@[go_sem] theorem lnk_e2 (a : LinkD) (h : 2 < (lnk a).size) : (lnk a)[2] = .int .i64 a.pos := by unfold lnk; simp
@[go_sem] theorem lnk_s0 (a : LinkD) (v : ByteArray) : (lnk a).setIfInBounds 0 (.string v) = lnk { a with layer := v } := by unfold lnk; simp
@[go_sem] theorem lnk_s1 (a : LinkD) (v : ByteArray) : (lnk a).setIfInBounds 1 (.string v) = lnk { a with call := v } := by unfold lnk; simp
@[go_sem] theorem lnk_s2 (a : LinkD) (v : Int) : (lnk a).setIfInBounds 2 (.int .i64 v) = lnk { a with pos := v } := by unfold lnk; simp
@[go_sem ↓] theorem field_lnk (x : Value) (f : Nat) : Instr.field 58 x f = fldS 58 x f := (fldS_eq 58 x f).symm
@[go_sem] theorem fld_lnk0 (cs : Array Value) (w : World) : (fldS 58 (.agg cs) 0).run Tryd.prog w = fldOne Tryd.prog 58 0 0 cs w :=
  run_fldS Tryd.prog 58 0 _ _ _ Tryd.underlying58 rfl Tryd.underlying9 rfl cs w
@[go_sem] theorem fld_lnk1 (cs : Array Value) (w : World) : (fldS 58 (.agg cs) 1).run Tryd.prog w = fldOne Tryd.prog 58 1 1 cs w :=
  run_fldS Tryd.prog 58 1 _ _ _ Tryd.underlying58 rfl Tryd.underlying9 rfl cs w
@[go_sem] theorem fld_lnk2 (cs : Array Value) (w : World) : (fldS 58 (.agg cs) 2).run Tryd.prog w = fldOne Tryd.prog 58 2 2 cs w :=
  run_fldS Tryd.prog 58 2 _ _ _ Tryd.underlying58 rfl Tryd.underlying3 rfl cs w
def lnkEq (a b : LinkD) : Bool := (a.layer.toList == b.layer.toList) && ((a.call.toList == b.call.toList) && (a.pos == b.pos))
@[go_sem high] theorem neq_lnk (a b : LinkD) (w : World) : (binOp .neq 58 (.agg (lnk a)) (.agg (lnk b))).run Tryd.prog w = .ok (.bool (!lnkEq a b)) w := by
  unfold lnk lnkEq
  go_simp
  (repeat' split) <;> simp_all
@[go_sem high] theorem eql_lnk (a b : LinkD) (w : World) : (binOp .eql 58 (.agg (lnk a)) (.agg (lnk b))).run Tryd.prog w = .ok (.bool (lnkEq a b)) w := by
  unfold lnk lnkEq
  go_simp
  (repeat' split) <;> simp_all
theorem lnkEq_iff {a b : LinkD} : lnkEq a b = true ↔ a = b := by
  obtain ⟨a0, a1, a2⟩ := a
  obtain ⟨b0, b1, b2⟩ := b
  simp [lnkEq, ba_iff]
theorem lnkEq_refl (a : LinkD) : lnkEq a a = true := lnkEq_iff.2 rfl
instance : Inhabited LinkD := ⟨lnk0⟩

/-! ### barrow/barrowref01.No -/
structure NoD where
  code : Int
  chainp : Option Addr
  chainn : Nat
  chainc : Nat
  codesp : Option Addr
  codesn : Nat
  codesc : Nat
def nov (a : NoD) : Array Value := #[.int .i64 a.code, .slice a.chainp a.chainn a.chainc, .slice a.codesp a.codesn a.codesc]
def nov0 : NoD := ⟨0, none, 0, 0, none, 0, 0⟩
@[go_sem] theorem nov_size (a : NoD) : (nov a).size = 3 := by unfold nov; simp
@[go_sem] theorem nov_flat (a : NoD) : flat (nov a) = true := by simp [flat, nov, Value.oneCell']
@[go_sem] theorem nov_0 (a : NoD) : (nov a)[0]? = some (.int .i64 a.code) := by unfold nov; simp
@[go_sem] theorem nov_e0 (a : NoD) (h : 0 < (nov a).size) : (nov a)[0] = .int .i64 a.code := by unfold nov; simp
@[go_sem] theorem nov_1 (a : NoD) : (nov a)[1]? = some (.slice a.chainp a.chainn a.chainc) := by unfold nov; simp
@[go_sem] theorem nov_e1 (a : NoD) (h : 1 < (nov a).size) : (nov a)[1] = .slice a.chainp a.chainn a.chainc := by unfold nov; simp
@[go_sem] theorem nov_2 (a : NoD) : (nov a)[2]? = some (.slice a.codesp a.codesn a.codesc) := by unfold nov; simp
@[go_sem] theorem nov_e2 (a : NoD) (h : 2 < (nov a).size) : (nov a)[2] = .slice a.codesp a.codesn a.codesc := by unfold nov; simp
@[go_sem] theorem nov_s0 (a : NoD) (v : Int) : (nov a).setIfInBounds 0 (.int .i64 v) = nov { a with code := v } := by unfold nov; simp
@[go_sem] theorem nov_s1 (a : NoD) (p : Option Addr) (n c : Nat) : (nov a).setIfInBounds 1 (.slice p n c) = nov { a with chainp := p, chainn := n, chainc := c } := by unfold nov; simp
@[go_sem] theorem nov_s2 (a : NoD) (p : Option Addr) (n c : Nat) : (nov a).setIfInBounds 2 (.slice p n c) = nov { a with codesp := p, codesn := n, codesc := c } := by unfold nov; simp
@[go_sem ↓] theorem field_nov (x : Value) (f : Nat) : Instr.field 67 x f = fldS 67 x f := (fldS_eq 67 x f).symm
@[go_sem] theorem fld_nov0 (cs : Array Value) (w : World) : (fldS 67 (.agg cs) 0).run Tryd.prog w = fldOne Tryd.prog 67 0 0 cs w :=
  run_fldS Tryd.prog 67 0 _ _ _ Tryd.underlying67 rfl Tryd.underlying3 rfl cs w
@[go_sem] theorem fld_nov1 (cs : Array Value) (w : World) : (fldS 67 (.agg cs) 1).run Tryd.prog w = fldOne Tryd.prog 67 1 1 cs w :=
  run_fldS Tryd.prog 67 1 _ _ _ Tryd.underlying67 rfl Tryd.underlying55 rfl cs w
@[go_sem] theorem fld_nov2 (cs : Array Value) (w : World) : (fldS 67 (.agg cs) 2).run Tryd.prog w = fldOne Tryd.prog 67 2 2 cs w :=
  run_fldS Tryd.prog 67 2 _ _ _ Tryd.underlying67 rfl Tryd.underlying65 rfl cs w
instance : Inhabited NoD := ⟨nov0⟩

end Go.Proofs.YtdniiegnaabagaaDoor
