/- Facts of the types and the functions of this seat. -/
import Derived.Test.YtflibhphpnajeaaDoorZUC6AG
import Derived.Test.YtflibhphpnajeaaDoorProg
import Derived.ChangeKeysEq
set_option linter.unusedSimpArgs false
set_option linter.unusedVariables false
namespace Go.Proofs.YtflibhphpnajeaaDoor
open Go Go.RowKit

/-- A list cut into pieces. -/
def catCut (cs : List Value) : Nat → List Nat → List Value
  | o, [] => cs.drop o
  | o, n :: ns => (cs.drop o).take n ++ catCut cs (o + n) ns
theorem catCut_eq (cs : List Value) : ∀ (ns : List Nat) (o : Nat), catCut cs o ns = cs.drop o
  | [], _ => rfl
  | n :: ns, o => by
    unfold catCut
    rw [catCut_eq cs ns, ← List.drop_drop]
    exact List.take_append_drop n (cs.drop o)

theorem opens_int : Opens Tryd.prog 3 1 (fun i : Int => #[.int .i64 i]) InI := opens_i64 Tryd.underlying3 (by kernel_rfl)
theorem opens_boolv : Opens Tryd.prog 4 1 (fun b : Bool => #[.bool b]) (fun _ => True) := opens_bool Tryd.underlying4 (by kernel_rfl)
theorem ba_iff {a b : ByteArray} : a.toList = b.toList ↔ a = b := ⟨fun h => by rw [ByteArray.toList_eq, ByteArray.toList_eq] at h; exact ByteArray.ext (Array.toList_inj.1 h), fun h => by rw [h]⟩
/-! ### barrow/api.ID -/
structure IdD where
  ep : Int
  rep : Int
  num : Int
def idv (a : IdD) : Array Value := #[.int .i64 a.ep, .int .i64 a.rep, .int .i64 a.num]
def id0 : IdD := ⟨0, 0, 0⟩
@[go_sem] theorem idv_size (a : IdD) : (idv a).size = 3 := by unfold idv; simp
@[go_sem] theorem idv_flat (a : IdD) : flat (idv a) = true := by simp [flat, idv, Value.oneCell']
@[go_sem] theorem idv_0 (a : IdD) : (idv a)[0]? = some (.int .i64 a.ep) := by unfold idv; simp
@[go_sem] theorem idv_e0 (a : IdD) (h : 0 < (idv a).size) : (idv a)[0] = .int .i64 a.ep := by unfold idv; simp
@[go_sem] theorem idv_1 (a : IdD) : (idv a)[1]? = some (.int .i64 a.rep) := by unfold idv; simp
@[go_sem] theorem idv_e1 (a : IdD) (h : 1 < (idv a).size) : (idv a)[1] = .int .i64 a.rep := by unfold idv; simp
@[go_sem] theorem idv_2 (a : IdD) : (idv a)[2]? = some (.int .i64 a.num) := by unfold idv; simp
@[go_sem] theorem idv_e2 (a : IdD) (h : 2 < (idv a).size) : (idv a)[2] = .int .i64 a.num := by unfold idv; simp
@[go_sem] theorem idv_s0 (a : IdD) (v : Int) : (idv a).setIfInBounds 0 (.int .i64 v) = idv { a with ep := v } := by unfold idv; simp
@[go_sem] theorem idv_s1 (a : IdD) (v : Int) : (idv a).setIfInBounds 1 (.int .i64 v) = idv { a with rep := v } := by unfold idv; simp
@[go_sem] theorem idv_s2 (a : IdD) (v : Int) : (idv a).setIfInBounds 2 (.int .i64 v) = idv { a with num := v } := by unfold idv; simp
@[go_sem ↓] theorem field_idv (x : Value) (f : Nat) : Instr.field 31 x f = fldS 31 x f := (fldS_eq 31 x f).symm
@[go_sem] theorem fld_idv0 (cs : Array Value) (w : World) : (fldS 31 (.agg cs) 0).run Tryd.prog w = fldOne Tryd.prog 31 0 0 cs w :=
  run_fldS Tryd.prog 31 0 _ _ _ Tryd.underlying31 rfl Tryd.underlying3 rfl cs w
@[go_sem] theorem fld_idv1 (cs : Array Value) (w : World) : (fldS 31 (.agg cs) 1).run Tryd.prog w = fldOne Tryd.prog 31 1 1 cs w :=
  run_fldS Tryd.prog 31 1 _ _ _ Tryd.underlying31 rfl Tryd.underlying3 rfl cs w
@[go_sem] theorem fld_idv2 (cs : Array Value) (w : World) : (fldS 31 (.agg cs) 2).run Tryd.prog w = fldOne Tryd.prog 31 2 2 cs w :=
  run_fldS Tryd.prog 31 2 _ _ _ Tryd.underlying31 rfl Tryd.underlying3 rfl cs w
def idvEq (a b : IdD) : Bool := a.ep == b.ep && (a.rep == b.rep && (a.num == b.num))
@[go_sem high] theorem neq_idv (a b : IdD) (w : World) : (binOp .neq 31 (.agg (idv a)) (.agg (idv b))).run Tryd.prog w = .ok (.bool (!idvEq a b)) w := by
  unfold idv idvEq
  go_simp
  (repeat' split) <;> simp_all
@[go_sem high] theorem eql_idv (a b : IdD) (w : World) : (binOp .eql 31 (.agg (idv a)) (.agg (idv b))).run Tryd.prog w = .ok (.bool (idvEq a b)) w := by
  unfold idv idvEq
  go_simp
  (repeat' split) <;> simp_all
theorem idvEq_iff {a b : IdD} : idvEq a b = true ↔ a = b := by
  obtain ⟨a0, a1, a2⟩ := a
  obtain ⟨b0, b1, b2⟩ := b
  simp [idvEq]
structure IdDI (a : IdD) : Prop where
  ep : InI a.ep
  rep : InI a.rep
  num : InI a.num
set_option maxRecDepth 20000 in
theorem opens_idv : Opens Tryd.prog 31 3 idv IdDI :=
  ⟨by kernel_rfl, idv_size, fun enc w base sp held fuel cs x h => by
    obtain ⟨xs, m, rfl, rfl, hl, hxl, hx⟩ := DataW.trod_struct Tryd.underlying31 h
    rw [show Tryd.prog.cellsOf 31 = 3 by kernel_rfl] at hl
    have h0 := hx 0 _ rfl
    have h1 := hx 1 _ rfl
    have h2 := hx 2 _ rfl
    have hxl : xs.length = 3 := hxl
    rw [List.getElem?_eq_getElem (by omega)] at h0 h1 h2
    obtain ⟨v0, k0, r0⟩ := opens_int.cut h0
    obtain ⟨v1, k1, r1⟩ := opens_int.cut h1
    obtain ⟨v2, k2, r2⟩ := opens_int.cut h2
    refine ⟨⟨v0, v1, v2⟩, ?_, ⟨r0, r1, r2⟩⟩
    have e := catCut_eq cs [1, 1, 1] 0
    simp only [catCut, List.drop_zero, Nat.zero_add, Nat.reduceAdd] at e
    replace k0 : List.take 1 cs = _ := k0
    replace k1 : List.take 1 (List.drop 1 cs) = _ := k1
    replace k2 : List.take 1 (List.drop 2 cs) = _ := k2
    rw [k0, k1, k2, List.drop_of_length_le (by omega), List.append_nil] at e
    rw [← e]
    simp [idv]⟩
instance : Inhabited IdD := ⟨id0⟩

/-! ### barrow/api.Change -/
structure ChgD where
  kind : Int
  id : IdD
def chg (a : ChgD) : Array Value := #[.int .i64 a.kind, .int .i64 a.id.ep, .int .i64 a.id.rep, .int .i64 a.id.num]
def chg0 : ChgD := ⟨0, id0⟩
@[go_sem] theorem chg_size (a : ChgD) : (chg a).size = 4 := by unfold chg; simp
@[go_sem] theorem chg_flat (a : ChgD) : flat (chg a) = true := by simp [flat, chg, Value.oneCell']
@[go_sem] theorem chg_0 (a : ChgD) : (chg a)[0]? = some (.int .i64 a.kind) := by unfold chg; simp
@[go_sem] theorem chg_e0 (a : ChgD) (h : 0 < (chg a).size) : (chg a)[0] = .int .i64 a.kind := by unfold chg; simp
@[go_sem] theorem chg_1 (a : ChgD) : (chg a)[1]? = some (.int .i64 a.id.ep) := by unfold chg; simp
@[go_sem] theorem chg_e1 (a : ChgD) (h : 1 < (chg a).size) : (chg a)[1] = .int .i64 a.id.ep := by unfold chg; simp
@[go_sem] theorem chg_2 (a : ChgD) : (chg a)[2]? = some (.int .i64 a.id.rep) := by unfold chg; simp
@[go_sem] theorem chg_e2 (a : ChgD) (h : 2 < (chg a).size) : (chg a)[2] = .int .i64 a.id.rep := by unfold chg; simp
@[go_sem] theorem chg_3 (a : ChgD) : (chg a)[3]? = some (.int .i64 a.id.num) := by unfold chg; simp
@[go_sem] theorem chg_e3 (a : ChgD) (h : 3 < (chg a).size) : (chg a)[3] = .int .i64 a.id.num := by unfold chg; simp
@[go_sem] theorem chg_x1 (a : ChgD) : (chg a).extract 1 4 = idv a.id := by unfold chg idv; simp
@[go_sem] theorem chg_sp1 (a : ChgD) (b : IdD) : splice (chg a) 1 (idv b) = chg { a with id := b } := by simp [splice, chg, idv]
@[go_sem] theorem chg_s0 (a : ChgD) (v : Int) : (chg a).setIfInBounds 0 (.int .i64 v) = chg { a with kind := v } := by unfold chg; simp
@[go_sem] theorem chg_s1 (a : ChgD) (v : Int) : (chg a).setIfInBounds 1 (.int .i64 v) = chg { a with id := { a.id with ep := v } } := by unfold chg; simp
@[go_sem] theorem chg_s2 (a : ChgD) (v : Int) : (chg a).setIfInBounds 2 (.int .i64 v) = chg { a with id := { a.id with rep := v } } := by unfold chg; simp
@[go_sem] theorem chg_s3 (a : ChgD) (v : Int) : (chg a).setIfInBounds 3 (.int .i64 v) = chg { a with id := { a.id with num := v } } := by unfold chg; simp
@[go_sem ↓] theorem field_chg (x : Value) (f : Nat) : Instr.field 33 x f = fldS 33 x f := (fldS_eq 33 x f).symm
@[go_sem] theorem fld_chg0 (cs : Array Value) (w : World) : (fldS 33 (.agg cs) 0).run Tryd.prog w = fldOne Tryd.prog 33 0 0 cs w :=
  run_fldS Tryd.prog 33 0 _ _ _ Tryd.underlying33 rfl Tryd.underlying3 rfl cs w
@[go_sem] theorem fld_chg1 (a : ChgD) (w : World) : (fldS 33 (.agg (chg a)) 1).run Tryd.prog w = .ok (.agg (idv a.id)) w := by
  rw [run_fldSN Tryd.prog 33 1 3 _ _ _ Tryd.underlying33 rfl Tryd.underlying31 rfl (by kernel_rfl) (chg a) w]
  exact congrArg (fun x => Result.ok (Value.agg x) w) (chg_x1 a)
def chgEq (a b : ChgD) : Bool := a.kind == b.kind && (idvEq a.id b.id)
@[go_sem high] theorem neq_chg (a b : ChgD) (w : World) : (binOp .neq 33 (.agg (chg a)) (.agg (chg b))).run Tryd.prog w = .ok (.bool (!chgEq a b)) w := by
  unfold chg chgEq idvEq
  go_simp
  (repeat' split) <;> simp_all
@[go_sem high] theorem eql_chg (a b : ChgD) (w : World) : (binOp .eql 33 (.agg (chg a)) (.agg (chg b))).run Tryd.prog w = .ok (.bool (chgEq a b)) w := by
  unfold chg chgEq idvEq
  go_simp
  (repeat' split) <;> simp_all
theorem chgEq_iff {a b : ChgD} : chgEq a b = true ↔ a = b := by
  obtain ⟨a0, a1⟩ := a
  obtain ⟨b0, b1⟩ := b
  simp [chgEq, idvEq_iff]
theorem chgEq_refl (a : ChgD) : chgEq a a = true := chgEq_iff.2 rfl
structure ChgDI (a : ChgD) : Prop where
  kind : InI a.kind
  id : IdDI a.id
set_option maxRecDepth 20000 in
theorem opens_chg : Opens Tryd.prog 33 4 chg ChgDI :=
  ⟨by kernel_rfl, chg_size, fun enc w base sp held fuel cs x h => by
    obtain ⟨xs, m, rfl, rfl, hl, hxl, hx⟩ := DataW.trod_struct Tryd.underlying33 h
    rw [show Tryd.prog.cellsOf 33 = 4 by kernel_rfl] at hl
    have h0 := hx 0 _ rfl
    have h1 := hx 1 _ rfl
    have hxl : xs.length = 2 := hxl
    rw [List.getElem?_eq_getElem (by omega)] at h0 h1
    obtain ⟨v0, k0, r0⟩ := opens_int.cut h0
    obtain ⟨v1, k1, r1⟩ := opens_idv.cut h1
    refine ⟨⟨v0, v1⟩, ?_, ⟨r0, r1⟩⟩
    have e := catCut_eq cs [1, 3] 0
    simp only [catCut, List.drop_zero, Nat.zero_add, Nat.reduceAdd] at e
    replace k0 : List.take 1 cs = _ := k0
    replace k1 : List.take 3 (List.drop 1 cs) = _ := k1
    rw [k0, k1, List.drop_of_length_le (by omega), List.append_nil] at e
    rw [← e]
    simp [chg, idv]⟩
instance : Inhabited ChgD := ⟨chg0⟩

/-! ### barrow/barrowlaw14.Op -/
structure UopD where
  what : Int
  redo : Bool
  lp : Option Addr
  ln : Nat
  lc : Nat
def uop (a : UopD) : Array Value := #[.int .i64 a.what, .bool a.redo, .slice a.lp a.ln a.lc]
def uop0 : UopD := ⟨0, false, none, 0, 0⟩
@[go_sem] theorem uop_size (a : UopD) : (uop a).size = 3 := by unfold uop; simp
@[go_sem] theorem uop_flat (a : UopD) : flat (uop a) = true := by simp [flat, uop, Value.oneCell']
@[go_sem] theorem uop_0 (a : UopD) : (uop a)[0]? = some (.int .i64 a.what) := by unfold uop; simp
@[go_sem] theorem uop_e0 (a : UopD) (h : 0 < (uop a).size) : (uop a)[0] = .int .i64 a.what := by unfold uop; simp
@[go_sem] theorem uop_1 (a : UopD) : (uop a)[1]? = some (.bool a.redo) := by unfold uop; simp
@[go_sem] theorem uop_e1 (a : UopD) (h : 1 < (uop a).size) : (uop a)[1] = .bool a.redo := by unfold uop; simp
@[go_sem] theorem uop_2 (a : UopD) : (uop a)[2]? = some (.slice a.lp a.ln a.lc) := by unfold uop; simp
@[go_sem] theorem uop_e2 (a : UopD) (h : 2 < (uop a).size) : (uop a)[2] = .slice a.lp a.ln a.lc := by unfold uop; simp
@[go_sem] theorem uop_s0 (a : UopD) (v : Int) : (uop a).setIfInBounds 0 (.int .i64 v) = uop { a with what := v } := by unfold uop; simp
@[go_sem] theorem uop_s1 (a : UopD) (v : Bool) : (uop a).setIfInBounds 1 (.bool v) = uop { a with redo := v } := by unfold uop; simp
@[go_sem] theorem uop_s2 (a : UopD) (p : Option Addr) (n c : Nat) : (uop a).setIfInBounds 2 (.slice p n c) = uop { a with lp := p, ln := n, lc := c } := by unfold uop; simp
@[go_sem ↓] theorem field_uop (x : Value) (f : Nat) : Instr.field 57 x f = fldS 57 x f := (fldS_eq 57 x f).symm
@[go_sem] theorem fld_uop0 (cs : Array Value) (w : World) : (fldS 57 (.agg cs) 0).run Tryd.prog w = fldOne Tryd.prog 57 0 0 cs w :=
  run_fldS Tryd.prog 57 0 _ _ _ Tryd.underlying57 rfl Tryd.underlying3 rfl cs w
@[go_sem] theorem fld_uop1 (cs : Array Value) (w : World) : (fldS 57 (.agg cs) 1).run Tryd.prog w = fldOne Tryd.prog 57 1 1 cs w :=
  run_fldS Tryd.prog 57 1 _ _ _ Tryd.underlying57 rfl Tryd.underlying4 rfl cs w
@[go_sem] theorem fld_uop2 (cs : Array Value) (w : World) : (fldS 57 (.agg cs) 2).run Tryd.prog w = fldOne Tryd.prog 57 2 2 cs w :=
  run_fldS Tryd.prog 57 2 _ _ _ Tryd.underlying57 rfl Tryd.underlying22 rfl cs w
instance : Inhabited UopD := ⟨uop0⟩

/-! ### barrow/barrowlaw14.pair -/
structure PairUD where
  p : Option Addr
  r : Option Addr
def prv (a : PairUD) : Array Value := #[.pointer a.p, .pointer a.r]
def prv0 : PairUD := ⟨none, none⟩
@[go_sem] theorem prv_size (a : PairUD) : (prv a).size = 2 := by unfold prv; simp
@[go_sem] theorem prv_flat (a : PairUD) : flat (prv a) = true := by simp [flat, prv, Value.oneCell']
@[go_sem] theorem prv_0 (a : PairUD) : (prv a)[0]? = some (.pointer a.p) := by unfold prv; simp
@[go_sem] theorem prv_e0 (a : PairUD) (h : 0 < (prv a).size) : (prv a)[0] = .pointer a.p := by unfold prv; simp
@[go_sem] theorem prv_1 (a : PairUD) : (prv a)[1]? = some (.pointer a.r) := by unfold prv; simp
@[go_sem] theorem prv_e1 (a : PairUD) (h : 1 < (prv a).size) : (prv a)[1] = .pointer a.r := by unfold prv; simp
@[go_sem] theorem prv_s0 (a : PairUD) (v : Option Addr) : (prv a).setIfInBounds 0 (.pointer v) = prv { a with p := v } := by unfold prv; simp
@[go_sem] theorem prv_s1 (a : PairUD) (v : Option Addr) : (prv a).setIfInBounds 1 (.pointer v) = prv { a with r := v } := by unfold prv; simp
@[go_sem ↓] theorem field_prv (x : Value) (f : Nat) : Instr.field 54 x f = fldS 54 x f := (fldS_eq 54 x f).symm
@[go_sem] theorem fld_prv0 (cs : Array Value) (w : World) : (fldS 54 (.agg cs) 0).run Tryd.prog w = fldOne Tryd.prog 54 0 0 cs w :=
  run_fldS Tryd.prog 54 0 _ _ _ Tryd.underlying54 rfl Tryd.underlying28 rfl cs w
@[go_sem] theorem fld_prv1 (cs : Array Value) (w : World) : (fldS 54 (.agg cs) 1).run Tryd.prog w = fldOne Tryd.prog 54 1 1 cs w :=
  run_fldS Tryd.prog 54 1 _ _ _ Tryd.underlying54 rfl Tryd.underlying49 rfl cs w
instance : Inhabited PairUD := ⟨prv0⟩

/-! ### barrow/api.Link -/
structure LinkD where
  layer : ByteArray
  call : ByteArray
  pos : Int
def lnk (a : LinkD) : Array Value := #[.string a.layer, .string a.call, .int .i64 a.pos]
def lnk0 : LinkD := ⟨.empty, .empty, 0⟩
@[go_sem] theorem lnk_size (a : LinkD) : (lnk a).size = 3 := by unfold lnk; simp
@[go_sem] theorem lnk_flat (a : LinkD) : flat (lnk a) = true := by simp [flat, lnk, Value.oneCell']
@[go_sem] theorem lnk_0 (a : LinkD) : (lnk a)[0]? = some (.string a.layer) := by unfold lnk; simp
@[go_sem] theorem lnk_e0 (a : LinkD) (h : 0 < (lnk a).size) : (lnk a)[0] = .string a.layer := by unfold lnk; simp
@[go_sem] theorem lnk_1 (a : LinkD) : (lnk a)[1]? = some (.string a.call) := by unfold lnk; simp
@[go_sem] theorem lnk_e1 (a : LinkD) (h : 1 < (lnk a).size) : (lnk a)[1] = .string a.call := by unfold lnk; simp
@[go_sem] theorem lnk_2 (a : LinkD) : (lnk a)[2]? = some (.int .i64 a.pos) := by unfold lnk; simp
@[go_sem] theorem lnk_e2 (a : LinkD) (h : 2 < (lnk a).size) : (lnk a)[2] = .int .i64 a.pos := by unfold lnk; simp
@[go_sem] theorem lnk_s0 (a : LinkD) (v : ByteArray) : (lnk a).setIfInBounds 0 (.string v) = lnk { a with layer := v } := by unfold lnk; simp
@[go_sem] theorem lnk_s1 (a : LinkD) (v : ByteArray) : (lnk a).setIfInBounds 1 (.string v) = lnk { a with call := v } := by unfold lnk; simp
@[go_sem] theorem lnk_s2 (a : LinkD) (v : Int) : (lnk a).setIfInBounds 2 (.int .i64 v) = lnk { a with pos := v } := by unfold lnk; simp
@[go_sem ↓] theorem field_lnk (x : Value) (f : Nat) : Instr.field 96 x f = fldS 96 x f := (fldS_eq 96 x f).symm
@[go_sem] theorem fld_lnk0 (cs : Array Value) (w : World) : (fldS 96 (.agg cs) 0).run Tryd.prog w = fldOne Tryd.prog 96 0 0 cs w :=
  run_fldS Tryd.prog 96 0 _ _ _ Tryd.underlying96 rfl Tryd.underlying9 rfl cs w
@[go_sem] theorem fld_lnk1 (cs : Array Value) (w : World) : (fldS 96 (.agg cs) 1).run Tryd.prog w = fldOne Tryd.prog 96 1 1 cs w :=
  run_fldS Tryd.prog 96 1 _ _ _ Tryd.underlying96 rfl Tryd.underlying9 rfl cs w
@[go_sem] theorem fld_lnk2 (cs : Array Value) (w : World) : (fldS 96 (.agg cs) 2).run Tryd.prog w = fldOne Tryd.prog 96 2 2 cs w :=
  run_fldS Tryd.prog 96 2 _ _ _ Tryd.underlying96 rfl Tryd.underlying3 rfl cs w
def lnkEq (a b : LinkD) : Bool := (a.layer.toList == b.layer.toList) && ((a.call.toList == b.call.toList) && (a.pos == b.pos))
@[go_sem high] theorem neq_lnk (a b : LinkD) (w : World) : (binOp .neq 96 (.agg (lnk a)) (.agg (lnk b))).run Tryd.prog w = .ok (.bool (!lnkEq a b)) w := by
  unfold lnk lnkEq
  go_simp
  (repeat' split) <;> simp_all
@[go_sem high] theorem eql_lnk (a b : LinkD) (w : World) : (binOp .eql 96 (.agg (lnk a)) (.agg (lnk b))).run Tryd.prog w = .ok (.bool (lnkEq a b)) w := by
  unfold lnk lnkEq
  go_simp
  (repeat' split) <;> simp_all
theorem lnkEq_iff {a b : LinkD} : lnkEq a b = true ↔ a = b := by
  obtain ⟨a0, a1, a2⟩ := a
  obtain ⟨b0, b1, b2⟩ := b
  simp [lnkEq, ba_iff]
theorem lnkEq_refl (a : LinkD) : lnkEq a a = true := lnkEq_iff.2 rfl
instance : Inhabited LinkD := ⟨lnk0⟩

/-! ### barrow/barrowref01.No -/
structure NoD where
  code : Int
  chainp : Option Addr
  chainn : Nat
  chainc : Nat
  codesp : Option Addr
  codesn : Nat
  codesc : Nat
def nov (a : NoD) : Array Value := #[.int .i64 a.code, .slice a.chainp a.chainn a.chainc, .slice a.codesp a.codesn a.codesc]
def nov0 : NoD := ⟨0, none, 0, 0, none, 0, 0⟩
@[go_sem] theorem nov_size (a : NoD) : (nov a).size = 3 := by unfold nov; simp
@[go_sem] theorem nov_flat (a : NoD) : flat (nov a) = true := by simp [flat, nov, Value.oneCell']
@[go_sem] theorem nov_0 (a : NoD) : (nov a)[0]? = some (.int .i64 a.code) := by unfold nov; simp
@[go_sem] theorem nov_e0 (a : NoD) (h : 0 < (nov a).size) : (nov a)[0] = .int .i64 a.code := by unfold nov; simp
@[go_sem] theorem nov_1 (a : NoD) : (nov a)[1]? = some (.slice a.chainp a.chainn a.chainc) := by unfold nov; simp
@[go_sem] theorem nov_e1 (a : NoD) (h : 1 < (nov a).size) : (nov a)[1] = .slice a.chainp a.chainn a.chainc := by unfold nov; simp
@[go_sem] theorem nov_2 (a : NoD) : (nov a)[2]? = some (.slice a.codesp a.codesn a.codesc) := by unfold nov; simp
@[go_sem] theorem nov_e2 (a : NoD) (h : 2 < (nov a).size) : (nov a)[2] = .slice a.codesp a.codesn a.codesc := by unfold nov; simp
@[go_sem] theorem nov_s0 (a : NoD) (v : Int) : (nov a).setIfInBounds 0 (.int .i64 v) = nov { a with code := v } := by unfold nov; simp
@[go_sem] theorem nov_s1 (a : NoD) (p : Option Addr) (n c : Nat) : (nov a).setIfInBounds 1 (.slice p n c) = nov { a with chainp := p, chainn := n, chainc := c } := by unfold nov; simp
@[go_sem] theorem nov_s2 (a : NoD) (p : Option Addr) (n c : Nat) : (nov a).setIfInBounds 2 (.slice p n c) = nov { a with codesp := p, codesn := n, codesc := c } := by unfold nov; simp
@[go_sem ↓] theorem field_nov (x : Value) (f : Nat) : Instr.field 44 x f = fldS 44 x f := (fldS_eq 44 x f).symm
@[go_sem] theorem fld_nov0 (cs : Array Value) (w : World) : (fldS 44 (.agg cs) 0).run Tryd.prog w = fldOne Tryd.prog 44 0 0 cs w :=
  run_fldS Tryd.prog 44 0 _ _ _ Tryd.underlying44 rfl Tryd.underlying3 rfl cs w
@[go_sem] theorem fld_nov1 (cs : Array Value) (w : World) : (fldS 44 (.agg cs) 1).run Tryd.prog w = fldOne Tryd.prog 44 1 1 cs w :=
  run_fldS Tryd.prog 44 1 _ _ _ Tryd.underlying44 rfl Tryd.underlying41 rfl cs w
@[go_sem] theorem fld_nov2 (cs : Array Value) (w : World) : (fldS 44 (.agg cs) 2).run Tryd.prog w = fldOne Tryd.prog 44 2 2 cs w :=
  run_fldS Tryd.prog 44 2 _ _ _ Tryd.underlying44 rfl Tryd.underlying42 rfl cs w
instance : Inhabited NoD := ⟨nov0⟩

end Go.Proofs.YtflibhphpnajeaaDoor

set_option linter.unusedSimpArgs false
set_option linter.unusedVariables false
set_option maxRecDepth 4000
namespace Go.Proofs.YtflibhphpnajeaaDoor
open Go Go.RowKit

@[go_sem] theorem sc_1 : ScT Tryd.prog 1 := ⟨⟨_, Tryd.underlying1, rfl⟩, by kernel_rfl⟩
@[go_sem] theorem sc_2 : ScT Tryd.prog 2 := ⟨⟨_, Tryd.underlying2, rfl⟩, by kernel_rfl⟩
@[go_sem] theorem sc_3 : ScT Tryd.prog 3 := ⟨⟨_, Tryd.underlying3, rfl⟩, by kernel_rfl⟩
theorem zero_3 : ZeroT Tryd.prog 3 #[.int .i64 0] := ⟨.int .i64 0, by kernel_rfl, rfl⟩
@[go_sem] theorem sc_4 : ScT Tryd.prog 4 := ⟨⟨_, Tryd.underlying4, rfl⟩, by kernel_rfl⟩
@[go_sem] theorem sc_5 : ScT Tryd.prog 5 := ⟨⟨_, Tryd.underlying5, rfl⟩, by kernel_rfl⟩
@[go_sem] theorem sc_6 : ScT Tryd.prog 6 := ⟨⟨_, Tryd.underlying6, rfl⟩, by kernel_rfl⟩
@[go_sem] theorem sc_9 : ScT Tryd.prog 9 := ⟨⟨_, Tryd.underlying9, rfl⟩, by kernel_rfl⟩
@[go_sem] theorem sc_10 : ScT Tryd.prog 10 := ⟨⟨_, Tryd.underlying10, rfl⟩, by kernel_rfl⟩
@[go_sem] theorem sc_11 : ScT Tryd.prog 11 := ⟨⟨_, Tryd.underlying11, rfl⟩, by kernel_rfl⟩
@[go_sem] theorem sc_12 : ScT Tryd.prog 12 := ⟨⟨_, Tryd.underlying12, rfl⟩, by kernel_rfl⟩
@[go_sem] theorem sc_15 : ScT Tryd.prog 15 := ⟨⟨_, Tryd.underlying15, rfl⟩, by kernel_rfl⟩
@[go_sem] theorem sc_16 : ScT Tryd.prog 16 := ⟨⟨_, Tryd.underlying16, rfl⟩, by kernel_rfl⟩
@[go_sem] theorem sc_17 : ScT Tryd.prog 17 := ⟨⟨_, Tryd.underlying17, rfl⟩, by kernel_rfl⟩
@[go_sem] theorem sc_20 : ScT Tryd.prog 20 := ⟨⟨_, Tryd.underlying20, rfl⟩, by kernel_rfl⟩
@[go_sem] theorem sc_21 : ScT Tryd.prog 21 := ⟨⟨_, Tryd.underlying21, rfl⟩, by kernel_rfl⟩
@[go_sem] theorem sc_22 : ScT Tryd.prog 22 := ⟨⟨_, Tryd.underlying22, rfl⟩, by kernel_rfl⟩
@[go_sem] theorem sc_23 : ScT Tryd.prog 23 := ⟨⟨_, Tryd.underlying23, rfl⟩, by kernel_rfl⟩
@[go_sem] theorem sc_24 : ScT Tryd.prog 24 := ⟨⟨_, Tryd.underlying24, rfl⟩, by kernel_rfl⟩
@[go_sem] theorem sc_25 : ScT Tryd.prog 25 := ⟨⟨_, Tryd.underlying25, rfl⟩, by kernel_rfl⟩
@[go_sem] theorem sc_26 : ScT Tryd.prog 26 := ⟨⟨_, Tryd.underlying26, rfl⟩, by kernel_rfl⟩
@[go_sem] theorem sc_27 : ScT Tryd.prog 27 := ⟨⟨_, Tryd.underlying27, rfl⟩, by kernel_rfl⟩
@[go_sem] theorem sc_28 : ScT Tryd.prog 28 := ⟨⟨_, Tryd.underlying28, rfl⟩, by kernel_rfl⟩
@[go_sem] theorem sc_29 : ScT Tryd.prog 29 := ⟨⟨_, Tryd.underlying29, rfl⟩, by kernel_rfl⟩
theorem agg_31 : AggT Tryd.prog 31 3 := ⟨_, Tryd.underlying31, rfl, by kernel_rfl⟩
theorem zero_31 : ZeroT Tryd.prog 31 (idv id0) := ⟨.agg (idv id0), by kernel_rfl, rfl⟩
theorem agg_33 : AggT Tryd.prog 33 4 := ⟨_, Tryd.underlying33, rfl, by kernel_rfl⟩
theorem zero_33 : ZeroT Tryd.prog 33 (chg chg0) := ⟨.agg (chg chg0), by kernel_rfl, rfl⟩
@[go_sem] theorem sc_35 : ScT Tryd.prog 35 := ⟨⟨_, Tryd.underlying35, rfl⟩, by kernel_rfl⟩
@[go_sem] theorem sc_36 : ScT Tryd.prog 36 := ⟨⟨_, Tryd.underlying36, rfl⟩, by kernel_rfl⟩
@[go_sem] theorem sc_37 : ScT Tryd.prog 37 := ⟨⟨_, Tryd.underlying37, rfl⟩, by kernel_rfl⟩
@[go_sem] theorem sc_39 : ScT Tryd.prog 39 := ⟨⟨_, Tryd.underlying39, rfl⟩, by kernel_rfl⟩
@[go_sem] theorem sc_40 : ScT Tryd.prog 40 := ⟨⟨_, Tryd.underlying40, rfl⟩, by kernel_rfl⟩
@[go_sem] theorem sc_41 : ScT Tryd.prog 41 := ⟨⟨_, Tryd.underlying41, rfl⟩, by kernel_rfl⟩
@[go_sem] theorem sc_42 : ScT Tryd.prog 42 := ⟨⟨_, Tryd.underlying42, rfl⟩, by kernel_rfl⟩
theorem zero_42 : ZeroT Tryd.prog 42 #[.slice none 0 0] := ⟨.slice none 0 0, by kernel_rfl, rfl⟩
theorem agg_44 : AggT Tryd.prog 44 3 := ⟨_, Tryd.underlying44, rfl, by kernel_rfl⟩
theorem zero_44 : ZeroT Tryd.prog 44 (nov nov0) := ⟨.agg (nov nov0), by kernel_rfl, rfl⟩
@[go_sem] theorem sc_45 : ScT Tryd.prog 45 := ⟨⟨_, Tryd.underlying45, rfl⟩, by kernel_rfl⟩
@[go_sem] theorem sc_46 : ScT Tryd.prog 46 := ⟨⟨_, Tryd.underlying46, rfl⟩, by kernel_rfl⟩
@[go_sem] theorem sc_47 : ScT Tryd.prog 47 := ⟨⟨_, Tryd.underlying47, rfl⟩, by kernel_rfl⟩
@[go_sem] theorem sc_48 : ScT Tryd.prog 48 := ⟨⟨_, Tryd.underlying48, rfl⟩, by kernel_rfl⟩
@[go_sem] theorem sc_49 : ScT Tryd.prog 49 := ⟨⟨_, Tryd.underlying49, rfl⟩, by kernel_rfl⟩
@[go_sem] theorem sc_50 : ScT Tryd.prog 50 := ⟨⟨_, Tryd.underlying50, rfl⟩, by kernel_rfl⟩
@[go_sem] theorem sc_55 : ScT Tryd.prog 55 := ⟨⟨_, Tryd.underlying55, rfl⟩, by kernel_rfl⟩
theorem agg_57 : AggT Tryd.prog 57 3 := ⟨_, Tryd.underlying57, rfl, by kernel_rfl⟩
@[go_sem] theorem sc_58 : ScT Tryd.prog 58 := ⟨⟨_, Tryd.underlying58, rfl⟩, by kernel_rfl⟩
@[go_sem] theorem sc_60 : ScT Tryd.prog 60 := ⟨⟨_, Tryd.underlying60, rfl⟩, by kernel_rfl⟩
@[go_sem] theorem sc_61 : ScT Tryd.prog 61 := ⟨⟨_, Tryd.underlying61, rfl⟩, by kernel_rfl⟩
@[go_sem] theorem sc_63 : ScT Tryd.prog 63 := ⟨⟨_, Tryd.underlying63, rfl⟩, by kernel_rfl⟩
@[go_sem] theorem sc_65 : ScT Tryd.prog 65 := ⟨⟨_, Tryd.underlying65, rfl⟩, by kernel_rfl⟩
@[go_sem] theorem sc_66 : ScT Tryd.prog 66 := ⟨⟨_, Tryd.underlying66, rfl⟩, by kernel_rfl⟩
@[go_sem] theorem sc_67 : ScT Tryd.prog 67 := ⟨⟨_, Tryd.underlying67, rfl⟩, by kernel_rfl⟩
theorem agg_68 : AggT Tryd.prog 68 4 := ⟨_, Tryd.underlying68, rfl, by kernel_rfl⟩
theorem zero_68 : ZeroT Tryd.prog 68 #[.int .i64 0, .int .i64 0, .int .i64 0, .int .i64 0] := ⟨.agg #[.int .i64 0, .int .i64 0, .int .i64 0, .int .i64 0], by kernel_rfl, rfl⟩
@[go_sem] theorem sc_71 : ScT Tryd.prog 71 := ⟨⟨_, Tryd.underlying71, rfl⟩, by kernel_rfl⟩
@[go_sem] theorem sc_73 : ScT Tryd.prog 73 := ⟨⟨_, Tryd.underlying73, rfl⟩, by kernel_rfl⟩
@[go_sem] theorem sc_74 : ScT Tryd.prog 74 := ⟨⟨_, Tryd.underlying74, rfl⟩, by kernel_rfl⟩
@[go_sem] theorem sc_75 : ScT Tryd.prog 75 := ⟨⟨_, Tryd.underlying75, rfl⟩, by kernel_rfl⟩
@[go_sem] theorem sc_76 : ScT Tryd.prog 76 := ⟨⟨_, Tryd.underlying76, rfl⟩, by kernel_rfl⟩
@[go_sem] theorem sc_77 : ScT Tryd.prog 77 := ⟨⟨_, Tryd.underlying77, rfl⟩, by kernel_rfl⟩
@[go_sem] theorem sc_78 : ScT Tryd.prog 78 := ⟨⟨_, Tryd.underlying78, rfl⟩, by kernel_rfl⟩
@[go_sem] theorem sc_79 : ScT Tryd.prog 79 := ⟨⟨_, Tryd.underlying79, rfl⟩, by kernel_rfl⟩
@[go_sem] theorem sc_80 : ScT Tryd.prog 80 := ⟨⟨_, Tryd.underlying80, rfl⟩, by kernel_rfl⟩
@[go_sem] theorem sc_82 : ScT Tryd.prog 82 := ⟨⟨_, Tryd.underlying82, rfl⟩, by kernel_rfl⟩
@[go_sem] theorem sc_83 : ScT Tryd.prog 83 := ⟨⟨_, Tryd.underlying83, rfl⟩, by kernel_rfl⟩
@[go_sem] theorem sc_84 : ScT Tryd.prog 84 := ⟨⟨_, Tryd.underlying84, rfl⟩, by kernel_rfl⟩
@[go_sem] theorem sc_85 : ScT Tryd.prog 85 := ⟨⟨_, Tryd.underlying85, rfl⟩, by kernel_rfl⟩
@[go_sem] theorem sc_86 : ScT Tryd.prog 86 := ⟨⟨_, Tryd.underlying86, rfl⟩, by kernel_rfl⟩
@[go_sem] theorem sc_87 : ScT Tryd.prog 87 := ⟨⟨_, Tryd.underlying87, rfl⟩, by kernel_rfl⟩
@[go_sem] theorem sc_88 : ScT Tryd.prog 88 := ⟨⟨_, Tryd.underlying88, rfl⟩, by kernel_rfl⟩
@[go_sem] theorem sc_89 : ScT Tryd.prog 89 := ⟨⟨_, Tryd.underlying89, rfl⟩, by kernel_rfl⟩
@[go_sem] theorem sc_90 : ScT Tryd.prog 90 := ⟨⟨_, Tryd.underlying90, rfl⟩, by kernel_rfl⟩
theorem agg_91 : AggT Tryd.prog 91 8 := ⟨_, Tryd.underlying91, rfl, by kernel_rfl⟩
theorem zero_91 : ZeroT Tryd.prog 91 #[.int .i64 0, .int .i64 0, .int .i64 0, .int .i64 0, .int .i64 0, .int .i64 0, .int .i64 0, .int .i64 0] := ⟨.agg #[.int .i64 0, .int .i64 0, .int .i64 0, .int .i64 0, .int .i64 0, .int .i64 0, .int .i64 0, .int .i64 0], by kernel_rfl, rfl⟩
@[go_sem] theorem sc_92 : ScT Tryd.prog 92 := ⟨⟨_, Tryd.underlying92, rfl⟩, by kernel_rfl⟩
@[go_sem] theorem sc_93 : ScT Tryd.prog 93 := ⟨⟨_, Tryd.underlying93, rfl⟩, by kernel_rfl⟩
@[go_sem] theorem sc_94 : ScT Tryd.prog 94 := ⟨⟨_, Tryd.underlying94, rfl⟩, by kernel_rfl⟩
theorem agg_96 : AggT Tryd.prog 96 3 := ⟨_, Tryd.underlying96, rfl, by kernel_rfl⟩
theorem zero_96 : ZeroT Tryd.prog 96 (lnk lnk0) := ⟨.agg (lnk lnk0), by kernel_rfl, rfl⟩
@[go_sem] theorem sc_97 : ScT Tryd.prog 97 := ⟨⟨_, Tryd.underlying97, rfl⟩, by kernel_rfl⟩
@[go_sem] theorem sc_98 : ScT Tryd.prog 98 := ⟨⟨_, Tryd.underlying98, rfl⟩, by kernel_rfl⟩
@[go_sem] theorem sc_101 : ScT Tryd.prog 101 := ⟨⟨_, Tryd.underlying101, rfl⟩, by kernel_rfl⟩
@[go_sem] theorem sc_102 : ScT Tryd.prog 102 := ⟨⟨_, Tryd.underlying102, rfl⟩, by kernel_rfl⟩
@[go_sem] theorem sc_103 : ScT Tryd.prog 103 := ⟨⟨_, Tryd.underlying103, rfl⟩, by kernel_rfl⟩
@[go_sem] theorem sc_104 : ScT Tryd.prog 104 := ⟨⟨_, Tryd.underlying104, rfl⟩, by kernel_rfl⟩
@[go_sem] theorem sc_105 : ScT Tryd.prog 105 := ⟨⟨_, Tryd.underlying105, rfl⟩, by kernel_rfl⟩
@[go_sem] theorem sc_106 : ScT Tryd.prog 106 := ⟨⟨_, Tryd.underlying106, rfl⟩, by kernel_rfl⟩
@[go_sem] theorem sc_107 : ScT Tryd.prog 107 := ⟨⟨_, Tryd.underlying107, rfl⟩, by kernel_rfl⟩
@[go_sem] theorem sc_108 : ScT Tryd.prog 108 := ⟨⟨_, Tryd.underlying108, rfl⟩, by kernel_rfl⟩
@[go_sem] theorem sc_109 : ScT Tryd.prog 109 := ⟨⟨_, Tryd.underlying109, rfl⟩, by kernel_rfl⟩
@[go_sem] theorem sc_112 : ScT Tryd.prog 112 := ⟨⟨_, Tryd.underlying112, rfl⟩, by kernel_rfl⟩
@[go_sem] theorem sc_113 : ScT Tryd.prog 113 := ⟨⟨_, Tryd.underlying113, rfl⟩, by kernel_rfl⟩
@[go_sem] theorem sc_119 : ScT Tryd.prog 119 := ⟨⟨_, Tryd.underlying119, rfl⟩, by kernel_rfl⟩
@[go_sem] theorem sc_120 : ScT Tryd.prog 120 := ⟨⟨_, Tryd.underlying120, rfl⟩, by kernel_rfl⟩
@[go_sem] theorem sc_121 : ScT Tryd.prog 121 := ⟨⟨_, Tryd.underlying121, rfl⟩, by kernel_rfl⟩
@[go_sem] theorem sc_122 : ScT Tryd.prog 122 := ⟨⟨_, Tryd.underlying122, rfl⟩, by kernel_rfl⟩
@[go_sem] theorem sc_123 : ScT Tryd.prog 123 := ⟨⟨_, Tryd.underlying123, rfl⟩, by kernel_rfl⟩
@[go_sem] theorem sc_124 : ScT Tryd.prog 124 := ⟨⟨_, Tryd.underlying124, rfl⟩, by kernel_rfl⟩
@[go_sem] theorem sc_125 : ScT Tryd.prog 125 := ⟨⟨_, Tryd.underlying125, rfl⟩, by kernel_rfl⟩
@[go_sem] theorem sc_126 : ScT Tryd.prog 126 := ⟨⟨_, Tryd.underlying126, rfl⟩, by kernel_rfl⟩
@[go_sem] theorem sc_132 : ScT Tryd.prog 132 := ⟨⟨_, Tryd.underlying132, rfl⟩, by kernel_rfl⟩
theorem app_22 : AppT Tryd.prog 22 33 4 32 chg := ⟨Tryd.underlying22, ⟨.agg (chg chg0), by kernel_rfl, (by first | rfl | (simp only [Value.cells, go_sem]))⟩, by decide, fun a => by simp only [go_sem], fun a => by simp only [go_sem]⟩
theorem app_41 : AppT Tryd.prog 41 96 3 40 lnk := ⟨Tryd.underlying41, ⟨.agg (lnk lnk0), by kernel_rfl, (by first | rfl | (simp only [Value.cells, go_sem]))⟩, by decide, fun a => by simp only [go_sem], fun a => by simp only [go_sem]⟩
theorem app_42 : AppT Tryd.prog 42 3 1 8 intv := ⟨Tryd.underlying42, ⟨.int .i64 0, by kernel_rfl, (by first | rfl | (simp only [Value.cells, go_sem]))⟩, by decide, fun a => by simp only [go_sem], fun a => by simp only [go_sem]⟩
theorem app_47 : AppT Tryd.prog 47 57 3 40 uop := ⟨Tryd.underlying47, ⟨.agg (uop uop0), by kernel_rfl, (by first | rfl | (simp only [Value.cells, go_sem]))⟩, by decide, fun a => by simp only [go_sem], fun a => by simp only [go_sem]⟩
theorem app_50 : AppT Tryd.prog 50 22 1 24 slv := ⟨Tryd.underlying50, ⟨.slice none 0 0, by kernel_rfl, (by first | rfl | (simp only [Value.cells, go_sem]))⟩, by decide, fun a => by simp only [go_sem], fun a => by simp only [go_sem]⟩
theorem bst_22 : BsT Tryd.prog 22 33 4 := ⟨Tryd.underlying22, .agg (chg chg0), by kernel_rfl, (by first | rfl | (simp only [Value.cells, go_sem])), by decide, by decide⟩
theorem bst_41 : BsT Tryd.prog 41 96 3 := ⟨Tryd.underlying41, .agg (lnk lnk0), by kernel_rfl, (by first | rfl | (simp only [Value.cells, go_sem])), by decide, by decide⟩
theorem bst_42 : BsT Tryd.prog 42 3 1 := ⟨Tryd.underlying42, .int .i64 0, by kernel_rfl, (by first | rfl | (simp only [Value.cells, go_sem])), by decide, by decide⟩
theorem bst_50 : BsT Tryd.prog 50 22 1 := ⟨Tryd.underlying50, .slice none 0 0, by kernel_rfl, (by first | rfl | (simp only [Value.cells, go_sem])), by decide, by decide⟩
theorem bld_0 (x2_0 : Int) : BuildT Tryd.prog 31 #[(2, .int .i64 x2_0)] (.agg (idv ⟨0, 0, x2_0⟩)) := fun w => by kernel_rfl
theorem bld_1 (x0_0 : Int) : BuildT Tryd.prog 33 #[(0, .int .i64 x0_0)] (.agg (chg ⟨x0_0, id0⟩)) := fun w => by kernel_rfl
theorem bld_2 (x0_0 : Int) (x1_0 : IdD) : BuildT Tryd.prog 33 #[(0, .int .i64 x0_0), (1, .agg (idv x1_0))] (.agg (chg ⟨x0_0, x1_0⟩)) := fun w => by kernel_rfl
theorem bld_3  : BuildT Tryd.prog 44 #[] (.agg (nov ⟨0, none, 0, 0, none, 0, 0⟩)) := fun w => by kernel_rfl
theorem bld_4 (x0_0 : Int) (x1_0_1 : Option Addr) (x1_0_2 x1_0_3 : Nat) (x2_0_1 : Option Addr) (x2_0_2 x2_0_3 : Nat) : BuildT Tryd.prog 44 #[(0, .int .i64 x0_0), (1, .slice x1_0_1 x1_0_2 x1_0_3), (2, .slice x2_0_1 x2_0_2 x2_0_3)] (.agg (nov ⟨x0_0, x1_0_1, x1_0_2, x1_0_3, x2_0_1, x2_0_2, x2_0_3⟩)) := fun w => by kernel_rfl
theorem bld_5 (x0_0 : Int) (x2_0_1 : Option Addr) (x2_0_2 x2_0_3 : Nat) : BuildT Tryd.prog 44 #[(0, .int .i64 x0_0), (2, .slice x2_0_1 x2_0_2 x2_0_3)] (.agg (nov ⟨x0_0, none, 0, 0, x2_0_1, x2_0_2, x2_0_3⟩)) := fun w => by kernel_rfl
theorem bld_6  : BuildT Tryd.prog 52 #[] (.agg #[.slice none 0 0, .slice none 0 0]) := fun w => by kernel_rfl
theorem bld_7 (x0_0 : Option Addr) (x1_0 : Option Addr) : BuildT Tryd.prog 54 #[(0, .pointer x0_0), (1, .pointer x1_0)] (.agg (prv ⟨x0_0, x1_0⟩)) := fun w => by kernel_rfl
theorem bld_8 (x0_0 : Int) (x1_0 : Int) (x2_0 : Int) (x3_0 : Int) : BuildT Tryd.prog 68 #[(0, .int .i64 x0_0), (1, .int .i64 x1_0), (2, .int .i64 x2_0), (3, .int .i64 x3_0)] (.agg #[.int .i64 x0_0, .int .i64 x1_0, .int .i64 x2_0, .int .i64 x3_0]) := fun w => by kernel_rfl
theorem bld_9 (x1_0 : Int) (x2_0 : Int) (x3_0 : Int) : BuildT Tryd.prog 68 #[(1, .int .i64 x1_0), (2, .int .i64 x2_0), (3, .int .i64 x3_0)] (.agg #[.int .i64 0, .int .i64 x1_0, .int .i64 x2_0, .int .i64 x3_0]) := fun w => by kernel_rfl
theorem bld_10  : BuildT Tryd.prog 70 #[] (.agg #[.slice none 0 0, .slice none 0 0]) := fun w => by kernel_rfl
theorem bld_11 (x0_0_1 : Option Addr) (x0_0_2 x0_0_3 : Nat) (x1_0_1 : Option Addr) (x1_0_2 x1_0_3 : Nat) : BuildT Tryd.prog 70 #[(0, .slice x0_0_1 x0_0_2 x0_0_3), (1, .slice x1_0_1 x1_0_2 x1_0_3)] (.agg #[.slice x0_0_1 x0_0_2 x0_0_3, .slice x1_0_1 x1_0_2 x1_0_3]) := fun w => by kernel_rfl
theorem bld_12 (x0_0 : Int) (x0_1 : Int) (x0_2 : Int) (x0_3 : Int) (x1_0 : Int) (x1_1 : Int) (x1_2 : Int) (x1_3 : Int) : BuildT Tryd.prog 91 #[(0, .agg #[.int .i64 x0_0, .int .i64 x0_1, .int .i64 x0_2, .int .i64 x0_3]), (1, .agg #[.int .i64 x1_0, .int .i64 x1_1, .int .i64 x1_2, .int .i64 x1_3])] (.agg #[.int .i64 x0_0, .int .i64 x0_1, .int .i64 x0_2, .int .i64 x0_3, .int .i64 x1_0, .int .i64 x1_1, .int .i64 x1_2, .int .i64 x1_3]) := fun w => by kernel_rfl
theorem bld_13 (x0_0 : ByteArray) (x1_0 : ByteArray) (x2_0 : Int) : BuildT Tryd.prog 96 #[(0, .string x0_0), (1, .string x1_0), (2, .int .i64 x2_0)] (.agg (lnk ⟨x0_0, x1_0, x2_0⟩)) := fun w => by kernel_rfl
theorem bld_14 (x0_0 : ByteArray) (x1_0 : ByteArray) (x2_0 : Int) (x3_0t : TypeId) (x3_0p : Option Addr) : BuildT Tryd.prog 100 #[(0, .string x0_0), (1, .string x1_0), (2, .int .i64 x2_0), (3, (.iface x3_0t (.pointer x3_0p)))] (.agg #[.string x0_0, .string x1_0, .int .i64 x2_0, (.iface x3_0t (.pointer x3_0p))]) := fun w => by kernel_rfl
@[go_sem] theorem enter_3 : entB Tryd.prog 3 = true := by kernel_rfl
@[go_sem] theorem enter_4 : entB Tryd.prog 4 = true := by kernel_rfl
@[go_sem] theorem enter_5 : entB Tryd.prog 5 = true := by kernel_rfl
@[go_sem] theorem enter_6 : entB Tryd.prog 6 = true := by kernel_rfl
@[go_sem] theorem enter_7 : entB Tryd.prog 7 = true := by kernel_rfl
@[go_sem] theorem enter_8 : entB Tryd.prog 8 = true := by kernel_rfl
@[go_sem] theorem enter_9 : entB Tryd.prog 9 = true := by kernel_rfl
@[go_sem] theorem enter_10 : entB Tryd.prog 10 = true := by kernel_rfl
@[go_sem] theorem enter_11 : entB Tryd.prog 11 = true := by kernel_rfl
@[go_sem] theorem enter_12 : entB Tryd.prog 12 = true := by kernel_rfl
@[go_sem] theorem enter_13 : entB Tryd.prog 13 = true := by kernel_rfl
@[go_sem] theorem enter_14 : entB Tryd.prog 14 = true := by kernel_rfl
@[go_sem] theorem enter_15 : entB Tryd.prog 15 = true := by kernel_rfl
@[go_sem] theorem enter_16 : entB Tryd.prog 16 = true := by kernel_rfl
@[go_sem] theorem enter_17 : entB Tryd.prog 17 = true := by kernel_rfl
@[go_sem] theorem enter_18 : entB Tryd.prog 18 = true := by kernel_rfl
@[go_sem] theorem enter_19 : entB Tryd.prog 19 = true := by kernel_rfl
@[go_sem] theorem enter_20 : entB Tryd.prog 20 = true := by kernel_rfl
@[go_sem] theorem enter_21 : entB Tryd.prog 21 = true := by kernel_rfl
@[go_sem] theorem enter_22 : entB Tryd.prog 22 = true := by kernel_rfl
@[go_sem] theorem enter_23 : entB Tryd.prog 23 = true := by kernel_rfl
@[go_sem] theorem enter_24 : entB Tryd.prog 24 = true := by kernel_rfl
@[go_sem] theorem enter_25 : entB Tryd.prog 25 = true := by kernel_rfl
@[go_sem] theorem enter_26 : entB Tryd.prog 26 = true := by kernel_rfl
@[go_sem] theorem enter_27 : entB Tryd.prog 27 = true := by kernel_rfl
@[go_sem] theorem enter_28 : entB Tryd.prog 28 = true := by kernel_rfl
@[go_sem] theorem enter_29 : entB Tryd.prog 29 = true := by kernel_rfl
@[go_sem] theorem enter_30 : entB Tryd.prog 30 = true := by kernel_rfl
@[go_sem] theorem enter_31 : entB Tryd.prog 31 = true := by kernel_rfl
@[go_sem] theorem enter_32 : entB Tryd.prog 32 = true := by kernel_rfl
@[go_sem] theorem enter_33 : entB Tryd.prog 33 = true := by kernel_rfl
@[go_sem] theorem enter_34 : entB Tryd.prog 34 = true := by kernel_rfl
@[go_sem] theorem enter_35 : entB Tryd.prog 35 = true := by kernel_rfl
@[go_sem] theorem enter_36 : entB Tryd.prog 36 = true := by kernel_rfl
@[go_sem] theorem enter_37 : entB Tryd.prog 37 = true := by kernel_rfl
@[go_sem] theorem enter_38 : entB Tryd.prog 38 = true := by kernel_rfl
@[go_sem] theorem enter_39 : entB Tryd.prog 39 = true := by kernel_rfl
@[go_sem] theorem enter_40 : entB Tryd.prog 40 = true := by kernel_rfl
@[go_sem] theorem enter_41 : entB Tryd.prog 41 = true := by kernel_rfl
@[go_sem] theorem enter_42 : entB Tryd.prog 42 = true := by kernel_rfl
@[go_sem] theorem enter_43 : entB Tryd.prog 43 = true := by kernel_rfl
@[go_sem] theorem enter_44 : entB Tryd.prog 44 = true := by kernel_rfl
@[go_sem] theorem enter_45 : entB Tryd.prog 45 = true := by kernel_rfl
@[go_sem] theorem enter_46 : entB Tryd.prog 46 = true := by kernel_rfl
@[go_sem] theorem enter_47 : entB Tryd.prog 47 = true := by kernel_rfl
@[go_sem] theorem enter_48 : entB Tryd.prog 48 = true := by kernel_rfl
@[go_sem] theorem enter_49 : entB Tryd.prog 49 = true := by kernel_rfl
@[go_sem] theorem enter_50 : entB Tryd.prog 50 = true := by kernel_rfl
@[go_sem] theorem enter_51 : entB Tryd.prog 51 = true := by kernel_rfl
@[go_sem] theorem enter_52 : entB Tryd.prog 52 = true := by kernel_rfl
@[go_sem] theorem enter_53 : entB Tryd.prog 53 = true := by kernel_rfl
@[go_sem] theorem enter_54 : entB Tryd.prog 54 = true := by kernel_rfl
@[go_sem] theorem enter_55 : entB Tryd.prog 55 = true := by kernel_rfl
@[go_sem] theorem enter_56 : entB Tryd.prog 56 = true := by kernel_rfl
@[go_sem] theorem enter_57 : entB Tryd.prog 57 = true := by kernel_rfl
@[go_sem] theorem enter_58 : entB Tryd.prog 58 = true := by kernel_rfl
@[go_sem] theorem enter_59 : entB Tryd.prog 59 = true := by kernel_rfl
@[go_sem] theorem enter_60 : entB Tryd.prog 60 = true := by kernel_rfl
@[go_sem] theorem enter_61 : entB Tryd.prog 61 = true := by kernel_rfl
@[go_sem] theorem enter_62 : entB Tryd.prog 62 = true := by kernel_rfl
@[go_sem] theorem enter_63 : entB Tryd.prog 63 = true := by kernel_rfl
@[go_sem] theorem enter_64 : entB Tryd.prog 64 = true := by kernel_rfl
@[go_sem] theorem enter_65 : entB Tryd.prog 65 = true := by kernel_rfl
@[go_sem] theorem enter_66 : entB Tryd.prog 66 = true := by kernel_rfl
@[go_sem] theorem enter_86 : entB Tryd.prog 86 = true := by kernel_rfl
end Go.Proofs.YtflibhphpnajeaaDoor
