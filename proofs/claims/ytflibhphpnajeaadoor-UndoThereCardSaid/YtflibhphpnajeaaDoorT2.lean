/- The types of this seat: records as data, and what the walk does with them. -/
import Derived.Test.YtflibhphpnajeaaDoorR2
import Derived.Test.YtflibhphpnajeaaDoorProg
import Derived.ChangeKeysEq
set_option linter.unusedSimpArgs false
set_option linter.unusedVariables false
namespace Go.Proofs.YtflibhphpnajeaaDoor
open Go Go.RowKit

/-- A list cut into pieces. -/
def catCut (cs : List Value) : Nat → List Nat → List Value
  | o, [] => cs.drop o
  | o, n :: ns => (cs.drop o).take n ++ catCut cs (o + n) ns
theorem catCut_eq (cs : List Value) : ∀ (ns : List Nat) (o : Nat), catCut cs o ns = cs.drop o
  | [], _ => rfl
  | n :: ns, o => by
    unfold catCut
    rw [catCut_eq cs ns, ← List.drop_drop]
    exact List.take_append_drop n (cs.drop o)

theorem opens_int : Opens Tryd.prog 3 1 (fun i : Int => #[.int .i64 i]) InI := opens_i64 Tryd.underlying3 (by kernel_rfl)
theorem opens_boolv : Opens Tryd.prog 4 1 (fun b : Bool => #[.bool b]) (fun _ => True) := opens_bool Tryd.underlying4 (by kernel_rfl)
theorem ba_iff {a b : ByteArray} : a.toList = b.toList ↔ a = b := ⟨fun h => by rw [ByteArray.toList_eq, ByteArray.toList_eq] at h; exact ByteArray.ext (Array.toList_inj.1 h), fun h => by rw [h]⟩
/-! ### barrow/api.ID -/
structure IdD where
  ep : Int
  rep : Int
  num : Int
def idv (a : IdD) : Array Value := #[.int .i64 a.ep, .int .i64 a.rep, .int .i64 a.num]
def id0 : IdD := ⟨0, 0, 0⟩
@[go_sem] theorem idv_size (a : IdD) : (idv a).size = 3 := by unfold idv; simp
@[go_sem] theorem idv_flat (a : IdD) : flat (idv a) = true := by simp [flat, idv, Value.oneCell']
@[go_sem] theorem idv_0 (a : IdD) : (idv a)[0]? = some (.int .i64 a.ep) := by unfold idv; simp
@[go_sem] theorem idv_e0 (a : IdD) (h : 0 < (idv a).size) : (idv a)[0] = .int .i64 a.ep := by unfold idv; simp
@[go_sem] theorem idv_1 (a : IdD) : (idv a)[1]? = some (.int .i64 a.rep) := by unfold idv; simp
@[go_sem] theorem idv_e1 (a : IdD) (h : 1 < (idv a).size) : (idv a)[1] = .int .i64 a.rep := by unfold idv; simp
@[go_sem] theorem idv_2 (a : IdD) : (idv a)[2]? = some (.int .i64 a.num) := by unfold idv; simp
@[go_sem] theorem idv_e2 (a : IdD) (h : 2 < (idv a).size) : (idv a)[2] = .int .i64 a.num := by unfold idv; simp
@[go_sem] theorem idv_s0 (a : IdD) (v : Int) : (idv a).setIfInBounds 0 (.int .i64 v) = idv { a with ep := v } := by unfold idv; simp
@[go_sem] theorem idv_s1 (a : IdD) (v : Int) : (idv a).setIfInBounds 1 (.int .i64 v) = idv { a with rep := v } := by unfold idv; simp
@[go_sem] theorem idv_s2 (a : IdD) (v : Int) : (idv a).setIfInBounds 2 (.int .i64 v) = idv { a with num := v } := by unfold idv; simp
@[go_sem ↓] theorem field_idv (x : Value) (f : Nat) : Instr.field 31 x f = fldS 31 x f := (fldS_eq 31 x f).symm
@[go_sem] theorem fld_idv0 (cs : Array Value) (w : World) : (fldS 31 (.agg cs) 0).run Tryd.prog w = fldOne Tryd.prog 31 0 0 cs w :=
  run_fldS Tryd.prog 31 0 _ _ _ Tryd.underlying31 rfl Tryd.underlying3 rfl cs w
@[go_sem] theorem fld_idv1 (cs : Array Value) (w : World) : (fldS 31 (.agg cs) 1).run Tryd.prog w = fldOne Tryd.prog 31 1 1 cs w :=
  run_fldS Tryd.prog 31 1 _ _ _ Tryd.underlying31 rfl Tryd.underlying3 rfl cs w
@[go_sem] theorem fld_idv2 (cs : Array Value) (w : World) : (fldS 31 (.agg cs) 2).run Tryd.prog w = fldOne Tryd.prog 31 2 2 cs w :=
  run_fldS Tryd.prog 31 2 _ _ _ Tryd.underlying31 rfl Tryd.underlying3 rfl cs w
def idvEq (a b : IdD) : Bool := a.ep == b.ep && (a.rep == b.rep && (a.num == b.num))
@[go_sem high] theorem neq_idv (a b : IdD) (w : World) : (binOp .neq 31 (.agg (idv a)) (.agg (idv b))).run Tryd.prog w = .ok (.bool (!idvEq a b)) w := by
  unfold idv idvEq
  go_simp
  (repeat' split) <;> simp_all
@[go_sem high] theorem eql_idv (a b : IdD) (w : World) : (binOp .eql 31 (.agg (idv a)) (.agg (idv b))).run Tryd.prog w = .ok (.bool (idvEq a b)) w := by
  unfold idv idvEq
  go_simp
  (repeat' split) <;> simp_all
theorem idvEq_iff {a b : IdD} : idvEq a b = true ↔ a = b := by
  obtain ⟨a0, a1, a2⟩ := a
  obtain ⟨b0, b1, b2⟩ := b
  simp [idvEq]
theorem idvEq_refl (a : IdD) : idvEq a a = true := idvEq_iff.2 rfl
structure IdDI (a : IdD) : Prop where
  ep : InI a.ep
  rep : InI a.rep
  num : InI a.num
set_option maxRecDepth 20000 in
theorem opens_idv : Opens Tryd.prog 31 3 idv IdDI :=
  ⟨by kernel_rfl, idv_size, fun enc w base sp held fuel cs x h => by
    obtain ⟨xs, m, rfl, rfl, hl, hxl, hx⟩ := DataW.trod_struct Tryd.underlying31 h
    rw [show Tryd.prog.cellsOf 31 = 3 by kernel_rfl] at hl
    have h0 := hx 0 _ rfl
    have h1 := hx 1 _ rfl
    have h2 := hx 2 _ rfl
    have hxl : xs.length = 3 := hxl
    rw [List.getElem?_eq_getElem (by omega)] at h0 h1 h2
    obtain ⟨v0, k0, r0⟩ := opens_int.cut h0
    obtain ⟨v1, k1, r1⟩ := opens_int.cut h1
    obtain ⟨v2, k2, r2⟩ := opens_int.cut h2
    refine ⟨⟨v0, v1, v2⟩, ?_, ⟨r0, r1, r2⟩⟩
    have e := catCut_eq cs [1, 1, 1] 0
    simp only [catCut, List.drop_zero, Nat.zero_add, Nat.reduceAdd] at e
    replace k0 : List.take 1 cs = _ := k0
    replace k1 : List.take 1 (List.drop 1 cs) = _ := k1
    replace k2 : List.take 1 (List.drop 2 cs) = _ := k2
    rw [k0, k1, k2, List.drop_of_length_le (by omega), List.append_nil] at e
    rw [← e]
    simp [idv]⟩
instance : Inhabited IdD := ⟨id0⟩

/-! ### barrow/api.Change -/
structure ChgD where
  kind : Int
  id : IdD
def chg (a : ChgD) : Array Value := #[.int .i64 a.kind, .int .i64 a.id.ep, .int .i64 a.id.rep, .int .i64 a.id.num]
def chg0 : ChgD := ⟨0, id0⟩
@[go_sem] theorem chg_size (a : ChgD) : (chg a).size = 4 := by unfold chg; simp
@[go_sem] theorem chg_flat (a : ChgD) : flat (chg a) = true := by simp [flat, chg, Value.oneCell']
@[go_sem] theorem chg_0 (a : ChgD) : (chg a)[0]? = some (.int .i64 a.kind) := by unfold chg; simp
@[go_sem] theorem chg_e0 (a : ChgD) (h : 0 < (chg a).size) : (chg a)[0] = .int .i64 a.kind := by unfold chg; simp
@[go_sem] theorem chg_1 (a : ChgD) : (chg a)[1]? = some (.int .i64 a.id.ep) := by unfold chg; simp
@[go_sem] theorem chg_e1 (a : ChgD) (h : 1 < (chg a).size) : (chg a)[1] = .int .i64 a.id.ep := by unfold chg; simp
@[go_sem] theorem chg_2 (a : ChgD) : (chg a)[2]? = some (.int .i64 a.id.rep) := by unfold chg; simp
@[go_sem] theorem chg_e2 (a : ChgD) (h : 2 < (chg a).size) : (chg a)[2] = .int .i64 a.id.rep := by unfold chg; simp
@[go_sem] theorem chg_3 (a : ChgD) : (chg a)[3]? = some (.int .i64 a.id.num) := by unfold chg; simp
@[go_sem] theorem chg_e3 (a : ChgD) (h : 3 < (chg a).size) : (chg a)[3] = .int .i64 a.id.num := by unfold chg; simp
@[go_sem] theorem chg_x1 (a : ChgD) : (chg a).extract 1 4 = idv a.id := by unfold chg idv; simp
@[go_sem] theorem chg_sp1 (a : ChgD) (b : IdD) : splice (chg a) 1 (idv b) = chg { a with id := b } := by simp [splice, chg, idv]
@[go_sem] theorem chg_s0 (a : ChgD) (v : Int) : (chg a).setIfInBounds 0 (.int .i64 v) = chg { a with kind := v } := by unfold chg; simp
@[go_sem] theorem chg_s1 (a : ChgD) (v : Int) : (chg a).setIfInBounds 1 (.int .i64 v) = chg { a with id := { a.id with ep := v } } := by unfold chg; simp
@[go_sem] theorem chg_s2 (a : ChgD) (v : Int) : (chg a).setIfInBounds 2 (.int .i64 v) = chg { a with id := { a.id with rep := v } } := by unfold chg; simp
@[go_sem] theorem chg_s3 (a : ChgD) (v : Int) : (chg a).setIfInBounds 3 (.int .i64 v) = chg { a with id := { a.id with num := v } } := by unfold chg; simp
@[go_sem ↓] theorem field_chg (x : Value) (f : Nat) : Instr.field 33 x f = fldS 33 x f := (fldS_eq 33 x f).symm
@[go_sem] theorem fld_chg0 (cs : Array Value) (w : World) : (fldS 33 (.agg cs) 0).run Tryd.prog w = fldOne Tryd.prog 33 0 0 cs w :=
  run_fldS Tryd.prog 33 0 _ _ _ Tryd.underlying33 rfl Tryd.underlying3 rfl cs w
@[go_sem] theorem fld_chg1 (a : ChgD) (w : World) : (fldS 33 (.agg (chg a)) 1).run Tryd.prog w = .ok (.agg (idv a.id)) w := by
  rw [run_fldSN Tryd.prog 33 1 3 _ _ _ Tryd.underlying33 rfl Tryd.underlying31 rfl (by kernel_rfl) (chg a) w]
  exact congrArg (fun x => Result.ok (Value.agg x) w) (chg_x1 a)
def chgEq (a b : ChgD) : Bool := a.kind == b.kind && (idvEq a.id b.id)
@[go_sem high] theorem neq_chg (a b : ChgD) (w : World) : (binOp .neq 33 (.agg (chg a)) (.agg (chg b))).run Tryd.prog w = .ok (.bool (!chgEq a b)) w := by
  unfold chg chgEq idvEq
  go_simp
  (repeat' split) <;> simp_all
@[go_sem high] theorem eql_chg (a b : ChgD) (w : World) : (binOp .eql 33 (.agg (chg a)) (.agg (chg b))).run Tryd.prog w = .ok (.bool (chgEq a b)) w := by
  unfold chg chgEq idvEq
  go_simp
  (repeat' split) <;> simp_all
theorem chgEq_iff {a b : ChgD} : chgEq a b = true ↔ a = b := by
  obtain ⟨a0, a1⟩ := a
  obtain ⟨b0, b1⟩ := b
  simp [chgEq, idvEq_iff]
theorem chgEq_refl (a : ChgD) : chgEq a a = true := chgEq_iff.2 rfl
structure ChgDI (a : ChgD) : Prop where
  kind : InI a.kind
  id : IdDI a.id
set_option maxRecDepth 20000 in
theorem opens_chg : Opens Tryd.prog 33 4 chg ChgDI :=
  ⟨by kernel_rfl, chg_size, fun enc w base sp held fuel cs x h => by
    obtain ⟨xs, m, rfl, rfl, hl, hxl, hx⟩ := DataW.trod_struct Tryd.underlying33 h
    rw [show Tryd.prog.cellsOf 33 = 4 by kernel_rfl] at hl
    have h0 := hx 0 _ rfl
    have h1 := hx 1 _ rfl
    have hxl : xs.length = 2 := hxl
    rw [List.getElem?_eq_getElem (by omega)] at h0 h1
    obtain ⟨v0, k0, r0⟩ := opens_int.cut h0
    obtain ⟨v1, k1, r1⟩ := opens_idv.cut h1
    refine ⟨⟨v0, v1⟩, ?_, ⟨r0, r1⟩⟩
    have e := catCut_eq cs [1, 3] 0
    simp only [catCut, List.drop_zero, Nat.zero_add, Nat.reduceAdd] at e
    replace k0 : List.take 1 cs = _ := k0
    replace k1 : List.take 3 (List.drop 1 cs) = _ := k1
    rw [k0, k1, List.drop_of_length_le (by omega), List.append_nil] at e
    rw [← e]
    simp [chg, idv]⟩
instance : Inhabited ChgD := ⟨chg0⟩

/-! ### barrow/barrowlaw14.Op -/
structure UopD where
  what : Int
  redo : Bool
  lp : Option Addr
  ln : Nat
  lc : Nat
def uop (a : UopD) : Array Value := #[.int .i64 a.what, .bool a.redo, .slice a.lp a.ln a.lc]
def uop0 : UopD := ⟨0, false, none, 0, 0⟩
@[go_sem] theorem uop_size (a : UopD) : (uop a).size = 3 := by unfold uop; simp
@[go_sem] theorem uop_flat (a : UopD) : flat (uop a) = true := by simp [flat, uop, Value.oneCell']
@[go_sem] theorem uop_0 (a : UopD) : (uop a)[0]? = some (.int .i64 a.what) := by unfold uop; simp
@[go_sem] theorem uop_e0 (a : UopD) (h : 0 < (uop a).size) : (uop a)[0] = .int .i64 a.what := by unfold uop; simp
@[go_sem] theorem uop_1 (a : UopD) : (uop a)[1]? = some (.bool a.redo) := by unfold uop; simp
@[go_sem] theorem uop_e1 (a : UopD) (h : 1 < (uop a).size) : (uop a)[1] = .bool a.redo := by unfold uop; simp
@[go_sem] theorem uop_2 (a : UopD) : (uop a)[2]? = some (.slice a.lp a.ln a.lc) := by unfold uop; simp
@[go_sem] theorem uop_e2 (a : UopD) (h : 2 < (uop a).size) : (uop a)[2] = .slice a.lp a.ln a.lc := by unfold uop; simp
@[go_sem] theorem uop_s0 (a : UopD) (v : Int) : (uop a).setIfInBounds 0 (.int .i64 v) = uop { a with what := v } := by unfold uop; simp
@[go_sem] theorem uop_s1 (a : UopD) (v : Bool) : (uop a).setIfInBounds 1 (.bool v) = uop { a with redo := v } := by unfold uop; simp
@[go_sem] theorem uop_s2 (a : UopD) (p : Option Addr) (n c : Nat) : (uop a).setIfInBounds 2 (.slice p n c) = uop { a with lp := p, ln := n, lc := c } := by unfold uop; simp
@[go_sem ↓] theorem field_uop (x : Value) (f : Nat) : Instr.field 57 x f = fldS 57 x f := (fldS_eq 57 x f).symm
@[go_sem] theorem fld_uop0 (cs : Array Value) (w : World) : (fldS 57 (.agg cs) 0).run Tryd.prog w = fldOne Tryd.prog 57 0 0 cs w :=
  run_fldS Tryd.prog 57 0 _ _ _ Tryd.underlying57 rfl Tryd.underlying3 rfl cs w
@[go_sem] theorem fld_uop1 (cs : Array Value) (w : World) : (fldS 57 (.agg cs) 1).run Tryd.prog w = fldOne Tryd.prog 57 1 1 cs w :=
  run_fldS Tryd.prog 57 1 _ _ _ Tryd.underlying57 rfl Tryd.underlying4 rfl cs w
@[go_sem] theorem fld_uop2 (cs : Array Value) (w : World) : (fldS 57 (.agg cs) 2).run Tryd.prog w = fldOne Tryd.prog 57 2 2 cs w :=
  run_fldS Tryd.prog 57 2 _ _ _ Tryd.underlying57 rfl Tryd.underlying22 rfl cs w
instance : Inhabited UopD := ⟨uop0⟩

/-! ### barrow/barrowlaw14.pair -/
structure PairUD where
  p : Option Addr
  r : Option Addr
def prv (a : PairUD) : Array Value := #[.pointer a.p, .pointer a.r]
def prv0 : PairUD := ⟨none, none⟩
@[go_sem] theorem prv_size (a : PairUD) : (prv a).size = 2 := by unfold prv; simp
@[go_sem] theorem prv_flat (a : PairUD) : flat (prv a) = true := by simp [flat, prv, Value.oneCell']
@[go_sem] theorem prv_0 (a : PairUD) : (prv a)[0]? = some (.pointer a.p) := by unfold prv; simp
@[go_sem] theorem prv_e0 (a : PairUD) (h : 0 < (prv a).size) : (prv a)[0] = .pointer a.p := by unfold prv; simp
@[go_sem] theorem prv_1 (a : PairUD) : (prv a)[1]? = some (.pointer a.r) := by unfold prv; simp
@[go_sem] theorem prv_e1 (a : PairUD) (h : 1 < (prv a).size) : (prv a)[1] = .pointer a.r := by unfold prv; simp
@[go_sem] theorem prv_s0 (a : PairUD) (v : Option Addr) : (prv a).setIfInBounds 0 (.pointer v) = prv { a with p := v } := by unfold prv; simp
@[go_sem] theorem prv_s1 (a : PairUD) (v : Option Addr) : (prv a).setIfInBounds 1 (.pointer v) = prv { a with r := v } := by unfold prv; simp
@[go_sem ↓] theorem field_prv (x : Value) (f : Nat) : Instr.field 54 x f = fldS 54 x f := (fldS_eq 54 x f).symm
@[go_sem] theorem fld_prv0 (cs : Array Value) (w : World) : (fldS 54 (.agg cs) 0).run Tryd.prog w = fldOne Tryd.prog 54 0 0 cs w :=
  run_fldS Tryd.prog 54 0 _ _ _ Tryd.underlying54 rfl Tryd.underlying28 rfl cs w
@[go_sem] theorem fld_prv1 (cs : Array Value) (w : World) : (fldS 54 (.agg cs) 1).run Tryd.prog w = fldOne Tryd.prog 54 1 1 cs w :=
  run_fldS Tryd.prog 54 1 _ _ _ Tryd.underlying54 rfl Tryd.underlying49 rfl cs w
instance : Inhabited PairUD := ⟨prv0⟩

/-! ### barrow/api.Link -/
structure LinkD where
  layer : ByteArray
  call : ByteArray
  pos : Int
def lnk (a : LinkD) : Array Value := #[.string a.layer, .string a.call, .int .i64 a.pos]
def lnk0 : LinkD := ⟨.empty, .empty, 0⟩
@[go_sem] theorem lnk_size (a : LinkD) : (lnk a).size = 3 := by unfold lnk; simp
@[go_sem] theorem lnk_flat (a : LinkD) : flat (lnk a) = true := by simp [flat, lnk, Value.oneCell']
@[go_sem] theorem lnk_0 (a : LinkD) : (lnk a)[0]? = some (.string a.layer) := by unfold lnk; simp
@[go_sem] theorem lnk_e0 (a : LinkD) (h : 0 < (lnk a).size) : (lnk a)[0] = .string a.layer := by unfold lnk; simp
@[go_sem] theorem lnk_1 (a : LinkD) : (lnk a)[1]? = some (.string a.call) := by unfold lnk; simp
@[go_sem] theorem lnk_e1 (a : LinkD) (h : 1 < (lnk a).size) : (lnk a)[1] = .string a.call := by unfold lnk; simp
@[go_sem] theorem lnk_2 (a : LinkD) : (lnk a)[2]? = some (.int .i64 a.pos) := by unfold lnk; simp
@[go_sem] theorem lnk_e2 (a : LinkD) (h : 2 < (lnk a).size) : (lnk a)[2] = .int .i64 a.pos := by unfold lnk; simp
@[go_sem] theorem lnk_s0 (a : LinkD) (v : ByteArray) : (lnk a).setIfInBounds 0 (.string v) = lnk { a with layer := v } := by unfold lnk; simp
@[go_sem] theorem lnk_s1 (a : LinkD) (v : ByteArray) : (lnk a).setIfInBounds 1 (.string v) = lnk { a with call := v } := by unfold lnk; simp
@[go_sem] theorem lnk_s2 (a : LinkD) (v : Int) : (lnk a).setIfInBounds 2 (.int .i64 v) = lnk { a with pos := v } := by unfold lnk; simp
@[go_sem ↓] theorem field_lnk (x : Value) (f : Nat) : Instr.field 96 x f = fldS 96 x f := (fldS_eq 96 x f).symm
@[go_sem] theorem fld_lnk0 (cs : Array Value) (w : World) : (fldS 96 (.agg cs) 0).run Tryd.prog w = fldOne Tryd.prog 96 0 0 cs w :=
  run_fldS Tryd.prog 96 0 _ _ _ Tryd.underlying96 rfl Tryd.underlying9 rfl cs w
@[go_sem] theorem fld_lnk1 (cs : Array Value) (w : World) : (fldS 96 (.agg cs) 1).run Tryd.prog w = fldOne Tryd.prog 96 1 1 cs w :=
  run_fldS Tryd.prog 96 1 _ _ _ Tryd.underlying96 rfl Tryd.underlying9 rfl cs w
@[go_sem] theorem fld_lnk2 (cs : Array Value) (w : World) : (fldS 96 (.agg cs) 2).run Tryd.prog w = fldOne Tryd.prog 96 2 2 cs w :=
  run_fldS Tryd.prog 96 2 _ _ _ Tryd.underlying96 rfl Tryd.underlying3 rfl cs w
def lnkEq (a b : LinkD) : Bool := (a.layer.toList == b.layer.toList) && ((a.call.toList == b.call.toList) && (a.pos == b.pos))
@[go_sem high] theorem neq_lnk (a b : LinkD) (w : World) : (binOp .neq 96 (.agg (lnk a)) (.agg (lnk b))).run Tryd.prog w = .ok (.bool (!lnkEq a b)) w := by
  unfold lnk lnkEq
  go_simp
  (repeat' split) <;> simp_all
@[go_sem high] theorem eql_lnk (a b : LinkD) (w : World) : (binOp .eql 96 (.agg (lnk a)) (.agg (lnk b))).run Tryd.prog w = .ok (.bool (lnkEq a b)) w := by
  unfold lnk lnkEq
  go_simp
  (repeat' split) <;> simp_all
theorem lnkEq_iff {a b : LinkD} : lnkEq a b = true ↔ a = b := by
  obtain ⟨a0, a1, a2⟩ := a
  obtain ⟨b0, b1, b2⟩ := b
  simp [lnkEq, ba_iff]
theorem lnkEq_refl (a : LinkD) : lnkEq a a = true := lnkEq_iff.2 rfl
instance : Inhabited LinkD := ⟨lnk0⟩

/-! ### barrow/barrowref01.No -/
structure NoD where
  code : Int
  chainp : Option Addr
  chainn : Nat
  chainc : Nat
  codesp : Option Addr
  codesn : Nat
  codesc : Nat
def nov (a : NoD) : Array Value := #[.int .i64 a.code, .slice a.chainp a.chainn a.chainc, .slice a.codesp a.codesn a.codesc]
def nov0 : NoD := ⟨0, none, 0, 0, none, 0, 0⟩
@[go_sem] theorem nov_size (a : NoD) : (nov a).size = 3 := by unfold nov; simp
@[go_sem] theorem nov_flat (a : NoD) : flat (nov a) = true := by simp [flat, nov, Value.oneCell']
@[go_sem] theorem nov_0 (a : NoD) : (nov a)[0]? = some (.int .i64 a.code) := by unfold nov; simp
@[go_sem] theorem nov_e0 (a : NoD) (h : 0 < (nov a).size) : (nov a)[0] = .int .i64 a.code := by unfold nov; simp
@[go_sem] theorem nov_1 (a : NoD) : (nov a)[1]? = some (.slice a.chainp a.chainn a.chainc) := by unfold nov; simp
@[go_sem] theorem nov_e1 (a : NoD) (h : 1 < (nov a).size) : (nov a)[1] = .slice a.chainp a.chainn a.chainc := by unfold nov; simp
@[go_sem] theorem nov_2 (a : NoD) : (nov a)[2]? = some (.slice a.codesp a.codesn a.codesc) := by unfold nov; simp
@[go_sem] theorem nov_e2 (a : NoD) (h : 2 < (nov a).size) : (nov a)[2] = .slice a.codesp a.codesn a.codesc := by unfold nov; simp
@[go_sem] theorem nov_s0 (a : NoD) (v : Int) : (nov a).setIfInBounds 0 (.int .i64 v) = nov { a with code := v } := by unfold nov; simp
@[go_sem] theorem nov_s1 (a : NoD) (p : Option Addr) (n c : Nat) : (nov a).setIfInBounds 1 (.slice p n c) = nov { a with chainp := p, chainn := n, chainc := c } := by unfold nov; simp
@[go_sem] theorem nov_s2 (a : NoD) (p : Option Addr) (n c : Nat) : (nov a).setIfInBounds 2 (.slice p n c) = nov { a with codesp := p, codesn := n, codesc := c } := by unfold nov; simp
@[go_sem ↓] theorem field_nov (x : Value) (f : Nat) : Instr.field 44 x f = fldS 44 x f := (fldS_eq 44 x f).symm
@[go_sem] theorem fld_nov0 (cs : Array Value) (w : World) : (fldS 44 (.agg cs) 0).run Tryd.prog w = fldOne Tryd.prog 44 0 0 cs w :=
  run_fldS Tryd.prog 44 0 _ _ _ Tryd.underlying44 rfl Tryd.underlying3 rfl cs w
@[go_sem] theorem fld_nov1 (cs : Array Value) (w : World) : (fldS 44 (.agg cs) 1).run Tryd.prog w = fldOne Tryd.prog 44 1 1 cs w :=
  run_fldS Tryd.prog 44 1 _ _ _ Tryd.underlying44 rfl Tryd.underlying41 rfl cs w
@[go_sem] theorem fld_nov2 (cs : Array Value) (w : World) : (fldS 44 (.agg cs) 2).run Tryd.prog w = fldOne Tryd.prog 44 2 2 cs w :=
  run_fldS Tryd.prog 44 2 _ _ _ Tryd.underlying44 rfl Tryd.underlying42 rfl cs w
instance : Inhabited NoD := ⟨nov0⟩

end Go.Proofs.YtflibhphpnajeaaDoor
