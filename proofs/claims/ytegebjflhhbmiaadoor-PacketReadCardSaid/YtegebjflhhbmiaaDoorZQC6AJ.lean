/- The types of this seat: records as data, and what the walk does with them. -/
import Derived.Test.YtegebjflhhbmiaaDoorZQC6AH
import Derived.Test.YtegebjflhhbmiaaDoorZQC6AI
import Derived.Test.YtegebjflhhbmiaaDoorProg
import Derived.ChangeKeysEq
import Derived.Lib.AppendStr
set_option linter.unusedSimpArgs false
set_option linter.unusedVariables false
namespace Go.Proofs.YtegebjflhhbmiaaDoor
open Go Go.RowKit

/-! ### a clock -/
def clk (c : Nat → Int) : Array Value := #[.int .i64 (c 0), .int .i64 (c 1), .int .i64 (c 2), .int .i64 (c 3), .int .i64 (c 4), .int .i64 (c 5), .int .i64 (c 6), .int .i64 (c 7)]
def setAt (c : Nat → Int) (i : Nat) (v : Int) : Nat → Int := fun j => if j = i then v else c j
@[go_sem] theorem clk_size (c : Nat → Int) : (clk c).size = 8 := by unfold clk; simp
@[go_sem] theorem clk_flat (c : Nat → Int) : flat (clk c) = true := by simp [flat, clk, Value.oneCell']
theorem clk_get (c : Nat → Int) (i : Nat) (h : i < 8) : (clk c)[i]? = some (.int .i64 (c i)) := by
  unfold clk
  match i, h with
  | 0, _ | 1, _ | 2, _ | 3, _ | 4, _ | 5, _ | 6, _ | 7, _ => rfl
@[go_sem] theorem clk_elem? (c : Nat → Int) (i : Nat) : (clk c)[i]? = if i < 8 then some (.int .i64 (c i)) else none := by
  by_cases h : i < 8
  · rw [if_pos h]; exact clk_get c i h
  · rw [if_neg h]; exact Array.getElem?_eq_none (by rw [clk_size]; omega)
@[go_sem] theorem clk_elem (c : Nat → Int) (i : Nat) (h : i < (clk c).size) : (clk c)[i] = .int .i64 (c i) := by
  have := clk_get c i (by simpa [clk_size] using h)
  rw [Array.getElem?_eq_getElem h] at this
  exact Option.some.inj this
theorem clk_ext {cs : Array Value} {c : Nat → Int} (hs : cs.size = 8) (h : ∀ i, i < 8 → cs[i]? = some (.int .i64 (c i))) : cs = clk c := by
  apply Array.ext_getElem?
  intro i
  by_cases hi : i < 8
  · rw [h i hi, clk_get c i hi]
  · rw [Array.getElem?_eq_none (by omega), Array.getElem?_eq_none (by rw [clk_size]; omega)]
@[go_sem] theorem clk_set (c : Nat → Int) (i : Nat) (v : Int) : (clk c).setIfInBounds i (.int .i64 v) = clk (setAt c i v) := by
  refine clk_ext (by simp [clk_size]) fun j hj => ?_
  by_cases h : i = j
  · subst h
    rw [Array.getElem?_setIfInBounds_self_of_lt (by rw [clk_size]; exact hj)]
    simp [setAt]
  · rw [Array.getElem?_setIfInBounds_ne h, clk_get c j hj]
    simp [setAt, Ne.symm h]
def clkEq (c d : Nat → Int) : Bool := c 0 == d 0 && (c 1 == d 1 && (c 2 == d 2 && (c 3 == d 3 && (c 4 == d 4 && (c 5 == d 5 && (c 6 == d 6 && (c 7 == d 7)))))))
theorem clkEq_refl (c : Nat → Int) : clkEq c c = true := by simp [clkEq]
def clk0 : Nat → Int := fun _ => 0
@[go_sem ↓] theorem index_clk (x i : Value) : Instr.index 23 x i = idxS 23 x i := (idxS_eq 23 x i).symm
@[go_sem] theorem idx_clk (cs : Array Value) (k : IntKind) (i : Int) (w : World) : (idxS 23 (.agg cs) (.int k i)).run Tryd.prog w = idxArr Tryd.prog 23 8 cs k i w :=
  run_idxS Tryd.prog 23 3 8 _ Tryd.underlying23 Tryd.underlying3 rfl (by kernel_rfl) cs k i w

theorem equalIn_clk (d : Nat) (c e : Nat → Int) (w : World) : (Op.equalIn (d + 2) 23 (.agg (clk c)) (.agg (clk e))).run Tryd.prog w = .ok (clkEq c e) w := by
  have hi : ∃ i, Tryd.prog.info? 3 = some i ∧ Tryd.prog.cellsOf 3 = 1 := by
    obtain ⟨i, h1, h2⟩ := Option.map_eq_some_iff.1 (show (Tryd.prog.info? 3).map (·.size) = some 1 by kernel_rfl)
    exact ⟨i, h1, by simp [Program.cellsOf, h1, h2]⟩
  obtain ⟨i, hi, hc⟩ := hi
  rw [run_equalIn_array w (d + 1) (clk c) (clk e) Tryd.underlying23 hi, hc]
  have hint : ∀ a b : Int, ∀ w : World, (Op.equalIn (d + 1) 3 (.int .i64 a) (.int .i64 b)).run Tryd.prog w = .ok (a == b) w := fun a b w => run_equalIn_int w d 3 .i64 .i64 a b Tryd.underlying3
  have hpart : ∀ (f : Nat → Int) (j : Nat) (w : World), j < 8 → (part 3 (clk f) j).run Tryd.prog w = .ok (.int .i64 (f j)) w := fun f j w hj => by
    simp [part, run_isAgg (P := Tryd.prog) Tryd.underlying3, isAggD, clk_get f j hj]
  simp only [List.range_eq_range', List.range', Op.eqItems, Nat.mul_one, Sem.run_bind]
  simp [hpart, hint, clkEq]
  by_cases h0 : c 0 = e 0 <;> by_cases h1 : c 1 = e 1 <;> by_cases h2 : c 2 = e 2 <;> by_cases h3 : c 3 = e 3 <;> simp [*] <;>
    by_cases h4 : c 4 = e 4 <;> by_cases h5 : c 5 = e 5 <;> by_cases h6 : c 6 = e 6 <;> by_cases h7 : c 7 = e 7 <;> simp [*]

@[go_sem] theorem equalIn_clk_lit (c e : Nat → Int) (w : World) : (Op.equalIn 10000 23 (.agg #[.int .i64 (c 0), .int .i64 (c 1), .int .i64 (c 2), .int .i64 (c 3), .int .i64 (c 4), .int .i64 (c 5), .int .i64 (c 6), .int .i64 (c 7)]) (.agg #[.int .i64 (e 0), .int .i64 (e 1), .int .i64 (e 2), .int .i64 (e 3), .int .i64 (e 4), .int .i64 (e 5), .int .i64 (e 6), .int .i64 (e 7)])).run Tryd.prog w = .ok (clkEq c e) w := equalIn_clk 9998 c e w
@[go_sem high] theorem eql_clk (c e : Nat → Int) (w : World) : (binOp .eql 23 (.agg (clk c)) (.agg (clk e))).run Tryd.prog w = .ok (.bool (clkEq c e)) w := by
  simp only [binOp]
  simp [Op.equal, Op.maxDepth, equalIn_clk 9998 c e]
@[go_sem high] theorem neq_clk (c e : Nat → Int) (w : World) : (binOp .neq 23 (.agg (clk c)) (.agg (clk e))).run Tryd.prog w = .ok (.bool (!clkEq c e)) w := by
  simp only [binOp]
  simp [Op.equal, Op.maxDepth, equalIn_clk 9998 c e]

def ClkI (c : Nat → Int) : Prop := ∀ i, i < 8 → InI (c i)
@[go_sem ↓] theorem index_ar (x i : Value) : Instr.index 22 x i = idxS 22 x i := (idxS_eq 22 x i).symm
@[go_sem] theorem idx_ar (cs : Array Value) (k : IntKind) (i : Int) (w : World) : (idxS 22 (.agg cs) (.int k i)).run Tryd.prog w = idxArr Tryd.prog 22 8 cs k i w :=
  run_idxS Tryd.prog 22 3 8 _ Tryd.underlying22 Tryd.underlying3 rfl (by kernel_rfl) cs k i w

theorem equalIn_ar (d : Nat) (c e : Nat → Int) (w : World) : (Op.equalIn (d + 2) 22 (.agg (clk c)) (.agg (clk e))).run Tryd.prog w = .ok (clkEq c e) w := by
  have hi : ∃ i, Tryd.prog.info? 3 = some i ∧ Tryd.prog.cellsOf 3 = 1 := by
    obtain ⟨i, h1, h2⟩ := Option.map_eq_some_iff.1 (show (Tryd.prog.info? 3).map (·.size) = some 1 by kernel_rfl)
    exact ⟨i, h1, by simp [Program.cellsOf, h1, h2]⟩
  obtain ⟨i, hi, hc⟩ := hi
  rw [run_equalIn_array w (d + 1) (clk c) (clk e) Tryd.underlying22 hi, hc]
  have hint : ∀ a b : Int, ∀ w : World, (Op.equalIn (d + 1) 3 (.int .i64 a) (.int .i64 b)).run Tryd.prog w = .ok (a == b) w := fun a b w => run_equalIn_int w d 3 .i64 .i64 a b Tryd.underlying3
  have hpart : ∀ (f : Nat → Int) (j : Nat) (w : World), j < 8 → (part 3 (clk f) j).run Tryd.prog w = .ok (.int .i64 (f j)) w := fun f j w hj => by
    simp [part, run_isAgg (P := Tryd.prog) Tryd.underlying3, isAggD, clk_get f j hj]
  simp only [List.range_eq_range', List.range', Op.eqItems, Nat.mul_one, Sem.run_bind]
  simp [hpart, hint, clkEq]
  by_cases h0 : c 0 = e 0 <;> by_cases h1 : c 1 = e 1 <;> by_cases h2 : c 2 = e 2 <;> by_cases h3 : c 3 = e 3 <;> simp [*] <;>
    by_cases h4 : c 4 = e 4 <;> by_cases h5 : c 5 = e 5 <;> by_cases h6 : c 6 = e 6 <;> by_cases h7 : c 7 = e 7 <;> simp [*]

theorem ba_iff {a b : ByteArray} : a.toList = b.toList ↔ a = b := ⟨fun h => by rw [ByteArray.toList_eq, ByteArray.toList_eq] at h; exact ByteArray.ext (Array.toList_inj.1 h), fun h => by rw [h]⟩
/-! ### barrow/api.Op -/
structure OpD where
  kind : Int
  pl : Int
  char : Int
  rep : Int
def opv (a : OpD) : Array Value := #[.int .i64 a.kind, .int .i64 a.pl, .int .i32 a.char, .int .i64 a.rep]
def op0 : OpD := ⟨0, 0, 0, 0⟩
@[go_sem] theorem opv_size (a : OpD) : (opv a).size = 4 := by unfold opv; simp
@[go_sem] theorem opv_flat (a : OpD) : flat (opv a) = true := by simp [flat, opv, Value.oneCell']
@[go_sem] theorem opv_0 (a : OpD) : (opv a)[0]? = some (.int .i64 a.kind) := by unfold opv; simp
@[go_sem] theorem opv_e0 (a : OpD) (h : 0 < (opv a).size) : (opv a)[0] = .int .i64 a.kind := by unfold opv; simp
@[go_sem] theorem opv_1 (a : OpD) : (opv a)[1]? = some (.int .i64 a.pl) := by unfold opv; simp
@[go_sem] theorem opv_e1 (a : OpD) (h : 1 < (opv a).size) : (opv a)[1] = .int .i64 a.pl := by unfold opv; simp
@[go_sem] theorem opv_2 (a : OpD) : (opv a)[2]? = some (.int .i32 a.char) := by unfold opv; simp
@[go_sem] theorem opv_e2 (a : OpD) (h : 2 < (opv a).size) : (opv a)[2] = .int .i32 a.char := by unfold opv; simp
@[go_sem] theorem opv_3 (a : OpD) : (opv a)[3]? = some (.int .i64 a.rep) := by unfold opv; simp
@[go_sem] theorem opv_e3 (a : OpD) (h : 3 < (opv a).size) : (opv a)[3] = .int .i64 a.rep := by unfold opv; simp
@[go_sem] theorem opv_s0 (a : OpD) (v : Int) : (opv a).setIfInBounds 0 (.int .i64 v) = opv { a with kind := v } := by unfold opv; simp
@[go_sem] theorem opv_s1 (a : OpD) (v : Int) : (opv a).setIfInBounds 1 (.int .i64 v) = opv { a with pl := v } := by unfold opv; simp
@[go_sem] theorem opv_s2 (a : OpD) (v : Int) : (opv a).setIfInBounds 2 (.int .i32 v) = opv { a with char := v } := by unfold opv; simp
@[go_sem] theorem opv_s3 (a : OpD) (v : Int) : (opv a).setIfInBounds 3 (.int .i64 v) = opv { a with rep := v } := by unfold opv; simp
@[go_sem ↓] theorem field_opv (x : Value) (f : Nat) : Instr.field 76 x f = fldS 76 x f := (fldS_eq 76 x f).symm
@[go_sem] theorem fld_opv0 (cs : Array Value) (w : World) : (fldS 76 (.agg cs) 0).run Tryd.prog w = fldOne Tryd.prog 76 0 0 cs w :=
  run_fldS Tryd.prog 76 0 _ _ _ Tryd.underlying76 rfl Tryd.underlying3 rfl cs w
@[go_sem] theorem fld_opv1 (cs : Array Value) (w : World) : (fldS 76 (.agg cs) 1).run Tryd.prog w = fldOne Tryd.prog 76 1 1 cs w :=
  run_fldS Tryd.prog 76 1 _ _ _ Tryd.underlying76 rfl Tryd.underlying3 rfl cs w
@[go_sem] theorem fld_opv2 (cs : Array Value) (w : World) : (fldS 76 (.agg cs) 2).run Tryd.prog w = fldOne Tryd.prog 76 2 2 cs w :=
  run_fldS Tryd.prog 76 2 _ _ _ Tryd.underlying76 rfl Tryd.underlying21 rfl cs w
@[go_sem] theorem fld_opv3 (cs : Array Value) (w : World) : (fldS 76 (.agg cs) 3).run Tryd.prog w = fldOne Tryd.prog 76 3 3 cs w :=
  run_fldS Tryd.prog 76 3 _ _ _ Tryd.underlying76 rfl Tryd.underlying3 rfl cs w
def opvEq (a b : OpD) : Bool := a.kind == b.kind && (a.pl == b.pl && (a.char == b.char && (a.rep == b.rep)))
@[go_sem high] theorem neq_opv (a b : OpD) (w : World) : (binOp .neq 76 (.agg (opv a)) (.agg (opv b))).run Tryd.prog w = .ok (.bool (!opvEq a b)) w := by
  unfold opv opvEq
  go_simp
  (repeat' split) <;> simp_all
@[go_sem high] theorem eql_opv (a b : OpD) (w : World) : (binOp .eql 76 (.agg (opv a)) (.agg (opv b))).run Tryd.prog w = .ok (.bool (opvEq a b)) w := by
  unfold opv opvEq
  go_simp
  (repeat' split) <;> simp_all
theorem opvEq_iff {a b : OpD} : opvEq a b = true ↔ a = b := by
  obtain ⟨a0, a1, a2, a3⟩ := a
  obtain ⟨b0, b1, b2, b3⟩ := b
  simp [opvEq]
structure OpDI (a : OpD) : Prop where
  kind : InI a.kind
  pl : InI a.pl
  char : In32 a.char
  rep : InI a.rep
instance : Inhabited OpD := ⟨op0⟩

/-! ### barrow/api.Act -/
structure ActD where
  op : OpD
  num : Int
  clock : Nat → Int
def actv (a : ActD) : Array Value := #[.int .i64 a.op.kind, .int .i64 a.op.pl, .int .i32 a.op.char, .int .i64 a.op.rep, .int .i64 a.num, .int .i64 (a.clock 0), .int .i64 (a.clock 1), .int .i64 (a.clock 2), .int .i64 (a.clock 3), .int .i64 (a.clock 4), .int .i64 (a.clock 5), .int .i64 (a.clock 6), .int .i64 (a.clock 7)]
def act0 : ActD := ⟨op0, 0, clk0⟩
@[go_sem] theorem actv_size (a : ActD) : (actv a).size = 13 := by unfold actv; simp
@[go_sem] theorem actv_flat (a : ActD) : flat (actv a) = true := by simp [flat, actv, Value.oneCell']
@[go_sem] theorem actv_0 (a : ActD) : (actv a)[0]? = some (.int .i64 a.op.kind) := by unfold actv; simp
@[go_sem] theorem actv_e0 (a : ActD) (h : 0 < (actv a).size) : (actv a)[0] = .int .i64 a.op.kind := by unfold actv; simp
@[go_sem] theorem actv_1 (a : ActD) : (actv a)[1]? = some (.int .i64 a.op.pl) := by unfold actv; simp
@[go_sem] theorem actv_e1 (a : ActD) (h : 1 < (actv a).size) : (actv a)[1] = .int .i64 a.op.pl := by unfold actv; simp
@[go_sem] theorem actv_2 (a : ActD) : (actv a)[2]? = some (.int .i32 a.op.char) := by unfold actv; simp
@[go_sem] theorem actv_e2 (a : ActD) (h : 2 < (actv a).size) : (actv a)[2] = .int .i32 a.op.char := by unfold actv; simp
@[go_sem] theorem actv_3 (a : ActD) : (actv a)[3]? = some (.int .i64 a.op.rep) := by unfold actv; simp
@[go_sem] theorem actv_e3 (a : ActD) (h : 3 < (actv a).size) : (actv a)[3] = .int .i64 a.op.rep := by unfold actv; simp
@[go_sem] theorem actv_x0 (a : ActD) : (actv a).extract 0 4 = opv a.op := by unfold actv opv; simp
@[go_sem] theorem actv_sp0 (a : ActD) (b : OpD) : splice (actv a) 0 (opv b) = actv { a with op := b } := by simp [splice, actv, opv]
@[go_sem] theorem actv_4 (a : ActD) : (actv a)[4]? = some (.int .i64 a.num) := by unfold actv; simp
@[go_sem] theorem actv_e4 (a : ActD) (h : 4 < (actv a).size) : (actv a)[4] = .int .i64 a.num := by unfold actv; simp
theorem actv_clk5 (a : ActD) (i : Nat) (h : i < 8) : (actv a)[5 + i]? = some (.int .i64 (a.clock i)) := by
  unfold actv
  match i, h with
  | 0, _ | 1, _ | 2, _ | 3, _ | 4, _ | 5, _ | 6, _ | 7, _ => rfl
@[go_sem] theorem actv_x5 (a : ActD) : (actv a).extract 5 13 = clk a.clock := by unfold actv clk; simp
@[go_sem] theorem actv_sp5 (a : ActD) (b : Nat → Int) : splice (actv a) 5 (clk b) = actv { a with clock := b } := by simp [splice, actv, clk]
theorem actv_sc5 (a : ActD) (i : Nat) (h : i < 8) (v : Int) : (actv a).setIfInBounds (5 + i) (.int .i64 v) = actv { a with clock := setAt a.clock i v } := by
  unfold actv
  match i, h with
  | 0, _ | 1, _ | 2, _ | 3, _ | 4, _ | 5, _ | 6, _ | 7, _ => simp [setAt]
@[go_sem] theorem actv_s0 (a : ActD) (v : Int) : (actv a).setIfInBounds 0 (.int .i64 v) = actv { a with op := { a.op with kind := v } } := by unfold actv; simp
@[go_sem] theorem actv_s1 (a : ActD) (v : Int) : (actv a).setIfInBounds 1 (.int .i64 v) = actv { a with op := { a.op with pl := v } } := by unfold actv; simp
@[go_sem] theorem actv_s2 (a : ActD) (v : Int) : (actv a).setIfInBounds 2 (.int .i32 v) = actv { a with op := { a.op with char := v } } := by unfold actv; simp
@[go_sem] theorem actv_s3 (a : ActD) (v : Int) : (actv a).setIfInBounds 3 (.int .i64 v) = actv { a with op := { a.op with rep := v } } := by unfold actv; simp
@[go_sem] theorem actv_s4 (a : ActD) (v : Int) : (actv a).setIfInBounds 4 (.int .i64 v) = actv { a with num := v } := by unfold actv; simp
@[go_sem ↓] theorem field_actv (x : Value) (f : Nat) : Instr.field 78 x f = fldS 78 x f := (fldS_eq 78 x f).symm
@[go_sem] theorem fld_actv0 (a : ActD) (w : World) : (fldS 78 (.agg (actv a)) 0).run Tryd.prog w = .ok (.agg (opv a.op)) w := by
  rw [run_fldSN Tryd.prog 78 0 4 _ _ _ Tryd.underlying78 rfl Tryd.underlying76 rfl (by kernel_rfl) (actv a) w]
  exact congrArg (fun x => Result.ok (Value.agg x) w) (actv_x0 a)
@[go_sem] theorem fld_actv1 (cs : Array Value) (w : World) : (fldS 78 (.agg cs) 1).run Tryd.prog w = fldOne Tryd.prog 78 1 4 cs w :=
  run_fldS Tryd.prog 78 1 _ _ _ Tryd.underlying78 rfl Tryd.underlying3 rfl cs w
@[go_sem] theorem fld_actv2 (a : ActD) (w : World) : (fldS 78 (.agg (actv a)) 2).run Tryd.prog w = .ok (.agg (clk a.clock)) w := by
  rw [run_fldSN Tryd.prog 78 2 8 _ _ _ Tryd.underlying78 rfl Tryd.underlying23 rfl (by kernel_rfl) (actv a) w]
  exact congrArg (fun x => Result.ok (Value.agg x) w) (actv_x5 a)
def actvEq (a b : ActD) : Bool := opvEq a.op b.op && (a.num == b.num && (clkEq a.clock b.clock))
@[go_sem high] theorem neq_actv (a b : ActD) (w : World) : (binOp .neq 78 (.agg (actv a)) (.agg (actv b))).run Tryd.prog w = .ok (.bool (!actvEq a b)) w := by
  have hk2 : ∀ (d : Nat) (w : World), (Op.equalIn (d + 2) 23 (.agg #[.int .i64 (a.clock 0), .int .i64 (a.clock 1), .int .i64 (a.clock 2), .int .i64 (a.clock 3), .int .i64 (a.clock 4), .int .i64 (a.clock 5), .int .i64 (a.clock 6), .int .i64 (a.clock 7)]) (.agg #[.int .i64 (b.clock 0), .int .i64 (b.clock 1), .int .i64 (b.clock 2), .int .i64 (b.clock 3), .int .i64 (b.clock 4), .int .i64 (b.clock 5), .int .i64 (b.clock 6), .int .i64 (b.clock 7)])).run Tryd.prog w = .ok (clkEq a.clock b.clock) w := fun d w => equalIn_clk d a.clock b.clock w
  unfold actv actvEq opvEq
  go_simp
  clear hk2
  (repeat' split) <;> simp_all
@[go_sem high] theorem eql_actv (a b : ActD) (w : World) : (binOp .eql 78 (.agg (actv a)) (.agg (actv b))).run Tryd.prog w = .ok (.bool (actvEq a b)) w := by
  have hk2 : ∀ (d : Nat) (w : World), (Op.equalIn (d + 2) 23 (.agg #[.int .i64 (a.clock 0), .int .i64 (a.clock 1), .int .i64 (a.clock 2), .int .i64 (a.clock 3), .int .i64 (a.clock 4), .int .i64 (a.clock 5), .int .i64 (a.clock 6), .int .i64 (a.clock 7)]) (.agg #[.int .i64 (b.clock 0), .int .i64 (b.clock 1), .int .i64 (b.clock 2), .int .i64 (b.clock 3), .int .i64 (b.clock 4), .int .i64 (b.clock 5), .int .i64 (b.clock 6), .int .i64 (b.clock 7)])).run Tryd.prog w = .ok (clkEq a.clock b.clock) w := fun d w => equalIn_clk d a.clock b.clock w
  unfold actv actvEq opvEq
  go_simp
  clear hk2
  (repeat' split) <;> simp_all
structure ActDI (a : ActD) : Prop where
  op : OpDI a.op
  num : InI a.num
  clock : ClkI a.clock
instance : Inhabited ActD := ⟨act0⟩

/-! ### barrow/api.Round -/
structure RoundD where
  num : Int
  cut : Nat → Int
  votes : Nat → Int
  dec : Int
def rnd (a : RoundD) : Array Value := #[.int .i64 a.num, .int .i64 (a.cut 0), .int .i64 (a.cut 1), .int .i64 (a.cut 2), .int .i64 (a.cut 3), .int .i64 (a.cut 4), .int .i64 (a.cut 5), .int .i64 (a.cut 6), .int .i64 (a.cut 7), .int .i64 (a.votes 0), .int .i64 (a.votes 1), .int .i64 (a.votes 2), .int .i64 (a.votes 3), .int .i64 (a.votes 4), .int .i64 (a.votes 5), .int .i64 (a.votes 6), .int .i64 (a.votes 7), .int .i64 a.dec]
def rnd0 : RoundD := ⟨0, clk0, clk0, 0⟩
@[go_sem] theorem rnd_size (a : RoundD) : (rnd a).size = 18 := by unfold rnd; simp
@[go_sem] theorem rnd_flat (a : RoundD) : flat (rnd a) = true := by simp [flat, rnd, Value.oneCell']
@[go_sem] theorem rnd_0 (a : RoundD) : (rnd a)[0]? = some (.int .i64 a.num) := by unfold rnd; simp
@[go_sem] theorem rnd_e0 (a : RoundD) (h : 0 < (rnd a).size) : (rnd a)[0] = .int .i64 a.num := by unfold rnd; simp
theorem rnd_clk1 (a : RoundD) (i : Nat) (h : i < 8) : (rnd a)[1 + i]? = some (.int .i64 (a.cut i)) := by
  unfold rnd
  match i, h with
  | 0, _ | 1, _ | 2, _ | 3, _ | 4, _ | 5, _ | 6, _ | 7, _ => rfl
@[go_sem] theorem rnd_x1 (a : RoundD) : (rnd a).extract 1 9 = clk a.cut := by unfold rnd clk; simp
@[go_sem] theorem rnd_sp1 (a : RoundD) (b : Nat → Int) : splice (rnd a) 1 (clk b) = rnd { a with cut := b } := by simp [splice, rnd, clk]
theorem rnd_sc1 (a : RoundD) (i : Nat) (h : i < 8) (v : Int) : (rnd a).setIfInBounds (1 + i) (.int .i64 v) = rnd { a with cut := setAt a.cut i v } := by
  unfold rnd
  match i, h with
  | 0, _ | 1, _ | 2, _ | 3, _ | 4, _ | 5, _ | 6, _ | 7, _ => simp [setAt]
theorem rnd_clk9 (a : RoundD) (i : Nat) (h : i < 8) : (rnd a)[9 + i]? = some (.int .i64 (a.votes i)) := by
  unfold rnd
  match i, h with
  | 0, _ | 1, _ | 2, _ | 3, _ | 4, _ | 5, _ | 6, _ | 7, _ => rfl
@[go_sem] theorem rnd_x9 (a : RoundD) : (rnd a).extract 9 17 = clk a.votes := by unfold rnd clk; simp
@[go_sem] theorem rnd_sp9 (a : RoundD) (b : Nat → Int) : splice (rnd a) 9 (clk b) = rnd { a with votes := b } := by simp [splice, rnd, clk]
theorem rnd_sc9 (a : RoundD) (i : Nat) (h : i < 8) (v : Int) : (rnd a).setIfInBounds (9 + i) (.int .i64 v) = rnd { a with votes := setAt a.votes i v } := by
  unfold rnd
  match i, h with
  | 0, _ | 1, _ | 2, _ | 3, _ | 4, _ | 5, _ | 6, _ | 7, _ => simp [setAt]
@[go_sem] theorem rnd_17 (a : RoundD) : (rnd a)[17]? = some (.int .i64 a.dec) := by unfold rnd; simp
@[go_sem] theorem rnd_e17 (a : RoundD) (h : 17 < (rnd a).size) : (rnd a)[17] = .int .i64 a.dec := by unfold rnd; simp
@[go_sem] theorem rnd_s0 (a : RoundD) (v : Int) : (rnd a).setIfInBounds 0 (.int .i64 v) = rnd { a with num := v } := by unfold rnd; simp
@[go_sem] theorem rnd_s17 (a : RoundD) (v : Int) : (rnd a).setIfInBounds 17 (.int .i64 v) = rnd { a with dec := v } := by unfold rnd; simp
@[go_sem ↓] theorem field_rnd (x : Value) (f : Nat) : Instr.field 26 x f = fldS 26 x f := (fldS_eq 26 x f).symm
@[go_sem] theorem fld_rnd0 (cs : Array Value) (w : World) : (fldS 26 (.agg cs) 0).run Tryd.prog w = fldOne Tryd.prog 26 0 0 cs w :=
  run_fldS Tryd.prog 26 0 _ _ _ Tryd.underlying26 rfl Tryd.underlying3 rfl cs w
@[go_sem] theorem fld_rnd1 (a : RoundD) (w : World) : (fldS 26 (.agg (rnd a)) 1).run Tryd.prog w = .ok (.agg (clk a.cut)) w := by
  rw [run_fldSN Tryd.prog 26 1 8 _ _ _ Tryd.underlying26 rfl Tryd.underlying23 rfl (by kernel_rfl) (rnd a) w]
  exact congrArg (fun x => Result.ok (Value.agg x) w) (rnd_x1 a)
@[go_sem] theorem fld_rnd2 (a : RoundD) (w : World) : (fldS 26 (.agg (rnd a)) 2).run Tryd.prog w = .ok (.agg (clk a.votes)) w := by
  rw [run_fldSN Tryd.prog 26 2 8 _ _ _ Tryd.underlying26 rfl Tryd.underlying22 rfl (by kernel_rfl) (rnd a) w]
  exact congrArg (fun x => Result.ok (Value.agg x) w) (rnd_x9 a)
@[go_sem] theorem fld_rnd3 (cs : Array Value) (w : World) : (fldS 26 (.agg cs) 3).run Tryd.prog w = fldOne Tryd.prog 26 3 17 cs w :=
  run_fldS Tryd.prog 26 3 _ _ _ Tryd.underlying26 rfl Tryd.underlying3 rfl cs w
def rndEq (a b : RoundD) : Bool := a.num == b.num && (clkEq a.cut b.cut && (clkEq a.votes b.votes && (a.dec == b.dec)))
@[go_sem high] theorem neq_rnd (a b : RoundD) (w : World) : (binOp .neq 26 (.agg (rnd a)) (.agg (rnd b))).run Tryd.prog w = .ok (.bool (!rndEq a b)) w := by
  have hk1 : ∀ (d : Nat) (w : World), (Op.equalIn (d + 2) 23 (.agg #[.int .i64 (a.cut 0), .int .i64 (a.cut 1), .int .i64 (a.cut 2), .int .i64 (a.cut 3), .int .i64 (a.cut 4), .int .i64 (a.cut 5), .int .i64 (a.cut 6), .int .i64 (a.cut 7)]) (.agg #[.int .i64 (b.cut 0), .int .i64 (b.cut 1), .int .i64 (b.cut 2), .int .i64 (b.cut 3), .int .i64 (b.cut 4), .int .i64 (b.cut 5), .int .i64 (b.cut 6), .int .i64 (b.cut 7)])).run Tryd.prog w = .ok (clkEq a.cut b.cut) w := fun d w => equalIn_clk d a.cut b.cut w
  have hk2 : ∀ (d : Nat) (w : World), (Op.equalIn (d + 2) 22 (.agg #[.int .i64 (a.votes 0), .int .i64 (a.votes 1), .int .i64 (a.votes 2), .int .i64 (a.votes 3), .int .i64 (a.votes 4), .int .i64 (a.votes 5), .int .i64 (a.votes 6), .int .i64 (a.votes 7)]) (.agg #[.int .i64 (b.votes 0), .int .i64 (b.votes 1), .int .i64 (b.votes 2), .int .i64 (b.votes 3), .int .i64 (b.votes 4), .int .i64 (b.votes 5), .int .i64 (b.votes 6), .int .i64 (b.votes 7)])).run Tryd.prog w = .ok (clkEq a.votes b.votes) w := fun d w => equalIn_ar d a.votes b.votes w
  unfold rnd rndEq
  go_simp
  clear hk1
  clear hk2
  (repeat' split) <;> simp_all
@[go_sem high] theorem eql_rnd (a b : RoundD) (w : World) : (binOp .eql 26 (.agg (rnd a)) (.agg (rnd b))).run Tryd.prog w = .ok (.bool (rndEq a b)) w := by
  have hk1 : ∀ (d : Nat) (w : World), (Op.equalIn (d + 2) 23 (.agg #[.int .i64 (a.cut 0), .int .i64 (a.cut 1), .int .i64 (a.cut 2), .int .i64 (a.cut 3), .int .i64 (a.cut 4), .int .i64 (a.cut 5), .int .i64 (a.cut 6), .int .i64 (a.cut 7)]) (.agg #[.int .i64 (b.cut 0), .int .i64 (b.cut 1), .int .i64 (b.cut 2), .int .i64 (b.cut 3), .int .i64 (b.cut 4), .int .i64 (b.cut 5), .int .i64 (b.cut 6), .int .i64 (b.cut 7)])).run Tryd.prog w = .ok (clkEq a.cut b.cut) w := fun d w => equalIn_clk d a.cut b.cut w
  have hk2 : ∀ (d : Nat) (w : World), (Op.equalIn (d + 2) 22 (.agg #[.int .i64 (a.votes 0), .int .i64 (a.votes 1), .int .i64 (a.votes 2), .int .i64 (a.votes 3), .int .i64 (a.votes 4), .int .i64 (a.votes 5), .int .i64 (a.votes 6), .int .i64 (a.votes 7)]) (.agg #[.int .i64 (b.votes 0), .int .i64 (b.votes 1), .int .i64 (b.votes 2), .int .i64 (b.votes 3), .int .i64 (b.votes 4), .int .i64 (b.votes 5), .int .i64 (b.votes 6), .int .i64 (b.votes 7)])).run Tryd.prog w = .ok (clkEq a.votes b.votes) w := fun d w => equalIn_ar d a.votes b.votes w
  unfold rnd rndEq
  go_simp
  clear hk1
  clear hk2
  (repeat' split) <;> simp_all
structure RoundDI (a : RoundD) : Prop where
  num : InI a.num
  cut : ClkI a.cut
  votes : ClkI a.votes
  dec : InI a.dec
instance : Inhabited RoundD := ⟨rnd0⟩

/-! ### barrow/api.Link -/
structure LinkD where
  layer : ByteArray
  call : ByteArray
  pos : Int
def lnk (a : LinkD) : Array Value := #[.string a.layer, .string a.call, .int .i64 a.pos]
def lnk0 : LinkD := ⟨.empty, .empty, 0⟩
@[go_sem] theorem lnk_size (a : LinkD) : (lnk a).size = 3 := by unfold lnk; simp
@[go_sem] theorem lnk_flat (a : LinkD) : flat (lnk a) = true := by simp [flat, lnk, Value.oneCell']
@[go_sem] theorem lnk_0 (a : LinkD) : (lnk a)[0]? = some (.string a.layer) := by unfold lnk; simp
@[go_sem] theorem lnk_e0 (a : LinkD) (h : 0 < (lnk a).size) : (lnk a)[0] = .string a.layer := by unfold lnk; simp
@[go_sem] theorem lnk_1 (a : LinkD) : (lnk a)[1]? = some (.string a.call) := by unfold lnk; simp
@[go_sem] theorem lnk_e1 (a : LinkD) (h : 1 < (lnk a).size) : (lnk a)[1] = .string a.call := by unfold lnk; simp
@[go_sem] theorem lnk_2 (a : LinkD) : (lnk a)[2]? = some (.int .i64 a.pos) := by unfold lnk; simp
@[go_sem] theorem lnk_e2 (a : LinkD) (h : 2 < (lnk a).size) : (lnk a)[2] = .int .i64 a.pos := by unfold lnk; simp
@[go_sem] theorem lnk_s0 (a : LinkD) (v : ByteArray) : (lnk a).setIfInBounds 0 (.string v) = lnk { a with layer := v } := by unfold lnk; simp
@[go_sem] theorem lnk_s1 (a : LinkD) (v : ByteArray) : (lnk a).setIfInBounds 1 (.string v) = lnk { a with call := v } := by unfold lnk; simp
@[go_sem] theorem lnk_s2 (a : LinkD) (v : Int) : (lnk a).setIfInBounds 2 (.int .i64 v) = lnk { a with pos := v } := by unfold lnk; simp
@[go_sem ↓] theorem field_lnk (x : Value) (f : Nat) : Instr.field 133 x f = fldS 133 x f := (fldS_eq 133 x f).symm
@[go_sem] theorem fld_lnk0 (cs : Array Value) (w : World) : (fldS 133 (.agg cs) 0).run Tryd.prog w = fldOne Tryd.prog 133 0 0 cs w :=
  run_fldS Tryd.prog 133 0 _ _ _ Tryd.underlying133 rfl Tryd.underlying9 rfl cs w
@[go_sem] theorem fld_lnk1 (cs : Array Value) (w : World) : (fldS 133 (.agg cs) 1).run Tryd.prog w = fldOne Tryd.prog 133 1 1 cs w :=
  run_fldS Tryd.prog 133 1 _ _ _ Tryd.underlying133 rfl Tryd.underlying9 rfl cs w
@[go_sem] theorem fld_lnk2 (cs : Array Value) (w : World) : (fldS 133 (.agg cs) 2).run Tryd.prog w = fldOne Tryd.prog 133 2 2 cs w :=
  run_fldS Tryd.prog 133 2 _ _ _ Tryd.underlying133 rfl Tryd.underlying3 rfl cs w
def lnkEq (a b : LinkD) : Bool := (a.layer.toList == b.layer.toList) && ((a.call.toList == b.call.toList) && (a.pos == b.pos))
@[go_sem high] theorem neq_lnk (a b : LinkD) (w : World) : (binOp .neq 133 (.agg (lnk a)) (.agg (lnk b))).run Tryd.prog w = .ok (.bool (!lnkEq a b)) w := by
  unfold lnk lnkEq
  go_simp
  (repeat' split) <;> simp_all
@[go_sem high] theorem eql_lnk (a b : LinkD) (w : World) : (binOp .eql 133 (.agg (lnk a)) (.agg (lnk b))).run Tryd.prog w = .ok (.bool (lnkEq a b)) w := by
  unfold lnk lnkEq
  go_simp
  (repeat' split) <;> simp_all
theorem lnkEq_iff {a b : LinkD} : lnkEq a b = true ↔ a = b := by
  obtain ⟨a0, a1, a2⟩ := a
  obtain ⟨b0, b1, b2⟩ := b
  simp [lnkEq, ba_iff]
theorem lnkEq_refl (a : LinkD) : lnkEq a a = true := lnkEq_iff.2 rfl
instance : Inhabited LinkD := ⟨lnk0⟩

/-! ### barrow/barrowref01.No -/
structure NoD where
  code : Int
  chainp : Option Addr
  chainn : Nat
  chainc : Nat
  codesp : Option Addr
  codesn : Nat
  codesc : Nat
def nov (a : NoD) : Array Value := #[.int .i64 a.code, .slice a.chainp a.chainn a.chainc, .slice a.codesp a.codesn a.codesc]
def nov0 : NoD := ⟨0, none, 0, 0, none, 0, 0⟩
@[go_sem] theorem nov_size (a : NoD) : (nov a).size = 3 := by unfold nov; simp
@[go_sem] theorem nov_flat (a : NoD) : flat (nov a) = true := by simp [flat, nov, Value.oneCell']
@[go_sem] theorem nov_0 (a : NoD) : (nov a)[0]? = some (.int .i64 a.code) := by unfold nov; simp
@[go_sem] theorem nov_e0 (a : NoD) (h : 0 < (nov a).size) : (nov a)[0] = .int .i64 a.code := by unfold nov; simp
@[go_sem] theorem nov_1 (a : NoD) : (nov a)[1]? = some (.slice a.chainp a.chainn a.chainc) := by unfold nov; simp
@[go_sem] theorem nov_e1 (a : NoD) (h : 1 < (nov a).size) : (nov a)[1] = .slice a.chainp a.chainn a.chainc := by unfold nov; simp
@[go_sem] theorem nov_2 (a : NoD) : (nov a)[2]? = some (.slice a.codesp a.codesn a.codesc) := by unfold nov; simp
@[go_sem] theorem nov_e2 (a : NoD) (h : 2 < (nov a).size) : (nov a)[2] = .slice a.codesp a.codesn a.codesc := by unfold nov; simp
@[go_sem] theorem nov_s0 (a : NoD) (v : Int) : (nov a).setIfInBounds 0 (.int .i64 v) = nov { a with code := v } := by unfold nov; simp
@[go_sem] theorem nov_s1 (a : NoD) (p : Option Addr) (n c : Nat) : (nov a).setIfInBounds 1 (.slice p n c) = nov { a with chainp := p, chainn := n, chainc := c } := by unfold nov; simp
@[go_sem] theorem nov_s2 (a : NoD) (p : Option Addr) (n c : Nat) : (nov a).setIfInBounds 2 (.slice p n c) = nov { a with codesp := p, codesn := n, codesc := c } := by unfold nov; simp
@[go_sem ↓] theorem field_nov (x : Value) (f : Nat) : Instr.field 49 x f = fldS 49 x f := (fldS_eq 49 x f).symm
@[go_sem] theorem fld_nov0 (cs : Array Value) (w : World) : (fldS 49 (.agg cs) 0).run Tryd.prog w = fldOne Tryd.prog 49 0 0 cs w :=
  run_fldS Tryd.prog 49 0 _ _ _ Tryd.underlying49 rfl Tryd.underlying3 rfl cs w
@[go_sem] theorem fld_nov1 (cs : Array Value) (w : World) : (fldS 49 (.agg cs) 1).run Tryd.prog w = fldOne Tryd.prog 49 1 1 cs w :=
  run_fldS Tryd.prog 49 1 _ _ _ Tryd.underlying49 rfl Tryd.underlying46 rfl cs w
@[go_sem] theorem fld_nov2 (cs : Array Value) (w : World) : (fldS 49 (.agg cs) 2).run Tryd.prog w = fldOne Tryd.prog 49 2 2 cs w :=
  run_fldS Tryd.prog 49 2 _ _ _ Tryd.underlying49 rfl Tryd.underlying47 rfl cs w
instance : Inhabited NoD := ⟨nov0⟩

end Go.Proofs.YtegebjflhhbmiaaDoor
