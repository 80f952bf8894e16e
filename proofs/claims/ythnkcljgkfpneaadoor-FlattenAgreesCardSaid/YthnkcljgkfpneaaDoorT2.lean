/- The types of this seat: records as data, and what the walk does with them. -/
import Derived.Test.YthnkcljgkfpneaaDoorR2
import Derived.Test.YthnkcljgkfpneaaDoorH8
import Derived.Test.YthnkcljgkfpneaaDoorProg
import Derived.ChangeKeysEq
set_option linter.unusedSimpArgs false
set_option linter.unusedVariables false
namespace Go.Proofs.YthnkcljgkfpneaaDoor
open Go Go.RowKit

/-- A list cut into pieces. -/
def catCut (cs : List Value) : Nat → List Nat → List Value
  | o, [] => cs.drop o
  | o, n :: ns => (cs.drop o).take n ++ catCut cs (o + n) ns
theorem catCut_eq (cs : List Value) : ∀ (ns : List Nat) (o : Nat), catCut cs o ns = cs.drop o
  | [], _ => rfl
  | n :: ns, o => by
    unfold catCut
    rw [catCut_eq cs ns, ← List.drop_drop]
    exact List.take_append_drop n (cs.drop o)

/-! ### a clock -/
def clk (c : Nat → Int) : Array Value := #[.int .i64 (c 0), .int .i64 (c 1), .int .i64 (c 2), .int .i64 (c 3), .int .i64 (c 4), .int .i64 (c 5), .int .i64 (c 6), .int .i64 (c 7)]
def setAt (c : Nat → Int) (i : Nat) (v : Int) : Nat → Int := fun j => if j = i then v else c j
@[go_sem] theorem clk_size (c : Nat → Int) : (clk c).size = 8 := by unfold clk; simp
@[go_sem] theorem clk_flat (c : Nat → Int) : flat (clk c) = true := by simp [flat, clk, Value.oneCell']
theorem clk_get (c : Nat → Int) (i : Nat) (h : i < 8) : (clk c)[i]? = some (.int .i64 (c i)) := by
  unfold clk
  match i, h with
  | 0, _ | 1, _ | 2, _ | 3, _ | 4, _ | 5, _ | 6, _ | 7, _ => rfl
@[go_sem] theorem clk_elem? (c : Nat → Int) (i : Nat) : (clk c)[i]? = if i < 8 then some (.int .i64 (c i)) else none := by
  by_cases h : i < 8
  · rw [if_pos h]; exact clk_get c i h
  · rw [if_neg h]; exact Array.getElem?_eq_none (by rw [clk_size]; omega)
@[go_sem] theorem clk_elem (c : Nat → Int) (i : Nat) (h : i < (clk c).size) : (clk c)[i] = .int .i64 (c i) := by
  have := clk_get c i (by simpa [clk_size] using h)
  rw [Array.getElem?_eq_getElem h] at this
  exact Option.some.inj this
theorem clk_ext {cs : Array Value} {c : Nat → Int} (hs : cs.size = 8) (h : ∀ i, i < 8 → cs[i]? = some (.int .i64 (c i))) : cs = clk c := by
  apply Array.ext_getElem?
  intro i
  by_cases hi : i < 8
  · rw [h i hi, clk_get c i hi]
  · rw [Array.getElem?_eq_none (by omega), Array.getElem?_eq_none (by rw [clk_size]; omega)]
@[go_sem] theorem clk_set (c : Nat → Int) (i : Nat) (v : Int) : (clk c).setIfInBounds i (.int .i64 v) = clk (setAt c i v) := by
  refine clk_ext (by simp [clk_size]) fun j hj => ?_
  by_cases h : i = j
  · subst h
    rw [Array.getElem?_setIfInBounds_self_of_lt (by rw [clk_size]; exact hj)]
    simp [setAt]
  · rw [Array.getElem?_setIfInBounds_ne h, clk_get c j hj]
    simp [setAt, Ne.symm h]
def clkEq (c d : Nat → Int) : Bool := c 0 == d 0 && (c 1 == d 1 && (c 2 == d 2 && (c 3 == d 3 && (c 4 == d 4 && (c 5 == d 5 && (c 6 == d 6 && (c 7 == d 7)))))))
theorem clkEq_refl (c : Nat → Int) : clkEq c c = true := by simp [clkEq]
def clk0 : Nat → Int := fun _ => 0
@[go_sem ↓] theorem index_clk (x i : Value) : Instr.index 23 x i = idxS 23 x i := (idxS_eq 23 x i).symm
@[go_sem] theorem idx_clk (cs : Array Value) (k : IntKind) (i : Int) (w : World) : (idxS 23 (.agg cs) (.int k i)).run Tryd.prog w = idxArr Tryd.prog 23 8 cs k i w :=
  run_idxS Tryd.prog 23 3 8 _ Tryd.underlying23 Tryd.underlying3 rfl (by kernel_rfl) cs k i w

theorem equalIn_clk (d : Nat) (c e : Nat → Int) (w : World) : (Op.equalIn (d + 2) 23 (.agg (clk c)) (.agg (clk e))).run Tryd.prog w = .ok (clkEq c e) w := by
  have hi : ∃ i, Tryd.prog.info? 3 = some i ∧ Tryd.prog.cellsOf 3 = 1 := by
    obtain ⟨i, h1, h2⟩ := Option.map_eq_some_iff.1 (show (Tryd.prog.info? 3).map (·.size) = some 1 by kernel_rfl)
    exact ⟨i, h1, by simp [Program.cellsOf, h1, h2]⟩
  obtain ⟨i, hi, hc⟩ := hi
  rw [run_equalIn_array w (d + 1) (clk c) (clk e) Tryd.underlying23 hi, hc]
  have hint : ∀ a b : Int, ∀ w : World, (Op.equalIn (d + 1) 3 (.int .i64 a) (.int .i64 b)).run Tryd.prog w = .ok (a == b) w := fun a b w => run_equalIn_int w d 3 .i64 .i64 a b Tryd.underlying3
  have hpart : ∀ (f : Nat → Int) (j : Nat) (w : World), j < 8 → (part 3 (clk f) j).run Tryd.prog w = .ok (.int .i64 (f j)) w := fun f j w hj => by
    simp [part, run_isAgg (P := Tryd.prog) Tryd.underlying3, isAggD, clk_get f j hj]
  simp only [List.range_eq_range', List.range', Op.eqItems, Nat.mul_one, Sem.run_bind]
  simp [hpart, hint, clkEq]
  by_cases h0 : c 0 = e 0 <;> by_cases h1 : c 1 = e 1 <;> by_cases h2 : c 2 = e 2 <;> by_cases h3 : c 3 = e 3 <;> simp [*] <;>
    by_cases h4 : c 4 = e 4 <;> by_cases h5 : c 5 = e 5 <;> by_cases h6 : c 6 = e 6 <;> by_cases h7 : c 7 = e 7 <;> simp [*]

@[go_sem] theorem equalIn_clk_lit (c e : Nat → Int) (w : World) : (Op.equalIn 10000 23 (.agg #[.int .i64 (c 0), .int .i64 (c 1), .int .i64 (c 2), .int .i64 (c 3), .int .i64 (c 4), .int .i64 (c 5), .int .i64 (c 6), .int .i64 (c 7)]) (.agg #[.int .i64 (e 0), .int .i64 (e 1), .int .i64 (e 2), .int .i64 (e 3), .int .i64 (e 4), .int .i64 (e 5), .int .i64 (e 6), .int .i64 (e 7)])).run Tryd.prog w = .ok (clkEq c e) w := equalIn_clk 9998 c e w
@[go_sem high] theorem eql_clk (c e : Nat → Int) (w : World) : (binOp .eql 23 (.agg (clk c)) (.agg (clk e))).run Tryd.prog w = .ok (.bool (clkEq c e)) w := by
  simp only [binOp]
  simp [Op.equal, Op.maxDepth, equalIn_clk 9998 c e]
@[go_sem high] theorem neq_clk (c e : Nat → Int) (w : World) : (binOp .neq 23 (.agg (clk c)) (.agg (clk e))).run Tryd.prog w = .ok (.bool (!clkEq c e)) w := by
  simp only [binOp]
  simp [Op.equal, Op.maxDepth, equalIn_clk 9998 c e]

def ClkI (c : Nat → Int) : Prop := ∀ i, i < 8 → InI (c i)
theorem opens_clk : Opens Tryd.prog 23 8 clk ClkI := opens_ints Tryd.underlying23 Tryd.underlying3 (by kernel_rfl) (by kernel_rfl) clk_size clk_get

@[go_sem ↓] theorem index_ar (x i : Value) : Instr.index 22 x i = idxS 22 x i := (idxS_eq 22 x i).symm
@[go_sem] theorem idx_ar (cs : Array Value) (k : IntKind) (i : Int) (w : World) : (idxS 22 (.agg cs) (.int k i)).run Tryd.prog w = idxArr Tryd.prog 22 8 cs k i w :=
  run_idxS Tryd.prog 22 3 8 _ Tryd.underlying22 Tryd.underlying3 rfl (by kernel_rfl) cs k i w

theorem equalIn_ar (d : Nat) (c e : Nat → Int) (w : World) : (Op.equalIn (d + 2) 22 (.agg (clk c)) (.agg (clk e))).run Tryd.prog w = .ok (clkEq c e) w := by
  have hi : ∃ i, Tryd.prog.info? 3 = some i ∧ Tryd.prog.cellsOf 3 = 1 := by
    obtain ⟨i, h1, h2⟩ := Option.map_eq_some_iff.1 (show (Tryd.prog.info? 3).map (·.size) = some 1 by kernel_rfl)
    exact ⟨i, h1, by simp [Program.cellsOf, h1, h2]⟩
  obtain ⟨i, hi, hc⟩ := hi
  rw [run_equalIn_array w (d + 1) (clk c) (clk e) Tryd.underlying22 hi, hc]
  have hint : ∀ a b : Int, ∀ w : World, (Op.equalIn (d + 1) 3 (.int .i64 a) (.int .i64 b)).run Tryd.prog w = .ok (a == b) w := fun a b w => run_equalIn_int w d 3 .i64 .i64 a b Tryd.underlying3
  have hpart : ∀ (f : Nat → Int) (j : Nat) (w : World), j < 8 → (part 3 (clk f) j).run Tryd.prog w = .ok (.int .i64 (f j)) w := fun f j w hj => by
    simp [part, run_isAgg (P := Tryd.prog) Tryd.underlying3, isAggD, clk_get f j hj]
  simp only [List.range_eq_range', List.range', Op.eqItems, Nat.mul_one, Sem.run_bind]
  simp [hpart, hint, clkEq]
  by_cases h0 : c 0 = e 0 <;> by_cases h1 : c 1 = e 1 <;> by_cases h2 : c 2 = e 2 <;> by_cases h3 : c 3 = e 3 <;> simp [*] <;>
    by_cases h4 : c 4 = e 4 <;> by_cases h5 : c 5 = e 5 <;> by_cases h6 : c 6 = e 6 <;> by_cases h7 : c 7 = e 7 <;> simp [*]

theorem opens_ar : Opens Tryd.prog 22 8 clk ClkI := opens_ints Tryd.underlying22 Tryd.underlying3 (by kernel_rfl) (by kernel_rfl) clk_size clk_get

theorem opens_int : Opens Tryd.prog 3 1 (fun i : Int => #[.int .i64 i]) InI := opens_i64 Tryd.underlying3 (by kernel_rfl)
theorem ba_iff {a b : ByteArray} : a.toList = b.toList ↔ a = b := ⟨fun h => by rw [ByteArray.toList_eq, ByteArray.toList_eq] at h; exact ByteArray.ext (Array.toList_inj.1 h), fun h => by rw [h]⟩
/-! ### barrow/api.Round -/
structure RoundD where
  num : Int
  cut : Nat → Int
  votes : Nat → Int
  dec : Int
def rnd (a : RoundD) : Array Value := #[.int .i64 a.num, .int .i64 (a.cut 0), .int .i64 (a.cut 1), .int .i64 (a.cut 2), .int .i64 (a.cut 3), .int .i64 (a.cut 4), .int .i64 (a.cut 5), .int .i64 (a.cut 6), .int .i64 (a.cut 7), .int .i64 (a.votes 0), .int .i64 (a.votes 1), .int .i64 (a.votes 2), .int .i64 (a.votes 3), .int .i64 (a.votes 4), .int .i64 (a.votes 5), .int .i64 (a.votes 6), .int .i64 (a.votes 7), .int .i64 a.dec]
def rnd0 : RoundD := ⟨0, clk0, clk0, 0⟩
@[go_sem] theorem rnd_size (a : RoundD) : (rnd a).size = 18 := by unfold rnd; simp
@[go_sem] theorem rnd_flat (a : RoundD) : flat (rnd a) = true := by simp [flat, rnd, Value.oneCell']
@[go_sem] theorem rnd_0 (a : RoundD) : (rnd a)[0]? = some (.int .i64 a.num) := by unfold rnd; simp
@[go_sem] theorem rnd_e0 (a : RoundD) (h : 0 < (rnd a).size) : (rnd a)[0] = .int .i64 a.num := by unfold rnd; simp
theorem rnd_clk1 (a : RoundD) (i : Nat) (h : i < 8) : (rnd a)[1 + i]? = some (.int .i64 (a.cut i)) := by
  unfold rnd
  match i, h with
  | 0, _ | 1, _ | 2, _ | 3, _ | 4, _ | 5, _ | 6, _ | 7, _ => rfl
@[go_sem] theorem rnd_x1 (a : RoundD) : (rnd a).extract 1 9 = clk a.cut := by unfold rnd clk; simp
@[go_sem] theorem rnd_sp1 (a : RoundD) (b : Nat → Int) : splice (rnd a) 1 (clk b) = rnd { a with cut := b } := by simp [splice, rnd, clk]
theorem rnd_sc1 (a : RoundD) (i : Nat) (h : i < 8) (v : Int) : (rnd a).setIfInBounds (1 + i) (.int .i64 v) = rnd { a with cut := setAt a.cut i v } := by
  unfold rnd
  match i, h with
  | 0, _ | 1, _ | 2, _ | 3, _ | 4, _ | 5, _ | 6, _ | 7, _ => simp [setAt]
theorem rnd_clk9 (a : RoundD) (i : Nat) (h : i < 8) : (rnd a)[9 + i]? = some (.int .i64 (a.votes i)) := by
  unfold rnd
  match i, h with
  | 0, _ | 1, _ | 2, _ | 3, _ | 4, _ | 5, _ | 6, _ | 7, _ => rfl
@[go_sem] theorem rnd_x9 (a : RoundD) : (rnd a).extract 9 17 = clk a.votes := by unfold rnd clk; simp
@[go_sem] theorem rnd_sp9 (a : RoundD) (b : Nat → Int) : splice (rnd a) 9 (clk b) = rnd { a with votes := b } := by simp [splice, rnd, clk]
theorem rnd_sc9 (a : RoundD) (i : Nat) (h : i < 8) (v : Int) : (rnd a).setIfInBounds (9 + i) (.int .i64 v) = rnd { a with votes := setAt a.votes i v } := by
  unfold rnd
  match i, h with
  | 0, _ | 1, _ | 2, _ | 3, _ | 4, _ | 5, _ | 6, _ | 7, _ => simp [setAt]
@[go_sem] theorem rnd_17 (a : RoundD) : (rnd a)[17]? = some (.int .i64 a.dec) := by unfold rnd; simp
@[go_sem] theorem rnd_e17 (a : RoundD) (h : 17 < (rnd a).size) : (rnd a)[17] = .int .i64 a.dec := by unfold rnd; simp
@[go_sem] theorem rnd_s0 (a : RoundD) (v : Int) : (rnd a).setIfInBounds 0 (.int .i64 v) = rnd { a with num := v } := by unfold rnd; simp
@[go_sem] theorem rnd_s17 (a : RoundD) (v : Int) : (rnd a).setIfInBounds 17 (.int .i64 v) = rnd { a with dec := v } := by unfold rnd; simp
@[go_sem ↓] theorem field_rnd (x : Value) (f : Nat) : Instr.field 25 x f = fldS 25 x f := (fldS_eq 25 x f).symm
@[go_sem] theorem fld_rnd0 (cs : Array Value) (w : World) : (fldS 25 (.agg cs) 0).run Tryd.prog w = fldOne Tryd.prog 25 0 0 cs w :=
  run_fldS Tryd.prog 25 0 _ _ _ Tryd.underlying25 rfl Tryd.underlying3 rfl cs w
@[go_sem] theorem fld_rnd1 (a : RoundD) (w : World) : (fldS 25 (.agg (rnd a)) 1).run Tryd.prog w = .ok (.agg (clk a.cut)) w := by
  rw [run_fldSN Tryd.prog 25 1 8 _ _ _ Tryd.underlying25 rfl Tryd.underlying23 rfl (by kernel_rfl) (rnd a) w]
  exact congrArg (fun x => Result.ok (Value.agg x) w) (rnd_x1 a)
@[go_sem] theorem fld_rnd2 (a : RoundD) (w : World) : (fldS 25 (.agg (rnd a)) 2).run Tryd.prog w = .ok (.agg (clk a.votes)) w := by
  rw [run_fldSN Tryd.prog 25 2 8 _ _ _ Tryd.underlying25 rfl Tryd.underlying22 rfl (by kernel_rfl) (rnd a) w]
  exact congrArg (fun x => Result.ok (Value.agg x) w) (rnd_x9 a)
@[go_sem] theorem fld_rnd3 (cs : Array Value) (w : World) : (fldS 25 (.agg cs) 3).run Tryd.prog w = fldOne Tryd.prog 25 3 17 cs w :=
  run_fldS Tryd.prog 25 3 _ _ _ Tryd.underlying25 rfl Tryd.underlying3 rfl cs w
def rndEq (a b : RoundD) : Bool := a.num == b.num && (clkEq a.cut b.cut && (clkEq a.votes b.votes && (a.dec == b.dec)))
@[go_sem high] theorem neq_rnd (a b : RoundD) (w : World) : (binOp .neq 25 (.agg (rnd a)) (.agg (rnd b))).run Tryd.prog w = .ok (.bool (!rndEq a b)) w := by
  have hk1 : ∀ (d : Nat) (w : World), (Op.equalIn (d + 2) 23 (.agg #[.int .i64 (a.cut 0), .int .i64 (a.cut 1), .int .i64 (a.cut 2), .int .i64 (a.cut 3), .int .i64 (a.cut 4), .int .i64 (a.cut 5), .int .i64 (a.cut 6), .int .i64 (a.cut 7)]) (.agg #[.int .i64 (b.cut 0), .int .i64 (b.cut 1), .int .i64 (b.cut 2), .int .i64 (b.cut 3), .int .i64 (b.cut 4), .int .i64 (b.cut 5), .int .i64 (b.cut 6), .int .i64 (b.cut 7)])).run Tryd.prog w = .ok (clkEq a.cut b.cut) w := fun d w => equalIn_clk d a.cut b.cut w
  have hk2 : ∀ (d : Nat) (w : World), (Op.equalIn (d + 2) 22 (.agg #[.int .i64 (a.votes 0), .int .i64 (a.votes 1), .int .i64 (a.votes 2), .int .i64 (a.votes 3), .int .i64 (a.votes 4), .int .i64 (a.votes 5), .int .i64 (a.votes 6), .int .i64 (a.votes 7)]) (.agg #[.int .i64 (b.votes 0), .int .i64 (b.votes 1), .int .i64 (b.votes 2), .int .i64 (b.votes 3), .int .i64 (b.votes 4), .int .i64 (b.votes 5), .int .i64 (b.votes 6), .int .i64 (b.votes 7)])).run Tryd.prog w = .ok (clkEq a.votes b.votes) w := fun d w => equalIn_ar d a.votes b.votes w
  unfold rnd rndEq
  go_simp
  clear hk1
  clear hk2
  (repeat' split) <;> simp_all
@[go_sem high] theorem eql_rnd (a b : RoundD) (w : World) : (binOp .eql 25 (.agg (rnd a)) (.agg (rnd b))).run Tryd.prog w = .ok (.bool (rndEq a b)) w := by
  have hk1 : ∀ (d : Nat) (w : World), (Op.equalIn (d + 2) 23 (.agg #[.int .i64 (a.cut 0), .int .i64 (a.cut 1), .int .i64 (a.cut 2), .int .i64 (a.cut 3), .int .i64 (a.cut 4), .int .i64 (a.cut 5), .int .i64 (a.cut 6), .int .i64 (a.cut 7)]) (.agg #[.int .i64 (b.cut 0), .int .i64 (b.cut 1), .int .i64 (b.cut 2), .int .i64 (b.cut 3), .int .i64 (b.cut 4), .int .i64 (b.cut 5), .int .i64 (b.cut 6), .int .i64 (b.cut 7)])).run Tryd.prog w = .ok (clkEq a.cut b.cut) w := fun d w => equalIn_clk d a.cut b.cut w
  have hk2 : ∀ (d : Nat) (w : World), (Op.equalIn (d + 2) 22 (.agg #[.int .i64 (a.votes 0), .int .i64 (a.votes 1), .int .i64 (a.votes 2), .int .i64 (a.votes 3), .int .i64 (a.votes 4), .int .i64 (a.votes 5), .int .i64 (a.votes 6), .int .i64 (a.votes 7)]) (.agg #[.int .i64 (b.votes 0), .int .i64 (b.votes 1), .int .i64 (b.votes 2), .int .i64 (b.votes 3), .int .i64 (b.votes 4), .int .i64 (b.votes 5), .int .i64 (b.votes 6), .int .i64 (b.votes 7)])).run Tryd.prog w = .ok (clkEq a.votes b.votes) w := fun d w => equalIn_ar d a.votes b.votes w
  unfold rnd rndEq
  go_simp
  clear hk1
  clear hk2
  (repeat' split) <;> simp_all
structure RoundDI (a : RoundD) : Prop where
  num : InI a.num
  cut : ClkI a.cut
  votes : ClkI a.votes
  dec : InI a.dec
set_option maxRecDepth 20000 in
theorem opens_rnd : Opens Tryd.prog 25 18 rnd RoundDI :=
  ⟨by kernel_rfl, rnd_size, fun enc w base sp held fuel cs x h => by
    obtain ⟨xs, m, rfl, rfl, hl, hxl, hx⟩ := DataW.trod_struct Tryd.underlying25 h
    rw [show Tryd.prog.cellsOf 25 = 18 by kernel_rfl] at hl
    have h0 := hx 0 _ rfl
    have h1 := hx 1 _ rfl
    have h2 := hx 2 _ rfl
    have h3 := hx 3 _ rfl
    have hxl : xs.length = 4 := hxl
    rw [List.getElem?_eq_getElem (by omega)] at h0 h1 h2 h3
    obtain ⟨v0, k0, r0⟩ := opens_int.cut h0
    obtain ⟨v1, k1, r1⟩ := opens_clk.cut h1
    obtain ⟨v2, k2, r2⟩ := opens_ar.cut h2
    obtain ⟨v3, k3, r3⟩ := opens_int.cut h3
    refine ⟨⟨v0, v1, v2, v3⟩, ?_, ⟨r0, r1, r2, r3⟩⟩
    have e := catCut_eq cs [1, 8, 8, 1] 0
    simp only [catCut, List.drop_zero, Nat.zero_add, Nat.reduceAdd] at e
    replace k0 : List.take 1 cs = _ := k0
    replace k1 : List.take 8 (List.drop 1 cs) = _ := k1
    replace k2 : List.take 8 (List.drop 9 cs) = _ := k2
    replace k3 : List.take 1 (List.drop 17 cs) = _ := k3
    rw [k0, k1, k2, k3, List.drop_of_length_le (by omega), List.append_nil] at e
    rw [← e]
    simp [rnd, clk]⟩
instance : Inhabited RoundD := ⟨rnd0⟩

/-! ### barrow/barrowlaw12.Voted -/
structure VotedD where
  cut : Nat → Int
  have_ : Nat → Int
  round : RoundD
  reps : Int
def vtd (a : VotedD) : Array Value := #[.int .i64 (a.cut 0), .int .i64 (a.cut 1), .int .i64 (a.cut 2), .int .i64 (a.cut 3), .int .i64 (a.cut 4), .int .i64 (a.cut 5), .int .i64 (a.cut 6), .int .i64 (a.cut 7), .int .i64 (a.have_ 0), .int .i64 (a.have_ 1), .int .i64 (a.have_ 2), .int .i64 (a.have_ 3), .int .i64 (a.have_ 4), .int .i64 (a.have_ 5), .int .i64 (a.have_ 6), .int .i64 (a.have_ 7), .int .i64 a.round.num, .int .i64 (a.round.cut 0), .int .i64 (a.round.cut 1), .int .i64 (a.round.cut 2), .int .i64 (a.round.cut 3), .int .i64 (a.round.cut 4), .int .i64 (a.round.cut 5), .int .i64 (a.round.cut 6), .int .i64 (a.round.cut 7), .int .i64 (a.round.votes 0), .int .i64 (a.round.votes 1), .int .i64 (a.round.votes 2), .int .i64 (a.round.votes 3), .int .i64 (a.round.votes 4), .int .i64 (a.round.votes 5), .int .i64 (a.round.votes 6), .int .i64 (a.round.votes 7), .int .i64 a.round.dec, .int .i64 a.reps]
def vtd0 : VotedD := ⟨clk0, clk0, rnd0, 0⟩
@[go_sem] theorem vtd_size (a : VotedD) : (vtd a).size = 35 := by unfold vtd; simp
@[go_sem] theorem vtd_flat (a : VotedD) : flat (vtd a) = true := by simp [flat, vtd, Value.oneCell']
theorem vtd_clk0 (a : VotedD) (i : Nat) (h : i < 8) : (vtd a)[0 + i]? = some (.int .i64 (a.cut i)) := by
  unfold vtd
  match i, h with
  | 0, _ | 1, _ | 2, _ | 3, _ | 4, _ | 5, _ | 6, _ | 7, _ => rfl
@[go_sem] theorem vtd_x0 (a : VotedD) : (vtd a).extract 0 8 = clk a.cut := by unfold vtd clk; simp
@[go_sem] theorem vtd_sp0 (a : VotedD) (b : Nat → Int) : splice (vtd a) 0 (clk b) = vtd { a with cut := b } := by simp [splice, vtd, clk]
theorem vtd_sc0 (a : VotedD) (i : Nat) (h : i < 8) (v : Int) : (vtd a).setIfInBounds (0 + i) (.int .i64 v) = vtd { a with cut := setAt a.cut i v } := by
  unfold vtd
  match i, h with
  | 0, _ | 1, _ | 2, _ | 3, _ | 4, _ | 5, _ | 6, _ | 7, _ => simp [setAt]
theorem vtd_clk8 (a : VotedD) (i : Nat) (h : i < 8) : (vtd a)[8 + i]? = some (.int .i64 (a.have_ i)) := by
  unfold vtd
  match i, h with
  | 0, _ | 1, _ | 2, _ | 3, _ | 4, _ | 5, _ | 6, _ | 7, _ => rfl
@[go_sem] theorem vtd_x8 (a : VotedD) : (vtd a).extract 8 16 = clk a.have_ := by unfold vtd clk; simp
@[go_sem] theorem vtd_sp8 (a : VotedD) (b : Nat → Int) : splice (vtd a) 8 (clk b) = vtd { a with have_ := b } := by simp [splice, vtd, clk]
theorem vtd_sc8 (a : VotedD) (i : Nat) (h : i < 8) (v : Int) : (vtd a).setIfInBounds (8 + i) (.int .i64 v) = vtd { a with have_ := setAt a.have_ i v } := by
  unfold vtd
  match i, h with
  | 0, _ | 1, _ | 2, _ | 3, _ | 4, _ | 5, _ | 6, _ | 7, _ => simp [setAt]
@[go_sem] theorem vtd_x16 (a : VotedD) : (vtd a).extract 16 34 = rnd a.round := by unfold vtd rnd; simp
@[go_sem] theorem vtd_sp16 (a : VotedD) (b : RoundD) : splice (vtd a) 16 (rnd b) = vtd { a with round := b } := by simp [splice, vtd, rnd]
@[go_sem] theorem vtd_34 (a : VotedD) : (vtd a)[34]? = some (.int .i64 a.reps) := by unfold vtd; simp
@[go_sem] theorem vtd_e34 (a : VotedD) (h : 34 < (vtd a).size) : (vtd a)[34] = .int .i64 a.reps := by unfold vtd; simp
@[go_sem] theorem vtd_s16 (a : VotedD) (v : Int) : (vtd a).setIfInBounds 16 (.int .i64 v) = vtd { a with round := { a.round with num := v } } := by unfold vtd; simp
@[go_sem] theorem vtd_s33 (a : VotedD) (v : Int) : (vtd a).setIfInBounds 33 (.int .i64 v) = vtd { a with round := { a.round with dec := v } } := by unfold vtd; simp
@[go_sem] theorem vtd_s34 (a : VotedD) (v : Int) : (vtd a).setIfInBounds 34 (.int .i64 v) = vtd { a with reps := v } := by unfold vtd; simp
@[go_sem ↓] theorem field_vtd (x : Value) (f : Nat) : Instr.field 27 x f = fldS 27 x f := (fldS_eq 27 x f).symm
@[go_sem] theorem fld_vtd0 (a : VotedD) (w : World) : (fldS 27 (.agg (vtd a)) 0).run Tryd.prog w = .ok (.agg (clk a.cut)) w := by
  rw [run_fldSN Tryd.prog 27 0 8 _ _ _ Tryd.underlying27 rfl Tryd.underlying23 rfl (by kernel_rfl) (vtd a) w]
  exact congrArg (fun x => Result.ok (Value.agg x) w) (vtd_x0 a)
@[go_sem] theorem fld_vtd1 (a : VotedD) (w : World) : (fldS 27 (.agg (vtd a)) 1).run Tryd.prog w = .ok (.agg (clk a.have_)) w := by
  rw [run_fldSN Tryd.prog 27 1 8 _ _ _ Tryd.underlying27 rfl Tryd.underlying23 rfl (by kernel_rfl) (vtd a) w]
  exact congrArg (fun x => Result.ok (Value.agg x) w) (vtd_x8 a)
@[go_sem] theorem fld_vtd2 (a : VotedD) (w : World) : (fldS 27 (.agg (vtd a)) 2).run Tryd.prog w = .ok (.agg (rnd a.round)) w := by
  rw [run_fldSN Tryd.prog 27 2 18 _ _ _ Tryd.underlying27 rfl Tryd.underlying25 rfl (by kernel_rfl) (vtd a) w]
  exact congrArg (fun x => Result.ok (Value.agg x) w) (vtd_x16 a)
@[go_sem] theorem fld_vtd3 (cs : Array Value) (w : World) : (fldS 27 (.agg cs) 3).run Tryd.prog w = fldOne Tryd.prog 27 3 34 cs w :=
  run_fldS Tryd.prog 27 3 _ _ _ Tryd.underlying27 rfl Tryd.underlying3 rfl cs w
structure VotedDI (a : VotedD) : Prop where
  cut : ClkI a.cut
  have_ : ClkI a.have_
  round : RoundDI a.round
  reps : InI a.reps
set_option maxRecDepth 20000 in
theorem opens_vtd : Opens Tryd.prog 27 35 vtd VotedDI :=
  ⟨by kernel_rfl, vtd_size, fun enc w base sp held fuel cs x h => by
    obtain ⟨xs, m, rfl, rfl, hl, hxl, hx⟩ := DataW.trod_struct Tryd.underlying27 h
    rw [show Tryd.prog.cellsOf 27 = 35 by kernel_rfl] at hl
    have h0 := hx 0 _ rfl
    have h1 := hx 1 _ rfl
    have h2 := hx 2 _ rfl
    have h3 := hx 3 _ rfl
    have hxl : xs.length = 4 := hxl
    rw [List.getElem?_eq_getElem (by omega)] at h0 h1 h2 h3
    obtain ⟨v0, k0, r0⟩ := opens_clk.cut h0
    obtain ⟨v1, k1, r1⟩ := opens_clk.cut h1
    obtain ⟨v2, k2, r2⟩ := opens_rnd.cut h2
    obtain ⟨v3, k3, r3⟩ := opens_int.cut h3
    refine ⟨⟨v0, v1, v2, v3⟩, ?_, ⟨r0, r1, r2, r3⟩⟩
    have e := catCut_eq cs [8, 8, 18, 1] 0
    simp only [catCut, List.drop_zero, Nat.zero_add, Nat.reduceAdd] at e
    replace k0 : List.take 8 cs = _ := k0
    replace k1 : List.take 8 (List.drop 8 cs) = _ := k1
    replace k2 : List.take 18 (List.drop 16 cs) = _ := k2
    replace k3 : List.take 1 (List.drop 34 cs) = _ := k3
    rw [k0, k1, k2, k3, List.drop_of_length_le (by omega), List.append_nil] at e
    rw [← e]
    simp [vtd, clk, rnd]⟩
instance : Inhabited VotedD := ⟨vtd0⟩

/-! ### barrow/barrowlaw12.Asked -/
structure AskedD where
  mine : RoundD
  theirs : RoundD
  number : Int
  replica : Int
def asd (a : AskedD) : Array Value := #[.int .i64 a.mine.num, .int .i64 (a.mine.cut 0), .int .i64 (a.mine.cut 1), .int .i64 (a.mine.cut 2), .int .i64 (a.mine.cut 3), .int .i64 (a.mine.cut 4), .int .i64 (a.mine.cut 5), .int .i64 (a.mine.cut 6), .int .i64 (a.mine.cut 7), .int .i64 (a.mine.votes 0), .int .i64 (a.mine.votes 1), .int .i64 (a.mine.votes 2), .int .i64 (a.mine.votes 3), .int .i64 (a.mine.votes 4), .int .i64 (a.mine.votes 5), .int .i64 (a.mine.votes 6), .int .i64 (a.mine.votes 7), .int .i64 a.mine.dec, .int .i64 a.theirs.num, .int .i64 (a.theirs.cut 0), .int .i64 (a.theirs.cut 1), .int .i64 (a.theirs.cut 2), .int .i64 (a.theirs.cut 3), .int .i64 (a.theirs.cut 4), .int .i64 (a.theirs.cut 5), .int .i64 (a.theirs.cut 6), .int .i64 (a.theirs.cut 7), .int .i64 (a.theirs.votes 0), .int .i64 (a.theirs.votes 1), .int .i64 (a.theirs.votes 2), .int .i64 (a.theirs.votes 3), .int .i64 (a.theirs.votes 4), .int .i64 (a.theirs.votes 5), .int .i64 (a.theirs.votes 6), .int .i64 (a.theirs.votes 7), .int .i64 a.theirs.dec, .int .i64 a.number, .int .i64 a.replica]
def asd0 : AskedD := ⟨rnd0, rnd0, 0, 0⟩
@[go_sem] theorem asd_size (a : AskedD) : (asd a).size = 38 := by unfold asd; simp
@[go_sem] theorem asd_flat (a : AskedD) : flat (asd a) = true := by simp [flat, asd, Value.oneCell']
@[go_sem] theorem asd_x0 (a : AskedD) : (asd a).extract 0 18 = rnd a.mine := by unfold asd rnd; simp
@[go_sem] theorem asd_sp0 (a : AskedD) (b : RoundD) : splice (asd a) 0 (rnd b) = asd { a with mine := b } := by simp [splice, asd, rnd]
@[go_sem] theorem asd_x18 (a : AskedD) : (asd a).extract 18 36 = rnd a.theirs := by unfold asd rnd; simp
@[go_sem] theorem asd_sp18 (a : AskedD) (b : RoundD) : splice (asd a) 18 (rnd b) = asd { a with theirs := b } := by simp [splice, asd, rnd]
@[go_sem] theorem asd_36 (a : AskedD) : (asd a)[36]? = some (.int .i64 a.number) := by unfold asd; simp
@[go_sem] theorem asd_e36 (a : AskedD) (h : 36 < (asd a).size) : (asd a)[36] = .int .i64 a.number := by unfold asd; simp
@[go_sem] theorem asd_37 (a : AskedD) : (asd a)[37]? = some (.int .i64 a.replica) := by unfold asd; simp
@[go_sem] theorem asd_e37 (a : AskedD) (h : 37 < (asd a).size) : (asd a)[37] = .int .i64 a.replica := by unfold asd; simp
@[go_sem] theorem asd_s0 (a : AskedD) (v : Int) : (asd a).setIfInBounds 0 (.int .i64 v) = asd { a with mine := { a.mine with num := v } } := by unfold asd; simp
@[go_sem] theorem asd_s17 (a : AskedD) (v : Int) : (asd a).setIfInBounds 17 (.int .i64 v) = asd { a with mine := { a.mine with dec := v } } := by unfold asd; simp
@[go_sem] theorem asd_s18 (a : AskedD) (v : Int) : (asd a).setIfInBounds 18 (.int .i64 v) = asd { a with theirs := { a.theirs with num := v } } := by unfold asd; simp
@[go_sem] theorem asd_s35 (a : AskedD) (v : Int) : (asd a).setIfInBounds 35 (.int .i64 v) = asd { a with theirs := { a.theirs with dec := v } } := by unfold asd; simp
@[go_sem] theorem asd_s36 (a : AskedD) (v : Int) : (asd a).setIfInBounds 36 (.int .i64 v) = asd { a with number := v } := by unfold asd; simp
@[go_sem] theorem asd_s37 (a : AskedD) (v : Int) : (asd a).setIfInBounds 37 (.int .i64 v) = asd { a with replica := v } := by unfold asd; simp
@[go_sem ↓] theorem field_asd (x : Value) (f : Nat) : Instr.field 34 x f = fldS 34 x f := (fldS_eq 34 x f).symm
@[go_sem] theorem fld_asd0 (a : AskedD) (w : World) : (fldS 34 (.agg (asd a)) 0).run Tryd.prog w = .ok (.agg (rnd a.mine)) w := by
  rw [run_fldSN Tryd.prog 34 0 18 _ _ _ Tryd.underlying34 rfl Tryd.underlying25 rfl (by kernel_rfl) (asd a) w]
  exact congrArg (fun x => Result.ok (Value.agg x) w) (asd_x0 a)
@[go_sem] theorem fld_asd1 (a : AskedD) (w : World) : (fldS 34 (.agg (asd a)) 1).run Tryd.prog w = .ok (.agg (rnd a.theirs)) w := by
  rw [run_fldSN Tryd.prog 34 1 18 _ _ _ Tryd.underlying34 rfl Tryd.underlying25 rfl (by kernel_rfl) (asd a) w]
  exact congrArg (fun x => Result.ok (Value.agg x) w) (asd_x18 a)
@[go_sem] theorem fld_asd2 (cs : Array Value) (w : World) : (fldS 34 (.agg cs) 2).run Tryd.prog w = fldOne Tryd.prog 34 2 36 cs w :=
  run_fldS Tryd.prog 34 2 _ _ _ Tryd.underlying34 rfl Tryd.underlying3 rfl cs w
@[go_sem] theorem fld_asd3 (cs : Array Value) (w : World) : (fldS 34 (.agg cs) 3).run Tryd.prog w = fldOne Tryd.prog 34 3 37 cs w :=
  run_fldS Tryd.prog 34 3 _ _ _ Tryd.underlying34 rfl Tryd.underlying3 rfl cs w
structure AskedDI (a : AskedD) : Prop where
  mine : RoundDI a.mine
  theirs : RoundDI a.theirs
  number : InI a.number
  replica : InI a.replica
set_option maxRecDepth 20000 in
theorem opens_asd : Opens Tryd.prog 34 38 asd AskedDI :=
  ⟨by kernel_rfl, asd_size, fun enc w base sp held fuel cs x h => by
    obtain ⟨xs, m, rfl, rfl, hl, hxl, hx⟩ := DataW.trod_struct Tryd.underlying34 h
    rw [show Tryd.prog.cellsOf 34 = 38 by kernel_rfl] at hl
    have h0 := hx 0 _ rfl
    have h1 := hx 1 _ rfl
    have h2 := hx 2 _ rfl
    have h3 := hx 3 _ rfl
    have hxl : xs.length = 4 := hxl
    rw [List.getElem?_eq_getElem (by omega)] at h0 h1 h2 h3
    obtain ⟨v0, k0, r0⟩ := opens_rnd.cut h0
    obtain ⟨v1, k1, r1⟩ := opens_rnd.cut h1
    obtain ⟨v2, k2, r2⟩ := opens_int.cut h2
    obtain ⟨v3, k3, r3⟩ := opens_int.cut h3
    refine ⟨⟨v0, v1, v2, v3⟩, ?_, ⟨r0, r1, r2, r3⟩⟩
    have e := catCut_eq cs [18, 18, 1, 1] 0
    simp only [catCut, List.drop_zero, Nat.zero_add, Nat.reduceAdd] at e
    replace k0 : List.take 18 cs = _ := k0
    replace k1 : List.take 18 (List.drop 18 cs) = _ := k1
    replace k2 : List.take 1 (List.drop 36 cs) = _ := k2
    replace k3 : List.take 1 (List.drop 37 cs) = _ := k3
    rw [k0, k1, k2, k3, List.drop_of_length_le (by omega), List.append_nil] at e
    rw [← e]
    simp [asd, rnd]⟩
instance : Inhabited AskedD := ⟨asd0⟩

/-! ### barrow/barrowlaw12.Move -/
structure MoveD where
  what : Int
  who : Int
  src : Int
  back : Int
def mvd (a : MoveD) : Array Value := #[.int .i64 a.what, .int .i64 a.who, .int .i64 a.src, .int .i64 a.back]
def mvd0 : MoveD := ⟨0, 0, 0, 0⟩
@[go_sem] theorem mvd_size (a : MoveD) : (mvd a).size = 4 := by unfold mvd; simp
@[go_sem] theorem mvd_flat (a : MoveD) : flat (mvd a) = true := by simp [flat, mvd, Value.oneCell']
@[go_sem] theorem mvd_0 (a : MoveD) : (mvd a)[0]? = some (.int .i64 a.what) := by unfold mvd; simp
@[go_sem] theorem mvd_e0 (a : MoveD) (h : 0 < (mvd a).size) : (mvd a)[0] = .int .i64 a.what := by unfold mvd; simp
@[go_sem] theorem mvd_1 (a : MoveD) : (mvd a)[1]? = some (.int .i64 a.who) := by unfold mvd; simp
@[go_sem] theorem mvd_e1 (a : MoveD) (h : 1 < (mvd a).size) : (mvd a)[1] = .int .i64 a.who := by unfold mvd; simp
@[go_sem] theorem mvd_2 (a : MoveD) : (mvd a)[2]? = some (.int .i64 a.src) := by unfold mvd; simp
@[go_sem] theorem mvd_e2 (a : MoveD) (h : 2 < (mvd a).size) : (mvd a)[2] = .int .i64 a.src := by unfold mvd; simp
@[go_sem] theorem mvd_3 (a : MoveD) : (mvd a)[3]? = some (.int .i64 a.back) := by unfold mvd; simp
@[go_sem] theorem mvd_e3 (a : MoveD) (h : 3 < (mvd a).size) : (mvd a)[3] = .int .i64 a.back := by unfold mvd; simp
@[go_sem] theorem mvd_s0 (a : MoveD) (v : Int) : (mvd a).setIfInBounds 0 (.int .i64 v) = mvd { a with what := v } := by unfold mvd; simp
@[go_sem] theorem mvd_s1 (a : MoveD) (v : Int) : (mvd a).setIfInBounds 1 (.int .i64 v) = mvd { a with who := v } := by unfold mvd; simp
@[go_sem] theorem mvd_s2 (a : MoveD) (v : Int) : (mvd a).setIfInBounds 2 (.int .i64 v) = mvd { a with src := v } := by unfold mvd; simp
@[go_sem] theorem mvd_s3 (a : MoveD) (v : Int) : (mvd a).setIfInBounds 3 (.int .i64 v) = mvd { a with back := v } := by unfold mvd; simp
@[go_sem ↓] theorem field_mvd (x : Value) (f : Nat) : Instr.field 80 x f = fldS 80 x f := (fldS_eq 80 x f).symm
@[go_sem] theorem fld_mvd0 (cs : Array Value) (w : World) : (fldS 80 (.agg cs) 0).run Tryd.prog w = fldOne Tryd.prog 80 0 0 cs w :=
  run_fldS Tryd.prog 80 0 _ _ _ Tryd.underlying80 rfl Tryd.underlying3 rfl cs w
@[go_sem] theorem fld_mvd1 (cs : Array Value) (w : World) : (fldS 80 (.agg cs) 1).run Tryd.prog w = fldOne Tryd.prog 80 1 1 cs w :=
  run_fldS Tryd.prog 80 1 _ _ _ Tryd.underlying80 rfl Tryd.underlying3 rfl cs w
@[go_sem] theorem fld_mvd2 (cs : Array Value) (w : World) : (fldS 80 (.agg cs) 2).run Tryd.prog w = fldOne Tryd.prog 80 2 2 cs w :=
  run_fldS Tryd.prog 80 2 _ _ _ Tryd.underlying80 rfl Tryd.underlying3 rfl cs w
@[go_sem] theorem fld_mvd3 (cs : Array Value) (w : World) : (fldS 80 (.agg cs) 3).run Tryd.prog w = fldOne Tryd.prog 80 3 3 cs w :=
  run_fldS Tryd.prog 80 3 _ _ _ Tryd.underlying80 rfl Tryd.underlying3 rfl cs w
def mvdEq (a b : MoveD) : Bool := a.what == b.what && (a.who == b.who && (a.src == b.src && (a.back == b.back)))
@[go_sem high] theorem neq_mvd (a b : MoveD) (w : World) : (binOp .neq 80 (.agg (mvd a)) (.agg (mvd b))).run Tryd.prog w = .ok (.bool (!mvdEq a b)) w := by
  unfold mvd mvdEq
  go_simp
  (repeat' split) <;> simp_all
@[go_sem high] theorem eql_mvd (a b : MoveD) (w : World) : (binOp .eql 80 (.agg (mvd a)) (.agg (mvd b))).run Tryd.prog w = .ok (.bool (mvdEq a b)) w := by
  unfold mvd mvdEq
  go_simp
  (repeat' split) <;> simp_all
theorem mvdEq_iff {a b : MoveD} : mvdEq a b = true ↔ a = b := by
  obtain ⟨a0, a1, a2, a3⟩ := a
  obtain ⟨b0, b1, b2, b3⟩ := b
  simp [mvdEq]
theorem mvdEq_refl (a : MoveD) : mvdEq a a = true := mvdEq_iff.2 rfl
structure MoveDI (a : MoveD) : Prop where
  what : InI a.what
  who : InI a.who
  src : InI a.src
  back : InI a.back
set_option maxRecDepth 20000 in
theorem opens_mvd : Opens Tryd.prog 80 4 mvd MoveDI :=
  ⟨by kernel_rfl, mvd_size, fun enc w base sp held fuel cs x h => by
    obtain ⟨xs, m, rfl, rfl, hl, hxl, hx⟩ := DataW.trod_struct Tryd.underlying80 h
    rw [show Tryd.prog.cellsOf 80 = 4 by kernel_rfl] at hl
    have h0 := hx 0 _ rfl
    have h1 := hx 1 _ rfl
    have h2 := hx 2 _ rfl
    have h3 := hx 3 _ rfl
    have hxl : xs.length = 4 := hxl
    rw [List.getElem?_eq_getElem (by omega)] at h0 h1 h2 h3
    obtain ⟨v0, k0, r0⟩ := opens_int.cut h0
    obtain ⟨v1, k1, r1⟩ := opens_int.cut h1
    obtain ⟨v2, k2, r2⟩ := opens_int.cut h2
    obtain ⟨v3, k3, r3⟩ := opens_int.cut h3
    refine ⟨⟨v0, v1, v2, v3⟩, ?_, ⟨r0, r1, r2, r3⟩⟩
    have e := catCut_eq cs [1, 1, 1, 1] 0
    simp only [catCut, List.drop_zero, Nat.zero_add, Nat.reduceAdd] at e
    replace k0 : List.take 1 cs = _ := k0
    replace k1 : List.take 1 (List.drop 1 cs) = _ := k1
    replace k2 : List.take 1 (List.drop 2 cs) = _ := k2
    replace k3 : List.take 1 (List.drop 3 cs) = _ := k3
    rw [k0, k1, k2, k3, List.drop_of_length_le (by omega), List.append_nil] at e
    rw [← e]
    simp [mvd]⟩
instance : Inhabited MoveD := ⟨mvd0⟩

/-! ### barrow/barrowlaw12.world -/
structure WrlD where
  dp : Option Addr
  dn : Nat
  dc : Nat
  have_p : Option Addr
  have_n : Nat
  have_c : Nat
  saidp : Option Addr
  saidn : Nat
  saidc : Nat
def wrl (a : WrlD) : Array Value := #[.slice a.dp a.dn a.dc, .slice a.have_p a.have_n a.have_c, .slice a.saidp a.saidn a.saidc]
def wrl0 : WrlD := ⟨none, 0, 0, none, 0, 0, none, 0, 0⟩
@[go_sem] theorem wrl_size (a : WrlD) : (wrl a).size = 3 := by unfold wrl; simp
@[go_sem] theorem wrl_flat (a : WrlD) : flat (wrl a) = true := by simp [flat, wrl, Value.oneCell']
@[go_sem] theorem wrl_0 (a : WrlD) : (wrl a)[0]? = some (.slice a.dp a.dn a.dc) := by unfold wrl; simp
@[go_sem] theorem wrl_e0 (a : WrlD) (h : 0 < (wrl a).size) : (wrl a)[0] = .slice a.dp a.dn a.dc := by unfold wrl; simp
@[go_sem] theorem wrl_1 (a : WrlD) : (wrl a)[1]? = some (.slice a.have_p a.have_n a.have_c) := by unfold wrl; simp
@[go_sem] theorem wrl_e1 (a : WrlD) (h : 1 < (wrl a).size) : (wrl a)[1] = .slice a.have_p a.have_n a.have_c := by unfold wrl; simp
@[go_sem] theorem wrl_2 (a : WrlD) : (wrl a)[2]? = some (.slice a.saidp a.saidn a.saidc) := by unfold wrl; simp
@[go_sem] theorem wrl_e2 (a : WrlD) (h : 2 < (wrl a).size) : (wrl a)[2] = .slice a.saidp a.saidn a.saidc := by unfold wrl; simp
@[go_sem] theorem wrl_s0 (a : WrlD) (p : Option Addr) (n c : Nat) : (wrl a).setIfInBounds 0 (.slice p n c) = wrl { a with dp := p, dn := n, dc := c } := by unfold wrl; simp
@[go_sem] theorem wrl_s1 (a : WrlD) (p : Option Addr) (n c : Nat) : (wrl a).setIfInBounds 1 (.slice p n c) = wrl { a with have_p := p, have_n := n, have_c := c } := by unfold wrl; simp
@[go_sem] theorem wrl_s2 (a : WrlD) (p : Option Addr) (n c : Nat) : (wrl a).setIfInBounds 2 (.slice p n c) = wrl { a with saidp := p, saidn := n, saidc := c } := by unfold wrl; simp
@[go_sem ↓] theorem field_wrl (x : Value) (f : Nat) : Instr.field 49 x f = fldS 49 x f := (fldS_eq 49 x f).symm
@[go_sem] theorem fld_wrl0 (cs : Array Value) (w : World) : (fldS 49 (.agg cs) 0).run Tryd.prog w = fldOne Tryd.prog 49 0 0 cs w :=
  run_fldS Tryd.prog 49 0 _ _ _ Tryd.underlying49 rfl Tryd.underlying45 rfl cs w
@[go_sem] theorem fld_wrl1 (cs : Array Value) (w : World) : (fldS 49 (.agg cs) 1).run Tryd.prog w = fldOne Tryd.prog 49 1 1 cs w :=
  run_fldS Tryd.prog 49 1 _ _ _ Tryd.underlying49 rfl Tryd.underlying46 rfl cs w
@[go_sem] theorem fld_wrl2 (cs : Array Value) (w : World) : (fldS 49 (.agg cs) 2).run Tryd.prog w = fldOne Tryd.prog 49 2 2 cs w :=
  run_fldS Tryd.prog 49 2 _ _ _ Tryd.underlying49 rfl Tryd.underlying47 rfl cs w
instance : Inhabited WrlD := ⟨wrl0⟩

/-! ### barrow/api.Link -/
structure LinkD where
  layer : ByteArray
  call : ByteArray
  pos : Int
def lnk (a : LinkD) : Array Value := #[.string a.layer, .string a.call, .int .i64 a.pos]
def lnk0 : LinkD := ⟨.empty, .empty, 0⟩
@[go_sem] theorem lnk_size (a : LinkD) : (lnk a).size = 3 := by unfold lnk; simp
@[go_sem] theorem lnk_flat (a : LinkD) : flat (lnk a) = true := by simp [flat, lnk, Value.oneCell']
@[go_sem] theorem lnk_0 (a : LinkD) : (lnk a)[0]? = some (.string a.layer) := by unfold lnk; simp
@[go_sem] theorem lnk_e0 (a : LinkD) (h : 0 < (lnk a).size) : (lnk a)[0] = .string a.layer := by unfold lnk; simp
@[go_sem] theorem lnk_1 (a : LinkD) : (lnk a)[1]? = some (.string a.call) := by unfold lnk; simp
@[go_sem] theorem lnk_e1 (a : LinkD) (h : 1 < (lnk a).size) : (lnk a)[1] = .string a.call := by unfold lnk; simp
@[go_sem] theorem lnk_2 (a : LinkD) : (lnk a)[2]? = some (.int .i64 a.pos) := by unfold lnk; simp
@[go_sem] theorem lnk_e2 (a : LinkD) (h : 2 < (lnk a).size) : (lnk a)[2] = .int .i64 a.pos := by unfold lnk; simp
@[go_sem] theorem lnk_s0 (a : LinkD) (v : ByteArray) : (lnk a).setIfInBounds 0 (.string v) = lnk { a with layer := v } := by unfold lnk; simp
@[go_sem] theorem lnk_s1 (a : LinkD) (v : ByteArray) : (lnk a).setIfInBounds 1 (.string v) = lnk { a with call := v } := by unfold lnk; simp
@[go_sem] theorem lnk_s2 (a : LinkD) (v : Int) : (lnk a).setIfInBounds 2 (.int .i64 v) = lnk { a with pos := v } := by unfold lnk; simp
@[go_sem ↓] theorem field_lnk (x : Value) (f : Nat) : Instr.field 105 x f = fldS 105 x f := (fldS_eq 105 x f).symm
@[go_sem] theorem fld_lnk0 (cs : Array Value) (w : World) : (fldS 105 (.agg cs) 0).run Tryd.prog w = fldOne Tryd.prog 105 0 0 cs w :=
  run_fldS Tryd.prog 105 0 _ _ _ Tryd.underlying105 rfl Tryd.underlying9 rfl cs w
@[go_sem] theorem fld_lnk1 (cs : Array Value) (w : World) : (fldS 105 (.agg cs) 1).run Tryd.prog w = fldOne Tryd.prog 105 1 1 cs w :=
  run_fldS Tryd.prog 105 1 _ _ _ Tryd.underlying105 rfl Tryd.underlying9 rfl cs w
@[go_sem] theorem fld_lnk2 (cs : Array Value) (w : World) : (fldS 105 (.agg cs) 2).run Tryd.prog w = fldOne Tryd.prog 105 2 2 cs w :=
  run_fldS Tryd.prog 105 2 _ _ _ Tryd.underlying105 rfl Tryd.underlying3 rfl cs w
def lnkEq (a b : LinkD) : Bool := (a.layer.toList == b.layer.toList) && ((a.call.toList == b.call.toList) && (a.pos == b.pos))
@[go_sem high] theorem neq_lnk (a b : LinkD) (w : World) : (binOp .neq 105 (.agg (lnk a)) (.agg (lnk b))).run Tryd.prog w = .ok (.bool (!lnkEq a b)) w := by
  unfold lnk lnkEq
  go_simp
  (repeat' split) <;> simp_all
@[go_sem high] theorem eql_lnk (a b : LinkD) (w : World) : (binOp .eql 105 (.agg (lnk a)) (.agg (lnk b))).run Tryd.prog w = .ok (.bool (lnkEq a b)) w := by
  unfold lnk lnkEq
  go_simp
  (repeat' split) <;> simp_all
theorem lnkEq_iff {a b : LinkD} : lnkEq a b = true ↔ a = b := by
  obtain ⟨a0, a1, a2⟩ := a
  obtain ⟨b0, b1, b2⟩ := b
  simp [lnkEq, ba_iff]
theorem lnkEq_refl (a : LinkD) : lnkEq a a = true := lnkEq_iff.2 rfl
instance : Inhabited LinkD := ⟨lnk0⟩

/-! ### barrow/barrowref01.No -/
structure NoD where
  code : Int
  chainp : Option Addr
  chainn : Nat
  chainc : Nat
  codesp : Option Addr
  codesn : Nat
  codesc : Nat
def nov (a : NoD) : Array Value := #[.int .i64 a.code, .slice a.chainp a.chainn a.chainc, .slice a.codesp a.codesn a.codesc]
def nov0 : NoD := ⟨0, none, 0, 0, none, 0, 0⟩
@[go_sem] theorem nov_size (a : NoD) : (nov a).size = 3 := by unfold nov; simp
@[go_sem] theorem nov_flat (a : NoD) : flat (nov a) = true := by simp [flat, nov, Value.oneCell']
@[go_sem] theorem nov_0 (a : NoD) : (nov a)[0]? = some (.int .i64 a.code) := by unfold nov; simp
@[go_sem] theorem nov_e0 (a : NoD) (h : 0 < (nov a).size) : (nov a)[0] = .int .i64 a.code := by unfold nov; simp
@[go_sem] theorem nov_1 (a : NoD) : (nov a)[1]? = some (.slice a.chainp a.chainn a.chainc) := by unfold nov; simp
@[go_sem] theorem nov_e1 (a : NoD) (h : 1 < (nov a).size) : (nov a)[1] = .slice a.chainp a.chainn a.chainc := by unfold nov; simp
@[go_sem] theorem nov_2 (a : NoD) : (nov a)[2]? = some (.slice a.codesp a.codesn a.codesc) := by unfold nov; simp
@[go_sem] theorem nov_e2 (a : NoD) (h : 2 < (nov a).size) : (nov a)[2] = .slice a.codesp a.codesn a.codesc := by unfold nov; simp
@[go_sem] theorem nov_s0 (a : NoD) (v : Int) : (nov a).setIfInBounds 0 (.int .i64 v) = nov { a with code := v } := by unfold nov; simp
@[go_sem] theorem nov_s1 (a : NoD) (p : Option Addr) (n c : Nat) : (nov a).setIfInBounds 1 (.slice p n c) = nov { a with chainp := p, chainn := n, chainc := c } := by unfold nov; simp
@[go_sem] theorem nov_s2 (a : NoD) (p : Option Addr) (n c : Nat) : (nov a).setIfInBounds 2 (.slice p n c) = nov { a with codesp := p, codesn := n, codesc := c } := by unfold nov; simp
@[go_sem ↓] theorem field_nov (x : Value) (f : Nat) : Instr.field 61 x f = fldS 61 x f := (fldS_eq 61 x f).symm
@[go_sem] theorem fld_nov0 (cs : Array Value) (w : World) : (fldS 61 (.agg cs) 0).run Tryd.prog w = fldOne Tryd.prog 61 0 0 cs w :=
  run_fldS Tryd.prog 61 0 _ _ _ Tryd.underlying61 rfl Tryd.underlying3 rfl cs w
@[go_sem] theorem fld_nov1 (cs : Array Value) (w : World) : (fldS 61 (.agg cs) 1).run Tryd.prog w = fldOne Tryd.prog 61 1 1 cs w :=
  run_fldS Tryd.prog 61 1 _ _ _ Tryd.underlying61 rfl Tryd.underlying58 rfl cs w
@[go_sem] theorem fld_nov2 (cs : Array Value) (w : World) : (fldS 61 (.agg cs) 2).run Tryd.prog w = fldOne Tryd.prog 61 2 2 cs w :=
  run_fldS Tryd.prog 61 2 _ _ _ Tryd.underlying61 rfl Tryd.underlying59 rfl cs w
instance : Inhabited NoD := ⟨nov0⟩

/-! ### barrow/barrowlaw12.pair -/
structure PairFD where
  d : Option Addr
  r : Option Addr
def prv (a : PairFD) : Array Value := #[.pointer a.d, .pointer a.r]
def prv0 : PairFD := ⟨none, none⟩
@[go_sem] theorem prv_size (a : PairFD) : (prv a).size = 2 := by unfold prv; simp
@[go_sem] theorem prv_flat (a : PairFD) : flat (prv a) = true := by simp [flat, prv, Value.oneCell']
@[go_sem] theorem prv_0 (a : PairFD) : (prv a)[0]? = some (.pointer a.d) := by unfold prv; simp
@[go_sem] theorem prv_e0 (a : PairFD) (h : 0 < (prv a).size) : (prv a)[0] = .pointer a.d := by unfold prv; simp
@[go_sem] theorem prv_1 (a : PairFD) : (prv a)[1]? = some (.pointer a.r) := by unfold prv; simp
@[go_sem] theorem prv_e1 (a : PairFD) (h : 1 < (prv a).size) : (prv a)[1] = .pointer a.r := by unfold prv; simp
@[go_sem] theorem prv_s0 (a : PairFD) (v : Option Addr) : (prv a).setIfInBounds 0 (.pointer v) = prv { a with d := v } := by unfold prv; simp
@[go_sem] theorem prv_s1 (a : PairFD) (v : Option Addr) : (prv a).setIfInBounds 1 (.pointer v) = prv { a with r := v } := by unfold prv; simp
@[go_sem ↓] theorem field_prv (x : Value) (f : Nat) : Instr.field 69 x f = fldS 69 x f := (fldS_eq 69 x f).symm
@[go_sem] theorem fld_prv0 (cs : Array Value) (w : World) : (fldS 69 (.agg cs) 0).run Tryd.prog w = fldOne Tryd.prog 69 0 0 cs w :=
  run_fldS Tryd.prog 69 0 _ _ _ Tryd.underlying69 rfl Tryd.underlying51 rfl cs w
@[go_sem] theorem fld_prv1 (cs : Array Value) (w : World) : (fldS 69 (.agg cs) 1).run Tryd.prog w = fldOne Tryd.prog 69 1 1 cs w :=
  run_fldS Tryd.prog 69 1 _ _ _ Tryd.underlying69 rfl Tryd.underlying64 rfl cs w
instance : Inhabited PairFD := ⟨prv0⟩

end Go.Proofs.YthnkcljgkfpneaaDoor
