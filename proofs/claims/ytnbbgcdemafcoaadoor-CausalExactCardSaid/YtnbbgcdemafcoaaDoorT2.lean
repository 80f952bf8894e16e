/- The types of this seat: clocks and acts as data, and what the walk does with them. -/
import Derived.Test.YtnbbgcdemafcoaaDoorO1
import Derived.Test.YtnbbgcdemafcoaaDoorProg
import Derived.ChangeKeysEq
set_option linter.unusedSimpArgs false
set_option linter.unusedVariables false
namespace Go.Proofs.YtnbbgcdemafcoaaDoor
open Go Go.RowKit

/-! ### a clock -/
def clk (c : Nat → Int) : Array Value := #[.int .i64 (c 0), .int .i64 (c 1), .int .i64 (c 2), .int .i64 (c 3), .int .i64 (c 4), .int .i64 (c 5), .int .i64 (c 6), .int .i64 (c 7)]
def setAt (c : Nat → Int) (i : Nat) (v : Int) : Nat → Int := fun j => if j = i then v else c j
@[go_sem] theorem clk_size (c : Nat → Int) : (clk c).size = 8 := by unfold clk; simp
@[go_sem] theorem clk_flat (c : Nat → Int) : flat (clk c) = true := by simp [flat, clk, Value.oneCell']
theorem clk_get (c : Nat → Int) (i : Nat) (h : i < 8) : (clk c)[i]? = some (.int .i64 (c i)) := by
  unfold clk
  match i, h with
  | 0, _ | 1, _ | 2, _ | 3, _ | 4, _ | 5, _ | 6, _ | 7, _ => rfl
@[go_sem] theorem clk_elem? (c : Nat → Int) (i : Nat) : (clk c)[i]? = if i < 8 then some (.int .i64 (c i)) else none := by
  by_cases h : i < 8
  · rw [if_pos h]; exact clk_get c i h
  · rw [if_neg h]; exact Array.getElem?_eq_none (by rw [clk_size]; omega)
@[go_sem] theorem clk_elem (c : Nat → Int) (i : Nat) (h : i < (clk c).size) : (clk c)[i] = .int .i64 (c i) := by
  have := clk_get c i (by simpa [clk_size] using h)
  rw [Array.getElem?_eq_getElem h] at this
  exact Option.some.inj this
theorem clk_ext {cs : Array Value} {c : Nat → Int} (hs : cs.size = 8) (h : ∀ i, i < 8 → cs[i]? = some (.int .i64 (c i))) : cs = clk c := by
  apply Array.ext_getElem?
  intro i
  by_cases hi : i < 8
  · rw [h i hi, clk_get c i hi]
  · rw [Array.getElem?_eq_none (by omega), Array.getElem?_eq_none (by rw [clk_size]; omega)]
@[go_sem] theorem clk_set (c : Nat → Int) (i : Nat) (v : Int) : (clk c).setIfInBounds i (.int .i64 v) = clk (setAt c i v) := by
  refine clk_ext (by simp [clk_size]) fun j hj => ?_
  by_cases h : i = j
  · subst h
    rw [Array.getElem?_setIfInBounds_self_of_lt (by rw [clk_size]; exact hj)]
    simp [setAt]
  · rw [Array.getElem?_setIfInBounds_ne h, clk_get c j hj]
    simp [setAt, Ne.symm h]
def clkEq (c d : Nat → Int) : Bool := c 0 == d 0 && (c 1 == d 1 && (c 2 == d 2 && (c 3 == d 3 && (c 4 == d 4 && (c 5 == d 5 && (c 6 == d 6 && (c 7 == d 7)))))))
theorem clkEq_refl (c : Nat → Int) : clkEq c c = true := by simp [clkEq]
def clk0 : Nat → Int := fun _ => 0
@[go_sem ↓] theorem load_clk (v : Value) : Instr.loadAt 24 v = ldS 24 v := (ldS_eq 24 v).symm
@[go_sem] theorem ld_clk (w : World) (g o : Nat) : (ldS 24 (.pointer (some ⟨g, o, none⟩))).run Tryd.prog w = ldAgg Tryd.prog 24 8 w g o :=
  run_ldS Tryd.prog 24 8 _ Tryd.underlying24 rfl (by kernel_rfl) w g o
@[go_sem ↓] theorem store_clk (p v : Value) : Instr.storeAt 24 p v = stS 24 p v := (stS_eq 24 p v).symm
@[go_sem] theorem st_clk (w : World) (g o : Nat) (cs : Array Value) : (stS 24 (.pointer (some ⟨g, o, none⟩)) (.agg cs)).run Tryd.prog w = stAgg Tryd.prog 24 8 w g o cs :=
  run_stS Tryd.prog 24 8 (by kernel_rfl) w g o cs
@[go_sem ↓] theorem alloc_clk : Instr.alloc 24 true (.tuple #[]) = alS 24 := (alS_eq 24).symm
@[go_sem] theorem al_clk (w : World) : (alS 24).run Tryd.prog w = .ok (.pointer (some ⟨w.heap.size, 0, none⟩)) (w.alloc (.cells (clk clk0) 24)) :=
  run_alS Tryd.prog 24 (clk clk0) (by kernel_rfl) w
@[go_sem ↓] theorem index_clk (x i : Value) : Instr.index 24 x i = idxS 24 x i := (idxS_eq 24 x i).symm
@[go_sem] theorem idx_clk (cs : Array Value) (k : IntKind) (i : Int) (w : World) : (idxS 24 (.agg cs) (.int k i)).run Tryd.prog w = idxArr Tryd.prog 24 8 cs k i w :=
  run_idxS Tryd.prog 24 3 8 _ Tryd.underlying24 Tryd.underlying3 rfl (by kernel_rfl) cs k i w

theorem equalIn_clk (d : Nat) (c e : Nat → Int) (w : World) : (Op.equalIn (d + 2) 24 (.agg (clk c)) (.agg (clk e))).run Tryd.prog w = .ok (clkEq c e) w := by
  have hi : ∃ i, Tryd.prog.info? 3 = some i ∧ Tryd.prog.cellsOf 3 = 1 := by
    obtain ⟨i, h1, h2⟩ := Option.map_eq_some_iff.1 (show (Tryd.prog.info? 3).map (·.size) = some 1 by kernel_rfl)
    exact ⟨i, h1, by simp [Program.cellsOf, h1, h2]⟩
  obtain ⟨i, hi, hc⟩ := hi
  rw [run_equalIn_array w (d + 1) (clk c) (clk e) Tryd.underlying24 hi, hc]
  have hint : ∀ a b : Int, ∀ w : World, (Op.equalIn (d + 1) 3 (.int .i64 a) (.int .i64 b)).run Tryd.prog w = .ok (a == b) w := fun a b w => run_equalIn_int w d 3 .i64 .i64 a b Tryd.underlying3
  have hpart : ∀ (f : Nat → Int) (j : Nat) (w : World), j < 8 → (part 3 (clk f) j).run Tryd.prog w = .ok (.int .i64 (f j)) w := fun f j w hj => by
    simp [part, run_isAgg (P := Tryd.prog) Tryd.underlying3, isAggD, clk_get f j hj]
  simp only [List.range_eq_range', List.range', Op.eqItems, Nat.mul_one, Sem.run_bind]
  simp [hpart, hint, clkEq]
  by_cases h0 : c 0 = e 0 <;> by_cases h1 : c 1 = e 1 <;> by_cases h2 : c 2 = e 2 <;> by_cases h3 : c 3 = e 3 <;> simp [*] <;>
    by_cases h4 : c 4 = e 4 <;> by_cases h5 : c 5 = e 5 <;> by_cases h6 : c 6 = e 6 <;> by_cases h7 : c 7 = e 7 <;> simp [*]

/-! ### an act -/
structure ActD where
  kind : Int
  pl : Int
  char : Int
  rep : Int
  num : Int
  clock : Nat → Int
def actv (a : ActD) : Array Value :=
  #[.int .i64 a.kind, .int .i64 a.pl, .int .i32 a.char, .int .i64 a.rep, .int .i64 a.num, .int .i64 (a.clock 0), .int .i64 (a.clock 1), .int .i64 (a.clock 2), .int .i64 (a.clock 3), .int .i64 (a.clock 4), .int .i64 (a.clock 5), .int .i64 (a.clock 6), .int .i64 (a.clock 7)]
def act0 : ActD := ⟨0, 0, 0, 0, 0, clk0⟩
@[go_sem] theorem actv_size (a : ActD) : (actv a).size = 13 := by unfold actv; simp
@[go_sem] theorem actv_flat (a : ActD) : flat (actv a) = true := by simp [flat, actv, Value.oneCell']
@[go_sem] theorem actv_0 (a : ActD) : (actv a)[0]? = some (.int .i64 a.kind) := by unfold actv; simp
@[go_sem] theorem actv_1 (a : ActD) : (actv a)[1]? = some (.int .i64 a.pl) := by unfold actv; simp
@[go_sem] theorem actv_2 (a : ActD) : (actv a)[2]? = some (.int .i32 a.char) := by unfold actv; simp
@[go_sem] theorem actv_3 (a : ActD) : (actv a)[3]? = some (.int .i64 a.rep) := by unfold actv; simp
@[go_sem] theorem actv_4 (a : ActD) : (actv a)[4]? = some (.int .i64 a.num) := by unfold actv; simp
theorem actv_clk (a : ActD) (i : Nat) (h : i < 8) : (actv a)[5 + i]? = some (.int .i64 (a.clock i)) := by
  unfold actv
  match i, h with
  | 0, _ | 1, _ | 2, _ | 3, _ | 4, _ | 5, _ | 6, _ | 7, _ => rfl
@[go_sem] theorem actv_5 (a : ActD) (i : Nat) : (actv a)[5 + i]? = if i < 8 then some (.int .i64 (a.clock i)) else none := by
  by_cases h : i < 8
  · rw [if_pos h]; exact actv_clk a i h
  · rw [if_neg h]; exact Array.getElem?_eq_none (by rw [actv_size]; omega)
@[go_sem] theorem actv_e0 (a : ActD) (h : 0 < (actv a).size) : (actv a)[0] = .int .i64 a.kind := by unfold actv; simp
@[go_sem] theorem actv_e1 (a : ActD) (h : 1 < (actv a).size) : (actv a)[1] = .int .i64 a.pl := by unfold actv; simp
@[go_sem] theorem actv_e2 (a : ActD) (h : 2 < (actv a).size) : (actv a)[2] = .int .i32 a.char := by unfold actv; simp
@[go_sem] theorem actv_e3 (a : ActD) (h : 3 < (actv a).size) : (actv a)[3] = .int .i64 a.rep := by unfold actv; simp
@[go_sem] theorem actv_e4 (a : ActD) (h : 4 < (actv a).size) : (actv a)[4] = .int .i64 a.num := by unfold actv; simp
@[go_sem] theorem actv_e5 (a : ActD) (i : Nat) (h : 5 + i < (actv a).size) : (actv a)[5 + i] = .int .i64 (a.clock i) := by
  have := actv_clk a i (by rw [actv_size] at h; omega)
  rw [Array.getElem?_eq_getElem h] at this
  exact Option.some.inj this
@[go_sem] theorem actv_clock (a : ActD) : (actv a).extract 5 13 = clk a.clock := by unfold actv clk; simp
@[go_sem] theorem actv_set4 (a : ActD) (v : Int) : (actv a).setIfInBounds 4 (.int .i64 v) = actv { a with num := v } := by unfold actv; simp
def actEq (a b : ActD) : Bool := (a.kind == b.kind && (a.pl == b.pl && (a.char == b.char && (a.rep == b.rep)))) && (a.num == b.num && clkEq a.clock b.clock)
theorem actEq_refl (a : ActD) : actEq a a = true := by simp [actEq, clkEq_refl]
@[go_sem ↓] theorem load_act (v : Value) : Instr.loadAt 35 v = ldS 35 v := (ldS_eq 35 v).symm
@[go_sem] theorem ld_act (w : World) (g o : Nat) : (ldS 35 (.pointer (some ⟨g, o, none⟩))).run Tryd.prog w = ldAgg Tryd.prog 35 13 w g o :=
  run_ldS Tryd.prog 35 13 _ Tryd.underlying35 rfl (by kernel_rfl) w g o
@[go_sem ↓] theorem store_act (p v : Value) : Instr.storeAt 35 p v = stS 35 p v := (stS_eq 35 p v).symm
@[go_sem] theorem st_act (w : World) (g o : Nat) (cs : Array Value) : (stS 35 (.pointer (some ⟨g, o, none⟩)) (.agg cs)).run Tryd.prog w = stAgg Tryd.prog 35 13 w g o cs :=
  run_stS Tryd.prog 35 13 (by kernel_rfl) w g o cs
@[go_sem ↓] theorem alloc_act : Instr.alloc 35 true (.tuple #[]) = alS 35 := (alS_eq 35).symm
@[go_sem] theorem al_act (w : World) : (alS 35).run Tryd.prog w = .ok (.pointer (some ⟨w.heap.size, 0, none⟩)) (w.alloc (.cells (actv act0) 35)) :=
  run_alS Tryd.prog 35 (actv act0) (by kernel_rfl) w
@[go_sem ↓] theorem field_act (x : Value) (f : Nat) : Instr.field 35 x f = fldS 35 x f := (fldS_eq 35 x f).symm
@[go_sem] theorem fld_act1 (cs : Array Value) (w : World) : (fldS 35 (.agg cs) 1).run Tryd.prog w = fldOne Tryd.prog 35 1 4 cs w :=
  run_fldS Tryd.prog 35 1 _ _ _ Tryd.underlying35 rfl Tryd.underlying3 rfl cs w
@[go_sem ↓] theorem build_act (n : Nat) (ps : Array (Nat × Value)) : Instr.buildSlice 22 n ps = bsS 22 n ps := (bsS_eq 22 n ps).symm
theorem act_info : (Tryd.prog.info? 35).map (fun i => (i.size, i.zero, i.bytes)) = some (13, some (.agg (actv act0)), 104) := by kernel_rfl
@[go_sem] theorem bs_act (a : ActD) (w : World) : (bsS 22 1 #[(0, .agg (actv a))]).run Tryd.prog w = .ok (.slice (some ⟨w.heap.size, 0, none⟩) 1 1) (w.alloc (.cells (actv a) 35)) := by
  rw [run_bsS Tryd.prog 22 35 13 (.agg (actv act0)) Tryd.underlying22 (by kernel_rfl) rfl (by omega) (by omega) _ (actv_size a)]
  unfold bsOne
  rw [if_pos (actv_size a)]
@[go_sem] theorem bs_act0 (w : World) : (bsS 22 0 #[]).run Tryd.prog w = .ok (.slice (some ⟨w.heap.size, 0, none⟩) 0 0) (w.alloc (.cells #[] 35)) := by
  rw [bsS_eq]
  kernel_rfl
theorem ret_act {fn : Func} {R : Ending → World → Prop} {a : Act} {w : World} {p : Tmp} (hr : fn.results = #[.cell p 35]) (g : Nat) (hp : a.tmps.getD p undef = .pointer (some ⟨g, 0, none⟩)) (x : ActD) (hw : win w g 0 13 = some (actv x)) (hdf : a.defers = [])
    (h : R (.returned (.agg (actv x))) w) : bodyPost Tryd.prog fn R .ret a w := ret_cell (n := 13) hr Tryd.underlying35 rfl (by kernel_rfl) g hp _ hw hdf h
theorem ret_act_tmp {fn : Func} {R : Ending → World → Prop} {a : Act} {w : World} {p u : Tmp} (hr : fn.results = #[.cell p 35, .tmp u]) (g : Nat) (hp : a.tmps.getD p undef = .pointer (some ⟨g, 0, none⟩)) (x : ActD) (hw : win w g 0 13 = some (actv x)) (hdf : a.defers = [])
    (h : R (.returned (.tuple #[.agg (actv x), a.tmps.getD u undef])) w) : bodyPost Tryd.prog fn R .ret a w := ret_cell_tmp (n := 13) hr Tryd.underlying35 rfl (by kernel_rfl) g hp _ hw hdf h
@[go_sem high] theorem neq_act (a b : ActD) (w : World) : (binOp .neq 35 (.agg (actv a)) (.agg (actv b))).run Tryd.prog w = .ok (.bool (!actEq a b)) w := by
  have hk : ∀ (d : Nat) (w : World), (Op.equalIn (d + 2) 24 (.agg #[.int .i64 (a.clock 0), .int .i64 (a.clock 1), .int .i64 (a.clock 2), .int .i64 (a.clock 3), .int .i64 (a.clock 4), .int .i64 (a.clock 5), .int .i64 (a.clock 6), .int .i64 (a.clock 7)]) (.agg #[.int .i64 (b.clock 0), .int .i64 (b.clock 1), .int .i64 (b.clock 2), .int .i64 (b.clock 3), .int .i64 (b.clock 4), .int .i64 (b.clock 5), .int .i64 (b.clock 6), .int .i64 (b.clock 7)])).run Tryd.prog w = .ok (clkEq a.clock b.clock) w := fun d w => equalIn_clk d a.clock b.clock w
  unfold actv actEq
  go_simp
  clear hk
  (repeat' split) <;> simp_all
@[go_sem high] theorem eql_act (a b : ActD) (w : World) : (binOp .eql 35 (.agg (actv a)) (.agg (actv b))).run Tryd.prog w = .ok (.bool (actEq a b)) w := by
  have hk : ∀ (d : Nat) (w : World), (Op.equalIn (d + 2) 24 (.agg #[.int .i64 (a.clock 0), .int .i64 (a.clock 1), .int .i64 (a.clock 2), .int .i64 (a.clock 3), .int .i64 (a.clock 4), .int .i64 (a.clock 5), .int .i64 (a.clock 6), .int .i64 (a.clock 7)]) (.agg #[.int .i64 (b.clock 0), .int .i64 (b.clock 1), .int .i64 (b.clock 2), .int .i64 (b.clock 3), .int .i64 (b.clock 4), .int .i64 (b.clock 5), .int .i64 (b.clock 6), .int .i64 (b.clock 7)])).run Tryd.prog w = .ok (clkEq a.clock b.clock) w := fun d w => equalIn_clk d a.clock b.clock w
  unfold actv actEq
  go_simp
  clear hk
  (repeat' split) <;> simp_all

/-! ### read as data -/
def ClkI (c : Nat → Int) : Prop := ∀ i, i < 8 → InI (c i)
theorem opens_clk : Opens Tryd.prog 24 8 clk ClkI := opens_ints Tryd.underlying24 Tryd.underlying3 (by kernel_rfl) (by kernel_rfl) clk_size clk_get
structure ActI (a : ActD) : Prop where
  kind : InI a.kind
  pl : InI a.pl
  char : In32 a.char
  rep : InI a.rep
  num : InI a.num
  clock : ClkI a.clock
theorem opens_int : Opens Tryd.prog 3 1 (fun i : Int => #[.int .i64 i]) InI := opens_i64 Tryd.underlying3 (by kernel_rfl)
theorem opens_rune : Opens Tryd.prog 21 1 (fun i : Int => #[.int .i32 i]) In32 := opens_i32 Tryd.underlying21 (by kernel_rfl)
set_option maxRecDepth 20000 in
theorem opens_act : Opens Tryd.prog 35 13 actv ActI :=
  ⟨by kernel_rfl, actv_size, fun enc w base sp held fuel cs x h => by
    obtain ⟨xs, m, rfl, rfl, hl, hxl, hx⟩ := DataW.trod_struct Tryd.underlying35 h
    rw [show Tryd.prog.cellsOf 35 = 13 by kernel_rfl] at hl
    have h0 := hx 0 _ rfl
    have h1 := hx 1 _ rfl
    have h2 := hx 2 _ rfl
    have hxl : xs.length = 3 := hxl
    rw [List.getElem?_eq_getElem (by omega)] at h0 h1 h2
    obtain ⟨ys, m', rfl, hy', hl', hyl, hy⟩ := DataW.trod_struct Tryd.underlying33 (trod_cut (t := 33) (n := 4) (by kernel_rfl) h0)
    have g0 := hy 0 _ rfl
    have g1 := hy 1 _ rfl
    have g2 := hy 2 _ rfl
    have g3 := hy 3 _ rfl
    have hyl : ys.length = 4 := hyl
    rw [List.getElem?_eq_getElem (by omega)] at g0 g1 g2 g3
    obtain ⟨kind, k0, r0⟩ := opens_int.cut g0
    obtain ⟨pl, k1, r1⟩ := opens_int.cut g1
    obtain ⟨char, k2, r2⟩ := opens_rune.cut g2
    obtain ⟨rep, k3, r3⟩ := opens_int.cut g3
    obtain ⟨num, k4, r4⟩ := opens_int.cut h1
    obtain ⟨c, k5, r5⟩ := opens_clk.cut h2
    refine ⟨⟨kind, pl, char, rep, num, c⟩, ?_, ⟨r0, r1, r2, r3, r4, r5⟩⟩
    match cs, hl with
    | [c0, c1, c2, c3, c4, c5, c6, c7, c8, c9, c10, c11, c12], _ =>
      dsimp only at k0 k1 k2 k3 k4 k5
      simp [clk] at k0 k1 k2 k3 k4 k5
      simp [actv, *]⟩
instance : Inhabited ActD := ⟨act0⟩
end Go.Proofs.YtnbbgcdemafcoaaDoor
