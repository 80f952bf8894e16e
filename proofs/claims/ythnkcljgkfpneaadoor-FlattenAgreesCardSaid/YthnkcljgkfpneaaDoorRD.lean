/- Rounds and desks as data. -/
import Derived.Test.YthnkcljgkfpneaaDoorT2
set_option linter.unusedSimpArgs false
set_option linter.unusedVariables false
namespace Go.Proofs.YthnkcljgkfpneaaDoor
open Go Go.RowKit

def catR (f : Nat → RoundD) : Nat → Array Value
  | 0 => #[]
  | n + 1 => catR f n ++ rnd (f n)
theorem catR_size (f : Nat → RoundD) (n : Nat) : (catR f n).size = 18 * n := by
  induction n with
  | zero => rfl
  | succ n ih => simp only [catR, Array.size_append, ih, rnd_size]; omega
theorem catR_get (f : Nat → RoundD) (n i j : Nat) (hi : i < n) (hj : j < 18) : (catR f n)[i * 18 + j]? = (rnd (f i))[j]? := by
  induction n with
  | zero => omega
  | succ n ih =>
    simp only [catR]
    by_cases h : i < n
    · rw [Array.getElem?_append_left (by rw [catR_size]; omega)]
      exact ih h
    · have : i = n := by omega
      subst this
      rw [Array.getElem?_append_right (by rw [catR_size]; omega), catR_size]
      congr 1
      omega
theorem rnd_cell (r : RoundD) (j : Nat) (hj : j < 18) : ∃ x, (rnd r)[j]? = some (.int .i64 x) := by
  by_cases h0 : j = 0
  · exact ⟨_, by rw [h0]; exact rnd_0 r⟩
  by_cases h1 : j < 9
  · exact ⟨_, by rw [show j = 1 + (j - 1) by omega]; exact rnd_clk1 r (j - 1) (by omega)⟩
  by_cases h2 : j < 17
  · exact ⟨_, by rw [show j = 9 + (j - 9) by omega]; exact rnd_clk9 r (j - 9) (by omega)⟩
  · exact ⟨_, by rw [show j = 17 by omega]; exact rnd_17 r⟩
def rnds (f : Nat → RoundD) : Array Value := catR f 8
def rnds0 : Nat → RoundD := fun _ => rnd0
def updR (f : Nat → RoundD) (i : Nat) (r : RoundD) : Nat → RoundD := fun j => if j = i then r else f j
theorem updR_same (f : Nat → RoundD) (i : Nat) (r : RoundD) : updR f i r i = r := if_pos rfl
theorem updR_other (f : Nat → RoundD) {i j : Nat} (r : RoundD) (h : j ≠ i) : updR f i r j = f j := if_neg h
@[go_sem] theorem rnds_size (f : Nat → RoundD) : (rnds f).size = 144 := catR_size f 8
theorem rnds_get (f : Nat → RoundD) (i j : Nat) (hi : i < 8) (hj : j < 18) : (rnds f)[i * 18 + j]? = (rnd (f i))[j]? := catR_get f 8 i j hi hj
theorem rnds_ext {cs : Array Value} {f : Nat → RoundD} (hs : cs.size = 144) (h : ∀ i j, i < 8 → j < 18 → cs[i * 18 + j]? = (rnd (f i))[j]?) : cs = rnds f := by
  apply Array.ext_getElem?
  intro q
  by_cases hq : q < 144
  · have e : q = q / 18 * 18 + q % 18 := by omega
    rw [e, h _ _ (by omega) (by omega), rnds_get f _ _ (by omega) (by omega)]
  · rw [Array.getElem?_eq_none (by omega), Array.getElem?_eq_none (by rw [rnds_size]; omega)]
@[go_sem] theorem rnds_flat (f : Nat → RoundD) : flat (rnds f) = true := by
  unfold flat
  rw [Array.all_eq_true]
  intro q hq
  have hq2 : q < 144 := by rw [rnds_size] at hq; exact hq
  obtain ⟨x, hx⟩ := rnd_cell (f (q / 18)) (q % 18) (by omega)
  have e : q = q / 18 * 18 + q % 18 := by omega
  have h := rnds_get f (q / 18) (q % 18) (by omega) (by omega)
  rw [← e, hx, Array.getElem?_eq_getElem hq] at h
  rw [Option.some.inj h]
  rfl
theorem rnds_extract (f : Nat → RoundD) (i : Nat) (hi : i < 8) : (rnds f).extract (i * 18) (i * 18 + 18) = rnd (f i) := by
  apply Array.ext_getElem?
  intro j
  by_cases hj : j < 18
  · rw [Array.getElem?_extract, if_pos (by rw [rnds_size]; omega), rnds_get f i j hi hj]
  · rw [Array.getElem?_eq_none (by rw [Array.size_extract, rnds_size]; omega), Array.getElem?_eq_none (by rw [rnd_size]; omega)]
theorem rnds_congr {f g : Nat → RoundD} (h : ∀ i, i < 8 → f i = g i) : rnds f = rnds g := rnds_ext (rnds_size f) fun i j hi hj => by rw [rnds_get f i j hi hj, h i hi]
theorem rnds_set {f : Nat → RoundD} {i j : Nat} {v : Value} {r : RoundD} (hj : j < 18) (hr : (rnd (f i)).setIfInBounds j v = rnd r) : (rnds f).setIfInBounds (i * 18 + j) v = rnds (updR f i r) := by
  refine rnds_ext (by simp [rnds_size]) fun a b ha hb => ?_
  by_cases h : a = i
  · subst h
    rw [updR_same, ← hr]
    by_cases hjb : j = b
    · subst hjb
      rw [Array.getElem?_setIfInBounds_self_of_lt (by rw [rnds_size]; omega), Array.getElem?_setIfInBounds_self_of_lt (by rw [rnd_size]; omega)]
    · rw [Array.getElem?_setIfInBounds_ne (by omega), Array.getElem?_setIfInBounds_ne hjb, rnds_get f a b ha hb]
  · rw [updR_other f r h, Array.getElem?_setIfInBounds_ne (by omega), rnds_get f a b ha hb]
def rndsEq (f g : Nat → RoundD) : Bool := (List.range 8).all fun i => rndEq (f i) (g i)
theorem rndsEq_iff {f g : Nat → RoundD} : rndsEq f g = true ↔ ∀ i, i < 8 → rndEq (f i) (g i) = true := by simp [rndsEq, List.all_eq_true]
theorem equalIn_rnd (a b : RoundD) (w : World) : (Op.equalIn 9999 25 (.agg (rnd a)) (.agg (rnd b))).run Tryd.prog w = .ok (rndEq a b) w := by
  have hk1 : ∀ (d : Nat) (w : World), (Op.equalIn (d + 2) 23 (.agg #[.int .i64 (a.cut 0), .int .i64 (a.cut 1), .int .i64 (a.cut 2), .int .i64 (a.cut 3), .int .i64 (a.cut 4), .int .i64 (a.cut 5), .int .i64 (a.cut 6), .int .i64 (a.cut 7)]) (.agg #[.int .i64 (b.cut 0), .int .i64 (b.cut 1), .int .i64 (b.cut 2), .int .i64 (b.cut 3), .int .i64 (b.cut 4), .int .i64 (b.cut 5), .int .i64 (b.cut 6), .int .i64 (b.cut 7)])).run Tryd.prog w = .ok (clkEq a.cut b.cut) w := fun d w => equalIn_clk d a.cut b.cut w
  have hk2 : ∀ (d : Nat) (w : World), (Op.equalIn (d + 2) 22 (.agg #[.int .i64 (a.votes 0), .int .i64 (a.votes 1), .int .i64 (a.votes 2), .int .i64 (a.votes 3), .int .i64 (a.votes 4), .int .i64 (a.votes 5), .int .i64 (a.votes 6), .int .i64 (a.votes 7)]) (.agg #[.int .i64 (b.votes 0), .int .i64 (b.votes 1), .int .i64 (b.votes 2), .int .i64 (b.votes 3), .int .i64 (b.votes 4), .int .i64 (b.votes 5), .int .i64 (b.votes 6), .int .i64 (b.votes 7)])).run Tryd.prog w = .ok (clkEq a.votes b.votes) w := fun d w => equalIn_ar d a.votes b.votes w
  unfold rnd rndEq
  go_simp
  clear hk1
  clear hk2
  (repeat' split) <;> simp_all
theorem cellsOf_rnd : Tryd.prog.cellsOf 25 = 18 := by kernel_rfl
theorem items_rnds (f g : Nat → RoundD) (w : World) (is : List Nat) (hi : ∀ i ∈ is, i < 8) : (Op.eqItems 9999 25 18 (rnds f) (rnds g) is).run Tryd.prog w = .ok (is.all fun i => rndEq (f i) (g i)) w := by
  have hp : ∀ (f : Nat → RoundD) (j : Nat) (w : World), j < 8 → (part 25 (rnds f) (j * 18)).run Tryd.prog w = .ok (.agg (rnd (f j))) w := fun f j w hj => by
    have hi : ∃ i, Tryd.prog.info? 25 = some i ∧ i.size = 18 := by
      obtain ⟨i, h1, h2⟩ := Option.map_eq_some_iff.1 (show (Tryd.prog.info? 25).map (·.size) = some 18 by kernel_rfl)
      exact ⟨i, h1, h2⟩
    obtain ⟨i, h1, h2⟩ := hi
    simp [part, run_isAgg (P := Tryd.prog) Tryd.underlying25, isAggD, sizeOf, typeInfo, h1, h2, rnds_extract f j hj]
  induction is with
  | nil => simp [Op.eqItems]
  | cons j is ih =>
    have hj := hi j (by simp)
    simp only [Op.eqItems, Sem.run_bind, hp f j _ hj, hp g j _ hj, Result.andThen_ok, equalIn_rnd, List.all_cons]
    cases h : rndEq (f j) (g j)
    · simp
    · simp [ih fun i hi' => hi i (by simp [hi'])]
theorem equalIn_rnds (f g : Nat → RoundD) (w : World) : (Op.equalIn 10000 38 (.agg (rnds f)) (.agg (rnds g))).run Tryd.prog w = .ok (rndsEq f g) w := by
  have hi : ∃ i, Tryd.prog.info? 25 = some i := by
    obtain ⟨i, h1, h2⟩ := Option.map_eq_some_iff.1 (show (Tryd.prog.info? 25).map (·.size) = some 18 by kernel_rfl)
    exact ⟨i, h1⟩
  obtain ⟨i, hi⟩ := hi
  rw [run_equalIn_array w 9999 (rnds f) (rnds g) Tryd.underlying38 hi, cellsOf_rnd]
  exact items_rnds f g w _ fun i hi => List.mem_range.1 hi
@[go_sem high] theorem eql_rnds (f g : Nat → RoundD) (w : World) : (binOp .eql 38 (.agg (rnds f)) (.agg (rnds g))).run Tryd.prog w = .ok (.bool (rndsEq f g)) w := by
  rw [run_eql_struct, equalIn_rnds, Result.andThen_ok]
@[go_sem high] theorem neq_rnds (f g : Nat → RoundD) (w : World) : (binOp .neq 38 (.agg (rnds f)) (.agg (rnds g))).run Tryd.prog w = .ok (.bool (!rndsEq f g)) w := by
  rw [run_neq_struct, equalIn_rnds, Result.andThen_ok]
@[go_sem ↓] theorem index_rnds (x i : Value) : Instr.index 38 x i = idxS 38 x i := (idxS_eq 38 x i).symm
theorem idx_rnds (f : Nat → RoundD) (k : Nat) (hk : k < 8) (w : World) : (idxS 38 (.agg (rnds f)) (.int .i64 (k : Int))).run Tryd.prog w = .ok (.agg (rnd (f k))) w := by
  rw [run_idxSN Tryd.prog 38 25 8 18 _ Tryd.underlying38 Tryd.underlying25 rfl (by kernel_rfl) (rnds f) .i64 k w]
  unfold idxArrN
  rw [if_pos (by omega), Int.toNat_natCast, rnds_extract f k hk]
@[go_sem] theorem idx_rnds0 (f : Nat → RoundD) (w : World) : (idxS 38 (.agg (rnds f)) (.int .i64 0)).run Tryd.prog w = .ok (.agg (rnd (f 0))) w := idx_rnds f 0 (by omega) w
/-- A desk: how many, which one, its rounds. -/
structure DeskD where
  n : Int
  s : Int
  r : Nat → RoundD
def dsk (d : DeskD) : Array Value := #[.int .i64 d.n, .int .i64 d.s] ++ rnds d.r
def dsk0 : DeskD := ⟨0, 0, rnds0⟩
@[go_sem] theorem dsk_size (d : DeskD) : (dsk d).size = 146 := by simp [dsk, rnds_size]
@[go_sem] theorem dsk_flat (d : DeskD) : flat (dsk d) = true := by
  have := rnds_flat d.r
  unfold flat dsk at *
  rw [Array.all_append, this]
  simp [Value.oneCell']
@[go_sem] theorem dsk_0 (d : DeskD) : (dsk d)[0]? = some (.int .i64 d.n) := by unfold dsk; rw [Array.getElem?_append_left (by simp)]; rfl
@[go_sem] theorem dsk_1 (d : DeskD) : (dsk d)[1]? = some (.int .i64 d.s) := by unfold dsk; rw [Array.getElem?_append_left (by simp)]; rfl
theorem dsk_at (d : DeskD) (q : Nat) : (dsk d)[2 + q]? = (rnds d.r)[q]? := by
  unfold dsk
  rw [Array.getElem?_append_right (by simp)]
  congr 1
  simp
theorem dsk_get (d : DeskD) (i j : Nat) (hi : i < 8) (hj : j < 18) : (dsk d)[2 + i * 18 + j]? = (rnd (d.r i))[j]? := by
  rw [Nat.add_assoc, dsk_at, rnds_get d.r i j hi hj]
theorem dsk_v (d : DeskD) {i s : Nat} (hi : i < 8) (hs : s < 8) : (dsk d)[2 + i * 18 + 9 + s]? = some (.int .i64 ((d.r i).votes s)) := by
  rw [show 2 + i * 18 + 9 + s = 2 + i * 18 + (9 + s) by omega, dsk_get d i _ hi (by omega), rnd_clk9 _ s hs]
theorem dsk_num (d : DeskD) {i : Nat} (hi : i < 8) : (dsk d)[2 + i * 18]? = some (.int .i64 (d.r i).num) := by
  have := dsk_get d i 0 hi (by omega)
  rw [rnd_0] at this
  exact this
theorem dsk_dec (d : DeskD) {i : Nat} (hi : i < 8) : (dsk d)[2 + i * 18 + 17]? = some (.int .i64 (d.r i).dec) := by rw [dsk_get d i 17 hi (by omega), rnd_17]
theorem dsk_rnd (d : DeskD) {i : Nat} (hi : i < 8) : (dsk d).extract (2 + i * 18) (2 + i * 18 + 18) = rnd (d.r i) := by
  apply Array.ext_getElem?
  intro j
  by_cases hj : j < 18
  · rw [Array.getElem?_extract, if_pos (by rw [dsk_size]; omega), dsk_get d i j hi hj]
  · rw [Array.getElem?_eq_none (by rw [Array.size_extract, dsk_size]; omega), Array.getElem?_eq_none (by rw [rnd_size]; omega)]
theorem dsk_cut (d : DeskD) {i : Nat} (hi : i < 8) : (dsk d).extract (2 + i * 18 + 1) (2 + i * 18 + 1 + 8) = clk (d.r i).cut := by
  apply Array.ext_getElem?
  intro j
  by_cases hj : j < 8
  · rw [Array.getElem?_extract, if_pos (by rw [dsk_size]; omega), show 2 + i * 18 + 1 + j = 2 + i * 18 + (1 + j) by omega, dsk_get d i _ hi (by omega), rnd_clk1 _ j hj, clk_get _ j hj]
  · rw [Array.getElem?_eq_none (by rw [Array.size_extract, dsk_size]; omega), Array.getElem?_eq_none (by rw [clk_size]; omega)]
@[go_sem] theorem dsk_rnds (d : DeskD) : (dsk d).extract 2 146 = rnds d.r := by
  apply Array.ext_getElem?
  intro j
  by_cases hj : j < 144
  · rw [Array.getElem?_extract, if_pos (by rw [dsk_size]; omega), dsk_at]
  · rw [Array.getElem?_eq_none (by rw [Array.size_extract, dsk_size]; omega), Array.getElem?_eq_none (by rw [rnds_size]; omega)]
theorem dsk_ext {cs : Array Value} {d : DeskD} (hs : cs.size = 146) (h0 : cs[0]? = some (.int .i64 d.n)) (h1 : cs[1]? = some (.int .i64 d.s)) (h : ∀ q, q < 144 → cs[2 + q]? = (rnds d.r)[q]?) : cs = dsk d := by
  apply Array.ext_getElem?
  intro q
  by_cases hq : q < 146
  · match q, hq with
    | 0, _ => rw [h0, dsk_0]
    | 1, _ => rw [h1, dsk_1]
    | q + 2, hq => rw [show q + 2 = 2 + q by omega, h q (by omega), dsk_at]
  · rw [Array.getElem?_eq_none (by omega), Array.getElem?_eq_none (by rw [dsk_size]; omega)]
theorem dsk_set {d : DeskD} {i j : Nat} {v : Value} {r : RoundD} (hj : j < 18) (hr : (rnd (d.r i)).setIfInBounds j v = rnd r) : (dsk d).setIfInBounds (2 + i * 18 + j) v = dsk { d with r := updR d.r i r } := by
  refine dsk_ext (by simp [dsk_size]) (by rw [Array.getElem?_setIfInBounds_ne (by omega), dsk_0]) (by rw [Array.getElem?_setIfInBounds_ne (by omega), dsk_1]) fun q hq => ?_
  rw [← rnds_set hj hr]
  by_cases h : i * 18 + j = q
  · subst h
    rw [show 2 + (i * 18 + j) = 2 + i * 18 + j by omega, Array.getElem?_setIfInBounds_self_of_lt (by rw [dsk_size]; omega), Array.getElem?_setIfInBounds_self_of_lt (by rw [rnds_size]; omega)]
  · rw [Array.getElem?_setIfInBounds_ne (by omega), Array.getElem?_setIfInBounds_ne h, dsk_at]
theorem dsk_sv (d : DeskD) (i : Nat) {s : Nat} (hs : s < 8) (v : Int) : (dsk d).setIfInBounds (2 + i * 18 + 9 + s) (.int .i64 v) = dsk { d with r := updR d.r i { d.r i with votes := setAt (d.r i).votes s v } } := by
  rw [show 2 + i * 18 + 9 + s = 2 + i * 18 + (9 + s) by omega]
  exact dsk_set (by omega) (rnd_sc9 _ s hs v)
@[go_sem] theorem dsk_sd (d : DeskD) (i : Nat) (v : Int) : (dsk d).setIfInBounds (2 + i * 18 + 17) (.int .i64 v) = dsk { d with r := updR d.r i { d.r i with dec := v } } := dsk_set (by omega) (rnd_s17 _ v)
theorem splice_get {cs xs : Array Value} {o j : Nat} (h : o + xs.size ≤ cs.size) : (splice cs o xs)[j]? = if o ≤ j ∧ j < o + xs.size then xs[j - o]? else cs[j]? := by
  obtain ⟨cs⟩ := cs
  obtain ⟨xs⟩ := xs
  simp only [List.size_toArray] at h
  simp only [splice, List.getElem?_toArray, List.size_toArray]
  have hl : (cs.take o).length = o := by rw [List.length_take]; omega
  by_cases h1 : j < o
  · rw [if_neg (by omega), List.append_assoc, List.getElem?_append_left (by omega), List.getElem?_take, if_pos h1]
  · by_cases h2 : j < o + xs.length
    · rw [if_pos (by omega), List.append_assoc, List.getElem?_append_right (by omega), List.getElem?_append_left (by omega), hl]
    · rw [if_neg (by omega), List.append_assoc, List.getElem?_append_right (by omega), List.getElem?_append_right (by omega), List.getElem?_drop, hl]
      congr 1
      omega
theorem dsk_sr (d : DeskD) {i : Nat} (hi : i < 8) (r : RoundD) : splice (dsk d) (2 + i * 18) (rnd r) = dsk { d with r := updR d.r i r } := by
  have hb : 2 + i * 18 + (rnd r).size ≤ (dsk d).size := by rw [dsk_size, rnd_size]; omega
  refine dsk_ext (by rw [splice_size _ _ _ hb, dsk_size]) (by rw [splice_get hb, if_neg (by omega), dsk_0]) (by rw [splice_get hb, if_neg (by omega), dsk_1]) fun q hq => ?_
  have e : q = q / 18 * 18 + q % 18 := by omega
  rw [splice_get hb, dsk_at, rnd_size]
  have e2 := rnds_get (updR d.r i r) (q / 18) (q % 18) (by omega) (by omega)
  have e3 := rnds_get d.r (q / 18) (q % 18) (by omega) (by omega)
  rw [← e] at e2 e3
  by_cases h : q / 18 = i
  · rw [if_pos (by omega)]
    rw [h, updR_same] at e2
    rw [e2, show 2 + q - (2 + i * 18) = q % 18 by omega]
  · rw [if_neg (by omega)]
    rw [updR_other _ _ h] at e2
    rw [e2, e3]
@[go_sem] theorem dsk_srs (d : DeskD) (f : Nat → RoundD) : splice (dsk d) 2 (rnds f) = dsk { d with r := f } := by
  have hb : 2 + (rnds f).size ≤ (dsk d).size := by rw [dsk_size, rnds_size]; omega
  refine dsk_ext (by rw [splice_size _ _ _ hb, dsk_size]) (by rw [splice_get hb, if_neg (by omega), dsk_0]) (by rw [splice_get hb, if_neg (by omega), dsk_1]) fun q hq => ?_
  rw [splice_get hb, rnds_size, if_pos (by omega), show 2 + q - 2 = q by omega]
@[go_sem] theorem dsk_s0 (d : DeskD) (v : Int) : (dsk d).setIfInBounds 0 (.int .i64 v) = dsk { d with n := v } := by
  refine dsk_ext (by simp [dsk_size]) (by rw [Array.getElem?_setIfInBounds_self_of_lt (by rw [dsk_size]; omega)]) (by rw [Array.getElem?_setIfInBounds_ne (by omega), dsk_1]) fun q hq => ?_
  rw [Array.getElem?_setIfInBounds_ne (by omega), dsk_at]
@[go_sem] theorem dsk_s1 (d : DeskD) (v : Int) : (dsk d).setIfInBounds 1 (.int .i64 v) = dsk { d with s := v } := by
  refine dsk_ext (by simp [dsk_size]) (by rw [Array.getElem?_setIfInBounds_ne (by omega), dsk_0]) (by rw [Array.getElem?_setIfInBounds_self_of_lt (by rw [dsk_size]; omega)]) fun q hq => ?_
  rw [Array.getElem?_setIfInBounds_ne (by omega), dsk_at]
/-! ### a call of a desk -/
structure OpfD where
  what : Int
  c : Nat → Int
  r : Nat → RoundD
def opf (d : OpfD) : Array Value := #[.int .i64 d.what] ++ (clk d.c ++ rnds d.r)
def opf0 : OpfD := ⟨0, clk0, rnds0⟩
@[go_sem] theorem opf_size (d : OpfD) : (opf d).size = 153 := by simp [opf, rnds_size, clk_size]
@[go_sem] theorem opf_flat (d : OpfD) : flat (opf d) = true := by
  have h1 := rnds_flat d.r
  have h2 : flat (clk d.c) = true := by simp [flat, clk, Value.oneCell']
  unfold flat opf at *
  rw [Array.all_append, Array.all_append, h1, h2]
  simp [Value.oneCell']
@[go_sem] theorem opf_0 (d : OpfD) : (opf d)[0]? = some (.int .i64 d.what) := by unfold opf; rw [Array.getElem?_append_left (by simp)]; rfl
theorem opf_c (d : OpfD) (q : Nat) (hq : q < 8) : (opf d)[1 + q]? = (clk d.c)[q]? := by
  unfold opf
  rw [Array.getElem?_append_right (by simp), Array.getElem?_append_left (by simp [clk_size]; omega)]
  congr 1
  simp
theorem opf_r (d : OpfD) (q : Nat) : (opf d)[9 + q]? = (rnds d.r)[q]? := by
  unfold opf
  rw [Array.getElem?_append_right (show 1 ≤ 9 + q by omega), Array.getElem?_append_right (by rw [clk_size]; show 8 ≤ 9 + q - 1; omega)]
  rw [clk_size]
  congr 1
  show 9 + q - 1 - 8 = q
  omega
@[go_sem] theorem opf_x1 (d : OpfD) : (opf d).extract 1 9 = clk d.c := by
  apply Array.ext_getElem?
  intro j
  by_cases hj : j < 8
  · rw [Array.getElem?_extract, if_pos (by rw [opf_size]; omega), opf_c d j hj]
  · rw [Array.getElem?_eq_none (by rw [Array.size_extract, opf_size]; omega), Array.getElem?_eq_none (by rw [clk_size]; omega)]
@[go_sem] theorem opf_x9 (d : OpfD) : (opf d).extract 9 153 = rnds d.r := by
  apply Array.ext_getElem?
  intro j
  by_cases hj : j < 144
  · rw [Array.getElem?_extract, if_pos (by rw [opf_size]; omega), opf_r]
  · rw [Array.getElem?_eq_none (by rw [Array.size_extract, opf_size]; omega), Array.getElem?_eq_none (by rw [rnds_size]; omega)]
end Go.Proofs.YthnkcljgkfpneaaDoor
