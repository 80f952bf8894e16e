/- Rounds as data (the first part of XRD). -/
import Derived.Test.YtegebjflhhbmiaaDoorZQC6AJ
set_option linter.unusedSimpArgs false
set_option linter.unusedVariables false
namespace Go.Proofs.YtegebjflhhbmiaaDoor
open Go Go.RowKit

def catR (f : Nat → RoundD) : Nat → Array Value
  | 0 => #[]
  | n + 1 => catR f n ++ rnd (f n)
theorem catR_size (f : Nat → RoundD) (n : Nat) : (catR f n).size = 18 * n := by
  induction n with
  | zero => rfl
  | succ n ih => simp only [catR, Array.size_append, ih, rnd_size]; omega
theorem catR_get (f : Nat → RoundD) (n i j : Nat) (hi : i < n) (hj : j < 18) : (catR f n)[i * 18 + j]? = (rnd (f i))[j]? := by
  induction n with
  | zero => omega
  | succ n ih =>
    simp only [catR]
    by_cases h : i < n
    · rw [Array.getElem?_append_left (by rw [catR_size]; omega)]
      exact ih h
    · have : i = n := by omega
      subst this
      rw [Array.getElem?_append_right (by rw [catR_size]; omega), catR_size]
      congr 1
      omega
theorem rnd_cell (r : RoundD) (j : Nat) (hj : j < 18) : ∃ x, (rnd r)[j]? = some (.int .i64 x) := by
  by_cases h0 : j = 0
  · exact ⟨_, by rw [h0]; exact rnd_0 r⟩
  by_cases h1 : j < 9
  · exact ⟨_, by rw [show j = 1 + (j - 1) by omega]; exact rnd_clk1 r (j - 1) (by omega)⟩
  by_cases h2 : j < 17
  · exact ⟨_, by rw [show j = 9 + (j - 9) by omega]; exact rnd_clk9 r (j - 9) (by omega)⟩
  · exact ⟨_, by rw [show j = 17 by omega]; exact rnd_17 r⟩
def rnds (f : Nat → RoundD) : Array Value := catR f 8
def rnds0 : Nat → RoundD := fun _ => rnd0
def updR (f : Nat → RoundD) (i : Nat) (r : RoundD) : Nat → RoundD := fun j => if j = i then r else f j
theorem updR_same (f : Nat → RoundD) (i : Nat) (r : RoundD) : updR f i r i = r := if_pos rfl
theorem updR_other (f : Nat → RoundD) {i j : Nat} (r : RoundD) (h : j ≠ i) : updR f i r j = f j := if_neg h
@[go_sem] theorem rnds_size (f : Nat → RoundD) : (rnds f).size = 144 := catR_size f 8
theorem rnds_get (f : Nat → RoundD) (i j : Nat) (hi : i < 8) (hj : j < 18) : (rnds f)[i * 18 + j]? = (rnd (f i))[j]? := catR_get f 8 i j hi hj
theorem rnds_ext {cs : Array Value} {f : Nat → RoundD} (hs : cs.size = 144) (h : ∀ i j, i < 8 → j < 18 → cs[i * 18 + j]? = (rnd (f i))[j]?) : cs = rnds f := by
  apply Array.ext_getElem?
  intro q
  by_cases hq : q < 144
  · have e : q = q / 18 * 18 + q % 18 := by omega
    rw [e, h _ _ (by omega) (by omega), rnds_get f _ _ (by omega) (by omega)]
  · rw [Array.getElem?_eq_none (by omega), Array.getElem?_eq_none (by rw [rnds_size]; omega)]
@[go_sem] theorem rnds_flat (f : Nat → RoundD) : flat (rnds f) = true := by
  unfold flat
  rw [Array.all_eq_true]
  intro q hq
  have hq2 : q < 144 := by rw [rnds_size] at hq; exact hq
  obtain ⟨x, hx⟩ := rnd_cell (f (q / 18)) (q % 18) (by omega)
  have e : q = q / 18 * 18 + q % 18 := by omega
  have h := rnds_get f (q / 18) (q % 18) (by omega) (by omega)
  rw [← e, hx, Array.getElem?_eq_getElem hq] at h
  rw [Option.some.inj h]
  rfl
theorem rnds_extract (f : Nat → RoundD) (i : Nat) (hi : i < 8) : (rnds f).extract (i * 18) (i * 18 + 18) = rnd (f i) := by
  apply Array.ext_getElem?
  intro j
  by_cases hj : j < 18
  · rw [Array.getElem?_extract, if_pos (by rw [rnds_size]; omega), rnds_get f i j hi hj]
  · rw [Array.getElem?_eq_none (by rw [Array.size_extract, rnds_size]; omega), Array.getElem?_eq_none (by rw [rnd_size]; omega)]
theorem rnds_set {f : Nat → RoundD} {i j : Nat} {v : Value} {r : RoundD} (hj : j < 18) (hr : (rnd (f i)).setIfInBounds j v = rnd r) : (rnds f).setIfInBounds (i * 18 + j) v = rnds (updR f i r) := by
  refine rnds_ext (by simp [rnds_size]) fun a b ha hb => ?_
  by_cases h : a = i
  · subst h
    rw [updR_same, ← hr]
    by_cases hjb : j = b
    · subst hjb
      rw [Array.getElem?_setIfInBounds_self_of_lt (by rw [rnds_size]; omega), Array.getElem?_setIfInBounds_self_of_lt (by rw [rnd_size]; omega)]
    · rw [Array.getElem?_setIfInBounds_ne (by omega), Array.getElem?_setIfInBounds_ne hjb, rnds_get f a b ha hb]
  · rw [updR_other f r h, Array.getElem?_setIfInBounds_ne (by omega), rnds_get f a b ha hb]
def rndsEq (f g : Nat → RoundD) : Bool := (List.range 8).all fun i => rndEq (f i) (g i)
theorem rndsEq_iff {f g : Nat → RoundD} : rndsEq f g = true ↔ ∀ i, i < 8 → rndEq (f i) (g i) = true := by simp [rndsEq, List.all_eq_true]
theorem equalIn_rnd (a b : RoundD) (w : World) : (Op.equalIn 9999 26 (.agg (rnd a)) (.agg (rnd b))).run Tryd.prog w = .ok (rndEq a b) w := by
  have hk1 : ∀ (d : Nat) (w : World), (Op.equalIn (d + 2) 23 (.agg #[.int .i64 (a.cut 0), .int .i64 (a.cut 1), .int .i64 (a.cut 2), .int .i64 (a.cut 3), .int .i64 (a.cut 4), .int .i64 (a.cut 5), .int .i64 (a.cut 6), .int .i64 (a.cut 7)]) (.agg #[.int .i64 (b.cut 0), .int .i64 (b.cut 1), .int .i64 (b.cut 2), .int .i64 (b.cut 3), .int .i64 (b.cut 4), .int .i64 (b.cut 5), .int .i64 (b.cut 6), .int .i64 (b.cut 7)])).run Tryd.prog w = .ok (clkEq a.cut b.cut) w := fun d w => equalIn_clk d a.cut b.cut w
  have hk2 : ∀ (d : Nat) (w : World), (Op.equalIn (d + 2) 22 (.agg #[.int .i64 (a.votes 0), .int .i64 (a.votes 1), .int .i64 (a.votes 2), .int .i64 (a.votes 3), .int .i64 (a.votes 4), .int .i64 (a.votes 5), .int .i64 (a.votes 6), .int .i64 (a.votes 7)]) (.agg #[.int .i64 (b.votes 0), .int .i64 (b.votes 1), .int .i64 (b.votes 2), .int .i64 (b.votes 3), .int .i64 (b.votes 4), .int .i64 (b.votes 5), .int .i64 (b.votes 6), .int .i64 (b.votes 7)])).run Tryd.prog w = .ok (clkEq a.votes b.votes) w := fun d w => equalIn_ar d a.votes b.votes w
  unfold rnd rndEq
  go_simp
  clear hk1
  clear hk2
  (repeat' split) <;> simp_all
theorem cellsOf_rnd : Tryd.prog.cellsOf 26 = 18 := by kernel_rfl
theorem items_rnds (f g : Nat → RoundD) (w : World) (is : List Nat) (hi : ∀ i ∈ is, i < 8) : (Op.eqItems 9999 26 18 (rnds f) (rnds g) is).run Tryd.prog w = .ok (is.all fun i => rndEq (f i) (g i)) w := by
  have hp : ∀ (f : Nat → RoundD) (j : Nat) (w : World), j < 8 → (part 26 (rnds f) (j * 18)).run Tryd.prog w = .ok (.agg (rnd (f j))) w := fun f j w hj => by
    have hi : ∃ i, Tryd.prog.info? 26 = some i ∧ i.size = 18 := by
      obtain ⟨i, h1, h2⟩ := Option.map_eq_some_iff.1 (show (Tryd.prog.info? 26).map (·.size) = some 18 by kernel_rfl)
      exact ⟨i, h1, h2⟩
    obtain ⟨i, h1, h2⟩ := hi
    simp [part, run_isAgg (P := Tryd.prog) Tryd.underlying26, isAggD, sizeOf, typeInfo, h1, h2, rnds_extract f j hj]
  induction is with
  | nil => simp [Op.eqItems]
  | cons j is ih =>
    have hj := hi j (by simp)
    simp only [Op.eqItems, Sem.run_bind, hp f j _ hj, hp g j _ hj, Result.andThen_ok, equalIn_rnd, List.all_cons]
    cases h : rndEq (f j) (g j)
    · simp
    · simp [ih fun i hi' => hi i (by simp [hi'])]
theorem equalIn_rnds (f g : Nat → RoundD) (w : World) : (Op.equalIn 10000 28 (.agg (rnds f)) (.agg (rnds g))).run Tryd.prog w = .ok (rndsEq f g) w := by
  have hi : ∃ i, Tryd.prog.info? 26 = some i := by
    obtain ⟨i, h1, h2⟩ := Option.map_eq_some_iff.1 (show (Tryd.prog.info? 26).map (·.size) = some 18 by kernel_rfl)
    exact ⟨i, h1⟩
  obtain ⟨i, hi⟩ := hi
  rw [run_equalIn_array w 9999 (rnds f) (rnds g) Tryd.underlying28 hi, cellsOf_rnd]
  exact items_rnds f g w _ fun i hi => List.mem_range.1 hi
@[go_sem high] theorem eql_rnds (f g : Nat → RoundD) (w : World) : (binOp .eql 28 (.agg (rnds f)) (.agg (rnds g))).run Tryd.prog w = .ok (.bool (rndsEq f g)) w := by
  rw [run_eql_struct, equalIn_rnds, Result.andThen_ok]
@[go_sem high] theorem neq_rnds (f g : Nat → RoundD) (w : World) : (binOp .neq 28 (.agg (rnds f)) (.agg (rnds g))).run Tryd.prog w = .ok (.bool (!rndsEq f g)) w := by
  rw [run_neq_struct, equalIn_rnds, Result.andThen_ok]
@[go_sem ↓] theorem index_rnds (x i : Value) : Instr.index 28 x i = idxS 28 x i := (idxS_eq 28 x i).symm
theorem idx_rnds (f : Nat → RoundD) (k : Nat) (hk : k < 8) (w : World) : (idxS 28 (.agg (rnds f)) (.int .i64 (k : Int))).run Tryd.prog w = .ok (.agg (rnd (f k))) w := by
  rw [run_idxSN Tryd.prog 28 26 8 18 _ Tryd.underlying28 Tryd.underlying26 rfl (by kernel_rfl) (rnds f) .i64 k w]
  unfold idxArrN
  rw [if_pos (by omega), Int.toNat_natCast, rnds_extract f k hk]
@[go_sem] theorem idx_rnds0 (f : Nat → RoundD) (w : World) : (idxS 28 (.agg (rnds f)) (.int .i64 0)).run Tryd.prog w = .ok (.agg (rnd (f 0))) w := idx_rnds f 0 (by omega) w
theorem splice_get {cs xs : Array Value} {o j : Nat} (h : o + xs.size ≤ cs.size) : (splice cs o xs)[j]? = if o ≤ j ∧ j < o + xs.size then xs[j - o]? else cs[j]? := by
  obtain ⟨cs⟩ := cs
  obtain ⟨xs⟩ := xs
  simp only [List.size_toArray] at h
  simp only [splice, zc, List.size_toArray]
  have hl : (cs.take o).length = o := by rw [List.length_take]; omega
  by_cases h1 : j < o
  · rw [if_neg (by omega), List.append_assoc, List.getElem?_append_left (by omega), List.getElem?_take, if_pos h1]
  · by_cases h2 : j < o + xs.length
    · rw [if_pos (by omega), List.append_assoc, List.getElem?_append_right (by omega), List.getElem?_append_left (by omega), hl]
    · rw [if_neg (by omega), List.append_assoc, List.getElem?_append_right (by omega), List.getElem?_append_right (by omega), List.getElem?_drop, hl]
      congr 1
      omega
/-! ### a message: kind, who, epoch, clock, the slice of its acts, rounds -/
structure MsgD where
  kind : Int
  frm : Int
  ep : Int
  c : Nat → Int
  p : Option Addr
  n : Nat
  cap : Nat
  r : Nat → RoundD
abbrev MsgD.s (d : MsgD) : Value := .slice d.p d.n d.cap
def msg (d : MsgD) : Array Value := #[.int .i64 d.kind, .int .i64 d.frm, .int .i64 d.ep] ++ (clk d.c ++ (#[.slice d.p d.n d.cap] ++ rnds d.r))
def msg0 : MsgD := ⟨0, 0, 0, clk0, none, 0, 0, rnds0⟩
@[go_sem] theorem msg_size (d : MsgD) : (msg d).size = 156 := by simp [msg, rnds_size, clk_size]
@[go_sem] theorem msg_flat (d : MsgD) : flat (msg d) = true := by
  have h1 := rnds_flat d.r
  have h2 : flat (clk d.c) = true := by simp [flat, clk, Value.oneCell']
  have h3 : flat #[.slice d.p d.n d.cap] = true := by simp [flat, Value.oneCell']
  unfold flat msg at *
  rw [Array.all_append, Array.all_append, Array.all_append, h1, h2, h3]
  simp [Value.oneCell']
@[go_sem] theorem msg_0 (d : MsgD) : (msg d)[0]? = some (.int .i64 d.kind) := by unfold msg; rw [Array.getElem?_append_left (by simp)]; rfl
@[go_sem] theorem msg_1 (d : MsgD) : (msg d)[1]? = some (.int .i64 d.frm) := by unfold msg; rw [Array.getElem?_append_left (by simp)]; rfl
@[go_sem] theorem msg_2 (d : MsgD) : (msg d)[2]? = some (.int .i64 d.ep) := by unfold msg; rw [Array.getElem?_append_left (by simp)]; rfl
theorem msg_c (d : MsgD) (q : Nat) (hq : q < 8) : (msg d)[3 + q]? = (clk d.c)[q]? := by
  unfold msg
  rw [Array.getElem?_append_right (by simp), Array.getElem?_append_left (by simp [clk_size]; omega)]
  congr 1
  simp
@[go_sem] theorem msg_11 (d : MsgD) : (msg d)[11]? = some (.slice d.p d.n d.cap) := by
  unfold msg
  rw [Array.getElem?_append_right (by simp), Array.getElem?_append_right (by rw [clk_size]; simp), clk_size]
  rw [Array.getElem?_append_left (by simp)]
  rfl
theorem msg_r (d : MsgD) (q : Nat) : (msg d)[12 + q]? = (rnds d.r)[q]? := by
  unfold msg
  rw [Array.getElem?_append_right (show 3 ≤ 12 + q by omega), Array.getElem?_append_right (by rw [clk_size]; show 8 ≤ 12 + q - 3; omega), clk_size]
  rw [Array.getElem?_append_right (show 1 ≤ 12 + q - 3 - 8 by omega)]
  congr 1
  show 12 + q - 3 - 8 - 1 = q
  omega
@[go_sem] theorem msg_x3 (d : MsgD) : (msg d).extract 3 11 = clk d.c := by
  apply Array.ext_getElem?
  intro j
  by_cases hj : j < 8
  · rw [Array.getElem?_extract, if_pos (by rw [msg_size]; omega), msg_c d j hj]
  · rw [Array.getElem?_eq_none (by rw [Array.size_extract, msg_size]; omega), Array.getElem?_eq_none (by rw [clk_size]; omega)]
@[go_sem] theorem msg_x12 (d : MsgD) : (msg d).extract 12 156 = rnds d.r := by
  apply Array.ext_getElem?
  intro j
  by_cases hj : j < 144
  · rw [Array.getElem?_extract, if_pos (by rw [msg_size]; omega), msg_r]
  · rw [Array.getElem?_eq_none (by rw [Array.size_extract, msg_size]; omega), Array.getElem?_eq_none (by rw [rnds_size]; omega)]
theorem msg_ext {cs : Array Value} {d : MsgD} (hs : cs.size = 156) (h0 : cs[0]? = some (.int .i64 d.kind)) (h1 : cs[1]? = some (.int .i64 d.frm)) (h2 : cs[2]? = some (.int .i64 d.ep)) (h3 : ∀ q, q < 8 → cs[3 + q]? = (clk d.c)[q]?) (h4 : cs[11]? = some (.slice d.p d.n d.cap)) (h : ∀ q, q < 144 → cs[12 + q]? = (rnds d.r)[q]?) : cs = msg d := by
  apply Array.ext_getElem?
  intro q
  by_cases hq : q < 156
  · by_cases a0 : q = 0
    · rw [a0, h0, msg_0]
    by_cases a1 : q = 1
    · rw [a1, h1, msg_1]
    by_cases a2 : q = 2
    · rw [a2, h2, msg_2]
    by_cases a3 : q < 11
    · rw [show q = 3 + (q - 3) by omega, h3 _ (by omega), msg_c d _ (by omega)]
    by_cases a4 : q = 11
    · rw [a4, h4, msg_11]
    · rw [show q = 12 + (q - 12) by omega, h _ (by omega), msg_r]
  · rw [Array.getElem?_eq_none (by omega), Array.getElem?_eq_none (by rw [msg_size]; omega)]
@[go_sem] theorem msg_s0 (d : MsgD) (v : Int) : (msg d).setIfInBounds 0 (.int .i64 v) = msg { d with kind := v } := by
  refine msg_ext (by simp [msg_size]) (by rw [Array.getElem?_setIfInBounds_self_of_lt (by rw [msg_size]; omega)]) (by rw [Array.getElem?_setIfInBounds_ne (by omega), msg_1]) (by rw [Array.getElem?_setIfInBounds_ne (by omega), msg_2]) (fun q hq => by rw [Array.getElem?_setIfInBounds_ne (by omega), msg_c d q hq]) (by rw [Array.getElem?_setIfInBounds_ne (by omega), msg_11]) fun q hq => by rw [Array.getElem?_setIfInBounds_ne (by omega), msg_r]
@[go_sem] theorem msg_s1 (d : MsgD) (v : Int) : (msg d).setIfInBounds 1 (.int .i64 v) = msg { d with frm := v } := by
  refine msg_ext (by simp [msg_size]) (by rw [Array.getElem?_setIfInBounds_ne (by omega), msg_0]) (by rw [Array.getElem?_setIfInBounds_self_of_lt (by rw [msg_size]; omega)]) (by rw [Array.getElem?_setIfInBounds_ne (by omega), msg_2]) (fun q hq => by rw [Array.getElem?_setIfInBounds_ne (by omega), msg_c d q hq]) (by rw [Array.getElem?_setIfInBounds_ne (by omega), msg_11]) fun q hq => by rw [Array.getElem?_setIfInBounds_ne (by omega), msg_r]
@[go_sem] theorem msg_s2 (d : MsgD) (v : Int) : (msg d).setIfInBounds 2 (.int .i64 v) = msg { d with ep := v } := by
  refine msg_ext (by simp [msg_size]) (by rw [Array.getElem?_setIfInBounds_ne (by omega), msg_0]) (by rw [Array.getElem?_setIfInBounds_ne (by omega), msg_1]) (by rw [Array.getElem?_setIfInBounds_self_of_lt (by rw [msg_size]; omega)]) (fun q hq => by rw [Array.getElem?_setIfInBounds_ne (by omega), msg_c d q hq]) (by rw [Array.getElem?_setIfInBounds_ne (by omega), msg_11]) fun q hq => by rw [Array.getElem?_setIfInBounds_ne (by omega), msg_r]
@[go_sem] theorem msg_s11 (d : MsgD) (p : Option Addr) (n c : Nat) : (msg d).setIfInBounds 11 (.slice p n c) = msg { d with p := p, n := n, cap := c } := by
  refine msg_ext (by simp [msg_size]) (by rw [Array.getElem?_setIfInBounds_ne (by omega), msg_0]) (by rw [Array.getElem?_setIfInBounds_ne (by omega), msg_1]) (by rw [Array.getElem?_setIfInBounds_ne (by omega), msg_2]) (fun q hq => by rw [Array.getElem?_setIfInBounds_ne (by omega), msg_c d q hq]) (by rw [Array.getElem?_setIfInBounds_self_of_lt (by rw [msg_size]; omega)]) fun q hq => by rw [Array.getElem?_setIfInBounds_ne (by omega), msg_r]
@[go_sem] theorem msg_s12 (d : MsgD) (f : Nat → RoundD) : splice (msg d) 12 (rnds f) = msg { d with r := f } := by
  have hb : 12 + (rnds f).size ≤ (msg d).size := by rw [msg_size, rnds_size]; omega
  refine msg_ext (by rw [splice_size _ _ _ hb, msg_size]) (by rw [splice_get hb, if_neg (by omega), msg_0]) (by rw [splice_get hb, if_neg (by omega), msg_1]) (by rw [splice_get hb, if_neg (by omega), msg_2]) (fun q hq => by rw [splice_get hb, if_neg (by omega), msg_c d q hq]) (by rw [splice_get hb, if_neg (by omega), msg_11]) fun q hq => ?_
  rw [splice_get hb, rnds_size, if_pos (by omega), show 12 + q - 12 = q by omega]
@[go_sem] theorem msg_s3 (d : MsgD) (f : Nat → Int) : splice (msg d) 3 (clk f) = msg { d with c := f } := by
  have hb : 3 + (clk f).size ≤ (msg d).size := by rw [msg_size, clk_size]; omega
  refine msg_ext (by rw [splice_size _ _ _ hb, msg_size]) (by rw [splice_get hb, if_neg (by omega), msg_0]) (by rw [splice_get hb, if_neg (by omega), msg_1]) (by rw [splice_get hb, if_neg (by omega), msg_2]) (fun q hq => by rw [splice_get hb, clk_size, if_pos (by omega), show 3 + q - 3 = q by omega]) (by rw [splice_get hb, if_neg (by rw [clk_size]; omega), msg_11]) fun q hq => ?_
  rw [splice_get hb, clk_size, if_neg (by omega), msg_r]
/-- One number of a message's clock. -/
theorem msg_sc (d : MsgD) {j : Nat} (hj : j < 8) (v : Int) : (msg d).setIfInBounds (3 + j) (.int .i64 v) = msg { d with c := setAt d.c j v } := by
  refine msg_ext (by simp [msg_size]) (by rw [Array.getElem?_setIfInBounds_ne (by omega), msg_0]) (by rw [Array.getElem?_setIfInBounds_ne (by omega), msg_1]) (by rw [Array.getElem?_setIfInBounds_ne (by omega), msg_2]) (fun q hq => ?_) (by rw [Array.getElem?_setIfInBounds_ne (by omega), msg_11]) fun q hq => by rw [Array.getElem?_setIfInBounds_ne (by omega), msg_r]
  rw [← clk_set d.c j v]
  by_cases h : j = q
  · subst h
    rw [Array.getElem?_setIfInBounds_self_of_lt (by rw [msg_size]; omega), Array.getElem?_setIfInBounds_self_of_lt (by rw [clk_size]; omega)]
  · rw [Array.getElem?_setIfInBounds_ne (by omega), Array.getElem?_setIfInBounds_ne h, msg_c d q hq]
end Go.Proofs.YtegebjflhhbmiaaDoor
