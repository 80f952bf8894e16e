/- Structs and arrays as whole windows of memory: what loads, stores and new variables of them do, as rules of the walk. -/
import Derived.Test.YtegebjflhhbmiaaDoorZQC6AA
import Derived.WalkKit
import Derived.WalkSpells
import Derived.WalkLawsBesides
import Derived.Lib.Hide
import Derived.Handy
import Derived.Deep.Draws
set_option linter.unusedSimpArgs false
set_option linter.unusedVariables false
namespace Go.Proofs.YtegebjflhhbmiaaDoor
open Go Go.RowKit

/-! ### n cells of one block, read as one array -/
def win (w : World) (g o n : Nat) : Option (Array Value) :=
  match w.heap[g]? with
  | some (.cells cs _ _) => if o + n ≤ cs.size then some (cs.extract o (o + n)) else none
  | _ => none
/-- May n cells be written there? -/
def okw (w : World) (g o n : Nat) : Bool :=
  match w.heap[g]? with
  | some (.cells cs _ fr) => decide (o + n ≤ cs.size) && fr == (0, 0)
  | _ => false
def splice (c : Array Value) (o : Nat) (cs : Array Value) : Array Value := (c.toList.take o ++ cs.toList ++ c.toList.drop (o + cs.toList.length)).toArray
def rowAt (w : World) (g : Nat) : Array Value := match w.heap[g]? with | some (.cells c _ _) => c | _ => #[]
/-- cs written over what stands at g from o on. -/
def setWin (w : World) (g o : Nat) (cs : Array Value) : World := w.setRow g (splice (rowAt w g) o cs)

section
variable {w : World} {g o n : Nat}
theorem win_of_block {w' : World} (h : w'.heap[g]? = w.heap[g]?) : win w' g o n = win w g o n := by simp [win, h]
theorem okw_of_block {w' : World} (h : w'.heap[g]? = w.heap[g]?) : okw w' g o n = okw w g o n := by simp [okw, h]
@[go_sem] theorem win_drew : win w.drew g o n = win w g o n := rfl
@[go_sem] theorem okw_drew : okw w.drew g o n = okw w g o n := rfl
@[go_sem high] theorem win_alloc_whole (c : Array Value) (t : TypeId) (hg : g = w.heap.size) (hn : c.size = n) : win (w.alloc (.cells c t)) g 0 n = some c := by
  subst hg; subst hn
  simp only [win, heap_alloc_new]
  simp
@[go_sem] theorem win_alloc_part (c : Array Value) (t : TypeId) (hg : g = w.heap.size) (hn : o + n ≤ c.size) : win (w.alloc (.cells c t)) g o n = some (c.extract o (o + n)) := by
  subst hg
  simp only [win, heap_alloc_new]
  simp [hn]
@[go_sem] theorem win_alloc_past (x : Obj) (hg : g < w.heap.size) : win (w.alloc x) g o n = win w g o n :=
  win_of_block (by exact heap_alloc_old w x hg)
@[go_sem] theorem okw_alloc_new (c : Array Value) (t : TypeId) (hg : g = w.heap.size) : okw (w.alloc (.cells c t)) g o n = decide (o + n ≤ c.size) := by
  subst hg
  simp only [okw, heap_alloc_new]
  simp
@[go_sem] theorem okw_alloc_past (x : Obj) (hg : g < w.heap.size) : okw (w.alloc x) g o n = okw w g o n :=
  okw_of_block (by exact heap_alloc_old w x hg)
@[go_sem] theorem win_setCell_other (a : Addr) (v : Value) (h : g ≠ a.block) : win (w.setCell a v) g o n = win w g o n :=
  win_of_block (heap_setCell_other w a g v h)
@[go_sem] theorem okw_setCell (a : Addr) (v : Value) : okw (w.setCell a v) g o n = okw w g o n := by
  by_cases h : g = a.block
  · subst h
    unfold okw World.setCell
    simp only [Array.getElem?_modify]
    cases hb : w.heap[a.block]? with
    | none => rfl
    | some x => cases x <;> simp <;> split <;> simp
  · exact okw_of_block (heap_setCell_other w a g v h)
theorem win_cell {cs : Array Value} (h : win w g o n = some cs) (i : Nat) (hi : i < n) : w.cell? ⟨g, o + i, none⟩ = cs[i]? := by
  unfold win at h
  cases hb : w.heap[g]? with
  | none => simp [hb] at h
  | some x =>
    cases x <;> simp [hb] at h
    case cells c t f =>
      obtain ⟨hle, rfl⟩ := h
      rw [cell_of_row w g (o + i) c t f hb]
      simp [Array.getElem?_extract]; omega
theorem win_size {cs : Array Value} (h : win w g o n = some cs) : cs.size = n := by
  unfold win at h
  cases hb : w.heap[g]? with
  | none => simp [hb] at h
  | some x =>
    cases x <;> simp [hb] at h
    case cells c t f =>
      obtain ⟨hle, rfl⟩ := h
      simp; omega
theorem win_lt {cs : Array Value} (h : win w g o n = some cs) : g < w.heap.size := by
  rcases Nat.lt_or_ge g w.heap.size with h' | h'
  · exact h'
  · unfold win at h; rw [Array.getElem?_eq_none h'] at h; cases h
theorem okw_form (h : okw w g o n = true) : ∃ c t, w.heap[g]? = some (.cells c t (0, 0)) ∧ o + n ≤ c.size := by
  unfold okw at h
  cases hb : w.heap[g]? with
  | none => simp [hb] at h
  | some x =>
    cases x <;> simp [hb] at h
    case cells c t f => obtain ⟨h1, rfl⟩ := h; exact ⟨c, t, rfl, h1⟩
theorem splice_size (c : Array Value) (o : Nat) (cs : Array Value) (h : o + cs.size ≤ c.size) : (splice c o cs).size = c.size := by
  simp [splice]; omega
@[go_sem] theorem splice_whole (c cs : Array Value) (h : cs.size = c.size) : splice c 0 cs = cs := by
  apply Array.ext'
  simp [splice, h]
theorem heap_setWin_other (cs : Array Value) {k : Nat} (h : k ≠ g) : (setWin w g o cs).heap[k]? = w.heap[k]? := setRow_other w g k _ h
@[go_sem] theorem size_setWin (cs : Array Value) : (setWin w g o cs).heap.size = w.heap.size := by simp [setWin]
@[go_sem] theorem setWin_drew (cs : Array Value) : setWin w.drew g o cs = (setWin w g o cs).drew := rfl
@[go_sem] theorem setWin_alloc_past (x : Obj) (cs : Array Value) (hg : g < w.heap.size) : setWin (w.alloc x) g o cs = (setWin w g o cs).alloc x := by
  have h1 : rowAt (w.alloc x) g = rowAt w g := by unfold rowAt; rw [heap_alloc_old w x hg]
  unfold setWin
  rw [h1]
  simp only [World.setRow, World.alloc, World.mk.injEq, and_true]
  apply Array.ext_getElem?
  intro i
  simp only [Array.getElem?_modify, Array.getElem?_push, Array.size_modify]
  by_cases hi : i = w.heap.size
  · subst hi
    rw [if_neg (by omega)]
    simp
  · simp [hi]
@[go_sem] theorem setWin_alloc_new (c : Array Value) (t : TypeId) (cs : Array Value) (hg : g = w.heap.size) : setWin (w.alloc (.cells c t)) g o cs = w.alloc (.cells (splice c o cs) t) := by
  subst hg
  have h1 : rowAt (w.alloc (.cells c t)) w.heap.size = c := by unfold rowAt; rw [heap_alloc_new]
  unfold setWin
  rw [h1]
  simp only [World.setRow, World.alloc, World.mk.injEq, and_true]
  apply Array.ext_getElem?
  intro i
  simp only [Array.getElem?_modify, Array.getElem?_push]
  by_cases hi : i = w.heap.size
  · subst hi; simp
  · simp [hi, Ne.symm hi]
theorem setWin_block (cs : Array Value) (h : okw w g o cs.size = true) : ∃ c t, w.heap[g]? = some (.cells c t (0, 0)) ∧ o + cs.size ≤ c.size ∧ (setWin w g o cs).heap[g]? = some (.cells (splice c o cs) t (0, 0)) := by
  obtain ⟨c, t, hb, hle⟩ := okw_form h
  have h1 : rowAt w g = c := by unfold rowAt; rw [hb]
  exact ⟨c, t, hb, hle, by unfold setWin; rw [h1]; exact setRow_heap w g c _ t (0, 0) hb⟩
@[go_sem] theorem win_setWin_other (cs : Array Value) {g' : Nat} (h : g' ≠ g) {p m : Nat} : win (setWin w g o cs) g' p m = win w g' p m := win_of_block (heap_setWin_other cs h)
@[go_sem] theorem okw_setWin_other (cs : Array Value) {g' : Nat} (h : g' ≠ g) {p m : Nat} : okw (setWin w g o cs) g' p m = okw w g' p m := okw_of_block (heap_setWin_other cs h)
@[go_sem] theorem cell_setWin_other (cs : Array Value) {g' i : Nat} (h : g' ≠ g) : (setWin w g o cs).cell? ⟨g', i, none⟩ = w.cell? ⟨g', i, none⟩ := World.cell?_of_block (a := ⟨g', i, none⟩) (heap_setWin_other cs h)
@[go_sem] theorem frozen_setWin_other (cs : Array Value) {g' i : Nat} (h : g' ≠ g) : (setWin w g o cs).frozen? ⟨g', i, none⟩ = w.frozen? ⟨g', i, none⟩ := World.frozen?_of_block (a := ⟨g', i, none⟩) (heap_setWin_other cs h)
end
attribute [irreducible] win okw setWin

/-! ### loads of structs and arrays -/
@[irreducible] def ldS (ty : TypeId) (v : Value) : Sem Value := Instr.loadAt ty v
theorem ldS_eq (ty : TypeId) (v : Value) : ldS ty v = Instr.loadAt ty v := by unfold ldS; rfl
/-- What a load of a struct or an array gives where the window is not known: left as it is. -/
def ldElse (P : Program) (ty : TypeId) (a : Addr) (w : World) : Result Value := (loadVar ty a).run P w
@[go_sem] def ldAgg (P : Program) (ty : TypeId) (n : Nat) (w : World) (g o : Nat) : Result Value :=
  match win w g o n with
  | some cs => .ok (.agg cs) w
  | none => ldElse P ty ⟨g, o, none⟩ w
def isAggD (d : TypeDesc) : Bool := match d with | .struct _ | .array _ _ => true | _ => false
theorem run_isAgg {P : Program} {ty : TypeId} {d : TypeDesc} (hu : P.underlying ty = some d) (w : World) : (isAgg ty).run P w = .ok (isAggD d) w := by
  unfold isAgg
  rw [Sem.run_bind, run_underlying hu w]
  cases d <;> rfl

theorem run_ldS (P : Program) (ty : TypeId) (n : Nat) (d : TypeDesc) (hu : P.underlying ty = some d) (hd : isAggD d = true)
    (hi : (P.info? ty).map (·.size) = some n) (w : World) (g o : Nat) : (ldS ty (.pointer (some ⟨g, o, none⟩))).run P w = ldAgg P ty n w g o := by
  rw [ldS_eq]
  simp only [Instr.loadAt, Instr.sureAddr, Sem.run_bind, Sem.run_pure, Result.andThen_ok]
  unfold ldAgg
  cases hw : win w g o n with
  | none => rfl
  | some cs =>
    have hsz := win_size hw
    have hl : (loadCells ⟨g, o, none⟩ cs.toList.length).run P w = .ok cs.toList.toArray w :=
      run_loadCells_list (P := P) w ⟨g, o, none⟩ cs.toList (fun j v hv => by
        have hadd : (⟨g, o, none⟩ : Addr).add j = ⟨g, o + j, none⟩ := by unfold Addr.add; split <;> simp_all
        have hj : j < cs.size := by
          have := (List.getElem?_eq_some_iff.1 hv).1
          simpa using this
        rw [hadd, win_cell hw j (by omega)]
        simpa using hv)
    cases hq : P.info? ty with
    | none => simp [hq] at hi
    | some i =>
      have hs : i.size = cs.size := by rw [hsz]; simpa [hq] using hi
      simp only [Array.length_toList, Array.toArray_toList] at hl
      simp [loadVar, Sem.run_bind, run_isAgg hu, hd, sizeOf, typeInfo, hq, hs, hl]

theorem run_loadVar_win {P : Program} {ty : TypeId} {n : Nat} {d : TypeDesc} (hu : P.underlying ty = some d) (hd : isAggD d = true) (hi : (P.info? ty).map (·.size) = some n) {w : World} {g o : Nat} {cs : Array Value}
    (h : win w g o n = some cs) : (loadVar ty ⟨g, o, none⟩).run P w = .ok (.agg cs) w := by
  have := run_ldS P ty n d hu hd hi w g o
  rw [ldS_eq] at this
  simp only [Instr.loadAt, Instr.sureAddr, Sem.run_bind, Sem.run_pure, Result.andThen_ok] at this
  rw [this]
  unfold ldAgg
  rw [h]
/-- The end of a function whose one result is a struct or an array. -/
theorem ret_cell {P : Program} {fn : Func} {R : Ending → World → Prop} {a : Act} {w : World} {p : Tmp} {ty : TypeId} {n : Nat} {d : TypeDesc} (hr : fn.results = #[.cell p ty]) (hu : P.underlying ty = some d) (hd : isAggD d = true) (hi : (P.info? ty).map (·.size) = some n)
    (g : Nat) (hp : a.tmps.getD p undef = .pointer (some ⟨g, 0, none⟩)) (cs : Array Value) (hw : win w g 0 n = some cs) (hdf : a.defers = []) (h : R (.returned (.agg cs)) w) : bodyPost P fn R .ret a w := by
  refine bodyPost_ret (v := .agg cs) ?_ hdf h
  have hp' : a.tmps[p]?.getD undef = .pointer (some ⟨g, 0, none⟩) := by simpa using hp
  simp [results, hr, hp', asAddr, run_loadVar_win hu hd hi hw]
/-! ### stores of structs and arrays -/
@[irreducible] def stS (ty : TypeId) (p v : Value) : Sem Unit := Instr.storeAt ty p v
theorem stS_eq (ty : TypeId) (p v : Value) : stS ty p v = Instr.storeAt ty p v := by unfold stS; rfl
def flat (cs : Array Value) : Bool := cs.all (·.oneCell')
@[go_sem] theorem oneCell_int (k : IntKind) (n : Int) : (Value.int k n).oneCell' = true := by simp [Value.oneCell']
@[go_sem] theorem oneCell_bool (b : Bool) : (Value.bool b).oneCell' = true := by simp [Value.oneCell']
@[go_sem] theorem oneCell_string (b : ByteArray) : (Value.string b).oneCell' = true := by simp [Value.oneCell']
@[go_sem] theorem oneCell_slice (a : Option Addr) (n c : Nat) : (Value.slice a n c).oneCell' = true := by simp [Value.oneCell']
@[go_sem] theorem oneCell_pointer (a : Option Addr) : (Value.pointer a).oneCell' = true := by simp [Value.oneCell']
@[go_sem] theorem oneCell_map (a : Option Nat) : (Value.map a).oneCell' = true := by simp [Value.oneCell']
@[go_sem] theorem oneCell_iface (t : TypeId) (v : Value) : (Value.iface t v).oneCell' = true := by simp [Value.oneCell']
@[go_sem] theorem oneCell_nilIface : Value.nilIface.oneCell' = true := by simp [Value.oneCell']
@[go_sem] theorem flat_lit (l : List Value) : flat l.toArray = l.all (·.oneCell') := by simp [flat]
def stElse (P : Program) (ty : TypeId) (a : Addr) (v : Value) (w : World) : Result Unit := (storeVar ty a v).run P w
@[go_sem] def stAgg (P : Program) (ty : TypeId) (n : Nat) (w : World) (g o : Nat) (cs : Array Value) : Result Unit :=
  if okw w g o n = true ∧ cs.size = n ∧ flat cs = true then .ok () (setWin w g o cs) else stElse P ty ⟨g, o, none⟩ (.agg cs) w
theorem run_stS (P : Program) (ty : TypeId) (n : Nat) (hi : (P.info? ty).map (·.size) = some n) (w : World) (g o : Nat) (cs : Array Value) :
    (stS ty (.pointer (some ⟨g, o, none⟩)) (.agg cs)).run P w = stAgg P ty n w g o cs := by
  rw [stS_eq]
  simp only [Instr.storeAt, Instr.sureAddr, Sem.run_bind, Sem.run_pure, Result.andThen_ok]
  unfold stAgg
  split
  · rename_i h
    obtain ⟨hok, rfl, hf⟩ := h
    obtain ⟨c, t, hb, hle⟩ := okw_form hok
    have hst := run_storeCells_at P g o t cs.toList 0 c w hb (by simpa using hle) (fun v hv => by
      have := Array.all_eq_true_iff_forall_mem.1 hf v (by simpa using hv)
      exact this)
    cases hq : P.info? ty with
    | none => simp [hq] at hi
    | some i =>
      have hs : i.size = cs.size := by simpa [hq] using hi
      have h1 : rowAt w g = c := by unfold rowAt; rw [hb]
      simp only [Nat.add_zero] at hst
      simp only [storeVar, sizeOf, typeInfo, Value.cells, Sem.run_bind, program]
      simp [Sem.run, hq, hs, hst]
      unfold setWin splice
      rw [h1]
      simp
  · rfl

/-! ### an element of an array value, a field of a struct value -/
@[irreducible] def idxS (ty : TypeId) (x i : Value) : Sem Value := Instr.index ty x i
theorem idxS_eq (ty : TypeId) (x i : Value) : idxS ty x i = Instr.index ty x i := by unfold idxS; rfl
def idxElse (P : Program) (ty : TypeId) (x i : Value) (w : World) : Result Value := (Instr.index ty x i).run P w
@[go_sem] def idxArr (P : Program) (ty : TypeId) (n : Nat) (cs : Array Value) (k : IntKind) (i : Int) (w : World) : Result Value :=
  if 0 ≤ i ∧ i < n then (match cs[i.toNat]? with | some v => .ok v w | none => idxElse P ty (.agg cs) (.int k i) w) else idxElse P ty (.agg cs) (.int k i) w
theorem run_idxS (P : Program) (ty e : TypeId) (n : Nat) (d : TypeDesc) (hu : P.underlying ty = some (.array n e)) (he : P.underlying e = some d)
    (hd : isAggD d = false) (hi : (P.info? e).map (·.size) = some 1) (cs : Array Value) (k : IntKind) (i : Int) (w : World) :
    (idxS ty (.agg cs) (.int k i)).run P w = idxArr P ty n cs k i w := by
  rw [idxS_eq]
  unfold idxArr
  by_cases h : 0 ≤ i ∧ i < n
  · rw [if_pos h]
    cases hc : cs[i.toNat]? with
    | none => rfl
    | some v =>
      cases hq : P.info? e with
      | none => simp [hq] at hi
      | some q =>
        have hs : q.size = 1 := by simpa [hq] using hi
        simp [Instr.index, asIntOf, run_underlying hu, h, sizeOf, typeInfo, hq, hs, part, run_isAgg he, hd, hc]
  · rw [if_neg h]; rfl
/-- An array of structs. -/
@[go_sem] def idxArrN (P : Program) (ty : TypeId) (n s : Nat) (cs : Array Value) (k : IntKind) (i : Int) (w : World) : Result Value :=
  if 0 ≤ i ∧ i < n then .ok (.agg (cs.extract (i.toNat * s) (i.toNat * s + s))) w else idxElse P ty (.agg cs) (.int k i) w
theorem run_idxSN (P : Program) (ty e : TypeId) (n s : Nat) (d : TypeDesc) (hu : P.underlying ty = some (.array n e)) (he : P.underlying e = some d)
    (hd : isAggD d = true) (hi : (P.info? e).map (·.size) = some s) (cs : Array Value) (k : IntKind) (i : Int) (w : World) :
    (idxS ty (.agg cs) (.int k i)).run P w = idxArrN P ty n s cs k i w := by
  rw [idxS_eq]
  unfold idxArrN
  by_cases h : 0 ≤ i ∧ i < n
  · rw [if_pos h]
    cases hq : P.info? e with
    | none => simp [hq] at hi
    | some q =>
      have hs : q.size = s := by simpa [hq] using hi
      simp [Instr.index, asIntOf, run_underlying hu, h, sizeOf, typeInfo, hq, hs, part, run_isAgg he, hd]
  · rw [if_neg h]; rfl
@[irreducible] def fldS (ty : TypeId) (x : Value) (f : Nat) : Sem Value := Instr.field ty x f
theorem fldS_eq (ty : TypeId) (x : Value) (f : Nat) : fldS ty x f = Instr.field ty x f := by unfold fldS; rfl
def fldElse (P : Program) (ty : TypeId) (x : Value) (f : Nat) (w : World) : Result Value := (Instr.field ty x f).run P w
@[go_sem] def fldOne (P : Program) (ty : TypeId) (f o : Nat) (cs : Array Value) (w : World) : Result Value :=
  match cs[o]? with | some v => .ok v w | none => fldElse P ty (.agg cs) f w
theorem run_fldS (P : Program) (ty : TypeId) (f : Nat) (fs : Array Field) (fd : Field) (d : TypeDesc) (hu : P.underlying ty = some (.struct fs)) (hf : fs[f]? = some fd) (he : P.underlying fd.type = some d)
    (hd : isAggD d = false) (cs : Array Value) (w : World) : (fldS ty (.agg cs) f).run P w = fldOne P ty f fd.offset cs w := by
  rw [fldS_eq]
  unfold fldOne
  cases hc : cs[fd.offset]? with
  | none => rfl
  | some v => simp [Instr.field, run_underlying hu, hf, asAgg, part, run_isAgg he, hd, hc]
theorem run_fldSN (P : Program) (ty : TypeId) (f n : Nat) (fs : Array Field) (fd : Field) (d : TypeDesc) (hu : P.underlying ty = some (.struct fs)) (hf : fs[f]? = some fd) (he : P.underlying fd.type = some d)
    (hd : isAggD d = true) (hi : (P.info? fd.type).map (·.size) = some n) (cs : Array Value) (w : World) : (fldS ty (.agg cs) f).run P w = .ok (.agg (cs.extract fd.offset (fd.offset + n))) w := by
  rw [fldS_eq]
  cases hq : P.info? fd.type with
  | none => simp [hq] at hi
  | some q =>
    have hs : q.size = n := by simpa [hq] using hi
    simp [Instr.field, run_underlying hu, hf, asAgg, part, run_isAgg he, hd, sizeOf, typeInfo, hq, hs]

/-! ### a new variable of a struct's or an array's type -/
@[irreducible] def alS (ty : TypeId) : Sem Value := Instr.alloc ty true (.tuple #[])
/-! ### worlds -/
/-- A later world that is as the earlier one below block B: the rules that the walk goes by. -/
theorem later {B : Nat} {W w1 : World} (hb : Below B W w1) : (∀ b o, b < B → w1.cell? ⟨b, o, none⟩ = W.cell? ⟨b, o, none⟩) ∧ (∀ b o, b < B → w1.frozen? ⟨b, o, none⟩ = W.frozen? ⟨b, o, none⟩) ∧
    (∀ b o n, b < B → win w1 b o n = win W b o n) ∧ (∀ b o n, b < B → okw w1 b o n = okw W b o n) ∧ W.heap.size ≤ w1.heap.size :=
  ⟨fun b o h => hb.cell (p := ⟨b, o, none⟩) h, fun b o h => hb.frozen (p := ⟨b, o, none⟩) h, fun b _ _ h => win_of_block (hb.block b h), fun b _ _ h => okw_of_block (hb.block b h), hb.size⟩
theorem Below.setWin {B : Nat} {a w : World} (h : Below B a w) {g o : Nat} (hg : B ≤ g) (cs : Array Value) : Below B a (setWin w g o cs) := by
  refine ⟨?_, ?_, ?_, ?_, fun k hk => ?_⟩
  · unfold Go.Proofs.YtegebjflhhbmiaaDoor.setWin; exact h.os
  · unfold Go.Proofs.YtegebjflhhbmiaaDoor.setWin; exact h.tape
  · unfold Go.Proofs.YtegebjflhhbmiaaDoor.setWin; exact h.output
  · rw [size_setWin]; exact h.size
  · rw [heap_setWin_other cs (by omega)]; exact h.block k hk
@[go_sem] theorem win_drewN {w : World} {g o n k : Nat} : win (w.drewN k) g o n = win w g o n := by unfold win; rfl
@[go_sem] theorem okw_drewN {w : World} {g o n k : Nat} : okw (w.drewN k) g o n = okw w g o n := by unfold okw; rfl
end Go.Proofs.YtegebjflhhbmiaaDoor
