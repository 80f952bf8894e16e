/- More operations of a walk: make, copy, an append that grows, bytes to strings and back; rows that are only read from now on. -/
import Derived.Test.YtflibhphpnajeaaDoorZUC6AG
import Derived.ArgAppend
import Derived.Laws.IdiomStrings
import Derived.Laws.BytesString
import Derived.Laws.CopyRow
import Derived.OwnWalk
set_option linter.unusedSimpArgs false
set_option linter.unusedVariables false
namespace Go.Proofs.YtflibhphpnajeaaDoor
open Go Go.RowKit

def bytv (i : Int) : Array Value := #[.int .u8 i]
@[go_sem] theorem bytv_size (i : Int) : (bytv i).size = 1 := rfl
@[go_sem] theorem bytv_flat (i : Int) : flat (bytv i) = true := by simp [flat, bytv, Value.oneCell']
@[go_sem] theorem bytv_0 (i : Int) : (bytv i)[0]? = some (.int .u8 i) := rfl
@[go_sem] theorem bytv_set (i j : Int) : (bytv i).setIfInBounds 0 (.int .u8 j) = bytv j := rfl
/-! ### what is only read from now on -/
section
variable {α : Type} {s : Nat} {enc : α → Array Value} {v : Value} {l : List α} {R H : HP}
end
def MakeT {α : Type} (P : Program) (t E : TypeId) (s by_ : Nat) (enc : α → Array Value) (z0 : α) : Prop := P.underlying t = some (.slice E) ∧ (∃ z : Value, (P.info? E).map (fun i => (i.size, i.zero, i.bytes)) = some (s, some z, by_) ∧ z.cells = enc z0) ∧ 0 < s ∧ ∀ a, (enc a).size = s
theorem madeCells_rep {α : Type} {s : Nat} {enc : α → Array Value} {z0 : α} (hs : (enc z0).size = s) (h0 : 0 < s) : ∀ n, (madeCells (enc z0) (n * s)).toList = flatL enc (List.replicate n z0) := fun n => by
  apply List.ext_getElem?
  intro j
  have hl : (flatL enc (List.replicate n z0)).length = n * s := by
    induction n with
    | zero => simp [flatL]
    | succ n ih =>
      rw [List.replicate_succ]
      simp only [flatL, List.flatMap_cons, List.length_append] at ih ⊢
      rw [ih]
      simp [hs]
      rw [Nat.add_mul]
      omega
  by_cases hj : j < n * s
  · have h1 : ∀ n j, j < n * s → (flatL enc (List.replicate n z0))[j]? = (enc z0)[j % s]? := fun n => by
      induction n with
      | zero => intro j h; omega
      | succ n ih =>
        intro j h
        rw [List.replicate_succ]
        show ((enc z0).toList ++ flatL enc (List.replicate n z0))[j]? = _
        by_cases hjs : j < s
        · rw [List.getElem?_append_left (by simpa [hs] using hjs), Nat.mod_eq_of_lt hjs, Array.getElem?_toList]
        · rw [List.getElem?_append_right (by simp [hs]; omega), show (enc z0).toList.length = s by simp [hs], ih (j - s) (by have := Nat.add_mul n 1 s; omega), Nat.mod_eq_sub_mod (a := j) (b := s) (by omega)]
    rw [h1 n j hj]
    have hm : j % s < (enc z0).size := by rw [hs]; exact Nat.mod_lt _ h0
    simp [madeCells, hj, hs]
    rw [Array.getElem?_eq_getElem hm, getElem!_pos (enc z0) (j % s) hm]
  · rw [List.getElem?_eq_none (by simp [madeCells]; omega), List.getElem?_eq_none (by omega)]
theorem row_blk {α : Type} {E : TypeId} {s g n cap : Nat} {enc : α → Array Value} {l : List α} {R : HP} {c w : World} (hs : Sat c (row E s enc (.slice (some ⟨g, 0, none⟩) n cap) l * R) w) :
    ∃ cur, ((flatL enc l).length = l.length * s ∧ n = l.length ∧ l.length ≤ cap ∧ cap ≤ maxLen ∧ cur.size = cap * s ∧ cur.toList.take (l.length * s) = flatL enc l) ∧ Sat c (blk g (.cells cur E (0, 0)) * R) w := by
  obtain ⟨x, ⟨h1, h2, d, l1, l2, ⟨hf, x1⟩, x2⟩, i⟩ := hs.own
  rcases x1 with ⟨e, _⟩ | ⟨g', cap', cur, e, hg, r1, r2, r3, r4⟩
  · cases e
  · injection e with e1 e2 e3
    injection e1 with e1
    injection e1 with e1
    subst e1
    subst e3
    exact ⟨cur, ⟨hf, e2, r1, r2, r3, r4⟩, hs.os, hs.tape, hs.output, x, ⟨h1, h2, d, l1, l2, hg, x2⟩, i⟩
def ptv (a : Option Addr) : Array Value := #[.pointer a]
@[go_sem] theorem ptv_size (a : Option Addr) : (ptv a).size = 1 := rfl
@[go_sem] theorem ptv_flat (a : Option Addr) : flat (ptv a) = true := by simp [flat, ptv, Value.oneCell']
@[go_sem] theorem ptv_0 (a : Option Addr) : (ptv a)[0]? = some (.pointer a) := rfl
theorem ow_storeIn {P : Program} {c : World} {H : HP} {w : World} {Q : Exit → Act → World → Prop} {a : Act} {dst : Option Tmp} {ty : TypeId} {pos : String} {aft : Array Edge} {gd : Option (Nat × Bool)} {K : Act → World → Prop} {α : Type} {t E : TypeId} {x y : Operand} {g o i j n cap s : Nat} {enc : α → Array Value} {l : List α} {e e2 : α} {v : Value} {R : HP} (hs : Sat c H w) (hx : a.eval x = .pointer (some ⟨g, o, none⟩)) (he : Ent H (row E s enc (.slice (some ⟨g, 0, none⟩) n cap) l * R)) (hy : a.eval y = v) (ht : ScT P t) (h1 : v.oneCell' = true) (ho : o = i * s + j) (hj : j < s) (hi : l[i]? = some e) (hse : (enc e).setIfInBounds j v = enc e2) (hsz : ∀ a, (enc a).size = s) (hK : ∀ w' : World, Sat c (row E s enc (.slice (some ⟨g, 0, none⟩) n cap) (l.set i e2) * R) w' → K (a.put dst undef) w') : Oper.wp P ⟨dst, .store t x y, ty, pos, aft, gd⟩ a w K Q := by
  subst ho
  obtain ⟨cur, hfc, hs'⟩ := row_blk (hs.mono he)
  obtain ⟨hfl, hn, hnc, hcm, hcs, htk⟩ := hfc
  have hil : i < l.length := (List.getElem?_eq_some_iff.1 hi).1
  have hlt : i * s + j < l.length * s := by
    have : (i + 1) * s ≤ l.length * s := Nat.mul_le_mul_right s hil
    rw [Nat.add_mul] at this
    omega
  have hcap : l.length * s ≤ cap * s := Nat.mul_le_mul_right s hnc
  have hb := hs'.own.blk
  have hoc : i * s + j < cur.size := by rw [hcs]; omega
  have hrun : (execOp a.eval ⟨dst, .store t x y, ty, pos, aft, gd⟩).run P w = .ok .skip (w.setCell ⟨g, i * s + j, none⟩ v) := by
    simp [execOp, hx, hy, run_store1 ht h1 hb hoc]
  unfold Oper.wp
  rw [hrun]
  have hs2 : Sat c (blk g (.cells (cur.setIfInBounds (i * s + j) v) E (0, 0)) * R) (w.setCell ⟨g, i * s + j, none⟩ v) := by
    refine hs'.upd (w' := w.setCell ⟨g, i * s + j, none⟩ v) rfl rfl rfl ?_ (fun b hb' _ => heap_setCell_other w _ b v hb')
    unfold World.setCell
    simp only [Array.getElem?_modify]
    rw [hb]
    simp
  refine hK _ (hs2.mono (star_mono (fun h x => ⟨by rw [flatL_length hsz], .inr ⟨g, cap, _, by rw [hn, List.length_set], x, by rw [List.length_set]; exact hnc, hcm, by rw [Array.size_setIfInBounds]; exact hcs, ?_⟩⟩) ent_refl))
  rw [List.length_set]
  apply List.ext_getElem?
  intro q
  by_cases hq : q < l.length * s
  · have h0 : 0 < s := by omega
    have hqd : q / s < l.length := (Nat.div_lt_iff_lt_mul h0).2 hq
    have hqm : q % s < s := Nat.mod_lt _ h0
    have hqe : q / s * s + q % s = q := by rw [Nat.mul_comm]; exact Nat.div_add_mod q s
    have hold := flatL_at hsz l (q / s) _ (List.getElem?_eq_getElem hqd) (q % s) hqm
    rw [hqe, ← htk, List.getElem?_take, if_pos hq, Array.getElem?_toList] at hold
    rw [List.getElem?_take, if_pos hq, Array.getElem?_toList]
    by_cases hqi : q / s = i
    · have hnew := flatL_at hsz (l.set i e2) (q / s) e2 (by rw [hqi, List.getElem?_set, if_pos rfl, if_pos hil]) (q % s) hqm
      rw [hqe] at hnew
      rw [hnew, ← hse]
      have hle : l[q / s] = e := by
        have h8 := List.getElem?_eq_getElem hqd
        have h9 : l[q / s]? = some e := by rw [hqi]; exact hi
        exact Option.some.inj (h8.symm.trans h9)
      rw [hle] at hold
      by_cases hqj : q % s = j
      · have : i * s + j = q := by rw [← hqi, ← hqj]; exact hqe
        rw [this, hqj, Array.getElem?_setIfInBounds_self_of_lt (by omega), Array.getElem?_setIfInBounds_self_of_lt (by rw [hsz]; exact hj)]
      · have : i * s + j ≠ q := fun h => hqj (by rw [← hqe, hqi] at h; omega)
        rw [Array.getElem?_setIfInBounds_ne this, Array.getElem?_setIfInBounds_ne (fun h => hqj h.symm), hold]
    · have hnew := flatL_at hsz (l.set i e2) (q / s) l[q / s] (by rw [List.getElem?_set, if_neg (fun h => hqi h.symm), List.getElem?_eq_getElem hqd]) (q % s) hqm
      rw [hqe] at hnew
      have : i * s + j ≠ q := fun h => hqi (by
        rw [← h, Nat.add_comm, Nat.add_mul_div_right _ _ h0, Nat.div_eq_of_lt hj, Nat.zero_add])
      rw [Array.getElem?_setIfInBounds_ne this, hnew, hold]
  · rw [List.getElem?_eq_none (by rw [List.length_take]; omega), List.getElem?_eq_none (by rw [flatL_length hsz, List.length_set]; omega)]
theorem pl_storeIn {P : Program} {c : World} {H : HP} {w : World} {ops : Array Oper} {Q : Exit → Act → World → Prop} {a : Act} {dst : Option Tmp} {ty : TypeId} {pos : String} {aft : Array Edge} {rest : List Oper} {α : Type} {t E : TypeId} {x y : Operand} {g o i j n cap s : Nat} {enc : α → Array Value} {l : List α} {e e2 : α} {v : Value} {R : HP} (hs : Sat c H w) (hx : a.eval x = .pointer (some ⟨g, o, none⟩)) (he : Ent H (row E s enc (.slice (some ⟨g, 0, none⟩) n cap) l * R)) (hy : a.eval y = v) (ht : ScT P t) (h1 : v.oneCell' = true) (ho : o = i * s + j) (hj : j < s) (hi : l[i]? = some e) (hse : (enc e).setIfInBounds j v = enc e2) (hsz : ∀ a, (enc a).size = s) (hK : ∀ w' : World, Sat c (row E s enc (.slice (some ⟨g, 0, none⟩) n cap) (l.set i e2) * R) w' → wpList P ops Q rest (a.put dst undef) w') : wpList P ops Q (⟨dst, .store t x y, ty, pos, aft, none⟩ :: rest) a w :=
  wpList_plain rfl fun K hk => ow_storeIn hs hx he hy ht h1 ho hj hi hse hsz (fun  w' h => hk _ _ (hK  w' h))
/-- .. whose results are a plain value and a struct; and two structs. -/
theorem ret_tmp_cell {P : Program} {fn : Func} {R : Ending → World → Prop} {a : Act} {w : World} {p u : Tmp} {ty : TypeId} {n : Nat} {d : TypeDesc} (hr : fn.results = #[.tmp u, .cell p ty]) (hu : P.underlying ty = some d) (hd : isAggD d = true) (hi : (P.info? ty).map (·.size) = some n)
    (g : Nat) (hp : a.tmps.getD p undef = .pointer (some ⟨g, 0, none⟩)) (cs : Array Value) (hw : win w g 0 n = some cs) (hdf : a.defers = []) (h : R (.returned (.tuple #[a.tmps.getD u undef, .agg cs])) w) : bodyPost P fn R .ret a w := by
  refine bodyPost_ret ?_ hdf h
  have hp' : a.tmps[p]?.getD undef = .pointer (some ⟨g, 0, none⟩) := by simpa using hp
  simp [results, hr, hp', asAddr, run_loadVar_win hu hd hi hw]
end Go.Proofs.YtflibhphpnajeaaDoor
