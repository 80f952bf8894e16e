/- The operations of a walk, each as a law on what is owned. -/
import Derived.Test.YtegebjflhhbmiaaDoorZQC6AC
set_option linter.unusedSimpArgs false
set_option linter.unusedVariables false
namespace Go.Proofs.YtegebjflhhbmiaaDoor
open Go Go.RowKit

def Reads (H : HP) (g o n : Nat) (cs : Array Value) : Prop := ∀ w, Own H w → win w g o n = some cs
def ReadC (H : HP) (g o : Nat) (v : Value) : Prop := ∀ w, Own H w → w.cell? ⟨g, o, none⟩ = some v
def SlR {α : Type} (H : HP) (s : Nat) (enc : α → Array Value) (v : Value) (l : List α) : Prop := ∀ w, Own H w → SlIs w w.heap.size s enc v l
theorem own_next {A R : HP} {w : World} (h : Own (A * R) w) : Own R w := h.mono ent_drop
section
variable {A B R H : HP} {g o n : Nat} {cs : Array Value} {v : Value} {t : TypeId} {f : Nat × Nat}
theorem reads_part {cs' : Array Value} (hn : o + n ≤ cs.size) (he : cs.extract o (o + n) = cs') : Reads (blk g (.cells cs t f) * R) g o n cs' := fun w h => by
  unfold win
  rw [h.blk]
  simp only
  rw [if_pos hn, he]
theorem reads_whole (hn : cs.size = n) : Reads (blk g (.cells cs t f) * R) g 0 n cs := fun w h => by
  unfold win
  rw [h.blk]
  subst hn
  simp
theorem reads_next (h : Reads R g o n cs) : Reads (A * R) g o n cs := fun w hw => h w (own_next hw)
theorem readc_here (hv : cs[o]? = some v) : ReadC (blk g (.cells cs t f) * R) g o v := fun w h => by
  rw [cell_of_row w g o cs t f h.blk, hv]
theorem readc_next (h : ReadC R g o v) : ReadC (A * R) g o v := fun w hw => h w (own_next hw)
theorem Reads.cell (h : Reads H g o n cs) {i : Nat} (hi : i < n) (hv : cs[i]? = some v) : ReadC H g (o + i) v := fun w hw => (win_cell (h w hw) i hi).trans hv
theorem slr_next {α : Type} {s : Nat} {enc : α → Array Value} {l : List α} (h : SlR R s enc v l) : SlR (A * R) s enc v l := fun w hw => h w (own_next hw)
theorem slr_get {α : Type} {s c i : Nat} {enc : α → Array Value} {l : List α} {A : Option Addr} (h : SlR H s enc (.slice A n c) l) {w : World} (hw : Own H w) (hi : i < n) : ∃ b o a, A = some ⟨b, o, none⟩ ∧ l[i]? = some a ∧ Reads H b (o + i * s) s (enc a) := by
  obtain ⟨b, o, a, hA, _, ha, _⟩ := (h w hw).get hi
  refine ⟨b, o, a, hA, ha, fun w' hw' => ?_⟩
  obtain ⟨b', o', a', hA', _, ha', hwin⟩ := (h w' hw').get hi
  rw [hA] at hA'
  injection hA' with hA'
  injection hA' with e1 e2
  subst e1; subst e2
  rw [ha] at ha'
  cases ha'
  exact hwin
theorem slr_len {α : Type} {s c : Nat} {enc : α → Array Value} {l : List α} {A : Option Addr} (h : SlR H s enc (.slice A n c) l) {w : World} (hw : Own H w) : n = l.length ∧ n ≤ c ∧ c ≤ maxLen ∧ (A = none → c = 0) := (h w hw).len
theorem slr_form {α : Type} {s : Nat} {enc : α → Array Value} {l : List α} (h : SlR H s enc v l) {w : World} (hw : Own H w) : ∃ A c, v = .slice A l.length c := by
  obtain ⟨A, c, h1, _⟩ := h w hw
  exact ⟨A, c, h1⟩
theorem slr_nil {α : Type} {s : Nat} {enc : α → Array Value} : SlR H s enc (.slice none 0 0) ([] : List α) := fun _ _ => SlIs.nil
theorem SlR.mono {α : Type} {s : Nat} {enc : α → Array Value} {l : List α} (h : SlR H s enc v l) (e : Ent A H) : SlR A s enc v l := fun w hw => h w (hw.mono e)
theorem Reads.mono (h : Reads H g o n cs) (e : Ent A H) : Reads A g o n cs := fun w hw => h w (hw.mono e)
theorem slr_take {α : Type} {s c : Nat} {enc : α → Array Value} {l : List α} {A : Option Addr} (h : SlR H s enc (.slice A n c) l) (k : Nat) (hk : k ≤ n) : SlR H s enc (.slice A k c) (l.take k) := fun w hw => (h w hw).take k hk
end

/-- A row of one's own. -/
def row {α : Type} (E : TypeId) (s : Nat) (enc : α → Array Value) (v : Value) (l : List α) : HP := ⟨fun h => (flatL enc l).length = l.length * s ∧
  ((v = .slice none 0 0 ∧ l.length = 0) ∨ ∃ g cap cur, v = .slice (some ⟨g, 0, none⟩) l.length cap ∧ h g = some (.cells cur E (0, 0)) ∧ l.length ≤ cap ∧ cap ≤ maxLen ∧ cur.size = cap * s ∧ cur.toList.take (l.length * s) = flatL enc l),
  fun l ⟨a, b⟩ => ⟨a, b.imp id fun ⟨g, cap, cur, e, hg, r⟩ => ⟨g, cap, cur, e, l _ _ hg, r⟩⟩⟩
section
variable {α : Type} {E : TypeId} {s : Nat} {enc : α → Array Value} {v v' : Value} {l l' : List α} {R H : HP} {w w' c : World}
theorem Own.row (h : Own (row E s enc v l * R) w) : OwnIs w 0 E s enc v l := by
  obtain ⟨x, ⟨h1, h2, _, l1, _, ⟨hl, x1⟩, _⟩, i⟩ := h
  refine ⟨hl, ?_⟩
  rcases x1 with x1 | ⟨g, cap, cur, e, hg, r1, r2, r3, r4⟩
  · exact .inl x1
  · exact .inr ⟨g, cap, cur, e, Nat.zero_le _, i g _ (l1 g _ hg), r1, r2, r3, r4⟩
theorem Sat.rowTurn (h : Sat c (row E s enc v l * R) w) (ho : OwnIs w' 0 E s enc v' l') (hg : w.grownBy w' v.ownBlock) (hat : ∀ k, v'.ownBlock = some k → v.ownBlock = some k ∨ w.heap.size ≤ k) : Sat c (row E s enc v' l' * R) w' := by
  obtain ⟨x, ⟨h1, h2, d, l1, l2, ⟨hl, x1⟩, x2⟩, i⟩ := h.own
  have hv : ∀ k, v.ownBlock = some k → h1 k ≠ none := by
    intro k hk
    rcases x1 with ⟨rfl, _⟩ | ⟨g, cap, cur, rfl, hgg, _⟩
    · simp [Value.ownBlock] at hk
    · simp [Value.ownBlock] at hk
      subst hk
      rw [hgg]; simp
  let h1' : Hp := fun b => if v'.ownBlock = some b then w'.heap[b]? else none
  refine Sat.turn (h1 := h1) (h1' := h1') hg.os hg.tape hg.output ⟨h.os, h.tape, h.output⟩ d (i.le l2) x2 (fun b e hb => hg.block b hb (fun hh => hv b hh.symm e)) ⟨ho.1, ?_⟩ (fun b o e => ?_) (fun b e => ?_)
  · rcases ho.2 with x | ⟨g, cap, cur, e, _, hgg, r1, r2, r3, r4⟩
    · exact .inl x
    · refine .inr ⟨g, cap, cur, e, ?_, r1, r2, r3, r4⟩
      show (if v'.ownBlock = some g then w'.heap[g]? else none) = _
      rw [if_pos (by rw [e]; rfl), hgg]
  · have e' : (if v'.ownBlock = some b then w'.heap[b]? else none) = some o := e
    split at e'
    · exact e'
    · cases e'
  · have e' : (if v'.ownBlock = some b then w'.heap[b]? else none) ≠ none := e
    split at e'
    · rename_i hb
      exact (hat b hb).imp (hv b) id
    · exact absurd rfl e'
theorem own_at {n : Nat} (hat : v'.ownBlock = v.ownBlock ∨ v'.ownBlock = some n) : ∀ k, v'.ownBlock = some k → v.ownBlock = some k ∨ n ≤ k := by
  intro k hk
  rcases hat with hat | hat
  · rw [hat] at hk; exact .inl hk
  · rw [hat] at hk; cases hk; exact .inr (Nat.le_refl _)
theorem slr_row (hs : ∀ a, (enc a).size = s) : SlR (row E s enc v l * R) s enc v l := fun w hw => (Own.row hw).reads hs
theorem row_form (h : Own (row E s enc v l * R) w) : (v = .slice none 0 0 ∧ l = []) ∨ ∃ g cap, v = .slice (some ⟨g, 0, none⟩) l.length cap ∧ l.length ≤ cap ∧ cap ≤ maxLen := by
  rcases (Own.row h).form with x | ⟨g, cap, e, _, _, r1, r2, _⟩
  · exact .inl x
  · exact .inr ⟨g, cap, e, r1, r2⟩
theorem row_slice (h : Own (row E s enc v l * R) w) : ∃ A c, v = .slice A l.length c ∧ l.length ≤ c ∧ c ≤ maxLen := by
  rcases row_form h with ⟨rfl, rfl⟩ | ⟨g, cap, e, r1, r2⟩
  · exact ⟨none, 0, rfl, Nat.le_refl _, by decide⟩
  · exact ⟨_, cap, e, r1, r2⟩
theorem ent_row_nil {α : Type} {E : TypeId} {s : Nat} {enc : α → Array Value} : Ent H (row E s enc (.slice none 0 0) ([] : List α) * H) := fun h x =>
  ⟨fun _ => none, h, fun _ => .inl rfl, (fun _ _ e => by cases e), le_refl' h, ⟨by simp [flatL], .inl ⟨rfl, rfl⟩⟩, x⟩
end

/-! ### types -/
def AggT (P : Program) (ty : TypeId) (n : Nat) : Prop := ∃ d, P.underlying ty = some d ∧ isAggD d = true ∧ (P.info? ty).map (·.size) = some n
def ScT (P : Program) (ty : TypeId) : Prop := (∃ d, P.underlying ty = some d ∧ isAggD d = false) ∧ (P.info? ty).map (·.size) = some 1
def ZeroT (P : Program) (ty : TypeId) (z : Array Value) : Prop := ∃ v, (P.info? ty).bind (·.zero) = some v ∧ v.cells = z
def AppT {α : Type} (P : Program) (t E : TypeId) (s by_ : Nat) (enc : α → Array Value) : Prop := P.underlying t = some (.slice E) ∧ (∃ z : Value, (P.info? E).map (fun i => (i.size, i.zero, i.bytes)) = some (s, some z, by_) ∧ z.cells.size = s) ∧ 0 < s ∧ (∀ a, (enc a).size = s) ∧ (∀ a, flat (enc a) = true)
def entB (P : Program) (f : FuncId) : Bool := match P.funcs[f]? with | some fn => !(fn.name == "runtime.NumGoroutine") && fn.body.isSome | none => false

def Spec (P : Program) (c : World) (f : FuncId) (args : Array Value) (H : HP) (post : Value → HP) : Prop :=
  ∀ w, Sat c H w → Calls P f args w (fun e w' => ∃ v, e = .returned v ∧ Sat c (post v) w')
theorem Spec.of_same {P : Program} {c : World} {f : FuncId} {args : Array Value} {H : HP} {v : Value} (h : ∀ w, Own H w → Calls P f args w (fun e w' => e = .returned v ∧ w = w')) : Spec P c f args H (fun r => pu (r = v) H) := fun w hs =>
  (h w hs.own).mono fun e w' ⟨he, hb⟩ => ⟨v, he, by subst hb; exact hs.mono (ent_pu rfl ent_refl)⟩
theorem Spec.mono {P : Program} {c : World} {f : FuncId} {args : Array Value} {H H' : HP} {post post' : Value → HP} (h : Spec P c f args H post) (e : Ent H' H) (e' : ∀ v, Ent (post v) (post' v)) : Spec P c f args H' post' := fun w hs =>
  (h w (hs.mono e)).mono fun _ _ ⟨v, he, hb⟩ => ⟨v, he, hb.mono (e' v)⟩

/-! ### runs -/
section
variable {P : Program} {H : HP} {w : World} {a : Act} {dst : Option Tmp} {ty ty' : TypeId} {pos : String} {aft : Array Edge} {gd : Option (Nat × Bool)} {x y : Operand}
theorem run_loadN {g o n : Nat} {cs : Array Value} (hw : Own H w) (hx : a.eval x = .pointer (some ⟨g, o, none⟩)) (ht : AggT P ty n) (hr : Reads H g o n cs) : (execOp a.eval ⟨dst, .load ty x, ty', pos, aft, gd⟩).run P w = .ok (.value (.agg cs)) w := by
  obtain ⟨d, h1, h2, h3⟩ := ht
  simp [execOp, hx, Instr.loadAt, Instr.sureAddr, run_loadVar_win h1 h2 h3 (hr w hw)]
theorem run_load1 {g o : Nat} {v : Value} (hw : Own H w) (hx : a.eval x = .pointer (some ⟨g, o, none⟩)) (ht : ScT P ty) (hr : ReadC H g o v) : (execOp a.eval ⟨dst, .load ty x, ty', pos, aft, gd⟩).run P w = .ok (.value v) w := by
  obtain ⟨⟨d, h1, h2⟩, h3⟩ := ht
  simp [execOp, hx, Instr.loadAt, Instr.sureAddr, loadVar, run_isAgg h1, h2, load, Sem.run, hr w hw]
end
def BuildT (P : Program) (t : TypeId) (ps : Array (Nat × Value)) (v : Value) : Prop := ∀ w, (Instr.build t ps).run P w = .ok v w
theorem run_build {P : Program} {H : HP} {w : World} {a : Act} {dst : Option Tmp} {t ty' : TypeId} {pos : String} {aft : Array Edge} {gd : Option (Nat × Bool)} {parts : Array (Nat × Operand)} {ps : Array (Nat × Value)} {v : Value} (_ : Own H w) (hp : (parts.map fun (i, x) => (i, a.eval x)) = ps) (hb : BuildT P t ps v) : (execOp a.eval ⟨dst, .build t parts, ty', pos, aft, gd⟩).run P w = .ok (.value v) w := by
  subst hp
  simp [execOp, hb w]
theorem scT_bang {P : Program} {ty : TypeId} (ht : ScT P ty) : ∃ i, P.info? ty = some i ∧ i.size = 1 := Option.map_eq_some_iff.1 ht.2
theorem cells_one {v : Value} (h : v.oneCell' = true) : v.cells = #[v] := by
  unfold Value.oneCell' at h
  unfold Value.cells
  split at h <;> simp_all
theorem run_store1 {P : Program} {ty : TypeId} {g o : Nat} {v : Value} {cs : Array Value} {t : TypeId} {w : World} (ht : ScT P ty) (h1 : v.oneCell' = true) (hb : w.heap[g]? = some (.cells cs t (0, 0))) (ho : o < cs.size) :
    (Instr.storeAt ty (.pointer (some ⟨g, o, none⟩)) v).run P w = .ok () (w.setCell ⟨g, o, none⟩ v) := by
  obtain ⟨i, hi, hz⟩ := scT_bang ht
  have hc := cells_one h1
  have hc1 : w.cell? ⟨g, o, none⟩ = some cs[o] := by rw [cell_of_row w g o cs t (0, 0) hb]; exact Array.getElem?_eq_getElem ho
  have hfz : w.frozen? ⟨g, o, none⟩ = false := frozen_of_row w g o cs t hb
  have hadd : (⟨g, o, none⟩ : Addr).add 0 = ⟨g, o, none⟩ := by unfold Addr.add; split <;> simp_all
  simp only [Instr.storeAt, Instr.sureAddr, storeVar, sizeOf, typeInfo, program, Sem.run_bind, Sem.run_pure, Result.andThen_ok]
  simp [Sem.run, hi, hz, hc, storeCells, hadd]
  unfold Value.oneCell' at h1
  simp only [store]
  cases v <;> simp_all [Sem.run]
theorem run_newVar {P : Program} {ty : TypeId} {v : Value} {w : World} : (newVar ty v).run P w = .ok ⟨w.heap.size, 0, none⟩ (w.alloc (.cells v.cells ty)) := by
  simp [newVar, newRow, newObj]
  rfl
def BsT (P : Program) (t E : TypeId) (n : Nat) : Prop := P.underlying t = some (.slice E) ∧ ∃ z : Value, (P.info? E).map (fun i => (i.size, i.zero)) = some (n, some z) ∧ z.cells.size = n ∧ 0 < n ∧ n ≤ 16777216
theorem run_bs1 {P : Program} {t E : TypeId} {n : Nat} {v : Value} {w : World} (hT : BsT P t E n) (hc : v.cells.size = n) : (Instr.buildSlice t 1 #[(0, v)]).run P w = .ok (.slice (some ⟨w.heap.size, 0, none⟩) 1 1) (w.alloc (.cells v.cells E)) := by
  obtain ⟨hu, z, hi, hz, h0, hs⟩ := hT
  obtain ⟨i, hq, he⟩ := Option.map_eq_some_iff.1 hi
  simp only [Prod.mk.injEq] at he
  obtain ⟨h1, h2⟩ := he
  have hfill : ∀ zero : Array Value, zero.size = n → Instr.fill (fun i => some (i * n, n)) zero [(0, v)] = some v.cells := by
    intro zero hzs
    have hfold : (v.cells.zipIdx.foldl (fun (x : Array Value) (y : Value × Nat) => x.setIfInBounds (0 + y.2) y.1) zero) = v.cells := by
      rw [← Array.foldl_toList, Array.toList_zipIdx]
      exact fold_set v.cells v.cells.toList 0 _ (by simp [hc, hzs]) (by simp) (by simp) (fun j hj => absurd hj (by omega))
    simp only [Instr.fill, hc, Nat.zero_mul, hzs]
    rw [if_neg (by simp)]
    exact congrArg some hfold
  have hrange : ((Array.range (1 * n)).map (z.cells[· % z.cells.size]!)).size = n := by simp
  have h3 : ¬ (1 * n > 2 ^ 24) := by omega
  have h4 : ¬ (1 * n = 0) := by omega
  unfold Instr.buildSlice
  simp only [Sem.run_bind, run_underlying hu, Result.andThen_ok, sizeOf, typeInfo, program]
  simp only [Sem.run, Result.andThen_ok, hq, Sem.run_pure, h1, if_neg h3, if_neg h4, Sem.run_bind, zeroValue, typeInfo, program, h2, hfill _ hrange, newRow, newObj]
  rfl
theorem ent_bs0_row {α : Type} {E : TypeId} {s g : Nat} {enc : α → Array Value} {R : HP} : Ent (blk g (.cells #[] E (0, 0)) * R) (row E s enc (.slice (some ⟨g, 0, none⟩) 0 0) ([] : List α) * R) :=
  star_mono (fun h x => ⟨by simp [flatL], .inr ⟨g, 0, #[], rfl, x, Nat.le_refl _, by decide, by simp, by simp [flatL]⟩⟩) ent_refl
theorem reads_left {A R : HP} {g o n : Nat} {cs : Array Value} (h : Reads A g o n cs) : Reads (A * R) g o n cs := fun w hw => h w (hw.mono ent_keep)
theorem readc_left {A R : HP} {g o : Nat} {v : Value} (h : ReadC A g o v) : ReadC (A * R) g o v := fun w hw => h w (hw.mono ent_keep)
theorem slr_left {α : Type} {A R : HP} {s : Nat} {enc : α → Array Value} {v : Value} {l : List α} (h : SlR A s enc v l) : SlR (A * R) s enc v l := fun w hw => h w (hw.mono ent_keep)
def intv (i : Int) : Array Value := #[.int .i64 i]
@[go_sem] theorem intv_size (i : Int) : (intv i).size = 1 := rfl
@[go_sem] theorem intv_flat (i : Int) : flat (intv i) = true := by simp [flat, intv, Value.oneCell']
theorem run_enter {P : Program} {f : FuncId} {args : Array Value} {w : World} (h : entB P f = true) : (callFunc f args).run P w = .ok (.enter f args) w := by
  unfold entB at h
  unfold callFunc
  simp only [program, Sem.run_bind]
  cases hf : P.funcs[f]? with
  | none => rw [hf] at h; cases h
  | some fn =>
    rw [hf] at h
    simp only [Bool.and_eq_true, Bool.not_eq_true'] at h
    obtain ⟨h1, h2⟩ := h
    have h3 : fn.body ≠ none := by cases hb : fn.body <;> simp_all
    have h1' : fn.name ≠ "runtime.NumGoroutine" := by simpa using h1
    simp [Sem.run, hf, h1', h3]

theorem pl_loadN {P : Program} {c : World} {H : HP} {w : World} {ops : Array Oper} {Q : Exit → Act → World → Prop} {a : Act} {dst : Option Tmp} {ty : TypeId} {pos : String} {aft : Array Edge} {rest : List Oper} {gd : Option (Nat × Bool)} {t : TypeId} {x : Operand} {g o n : Nat} {cs : Array Value} (hs : Sat c H w) (hx : a.eval x = .pointer (some ⟨g, o, none⟩)) (ht : AggT P t n) (hr : Reads H g o n cs) (hg : gd = none) (hK : wpList P ops Q rest (a.put dst (.agg cs)) w) : wpList P ops Q (⟨dst, .load t x, ty, pos, aft, gd⟩ :: rest) a w := by
  subst hg
  refine wpList_plain rfl fun K hk => ?_
  unfold Oper.wp
  rw [run_loadN hs.own hx ht hr]
  exact hk _ _ hK
theorem mx_loadN {P : Program} {w : World} {ops : Array Oper} {Q : Exit → Act → World → Prop} {a : Act} {dst : Option Tmp} {ty : TypeId} {pos : String} {aft : Array Edge} {rest : List Oper} {N : Nat} {R : HP} {hR : Hp} {t : TypeId} {x : Operand} {g o n : Nat} {cs : Array Value} (hRR : R.on hR) (hx : a.eval x = .pointer (some ⟨g, o, none⟩)) (ht : AggT P t n) (hr : Reads R g o n cs) (hK : wpMix P ops (In hR) Q N rest (a.put dst (.agg cs)) w) : wpMix P ops (In hR) Q (N + 1) (⟨dst, .load t x, ty, pos, aft, none⟩ :: rest) a w :=
  mix_float _ rfl rfl (fun h hk => run_loadN (H := R) ⟨hR, hRR, hk⟩ hx ht hr) hK
theorem pl_load1 {P : Program} {c : World} {H : HP} {w : World} {ops : Array Oper} {Q : Exit → Act → World → Prop} {a : Act} {dst : Option Tmp} {ty : TypeId} {pos : String} {aft : Array Edge} {rest : List Oper} {gd : Option (Nat × Bool)} {t : TypeId} {x : Operand} {g o : Nat} {v : Value} (hs : Sat c H w) (hx : a.eval x = .pointer (some ⟨g, o, none⟩)) (ht : ScT P t) (hr : ReadC H g o v) (hg : gd = none) (hK : wpList P ops Q rest (a.put dst v) w) : wpList P ops Q (⟨dst, .load t x, ty, pos, aft, gd⟩ :: rest) a w := by
  subst hg
  refine wpList_plain rfl fun K hk => ?_
  unfold Oper.wp
  rw [run_load1 hs.own hx ht hr]
  exact hk _ _ hK
theorem mx_load1 {P : Program} {w : World} {ops : Array Oper} {Q : Exit → Act → World → Prop} {a : Act} {dst : Option Tmp} {ty : TypeId} {pos : String} {aft : Array Edge} {rest : List Oper} {N : Nat} {R : HP} {hR : Hp} {t : TypeId} {x : Operand} {g o : Nat} {v : Value} (hRR : R.on hR) (hx : a.eval x = .pointer (some ⟨g, o, none⟩)) (ht : ScT P t) (hr : ReadC R g o v) (hK : wpMix P ops (In hR) Q N rest (a.put dst v) w) : wpMix P ops (In hR) Q (N + 1) (⟨dst, .load t x, ty, pos, aft, none⟩ :: rest) a w :=
  mix_float _ rfl rfl (fun h hk => run_load1 (H := R) ⟨hR, hRR, hk⟩ hx ht hr) hK
theorem pl_build {P : Program} {c : World} {H : HP} {w : World} {ops : Array Oper} {Q : Exit → Act → World → Prop} {a : Act} {dst : Option Tmp} {ty : TypeId} {pos : String} {aft : Array Edge} {rest : List Oper} {gd : Option (Nat × Bool)} {t : TypeId} {parts : Array (Nat × Operand)} {ps : Array (Nat × Value)} {v : Value} (hs : Sat c H w) (hp : (parts.map fun (i, x) => (i, a.eval x)) = ps) (hb : BuildT P t ps v) (hg : gd = none) (hK : wpList P ops Q rest (a.put dst v) w) : wpList P ops Q (⟨dst, .build t parts, ty, pos, aft, gd⟩ :: rest) a w := by
  subst hg
  refine wpList_plain rfl fun K hk => ?_
  unfold Oper.wp
  rw [run_build hs.own hp hb]
  exact hk _ _ hK
theorem mx_build {P : Program} {w : World} {ops : Array Oper} {Q : Exit → Act → World → Prop} {a : Act} {dst : Option Tmp} {ty : TypeId} {pos : String} {aft : Array Edge} {rest : List Oper} {N : Nat} {R : HP} {hR : Hp} {t : TypeId} {parts : Array (Nat × Operand)} {ps : Array (Nat × Value)} {v : Value} (hRR : R.on hR) (hp : (parts.map fun (i, x) => (i, a.eval x)) = ps) (hb : BuildT P t ps v) (hK : wpMix P ops (In hR) Q N rest (a.put dst v) w) : wpMix P ops (In hR) Q (N + 1) (⟨dst, .build t parts, ty, pos, aft, none⟩ :: rest) a w :=
  mix_float _ rfl rfl (fun h hk => run_build (H := R) ⟨hR, hRR, hk⟩ hp hb) hK
theorem ow_alloc {P : Program} {c : World} {H : HP} {w : World} {Q : Exit → Act → World → Prop} {a : Act} {dst : Option Tmp} {ty : TypeId} {pos : String} {aft : Array Edge} {gd : Option (Nat × Bool)} {K : Act → World → Prop} {t : TypeId} {z : Array Value} (hs : Sat c H w) (hz : ZeroT P t z) (hK : ∀ (g : Nat) (w' : World), Sat c (blk g (.cells z t (0, 0)) * H) w' → K (a.put dst (.pointer (some ⟨g, 0, none⟩))) w') : Oper.wp P ⟨dst, .alloc t, ty, pos, aft, gd⟩ a w K Q := by
  obtain ⟨v, hv, rfl⟩ := hz
  have hrun : (execOp a.eval ⟨dst, .alloc t, ty, pos, aft, gd⟩).run P w = .ok (.value (.pointer (some ⟨w.heap.size, 0, none⟩))) (w.alloc (.cells v.cells t)) := by
    cases hq : P.info? t with
    | none => simp [hq] at hv
    | some i =>
      have hi : i.zero = some v := by simpa [hq] using hv
      simp [execOp, Instr.alloc, zeroValue, typeInfo, hq, hi, run_newVar]
  unfold Oper.wp
  rw [hrun]
  exact hK _ _ (hs.alloc _)
theorem pl_alloc {P : Program} {c : World} {H : HP} {w : World} {ops : Array Oper} {Q : Exit → Act → World → Prop} {a : Act} {dst : Option Tmp} {ty : TypeId} {pos : String} {aft : Array Edge} {rest : List Oper} {t : TypeId} {z : Array Value} (hs : Sat c H w) (hz : ZeroT P t z) (hK : ∀ (g : Nat) (w' : World), Sat c (blk g (.cells z t (0, 0)) * H) w' → wpList P ops Q rest (a.put dst (.pointer (some ⟨g, 0, none⟩))) w') : wpList P ops Q (⟨dst, .alloc t, ty, pos, aft, none⟩ :: rest) a w :=
  wpList_plain rfl fun K hk => ow_alloc hs hz (fun g w' h => hk _ _ (hK g w' h))
theorem ow_box {P : Program} {c : World} {H : HP} {w : World} {Q : Exit → Act → World → Prop} {a : Act} {dst : Option Tmp} {ty : TypeId} {pos : String} {aft : Array Edge} {gd : Option (Nat × Bool)} {K : Act → World → Prop} {t : TypeId} {x : Operand} {v : Value} {cs : Array Value} (hs : Sat c H w) (hx : a.eval x = v) (hc : v.cells = cs) (hK : ∀ (g : Nat) (w' : World), Sat c (blk g (.cells cs t (0, 0)) * H) w' → K (a.put dst (.pointer (some ⟨g, 0, none⟩))) w') : Oper.wp P ⟨dst, .box t x, ty, pos, aft, gd⟩ a w K Q := by
  subst hc
  have hrun : (execOp a.eval ⟨dst, .box t x, ty, pos, aft, gd⟩).run P w = .ok (.value (.pointer (some ⟨w.heap.size, 0, none⟩))) (w.alloc (.cells v.cells t)) := by
    simp [execOp, Instr.box, hx, run_newVar]
  unfold Oper.wp
  rw [hrun]
  exact hK _ _ (hs.alloc _)
theorem pl_box {P : Program} {c : World} {H : HP} {w : World} {ops : Array Oper} {Q : Exit → Act → World → Prop} {a : Act} {dst : Option Tmp} {ty : TypeId} {pos : String} {aft : Array Edge} {rest : List Oper} {t : TypeId} {x : Operand} {v : Value} {cs : Array Value} (hs : Sat c H w) (hx : a.eval x = v) (hc : v.cells = cs) (hK : ∀ (g : Nat) (w' : World), Sat c (blk g (.cells cs t (0, 0)) * H) w' → wpList P ops Q rest (a.put dst (.pointer (some ⟨g, 0, none⟩))) w') : wpList P ops Q (⟨dst, .box t x, ty, pos, aft, none⟩ :: rest) a w :=
  wpList_plain rfl fun K hk => ow_box hs hx hc (fun g w' h => hk _ _ (hK g w' h))
theorem ow_store1 {P : Program} {c : World} {H : HP} {w : World} {Q : Exit → Act → World → Prop} {a : Act} {dst : Option Tmp} {ty : TypeId} {pos : String} {aft : Array Edge} {gd : Option (Nat × Bool)} {K : Act → World → Prop} {t t2 : TypeId} {x y : Operand} {g o : Nat} {v : Value} {cs : Array Value} {R : HP} (hs : Sat c H w) (hx : a.eval x = .pointer (some ⟨g, o, none⟩)) (hy : a.eval y = v) (ht : ScT P t) (he : Ent H (blk g (.cells cs t2 (0, 0)) * R)) (ho : o < cs.size) (h1 : v.oneCell' = true) (hK : ∀ w' : World, Sat c (blk g (.cells (cs.setIfInBounds o v) t2 (0, 0)) * R) w' → K (a.put dst undef) w') : Oper.wp P ⟨dst, .store t x y, ty, pos, aft, gd⟩ a w K Q := by
  have hs' := hs.mono he
  have hb := hs'.own.blk
  have hrun : (execOp a.eval ⟨dst, .store t x y, ty, pos, aft, gd⟩).run P w = .ok .skip (w.setCell ⟨g, o, none⟩ v) := by
    simp [execOp, hx, hy, run_store1 ht h1 hb ho]
  unfold Oper.wp
  rw [hrun]
  refine hK _ (hs'.upd (w' := w.setCell ⟨g, o, none⟩ v) rfl rfl rfl ?_ (fun b hb' _ => heap_setCell_other w _ b v hb'))
  unfold World.setCell
  simp only [Array.getElem?_modify]
  rw [hb]
  simp
theorem pl_store1 {P : Program} {c : World} {H : HP} {w : World} {ops : Array Oper} {Q : Exit → Act → World → Prop} {a : Act} {dst : Option Tmp} {ty : TypeId} {pos : String} {aft : Array Edge} {rest : List Oper} {t t2 : TypeId} {x y : Operand} {g o : Nat} {v : Value} {cs : Array Value} {R : HP} (hs : Sat c H w) (hx : a.eval x = .pointer (some ⟨g, o, none⟩)) (hy : a.eval y = v) (ht : ScT P t) (he : Ent H (blk g (.cells cs t2 (0, 0)) * R)) (ho : o < cs.size) (h1 : v.oneCell' = true) (hK : ∀ w' : World, Sat c (blk g (.cells (cs.setIfInBounds o v) t2 (0, 0)) * R) w' → wpList P ops Q rest (a.put dst undef) w') : wpList P ops Q (⟨dst, .store t x y, ty, pos, aft, none⟩ :: rest) a w :=
  wpList_plain rfl fun K hk => ow_store1 hs hx hy ht he ho h1 (fun  w' h => hk _ _ (hK  w' h))
theorem ow_storeN {P : Program} {c : World} {H : HP} {w : World} {Q : Exit → Act → World → Prop} {a : Act} {dst : Option Tmp} {ty : TypeId} {pos : String} {aft : Array Edge} {gd : Option (Nat × Bool)} {K : Act → World → Prop} {t t2 : TypeId} {x y : Operand} {g o n : Nat} {vs cs cs' : Array Value} {R : HP} (hs : Sat c H w) (hx : a.eval x = .pointer (some ⟨g, o, none⟩)) (hy : a.eval y = .agg vs) (ht : AggT P t n) (he : Ent H (blk g (.cells cs t2 (0, 0)) * R)) (hn : vs.size = n) (ho : o + n ≤ cs.size) (hf : flat vs = true) (hc : splice cs o vs = cs') (hK : ∀ w' : World, Sat c (blk g (.cells cs' t2 (0, 0)) * R) w' → K (a.put dst undef) w') : Oper.wp P ⟨dst, .store t x y, ty, pos, aft, gd⟩ a w K Q := by
  subst hc
  have hs' := hs.mono he
  have hb := hs'.own.blk
  obtain ⟨d, _, _, hi⟩ := ht
  have hok : okw w g o n = true := by unfold okw; rw [hb]; simp [ho]
  have hrun : (execOp a.eval ⟨dst, .store t x y, ty, pos, aft, gd⟩).run P w = .ok .skip (setWin w g o vs) := by
    have := run_stS P t n hi w g o vs
    rw [stS_eq] at this
    unfold stAgg at this
    rw [if_pos ⟨hok, hn, hf⟩] at this
    simp [execOp, hx, hy, this]
  unfold Oper.wp
  rw [hrun]
  have h1 : rowAt w g = cs := by unfold rowAt; rw [hb]
  refine hK _ (hs'.upd (w' := setWin w g o vs) ?_ ?_ ?_ ?_ (fun b hb' _ => heap_setWin_other vs hb'))
  · unfold setWin; rfl
  · unfold setWin; rfl
  · unfold setWin; rfl
  · unfold setWin; rw [h1]; exact setRow_heap w g cs _ t2 (0, 0) hb
theorem pl_storeN {P : Program} {c : World} {H : HP} {w : World} {ops : Array Oper} {Q : Exit → Act → World → Prop} {a : Act} {dst : Option Tmp} {ty : TypeId} {pos : String} {aft : Array Edge} {rest : List Oper} {t t2 : TypeId} {x y : Operand} {g o n : Nat} {vs cs cs' : Array Value} {R : HP} (hs : Sat c H w) (hx : a.eval x = .pointer (some ⟨g, o, none⟩)) (hy : a.eval y = .agg vs) (ht : AggT P t n) (he : Ent H (blk g (.cells cs t2 (0, 0)) * R)) (hn : vs.size = n) (ho : o + n ≤ cs.size) (hf : flat vs = true) (hc : splice cs o vs = cs') (hK : ∀ w' : World, Sat c (blk g (.cells cs' t2 (0, 0)) * R) w' → wpList P ops Q rest (a.put dst undef) w') : wpList P ops Q (⟨dst, .store t x y, ty, pos, aft, none⟩ :: rest) a w :=
  wpList_plain rfl fun K hk => ow_storeN hs hx hy ht he hn ho hf hc (fun  w' h => hk _ _ (hK  w' h))
theorem mx_storeN {P : Program} {c : World} {H : HP} {w : World} {ops : Array Oper} {Q : Exit → Act → World → Prop} {a : Act} {dst : Option Tmp} {ty : TypeId} {pos : String} {aft : Array Edge} {rest : List Oper} {N : Nat} {hR : Hp} {t t2 : TypeId} {x y : Operand} {g o n : Nat} {vs cs cs' : Array Value} {R : HP} (hs : Sat c H w) (hx : a.eval x = .pointer (some ⟨g, o, none⟩)) (hy : a.eval y = .agg vs) (ht : AggT P t n) (he : Ent H (blk g (.cells cs t2 (0, 0)) * R)) (hn : vs.size = n) (ho : o + n ≤ cs.size) (hf : flat vs = true) (hc : splice cs o vs = cs') (hq : ∀ w' : World, Sat c (blk g (.cells cs' t2 (0, 0)) * R) w' → In hR w') (hK : ∀ w' : World, Sat c (blk g (.cells cs' t2 (0, 0)) * R) w' → wpMix P ops (In hR) Q N rest (a.put dst undef) w') : wpMix P ops (In hR) Q (N + 1) (⟨dst, .store t x y, ty, pos, aft, none⟩ :: rest) a w :=
  mix_chain rfl rfl fun K hk => ow_storeN hs hx hy ht he hn ho hf hc (fun  w' h => hk _ _ ⟨hq  w' h, hK  w' h⟩)
theorem ow_bs1 {P : Program} {c : World} {H : HP} {w : World} {Q : Exit → Act → World → Prop} {a : Act} {dst : Option Tmp} {ty : TypeId} {pos : String} {aft : Array Edge} {gd : Option (Nat × Bool)} {K : Act → World → Prop} {t E : TypeId} {x : Operand} {n : Nat} {v : Value} {cs : Array Value} (hs : Sat c H w) (hT : BsT P t E n) (hx : a.eval x = v) (hc : v.cells = cs) (hn : cs.size = n) (hK : ∀ (g : Nat) (w' : World), Sat c (blk g (.cells cs E (0, 0)) * H) w' → K (a.put dst (.slice (some ⟨g, 0, none⟩) 1 1)) w') : Oper.wp P ⟨dst, .buildSlice t 1 #[(0, x)], ty, pos, aft, gd⟩ a w K Q := by
  subst hc
  have hrun : (execOp a.eval ⟨dst, .buildSlice t 1 #[(0, x)], ty, pos, aft, gd⟩).run P w = .ok (.value (.slice (some ⟨w.heap.size, 0, none⟩) 1 1)) (w.alloc (.cells v.cells E)) := by
    simp [execOp, hx, run_bs1 hT hn]
  unfold Oper.wp
  rw [hrun]
  exact hK _ _ (hs.alloc _)
theorem pl_bs1 {P : Program} {c : World} {H : HP} {w : World} {ops : Array Oper} {Q : Exit → Act → World → Prop} {a : Act} {dst : Option Tmp} {ty : TypeId} {pos : String} {aft : Array Edge} {rest : List Oper} {t E : TypeId} {x : Operand} {n : Nat} {v : Value} {cs : Array Value} (hs : Sat c H w) (hT : BsT P t E n) (hx : a.eval x = v) (hc : v.cells = cs) (hn : cs.size = n) (hK : ∀ (g : Nat) (w' : World), Sat c (blk g (.cells cs E (0, 0)) * H) w' → wpList P ops Q rest (a.put dst (.slice (some ⟨g, 0, none⟩) 1 1)) w') : wpList P ops Q (⟨dst, .buildSlice t 1 #[(0, x)], ty, pos, aft, none⟩ :: rest) a w :=
  wpList_plain rfl fun K hk => ow_bs1 hs hT hx hc hn (fun g w' h => hk _ _ (hK g w' h))
theorem mx_bs1 {P : Program} {c : World} {H : HP} {w : World} {ops : Array Oper} {Q : Exit → Act → World → Prop} {a : Act} {dst : Option Tmp} {ty : TypeId} {pos : String} {aft : Array Edge} {rest : List Oper} {N : Nat} {hR : Hp} {t E : TypeId} {x : Operand} {n : Nat} {v : Value} {cs : Array Value} (hs : Sat c H w) (hT : BsT P t E n) (hx : a.eval x = v) (hc : v.cells = cs) (hn : cs.size = n) (hq : ∀ (g : Nat) (w' : World), Sat c (blk g (.cells cs E (0, 0)) * H) w' → In hR w') (hK : ∀ (g : Nat) (w' : World), Sat c (blk g (.cells cs E (0, 0)) * H) w' → wpMix P ops (In hR) Q N rest (a.put dst (.slice (some ⟨g, 0, none⟩) 1 1)) w') : wpMix P ops (In hR) Q (N + 1) (⟨dst, .buildSlice t 1 #[(0, x)], ty, pos, aft, none⟩ :: rest) a w :=
  mix_chain rfl rfl fun K hk => ow_bs1 hs hT hx hc hn (fun g w' h => hk _ _ ⟨hq g w' h, hK g w' h⟩)
theorem ow_bs0r {P : Program} {c : World} {H : HP} {w : World} {Q : Exit → Act → World → Prop} {a : Act} {dst : Option Tmp} {ty : TypeId} {pos : String} {aft : Array Edge} {gd : Option (Nat × Bool)} {K : Act → World → Prop} {α : Type} {t E : TypeId} {s by_ : Nat} {enc : α → Array Value} (hs : Sat c H w) (hT : AppT P t E s by_ enc) (hK : ∀ (g : Nat) (w' : World), Sat c (row E s enc (.slice (some ⟨g, 0, none⟩) 0 0) ([] : List α) * H) w' → K (a.put dst (.slice (some ⟨g, 0, none⟩) 0 0)) w') : Oper.wp P ⟨dst, .buildSlice t 0 #[], ty, pos, aft, gd⟩ a w K Q := by
  have hrun : (execOp a.eval ⟨dst, .buildSlice t 0 #[], ty, pos, aft, gd⟩).run P w = .ok (.value (.slice (some ⟨w.heap.size, 0, none⟩) 0 0)) (w.alloc (.cells #[] E)) := by
    obtain ⟨hu, ⟨z, hi, _⟩, _⟩ := hT
    obtain ⟨i, hq, he⟩ := Option.map_eq_some_iff.1 hi
    have h0 : Array.range 0 = #[] := rfl
    simp [execOp, Instr.buildSlice, run_underlying hu, sizeOf, typeInfo, hq, newRow, newObj, Instr.fill, h0]
    rfl
  unfold Oper.wp
  rw [hrun]
  exact hK _ _ ((hs.alloc _).mono ent_bs0_row)
theorem pl_bs0r {P : Program} {c : World} {H : HP} {w : World} {ops : Array Oper} {Q : Exit → Act → World → Prop} {a : Act} {dst : Option Tmp} {ty : TypeId} {pos : String} {aft : Array Edge} {rest : List Oper} {α : Type} {t E : TypeId} {s by_ : Nat} {enc : α → Array Value} (hs : Sat c H w) (hT : AppT P t E s by_ enc) (hK : ∀ (g : Nat) (w' : World), Sat c (row E s enc (.slice (some ⟨g, 0, none⟩) 0 0) ([] : List α) * H) w' → wpList P ops Q rest (a.put dst (.slice (some ⟨g, 0, none⟩) 0 0)) w') : wpList P ops Q (⟨dst, .buildSlice t 0 #[], ty, pos, aft, none⟩ :: rest) a w :=
  wpList_plain rfl fun K hk => ow_bs0r hs hT (fun g w' h => hk _ _ (hK g w' h))
theorem ow_call {P : Program} {c : World} {H : HP} {w : World} {Q : Exit → Act → World → Prop} {a : Act} {dst : Option Tmp} {ty : TypeId} {pos : String} {aft : Array Edge} {gd : Option (Nat × Bool)} {K : Act → World → Prop} {f : FuncId} {xs : Array Operand} {ats : Array TypeId} {av : Array Value} {H1 : HP} {post : Value → HP} (hs : Sat c H w) (hsp : Spec P c f av H1 post) (ha : xs.map a.eval = av) (he : Ent H H1) (hb : entB P f = true) (hK : ∀ (v : Value) (w' : World), Sat c (post v) w' → K (a.put dst v) w') : Oper.wp P ⟨dst, .call ⟨.value (.func f), xs, ats⟩, ty, pos, aft, gd⟩ a w K Q := by
  have hrun : (execOp a.eval ⟨dst, .call ⟨.value (.func f), xs, ats⟩, ty, pos, aft, gd⟩).run P w = .ok (.enter f av) w := by
    rw [execOp_call_go, run_enter hb, ha]
    simp
  unfold Oper.wp
  rw [hrun]
  refine (hsp w (hs.mono he)).mono ?_
  rintro e w' ⟨v, rfl, hs'⟩
  exact hK v w' hs'
theorem pl_call {P : Program} {c : World} {H : HP} {w : World} {ops : Array Oper} {Q : Exit → Act → World → Prop} {a : Act} {dst : Option Tmp} {ty : TypeId} {pos : String} {aft : Array Edge} {rest : List Oper} {f : FuncId} {xs : Array Operand} {ats : Array TypeId} {av : Array Value} {H1 : HP} {post : Value → HP} (hs : Sat c H w) (hsp : Spec P c f av H1 post) (ha : xs.map a.eval = av) (he : Ent H H1) (hb : entB P f = true) (hK : ∀ (v : Value) (w' : World), Sat c (post v) w' → wpList P ops Q rest (a.put dst v) w') : wpList P ops Q (⟨dst, .call ⟨.value (.func f), xs, ats⟩, ty, pos, aft, none⟩ :: rest) a w :=
  wpList_plain rfl fun K hk => ow_call hs hsp ha he hb (fun v w' h => hk _ _ (hK v w' h))
theorem mx_call {P : Program} {c : World} {H : HP} {w : World} {ops : Array Oper} {Q : Exit → Act → World → Prop} {a : Act} {dst : Option Tmp} {ty : TypeId} {pos : String} {aft : Array Edge} {rest : List Oper} {N : Nat} {hR : Hp} {f : FuncId} {xs : Array Operand} {ats : Array TypeId} {av : Array Value} {H1 : HP} {post : Value → HP} (hs : Sat c H w) (hsp : Spec P c f av H1 post) (ha : xs.map a.eval = av) (he : Ent H H1) (hb : entB P f = true) (hq : ∀ (v : Value) (w' : World), Sat c (post v) w' → In hR w') (hK : ∀ (v : Value) (w' : World), Sat c (post v) w' → wpMix P ops (In hR) Q N rest (a.put dst v) w') : wpMix P ops (In hR) Q (N + 1) (⟨dst, .call ⟨.value (.func f), xs, ats⟩, ty, pos, aft, none⟩ :: rest) a w :=
  mix_chain rfl rfl fun K hk => ow_call hs hsp ha he hb (fun v w' h => hk _ _ ⟨hq v w' h, hK v w' h⟩)
theorem ow_callv {P : Program} {c : World} {H : HP} {w : World} {Q : Exit → Act → World → Prop} {a : Act} {dst : Option Tmp} {ty : TypeId} {pos : String} {aft : Array Edge} {gd : Option (Nat × Bool)} {K : Act → World → Prop} {f : FuncId} {x : Operand} {xs : Array Operand} {ats : Array TypeId} {fst cap : Array Value} {av : Array Value} {H1 : HP} {post : Value → HP} (hs : Sat c H w) (hsp : Spec P c f av H1 post) (hx : a.eval x = .func (.func f) fst cap) (ha : fst ++ xs.map a.eval ++ cap = av) (he : Ent H H1) (hb : entB P f = true) (hK : ∀ (v : Value) (w' : World), Sat c (post v) w' → K (a.put dst v) w') : Oper.wp P ⟨dst, .call ⟨.value x, xs, ats⟩, ty, pos, aft, gd⟩ a w K Q := by
  have hrun : (execOp a.eval ⟨dst, .call ⟨.value x, xs, ats⟩, ty, pos, aft, gd⟩).run P w = .ok (.enter f av) w := by
    subst ha
    simp [execOp, resolve, hx, Deferred.ofValue, invoke, run_enter hb]
  unfold Oper.wp
  rw [hrun]
  refine (hsp w (hs.mono he)).mono ?_
  rintro e w' ⟨v, rfl, hs'⟩
  exact hK v w' hs'
theorem pl_callv {P : Program} {c : World} {H : HP} {w : World} {ops : Array Oper} {Q : Exit → Act → World → Prop} {a : Act} {dst : Option Tmp} {ty : TypeId} {pos : String} {aft : Array Edge} {rest : List Oper} {f : FuncId} {x : Operand} {xs : Array Operand} {ats : Array TypeId} {fst cap : Array Value} {av : Array Value} {H1 : HP} {post : Value → HP} (hs : Sat c H w) (hsp : Spec P c f av H1 post) (hx : a.eval x = .func (.func f) fst cap) (ha : fst ++ xs.map a.eval ++ cap = av) (he : Ent H H1) (hb : entB P f = true) (hK : ∀ (v : Value) (w' : World), Sat c (post v) w' → wpList P ops Q rest (a.put dst v) w') : wpList P ops Q (⟨dst, .call ⟨.value x, xs, ats⟩, ty, pos, aft, none⟩ :: rest) a w :=
  wpList_plain rfl fun K hk => ow_callv hs hsp hx ha he hb (fun v w' h => hk _ _ (hK v w' h))
theorem ow_append1 {P : Program} {c : World} {H : HP} {w : World} {Q : Exit → Act → World → Prop} {a : Act} {dst : Option Tmp} {ty : TypeId} {pos : String} {aft : Array Edge} {gd : Option (Nat × Bool)} {K : Act → World → Prop} {α : Type} {sl x : Operand} {t E : TypeId} {s by_ : Nat} {enc : α → Array Value} {u : Value} {l : List α} {e : α} {g cp : Nat} {R : HP} (hs : Sat c H w) (hT : AppT P t E s by_ enc) (hv : a.eval sl = u) (he : Ent H (row E s enc u l * R)) (hx : a.eval x = .slice (some ⟨g, 0, none⟩) 1 cp) (hw : Reads H g 0 s (enc e)) (h63 : l.length + 1 ≤ maxLen) (hby : (l.length + 1) * by_ ≤ 140737488355328) (hK : ∀ (A : Option Addr) (cq : Nat) (w' : World), Sat c (row E s enc (.slice A (l.length + 1) cq) (l ++ [e]) * R) w' → K (a.put dst (.slice A (l.length + 1) cq)) w') : Oper.wp P ⟨dst, .call ⟨.builtin .append, #[sl, x], #[t, t]⟩, ty, pos, aft, gd⟩ a w K Q := by
  have hs' := hs.mono he
  obtain ⟨hT, ⟨z, hi, hz⟩, h0, hsz, hf⟩ := hT
  refine wp_append1 0 E s by_ enc u l e g cp z hT hi hz h0 hsz hf hv hs'.own.row hx (hw w hs.own) h63 hby (Nat.zero_le _) fun v' w' ho _ hg hat => ?_
  have hs2 := hs'.rowTurn ho hg (own_at hat)
  obtain ⟨A, cq, rfl, _, _⟩ := row_slice hs2.own
  rw [List.length_append] at hs2 ⊢
  exact hK A cq w' hs2
theorem pl_append1 {P : Program} {c : World} {H : HP} {w : World} {ops : Array Oper} {Q : Exit → Act → World → Prop} {a : Act} {dst : Option Tmp} {ty : TypeId} {pos : String} {aft : Array Edge} {rest : List Oper} {α : Type} {sl x : Operand} {t E : TypeId} {s by_ : Nat} {enc : α → Array Value} {u : Value} {l : List α} {e : α} {g cp : Nat} {R : HP} (hs : Sat c H w) (hT : AppT P t E s by_ enc) (hv : a.eval sl = u) (he : Ent H (row E s enc u l * R)) (hx : a.eval x = .slice (some ⟨g, 0, none⟩) 1 cp) (hw : Reads H g 0 s (enc e)) (h63 : l.length + 1 ≤ maxLen) (hby : (l.length + 1) * by_ ≤ 140737488355328) (hK : ∀ (A : Option Addr) (cq : Nat) (w' : World), Sat c (row E s enc (.slice A (l.length + 1) cq) (l ++ [e]) * R) w' → wpList P ops Q rest (a.put dst (.slice A (l.length + 1) cq)) w') : wpList P ops Q (⟨dst, .call ⟨.builtin .append, #[sl, x], #[t, t]⟩, ty, pos, aft, none⟩ :: rest) a w :=
  wpList_plain rfl fun K hk => ow_append1 hs hT hv he hx hw h63 hby (fun A cq w' h => hk _ _ (hK A cq w' h))
theorem mx_append1 {P : Program} {c : World} {H : HP} {w : World} {ops : Array Oper} {Q : Exit → Act → World → Prop} {a : Act} {dst : Option Tmp} {ty : TypeId} {pos : String} {aft : Array Edge} {rest : List Oper} {N : Nat} {hR : Hp} {α : Type} {sl x : Operand} {t E : TypeId} {s by_ : Nat} {enc : α → Array Value} {u : Value} {l : List α} {e : α} {g cp : Nat} {R : HP} (hs : Sat c H w) (hT : AppT P t E s by_ enc) (hv : a.eval sl = u) (he : Ent H (row E s enc u l * R)) (hx : a.eval x = .slice (some ⟨g, 0, none⟩) 1 cp) (hw : Reads H g 0 s (enc e)) (h63 : l.length + 1 ≤ maxLen) (hby : (l.length + 1) * by_ ≤ 140737488355328) (hq : ∀ (A : Option Addr) (cq : Nat) (w' : World), Sat c (row E s enc (.slice A (l.length + 1) cq) (l ++ [e]) * R) w' → In hR w') (hK : ∀ (A : Option Addr) (cq : Nat) (w' : World), Sat c (row E s enc (.slice A (l.length + 1) cq) (l ++ [e]) * R) w' → wpMix P ops (In hR) Q N rest (a.put dst (.slice A (l.length + 1) cq)) w') : wpMix P ops (In hR) Q (N + 1) (⟨dst, .call ⟨.builtin .append, #[sl, x], #[t, t]⟩, ty, pos, aft, none⟩ :: rest) a w :=
  mix_chain rfl rfl fun K hk => ow_append1 hs hT hv he hx hw h63 hby (fun A cq w' h => hk _ _ ⟨hq A cq w' h, hK A cq w' h⟩)
theorem ow_appendN {P : Program} {c : World} {H : HP} {w : World} {Q : Exit → Act → World → Prop} {a : Act} {dst : Option Tmp} {ty : TypeId} {pos : String} {aft : Array Edge} {gd : Option (Nat × Bool)} {K : Act → World → Prop} {α : Type} {sl x : Operand} {t E : TypeId} {s by_ : Nat} {enc : α → Array Value} {u u2 : Value} {l m : List α} {R : HP} (hs : Sat c H w) (hT : AppT P t E s by_ enc) (hv : a.eval sl = u) (he : Ent H (row E s enc u l * R)) (hx : a.eval x = u2) (hw : SlR H s enc u2 m) (h63 : l.length + m.length ≤ maxLen) (hby : (l.length + m.length) * by_ ≤ 140737488355328) (hK : ∀ (A : Option Addr) (cq : Nat) (w' : World), Sat c (row E s enc (.slice A (l.length + m.length) cq) (l ++ m) * R) w' → K (a.put dst (.slice A (l.length + m.length) cq)) w') : Oper.wp P ⟨dst, .call ⟨.builtin .append, #[sl, x], #[t, t]⟩, ty, pos, aft, gd⟩ a w K Q := by
  have hs' := hs.mono he
  obtain ⟨hT, ⟨z, hi, hz⟩, h0, hsz, hf⟩ := hT
  refine wp_appendN 0 E s by_ enc u l m u2 w.heap.size z hT hi hz h0 hsz hf hv hs'.own.row hx (hw w hs.own) h63 hby (Nat.zero_le _) fun v' w' ho _ hg hat => ?_
  have hs2 := hs'.rowTurn ho hg (own_at hat)
  obtain ⟨A, cq, rfl, _, _⟩ := row_slice hs2.own
  rw [List.length_append] at hs2 ⊢
  exact hK A cq w' hs2
theorem pl_appendN {P : Program} {c : World} {H : HP} {w : World} {ops : Array Oper} {Q : Exit → Act → World → Prop} {a : Act} {dst : Option Tmp} {ty : TypeId} {pos : String} {aft : Array Edge} {rest : List Oper} {α : Type} {sl x : Operand} {t E : TypeId} {s by_ : Nat} {enc : α → Array Value} {u u2 : Value} {l m : List α} {R : HP} (hs : Sat c H w) (hT : AppT P t E s by_ enc) (hv : a.eval sl = u) (he : Ent H (row E s enc u l * R)) (hx : a.eval x = u2) (hw : SlR H s enc u2 m) (h63 : l.length + m.length ≤ maxLen) (hby : (l.length + m.length) * by_ ≤ 140737488355328) (hK : ∀ (A : Option Addr) (cq : Nat) (w' : World), Sat c (row E s enc (.slice A (l.length + m.length) cq) (l ++ m) * R) w' → wpList P ops Q rest (a.put dst (.slice A (l.length + m.length) cq)) w') : wpList P ops Q (⟨dst, .call ⟨.builtin .append, #[sl, x], #[t, t]⟩, ty, pos, aft, none⟩ :: rest) a w :=
  wpList_plain rfl fun K hk => ow_appendN hs hT hv he hx hw h63 hby (fun A cq w' h => hk _ _ (hK A cq w' h))
theorem mx_appendN {P : Program} {c : World} {H : HP} {w : World} {ops : Array Oper} {Q : Exit → Act → World → Prop} {a : Act} {dst : Option Tmp} {ty : TypeId} {pos : String} {aft : Array Edge} {rest : List Oper} {N : Nat} {hR : Hp} {α : Type} {sl x : Operand} {t E : TypeId} {s by_ : Nat} {enc : α → Array Value} {u u2 : Value} {l m : List α} {R : HP} (hs : Sat c H w) (hT : AppT P t E s by_ enc) (hv : a.eval sl = u) (he : Ent H (row E s enc u l * R)) (hx : a.eval x = u2) (hw : SlR H s enc u2 m) (h63 : l.length + m.length ≤ maxLen) (hby : (l.length + m.length) * by_ ≤ 140737488355328) (hq : ∀ (A : Option Addr) (cq : Nat) (w' : World), Sat c (row E s enc (.slice A (l.length + m.length) cq) (l ++ m) * R) w' → In hR w') (hK : ∀ (A : Option Addr) (cq : Nat) (w' : World), Sat c (row E s enc (.slice A (l.length + m.length) cq) (l ++ m) * R) w' → wpMix P ops (In hR) Q N rest (a.put dst (.slice A (l.length + m.length) cq)) w') : wpMix P ops (In hR) Q (N + 1) (⟨dst, .call ⟨.builtin .append, #[sl, x], #[t, t]⟩, ty, pos, aft, none⟩ :: rest) a w :=
  mix_chain rfl rfl fun K hk => ow_appendN hs hT hv he hx hw h63 hby (fun A cq w' h => hk _ _ ⟨hq A cq w' h, hK A cq w' h⟩)

theorem ent_puR {A B : HP} {p : Prop} (h : Ent A B) (hp : p) : Ent A (pu p B) := ent_pu hp h
theorem cells_agg (cs : Array Value) : (Value.agg cs).cells = cs := rfl
theorem cells_int (k : IntKind) (n : Int) : (Value.int k n).cells = #[.int k n] := rfl
theorem cells_bool (b : Bool) : (Value.bool b).cells = #[.bool b] := rfl
theorem cells_string (s : ByteArray) : (Value.string s).cells = #[.string s] := rfl
theorem cells_slice (a : Option Addr) (n c : Nat) : (Value.slice a n c).cells = #[.slice a n c] := rfl
theorem cells_pointer (a : Option Addr) : (Value.pointer a).cells = #[.pointer a] := rfl
theorem cells_map (a : Option Nat) : (Value.map a).cells = #[.map a] := rfl
theorem cells_iface (t : TypeId) (v : Value) : (Value.iface t v).cells = #[.iface t v] := rfl
theorem cells_nilIface : Value.nilIface.cells = #[.nilIface] := rfl
theorem cells_func (f : Fn) (a b : Array Value) : (Value.func f a b).cells = #[.func f a b] := rfl
theorem Sat.split {c w : World} {H A R : HP} (hs : Sat c H w) (he : Ent H (A * R)) : ∃ R', R' = R ∧ Sat c (A * R') w := ⟨R, rfl, hs.mono he⟩
theorem Sat.name {c w : World} {H : HP} (hs : Sat c H w) : ∃ H', H' = H ∧ Sat c H' w := ⟨H, rfl, hs⟩

/-! ### guards -/
section
variable {P : Program} {w : World} {ops : Array Oper} {Q : Exit → Act → World → Prop} {a : Act} {dst : Option Tmp} {op : Op} {ty : TypeId} {pos : String} {aft : Array Edge} {rest : List Oper}
theorem pl_strike {gw : Nat × Bool} (hw : Region.wanted ⟨dst, op, ty, pos, aft, some gw⟩ (yielded ops a.tmps) = true) (h : wpList P ops Q (⟨dst, op, ty, pos, aft, none⟩ :: rest) a w) : wpList P ops Q (⟨dst, op, ty, pos, aft, some gw⟩ :: rest) a w := by
  unfold wpList at h ⊢
  rw [if_pos (by simp [Region.wanted])] at h
  rw [if_pos hw]
  exact h
theorem pl_skip {gw : Nat × Bool} (hw : Region.wanted ⟨dst, op, ty, pos, aft, some gw⟩ (yielded ops a.tmps) = false) (h : wpList P ops Q rest (a.put dst undef) w) : wpList P ops Q (⟨dst, op, ty, pos, aft, some gw⟩ :: rest) a w := by
  unfold wpList
  rw [if_neg (by simp [hw])]
  exact h
theorem pl_strike_eq {gw : Nat × Bool} (hw : Region.wanted ⟨dst, op, ty, pos, aft, some gw⟩ (yielded ops a.tmps) = true) : wpList P ops Q (⟨dst, op, ty, pos, aft, some gw⟩ :: rest) a w = wpList P ops Q (⟨dst, op, ty, pos, aft, none⟩ :: rest) a w := by
  conv => lhs; unfold wpList
  conv => rhs; unfold wpList
  rw [if_pos hw, if_pos (by simp [Region.wanted])]
  rfl
theorem pl_skip_eq {gw : Nat × Bool} (hw : Region.wanted ⟨dst, op, ty, pos, aft, some gw⟩ (yielded ops a.tmps) = false) : wpList P ops Q (⟨dst, op, ty, pos, aft, some gw⟩ :: rest) a w = wpList P ops Q rest (a.put dst undef) w := by
  conv => lhs; unfold wpList
  rw [if_neg (by simp [hw])]
theorem mx_strike {J : World → Prop} {n : Nat} {gw : Nat × Bool} (hw : Region.wanted ⟨dst, op, ty, pos, aft, some gw⟩ (yielded ops a.tmps) = true) (h : wpMix P ops J Q (n + 1) (⟨dst, op, ty, pos, aft, none⟩ :: rest) a w) : wpMix P ops J Q (n + 1) (⟨dst, op, ty, pos, aft, some gw⟩ :: rest) a w := mix_strike hw h
theorem mx_skip {J : World → Prop} {n : Nat} {gw : Nat × Bool} (hw : Region.wanted ⟨dst, op, ty, pos, aft, some gw⟩ (yielded ops a.tmps) = false) (h : wpMix P ops J Q n rest (a.put dst undef) w) : wpMix P ops J Q (n + 1) (⟨dst, op, ty, pos, aft, some gw⟩ :: rest) a w := mix_skip hw h
theorem pl_guard_t {j : Nat} {d : Tmp} {b : Bool} (hd : (ops[j]?).bind (·.dst) = some d) (hb : a.tmps.getD d undef = .bool b)
    (h1 : b = true → wpList P ops Q (⟨dst, op, ty, pos, aft, none⟩ :: rest) { a with tmps := a.tmps.setIfInBounds d (.bool true) } w)
    (h0 : b = false → wpList P ops Q rest (({ a with tmps := a.tmps.setIfInBounds d (.bool false) } : Act).put dst undef) w) : wpList P ops Q (⟨dst, op, ty, pos, aft, some (j, true)⟩ :: rest) a w := by
  have hy := yielded_of hd hb
  cases hx : b with
  | true => have := h1 hx; rw [act_set hb true hx] at this; exact pl_strike (by simp [Region.wanted, hy, hx]) this
  | false => have := h0 hx; rw [act_set hb false hx] at this; exact pl_skip (by simp [Region.wanted, hy, hx]) this
theorem pl_guard_f {j : Nat} {d : Tmp} {b : Bool} (hd : (ops[j]?).bind (·.dst) = some d) (hb : a.tmps.getD d undef = .bool b)
    (h0 : b = false → wpList P ops Q (⟨dst, op, ty, pos, aft, none⟩ :: rest) { a with tmps := a.tmps.setIfInBounds d (.bool false) } w)
    (h1 : b = true → wpList P ops Q rest (({ a with tmps := a.tmps.setIfInBounds d (.bool true) } : Act).put dst undef) w) : wpList P ops Q (⟨dst, op, ty, pos, aft, some (j, false)⟩ :: rest) a w := by
  have hy := yielded_of hd hb
  cases hx : b with
  | false => have := h0 hx; rw [act_set hb false hx] at this; exact pl_strike (by simp [Region.wanted, hy, hx]) this
  | true => have := h1 hx; rw [act_set hb true hx] at this; exact pl_skip (by simp [Region.wanted, hy, hx]) this
end

/-! ### regions that draw -/
section
variable {P : Program} {c : World} {H G R : HP} {w : World} {Q : Exit → Act → World → Prop} {a : Act}
theorem wp_region_sl {id : Nat} {l : List Oper} (hs : Sat c H w) (n : Nat) (he : Ent H (G * R)) (hm : P.follows .mixedOrders = true) (hB : mixOk l.toArray n = true)
    (h : ∀ (hR : Hp) (w' : World), R.on hR → Sat c (Exh hR * (G * emp)) w' → wpMix P l.toArray (In hR) Q n l a w') : (Code.region id l.toArray true).wp P Q a w := by
  obtain ⟨x, ⟨h1, h2, d, l1, l2, x1, x2⟩, i⟩ := (hs.mono he).own
  refine wp_region_mix (In h2) n hm hB (i.le l2) (h h2 w.drew x2 ⟨hs.os, hs.tape, hs.output, x, ⟨h2, h1, dj_comm d, l2, l1, le_refl' _, (by rw [star_emp]; exact x1)⟩, i⟩)
theorem in_of_sat {hR : Hp} (hs : Sat c H w) (he : Ent H (Exh hR * emp)) : In hR w := by
  obtain ⟨x, ⟨h1, _, _, l1, _, x1, _⟩, i⟩ := hs.mono he |>.own
  exact fun b o e => i b o (l1 b o (x1 b o e))
/-- Behind the floating part: what was held fast is owned again. -/
theorem mix_thaw {hR : Hp} {ops : Array Oper} {l : List Oper} (hRR : R.on hR) (hs : Sat c H w) (he : Ent H (Exh hR * G)) (h : ∀ w', Sat c (R * G) w' → wpList P ops Q l a w') : wpMix P ops (In hR) Q 0 l a w :=
  mix_zero (h w (hs.mono (ent_turn he (exh_ent hRR))))
theorem mix_end {hR : Hp} {ops : Array Oper} {n : Nat} (hRR : R.on hR) (hs : Sat c H w) (he : Ent H (Exh hR * G)) (h : ∀ w', Sat c (R * G) w' → Q .normal a w') : wpMix P ops (In hR) Q (n + 1) [] a w :=
  mix_nil (h w (hs.mono (ent_turn he (exh_ent hRR))))
theorem ent_pair {A B R1 R2 : HP} (h : Ent H (A * R1)) (h2 : Ent R1 (B * R2)) : Ent H ((A * B) * R2) := by
  rw [star_assoc]
  exact ent_front h h2
theorem ent_exh_next {hR : Hp} {A B : HP} (h : Ent B (Exh hR * emp)) : Ent (A * B) (Exh hR * emp) := ent_trans ent_drop h
theorem ent_exh_here {hR : Hp} {A : HP} : Ent (Exh hR * A) (Exh hR * emp) := star_mono ent_refl ent_emp
end
end Go.Proofs.YtegebjflhhbmiaaDoor
