/- A region that draws: a move of a register may be taken first. -/
import Derived.Test.YtgoifgockcpnhaaDoorZDC5AA
set_option linter.unusedSimpArgs false
set_option linter.unusedVariables false
namespace Go.Proofs.YtgoifgockcpnhaaDoor
open Go Go.RowKit

section
variable {P : Program} {ops : Array Oper} {J : World → Prop} {Q : Exit → Act → World → Prop}

/-- L holds with i all that i asks for. -/
def Closed (ops : Array Oper) (L : Nat → Prop) : Prop := ∀ j o, ops[j]? = some o → L j → ∀ e ∈ o.after, Region.binds .any e = true → L e.on
/-! ### packed -/
end
end Go.Proofs.YtgoifgockcpnhaaDoor

set_option linter.unusedSimpArgs false
set_option linter.unusedVariables false
namespace Go.Proofs.YtgoifgockcpnhaaDoor
open Go Go.RowKit

section
variable {P : Program} {ops : Array Oper} {J : World → Prop} {Q : Exit → Act → World → Prop}
def NoEnd (Q : Exit → Act → World → Prop) : Prop := ∀ e a w, Q e a w → e = .normal
theorem wp_strict (hQ : NoEnd Q) {o : Oper} {a : Act} {w : World} {K : Act → World → Prop} (h : o.wp P a w K Q) : o.wp P a w K (fun _ _ _ => False) := by
  unfold Oper.wp at *
  generalize (execOp a.eval o).run P w = r at *
  cases r with
  | ok n w' =>
    cases n <;> simp only [Oper.upon] at h ⊢
    case enter f args =>
      exact Calls.mono h fun e w'' he => by
        cases e with
        | returned u => exact he
        | panicked c => cases hQ _ _ _ he
        | outgrown => obtain ⟨_, _, hf⟩ := he; cases hQ _ _ _ hf
    all_goals first | exact h | (cases hQ _ _ _ h)
  | halt x w' => cases x <;> simp only [Oper.upon] at h ⊢ <;> first | exact h | (cases hQ _ _ _ h) | (obtain ⟨_, _, hf⟩ := h; cases hQ _ _ _ hf)
theorem put_eval {a a' : Act} {o op : Oper} {x : Operand} (hx : op.op = .move x) (hb : Behind a o a') (h : ∀ d, o.dst = some d → d ∉ op.looksAt ops) : a'.eval x = a.eval x := by
  obtain ⟨ds, u, rfl⟩ := hb
  rw [Act.eval_put (fun d hd hxd => h d hd (by
    subst hxd
    exact List.mem_append_left _ (List.mem_filterMap.2 ⟨.tmp d, by rw [hx]; simp [Op.operands], rfl⟩)))]
  cases x <;> rfl
theorem wpAny_hoist {p : Nat} {op : Oper} {x : Operand} (hsel : Region.noSelect ops = true) (hop : ops[p]? = some op) (hmv : op.op = .move x) (hg : op.guard = none) (haft : ∀ e ∈ op.after, Region.binds .any e = false)
    (hap : ∀ i oi, ops[i]? = some oi → i ≠ p → op.apart ops oi = true ∨ ∃ e ∈ oi.after, Region.binds .any e = true ∧ e.on = p) (hQ : NoEnd Q) :
    ∀ (fuel : Nat) (listed : Array Bool) (a : Act) (w : World), listed.size = ops.size → listed.getD p true = false →
      wpAny P .any ops Q fuel (listed.setIfInBounds p true) (a.put op.dst (a.eval x)) w → wpAny P .any ops Q (fuel + 1) listed a w := by
  have hpsz := (Array.getElem?_eq_some_iff.1 hop).1
  intro fuel
  induction fuel with
  | zero =>
    intro listed a w hz hp h
    refine ⟨fun hr => ?_, fun i hi => ?_⟩
    · have : p ∈ Region.ready .any ops listed := mem_ready.2 ⟨hp, op, hop, fun e he hb => by rw [haft e he] at hb; cases hb⟩
      rw [hr] at this; cases this
    · by_cases hip : i = p
      · subst hip
        unfold wpOp
        simp only [hop]
        rw [if_pos (by unfold Region.wanted; rw [hg])]
        refine .inl ?_
        unfold Oper.wp execOp
        simp only [hmv]
        exact h
      · obtain ⟨hun, oi, hoi, hall⟩ := mem_ready.1 hi
        have : i ∈ Region.ready .any ops (listed.setIfInBounds p true) := mem_ready.2 ⟨by rw [getD_set_ne true (Ne.symm hip)]; exact hun, oi, hoi, fun e he hb => getD_set_true (hall e he hb)⟩
        rw [h.1] at this; cases this
  | succ fuel ih =>
    intro listed a w hz hp h
    refine ⟨fun hr => ?_, fun i hi => ?_⟩
    · have : p ∈ Region.ready .any ops listed := mem_ready.2 ⟨hp, op, hop, fun e he hb => by rw [haft e he] at hb; cases hb⟩
      rw [hr] at this; cases this
    · by_cases hip : i = p
      · subst hip
        unfold wpOp
        simp only [hop]
        rw [if_pos (by unfold Region.wanted; rw [hg])]
        refine .inl ?_
        unfold Oper.wp execOp
        simp only [hmv]
        exact h
      · obtain ⟨hun, oi, hoi, hall⟩ := mem_ready.1 hi
        have hr : i ∈ Region.ready .any ops (listed.setIfInBounds p true) := mem_ready.2 ⟨by rw [getD_set_ne true (Ne.symm hip)]; exact hun, oi, hoi, fun e he hb => getD_set_true (hall e he hb)⟩
        have hh := h.2 i hr
        have hap' : op.apart ops oi = true := by
          rcases hap i oi hoi hip with h1 | ⟨e, he, hb, hep⟩
          · exact h1
          · have h2 := hall e he hb
            rw [hep] at h2
            have h3 : p < listed.size := by omega
            simp [Array.getD, h3] at h2 hp
            rw [hp] at h2; cases h2
        obtain ⟨h1, h2, h3⟩ := Oper.apart_spec hap'
        have hsi := fun cs b => Region.noSelect_spec hsel i oi cs b hoi
        have next : ∀ a' w', Behind a oi a' → wpAny P .any ops Q fuel ((listed.setIfInBounds p true).setIfInBounds i true) (a'.put op.dst (a.eval x)) w' → wpAny P .any ops Q (fuel + 1) (listed.setIfInBounds i true) a' w' := fun a' w' hb hk => by
          refine ih _ a' w' (by simpa using hz) (by rw [getD_set_ne true hip]; exact hp) ?_
          rw [put_eval hmv hb h3, Array.setIfInBounds_comm _ _ hip]
          exact hk
        unfold wpOp at hh ⊢
        simp only [hoi] at hh ⊢
        rw [wanted_put oi a op.dst _ h1] at hh
        split
        · rename_i hw
          rw [if_pos hw] at hh
          rcases hh with hh | ⟨_, _, _, hl⟩
          · have h4 := (Oper.wp_put hsi h1 (fun d hd e => h2 d hd e)).1 (wp_strict hQ hh)
            exact .inl (Oper.wp_false (Oper.wp_mono (fun a' w' hk => next a' w' hk.1 hk.2) (Oper.wp_behind h4)))
          · cases hQ _ _ _ hl
        · rename_i hw
          rw [if_neg hw] at hh
          refine next _ _ ⟨a.defers, undef, rfl⟩ ?_
          rw [Act.put_comm a _ undef (fun d hd e => h2 d hd e)] at hh
          exact hh

/-- Moves of registers that feed only what asks for them. -/
def regB (ops : Array Oper) (p : Nat) : Bool :=
  match ops[p]? with
  | none => false
  | some op => (match op.op with | .move _ => true | _ => false) && op.guard.isNone && op.after.all (fun e => !Region.binds .any e) &&
      (List.range ops.size).all fun i => i == p || match ops[i]? with
        | none => true
        | some oi => op.apart ops oi || oi.after.any (fun e => Region.binds .any e && e.on == p)
def moveOf (ops : Array Oper) (p : Nat) : Option Tmp × Operand := match ops[p]? with
  | some ⟨d, .move x, _, _, _, _⟩ => (d, x)
  | _ => (none, .const undef)
theorem regB_spec {p : Nat} (h : regB ops p = true) : ∃ op x, ops[p]? = some op ∧ op.op = .move x ∧ op.guard = none ∧ (∀ e ∈ op.after, Region.binds .any e = false) ∧
    (∀ i oi, ops[i]? = some oi → i ≠ p → op.apart ops oi = true ∨ ∃ e ∈ oi.after, Region.binds .any e = true ∧ e.on = p) ∧ moveOf ops p = (op.dst, x) := by
  unfold regB at h
  split at h
  · cases h
  · rename_i op hop
    simp only [Bool.and_eq_true] at h
    obtain ⟨⟨⟨h1, h2⟩, h3⟩, h4⟩ := h
    obtain ⟨d, o, ty, pos, aft, gd⟩ := op
    cases o <;> simp at h1
    rename_i x
    refine ⟨_, x, hop, rfl, by simpa using h2, fun e he => ?_, fun i oi hoi hip => ?_, by unfold moveOf; rw [hop]⟩
    · have := Array.all_eq_true_iff_forall_mem.1 h3 e he
      simpa using this
    · have := List.all_eq_true.1 h4 i (List.mem_range.2 (Array.getElem?_eq_some_iff.1 hoi).1)
      simp only [hoi, Bool.or_eq_true, beq_iff_eq] at this
      rcases this with h5 | h5 | h5
      · exact absurd h5 hip
      · exact .inl h5
      · rw [← Array.any_toList] at h5
        obtain ⟨e, he1, he⟩ := List.any_eq_true.1 h5
        simp only [Bool.and_eq_true, beq_iff_eq] at he
        exact .inr ⟨e, by simpa using he1, he⟩
/-- The state behind such moves. -/
def movedA (ops : Array Oper) : List Nat → Act → Act
  | [], a => a
  | p :: ps, a => movedA ops ps (a.put (moveOf ops p).1 (a.eval (moveOf ops p).2))
def movedL : List Nat → Array Bool → Array Bool
  | [], l => l
  | p :: ps, l => movedL ps (l.setIfInBounds p true)
theorem wpAny_moved (hsel : Region.noSelect ops = true) (hQ : NoEnd Q) : ∀ (ps : List Nat) (fuel : Nat) (listed : Array Bool) (a : Act) (w : World), (∀ p ∈ ps, regB ops p = true) → ps.Nodup → listed.size = ops.size → (∀ p ∈ ps, listed.getD p true = false) →
    wpAny P .any ops Q fuel (movedL ps listed) (movedA ops ps a) w → wpAny P .any ops Q (fuel + ps.length) listed a w
  | [], _, _, _, _, _, _, _, _, h => h
  | p :: ps, fuel, listed, a, w, hr, hnd, hz, hl, h => by
    obtain ⟨op, x, hop, hmv, hg, haft, hap, he⟩ := regB_spec (hr p (List.mem_cons_self ..))
    have hnd' := List.nodup_cons.1 hnd
    refine wpAny_hoist hsel hop hmv hg haft hap hQ (fuel + ps.length) listed a w hz (hl p (List.mem_cons_self ..)) ?_
    refine wpAny_moved hsel hQ ps fuel _ _ w (fun q hq => hr q (List.mem_cons_of_mem _ hq)) hnd'.2 (by simpa using hz) (fun q hq => ?_) ?_
    · rw [getD_set_ne true (fun e => hnd'.1 (by rw [e]; exact hq))]
      exact hl q (List.mem_cons_of_mem _ hq)
    · unfold movedL movedA at h
      rw [he] at h
      exact h
theorem movedL_size : ∀ (ps : List Nat) (l : Array Bool), (movedL ps l).size = l.size
  | [], _ => rfl
  | p :: ps, l => by unfold movedL; rw [movedL_size ps]; simp
theorem movedL_at : ∀ (ps : List Nat) (l : Array Bool) (j : Nat) (d : Bool), (movedL ps l).getD j d = if j ∈ ps ∧ j < l.size then true else l.getD j d
  | [], l, j, d => by simp [movedL]
  | p :: ps, l, j, d => by
    unfold movedL
    rw [movedL_at ps]
    by_cases hj : j ∈ ps
    · by_cases hs : j < l.size
      · simp [hj, hs]
      · simp [hj, hs, Array.getD]
    · by_cases hp : j = p
      · subst hp
        by_cases hs : j < l.size
        · simp [hs, Array.getD]
        · simp [hs, Array.getD]
      · rw [if_neg (by simp [hj])]
        rw [getD_set_ne d (Ne.symm hp)]
        simp [hj, hp]
/-- The others, in the text's order. -/
def othersOf (ops : Array Oper) (ps : List Nat) : List Nat := (List.range ops.size).filter fun j => !ps.contains j
def movedOk (ops : Array Oper) (n : Nat) (ps : List Nat) : Bool :=
  let b := closGo ops.toList #[]
  Region.noSelect ops && decide ps.Nodup && ps.all (regB ops) && (decide (ops.size = (othersOf ops ps).length + ps.length) && decide (n ≤ ops.size)) &&
  (List.range ops.size).all fun i => match ops[i]? with
    | none => true
    | some oi => oi.after.all (fun e => !Region.binds .any e || decide (e.on < i)) &&
      (ps.contains i || (List.range i).all fun p => ps.contains p || (b.getD i 0).testBit p || (decide (i < n) && match ops[p]? with
        | none => true
        | some op => op.apart ops oi && !(chainB op && chainB oi)))
/-- Up to which of the others n reaches. -/
def othersN (ops : Array Oper) (n : Nat) (ps : List Nat) : Nat := ((List.range n).filter fun j => !ps.contains j).length
theorem wpAny_notEnd {fuel : Nat} {listed : Array Bool} {a : Act} {w : World} (h : wpAny P .any ops (fun e a w => e = .normal ∧ Q e a w) fuel listed a w) : wpAny P .any ops Q fuel listed a w := by
  have hn : NoEnd (fun e a w => e = Exit.normal ∧ Q e a w) := fun e a w h => h.1
  induction fuel generalizing listed a w with
  | zero => exact ⟨h.1, h.2.2⟩
  | succ fuel ih =>
    refine ⟨fun hr => (h.1 hr).2, fun i hi => ?_⟩
    have hh := h.2 i hi
    unfold wpOp at hh ⊢
    split at hh
    · exact ih hh
    · split at hh
      · rename_i hw
        rw [if_pos hw]
        rcases hh with hh | ⟨_, _, _, hl⟩
        · exact .inl (Oper.wp_false (Oper.wp_mono (fun a' w' hk => ih hk) (wp_strict hn hh)))
        · cases hl.1
      · rename_i hw
        rw [if_neg hw]
        exact ih hh
theorem wp_region_moved {id : Nat} {a : Act} {w : World} {l : List Oper} (J : World → Prop) (n : Nat) (ps : List Nat) (hm : P.follows .mixedOrders = true) (hB : movedOk l.toArray n ps = true) (hJ : J w.drew)
    (h : wpMix P l.toArray J (fun e a w => e = .normal ∧ Q e a w) (othersN l.toArray n ps) ((othersOf l.toArray ps).filterMap fun j => l[j]?) (movedA l.toArray ps a) w.drew) : (Code.region id l.toArray true).wp P Q a w := by
  have hn : NoEnd (fun e a w => e = Exit.normal ∧ Q e a w) := fun e a w h => h.1
  refine wp_region_any hm (wpAny_notEnd ?_)
  simp only [movedOk, Bool.and_eq_true, decide_eq_true_eq] at hB
  obtain ⟨⟨⟨⟨hs, hnd⟩, hreg⟩, hsz, hnle⟩, hE⟩ := hB
  have hE' : ∀ i oi, l.toArray[i]? = some oi → (∀ e ∈ oi.after, Region.binds .any e = true → e.on < i) ∧ (i ∉ ps → ∀ p, p < i → p ∉ ps → ((closGo l.toArray.toList #[]).getD i 0).testBit p = true ∨ (i < n ∧ ∀ op, l.toArray[p]? = some op → op.apart l.toArray oi = true ∧ (chainB op = false ∨ chainB oi = false))) := fun i oi hi => by
    have h1 := List.all_eq_true.1 hE i (List.mem_range.2 (Array.getElem?_eq_some_iff.1 hi).1)
    simp only [hi, Bool.and_eq_true, Array.all_eq_true_iff_forall_mem, Bool.or_eq_true, decide_eq_true_eq, List.all_eq_true, List.mem_range, List.contains_iff_mem] at h1
    refine ⟨fun e he hb => by simpa [hb] using h1.1 e he, fun hip p hp hpp => ?_⟩
    rcases h1.2.resolve_left hip p hp with (h2 | h2) | ⟨h2, h3⟩
    · exact absurd h2 hpp
    · exact .inl h2
    · refine .inr ⟨h2, fun op hop => ?_⟩
      simp only [hop, Bool.and_eq_true, Bool.not_eq_true', Bool.and_eq_false_iff] at h3
      exact ⟨h3.1, h3.2⟩
  have hrep : ∀ j, j < l.length → (Array.replicate l.toArray.size false).getD j true = false := fun j hj => by
    simp [Array.getD_eq_getD_getElem?, Array.getElem?_replicate, hj]
  have hlt : ∀ p ∈ ps, p < l.toArray.size := fun p hp => by
    obtain ⟨op, x, hop, _⟩ := regB_spec (List.all_eq_true.1 hreg p hp)
    exact (Array.getElem?_eq_some_iff.1 hop).1
  have hrem : remOf l.toArray (movedL ps (Array.replicate l.toArray.size false)) = othersOf l.toArray ps := by
    unfold remOf othersOf
    refine List.filter_congr fun j hj => ?_
    have hjl : j < l.toArray.size := List.mem_range.1 hj
    rw [movedL_at]
    by_cases hjp : j ∈ ps
    · rw [if_pos ⟨hjp, by simpa using hjl⟩]
      simp [hjp]
    · rw [if_neg (fun hh => hjp hh.1), hrep j (by simpa using hjl)]
      simp [hjp]
  rw [hsz]
  refine wpAny_moved hs hn ps _ _ _ _ (fun p hp => List.all_eq_true.1 hreg p hp) hnd (by simp only [Array.size_replicate]; exact hsz.symm) (fun p hp => by rw [← hsz]; exact hrep p (by have := hlt p hp; simpa using this)) ?_
  rw [← hsz]
  refine wpAny_of_mixX (J := J) (n := n) (fun x => x ∈ ps) hs (fun i oi hi => (hE' i oi hi).1) (fun i oi p op hi hp hlt' hip hpp L hL hLi => ?_) _ _ _ _ (fun x hx => ?_) (by rw [movedL_size]; simp) (by rw [hrem]) (fun j o ho hj e he hb => ?_) (fun _ => hJ) ?_
  · rcases (hE' i oi hi).2 hip p hlt' hpp with h1 | ⟨h1, h2⟩
    · exact .inl (clos_good L hL l.toArray.toList #[] (by simp) (by simp) i p h1 hLi)
    · exact .inr ⟨h1, h2 op hp⟩
  · rw [hrem]
    unfold othersOf
    intro hm
    have := (List.mem_filter.1 hm).2
    simp [hx] at this
  · rw [movedL_at] at hj
    split at hj
    · rename_i hjp
      obtain ⟨op, x, hop, _, _, haft, _⟩ := regB_spec (List.all_eq_true.1 hreg j hjp.1)
      rw [hop] at ho
      obtain rfl := Option.some.inj ho
      rw [haft e he] at hb; cases hb
    · exfalso
      have : (Array.replicate l.toArray.size false).getD j false = false := by
        simp only [Array.getD_eq_getD_getElem?, Array.getElem?_replicate]
        split <;> rfl
      rw [this] at hj; cases hj
  · rw [hrem]
    refine wpMixI_list _ _ (othersN l.toArray n ps) _ _ ?_ ?_ h
    · have : ∀ j ∈ othersOf l.toArray ps, j < l.length := fun j hj => by
        have := List.mem_range.1 (List.mem_filter.1 hj).1
        simpa using this
      generalize othersOf l.toArray ps = π at this
      clear h hrem hsz
      induction π with
      | nil => rfl
      | cons p π ih =>
        have hp := this p (List.mem_cons_self ..)
        rw [List.map_cons, List.filterMap_cons, List.getElem?_eq_getElem hp]
        simp only [List.map_cons]
        rw [ih (fun j hj => this j (List.mem_cons_of_mem _ hj))]
        simp [hp]
    · intro j i hj
      have hsplit : othersOf l.toArray ps = ((List.range n).filter fun j => !ps.contains j) ++ ((List.range' n (l.toArray.size - n)).filter fun j => !ps.contains j) := by
        unfold othersOf
        rw [← List.filter_append]
        congr 1
        rw [List.range_eq_range', List.range_eq_range']
        have := List.range'_append_1 (s := 0) (m := n) (n := l.toArray.size - n)
        rw [Nat.zero_add, show n + (l.toArray.size - n) = l.toArray.size by omega] at this
        exact this.symm
      rw [hsplit, List.getElem?_append] at hj
      unfold othersN
      split at hj
      · rename_i hlt'
        have := List.mem_range.1 (List.mem_filter.1 (List.mem_of_getElem? hj)).1
        omega
      · rename_i hge
        have := List.mem_range'_1.1 (List.mem_filter.1 (List.mem_of_getElem? hj)).1
        omega
end
end Go.Proofs.YtgoifgockcpnhaaDoor
