/- A region that draws its order: one walk in the order of the text, under what its reads and its calls leave alone. -/
import Derived.Orders
import Derived.Tactics2
import Derived.Below
set_option linter.unusedSimpArgs false
set_option linter.unusedVariables false
namespace Go.Proofs.YtegebjflhhbmiaaDoor
open Go Go.RowKit


/-- Conversions to this type make a new row (set by tools/gen_cv.py for a seat that has one; nowhere else). -/
def cvC (_ : TypeId) : Bool := false
/-- Operations that may turn the world. -/
def chainB (o : Oper) : Bool :=
  match o.op with
  | .move _ | .assign _ | .pick .. | .load .. | .nilCheck _ | .binOp .. | .unOp .. | .makeInterface .. | .fieldAddr .. | .field .. | .indexAddr .. | .index .. | .lookup .. | .slice .. | .extract .. | .build .. | .typeAssert .. | .makeFunc .. => false
  | .call { callee := .builtin .len, .. } | .call { callee := .builtin .cap, .. } | .call { callee := .builtin .max, .. } | .call { callee := .builtin .min, .. } => false
  | .convert _ t _ => cvC t
  | _ => true

def floatRun (r : Result Next) (h : World) (v : Value) : Prop := r = .ok (.value v) h ∨ (r = .ok .skip h ∧ v = undef)

section
variable {P : Program} {ops : Array Oper} {J : World → Prop} {Q : Exit → Act → World → Prop}

/-- The first n operations in the text's order, each that only reads giving one value in every world that keeps S; then the rest, plainly. -/
def wpMix (P : Program) (ops : Array Oper) (J : World → Prop) (Q : Exit → Act → World → Prop) : Nat → List Oper → Act → World → Prop
  | 0, l, a, w => wpList P ops Q l a w
  | _ + 1, [], a, w => Q .normal a w
  | n + 1, o :: rest, a, w =>
    if Region.wanted o (yielded ops a.tmps) then
      if chainB o then o.wp P a w (fun a' w' => J w' ∧ wpMix P ops J Q n rest a' w') (fun _ _ _ => False)
      else ∃ v, (∀ h, J h → floatRun ((execOp a.eval o).run P h) h v) ∧ wpMix P ops J Q n rest (a.put o.dst v) w
    else wpMix P ops J Q n rest (a.put o.dst undef) w

/-- The same by numbers. -/
def wpMixI (P : Program) (ops : Array Oper) (J : World → Prop) (Q : Exit → Act → World → Prop) (n : Nat) : List Nat → Act → World → Prop
  | [], a, w => Q .normal a w
  | i :: rest, a, w =>
    if n ≤ i then wpOps P ops Q (i :: rest) a w
    else match ops[i]? with
      | none => wpMixI P ops J Q n rest a w
      | some o =>
        if Region.wanted o (yielded ops a.tmps) then
          if chainB o then o.wp P a w (fun a' w' => J w' ∧ wpMixI P ops J Q n rest a' w') (fun _ _ _ => False)
          else ∃ v, (∀ h, J h → floatRun ((execOp a.eval o).run P h) h v) ∧ wpMixI P ops J Q n rest (a.put o.dst v) w
        else wpMixI P ops J Q n rest (a.put o.dst undef) w

theorem wpMixI_of (l : List Oper) : ∀ (n k : Nat) (a : Act) (w : World), (∀ j, l[j]? = ops[k + j]?) → wpMix P ops J Q n l a w → wpMixI P ops J Q (k + n) (List.range' k l.length) a w := by
  induction l with
  | nil => intro n k a w _ h; cases n <;> simpa [wpMix, wpMixI, wpList] using h
  | cons o l ih =>
    intro n k a w hl h
    have h0 : ops[k]? = some o := by simpa using (hl 0).symm
    have hl' : ∀ j, l[j]? = ops[k + 1 + j]? := fun j => by have := hl (j + 1); simpa [Nat.add_assoc, Nat.add_comm 1 j] using this
    cases n with
    | zero =>
      have he := wpOps_eq_wpList (P := P) (ops := ops) (Q := Q) (o :: l) k hl
      simp only [List.length_cons, List.range'_succ] at he ⊢
      rw [wpMixI, if_pos (by omega), he]
      exact h
    | succ n =>
      have ih' := fun a w => ih n (k + 1) a w hl'
      rw [show k + 1 + n = k + (n + 1) from by omega] at ih'
      simp only [List.length_cons, List.range'_succ]
      rw [wpMixI, if_neg (by omega)]
      simp only [h0]
      rw [wpMix] at h
      by_cases hw : Region.wanted o (yielded ops a.tmps) = true
      · rw [if_pos hw] at h ⊢
        by_cases hc : chainB o = true
        · rw [if_pos hc] at h ⊢
          exact Oper.wp_mono (fun a w hh => ⟨hh.1, ih' a w hh.2⟩) h
        · rw [if_neg hc] at h ⊢
          obtain ⟨v, h1, h2⟩ := h
          exact ⟨v, h1, ih' _ _ h2⟩
      · rw [if_neg hw] at h ⊢
        exact ih' _ _ h

/-- What an operation that only reads leaves in its temporary. -/
def YieldsK (P : Program) (ops : Array Oper) (J : World → Prop) (o : Oper) (v : Value) (a : Act) : Prop :=
  (Region.wanted o (yielded ops a.tmps) = true ∧ ∀ h, J h → floatRun ((execOp a.eval o).run P h) h v) ∨
  (Region.wanted o (yielded ops a.tmps) = false ∧ v = undef)

theorem YieldsK.of_same {o : Oper} {v : Value} {a a' : Act} (hy : YieldsK P ops J o v a) (he : execOp a'.eval o = execOp a.eval o)
    (hw : Region.wanted o (yielded ops a'.tmps) = Region.wanted o (yielded ops a.tmps)) : YieldsK P ops J o v a' := by
  unfold YieldsK at *
  rw [he, hw]
  exact hy

theorem YieldsK.uniq {o : Oper} {v v' : Value} {a : Act} {w : World} (hk : J w) (h : YieldsK P ops J o v a) (h' : YieldsK P ops J o v' a) : v = v' := by
  rcases h with ⟨hw, h⟩ | ⟨hw, rfl⟩ <;> rcases h' with ⟨hw', h'⟩ | ⟨hw', rfl⟩
  · have h1 := h w hk
    have h2 := h' w hk
    unfold floatRun at h1 h2
    rcases h1 with h1 | ⟨h1, rfl⟩ <;> rcases h2 with h2 | ⟨h2, rfl⟩ <;> rw [h1] at h2 <;> simp at h2 ⊢
    exact h2
  · rw [hw] at hw'; cases hw'
  · rw [hw] at hw'; cases hw'
  · rfl

theorem wpMixI_float {n i : Nat} {rest : List Nat} {o : Oper} {v : Value} {a : Act} {w : World} (hn : i < n) (ho : ops[i]? = some o) (hc : chainB o = false)
    (hy : YieldsK P ops J o v a) (h : wpMixI P ops J Q n rest (a.put o.dst v) w) : wpMixI P ops J Q n (i :: rest) a w := by
  rw [wpMixI, if_neg (by omega)]
  simp only [ho]
  rcases hy with ⟨hw, hv⟩ | ⟨hw, rfl⟩
  · rw [if_pos hw, if_neg (by simp [hc])]
    exact ⟨v, hv, h⟩
  · rw [if_neg (by simp [hw])]
    exact h

theorem wpMixI_float_inv {n i : Nat} {rest : List Nat} {o : Oper} {a : Act} {w : World} (hn : i < n) (ho : ops[i]? = some o) (hc : chainB o = false)
    (h : wpMixI P ops J Q n (i :: rest) a w) : ∃ v, YieldsK P ops J o v a ∧ wpMixI P ops J Q n rest (a.put o.dst v) w := by
  rw [wpMixI, if_neg (by omega)] at h
  simp only [ho] at h
  by_cases hw : Region.wanted o (yielded ops a.tmps) = true
  · rw [if_pos hw, if_neg (by simp [hc])] at h
    obtain ⟨v, h1, h2⟩ := h
    exact ⟨v, .inl ⟨hw, h1⟩, h2⟩
  · rw [if_neg hw] at h
    exact ⟨undef, .inr ⟨by simpa using hw, rfl⟩, h⟩

/-- The state behind an operation: its temporary is set; deferred calls may have come. -/
def Behind (a : Act) (o : Oper) (a' : Act) : Prop := ∃ ds u, a' = ({ a with defers := ds } : Act).put o.dst u

theorem Oper.wp_behind {o : Oper} {a : Act} {w : World} {K : Act → World → Prop} (h : o.wp P a w K Q) : o.wp P a w (fun a' w' => Behind a o a' ∧ K a' w') Q := by
  unfold Oper.wp at *
  generalize (execOp a.eval o).run P w = r at *
  cases r with
  | ok n w' =>
    cases n <;> simp only [Oper.upon] at h ⊢
    case value u => exact ⟨⟨a.defers, u, rfl⟩, h⟩
    case skip => exact ⟨⟨a.defers, undef, rfl⟩, h⟩
    case defer d => exact ⟨⟨_, undef, rfl⟩, h⟩
    case enter f args =>
      exact Calls.mono h fun e w'' he => by
        cases e with
        | returned u => exact ⟨⟨a.defers, u, rfl⟩, he⟩
        | panicked c => exact he
        | outgrown => exact he
    case row row args => exact Rows.mono h fun u w'' he => ⟨⟨a.defers, u, rfl⟩, he⟩
  | halt x w' => cases x <;> simp only [Oper.upon] at h ⊢ <;> exact h

theorem Oper.wp_some {o : Oper} {a : Act} {w : World} {K : Act → World → Prop} (h : o.wp P a w K (fun _ _ _ => False)) : ∃ a' w', K a' w' := by
  unfold Oper.wp at h
  generalize (execOp a.eval o).run P w = r at h
  cases r with
  | ok n w' =>
    cases n <;> simp only [Oper.upon] at h
    case value u => exact ⟨_, _, h⟩
    case skip => exact ⟨_, _, h⟩
    case defer d => exact ⟨_, _, h⟩
    case enter f args =>
      obtain ⟨e, w'', fr, hR, _⟩ := h []
      cases e with
      | returned u => exact ⟨_, _, hR⟩
      | panicked c => exact hR.elim
      | outgrown => obtain ⟨_, _, hf⟩ := hR; exact hf.elim
    case row row args =>
      obtain ⟨v, w'', hR, _⟩ := h default []
      exact ⟨_, _, hR⟩
  | halt x w' => cases x <;> simp only [Oper.upon] at h

/-- An operation run in a state in which a temporary that it does not look at is set. -/
theorem Oper.wp_put {o : Oper} {a : Act} {w : World} {K : Act → World → Prop} {dst : Option Tmp} {v : Value} (hs : ∀ cs b, o.op ≠ .select cs b)
    (h1 : ∀ d, dst = some d → d ∉ o.looksAt ops) (h2 : ∀ d, dst = some d → o.dst ≠ some d) :
    o.wp P (a.put dst v) w K (fun _ _ _ => False) ↔ o.wp P a w (fun a' w' => K (a'.put dst v) w') (fun _ _ _ => False) := by
  unfold Oper.wp
  rw [execOp_put o hs a dst v h1]
  generalize (execOp a.eval o).run P w = r
  cases r with
  | ok n w' =>
    cases n <;> simp only [Oper.upon]
    case value u => rw [Act.put_comm a v u h2]
    case skip => rw [Act.put_comm a v undef h2]
    case defer d => rw [Act.put_defers, Act.put_comm _ v undef h2]
    case enter f args =>
      constructor <;> intro h <;> refine Calls.mono h fun e w'' he => ?_ <;> cases e
      case returned u => dsimp only at he ⊢; rw [← Act.put_comm a v u h2]; exact he
      case panicked c => exact he
      case outgrown => exact he
      case returned u => dsimp only at he ⊢; rw [Act.put_comm a v u h2]; exact he
      case panicked c => exact he
      case outgrown => exact he
    case row row args =>
      constructor <;> intro h <;> refine Rows.mono h fun u w'' he => ?_
      · rw [← Act.put_comm a v u h2]; exact he
      · rw [Act.put_comm a v u h2]; exact he
  | halt x w' => cases x <;> simp only [Oper.upon]

theorem execOp_behind {o p : Oper} (hs : ∀ cs b, o.op ≠ .select cs b) {a a' : Act} (hb : Behind a p a') (hd : ∀ d, p.dst = some d → d ∉ o.looksAt ops) : execOp a'.eval o = execOp a.eval o := by
  obtain ⟨ds, u, rfl⟩ := hb
  rw [execOp_put (ops := ops) o hs _ p.dst u hd]
  rfl
theorem wanted_behind {o p : Oper} {a a' : Act} (hb : Behind a p a') (hd : ∀ d, p.dst = some d → d ∉ o.looksAt ops) :
    Region.wanted o (yielded ops a'.tmps) = Region.wanted o (yielded ops a.tmps) := by
  obtain ⟨ds, u, rfl⟩ := hb
  rw [wanted_put o _ p.dst u hd]

/-- An operation that only reads, and that nothing ahead of it feeds, may be taken first. -/
theorem take_float {n i : Nat} {oi : Oper} {post : List Nat} (hn : i < n) (hi : ops[i]? = some oi) (hc : chainB oi = false) (hsel : Region.noSelect ops = true) :
    ∀ (pre : List Nat) (a : Act) (w : World), J w → (∀ p ∈ pre, p < n ∧ ∃ op, ops[p]? = some op ∧ op.apart ops oi = true) →
      wpMixI P ops J Q n (pre ++ i :: post) a w → ∃ v, YieldsK P ops J oi v a ∧ wpMixI P ops J Q n (pre ++ post) (a.put oi.dst v) w := by
  have hsi := fun cs b => Region.noSelect_spec hsel i oi cs b hi
  intro pre
  induction pre with
  | nil => intro a w _ _ h; exact wpMixI_float_inv hn hi hc h
  | cons p pre ih =>
    intro a w hk hp h
    obtain ⟨hpn, op, hop, hap⟩ := hp p (List.mem_cons_self ..)
    obtain ⟨h1, h2, h3⟩ := Oper.apart_spec hap
    have hsp := fun cs b => Region.noSelect_spec hsel p op cs b hop
    have hrest : ∀ q ∈ pre, q < n ∧ ∃ oq, ops[q]? = some oq ∧ oq.apart ops oi = true := fun q hq => hp q (List.mem_cons_of_mem _ hq)
    have back : ∀ {a' : Act} {v : Value}, Behind a op a' → YieldsK P ops J oi v a' → YieldsK P ops J oi v a := fun hb hy =>
      hy.of_same (execOp_behind hsi hb h1).symm (wanted_behind hb h1).symm
    by_cases hcp : chainB op = true
    · rw [List.cons_append, wpMixI, if_neg (by omega)] at h
      simp only [hop] at h
      by_cases hw : Region.wanted op (yielded ops a.tmps) = true
      · rw [if_pos hw, if_pos hcp] at h
        have hb := Oper.wp_behind h
        obtain ⟨a0, w0, hb0, hk0, h0⟩ := Oper.wp_some hb
        obtain ⟨v, hy0, _⟩ := ih a0 w0 hk0 hrest h0
        have hy := back hb0 hy0
        refine ⟨v, hy, ?_⟩
        rw [List.cons_append, wpMixI, if_neg (by omega)]
        simp only [hop]
        rw [wanted_put op a oi.dst v h3, if_pos hw, if_pos hcp, Oper.wp_put hsp h3 (fun d hd => fun e => h2 d e hd)]
        refine Oper.wp_mono (fun a' w' hh => ?_) hb
        obtain ⟨hba, hka, hma⟩ := hh
        obtain ⟨v', hy', hm'⟩ := ih a' w' hka hrest hma
        have : v' = v := YieldsK.uniq hk (back hba hy') hy
        subst this
        exact ⟨hka, hm'⟩
      · rw [if_neg hw] at h
        obtain ⟨v, hy, hm⟩ := ih _ _ hk hrest h
        refine ⟨v, back ⟨a.defers, undef, rfl⟩ hy, ?_⟩
        rw [List.cons_append, wpMixI, if_neg (by omega)]
        simp only [hop]
        rw [wanted_put op a oi.dst v h3, if_neg hw, Act.put_comm a v undef (fun d hd => fun e => h2 d e hd)]
        exact hm
    · have hcp' : chainB op = false := by simpa using hcp
      rw [List.cons_append] at h
      obtain ⟨u, hyp, hm⟩ := wpMixI_float_inv hpn hop hcp' h
      obtain ⟨v, hy, hm'⟩ := ih _ _ hk hrest hm
      refine ⟨v, back ⟨a.defers, u, rfl⟩ hy, ?_⟩
      rw [List.cons_append]
      refine wpMixI_float hpn hop hcp' (v := u) (hyp.of_same (execOp_put op hsp a oi.dst v h3) (wanted_put op a oi.dst v h3)) ?_
      rw [Act.put_comm a v u (fun d hd => fun e => h2 d e hd)]
      exact hm'

/-- An operation that may turn the world, ahead of which nothing but reads stands that do not feed it, may be taken first. -/
theorem take_chain {n i : Nat} {oi : Oper} {post : List Nat} (hn : i < n) (hi : ops[i]? = some oi) (hc : chainB oi = true) (hsel : Region.noSelect ops = true) :
    ∀ (pre : List Nat) (a : Act) (w : World), (∀ p ∈ pre, p < n ∧ ∃ op, ops[p]? = some op ∧ op.apart ops oi = true ∧ chainB op = false) →
      wpMixI P ops J Q n (pre ++ i :: post) a w →
      if Region.wanted oi (yielded ops a.tmps) then oi.wp P a w (fun a' w' => J w' ∧ wpMixI P ops J Q n (pre ++ post) a' w') (fun _ _ _ => False)
      else wpMixI P ops J Q n (pre ++ post) (a.put oi.dst undef) w := by
  have hsi := fun cs b => Region.noSelect_spec hsel i oi cs b hi
  intro pre
  induction pre with
  | nil =>
    intro a w _ h
    rw [List.nil_append, wpMixI, if_neg (by omega)] at h
    simp only [hi] at h
    split
    · rename_i hw; rw [if_pos hw, if_pos hc] at h; exact h
    · rename_i hw; rw [if_neg hw] at h; exact h
  | cons p pre ih =>
    intro a w hp h
    obtain ⟨hpn, op, hop, hap, hcp⟩ := hp p (List.mem_cons_self ..)
    obtain ⟨h1, h2, h3⟩ := Oper.apart_spec hap
    have hsp := fun cs b => Region.noSelect_spec hsel p op cs b hop
    have hrest : ∀ q ∈ pre, q < n ∧ ∃ oq, ops[q]? = some oq ∧ oq.apart ops oi = true ∧ chainB oq = false := fun q hq => hp q (List.mem_cons_of_mem _ hq)
    rw [List.cons_append] at h
    obtain ⟨u, hyp, hm⟩ := wpMixI_float_inv hpn hop hcp h
    have hh := ih _ _ hrest hm
    rw [wanted_put oi a op.dst u h1] at hh
    split
    · rename_i hw
      rw [if_pos hw, Oper.wp_put hsi h1 (fun d hd => fun e => h2 d hd e)] at hh
      refine Oper.wp_mono (fun a' w' hx => ?_) (Oper.wp_behind hh)
      obtain ⟨hba, hka, hma⟩ := hx
      refine ⟨hka, ?_⟩
      rw [List.cons_append]
      exact wpMixI_float hpn hop hcp (hyp.of_same (execOp_behind hsp hba h3) (wanted_behind hba h3)) hma
    · rename_i hw
      rw [if_neg hw] at hh
      rw [List.cons_append]
      refine wpMixI_float hpn hop hcp (v := u) (hyp.of_same (execOp_put op hsp a oi.dst undef h3) (wanted_put op a oi.dst undef h3)) ?_
      rw [Act.put_comm a undef u (fun d hd => fun e => h2 d e hd)]
      exact hh

/-! ### which orders the edges leave -/
def bitsOf (o : Oper) (acc : Array Nat) : Nat := o.after.toList.foldl (fun s e => if Region.binds .any e then s ||| 2 ^ e.on ||| acc.getD e.on 0 else s) 0
def closGo : List Oper → Array Nat → Array Nat
  | [], acc => acc
  | o :: r, acc => closGo r (acc.push (bitsOf o acc))
def mixOk (ops : Array Oper) (n : Nat) : Bool :=
  let b := closGo ops.toList #[]
  Region.noSelect ops &&
  (List.range ops.size).all fun i => match ops[i]? with
    | none => true
    | some oi => oi.after.all (fun e => !Region.binds .any e || decide (e.on < i)) &&
      (List.range i).all fun p => (b.getD i 0).testBit p || (decide (i < n) && match ops[p]? with
        | none => true
        | some op => op.apart ops oi && !(chainB op && chainB oi))

theorem bits_mem (acc : Array Nat) (p : Nat) : ∀ (l : List Edge) (s : Nat), (l.foldl (fun s e => if Region.binds .any e then s ||| 2 ^ e.on ||| acc.getD e.on 0 else s) s).testBit p = true →
    s.testBit p = true ∨ ∃ e ∈ l, Region.binds .any e = true ∧ (p = e.on ∨ (acc.getD e.on 0).testBit p = true)
  | [], s, h => .inl h
  | e :: l, s, h => by
    rw [List.foldl_cons] at h
    rcases bits_mem acc p l _ h with h | ⟨e', he', hb, hh⟩
    · by_cases hb : Region.binds .any e = true
      · rw [if_pos hb, Nat.testBit_or, Nat.testBit_or, Nat.testBit_two_pow] at h
        simp only [Bool.or_eq_true, decide_eq_true_eq] at h
        rcases h with (h | h) | h
        · exact .inl h
        · exact .inr ⟨e, List.mem_cons_self .., hb, .inl h.symm⟩
        · exact .inr ⟨e, List.mem_cons_self .., hb, .inr h⟩
      · rw [if_neg hb] at h; exact .inl h
    · exact .inr ⟨e', List.mem_cons_of_mem _ he', hb, hh⟩

theorem clos_good (L : Nat → Prop) (hL : ∀ j o, ops[j]? = some o → L j → ∀ e ∈ o.after, Region.binds .any e = true → L e.on) :
    ∀ (l : List Oper) (acc : Array Nat), (∀ j, l[j]? = ops[acc.size + j]?) → (∀ j p, (acc.getD j 0).testBit p = true → L j → L p) →
      ∀ j p, ((closGo l acc).getD j 0).testBit p = true → L j → L p
  | [], acc, _, hg => hg
  | o :: l, acc, hl, hg => by
    refine clos_good L hL l (acc.push (bitsOf o acc)) (fun j => ?_) (fun j p hb hj => ?_)
    · have := hl (j + 1)
      simpa [Nat.add_assoc, Nat.add_comm 1 j] using this
    · by_cases hlt : j < acc.size
      · refine hg j p ?_ hj
        simpa [Array.getElem?_push, Nat.ne_of_lt hlt] using hb
      · by_cases heq : j = acc.size
        · subst heq
          have h0 : ops[acc.size]? = some o := by simpa using (hl 0).symm
          have hb' : (bitsOf o acc).testBit p = true := by simpa using hb
          rcases bits_mem acc p _ 0 hb' with h | ⟨e, he, hbe, hh⟩
          · simp at h
          · have hLe := hL _ o h0 hj e (by simpa using he) hbe
            rcases hh with rfl | hh
            · exact hLe
            · exact hg _ _ hh hLe
        · have : (acc.push (bitsOf o acc))[j]? = none := Array.getElem?_eq_none (by simp; omega)
          simp [this] at hb

theorem mixOk_spec {n : Nat} (h : mixOk ops n = true) : Region.noSelect ops = true ∧
    (∀ i oi, ops[i]? = some oi → ∀ e ∈ oi.after, Region.binds .any e = true → e.on < i) ∧
    (∀ i oi p op, ops[i]? = some oi → ops[p]? = some op → p < i → ∀ L : Nat → Prop, (∀ j o, ops[j]? = some o → L j → ∀ e ∈ o.after, Region.binds .any e = true → L e.on) → L i → L p ∨
      (i < n ∧ op.apart ops oi = true ∧ (chainB op = false ∨ chainB oi = false))) := by
  simp only [mixOk, Bool.and_eq_true, List.all_eq_true, List.mem_range] at h
  obtain ⟨hs, h⟩ := h
  refine ⟨hs, fun i oi hi e he hb => ?_, fun i oi p op hi hp hlt L hL hLi => ?_⟩
  · have h1 := h i (Array.getElem?_eq_some_iff.1 hi).1
    simp only [hi, Bool.and_eq_true, Array.all_eq_true_iff_forall_mem] at h1
    have h2 := h1.1 e he
    simpa [hb] using h2
  · have h1 := h i (Array.getElem?_eq_some_iff.1 hi).1
    simp only [hi, Bool.and_eq_true, List.all_eq_true, List.mem_range] at h1
    have h2 := h1.2 p hlt
    simp only [hp, Bool.or_eq_true, Bool.and_eq_true, decide_eq_true_eq, Bool.not_eq_true', Bool.and_eq_false_iff] at h2
    rcases h2 with h2 | ⟨h2, h3, h4⟩
    · exact .inl (clos_good L hL ops.toList #[] (by simp) (by simp) i p h2 hLi)
    · exact .inr ⟨h2, h3, h4⟩

/-! ### the order that the tape gives -/
def remOf (ops : Array Oper) (listed : Array Bool) : List Nat := (List.range ops.size).filter fun j => !listed.getD j true

theorem range_split (n i : Nat) (hi : i < n) : List.range n = List.range i ++ i :: List.range' (i + 1) (n - (i + 1)) := by
  obtain ⟨k, rfl⟩ : ∃ k, n = i + (k + 1) := ⟨n - i - 1, by omega⟩
  rw [List.range_eq_range', List.range_eq_range', ← List.range'_append_1, List.range'_succ, show i + (k + 1) - (i + 1) = k from by omega]
  simp
theorem filter_split (f : Nat → Bool) (n i : Nat) (hi : i < n) (hf : f i = true) :
    ∃ pre post, (List.range n).filter f = pre ++ i :: post ∧ (∀ p ∈ pre, p < i ∧ f p = true) ∧ (∀ p ∈ post, i < p ∧ f p = true) ∧
      ∀ g : Nat → Bool, g i = false → (∀ j, j ≠ i → g j = f j) → (List.range n).filter g = pre ++ post := by
  refine ⟨(List.range i).filter f, (List.range' (i + 1) (n - (i + 1))).filter f, ?_, ?_, ?_, ?_⟩
  · rw [range_split n i hi, List.filter_append, List.filter_cons, if_pos hf]
  · intro p hp
    obtain ⟨h1, h2⟩ := List.mem_filter.1 hp
    exact ⟨by simpa using h1, h2⟩
  · intro p hp
    obtain ⟨h1, h2⟩ := List.mem_filter.1 hp
    have := List.mem_range'_1.1 h1
    exact ⟨by omega, h2⟩
  · intro g hg hgf
    rw [range_split n i hi, List.filter_append, List.filter_cons, if_neg (by simp [hg])]
    congr 1
    · exact List.filter_congr fun j hj => hgf j (by have := List.mem_range.1 hj; omega)
    · exact List.filter_congr fun j hj => hgf j (by have := List.mem_range'_1.1 hj; omega)

theorem wpMixI_all {n : Nat} : ∀ (l : List Nat) (a : Act) (w : World), (∀ i ∈ l, n ≤ i) → (wpMixI P ops J Q n l a w ↔ wpOps P ops Q l a w)
  | [], a, w, _ => by simp [wpMixI, wpOps]
  | i :: l, a, w, h => by rw [wpMixI, if_pos (h i (List.mem_cons_self ..))]

theorem Oper.wp_false {o : Oper} {a : Act} {w : World} {K : Act → World → Prop} (h : o.wp P a w K (fun _ _ _ => False)) : o.wp P a w K Q := by
  unfold Oper.wp at *
  generalize (execOp a.eval o).run P w = r at *
  cases r with
  | ok n w' =>
    cases n <;> simp only [Oper.upon] at h ⊢ <;> try exact h
    case enter f args =>
      exact Calls.mono h fun e w'' he => by
        cases e with
        | returned u => exact he
        | panicked c => exact he.elim
        | outgrown => obtain ⟨_, _, hf⟩ := he; exact hf.elim
  | halt x w' => cases x <;> simp only [Oper.upon] at h ⊢ <;> exact h.elim

/-- How the operations stand to each other, but for those of X. -/
def OrdX (ops : Array Oper) (n : Nat) (X : Nat → Prop) : Prop :=
  ∀ i oi p op, ops[i]? = some oi → ops[p]? = some op → p < i → ¬ X i → ¬ X p → ∀ L : Nat → Prop, (∀ j o, ops[j]? = some o → L j → ∀ e ∈ o.after, Region.binds .any e = true → L e.on) → L i → L p ∨
      (i < n ∧ op.apart ops oi = true ∧ (chainB op = false ∨ chainB oi = false))
theorem wpAny_of_mixX {n : Nat} (X : Nat → Prop) (hs : Region.noSelect ops = true) (hlt : ∀ i oi, ops[i]? = some oi → ∀ e ∈ oi.after, Region.binds .any e = true → e.on < i) (hord : OrdX ops n X) :
    ∀ (fuel : Nat) (listed : Array Bool) (a : Act) (w : World), (∀ x, X x → x ∉ remOf ops listed) → listed.size = ops.size → (remOf ops listed).length = fuel →
    (∀ j o, ops[j]? = some o → listed.getD j false = true → ∀ e ∈ o.after, Region.binds .any e = true → listed.getD e.on false = true) →
    ((∃ i, i < n ∧ i ∈ remOf ops listed) → J w) → wpMixI P ops J Q n (remOf ops listed) a w → wpAny P .any ops Q fuel listed a w := by
  have getD_iff : ∀ (listed : Array Bool) (j : Nat), listed.size = ops.size → j < ops.size → (listed.getD j true = false ↔ listed.getD j false = false) := by
    intro listed j hz hj
    simp [show j < listed.size by omega]
  intro fuel
  induction fuel with
  | zero =>
    intro listed a w hX hz hlen hdc hkeep h
    have hnil : remOf ops listed = [] := List.eq_nil_of_length_eq_zero hlen
    refine ⟨?_, by rw [hnil] at h; exact h⟩
    rcases hr : Region.ready .any ops listed with _ | ⟨i, rs⟩
    · rfl
    · have hi : i ∈ Region.ready .any ops listed := by rw [hr]; exact List.mem_cons_self ..
      obtain ⟨h0, o, ho, _⟩ := mem_ready.1 hi
      have : i ∈ remOf ops listed := List.mem_filter.2 ⟨List.mem_range.2 (Array.getElem?_eq_some_iff.1 ho).1, by rw [h0]; rfl⟩
      rw [hnil] at this
      cases this
  | succ fuel ih =>
    intro listed a w hX hz hlen hdc hkeep h
    constructor
    · intro hr
      exfalso
      obtain ⟨i, rest, hrem⟩ : ∃ i rest, remOf ops listed = i :: rest := by
        cases hq : remOf ops listed with
        | nil => rw [hq] at hlen; cases hlen
        | cons i rest => exact ⟨i, rest, rfl⟩
      have him : i ∈ remOf ops listed := by rw [hrem]; exact List.mem_cons_self ..
      obtain ⟨hi1, hi2⟩ := List.mem_filter.1 him
      have hisz := List.mem_range.1 hi1
      have hun : listed.getD i true = false := by simpa using hi2
      obtain ⟨pre, post, he, hpre, _, _⟩ := filter_split (fun j => !listed.getD j true) ops.size i hisz (by simpa using hi2)
      have hpn : pre = [] := by
        cases pre with
        | nil => rfl
        | cons p ps =>
          have : p = i := by
            have h1 : remOf ops listed = p :: (ps ++ i :: post) := he
            rw [hrem] at h1
            exact (List.cons.inj h1).1.symm
          have := (hpre p (List.mem_cons_self ..)).1
          omega
      have hready : i ∈ Region.ready .any ops listed := by
        refine mem_ready.2 ⟨hun, ops[i], Array.getElem?_eq_getElem hisz, fun e hee hb => ?_⟩
        have hel := hlt i _ (Array.getElem?_eq_getElem hisz) e hee hb
        by_cases hx : listed.getD e.on true = false
        · exfalso
          have : e.on ∈ remOf ops listed := List.mem_filter.2 ⟨List.mem_range.2 (by omega), by rw [hx]; rfl⟩
          have h1 : remOf ops listed = i :: post := by rw [hpn] at he; exact he
          rw [h1] at this
          rcases List.mem_cons.1 this with h2 | h2
          · omega
          · obtain ⟨pre', post', he', _, hpost', _⟩ := filter_split (fun j => !listed.getD j true) ops.size i hisz (by simpa using hi2)
            have hp' : pre' ++ i :: post' = i :: post := he'.symm.trans h1
            cases pre' with
            | nil =>
              have : post' = post := (List.cons.inj hp').2
              subst this
              have := (hpost' _ h2).1
              omega
            | cons q qs =>
              have hq := (List.cons.inj hp').1
              have hmem : q ∈ remOf ops listed := by
                have : remOf ops listed = (q :: qs) ++ i :: post' := he'
                rw [this]; simp
              subst hq
              have hbad : (q :: qs) ++ q :: post' = remOf ops listed := he'.symm
              have hnd : (remOf ops listed).Nodup := List.Nodup.sublist (List.filter_sublist ..) List.nodup_range
              rw [← hbad] at hnd
              simp at hnd
        · have : ¬ listed.getD e.on false = false := fun h0 => hx ((getD_iff listed e.on hz (by omega)).2 h0)
          simpa using this
      rw [hr] at hready
      cases hready
    · intro i hi
      obtain ⟨hun, oi, hoi, hall⟩ := mem_ready.1 hi
      have hisz := (Array.getElem?_eq_some_iff.1 hoi).1
      obtain ⟨pre, post, he, hpre, hpost, hg⟩ := filter_split (fun j => !listed.getD j true) ops.size i hisz (by simp [hun])
      have hrem : remOf ops listed = pre ++ i :: post := he
      have hrem' : remOf ops (listed.setIfInBounds i true) = pre ++ post := by
        refine hg _ ?_ ?_
        · simp [show i < listed.size by omega]
        · intro j hj
          rw [getD_set_ne true (Ne.symm hj)]
      have hlen' : (remOf ops (listed.setIfInBounds i true)).length = fuel := by
        rw [hrem']
        rw [hrem] at hlen
        simp at hlen ⊢
        omega
      have hdc' : ∀ j o, ops[j]? = some o → (listed.setIfInBounds i true).getD j false = true → ∀ e ∈ o.after, Region.binds .any e = true → (listed.setIfInBounds i true).getD e.on false = true := by
        intro j o ho hj e hee hb
        by_cases hji : j = i
        · subst hji
          have : o = oi := by rw [hoi] at ho; exact (Option.some.inj ho).symm
          subst this
          exact getD_set_true (hall e hee hb)
        · rw [getD_set_ne false (Ne.symm hji)] at hj
          exact getD_set_true (hdc j o ho hj e hee hb)
      -- what stands ahead of i and is not listed does not reach it
      have hfree : ∀ p ∈ pre, i < n ∧ ∃ op, ops[p]? = some op ∧ op.apart ops oi = true ∧ (chainB op = false ∨ chainB oi = false) := by
        intro p hp
        obtain ⟨hpi, hpf⟩ := hpre p hp
        have hpu : listed.getD p true = false := by simpa using hpf
        have hop : ops[p]? = some ops[p] := Array.getElem?_eq_getElem (by omega)
        rcases hord i oi p _ hoi hop hpi (fun hx => hX _ hx (by rw [hrem]; simp)) (fun hx => hX _ hx (by rw [hrem]; simp [hp])) (fun j => j = i ∨ listed.getD j false = true) (fun j o ho hj e hee hb => by
          rcases hj with rfl | hj
          · have : o = oi := by rw [hoi] at ho; exact (Option.some.inj ho).symm
            subst this
            exact .inr (hall e hee hb)
          · exact .inr (hdc j o ho hj e hee hb)) (.inl rfl) with hx | ⟨h1, h2, h3⟩
        · rcases hx with rfl | hx
          · omega
          · have := (getD_iff listed p hz (by omega)).1 hpu
            rw [hx] at this; cases this
        · exact ⟨h1, _, hop, h2, h3⟩
      have next : ∀ a' w', ((∃ i, i < n ∧ i ∈ pre ++ post) → J w') → wpMixI P ops J Q n (pre ++ post) a' w' → wpAny P .any ops Q fuel (listed.setIfInBounds i true) a' w' :=
        fun a' w' hk hm => ih _ a' w' (fun x hx => by rw [hrem']; intro hm; exact hX x hx (by rw [hrem]; rcases List.mem_append.1 hm with h | h <;> simp [h])) (by simpa using hz) hlen' hdc' (by rw [hrem']; exact hk) (by rw [hrem']; exact hm)
      rw [hrem] at h
      by_cases hin : i < n
      · have hk : J w := hkeep ⟨i, hin, by rw [hrem]; simp⟩
        cases hc : chainB oi with
        | false =>
          obtain ⟨v, hy, hm⟩ := take_float hin hoi hc hs pre a w hk (fun p hp => by
            obtain ⟨h1, op, h2, h3, _⟩ := hfree p hp
            exact ⟨by have := (hpre p hp).1; omega, op, h2, h3⟩) h
          have hn := next _ _ (fun _ => hk) hm
          unfold wpOp
          simp only [hoi]
          rcases hy with ⟨hw, hv⟩ | ⟨hw, rfl⟩
          · rw [if_pos hw]
            refine .inl ?_
            unfold Oper.wp
            rcases hv w hk with h1 | ⟨h1, rfl⟩
            · rw [h1]; exact hn
            · rw [h1]; exact hn
          · rw [if_neg (by simp [hw])]; exact hn
        | true =>
          have hh := take_chain hin hoi hc hs pre a w (fun p hp => by
            obtain ⟨h1, op, h2, h3, h4⟩ := hfree p hp
            exact ⟨by have := (hpre p hp).1; omega, op, h2, h3, h4.resolve_right (by simp [hc])⟩) h
          unfold wpOp
          simp only [hoi]
          split
          · rename_i hw
            rw [if_pos hw] at hh
            refine .inl (Oper.wp_false (Oper.wp_mono (fun a' w' hx => ?_) hh))
            exact next _ _ (fun _ => hx.1) hx.2
          · rename_i hw
            rw [if_neg hw] at hh
            exact next _ _ (fun _ => hk) hh
      · have hpn : pre = [] := by
          cases pre with
          | nil => rfl
          | cons p ps => exact absurd (hfree p (List.mem_cons_self ..)).1 hin
        subst hpn
        rw [List.nil_append] at h
        have hall' : ∀ j ∈ i :: post, n ≤ j := by
          intro j hj
          rcases List.mem_cons.1 hj with rfl | hj
          · omega
          · have := (hpost j hj).1; omega
        rw [wpMixI_all _ _ _ hall', wpOps_cons] at h
        refine wpOp_mono (fun a' w' hx => ?_) h
        refine next a' w' ?_ ?_
        · rintro ⟨j, hj, hm⟩
          have := hall' j (List.mem_cons_of_mem _ (by simpa using hm))
          omega
        · rw [List.nil_append, wpMixI_all _ _ _ (fun j hj => hall' j (List.mem_cons_of_mem _ hj))]
          exact hx

theorem wpAny_of_mix {n : Nat} (hB : mixOk ops n = true) : ∀ (fuel : Nat) (listed : Array Bool) (a : Act) (w : World), listed.size = ops.size → (remOf ops listed).length = fuel →
    (∀ j o, ops[j]? = some o → listed.getD j false = true → ∀ e ∈ o.after, Region.binds .any e = true → listed.getD e.on false = true) →
    ((∃ i, i < n ∧ i ∈ remOf ops listed) → J w) → wpMixI P ops J Q n (remOf ops listed) a w → wpAny P .any ops Q fuel listed a w := by
  obtain ⟨hs, hlt, hord⟩ := mixOk_spec hB
  intro fuel listed a w
  exact wpAny_of_mixX (fun _ => False) hs hlt (fun i oi p op h1 h2 h3 _ _ => hord i oi p op h1 h2 h3) fuel listed a w (fun _ h => h.elim)

/-- A REGION THAT DRAWS, BY ONE WALK. -/
theorem wp_region_mix {id : Nat} {a : Act} {w : World} {l : List Oper} (J : World → Prop) (n : Nat) (hm : P.follows .mixedOrders = true) (hB : mixOk l.toArray n = true) (hJ : J w.drew)
    (h : wpMix P l.toArray J Q n l a w.drew) : (Code.region id l.toArray true).wp P Q a w := by
  refine wp_region_any hm ?_
  have hrem : remOf l.toArray (Array.replicate l.toArray.size false) = List.range' 0 l.length := by
    unfold remOf
    rw [List.range_eq_range', List.filter_eq_self.2]
    · simp
    · intro j hj
      have := List.mem_range'_1.1 hj
      simp at this
      simp [this]
  refine wpAny_of_mix (J := J) hB _ _ _ _ (by simp) ?_ ?_ ?_ ?_
  · rw [hrem]; simp
  · intro j o _ hj
    have : (Array.replicate l.toArray.size false).getD j false = false := by
      simp only [Array.getD_eq_getD_getElem?, Array.getElem?_replicate]
      split <;> rfl
    rw [this] at hj; cases hj
  · exact fun _ => hJ
  · rw [hrem]
    have := wpMixI_of (P := P) (ops := l.toArray) (J := J) (Q := Q) l n 0 a w.drew (by simp) h
    simpa using this

theorem mix_zero {l : List Oper} {a : Act} {w : World} (h : wpList P ops Q l a w) : wpMix P ops J Q 0 l a w := by rw [wpMix]; exact h
theorem mix_nil {n : Nat} {a : Act} {w : World} (h : Q .normal a w) : wpMix P ops J Q (n + 1) [] a w := by rw [wpMix]; exact h
theorem mix_skip {n : Nat} {o : Oper} {rest : List Oper} {a : Act} {w : World} (hw : Region.wanted o (yielded ops a.tmps) = false) (h : wpMix P ops J Q n rest (a.put o.dst undef) w) :
    wpMix P ops J Q (n + 1) (o :: rest) a w := by
  rw [wpMix, if_neg (by simp [hw])]; exact h
theorem mix_float {n : Nat} {o : Oper} {rest : List Oper} {a : Act} {w : World} (v : Value) (hg : o.guard = none) (hc : chainB o = false)
    (hv : ∀ h, J h → (execOp a.eval o).run P h = .ok (.value v) h) (h : wpMix P ops J Q n rest (a.put o.dst v) w) :
    wpMix P ops J Q (n + 1) (o :: rest) a w := by
  rw [wpMix, if_pos (by simp [Region.wanted, hg]), if_neg (by simp [hc])]; exact ⟨v, fun x hx => .inl (hv x hx), h⟩
theorem mix_float_skip {n : Nat} {o : Oper} {rest : List Oper} {a : Act} {w : World} (hg : o.guard = none) (hc : chainB o = false)
    (hv : ∀ h, J h → (execOp a.eval o).run P h = .ok .skip h) (h : wpMix P ops J Q n rest (a.put o.dst undef) w) :
    wpMix P ops J Q (n + 1) (o :: rest) a w := by
  rw [wpMix, if_pos (by simp [Region.wanted, hg]), if_neg (by simp [hc])]; exact ⟨undef, fun x hx => .inr ⟨hv x hx, rfl⟩, h⟩
theorem mix_chain {n : Nat} {o : Oper} {rest : List Oper} {a : Act} {w : World} (hg : o.guard = none) (hc : chainB o = true)
    (h : ∀ K : Act → World → Prop, (∀ a' w', (J w' ∧ wpMix P ops J Q n rest a' w') → K a' w') → o.wp P a w K (fun _ _ _ => False)) :
    wpMix P ops J Q (n + 1) (o :: rest) a w := by
  rw [wpMix, if_pos (by simp [Region.wanted, hg]), if_pos hc]; exact h _ fun _ _ h => h
theorem act_set {a : Act} {d : Tmp} {b : Bool} (hb : a.tmps.getD d undef = .bool b) (x : Bool) (hx : b = x) : ({ a with tmps := a.tmps.setIfInBounds d (.bool x) } : Act) = a := by
  subst hx
  have : a.tmps.setIfInBounds d (.bool b) = a.tmps := by
    apply Array.ext_getElem?
    intro i
    by_cases hi : d = i
    · subst hi
      by_cases hlt : d < a.tmps.size
      · rw [Array.getElem?_setIfInBounds_self_of_lt hlt]
        simp [hlt] at hb
        rw [Array.getElem?_eq_getElem hlt, hb]
      · rw [Array.getElem?_eq_none (by simpa using hlt), Array.getElem?_eq_none (by simpa using hlt)]
    · rw [Array.getElem?_setIfInBounds_ne hi]
  rw [this]
theorem yielded_of {a : Act} {j : Nat} {d : Tmp} {b : Bool} (hd : (ops[j]?).bind (·.dst) = some d) (hb : a.tmps.getD d undef = .bool b) : yielded ops a.tmps j = some b := by
  unfold yielded
  rw [hd]
  by_cases hlt : d < a.tmps.size
  · simp [hlt] at hb
    simp [Array.getElem?_eq_getElem hlt, hb]
  · simp [Array.getElem?_eq_none (Nat.le_of_not_lt hlt), undef] at hb
/-- The operation runs: its guard is struck. -/
theorem mix_strike {n : Nat} {o : Oper} {rest : List Oper} {a : Act} {w : World} (hw : Region.wanted o (yielded ops a.tmps) = true)
    (h : wpMix P ops J Q (n + 1) (⟨o.dst, o.op, o.type, o.pos, o.after, none⟩ :: rest) a w) : wpMix P ops J Q (n + 1) (o :: rest) a w := by
  rw [wpMix] at h ⊢
  rw [if_pos (by simp [Region.wanted])] at h
  rw [if_pos hw]
  exact h
/-- A guard that asks for yes: both ways, the guard's temporary written as what it is. -/
theorem mix_guard_t {n : Nat} {o : Oper} {rest : List Oper} {a : Act} {w : World} {j : Nat} {d : Tmp} {b : Bool} (hg : o.guard = some (j, true)) (hd : (ops[j]?).bind (·.dst) = some d)
    (hb : a.tmps.getD d undef = .bool b) (h1 : b = true → wpMix P ops J Q (n + 1) (⟨o.dst, o.op, o.type, o.pos, o.after, none⟩ :: rest) { a with tmps := a.tmps.setIfInBounds d (.bool true) } w)
    (h0 : b = false → wpMix P ops J Q n rest (({ a with tmps := a.tmps.setIfInBounds d (.bool false) } : Act).put o.dst undef) w) : wpMix P ops J Q (n + 1) (o :: rest) a w := by
  have hy := yielded_of hd hb
  cases hx : b with
  | true => have := h1 hx; rw [act_set hb true hx] at this; exact mix_strike (by simp [Region.wanted, hg, hy, hx]) this
  | false => have := h0 hx; rw [act_set hb false hx] at this; exact mix_skip (by simp [Region.wanted, hg, hy, hx]) this
end
attribute [irreducible] wpMix
end Go.Proofs.YtegebjflhhbmiaaDoor
