/- A region that draws: a move of a register may be taken first. -/
import Derived.Test.YtflibhphpnajeaaDoorZUC6AA
set_option linter.unusedSimpArgs false
set_option linter.unusedVariables false
namespace Go.Proofs.YtflibhphpnajeaaDoor
open Go Go.RowKit

section
variable {P : Program} {ops : Array Oper} {J : World → Prop} {Q : Exit → Act → World → Prop}

/-- Operations that enter no function. -/
def plainB (o : Oper) : Bool :=
  match o.op with
  | .alloc _ | .box .. | .build .. | .buildSlice .. | .store .. | .makeMap .. | .makeSlice .. | .makeInterface .. => true
  | _ => false
def noEnter : Result Next → Prop
  | .ok (.enter _ _) _ => False
  | .ok (.row _ _) _ => False
  | _ => True
theorem noEnter_v (s : Sem Value) (w : World) : noEnter ((do pure (.value (← s)) : Sem Next).run P w) := by
  simp only [Sem.run_bind]
  cases s.run P w with
  | ok v w' => simp [noEnter]
  | halt x w' => simp [noEnter]
theorem noEnter_u (s : Sem Unit) (w : World) : noEnter ((do s; pure .skip : Sem Next).run P w) := by
  simp only [Sem.run_bind]
  cases s.run P w with
  | ok v w' => simp [noEnter]
  | halt x w' => simp [noEnter]
theorem plain_noEnter {o : Oper} (h : plainB o = true) (ρ : Operand → Value) (w : World) : noEnter ((execOp ρ o).run P w) := by
  unfold plainB at h
  unfold execOp
  split at h
  case h_9 => cases h
  all_goals
    rename_i heq
    simp only [heq]
    first | exact noEnter_v _ _ | exact noEnter_u _ _
theorem wp_and {o : Oper} (hp : plainB o = true) {a : Act} {w : World} {K K' : Act → World → Prop} (h : o.wp P a w K (fun _ _ _ => False)) (h' : o.wp P a w K' (fun _ _ _ => False)) :
    o.wp P a w (fun a' w' => K a' w' ∧ K' a' w') (fun _ _ _ => False) := by
  have hn := plain_noEnter (P := P) hp a.eval w
  unfold Oper.wp at *
  generalize (execOp a.eval o).run P w = r at *
  cases r with
  | ok n w' =>
    cases n <;> simp only [Oper.upon, noEnter] at h h' hn ⊢ <;> first | exact ⟨h, h'⟩ | exact hn.elim | exact h
  | halt x w' => cases x <;> simp only [Oper.upon] at h h' ⊢ <;> exact h
theorem wp_all {o : Oper} {a : Act} {w : World} {α : Type} {K : α → Act → World → Prop} : ∀ (l : List α), l ≠ [] → (l.length = 1 ∨ plainB o = true) → (∀ x, x ∈ l → o.wp P a w (K x) (fun _ _ _ => False)) →
    o.wp P a w (fun a' w' => ∀ x, x ∈ l → K x a' w') (fun _ _ _ => False)
  | [], h, _, _ => absurd rfl h
  | [x], _, _, h => Oper.wp_mono (fun a' w' hk y hy => by rw [List.mem_singleton.1 hy]; exact hk) (h x (List.mem_singleton.2 rfl))
  | x :: y :: l, _, hp, h => by
    have hp : plainB o = true := hp.resolve_left (by simp)
    have h1 := h x (List.mem_cons_self ..)
    have h2 := wp_all (y :: l) (by simp) (.inr hp) (fun z hz => h z (List.mem_cons_of_mem _ hz))
    refine Oper.wp_mono (fun a' w' hk z hz => ?_) (wp_and hp h1 h2)
    rcases List.mem_cons.1 hz with rfl | hz
    · exact hk.1
    · exact hk.2 z hz

/-- The chain operations of a list. -/
def isChain (ops : Array Oper) (i : Nat) : Bool := match ops[i]? with | some o => chainB o | none => false
def isPlain (ops : Array Oper) (i : Nat) : Bool := match ops[i]? with | some o => plainB o | none => false
/-- Every order of the chain operations that the edges allow is one of the lists. -/
def cover (ops : Array Oper) (b : Array Nat) : Nat → List (List Nat) → Bool
  | 0, S => S.all List.isEmpty
  | k + 1, S => S.all fun l => l.all fun i => (l.any fun j => j != i && (b.getD i 0).testBit j) ||
      (let T := S.filter fun m => m.head? == some i
       !T.isEmpty && ((T.length == 1 || isPlain ops i) && cover ops b k (T.map List.tail)))
/-- L holds with i all that i asks for. -/
def Closed (ops : Array Oper) (L : Nat → Prop) : Prop := ∀ j o, ops[j]? = some o → L j → ∀ e ∈ o.after, Region.binds .any e = true → L e.on
def Rel (ops : Array Oper) (p i : Nat) : Prop := (∀ L, Closed ops L → L i → L p) ∨ ∃ op oi, ops[p]? = some op ∧ ops[i]? = some oi ∧ op.apart ops oi = true
theorem chain_erase {π : List Nat} {i : Nat} (h : isChain ops i = false) : (π.erase i).filter (isChain ops) = π.filter (isChain ops) := by
  induction π with
  | nil => rfl
  | cons p π ih =>
    by_cases hp : p = i
    · subst hp
      rw [List.erase_cons_head, List.filter_cons, if_neg (by simp [h])]
    · rw [List.erase_cons_tail (by simpa using hp), List.filter_cons, List.filter_cons, ih]
theorem chain_first {pre post : List Nat} {i : Nat} (hi : isChain ops i = true) (hn : (pre ++ i :: post).Nodup) (h : ((pre ++ i :: post).filter (isChain ops)).head? = some i) : ∀ p ∈ pre, isChain ops p = false := by
  intro p hp
  cases hc : isChain ops p with
  | false => rfl
  | true =>
    exfalso
    rw [List.filter_append, List.head?_append] at h
    have hne : pre.filter (isChain ops) ≠ [] := fun e => by
      have : p ∈ pre.filter (isChain ops) := List.mem_filter.2 ⟨hp, hc⟩
      rw [e] at this
      cases this
    obtain ⟨x, xs, hx⟩ := List.exists_cons_of_ne_nil hne
    rw [hx] at h
    simp at h
    subst h
    have hm : x ∈ pre := (List.mem_filter.1 (show x ∈ pre.filter (isChain ops) by rw [hx]; exact List.mem_cons_self ..)).1
    rw [List.nodup_append] at hn
    exact hn.2.2 x hm x (List.mem_cons_self ..) rfl
theorem chain_tail {pre post : List Nat} {i : Nat} (hi : isChain ops i = true) (hp : ∀ p ∈ pre, isChain ops p = false) : (pre ++ post).filter (isChain ops) = ((pre ++ i :: post).filter (isChain ops)).tail := by
  have : pre.filter (isChain ops) = [] := List.filter_eq_nil_iff.2 fun p hm => by simp [hp p hm]
  rw [List.filter_append, List.filter_append, this, List.filter_cons, if_pos hi]
  rfl
theorem ready_some {listed : Array Bool} (hlt : ∀ i oi, ops[i]? = some oi → ∀ e ∈ oi.after, Region.binds .any e = true → e.on < i) (hz : listed.size = ops.size) {j : Nat} (hj : j < ops.size) (hun : listed.getD j true = false) :
    Region.ready .any ops listed ≠ [] := by
  -- the least that is not listed
  have : ∃ i, i < ops.size ∧ listed.getD i true = false ∧ ∀ k, k < i → listed.getD k true = true := by
    have : ∀ m, m ≤ j → (∃ i, i < ops.size ∧ listed.getD i true = false ∧ ∀ k, k < i → listed.getD k true = true) ∨ ∀ k, k < m → listed.getD k true = true := by
      intro m
      induction m with
      | zero => exact fun _ => .inr fun k hk => absurd hk (Nat.not_lt_zero _)
      | succ m ih =>
        intro hm
        rcases ih (by omega) with h | h
        · exact .inl h
        · cases hc : listed.getD m true with
          | false => exact .inl ⟨m, by omega, hc, h⟩
          | true =>
            refine .inr fun k hk => ?_
            rcases Nat.lt_or_eq_of_le (Nat.le_of_lt_succ hk) with h1 | h1
            · exact h k h1
            · subst h1; exact hc
    rcases this j (Nat.le_refl _) with h | h
    · exact h
    · exact ⟨j, hj, hun, h⟩
  obtain ⟨i, hi, hiu, hmin⟩ := this
  have hready : i ∈ Region.ready .any ops listed := by
    refine mem_ready.2 ⟨hiu, ops[i], Array.getElem?_eq_getElem hi, fun e hee hb => ?_⟩
    have hel := hlt i _ (Array.getElem?_eq_getElem hi) e hee hb
    have := hmin _ hel
    simp only [Array.getD_eq_getD_getElem?] at this ⊢
    rw [Array.getElem?_eq_getElem (by omega)] at this ⊢
    exact this
  intro hr
  rw [hr] at hready
  cases hready

theorem wpAny_of_lists {n : Nat} {b : Array Nat} (hns : n ≤ ops.size) (hs : Region.noSelect ops = true) (hlt : ∀ i oi, ops[i]? = some oi → ∀ e ∈ oi.after, Region.binds .any e = true → e.on < i)
    (hb : ∀ i p, (b.getD i 0).testBit p = true → ∀ L, Closed ops L → L i → L p)
    (hordT : OrdX ops n (fun j => j < n)) (hall : ∀ i p, n ≤ i → i < ops.size → p < n → ∀ L, Closed ops L → L i → L p) :
    ∀ (fuel k : Nat) (S : List (List Nat)) (listed : Array Bool) (a : Act) (w : World), listed.size = ops.size → (remOf ops listed).length = fuel →
    (∀ j o, ops[j]? = some o → listed.getD j false = true → ∀ e ∈ o.after, Region.binds .any e = true → listed.getD e.on false = true) → J w →
    S ≠ [] → (∀ π ∈ S, π.Nodup ∧ π.Pairwise (Rel ops) ∧ ∀ j, j ∈ π ↔ (j < n ∧ listed.getD j true = false)) → (∀ j, n ≤ j → j < ops.size → (∃ i, i < n ∧ listed.getD i true = false) → listed.getD j true = false) →
    cover ops b k (S.map fun π => π.filter (isChain ops)) = true → (∀ π ∈ S, wpMixI P ops J Q n (π ++ (List.range' n (ops.size - n)).filter fun j => !listed.getD j true) a w) → wpAny P .any ops Q fuel listed a w := by
  intro fuel
  induction fuel with
  | zero =>
    intro k S listed a w hz hlen hdc hk hne hS hT hcov h
    have hnil : remOf ops listed = [] := List.eq_nil_of_length_eq_zero hlen
    obtain ⟨π, S', rfl⟩ := List.exists_cons_of_ne_nil hne
    refine wpAny_of_mixX (n := n) (J := J) (fun j => j < n) hs hlt hordT 0 listed a w (fun x _ hm => by rw [hnil] at hm; cases hm) hz hlen hdc (fun _ => hk) ?_
    have h0 := h π (List.mem_cons_self ..)
    have hp : π = [] := List.eq_nil_iff_forall_not_mem.2 fun j hj => by
      obtain ⟨h1, h2⟩ := ((hS π (List.mem_cons_self ..)).2.2 j).1 hj
      have : j ∈ remOf ops listed := List.mem_filter.2 ⟨List.mem_range.2 (by omega), by rw [h2]; rfl⟩
      rw [hnil] at this; cases this
    have ht : ((List.range' n (ops.size - n)).filter fun j => !listed.getD j true) = [] := List.filter_eq_nil_iff.2 fun j hj hf => by
      have h1 := List.mem_range'_1.1 hj
      have : j ∈ remOf ops listed := List.mem_filter.2 ⟨List.mem_range.2 (by omega), hf⟩
      rw [hnil] at this; cases this
    rw [hp, ht] at h0
    rw [hnil]
    exact h0
  | succ fuel ih =>
    intro k S listed a w hz hlen hdc hk hne hS hT hcov h
    by_cases hex : ∃ i, i < n ∧ listed.getD i true = false
    · obtain ⟨x, hxn, hxu⟩ := hex
      constructor
      · intro hr
        exact absurd hr (ready_some hlt hz (by omega) hxu)
      · intro i hi
        obtain ⟨hun, oi, hoi, hall'⟩ := mem_ready.1 hi
        have hisz := (Array.getElem?_eq_some_iff.1 hoi).1
        have clos : Closed ops (fun j => j = i ∨ listed.getD j false = true) := by
          intro j o ho hj e hee hbb
          rcases hj with rfl | hj
          · have : o = oi := by rw [hoi] at ho; exact (Option.some.inj ho).symm
            subst this
            exact .inr (hall' e hee hbb)
          · exact .inr (hdc j o ho hj e hee hbb)
        have asked : ∀ p, p ≠ i → p < ops.size → listed.getD p true = false → (∀ L, Closed ops L → L i → L p) → False := fun p hpi hps hpu hp => by
          rcases hp _ clos (.inl rfl) with h1 | h1
          · exact hpi h1
          · simp only [Array.getD_eq_getD_getElem?] at h1 hpu
            rw [Array.getElem?_eq_getElem (by omega)] at h1 hpu
            simp only [Option.getD_some] at h1 hpu
            rw [h1] at hpu; cases hpu
        have hin : i < n := by
          rcases Nat.lt_or_ge i n with h1 | h1
          · exact h1
          · exact (asked x (by omega) (by omega) hxu (hall i x h1 hisz hxn)).elim
        have hset : ∀ j, j ≠ i → (listed.setIfInBounds i true).getD j true = listed.getD j true := fun j hj => getD_set_ne true (Ne.symm hj)
        have hseti : (listed.setIfInBounds i true).getD i true = true := by simp [show i < listed.size by omega]
        have hlen' : (remOf ops (listed.setIfInBounds i true)).length = fuel := by
          obtain ⟨p1, p2, he, _, _, hg⟩ := filter_split (fun j => !listed.getD j true) ops.size i hisz (by simp [hun])
          have e1 : remOf ops listed = p1 ++ i :: p2 := he
          have e2 : remOf ops (listed.setIfInBounds i true) = p1 ++ p2 := hg _ (by simp [show i < listed.size by omega]) (fun j hj => by rw [hset j hj])
          rw [e1] at hlen
          rw [e2]
          simp at hlen ⊢
          omega
        have hdc' : ∀ j o, ops[j]? = some o → (listed.setIfInBounds i true).getD j false = true → ∀ e ∈ o.after, Region.binds .any e = true → (listed.setIfInBounds i true).getD e.on false = true := by
          intro j o ho hj e hee hbb
          by_cases hji : j = i
          · subst hji
            have : o = oi := by rw [hoi] at ho; exact (Option.some.inj ho).symm
            subst this
            exact getD_set_true (hall' e hee hbb)
          · rw [getD_set_ne false (Ne.symm hji)] at hj
            exact getD_set_true (hdc j o ho hj e hee hbb)
        have htl : ((List.range' n (ops.size - n)).filter fun j => !(listed.setIfInBounds i true).getD j true) = (List.range' n (ops.size - n)).filter fun j => !listed.getD j true :=
          filter_set_off _ (fun j hj => by have := List.mem_range'_1.1 hj; omega)
        have hT' : ∀ j, n ≤ j → j < ops.size → (∃ i', i' < n ∧ (listed.setIfInBounds i true).getD i' true = false) → (listed.setIfInBounds i true).getD j true = false := fun j h1 h2 _ => by
          rw [hset j (by omega)]
          exact hT j h1 h2 ⟨x, hxn, hxu⟩
        -- each list, parted at i
        have parts : ∀ π ∈ S, ∃ pre post, π = pre ++ i :: post ∧ π.erase i = pre ++ post ∧ ∀ p ∈ pre, p < n ∧ ∃ op, ops[p]? = some op ∧ op.apart ops oi = true := by
          intro π hπ
          obtain ⟨hnd, hpw, hm⟩ := hS π hπ
          obtain ⟨pre, post, rfl⟩ := List.append_of_mem ((hm i).2 ⟨hin, hun⟩)
          have hnp : i ∉ pre := fun h => by
            rw [List.nodup_append] at hnd
            exact hnd.2.2 i h i (List.mem_cons_self ..) rfl
          refine ⟨pre, post, rfl, by rw [List.erase_append_right _ hnp, List.erase_cons_head], fun p hp => ?_⟩
          obtain ⟨hpn, hpu⟩ := (hm p).1 (List.mem_append_left _ hp)
          refine ⟨hpn, ?_⟩
          have hr := (List.pairwise_append.1 hpw).2.2 p hp i (List.mem_cons_self ..)
          rcases hr with hr | ⟨op, oi', h1, h2, h3⟩
          · exact (asked p (fun e => hnp (e ▸ hp)) (by omega) hpu hr).elim
          · rw [hoi] at h2
            cases h2
            exact ⟨op, h1, h3⟩
        have good : ∀ π ∈ S, (π.erase i).Nodup ∧ (π.erase i).Pairwise (Rel ops) ∧ ∀ j, j ∈ π.erase i ↔ (j < n ∧ (listed.setIfInBounds i true).getD j true = false) := by
          intro π hπ
          obtain ⟨hnd, hpw, hm⟩ := hS π hπ
          refine ⟨hnd.sublist List.erase_sublist, hpw.sublist List.erase_sublist, fun j => ?_⟩
          rw [hnd.mem_erase_iff, hm j]
          by_cases hji : j = i
          · subst hji
            rw [hseti]
            simp
          · rw [hset j hji]
            simp [hji]
        have next : ∀ (k' : Nat) (S' : List (List Nat)) a' w', J w' → S' ≠ [] → (∀ π ∈ S', π ∈ S) → cover ops b k' ((S'.map fun π => π.erase i).map fun π => π.filter (isChain ops)) = true →
            (∀ π ∈ S', wpMixI P ops J Q n (π.erase i ++ (List.range' n (ops.size - n)).filter fun j => !listed.getD j true) a' w') → wpAny P .any ops Q fuel (listed.setIfInBounds i true) a' w' := by
          intro k' S' a' w' hk' hne' hsub hc' hm
          refine ih k' (S'.map fun π => π.erase i) _ a' w' (by simpa using hz) hlen' hdc' hk' (by simpa using hne') (fun π hπ => ?_) hT' hc' (fun π hπ => ?_)
          · obtain ⟨π', h1, rfl⟩ := List.mem_map.1 hπ
            exact good π' (hsub π' h1)
          · obtain ⟨π', h1, rfl⟩ := List.mem_map.1 hπ
            rw [htl]
            exact hm π' h1
        cases hc : chainB oi with
        | false =>
          have hci : isChain ops i = false := by unfold isChain; rw [hoi]; exact hc
          have hf : ∀ π ∈ S, ∃ v, YieldsK P ops J oi v a ∧ wpMixI P ops J Q n (π.erase i ++ (List.range' n (ops.size - n)).filter fun j => !listed.getD j true) (a.put oi.dst v) w := by
            intro π hπ
            obtain ⟨pre, post, he, he2, hp⟩ := parts π hπ
            have hh := h π hπ
            rw [he, List.append_assoc, List.cons_append] at hh
            obtain ⟨v, h1, h2⟩ := take_float hin hoi hc hs pre a w hk hp hh
            exact ⟨v, h1, by rw [he2, List.append_assoc]; exact h2⟩
          obtain ⟨π0, S0, rfl⟩ := List.exists_cons_of_ne_nil hne
          obtain ⟨v, hy, _⟩ := hf π0 (List.mem_cons_self ..)
          have hn := next k (π0 :: S0) (a.put oi.dst v) w hk (by simp) (fun _ h => h) (by
            rw [List.map_map]
            rw [show ((fun π => List.filter (isChain ops) π) ∘ fun π : List Nat => π.erase i) = fun π => π.filter (isChain ops) from funext fun π => chain_erase hci]
            exact hcov) (fun π hπ => by
            obtain ⟨v', hy', hm⟩ := hf π hπ
            rw [YieldsK.uniq hk hy hy']
            exact hm)
          unfold wpOp
          simp only [hoi]
          rcases hy with ⟨hw, hv⟩ | ⟨hw, rfl⟩
          · rw [if_pos hw]
            refine .inl ?_
            unfold Oper.wp
            rcases hv w hk with h1 | ⟨h1, rfl⟩
            · rw [h1]; exact hn
            · rw [h1]; exact hn
          · rw [if_neg (by simp [hw])]; exact hn
        | true =>
          have hci : isChain ops i = true := by unfold isChain; rw [hoi]; exact hc
          -- the lists that i leads
          have hcv : ∃ k', (S.filter fun π => (π.filter (isChain ops)).head? == some i) ≠ [] ∧ ((S.filter fun π => (π.filter (isChain ops)).head? == some i).length = 1 ∨ plainB oi = true) ∧
              cover ops b k' (((S.filter fun π => (π.filter (isChain ops)).head? == some i).map fun π => π.erase i).map fun π => π.filter (isChain ops)) = true := by
            obtain ⟨π0, S0, hS0⟩ := List.exists_cons_of_ne_nil hne
            have h0 : π0 ∈ S := by rw [hS0]; exact List.mem_cons_self ..
            have him : i ∈ π0.filter (isChain ops) := List.mem_filter.2 ⟨((hS π0 h0).2.2 i).2 ⟨hin, hun⟩, hci⟩
            cases k with
            | zero =>
              exfalso
              have hcov : ((S.map fun π => π.filter (isChain ops)).all List.isEmpty) = true := hcov
              have := List.all_eq_true.1 hcov _ (List.mem_map.2 ⟨π0, h0, rfl⟩)
              rw [List.isEmpty_iff] at this
              rw [this] at him
              cases him
            | succ k =>
              have hcov : ((S.map fun π => π.filter (isChain ops)).all fun l => l.all fun i => (l.any fun j => j != i && (b.getD i 0).testBit j) ||
                (let T := (S.map fun π => π.filter (isChain ops)).filter fun m => m.head? == some i
                 !T.isEmpty && ((T.length == 1 || isPlain ops i) && cover ops b k (T.map List.tail)))) = true := hcov
              have h1 := List.all_eq_true.1 (List.all_eq_true.1 hcov _ (List.mem_map.2 ⟨π0, h0, rfl⟩)) i him
              rw [Bool.or_eq_true] at h1
              rcases h1 with h1 | h1
              · exfalso
                obtain ⟨j, hj, h2⟩ := List.any_eq_true.1 h1
                simp only [Bool.and_eq_true, bne_iff_ne, ne_eq] at h2
                obtain ⟨hjn, hju⟩ := ((hS π0 h0).2.2 j).1 (List.mem_filter.1 hj).1
                exact asked j h2.1 (by omega) hju (hb i j h2.2)
              · have hTe : ((S.map fun π => π.filter (isChain ops)).filter fun m => m.head? == some i) = (S.filter fun π => (π.filter (isChain ops)).head? == some i).map fun π => π.filter (isChain ops) := by
                  rw [List.filter_map]
                  rfl
                simp only [hTe, Bool.and_eq_true, Bool.or_eq_true, Bool.not_eq_true', beq_iff_eq, List.length_map] at h1
                obtain ⟨h2, h3, h4⟩ := h1
                refine ⟨k, fun e => ?_, h3.imp id (fun h => ?_), ?_⟩
                · rw [e] at h2; cases h2
                · unfold isPlain at h; rw [hoi] at h; exact h
                · rw [List.map_map] at h4 ⊢
                  rw [← h4]
                  congr 1
                  refine List.map_congr_left fun π hπ => ?_
                  obtain ⟨h5, h6⟩ := List.mem_filter.1 hπ
                  obtain ⟨pre, post, he, he2, _⟩ := parts π h5
                  have hnd := (hS π h5).1
                  show (π.erase i).filter (isChain ops) = (π.filter (isChain ops)).tail
                  rw [he2, he]
                  refine chain_tail hci (chain_first hci (by rw [← he]; exact hnd) ?_)
                  rw [← he]
                  simpa using h6
          obtain ⟨k', hne', hpl, hcv⟩ := hcv
          have hh : ∀ π ∈ S.filter (fun π => (π.filter (isChain ops)).head? == some i),
              if Region.wanted oi (yielded ops a.tmps) then oi.wp P a w (fun a' w' => J w' ∧ wpMixI P ops J Q n (π.erase i ++ (List.range' n (ops.size - n)).filter fun j => !listed.getD j true) a' w') (fun _ _ _ => False)
              else wpMixI P ops J Q n (π.erase i ++ (List.range' n (ops.size - n)).filter fun j => !listed.getD j true) (a.put oi.dst undef) w := by
            intro π hπ
            obtain ⟨h5, h6⟩ := List.mem_filter.1 hπ
            obtain ⟨pre, post, he, he2, hp⟩ := parts π h5
            have hnd := (hS π h5).1
            have hcf := chain_first (post := post) hci (by rw [← he]; exact hnd) (by rw [← he]; simpa using h6)
            have h7 := h π h5
            rw [he, List.append_assoc, List.cons_append] at h7
            have h8 := take_chain hin hoi hc hs pre a w (fun p hp' => by
              obtain ⟨h1, op, h2, h3⟩ := hp p hp'
              refine ⟨h1, op, h2, h3, ?_⟩
              have := hcf p hp'
              unfold isChain at this
              rw [h2] at this
              exact this) h7
            rw [he2, List.append_assoc]
            exact h8
          have hsub : ∀ π ∈ S.filter (fun π => (π.filter (isChain ops)).head? == some i), π ∈ S := fun π hπ => (List.mem_filter.1 hπ).1
          unfold wpOp
          simp only [hoi]
          split
          · rename_i hw
            have hh2 := wp_all (K := fun π a' w' => J w' ∧ wpMixI P ops J Q n (List.erase π i ++ (List.range' n (ops.size - n)).filter fun j => !listed.getD j true) a' w') _ hne' hpl (fun π hπ => by
              have := hh π hπ
              rw [if_pos hw] at this
              exact this)
            refine .inl (Oper.wp_false (Oper.wp_mono (fun a' w' hx => ?_) hh2))
            obtain ⟨π1, S1, hS1⟩ := List.exists_cons_of_ne_nil hne'
            exact next k' _ a' w' (hx π1 (by rw [hS1]; exact List.mem_cons_self ..)).1 hne' hsub hcv (fun π hπ => (hx π hπ).2)
          · rename_i hw
            exact next k' _ _ w hk hne' hsub hcv (fun π hπ => by
              have := hh π hπ
              rw [if_neg hw] at this
              exact this)
    · have hnil : ∀ π ∈ S, π = [] := fun π hπ => List.eq_nil_iff_forall_not_mem.2 fun j hj => hex ⟨j, ((hS π hπ).2.2 j).1 hj⟩
      obtain ⟨π, S', rfl⟩ := List.exists_cons_of_ne_nil hne
      have h0 := h π (List.mem_cons_self ..)
      rw [hnil π (List.mem_cons_self ..), List.nil_append] at h0
      have hrem : remOf ops listed = (List.range' n (ops.size - n)).filter fun j => !listed.getD j true := by
        unfold remOf
        have : List.range ops.size = List.range n ++ List.range' n (ops.size - n) := by
          rw [List.range_eq_range', List.range_eq_range']
          have := List.range'_append_1 (s := 0) (m := n) (n := ops.size - n)
          rw [Nat.zero_add, show n + (ops.size - n) = ops.size by omega] at this
          exact this.symm
        rw [this, List.filter_append]
        have : ((List.range n).filter fun j => !listed.getD j true) = [] := List.filter_eq_nil_iff.2 fun j hj hf => hex ⟨j, List.mem_range.1 hj, by simpa using hf⟩
        rw [this, List.nil_append]
      refine wpAny_of_mixX (n := n) (J := J) (fun j => j < n) hs hlt hordT (fuel + 1) listed a w (fun x hx hm => ?_) hz hlen hdc (fun _ => hk) (by rw [hrem]; exact h0)
      exact hex ⟨x, hx, by simpa using (List.mem_filter.1 hm).2⟩

/-! ### packed -/
def pwB (ops : Array Oper) (b : Array Nat) : List Nat → Bool
  | [] => true
  | p :: r => (r.all fun i => (b.getD i 0).testBit p || (match ops[p]?, ops[i]? with | some op, some oi => op.apart ops oi | _, _ => false)) && pwB ops b r
def listsOk (ops : Array Oper) (n : Nat) (S : List (List Nat)) : Bool :=
  let b := closGo ops.toList #[]
  Region.noSelect ops && decide (n ≤ ops.size) &&
  ((List.range ops.size).all fun i => match ops[i]? with
    | none => true
    | some oi => oi.after.all (fun e => !Region.binds .any e || decide (e.on < i)) && (decide (i < n) || (List.range i).all fun p => (b.getD i 0).testBit p)) &&
  !S.isEmpty && (S.all fun π => decide π.Nodup && (decide (π.length = n) && (π.all (fun j => decide (j < n)) && ((List.range n).all (fun j => π.contains j) && pwB ops b π)))) &&
  cover ops b n (S.map fun π => π.filter (isChain ops))
theorem pwB_spec {b : Array Nat} (hb : ∀ i p, (b.getD i 0).testBit p = true → ∀ L, Closed ops L → L i → L p) : ∀ (π : List Nat), pwB ops b π = true → π.Pairwise (Rel ops)
  | [], _ => List.Pairwise.nil
  | p :: r, h => by
    unfold pwB at h
    rw [Bool.and_eq_true] at h
    refine List.Pairwise.cons (fun i hi => ?_) (pwB_spec hb r h.2)
    have := List.all_eq_true.1 h.1 i hi
    rw [Bool.or_eq_true] at this
    rcases this with h1 | h1
    · exact .inl (hb i p h1)
    · split at h1
      · rename_i op oi h2 h3
        exact .inr ⟨op, oi, h2, h3, h1⟩
      · cases h1
/-- The operations of a list, and the rest in the text's order. -/
def opsAlong (l : List Oper) (n : Nat) (π : List Nat) : List Oper := π.filterMap (fun i => l[i]?) ++ l.drop n
def allAlong (P : Program) (ops : Array Oper) (J : World → Prop) (Q : Exit → Act → World → Prop) (n : Nat) : List (List Oper) → Act → World → Prop
  | [], _, _ => True
  | [l], a, w => wpMix P ops J Q n l a w
  | l :: r, a, w => wpMix P ops J Q n l a w ∧ allAlong P ops J Q n r a w
theorem allAlong_mem {n : Nat} {a : Act} {w : World} : ∀ {S : List (List Oper)}, allAlong P ops J Q n S a w → ∀ l, l ∈ S → wpMix P ops J Q n l a w
  | [l], h, m, hm => by rw [List.mem_singleton.1 hm]; exact h
  | l :: k :: r, h, m, hm => by
    rcases List.mem_cons.1 hm with rfl | hm
    · exact h.1
    · exact allAlong_mem h.2 m hm
theorem wp_region_lists {id : Nat} {a : Act} {w : World} {l : List Oper} (J : World → Prop) (n : Nat) (S : List (List Nat)) (hm : P.follows .mixedOrders = true) (hB : listsOk l.toArray n S = true) (hJ : J w.drew)
    (h : allAlong P l.toArray J Q n (S.map (opsAlong l n)) a w.drew) : (Code.region id l.toArray true).wp P Q a w := by
  refine wp_region_any hm ?_
  simp only [listsOk, Bool.and_eq_true, decide_eq_true_eq, Bool.not_eq_true'] at hB
  obtain ⟨⟨⟨⟨⟨hs, hns⟩, hE⟩, hne⟩, hS⟩, hcov⟩ := hB
  have hsz : l.toArray.size = l.length := by simp
  have hb : ∀ i p, ((closGo l.toArray.toList #[]).getD i 0).testBit p = true → ∀ L, Closed l.toArray L → L i → L p := fun i p hip L hL hLi => clos_good L hL l.toArray.toList #[] (by simp) (by simp) i p hip hLi
  have hE' : ∀ i oi, l.toArray[i]? = some oi → (∀ e ∈ oi.after, Region.binds .any e = true → e.on < i) ∧ (n ≤ i → ∀ p, p < i → ((closGo l.toArray.toList #[]).getD i 0).testBit p = true) := fun i oi hi => by
    have h1 := List.all_eq_true.1 hE i (List.mem_range.2 (Array.getElem?_eq_some_iff.1 hi).1)
    simp only [hi, Bool.and_eq_true, Array.all_eq_true_iff_forall_mem, Bool.or_eq_true, decide_eq_true_eq, List.all_eq_true, List.mem_range] at h1
    refine ⟨fun e he hbb => by simpa [hbb] using h1.1 e he, fun hn p hp => (h1.2.resolve_left (by omega)) p hp⟩
  have hfr : ∀ (r : List Nat), (∀ j ∈ r, j < l.length) → r.filter (fun j => !(Array.replicate l.toArray.size false).getD j true) = r := fun r hr => filter_none r fun j hj => by
    have := hr j hj
    simp [Array.getD_eq_getD_getElem?, Array.getElem?_replicate, this]
  have hS' : ∀ π ∈ S, π.Nodup ∧ π.length = n ∧ (∀ j, j ∈ π ↔ j < n) ∧ π.Pairwise (Rel l.toArray) := fun π hπ => by
    have h1 := List.all_eq_true.1 hS π hπ
    simp only [Bool.and_eq_true, decide_eq_true_eq, List.all_eq_true, List.mem_range, List.contains_iff_mem] at h1
    obtain ⟨h2, h3, h4, h5, h6⟩ := h1
    exact ⟨h2, h3, fun j => ⟨h4 j, h5 j⟩, pwB_spec hb π h6⟩
  refine wpAny_of_lists (J := J) (n := n) (b := closGo l.toArray.toList #[]) (by omega) hs (fun i oi hi => (hE' i oi hi).1) hb ?_ ?_ _ n S _ _ _ (by simp) ?_ ?_ hJ ?_ ?_ ?_ hcov ?_
  · intro i oi p op hi hp hlt' hni hnp L hL hLi
    exact .inl (hb i p ((hE' i oi hi).2 (by omega) p hlt') L hL hLi)
  · intro i p hni hi hpn L hL hLi
    exact hb i p ((hE' i _ (Array.getElem?_eq_getElem hi)).2 hni p (by omega)) L hL hLi
  · unfold remOf
    rw [hfr _ (fun j hj => by simpa using hj)]
    simp
  · intro j o _ hj
    have : (Array.replicate l.toArray.size false).getD j false = false := by
      simp only [Array.getD_eq_getD_getElem?, Array.getElem?_replicate]
      split <;> rfl
    rw [this] at hj; cases hj
  · intro e
    rw [e] at hne
    cases hne
  · intro π hπ
    obtain ⟨h1, h2, h3, h4⟩ := hS' π hπ
    refine ⟨h1, h4, fun j => ?_⟩
    rw [h3 j]
    refine ⟨fun hj => ⟨hj, ?_⟩, fun hj => hj.1⟩
    have : j < l.length := by omega
    simp [Array.getD_eq_getD_getElem?, Array.getElem?_replicate, this]
  · intro j h1 h2 _
    have : j < l.length := by omega
    simp [Array.getD_eq_getD_getElem?, Array.getElem?_replicate, this]
  · intro π hπ
    obtain ⟨h1, h2, h3, h4⟩ := hS' π hπ
    rw [hfr _ (fun j hj => by have := List.mem_range'_1.1 hj; omega)]
    refine wpMixI_list _ _ n a w.drew ?_ ?_ (allAlong_mem h _ (List.mem_map.2 ⟨π, hπ, rfl⟩))
    · unfold opsAlong
      rw [List.map_append, List.map_append]
      congr 1
      · clear h h1 h2 h4 hπ
        have : ∀ j ∈ π, j < l.length := fun j hj => by have := (h3 j).1 hj; omega
        clear h3
        induction π with
        | nil => rfl
        | cons p π ih =>
          have hp := this p (List.mem_cons_self ..)
          rw [List.map_cons, List.filterMap_cons, List.getElem?_eq_getElem hp]
          simp only [List.map_cons]
          rw [ih (fun j hj => this j (List.mem_cons_of_mem _ hj))]
          simp [hp]
      · rw [range_map _ _ _ (by omega), List.take_of_length_le (by simp)]
    · intro j i hj
      rw [List.getElem?_append] at hj
      split at hj
      · have := (h3 i).1 (List.mem_of_getElem? hj)
        omega
      · have := range'_at hj
        omega
end
end Go.Proofs.YtflibhphpnajeaaDoor

set_option linter.unusedSimpArgs false
set_option linter.unusedVariables false
namespace Go.Proofs.YtflibhphpnajeaaDoor
open Go Go.RowKit

section
variable {P : Program} {ops : Array Oper} {J : World → Prop} {Q : Exit → Act → World → Prop}
def NoEnd (Q : Exit → Act → World → Prop) : Prop := ∀ e a w, Q e a w → e = .normal
theorem wp_strict (hQ : NoEnd Q) {o : Oper} {a : Act} {w : World} {K : Act → World → Prop} (h : o.wp P a w K Q) : o.wp P a w K (fun _ _ _ => False) := by
  unfold Oper.wp at *
  generalize (execOp a.eval o).run P w = r at *
  cases r with
  | ok n w' =>
    cases n <;> simp only [Oper.upon] at h ⊢
    case enter f args =>
      exact Calls.mono h fun e w'' he => by
        cases e with
        | returned u => exact he
        | panicked c => cases hQ _ _ _ he
        | outgrown => obtain ⟨_, _, hf⟩ := he; cases hQ _ _ _ hf
    all_goals first | exact h | (cases hQ _ _ _ h)
  | halt x w' => cases x <;> simp only [Oper.upon] at h ⊢ <;> first | exact h | (cases hQ _ _ _ h) | (obtain ⟨_, _, hf⟩ := h; cases hQ _ _ _ hf)
theorem put_eval {a a' : Act} {o op : Oper} {x : Operand} (hx : op.op = .move x) (hb : Behind a o a') (h : ∀ d, o.dst = some d → d ∉ op.looksAt ops) : a'.eval x = a.eval x := by
  obtain ⟨ds, u, rfl⟩ := hb
  rw [Act.eval_put (fun d hd hxd => h d hd (by
    subst hxd
    exact List.mem_append_left _ (List.mem_filterMap.2 ⟨.tmp d, by rw [hx]; simp [Op.operands], rfl⟩)))]
  cases x <;> rfl
theorem wpAny_hoist {p : Nat} {op : Oper} {x : Operand} (hsel : Region.noSelect ops = true) (hop : ops[p]? = some op) (hmv : op.op = .move x) (hg : op.guard = none) (haft : ∀ e ∈ op.after, Region.binds .any e = false)
    (hap : ∀ i oi, ops[i]? = some oi → i ≠ p → op.apart ops oi = true ∨ ∃ e ∈ oi.after, Region.binds .any e = true ∧ e.on = p) (hQ : NoEnd Q) :
    ∀ (fuel : Nat) (listed : Array Bool) (a : Act) (w : World), listed.size = ops.size → listed.getD p true = false →
      wpAny P .any ops Q fuel (listed.setIfInBounds p true) (a.put op.dst (a.eval x)) w → wpAny P .any ops Q (fuel + 1) listed a w := by
  have hpsz := (Array.getElem?_eq_some_iff.1 hop).1
  intro fuel
  induction fuel with
  | zero =>
    intro listed a w hz hp h
    refine ⟨fun hr => ?_, fun i hi => ?_⟩
    · have : p ∈ Region.ready .any ops listed := mem_ready.2 ⟨hp, op, hop, fun e he hb => by rw [haft e he] at hb; cases hb⟩
      rw [hr] at this; cases this
    · by_cases hip : i = p
      · subst hip
        unfold wpOp
        simp only [hop]
        rw [if_pos (by unfold Region.wanted; rw [hg])]
        refine .inl ?_
        unfold Oper.wp execOp
        simp only [hmv]
        exact h
      · obtain ⟨hun, oi, hoi, hall⟩ := mem_ready.1 hi
        have : i ∈ Region.ready .any ops (listed.setIfInBounds p true) := mem_ready.2 ⟨by rw [getD_set_ne true (Ne.symm hip)]; exact hun, oi, hoi, fun e he hb => getD_set_true (hall e he hb)⟩
        rw [h.1] at this; cases this
  | succ fuel ih =>
    intro listed a w hz hp h
    refine ⟨fun hr => ?_, fun i hi => ?_⟩
    · have : p ∈ Region.ready .any ops listed := mem_ready.2 ⟨hp, op, hop, fun e he hb => by rw [haft e he] at hb; cases hb⟩
      rw [hr] at this; cases this
    · by_cases hip : i = p
      · subst hip
        unfold wpOp
        simp only [hop]
        rw [if_pos (by unfold Region.wanted; rw [hg])]
        refine .inl ?_
        unfold Oper.wp execOp
        simp only [hmv]
        exact h
      · obtain ⟨hun, oi, hoi, hall⟩ := mem_ready.1 hi
        have hr : i ∈ Region.ready .any ops (listed.setIfInBounds p true) := mem_ready.2 ⟨by rw [getD_set_ne true (Ne.symm hip)]; exact hun, oi, hoi, fun e he hb => getD_set_true (hall e he hb)⟩
        have hh := h.2 i hr
        have hap' : op.apart ops oi = true := by
          rcases hap i oi hoi hip with h1 | ⟨e, he, hb, hep⟩
          · exact h1
          · have h2 := hall e he hb
            rw [hep] at h2
            have h3 : p < listed.size := by omega
            simp [Array.getD, h3] at h2 hp
            rw [hp] at h2; cases h2
        obtain ⟨h1, h2, h3⟩ := Oper.apart_spec hap'
        have hsi := fun cs b => Region.noSelect_spec hsel i oi cs b hoi
        have next : ∀ a' w', Behind a oi a' → wpAny P .any ops Q fuel ((listed.setIfInBounds p true).setIfInBounds i true) (a'.put op.dst (a.eval x)) w' → wpAny P .any ops Q (fuel + 1) (listed.setIfInBounds i true) a' w' := fun a' w' hb hk => by
          refine ih _ a' w' (by simpa using hz) (by rw [getD_set_ne true hip]; exact hp) ?_
          rw [put_eval hmv hb h3, Array.setIfInBounds_comm _ _ hip]
          exact hk
        unfold wpOp at hh ⊢
        simp only [hoi] at hh ⊢
        rw [wanted_put oi a op.dst _ h1] at hh
        split
        · rename_i hw
          rw [if_pos hw] at hh
          rcases hh with hh | ⟨_, _, _, hl⟩
          · have h4 := (Oper.wp_put hsi h1 (fun d hd e => h2 d hd e)).1 (wp_strict hQ hh)
            exact .inl (Oper.wp_false (Oper.wp_mono (fun a' w' hk => next a' w' hk.1 hk.2) (Oper.wp_behind h4)))
          · cases hQ _ _ _ hl
        · rename_i hw
          rw [if_neg hw] at hh
          refine next _ _ ⟨a.defers, undef, rfl⟩ ?_
          rw [Act.put_comm a _ undef (fun d hd e => h2 d hd e)] at hh
          exact hh

/-- Moves of registers that feed only what asks for them. -/
def regB (ops : Array Oper) (p : Nat) : Bool :=
  match ops[p]? with
  | none => false
  | some op => (match op.op with | .move _ => true | _ => false) && op.guard.isNone && op.after.all (fun e => !Region.binds .any e) &&
      (List.range ops.size).all fun i => i == p || match ops[i]? with
        | none => true
        | some oi => op.apart ops oi || oi.after.any (fun e => Region.binds .any e && e.on == p)
def moveOf (ops : Array Oper) (p : Nat) : Option Tmp × Operand := match ops[p]? with
  | some ⟨d, .move x, _, _, _, _⟩ => (d, x)
  | _ => (none, .const undef)
theorem regB_spec {p : Nat} (h : regB ops p = true) : ∃ op x, ops[p]? = some op ∧ op.op = .move x ∧ op.guard = none ∧ (∀ e ∈ op.after, Region.binds .any e = false) ∧
    (∀ i oi, ops[i]? = some oi → i ≠ p → op.apart ops oi = true ∨ ∃ e ∈ oi.after, Region.binds .any e = true ∧ e.on = p) ∧ moveOf ops p = (op.dst, x) := by
  unfold regB at h
  split at h
  · cases h
  · rename_i op hop
    simp only [Bool.and_eq_true] at h
    obtain ⟨⟨⟨h1, h2⟩, h3⟩, h4⟩ := h
    obtain ⟨d, o, ty, pos, aft, gd⟩ := op
    cases o <;> simp at h1
    rename_i x
    refine ⟨_, x, hop, rfl, by simpa using h2, fun e he => ?_, fun i oi hoi hip => ?_, by unfold moveOf; rw [hop]⟩
    · have := Array.all_eq_true_iff_forall_mem.1 h3 e he
      simpa using this
    · have := List.all_eq_true.1 h4 i (List.mem_range.2 (Array.getElem?_eq_some_iff.1 hoi).1)
      simp only [hoi, Bool.or_eq_true, beq_iff_eq] at this
      rcases this with h5 | h5 | h5
      · exact absurd h5 hip
      · exact .inl h5
      · rw [← Array.any_toList] at h5
        obtain ⟨e, he1, he⟩ := List.any_eq_true.1 h5
        simp only [Bool.and_eq_true, beq_iff_eq] at he
        exact .inr ⟨e, by simpa using he1, he⟩
/-- The state behind such moves. -/
def movedA (ops : Array Oper) : List Nat → Act → Act
  | [], a => a
  | p :: ps, a => movedA ops ps (a.put (moveOf ops p).1 (a.eval (moveOf ops p).2))
def movedL : List Nat → Array Bool → Array Bool
  | [], l => l
  | p :: ps, l => movedL ps (l.setIfInBounds p true)
theorem wpAny_moved (hsel : Region.noSelect ops = true) (hQ : NoEnd Q) : ∀ (ps : List Nat) (fuel : Nat) (listed : Array Bool) (a : Act) (w : World), (∀ p ∈ ps, regB ops p = true) → ps.Nodup → listed.size = ops.size → (∀ p ∈ ps, listed.getD p true = false) →
    wpAny P .any ops Q fuel (movedL ps listed) (movedA ops ps a) w → wpAny P .any ops Q (fuel + ps.length) listed a w
  | [], _, _, _, _, _, _, _, _, h => h
  | p :: ps, fuel, listed, a, w, hr, hnd, hz, hl, h => by
    obtain ⟨op, x, hop, hmv, hg, haft, hap, he⟩ := regB_spec (hr p (List.mem_cons_self ..))
    have hnd' := List.nodup_cons.1 hnd
    refine wpAny_hoist hsel hop hmv hg haft hap hQ (fuel + ps.length) listed a w hz (hl p (List.mem_cons_self ..)) ?_
    refine wpAny_moved hsel hQ ps fuel _ _ w (fun q hq => hr q (List.mem_cons_of_mem _ hq)) hnd'.2 (by simpa using hz) (fun q hq => ?_) ?_
    · rw [getD_set_ne true (fun e => hnd'.1 (by rw [e]; exact hq))]
      exact hl q (List.mem_cons_of_mem _ hq)
    · unfold movedL movedA at h
      rw [he] at h
      exact h
theorem movedL_size : ∀ (ps : List Nat) (l : Array Bool), (movedL ps l).size = l.size
  | [], _ => rfl
  | p :: ps, l => by unfold movedL; rw [movedL_size ps]; simp
theorem movedL_at : ∀ (ps : List Nat) (l : Array Bool) (j : Nat) (d : Bool), (movedL ps l).getD j d = if j ∈ ps ∧ j < l.size then true else l.getD j d
  | [], l, j, d => by simp [movedL]
  | p :: ps, l, j, d => by
    unfold movedL
    rw [movedL_at ps]
    by_cases hj : j ∈ ps
    · by_cases hs : j < l.size
      · simp [hj, hs]
      · simp [hj, hs, Array.getD]
    · by_cases hp : j = p
      · subst hp
        by_cases hs : j < l.size
        · simp [hs, Array.getD]
        · simp [hs, Array.getD]
      · rw [if_neg (by simp [hj])]
        rw [getD_set_ne d (Ne.symm hp)]
        simp [hj, hp]
/-- The others, in the text's order. -/
def othersOf (ops : Array Oper) (ps : List Nat) : List Nat := (List.range ops.size).filter fun j => !ps.contains j
def movedOk (ops : Array Oper) (n : Nat) (ps : List Nat) : Bool :=
  let b := closGo ops.toList #[]
  Region.noSelect ops && decide ps.Nodup && ps.all (regB ops) && (decide (ops.size = (othersOf ops ps).length + ps.length) && decide (n ≤ ops.size)) &&
  (List.range ops.size).all fun i => match ops[i]? with
    | none => true
    | some oi => oi.after.all (fun e => !Region.binds .any e || decide (e.on < i)) &&
      (ps.contains i || (List.range i).all fun p => ps.contains p || (b.getD i 0).testBit p || (decide (i < n) && match ops[p]? with
        | none => true
        | some op => op.apart ops oi && !(chainB op && chainB oi)))
/-- Up to which of the others n reaches. -/
def othersN (ops : Array Oper) (n : Nat) (ps : List Nat) : Nat := ((List.range n).filter fun j => !ps.contains j).length
theorem wpAny_notEnd {fuel : Nat} {listed : Array Bool} {a : Act} {w : World} (h : wpAny P .any ops (fun e a w => e = .normal ∧ Q e a w) fuel listed a w) : wpAny P .any ops Q fuel listed a w := by
  have hn : NoEnd (fun e a w => e = Exit.normal ∧ Q e a w) := fun e a w h => h.1
  induction fuel generalizing listed a w with
  | zero => exact ⟨h.1, h.2.2⟩
  | succ fuel ih =>
    refine ⟨fun hr => (h.1 hr).2, fun i hi => ?_⟩
    have hh := h.2 i hi
    unfold wpOp at hh ⊢
    split at hh
    · exact ih hh
    · split at hh
      · rename_i hw
        rw [if_pos hw]
        rcases hh with hh | ⟨_, _, _, hl⟩
        · exact .inl (Oper.wp_false (Oper.wp_mono (fun a' w' hk => ih hk) (wp_strict hn hh)))
        · cases hl.1
      · rename_i hw
        rw [if_neg hw]
        exact ih hh
theorem wp_region_moved {id : Nat} {a : Act} {w : World} {l : List Oper} (J : World → Prop) (n : Nat) (ps : List Nat) (hm : P.follows .mixedOrders = true) (hB : movedOk l.toArray n ps = true) (hJ : J w.drew)
    (h : wpMix P l.toArray J (fun e a w => e = .normal ∧ Q e a w) (othersN l.toArray n ps) ((othersOf l.toArray ps).filterMap fun j => l[j]?) (movedA l.toArray ps a) w.drew) : (Code.region id l.toArray true).wp P Q a w := by
  have hn : NoEnd (fun e a w => e = Exit.normal ∧ Q e a w) := fun e a w h => h.1
  refine wp_region_any hm (wpAny_notEnd ?_)
  simp only [movedOk, Bool.and_eq_true, decide_eq_true_eq] at hB
  obtain ⟨⟨⟨⟨hs, hnd⟩, hreg⟩, hsz, hnle⟩, hE⟩ := hB
  have hE' : ∀ i oi, l.toArray[i]? = some oi → (∀ e ∈ oi.after, Region.binds .any e = true → e.on < i) ∧ (i ∉ ps → ∀ p, p < i → p ∉ ps → ((closGo l.toArray.toList #[]).getD i 0).testBit p = true ∨ (i < n ∧ ∀ op, l.toArray[p]? = some op → op.apart l.toArray oi = true ∧ (chainB op = false ∨ chainB oi = false))) := fun i oi hi => by
    have h1 := List.all_eq_true.1 hE i (List.mem_range.2 (Array.getElem?_eq_some_iff.1 hi).1)
    simp only [hi, Bool.and_eq_true, Array.all_eq_true_iff_forall_mem, Bool.or_eq_true, decide_eq_true_eq, List.all_eq_true, List.mem_range, List.contains_iff_mem] at h1
    refine ⟨fun e he hb => by simpa [hb] using h1.1 e he, fun hip p hp hpp => ?_⟩
    rcases h1.2.resolve_left hip p hp with (h2 | h2) | ⟨h2, h3⟩
    · exact absurd h2 hpp
    · exact .inl h2
    · refine .inr ⟨h2, fun op hop => ?_⟩
      simp only [hop, Bool.and_eq_true, Bool.not_eq_true', Bool.and_eq_false_iff] at h3
      exact ⟨h3.1, h3.2⟩
  have hrep : ∀ j, j < l.length → (Array.replicate l.toArray.size false).getD j true = false := fun j hj => by
    simp [Array.getD_eq_getD_getElem?, Array.getElem?_replicate, hj]
  have hlt : ∀ p ∈ ps, p < l.toArray.size := fun p hp => by
    obtain ⟨op, x, hop, _⟩ := regB_spec (List.all_eq_true.1 hreg p hp)
    exact (Array.getElem?_eq_some_iff.1 hop).1
  have hrem : remOf l.toArray (movedL ps (Array.replicate l.toArray.size false)) = othersOf l.toArray ps := by
    unfold remOf othersOf
    refine List.filter_congr fun j hj => ?_
    have hjl : j < l.toArray.size := List.mem_range.1 hj
    rw [movedL_at]
    by_cases hjp : j ∈ ps
    · rw [if_pos ⟨hjp, by simpa using hjl⟩]
      simp [hjp]
    · rw [if_neg (fun hh => hjp hh.1), hrep j (by simpa using hjl)]
      simp [hjp]
  rw [hsz]
  refine wpAny_moved hs hn ps _ _ _ _ (fun p hp => List.all_eq_true.1 hreg p hp) hnd (by simp only [Array.size_replicate]; exact hsz.symm) (fun p hp => by rw [← hsz]; exact hrep p (by have := hlt p hp; simpa using this)) ?_
  rw [← hsz]
  refine wpAny_of_mixX (J := J) (n := n) (fun x => x ∈ ps) hs (fun i oi hi => (hE' i oi hi).1) (fun i oi p op hi hp hlt' hip hpp L hL hLi => ?_) _ _ _ _ (fun x hx => ?_) (by rw [movedL_size]; simp) (by rw [hrem]) (fun j o ho hj e he hb => ?_) (fun _ => hJ) ?_
  · rcases (hE' i oi hi).2 hip p hlt' hpp with h1 | ⟨h1, h2⟩
    · exact .inl (clos_good L hL l.toArray.toList #[] (by simp) (by simp) i p h1 hLi)
    · exact .inr ⟨h1, h2 op hp⟩
  · rw [hrem]
    unfold othersOf
    intro hm
    have := (List.mem_filter.1 hm).2
    simp [hx] at this
  · rw [movedL_at] at hj
    split at hj
    · rename_i hjp
      obtain ⟨op, x, hop, _, _, haft, _⟩ := regB_spec (List.all_eq_true.1 hreg j hjp.1)
      rw [hop] at ho
      obtain rfl := Option.some.inj ho
      rw [haft e he] at hb; cases hb
    · exfalso
      have : (Array.replicate l.toArray.size false).getD j false = false := by
        simp only [Array.getD_eq_getD_getElem?, Array.getElem?_replicate]
        split <;> rfl
      rw [this] at hj; cases hj
  · rw [hrem]
    refine wpMixI_list _ _ (othersN l.toArray n ps) _ _ ?_ ?_ h
    · have : ∀ j ∈ othersOf l.toArray ps, j < l.length := fun j hj => by
        have := List.mem_range.1 (List.mem_filter.1 hj).1
        simpa using this
      generalize othersOf l.toArray ps = π at this
      clear h hrem hsz
      induction π with
      | nil => rfl
      | cons p π ih =>
        have hp := this p (List.mem_cons_self ..)
        rw [List.map_cons, List.filterMap_cons, List.getElem?_eq_getElem hp]
        simp only [List.map_cons]
        rw [ih (fun j hj => this j (List.mem_cons_of_mem _ hj))]
        simp [hp]
    · intro j i hj
      have hsplit : othersOf l.toArray ps = ((List.range n).filter fun j => !ps.contains j) ++ ((List.range' n (l.toArray.size - n)).filter fun j => !ps.contains j) := by
        unfold othersOf
        rw [← List.filter_append]
        congr 1
        rw [List.range_eq_range', List.range_eq_range']
        have := List.range'_append_1 (s := 0) (m := n) (n := l.toArray.size - n)
        rw [Nat.zero_add, show n + (l.toArray.size - n) = l.toArray.size by omega] at this
        exact this.symm
      rw [hsplit, List.getElem?_append] at hj
      unfold othersN
      split at hj
      · rename_i hlt'
        have := List.mem_range.1 (List.mem_filter.1 (List.mem_of_getElem? hj)).1
        omega
      · rename_i hge
        have := List.mem_range'_1.1 (List.mem_filter.1 (List.mem_of_getElem? hj)).1
        omega
end
end Go.Proofs.YtflibhphpnajeaaDoor
