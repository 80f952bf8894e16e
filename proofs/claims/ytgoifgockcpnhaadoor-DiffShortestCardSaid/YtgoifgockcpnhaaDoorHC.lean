/- A region that draws, cut in two: behind its first operations something else is held fast. -/
import Derived.Test.YtgoifgockcpnhaaDoorH9
set_option linter.unusedSimpArgs false
set_option linter.unusedVariables false
namespace Go.Proofs.YtgoifgockcpnhaaDoor
open Go Go.RowKit

section
variable {P : Program} {ops : Array Oper} {J : World → Prop} {Q : Exit → Act → World → Prop}
theorem wpAny_of_cut {n N : Nat} (hns : n ≤ ops.size) (hs : Region.noSelect ops = true) (hlt : ∀ i oi, ops[i]? = some oi → ∀ e ∈ oi.after, Region.binds .any e = true → e.on < i)
    (hord : OrdX ops N (fun _ => False)) (hall : ∀ i p, n ≤ i → i < ops.size → p < n → ∀ L, Closed ops L → L i → L p) :
    ∀ (fuel : Nat) (listed : Array Bool) (a : Act) (w : World), listed.size = ops.size → (remOf ops listed).length = fuel →
    (∀ j o, ops[j]? = some o → listed.getD j false = true → ∀ e ∈ o.after, Region.binds .any e = true → listed.getD e.on false = true) → J w →
    (∀ j, n ≤ j → j < ops.size → listed.getD j true = false) →
    wpMixI P ops J (fun _ a' w' => ∃ J2 : World → Prop, J2 w' ∧ wpMixI P ops J2 Q N (List.range' n (ops.size - n)) a' w') n ((List.range n).filter fun j => !listed.getD j true) a w →
    wpAny P .any ops Q fuel listed a w := by
  intro fuel
  induction fuel with
  | zero =>
    intro listed a w hz hlen hdc hk hT h
    have hnil : remOf ops listed = [] := List.eq_nil_of_length_eq_zero hlen
    have hp : ((List.range n).filter fun j => !listed.getD j true) = [] := List.filter_eq_nil_iff.2 fun j hj hf => by
      have : j ∈ remOf ops listed := List.mem_filter.2 ⟨List.mem_range.2 (by have := List.mem_range.1 hj; omega), hf⟩
      rw [hnil] at this
      cases this
    have hsz : ops.size - n = 0 := by
      rcases Nat.eq_zero_or_pos (ops.size - n) with h0 | h0
      · exact h0
      · have : n ∈ remOf ops listed := List.mem_filter.2 ⟨List.mem_range.2 (by omega), by rw [hT n (Nat.le_refl _) (by omega)]; rfl⟩
        rw [hnil] at this
        cases this
    rw [hp, hsz] at h
    obtain ⟨J2, hk2, h2⟩ : ∃ J2 : World → Prop, J2 w ∧ wpMixI P ops J2 Q N (List.range' n 0) a w := h
    refine wpAny_of_mixX (n := N) (J := J2) (fun _ => False) hs hlt hord 0 listed a w (fun _ h => h.elim) hz hlen hdc (fun _ => hk2) ?_
    rw [hnil]
    exact h2
  | succ fuel ih =>
    intro listed a w hz hlen hdc hk hT h
    by_cases hp : ((List.range n).filter fun j => !listed.getD j true) = []
    · rw [hp] at h
      obtain ⟨J2, hk2, h2⟩ : ∃ J2 : World → Prop, J2 w ∧ wpMixI P ops J2 Q N (List.range' n (ops.size - n)) a w := h
      refine wpAny_of_mixX (n := N) (J := J2) (fun _ => False) hs hlt hord (fuel + 1) listed a w (fun _ h => h.elim) hz hlen hdc (fun _ => hk2) ?_
      have hrem : remOf ops listed = List.range' n (ops.size - n) := by
        unfold remOf
        have : List.range ops.size = List.range n ++ List.range' n (ops.size - n) := by
          rw [List.range_eq_range', List.range_eq_range']
          have := List.range'_append_1 (s := 0) (m := n) (n := ops.size - n)
          rw [Nat.zero_add, show n + (ops.size - n) = ops.size by omega] at this
          exact this.symm
        rw [this, List.filter_append, hp, List.nil_append]
        exact List.filter_eq_self.2 fun j hj => by
          have := List.mem_range'_1.1 hj
          rw [hT j this.1 (by omega)]
          rfl
      rw [hrem]
      exact h2
    · obtain ⟨x, hx⟩ := List.exists_mem_of_ne_nil _ hp
      obtain ⟨hxr, hxu⟩ := List.mem_filter.1 hx
      have hxn : x < n := List.mem_range.1 hxr
      have hxu : listed.getD x true = false := by simpa using hxu
      constructor
      · intro hr
        exact absurd hr (ready_some hlt hz (by omega) hxu)
      · intro i hi
        obtain ⟨hun, oi, hoi, hall'⟩ := mem_ready.1 hi
        have hisz := (Array.getElem?_eq_some_iff.1 hoi).1
        have clos : Closed ops (fun j => j = i ∨ listed.getD j false = true) := by
          intro j o ho hj e hee hbb
          rcases hj with rfl | hj
          · have : o = oi := by rw [hoi] at ho; exact (Option.some.inj ho).symm
            subst this
            exact .inr (hall' e hee hbb)
          · exact .inr (hdc j o ho hj e hee hbb)
        have asked : ∀ p, p ≠ i → p < ops.size → listed.getD p true = false → (∀ L, Closed ops L → L i → L p) → False := fun p hpi hps hpu hp => by
          rcases hp _ clos (.inl rfl) with h1 | h1
          · exact hpi h1
          · simp only [Array.getD_eq_getD_getElem?] at h1 hpu
            rw [Array.getElem?_eq_getElem (by omega)] at h1 hpu
            simp only [Option.getD_some] at h1 hpu
            rw [h1] at hpu; cases hpu
        have hin : i < n := by
          rcases Nat.lt_or_ge i n with h1 | h1
          · exact h1
          · exact (asked x (by omega) (by omega) hxu (hall i x h1 hisz hxn)).elim
        have hset : ∀ j, j ≠ i → (listed.setIfInBounds i true).getD j true = listed.getD j true := fun j hj => getD_set_ne true (Ne.symm hj)
        have hseti : (listed.setIfInBounds i true).getD i true = true := by simp [show i < listed.size by omega]
        have hlen' : (remOf ops (listed.setIfInBounds i true)).length = fuel := by
          obtain ⟨p1, p2, he, _, _, hg⟩ := filter_split (fun j => !listed.getD j true) ops.size i hisz (by simp [hun])
          have e1 : remOf ops listed = p1 ++ i :: p2 := he
          have e2 : remOf ops (listed.setIfInBounds i true) = p1 ++ p2 := hg _ (by simp [show i < listed.size by omega]) (fun j hj => by rw [hset j hj])
          rw [e1] at hlen
          rw [e2]
          simp at hlen ⊢
          omega
        have hdc' : ∀ j o, ops[j]? = some o → (listed.setIfInBounds i true).getD j false = true → ∀ e ∈ o.after, Region.binds .any e = true → (listed.setIfInBounds i true).getD e.on false = true := by
          intro j o ho hj e hee hbb
          by_cases hji : j = i
          · subst hji
            have : o = oi := by rw [hoi] at ho; exact (Option.some.inj ho).symm
            subst this
            exact getD_set_true (hall' e hee hbb)
          · rw [getD_set_ne false (Ne.symm hji)] at hj
            exact getD_set_true (hdc j o ho hj e hee hbb)
        have hT' : ∀ j, n ≤ j → j < ops.size → (listed.setIfInBounds i true).getD j true = false := fun j h1 h2 => by
          rw [hset j (by omega)]
          exact hT j h1 h2
        obtain ⟨p1, p2, he, hlt1, hmem, hg⟩ := filter_split (fun j => !listed.getD j true) n i hin (by simp [hun])
        have hg2 := hg (fun j => !(listed.setIfInBounds i true).getD j true) (by simp [show i < listed.size by omega]) (fun j hj => by rw [hset j hj])
        have hp1 : ∀ p ∈ p1, p < n ∧ p < i ∧ listed.getD p true = false := fun p hp => by
          have h1 : p ∈ (List.range n).filter fun j => !listed.getD j true := by rw [he]; exact List.mem_append_left _ hp
          have h2 := List.mem_filter.1 h1
          exact ⟨List.mem_range.1 h2.1, (hlt1 p hp).1, by simpa using h2.2⟩
        have hap : ∀ p ∈ p1, ∃ op, ops[p]? = some op ∧ op.apart ops oi = true ∧ (chainB op = false ∨ chainB oi = false) := fun p hp => by
          obtain ⟨h1, h2, h3⟩ := hp1 p hp
          have hop : ops[p]? = some ops[p] := Array.getElem?_eq_getElem (by omega)
          refine ⟨ops[p], hop, ?_⟩
          rcases hord i oi p _ hoi hop h2 (fun h => h) (fun h => h) _ clos (.inl rfl) with h4 | h4
          · exfalso
            rcases h4 with h4 | h4
            · omega
            · simp only [Array.getD_eq_getD_getElem?] at h4 h3
              rw [Array.getElem?_eq_getElem (by omega)] at h4 h3
              simp only [Option.getD_some] at h4 h3
              rw [h4] at h3
              cases h3
          · exact h4.2
        rw [he] at h
        cases hc : chainB oi with
        | false =>
          obtain ⟨v, hy, hm⟩ := take_float hin hoi hc hs p1 a w hk (fun p hp => ⟨(hp1 p hp).1, by obtain ⟨op, h1, h2, _⟩ := hap p hp; exact ⟨op, h1, h2⟩⟩) h
          have hn := ih (listed.setIfInBounds i true) (a.put oi.dst v) w (by simpa using hz) hlen' hdc' hk hT' (by rw [hg2]; exact hm)
          unfold wpOp
          simp only [hoi]
          rcases hy with ⟨hw, hv⟩ | ⟨hw, rfl⟩
          · rw [if_pos hw]
            refine .inl ?_
            unfold Oper.wp
            rcases hv w hk with h1 | ⟨h1, rfl⟩
            · rw [h1]; exact hn
            · rw [h1]; exact hn
          · rw [if_neg (by simp [hw])]; exact hn
        | true =>
          have hh := take_chain hin hoi hc hs p1 a w (fun p hp => by
            obtain ⟨op, h1, h2, h3⟩ := hap p hp
            exact ⟨(hp1 p hp).1, op, h1, h2, h3.resolve_right (by rw [hc]; simp)⟩) h
          have hfin : ∀ a' w', J w' → wpMixI P ops J (fun _ a' w' => ∃ J2 : World → Prop, J2 w' ∧ wpMixI P ops J2 Q N (List.range' n (ops.size - n)) a' w') n (p1 ++ p2) a' w' → wpAny P .any ops Q fuel (listed.setIfInBounds i true) a' w' := fun a' w' hk' hm' =>
            ih (listed.setIfInBounds i true) a' w' (by simpa using hz) hlen' hdc' hk' hT' (by rw [hg2]; exact hm')
          unfold wpOp
          simp only [hoi]
          split
          · rename_i hw
            rw [if_pos hw] at hh
            exact .inl (Oper.wp_false (Oper.wp_mono (fun a' w' hx => hfin a' w' hx.1 hx.2) hh))
          · rename_i hw
            rw [if_neg hw] at hh
            exact hfin _ w hk hh

/-! ### packed -/
def cutOk (ops : Array Oper) (n N : Nat) : Bool :=
  let b := closGo ops.toList #[]
  mixOk ops N && (decide (n ≤ ops.size) && (List.range ops.size).all fun i => decide (i < n) || (List.range n).all fun p => (b.getD i 0).testBit p)
theorem wp_region_cut {id : Nat} {a : Act} {w : World} {l : List Oper} (J : World → Prop) (n N : Nat) (hm : P.follows .mixedOrders = true) (hB : cutOk l.toArray n N = true) (hJ : J w.drew)
    (h : wpMix P l.toArray J (fun _ a' w' => ∃ J2 : World → Prop, J2 w' ∧ wpMix P l.toArray J2 Q (N - n) (l.drop n) a' w') n (l.take n) a w.drew) : (Code.region id l.toArray true).wp P Q a w := by
  refine wp_region_any hm ?_
  simp only [cutOk, Bool.and_eq_true, decide_eq_true_eq] at hB
  obtain ⟨hB, hns, hE⟩ := hB
  obtain ⟨hs, hlt, hord⟩ := mixOk_spec hB
  have hsz : l.toArray.size = l.length := by simp
  have hrep : ∀ j, j < l.length → (Array.replicate l.toArray.size false).getD j true = false := fun j hj => by
    simp [Array.getD_eq_getD_getElem?, Array.getElem?_replicate, hj]
  have hfr : ∀ (r : List Nat), (∀ j ∈ r, j < l.length) → r.filter (fun j => !(Array.replicate l.toArray.size false).getD j true) = r := fun r hr => filter_none r fun j hj => by
    rw [hrep j (hr j hj)]
  have hpre : ((List.range n).filter fun j => !(Array.replicate l.toArray.size false).getD j true) = List.range' 0 (l.take n).length := by
    rw [hfr _ (fun j hj => by have := List.mem_range.1 hj; omega), List.range_eq_range', List.length_take]
    congr 1
    omega
  refine wpAny_of_cut (J := J) (n := n) (N := N) hns hs hlt (fun i oi p op h1 h2 h3 _ _ => hord i oi p op h1 h2 h3) ?_ _ _ _ _ (by simp) (by unfold remOf; rw [hfr _ (fun j hj => by simpa using hj)]; simp) ?_ hJ ?_ ?_
  · intro i p hni hi hpn L hL hLi
    have h1 := List.all_eq_true.1 hE i (List.mem_range.2 hi)
    simp only [Bool.or_eq_true, decide_eq_true_eq, List.all_eq_true, List.mem_range] at h1
    exact clos_good L hL l.toArray.toList #[] (by simp) (by simp) i p ((h1.resolve_left (by omega)) p hpn) hLi
  · intro j o _ hj
    have : (Array.replicate l.toArray.size false).getD j false = false := by
      simp only [Array.getD_eq_getD_getElem?, Array.getElem?_replicate]
      split <;> rfl
    rw [this] at hj; cases hj
  · intro j h1 h2
    exact hrep j (by omega)
  · rw [hpre]
    have h3 := wpMixI_list (P := P) (ops := l.toArray) (J := J) (n := n) (List.range' 0 (l.take n).length) (l.take n) n a w.drew (by
      rw [range_map _ _ _ (by rw [List.length_take]; omega), List.length_take, show min n l.length = n by omega]
      simp) (fun j i hj => by
      have := range'_at hj
      have h2 := (List.getElem?_eq_some_iff.1 hj).1
      simp at h2
      omega) h
    refine wpMixI_monoQ (fun a' w' hx => ?_) _ a w.drew (fun p hp => by have := List.mem_range'_1.1 hp; rw [List.length_take] at this; omega) h3
    obtain ⟨J2, hk2, h2⟩ := hx
    refine ⟨J2, hk2, wpMixI_list _ _ (N - n) a' w' ?_ ?_ h2⟩
    · rw [range_map _ _ _ (by omega), List.take_of_length_le (by simp)]
    · intro j i hj
      have := range'_at hj
      omega
theorem wp_region_ct {c w : World} {a : Act} {H G R : HP} {id : Nat} {l : List Oper} (hs : Sat c H w) (n N : Nat) (he : Ent H (G * R)) (hm : P.follows .mixedOrders = true) (hB : cutOk l.toArray n N = true)
    (h : ∀ (hR : Hp) (w' : World), R.on hR → Sat c (Exh hR * (G * emp)) w' → wpMix P l.toArray (In hR) (fun _ a' w' => ∃ J2 : World → Prop, J2 w' ∧ wpMix P l.toArray J2 Q (N - n) (l.drop n) a' w') n (l.take n) a w') : (Code.region id l.toArray true).wp P Q a w := by
  obtain ⟨x, ⟨h1, h2, d, l1, l2, x1, x2⟩, i⟩ := (hs.mono he).own
  exact wp_region_cut (In h2) n N hm hB (i.le l2) (h h2 w.drew x2 ⟨hs.os, hs.tape, hs.output, x, ⟨h2, h1, dj_comm d, l2, l1, le_refl' _, (by rw [star_emp]; exact x1)⟩, i⟩)
/-- Behind the first part: what was held fast is owned again. -/
theorem mix_cut {c w : World} {a : Act} {H G R : HP} {hR : Hp} {l : List Oper} {m : Nat} (hRR : R.on hR) (hs : Sat c H w) (he : Ent H (Exh hR * G)) (h : ∀ w', Sat c (R * G) w' → ∃ J2 : World → Prop, J2 w' ∧ wpMix P ops J2 Q m l a w') :
    wpMix P ops (In hR) (fun _ a' w' => ∃ J2 : World → Prop, J2 w' ∧ wpMix P ops J2 Q m l a' w') 0 [] a w :=
  mix_zero_nil (h w (hs.mono (ent_turn he (exh_ent hRR))))
theorem cut_freeze {c w : World} {a : Act} {H G R : HP} {l : List Oper} {m : Nat} (hs : Sat c H w) (he : Ent H (G * R)) (h : ∀ (hR : Hp), R.on hR → Sat c (Exh hR * (G * emp)) w → wpMix P ops (In hR) Q m l a w) : ∃ J2 : World → Prop, J2 w ∧ wpMix P ops J2 Q m l a w := by
  obtain ⟨x, ⟨h1, h2, d, l1, l2, x1, x2⟩, i⟩ := (hs.mono he).own
  exact ⟨In h2, i.le l2, h h2 x2 ⟨hs.os, hs.tape, hs.output, x, ⟨h2, h1, dj_comm d, l2, l1, le_refl' _, (by rw [star_emp]; exact x1)⟩, i⟩⟩
end
end Go.Proofs.YtgoifgockcpnhaaDoor
