/- A region that draws, with one call that may be first: ahead of it only reads, or another list's beginning; behind it several lists. -/
import Derived.Test.YtgoifgockcpnhaaDoorO1
set_option linter.unusedSimpArgs false
set_option linter.unusedVariables false
namespace Go.Proofs.YtgoifgockcpnhaaDoor
open Go Go.RowKit

section
variable {P : Program} {ops : Array Oper} {J : World → Prop} {Q : Exit → Act → World → Prop}

/-- Reads ahead of several lists. -/
theorem float_prefix {n : Nat} {S : List (List Nat)} {tl : List Nat} : ∀ (ps : List Nat) (a : Act) (w : World), (∀ p ∈ ps, p < n ∧ isChain ops p = false) →
    wpMixI P ops J (fun _ a' w' => ∀ π ∈ S, wpMixI P ops J Q n (π ++ tl) a' w') n ps a w → ∀ π ∈ S, wpMixI P ops J Q n (ps ++ π ++ tl) a w
  | [], a, w, _, h, π, hπ => h π hπ
  | p :: ps, a, w, hp, h, π, hπ => by
    obtain ⟨hpn, hpc⟩ := hp p (List.mem_cons_self ..)
    have hr : ∀ q ∈ ps, q < n ∧ isChain ops q = false := fun q hq => hp q (List.mem_cons_of_mem _ hq)
    rw [wpMixI, if_neg (by omega)] at h
    rw [List.cons_append, List.cons_append, wpMixI, if_neg (by omega)]
    cases ho : ops[p]? with
    | none =>
      simp only [ho] at h ⊢
      exact float_prefix ps a w hr h π hπ
    | some o =>
      have hc : chainB o = false := by unfold isChain at hpc; rw [ho] at hpc; exact hpc
      simp only [ho, hc] at h ⊢
      split
      · rename_i hw
        rw [if_pos hw] at h
        obtain ⟨v, h1, h2⟩ := h
        exact ⟨v, h1, float_prefix ps _ w hr h2 π hπ⟩
      · rename_i hw
        rw [if_neg hw] at h
        exact float_prefix ps _ w hr h π hπ

theorem wpAny_of_call {n : Nat} {b : Array Nat} (ic : Nat) (hns : n ≤ ops.size) (hs : Region.noSelect ops = true) (hlt : ∀ i oi, ops[i]? = some oi → ∀ e ∈ oi.after, Region.binds .any e = true → e.on < i)
    (hb : ∀ i p, (b.getD i 0).testBit p = true → ∀ L, Closed ops L → L i → L p)
    (hordT : OrdX ops n (fun j => j < n)) (hall : ∀ i p, n ≤ i → i < ops.size → p < n → ∀ L, Closed ops L → L i → L p) (hic : ic < n) (hicc : isChain ops ic = true) (k : Nat) (S : List (List Nat)) (hSne : S ≠ []) (S0 : List (List Nat))
    (hc0 : ∀ i, i < n → isChain ops i = true → i = ic ∨ (∃ j, j < n ∧ j ≠ i ∧ isChain ops j = true ∧ (b.getD i 0).testBit j = true) ∨
      ((S0.filter fun π => π.head? == some i) ≠ [] ∧ ((S0.filter fun π => π.head? == some i).length = 1 ∨ isPlain ops i = true) ∧ cover ops b k ((S0.filter fun π => π.head? == some i).map List.tail) = true)) :
    ∀ (fuel : Nat) (pre : List Nat) (S1 : List (List Nat)) (listed : Array Bool) (a : Act) (w : World), listed.size = ops.size → (remOf ops listed).length = fuel →
    (∀ j o, ops[j]? = some o → listed.getD j false = true → ∀ e ∈ o.after, Region.binds .any e = true → listed.getD e.on false = true) → J w →
    (S1.map fun π => π.filter (isChain ops)) = S0 →
    (∀ π ∈ S1, π.Nodup ∧ π.Pairwise (Rel ops) ∧ ∀ j, j ∈ π ↔ (j < n ∧ listed.getD j true = false)) →
    (∀ π ∈ S, (pre ++ π).Nodup ∧ (pre ++ π).Pairwise (Rel ops) ∧ ∀ j, j ∈ pre ++ π ↔ (j < n ∧ listed.getD j true = false)) →
    (∀ j, n ≤ j → j < ops.size → listed.getD j true = false) → ic ∈ pre → (∀ p ∈ pre, p ≠ ic → isChain ops p = false) → (∀ j, j < n → isChain ops j = true → listed.getD j true = false) →
    (∀ π ∈ S, ∀ j ∈ π, isChain ops j = false → (b.getD j 0).testBit ic = true) →
    cover ops b k (S.map fun π => π.filter (isChain ops)) = true →
    (∀ π ∈ S1, wpMixI P ops J Q n (π ++ (List.range' n (ops.size - n)).filter fun j => !listed.getD j true) a w) →
    wpMixI P ops J (fun _ a' w' => ∀ π ∈ S, wpMixI P ops J Q n (π ++ (List.range' n (ops.size - n)).filter fun j => !listed.getD j true) a' w') n pre a w →
    wpAny P .any ops Q fuel listed a w := by
  intro fuel
  induction fuel with
  | zero =>
    intro pre S1 listed a w hz hlen hdc hk hf1 hS1 hS hT hip hpc hcu hfl hcov h1 h
    have hnil : remOf ops listed = [] := List.eq_nil_of_length_eq_zero hlen
    have : ic ∈ remOf ops listed := List.mem_filter.2 ⟨List.mem_range.2 (by omega), by rw [hcu ic hic hicc]; rfl⟩
    rw [hnil] at this
    cases this
  | succ fuel ih =>
    intro pre S1 listed a w hz hlen hdc hk hf1 hS1 hS hT hip hpc hcu hfl hcov h1 h
    have hicu := hcu ic hic hicc
    constructor
    · intro hr
      exact absurd hr (ready_some hlt hz (by omega) hicu)
    · intro i hi
      obtain ⟨hun, oi, hoi, hall'⟩ := mem_ready.1 hi
      have hisz := (Array.getElem?_eq_some_iff.1 hoi).1
      have clos : Closed ops (fun j => j = i ∨ listed.getD j false = true) := by
        intro j o ho hj e hee hbb
        rcases hj with rfl | hj
        · have : o = oi := by rw [hoi] at ho; exact (Option.some.inj ho).symm
          subst this
          exact .inr (hall' e hee hbb)
        · exact .inr (hdc j o ho hj e hee hbb)
      have asked : ∀ p, p ≠ i → p < ops.size → listed.getD p true = false → (∀ L, Closed ops L → L i → L p) → False := fun p hpi hps hpu hp => by
        rcases hp _ clos (.inl rfl) with h1 | h1
        · exact hpi h1
        · simp only [Array.getD_eq_getD_getElem?] at h1 hpu
          rw [Array.getElem?_eq_getElem (by omega)] at h1 hpu
          simp only [Option.getD_some] at h1 hpu
          rw [h1] at hpu; cases hpu
      have hin : i < n := by
        rcases Nat.lt_or_ge i n with h1 | h1
        · exact h1
        · exact (asked ic (by omega) (by omega) hicu (hall i ic h1 hisz hic)).elim
      have hset : ∀ j, j ≠ i → (listed.setIfInBounds i true).getD j true = listed.getD j true := fun j hj => getD_set_ne true (Ne.symm hj)
      have hseti : (listed.setIfInBounds i true).getD i true = true := by simp [show i < listed.size by omega]
      have hlen' : (remOf ops (listed.setIfInBounds i true)).length = fuel := by
        obtain ⟨p1, p2, he, _, _, hg⟩ := filter_split (fun j => !listed.getD j true) ops.size i hisz (by simp [hun])
        have e1 : remOf ops listed = p1 ++ i :: p2 := he
        have e2 : remOf ops (listed.setIfInBounds i true) = p1 ++ p2 := hg _ (by simp [show i < listed.size by omega]) (fun j hj => by rw [hset j hj])
        rw [e1] at hlen
        rw [e2]
        simp at hlen ⊢
        omega
      have hdc' : ∀ j o, ops[j]? = some o → (listed.setIfInBounds i true).getD j false = true → ∀ e ∈ o.after, Region.binds .any e = true → (listed.setIfInBounds i true).getD e.on false = true := by
        intro j o ho hj e hee hbb
        by_cases hji : j = i
        · subst hji
          have : o = oi := by rw [hoi] at ho; exact (Option.some.inj ho).symm
          subst this
          exact getD_set_true (hall' e hee hbb)
        · rw [getD_set_ne false (Ne.symm hji)] at hj
          exact getD_set_true (hdc j o ho hj e hee hbb)
      have htl : ((List.range' n (ops.size - n)).filter fun j => !(listed.setIfInBounds i true).getD j true) = (List.range' n (ops.size - n)).filter fun j => !listed.getD j true :=
        filter_set_off _ (fun j hj => by have := List.mem_range'_1.1 hj; omega)
      have hT' : ∀ j, n ≤ j → j < ops.size → (listed.setIfInBounds i true).getD j true = false := fun j h1 h2 => by
        rw [hset j (by omega)]
        exact hT j h1 h2
      -- a list, parted at i
      have parts : ∀ π : List Nat, π.Nodup → π.Pairwise (Rel ops) → (∀ j, j ∈ π → (j < n ∧ listed.getD j true = false)) → i ∈ π → ∃ pre post, π = pre ++ i :: post ∧ π.erase i = pre ++ post ∧ ∀ p ∈ pre, p < n ∧ ∃ op, ops[p]? = some op ∧ op.apart ops oi = true := by
        intro π hnd hpw hm hiπ
        obtain ⟨pre, post, rfl⟩ := List.append_of_mem hiπ
        have hnp : i ∉ pre := fun h => by
          rw [List.nodup_append] at hnd
          exact hnd.2.2 i h i (List.mem_cons_self ..) rfl
        refine ⟨pre, post, rfl, by rw [List.erase_append_right _ hnp, List.erase_cons_head], fun p hp => ?_⟩
        obtain ⟨hpn, hpu⟩ := hm p (List.mem_append_left _ hp)
        refine ⟨hpn, ?_⟩
        have hr := (List.pairwise_append.1 hpw).2.2 p hp i (List.mem_cons_self ..)
        rcases hr with hr | ⟨op, oi', h1, h2, h3⟩
        · exact (asked p (fun e => hnp (e ▸ hp)) (by omega) hpu hr).elim
        · rw [hoi] at h2
          cases h2
          exact ⟨op, h1, h3⟩
      have good : ∀ π : List Nat, (π.Nodup ∧ π.Pairwise (Rel ops) ∧ ∀ j, j ∈ π ↔ (j < n ∧ listed.getD j true = false)) → (π.erase i).Nodup ∧ (π.erase i).Pairwise (Rel ops) ∧ ∀ j, j ∈ π.erase i ↔ (j < n ∧ (listed.setIfInBounds i true).getD j true = false) := by
        intro π ⟨hnd, hpw, hm⟩
        refine ⟨hnd.sublist List.erase_sublist, hpw.sublist List.erase_sublist, fun j => ?_⟩
        rw [hnd.mem_erase_iff, hm j]
        by_cases hji : j = i
        · subst hji
          rw [hseti]
          simp
        · rw [hset j hji]
          simp [hji]
      obtain ⟨σ0, S0', hσ⟩ := List.exists_cons_of_ne_nil hSne
      have hσm : σ0 ∈ S := by rw [hσ]; exact List.mem_cons_self ..
      have prep : pre.Nodup ∧ pre.Pairwise (Rel ops) ∧ ∀ j, j ∈ pre → (j < n ∧ listed.getD j true = false) := by
        obtain ⟨x1, x2, x3⟩ := hS σ0 hσm
        exact ⟨(List.nodup_append.1 x1).1, (List.pairwise_append.1 x2).1, fun j hj => (x3 j).1 (List.mem_append_left _ hj)⟩
      have next : ∀ (S' : List (List Nat)) a' w', J w' → S' ≠ [] → (∀ π ∈ S', π.Nodup ∧ π.Pairwise (Rel ops) ∧ ∀ j, j ∈ π ↔ (j < n ∧ listed.getD j true = false)) → cover ops b k ((S'.map fun π => π.erase i).map fun π => π.filter (isChain ops)) = true →
          (∀ π ∈ S', wpMixI P ops J Q n (π.erase i ++ (List.range' n (ops.size - n)).filter fun j => !listed.getD j true) a' w') → wpAny P .any ops Q fuel (listed.setIfInBounds i true) a' w' := by
        intro S' a' w' hk' hne' hsub hc' hm
        refine wpAny_of_lists (n := n) (b := b) hns hs hlt hb hordT hall fuel k (S'.map fun π => π.erase i) _ a' w' (by simpa using hz) hlen' hdc' hk' (by simpa using hne') (fun π hπ => ?_) (fun j h1 h2 _ => hT' j h1 h2) hc' (fun π hπ => ?_)
        · obtain ⟨π', h1, rfl⟩ := List.mem_map.1 hπ
          exact good π' (hsub π' h1)
        · obtain ⟨π', h1, rfl⟩ := List.mem_map.1 hπ
          rw [htl]
          exact hm π' h1
      cases hc : chainB oi with
      | false =>
        have hci : isChain ops i = false := by unfold isChain; rw [hoi]; exact hc
        have hiic : i ≠ ic := fun e => by rw [e, hicc] at hci; cases hci
        have hipre : i ∈ pre := by
          have hmem := ((hS σ0 hσm).2.2 i).2 ⟨hin, hun⟩
          rcases List.mem_append.1 hmem with h2 | h2
          · exact h2
          · exact (asked ic (Ne.symm hiic) (by omega) hicu (hb i ic (hfl σ0 hσm i h2 hci))).elim
        obtain ⟨p1, p2, hpe, hpe2, hpp⟩ := parts pre prep.1 prep.2.1 prep.2.2 hipre
        rw [hpe] at h
        obtain ⟨v, hy, hm⟩ := take_float hin hoi hc hs p1 a w hk hpp h
        rw [← hpe2] at hm
        have hni : ∀ π ∈ S, i ∉ π := fun π hπ hiπ => by
          have := (hS π hπ).1
          rw [List.nodup_append] at this
          exact this.2.2 i hipre i hiπ rfl
        have hn := ih (pre.erase i) (S1.map fun π => π.erase i) (listed.setIfInBounds i true) (a.put oi.dst v) w (by simpa using hz) hlen' hdc' hk (by
            rw [List.map_map, ← hf1]
            exact List.map_congr_left fun π _ => chain_erase hci) (fun π hπ => by
            obtain ⟨π', h3, rfl⟩ := List.mem_map.1 hπ
            exact good π' (hS1 π' h3)) (fun π hπ => by
            have := good (pre ++ π) (hS π hπ)
            rwa [List.erase_append_left _ hipre] at this) hT' ((prep.1.mem_erase_iff).2 ⟨Ne.symm hiic, hip⟩) (fun p hp => hpc p (List.mem_of_mem_erase hp)) (fun j hj hcj => by
            rw [hset j (fun e => by rw [e, hci] at hcj; cases hcj)]
            exact hcu j hj hcj) hfl hcov (fun π hπ => by
            obtain ⟨π', h3, rfl⟩ := List.mem_map.1 hπ
            obtain ⟨hnd, hpw, hmm⟩ := hS1 π' h3
            obtain ⟨q1, q2, hqe, hqe2, hqp⟩ := parts π' hnd hpw (fun j => (hmm j).1) ((hmm i).2 ⟨hin, hun⟩)
            have hh := h1 π' h3
            rw [hqe, List.append_assoc, List.cons_append] at hh
            obtain ⟨v', hy', hm'⟩ := take_float hin hoi hc hs q1 a w hk hqp hh
            rw [YieldsK.uniq hk hy hy', htl, hqe2, List.append_assoc]
            exact hm') (by rw [htl]; exact hm)
        unfold wpOp
        simp only [hoi]
        rcases hy with ⟨hw, hv⟩ | ⟨hw, rfl⟩
        · rw [if_pos hw]
          refine .inl ?_
          unfold Oper.wp
          rcases hv w hk with h1 | ⟨h1, rfl⟩
          · rw [h1]; exact hn
          · rw [h1]; exact hn
        · rw [if_neg (by simp [hw])]; exact hn
      | true =>
        have hci : isChain ops i = true := by unfold isChain; rw [hoi]; exact hc
        by_cases hiic : i = ic
        · subst hiic
          obtain ⟨p1, p2, hpe, hpe2, hpp⟩ := parts pre prep.1 prep.2.1 prep.2.2 hip
          have hnp : ∀ p, p ∈ p1 ∨ p ∈ p2 → p ≠ i ∧ p ∈ pre := fun p hp => by
            have hnd := prep.1
            rw [hpe] at hnd
            refine ⟨fun e => ?_, by rw [hpe]; simp only [List.mem_append, List.mem_cons]; rcases hp with hp | hp <;> simp [hp]⟩
            subst e
            rw [List.nodup_append, List.nodup_cons] at hnd
            rcases hp with hp | hp
            · exact hnd.2.2 p hp p (List.mem_cons_self ..) rfl
            · exact hnd.2.1.1 hp
          have hh := take_chain hin hoi hc hs p1 a w (fun p hp => by
            obtain ⟨h1, op, h2, h3⟩ := hpp p hp
            refine ⟨h1, op, h2, h3, ?_⟩
            obtain ⟨h4, h5⟩ := hnp p (.inl hp)
            have := hpc p h5 h4
            unfold isChain at this
            rw [h2] at this
            exact this) (by rw [hpe] at h; exact h)
          rw [← hpe2] at hh
          have hpf : ∀ p ∈ pre.erase i, p < n ∧ isChain ops p = false := fun p hp => by
            have hp2 := (prep.1.mem_erase_iff).1 hp
            exact ⟨(prep.2.2 p hp2.2).1, hpc p hp2.2 hp2.1⟩
          have hfin : ∀ a' w', J w' → wpMixI P ops J (fun _ a' w' => ∀ π ∈ S, wpMixI P ops J Q n (π ++ (List.range' n (ops.size - n)).filter fun j => !listed.getD j true) a' w') n (pre.erase i) a' w' → wpAny P .any ops Q fuel (listed.setIfInBounds i true) a' w' := fun a' w' hk' hm' => by
            refine next (S.map fun π => pre ++ π) a' w' hk' (by simpa using hSne) (fun π hπ => ?_) ?_ (fun π hπ => ?_)
            · obtain ⟨π', h3, rfl⟩ := List.mem_map.1 hπ
              exact hS π' h3
            · rw [← hcov, List.map_map, List.map_map]
              congr 1
              refine List.map_congr_left fun π _ => ?_
              show ((pre ++ π).erase i).filter (isChain ops) = π.filter (isChain ops)
              rw [List.erase_append_left _ hip, List.filter_append, List.filter_eq_nil_iff.2 (fun p hp => by rw [(hpf p hp).2]; simp), List.nil_append]
            · obtain ⟨π', h3, rfl⟩ := List.mem_map.1 hπ
              rw [List.erase_append_left _ hip]
              exact float_prefix _ a' w' hpf hm' π' h3
          unfold wpOp
          simp only [hoi]
          split
          · rename_i hw
            rw [if_pos hw] at hh
            exact .inl (Oper.wp_false (Oper.wp_mono (fun a' w' hx => hfin a' w' hx.1 hx.2) hh))
          · rename_i hw
            rw [if_neg hw] at hh
            exact hfin _ w hk hh
        · rcases hc0 i hin hci with e | ⟨j, hjn, hji, hjc, hjb⟩ | ⟨hne', hpl, hcv⟩
          · exact absurd e hiic
          · exact (asked j hji (by omega) (hcu j hjn hjc) (hb i j hjb)).elim
          · have hTe : (S0.filter fun m => m.head? == some i) = (S1.filter fun π => (π.filter (isChain ops)).head? == some i).map fun π => π.filter (isChain ops) := by
              rw [← hf1, List.filter_map]
              rfl
            rw [hTe] at hne' hpl hcv
            have hne2 : (S1.filter fun π => (π.filter (isChain ops)).head? == some i) ≠ [] := fun e => hne' (by rw [e]; rfl)
            have hpl2 : (S1.filter fun π => (π.filter (isChain ops)).head? == some i).length = 1 ∨ plainB oi = true := hpl.imp (fun h => by simpa using h) (fun h => by unfold isPlain at h; rw [hoi] at h; exact h)
            have hcv2 : cover ops b k (((S1.filter fun π => (π.filter (isChain ops)).head? == some i).map fun π => π.erase i).map fun π => π.filter (isChain ops)) = true := by
              rw [List.map_map] at hcv ⊢
              rw [← hcv]
              congr 1
              refine List.map_congr_left fun π hπ => ?_
              obtain ⟨h5, h6⟩ := List.mem_filter.1 hπ
              obtain ⟨hnd, hpw, hmm⟩ := hS1 π h5
              obtain ⟨q1, q2, he, he2, _⟩ := parts π hnd hpw (fun j => (hmm j).1) ((hmm i).2 ⟨hin, hun⟩)
              show (π.erase i).filter (isChain ops) = (π.filter (isChain ops)).tail
              rw [he2, he]
              refine chain_tail hci (chain_first hci (by rw [← he]; exact hnd) ?_)
              rw [← he]
              simpa using h6
            have hh : ∀ π ∈ S1.filter (fun π => (π.filter (isChain ops)).head? == some i),
                if Region.wanted oi (yielded ops a.tmps) then oi.wp P a w (fun a' w' => J w' ∧ wpMixI P ops J Q n (π.erase i ++ (List.range' n (ops.size - n)).filter fun j => !listed.getD j true) a' w') (fun _ _ _ => False)
                else wpMixI P ops J Q n (π.erase i ++ (List.range' n (ops.size - n)).filter fun j => !listed.getD j true) (a.put oi.dst undef) w := by
              intro π hπ
              obtain ⟨h5, h6⟩ := List.mem_filter.1 hπ
              obtain ⟨hnd, hpw, hmm⟩ := hS1 π h5
              obtain ⟨q1, q2, he, he2, hp⟩ := parts π hnd hpw (fun j => (hmm j).1) ((hmm i).2 ⟨hin, hun⟩)
              have hcf := chain_first (post := q2) hci (by rw [← he]; exact hnd) (by rw [← he]; simpa using h6)
              have h7 := h1 π h5
              rw [he, List.append_assoc, List.cons_append] at h7
              have h8 := take_chain hin hoi hc hs q1 a w (fun p hp' => by
                obtain ⟨h1, op, h2, h3⟩ := hp p hp'
                refine ⟨h1, op, h2, h3, ?_⟩
                have := hcf p hp'
                unfold isChain at this
                rw [h2] at this
                exact this) h7
              rw [he2, List.append_assoc]
              exact h8
            have hsub : ∀ π ∈ S1.filter (fun π => (π.filter (isChain ops)).head? == some i), π ∈ S1 := fun π hπ => (List.mem_filter.1 hπ).1
            unfold wpOp
            simp only [hoi]
            split
            · rename_i hw
              have hh2 := wp_all (K := fun π a' w' => J w' ∧ wpMixI P ops J Q n (List.erase π i ++ (List.range' n (ops.size - n)).filter fun j => !listed.getD j true) a' w') _ hne2 hpl2 (fun π hπ => by
                have := hh π hπ
                rw [if_pos hw] at this
                exact this)
              refine .inl (Oper.wp_false (Oper.wp_mono (fun a' w' hx => ?_) hh2))
              obtain ⟨π1, S1', hS1'⟩ := List.exists_cons_of_ne_nil hne2
              exact next _ a' w' (hx π1 (by rw [hS1']; exact List.mem_cons_self ..)).1 hne2 (fun π hπ => hS1 π (hsub π hπ)) hcv2 (fun π hπ => (hx π hπ).2)
            · rename_i hw
              exact next _ _ w hk hne2 (fun π hπ => hS1 π (hsub π hπ)) hcv2 (fun π hπ => by
                have := hh π hπ
                rw [if_neg hw] at this
                exact this)

/-! ### packed -/
theorem wpMixI_monoQ {n : Nat} {Q' : Exit → Act → World → Prop} (hQ : ∀ a w, Q .normal a w → Q' .normal a w) : ∀ (ps : List Nat) (a : Act) (w : World), (∀ p ∈ ps, p < n) → wpMixI P ops J Q n ps a w → wpMixI P ops J Q' n ps a w
  | [], a, w, _, h => hQ _ _ h
  | p :: ps, a, w, hp, h => by
    have hpn := hp p (List.mem_cons_self ..)
    have hr : ∀ q ∈ ps, q < n := fun q hq => hp q (List.mem_cons_of_mem _ hq)
    rw [wpMixI, if_neg (by omega)] at h ⊢
    cases ho : ops[p]? with
    | none =>
      simp only [ho] at h ⊢
      exact wpMixI_monoQ hQ ps a w hr h
    | some o =>
      simp only [ho] at h ⊢
      split
      · rename_i hw
        rw [if_pos hw] at h
        split
        · rename_i hc
          rw [if_pos hc] at h
          exact Oper.wp_mono (fun a' w' hx => ⟨hx.1, wpMixI_monoQ hQ ps a' w' hr hx.2⟩) h
        · rename_i hc
          rw [if_neg hc] at h
          obtain ⟨v, h1, h2⟩ := h
          exact ⟨v, h1, wpMixI_monoQ hQ ps _ w hr h2⟩
      · rename_i hw
        rw [if_neg hw] at h
        exact wpMixI_monoQ hQ ps _ w hr h
def listOk1 (ops : Array Oper) (n : Nat) (b : Array Nat) (π : List Nat) : Bool := decide π.Nodup && (decide (π.length = n) && (π.all (fun j => decide (j < n)) && ((List.range n).all (fun j => π.contains j) && pwB ops b π)))
def callOk (ops : Array Oper) (n ic : Nat) (pre : List Nat) (S S0 : List (List Nat)) : Bool :=
  let b := closGo ops.toList #[]
  Region.noSelect ops && decide (n ≤ ops.size) &&
  ((List.range ops.size).all fun i => match ops[i]? with
    | none => true
    | some oi => oi.after.all (fun e => !Region.binds .any e || decide (e.on < i)) && (decide (i < n) || (List.range i).all fun p => (b.getD i 0).testBit p)) &&
  !S.isEmpty && (S.all fun π => listOk1 ops n b (pre ++ π)) && (S0.all fun π => listOk1 ops n b π) &&
  (pre.contains ic && pre.all fun p => p == ic || !isChain ops p) && isChain ops ic && (S.all fun π => π.all fun j => isChain ops j || (b.getD j 0).testBit ic) &&
  cover ops b n (S.map fun π => π.filter (isChain ops)) &&
  ((List.range n).all fun i => !isChain ops i || (i == ic || (((List.range n).any fun j => j != i && (isChain ops j && (b.getD i 0).testBit j)) ||
    (let T := (S0.map fun π => π.filter (isChain ops)).filter fun π => π.head? == some i
     !T.isEmpty && ((T.length == 1 || isPlain ops i) && cover ops b n (T.map List.tail))))))
theorem wp_region_call {id : Nat} {a : Act} {w : World} {l : List Oper} (J : World → Prop) (n ic : Nat) (pre : List Nat) (S S0 : List (List Nat)) (hm : P.follows .mixedOrders = true) (hB : callOk l.toArray n ic pre S S0 = true) (hJ : J w.drew)
    (h : wpMix P l.toArray J (fun _ a' w' => allAlong P l.toArray J Q (n - pre.length) (S.map (opsAlong l n)) a' w') pre.length (pre.filterMap fun i => l[i]?) a w.drew)
    (h0 : allAlong P l.toArray J Q n (S0.map (opsAlong l n)) a w.drew) : (Code.region id l.toArray true).wp P Q a w := by
  refine wp_region_any hm ?_
  simp only [callOk, Bool.and_eq_true, decide_eq_true_eq, Bool.not_eq_true'] at hB
  obtain ⟨⟨⟨⟨⟨⟨⟨⟨⟨⟨hs, hns⟩, hE⟩, hne⟩, hS⟩, hS0⟩, hpi, hpc⟩, hicc⟩, hfl⟩, hcov⟩, hc0⟩ := hB
  have hsz : l.toArray.size = l.length := by simp
  have hb : ∀ i p, ((closGo l.toArray.toList #[]).getD i 0).testBit p = true → ∀ L, Closed l.toArray L → L i → L p := fun i p hip L hL hLi => clos_good L hL l.toArray.toList #[] (by simp) (by simp) i p hip hLi
  have hE' : ∀ i oi, l.toArray[i]? = some oi → (∀ e ∈ oi.after, Region.binds .any e = true → e.on < i) ∧ (n ≤ i → ∀ p, p < i → ((closGo l.toArray.toList #[]).getD i 0).testBit p = true) := fun i oi hi => by
    have h1 := List.all_eq_true.1 hE i (List.mem_range.2 (Array.getElem?_eq_some_iff.1 hi).1)
    simp only [hi, Bool.and_eq_true, Array.all_eq_true_iff_forall_mem, Bool.or_eq_true, decide_eq_true_eq, List.all_eq_true, List.mem_range] at h1
    refine ⟨fun e he hbb => by simpa [hbb] using h1.1 e he, fun hn p hp => (h1.2.resolve_left (by omega)) p hp⟩
  have hrep : ∀ j, j < l.length → (Array.replicate l.toArray.size false).getD j true = false := fun j hj => by
    simp [Array.getD_eq_getD_getElem?, Array.getElem?_replicate, hj]
  have hfr : ∀ (r : List Nat), (∀ j ∈ r, j < l.length) → r.filter (fun j => !(Array.replicate l.toArray.size false).getD j true) = r := fun r hr => filter_none r fun j hj => by
    rw [hrep j (hr j hj)]
  have hl1 : ∀ π, listOk1 l.toArray n (closGo l.toArray.toList #[]) π = true → π.Nodup ∧ π.length = n ∧ (∀ j, j ∈ π ↔ j < n) ∧ π.Pairwise (Rel l.toArray) := fun π h1 => by
    simp only [listOk1, Bool.and_eq_true, decide_eq_true_eq, List.all_eq_true, List.mem_range, List.contains_iff_mem] at h1
    obtain ⟨h2, h3, h4, h5, h6⟩ := h1
    exact ⟨h2, h3, fun j => ⟨h4 j, h5 j⟩, pwB_spec hb π h6⟩
  have hS1 := fun π hπ => hl1 _ (List.all_eq_true.1 hS π hπ)
  have hS2 := fun π hπ => hl1 _ (List.all_eq_true.1 hS0 π hπ)
  have hpi' : ic ∈ pre := by simpa using hpi
  have hSne : S ≠ [] := fun e => by rw [e] at hne; cases hne
  obtain ⟨σ0, S', hσ⟩ := List.exists_cons_of_ne_nil hSne
  have hσm : σ0 ∈ S := by rw [hσ]; exact List.mem_cons_self ..
  have hpren : ∀ p ∈ pre, p < n := fun p hp => ((hS1 σ0 hσm).2.2.1 p).1 (List.mem_append_left _ hp)
  have hmapf : ∀ π : List Nat, (∀ j ∈ π, j < l.length) → (π.map fun i => l.toArray[i]?) = (π.filterMap fun i => l[i]?).map some := fun π hπ => by
    induction π with
    | nil => rfl
    | cons p π ih =>
      have hp := hπ p (List.mem_cons_self ..)
      rw [List.map_cons, List.filterMap_cons, List.getElem?_eq_getElem hp]
      simp only [List.map_cons]
      rw [ih (fun j hj => hπ j (List.mem_cons_of_mem _ hj))]
      simp [hp]
  have hlist : ∀ (m : Nat) (π : List Nat) (Q' : Exit → Act → World → Prop) (a' : Act) (w' : World), π.length = m → (∀ j ∈ π, j < n) → wpMix P l.toArray J Q' m (opsAlong l n π) a' w' →
      wpMixI P l.toArray J Q' n (π ++ (List.range' n (l.toArray.size - n)).filter fun j => !(Array.replicate l.toArray.size false).getD j true) a' w' := fun m π Q' a' w' hlen hπ hx => by
    rw [hfr _ (fun j hj => by have := List.mem_range'_1.1 hj; omega)]
    refine wpMixI_list _ _ m a' w' ?_ ?_ hx
    · unfold opsAlong
      rw [List.map_append, List.map_append, hmapf π (fun j hj => by have := hπ j hj; omega)]
      congr 1
      rw [range_map _ _ _ (by omega), List.take_of_length_le (by simp)]
    · intro j i hj
      rw [List.getElem?_append] at hj
      split at hj
      · have := hπ i (List.mem_of_getElem? hj)
        omega
      · have := range'_at hj
        omega
  refine wpAny_of_call (J := J) (n := n) (b := closGo l.toArray.toList #[]) ic (by omega) hs (fun i oi hi => (hE' i oi hi).1) hb ?_ ?_ (hpren ic hpi') hicc n S hSne (S0.map fun π => π.filter (isChain l.toArray)) ?_ _ pre S0 _ _ _ (by simp) ?_ ?_ hJ rfl ?_ ?_ ?_ hpi' ?_ ?_ ?_ hcov ?_ ?_
  · intro i oi p op hi hp hlt' hni hnp L hL hLi
    exact .inl (hb i p ((hE' i oi hi).2 (by omega) p hlt') L hL hLi)
  · intro i p hni hi hpn L hL hLi
    exact hb i p ((hE' i _ (Array.getElem?_eq_getElem hi)).2 hni p (by omega)) L hL hLi
  · intro i hi hci
    have h1 := List.all_eq_true.1 hc0 i (List.mem_range.2 hi)
    rw [hci] at h1
    simp only [Bool.not_true, Bool.false_or, Bool.or_eq_true, beq_iff_eq] at h1
    rcases h1 with h1 | h1 | h1
    · exact .inl h1
    · obtain ⟨j, hj, h2⟩ := List.any_eq_true.1 h1
      simp only [Bool.and_eq_true, bne_iff_ne, ne_eq] at h2
      exact .inr (.inl ⟨j, List.mem_range.1 hj, h2.1, h2.2.1, h2.2.2⟩)
    · simp only [Bool.and_eq_true, Bool.or_eq_true, Bool.not_eq_true', beq_iff_eq] at h1
      exact .inr (.inr ⟨(fun e => by rw [e] at h1; cases h1.1), h1.2.1, h1.2.2⟩)
  · unfold remOf
    rw [hfr _ (fun j hj => by simpa using hj)]
    simp
  · intro j o _ hj
    have : (Array.replicate l.toArray.size false).getD j false = false := by
      simp only [Array.getD_eq_getD_getElem?, Array.getElem?_replicate]
      split <;> rfl
    rw [this] at hj; cases hj
  · intro π hπ
    obtain ⟨h1, h2, h3, h4⟩ := hS2 π hπ
    exact ⟨h1, h4, fun j => by rw [h3 j]; exact ⟨fun hj => ⟨hj, hrep j (by omega)⟩, fun hj => hj.1⟩⟩
  · intro π hπ
    obtain ⟨h1, h2, h3, h4⟩ := hS1 π hπ
    exact ⟨h1, h4, fun j => by rw [h3 j]; exact ⟨fun hj => ⟨hj, hrep j (by omega)⟩, fun hj => hj.1⟩⟩
  · intro j h1 h2
    exact hrep j (by omega)
  · intro p hp hpic
    have h1 := List.all_eq_true.1 hpc p hp
    simp only [Bool.or_eq_true, beq_iff_eq, Bool.not_eq_true'] at h1
    exact h1.resolve_left hpic
  · intro j hj _
    exact hrep j (by omega)
  · intro π hπ j hj hcj
    have h1 := List.all_eq_true.1 (List.all_eq_true.1 hfl π hπ) j hj
    rw [hcj] at h1
    simpa using h1
  · intro π hπ
    obtain ⟨h1, h2, h3, h4⟩ := hS2 π hπ
    exact hlist n π Q a w.drew h2 (fun j hj => (h3 j).1 hj) (allAlong_mem h0 _ (List.mem_map.2 ⟨π, hπ, rfl⟩))
  · refine wpMixI_monoQ (Q := fun _ a' w' => allAlong P l.toArray J Q (n - pre.length) (S.map (opsAlong l n)) a' w') (fun a' w' hx π hπ => ?_) pre a w.drew hpren (wpMixI_list _ _ pre.length a w.drew (hmapf pre (fun j hj => by have := hpren j hj; omega)) (fun j i hj => ?_) h)
    · obtain ⟨h1, h2, h3, h4⟩ := hS1 π hπ
      rw [List.length_append] at h2
      exact hlist _ π Q a' w' (by omega) (fun j hj => (h3 j).1 (List.mem_append_right _ hj)) (allAlong_mem hx _ (List.mem_map.2 ⟨π, hπ, rfl⟩))
    · have h1 := hpren i (List.mem_of_getElem? hj)
      have h2 := (List.getElem?_eq_some_iff.1 hj).1
      omega
theorem wp_region_ca {c w : World} {a : Act} {H G R : HP} {id : Nat} {l : List Oper} (hs : Sat c H w) (n ic : Nat) (pre : List Nat) (S S0 : List (List Nat)) (he : Ent H (G * R)) (hm : P.follows .mixedOrders = true) (hB : callOk l.toArray n ic pre S S0 = true)
    (h : ∀ (hR : Hp) (w' : World), R.on hR → Sat c (Exh hR * (G * emp)) w' → wpMix P l.toArray (In hR) (fun _ a' w' => allAlong P l.toArray (In hR) Q (n - pre.length) (S.map (opsAlong l n)) a' w') pre.length (pre.filterMap fun i => l[i]?) a w' ∧ allAlong P l.toArray (In hR) Q n (S0.map (opsAlong l n)) a w') : (Code.region id l.toArray true).wp P Q a w := by
  obtain ⟨x, ⟨h1, h2, d, l1, l2, x1, x2⟩, i⟩ := (hs.mono he).own
  have := h h2 w.drew x2 ⟨hs.os, hs.tape, hs.output, x, ⟨h2, h1, dj_comm d, l2, l1, le_refl' _, (by rw [star_emp]; exact x1)⟩, i⟩
  exact wp_region_call (In h2) n ic pre S S0 hm hB (i.le l2) this.1 this.2
end
end Go.Proofs.YtgoifgockcpnhaaDoor
