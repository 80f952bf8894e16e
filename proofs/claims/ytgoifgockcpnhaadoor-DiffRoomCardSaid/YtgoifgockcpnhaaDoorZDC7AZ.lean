/- A region that draws, cut in parts, whose last operation waits for all others: behind the parts it is walked plainly. -/
import Derived.Test.YtgoifgockcpnhaaDoorZDC7AM
set_option linter.unusedSimpArgs false
set_option linter.unusedVariables false
namespace Go.Proofs.YtgoifgockcpnhaaDoor
open Go Go.RowKit

/-- An order in which the operations may be walked. -/
structure PermOk (ops : Array Oper) (π : List Nat) : Prop where
  hs : Region.noSelect ops = true
  once : ∀ s t i, π = s ++ i :: t → i ∉ s
  mem : ∀ i, i < ops.size → i ∈ π
  at_ : ∀ s t i, π = s ++ i :: t → ∃ oi, ops[i]? = some oi ∧ (∀ e ∈ oi.after, Region.binds .any e = true → e.on ∈ s) ∧
    ∀ p ∈ s, ∀ op, ops[p]? = some op → (∀ L, Closed ops L → L i → L p) ∨ (op.apart ops oi = true ∧ (chainB op = false ∨ chainB oi = false))

def unl (listed : Array Bool) (j : Nat) : Bool := !listed.getD j true

theorem unl_set {listed : Array Bool} {i j : Nat} (h : j ≠ i) : unl (listed.setIfInBounds i true) j = unl listed j := by
  unfold unl; rw [getD_set_ne true (Ne.symm h)]
theorem unl_self {listed : Array Bool} {i : Nat} (h : i < listed.size) : unl (listed.setIfInBounds i true) i = false := by
  simp [unl, h]
theorem unl_false {listed : Array Bool} {j : Nat} (hj : j < listed.size) : unl listed j = true ↔ listed.getD j false = false := by
  simp [unl, hj]

theorem perm_split {ops : Array Oper} {π : List Nat} (h : PermOk ops π) {listed : Array Bool} {i : Nat} (hz : listed.size = ops.size) (hi : i < ops.size) (hu : unl listed i = true) :
    ∃ s t, π = s ++ i :: t ∧ π.filter (unl listed) = s.filter (unl listed) ++ i :: t.filter (unl listed) ∧ π.filter (unl (listed.setIfInBounds i true)) = s.filter (unl listed) ++ t.filter (unl listed) := by
  obtain ⟨s, t, rfl⟩ := List.append_of_mem (h.mem i hi)
  have hns := h.once s t i rfl
  have hnt : i ∉ t := fun ht => by
    obtain ⟨t1, t2, rfl⟩ := List.append_of_mem ht
    exact h.once (s ++ i :: t1) t2 i (by simp) (by simp)
  refine ⟨s, t, rfl, by rw [List.filter_append, List.filter_cons, if_pos hu], ?_⟩
  rw [List.filter_append, List.filter_cons, if_neg (by rw [unl_self (by omega)]; simp)]
  congr 1
  · exact List.filter_congr fun j hj => unl_set fun e => hns (e ▸ hj)
  · exact List.filter_congr fun j hj => unl_set fun e => hnt (e ▸ hj)

section
variable {P : Program} {ops : Array Oper} {J : World → Prop} {Q : Exit → Act → World → Prop}

/-- What an order says of one operation that is ready. -/
theorem perm_ready {π : List Nat} (h : PermOk ops π) {listed : Array Bool} {i : Nat} (hz : listed.size = ops.size)
    (hdc : ∀ j o, ops[j]? = some o → listed.getD j false = true → ∀ e ∈ o.after, Region.binds .any e = true → listed.getD e.on false = true) (hi : i ∈ Region.ready .any ops listed) :
    ∃ oi s t, ops[i]? = some oi ∧ π = s ++ i :: t ∧ i < ops.size ∧ unl listed i = true ∧ π.filter (unl listed) = s.filter (unl listed) ++ i :: t.filter (unl listed) ∧
      π.filter (unl (listed.setIfInBounds i true)) = s.filter (unl listed) ++ t.filter (unl listed) ∧
      (∀ L p, L = (fun j => j = i ∨ listed.getD j false = true) → unl listed p = true → p ≠ i → p < ops.size → Closed ops L ∧ L i ∧ ¬ L p) ∧
      (∀ p ∈ s.filter (unl listed), p < ops.size ∧ ∃ op, ops[p]? = some op ∧ op.apart ops oi = true ∧ (chainB op = false ∨ chainB oi = false)) ∧
      (∀ j o, ops[j]? = some o → (listed.setIfInBounds i true).getD j false = true → ∀ e ∈ o.after, Region.binds .any e = true → (listed.setIfInBounds i true).getD e.on false = true) := by
  obtain ⟨hun, oi, hoi, hall⟩ := mem_ready.1 hi
  have hisz := (Array.getElem?_eq_some_iff.1 hoi).1
  have hu : unl listed i = true := by simp [unl, hun]
  obtain ⟨s, t, he, hf, hg⟩ := perm_split h hz hisz hu
  have clos : Closed ops (fun j => j = i ∨ listed.getD j false = true) := by
    intro j o ho hj e hee hbb
    rcases hj with rfl | hj
    · have : o = oi := by rw [hoi] at ho; exact (Option.some.inj ho).symm
      subst this
      exact .inr (hall e hee hbb)
    · exact .inr (hdc j o ho hj e hee hbb)
  have hno : ∀ L p, L = (fun j => j = i ∨ listed.getD j false = true) → unl listed p = true → p ≠ i → p < ops.size → Closed ops L ∧ L i ∧ ¬ L p := by
    intro L p hL hp hpi hps
    subst hL
    refine ⟨clos, .inl rfl, ?_⟩
    rintro (h1 | h1)
    · exact hpi h1
    · rw [(unl_false (by omega)).1 hp] at h1; cases h1
  refine ⟨oi, s, t, hoi, he, hisz, hu, hf, hg, hno, ?_, ?_⟩
  · intro p hp
    obtain ⟨hps, hpu⟩ := List.mem_filter.1 hp
    obtain ⟨s1, s2, rfl⟩ := List.append_of_mem hps
    obtain ⟨op, hop, _⟩ := h.at_ s1 (s2 ++ i :: t) p (by rw [he]; simp)
    have hpz := (Array.getElem?_eq_some_iff.1 hop).1
    obtain ⟨oi', hoi', _, hpair⟩ := h.at_ _ t i he
    rw [hoi] at hoi'
    cases hoi'
    refine ⟨hpz, op, hop, ?_⟩
    rcases hpair p hps op hop with h1 | h1
    · have hpi : p ≠ i := fun e => h.once _ t i he (e ▸ hps)
      have := hno _ p rfl hpu hpi hpz
      exact absurd (h1 _ this.1 this.2.1) this.2.2
    · exact h1
  · intro j o ho hj e hee hbb
    by_cases hji : j = i
    · subst hji
      have : o = oi := by rw [hoi] at ho; exact (Option.some.inj ho).symm
      subst this
      exact getD_set_true (hall e hee hbb)
    · rw [getD_set_ne false (Ne.symm hji)] at hj
      exact getD_set_true (hdc j o ho hj e hee hbb)
/-- Where operations are left, one is ready. -/
theorem perm_some {π : List Nat} (h : PermOk ops π) {listed : Array Bool} (hz : listed.size = ops.size) (hne : π.filter (unl listed) ≠ []) : Region.ready .any ops listed ≠ [] := by
  cases hq : π.filter (unl listed) with
  | nil => exact absurd hq hne
  | cons i rest =>
    have him : i ∈ π.filter (unl listed) := by rw [hq]; exact List.mem_cons_self ..
    obtain ⟨h1, h2⟩ := List.mem_filter.1 him
    obtain ⟨s, t, he⟩ := List.append_of_mem h1
    obtain ⟨oi, hoi, hed, _⟩ := h.at_ s t i he
    have hisz := (Array.getElem?_eq_some_iff.1 hoi).1
    obtain ⟨s', t', he', hf, _⟩ := perm_split h hz hisz h2
    have hss : s' = s := by
      have hn1 := h.once s t i he
      have hn2 := h.once s' t' i he'
      rw [he] at he'
      rcases List.append_eq_append_iff.1 he' with ⟨a, h3, h4⟩ | ⟨a, h3, h4⟩
      · cases a with
        | nil => simp at h3; exact h3
        | cons x xs => simp at h4; rw [h3] at hn2; simp [h4.1] at hn2
      · cases a with
        | nil => simp at h3; exact h3.symm
        | cons x xs => simp at h4; rw [h3] at hn1; simp [h4.1] at hn1
    subst hss
    have hnil : s'.filter (unl listed) = [] := by
      rw [hf] at hq
      cases hs' : s'.filter (unl listed) with
      | nil => rfl
      | cons x xs =>
        rw [hs'] at hq
        have : x = i := (List.cons.inj hq).1
        have hx : x ∈ s' := (List.mem_filter.1 (by rw [hs']; exact List.mem_cons_self .. : x ∈ s'.filter (unl listed))).1
        exact absurd (this ▸ hx) (h.once s' t i he)
    have hmem : i ∈ Region.ready .any ops listed := by
      refine mem_ready.2 ⟨?_, oi, hoi, fun e hee hb => ?_⟩
      · have := h2; unfold unl at this; simpa using this
      · have hes := hed e hee hb
        have hnl : unl listed e.on ≠ true := fun hu => by
          have : e.on ∈ s'.filter (unl listed) := List.mem_filter.2 ⟨hes, hu⟩
          rw [hnil] at this
          cases this
        obtain ⟨s1, s2, hs1⟩ := List.append_of_mem hes
        obtain ⟨op, hop, _⟩ := h.at_ s1 (s2 ++ i :: t) e.on (by rw [he, hs1]; simp)
        have hz2 := (Array.getElem?_eq_some_iff.1 hop).1
        have : ¬ listed.getD e.on false = false := fun h0 => hnl ((unl_false (by omega)).2 h0)
        simpa using this
    intro h0
    rw [h0] at hmem
    cases hmem

theorem perm_nil {π : List Nat} (h : PermOk ops π) {listed : Array Bool} (hn : π.filter (unl listed) = []) : Region.ready .any ops listed = [] := by
  rcases hr : Region.ready .any ops listed with _ | ⟨i, rs⟩
  · rfl
  · have hi : i ∈ Region.ready .any ops listed := by rw [hr]; exact List.mem_cons_self ..
    obtain ⟨h0, o, ho, _⟩ := mem_ready.1 hi
    have : i ∈ π.filter (unl listed) := List.mem_filter.2 ⟨h.mem i (Array.getElem?_eq_some_iff.1 ho).1, by unfold unl; rw [h0]; rfl⟩
    rw [hn] at this
    cases this

def BehindE (ops : Array Oper) : List Nat → List (List Nat) → Prop
  | _, [] => True
  | s, π :: rest => (∀ i ∈ (π :: rest).flatten, ∀ p ∈ s, ∀ op, ops[p]? = some op → chainB op = true → ∀ L, Closed ops L → L i → L p) ∧ BehindE ops (s ++ π) rest
theorem YieldsK.up {J2 : World → Prop} {o : Oper} {v : Value} {a : Act} (hJ : ∀ h, J2 h → J h) (h : YieldsK P ops J o v a) : YieldsK P ops J2 o v a := by
  rcases h with ⟨h1, h2⟩ | h
  · exact .inl ⟨h1, fun x hx => h2 x (hJ x hx)⟩
  · exact .inr h
/-! ### packed -/
def permGo (ops : Array Oper) (b : Array Nat) : List Nat → List Nat → Bool
  | _, [] => true
  | s, i :: t => !s.contains i && (match ops[i]? with
    | none => false
    | some oi => oi.after.all (fun e => !Region.binds .any e || s.contains e.on) && s.all fun p => (b.getD i 0).testBit p || match ops[p]? with
        | none => true
        | some op => op.apart ops oi && !(chainB op && chainB oi)) && permGo ops b (s ++ [i]) t
def behindB (ops : Array Oper) (b : Array Nat) : List Nat → List (List Nat) → Bool
  | _, [] => true
  | s, π :: rest => ((π :: rest).flatten.all fun i => s.all fun p => (b.getD i 0).testBit p || match ops[p]? with
      | none => true
      | some op => !chainB op) && behindB ops b (s ++ π) rest
theorem behind_spec {ops : Array Oper} {b : Array Nat} (hb : ∀ i p, (b.getD i 0).testBit p = true → ∀ L, Closed ops L → L i → L p) : ∀ (parts : List (List Nat)) (s : List Nat), behindB ops b s parts = true → BehindE ops s parts
  | [], _, _ => trivial
  | π :: rest, s, h => by
    rw [behindB, Bool.and_eq_true] at h
    refine ⟨fun i hi p hp op hop hc => ?_, behind_spec hb rest _ h.2⟩
    have := List.all_eq_true.1 (List.all_eq_true.1 h.1 i hi) p hp
    rw [hop] at this
    simp only [hc, Bool.not_true, Bool.or_false] at this
    exact hb i p this
theorem permGo_spec {ops : Array Oper} {b : Array Nat} (hb : ∀ i p, (b.getD i 0).testBit p = true → ∀ L, Closed ops L → L i → L p) : ∀ (l s0 s t : List Nat) (i : Nat), permGo ops b s0 l = true → l = s ++ i :: t → i ∉ s0 ++ s ∧
    ∃ oi, ops[i]? = some oi ∧ (∀ e ∈ oi.after, Region.binds .any e = true → e.on ∈ s0 ++ s) ∧
    ∀ p ∈ s0 ++ s, ∀ op, ops[p]? = some op → (∀ L, Closed ops L → L i → L p) ∨ (op.apart ops oi = true ∧ (chainB op = false ∨ chainB oi = false))
  | [], s0, s, t, i, _, he => by simp at he
  | x :: l, s0, s, t, i, h, he => by
    rw [permGo, Bool.and_eq_true, Bool.and_eq_true] at h
    obtain ⟨⟨h1, h2⟩, h3⟩ := h
    cases s with
    | nil =>
      simp only [List.nil_append, List.cons.injEq] at he
      obtain ⟨rfl, rfl⟩ := he
      rw [List.append_nil]
      refine ⟨by simpa using h1, ?_⟩
      cases ho : ops[x]? with
      | none => rw [ho] at h2; cases h2
      | some oi =>
        rw [ho] at h2
        simp only [Bool.and_eq_true] at h2
        refine ⟨oi, rfl, fun e hee hbb => ?_, fun p hp op hop => ?_⟩
        · have h4 := h2.1
          rw [Array.all_eq_true_iff_forall_mem] at h4
          have := h4 e hee
          rw [hbb] at this
          simpa using this
        · have := List.all_eq_true.1 h2.2 p hp
          rw [hop] at this
          simp only [Bool.or_eq_true, Bool.and_eq_true, Bool.not_eq_true', Bool.and_eq_false_iff] at this
          rcases this with h5 | ⟨h5, h6⟩
          · exact .inl (hb x p h5)
          · exact .inr ⟨h5, h6⟩
    | cons y s =>
      simp only [List.cons_append, List.cons.injEq] at he
      obtain ⟨rfl, rfl⟩ := he
      have := permGo_spec hb _ (s0 ++ [x]) s t i h3 rfl
      simpa [List.append_assoc] using this
/-- Behind the first part: more is held fast. -/
theorem mix_cut2 {c w : World} {a : Act} {Q2 : (World → Prop) → Exit → Act → World → Prop} {H G G' R R' : HP} {hR : Hp} {l : List Oper} {m : Nat} (hRR : R.on hR) (hs : Sat c H w) (he : Ent H (Exh hR * G)) (he2 : Ent G (G' * R'))
    (h : ∀ (h2 : Hp), (R * R').on h2 → Sat c (Exh h2 * (G' * emp)) w → wpMix P ops (In h2) (Q2 (In h2)) m l a w) :
    wpMix P ops (In hR) (fun _ a' w' => ∃ J2 : World → Prop, J2 w' ∧ (∀ h, J2 h → In hR h) ∧ wpMix P ops J2 (Q2 J2) m l a' w') 0 [] a w := by
  refine mix_zero_nil ?_
  have hs2 : Sat c ((Exh hR * R') * G') w := hs.mono (ent_trans he (ent_trans (star_mono ent_refl (ent_trans he2 ent_comm)) (by rw [star_assoc]; exact ent_refl)))
  obtain ⟨x, ⟨h1, h2, d, l1, l2, x1, x2⟩, i⟩ := hs2.own
  obtain ⟨p, q, dpq, lp, lq, xp, xq⟩ := x1
  have hle : le hR h1 := le_trans' xp lp
  refine ⟨In h1, i.le l1, fun w hw => hw.le hle, h h1 ⟨p, q, dpq, lp, lq, R.up xp hRR, xq⟩ ⟨hs.os, hs.tape, hs.output, x, ⟨h1, h2, d, l1, l2, le_refl' _, (by rw [star_emp]; exact x2)⟩, i⟩⟩
end
end Go.Proofs.YtgoifgockcpnhaaDoor

set_option linter.unusedSimpArgs false
set_option linter.unusedVariables false
namespace Go.Proofs.YtgoifgockcpnhaaDoor
open Go Go.RowKit

section
variable {P : Program} {ops : Array Oper} {J : World → Prop} {Q : Exit → Act → World → Prop} {n : Nat}
theorem wpOp_mono {i : Nat} {K K' : Act → World → Prop} {a : Act} {w : World} (h : ∀ a w, K a w → K' a w) (hh : wpOp P ops Q i K a w) : wpOp P ops Q i K' a w := by
  unfold wpOp at *
  split
  · rename_i hn; simp only [hn] at hh; exact h _ _ hh
  · rename_i o hn
    simp only [hn] at hh
    split
    · rename_i hw
      rw [if_pos hw] at hh
      exact hh.imp (Oper.wp_mono h) id
    · rename_i hw
      rw [if_neg hw] at hh
      exact h _ _ hh
theorem wpMixI_snoc : ∀ (l : List Nat) (a : Act) (w : World), (∀ p ∈ l, p < n) → wpMixI P ops J (fun _ a' w' => wpOps P ops Q [n] a' w') n l a w → wpMixI P ops J Q n (l ++ [n]) a w
  | [], a, w, _, h => by
    rw [List.nil_append, wpMixI, if_pos (Nat.le_refl _)]
    exact h
  | p :: l, a, w, hp, h => by
    have hpn := hp p (List.mem_cons_self ..)
    have hr : ∀ q ∈ l, q < n := fun q hq => hp q (List.mem_cons_of_mem _ hq)
    rw [List.cons_append, wpMixI, if_neg (by omega)]
    rw [wpMixI, if_neg (by omega)] at h
    cases ho : ops[p]? with
    | none =>
      simp only [ho] at h ⊢
      exact wpMixI_snoc l a w hr h
    | some o =>
      simp only [ho] at h ⊢
      split
      · rename_i hw
        rw [if_pos hw] at h
        split
        · rename_i hc
          rw [if_pos hc] at h
          exact Oper.wp_mono (fun a' w' hx => ⟨hx.1, wpMixI_snoc l a' w' hr hx.2⟩) h
        · rename_i hc
          rw [if_neg hc] at h
          obtain ⟨v, h1, h2⟩ := h
          exact ⟨v, h1, wpMixI_snoc l _ w hr h2⟩
      · rename_i hw
        rw [if_neg hw] at h
        exact wpMixI_snoc l _ w hr h
theorem wpAny_of_permN {π : List Nat} (hsz : ops.size = n + 1) (hcl : ∀ L, Closed ops L → L n → ∀ p, p < ops.size → L p) (hP : PermOk ops (π ++ [n])) : ∀ (fuel : Nat) (listed : Array Bool) (a : Act) (w : World), listed.size = ops.size → ((π ++ [n]).filter (unl listed)).length = fuel →
    (∀ j o, ops[j]? = some o → listed.getD j false = true → ∀ e ∈ o.after, Region.binds .any e = true → listed.getD e.on false = true) → unl listed n = true →
    J w → wpMixI P ops J Q n ((π ++ [n]).filter (unl listed)) a w → wpAny P .any ops Q fuel listed a w := by
  intro fuel
  induction fuel with
  | zero =>
    intro listed a w hz hlen hdc hun hk h
    have hnil := List.eq_nil_of_length_eq_zero hlen
    have : n ∈ (π ++ [n]).filter (unl listed) := List.mem_filter.2 ⟨by simp, hun⟩
    rw [hnil] at this
    cases this
  | succ fuel ih =>
    intro listed a w hz hlen hdc hun hk h
    constructor
    · intro hr
      exact absurd hr (perm_some hP hz fun h0 => by rw [h0] at hlen; cases hlen)
    · intro i hi
      obtain ⟨oi, s, t, hoi, he, hisz, hu, hf, hg, hno, hap, hdc'⟩ := perm_ready hP hz hdc hi
      have hlen' : ((π ++ [n]).filter (unl (listed.setIfInBounds i true))).length = fuel := by
        rw [hg]
        rw [hf] at hlen
        simp at hlen ⊢
        omega
      rw [hf] at h
      by_cases hin : i = n
      · subst hin
        have hall : ∀ p, p < ops.size → unl listed p = true → p = i := fun p hp hpu => Classical.byContradiction fun hne => by
          have hq := hno _ p rfl hpu hne hp
          exact hq.2.2 (hcl _ hq.1 hq.2.1 p hp)
        have hs0 : s.filter (unl listed) = [] := List.eq_nil_iff_forall_not_mem.2 fun p hp => by
          obtain ⟨h1, h2⟩ := List.mem_filter.1 hp
          have hps := (hap p hp).1
          have := hall p hps h2
          subst this
          exact hP.once s t p he h1
        have ht0 : t.filter (unl listed) = [] := List.eq_nil_iff_forall_not_mem.2 fun p hp => by
          obtain ⟨h1, h2⟩ := List.mem_filter.1 hp
          obtain ⟨x, y, e⟩ := List.append_of_mem h1
          obtain ⟨op, hop, _⟩ := hP.at_ (s ++ i :: x) y p (by rw [he, e]; simp)
          have := hall p (Array.getElem?_eq_some_iff.1 hop).1 h2
          subst this
          exact hP.once (s ++ p :: x) y p (by rw [he, e]; simp) (by simp)
        rw [hs0, ht0, List.nil_append, wpMixI, if_pos (Nat.le_refl _), wpOps_cons] at h
        have hnil : (π ++ [i]).filter (unl (listed.setIfInBounds i true)) = [] := by rw [hg, hs0, ht0]; rfl
        have hf0 : fuel = 0 := by rw [hnil] at hlen'; exact hlen'.symm
        subst hf0
        exact wpOp_mono (fun a' w' hx => ⟨perm_nil hP hnil, hx⟩) h
      · have hilt : i < n := by omega
        have hsn : ∀ p ∈ s, p < n := fun p hp => by
          obtain ⟨x, y, e⟩ := List.append_of_mem hp
          obtain ⟨op, hop, _⟩ := hP.at_ x (y ++ i :: t) p (by rw [he, e]; simp)
          have h1 := (Array.getElem?_eq_some_iff.1 hop).1
          have h2 : p ≠ n := fun hpn => by
            subst hpn
            have hit : i ∈ t ∨ t = [] := by
              cases t with
              | nil => exact .inr rfl
              | cons _ _ =>
                rcases List.eq_nil_or_concat (i :: _ :: _) with h3 | ⟨q, b, h3⟩
                · cases h3
                · exact .inl (by
                    exfalso
                    rw [h3] at he
                    have h4 : π ++ [p] = (s ++ q) ++ [b] := by rw [he]; simp
                    have h5 := (List.append_inj' h4 rfl).2
                    have h6 : p = b := by simpa using h5
                    have h7 := (List.append_inj' h4 rfl).1
                    exact hP.once (s ++ q) [] p (by rw [h4, h6]) (by simp [hp]))
            rcases hit with hit | hit
            · obtain ⟨x', y', e'⟩ := List.append_of_mem hit
              exact hP.once (s ++ i :: x') y' i (by rw [he, e']; simp) (by simp)
            · subst hit
              have h5 := (List.append_inj' he rfl).2
              have h6 : p = i := by simpa using h5
              exact hin h6.symm
          omega
        have next : ∀ a' w', J w' → wpMixI P ops J Q n (s.filter (unl listed) ++ t.filter (unl listed)) a' w' → wpAny P .any ops Q fuel (listed.setIfInBounds i true) a' w' := fun a' w' hk hm =>
          ih _ a' w' (by simpa using hz) hlen' hdc' (by rw [unl_set (Ne.symm hin)]; exact hun) hk (by rw [hg]; exact hm)
        cases hc : chainB oi with
        | false =>
          obtain ⟨v, hy, hm⟩ := take_float hilt hoi hc hP.hs _ a w hk (fun p hp => by
            obtain ⟨h1, op, h2, h3, _⟩ := hap p hp
            exact ⟨hsn p (List.mem_filter.1 hp).1, op, h2, h3⟩) h
          have hn := next _ _ hk hm
          unfold wpOp
          simp only [hoi]
          rcases hy with ⟨hw, hv⟩ | ⟨hw, rfl⟩
          · rw [if_pos hw]
            refine .inl ?_
            unfold Oper.wp
            rcases hv w hk with h1 | ⟨h1, rfl⟩
            · rw [h1]; exact hn
            · rw [h1]; exact hn
          · rw [if_neg (by simp [hw])]; exact hn
        | true =>
          have hh := take_chain hilt hoi hc hP.hs _ a w (fun p hp => by
            obtain ⟨h1, op, h2, h3, h4⟩ := hap p hp
            exact ⟨hsn p (List.mem_filter.1 hp).1, op, h2, h3, h4.resolve_right (by simp [hc])⟩) h
          unfold wpOp
          simp only [hoi]
          split
          · rename_i hw
            rw [if_pos hw] at hh
            exact .inl (Oper.wp_false (Oper.wp_mono (fun a' w' hx => next _ _ hx.1 hx.2) hh))
          · rename_i hw
            rw [if_neg hw] at hh
            exact next _ _ hk hh
/-- What stands behind the cuts; the last operation behind all of them. -/
def CutN (P : Program) (ops : Array Oper) (n : Nat) (Q : Exit → Act → World → Prop) : List (List Nat) → (World → Prop) → Act → World → Prop
  | [], _, a, w => wpOps P ops Q [n] a w
  | π :: rest, J, a, w => ∃ J2 : World → Prop, J2 w ∧ (∀ h, J2 h → J h) ∧ wpMixI P ops J2 (fun _ a' w' => CutN P ops n Q rest J2 a' w') n π a w
theorem cut_fallN {π2 : List Nat} {rest : List (List Nat)} : ∀ (l : List Nat) (a : Act) (w : World), (∀ p ∈ l, p < n ∧ ∃ op, ops[p]? = some op ∧ chainB op = false) →
    wpMixI P ops J (fun _ a' w' => CutN P ops n Q (π2 :: rest) J a' w') n l a w → CutN P ops n Q ((l ++ π2) :: rest) J a w := by
  intro l
  induction l with
  | nil => intro a w _ h; exact h
  | cons p l ih =>
    intro a w hl h
    obtain ⟨hpz, op, hop, hc⟩ := hl p (List.mem_cons_self ..)
    obtain ⟨v, hy, hm⟩ := wpMixI_float_inv hpz hop hc h
    obtain ⟨J2, h1, h2, h3⟩ := ih _ _ (fun q hq => hl q (List.mem_cons_of_mem _ hq)) hm
    exact ⟨J2, h1, h2, wpMixI_float hpz hop hc (hy.up h2) h3⟩
theorem wpAny_of_cutsN (hsz : ops.size = n + 1) (hcl : ∀ L, Closed ops L → L n → ∀ p, p < ops.size → L p) : ∀ (parts : List (List Nat)) (π1 : List Nat) (J : World → Prop), PermOk ops (π1 ++ (parts.flatten ++ [n])) → (∀ p ∈ π1 ++ parts.flatten, p < n) → BehindE ops π1 parts →
    ∀ (fuel : Nat) (listed : Array Bool) (a : Act) (w : World), listed.size = ops.size → ((π1 ++ (parts.flatten ++ [n])).filter (unl listed)).length = fuel →
    (∀ j o, ops[j]? = some o → listed.getD j false = true → ∀ e ∈ o.after, Region.binds .any e = true → listed.getD e.on false = true) → (∀ j ∈ parts.flatten ++ [n], unl listed j = true) →
    J w → wpMixI P ops J (fun _ a' w' => CutN P ops n Q parts J a' w') n (π1.filter (unl listed)) a w → wpAny P .any ops Q fuel listed a w := by
  intro parts
  induction parts with
  | nil =>
    intro π1 J hP hlt _ fuel listed a w hz hlen hdc h2 hk h
    simp only [List.flatten_nil, List.nil_append] at hP hlen
    simp only [List.flatten_nil, List.append_nil] at hlt
    have hun := h2 n (by simp)
    refine wpAny_of_permN hsz hcl hP fuel listed a w hz hlen hdc hun hk ?_
    rw [List.filter_append, List.filter_cons, if_pos hun, List.filter_nil]
    exact wpMixI_snoc _ a w (fun p hp => hlt p (List.mem_filter.1 hp).1) h
  | cons π2 rest ihp =>
    intro π1 J hP hlt hE fuel
    have hP' : PermOk ops ((π1 ++ π2) ++ (rest.flatten ++ [n])) := by rw [List.append_assoc]; simpa using hP
    have hlt1 : ∀ p ∈ π1, p < n := fun p hp => hlt p (List.mem_append_left _ hp)
    have fall : ∀ (fuel : Nat) (listed : Array Bool) (a : Act) (w : World), listed.size = ops.size → ((π1 ++ ((π2 :: rest).flatten ++ [n])).filter (unl listed)).length = fuel →
        (∀ j o, ops[j]? = some o → listed.getD j false = true → ∀ e ∈ o.after, Region.binds .any e = true → listed.getD e.on false = true) → (∀ j ∈ (π2 :: rest).flatten ++ [n], unl listed j = true) →
        (∀ p ∈ π1.filter (unl listed), ∃ op, ops[p]? = some op ∧ chainB op = false) →
        wpMixI P ops J (fun _ a' w' => CutN P ops n Q (π2 :: rest) J a' w') n (π1.filter (unl listed)) a w → wpAny P .any ops Q fuel listed a w := by
      intro fuel listed a w hz hlen hdc h2 hch h
      obtain ⟨J2, h3, _, h4⟩ := cut_fallN _ a w (fun p hp => ⟨hlt1 p (List.mem_filter.1 hp).1, hch p hp⟩) h
      have h20 : π2.filter (unl listed) = π2 := List.filter_eq_self.2 fun j hj => h2 j (by simp [hj])
      refine ihp (π1 ++ π2) J2 hP' (fun p hp => hlt p (by rw [List.flatten_cons, ← List.append_assoc]; exact hp)) hE.2 fuel listed a w hz (by rw [List.append_assoc]; simpa using hlen) hdc (fun j hj => h2 j (by rw [List.flatten_cons, List.append_assoc]; exact List.mem_append_right _ hj)) h3 ?_
      rw [List.filter_append, h20]
      exact h4
    induction fuel with
    | zero =>
      intro listed a w hz hlen hdc h2 hk h
      have hnil := List.eq_nil_of_length_eq_zero hlen
      rw [List.filter_append] at hnil
      obtain ⟨e1, e2⟩ := List.append_eq_nil_iff.1 hnil
      exact fall 0 listed a w hz hlen hdc h2 (fun p hp => by rw [e1] at hp; cases hp) h
    | succ fuel ih =>
      intro listed a w hz hlen hdc h2 hk h
      by_cases hch : ∀ p ∈ π1.filter (unl listed), ∃ op, ops[p]? = some op ∧ chainB op = false
      · exact fall (fuel + 1) listed a w hz hlen hdc h2 hch h
      · obtain ⟨p, hp, hpc⟩ : ∃ p, p ∈ π1.filter (unl listed) ∧ ∀ op, ops[p]? = some op → chainB op = true := by
          refine Classical.byContradiction fun hn => hch fun p hp => ?_
          refine Classical.byContradiction fun hn2 => hn ⟨p, hp, fun op hop => ?_⟩
          cases hc : chainB op with
          | true => rfl
          | false => exact absurd ⟨op, hop, hc⟩ hn2
        obtain ⟨hp1, hpu⟩ := List.mem_filter.1 hp
        have hE1 : ∀ i ∈ (π2 :: rest).flatten ++ [n], ∀ p ∈ π1, ∀ op, ops[p]? = some op → chainB op = true → ∀ L, Closed ops L → L i → L p := fun i hi p hp op hop hc L hL hLi => by
          rcases List.mem_append.1 hi with h0 | h0
          · exact hE.1 i h0 p hp op hop hc L hL hLi
          · rw [List.mem_singleton] at h0
            subst h0
            exact hcl L hL hLi p (Array.getElem?_eq_some_iff.1 hop).1
        generalize hπ : (π2 :: rest).flatten ++ [n] = π' at *
        constructor
        · intro hr
          exact absurd hr (perm_some hP hz fun h0 => by rw [h0] at hlen; cases hlen)
        · intro i hi
          obtain ⟨oi, s, t, hoi, he, hisz, hu, hf, hg, hno, hap, hdc'⟩ := perm_ready hP hz hdc hi
          obtain ⟨sp, tp, hpe⟩ := List.append_of_mem hp1
          obtain ⟨op, hop, _⟩ := hP.at_ sp (tp ++ π') p (by rw [hpe]; simp)
          have hpz := (Array.getElem?_eq_some_iff.1 hop).1
          have hi2 : i ∉ π' := fun h0 => by
            have hpi : p ≠ i := fun e => by
              subst e
              obtain ⟨x, y, e⟩ := List.append_of_mem h0
              exact hP.once (π1 ++ x) y p (by rw [e]; simp) (List.mem_append_left _ hp1)
            have hq := hno _ p rfl hpu hpi hpz
            exact hq.2.2 (hE1 i h0 p hp1 op hop (hpc op hop) _ hq.1 hq.2.1)
          have hlen' : ((π1 ++ π').filter (unl (listed.setIfInBounds i true))).length = fuel := by
            rw [hg]
            rw [hf] at hlen
            simp at hlen ⊢
            omega
          have h2' : ∀ j ∈ π', unl (listed.setIfInBounds i true) j = true := fun j hj => by
            have hji : j ≠ i := fun e => hi2 (by rw [← e]; exact hj)
            rw [unl_set hji]
            exact h2 j hj
          obtain ⟨t1, ht, hπ1⟩ : ∃ t1, t = t1 ++ π' ∧ π1 = s ++ i :: t1 := by
            rcases List.append_eq_append_iff.1 he with ⟨x, h3, h4⟩ | ⟨x, h3, h4⟩
            · exfalso
              exact hi2 (by rw [h4]; simp)
            · cases x with
              | nil => exfalso; simp at h4; exact hi2 (by rw [← h4]; simp)
              | cons y ys => simp at h4; obtain ⟨rfl, rfl⟩ := h4; exact ⟨ys, rfl, h3⟩
          have hns := hP.once s t i he
          have hilt : i < n := hlt1 i (by rw [hπ1]; simp)
          have hsn : ∀ p ∈ s, p < n := fun p hp => hlt1 p (by rw [hπ1]; exact List.mem_append_left _ hp)
          have hnt : i ∉ t1 := fun h0 => by
            obtain ⟨x, y, e⟩ := List.append_of_mem h0
            exact hP.once (s ++ i :: x) (y ++ π') i (by rw [he, ht, e]; simp) (by simp)
          have hf1 : π1.filter (unl listed) = s.filter (unl listed) ++ i :: t1.filter (unl listed) := by
            rw [hπ1, List.filter_append, List.filter_cons, if_pos hu]
          have hg1 : π1.filter (unl (listed.setIfInBounds i true)) = s.filter (unl listed) ++ t1.filter (unl listed) := by
            rw [hπ1, List.filter_append, List.filter_cons, if_neg (by rw [unl_self (by omega)]; simp)]
            congr 1
            · exact List.filter_congr fun j hj => unl_set fun e => hns (e ▸ hj)
            · exact List.filter_congr fun j hj => unl_set fun e => hnt (e ▸ hj)
          rw [hf1] at h
          have next : ∀ a' w', J w' → wpMixI P ops J (fun _ a' w' => CutN P ops n Q (π2 :: rest) J a' w') n (s.filter (unl listed) ++ t1.filter (unl listed)) a' w' → wpAny P .any ops Q fuel (listed.setIfInBounds i true) a' w' := fun a' w' hk hm =>
            ih _ a' w' (by simpa using hz) hlen' hdc' h2' hk (by rw [hg1]; exact hm)
          cases hc : chainB oi with
          | false =>
            obtain ⟨v, hy, hm⟩ := take_float hilt hoi hc hP.hs _ a w hk (fun p hp => by
              obtain ⟨h1, op, h2, h3, _⟩ := hap p hp
              exact ⟨hsn p (List.mem_filter.1 hp).1, op, h2, h3⟩) h
            have hn := next _ _ hk hm
            unfold wpOp
            simp only [hoi]
            rcases hy with ⟨hw, hv⟩ | ⟨hw, rfl⟩
            · rw [if_pos hw]
              refine .inl ?_
              unfold Oper.wp
              rcases hv w hk with h1 | ⟨h1, rfl⟩
              · rw [h1]; exact hn
              · rw [h1]; exact hn
            · rw [if_neg (by simp [hw])]; exact hn
          | true =>
            have hh := take_chain hilt hoi hc hP.hs _ a w (fun p hp => by
              obtain ⟨h1, op, h2, h3, h4⟩ := hap p hp
              exact ⟨hsn p (List.mem_filter.1 hp).1, op, h2, h3, h4.resolve_right (by simp [hc])⟩) h
            unfold wpOp
            simp only [hoi]
            split
            · rename_i hw
              rw [if_pos hw] at hh
              exact .inl (Oper.wp_false (Oper.wp_mono (fun a' w' hx => next _ _ hx.1 hx.2) hh))
            · rename_i hw
              rw [if_neg hw] at hh
              exact next _ _ hk hh


/-! ### packed -/
def splitN (ops : Array Oper) (n : Nat) (π1 : List Nat) (parts : List (List Nat)) : Bool :=
  let b := closGo ops.toList #[]
  decide (ops.size = n + 1) && ((List.range ops.size).all (fun p => p == n || (b.getD n 0).testBit p) && ((π1 ++ parts.flatten).all (fun p => decide (p < n)) && (Region.noSelect ops && (decide ((π1 ++ (parts.flatten ++ [n])).length = ops.size) && (decide ((π1 ++ parts.flatten).length ≤ 1000) && ((List.range ops.size).all (fun i => (π1 ++ (parts.flatten ++ [n])).contains i) && (permGo ops b [] (π1 ++ (parts.flatten ++ [n])) &&
    behindB ops b π1 parts)))))))
/-- The same, as it is walked. -/
def CutV (P : Program) (l : List Oper) (z : List Oper) (Q : Exit → Act → World → Prop) : List (List Nat) → (World → Prop) → Act → World → Prop
  | [], _, a, w => wpList P l.toArray Q z a w
  | π :: rest, J, a, w => ∃ J2 : World → Prop, J2 w ∧ (∀ h, J2 h → J h) ∧ wpMix P l.toArray J2 (fun _ a' w' => CutV P l z Q rest J2 a' w') π.length (π.filterMap fun i => l[i]?) a w
theorem mixI_of_walkN {l : List Oper} {J' : World → Prop} {Q' : Exit → Act → World → Prop} {π : List Nat} {a : Act} {w : World} (hn : n ≤ l.length) (hi : ∀ i ∈ π, i < n) (hx : wpMix P l.toArray J' Q' π.length (π.filterMap fun i => l[i]?) a w) : wpMixI P l.toArray J' Q' n π a w := by
  have hmap : ∀ π : List Nat, (∀ i ∈ π, i < n) → π.map (fun i => l.toArray[i]?) = (π.filterMap fun i => l[i]?).map some := by
    intro π
    induction π with
    | nil => intro _; rfl
    | cons i π ih =>
      intro hi
      have h1 : i < l.length := by have := hi i (List.mem_cons_self ..); omega
      have h2 : l[i]? = some l[i] := List.getElem?_eq_getElem h1
      rw [List.map_cons, List.filterMap_cons, h2]
      simp only [List.map_cons]
      rw [ih fun j hj => hi j (List.mem_cons_of_mem _ hj)]
      congr 1
      simp [h1]
  exact wpMixI_list π _ π.length a w (hmap π hi) (fun j i hj => by
    have h1 := (List.getElem?_eq_some_iff.1 hj).1
    have h2 := hi i (List.mem_of_getElem? hj)
    omega) hx
theorem cutN_of_walk {l : List Oper} {z : List Oper} (hn : n ≤ l.length) (hz : ∀ a w, wpList P l.toArray Q z a w → wpOps P l.toArray Q [n] a w) : ∀ (parts : List (List Nat)) (J : World → Prop) (a : Act) (w : World), (∀ i ∈ parts.flatten, i < n) → CutV P l z Q parts J a w → CutN P l.toArray n Q parts J a w
  | [], _, a, w, _, h => hz a w h
  | π :: rest, J, a, w, hi, h => by
    obtain ⟨J2, h1, h2, h3⟩ := h
    have hi1 : ∀ i ∈ π, i < n := fun i hx => hi i (by rw [List.flatten_cons]; exact List.mem_append_left _ hx)
    exact ⟨J2, h1, h2, wpMixI_monoQ (fun a' w' hx => cutN_of_walk hn hz rest J2 a' w' (fun i hx => hi i (by rw [List.flatten_cons]; exact List.mem_append_right _ hx)) hx) _ a w hi1 (mixI_of_walkN hn hi1 h3)⟩
theorem wp_region_cutN {id : Nat} {a : Act} {w : World} {l : List Oper} (J : World → Prop) (n : Nat) (π1 : List Nat) (parts : List (List Nat)) (hm : P.follows .mixedOrders = true) (hB : splitN l.toArray n π1 parts = true) (hJ : J w.drew)
    (h : wpMix P l.toArray J (fun _ a' w' => CutV P l (l.drop n) Q parts J a' w') π1.length (π1.filterMap fun i => l[i]?) a w.drew) : (Code.region id l.toArray true).wp P Q a w := by
  refine wp_region_any hm ?_
  simp only [splitN, Bool.and_eq_true, decide_eq_true_eq] at hB
  obtain ⟨hsz, hclb, hltb, hs, hlen, hlen2, hmem, hgo, hE⟩ := hB
  have hb : ∀ i p, ((closGo l.toArray.toList #[]).getD i 0).testBit p = true → ∀ L, Closed l.toArray L → L i → L p := fun i p hip L hL hLi => clos_good L hL l.toArray.toList #[] (by simp) (by simp) i p hip hLi
  have hcl : ∀ L, Closed l.toArray L → L n → ∀ p, p < l.toArray.size → L p := fun L hL hLn p hp => by
    have := List.all_eq_true.1 hclb p (List.mem_range.2 hp)
    simp only [Bool.or_eq_true, beq_iff_eq] at this
    rcases this with rfl | h0
    · exact hLn
    · exact hb n p h0 L hL hLn
  have hlt : ∀ p ∈ π1 ++ parts.flatten, p < n := fun p hp => by simpa using List.all_eq_true.1 hltb p hp
  have hP : PermOk l.toArray (π1 ++ (parts.flatten ++ [n])) := by
    refine ⟨hs, fun s t i he => ?_, fun i hi => ?_, fun s t i he => ?_⟩
    · have := (permGo_spec hb _ [] s t i hgo he).1
      simpa using this
    · have := List.all_eq_true.1 hmem i (List.mem_range.2 hi)
      simpa using this
    · have := (permGo_spec hb _ [] s t i hgo he).2
      simpa using this
  have hin : ∀ i ∈ π1 ++ (parts.flatten ++ [n]), i < l.length := fun i hi => by
    obtain ⟨s, t, he⟩ := List.append_of_mem hi
    obtain ⟨oi, hoi, _⟩ := hP.at_ s t i he
    simpa using (Array.getElem?_eq_some_iff.1 hoi).1
  have hu : ∀ j, j < l.length → unl (Array.replicate l.toArray.size false) j = true := fun j hj => by
    simp [unl, Array.getD_eq_getD_getElem?, Array.getElem?_replicate, hj]
  have hall : (π1 ++ (parts.flatten ++ [n])).filter (unl (Array.replicate l.toArray.size false)) = π1 ++ (parts.flatten ++ [n]) := List.filter_eq_self.2 fun j hj => hu j (hin j hj)
  have hall1 : π1.filter (unl (Array.replicate l.toArray.size false)) = π1 := List.filter_eq_self.2 fun j hj => hu j (hin j (List.mem_append_left _ hj))
  have hlsz : l.length = n + 1 := by simpa using hsz
  refine wpAny_of_cutsN (by simpa using hsz) hcl parts π1 J hP hlt (behind_spec hb parts π1 hE) _ _ _ _ (by simp) (by rw [hall]; exact hlen) ?_ (fun j hj => hu j (hin j (List.mem_append_right _ hj))) hJ ?_
  · intro j o _ hj
    have : (Array.replicate l.toArray.size false).getD j false = false := by
      simp only [Array.getD_eq_getD_getElem?, Array.getElem?_replicate]
      split <;> rfl
    rw [this] at hj; cases hj
  · rw [hall1]
    have hz : ∀ a w, wpList P l.toArray Q (l.drop n) a w → wpOps P l.toArray Q [n] a w := fun a w hx => by
      have h1 : l.drop n = [l[n]'(by omega)] := by
        rw [List.drop_eq_getElem_cons (by omega), List.drop_of_length_le (by omega)]
      rw [h1] at hx
      rw [wpOps_list [n] [l[n]'(by omega)] (by simp [hlsz])]
      exact hx
    refine wpMixI_monoQ (fun a' w' hx => ?_) _ a w.drew (fun p hp => hlt p (List.mem_append_left _ hp)) (mixI_of_walkN (by omega) (fun i hi => hlt i (List.mem_append_left _ hi)) h)
    exact cutN_of_walk (by omega) hz parts J a' w' (fun i hi => hlt i (List.mem_append_right _ hi)) hx
theorem wp_region_cn {c w : World} {a : Act} {H G R : HP} {id : Nat} {l : List Oper} (hs : Sat c H w) (n : Nat) (π1 : List Nat) (parts : List (List Nat)) (he : Ent H (G * R)) (hm : P.follows .mixedOrders = true) (hB : splitN l.toArray n π1 parts = true)
    (h : ∀ (hR : Hp) (w' : World), R.on hR → Sat c (Exh hR * (G * emp)) w' → wpMix P l.toArray (In hR) (fun _ a' w' => CutV P l (l.drop n) Q parts (In hR) a' w') π1.length (π1.filterMap fun i => l[i]?) a w') : (Code.region id l.toArray true).wp P Q a w := by
  obtain ⟨x, ⟨h1, h2, d, l1, l2, x1, x2⟩, i⟩ := (hs.mono he).own
  exact wp_region_cutN (In h2) n π1 parts hm hB (i.le l2) (h h2 w.drew x2 ⟨hs.os, hs.tape, hs.output, x, ⟨h2, h1, dj_comm d, l2, l1, le_refl' _, (by rw [star_emp]; exact x1)⟩, i⟩)
/-- Behind all parts: all is owned again, and the last operation is walked plainly. -/
theorem mix_plain {c w : World} {a : Act} {H G R : HP} {hR : Hp} {z : List Oper} (hRR : R.on hR) (hs : Sat c H w) (he : Ent H (Exh hR * G)) (h : ∀ w', Sat c (R * G) w' → wpList P ops Q z a w') :
    wpMix P ops (In hR) (fun _ a' w' => wpList P ops Q z a' w') 0 [] a w :=
  mix_zero_nil (h w (hs.mono (ent_turn he (exh_ent hRR))))
end
end Go.Proofs.YtgoifgockcpnhaaDoor
