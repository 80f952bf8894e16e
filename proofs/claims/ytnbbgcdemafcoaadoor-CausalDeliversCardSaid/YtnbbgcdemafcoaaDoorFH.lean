/- CausalDelivers: the plain side: who delivers all that can be, in whatever order, delivers as many. -/
import Derived.Test.YtnbbgcdemafcoaaDoorFF
set_option linter.unusedSimpArgs false
set_option linter.unusedVariables false
namespace Go.Proofs.YtnbbgcdemafcoaaDoor
open Go Go.RowKit

def sum8 (c : Nat → Int) : Int := c 0 + (c 1 + (c 2 + (c 3 + (c 4 + (c 5 + (c 6 + c 7))))))
theorem sum8_fire {c : Nat → Int} {a : ActD} (h : rdyB c a = true) : sum8 (fire c a) = sum8 c + 1 := by
  obtain ⟨⟨g1, g2⟩, _, g4, _⟩ := rdy_facts h
  unfold sum8 fire setAt
  have : a.rep.toNat = 0 ∨ a.rep.toNat = 1 ∨ a.rep.toNat = 2 ∨ a.rep.toNat = 3 ∨ a.rep.toNat = 4 ∨ a.rep.toNat = 5 ∨ a.rep.toNat = 6 ∨ a.rep.toNat = 7 := by omega
  rcases this with e | e | e | e | e | e | e | e <;> rw [e] at g4 ⊢ <;> simp <;> omega
theorem sum8_fires {s : List ActD} : ∀ {c : Nat → Int}, delivB c s = true → sum8 (fires c s) = sum8 c + s.length := by
  induction s with
  | nil => intro c _; simp [fires]
  | cons a s ih =>
    intro c h
    simp only [delivB, Bool.and_eq_true] at h
    rw [fires_cons, ih h.2, sum8_fire h.1, List.length_cons]
    omega
/-- Nothing of the list is ready. -/
def Stuck (c : Nat → Int) (l : List ActD) : Prop := ∀ a, a ∈ l → rdyB c a = false
theorem fires_le {s l : List ActD} : ∀ {c d : Nat → Int}, delivB c s = true → (∀ a, a ∈ s → a ∈ l) → (∀ i, i < 8 → c i ≤ d i) → (∀ i, i < 8 → d i ≤ 9223372036854775807) → Stuck d l → ∀ i, i < 8 → fires c s i ≤ d i := by
  induction s with
  | nil => intro c d _ _ h _ _; exact h
  | cons a s ih =>
    intro c d h hm hcd hd hst
    simp only [delivB, Bool.and_eq_true] at h
    obtain ⟨h1, h2⟩ := h
    rw [fires_cons]
    refine ih h2 (fun b hb => hm b (List.mem_cons_of_mem _ hb)) (fun i hi => ?_) hd hst
    obtain ⟨⟨g1, g2⟩, g3, g4, g5, g6, g7⟩ := rdy_facts h1
    unfold fire setAt
    split
    · rename_i he
      subst he
      refine Classical.byContradiction fun hlt => ?_
      have he : d a.rep.toNat = c a.rep.toNat := by have := hcd _ hi; omega
      have hr : rdyB d a = true := by
        refine rdy_of ⟨g1, g2⟩ g3 (by omega) (by omega) (by omega) ?_
        unfold covB at g7 ⊢
        rw [decide_eq_true_eq] at g7 ⊢
        intro i hi
        have h3 := g7 i hi
        have h4 := hcd i hi
        omega
      rw [hst a (hm a (List.mem_cons_self ..))] at hr
      cases hr
    · exact hcd i hi
theorem as_many {c : Nat → Int} {l s d : List ActD} (hc : ClkI c) (hl : AllI l) (h1 : delivB c s = true) (h2 : delivB c d = true) (m1 : ∀ a, a ∈ s → a ∈ l) (m2 : ∀ a, a ∈ d → a ∈ l) (s1 : Stuck (fires c s) l) (s2 : Stuck (fires c d) l) : s.length = d.length := by
  have f1 : ClkI (fires c s) := fires_clkI hc fun a ha => (hl a (m1 a ha)).num
  have f2 : ClkI (fires c d) := fires_clkI hc fun a ha => (hl a (m2 a ha)).num
  have ge : ∀ {s : List ActD} {c : Nat → Int}, delivB c s = true → ∀ i, c i ≤ fires c s i := fun {s} => by
    induction s with
    | nil => intro c _ i; exact Int.le_refl _
    | cons a s ih =>
      intro c h i
      simp only [delivB, Bool.and_eq_true] at h
      rw [fires_cons]
      exact Int.le_trans (fire_ge h.1 i) (ih h.2 i)
  have e1 := fires_le h1 m1 (fun i _ => ge h2 i) (fun i hi => (f2 i hi).2) s2
  have e2 := fires_le h2 m2 (fun i _ => ge h1 i) (fun i hi => (f1 i hi).2) s1
  have k1 := sum8_fires h1
  have k2 := sum8_fires h2
  have : sum8 (fires c s) = sum8 (fires c d) := by
    have q : ∀ i, i < 8 → fires c s i = fires c d i := fun i hi => Int.le_antisymm (e1 i hi) (e2 i hi)
    unfold sum8
    rw [q 0 (by omega), q 1 (by omega), q 2 (by omega), q 3 (by omega), q 4 (by omega), q 5 (by omega), q 6 (by omega), q 7 (by omega)]
  omega
theorem stuck_none {c : Nat → Int} {l : List ActD} (h : nextI c l = none) : Stuck c l := fun a ha => by
  unfold nextI at h
  rw [List.findIdx?_eq_none_iff] at h
  exact h a ha
theorem ordS_stuck (c : Nat → Int) (l : List ActD) : Stuck (fires c (ordS c l)) l := by
  rw [← ordS_clk]
  exact stuck_none (ordX_none c l)

/-! ### acts that are one are made alike -/
def alikeAt (l : List ActD) (a : ActD) : ActD := (l.find? fun b => oneB b a).getD a
def alikeF (l : List ActD) : List ActD := l.map (alikeAt l)
def Alike (l : List ActD) : Prop := ∀ a b, a ∈ l → b ∈ l → oneB a b = true → a = b
theorem oneB_iff {a b : ActD} : oneB a b = true ↔ a.rep = b.rep ∧ a.num = b.num := by simp [oneB]
theorem oneB_fun {a b : ActD} (h : oneB a b = true) : (fun x => oneB x a) = fun x => oneB x b := funext fun x => by
  obtain ⟨h1, h2⟩ := oneB_iff.1 h
  unfold oneB
  rw [h1, h2]
theorem alikeAt_eq {l : List ActD} {a b : ActD} (ha : a ∈ l) (h : oneB a b = true) : alikeAt l a = alikeAt l b := by
  unfold alikeAt
  rw [oneB_fun h]
  cases hf : l.find? fun x => oneB x b with
  | some y => rfl
  | none =>
    rw [List.find?_eq_none] at hf
    exact absurd h (hf a ha)
theorem alikeAt_self {l : List ActD} {i : Nat} {a : ActD} (ha : l[i]? = some a) (h : ∀ j b, j < i → l[j]? = some b → oneB b a = false) : alikeAt l a = a := by
  obtain ⟨hi, rfl⟩ := List.getElem?_eq_some_iff.1 ha
  have : l.find? (fun b => oneB b l[i]) = some l[i] := by
    rw [List.find?_eq_some_iff_getElem]
    refine ⟨oneB_iff.2 ⟨rfl, rfl⟩, i, hi, rfl, fun j hj => ?_⟩
    rw [h j _ hj (List.getElem?_eq_getElem (by omega))]
    rfl
  unfold alikeAt
  rw [this]
  rfl
theorem alikeAt_mem {l : List ActD} {a : ActD} (ha : a ∈ l) : alikeAt l a ∈ l ∧ oneB (alikeAt l a) a = true := by
  unfold alikeAt
  cases hf : l.find? fun x => oneB x a with
  | some y => exact ⟨List.mem_of_find?_eq_some hf, by have := List.find?_some hf; exact this⟩
  | none => exact ⟨ha, oneB_iff.2 ⟨rfl, rfl⟩⟩
theorem alikeF_alike (l : List ActD) : Alike (alikeF l) := fun a b ha hb h => by
  obtain ⟨x, hx, rfl⟩ := List.mem_map.1 ha
  obtain ⟨y, hy, rfl⟩ := List.mem_map.1 hb
  obtain ⟨e1, e2⟩ := oneB_iff.1 (alikeAt_mem hx).2
  obtain ⟨e3, e4⟩ := oneB_iff.1 (alikeAt_mem hy).2
  obtain ⟨e5, e6⟩ := oneB_iff.1 h
  exact alikeAt_eq hx (oneB_iff.2 ⟨by rw [← e1, e5, e3], by rw [← e2, e6, e4]⟩)
theorem alikeF_len (l : List ActD) : (alikeF l).length = l.length := by simp [alikeF]
theorem alikeF_allI {l : List ActD} (h : AllI l) : AllI (alikeF l) := fun a ha => by
  obtain ⟨x, hx, rfl⟩ := List.mem_map.1 ha
  exact h _ (alikeAt_mem hx).1

/-! ### who delivers as they come -/
def DoneI (c : Nat → Int) (held : List ActD) (a : ActD) : Prop := offB c a = true ∨ a ∈ held
theorem off_mono {c : Nat → Int} {x a : ActD} (hx : rdyB c x = true) (h : offB c a = true) : offB (fire c x) a = true := by
  unfold offB at h ⊢
  rw [Bool.or_eq_true] at h ⊢
  rcases h with h | h
  · left
    unfold hasB at h ⊢
    simp only [Bool.and_eq_true, decide_eq_true_eq] at h ⊢
    exact ⟨h.1, h.2.1, Int.le_trans h.2.2 (fire_ge hx _)⟩
  · exact .inr h
theorem off_fire {c : Nat → Int} {a : ActD} (h : rdyB c a = true) : offB (fire c a) a = true := by
  obtain ⟨⟨g1, g2⟩, g3, g4, _⟩ := rdy_facts h
  unfold offB hasB inB
  rw [Bool.or_eq_true]
  left
  simp only [Bool.and_eq_true, decide_eq_true_eq]
  exact ⟨⟨g1, g2⟩, g3, by unfold fire setAt; rw [if_pos rfl]; exact Int.le_refl _⟩
theorem off_not_rdy {c : Nat → Int} {a : ActD} (h : offB c a = true) : rdyB c a = false := by
  cases hr : rdyB c a with
  | false => rfl
  | true =>
    obtain ⟨⟨g1, g2⟩, g3, g4, _⟩ := rdy_facts hr
    unfold offB hasB at h
    simp only [Bool.or_eq_true, Bool.and_eq_true, decide_eq_true_eq] at h
    omega
theorem heldF_mem {l : List ActD} {a : ActD} (h : heldF l a.rep a.num = true) : ∃ x, x ∈ l ∧ oneB x a = true := by
  unfold heldF at h
  obtain ⟨x, hx, h⟩ := List.any_eq_true.1 h
  exact ⟨x, hx, h⟩
theorem heldF_not {l : List ActD} {a x : ActD} (h : heldF l a.rep a.num = false) (hx : x ∈ l) : ¬ oneK x a := fun ⟨h1, h2⟩ => by
  unfold heldF at h
  rw [List.any_eq_false] at h
  exact h x hx (by simp [h1, h2])
theorem apart_snoc {l : List ActD} {a : ActD} (h : Apart l) (hn : heldF l a.rep a.num = false) : Apart (l ++ [a]) := by
  unfold Apart at *
  rw [List.pairwise_append]
  refine ⟨h, List.pairwise_singleton _ _, fun x hx y hy => ?_⟩
  rw [List.mem_singleton] at hy
  subst hy
  exact heldF_not hn hx
theorem apart_erase {l : List ActD} {i : Nat} (h : Apart l) : Apart (l.eraseIdx i) := List.Pairwise.sublist (List.eraseIdx_sublist l i) h
theorem mem_erase {l : List ActD} {i : Nat} {a b : ActD} (hi : l[i]? = some a) (hb : b ∈ l) : b ∈ l.eraseIdx i ∨ b = a := by
  obtain ⟨j, hj, rfl⟩ := List.getElem_of_mem hb
  by_cases h : j = i
  · subst h
    rw [List.getElem?_eq_getElem hj] at hi
    exact .inr (Option.some.inj hi)
  · exact .inl (List.mem_eraseIdx_iff_getElem.2 ⟨j, hj, h, rfl⟩)
/-- What holds between two acts that come. -/
structure DelI (c : Nat → Int) (l : List ActD) (k : Nat) (lost : Bool) (D held : List ActD) : Prop where
  del : delivB c D = true
  mem : ∀ a, a ∈ D → a ∈ l
  len : D.length + held.length ≤ k
  hmem : ∀ a, a ∈ held → a ∈ l
  apart : Apart held
  stuck : Stuck (fires c D) held
  done : lost = false → ∀ a, a ∈ l.take k → DoneI (fires c D) held a
/-- What holds while act a is being delivered. -/
structure DelA (c : Nat → Int) (l : List ActD) (k : Nat) (lost : Bool) (D held : List ActD) (a : ActD) : Prop where
  del : delivB c D = true
  mem : ∀ a, a ∈ D → a ∈ l
  len : D.length + held.length + 1 ≤ k
  hmem : ∀ a, a ∈ held → a ∈ l
  apart : Apart held
  rdy : rdyB (fires c D) a = true
  amem : a ∈ l
  done : lost = false → ∀ b, b ∈ l.take k → DoneI (fires c D) held b ∨ b = a
theorem del_start (c : Nat → Int) (l : List ActD) : DelI c l 0 false [] [] := ⟨rfl, (fun _ h => nomatch h), Nat.le_refl _, (fun _ h => nomatch h), List.Pairwise.nil, (fun _ h => nomatch h), fun _ a h => by simp at h⟩
theorem take_snoc {l : List ActD} {k : Nat} {a b : ActD} (ha : l[k]? = some a) (hb : b ∈ l.take (k + 1)) : b ∈ l.take k ∨ b = a := by
  rw [List.take_add_one, ha] at hb
  rcases List.mem_append.1 hb with h | h
  · exact .inl h
  · right
    simpa using h
section
variable {c : Nat → Int} {l : List ActD} {k : Nat} {lost : Bool} {D held : List ActD} {a : ActD}
theorem del_old (h : DelI c l k lost D held) (ha : l[k]? = some a) (ho : offB (fires c D) a = true) : DelI c l (k + 1) lost D held :=
  ⟨h.del, h.mem, Nat.le_succ_of_le h.len, h.hmem, h.apart, h.stuck, fun hl b hb => (take_snoc ha hb).elim (h.done hl b) (fun e => e ▸ .inl ho)⟩
theorem del_known (h : DelI c l k lost D held) (hal : Alike l) (ha : l[k]? = some a) (ho : heldF held a.rep a.num = true) : DelI c l (k + 1) lost D held := by
  obtain ⟨x, hx, h1⟩ := heldF_mem ho
  have : x = a := hal x a (h.hmem x hx) (List.mem_of_getElem? ha) h1
  subst this
  exact ⟨h.del, h.mem, Nat.le_succ_of_le h.len, h.hmem, h.apart, h.stuck, fun hl b hb => (take_snoc ha hb).elim (h.done hl b) (fun e => e ▸ .inr hx)⟩
theorem del_lost (h : DelI c l k lost D held) : DelI c l (k + 1) true D held :=
  ⟨h.del, h.mem, Nat.le_succ_of_le h.len, h.hmem, h.apart, h.stuck, fun hl => nomatch hl⟩
theorem del_held (h : DelI c l k lost D held) (ha : l[k]? = some a) (hn : heldF held a.rep a.num = false) (hr : rdyB (fires c D) a = false) : DelI c l (k + 1) lost D (held ++ [a]) := by
  refine ⟨h.del, h.mem, ?_, fun b hb => ?_, apart_snoc h.apart hn, fun b hb => ?_, fun hl b hb => ?_⟩
  · have := h.len
    simp only [List.length_append, List.length_cons, List.length_nil]
    omega
  · rcases List.mem_append.1 hb with hb | hb
    · exact h.hmem b hb
    · rw [List.mem_singleton.1 hb]; exact List.mem_of_getElem? ha
  · rcases List.mem_append.1 hb with hb | hb
    · exact h.stuck b hb
    · rw [List.mem_singleton.1 hb]; exact hr
  · rcases take_snoc ha hb with hb | rfl
    · exact (h.done hl b hb).imp id (List.mem_append_left _)
    · exact .inr (List.mem_append_right _ (List.mem_singleton.2 rfl))
theorem del_ready (h : DelI c l k lost D held) (ha : l[k]? = some a) (hr : rdyB (fires c D) a = true) : DelA c l (k + 1) lost D held a :=
  ⟨h.del, h.mem, Nat.succ_le_succ h.len, h.hmem, h.apart, hr, List.mem_of_getElem? ha, fun hl b hb => (take_snoc ha hb).elim (fun hb => .inl (h.done hl b hb)) .inr⟩
theorem del_fired (h : DelA c l k lost D held a) (hl : lost = false) : ∀ b, b ∈ l.take k → DoneI (fires c (D ++ [a])) held b := fun b hb => by
  rw [fires_snoc]
  rcases h.done hl b hb with (h1 | h1) | rfl
  · exact .inl (off_mono h.rdy h1)
  · exact .inr h1
  · exact .inl (off_fire h.rdy)
theorem del_more (h : DelA c l k lost D held a) : delivB c (D ++ [a]) = true := by
  rw [deliv_snoc, h.del, h.rdy]; rfl
theorem del_mem (h : DelA c l k lost D held a) : ∀ b, b ∈ D ++ [a] → b ∈ l := fun b hb => by
  rcases List.mem_append.1 hb with hb | hb
  · exact h.mem b hb
  · rw [List.mem_singleton.1 hb]; exact h.amem
theorem del_next (h : DelA c l k lost D held a) {i : Nat} (hi : nextI (fires c (D ++ [a])) held = some i) : DelA c l k lost (D ++ [a]) (held.eraseIdx i) (held.getD i act0) := by
  obtain ⟨h1, h2, _⟩ := next_facts hi
  have hil := (List.getElem?_eq_some_iff.1 h1).1
  refine ⟨del_more h, del_mem h, ?_, fun b hb => h.hmem b (List.mem_of_mem_eraseIdx hb), apart_erase h.apart, h2, h.hmem _ (List.mem_of_getElem? h1), fun hl b hb => ?_⟩
  · have := h.len
    rw [List.length_eraseIdx_of_lt hil]
    simp only [List.length_append, List.length_cons, List.length_nil]
    omega
  · rcases del_fired h hl b hb with h3 | h3
    · exact .inl (.inl h3)
    · exact (mem_erase h1 h3).imp .inr id
theorem del_last (h : DelA c l k lost D held a) (hi : nextI (fires c (D ++ [a])) held = none) : DelI c l k lost (D ++ [a]) held := by
  refine ⟨del_more h, del_mem h, ?_, h.hmem, h.apart, stuck_none hi, fun hl b hb => del_fired h hl b hb⟩
  have := h.len
  simp only [List.length_append, List.length_cons, List.length_nil]
  omega
theorem del_end (h : DelI c l l.length false D held) (hc : ClkI c) (hl : AllI l) : D.length = (ordS c l).length := by
  refine as_many hc hl h.del (ordS_deliv c l) h.mem (fun _ => ordS_mem) (fun a ha => ?_) (ordS_stuck c l)
  rcases h.done rfl a (by rw [List.take_length]; exact ha) with h1 | h1
  · exact off_not_rdy h1
  · exact h.stuck a h1
end
end Go.Proofs.YtnbbgcdemafcoaaDoor
