/- Rows of one's own, written in place: an element, a cut, what lies behind the end. -/
import Derived.Test.YtegebjflhhbmiaaDoorZQC6AD
import Derived.Laws.OwnMore
set_option linter.unusedSimpArgs false
set_option linter.unusedVariables false
namespace Go.Proofs.YtegebjflhhbmiaaDoor
open Go Go.RowKit

section
variable {P : Program} {α : Type} {w : World} {s B : Nat} {enc : α → Array Value} {l m : List α} {base : Nat} {E : TypeId}
/-- The cells of what a slice reads as. -/
theorem SlIs.cells {ad : Addr} {n c : Nat} (h : SlIs w B s enc (.slice (some ad) n c) m) (h0 : 0 < s) (hs : ∀ a, (enc a).size = s) : ∀ j u, (flatL enc m)[j]? = some u → w.cell? (ad.add j) = some u := by
  obtain ⟨A, c', h1, hlc, hcm, hnone, hcells⟩ := h
  injection h1 with e1 e2 e3
  subst e1; subst e2; subst e3
  intro j u hu
  have hj : j < m.length * s := by have := (List.getElem?_eq_some_iff.1 hu).1; rwa [flatL_length hs] at this
  have hn : 0 < m.length := by
    rcases Nat.eq_zero_or_pos m.length with h | h
    · rw [h, Nat.zero_mul] at hj; omega
    · exact h
  obtain ⟨b, o, hA, _, hw⟩ := hcells hn
  injection hA with hA
  subst hA
  have hdiv : j / s < m.length := (Nat.div_lt_iff_lt_mul h0).2 hj
  have hmod : j % s < s := Nat.mod_lt _ h0
  have hje : j / s * s + j % s = j := by rw [Nat.mul_comm]; exact Nat.div_add_mod j s
  have hat := flatL_at hs m (j / s) _ (List.getElem?_eq_getElem hdiv) (j % s) hmod
  rw [hje] at hat
  have hadd : (⟨b, o, none⟩ : Addr).add j = ⟨b, (o + j / s * s) + j % s, none⟩ := by
    have : (⟨b, o, none⟩ : Addr).add j = ⟨b, o + j, none⟩ := by unfold Addr.add; split <;> simp_all
    rw [this]
    congr 1
    omega
  rw [hadd, win_cell (hw _ _ (List.getElem?_eq_getElem hdiv)) (j % s) hmod, ← hat, hu]
theorem flatL_one (hf : ∀ a, flat (enc a) = true) : ∀ u ∈ flatL enc m, u.oneCell' = true := fun u hu => by
  obtain ⟨e, _, hu⟩ := List.mem_flatMap.1 hu
  exact Array.all_eq_true_iff_forall_mem.1 (hf e) u (by simpa using hu)
/-- An owned row cut at its front. -/
theorem OwnIs.take {g n cap : Nat} (hs : ∀ a, (enc a).size = s) (h : OwnIs w base E s enc (.slice (some ⟨g, 0, none⟩) n cap) l) (k : Nat) (hk : k ≤ n) (hn : n = l.length) : OwnIs w base E s enc (.slice (some ⟨g, 0, none⟩) k cap) (l.take k) := by
  subst hn
  have hl : (l.take k).length = k := by simp; omega
  unfold OwnIs
  rw [hl]
  refine ⟨by rw [flatL_length hs, hl], .inr ?_⟩
  rcases h.2 with ⟨hh, _⟩ | ⟨g', cap', cur, he, hb, hg, hnc, hcm, hcs, ht⟩
  · cases hh
  · injection he with e1 e2 e3
    injection e1 with e1
    injection e1 with e1
    subst e1; subst e3
    refine ⟨g, cap, cur, rfl, hb, hg, by omega, hcm, hcs, ?_⟩
    have h1 : l = l.take k ++ l.drop k := (List.take_append_drop k l).symm
    have h2 : flatL enc l = flatL enc (l.take k) ++ flatL enc (l.drop k) := by rw [← flatL_append, ← h1]
    rw [h2] at ht
    have h3 : cur.toList.take (k * s) = (cur.toList.take (l.length * s)).take (k * s) := by
      rw [List.take_take]; congr 1
      have := Nat.mul_le_mul_right s hk; omega
    rw [h3, ht, List.take_append_of_le_length (by rw [flatL_length hs, hl]; exact Nat.le_refl _), List.take_of_length_le (by rw [flatL_length hs, hl]; exact Nat.le_refl _)]
/-- A row cut at its end: what 's[k:]' is. -/
theorem SlIs.drop {g n c : Nat} (h : SlIs w B s enc (.slice (some ⟨g, 0, none⟩) n c) l) (k : Nat) (hk : k ≤ n) :
    SlIs w B s enc (.slice (if c = k then some ⟨g, 0, none⟩ else some ⟨g, k * s, none⟩) (n - k) (c - k)) (l.drop k) := by
  obtain ⟨A', c', h1, h2, h3, h3', h4⟩ := h
  injection h1 with e1 e2 e3
  subst e1; subst e2; subst e3
  refine ⟨if c = k then some ⟨g, 0, none⟩ else some ⟨g, k * s, none⟩, c - k, by rw [List.length_drop], by simp; omega, by omega, (fun h => by split at h <;> cases h), fun hn => ?_⟩
  simp at hn
  rw [if_neg (by omega)]
  obtain ⟨b, o, h5, h6, h7⟩ := h4 (by omega)
  injection h5 with h5
  injection h5 with e1 e2 e3
  subst e1; subst e2
  refine ⟨g, k * s, rfl, h6, fun i a ha => ?_⟩
  have := h7 (k + i) a (by simpa [List.getElem?_drop] using ha)
  rw [Nat.add_mul] at this
  simpa using this
end

section
variable {α : Type} {w : World} {s : Nat} {enc : α → Array Value} {l : List α} {base : Nat} {E : TypeId}
theorem flatL_set (hs : ∀ a, (enc a).size = s) : ∀ (l : List α) (i : Nat) (e : α), i < l.length → flatL enc (l.set i e) = (flatL enc l).take (i * s) ++ (enc e).toList ++ (flatL enc l).drop (i * s + s)
  | [], _, _, h => by simp at h
  | b :: l, 0, e, _ => by
    have := hs b
    simp only [flatL, List.set_cons_zero, List.flatMap_cons, Nat.zero_mul, List.take_zero, List.nil_append, Nat.zero_add]
    rw [List.drop_append_of_le_length (by simp [hs]), List.drop_of_length_le (by simp [hs]), List.nil_append]
  | b :: l, i + 1, e, h => by
    have ih := flatL_set hs l i e (by simpa using h)
    have hb := hs b
    simp only [flatL, List.set_cons_succ, List.flatMap_cons] at ih ⊢
    rw [ih, Nat.add_mul, Nat.one_mul]
    have e1 : List.take (i * s + s) ((enc b).toList ++ List.flatMap (fun a => (enc a).toList) l) = (enc b).toList ++ List.take (i * s) (List.flatMap (fun a => (enc a).toList) l) := by
      rw [Nat.add_comm, ← hb, ← Array.length_toList, List.take_length_add_append]
    have e2 : List.drop (i * s + s + s) ((enc b).toList ++ List.flatMap (fun a => (enc a).toList) l) = List.drop (i * s + s) (List.flatMap (fun a => (enc a).toList) l) := by
      rw [show i * s + s + s = (enc b).toList.length + (i * s + s) from by rw [Array.length_toList, hb]; omega, List.drop_length_add_append]
    rw [e1, e2]
    simp
theorem get3 {β : Type} (A B C : List β) (k : Nat) : (A ++ (B ++ C))[k]? = if k < A.length then A[k]? else if k < A.length + B.length then B[k - A.length]? else C[k - A.length - B.length]? := by
  by_cases h1 : k < A.length
  · rw [if_pos h1, List.getElem?_append_left h1]
  · rw [if_neg h1, List.getElem?_append_right (by omega)]
    by_cases h2 : k < A.length + B.length
    · rw [if_pos h2, List.getElem?_append_left (by omega)]
    · rw [if_neg h2, List.getElem?_append_right (by omega)]
theorem OwnIs.set {g n cap : Nat} (hs : ∀ a, (enc a).size = s) (hf : ∀ a, flat (enc a) = true) (h : OwnIs w base E s enc (.slice (some ⟨g, 0, none⟩) n cap) l) {i : Nat} (hi : i < l.length) (e : α) :
    okw w g (i * s) s = true ∧ OwnIs (setWin w g (i * s) (enc e)) base E s enc (.slice (some ⟨g, 0, none⟩) n cap) (l.set i e) := by
  rcases h.2 with ⟨hh, _⟩ | ⟨g', cap', cur, he, hb, hg, hnc, hcm, hcs, ht⟩
  · cases hh
  · injection he with e1 e2 e3
    injection e1 with e1
    injection e1 with e1
    subst e1; subst e2; subst e3
    have hle : i * s + s ≤ l.length * s := by rw [← Nat.succ_mul]; exact Nat.mul_le_mul_right s hi
    have hle2 : l.length * s ≤ cur.size := by rw [hcs]; exact Nat.mul_le_mul_right s hnc
    have hok : okw w g (i * s) s = true := by unfold okw; rw [hg]; simp; omega
    refine ⟨hok, ?_⟩
    obtain ⟨c, t, hc1, hc2, hc3⟩ := setWin_block (w := w) (g := g) (o := i * s) (enc e) (by rw [hs]; exact hok)
    rw [hg] at hc1
    cases hc1
    unfold OwnIs
    rw [List.length_set]
    refine ⟨by rw [flatL_length hs, List.length_set], .inr ⟨g, cap, _, rfl, hb, hc3, hnc, hcm, by rw [splice_size _ _ _ (by rw [hs]; omega), hcs], ?_⟩⟩
    rw [flatL_set hs l i e hi, ← ht]
    unfold splice
    simp only [List.append_assoc]
    have hsz : (enc e).toList.length = s := by simp [hs]
    rw [hsz]
    apply List.ext_getElem?
    intro k
    have hcl : cur.toList.length = cur.size := by simp
    have l1 : (List.take (i * s) cur.toList).length = i * s := by rw [List.length_take]; omega
    have l2 : (List.take (i * s) (List.take (l.length * s) cur.toList)).length = i * s := by rw [List.length_take, List.length_take]; omega
    rw [List.getElem?_take, get3, get3, l1, l2, hsz]
    by_cases hk : k < l.length * s
    · rw [if_pos hk]
      by_cases h1 : k < i * s
      · rw [if_pos h1, if_pos h1, List.getElem?_take, List.getElem?_take, if_pos h1, if_pos h1, List.getElem?_take, if_pos hk]
      · rw [if_neg h1, if_neg h1]
        by_cases h2 : k < i * s + s
        · rw [if_pos h2, if_pos h2]
        · rw [if_neg h2, if_neg h2, List.getElem?_drop, List.getElem?_drop, List.getElem?_take, if_pos (by omega)]
    · rw [if_neg hk]
      symm
      rw [if_neg (by omega), if_neg (by omega)]
      apply List.getElem?_eq_none
      rw [List.length_drop, List.length_take]
      omega
end
theorem ow_storeRow {P : Program} {c : World} {H : HP} {w : World} {Q : Exit → Act → World → Prop} {a : Act} {dst : Option Tmp} {ty : TypeId} {pos : String} {aft : Array Edge} {gd : Option (Nat × Bool)} {K : Act → World → Prop} {α : Type} {t E : TypeId} {x y : Operand} {g o i n cap s : Nat} {enc : α → Array Value} {l : List α} {e : α} {R : HP} (hs : Sat c H w) (hx : a.eval x = .pointer (some ⟨g, o, none⟩)) (he : Ent H (row E s enc (.slice (some ⟨g, 0, none⟩) n cap) l * R)) (hy : a.eval y = .agg (enc e)) (ht : AggT P t s) (ho : o = i * s) (hi : i < l.length) (hsz : ∀ a, (enc a).size = s) (hf : ∀ a, flat (enc a) = true) (hK : ∀ w' : World, Sat c (row E s enc (.slice (some ⟨g, 0, none⟩) n cap) (l.set i e) * R) w' → K (a.put dst undef) w') : Oper.wp P ⟨dst, .store t x y, ty, pos, aft, gd⟩ a w K Q := by
  subst ho
  have hs' := hs.mono he
  obtain ⟨d, _, _, hinf⟩ := ht
  have hown := hs'.own.row
  obtain ⟨hok, hw⟩ := OwnIs.set hsz hf hown hi e
  have hrun : (execOp a.eval ⟨dst, .store t x y, ty, pos, aft, gd⟩).run P w = .ok .skip (setWin w g (i * s) (enc e)) := by
    have := run_stS P t s hinf w g (i * s) (enc e)
    rw [stS_eq] at this
    unfold stAgg at this
    rw [if_pos ⟨hok, hsz e, hf e⟩] at this
    simp [execOp, hx, hy, this]
  unfold Oper.wp
  rw [hrun]
  exact hK _ (hs'.rowTurn hw ⟨by unfold setWin; rfl, by unfold setWin; rfl, by unfold setWin; rfl, by rw [size_setWin]; exact Nat.le_refl _, fun k _ hk => heap_setWin_other _ (fun e => hk (by rw [e]; rfl))⟩ (fun k hk => .inl hk))
theorem pl_storeRow {P : Program} {c : World} {H : HP} {w : World} {ops : Array Oper} {Q : Exit → Act → World → Prop} {a : Act} {dst : Option Tmp} {ty : TypeId} {pos : String} {aft : Array Edge} {rest : List Oper} {α : Type} {t E : TypeId} {x y : Operand} {g o i n cap s : Nat} {enc : α → Array Value} {l : List α} {e : α} {R : HP} (hs : Sat c H w) (hx : a.eval x = .pointer (some ⟨g, o, none⟩)) (he : Ent H (row E s enc (.slice (some ⟨g, 0, none⟩) n cap) l * R)) (hy : a.eval y = .agg (enc e)) (ht : AggT P t s) (ho : o = i * s) (hi : i < l.length) (hsz : ∀ a, (enc a).size = s) (hf : ∀ a, flat (enc a) = true) (hK : ∀ w' : World, Sat c (row E s enc (.slice (some ⟨g, 0, none⟩) n cap) (l.set i e) * R) w' → wpList P ops Q rest (a.put dst undef) w') : wpList P ops Q (⟨dst, .store t x y, ty, pos, aft, none⟩ :: rest) a w :=
  wpList_plain rfl fun K hk => ow_storeRow hs hx he hy ht ho hi hsz hf (fun  w' h => hk _ _ (hK  w' h))
section
variable {α : Type} {s : Nat} {enc : α → Array Value} {l : List α} {E : TypeId} {R H : HP} {g n cap : Nat} {w : World}
theorem slr_row_take {l m : List α} {k : Nat} (hs : ∀ a, (enc a).size = s) (hk : k ≤ n) (hm : l.take k = m) : SlR (row E s enc (.slice (some ⟨g, 0, none⟩) n cap) l * R) s enc (.slice (some ⟨g, 0, none⟩) k cap) m := by
  subst hm
  exact slr_take (slr_row hs) k hk
theorem reads_row {i : Nat} {e : α} (hs : ∀ a, (enc a).size = s) (hi : l[i]? = some e) : Reads (row E s enc (.slice (some ⟨g, 0, none⟩) n cap) l * R) g (i * s) s (enc e) := fun w hw => by
  have h := slr_row (R := R) (l := l) (v := .slice (some ⟨g, 0, none⟩) n cap) (E := E) hs
  have hn := (slr_len h hw).1
  have hlt : i < n := by have := (List.getElem?_eq_some_iff.1 hi).1; omega
  obtain ⟨b, o, a, h1, h2, h3⟩ := slr_get h hw hlt
  injection h1 with h1
  injection h1 with e1 e2
  subst e1; subst e2
  rw [hi] at h2
  cases h2
  have := h3 w hw
  rwa [Nat.zero_add] at this
theorem row_len (h : Own (row E s enc (.slice (some ⟨g, 0, none⟩) n cap) l * R) w) : n = l.length ∧ n ≤ cap ∧ cap ≤ maxLen := by
  rcases (Own.row h).form with ⟨h, _⟩ | ⟨g', cap', h, _, _, h1, h2, _⟩
  · cases h
  · injection h with e1 e2 e3
    subst e2; subst e3
    exact ⟨rfl, h1, h2⟩
end
end Go.Proofs.YtegebjflhhbmiaaDoor
