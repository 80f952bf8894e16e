/- BagSums: the calls, whatever they come to. -/
import Derived.Test.YtlgjippijbepkaaDoorGI
set_option linter.unusedSimpArgs false
set_option linter.unusedVariables false
namespace Go.Proofs.YtlgjippijbepkaaDoor
open Go Go.RowKit

def errV (b : Bool) (t : TypeId) (p : Option Addr) : Value := if b then .nilIface else .iface t (.pointer p)
@[go_sem] theorem neq_errV (b : Bool) (t : TypeId) (p : Option Addr) (w : World) : (binOp .neq 25 (errV b t p) .nilIface).run Tryd.prog w = .ok (.bool (!b)) w := by
  cases b <;> (unfold errV; go_simp)
@[go_sem] theorem eql_errV (b : Bool) (t : TypeId) (p : Option Addr) (w : World) : (binOp .eql 25 (errV b t p) .nilIface).run Tryd.prog w = .ok (.bool b) w := by
  cases b <;> (unfold errV; go_simp)
@[go_sem] theorem guard_errV (op : BinOp) (k : Nat) (b : Bool) (t : TypeId) (p : Option Addr) (w : World) : (eqGuard op 25 (.tmp k) (.const .nilIface) (errV b t p) .nilIface).run Tryd.prog w = .ok () w := by
  cases b <;> cases op <;> rfl
theorem refP_iface {a : Nat → Addr} {ls : List LinkD} {k : Nat} {v : Value} {F : HP} {c w : World} (hs : Sat c (RefP a (some (ls, k)) v * F) w) : ∃ t p, v = errV false t p := by
  obtain ⟨t, p, h⟩ := fch_iface (refP_some hs).2
  exact ⟨t, p, h⟩
/-- What Send comes to. -/
structure SendR (X : HP) (b : Bool) (m s x z : Int) (ts : List PclD) (f t : Int) (l : List Int) (n s' x' z' : Int) (us : List PclD) : Prop where
  lin : x' - z' - us.length = x - z - ts.length
  bx : x ≤ x' ∧ x' ≤ x + 1
  bz : z ≤ z' ∧ z' ≤ z + 1
  yes : b = true → n = s + 1 ∧ s' = s + 1 ∧ x' = x + 1 ∧ z' = z ∧ (ts.length : Int) < m ∧ ∃ gb : Nat, us = ts ++ [⟨s + 1, f, t, some ⟨gb, 0, none⟩, l.length, l.length⟩] ∧ SlR X 1 bytv (.slice (some ⟨gb, 0, none⟩) l.length l.length) l
  no : b = false → s' = s ∧ us = ts ∧ (x' = x ∧ z' = z ∨ x' = x + 1 ∧ z' = z + 1)
theorem sendA_s (c0 : World) (F : HP) (a : Nat → Addr) (g : Nat) (m s : Int) (ts : List PclD) (x y z d f t : Int) (v : Value) (l : List Int) : Spec Tryd.prog c0 10 #[.pointer (some ⟨g, 0, none⟩), .int .i64 f, .int .i64 t, v]
    (pu (ErrB F a ∧ SlR F 1 bytv v l ∧ l.length ≤ 60 ∧ ts.length ≤ 1000 ∧ 0 ≤ s ∧ s ≤ 1000 ∧ Cn x ∧ Cn z) (bagP g m s ts x y z d * F))
    (fun r => ex fun b : Bool => ex fun tp : TypeId => ex fun pa : Option Addr => ex fun n : Int => ex fun s' : Int => ex fun x' : Int => ex fun z' : Int => ex fun us : List PclD => ex fun X : HP => pu (r = .tuple #[.int .i64 n, errV b tp pa] ∧ SendR X b m s x z ts f t l n s' x' z' us) (X * (bagP g m s' us x' y z' d * F))) := fun w hs => by
  obtain ⟨⟨h1, h2, h3, h4, h5, h6, h7, h8⟩, hs⟩ := hs.pu
  refine (send_s c0 F a g m s ts x y z d f t v l w (hs.mono (ent_pu ⟨h1, h2, by omega, by omega, h5, by omega, h7, h8⟩ ent_refl))).mono fun e w' ⟨r, he, h⟩ => ⟨r, he, ?_⟩
  unfold SendQ at h
  by_cases hf : endsB f t = false
  · rw [if_pos hf] at h
    obtain ⟨e, h⟩ := h.ex
    obtain ⟨hv, h⟩ := h.pu
    obtain ⟨te, pe, rfl⟩ := refP_iface h
    exact h.mono (ent_ex false (ent_ex te (ent_ex pe (ent_ex 0 (ent_ex s (ent_ex x (ent_ex z (ent_ex ts (ent_ex _ (ent_pu ⟨hv, ⟨by omega, by omega, by omega, (fun h => nomatch h), fun _ => ⟨rfl, rfl, .inl ⟨rfl, rfl⟩⟩⟩⟩ ent_refl))))))))))
  · rw [if_neg hf] at h
    by_cases hm : m ≤ ts.length
    · rw [if_pos hm] at h
      obtain ⟨e, h⟩ := h.ex
      obtain ⟨hv, h⟩ := h.pu
      obtain ⟨te, pe, rfl⟩ := refP_iface h
      exact h.mono (ent_ex false (ent_ex te (ent_ex pe (ent_ex 0 (ent_ex s (ent_ex (x + 1) (ent_ex (z + 1) (ent_ex ts (ent_ex _ (ent_pu ⟨hv, ⟨by omega, by omega, by omega, (fun h => nomatch h), fun _ => ⟨rfl, rfl, .inr ⟨rfl, rfl⟩⟩⟩⟩ ent_refl))))))))))
    · rw [if_neg hm] at h
      obtain ⟨gb, h⟩ := h.ex
      obtain ⟨hv, h⟩ := h.pu
      exact h.mono (ent_ex true (ent_ex 0 (ent_ex none (ent_ex (s + 1) (ent_ex (s + 1) (ent_ex (x + 1) (ent_ex z (ent_ex (ts ++ [⟨s + 1, f, t, some ⟨gb, 0, none⟩, l.length, l.length⟩]) (ent_ex _ (ent_pu ⟨hv, ⟨by simp; omega, by omega, by omega, fun _ => ⟨rfl, rfl, rfl, rfl, by omega, gb, rfl, fun w hw => slr_row (R := emp) bytv_size w (hw.mono ent_last)⟩, (fun h => nomatch h)⟩⟩ ent_refl))))))))))
/-- What Drop comes to. -/
theorem dropA_s (c0 : World) (F : HP) (a : Nat → Addr) (g : Nat) (m s i : Int) (ts : List PclD) (x y z d : Int) : Spec Tryd.prog c0 13 #[.pointer (some ⟨g, 0, none⟩), .int .i64 i]
    (pu (ErrB F a ∧ ts.length ≤ 1000 ∧ Cn z) (bagP g m s ts x y z d * F))
    (fun _ => ex fun us : List PclD => ex fun z' : Int => ex fun X : HP => pu (Less us ts ∧ z' + us.length = z + ts.length ∧ z ≤ z' ∧ z' ≤ z + 1) (X * (bagP g m s us x y z' d * F))) := fun w hs => by
  obtain ⟨⟨h1, h2, h3⟩, hs⟩ := hs.pu
  by_cases hi : 0 ≤ i ∧ i < ts.length
  · obtain ⟨n, rfl⟩ : ∃ n : Nat, i = n := ⟨i.toNat, by omega⟩
    have hn : n < ts.length := by omega
    refine (drop_s c0 F g n m s ts x y z d w (hs.mono (ent_pu ⟨hn, by omega, h3⟩ ent_refl))).mono fun e w' ⟨r, he, h⟩ => ⟨r, he, ?_⟩
    have := out_len hn
    exact h.pu.2.mono (ent_ex _ (ent_ex (z + 1) (ent_ex emp (ent_pu ⟨less_out ts n, by omega, by omega, by omega⟩ (by rw [emp_star]; exact ent_refl)))))
  · refine (drop0_s c0 F a g m s i ts x y z d w (hs.mono (ent_pu ⟨h1, hi⟩ ent_refl))).mono fun e w' ⟨r, he, h⟩ => ⟨r, he, ?_⟩
    exact h.mono (ent_ex ts (ent_ex z (ent_ex _ (ent_pu ⟨less_same ts, by omega, by omega, by omega⟩ ent_refl))))
theorem set_getElem {α : Type} {l : List α} {i : Nat} {x : α} (h : l[i]? = some x) (f : α → Bool) (y : α) : (l.set i y).countP f + (if f x then 1 else 0) = l.countP f + (if f y then 1 else 0) := by
  induction l generalizing i with
  | nil => simp at h
  | cons b l ih =>
    cases i with
    | zero =>
      obtain rfl : b = x := by simpa using h
      simp only [List.set_cons_zero, List.countP_cons]
      omega
    | succ i =>
      have := ih (i := i) (by simpa using h)
      simp only [List.set_cons_succ, List.countP_cons]
      omega
theorem less_swap {ts : List PclD} {i j : Nat} {p q : PclD} (hi : ts[i]? = some p) (hj : ts[j]? = some q) : Less ((ts.set i q).set j p) ts ∧ ((ts.set i q).set j p).length = ts.length := by
  refine ⟨⟨fun r hr => ?_, fun k => ?_⟩, by simp⟩
  · rcases List.mem_or_eq_of_mem_set hr with hr | rfl
    · rcases List.mem_or_eq_of_mem_set hr with hr | rfl
      · exact hr
      · exact List.mem_of_getElem? hj
    · exact List.mem_of_getElem? hi
  · have h1 := set_getElem hi (ser k) q
    have h2 : (ts.set i q)[j]? = some q := by
      by_cases hij : i = j
      · subst hij
        rw [List.getElem?_set, if_pos rfl, if_pos (List.getElem?_eq_some_iff.1 hi).1]
      · rw [List.getElem?_set, if_neg hij, hj]
    have h3 := set_getElem h2 (ser k) p
    omega
theorem swapA_s (c0 : World) (F : HP) (a : Nat → Addr) (g : Nat) (m s i j : Int) (ts : List PclD) (x y z d : Int) : Spec Tryd.prog c0 16 #[.pointer (some ⟨g, 0, none⟩), .int .i64 i, .int .i64 j]
    (pu (ErrB F a ∧ ts.length ≤ 1000) (bagP g m s ts x y z d * F))
    (fun _ => ex fun us : List PclD => ex fun X : HP => pu (Less us ts ∧ us.length = ts.length) (X * (bagP g m s us x y z d * F))) := fun w hs => by
  obtain ⟨⟨h1, h2⟩, hs⟩ := hs.pu
  by_cases hi : (0 ≤ i ∧ i < ts.length) ∧ (0 ≤ j ∧ j < ts.length)
  · obtain ⟨⟨hi1, hi2⟩, hj1, hj2⟩ := hi
    obtain ⟨n, rfl⟩ : ∃ n : Nat, i = n := ⟨i.toNat, by omega⟩
    obtain ⟨k, rfl⟩ : ∃ k : Nat, j = k := ⟨j.toNat, by omega⟩
    have e1 : ts[n]? = some (ts[n]'(by omega)) := List.getElem?_eq_getElem _
    have e2 : ts[k]? = some (ts[k]'(by omega)) := List.getElem?_eq_getElem _
    refine (swap_s c0 F g n k m s ts x y z d _ _ w (hs.mono (ent_pu ⟨e1, e2, by omega⟩ ent_refl))).mono fun e w' ⟨r, he, h⟩ => ⟨r, he, ?_⟩
    exact h.pu.2.mono (ent_ex _ (ent_ex emp (ent_pu (less_swap e1 e2) (by rw [emp_star]; exact ent_refl))))
  · refine (swap0_s c0 F a g m s i j ts x y z d w (hs.mono (ent_pu ⟨h1, hi⟩ ent_refl))).mono fun e w' ⟨r, he, h⟩ => ⟨r, he, ?_⟩
    exact h.mono (ent_ex ts (ent_ex _ (ent_pu ⟨less_same ts, rfl⟩ ent_refl)))
/-- What Double comes to, of a parcel that is there. -/
theorem doubleA_s (c0 : World) (F : HP) (a : Nat → Addr) (g i : Nat) (m s : Int) (ts : List PclD) (x y z d : Int) (p : PclD) (l : List Int) : Spec Tryd.prog c0 15 #[.pointer (some ⟨g, 0, none⟩), .int .i64 i]
    (pu (ErrB F a ∧ ts[i]? = some p ∧ SlR F 1 bytv (.slice p.rawp p.rawn p.rawc) l ∧ l.length ≤ 60 ∧ ts.length ≤ 1000 ∧ Cn d) (bagP g m s ts x y z d * F))
    (fun r => ex fun b : Bool => ex fun tp : TypeId => ex fun pa : Option Addr => ex fun us : List PclD => ex fun d' : Int => ex fun X : HP => pu (r = errV b tp pa ∧ d' - us.length = d - ts.length ∧ d ≤ d' ∧ d' ≤ d + 1 ∧ (b = true → d' = d + 1 ∧ (ts.length : Int) < m ∧ ∃ gb : Nat, us = ts ++ [⟨p.serial, p.src, p.dst, some ⟨gb, 0, none⟩, l.length, l.length⟩] ∧ SlR X 1 bytv (.slice (some ⟨gb, 0, none⟩) l.length l.length) l) ∧ (b = false → us = ts ∧ d' = d)) (X * (bagP g m s us x y z d' * F))) := fun w hs => by
  obtain ⟨⟨h1, h2, h3, h4, h5, h6⟩, hs⟩ := hs.pu
  have hil := (List.getElem?_eq_some_iff.1 h2).1
  by_cases hm : (ts.length : Int) < m
  · refine (double_s c0 F g i m s ts x y z d p l w (hs.mono (ent_pu ⟨h2, h3, by omega, by omega, h6, hm⟩ ent_refl))).mono fun e w' ⟨r, he, h⟩ => ⟨r, he, ?_⟩
    obtain ⟨gb, h⟩ := h.ex
    obtain ⟨hv, h⟩ := h.pu
    exact h.mono (ent_ex true (ent_ex 0 (ent_ex none (ent_ex _ (ent_ex (d + 1) (ent_ex _ (ent_pu ⟨hv, by simp; omega, by omega, by omega, fun _ => ⟨rfl, hm, gb, rfl, fun w hw => slr_row (R := emp) bytv_size w (hw.mono ent_last)⟩, (fun h => nomatch h)⟩ ent_refl)))))))
  · refine (doubleF_s c0 F a g i m s ts x y z d w (hs.mono (ent_pu ⟨h1, hil, by omega⟩ ent_refl))).mono fun e w' ⟨r, he, h⟩ => ⟨r, he, ?_⟩
    obtain ⟨te, pe, rfl⟩ := refP_iface h
    exact h.mono (ent_ex false (ent_ex te (ent_ex pe (ent_ex ts (ent_ex d (ent_ex _ (ent_pu ⟨rfl, rfl, by omega, by omega, (fun h => nomatch h), fun _ => ⟨rfl, rfl⟩⟩ ent_refl)))))))
end Go.Proofs.YtlgjippijbepkaaDoor
