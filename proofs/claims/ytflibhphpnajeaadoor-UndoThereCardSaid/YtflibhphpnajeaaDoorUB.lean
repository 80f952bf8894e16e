/- The pair of stacks: each call, whatever there is to undo. -/
import Derived.Test.YtflibhphpnajeaaDoorUA
set_option linter.unusedSimpArgs false
set_option linter.unusedVariables false
namespace Go.Proofs.YtflibhphpnajeaaDoor
open Go Go.RowKit

/-! ### what the calls come to -/
def uL (dn : List (List ChgD)) : List ChgD := match dn.getLast? with | none => [] | some l => backL l
def rL (un : List (List ChgD)) : List ChgD := match un.getLast? with | none => [] | some l => againL l
def uO (dn : List (List ChgD)) : Option (List LinkD × Nat) := match dn.getLast? with | none => some ([⟨⟨#[117, 110, 100, 111]⟩, ⟨#[85, 110, 100, 111]⟩, -1⟩], 12) | some _ => none
def rO (un : List (List ChgD)) : Option (List LinkD × Nat) := match un.getLast? with | none => some ([⟨⟨#[117, 110, 100, 111]⟩, ⟨#[82, 101, 100, 111]⟩, -1⟩], 12) | some _ => none
def mv1 (x y : List (List ChgD)) : List (List ChgD) := match x.getLast? with | none => y | some l => y ++ [l]
def dDn (dn : List (List ChgD)) (l : List ChgD) : List (List ChgD) := if l = [] then dn else pushL dn l
def dUn (un : List (List ChgD)) (l : List ChgD) : List (List ChgD) := if l = [] then un else []
structure Ok64 (dn un : List (List ChgD)) : Prop where
  len : dn.length + un.length ≤ 64
  d20 : ∀ l, l ∈ dn → l.length ≤ 20
  u20 : ∀ l, l ∈ un → l.length ≤ 20
theorem Ok64.len2d {dn un : List (List ChgD)} (h : Ok64 dn un) : Len2 dn := fun l hl => by have := h.d20 l hl; omega
theorem Ok64.len2u {dn un : List (List ChgD)} (h : Ok64 dn un) : Len2 un := fun l hl => by have := h.u20 l hl; omega
theorem Ok64.undo {dn un : List (List ChgD)} (h : Ok64 dn un) : Ok64 dn.dropLast (mv1 dn un) := by
  rcases List.eq_nil_or_concat dn with rfl | ⟨d, l, rfl⟩
  · simpa [mv1] using h
  · have h1 := h.len
    rw [List.concat_eq_append] at *
    simp only [List.length_append, List.length_cons, List.length_nil] at h1
    refine ⟨by simp [mv1]; omega, fun x hx => h.d20 x (by simp at hx ⊢; exact .inl hx), fun x hx => ?_⟩
    simp only [mv1, List.getLast?_append, List.getLast?_singleton, Option.some_or, List.mem_append, List.mem_singleton] at hx
    rcases hx with hx | rfl
    · exact h.u20 x hx
    · exact h.d20 x (by simp)
theorem Ok64.swap {dn un : List (List ChgD)} (h : Ok64 dn un) : Ok64 un dn := ⟨by have := h.len; omega, h.u20, h.d20⟩
theorem Ok64.redo {dn un : List (List ChgD)} (h : Ok64 dn un) : Ok64 (mv1 un dn) un.dropLast := h.swap.undo.swap
theorem Ok64.done {dn un : List (List ChgD)} (h : Ok64 dn un) {l : List ChgD} (hl : l.length ≤ 20) : Ok64 (dDn dn l) (dUn un l) := by
  unfold dDn dUn
  split
  · exact h
  · refine ⟨?_, fun x hx => ?_, fun x hx => by cases hx⟩
    · have := pushL_len (l := l) (dn := dn) (by have := h.len; omega)
      simpa using this
    · unfold pushL pushB at hx
      rw [List.mem_append, List.mem_singleton] at hx
      rcases hx with hx | rfl
      · refine h.d20 x ?_
        split at hx
        · exact List.mem_of_mem_drop hx
        · exact hx
      · exact hl
theorem ok64_nil : Ok64 [] [] := ⟨by simp, fun _ h => (by cases h), fun _ h => (by cases h)⟩
theorem takeUA_s (c0 : World) (F : HP) (gs : Nat) (dn un : List (List ChgD)) (a : Nat → Addr) : Spec Tryd.prog c0 20 #[.pointer (some ⟨gs, 0, none⟩)]
    (pu (ErrA F a ∧ Ok64 dn un) (stk gs dn un * F)) (fun r => ex fun b => ex fun e => pu (r = .tuple #[b, e]) (row 33 4 chg b (uL dn) * (RefP a (uO dn) e * (stk gs dn.dropLast (mv1 dn un) * F)))) := fun w hs => by
  obtain ⟨⟨hE, h64⟩, hs⟩ := hs.pu
  have hlen := h64.len
  rcases List.eq_nil_or_concat dn with rfl | ⟨d0, l, rfl⟩
  · refine (undoR_s c0 F gs un a w (hs.mono (ent_pu hE ent_refl))).mono fun x w' ⟨v, hx, h⟩ => ⟨v, hx, ?_⟩
    obtain ⟨e, h⟩ := h.ex
    obtain ⟨hv, h⟩ := h.pu
    exact h.mono (ent_ex _ (ent_ex e (ent_pu hv ent_row_nil)))
  · rw [List.concat_eq_append] at *
    have hl20 : l.length ≤ 20 := h64.d20 l (by simp)
    simp only [List.length_append, List.length_cons, List.length_nil] at hlen
    refine (undo_s c0 F gs d0 un l w (hs.mono (ent_pu ⟨by omega, by omega, by omega⟩ ent_refl))).mono fun x w' ⟨v, hx, h⟩ => ⟨v, hx, ?_⟩
    obtain ⟨b, h⟩ := h.ex
    obtain ⟨hv, h⟩ := h.pu
    simp only [uL, uO, mv1, List.getLast?_append, List.getLast?_singleton, Option.some_or, List.dropLast_concat] at h ⊢
    exact h.mono (ent_ex b (ent_ex _ (ent_pu hv (star_mono ent_refl (by unfold RefP; rw [pu_star]; exact ent_pu rfl (by rw [emp_star]; exact ent_refl))))))
theorem takeRA_s (c0 : World) (F : HP) (gs : Nat) (dn un : List (List ChgD)) (a : Nat → Addr) : Spec Tryd.prog c0 23 #[.pointer (some ⟨gs, 0, none⟩)]
    (pu (ErrA F a ∧ Ok64 dn un) (stk gs dn un * F)) (fun r => ex fun b => ex fun e => pu (r = .tuple #[b, e]) (row 33 4 chg b (rL un) * (RefP a (rO un) e * (stk gs (mv1 un dn) un.dropLast * F)))) := fun w hs => by
  obtain ⟨⟨hE, h64⟩, hs⟩ := hs.pu
  have hlen := h64.len
  rcases List.eq_nil_or_concat un with rfl | ⟨d0, l, rfl⟩
  · refine (redoR_s c0 F gs dn a w (hs.mono (ent_pu hE ent_refl))).mono fun x w' ⟨v, hx, h⟩ => ⟨v, hx, ?_⟩
    obtain ⟨e, h⟩ := h.ex
    obtain ⟨hv, h⟩ := h.pu
    exact h.mono (ent_ex _ (ent_ex e (ent_pu hv ent_row_nil)))
  · rw [List.concat_eq_append] at *
    have hl20 : l.length ≤ 20 := h64.u20 l (by simp)
    simp only [List.length_append, List.length_cons, List.length_nil] at hlen
    refine (redo_s c0 F gs dn d0 l w (hs.mono (ent_pu ⟨by omega, by omega, by omega⟩ ent_refl))).mono fun x w' ⟨v, hx, h⟩ => ⟨v, hx, ?_⟩
    obtain ⟨b, h⟩ := h.ex
    obtain ⟨hv, h⟩ := h.pu
    simp only [rL, rO, mv1, List.getLast?_append, List.getLast?_singleton, Option.some_or, List.dropLast_concat, show pushL dn l = dn ++ [l] from by unfold pushL pushB; rw [if_neg (by omega)]] at h ⊢
    exact h.mono (ent_ex b (ent_ex _ (ent_pu hv (star_mono ent_refl (by unfold RefP; rw [pu_star]; exact ent_pu rfl (by rw [emp_star]; exact ent_refl))))))
theorem peekUA_s (c0 : World) (F : HP) (gs : Nat) (dn un : List (List ChgD)) (a : Nat → Addr) : Spec Tryd.prog c0 46 #[.pointer (some ⟨gs, 0, none⟩), .bool false]
    (pu (ErrA F a ∧ Ok64 dn un) (stk gs dn un * F)) (fun r => ex fun b => ex fun e => pu (r = .tuple #[b, e]) (row 33 4 chg b (uL dn) * (RefP a (uO dn) e * (stk gs dn un * F)))) := fun w hs => by
  obtain ⟨⟨hE, h64⟩, hs⟩ := hs.pu
  have hlen := h64.len
  rcases List.eq_nil_or_concat dn with rfl | ⟨d0, l, rfl⟩
  · refine (peekU0_s c0 F gs un a w (hs.mono (ent_pu hE ent_refl))).mono fun x w' ⟨v, hx, h⟩ => ⟨v, hx, ?_⟩
    obtain ⟨b, h⟩ := h.ex
    obtain ⟨e, h⟩ := h.ex
    obtain ⟨hv, h⟩ := h.pu
    exact h.mono (ent_ex b (ent_ex e (ent_pu hv ent_refl)))
  · rw [List.concat_eq_append] at *
    have hl20 : l.length ≤ 20 := h64.d20 l (by simp)
    simp only [List.length_append, List.length_cons, List.length_nil] at hlen
    refine (peekU_s c0 F gs d0 un l w (hs.mono (ent_pu ⟨by omega, by omega, by omega⟩ ent_refl))).mono fun x w' ⟨v, hx, h⟩ => ⟨v, hx, ?_⟩
    obtain ⟨b, h⟩ := h.ex
    obtain ⟨hv, h⟩ := h.pu
    simp only [uL, uO, List.getLast?_append, List.getLast?_singleton, Option.some_or, List.dropLast_concat] at h ⊢
    exact h.mono (ent_ex b (ent_ex _ (ent_pu hv (star_mono ent_refl (by unfold RefP; rw [pu_star]; exact ent_pu rfl (by rw [emp_star]; exact ent_refl))))))
theorem peekRA_s (c0 : World) (F : HP) (gs : Nat) (dn un : List (List ChgD)) (a : Nat → Addr) : Spec Tryd.prog c0 46 #[.pointer (some ⟨gs, 0, none⟩), .bool true]
    (pu (ErrA F a ∧ Ok64 dn un) (stk gs dn un * F)) (fun r => ex fun b => ex fun e => pu (r = .tuple #[b, e]) (row 33 4 chg b (rL un) * (RefP a (rO un) e * (stk gs dn un * F)))) := fun w hs => by
  obtain ⟨⟨hE, h64⟩, hs⟩ := hs.pu
  have hlen := h64.len
  rcases List.eq_nil_or_concat un with rfl | ⟨d0, l, rfl⟩
  · refine (peekR0_s c0 F gs dn a w (hs.mono (ent_pu hE ent_refl))).mono fun x w' ⟨v, hx, h⟩ => ⟨v, hx, ?_⟩
    obtain ⟨b, h⟩ := h.ex
    obtain ⟨e, h⟩ := h.ex
    obtain ⟨hv, h⟩ := h.pu
    exact h.mono (ent_ex b (ent_ex e (ent_pu hv ent_refl)))
  · rw [List.concat_eq_append] at *
    have hl20 : l.length ≤ 20 := h64.u20 l (by simp)
    simp only [List.length_append, List.length_cons, List.length_nil] at hlen
    refine (peekR_s c0 F gs dn d0 l w (hs.mono (ent_pu ⟨by omega, by omega, by omega⟩ ent_refl))).mono fun x w' ⟨v, hx, h⟩ => ⟨v, hx, ?_⟩
    obtain ⟨b, h⟩ := h.ex
    obtain ⟨hv, h⟩ := h.pu
    simp only [rL, rO, List.getLast?_append, List.getLast?_singleton, Option.some_or, List.dropLast_concat] at h ⊢
    exact h.mono (ent_ex b (ent_ex _ (ent_pu hv (star_mono ent_refl (by unfold RefP; rw [pu_star]; exact ent_pu rfl (by rw [emp_star]; exact ent_refl))))))
theorem rtakeUA_s (c0 : World) (F : HP) (gs : Nat) (dn un : List (List ChgD)) (a : Nat → Addr) : Spec Tryd.prog c0 44 #[.pointer (some ⟨gs, 0, none⟩), .bool false]
    (pu (ErrA F a ∧ Ok64 dn un) (rstk gs dn un * F)) (fun r => ex fun b => ex fun e : NoD => pu (r = .tuple #[b, .agg (nov e)]) (row 33 4 chg b (uL dn) * (NoP (uO dn) e * (rstk gs dn.dropLast (mv1 dn un) * F)))) := fun w hs => by
  obtain ⟨⟨hE, h64⟩, hs⟩ := hs.pu
  have hlen := h64.len
  rcases List.eq_nil_or_concat dn with rfl | ⟨d0, l, rfl⟩
  · refine (rTakeU0_s c0 F gs un w (hs)).mono fun x w' ⟨v, hx, h⟩ => ⟨v, hx, ?_⟩
    obtain ⟨e, h⟩ := h.ex
    obtain ⟨hv, h⟩ := h.pu
    exact h.mono (ent_ex _ (ent_ex e (ent_pu hv ent_row_nil)))
  · rw [List.concat_eq_append] at *
    have hl20 : l.length ≤ 20 := h64.d20 l (by simp)
    simp only [List.length_append, List.length_cons, List.length_nil] at hlen
    refine (rTakeU_s c0 F gs d0 un l w (hs.mono (ent_pu ⟨by omega, by omega, by omega⟩ ent_refl))).mono fun x w' ⟨v, hx, h⟩ => ⟨v, hx, ?_⟩
    obtain ⟨b, h⟩ := h.ex
    obtain ⟨m, h⟩ := h.ex
    obtain ⟨⟨hv, hm⟩, h⟩ := h.pu
    simp only [uL, uO, mv1, List.getLast?_append, List.getLast?_singleton, Option.some_or, List.dropLast_concat, show pushL un l = un ++ [l] from by unfold pushL pushB; rw [if_neg (by omega)]] at h ⊢
    exact h.mono (ent_ex b (ent_ex m (ent_pu hv (star_mono ent_refl (by unfold NoP; rw [pu_star]; exact ent_pu hm (by rw [emp_star]; exact ent_refl))))))
theorem rtakeRA_s (c0 : World) (F : HP) (gs : Nat) (dn un : List (List ChgD)) (a : Nat → Addr) : Spec Tryd.prog c0 44 #[.pointer (some ⟨gs, 0, none⟩), .bool true]
    (pu (ErrA F a ∧ Ok64 dn un) (rstk gs dn un * F)) (fun r => ex fun b => ex fun e : NoD => pu (r = .tuple #[b, .agg (nov e)]) (row 33 4 chg b (rL un) * (NoP (rO un) e * (rstk gs (mv1 un dn) un.dropLast * F)))) := fun w hs => by
  obtain ⟨⟨hE, h64⟩, hs⟩ := hs.pu
  have hlen := h64.len
  rcases List.eq_nil_or_concat un with rfl | ⟨d0, l, rfl⟩
  · refine (rTakeR0_s c0 F gs dn w (hs)).mono fun x w' ⟨v, hx, h⟩ => ⟨v, hx, ?_⟩
    obtain ⟨e, h⟩ := h.ex
    obtain ⟨hv, h⟩ := h.pu
    exact h.mono (ent_ex _ (ent_ex e (ent_pu hv ent_row_nil)))
  · rw [List.concat_eq_append] at *
    have hl20 : l.length ≤ 20 := h64.u20 l (by simp)
    simp only [List.length_append, List.length_cons, List.length_nil] at hlen
    refine (rTakeR_s c0 F gs dn d0 l w (hs.mono (ent_pu ⟨by omega, by omega, by omega⟩ ent_refl))).mono fun x w' ⟨v, hx, h⟩ => ⟨v, hx, ?_⟩
    obtain ⟨b, h⟩ := h.ex
    obtain ⟨m, h⟩ := h.ex
    obtain ⟨⟨hv, hm⟩, h⟩ := h.pu
    simp only [rL, rO, mv1, List.getLast?_append, List.getLast?_singleton, Option.some_or, List.dropLast_concat, show pushL dn l = dn ++ [l] from by unfold pushL pushB; rw [if_neg (by omega)]] at h ⊢
    exact h.mono (ent_ex b (ent_ex m (ent_pu hv (star_mono ent_refl (by unfold NoP; rw [pu_star]; exact ent_pu hm (by rw [emp_star]; exact ent_refl))))))
theorem rpeekUA_s (c0 : World) (F : HP) (gs : Nat) (dn un : List (List ChgD)) (a : Nat → Addr) : Spec Tryd.prog c0 47 #[.pointer (some ⟨gs, 0, none⟩), .bool false]
    (pu (ErrA F a ∧ Ok64 dn un) (rstk gs dn un * F)) (fun r => ex fun b => ex fun e : NoD => pu (r = .tuple #[b, .agg (nov e)]) (row 33 4 chg b (uL dn) * (NoP (uO dn) e * (rstk gs dn un * F)))) := fun w hs => by
  obtain ⟨⟨hE, h64⟩, hs⟩ := hs.pu
  have hlen := h64.len
  rcases List.eq_nil_or_concat dn with rfl | ⟨d0, l, rfl⟩
  · refine (rPeekU0_s c0 F gs un w (hs)).mono fun x w' ⟨v, hx, h⟩ => ⟨v, hx, ?_⟩
    obtain ⟨e, h⟩ := h.ex
    obtain ⟨hv, h⟩ := h.pu
    exact h.mono (ent_ex _ (ent_ex e (ent_pu hv ent_row_nil)))
  · rw [List.concat_eq_append] at *
    have hl20 : l.length ≤ 20 := h64.d20 l (by simp)
    simp only [List.length_append, List.length_cons, List.length_nil] at hlen
    refine (rPeekU_s c0 F gs d0 un l w (hs.mono (ent_pu ⟨by omega, by omega, by omega⟩ ent_refl))).mono fun x w' ⟨v, hx, h⟩ => ⟨v, hx, ?_⟩
    obtain ⟨b, h⟩ := h.ex
    obtain ⟨m, h⟩ := h.ex
    obtain ⟨⟨hv, hm⟩, h⟩ := h.pu
    simp only [uL, uO, List.getLast?_append, List.getLast?_singleton, Option.some_or, List.dropLast_concat] at h ⊢
    exact h.mono (ent_ex b (ent_ex m (ent_pu hv (star_mono ent_refl (by unfold NoP; rw [pu_star]; exact ent_pu hm (by rw [emp_star]; exact ent_refl))))))
theorem rpeekRA_s (c0 : World) (F : HP) (gs : Nat) (dn un : List (List ChgD)) (a : Nat → Addr) : Spec Tryd.prog c0 47 #[.pointer (some ⟨gs, 0, none⟩), .bool true]
    (pu (ErrA F a ∧ Ok64 dn un) (rstk gs dn un * F)) (fun r => ex fun b => ex fun e : NoD => pu (r = .tuple #[b, .agg (nov e)]) (row 33 4 chg b (rL un) * (NoP (rO un) e * (rstk gs dn un * F)))) := fun w hs => by
  obtain ⟨⟨hE, h64⟩, hs⟩ := hs.pu
  have hlen := h64.len
  rcases List.eq_nil_or_concat un with rfl | ⟨d0, l, rfl⟩
  · refine (rPeekR0_s c0 F gs dn w (hs)).mono fun x w' ⟨v, hx, h⟩ => ⟨v, hx, ?_⟩
    obtain ⟨e, h⟩ := h.ex
    obtain ⟨hv, h⟩ := h.pu
    exact h.mono (ent_ex _ (ent_ex e (ent_pu hv ent_row_nil)))
  · rw [List.concat_eq_append] at *
    have hl20 : l.length ≤ 20 := h64.u20 l (by simp)
    simp only [List.length_append, List.length_cons, List.length_nil] at hlen
    refine (rPeekR_s c0 F gs dn d0 l w (hs.mono (ent_pu ⟨by omega, by omega, by omega⟩ ent_refl))).mono fun x w' ⟨v, hx, h⟩ => ⟨v, hx, ?_⟩
    obtain ⟨b, h⟩ := h.ex
    obtain ⟨m, h⟩ := h.ex
    obtain ⟨⟨hv, hm⟩, h⟩ := h.pu
    simp only [rL, rO, List.getLast?_append, List.getLast?_singleton, Option.some_or, List.dropLast_concat] at h ⊢
    exact h.mono (ent_ex b (ent_ex m (ent_pu hv (star_mono ent_refl (by unfold NoP; rw [pu_star]; exact ent_pu hm (by rw [emp_star]; exact ent_refl))))))
theorem doneA_s (c0 : World) (F : HP) (gs : Nat) (dn un : List (List ChgD)) (v : Value) (l : List ChgD) : Spec Tryd.prog c0 18 #[.pointer (some ⟨gs, 0, none⟩), v]
    (pu (SlR F 4 chg v l ∧ l.length ≤ 20 ∧ Ok64 dn un) (stk gs dn un * F)) (fun _ => stk gs (dDn dn l) (dUn un l) * F) := fun w hs => by
  obtain ⟨⟨hv, hl, h64⟩, hs2⟩ := hs.pu
  clear hs
  have hlen := h64.len
  by_cases h0 : l = []
  · subst h0
    exact done0_s c0 (stk gs dn un * F) gs v w (hs2.mono (ent_pu (slr_next hv) ent_refl))
  · have := List.length_pos_iff.2 h0
    unfold dDn dUn
    rw [if_neg h0, if_neg h0]
    exact done_s c0 F gs dn un v l w (hs2.mono (ent_pu ⟨hv, this, by omega, by omega⟩ ent_refl))
theorem rPushA_s (c0 : World) (F : HP) (gs : Nat) (dn un : List (List ChgD)) (v : Value) (l : List ChgD) : Spec Tryd.prog c0 43 #[.pointer (some ⟨gs, 0, none⟩), v]
    (pu (SlR F 4 chg v l ∧ l.length ≤ 20 ∧ Ok64 dn un) (rstk gs dn un * F)) (fun _ => rstk gs (dDn dn l) (dUn un l) * F) := fun w hs => by
  obtain ⟨⟨hv, hl, h64⟩, hs2⟩ := hs.pu
  clear hs
  have hlen := h64.len
  by_cases h0 : l = []
  · subst h0
    exact rPush0_s c0 (rstk gs dn un * F) gs v w (hs2.mono (ent_pu (slr_next hv) ent_refl))
  · have := List.length_pos_iff.2 h0
    unfold dDn dUn
    rw [if_neg h0, if_neg h0]
    exact rPush_s c0 F gs dn un v l w (hs2.mono (ent_pu ⟨hv, this, by omega, by omega⟩ ent_refl))
end Go.Proofs.YtflibhphpnajeaaDoor
