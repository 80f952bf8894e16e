/- Slices whose elements are structs: read as lists, owned, appended to. -/
import Derived.Test.YtegebjflhhbmiaaDoorZQC6AB
import Derived.Maps.AppendAt
set_option linter.unusedSimpArgs false
set_option linter.unusedVariables false
namespace Go.Proofs.YtegebjflhhbmiaaDoor
open Go Go.RowKit
universe u v

/-! short names of what every walk uses -/
theorem za {α : Type u} {l : List α} {i : Nat} {a : α} : l.getD i a = l[i]?.getD a := List.getD_eq_getElem?_getD
theorem zb {α : Type u} {xs : Array α} {i : Nat} {d : α} : xs.getD i d = xs[i]?.getD d := Array.getD_eq_getD_getElem?
theorem zc {α : Type u} {xs : List α} {i : Nat} : xs.toArray[i]? = xs[i]? := List.getElem?_toArray
theorem zd {α : Type u} {a : α} {l : List α} : (a :: l)[0]? = some a := List.getElem?_cons_zero
theorem ze {α : Type u} {a : α} {i : Nat} {l : List α} : (a :: l)[i + 1]? = l[i]? := List.getElem?_cons_succ
theorem zf {α : Type u} {a b : α} : (some a).getD b = a := Option.getD_some
theorem zg {α : Type u} (l : List α) (i : Nat) (a : α) : l.toArray.setIfInBounds i a = (l.set i a).toArray := List.setIfInBounds_toArray l i a
theorem zh {α : Type u} {x : α} {xs : List α} {a : α} : (x :: xs).set 0 a = a :: xs := List.set_cons_zero
theorem zi {α : Type u} {x : α} {xs : List α} {i : Nat} {a : α} : (x :: xs).set (i + 1) a = x :: xs.set i a := List.set_cons_succ
theorem zj {α : Type u} {β : Type v} {f : α → β} {l : List α} : Array.map f l.toArray = (List.map f l).toArray := List.map_toArray
theorem zk {α : Type u} {β : Type v} {f : α → β} {a : α} {l : List α} : List.map f (a :: l) = f a :: List.map f l := List.map_cons
theorem zl {α : Type u} {β : Type v} {f : α → β} : List.map f ([] : List α) = [] := List.map_nil

abbrev Hp := Nat → Option Obj
def dj (h k : Hp) : Prop := ∀ b, h b = none ∨ k b = none
def un (h k : Hp) : Hp := fun b => (h b).or (k b)
def le (h k : Hp) : Prop := ∀ b o, h b = some o → k b = some o
def In (h : Hp) (w : World) : Prop := ∀ b o, h b = some o → w.heap[b]? = some o
theorem le_refl' (h : Hp) : le h h := fun _ _ h => h
theorem le_trans' {h k l : Hp} (a : le h k) (b : le k l) : le h l := fun x o e => b x o (a x o e)
/-- What is said of a part of memory; it stays true of more. -/
structure HP where
  on : Hp → Prop
  up : ∀ {h k : Hp}, le h k → on h → on k
theorem HP.ext {A B : HP} (h : ∀ x, A.on x ↔ B.on x) : A = B := by
  obtain ⟨f, _⟩ := A
  obtain ⟨g, _⟩ := B
  have : f = g := funext fun x => propext (h x)
  subst this
  rfl
instance : Mul HP := ⟨fun A B => ⟨fun h => ∃ h1 h2, dj h1 h2 ∧ le h1 h ∧ le h2 h ∧ A.on h1 ∧ B.on h2, fun l ⟨h1, h2, d, l1, l2, x⟩ => ⟨h1, h2, d, le_trans' l1 l, le_trans' l2 l, x⟩⟩⟩
def emp : HP := ⟨fun _ => True, fun _ _ => trivial⟩
def pu (p : Prop) (A : HP) : HP := ⟨fun h => p ∧ A.on h, fun l ⟨a, b⟩ => ⟨a, A.up l b⟩⟩
def ex {α : Type} (f : α → HP) : HP := ⟨fun h => ∃ x, (f x).on h, fun l ⟨x, b⟩ => ⟨x, (f x).up l b⟩⟩
def blk (g : Nat) (o : Obj) : HP := ⟨fun h => h g = some o, fun l a => l _ _ a⟩
def Exh (k : Hp) : HP := ⟨fun h => le k h, fun l a => le_trans' a l⟩
def Ent (A B : HP) : Prop := ∀ h, A.on h → B.on h
def Own (H : HP) (w : World) : Prop := ∃ h, H.on h ∧ In h w
structure Sat (c : World) (H : HP) (w : World) : Prop where
  os : w.os = c.os
  tape : w.tape = c.tape
  output : w.output = c.output
  own : Own H w

theorem In.le {h k : Hp} {w : World} (a : le h k) (b : In k w) : In h w := fun x o e => b x o (a x o e)
theorem dj_le {h h' k k' : Hp} (d : dj h k) (a : le h' h) (b : le k' k) : dj h' k' := fun x => by
  cases e : h' x with
  | none => exact .inl rfl
  | some o =>
    cases e' : k' x with
    | none => exact .inr rfl
    | some o' =>
      rcases d x with d | d
      · rw [a x o e] at d; cases d
      · rw [b x o' e'] at d; cases d
theorem dj_comm {h k : Hp} (d : dj h k) : dj k h := fun x => (d x).symm
theorem le_unL (h k : Hp) : le h (un h k) := fun x o e => by simp [un, e]
theorem le_unR {h k : Hp} (d : dj h k) : le k (un h k) := fun x o e => by
  rcases d x with d | d
  · simp [un, d, e]
  · rw [e] at d; cases d
theorem un_le {h k l : Hp} (a : le h l) (b : le k l) : le (un h k) l := fun x o e => by
  unfold un at e
  cases e' : h x with
  | none => rw [e'] at e; exact b x o (by simpa using e)
  | some u => rw [e'] at e; simp at e; subst e; exact a x u e'
theorem dj_un {h k l : Hp} (a : dj h l) (b : dj k l) : dj (un h k) l := fun x => by
  rcases a x with a | a
  · rcases b x with b | b
    · exact .inl (by simp [un, a, b])
    · exact .inr b
  · exact .inr a
theorem un_dj {h k l : Hp} (a : dj l h) (b : dj l k) : dj l (un h k) := dj_comm (dj_un (dj_comm a) (dj_comm b))

section
variable {A A' B B' C R R' H H' : HP} {p : Prop} {α : Type} {f : α → HP} {w w' c : World}
theorem ent_refl : Ent A A := fun _ a => a
theorem ent_trans (a : Ent A B) (b : Ent B C) : Ent A C := fun h x => b h (a h x)
theorem star_mono (a : Ent A A') (b : Ent B B') : Ent (A * B) (A' * B') := fun _ ⟨h1, h2, d, l1, l2, x1, x2⟩ => ⟨h1, h2, d, l1, l2, a _ x1, b _ x2⟩
theorem star_comm : A * B = B * A := HP.ext fun _ => ⟨fun ⟨h1, h2, d, l1, l2, x1, x2⟩ => ⟨h2, h1, dj_comm d, l2, l1, x2, x1⟩, fun ⟨h1, h2, d, l1, l2, x1, x2⟩ => ⟨h2, h1, dj_comm d, l2, l1, x2, x1⟩⟩
theorem ent_comm : Ent (A * B) (B * A) := by rw [star_comm]; exact ent_refl
theorem star_assoc : (A * B) * C = A * (B * C) := by
  refine HP.ext fun h => ⟨?_, ?_⟩
  · rintro ⟨h12, h3, d, l12, l3, ⟨h1, h2, d', l1, l2, x1, x2⟩, x3⟩
    exact ⟨h1, un h2 h3, un_dj d' (dj_le d l1 (le_refl' _)), le_trans' l1 l12, un_le (le_trans' l2 l12) l3, x1, h2, h3, dj_le d l2 (le_refl' _), le_unL _ _, le_unR (dj_le d l2 (le_refl' _)), x2, x3⟩
  · rintro ⟨h1, h23, d, l1, l23, x1, h2, h3, d', l2, l3, x2, x3⟩
    exact ⟨un h1 h2, h3, dj_un (dj_le d (le_refl' _) l3) d', un_le l1 (le_trans' l2 l23), le_trans' l3 l23, ⟨h1, h2, dj_le d (le_refl' _) l2, le_unL _ _, le_unR (dj_le d (le_refl' _) l2), x1, x2⟩, x3⟩
theorem star_emp : A * emp = A := HP.ext fun h => ⟨fun ⟨_, _, _, l1, _, x1, _⟩ => A.up l1 x1, fun x => ⟨h, fun _ => none, fun _ => .inr rfl, le_refl' h, (fun _ _ e => by cases e), x, trivial⟩⟩
theorem emp_star : emp * A = A := by rw [star_comm, star_emp]
theorem ent_left : Ent (A * (B * C)) (B * (A * C)) := by
  rw [← star_assoc, ← star_assoc]
  exact star_mono ent_comm ent_refl
theorem ent_drop : Ent (A * B) B := fun _ ⟨_, _, _, _, l2, _, x2⟩ => B.up l2 x2
theorem ent_keep : Ent (A * B) A := fun _ ⟨_, _, _, l1, _, x1, _⟩ => A.up l1 x1
theorem ent_emp : Ent A emp := fun _ _ => trivial
theorem ent_emp_l : Ent A (emp * A) := by rw [emp_star]; exact ent_refl
theorem ent_here : Ent (A * R) (A * R) := ent_refl
theorem ent_last : Ent A (A * emp) := by rw [star_emp]; exact ent_refl
theorem ent_next (h : Ent R (A * R')) : Ent (B * R) (A * (B * R')) := ent_trans (star_mono ent_refl h) ent_left
theorem ent_front (h : Ent H (A * R)) (h2 : Ent R R') : Ent H (A * R') := ent_trans h (star_mono ent_refl h2)
theorem ent_turn (h : Ent H (A * R)) (h2 : Ent A A') : Ent H (A' * R) := ent_trans h (star_mono h2 ent_refl)
theorem ent_pu (hp : p) (h : Ent A B) : Ent A (pu p B) := fun x a => ⟨hp, h x a⟩
theorem ent_ex (x : α) (h : Ent A (f x)) : Ent A (ex f) := fun k a => ⟨x, h k a⟩
theorem ent_pu_l (h : p → Ent A B) : Ent (pu p A) B := fun k ⟨hp, a⟩ => h hp k a
theorem ent_ex_l (h : ∀ x, Ent (f x) B) : Ent (ex f) B := fun k ⟨x, a⟩ => h x k a
theorem pu_star : pu p A * B = pu p (A * B) := by
  refine HP.ext fun h => ⟨?_, ?_⟩
  · rintro ⟨h1, h2, d, l1, l2, ⟨hp, x1⟩, x2⟩; exact ⟨hp, h1, h2, d, l1, l2, x1, x2⟩
  · rintro ⟨hp, h1, h2, d, l1, l2, x1, x2⟩; exact ⟨h1, h2, d, l1, l2, ⟨hp, x1⟩, x2⟩
theorem ex_star : ex f * B = ex (fun x => f x * B) := by
  refine HP.ext fun h => ⟨?_, ?_⟩
  · rintro ⟨h1, h2, d, l1, l2, ⟨x, x1⟩, x2⟩; exact ⟨x, h1, h2, d, l1, l2, x1, x2⟩
  · rintro ⟨x, h1, h2, d, l1, l2, x1, x2⟩; exact ⟨h1, h2, d, l1, l2, ⟨x, x1⟩, x2⟩
theorem exh_ent {k : Hp} (h : R.on k) : Ent (Exh k) R := fun _ l => R.up l h

theorem Own.mono (h : Own A w) (e : Ent A B) : Own B w := by
  obtain ⟨x, a, i⟩ := h
  exact ⟨x, e x a, i⟩
theorem Sat.mono (h : Sat c A w) (e : Ent A B) : Sat c B w := ⟨h.os, h.tape, h.output, h.own.mono e⟩
theorem Sat.pu (h : Sat c (pu p A) w) : p ∧ Sat c A w := by
  obtain ⟨x, ⟨hp, a⟩, i⟩ := h.own
  exact ⟨hp, h.os, h.tape, h.output, x, a, i⟩
theorem Sat.ex (h : Sat c (ex f) w) : ∃ x, Sat c (f x) w := by
  obtain ⟨k, ⟨x, a⟩, i⟩ := h.own
  exact ⟨x, h.os, h.tape, h.output, k, a, i⟩
theorem Sat.drew (h : Sat c H w) : Sat c H w.drew := ⟨h.os, h.tape, h.output, h.own⟩
theorem Sat.drewN (h : Sat c H w) (n : Nat) : Sat c H (w.drewN n) := ⟨h.os, h.tape, h.output, h.own⟩
theorem Sat.start (w : World) : Sat w (Exh (fun b => w.heap[b]?)) w := ⟨rfl, rfl, rfl, _, fun _ _ h => h, fun _ _ h => h⟩
theorem Own.exh {k : Hp} (h : Own (Exh k) w) : In k w := by
  obtain ⟨x, a, i⟩ := h
  exact i.le a
/-- Everything that was there is as it was. -/
theorem Sat.below {W : World} (h : Sat W (Exh (fun b => W.heap[b]?)) w) : Below W.heap.size W w := by
  have hi := h.own.exh
  have hb : ∀ k, k < W.heap.size → w.heap[k]? = W.heap[k]? := fun k hk => by
    have e : W.heap[k]? = some W.heap[k] := Array.getElem?_eq_getElem hk
    rw [e]; exact hi k _ e
  refine ⟨h.os, h.tape, h.output, ?_, hb⟩
  rcases Nat.lt_or_ge w.heap.size W.heap.size with hlt | hge
  · have := hb w.heap.size hlt
    rw [Array.getElem?_eq_none (Nat.le_refl _), Array.getElem?_eq_getElem hlt] at this
    cases this
  · exact hge
theorem Own.blk {g : Nat} {o : Obj} (h : Own (blk g o * R) w) : w.heap[g]? = some o := by
  obtain ⟨x, ⟨h1, h2, _, l1, _, x1, _⟩, i⟩ := h
  exact i g o (l1 g o x1)
/-- One's own block and new ones may turn. -/
theorem Sat.turn {h1 h1' : Hp} (hos : w'.os = w.os) (htp : w'.tape = w.tape) (hop : w'.output = w.output) (hs : w.os = c.os ∧ w.tape = c.tape ∧ w.output = c.output) {h2 : Hp} (d : dj h1 h2) (i2 : In h2 w) (x2 : R.on h2)
    (hk : ∀ b, h1 b = none → b < w.heap.size → w'.heap[b]? = w.heap[b]?) (x1 : A'.on h1') (i1 : In h1' w') (hn : ∀ b, h1' b ≠ none → h1 b ≠ none ∨ w.heap.size ≤ b) : Sat c (A' * R) w' := by
  have hlt : ∀ b o, h2 b = some o → b < w.heap.size := fun b o e => (Array.getElem?_eq_some_iff.1 (i2 b o e)).1
  have hd : dj h1' h2 := fun b => by
    cases e : h1' b with
    | none => exact .inl rfl
    | some o =>
      cases e2 : h2 b with
      | none => exact .inr rfl
      | some o2 =>
        rcases hn b (by simp [e]) with h | h
        · rcases d b with d | d
          · exact absurd d h
          · rw [e2] at d; cases d
        · have := hlt b o2 e2; omega
  have i2' : In h2 w' := fun b o e => by
    rw [hk b ((d b).resolve_right (by simp [e])) (hlt b o e)]; exact i2 b o e
  refine ⟨hos.trans hs.1, htp.trans hs.2.1, hop.trans hs.2.2, un h1' h2, ⟨h1', h2, hd, le_unL _ _, le_unR hd, x1, x2⟩, fun b o e => ?_⟩
  unfold un at e
  cases e' : h1' b with
  | none => rw [e'] at e; exact i2' b o (by simpa using e)
  | some u => rw [e'] at e; simp at e; subst e; exact i1 b u e'
def one (g : Nat) (o : Obj) : Hp := fun b => if b = g then some o else none
theorem one_in {g : Nat} {o : Obj} (h : w.heap[g]? = some o) : In (one g o) w := fun b u e => by
  unfold one at e
  split at e
  · rename_i hb; subst hb; cases e; exact h
  · cases e
theorem one_ne {g b : Nat} {o : Obj} (h : one g o b ≠ none) : b = g := by
  unfold one at h
  split at h
  · assumption
  · exact absurd rfl h
theorem Sat.upd {g : Nat} {o o' : Obj} (h : Sat c (blk g o * R) w) (hos : w'.os = w.os) (htp : w'.tape = w.tape) (hop : w'.output = w.output) (hb : w'.heap[g]? = some o') (hk : ∀ b, b ≠ g → b < w.heap.size → w'.heap[b]? = w.heap[b]?) : Sat c (blk g o' * R) w' := by
  obtain ⟨x, ⟨h1, h2, d, l1, l2, x1, x2⟩, i⟩ := h.own
  have x1' : h1 g = some o := x1
  refine Sat.turn (h1 := one g o) (h1' := one g o') hos htp hop ⟨h.os, h.tape, h.output⟩ (dj_le d (fun b u e => ?_) (le_refl' _)) (i.le l2) x2 (fun b e hl => hk b (fun hh => by subst hh; simp [one] at e) hl) ?_ (one_in hb) (fun b e => .inl ?_)
  · unfold one at e
    split at e
    · rename_i hb; subst hb; cases e; exact x1'
    · cases e
  · show one g o' g = some o'
    simp [one]
  · have := one_ne e; subst this; simp [one]
theorem Sat.alloc (h : Sat c H w) (o : Obj) : Sat c (blk w.heap.size o * H) (w.alloc o) := by
  obtain ⟨x, a, i⟩ := h.own
  refine Sat.turn (w := w) (w' := w.alloc o) (h1 := fun _ => none) (h1' := one w.heap.size o) rfl rfl rfl ⟨h.os, h.tape, h.output⟩ (fun _ => .inl rfl) i a (fun b _ hl => heap_alloc_old w o hl) ?_ (one_in (heap_alloc_new w o)) (fun b e => .inr ?_)
  · show one _ o _ = some o
    simp [one]
  · have := one_ne e; omega
end
end Go.Proofs.YtegebjflhhbmiaaDoor

set_option linter.unusedSimpArgs false
set_option linter.unusedVariables false
namespace Go.Proofs.YtegebjflhhbmiaaDoor
open Go Go.RowKit

/-- Slice value v, lying below block B, reads as the list l. -/
def SlIs {α : Type} (w : World) (B s : Nat) (enc : α → Array Value) (v : Value) (l : List α) : Prop :=
  ∃ A c, v = .slice A l.length c ∧ l.length ≤ c ∧ c ≤ maxLen ∧ (A = none → c = 0) ∧
    (0 < l.length → ∃ b o, A = some ⟨b, o, none⟩ ∧ b < B ∧ ∀ i a, l[i]? = some a → win w b (o + i * s) s = some (enc a))

section
variable {α : Type} {w w' : World} {B B' s : Nat} {enc : α → Array Value} {v : Value} {l : List α}
theorem SlIs.keep (h : SlIs w B s enc v l) (hk : ∀ b, b < B → w'.heap[b]? = w.heap[b]?) : SlIs w' B s enc v l := by
  obtain ⟨A, c, h1, h2, h3, h3', h4⟩ := h
  refine ⟨A, c, h1, h2, h3, h3', fun hn => ?_⟩
  obtain ⟨b, o, h5, h6, h7⟩ := h4 hn
  exact ⟨b, o, h5, h6, fun i a ha => (win_of_block (hk b h6)).trans (h7 i a ha)⟩
theorem SlIs.more (h : SlIs w B s enc v l) (hB : B ≤ B') : SlIs w B' s enc v l := by
  obtain ⟨A, c, h1, h2, h3, h3', h4⟩ := h
  refine ⟨A, c, h1, h2, h3, h3', fun hn => ?_⟩
  obtain ⟨b, o, h5, h6, h7⟩ := h4 hn
  exact ⟨b, o, h5, by omega, h7⟩
theorem SlIs.below (h : SlIs w B s enc v l) (hb : Below B w w') : SlIs w' B s enc v l := h.keep hb.block
theorem SlIs.below' (h : SlIs w B s enc v l) {C : Nat} (hb : Below C w w') (hB : B ≤ C) : SlIs w' B s enc v l := h.keep fun b hlt => hb.block b (by omega)
theorem SlIs.nil : SlIs w B s enc (.slice none 0 0) ([] : List α) := ⟨none, 0, rfl, Nat.zero_le _, by decide, fun _ => rfl, fun h => absurd h (by simp)⟩
/-- A cut at the front of the row. -/
theorem SlIs.take {A : Option Addr} {n c : Nat} (h : SlIs w B s enc (.slice A n c) l) (k : Nat) (hk : k ≤ n) : SlIs w B s enc (.slice A k c) (l.take k) := by
  obtain ⟨A', c', h1, h2, h3, h3', h4⟩ := h
  injection h1 with e1 e2 e3
  subst e1; subst e2; subst e3
  have hl : (l.take k).length = k := by simp; omega
  refine ⟨A, c, by rw [hl], by omega, h3, h3', fun hn => ?_⟩
  obtain ⟨b, o, h5, h6, h7⟩ := h4 (by omega)
  exact ⟨b, o, h5, h6, fun i a ha => h7 i a (by
    rw [List.getElem?_take] at ha
    split at ha
    · exact ha
    · cases ha)⟩
/-- The element at i: where it lies. -/
theorem SlIs.get {A : Option Addr} {n c : Nat} (h : SlIs w B s enc (.slice A n c) l) {i : Nat} (hi : i < n) :
    ∃ b o a, A = some ⟨b, o, none⟩ ∧ b < B ∧ l[i]? = some a ∧ win w b (o + i * s) s = some (enc a) := by
  obtain ⟨A', c', h1, h2, h3, h3', h4⟩ := h
  injection h1 with e1 e2 e3
  subst e1; subst e2; subst e3
  obtain ⟨b, o, h5, h6, h7⟩ := h4 (by omega)
  exact ⟨b, o, l[i], h5, h6, List.getElem?_eq_getElem hi, h7 i _ (List.getElem?_eq_getElem hi)⟩
theorem SlIs.len {A : Option Addr} {n c : Nat} (h : SlIs w B s enc (.slice A n c) l) : n = l.length ∧ n ≤ c ∧ c ≤ maxLen ∧ (A = none → c = 0) := by
  obtain ⟨A', c', h1, h2, h3, h3', h4⟩ := h
  injection h1 with e1 e2 e3
  subst e1; subst e2; subst e3
  exact ⟨rfl, h2, h3, h3'⟩

/-- A row of the call's own. -/
def flatL (enc : α → Array Value) (l : List α) : List Value := l.flatMap fun a => (enc a).toList
def OwnIs (w : World) (base : Nat) (E : TypeId) (s : Nat) (enc : α → Array Value) (v : Value) (l : List α) : Prop := w.ownsRow base E s v l.length (flatL enc l)

variable {base : Nat} {E : TypeId}
theorem OwnIs.nil (w : World) (base : Nat) (E : TypeId) (s : Nat) (enc : α → Array Value) : OwnIs w base E s enc (.slice none 0 0) ([] : List α) := World.ownsRow_nil w base E s
theorem flatL_length (hs : ∀ a, (enc a).size = s) : ∀ l : List α, (flatL enc l).length = l.length * s
  | [] => by simp [flatL]
  | a :: l => by
    have := flatL_length hs l
    simp only [flatL, List.flatMap_cons, List.length_append, List.length_cons] at this ⊢
    rw [this, Nat.add_mul]
    simp [hs a]
    omega
theorem flatL_at (hs : ∀ a, (enc a).size = s) : ∀ (l : List α) (i : Nat) (a : α), l[i]? = some a → ∀ j, j < s → (flatL enc l)[i * s + j]? = (enc a)[j]?
  | [], i, a, h => by simp at h
  | b :: l, 0, a, h => by
    intro j hj
    simp at h
    subst h
    simp only [flatL, List.flatMap_cons, Nat.zero_mul, Nat.zero_add]
    rw [List.getElem?_append_left (by simp [hs]; exact hj)]
    simp
  | b :: l, i + 1, a, h => by
    intro j hj
    have := flatL_at hs l i a (by simpa using h) j hj
    simp only [flatL, List.flatMap_cons] at this ⊢
    rw [List.getElem?_append_right (by simp [hs, Nat.add_mul]; omega), ← this]
    congr 1
    simp [hs, Nat.add_mul]
    omega
theorem flatL_append (l m : List α) : flatL enc (l ++ m) = flatL enc l ++ flatL enc m := by simp [flatL]
theorem OwnIs.lt (h : OwnIs w base E s enc v l) : ∀ k, v.ownBlock = some k → base ≤ k ∧ k < w.heap.size := World.ownsRow.lt h
theorem OwnIs.keep (h : OwnIs w base E s enc v l) (hk : ∀ k, v.ownBlock = some k → w'.heap[k]? = w.heap[k]?) : OwnIs w' base E s enc v l := by
  refine ⟨h.1, ?_⟩
  rcases h.2 with hn | ⟨g, cap, cur, rfl, hb, hgg, rest⟩
  · exact .inl hn
  · exact .inr ⟨g, cap, cur, rfl, hb, (hk g rfl).trans hgg, rest⟩
theorem OwnIs.below {C : Nat} (h : OwnIs w base E s enc v l) (hb : Below C w w') (hC : w.heap.size ≤ C) : OwnIs w' base E s enc v l := h.keep fun k hk => hb.block k (by have := (h.lt k hk).2; omega)
theorem OwnIs.reads (hs : ∀ a, (enc a).size = s) (h : OwnIs w base E s enc v l) : SlIs w w.heap.size s enc v l := by
  rcases h.2 with ⟨rfl, hn⟩ | ⟨g, cap, cur, rfl, hb, hgg, hnc, hcm, hsz, htake⟩
  · have : l = [] := List.eq_nil_of_length_eq_zero hn
    subst this
    exact SlIs.nil
  · refine ⟨_, cap, rfl, hnc, hcm, (fun h => by cases h), fun hn => ⟨g, 0, rfl, (Array.getElem?_eq_some_iff.1 hgg).1, fun i a ha => ?_⟩⟩
    have hi : i < l.length := (List.getElem?_eq_some_iff.1 ha).1
    have hle : i * s + s ≤ cur.size := by
      rw [hsz, ← Nat.succ_mul]
      exact Nat.mul_le_mul_right s (by omega)
    unfold win
    rw [hgg]
    simp only [Nat.zero_add]
    rw [if_pos hle]
    congr 1
    apply Array.ext_getElem?
    intro j
    by_cases hj : j < s
    · rw [Array.getElem?_extract, if_pos (by omega), ← flatL_at hs l i a ha j hj, ← htake, List.getElem?_take, if_pos ?_]
      · simp
      · have : i * s + s ≤ l.length * s := by rw [← Nat.succ_mul]; exact Nat.mul_le_mul_right s (by omega)
        omega
    · rw [Array.getElem?_eq_none (by simp; omega), Array.getElem?_eq_none (by rw [hs]; omega)]
/-- Where the row lies: below what number of blocks, from which on. -/
theorem OwnIs.form (h : OwnIs w base E s enc v l) : (v = .slice none 0 0 ∧ l = []) ∨ ∃ g cap, v = .slice (some ⟨g, 0, none⟩) l.length cap ∧ base ≤ g ∧ g < w.heap.size ∧ l.length ≤ cap ∧ cap ≤ maxLen ∧ okw w g 0 (cap * s) = true := by
  rcases h.2 with ⟨rfl, hn⟩ | ⟨g, cap, cur, rfl, hb, hgg, hnc, hcm, hsz, htake⟩
  · exact .inl ⟨rfl, List.eq_nil_of_length_eq_zero hn⟩
  · refine .inr ⟨g, cap, rfl, hb, (Array.getElem?_eq_some_iff.1 hgg).1, hnc, hcm, ?_⟩
    unfold okw
    rw [hgg]
    simp [hsz]
end

section
variable {α : Type} {w w' : World} {s : Nat} {enc : α → Array Value} {v : Value} {l : List α} {base : Nat} {E : TypeId}
theorem OwnIs.alloc (h : OwnIs w base E s enc v l) (o : Obj) : OwnIs (w.alloc o) base E s enc v l := World.ownsRow.alloc h o
theorem OwnIs.drew (h : OwnIs w base E s enc v l) : OwnIs w.drew base E s enc v l := h
theorem OwnIs.drewN (h : OwnIs w base E s enc v l) (n : Nat) : OwnIs (w.drewN n) base E s enc v l := h
theorem OwnIs.call (hb : Below w.heap.size w w') (h : OwnIs w base E s enc v l) : OwnIs w' base E s enc v l := h.below hb (Nat.le_refl _)
theorem SlIs.alloc {B : Nat} (h : SlIs w B s enc v l) (hB : B ≤ w.heap.size) (o : Obj) : SlIs (w.alloc o) B s enc v l := h.keep fun b hb => Below.heap_alloc w o b (by omega)
theorem SlIs.drew {B : Nat} (h : SlIs w B s enc v l) : SlIs w.drew B s enc v l := h.keep fun _ _ => rfl
theorem SlIs.drewN {B : Nat} (h : SlIs w B s enc v l) (n : Nat) : SlIs (w.drewN n) B s enc v l := h.keep fun _ _ => rfl
theorem SlIs.call {B C : Nat} (hb : Below C w w') (h : SlIs w B s enc v l) (hB : B ≤ C) : SlIs w' B s enc v l := h.below' hb hB
end

/-! ### a literal slice of one struct ('append(l, x)') -/
@[irreducible] def bsS (t : TypeId) (n : Nat) (parts : Array (Nat × Value)) : Sem Value := Instr.buildSlice t n parts
theorem fold_set (cs : Array Value) : ∀ (l : List Value) (k : Nat) (acc : Array Value), acc.size = cs.size → (∀ j, l[j]? = cs[k + j]?) → k + l.length = cs.size → (∀ j, j < k → acc[j]? = cs[j]?) →
    (l.zipIdx k).foldl (fun (x : Array Value) (y : Value × Nat) => x.setIfInBounds (0 + y.2) y.1) acc = cs
  | [], k, acc, hz, _, hk, ha => by
    apply Array.ext_getElem?
    intro j
    by_cases hj : j < k
    · simpa using ha j hj
    · simp only [List.zipIdx_nil, List.foldl_nil]
      rw [Array.getElem?_eq_none (by simp at hk; omega), Array.getElem?_eq_none (by simp at hk; omega)]
  | v :: l, k, acc, hz, hl, hk, ha => by
    simp only [List.zipIdx_cons, List.foldl_cons]
    refine fold_set cs l (k + 1) _ (by simpa using hz) (fun j => ?_) (by simp at hk; omega) (fun j hj => ?_)
    · have := hl (j + 1)
      simpa [Nat.add_assoc, Nat.add_comm 1 j] using this
    · by_cases h : k = j
      · subst h
        rw [Nat.zero_add, Array.getElem?_setIfInBounds_self_of_lt (by simp at hk; omega)]
        have := hl 0
        simpa using this
      · rw [Nat.zero_add, Array.getElem?_setIfInBounds_ne h]
        exact ha j (by omega)
@[go_sem] def bsOne (P : Program) (t E : TypeId) (s : Nat) (cs : Array Value) (w : World) : Result Value :=
  if cs.size = s then .ok (.slice (some ⟨w.heap.size, 0, none⟩) 1 1) (w.alloc (.cells cs E)) else .halt (.stuck "") w
/-- 'append' of one struct onto a row of the call's own: at the operation itself. -/
theorem wp_append1 {P : Program} {α : Type} {w : World} {a : Act} {K : Act → World → Prop} {Q : Exit → Act → World → Prop} {dst : Option Tmp} {sl x : Operand} {t ty : TypeId} {pos : String} {aft : Array Edge} {gd : Option (Nat × Bool)}
    (base : Nat) (E : TypeId) (s bytes : Nat) (enc : α → Array Value) (v : Value) (l : List α) (e : α) (g c : Nat) (z : Value)
    (ht : P.underlying t = some (.slice E)) (hi : (P.info? E).map (fun i => (i.size, i.zero, i.bytes)) = some (s, some z, bytes)) (hz : z.cells.size = s) (h0 : 0 < s) (hs : ∀ a, (enc a).size = s) (hf : ∀ a, flat (enc a) = true)
    (hv : a.eval sl = v) (hown : OwnIs w base E s enc v l) (hx : a.eval x = .slice (some ⟨g, 0, none⟩) 1 c) (hw : win w g 0 s = some (enc e)) (h63 : l.length + 1 ≤ maxLen) (hb : (l.length + 1) * bytes ≤ 140737488355328) (hbase : base ≤ w.heap.size)
    (h : ∀ v' w', OwnIs w' base E s enc v' (l ++ [e]) → Below base w w' → w.grownBy w' v.ownBlock → (v'.ownBlock = v.ownBlock ∨ v'.ownBlock = some w.heap.size) → K (a.put dst v') w') :
    Oper.wp P ⟨dst, .call ⟨.builtin .append, #[sl, x], #[t, t]⟩, ty, pos, aft, gd⟩ a w K Q := by
  obtain ⟨i, hq, he⟩ := Option.map_eq_some_iff.1 hi
  simp only [Prod.mk.injEq] at he
  obtain ⟨h1, h2, h3⟩ := he
  obtain ⟨v', w', hrun, ho, hg, _, hat⟩ := run_append_own_at (P := P) w base t ty E i z s bytes ht hq h2 h1 h3 hz h0 v l.length (flatL enc l) hown ⟨g, 0, none⟩ 1 c (enc e).toList (by simp [hs])
    (fun j u hu => by
      have hadd : (⟨g, 0, none⟩ : Addr).add j = ⟨g, 0 + j, none⟩ := by unfold Addr.add; split <;> simp_all
      have hj : j < s := by have := (List.getElem?_eq_some_iff.1 hu).1; simpa [hs] using this
      rw [hadd, win_cell hw j hj]
      simpa using hu)
    (fun u hu => Array.all_eq_true_iff_forall_mem.1 (hf e) u (by simpa using hu)) h63 hb hbase
  unfold Oper.wp execOp
  simp only [resolve, invoke, builtin, Sem.run_bind, Sem.run_pure, Result.andThen_ok, List.map_toArray, List.map_cons, List.map_nil, hv, hx, hrun]
  refine h v' w' ?_ ((Below.refl _ _).grown hg hbase (fun k hk => (hown.lt k hk).1)) hg hat
  unfold OwnIs
  rw [flatL_append, List.length_append]
  simpa [flatL] using ho

theorem run_append_of_nil {P : Program} (w : World) (base : Nat) (t ty e : TypeId) (i : TypeInfo) (size : Nat) (ht : P.underlying t = some (.slice e)) (hi : P.info? e = some i)
    (v : Value) (n : Nat) (xs : List Value) (hown : w.ownsRow base e size v n xs) (c : Nat) : (Builtin.append_ #[t, t] ty #[v, .slice none 0 c]).run P w = .ok v w := by
  rcases hown.2 with ⟨rfl, rfl⟩ | ⟨g, cap, cur, rfl, _, _, hnc, _⟩
  · simp [Builtin.append_, run_underlying ht, sizeOf, typeInfo, hi, Builtin.lenOf, Builtin.firstCells]
  · simp [Builtin.append_, run_underlying ht, sizeOf, typeInfo, hi, Builtin.lenOf, Builtin.firstCells, hnc, storeCells]

/-- 'append(l, m...)', l a row of the call's own, m any slice. -/
theorem wp_appendN {P : Program} {α : Type} {w : World} {a : Act} {K : Act → World → Prop} {Q : Exit → Act → World → Prop} {dst : Option Tmp} {sl x : Operand} {t ty : TypeId} {pos : String} {aft : Array Edge} {gd : Option (Nat × Bool)}
    (base : Nat) (E : TypeId) (s bytes : Nat) (enc : α → Array Value) (v : Value) (l m : List α) (u : Value) (B : Nat) (z : Value)
    (ht : P.underlying t = some (.slice E)) (hi : (P.info? E).map (fun i => (i.size, i.zero, i.bytes)) = some (s, some z, bytes)) (hz : z.cells.size = s) (h0 : 0 < s) (hs : ∀ a, (enc a).size = s) (hf : ∀ a, flat (enc a) = true)
    (hv : a.eval sl = v) (hown : OwnIs w base E s enc v l) (hx : a.eval x = u) (hr : SlIs w B s enc u m) (h63 : l.length + m.length ≤ maxLen) (hb : (l.length + m.length) * bytes ≤ 140737488355328) (hbase : base ≤ w.heap.size)
    (h : ∀ v' w', OwnIs w' base E s enc v' (l ++ m) → Below base w w' → w.grownBy w' v.ownBlock → (v'.ownBlock = v.ownBlock ∨ v'.ownBlock = some w.heap.size) → K (a.put dst v') w') :
    Oper.wp P ⟨dst, .call ⟨.builtin .append, #[sl, x], #[t, t]⟩, ty, pos, aft, gd⟩ a w K Q := by
  obtain ⟨i, hq, he⟩ := Option.map_eq_some_iff.1 hi
  simp only [Prod.mk.injEq] at he
  obtain ⟨h1, h2, h3⟩ := he
  obtain ⟨A, c, rfl, hlc, hcm, hnone, hcells⟩ := hr
  cases A with
  | none =>
    obtain rfl := hnone rfl
    have hm : m = [] := List.eq_nil_of_length_eq_zero (by omega)
    subst hm
    have hrun := run_append_of_nil (P := P) w base t ty E i s ht hq v l.length (flatL enc l) hown 0
    unfold Oper.wp execOp
    simp only [resolve, invoke, builtin, Sem.run_bind, Sem.run_pure, Result.andThen_ok, List.map_toArray, List.map_cons, List.map_nil, hv, hx, List.length_nil, hrun]
    exact h v w (by simpa using hown) (Below.refl _ _) (World.grownBy.refl w _) (.inl rfl)
  | some ad =>
    have hcell : ∀ j u, (flatL enc m)[j]? = some u → w.cell? (ad.add j) = some u := by
      intro j u hu
      have hj : j < m.length * s := by have := (List.getElem?_eq_some_iff.1 hu).1; rwa [flatL_length hs] at this
      have hn : 0 < m.length := by
        rcases Nat.eq_zero_or_pos m.length with h | h
        · rw [h, Nat.zero_mul] at hj; omega
        · exact h
      obtain ⟨b, o, hA, _, hw⟩ := hcells hn
      injection hA with hA
      subst hA
      have hdiv : j / s < m.length := (Nat.div_lt_iff_lt_mul h0).2 hj
      have hmod : j % s < s := Nat.mod_lt _ h0
      have hje : j / s * s + j % s = j := by rw [Nat.mul_comm]; exact Nat.div_add_mod j s
      have hat := flatL_at hs m (j / s) _ (List.getElem?_eq_getElem hdiv) (j % s) hmod
      rw [hje] at hat
      have hadd : (⟨b, o, none⟩ : Addr).add j = ⟨b, (o + j / s * s) + j % s, none⟩ := by
        have : (⟨b, o, none⟩ : Addr).add j = ⟨b, o + j, none⟩ := by unfold Addr.add; split <;> simp_all
        rw [this]
        congr 1
        omega
      rw [hadd, win_cell (hw _ _ (List.getElem?_eq_getElem hdiv)) (j % s) hmod, ← hat, hu]
    obtain ⟨v', w', hrun, ho, hg, _, hat⟩ := run_append_own_at (P := P) w base t ty E i z s bytes ht hq h2 h1 h3 hz h0 v l.length (flatL enc l) hown ad m.length c (flatL enc m) (flatL_length hs m) hcell
      (fun u hu => by
        obtain ⟨e, _, hu⟩ := List.mem_flatMap.1 hu
        exact Array.all_eq_true_iff_forall_mem.1 (hf e) u (by simpa using hu)) h63 hb hbase
    unfold Oper.wp execOp
    simp only [resolve, invoke, builtin, Sem.run_bind, Sem.run_pure, Result.andThen_ok, List.map_toArray, List.map_cons, List.map_nil, hv, hx, hrun]
    refine h v' w' ?_ ((Below.refl _ _).grown hg hbase (fun k hk => (hown.lt k hk).1)) hg hat
    unfold OwnIs
    rw [flatL_append, List.length_append]
    exact ho
end Go.Proofs.YtegebjflhhbmiaaDoor
