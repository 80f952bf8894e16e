/- A reading that goes on or is refused, and what it takes: the plain law of parts that are written and read. -/
import Derived.Test.YtegebjflhhbmiaaDoorZQC6AT
set_option linter.unusedSimpArgs false
set_option linter.unusedVariables false
namespace Go.Proofs.YtegebjflhhbmiaaDoor
open Go Go.RowKit

/-- Why a reading was refused, and at which place: by the layer below (which call, which reason), or for its form. -/
abbrev PE := Nat × Option (ByteArray × Nat)
abbrev Pr (α : Type) := List Int → Nat → Except PE (α × Nat)
def Pr.bind {α β : Type} (x : Pr α) (f : α → Pr β) : Pr β := fun R p => match x R p with
  | .ok (a, q) => f a R q
  | .error e => .error e
def Pr.ret {α : Type} (a : α) : Pr α := fun _ p => .ok (a, p)
section
variable {α β γ : Type}
theorem Pr.bind_ok {x : Pr α} {f : α → Pr β} {R : List Int} {p q : Nat} {a : α} (h : x R p = .ok (a, q)) : x.bind f R p = f a R q := by unfold Pr.bind; rw [h]
theorem Pr.bind_no {x : Pr α} {f : α → Pr β} {R : List Int} {p : Nat} {e : PE} (h : x R p = .error e) : x.bind f R p = .error e := by unfold Pr.bind; rw [h]
theorem Pr.bind_inv {x : Pr α} {f : α → Pr β} {R : List Int} {p r : Nat} {b : β} (h : x.bind f R p = .ok (b, r)) : ∃ a q, x R p = .ok (a, q) ∧ f a R q = .ok (b, r) := by
  unfold Pr.bind at h
  split at h
  · exact ⟨_, _, by assumption, h⟩
  · cases h
/-- A reading takes what is written of a thing, whatever comes behind, and nothing else. -/
structure Cod (x : Pr α) (enc : α → List Int) (ok : α → Prop) : Prop where
  full : ∀ a R p t, ok a → R.drop p = enc a ++ t → x R p = .ok (a, p + (enc a).length)
  back : ∀ R p a q, (∀ b, b ∈ R → InB b) → p ≤ R.length → x R p = .ok (a, q) → ok a ∧ q = p + (enc a).length ∧ q ≤ R.length ∧ R.drop p = enc a ++ R.drop q
theorem drop_plus {R e t : List Int} {p : Nat} (h : R.drop p = e ++ t) : R.drop (p + e.length) = t := by rw [← List.drop_drop, h, List.drop_left]
theorem Cod.ret (a : α) : Cod (Pr.ret a) (fun _ => []) (fun b => b = a) :=
  ⟨fun b R p t hb _ => by subst hb; rfl, fun R p b q _ hp h => by cases h; exact ⟨rfl, rfl, hp, rfl⟩⟩
/-- One behind another. -/
theorem Cod.seq {x : Pr α} {f : α → Pr β} {ea : α → List Int} {eb : α → β → List Int} {oa : α → Prop} {ob : α → β → Prop} (hx : Cod x ea oa) (hf : ∀ a, oa a → Cod (f a) (eb a) (ob a)) (g : α → β → γ) (pa : γ → α) (pb : γ → β)
    (h1 : ∀ a b, oa a → ob a b → pa (g a b) = a ∧ pb (g a b) = b) :
    Cod (x.bind fun a => (f a).bind fun b => Pr.ret (g a b)) (fun c => ea (pa c) ++ eb (pa c) (pb c)) (fun c => oa (pa c) ∧ ob (pa c) (pb c) ∧ g (pa c) (pb c) = c) :=
  ⟨fun c R p t ⟨ha, hb, hc⟩ hR => by
    rw [List.append_assoc] at hR
    rw [Pr.bind_ok (hx.full _ R p _ ha hR), Pr.bind_ok ((hf _ ha).full _ R _ t hb (drop_plus hR))]
    unfold Pr.ret
    rw [hc, List.length_append, Nat.add_assoc],
  fun R p c q hI hp h => by
    obtain ⟨a, q1, h3, h4⟩ := Pr.bind_inv h
    obtain ⟨b, q2, h5, h6⟩ := Pr.bind_inv h4
    cases h6
    obtain ⟨k1, k2, k3, k4⟩ := hx.back R p a q1 hI hp h3
    obtain ⟨k5, k6, k7, k8⟩ := (hf a k1).back R q1 b q hI k3 h5
    obtain ⟨e1, e2⟩ := h1 a b k1 k5
    rw [e1, e2]
    refine ⟨⟨k1, k5, rfl⟩, by rw [List.length_append]; omega, k7, by rw [k4, k8, List.append_assoc]⟩⟩
/-- The same in other words. -/
theorem Cod.as {x : Pr α} {ea eb : α → List Int} {oa ob : α → Prop} (h : Cod x ea oa) (he : ∀ a, oa a → eb a = ea a) (ho : ∀ a, ob a ↔ oa a) : Cod x eb ob :=
  ⟨fun a R p t ha hR => by
    have hoa := (ho a).1 ha
    rw [he a hoa] at hR ⊢
    exact h.full a R p t hoa hR,
  fun R p a q hI hp hx => by
    obtain ⟨k1, k2, k3, k4⟩ := h.back R p a q hI hp hx
    rw [he a k1]
    exact ⟨(ho a).2 k1, k2, k3, k4⟩⟩
/-- Through a map that is one to one. -/
theorem Cod.map {x : Pr α} {ea : α → List Int} {oa : α → Prop} (h : Cod x ea oa) (g : α → β) (pa : β → α) (h1 : ∀ a, oa a → pa (g a) = a) :
    Cod (x.bind fun a => Pr.ret (g a)) (fun b => ea (pa b)) (fun b => oa (pa b) ∧ g (pa b) = b) :=
  ⟨fun b R p t ⟨hb, he⟩ hR => by rw [Pr.bind_ok (h.full _ R p t hb hR)]; unfold Pr.ret; rw [he],
  fun R p b q hI hp hx => by
    obtain ⟨a, q1, h3, h4⟩ := Pr.bind_inv hx
    cases h4
    obtain ⟨k1, k2, k3, k4⟩ := h.back R p a q hI hp h3
    rw [h1 a k1]
    exact ⟨⟨k1, rfl⟩, k2, k3, k4⟩⟩
/-- Several, one behind another; each knows which it is. -/
def Pr.rep (x : Nat → Pr α) : Nat → Nat → Pr (List α)
  | 0, _ => Pr.ret []
  | n + 1, i => (x i).bind fun a => (Pr.rep x n (i + 1)).bind fun l => Pr.ret (a :: l)
def okR (o : Nat → α → Prop) : Nat → Nat → List α → Prop
  | 0, _, l => l = []
  | n + 1, i, l => ∃ a m, l = a :: m ∧ o i a ∧ okR o n (i + 1) m
theorem Cod.rep {x : Nat → Pr α} {e : α → List Int} {o : Nat → α → Prop} (h : ∀ i, Cod (x i) e (o i)) : ∀ n i, Cod (Pr.rep x n i) (fun l => l.flatMap e) (okR o n i)
  | 0, i => ⟨fun l R p t hl hR => by cases hl; rfl, fun R p l q _ hp hx => by cases hx; exact ⟨rfl, rfl, hp, rfl⟩⟩
  | n + 1, i => ⟨fun l R p t hl hR => by
      obtain ⟨a, m, rfl, ha, hm⟩ := hl
      rw [List.flatMap_cons, List.append_assoc] at hR
      unfold Pr.rep
      rw [Pr.bind_ok ((h i).full a R p _ ha hR), Pr.bind_ok ((Cod.rep h n (i + 1)).full m R _ t hm (drop_plus hR))]
      unfold Pr.ret
      rw [List.flatMap_cons, List.length_append, Nat.add_assoc],
    fun R p l q hI hp hx => by
      unfold Pr.rep at hx
      obtain ⟨a, q1, h3, h4⟩ := Pr.bind_inv hx
      obtain ⟨m, q2, h5, h6⟩ := Pr.bind_inv h4
      cases h6
      obtain ⟨k1, k2, k3, k4⟩ := (h i).back R p a q1 hI hp h3
      obtain ⟨k5, k6, k7, k8⟩ := (Cod.rep h n (i + 1)).back R q1 m q hI k3 h5
      refine ⟨⟨a, m, rfl, k1, k5⟩, by rw [List.flatMap_cons, List.length_append]; omega, k7, by rw [List.flatMap_cons, k4, k8, List.append_assoc]⟩⟩
theorem okR_len {o : Nat → α → Prop} : ∀ {n i : Nat} {l : List α}, okR o n i l → l.length = n
  | 0, _, l, h => by cases h; rfl
  | n + 1, i, l, h => by obtain ⟨a, m, rfl, _, hm⟩ := h; simp [okR_len hm]
theorem okR_iff {o : Nat → α → Prop} : ∀ {n i : Nat} {l : List α}, okR o n i l ↔ l.length = n ∧ ∀ j a, l[j]? = some a → o (i + j) a
  | 0, i, l => ⟨fun h => by cases h; exact ⟨rfl, by simp⟩, fun ⟨h, _⟩ => List.eq_nil_of_length_eq_zero h⟩
  | n + 1, i, l => by
    constructor
    · rintro ⟨a, m, rfl, ha, hm⟩
      obtain ⟨h1, h2⟩ := okR_iff.1 hm
      refine ⟨by simp [h1], fun j b hj => ?_⟩
      cases j with
      | zero => cases hj; exact ha
      | succ j => have := h2 j b hj; rwa [show i + 1 + j = i + (j + 1) by omega] at this
    · rintro ⟨h1, h2⟩
      cases l with
      | nil => cases h1
      | cons a m => exact ⟨a, m, rfl, h2 0 a rfl, okR_iff.2 ⟨by simpa using h1, fun j b hj => by have := h2 (j + 1) b hj; rwa [show i + 1 + j = i + (j + 1) by omega]⟩⟩
/-- Of two writings one is never the beginning of the other. -/
theorem Cod.free {x : Pr α} {e : α → List Int} {o : α → Prop} (h : Cod x e o) {a b : α} {s t : List Int} (ha : o a) (hb : o b) (hs : e a ++ s = e b ++ t) : a = b := by
  have h1 := h.full a (e a ++ s) 0 s ha rfl
  have h2 := h.full b (e a ++ s) 0 t hb hs
  rw [h1] at h2
  cases h2
  rfl
end
/-! ### numbers and bytes -/
/-- A number from least to most. -/
def pIn (least : Nat) (most : Int) : Pr Nat := fun R p => match (⟨R, p, none⟩ : RdS).xNum most with
  | .ok (n, q) => if n < least then .error (p, none) else .ok (n, q)
  | .error k => .error (p, some (cNumber, k))
/-- A byte from 1 to most. -/
def pKind (most : Int) : Pr Int := fun R p => match (⟨R, p, none⟩ : RdS).xByte with
  | .ok (b, q) => if b < 1 ∨ most < b then .error (p, none) else .ok (b, q)
  | .error k => .error (p, some (cByte, k))
/-- How many things come. -/
def pCount (least most : Int) : Pr Nat := fun R p => match (⟨R, p, none⟩ : RdS).xCount least most with
  | .ok (n, q) => .ok (n, q)
  | .error k => .error (p, some (cCount, k))
theorem xNum_full {R t : List Int} {n p : Nat} {most : Int} (hn : n < 9223372036854775808) (hm : (n : Int) ≤ most) (h : R.drop p = form n ++ t) : (⟨R, p, none⟩ : RdS).xNum most = .ok (n, p + (form n).length) := by
  unfold RdS.xNum
  simp only [h]
  rw [rd0_form t hn hm]
theorem cod_in (least : Nat) (most : Int) : Cod (pIn least most) form (fun n => least ≤ n ∧ (n : Int) ≤ most ∧ n < 9223372036854775808) :=
  ⟨fun n R p t ⟨h1, h2, h3⟩ hR => by
    unfold pIn
    rw [xNum_full h3 h2 hR]
    simp only
    rw [if_neg (by omega)],
  fun R p n q hI hp h => by
    unfold pIn at h
    split at h
    · rename_i m r hx
      split at h
      · cases h
      · cases h
        obtain ⟨h1, h2, h3, h4, h5⟩ := RdS.xNum_ok (s := ⟨R, p, none⟩) ⟨hp, hI⟩ hx
        simp only at h1 h2 h5
        refine ⟨⟨by omega, h3, h4⟩, h1, h2, ?_⟩
        have e1 : R = R.take p ++ R.drop p := (List.take_append_drop p R).symm
        have e2 : R = R.take q ++ R.drop q := (List.take_append_drop q R).symm
        rw [h5, List.append_assoc] at e2
        have := e1.symm.trans e2
        exact List.append_cancel_left this
    · cases h⟩
theorem drop_one {R : List Int} {p : Nat} {b : Int} (h : R[p]? = some b) : R.drop p = [b] ++ R.drop (p + 1) := by
  obtain ⟨hp, rfl⟩ := List.getElem?_eq_some_iff.1 h
  exact List.drop_eq_getElem_cons hp
theorem cod_kind (most : Int) (hm : most ≤ 255) : Cod (pKind most) (fun b => [b]) (fun b => 1 ≤ b ∧ b ≤ most) :=
  ⟨fun b R p t ⟨h1, h2⟩ hR => by
    have : R[p]? = some b := by have h0 : (R.drop p)[0]? = some b := by rw [hR]; rfl
                                rwa [List.getElem?_drop, Nat.add_zero] at h0
    unfold pKind RdS.xByte
    simp only [this]
    rw [if_neg (by omega)]
    rfl,
  fun R p b q hI hp h => by
    unfold pKind RdS.xByte at h
    simp only at h
    split at h
    · rename_i c r hx
      split at hx
      · rename_i b0 hb0
        cases hx
        split at h
        · cases h
        · cases h
          have := (List.getElem?_eq_some_iff.1 hb0).1
          exact ⟨by omega, rfl, by omega, drop_one hb0⟩
      · cases hx
    · cases h⟩
end Go.Proofs.YtegebjflhhbmiaaDoor
