/- Edits, right or not, done in turn: what becomes of a text, and what takes them back. -/
import Derived.Test.YtgoifgockcpnhaaDoorZDC5BF
set_option linter.unusedSimpArgs false
set_option linter.unusedVariables false
namespace Go.Proofs.YtgoifgockcpnhaaDoor
open Go Go.RowKit

/-- An edit as meant at a text, or what is wrong with it. -/
def asE (t : List Int) (e : EdtD) : Except Nat Ed :=
  if e.at_ < 0 ∨ (t.length : Int) < e.at_ ∨ e.er < 0 ∨ (t.length : Int) - e.at_ < e.er then .error 2
  else match runesL e.ins.data.toList with
    | none => .error 3
    | some m => .ok ⟨e.at_.toNat, e.er.toNat, m⟩
/-- All in turn: the text, and what takes them back (the last one first). -/
def apA (i : Nat) (t : List Int) (B : List Ed) : List EdtD → Except (Nat × Nat) (List Int × List Ed)
  | [] => .ok (t, B)
  | e :: l => match asE t e with
    | .error k => .error (i, k)
    | .ok d => apA (i + 1) (ap1 t d) (bk1 t d :: B) l
theorem bkE_cons (t : List Int) (d : Ed) (l : List Ed) : bkE t (d :: l) = bkE (ap1 t d) l ++ [bk1 t d] := by rw [bkE]
theorem apA_nil (i : Nat) (t : List Int) (B : List Ed) : apA i t B [] = .ok (t, B) := rfl
theorem apA_no {i : Nat} {t : List Int} {B : List Ed} {e : EdtD} {l : List EdtD} {k : Nat} (h : asE t e = .error k) : apA i t B (e :: l) = .error (i, k) := by unfold apA; rw [h]
theorem apA_yes {i : Nat} {t : List Int} {B : List Ed} {e : EdtD} {l : List EdtD} {d : Ed} (h : asE t e = .ok d) : apA i t B (e :: l) = apA (i + 1) (ap1 t d) (bk1 t d :: B) l := by rw [apA, h]
theorem asE_range {t : List Int} {e : EdtD} (h : e.at_ < 0 ∨ (t.length : Int) < e.at_ ∨ e.er < 0 ∨ (t.length : Int) - e.at_ < e.er) : asE t e = .error 2 := by unfold asE; rw [if_pos h]
theorem asE_text {t : List Int} {e : EdtD} (h : ¬ (e.at_ < 0 ∨ (t.length : Int) < e.at_ ∨ e.er < 0 ∨ (t.length : Int) - e.at_ < e.er)) (hm : runesL e.ins.data.toList = none) : asE t e = .error 3 := by unfold asE; rw [if_neg h, hm]
theorem asE_ok {t : List Int} {e : EdtD} {m : List Int} (h : ¬ (e.at_ < 0 ∨ (t.length : Int) < e.at_ ∨ e.er < 0 ∨ (t.length : Int) - e.at_ < e.er)) (hm : runesL e.ins.data.toList = some m) : asE t e = .ok ⟨e.at_.toNat, e.er.toNat, m⟩ := by unfold asE; rw [if_neg h, hm]
/-- An edit in the document's form. -/
theorem asE_enc {t : List Int} {d : Ed} (h : okE t d) (hI : ∀ c, c ∈ d.ins → RuneI c) : asE t (encE d) = .ok d := by
  obtain ⟨h1, h2⟩ := h
  have := asE_ok (t := t) (e := encE d) (m := d.ins) (by show ¬ ((d.at_ : Int) < 0 ∨ (t.length : Int) < (d.at_ : Int) ∨ (d.er : Int) < 0 ∨ (t.length : Int) - (d.at_ : Int) < (d.er : Int)); omega) (runes_rts hI)
  rw [this]
  show Except.ok (⟨(d.at_ : Int).toNat, (d.er : Int).toNat, d.ins⟩ : Ed) = Except.ok d
  rw [Int.toNat_natCast, Int.toNat_natCast]
theorem asE_okE {t : List Int} {e : EdtD} {d : Ed} (h : asE t e = .ok d) : okE t d ∧ (∀ c, c ∈ d.ins → RuneI c) ∧ d.ins.length ≤ e.ins.size ∧ runesL e.ins.data.toList = some d.ins ∧ e.at_ = d.at_ ∧ e.er = d.er := by
  unfold asE at h
  split at h
  · cases h
  · rename_i hn
    split at h
    · cases h
    · rename_i m hm
      cases h
      refine ⟨⟨?_, ?_⟩, runes_in hm, runes_len hm, hm, ?_, ?_⟩ <;> simp only <;> omega
theorem apA_enc : ∀ (l : List Ed) (i : Nat) (t u : List Int) (B : List Ed), (∀ d, d ∈ l → ∀ c, c ∈ d.ins → RuneI c) → apE t l = some u → apA i t B (l.map encE) = .ok (u, bkE t l ++ B)
  | [], _, t, u, B, _, h => by cases h; rfl
  | d :: l, i, t, u, B, hI, h => by
    unfold apE at h
    split at h
    · rename_i hok
      rw [zk, apA_yes (asE_enc hok (hI d (List.mem_cons_self ..))), apA_enc l (i + 1) _ u _ (fun d' h' => hI d' (List.mem_cons_of_mem _ h')) h]
      rw [bkE_cons, List.append_assoc]
      rfl
    · cases h
theorem apA_ok : ∀ (l : List EdtD) (i : Nat) (t u : List Int) (B C : List Ed), apA i t B l = .ok (u, C) → ∃ ds, ds.length = l.length ∧ apE t ds = some u ∧ C = bkE t ds ++ B
  | [], _, t, u, B, C, h => by cases h; exact ⟨[], rfl, rfl, rfl⟩
  | e :: l, i, t, u, B, C, h => by
    cases ha : asE t e with
    | error k => rw [apA_no ha] at h; cases h
    | ok d =>
      rw [apA_yes ha] at h
      obtain ⟨ds, h1, h2, h3⟩ := apA_ok l (i + 1) _ u _ C h
      refine ⟨d :: ds, by simp [h1], ?_, ?_⟩
      · unfold apE
        rw [if_pos (asE_okE ha).1]
        exact h2
      · rw [h3]
        rw [bkE_cons, List.append_assoc]
        rfl
theorem ap1_len {t : List Int} {d : Ed} (h : okE t d) : (ap1 t d).length + d.er = t.length + d.ins.length := by
  obtain ⟨h1, h2⟩ := h
  unfold ap1
  simp only [List.length_append, List.length_take, List.length_drop]
  omega
theorem ap1_in {t : List Int} {d : Ed} (ht : ∀ c, c ∈ t → RuneI c) (hd : ∀ c, c ∈ d.ins → RuneI c) : ∀ c, c ∈ ap1 t d → RuneI c := fun c hc => by
  unfold ap1 at hc
  rcases List.mem_append.1 hc with h | h
  · rcases List.mem_append.1 h with h | h
    · exact ht c (List.mem_of_mem_take h)
    · exact hd c h
  · exact ht c (List.mem_of_mem_drop h)
theorem bk1_in {t : List Int} {d : Ed} (ht : ∀ c, c ∈ t → RuneI c) : ∀ c, c ∈ (bk1 t d).ins → RuneI c := fun c hc => ht c (List.mem_of_mem_drop (List.mem_of_mem_take hc))
/-- What stays true of the text and the back edits: all characters are right, and how many there are. -/
theorem apA_in : ∀ (l : List EdtD) (i : Nat) (t u : List Int) (B C : List Ed), (∀ c, c ∈ t → RuneI c) → (∀ d, d ∈ B → ∀ c, c ∈ d.ins → RuneI c) → apA i t B l = .ok (u, C) → (∀ c, c ∈ u → RuneI c) ∧ (∀ d, d ∈ C → ∀ c, c ∈ d.ins → RuneI c)
  | [], _, t, u, B, C, ht, hB, h => by cases h; exact ⟨ht, hB⟩
  | e :: l, i, t, u, B, C, ht, hB, h => by
    cases ha : asE t e with
    | error k => rw [apA_no ha] at h; cases h
    | ok d =>
      rw [apA_yes ha] at h
      refine apA_in l (i + 1) _ u _ C (ap1_in ht (asE_okE ha).2.1) (fun d' hd' => ?_) h
      rcases List.mem_cons.1 hd' with rfl | hd'
      · exact bk1_in ht
      · exact hB d' hd'
/-- What Apply and Invert answer. -/
def apR (s : ByteArray) (l : List EdtD) : Except (Nat × Nat) (List Int × List Ed) := match runesL s.data.toList with
  | none => .error (0, 3)
  | some t => apA 0 t [] l
/-- What edits have done, their back edits take back. -/
theorem apR_back {s : ByteArray} {l : List EdtD} {u : List Int} {C : List Ed} (h : apR s l = .ok (u, C)) : ∃ t D, runesL s.data.toList = some t ∧ C.length = l.length ∧ apR (rts u) (C.map encE) = .ok (t, D) := by
  unfold apR at h
  split at h
  · cases h
  · rename_i t ht
    obtain ⟨ds, h1, h2, h3⟩ := apA_ok l 0 t u [] C h
    obtain ⟨h4, h5⟩ := apA_in l 0 t u [] C (runes_in ht) (by simp) h
    rw [List.append_nil] at h3
    refine ⟨t, bkE u C ++ [], ht, by rw [h3, bkE_len, h1], ?_⟩
    unfold apR
    rw [runes_rts h4]
    exact apA_enc C 0 u t [] h5 (by rw [h3]; exact apE_bkE ds t u h2)
end Go.Proofs.YtgoifgockcpnhaaDoor
