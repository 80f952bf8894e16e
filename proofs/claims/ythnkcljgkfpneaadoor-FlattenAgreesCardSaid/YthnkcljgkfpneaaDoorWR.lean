/- A session of desks, played. -/
import Derived.Test.YthnkcljgkfpneaaDoorWQ
set_option linter.unusedSimpArgs false
set_option linter.unusedVariables false
namespace Go.Proofs.YthnkcljgkfpneaaDoor
open Go Go.RowKit

def ptrs (ps : Nat → Nat) (k : Nat) : List (Option Addr) := (List.range k).map fun i => some ⟨ps i, 0, none⟩
def clks (H : Nat → Nat → Int) (k : Nat) : List (Nat → Int) := (List.range k).map H
@[go_sem] theorem ptrs_len (ps : Nat → Nat) (k : Nat) : (ptrs ps k).length = k := by simp [ptrs]
@[go_sem] theorem clks_len (H : Nat → Nat → Int) (k : Nat) : (clks H k).length = k := by simp [clks]
theorem ptrs_at {ps : Nat → Nat} {k a : Nat} (h : a < k) : (ptrs ps k)[a]? = some (some ⟨ps a, 0, none⟩) := by
  unfold ptrs
  rw [List.getElem?_map, List.getElem?_range h]
  rfl
theorem clks_at {H : Nat → Nat → Int} {k a : Nat} (h : a < k) : (clks H k)[a]? = some (H a) := by
  unfold clks
  rw [List.getElem?_map, List.getElem?_range h]
  rfl
theorem clks_set {H : Nat → Nat → Int} {k a : Nat} {f : Nat → Int} : (clks H k).set a f = clks (updH H a f) k := by
  unfold clks
  apply List.ext_getElem?
  intro i
  rw [List.getElem?_set]
  by_cases hi : i < k
  · by_cases hia : a = i
    · subst hia
      rw [if_pos rfl, if_pos (by simpa using hi), List.getElem?_map, List.getElem?_range hi]
      simp [updH_same]
    · rw [if_neg hia, List.getElem?_map, List.getElem?_map, List.getElem?_range hi]
      simp [updH_other _ _ (fun h : i = a => hia h.symm)]
  · have h1 : ((List.range k).map H)[i]? = none := List.getElem?_eq_none (by simp; omega)
    have h2 : ((List.range k).map (updH H a f))[i]? = none := List.getElem?_eq_none (by simp; omega)
    rw [h2]
    split
    · rename_i h; subst h; rw [if_neg (by simpa using hi)]
    · exact h1
abbrev wrlB (g : Nat) (x : WrlD) : HP := blk g (.cells (wrl x) 49 (0, 0))
/-- A session with k desks so far. -/
def playK (g n k : Nat) (ps : Nat → Nat) (R : Nat → Nat → RoundD) (H : Nat → Nat → Int) (S : List (Nat → RoundD)) : HP := ex fun d : SlD => ex fun h : SlD => ex fun s : SlD =>
  wrlB g ⟨d.p, d.n, d.c, h.p, h.n, h.c, s.p, s.n, s.c⟩ * (row 51 1 ptv (.slice d.p d.n d.c) (ptrs ps k) * (row 23 8 clk (.slice h.p h.n h.c) (clks H k) * (row 38 144 rnds (.slice s.p s.n s.c) S * desksF n ps R k)))
theorem play_open {g n k : Nat} {ps : Nat → Nat} {R : Nat → Nat → RoundD} {H : Nat → Nat → Int} {S : List (Nat → RoundD)} {F : HP} {c0 w : World} (hs : Sat c0 (playK g n k ps R H S * F) w) :
    ∃ A cA B cB D cD, Sat c0 (wrlB g ⟨A, k, cA, B, k, cB, D, S.length, cD⟩ * (row 51 1 ptv (.slice A k cA) (ptrs ps k) * (row 23 8 clk (.slice B k cB) (clks H k) * (row 38 144 rnds (.slice D S.length cD) S * (desksF n ps R k * F))))) w := by
  unfold playK at hs
  rw [ex_star] at hs
  obtain ⟨d, hs⟩ := hs.ex
  rw [ex_star] at hs
  obtain ⟨h, hs⟩ := hs.ex
  rw [ex_star] at hs
  obtain ⟨s, hs⟩ := hs.ex
  simp only [star_assoc] at hs
  obtain ⟨A, cA, e1, _, _⟩ := row_slice (v := .slice d.p d.n d.c) (l := ptrs ps k) (E := 51) (s := 1) (enc := ptv) (hs.own.mono (by (focus ((repeat (first | (with_reducible exact ent_here) | (with_reducible apply ent_next) | (with_reducible exact ent_last))); done))))
  obtain ⟨B, cB, e2, _, _⟩ := row_slice (v := .slice h.p h.n h.c) (l := clks H k) (E := 23) (s := 8) (enc := clk) (hs.own.mono (by (focus ((repeat (first | (with_reducible exact ent_here) | (with_reducible apply ent_next) | (with_reducible exact ent_last))); done))))
  obtain ⟨D, cD, e3, _, _⟩ := row_slice (v := .slice s.p s.n s.c) (l := S) (E := 38) (s := 144) (enc := rnds) (hs.own.mono (by (focus ((repeat (first | (with_reducible exact ent_here) | (with_reducible apply ent_next) | (with_reducible exact ent_last))); done))))
  obtain ⟨a1, a2, a3⟩ := sl_inj e1
  obtain ⟨b1, b2, b3⟩ := sl_inj e2
  obtain ⟨d1, d2, d3⟩ := sl_inj e3
  rw [ptrs_len] at a2
  rw [clks_len] at b2
  rw [a1, a2, a3, b1, b2, b3, d1, d2, d3] at hs
  exact ⟨A, cA, B, cB, D, cD, hs⟩
theorem play_shut {g n k : Nat} {ps : Nat → Nat} {R : Nat → Nat → RoundD} {H : Nat → Nat → Int} {S : List (Nat → RoundD)} {F : HP} {A B D : Option Addr} {a cA b cB d cD : Nat} :
    Ent (wrlB g ⟨A, a, cA, B, b, cB, D, d, cD⟩ * (row 51 1 ptv (.slice A a cA) (ptrs ps k) * (row 23 8 clk (.slice B b cB) (clks H k) * (row 38 144 rnds (.slice D d cD) S * (desksF n ps R k * F))))) (playK g n k ps R H S * F) := by
  unfold playK
  rw [ex_star]
  refine ent_ex ⟨A, a, cA⟩ ?_
  rw [ex_star]
  refine ent_ex ⟨B, b, cB⟩ ?_
  rw [ex_star]
  refine ent_ex ⟨D, d, cD⟩ ?_
  simp only [star_assoc]
  exact ent_refl
theorem play_to {H : HP} {g n k : Nat} {ps : Nat → Nat} {R : Nat → Nat → RoundD} {H' : Nat → Nat → Int} {S : List (Nat → RoundD)} {F : HP} {A B D : Option Addr} {a cA b cB d cD : Nat} (h : Ent H (wrlB g ⟨A, a, cA, B, b, cB, D, d, cD⟩ * (row 51 1 ptv (.slice A a cA) (ptrs ps k) * (row 23 8 clk (.slice B b cB) (clks H' k) * (row 38 144 rnds (.slice D d cD) S * (desksF n ps R k * F)))))) : Ent H (playK g n k ps R H' S * F) := ent_trans h play_shut
/-- What a session comes to. -/
structure PlayOk (n : Nat) (R : Nat → Nat → RoundD) (H : Nat → Nat → Int) (S : List (Nat → RoundD)) : Prop where
  inv : ∃ B, Inv n B R H S
  cut : ∀ d, d < n → ∀ c, c < n → (R d c).dec = 1 → ∀ b, b < n → clkEq (H b) (R d c).cut = true ∧ (b ≠ d → frozenB b (R b) = true)
  len : S.length ≤ 100
theorem play_ret {c0 w : World} {gw k : Nat} {ps : Nat → Nat} {R : Nat → Nat → RoundD} {H : Nat → Nat → Int} {S : List (Nat → RoundD)} {F : HP} (hok : PlayOk k R H S) (hs : Sat c0 (playK gw k k ps R H S * F) w) :
    Sat c0 (ex fun g => ex fun x : (Nat → Nat) × (Nat → Nat → RoundD) × (Nat → Nat → Int) × List (Nat → RoundD) => pu (Value.pointer (some ⟨gw, 0, none⟩) = .pointer (some ⟨g, 0, none⟩) ∧ PlayOk k x.2.1 x.2.2.1 x.2.2.2) (playK g k k x.1 x.2.1 x.2.2.1 x.2.2.2 * F)) w :=
  hs.mono (ent_ex gw (ent_ex (ps, R, H, S) (ent_pu ⟨rfl, hok⟩ ent_refl)))
theorem set1_dec {n s i : Nat} {h : Nat → Int} {r : RoundD} (hi : i ≠ s) : (set1 n s h i r).dec = r.dec := by
  unfold set1
  split
  · exact (vot1_num s h r).2.2
  · rfl
/-- The end of each move: votes and decisions, and what is known is said. -/
theorem step_end {n B B' a : Nat} {R : Nat → Nat → RoundD} {H : Nat → Nat → Int} {S : List (Nat → RoundD)} (hI : Inv n B R H S) (hN : NoC n R S) (ha : a < n) (hB : B ≤ B') :
    Inv n B' (updD R a (setF n a (H a) n (R a))) H (S ++ [updD R a (setF n a (H a) n (R a)) a]) ∧
    (doneB (updD R a (setF n a (H a) n (R a)) a) = false → NoC n (updD R a (setF n a (H a) n (R a))) (S ++ [updD R a (setF n a (H a) n (R a)) a])) ∧
    (doneB (updD R a (setF n a (H a) n (R a)) a) = true → ∀ d, d < n → ∀ c, c < n → (updD R a (setF n a (H a) n (R a)) d c).dec = 1 → ∀ b, b < n → clkEq (H b) (updD R a (setF n a (H a) n (R a)) d c).cut = true ∧ (b ≠ d → frozenB b (updD R a (setF n a (H a) n (R a)) b) = true)) := by
  have h1 := (inv_settle hI ha).room hB
  refine ⟨inv_said h1 ha, fun hd => ?_, fun _ d hd c hc hdc b hb => ?_⟩
  · rw [updD_same] at hd ⊢
    exact noC_said hI.n8 hN hd
  · refine inv_cut h1 (fun i hi c hc => hN.1 i hi c hc) (fun c hc hca => ?_) ha hd hc hdc b hb
    rw [setF_all, if_pos hc, set1_dec hca]
    exact hN.1 a ha c hc
theorem done_len {n : Nat} {S : List (Nat → RoundD)} {f : Nat → RoundD} (h : S.length < 100) : (S ++ [f]).length ≤ 100 := by simp; omega
/-- What a move comes to, ahead of its end. -/
def Mv (n B : Nat) (R : Nat → Nat → RoundD) (H : Nat → Nat → Int) (S : List (Nat → RoundD)) : Prop := Inv n (B + 1) R H S ∧ NoC n R S
section
variable {n B a : Nat} {R : Nat → Nat → RoundD} {H : Nat → Nat → Int} {S : List (Nat → RoundD)}
theorem mv_same (hI : Inv n B R H S) (hN : NoC n R S) : Mv n B R H S := ⟨hI.room (by omega), hN⟩
theorem mv_prop (hI : Inv n B R H S) (hN : NoC n R S) {Q : Nat → Nat → RoundD} (hQ : Q = updD R a (updR (R a) a (prop1 (R a a) (H a))) ∨ Q = R) (ha : a < n) : Mv n B Q H S := by
  rcases hQ with rfl | rfl
  · exact ⟨(inv_propose hI ha).room (by omega), noC_propose hN ha⟩
  · exact mv_same hI hN
theorem mv_join (hI : Inv n B R H S) (hN : NoC n R S) (ha : a < n) {b : Nat} (hb : b < n) : Mv n B (updD R a (joinF (R a) (R b))) H S :=
  ⟨(inv_join hI ha _ (.inr ⟨b, hb, rfl⟩)).room (by omega), noC_join hN ha _ (.inr ⟨b, hb, rfl⟩)⟩
theorem mv_old (hI : Inv n B R H S) (hN : NoC n R S) (ha : a < n) {b : Nat} (hb : b < S.length) : Mv n B (updD R a (joinF (R a) (S.getD b rnds0))) H S := by
  have hm : S.getD b rnds0 ∈ S := by
    rw [List.getD, List.getElem?_eq_getElem hb]
    exact List.getElem_mem hb
  exact ⟨(inv_join hI ha _ (.inl hm)).room (by omega), noC_join hN ha _ (.inl hm)⟩
theorem mv_old2 (hI : Inv n B R H S) (hN : NoC n R S) (ha : a < n) {b : Nat} (hb : b < S.length) : Mv n B (updD R a (joinF (R a) (S[b]?.getD rnds0))) H S := mv_old hI hN ha hb
theorem mv_act (hI : Inv n B R H S) (hN : NoC n R S) (ha : a < n) (hf : (!frozenB a (R a)) = true) : Mv n B R (updH H a (setAt (H a) a (H a a + 1))) S :=
  ⟨inv_act hI hN ha (by simpa using hf), hN⟩
theorem mv_have (hI : Inv n B R H S) (hN : NoC n R S) (ha : a < n) {b : Nat} (hb : b < n) : Mv n B R (updH H a (mrgC (H a) (H b))) S :=
  ⟨(inv_have hI ha hb).room (by omega), hN⟩
theorem close_ret (h : Mv n B R H S) (ha : a < n) (hl : S.length < 100) (hd : doneB (updD R a (setF n a (H a) n (R a)) a) = true) : PlayOk n (updD R a (setF n a (H a) n (R a))) H (S ++ [updD R a (setF n a (H a) n (R a)) a]) := by
  obtain ⟨h1, h2, h3⟩ := step_end h.1 h.2 ha (Nat.le_refl _)
  exact ⟨⟨_, h1⟩, h3 hd, done_len (n := n) hl⟩
theorem close_go (h : Mv n B R H S) (ha : a < n) (hd : doneB (updD R a (setF n a (H a) n (R a)) a) = false) : Inv n (B + 1) (updD R a (setF n a (H a) n (R a))) H (S ++ [updD R a (setF n a (H a) n (R a)) a]) ∧ NoC n (updD R a (setF n a (H a) n (R a))) (S ++ [updD R a (setF n a (H a) n (R a)) a]) := by
  obtain ⟨h1, h2, h3⟩ := step_end h.1 h.2 ha (Nat.le_refl _)
  exact ⟨h1, h2 hd⟩
theorem use_pos {C : Prop} {n : Nat} (h : 0 < n) (f : 0 < n → C) : C := f h
theorem with_ok {A B P C : Prop} (hc : A → B → P) (h : P → C) (a : A) (b : B) : C := h (hc a b)
theorem with_ret {C : Prop} (hd : doneB (updD R a (setF n a (H a) n (R a)) a) = true) (h : doneB (updD R a (setF n a (H a) n (R a)) a) = true → C) : C := h hd
theorem with_go {C : Prop} (hd : doneB (updD R a (setF n a (H a) n (R a)) a) = false) (h : doneB (updD R a (setF n a (H a) n (R a)) a) = false → C) : C := h hd
theorem with_mv {C : Prop} {n B : Nat} {R : Nat → Nat → RoundD} {H : Nat → Nat → Int} {S : List (Nat → RoundD)} (hm : Mv n B R H S) (h : Mv n B R H S → C) : C := h hm
end
end Go.Proofs.YthnkcljgkfpneaaDoor
