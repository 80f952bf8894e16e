/- Messages as the program holds them, and what they mean. -/
import Derived.Test.YtegebjflhhbmiaaDoorZQC4BC
import Derived.Test.YtegebjflhhbmiaaDoorZQC4BA
set_option linter.unusedSimpArgs false
set_option linter.unusedVariables false
namespace Go.Proofs.YtegebjflhhbmiaaDoor
open Go Go.RowKit

def nmP (m : MsgP) : MsgP := ⟨m.kind, m.frm, m.epoch, normC m.clock, m.acts.map normA, normR m.rounds⟩
theorem lt8 {i : Nat} (h : i < 8) : i = 0 ∨ i = 1 ∨ i = 2 ∨ i = 3 ∨ i = 4 ∨ i = 5 ∨ i = 6 ∨ i = 7 := by omega
theorem clkEq_iff8 {c d : Nat → Int} : clkEq c d = true ↔ ∀ i, i < 8 → c i = d i := by
  unfold clkEq
  simp only [Bool.and_eq_true, beq_iff_eq]
  constructor
  · rintro ⟨h0, h1, h2, h3, h4, h5, h6, h7⟩ i hi
    rcases lt8 hi with rfl | rfl | rfl | rfl | rfl | rfl | rfl | rfl <;> assumption
  · intro h
    exact ⟨h 0 (by omega), h 1 (by omega), h 2 (by omega), h 3 (by omega), h 4 (by omega), h 5 (by omega), h 6 (by omega), h 7 (by omega)⟩
theorem normC_iff {c d : Nat → Int} : normC c = normC d ↔ ∀ i, i < 8 → c i = d i := by
  constructor
  · intro h i hi
    have := congrFun h i
    rwa [normC_at hi, normC_at hi] at this
  · intro h
    funext i
    unfold normC
    split
    · exact h i (by assumption)
    · rfl
theorem clkEq_norm {c d : Nat → Int} : clkEq c d = true ↔ normC c = normC d := clkEq_iff8.trans normC_iff.symm
theorem normC_clk0 : normC clk0 = clk0 := by funext i; unfold normC clk0; split <;> rfl
theorem actvEq_norm {a b : ActD} : actvEq a b = true ↔ normA a = normA b := by
  unfold actvEq normA
  simp only [Bool.and_eq_true, beq_iff_eq, opvEq_iff, clkEq_norm, ActD.mk.injEq]
theorem actsEq_norm {l m : List ActD} : actsEq l m = true ↔ l.map normA = m.map normA := by
  unfold actsEq
  simp only [Bool.and_eq_true, decide_eq_true_eq, List.all_eq_true, List.mem_range]
  constructor
  · rintro ⟨hl, h⟩
    apply List.ext_getElem?
    intro i
    rw [List.getElem?_map, List.getElem?_map]
    by_cases hi : i < l.length
    · have h1 := h i hi
      rw [za, za, List.getElem?_eq_getElem hi, List.getElem?_eq_getElem (show i < m.length by omega)] at h1
      rw [List.getElem?_eq_getElem hi, List.getElem?_eq_getElem (show i < m.length by omega)]
      exact congrArg some (actvEq_norm.1 h1)
    · rw [List.getElem?_eq_none (by omega), List.getElem?_eq_none (by omega)]
  · intro h
    have hl : l.length = m.length := by have := congrArg List.length h; simpa using this
    refine ⟨hl, fun i hi => ?_⟩
    have h1 := congrArg (fun z => z[i]?) h
    simp only [List.getElem?_map, List.getElem?_eq_getElem hi, List.getElem?_eq_getElem (show i < m.length by omega), Option.map_some] at h1
    rw [za, za, List.getElem?_eq_getElem hi, List.getElem?_eq_getElem (show i < m.length by omega)]
    exact actvEq_norm.2 (Option.some.inj h1)
theorem rndEq_norm {a b : RoundD} : rndEq a b = true ↔ normD a = normD b := by
  unfold rndEq normD
  simp only [Bool.and_eq_true, beq_iff_eq, clkEq_norm, RoundD.mk.injEq]
theorem rndsEq_norm {f g : Nat → RoundD} : rndsEq f g = true ↔ normR f = normR g := by
  rw [rndsEq_iff]
  constructor
  · intro h
    funext i
    unfold normR
    split
    · exact rndEq_norm.1 (h i (by assumption))
    · rfl
  · intro h i hi
    have := congrFun h i
    unfold normR at this
    rw [if_pos hi, if_pos hi] at this
    exact rndEq_norm.2 this
theorem normD_rnd0 : normD rnd0 = rnd0 := by unfold normD rnd0; rw [normC_clk0]
theorem normR_rnds0 : normR rnds0 = noRds := by
  funext i
  unfold normR rnds0 noRds
  split
  · exact normD_rnd0
  · rfl
theorem msgEq_norm {d e : MsgD} {l m : List ActD} : msgEq d e l m = true ↔ nmP (mpOf d l) = nmP (mpOf e m) := by
  unfold msgEq nmP mpOf
  simp only [Bool.and_eq_true, beq_iff_eq, clkEq_norm, rndsEq_norm, actsEq_norm, MsgP.mk.injEq]
  exact ⟨fun ⟨h1, h2, h3, h4, h5, h6⟩ => ⟨h1, h2, h3, h4, h6, h5⟩, fun ⟨h1, h2, h3, h4, h6, h5⟩ => ⟨h1, h2, h3, h4, h5, h6⟩⟩
/-! ### the writing does not look beyond -/
theorem encRow_norm (c : Nat → Int) : encRow (normC c) = encRow c := by
  have hu : usedN (normC c) 8 = usedN c 8 := usedN_congr 8 fun i hi => normC_at hi
  have hle := usedN_le c 8
  unfold encRow rowOf
  rw [hu]
  congr 2
  exact List.map_congr_left fun i hi => by rw [normC_at (by have := List.mem_range.1 hi; omega)]
theorem encAct_norm (a : ActD) : encAct (normA a) = encAct a := by
  unfold encAct normA
  simp only [encRow_norm]
theorem encActs_norm (l : List ActD) : encActs (l.map normA) = encActs l := by
  unfold encActs
  rw [List.length_map, List.flatMap_map]
  simp only [encAct_norm]
theorem encRound_norm (r : RoundD) : encRound (normD r) = encRound r := by
  unfold encRound normD
  simp only [encRow_norm]
theorem encRounds_norm (f : Nat → RoundD) : encRounds (normR f) = encRounds f := by
  have hu : usedN (numsOf (normR f)) 8 = usedN (numsOf f) 8 := usedN_congr 8 fun i hi => by unfold numsOf normR; rw [if_pos hi]; rfl
  have hle := usedN_le (numsOf f) 8
  unfold encRounds rndL
  rw [hu, List.flatMap_map, List.flatMap_map]
  congr 1
  rw [List.flatMap_def, List.flatMap_def]
  congr 1
  exact List.map_congr_left fun i hi => by
    have h8 : i < 8 := by have := List.mem_range.1 hi; omega
    unfold normR
    rw [if_pos h8]
    exact encRound_norm _
theorem encMsg_norm (m : MsgP) : encMsg (nmP m) = encMsg m := by
  unfold encMsg nmP encBody
  simp only [encRow_norm, encActs_norm, encRounds_norm]
/-! ### what is right -/
theorem okClk_norm {most : Int} {c : Nat → Int} (h : ∀ i, i < 8 → 0 ≤ c i ∧ c i ≤ most) : okClk most (normC c) := ⟨fun i hi => by rw [normC_at hi]; exact h i hi, fun i hi => if_neg (by omega)⟩
theorem okAct_norm {a : ActD} (h : okA a = true) (hI : ActDI a) : okAct (normA a) := by
  obtain ⟨⟨h1, h2, h3, h4, h5⟩, h6, h7⟩ := (okA_iff a).1 h
  have hm : mst = 9223372036854775807 := rfl
  have i1 := hI.op.pl
  have i2 := hI.num
  unfold InI at i1 i2
  refine ⟨h1, h2, ⟨h3, by show a.op.pl ≤ mst; omega⟩, ?_, ⟨h6, by show a.num ≤ mst; omega⟩, okClk_norm fun i hi => ⟨h7 i hi, by have := hI.clock i hi; unfold InI at this; omega⟩⟩
  show if a.op.kind = 1 then 0 ≤ a.op.char ∧ a.op.char ≤ 1114111 else a.op.char = 0
  split
  · exact h4 (by assumption)
  · exact h5 (by assumption)
theorem okRd_norm {r : RoundD} (h : okD r = true) (hI : RoundDI r) : okRd (normD r) := by
  obtain ⟨h1, h2, h3, h4, h5, h6⟩ := (okD_iff r).1 h
  have hm : mst = 9223372036854775807 := rfl
  by_cases h0 : r.num = 0
  · exact .inl ((rndEq_norm.1 (h2 h0)).trans normD_rnd0)
  · have i1 := hI.num
    unfold InI at i1
    exact .inr ⟨by show 1 ≤ r.num; omega, by show r.num ≤ mst; omega, okClk_norm fun i hi => ⟨h5 i hi, by have := hI.cut i hi; unfold InI at this; omega⟩, okClk_norm h6, h3, h4⟩
theorem okMsg_norm {d : MsgD} {l : List ActD} (h : okM d l = true) (hI : MsgI d l) (hl : (l.length : Int) ≤ 2147483647) : okMsg (nmP (mpOf d l)) := by
  obtain ⟨h1, h2, h3, u1, u2, u3, hA, hD, hC⟩ := okM_iff h
  have hm : mst = 9223372036854775807 := rfl
  have i1 := hI.ep
  unfold InI at i1
  have hc : okClk mst (normC d.c) := okClk_norm fun i hi => ⟨hC i hi, by have := hI.c i hi; unfold InI at this; omega⟩
  have ha : okActs (l.map normA) := ⟨by rw [List.length_map]; exact hl, fun a ha => by
    obtain ⟨b, hb, rfl⟩ := List.mem_map.1 ha
    exact okAct_norm (hA b hb) (hI.a b hb)⟩
  have hr : okRds (normR d.r) := ⟨fun i hi => by unfold normR; rw [if_pos hi]; exact okRd_norm (hD i hi) (hI.r i hi), fun i hi => if_neg (by omega)⟩
  refine ⟨h1, h2, ⟨h3, by show d.ep ≤ mst; omega⟩, ?_⟩
  show okBody d.kind (normC d.c, l.map normA, normR d.r)
  have hc0 : useC d.kind = false → normC d.c = clk0 := fun e => (clkEq_norm.1 (u2 e)).trans normC_clk0
  have hr0 : useR d.kind = false → normR d.r = noRds := fun e => (rndsEq_norm.1 (u3 e)).trans normR_rnds0
  have ha0 : useA d.kind = false → l.map normA = [] := fun e => by rw [u1 e]; rfl
  unfold okBody
  by_cases k1 : d.kind = 1
  · rw [if_pos k1]
    exact ⟨ha, hc0 (by unfold useC; rw [k1]; decide), hr0 (by unfold useR; rw [k1]; decide)⟩
  rw [if_neg k1]
  by_cases k2 : d.kind = 2
  · rw [if_pos k2]
    exact ⟨hc, ha0 (by unfold useA; rw [k2]; decide), hr0 (by unfold useR; rw [k2]; decide)⟩
  rw [if_neg k2]
  by_cases k3 : d.kind = 3
  · rw [if_pos k3]
    exact ⟨ha, hr, hc0 (by unfold useC; rw [k3]; decide)⟩
  rw [if_neg k3]
  have k4 : d.kind = 4 := by omega
  exact ⟨hr, hc0 (by unfold useC; rw [k4]; decide), ha0 (by unfold useA; rw [k4]; decide)⟩
end Go.Proofs.YtegebjflhhbmiaaDoor
