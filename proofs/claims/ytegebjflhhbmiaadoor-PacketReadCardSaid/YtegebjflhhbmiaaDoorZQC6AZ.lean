/- What is written are bytes; the document's spelling of small numbers; what is right. -/
import Derived.Test.YtegebjflhhbmiaaDoorZQC6AY
import Derived.Test.YtegebjflhhbmiaaDoorZQC6AJ
set_option linter.unusedSimpArgs false
set_option linter.unusedVariables false
namespace Go.Proofs.YtegebjflhhbmiaaDoor
open Go Go.RowKit

/-! ### numbers up to the last one that is not 0 -/
def usedN (c : Nat → Int) : Nat → Nat
  | 0 => 0
  | n + 1 => if c n = 0 then usedN c n else n + 1
theorem usedN_le (c : Nat → Int) : ∀ n, usedN c n ≤ n
  | 0 => Nat.le_refl _
  | n + 1 => by unfold usedN; split; have := usedN_le c n; omega; exact Nat.le_refl _
theorem usedN_zero (c : Nat → Int) : ∀ n i, usedN c n ≤ i → i < n → c i = 0
  | 0, _, _, h => by omega
  | n + 1, i, h1, h2 => by
    unfold usedN at h1
    split at h1
    · rename_i h0
      by_cases hi : i = n
      · subst hi; exact h0
      · exact usedN_zero c n i h1 (by omega)
    · omega
theorem usedN_last (c : Nat → Int) : ∀ n, 0 < usedN c n → c (usedN c n - 1) ≠ 0
  | 0, h => by simp [usedN] at h
  | n + 1, h => by
    unfold usedN at h ⊢
    split
    · rename_i h0
      rw [if_pos h0] at h
      exact usedN_last c n h
    · rename_i h0
      simpa using h0
theorem usedN_eq {c : Nat → Int} {n k : Nat} (hk : k ≤ n) (hz : ∀ i, k ≤ i → i < n → c i = 0) (hl : 0 < k → c (k - 1) ≠ 0) : usedN c n = k := by
  have h1 := usedN_le c n
  rcases Nat.lt_trichotomy (usedN c n) k with h | h | h
  · exact absurd (usedN_zero c n (k - 1) (by omega) (by omega)) (hl (by omega))
  · exact h
  · exact absurd (hz (usedN c n - 1) (by omega) (by omega)) (usedN_last c n (by omega))
def rowOf (c : Nat → Int) : List Nat := (List.range (usedN c 8)).map fun i => (c i).toNat
def clkOf (l : List Nat) : Nat → Int := fun i => (l.getD i 0 : Nat)
theorem rowOf_len (c : Nat → Int) : (rowOf c).length = usedN c 8 := by unfold rowOf; simp
theorem rowOf_get (c : Nat → Int) (i : Nat) : (rowOf c)[i]? = if i < usedN c 8 then some (c i).toNat else none := by
  unfold rowOf
  rw [List.getElem?_map]
  by_cases h : i < usedN c 8
  · rw [List.getElem?_range h, if_pos h]; rfl
  · rw [if_neg h, List.getElem?_eq_none (by simp; omega)]; rfl
/-- Right numbers: none is below 0, none above most; the others are none. -/
def okClk (most : Int) (c : Nat → Int) : Prop := (∀ i, i < 8 → 0 ≤ c i ∧ c i ≤ most) ∧ ∀ i, 8 ≤ i → c i = 0
def encRow (c : Nat → Int) : List Int := form (usedN c 8) ++ (rowOf c).flatMap form
def endd (i n : Nat) : Nat := if i + 1 = n then 1 else 0
def pRowL (most : Int) : Pr (List Nat) := (pIn 0 8).bind fun n => (Pr.rep (fun i => pIn (endd i n) most) n 0).bind fun l => Pr.ret l
def pRow (most : Int) : Pr (Nat → Int) := (pRowL most).bind fun l => Pr.ret (clkOf l)
theorem cod_rowL (most : Int) : Cod (pRowL most) (fun l => form l.length ++ l.flatMap form) (fun l => ((0 : Nat) ≤ l.length ∧ (l.length : Int) ≤ 8 ∧ l.length < 9223372036854775808) ∧ okR (fun i n => endd i l.length ≤ n ∧ (n : Int) ≤ most ∧ n < 9223372036854775808) l.length 0 l ∧ l = l) :=
  Cod.seq (f := fun n => Pr.rep (fun i => pIn (endd i n) most) n 0) (g := fun _ l => l) (pa := fun l : List Nat => l.length) (pb := fun l => l) (eb := fun _ l => l.flatMap form) (ob := fun n l => okR (fun i m => endd i n ≤ m ∧ (m : Int) ≤ most ∧ m < 9223372036854775808) n 0 l) (cod_in 0 8) (fun n _ => Cod.rep (fun i => cod_in (endd i n) most) n 0) (fun n l _ hb => ⟨okR_len hb, rfl⟩)
theorem cod_row (most : Int) (h0 : 0 ≤ most) (hm : most ≤ 9223372036854775807) : Cod (pRow most) encRow (okClk most) := by
  have key : ∀ l : List Nat, (((0 : Nat) ≤ l.length ∧ (l.length : Int) ≤ 8 ∧ l.length < 9223372036854775808) ∧ okR (fun i n => endd i l.length ≤ n ∧ (n : Int) ≤ most ∧ n < 9223372036854775808) l.length 0 l ∧ l = l) → rowOf (clkOf l) = l := fun l ⟨h1, h2, _⟩ => by
    obtain ⟨_, h3⟩ := okR_iff.1 h2
    have hu : usedN (clkOf l) 8 = l.length := usedN_eq (by omega) (fun i hi _ => by unfold clkOf; rw [za, List.getElem?_eq_none hi]; rfl) (fun hp => by
      have hl : l[l.length - 1]? = some (l[l.length - 1]'(by omega)) := List.getElem?_eq_getElem _
      have := (h3 _ _ hl).1
      unfold clkOf
      rw [za, hl]
      unfold endd at this
      rw [if_pos (by omega)] at this
      simp only [zf]
      omega)
    apply List.ext_getElem?
    intro i
    rw [rowOf_get, hu]
    by_cases h : i < l.length
    · rw [if_pos h]
      unfold clkOf
      rw [za, List.getElem?_eq_getElem h]
      simp
    · rw [if_neg h, List.getElem?_eq_none (by omega)]
  refine ((cod_rowL most).map clkOf rowOf key).as (fun c _ => by rw [encRow, rowOf_len]) fun c => ?_
  have hu := usedN_le c 8
  constructor
  · rintro ⟨h1, h2⟩
    refine ⟨⟨⟨by omega, by rw [rowOf_len]; omega, by rw [rowOf_len]; omega⟩, okR_iff.2 ⟨rfl, fun j n hj => ?_⟩, rfl⟩, ?_⟩
    · rw [rowOf_get] at hj
      split at hj
      · rename_i hju
        cases hj
        obtain ⟨e1, e2⟩ := h1 j (by omega)
        refine ⟨?_, by omega, by omega⟩
        unfold endd
        rw [rowOf_len]
        split
        · rename_i hz
          have := usedN_last c 8 (by omega)
          rw [show usedN c 8 - 1 = j by omega] at this
          omega
        · omega
      · cases hj
    · funext i
      unfold clkOf
      rw [za, rowOf_get]
      by_cases hi : i < usedN c 8
      · rw [if_pos hi]
        have := (h1 i (by omega)).1
        simp only [zf]
        omega
      · rw [if_neg hi]
        by_cases h8 : i < 8
        · exact (usedN_zero c 8 i (by omega) h8).symm
        · exact (h2 i (by omega)).symm
  · rintro ⟨⟨_, h2, _⟩, h3⟩
    obtain ⟨_, h4⟩ := okR_iff.1 h2
    have hat : ∀ i, c i = ((rowOf c).getD i 0 : Nat) := fun i => congrFun h3.symm i
    refine ⟨fun i hi => ?_, fun i hi => ?_⟩
    · rw [hat i, za, rowOf_get]
      by_cases h : i < usedN c 8
      · rw [if_pos h]
        have := h4 i (c i).toNat (by rw [rowOf_get, if_pos h])
        simp only [zf]
        omega
      · rw [if_neg h]
        exact ⟨by simp, by simpa using h0⟩
    · rw [hat i, za, List.getElem?_eq_none (by rw [rowOf_len]; omega)]
      rfl
end Go.Proofs.YtegebjflhhbmiaaDoor

set_option linter.unusedSimpArgs false
set_option linter.unusedVariables false
namespace Go.Proofs.YtegebjflhhbmiaaDoor
open Go Go.RowKit

abbrev mst : Int := 9223372036854775807
section
variable {α β : Type}
/-- Two parts as a pair. -/
theorem Cod.pair {x : Pr α} {y : Pr β} {ea : α → List Int} {eb : β → List Int} {oa : α → Prop} {ob : β → Prop} (hx : Cod x ea oa) (hy : Cod y eb ob) :
    Cod (x.bind fun a => y.bind fun b => Pr.ret (a, b)) (fun c => ea c.1 ++ eb c.2) (fun c => oa c.1 ∧ ob c.2) :=
  (Cod.seq (f := fun _ => y) (g := fun a b => (a, b)) (pa := Prod.fst) (pb := Prod.snd) (eb := fun _ b => eb b) (ob := fun _ b => ob b) hx (fun _ _ => hy) (fun _ _ _ _ => ⟨rfl, rfl⟩)).as (fun _ _ => rfl) (fun _ => ⟨fun ⟨a, b⟩ => ⟨a, b, rfl⟩, fun ⟨a, b, _⟩ => ⟨a, b⟩⟩)
end
/-! ### a round -/
def encRound (r : RoundD) : List Int := form r.num.toNat ++ (if r.num = 0 then [] else encRow r.cut ++ (encRow r.votes ++ form r.dec.toNat))
def pVD : Pr ((Nat → Int) × Nat) := (pRow 2).bind fun v => (pIn 0 2).bind fun d => Pr.ret (v, d)
def pRoundT (n : Nat) : Pr RoundD := if n = 0 then Pr.ret rnd0 else (pRow mst).bind fun c => pVD.bind fun x => Pr.ret ⟨n, c, x.1, x.2⟩
/-- Right: none at all, or all of its parts. -/
def okRd (r : RoundD) : Prop := r = rnd0 ∨ (1 ≤ r.num ∧ r.num ≤ mst ∧ okClk mst r.cut ∧ okClk 2 r.votes ∧ 0 ≤ r.dec ∧ r.dec ≤ 2)
def okRoundT (n : Nat) (r : RoundD) : Prop := okRd r ∧ r.num = n
theorem cod_roundT (n : Nat) (hn : (n : Int) ≤ mst) : Cod (pRoundT n) (fun r => if n = 0 then [] else encRow r.cut ++ (encRow r.votes ++ form r.dec.toNat)) (okRoundT n) := by
  unfold pRoundT
  by_cases h : n = 0
  · subst h
    simp only [if_true]
    refine (Cod.ret rnd0).as (fun _ _ => rfl) fun r => ⟨fun ⟨h1, h2⟩ => ?_, fun h => by subst h; exact ⟨.inl rfl, rfl⟩⟩
    rcases h1 with h1 | h1
    · exact h1
    · omega
  · simp only [if_neg h]
    have hvd : Cod pVD (fun c => encRow c.1 ++ form c.2) _ := Cod.pair (cod_row 2 (by decide) (by decide)) (cod_in 0 2)
    refine (Cod.seq (f := fun _ => pVD) (g := fun c x => (⟨n, c, x.1, x.2⟩ : RoundD)) (pa := fun r => r.cut) (pb := fun r => (r.votes, r.dec.toNat)) (eb := fun _ x => encRow x.1 ++ form x.2) (ob := fun _ x => okClk 2 x.1 ∧ ((0 : Nat) ≤ x.2 ∧ (x.2 : Int) ≤ 2 ∧ x.2 < 9223372036854775808)) (cod_row mst (by decide) (by decide)) (fun _ _ => hvd) (fun c x _ _ => ⟨rfl, by simp⟩)).as (fun _ _ => rfl) fun r => ?_
    constructor
    · rintro ⟨h1, h2⟩
      rcases h1 with rfl | ⟨h3, h4, h5, h6, h7, h8⟩
      · exact absurd h2 (by show (0 : Int) ≠ (n : Int); omega)
      · refine ⟨h5, ⟨h6, by omega, by omega, by omega⟩, ?_⟩
        obtain ⟨a, b, c, d⟩ := r
        simp only at h2 h7 ⊢
        rw [h2, show ((d.toNat : Nat) : Int) = d by omega]
    · rintro ⟨h1, ⟨h2, h3, h4, h5⟩, h6⟩
      have e1 : r.num = n := by rw [← h6]
      have e2 : 0 ≤ r.dec := by rw [← h6]; exact Int.natCast_nonneg _
      exact ⟨.inr ⟨by omega, by omega, h1, h2, e2, by omega⟩, e1⟩
def pRound (e : Nat) : Pr RoundD := (pIn e mst).bind fun n => (pRoundT n).bind fun r => Pr.ret r
theorem cod_round (e : Nat) : Cod (pRound e) encRound (fun r => okRd r ∧ (e : Int) ≤ r.num) := by
  have h := Cod.seq (f := fun n => pRoundT n) (g := fun _ r => r) (pa := fun r : RoundD => r.num.toNat) (pb := fun r => r) (eb := fun n r => if n = 0 then [] else encRow r.cut ++ (encRow r.votes ++ form r.dec.toNat)) (ob := okRoundT) (cod_in e mst) (fun n hn => cod_roundT n hn.2.1) (fun n r _ hr => ⟨by rw [hr.2]; simp, rfl⟩)
  refine h.as (fun r hr => ?_) fun r => ?_
  · obtain ⟨_, h2, _⟩ := hr
    have e2 := h2.2
    unfold encRound
    congr 1
    by_cases h0 : r.num = 0
    · rw [if_pos h0, if_pos (by omega)]
    · rw [if_neg h0, if_neg (by omega)]
  · constructor
    · rintro ⟨h1, h2⟩
      have hmst : mst = 9223372036854775807 := rfl
      have hb : 0 ≤ r.num ∧ r.num ≤ mst := by
        rcases h1 with rfl | h1
        · exact ⟨Int.le_refl _, by decide⟩
        · exact ⟨by omega, h1.2.1⟩
      exact ⟨⟨by omega, by omega, by omega⟩, ⟨h1, by omega⟩, rfl⟩
    · rintro ⟨⟨h1, _, _⟩, ⟨h4, h5⟩, _⟩
      exact ⟨h4, by omega⟩
/-! ### rounds -/
def numsOf (f : Nat → RoundD) : Nat → Int := fun i => (f i).num
def rndL (f : Nat → RoundD) : List RoundD := (List.range (usedN (numsOf f) 8)).map f
def rndsOf (l : List RoundD) : Nat → RoundD := fun i => l.getD i rnd0
theorem rndL_len (f : Nat → RoundD) : (rndL f).length = usedN (numsOf f) 8 := by unfold rndL; simp
theorem rndL_get (f : Nat → RoundD) (i : Nat) : (rndL f)[i]? = if i < usedN (numsOf f) 8 then some (f i) else none := by
  unfold rndL
  rw [List.getElem?_map]
  by_cases h : i < usedN (numsOf f) 8
  · rw [List.getElem?_range h, if_pos h]; rfl
  · rw [if_neg h, List.getElem?_eq_none (by simp; omega)]; rfl
def okRds (f : Nat → RoundD) : Prop := (∀ i, i < 8 → okRd (f i)) ∧ ∀ i, 8 ≤ i → f i = rnd0
def encRounds (f : Nat → RoundD) : List Int := form (usedN (numsOf f) 8) ++ (rndL f).flatMap encRound
def pRoundsL : Pr (List RoundD) := (pIn 0 8).bind fun n => (Pr.rep (fun i => pRound (endd i n)) n 0).bind fun l => Pr.ret l
def pRounds : Pr (Nat → RoundD) := pRoundsL.bind fun l => Pr.ret (rndsOf l)
theorem cod_roundsL : Cod pRoundsL (fun l => form l.length ++ l.flatMap encRound) (fun l => ((0 : Nat) ≤ l.length ∧ (l.length : Int) ≤ 8 ∧ l.length < 9223372036854775808) ∧ okR (fun i r => okRd r ∧ (endd i l.length : Int) ≤ r.num) l.length 0 l ∧ l = l) :=
  Cod.seq (f := fun n => Pr.rep (fun i => pRound (endd i n)) n 0) (g := fun _ l => l) (pa := fun l : List RoundD => l.length) (pb := fun l => l) (eb := fun _ l => l.flatMap encRound) (ob := fun n l => okR (fun i r => okRd r ∧ (endd i n : Int) ≤ r.num) n 0 l) (cod_in 0 8) (fun n _ => Cod.rep (fun i => cod_round (endd i n)) n 0) (fun n l _ hb => ⟨okR_len hb, rfl⟩)
theorem okRd_zero {r : RoundD} (h : okRd r) (h0 : r.num = 0) : r = rnd0 := by
  rcases h with h | h
  · exact h
  · omega
theorem cod_rounds : Cod pRounds encRounds okRds := by
  have key : ∀ l : List RoundD, (((0 : Nat) ≤ l.length ∧ (l.length : Int) ≤ 8 ∧ l.length < 9223372036854775808) ∧ okR (fun i r => okRd r ∧ (endd i l.length : Int) ≤ r.num) l.length 0 l ∧ l = l) → rndL (rndsOf l) = l := fun l ⟨h1, h2, _⟩ => by
    obtain ⟨_, h3⟩ := okR_iff.1 h2
    have hu : usedN (numsOf (rndsOf l)) 8 = l.length := usedN_eq (by omega) (fun i hi _ => by unfold numsOf rndsOf; rw [za, List.getElem?_eq_none hi]; rfl) (fun hp => by
      have hl : l[l.length - 1]? = some (l[l.length - 1]'(by omega)) := List.getElem?_eq_getElem _
      have := (h3 _ _ hl).2
      unfold numsOf rndsOf
      rw [za, hl]
      unfold endd at this
      rw [if_pos (by omega)] at this
      simp only [zf]
      omega)
    apply List.ext_getElem?
    intro i
    rw [rndL_get, hu]
    by_cases h : i < l.length
    · rw [if_pos h]
      unfold rndsOf
      rw [za, List.getElem?_eq_getElem h]
      simp
    · rw [if_neg h, List.getElem?_eq_none (by omega)]
  refine (cod_roundsL.map rndsOf rndL key).as (fun f _ => by rw [encRounds, rndL_len]) fun f => ?_
  have hu := usedN_le (numsOf f) 8
  constructor
  · rintro ⟨h1, h2⟩
    refine ⟨⟨⟨by omega, by rw [rndL_len]; omega, by rw [rndL_len]; omega⟩, okR_iff.2 ⟨rfl, fun j r hj => ?_⟩, rfl⟩, ?_⟩
    · rw [rndL_get] at hj
      split at hj
      · rename_i hju
        cases hj
        have e1 := h1 j (by omega)
        refine ⟨e1, ?_⟩
        have hn : 0 ≤ (f j).num := by
          rcases e1 with e | e
          · rw [e]; exact Int.le_refl _
          · omega
        unfold endd
        rw [rndL_len]
        split
        · rename_i hz
          have := usedN_last (numsOf f) 8 (by omega)
          rw [show usedN (numsOf f) 8 - 1 = 0 + j by omega, Nat.zero_add] at this
          unfold numsOf at this
          omega
        · exact hn
      · cases hj
    · funext i
      unfold rndsOf
      rw [za, rndL_get]
      by_cases hi : i < usedN (numsOf f) 8
      · rw [if_pos hi]; rfl
      · rw [if_neg hi]
        by_cases h8 : i < 8
        · exact (okRd_zero (h1 i h8) (usedN_zero (numsOf f) 8 i (by omega) h8)).symm
        · exact (h2 i (by omega)).symm
  · rintro ⟨⟨_, h2, _⟩, h3⟩
    obtain ⟨_, h4⟩ := okR_iff.1 h2
    have hat : ∀ i, f i = (rndL f).getD i rnd0 := fun i => congrFun h3.symm i
    refine ⟨fun i hi => ?_, fun i hi => ?_⟩
    · rw [hat i, za, rndL_get]
      by_cases h : i < usedN (numsOf f) 8
      · rw [if_pos h]
        exact (h4 i (f i) (by rw [rndL_get, if_pos h])).1
      · rw [if_neg h]
        exact .inl rfl
    · rw [hat i, za, List.getElem?_eq_none (by rw [rndL_len]; omega)]
      rfl
/-! ### an act -/
def encChar (k : Int) (c : Nat) : List Int := if k = 1 then form c else []
def pChar (k : Int) : Pr Nat := if k = 1 then pIn 0 1114111 else Pr.ret 0
theorem cod_char (k : Int) : Cod (pChar k) (encChar k) (fun c => if k = 1 then c ≤ 1114111 else c = 0) := by
  unfold pChar
  by_cases h : k = 1
  · rw [if_pos h]
    exact (cod_in 0 1114111).as (fun _ _ => by unfold encChar; rw [if_pos h]) fun c => by rw [if_pos h]; constructor <;> omega
  · rw [if_neg h]
    exact (Cod.ret 0).as (fun _ _ => by unfold encChar; rw [if_neg h]) fun c => by rw [if_neg h]
def encAct (a : ActD) : List Int := [a.op.kind] ++ (form a.op.rep.toNat ++ (form a.op.pl.toNat ++ (encChar a.op.kind a.op.char.toNat ++ (form a.num.toNat ++ encRow a.clock))))
def okAct (a : ActD) : Prop := (1 ≤ a.op.kind ∧ a.op.kind ≤ 3) ∧ (0 ≤ a.op.rep ∧ a.op.rep ≤ 7) ∧ (0 ≤ a.op.pl ∧ a.op.pl ≤ mst) ∧ (if a.op.kind = 1 then 0 ≤ a.op.char ∧ a.op.char ≤ 1114111 else a.op.char = 0) ∧ (1 ≤ a.num ∧ a.num ≤ mst) ∧ okClk mst a.clock
def pA5 : Pr (Nat × (Nat → Int)) := (pIn 1 mst).bind fun n => (pRow mst).bind fun c => Pr.ret (n, c)
def pA4 (k : Int) : Pr (Nat × Nat × (Nat → Int)) := (pChar k).bind fun ch => pA5.bind fun x => Pr.ret (ch, x)
def pA3 (k : Int) : Pr (Nat × Nat × Nat × (Nat → Int)) := (pIn 0 mst).bind fun p => (pA4 k).bind fun x => Pr.ret (p, x)
def pA2 (k : Int) : Pr ActD := (pIn 0 7).bind fun r => (pA3 k).bind fun x => Pr.ret ⟨⟨k, x.1, x.2.1, r⟩, x.2.2.1, x.2.2.2⟩
def pAct : Pr ActD := (pKind 3).bind fun k => (pA2 k).bind fun a => Pr.ret a
theorem cod_a3 (k : Int) : Cod (pA3 k) (fun x => form x.1 ++ (encChar k x.2.1 ++ (form x.2.2.1 ++ encRow x.2.2.2))) (fun x => ((0 : Nat) ≤ x.1 ∧ (x.1 : Int) ≤ mst ∧ x.1 < 9223372036854775808) ∧ (if k = 1 then x.2.1 ≤ 1114111 else x.2.1 = 0) ∧ (1 ≤ x.2.2.1 ∧ (x.2.2.1 : Int) ≤ mst ∧ x.2.2.1 < 9223372036854775808) ∧ okClk mst x.2.2.2) :=
  Cod.pair (cod_in 0 mst) (Cod.pair (cod_char k) (Cod.pair (cod_in 1 mst) (cod_row mst (by decide) (by decide))))
theorem cod_a2 (k : Int) : Cod (pA2 k) (fun a => form a.op.rep.toNat ++ (form a.op.pl.toNat ++ (encChar k a.op.char.toNat ++ (form a.num.toNat ++ encRow a.clock)))) (fun a => a.op.kind = k ∧ (0 ≤ a.op.rep ∧ a.op.rep ≤ 7) ∧ (0 ≤ a.op.pl ∧ a.op.pl ≤ mst) ∧ (if k = 1 then 0 ≤ a.op.char ∧ a.op.char ≤ 1114111 else a.op.char = 0) ∧ (1 ≤ a.num ∧ a.num ≤ mst) ∧ okClk mst a.clock) := by
  refine (Cod.seq (f := fun _ => pA3 k) (g := fun r x => (⟨⟨k, x.1, x.2.1, r⟩, x.2.2.1, x.2.2.2⟩ : ActD)) (pa := fun a => a.op.rep.toNat) (pb := fun a => (a.op.pl.toNat, a.op.char.toNat, a.num.toNat, a.clock)) (eb := fun _ x => form x.1 ++ (encChar k x.2.1 ++ (form x.2.2.1 ++ encRow x.2.2.2))) (ob := fun _ x => ((0 : Nat) ≤ x.1 ∧ (x.1 : Int) ≤ mst ∧ x.1 < 9223372036854775808) ∧ (if k = 1 then x.2.1 ≤ 1114111 else x.2.1 = 0) ∧ (1 ≤ x.2.2.1 ∧ (x.2.2.1 : Int) ≤ mst ∧ x.2.2.1 < 9223372036854775808) ∧ okClk mst x.2.2.2) (cod_in 0 7) (fun _ _ => cod_a3 k) (fun r x _ _ => ⟨by simp, by simp⟩)).as (fun _ _ => rfl) fun a => ?_
  constructor
  · rintro ⟨h0, h1, h2, h3, h4, h5⟩
    have hmst : mst = 9223372036854775807 := rfl
    refine ⟨⟨by omega, by omega, by omega⟩, ⟨⟨by simp only; omega, by simp only; omega, by simp only; omega⟩, ?_, ⟨by simp only; omega, by simp only; omega, by simp only; omega⟩, h5⟩, ?_⟩
    · split
      · rename_i hk; rw [if_pos hk] at h3; simp only; omega
      · rename_i hk; rw [if_neg hk] at h3; simp only; omega
    · obtain ⟨⟨b1, b2, b3, b4⟩, b5, b6⟩ := a
      simp only at h0 h1 h2 h3 h4 ⊢
      have h6 : 0 ≤ b3 := by
        split at h3
        · exact h3.1
        · omega
      rw [show ((b2.toNat : Nat) : Int) = b2 by omega, show ((b3.toNat : Nat) : Int) = b3 by omega, show ((b4.toNat : Nat) : Int) = b4 by omega, show ((b5.toNat : Nat) : Int) = b5 by omega, h0]
  · rintro ⟨h1, ⟨h2, h3, h4, h5⟩, h6⟩
    have e1 : a.op.kind = k := by rw [← h6]
    have e2 : 0 ≤ a.op.rep := by rw [← h6]; exact Int.natCast_nonneg _
    have e3 : 0 ≤ a.op.pl := by rw [← h6]; exact Int.natCast_nonneg _
    have e4 : 0 ≤ a.op.char := by rw [← h6]; exact Int.natCast_nonneg _
    have e5 : 0 ≤ a.num := by rw [← h6]; exact Int.natCast_nonneg _
    simp only at h2 h4
    refine ⟨e1, ⟨e2, by omega⟩, ⟨e3, by omega⟩, ?_, ⟨by omega, by omega⟩, h5⟩
    split
    · rename_i hk; rw [if_pos hk] at h3; simp only at h3; omega
    · rename_i hk; rw [if_neg hk] at h3; simp only at h3; omega
theorem cod_act : Cod pAct encAct okAct := by
  refine (Cod.seq (f := fun k => pA2 k) (g := fun _ a => a) (pa := fun a : ActD => a.op.kind) (pb := fun a => a) (eb := fun k a => form a.op.rep.toNat ++ (form a.op.pl.toNat ++ (encChar k a.op.char.toNat ++ (form a.num.toNat ++ encRow a.clock)))) (ob := fun k a => a.op.kind = k ∧ (0 ≤ a.op.rep ∧ a.op.rep ≤ 7) ∧ (0 ≤ a.op.pl ∧ a.op.pl ≤ mst) ∧ (if k = 1 then 0 ≤ a.op.char ∧ a.op.char ≤ 1114111 else a.op.char = 0) ∧ (1 ≤ a.num ∧ a.num ≤ mst) ∧ okClk mst a.clock) (cod_kind 3 (by decide)) (fun k _ => cod_a2 k) (fun k a _ ha => ⟨ha.1, rfl⟩)).as (fun _ _ => rfl) fun a => ?_
  unfold okAct
  exact ⟨fun ⟨h1, h2, h3, h4, h5, h6⟩ => ⟨h1, ⟨rfl, h2, h3, h4, h5, h6⟩, rfl⟩, fun ⟨h1, ⟨_, h2, h3, h4, h5, h6⟩, _⟩ => ⟨h1, h2, h3, h4, h5, h6⟩⟩
theorem encAct_len (a : ActD) : 5 ≤ (encAct a).length := by
  unfold encAct encRow
  simp only [List.length_append, List.length_cons, List.length_nil]
  have h1 := form_pos a.op.rep.toNat
  have h2 := form_pos a.op.pl.toNat
  have h3 := form_pos a.num.toNat
  have h4 := form_pos (usedN a.clock 8)
  omega
end Go.Proofs.YtegebjflhhbmiaaDoor

set_option linter.unusedSimpArgs false
set_option linter.unusedVariables false
namespace Go.Proofs.YtegebjflhhbmiaaDoor
open Go Go.RowKit

/-! ### acts -/
def encActs (l : List ActD) : List Int := form l.length ++ l.flatMap encAct
def okActs (l : List ActD) : Prop := (l.length : Int) ≤ 2147483647 ∧ ∀ a, a ∈ l → okAct a
def pActs : Pr (List ActD) := (pCount 4 2147483647).bind fun n => (Pr.rep (fun _ => pAct) n 0).bind fun l => Pr.ret l
theorem acts_len : ∀ l : List ActD, 5 * l.length ≤ (l.flatMap encAct).length
  | [] => Nat.le_refl _
  | a :: l => by
    have h1 := encAct_len a
    have h2 := acts_len l
    rw [List.flatMap_cons, List.length_append, List.length_cons]
    omega
theorem count_in {R : List Int} {p n q : Nat} {least most : Int} (h : pCount least most R p = .ok (n, q)) : pIn 0 most R p = .ok (n, q) := by
  unfold pCount RdS.xCount at h
  unfold pIn
  split at h
  · rename_i m r hx
    split at hx
    · rename_i m2 r2 hx2
      rw [hx2]
      split at hx
      · cases hx
      · cases hx
        cases h
        simp
    · cases hx
  · cases h
theorem count_full {R t : List Int} {p n : Nat} {least most : Int} (hn : n < 9223372036854775808) (hm : (n : Int) ≤ most) (hl : n * (max least 1).toNat ≤ t.length) (h : R.drop p = form n ++ t) : pCount least most R p = .ok (n, p + (form n).length) := by
  unfold pCount RdS.xCount
  rw [xNum_full hn hm h]
  have h1 : R.length - (p + (form n).length) = t.length := by
    have := congrArg List.length h
    rw [List.length_drop, List.length_append] at this
    omega
  have h2 : 0 < (max least 1).toNat := by omega
  simp only
  rw [if_neg]
  rw [h1, Nat.not_lt]
  exact (Nat.le_div_iff_mul_le h2).2 hl
theorem okR_all {α : Type} {o : α → Prop} : ∀ {n i : Nat} {l : List α}, okR (fun _ => o) n i l ↔ l.length = n ∧ ∀ a, a ∈ l → o a := fun {n i l} => by
  rw [okR_iff]
  exact and_congr_right fun _ => ⟨fun h a ha => by obtain ⟨j, hj, rfl⟩ := List.getElem_of_mem ha; exact h j _ (List.getElem?_eq_getElem hj), fun h j a ha => h a (List.mem_of_getElem? ha)⟩
theorem cod_acts : Cod pActs encActs okActs :=
  ⟨fun l R p t ⟨h1, h2⟩ hR => by
    unfold encActs at hR ⊢
    rw [List.append_assoc] at hR
    have hl := acts_len l
    unfold pActs
    rw [Pr.bind_ok (count_full (by omega) h1 (by rw [List.length_append, show (max (4 : Int) 1).toNat = 4 from rfl]; omega) hR), Pr.bind_ok ((Cod.rep (fun _ => cod_act) l.length 0).full l R _ t (okR_all.2 ⟨rfl, h2⟩) (drop_plus hR))]
    unfold Pr.ret
    rw [List.length_append, Nat.add_assoc],
  fun R p l q hI hp h => by
    unfold pActs at h
    obtain ⟨n, q1, h3, h4⟩ := Pr.bind_inv h
    obtain ⟨m, q2, h5, h6⟩ := Pr.bind_inv h4
    cases h6
    obtain ⟨k1, k2, k3, k4⟩ := (cod_in 0 2147483647).back R p n q1 hI hp (count_in h3)
    obtain ⟨k5, k6, k7, k8⟩ := (Cod.rep (fun _ => cod_act) n 0).back R q1 l q hI k3 h5
    obtain ⟨e1, e2⟩ := okR_all.1 k5
    subst e1
    unfold encActs
    exact ⟨⟨k1.2.1, e2⟩, by rw [List.length_append]; omega, k7, by rw [k4, k8, List.append_assoc]⟩⟩
/-! ### messages -/
structure MsgP where
  kind : Int
  frm : Int
  epoch : Int
  clock : Nat → Int
  acts : List ActD
  rounds : Nat → RoundD
def noRds : Nat → RoundD := fun _ => rnd0
abbrev Bdy := (Nat → Int) × List ActD × (Nat → RoundD)
def encBody (k : Int) (x : Bdy) : List Int := if k = 1 then encActs x.2.1 else if k = 2 then encRow x.1 else if k = 3 then encActs x.2.1 ++ encRounds x.2.2 else encRounds x.2.2
def okBody (k : Int) (x : Bdy) : Prop := if k = 1 then okActs x.2.1 ∧ x.1 = clk0 ∧ x.2.2 = noRds else if k = 2 then okClk mst x.1 ∧ x.2.1 = [] ∧ x.2.2 = noRds else if k = 3 then okActs x.2.1 ∧ okRds x.2.2 ∧ x.1 = clk0 else okRds x.2.2 ∧ x.1 = clk0 ∧ x.2.1 = []
def pAR : Pr (List ActD × (Nat → RoundD)) := pActs.bind fun l => pRounds.bind fun f => Pr.ret (l, f)
def pBody (k : Int) : Pr Bdy := if k = 1 then pActs.bind fun l => Pr.ret (clk0, l, noRds) else if k = 2 then (pRow mst).bind fun c => Pr.ret (c, [], noRds) else if k = 3 then pAR.bind fun x => Pr.ret (clk0, x.1, x.2) else pRounds.bind fun f => Pr.ret (clk0, [], f)
theorem cod_body (k : Int) : Cod (pBody k) (encBody k) (okBody k) := by
  unfold pBody
  by_cases h1 : k = 1
  · simp only [if_pos h1]
    refine (cod_acts.map (fun l => ((clk0, l, noRds) : Bdy)) (fun x => x.2.1) (fun _ _ => rfl)).as (fun _ _ => by unfold encBody; rw [if_pos h1]) fun x => ?_
    obtain ⟨c, l, f⟩ := x
    unfold okBody
    rw [if_pos h1]
    exact ⟨fun ⟨a, b, c⟩ => ⟨a, by simp only at b c; rw [b, c]⟩, fun ⟨a, b⟩ => ⟨a, by cases b; exact ⟨rfl, rfl⟩⟩⟩
  · by_cases h2 : k = 2
    · simp only [if_neg h1, if_pos h2]
      refine ((cod_row mst (by decide) (by decide)).map (fun c => ((c, [], noRds) : Bdy)) (fun x => x.1) (fun _ _ => rfl)).as (fun _ _ => by unfold encBody; rw [if_neg h1, if_pos h2]) fun x => ?_
      obtain ⟨c, l, f⟩ := x
      unfold okBody
      rw [if_neg h1, if_pos h2]
      exact ⟨fun ⟨a, b, c⟩ => ⟨a, by simp only at b c; rw [b, c]⟩, fun ⟨a, b⟩ => ⟨a, by cases b; exact ⟨rfl, rfl⟩⟩⟩
    · by_cases h3 : k = 3
      · simp only [if_neg h1, if_neg h2, if_pos h3]
        have hp : Cod pAR _ _ := Cod.pair cod_acts cod_rounds
        refine (hp.map (fun x => ((clk0, x.1, x.2) : Bdy)) (fun x => x.2) (fun _ _ => rfl)).as (fun _ _ => by unfold encBody; rw [if_neg h1, if_neg h2, if_pos h3]) fun x => ?_
        obtain ⟨c, l, f⟩ := x
        unfold okBody
        rw [if_neg h1, if_neg h2, if_pos h3]
        exact ⟨fun ⟨a, b, c⟩ => ⟨⟨a, b⟩, by simp only at c; rw [c]⟩, fun ⟨⟨a, b⟩, c⟩ => ⟨a, b, by cases c; rfl⟩⟩
      · simp only [if_neg h1, if_neg h2, if_neg h3]
        refine (cod_rounds.map (fun f => ((clk0, [], f) : Bdy)) (fun x => x.2.2) (fun _ _ => rfl)).as (fun _ _ => by unfold encBody; rw [if_neg h1, if_neg h2, if_neg h3]) fun x => ?_
        obtain ⟨c, l, f⟩ := x
        unfold okBody
        rw [if_neg h1, if_neg h2, if_neg h3]
        exact ⟨fun ⟨a, b, c⟩ => ⟨a, by simp only at b c; rw [b, c]⟩, fun ⟨a, b⟩ => ⟨a, by cases b; exact ⟨rfl, rfl⟩⟩⟩
def encMsg (m : MsgP) : List Int := [m.kind] ++ (form m.frm.toNat ++ (form m.epoch.toNat ++ encBody m.kind (m.clock, m.acts, m.rounds)))
def okMsg (m : MsgP) : Prop := (1 ≤ m.kind ∧ m.kind ≤ 4) ∧ (0 ≤ m.frm ∧ m.frm ≤ 7) ∧ (0 ≤ m.epoch ∧ m.epoch ≤ mst) ∧ okBody m.kind (m.clock, m.acts, m.rounds)
def pM3 (k : Int) : Pr (Nat × Bdy) := (pIn 0 mst).bind fun e => (pBody k).bind fun b => Pr.ret (e, b)
def pM2 (k : Int) : Pr MsgP := (pIn 0 7).bind fun f => (pM3 k).bind fun x => Pr.ret ⟨k, f, x.1, x.2.1, x.2.2.1, x.2.2.2⟩
def pMsg : Pr MsgP := (pKind 4).bind fun k => (pM2 k).bind fun m => Pr.ret m
theorem cod_m2 (k : Int) : Cod (pM2 k) (fun m => form m.frm.toNat ++ (form m.epoch.toNat ++ encBody k (m.clock, m.acts, m.rounds))) (fun m => m.kind = k ∧ (0 ≤ m.frm ∧ m.frm ≤ 7) ∧ (0 ≤ m.epoch ∧ m.epoch ≤ mst) ∧ okBody k (m.clock, m.acts, m.rounds)) := by
  have h3 : Cod (pM3 k) _ _ := Cod.pair (cod_in 0 mst) (cod_body k)
  refine (Cod.seq (f := fun _ => pM3 k) (g := fun f x => (⟨k, f, x.1, x.2.1, x.2.2.1, x.2.2.2⟩ : MsgP)) (pa := fun m => m.frm.toNat) (pb := fun m => (m.epoch.toNat, m.clock, m.acts, m.rounds)) (eb := fun _ x => form x.1 ++ encBody k x.2) (ob := fun _ x => ((0 : Nat) ≤ x.1 ∧ (x.1 : Int) ≤ mst ∧ x.1 < 9223372036854775808) ∧ okBody k x.2) (cod_in 0 7) (fun _ _ => h3) (fun f x _ _ => ⟨by simp, by simp⟩)).as (fun _ _ => rfl) fun m => ?_
  have hmst : mst = 9223372036854775807 := rfl
  constructor
  · rintro ⟨h0, h1, h2, h5⟩
    refine ⟨⟨by omega, by omega, by omega⟩, ⟨⟨by simp only; omega, by simp only; omega, by simp only; omega⟩, h5⟩, ?_⟩
    obtain ⟨b1, b2, b3, b4, b5, b6⟩ := m
    simp only at h0 h1 h2 ⊢
    rw [show ((b2.toNat : Nat) : Int) = b2 by omega, show ((b3.toNat : Nat) : Int) = b3 by omega, h0]
  · rintro ⟨h1, ⟨h2, h5⟩, h6⟩
    have e1 : m.kind = k := by rw [← h6]
    have e2 : 0 ≤ m.frm := by rw [← h6]; exact Int.natCast_nonneg _
    have e3 : 0 ≤ m.epoch := by rw [← h6]; exact Int.natCast_nonneg _
    simp only at h2
    exact ⟨e1, ⟨e2, by omega⟩, ⟨e3, by omega⟩, h5⟩
theorem cod_msg : Cod pMsg encMsg okMsg := by
  refine (Cod.seq (f := fun k => pM2 k) (g := fun _ m => m) (pa := fun m : MsgP => m.kind) (pb := fun m => m) (eb := fun k m => form m.frm.toNat ++ (form m.epoch.toNat ++ encBody k (m.clock, m.acts, m.rounds))) (ob := fun k m => m.kind = k ∧ (0 ≤ m.frm ∧ m.frm ≤ 7) ∧ (0 ≤ m.epoch ∧ m.epoch ≤ mst) ∧ okBody k (m.clock, m.acts, m.rounds)) (cod_kind 4 (by decide)) (fun k _ => cod_m2 k) (fun k a _ ha => ⟨ha.1, rfl⟩)).as (fun _ _ => rfl) fun m => ?_
  unfold okMsg
  exact ⟨fun ⟨h1, h2, h3, h4⟩ => ⟨h1, ⟨rfl, h2, h3, h4⟩, rfl⟩, fun ⟨h1, ⟨_, h2, h3, h4⟩, _⟩ => ⟨h1, h2, h3, h4⟩⟩
/-! ### a whole message -/
def rdMsg (R : List Int) : Except PE MsgP := match pMsg R 0 with
  | .ok (m, q) => if q < R.length then .error (q, some (cEnd, 6)) else .ok m
  | .error e => .error e
theorem rdMsg_enc {m : MsgP} (h : okMsg m) : rdMsg (encMsg m) = .ok m := by
  unfold rdMsg
  rw [cod_msg.full m (encMsg m) 0 [] h (by simp)]
  simp
theorem rdMsg_one {R : List Int} {m : MsgP} (hI : ∀ b, b ∈ R → InB b) (h : rdMsg R = .ok m) : okMsg m ∧ encMsg m = R := by
  unfold rdMsg at h
  split at h
  · rename_i m' q hx
    split at h
    · cases h
    · cases h
      obtain ⟨h1, h2, h3, h4⟩ := cod_msg.back R 0 m q hI (Nat.zero_le _) hx
      refine ⟨h1, ?_⟩
      rw [List.drop_zero, List.drop_of_length_le (by omega), List.append_nil] at h4
      exact h4.symm
  · cases h
end Go.Proofs.YtegebjflhhbmiaaDoor

set_option linter.unusedSimpArgs false
set_option linter.unusedVariables false
namespace Go.Proofs.YtegebjflhhbmiaaDoor
open Go Go.RowKit

/-! ### normal forms -/
def normC (c : Nat → Int) : Nat → Int := fun i => if i < 8 then c i else 0
theorem normC_at {c : Nat → Int} {i : Nat} (h : i < 8) : normC c i = c i := if_pos h
def normD (r : RoundD) : RoundD := ⟨r.num, normC r.cut, normC r.votes, r.dec⟩
def normR (f : Nat → RoundD) : Nat → RoundD := fun i => if i < 8 then normD (f i) else rnd0
def normA (a : ActD) : ActD := ⟨a.op, a.num, normC a.clock⟩
end Go.Proofs.YtegebjflhhbmiaaDoor
