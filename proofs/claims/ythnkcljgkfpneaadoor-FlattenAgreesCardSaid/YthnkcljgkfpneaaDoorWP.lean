/- What a session of desks keeps true, in plain words: of one round nobody knows another cut, vote or decision; a committed round is everybody's clock. -/
import Derived.Test.YthnkcljgkfpneaaDoorW9
set_option linter.unusedSimpArgs false
set_option linter.unusedVariables false
namespace Go.Proofs.YthnkcljgkfpneaaDoor
open Go Go.RowKit

/-- One known round against what is true of that coordinator's rounds. -/
structure OKx (n : Nat) (N : Int) (T : Int → RoundD) (x : RoundD) : Prop where
  lo : 0 ≤ x.num
  hi : x.num ≤ N
  cut : ∀ j, j < 8 → x.cut j = (T x.num).cut j
  vt : ∀ v, v < 8 → (x.votes v = 0 ∨ x.votes v = (T x.num).votes v) ∧ 0 ≤ x.votes v
  dc : (x.dec = 0 ∨ x.dec = (T x.num).dec) ∧ 0 ≤ x.dec
  cm : x.dec = 1 → ∀ v, v < n → x.votes v = 1
  ze : x.dec = 1 → 1 ≤ x.num
theorem OKx.more {n : Nat} {N N' : Int} {T : Int → RoundD} {x : RoundD} (h : OKx n N T x) (hN : N ≤ N') : OKx n N' T x := ⟨h.lo, by have := h.hi; omega, h.cut, h.vt, h.dc, h.cm, h.ze⟩
theorem ok_join {n : Nat} (hn : n ≤ 8) {N : Int} {T : Int → RoundD} {x y : RoundD} (hx : OKx n N T x) (hy : OKx n N T y) : OKx n N T (joinR x y) := by
  rcases Int.lt_trichotomy x.num y.num with h | h | h
  · rw [joinR_lt h]; exact hy
  · rw [joinR_eq h]
    refine ⟨hx.lo, hx.hi, fun j hj => ?_, fun v hv => ?_, ?_, fun hd v hv => ?_, fun hd => ?_⟩
    · have h1 := hx.cut j hj
      have h2 := hy.cut j hj
      rw [← h] at h2
      show (if x.cut j < y.cut j then y.cut j else x.cut j) = (T x.num).cut j
      split <;> omega
    · obtain ⟨a1, a2⟩ := hx.vt v hv
      obtain ⟨b1, b2⟩ := hy.vt v hv
      rw [← h] at b1
      show ((if x.votes v < y.votes v then y.votes v else x.votes v) = 0 ∨ (if x.votes v < y.votes v then y.votes v else x.votes v) = (T x.num).votes v) ∧ 0 ≤ (if x.votes v < y.votes v then y.votes v else x.votes v)
      split <;> omega
    · obtain ⟨a1, a2⟩ := hx.dc
      obtain ⟨b1, b2⟩ := hy.dc
      rw [← h] at b1
      show ((if x.dec < y.dec then y.dec else x.dec) = 0 ∨ (if x.dec < y.dec then y.dec else x.dec) = (T x.num).dec) ∧ 0 ≤ (if x.dec < y.dec then y.dec else x.dec)
      split <;> omega
    · have hd : (if x.dec < y.dec then y.dec else x.dec) = 1 := hd
      show (if x.votes v < y.votes v then y.votes v else x.votes v) = 1
      obtain ⟨a1, a2⟩ := hx.vt v (by omega)
      obtain ⟨b1, b2⟩ := hy.vt v (by omega)
      rw [← h] at b1
      by_cases hxy : x.dec < y.dec
      · rw [if_pos hxy] at hd
        have := hy.cm hd v hv
        split <;> omega
      · rw [if_neg hxy] at hd
        have := hx.cm hd v hv
        split <;> omega
    · have hd : (if x.dec < y.dec then y.dec else x.dec) = 1 := hd
      show 1 ≤ x.num
      by_cases hxy : x.dec < y.dec
      · rw [if_pos hxy] at hd
        have := hy.ze hd
        omega
      · rw [if_neg hxy] at hd
        exact hx.ze hd
  · rw [joinR_gt h]; exact hx
/-- What is kept true of one coordinator's rounds: r v is what site v knows of them; K: what was ever said of them. -/
structure InvC (n c : Nat) (r : Nat → RoundD) (K : RoundD → Prop) (T : Int → RoundD) : Prop where
  kn : ∀ x, K x → OKx n (r c).num T x
  kr : ∀ v, v < n → OKx n (r c).num T (r v)
  vo : ∀ v, v < n → (T (r v).num).votes v = (r v).votes v ∧ ∀ m, (r v).num < m → (T m).votes v = 0
  co : (T (r c).num).dec = (r c).dec
theorem invC_start (n c : Nat) : InvC n c (fun _ => rnd0) (fun _ => False) (fun _ => rnd0) := by
  have h0 : OKx n rnd0.num (fun _ => rnd0) rnd0 := ⟨by decide, by decide, fun _ _ => rfl, fun _ _ => ⟨.inl rfl, Int.le_refl _⟩, ⟨.inl rfl, by decide⟩, fun h => absurd h (by decide), fun h => absurd h (by decide)⟩
  exact ⟨fun _ h => h.elim, fun _ _ => h0, fun _ _ => ⟨rfl, fun _ _ => rfl⟩, rfl⟩
theorem invC_join {n c a : Nat} (hn : n ≤ 8) (hc : c < n) (ha : a < n) {r : Nat → RoundD} {K : RoundD → Prop} {T : Int → RoundD} (h : InvC n c r K T) {y : RoundD} (hy : OKx n (r c).num T y) : InvC n c (updR r a (joinR (r a) y)) K T := by
  have hj := ok_join hn (h.kr a ha) hy
  have hnum : (updR r a (joinR (r a) y) c).num = (r c).num := by
    by_cases hca : c = a
    · subst hca
      rw [updR_same]
      rcases Int.lt_trichotomy (r c).num y.num with h1 | h1 | h1
      · have := hy.hi; omega
      · rw [joinR_eq h1]
      · rw [joinR_gt h1]
    · rw [updR_other _ _ hca]
  refine ⟨fun x hx => ?_, fun v hv => ?_, fun v hv => ?_, ?_⟩
  · rw [hnum]; exact h.kn x hx
  · rw [hnum]
    by_cases hva : v = a
    · subst hva; rw [updR_same]; exact hj
    · rw [updR_other _ _ hva]; exact h.kr v hv
  · by_cases hva : v = a
    · subst hva
      rw [updR_same]
      obtain ⟨h1, h2⟩ := h.vo v hv
      obtain ⟨b1, b2⟩ := hy.vt v (by omega)
      obtain ⟨a1, a2⟩ := (h.kr v hv).vt v (by omega)
      rcases Int.lt_trichotomy (r v).num y.num with h3 | h3 | h3
      · rw [joinR_lt h3]
        have := h2 _ h3
        exact ⟨by omega, fun m hm => h2 m (by omega)⟩
      · rw [joinR_eq h3]
        refine ⟨?_, h2⟩
        show (T (r v).num).votes v = if (r v).votes v < y.votes v then y.votes v else (r v).votes v
        rw [← h3] at b1
        split <;> omega
      · rw [joinR_gt h3]; exact ⟨h1, h2⟩
    · rw [updR_other _ _ hva]; exact h.vo v hv
  · rw [hnum, h.co]
    by_cases hca : c = a
    · subst hca
      rw [updR_same]
      rcases Int.lt_trichotomy (r c).num y.num with h1 | h1 | h1
      · have := hy.hi; omega
      · rw [joinR_eq h1]
        show (r c).dec = if (r c).dec < y.dec then y.dec else (r c).dec
        have := hy.dc
        rw [← h1, h.co] at this
        have h0 := (h.kr c hc).dc.2
        split <;> omega
      · rw [joinR_gt h1]
    · rw [updR_other _ _ hca]
/-- A new round. -/
theorem invC_propose {n c : Nat} (hc : c < n) {r : Nat → RoundD} {K : RoundD → Prop} {T : Int → RoundD} (h : InvC n c r K T) (H : Nat → Int) : ∃ T', InvC n c (updR r c (prop1 (r c) H)) K T' := by
  have h0 := (h.kr c hc).lo
  let T' : Int → RoundD := fun m => if m = (r c).num + 1 then prop1 (r c) H else T m
  have hold : ∀ x, OKx n (r c).num T x → OKx n ((r c).num + 1) T' x := fun x hx => by
    have hne : T' x.num = T x.num := if_neg (by have := hx.hi; omega)
    exact ⟨hx.lo, by have := hx.hi; omega, by rw [hne]; exact hx.cut, by rw [hne]; exact hx.vt, by rw [hne]; exact hx.dc, hx.cm, hx.ze⟩
  have hnew : T' ((r c).num + 1) = prop1 (r c) H := if_pos rfl
  have hnum : (updR r c (prop1 (r c) H) c).num = (r c).num + 1 := by rw [updR_same]; rfl
  refine ⟨T', ?_, ?_, ?_, ?_⟩
  · intro x hx
    rw [hnum]
    exact hold x (h.kn x hx)
  · intro v hv
    rw [hnum]
    by_cases hvc : v = c
    · subst hvc
      rw [updR_same]
      refine ⟨by show 0 ≤ (r v).num + 1; omega, Int.le_refl _, fun j _ => ?_, fun u _ => ⟨.inl rfl, by show (0 : Int) ≤ 0; omega⟩, ⟨.inl rfl, by show (0 : Int) ≤ 0; omega⟩, fun hd => absurd hd (by show ¬ (0 : Int) = 1; omega), fun hd => absurd hd (by show ¬ (0 : Int) = 1; omega)⟩
      show H j = (T' ((r v).num + 1)).cut j
      rw [hnew]; rfl
    · rw [updR_other _ _ hvc]; exact hold _ (h.kr v hv)
  · intro v hv
    by_cases hvc : v = c
    · subst hvc
      rw [updR_same]
      refine ⟨?_, fun m hm => ?_⟩
      · show (T' ((r v).num + 1)).votes v = 0
        rw [hnew]; rfl
      · have hm : (r v).num + 1 < m := hm
        show (if m = (r v).num + 1 then prop1 (r v) H else T m).votes v = 0
        rw [if_neg (by omega)]
        exact (h.vo v hv).2 m (by omega)
    · rw [updR_other _ _ hvc]
      have hle := (h.kr v hv).hi
      refine ⟨?_, fun m hm => ?_⟩
      · show (if (r v).num = (r c).num + 1 then prop1 (r c) H else T (r v).num).votes v = _
        rw [if_neg (by omega)]
        exact (h.vo v hv).1
      · show (if m = (r c).num + 1 then prop1 (r c) H else T m).votes v = 0
        by_cases hm2 : m = (r c).num + 1
        · rw [if_pos hm2]; rfl
        · rw [if_neg hm2]; exact (h.vo v hv).2 m hm
  · rw [hnum, hnew, updR_same]
theorem openB_iff {r : RoundD} : openB r = true ↔ 1 ≤ r.num ∧ r.dec = 0 := by simp [openB]
theorem verd_yes {v : Nat → Int} {m : Nat} (h : verdN v m = 1) : ∀ i, i < m → v i = 1 := by
  unfold verdN at h
  split at h
  · omega
  · split at h
    · rename_i h2
      intro i hi
      have := List.all_eq_true.1 h2 i (List.mem_range.2 hi)
      simpa using this
    · omega
theorem verdN_in (v : Nat → Int) (m : Nat) : 0 ≤ verdN v m ∧ verdN v m ≤ 2 := by
  unfold verdN
  split
  · omega
  · split <;> omega
theorem voteV_in (c d : Nat → Int) : 0 ≤ voteV c d ∧ voteV c d ≤ 2 := by
  unfold voteV
  split
  · omega
  · split <;> omega
theorem verdV_n (v : Nat → Int) {n : Nat} (h1 : 1 ≤ n) (h8 : n ≤ 8) : verdV v n = verdN v n := by
  unfold verdV
  rw [if_neg (by omega), show (min (n : Int) 8).toNat = n by omega]
theorem vot1_num (s : Nat) (h : Nat → Int) (r : RoundD) : (vot1 s h r).num = r.num ∧ (vot1 s h r).cut = r.cut ∧ (vot1 s h r).dec = r.dec := by unfold vot1; split <;> exact ⟨rfl, rfl, rfl⟩
/-- A vote. -/
theorem invC_vote {n c a : Nat} (hn : n ≤ 8) (ha : a < n) {r : Nat → RoundD} {K : RoundD → Prop} {T : Int → RoundD} (h : InvC n c r K T) (H : Nat → Int) (ho : openB (r a) = true) : ∃ T', InvC n c (updR r a (vot1 a H (r a))) K T' := by
  obtain ⟨ho1, ho2⟩ := openB_iff.1 ho
  by_cases hz : (r a).votes a = 0
  · have hv1 : vot1 a H (r a) = { r a with votes := setAt (r a).votes a (voteV (r a).cut H) } := if_pos hz
    rw [hv1]
    generalize hV : voteV (r a).cut H = V
    have hV0 : 0 ≤ V := by rw [← hV]; exact (voteV_in _ _).1
    obtain ⟨v1, v2⟩ := h.vo a ha
    have hk := h.kr a ha
    let T' : Int → RoundD := fun m => if m = (r a).num then { T m with votes := setAt (T m).votes a V } else T m
    have hcut : ∀ m, (T' m).cut = (T m).cut := fun m => by show (if m = (r a).num then _ else T m).cut = _; split <;> rfl
    have hdec : ∀ m, (T' m).dec = (T m).dec := fun m => by show (if m = (r a).num then _ else T m).dec = _; split <;> rfl
    have hvo : ∀ m u, u ≠ a → (T' m).votes u = (T m).votes u := fun m u hu => by
      show (if m = (r a).num then { T m with votes := setAt (T m).votes a V } else T m).votes u = _
      split
      · exact if_neg hu
      · rfl
    have hva : (T' (r a).num).votes a = V := by
      show (if (r a).num = (r a).num then { T (r a).num with votes := setAt (T (r a).num).votes a V } else T (r a).num).votes a = V
      rw [if_pos rfl]
      exact if_pos rfl
    have hvn : ∀ m, m ≠ (r a).num → (T' m).votes a = (T m).votes a := fun m hm => by
      show (if m = (r a).num then { T m with votes := setAt (T m).votes a V } else T m).votes a = _
      rw [if_neg hm]
    have hold : ∀ x, OKx n (r c).num T x → OKx n (r c).num T' x := fun x hx => by
      refine ⟨hx.lo, hx.hi, by rw [hcut]; exact hx.cut, fun v hv => ?_, by rw [hdec]; exact hx.dc, hx.cm, hx.ze⟩
      obtain ⟨b1, b2⟩ := hx.vt v hv
      by_cases hva2 : v = a
      · subst hva2
        by_cases hm : x.num = (r v).num
        · rw [hm, v1, hz] at b1
          exact ⟨.inl (by omega), b2⟩
        · rw [hvn _ hm]; exact ⟨b1, b2⟩
      · rw [hvo _ _ hva2]; exact ⟨b1, b2⟩
    have hnum : (updR r a { r a with votes := setAt (r a).votes a V } c).num = (r c).num := by
      by_cases hca : c = a
      · subst hca; rw [updR_same]
      · rw [updR_other _ _ hca]
    refine ⟨T', ?_, ?_, ?_, ?_⟩
    · intro x hx; rw [hnum]; exact hold x (h.kn x hx)
    · intro v hv
      rw [hnum]
      by_cases hva2 : v = a
      · subst hva2
        rw [updR_same]
        refine ⟨hk.lo, hk.hi, by rw [hcut]; exact hk.cut, fun u hu => ?_, by rw [hdec]; exact hk.dc, fun hd => absurd hd (by show ¬ (r v).dec = 1; omega), fun _ => ho1⟩
        by_cases huv : u = v
        · subst huv
          have : setAt (r u).votes u V u = V := if_pos rfl
          show (setAt (r u).votes u V u = 0 ∨ setAt (r u).votes u V u = (T' (r u).num).votes u) ∧ 0 ≤ setAt (r u).votes u V u
          rw [this, hva]; exact ⟨.inr rfl, hV0⟩
        · have : setAt (r v).votes v V u = (r v).votes u := if_neg huv
          show (setAt (r v).votes v V u = 0 ∨ setAt (r v).votes v V u = (T' (r v).num).votes u) ∧ 0 ≤ setAt (r v).votes v V u
          rw [this, hvo _ _ huv]; exact hk.vt u hu
      · rw [updR_other _ _ hva2]; exact hold _ (h.kr v hv)
    · intro v hv
      by_cases hva2 : v = a
      · subst hva2
        rw [updR_same]
        have : setAt (r v).votes v V v = V := if_pos rfl
        refine ⟨by show (T' (r v).num).votes v = setAt (r v).votes v V v; rw [this, hva], fun m hm => ?_⟩
        have hm : (r v).num < m := hm
        rw [hvn _ (by omega)]; exact v2 m hm
      · rw [updR_other _ _ hva2, hvo _ _ hva2]
        exact ⟨(h.vo v hv).1, fun m hm => by rw [hvo _ _ hva2]; exact (h.vo v hv).2 m hm⟩
    · rw [hnum, hdec, h.co]
      by_cases hca : c = a
      · subst hca; rw [updR_same]
      · rw [updR_other _ _ hca]
  · have hv1 : vot1 a H (r a) = r a := if_neg hz
    rw [hv1, updR_id rfl]
    exact ⟨T, h⟩
/-- A decision. -/
theorem invC_decide {n c : Nat} (h1n : 1 ≤ n) (hn : n ≤ 8) (hc : c < n) {r : Nat → RoundD} {K : RoundD → Prop} {T : Int → RoundD} (h : InvC n c r K T) (ho : openB (r c) = true) : ∃ T', InvC n c (updR r c { r c with dec := verdV (r c).votes n }) K T' := by
  obtain ⟨ho1, ho2⟩ := openB_iff.1 ho
  rw [verdV_n _ h1n hn]
  generalize hD : verdN (r c).votes n = D
  have hD0 : 0 ≤ D := by rw [← hD]; exact (verdN_in _ _).1
  have hk := h.kr c hc
  have hco := h.co
  let T' : Int → RoundD := fun m => if m = (r c).num then { T m with dec := D } else T m
  have hcut : ∀ m, (T' m).cut = (T m).cut := fun m => by show (if m = (r c).num then _ else T m).cut = _; split <;> rfl
  have hvo : ∀ m, (T' m).votes = (T m).votes := fun m => by show (if m = (r c).num then _ else T m).votes = _; split <;> rfl
  have hdn : ∀ m, m ≠ (r c).num → (T' m).dec = (T m).dec := fun m hm => by show (if m = (r c).num then { T m with dec := D } else T m).dec = _; rw [if_neg hm]
  have hda : (T' (r c).num).dec = D := by
    show (if (r c).num = (r c).num then { T (r c).num with dec := D } else T (r c).num).dec = D
    rw [if_pos rfl]
  have hold : ∀ x, OKx n (r c).num T x → OKx n (r c).num T' x := fun x hx => by
    refine ⟨hx.lo, hx.hi, by rw [hcut]; exact hx.cut, by rw [hvo]; exact hx.vt, ?_, hx.cm, hx.ze⟩
    obtain ⟨b1, b2⟩ := hx.dc
    by_cases hm : x.num = (r c).num
    · rw [hm, hco, ho2] at b1
      exact ⟨.inl (by omega), b2⟩
    · rw [hdn _ hm]; exact ⟨b1, b2⟩
  have hnum : (updR r c { r c with dec := D } c).num = (r c).num := by rw [updR_same]
  refine ⟨T', ?_, ?_, ?_, ?_⟩
  · intro x hx; rw [hnum]; exact hold x (h.kn x hx)
  · intro v hv
    rw [hnum]
    by_cases hvc : v = c
    · subst hvc
      rw [updR_same]
      refine ⟨hk.lo, hk.hi, by rw [hcut]; exact hk.cut, by rw [hvo]; exact hk.vt, ⟨.inr hda.symm, hD0⟩, fun hd => ?_, fun _ => ho1⟩
      have hd : D = 1 := hd
      exact verd_yes (by rw [hD]; exact hd)
    · rw [updR_other _ _ hvc]; exact hold _ (h.kr v hv)
  · intro v hv
    by_cases hvc : v = c
    · subst hvc
      rw [updR_same]
      show (T' (r v).num).votes v = (r v).votes v ∧ ∀ m, (r v).num < m → (T' m).votes v = 0
      rw [hvo]
      exact ⟨(h.vo v hv).1, fun m hm => by rw [hvo]; exact (h.vo v hv).2 m hm⟩
    · rw [updR_other _ _ hvc, hvo]
      exact ⟨(h.vo v hv).1, fun m hm => by rw [hvo]; exact (h.vo v hv).2 m hm⟩
  · rw [hnum, hda, updR_same]
theorem invC_settle {n c a : Nat} (h1n : 1 ≤ n) (hn : n ≤ 8) (hc : c < n) (ha : a < n) {r : Nat → RoundD} {K : RoundD → Prop} {T : Int → RoundD} (h : InvC n c r K T) (H : Nat → Int) : ∃ T', InvC n c (updR r a (set1 n a H c (r a))) K T' := by
  unfold set1
  cases ho : openB (r a) with
  | false => exact ⟨T, by simp only [Bool.false_eq_true, if_false]; rw [updR_id rfl]; exact h⟩
  | true =>
    rw [if_pos rfl]
    obtain ⟨T1, h1⟩ := invC_vote hn ha h H ho
    by_cases hca : c = a
    · subst hca
      rw [if_pos rfl]
      obtain ⟨e1, e2, e3⟩ := vot1_num c H (r c)
      have ho1 : openB (updR r c (vot1 c H (r c)) c) = true := by
        rw [updR_same, openB_iff, e1, e3]
        exact openB_iff.1 ho
      obtain ⟨T2, h2⟩ := invC_decide h1n hn hc h1 ho1
      rw [updR_same, updR_updR] at h2
      exact ⟨T2, h2⟩
    · rw [if_neg hca]
      exact ⟨T1, h1⟩
theorem invC_said {n c a : Nat} (ha : a < n) {r : Nat → RoundD} {K K' : RoundD → Prop} {T : Int → RoundD} (h : InvC n c r K T) (hK : ∀ x, K' x → K x ∨ x = r a) : InvC n c r K' T :=
  ⟨fun x hx => by
    rcases hK x hx with h1 | h1
    · exact h.kn x h1
    · rw [h1]; exact h.kr a ha, h.kr, h.vo, h.co⟩
/-! ### all of a session -/
def updD (R : Nat → Nat → RoundD) (a : Nat) (f : Nat → RoundD) : Nat → Nat → RoundD := fun v => if v = a then f else R v
theorem updD_same (R : Nat → Nat → RoundD) (a : Nat) (f : Nat → RoundD) : updD R a f a = f := if_pos rfl
theorem updD_other (R : Nat → Nat → RoundD) {a v : Nat} (f : Nat → RoundD) (h : v ≠ a) : updD R a f v = R v := if_neg h
theorem updD_col (R : Nat → Nat → RoundD) (a c : Nat) (f : Nat → RoundD) : (fun v => updD R a f v c) = updR (fun v => R v c) a (f c) := by
  funext v
  unfold updD updR
  split <;> rfl
def updH (H : Nat → Nat → Int) (a : Nat) (f : Nat → Int) : Nat → Nat → Int := fun v => if v = a then f else H v
theorem updH_same (H : Nat → Nat → Int) (a : Nat) (f : Nat → Int) : updH H a f a = f := if_pos rfl
theorem updH_other (H : Nat → Nat → Int) {a v : Nat} (f : Nat → Int) (h : v ≠ a) : updH H a f v = H v := if_neg h
def Kn (S : List (Nat → RoundD)) (c : Nat) (x : RoundD) : Prop := ∃ f, f ∈ S ∧ f c = x
/-- What is kept true of the clocks. -/
structure InvH (n B : Nat) (R : Nat → Nat → RoundD) (H : Nat → Nat → Int) : Prop where
  nn : ∀ i, i < n → ∀ j, j < 8 → 0 ≤ H i j ∧ H i j ≤ B
  le : ∀ i, i < n → ∀ j, j < n → H i j ≤ H j j
  zz : ∀ i, i < n → ∀ j, n ≤ j → j < 8 → H i j = 0
  yes : ∀ b, b < n → ∀ c, c < n → 1 ≤ (R b c).num → (R b c).votes b = 1 → (R b c).dec ≠ 2 → (R b c).cut b = H b b ∧ ∀ j, j < 8 → (R b c).cut j ≤ H b j ∧ (n ≤ j → (R b c).cut j = 0)
structure Inv (n B : Nat) (R : Nat → Nat → RoundD) (H : Nat → Nat → Int) (S : List (Nat → RoundD)) : Prop where
  n1 : 1 ≤ n
  n8 : n ≤ 8
  one : ∀ c, c < n → ∃ T, InvC n c (fun v => R v c) (Kn S c) T
  clock : InvH n B R H
  far : ∀ i, i < n → ∀ c, n ≤ c → (R i c).num = 0 ∧ (R i c).dec = 0
  farS : ∀ f, f ∈ S → ∀ c, n ≤ c → (f c).num = 0 ∧ (f c).dec = 0
  dec2 : ∀ i, i < n → ∀ c, (R i c).dec ≤ 2
  dec2S : ∀ f, f ∈ S → ∀ c, (f c).dec ≤ 2
def NoC (n : Nat) (R : Nat → Nat → RoundD) (S : List (Nat → RoundD)) : Prop := (∀ i, i < n → ∀ c, c < n → (R i c).dec ≠ 1) ∧ ∀ f, f ∈ S → ∀ c, c < n → (f c).dec ≠ 1
theorem inv_start (n : Nat) (h1 : 1 ≤ n) (h8 : n ≤ 8) : Inv n 0 (fun _ => rnds0) (fun _ => clk0) [] := by
  have h0 : clk0 = fun _ => 0 := rfl
  refine ⟨h1, h8, fun c hc => ⟨_, invC_said (a := c) hc (invC_start n c) fun x hx => ?_⟩, ⟨fun _ _ _ _ => ⟨Int.le_refl _, Int.le_refl _⟩, fun _ _ _ _ => Int.le_refl _, fun _ _ _ _ _ => rfl, fun b _ c _ h => absurd h (by show ¬ (1 : Int) ≤ 0; omega)⟩, fun _ _ _ _ => ⟨rfl, rfl⟩, fun f h => absurd h (by simp), fun _ _ _ => by show (0 : Int) ≤ 2; omega, fun f h => absurd h (by simp)⟩
  obtain ⟨f, hf, _⟩ := hx
  cases hf
theorem noC_start (n : Nat) : NoC n (fun _ => rnds0) [] := ⟨fun _ _ _ _ => by show ¬ (0 : Int) = 1; omega, fun f h => by cases h⟩
theorem joinF_far {f g : Nat → RoundD} {c : Nat} (h1 : (f c).num = 0 ∧ (f c).dec = 0) (h2 : (g c).num = 0 ∧ (g c).dec = 0) : (joinF f g c).num = 0 ∧ (joinF f g c).dec = 0 := by
  show (joinR (f c) (g c)).num = 0 ∧ (joinR (f c) (g c)).dec = 0
  rw [joinR_eq (by omega)]
  refine ⟨h1.1, ?_⟩
  show (if (f c).dec < (g c).dec then (g c).dec else (f c).dec) = 0
  split <;> omega
theorem joinR_dec (x y : RoundD) : (joinR x y).dec = x.dec ∨ (joinR x y).dec = y.dec := by
  rcases Int.lt_trichotomy x.num y.num with h | h | h
  · rw [joinR_lt h]; exact .inr rfl
  · rw [joinR_eq h]
    show (if x.dec < y.dec then y.dec else x.dec) = _ ∨ (if x.dec < y.dec then y.dec else x.dec) = _
    split
    · exact .inr rfl
    · exact .inl rfl
  · rw [joinR_gt h]; exact .inl rfl
/-- What another one knows, or was ever said, is joined. -/
theorem inv_join {n B a : Nat} {R : Nat → Nat → RoundD} {H : Nat → Nat → Int} {S : List (Nat → RoundD)} (h : Inv n B R H S) (ha : a < n) (f : Nat → RoundD) (hf : f ∈ S ∨ ∃ b, b < n ∧ f = R b) : Inv n B (updD R a (joinF (R a) f)) H S := by
  have hfok : ∀ c, c < n → ∀ T, InvC n c (fun v => R v c) (Kn S c) T → OKx n (R c c).num T (f c) := fun c hc T hT => by
    rcases hf with hf | ⟨b, hb, rfl⟩
    · exact hT.kn _ ⟨f, hf, rfl⟩
    · exact hT.kr b hb
  have hffar : ∀ c, n ≤ c → (f c).num = 0 ∧ (f c).dec = 0 := fun c hc => by
    rcases hf with hf | ⟨b, hb, rfl⟩
    · exact h.farS f hf c hc
    · exact h.far b hb c hc
  have hf2 : ∀ c, (f c).dec ≤ 2 := fun c => by
    rcases hf with hf | ⟨b, hb, rfl⟩
    · exact h.dec2S f hf c
    · exact h.dec2 b hb c
  refine ⟨h.n1, h.n8, fun c hc => ?_, ⟨h.clock.nn, h.clock.le, h.clock.zz, fun b hb c hc => ?_⟩, fun i hi c hc => ?_, h.farS, fun i hi c => ?_, h.dec2S⟩
  · obtain ⟨T, hT⟩ := h.one c hc
    rw [updD_col]
    exact ⟨T, invC_join h.n8 hc ha hT (hfok c hc T hT)⟩
  · by_cases hba : b = a
    · subst hba
      rw [updD_same]
      show 1 ≤ (joinR (R b c) (f c)).num → (joinR (R b c) (f c)).votes b = 1 → (joinR (R b c) (f c)).dec ≠ 2 → (joinR (R b c) (f c)).cut b = H b b ∧ ∀ j, j < 8 → (joinR (R b c) (f c)).cut j ≤ H b j ∧ (n ≤ j → (joinR (R b c) (f c)).cut j = 0)
      obtain ⟨T, hT⟩ := h.one c hc
      have hy := hfok c hc T hT
      have hx : OKx n (R c c).num T (R b c) := hT.kr b hb
      obtain ⟨v1, v2⟩ := hT.vo b hb
      have hold := h.clock.yes b hb c hc
      rcases Int.lt_trichotomy (R b c).num (f c).num with h1 | h1 | h1
      · rw [joinR_lt h1]
        intro _ hv
        have h0 : (T (f c).num).votes b = 0 := v2 _ h1
        have := (hy.vt b (by have := h.n8; omega)).1
        omega
      · rw [joinR_eq h1]
        intro h2 hv hd
        have hd : (if (R b c).dec < (f c).dec then (f c).dec else (R b c).dec) ≠ 2 := hd
        have hv : (if (R b c).votes b < (f c).votes b then (f c).votes b else (R b c).votes b) = 1 := hv
        have hvb : (R b c).votes b = 1 := by
          have h3 := (hy.vt b (by have := h.n8; omega)).1
          have h4 := (hy.vt b (by have := h.n8; omega)).2
          rw [← h1, show (T (R b c).num).votes b = (R b c).votes b from v1] at h3
          split at hv <;> omega
        have hdb : (R b c).dec ≠ 2 := by
          have := hf2 c
          intro h2
          rw [h2] at hd
          split at hd <;> omega
        obtain ⟨k1, k2⟩ := hold h2 hvb hdb
        have hcut : ∀ j, j < 8 → (mrgC (R b c).cut (f c).cut) j = (R b c).cut j := fun j hj => by
          show (if (R b c).cut j < (f c).cut j then (f c).cut j else (R b c).cut j) = _
          have e1 := hx.cut j hj
          have e2 := hy.cut j hj
          rw [← h1] at e2
          split <;> omega
        refine ⟨?_, fun j hj => ?_⟩
        · show mrgC (R b c).cut (f c).cut b = H b b
          rw [hcut b (by have := h.n8; omega)]; exact k1
        · show mrgC (R b c).cut (f c).cut j ≤ H b j ∧ (n ≤ j → mrgC (R b c).cut (f c).cut j = 0)
          rw [hcut j hj]; exact k2 j hj
      · rw [joinR_gt h1]; exact hold
    · rw [updD_other _ _ hba]; exact h.clock.yes b hb c hc
  · by_cases hia : i = a
    · subst hia; rw [updD_same]; exact joinF_far (h.far i hi c hc) (hffar c hc)
    · rw [updD_other _ _ hia]; exact h.far i hi c hc
  · by_cases hia : i = a
    · subst hia
      rw [updD_same]
      show (joinR (R i c) (f c)).dec ≤ 2
      have h1 := hf2 c
      have h2 := h.dec2 i hi c
      rcases joinR_dec (R i c) (f c) with h3 | h3 <;> omega
    · rw [updD_other _ _ hia]; exact h.dec2 i hi c
theorem noC_join {n a : Nat} {R : Nat → Nat → RoundD} {S : List (Nat → RoundD)} (h : NoC n R S) (ha : a < n) (f : Nat → RoundD) (hf : f ∈ S ∨ ∃ b, b < n ∧ f = R b) : NoC n (updD R a (joinF (R a) f)) S := by
  refine ⟨fun i hi c hc => ?_, h.2⟩
  by_cases hia : i = a
  · subst hia
    rw [updD_same]
    have h1 : (f c).dec ≠ 1 := by
      rcases hf with hf | ⟨b, hb, rfl⟩
      · exact h.2 f hf c hc
      · exact h.1 b hb c hc
    have h2 := h.1 i hi c hc
    show (joinR (R i c) (f c)).dec ≠ 1
    rcases joinR_dec (R i c) (f c) with h3 | h3 <;> omega
  · rw [updD_other _ _ hia]; exact h.1 i hi c hc
theorem inv_propose {n B a : Nat} {R : Nat → Nat → RoundD} {H : Nat → Nat → Int} {S : List (Nat → RoundD)} (h : Inv n B R H S) (ha : a < n) : Inv n B (updD R a (updR (R a) a (prop1 (R a a) (H a)))) H S := by
  refine ⟨h.n1, h.n8, fun c hc => ?_, ⟨h.clock.nn, h.clock.le, h.clock.zz, fun b hb c hc => ?_⟩, fun i hi c hc => ?_, h.farS, fun i hi c => ?_, h.dec2S⟩
  · obtain ⟨T, hT⟩ := h.one c hc
    rw [updD_col]
    by_cases hca : c = a
    · subst hca
      rw [updR_same]
      exact invC_propose hc hT (H c)
    · rw [updR_other _ _ hca, updR_id rfl]
      exact ⟨T, hT⟩
  · by_cases hba : b = a
    · subst hba
      rw [updD_same]
      by_cases hcb : c = b
      · subst hcb
        rw [updR_same]
        intro _ hv
        exact absurd hv (by show ¬ (0 : Int) = 1; omega)
      · rw [updR_other _ _ hcb]; exact h.clock.yes b hb c hc
    · rw [updD_other _ _ hba]; exact h.clock.yes b hb c hc
  · by_cases hia : i = a
    · subst hia; rw [updD_same, updR_other _ _ (by omega)]; exact h.far i hi c hc
    · rw [updD_other _ _ hia]; exact h.far i hi c hc
  · by_cases hia : i = a
    · subst hia
      rw [updD_same]
      by_cases hci : c = i
      · subst hci; rw [updR_same]; show (0 : Int) ≤ 2; omega
      · rw [updR_other _ _ hci]; exact h.dec2 i hi c
    · rw [updD_other _ _ hia]; exact h.dec2 i hi c
theorem noC_propose {n a : Nat} {R : Nat → Nat → RoundD} {H : Nat → Nat → Int} {S : List (Nat → RoundD)} (h : NoC n R S) (ha : a < n) : NoC n (updD R a (updR (R a) a (prop1 (R a a) (H a)))) S := by
  refine ⟨fun i hi c hc => ?_, h.2⟩
  by_cases hia : i = a
  · subst hia
    rw [updD_same]
    by_cases hci : c = i
    · subst hci; rw [updR_same]; show ¬ (0 : Int) = 1; omega
    · rw [updR_other _ _ hci]; exact h.1 i hi c hc
  · rw [updD_other _ _ hia]; exact h.1 i hi c hc
theorem frozenB_false {s : Nat} {f : Nat → RoundD} (h : frozenB s f = false) : ∀ c, c < 8 → ¬ (openB (f c) = true ∧ (f c).votes s = 1) := fun c hc ⟨h1, h2⟩ => by
  have : frozenB s f = true := any8_yes hc (by simp [h1, h2])
  rw [h] at this
  cases this
/-- One act more. -/
theorem inv_act {n B a : Nat} {R : Nat → Nat → RoundD} {H : Nat → Nat → Int} {S : List (Nat → RoundD)} (h : Inv n B R H S) (hN : NoC n R S) (ha : a < n) (hf : frozenB a (R a) = false) : Inv n (B + 1) R (updH H a (setAt (H a) a (H a a + 1))) S := by
  have hs : ∀ j, updH H a (setAt (H a) a (H a a + 1)) a j = if j = a then H a a + 1 else H a j := fun j => by rw [updH_same]; rfl
  have h8 := h.n8
  refine ⟨h.n1, h.n8, h.one, ⟨fun i hi j hj => ?_, fun i hi j hj => ?_, fun i hi j hj hj8 => ?_, fun b hb c hc h1 h2 h3 => ?_⟩, h.far, h.farS, h.dec2, h.dec2S⟩
  · have h1 := h.clock.nn i hi j hj
    by_cases hia : i = a
    · subst hia
      rw [hs]
      split
      · have := h.clock.nn i hi i (by omega); omega
      · omega
    · rw [updH_other _ _ hia]; omega
  · have h1 := h.clock.le i hi j hj
    by_cases hia : i = a
    · subst hia
      rw [hs]
      by_cases hji : j = i
      · subst hji; rw [if_pos rfl, hs, if_pos rfl]; omega
      · rw [if_neg hji, updH_other _ _ hji]; exact h1
    · rw [updH_other _ _ hia]
      by_cases hja : j = a
      · subst hja; rw [hs, if_pos rfl]; omega
      · rw [updH_other _ _ hja]; exact h1
  · have h1 := h.clock.zz i hi j hj hj8
    by_cases hia : i = a
    · subst hia; rw [hs, if_neg (by omega)]; exact h1
    · rw [updH_other _ _ hia]; exact h1
  · by_cases hba : b = a
    · subst hba
      exfalso
      refine frozenB_false hf c (by omega) ⟨openB_iff.2 ⟨h1, ?_⟩, h2⟩
      have := hN.1 b hb c hc
      have := h.dec2 b hb c
      obtain ⟨T, hT⟩ := h.one c hc
      have : 0 ≤ (R b c).dec := (hT.kr b hb).dc.2
      omega
    · rw [updH_other _ _ hba]; exact h.clock.yes b hb c hc h1 h2 h3
/-- What another one has, too. -/
theorem inv_have {n B a b : Nat} {R : Nat → Nat → RoundD} {H : Nat → Nat → Int} {S : List (Nat → RoundD)} (h : Inv n B R H S) (ha : a < n) (hb : b < n) : Inv n B R (updH H a (mrgC (H a) (H b))) S := by
  have hm : ∀ j, updH H a (mrgC (H a) (H b)) a j = if H a j < H b j then H b j else H a j := fun j => by rw [updH_same]; rfl
  have h8 := h.n8
  refine ⟨h.n1, h.n8, h.one, ⟨fun i hi j hj => ?_, fun i hi j hj => ?_, fun i hi j hj hj8 => ?_, fun d hd c hc h1 h2 h3 => ?_⟩, h.far, h.farS, h.dec2, h.dec2S⟩
  · have h1 := h.clock.nn i hi j hj
    by_cases hia : i = a
    · subst hia
      rw [hm]
      have := h.clock.nn b hb j hj
      split <;> omega
    · rw [updH_other _ _ hia]; omega
  · have h1 := h.clock.le i hi j hj
    have h2 := h.clock.le b hb j hj
    have haa : ∀ j, j < n → H j j ≤ updH H a (mrgC (H a) (H b)) j j := fun j hj => by
      by_cases hja : j = a
      · subst hja; rw [hm]; split <;> omega
      · rw [updH_other _ _ hja]; exact Int.le_refl _
    have := haa j hj
    by_cases hia : i = a
    · subst hia; rw [hm]; split <;> omega
    · rw [updH_other _ _ hia]; omega
  · have h1 := h.clock.zz i hi j hj hj8
    have h2 := h.clock.zz b hb j hj hj8
    by_cases hia : i = a
    · subst hia; rw [hm]; split <;> omega
    · rw [updH_other _ _ hia]; exact h1
  · have h4 := h.clock.yes d hd c hc h1 h2 h3
    by_cases hda : d = a
    · subst hda
      refine ⟨?_, fun j hj => ?_⟩
      · rw [hm]
        have := h.clock.le b hb d hd
        have := h4.1
        split <;> omega
      · rw [hm]
        have := h4.2 j hj
        split <;> omega
    · rw [updH_other _ _ hda]; exact h4
theorem voteV_yes {c d : Nat → Int} (h : voteV c d = 1) : ∀ j, j < 8 → c j = d j := by
  unfold voteV at h
  split at h
  · rename_i h1
    unfold clkEq at h1
    simp only [Bool.and_eq_true, beq_iff_eq] at h1
    obtain ⟨a0, a1, a2, a3, a4, a5, a6, a7⟩ := h1
    intro j hj
    match j, hj with
    | 0, _ => exact a0
    | 1, _ => exact a1
    | 2, _ => exact a2
    | 3, _ => exact a3
    | 4, _ => exact a4
    | 5, _ => exact a5
    | 6, _ => exact a6
    | 7, _ => exact a7
  · split at h <;> omega
theorem setF_all (n s : Nat) (h : Nat → Int) (f : Nat → RoundD) (i : Nat) : setF n s h n f i = if i < n then set1 n s h i (f i) else f i := rfl
theorem set1_same (n s : Nat) (h : Nat → Int) (i : Nat) (r : RoundD) : (set1 n s h i r).num = r.num ∧ (set1 n s h i r).cut = r.cut ∧ (set1 n s h i r).votes = (if openB r then (vot1 s h r).votes else r.votes) := by
  obtain ⟨e1, e2, e3⟩ := vot1_num s h r
  unfold set1
  split
  · split
    · exact ⟨e1, e2, rfl⟩
    · exact ⟨e1, e2, rfl⟩
  · exact ⟨rfl, rfl, rfl⟩
/-- Votes and decisions. -/
theorem inv_settle {n B a : Nat} {R : Nat → Nat → RoundD} {H : Nat → Nat → Int} {S : List (Nat → RoundD)} (h : Inv n B R H S) (ha : a < n) : Inv n B (updD R a (setF n a (H a) n (R a))) H S := by
  have h8 := h.n8
  refine ⟨h.n1, h.n8, fun c hc => ?_, ⟨h.clock.nn, h.clock.le, h.clock.zz, fun b hb c hc => ?_⟩, fun i hi c hc => ?_, h.farS, fun i hi c => ?_, h.dec2S⟩
  · obtain ⟨T, hT⟩ := h.one c hc
    rw [updD_col, setF_all, if_pos hc]
    exact invC_settle h.n1 h.n8 hc ha hT (H a)
  · by_cases hba : b = a
    · subst hba
      rw [updD_same, setF_all, if_pos hc]
      obtain ⟨e1, e2, e3⟩ := set1_same n b (H b) c (R b c)
      rw [e1, e2, e3]
      intro h1 h2 h3
      have hold := h.clock.yes b hb c hc h1
      cases ho : openB (R b c) with
      | false =>
        rw [ho] at h2
        simp only [Bool.false_eq_true, if_false] at h2
        have hsame : set1 n b (H b) c (R b c) = R b c := by unfold set1; rw [ho]; rfl
        rw [hsame] at h3
        exact hold h2 h3
      | true =>
        rw [ho, if_pos rfl] at h2
        obtain ⟨o1, o2⟩ := openB_iff.1 ho
        by_cases hz : (R b c).votes b = 0
        · have hv : vot1 b (H b) (R b c) = { R b c with votes := setAt (R b c).votes b (voteV (R b c).cut (H b)) } := if_pos hz
          rw [hv] at h2
          have h2 : (if b = b then voteV (R b c).cut (H b) else (R b c).votes b) = 1 := h2
          rw [if_pos rfl] at h2
          have hy := voteV_yes h2
          refine ⟨hy b (by omega), fun j hj => ⟨by rw [hy j hj]; exact Int.le_refl _, fun hnj => by rw [hy j hj]; exact h.clock.zz b hb j hnj hj⟩⟩
        · have hv : vot1 b (H b) (R b c) = R b c := if_neg hz
          rw [hv] at h2
          exact hold h2 (by omega)
    · rw [updD_other _ _ hba]; exact h.clock.yes b hb c hc
  · by_cases hia : i = a
    · subst hia; rw [updD_same, setF_all, if_neg (by omega)]; exact h.far i hi c hc
    · rw [updD_other _ _ hia]; exact h.far i hi c hc
  · by_cases hia : i = a
    · subst hia
      rw [updD_same, setF_all]
      have h2 := h.dec2 i hi c
      split
      · obtain ⟨e1, e2, e3⟩ := vot1_num i (H i) (R i c)
        unfold set1
        split
        · split
          · show verdV (vot1 i (H i) (R i c)).votes n ≤ 2
            rw [verdV_n _ h.n1 h.n8]
            exact (verdN_in _ _).2
          · rw [e3]; exact h2
        · exact h2
      · exact h2
    · rw [updD_other _ _ hia]; exact h.dec2 i hi c
theorem inv_said {n B a : Nat} {R : Nat → Nat → RoundD} {H : Nat → Nat → Int} {S : List (Nat → RoundD)} (h : Inv n B R H S) (ha : a < n) : Inv n B R H (S ++ [R a]) := by
  refine ⟨h.n1, h.n8, fun c hc => ?_, h.clock, h.far, fun f hf => ?_, h.dec2, fun f hf => ?_⟩
  · obtain ⟨T, hT⟩ := h.one c hc
    refine ⟨T, invC_said ha hT fun x ⟨f, hf, hx⟩ => ?_⟩
    rcases List.mem_append.1 hf with h1 | h1
    · exact .inl ⟨f, h1, hx⟩
    · rw [List.mem_singleton.1 h1] at hx
      exact .inr hx.symm
  · rcases List.mem_append.1 hf with h1 | h1
    · exact h.farS f h1
    · rw [List.mem_singleton.1 h1]; exact h.far a ha
  · rcases List.mem_append.1 hf with h1 | h1
    · exact h.dec2S f h1
    · rw [List.mem_singleton.1 h1]; exact h.dec2 a ha
theorem Inv.room {n B B' : Nat} {R : Nat → Nat → RoundD} {H : Nat → Nat → Int} {S : List (Nat → RoundD)} (h : Inv n B R H S) (hB : B ≤ B') : Inv n B' R H S :=
  ⟨h.n1, h.n8, h.one, ⟨fun i hi j hj => by have := h.clock.nn i hi j hj; omega, h.clock.le, h.clock.zz, h.clock.yes⟩, h.far, h.farS, h.dec2, h.dec2S⟩
theorem doneB_false {f : Nat → RoundD} (h : doneB f = false) : ∀ c, c < 8 → (f c).dec ≠ 1 := fun c hc h1 => by
  have : doneB f = true := any8_yes hc (by simp [h1])
  rw [h] at this
  cases this
theorem noC_said {n a : Nat} (hn : n ≤ 8) {R : Nat → Nat → RoundD} {S : List (Nat → RoundD)} {f : Nat → RoundD} (h : NoC n R S) (hd : doneB f = false) : NoC n (updD R a f) (S ++ [f]) := by
  have hf := doneB_false hd
  refine ⟨fun i hi c hc => ?_, fun g hg c hc => ?_⟩
  · by_cases hia : i = a
    · subst hia; rw [updD_same]; exact hf c (by omega)
    · rw [updD_other _ _ hia]; exact h.1 i hi c hc
  · rcases List.mem_append.1 hg with h1 | h1
    · exact h.2 g h1 c hc
    · rw [List.mem_singleton.1 h1]; exact hf c (by omega)
/-- Of one round nobody knows another cut, vote or decision than anybody else. -/
theorem inv_agrees {n B : Nat} {R : Nat → Nat → RoundD} {H : Nat → Nat → Int} {S : List (Nat → RoundD)} (h : Inv n B R H S) {f g : Nat → RoundD} (hf : f ∈ S) (hg : g ∈ S) {c : Nat} (hc : c < n) :
    ((f c).dec = 1 → verdV (f c).votes n = 1) ∧ ((f c).num = (g c).num → clkEq (f c).cut (g c).cut = true ∧ ((f c).dec ≠ 0 → (g c).dec ≠ 0 → (f c).dec = (g c).dec) ∧ ∀ v, v < 8 → (f c).votes v ≠ 0 → (g c).votes v ≠ 0 → (f c).votes v = (g c).votes v) := by
  obtain ⟨T, hT⟩ := h.one c hc
  have hx := hT.kn _ ⟨f, hf, rfl⟩
  have hy := hT.kn _ ⟨g, hg, rfl⟩
  refine ⟨fun hd => ?_, fun hm => ⟨?_, fun h1 h2 => ?_, fun v hv h1 h2 => ?_⟩⟩
  · rw [verdV_n _ h.n1 h.n8]
    have hv := hx.cm hd
    unfold verdN
    have h1 : (List.range n).any (fun i => (f c).votes i == 2) = false := List.any_eq_false.2 fun i hi => by rw [hv i (List.mem_range.1 hi)]; decide
    have h2 : (List.range n).all (fun i => (f c).votes i == 1) = true := List.all_eq_true.2 fun i hi => by rw [hv i (List.mem_range.1 hi)]; decide
    rw [h1, h2]
    rfl
  · have hc2 : ∀ j, j < 8 → (f c).cut j = (g c).cut j := fun j hj => by rw [hx.cut j hj, hy.cut j hj, hm]
    unfold clkEq
    simp only [Bool.and_eq_true, beq_iff_eq]
    exact ⟨hc2 0 (by omega), hc2 1 (by omega), hc2 2 (by omega), hc2 3 (by omega), hc2 4 (by omega), hc2 5 (by omega), hc2 6 (by omega), hc2 7 (by omega)⟩
  · have := hx.dc.1
    have := hy.dc.1
    rw [← hm] at this
    omega
  · have := (hx.vt v hv).1
    have := (hy.vt v hv).1
    rw [← hm] at this
    omega
/-- A round that has just been committed is everybody's clock, and everybody else is frozen. -/
theorem inv_cut {n B a : Nat} {R : Nat → Nat → RoundD} {H : Nat → Nat → Int} {S : List (Nat → RoundD)} {q : Nat → RoundD} (h : Inv n B (updD R a q) H S) (hN : ∀ i, i < n → ∀ c, c < n → (R i c).dec ≠ 1) (hq : ∀ c, c < n → c ≠ a → (q c).dec ≠ 1) (ha : a < n)
    {d c : Nat} (hd : d < n) (hc : c < n) (hcm : (updD R a q d c).dec = 1) : ∀ b, b < n → clkEq (H b) (updD R a q d c).cut = true ∧ (b ≠ d → frozenB b (updD R a q b) = true) := by
  have h8 := h.n8
  have hda : d = a := by
    by_cases hda : d = a
    · exact hda
    · rw [updD_other _ _ hda] at hcm; exact absurd hcm (hN d hd c hc)
  subst hda
  have hca : c = d := by
    by_cases hca : c = d
    · exact hca
    · rw [updD_same] at hcm; exact absurd hcm (hq c hc hca)
  subst hca
  obtain ⟨T, hT⟩ := h.one c hc
  have hx : OKx n (updD R c q c c).num T (updD R c q c c) := hT.kr c hc
  have hall := hx.cm hcm
  have hnum1 : 1 ≤ (updD R c q c c).num := hx.ze hcm
  have hb : ∀ b, b < n → (updD R c q b c).num = (updD R c q c c).num ∧ (updD R c q b c).votes b = 1 ∧ (updD R c q b c).dec ≠ 2 ∧ (b ≠ c → (updD R c q b c).dec = 0) := fun b hb => by
    have hy : OKx n (updD R c q c c).num T (updD R c q b c) := hT.kr b hb
    obtain ⟨v1, v2⟩ := hT.vo b hb
    have v1 : (T (updD R c q b c).num).votes b = (updD R c q b c).votes b := v1
    have v2 : ∀ m, (updD R c q b c).num < m → (T m).votes b = 0 := v2
    have hvb := hall b hb
    have hvT := (hx.vt b (by omega)).1
    have hne : ¬ (updD R c q b c).num < (updD R c q c c).num := fun hlt => by have := v2 _ hlt; omega
    have he : (updD R c q b c).num = (updD R c q c c).num := by have := hy.hi; omega
    have hco : (T (updD R c q c c).num).dec = (updD R c q c c).dec := hT.co
    have hdb := hy.dc.1
    rw [he] at v1 hdb
    refine ⟨he, by omega, by omega, fun hbc => ?_⟩
    have : (updD R c q b c).dec ≠ 1 := by rw [updD_other _ _ hbc]; exact hN b hb c hc
    omega
  have hyes : ∀ b, b < n → (updD R c q b c).cut b = H b b ∧ ∀ j, j < 8 → (updD R c q b c).cut j ≤ H b j ∧ (n ≤ j → (updD R c q b c).cut j = 0) := fun b hb' => by
    obtain ⟨e1, e2, e3, _⟩ := hb b hb'
    exact h.clock.yes b hb' c hc (by omega) e2 e3
  have hcut : ∀ b, b < n → ∀ j, j < 8 → (updD R c q b c).cut j = (updD R c q c c).cut j := fun b hb' j hj => by
    have hy : OKx n (updD R c q c c).num T (updD R c q b c) := hT.kr b hb'
    rw [hy.cut j hj, hx.cut j hj, (hb b hb').1]
  intro b hb'
  refine ⟨?_, fun hbc => ?_⟩
  · have hj : ∀ j, j < 8 → H b j = (updD R c q c c).cut j := fun j hj => by
      obtain ⟨k1, k2⟩ := (hyes b hb').2 j hj
      rw [hcut b hb' j hj] at k1 k2
      by_cases hjn : j < n
      · have e1 := (hyes j hjn).1
        rw [hcut j hjn j hj] at e1
        have := h.clock.le b hb' j hjn
        omega
      · have := h.clock.zz b hb' j (by omega) hj
        have := k2 (by omega)
        omega
    unfold clkEq
    simp only [Bool.and_eq_true, beq_iff_eq]
    exact ⟨hj 0 (by omega), hj 1 (by omega), hj 2 (by omega), hj 3 (by omega), hj 4 (by omega), hj 5 (by omega), hj 6 (by omega), hj 7 (by omega)⟩
  · obtain ⟨e1, e2, _, e4⟩ := hb b hb'
    have ho : openB (updD R c q b c) = true := openB_iff.2 ⟨by omega, e4 hbc⟩
    exact any8_yes (k := c) (by omega) (by simp [ho, e2])
end Go.Proofs.YthnkcljgkfpneaaDoor
