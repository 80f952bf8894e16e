/- BagSums: what holds between the calls, in plain Lean. -/
import Derived.Test.YtlgjippijbepkaaDoorGH
set_option linter.unusedSimpArgs false
set_option linter.unusedVariables false
namespace Go.Proofs.YtlgjippijbepkaaDoor
open Go Go.RowKit

abbrev sl (p : PclD) : Value := .slice p.rawp p.rawn p.rawc
def ser (k : Nat) (p : PclD) : Bool := p.serial == (k : Int) + 1
/-- A parcel under way, and what was put in. -/
def Snt (Z : HP) (qs : List PclD) (p : PclD) : Prop := ∃ (k : Nat) (r : PclD) (l : List Int), p.serial = (k : Int) + 1 ∧ qs[k]? = some r ∧ r.serial = p.serial ∧ r.src = p.src ∧ r.dst = p.dst ∧ SlR Z 1 bytv (sl p) l ∧ SlR Z 1 bytv (sl r) l ∧ l.length ≤ 60
structure BI (Z : HP) (ts qs : List PclD) (ms : List Int) (m s x y z d : Int) (q : Nat) : Prop where
  m0 : 0 ≤ m
  m20 : m < 20
  room : (ts.length : Int) ≤ m
  ser : s = qs.length
  may : ms.length = qs.length
  qn : qs.length ≤ q
  sum : x + d = y + z + ts.length
  b : 0 ≤ x ∧ x ≤ q ∧ 0 ≤ y ∧ y ≤ q ∧ 0 ≤ z ∧ z ≤ q ∧ 0 ≤ d ∧ d ≤ q
  snt : ∀ p, p ∈ ts → Snt Z qs p
  cnt : ∀ (k : Nat) (v : Int), ms[k]? = some v → (ts.countP (Go.Proofs.YtlgjippijbepkaaDoor.ser k) : Int) ≤ v ∧ v ≤ q
section
variable {Z : HP} {ts qs : List PclD} {ms : List Int} {m s x y z d : Int} {q : Nat}
theorem bi_start (Z : HP) (h0 : 0 ≤ m) (h1 : m < 20) : BI Z [] [] [] m 0 0 0 0 0 0 :=
  ⟨h0, h1, by simpa using h0, rfl, rfl, by simp, by simp, by simp, fun p h => (by cases h), fun k v h => (by simp at h)⟩
theorem Snt.more {A : HP} {p : PclD} (h : Snt Z qs p) (hA : ∀ v l, SlR Z 1 bytv v l → SlR A 1 bytv v l) : Snt A qs p := by
  obtain ⟨k, r, l, h1, h2, h3, h4, h5, h6, h7, h8⟩ := h
  exact ⟨k, r, l, h1, h2, h3, h4, h5, hA _ _ h6, hA _ _ h7, h8⟩
theorem Snt.app {r' : PclD} {p : PclD} (h : Snt Z qs p) : Snt Z (qs ++ [r']) p := by
  obtain ⟨k, r, l, h1, h2, h3⟩ := h
  exact ⟨k, r, l, h1, by rw [List.getElem?_append_left (List.getElem?_eq_some_iff.1 h2).1]; exact h2, h3⟩
theorem BI.more {A : HP} (h : BI Z ts qs ms m s x y z d q) (hA : ∀ v l, SlR Z 1 bytv v l → SlR A 1 bytv v l) : BI A ts qs ms m s x y z d (q + 1) :=
  ⟨h.m0, h.m20, h.room, h.ser, h.may, by have := h.qn; omega, h.sum, by have := h.b; omega, fun p hp => (h.snt p hp).more hA, fun k v hk => by have := h.cnt k v hk; omega⟩
theorem BI.lift {A : HP} (h : BI Z ts qs ms m s x y z d q) (hA : ∀ v l, SlR Z 1 bytv v l → SlR A 1 bytv v l) : BI A ts qs ms m s x y z d q :=
  ⟨h.m0, h.m20, h.room, h.ser, h.may, h.qn, h.sum, h.b, fun p hp => (h.snt p hp).more hA, h.cnt⟩
/-- Fewer of each. -/
structure Less (us ts : List PclD) : Prop where
  mem : ∀ p, p ∈ us → p ∈ ts
  cnt : ∀ k, us.countP (Go.Proofs.YtlgjippijbepkaaDoor.ser k) ≤ ts.countP (Go.Proofs.YtlgjippijbepkaaDoor.ser k)
theorem less_same (ts : List PclD) : Less ts ts := ⟨fun _ h => h, fun _ => Nat.le_refl _⟩
theorem less_out (ts : List PclD) (i : Nat) : Less (ts.take i ++ ts.drop (i + 1)) ts := by
  have hs : (ts.take i ++ ts.drop (i + 1)).Sublist ts := by
    have h1 : (ts.drop (i + 1)).Sublist (ts.drop i) := by
      rw [← List.drop_drop]
      exact List.drop_sublist _ _
    have h2 := List.Sublist.append (List.Sublist.refl (ts.take i)) h1
    rwa [List.take_append_drop] at h2
  exact ⟨fun p h => hs.subset h, fun k => hs.countP_le⟩
theorem out_len {ts : List PclD} {i : Nat} (h : i < ts.length) : (ts.take i ++ ts.drop (i + 1)).length + 1 = ts.length := by simp; omega
theorem out_cnt {ts : List PclD} {i : Nat} {p : PclD} (h : ts[i]? = some p) (f : PclD → Bool) : ts.countP f = (ts.take i ++ ts.drop (i + 1)).countP f + (if f p then 1 else 0) := by
  have hlt := (List.getElem?_eq_some_iff.1 h).1
  have e : ts = ts.take i ++ ([p] ++ ts.drop (i + 1)) := by
    rw [List.singleton_append, ← (List.getElem?_eq_some_iff.1 h).2, ← List.drop_eq_getElem_cons hlt, List.take_append_drop]
  conv => lhs; rw [e]
  simp only [List.countP_append, List.countP_singleton]
  omega
/-- Something leaves, or all stays (Drop, Swap). -/
theorem BI.less (h : BI Z ts qs ms m s x y z d q) {us : List PclD} (hl : Less us ts) {y' z' : Int} (hsum : x + d = y' + z' + us.length) (hb : 0 ≤ y' ∧ y' ≤ q + 1 ∧ 0 ≤ z' ∧ z' ≤ q + 1) (hlen : us.length ≤ ts.length) : BI Z us qs ms m s x y' z' d (q + 1) :=
  ⟨h.m0, h.m20, by have := h.room; omega, h.ser, h.may, by have := h.qn; omega, hsum, by have := h.b; omega, fun p hp => h.snt p (hl.mem p hp), fun k v hk => by have := h.cnt k v hk; have := hl.cnt k; omega⟩
/-- A parcel arrives. -/
theorem BI.arrive (h : BI Z ts qs ms m s x y z d q) {i k : Nat} {p : PclD} {v : Int} (hi : ts[i]? = some p) (hp : p.serial = (k : Int) + 1) (hv : ms[k]? = some v) : 1 ≤ v ∧ BI Z (ts.take i ++ ts.drop (i + 1)) qs (ms.set k (v - 1)) m s x (y + 1) z d (q + 1) := by
  have hk := h.cnt k v hv
  have hc := out_cnt hi (Go.Proofs.YtlgjippijbepkaaDoor.ser k)
  have hpk : Go.Proofs.YtlgjippijbepkaaDoor.ser k p = true := by unfold Go.Proofs.YtlgjippijbepkaaDoor.ser; simpa using hp
  rw [hpk, if_pos rfl] at hc
  have hil := (List.getElem?_eq_some_iff.1 hi).1
  have hol := out_len hil
  have hl := less_out ts i
  refine ⟨by omega, h.m0, h.m20, by have := h.room; omega, h.ser, by rw [List.length_set]; exact h.may, by have := h.qn; omega, by have := h.sum; omega, by have := h.b; omega, fun p hp => h.snt p (hl.mem p hp), fun j u hj => ?_⟩
  rw [List.getElem?_set] at hj
  by_cases hkj : k = j
  · subst hkj
    have hkl := (List.getElem?_eq_some_iff.1 hv).1
    rw [if_pos rfl, if_pos hkl] at hj
    have : v - 1 = u := by simpa using hj
    omega
  · rw [if_neg hkj] at hj
    have h1 := h.cnt j u hj
    have h2 := hl.cnt j
    omega
/-- A parcel is doubled. -/
theorem BI.double (h : BI Z ts qs ms m s x y z d q) {i k : Nat} {p p' : PclD} {v : Int} (hi : ts[i]? = some p) (hp : p.serial = (k : Int) + 1) (hv : ms[k]? = some v) (hm : (ts.length : Int) < m) (hp' : p'.serial = p.serial) (hs' : Snt Z qs p') : BI Z (ts ++ [p']) qs (ms.set k (v + 1)) m s x y z (d + 1) (q + 1) := by
  have hk := h.cnt k v hv
  refine ⟨h.m0, h.m20, by simp; omega, h.ser, by rw [List.length_set]; exact h.may, by have := h.qn; omega, by have := h.sum; simp; omega, by have := h.b; omega, fun r hr => ?_, fun j u hj => ?_⟩
  · rw [List.mem_append, List.mem_singleton] at hr
    rcases hr with hr | rfl
    · exact h.snt r hr
    · exact hs'
  · rw [List.countP_append, List.countP_singleton]
    rw [List.getElem?_set] at hj
    by_cases hkj : k = j
    · subst hkj
      have hkl := (List.getElem?_eq_some_iff.1 hv).1
      rw [if_pos rfl, if_pos hkl] at hj
      have : v + 1 = u := by simpa using hj
      split <;> omega
    · rw [if_neg hkj] at hj
      have h1 := h.cnt j u hj
      have : Go.Proofs.YtlgjippijbepkaaDoor.ser j p' = false := by
        unfold Go.Proofs.YtlgjippijbepkaaDoor.ser
        rw [hp', hp]
        simp only [beq_eq_false_iff_ne, ne_eq]
        omega
      rw [this]
      simp only [Bool.false_eq_true, if_false]
      omega
/-- A parcel is put in. -/
theorem BI.send (h : BI Z ts qs ms m s x y z d q) {p r : PclD} {l : List Int} (hm : (ts.length : Int) < m) (hp : p.serial = s + 1) (hr : r.serial = s + 1) (h1 : r.src = p.src) (h2 : r.dst = p.dst) (h3 : SlR Z 1 bytv (sl p) l) (h4 : SlR Z 1 bytv (sl r) l) (h5 : l.length ≤ 60) : BI Z (ts ++ [p]) (qs ++ [r]) (ms ++ [1]) m (s + 1) (x + 1) y z d (q + 1) := by
  have hser := h.ser
  refine ⟨h.m0, h.m20, by simp; omega, by simp; omega, by simp [h.may], by have := h.qn; simp; omega, by have := h.sum; simp; omega, by have := h.b; omega, fun u hu => ?_, fun j u hj => ?_⟩
  · rw [List.mem_append, List.mem_singleton] at hu
    rcases hu with hu | rfl
    · exact (h.snt u hu).app
    · exact ⟨qs.length, r, l, by omega, by simp, by omega, h1, h2, h3, h4, h5⟩
  · rw [List.countP_append, List.countP_singleton]
    by_cases hjl : j < ms.length
    · rw [List.getElem?_append_left hjl] at hj
      have h6 := h.cnt j u hj
      have : Go.Proofs.YtlgjippijbepkaaDoor.ser j p = false := by
        unfold Go.Proofs.YtlgjippijbepkaaDoor.ser
        rw [hp]
        have := h.may
        simp only [beq_eq_false_iff_ne, ne_eq]
        omega
      rw [this]
      simp only [Bool.false_eq_true, if_false]
      omega
    · have hjm : j < (ms ++ [(1 : Int)]).length := (List.getElem?_eq_some_iff.1 hj).1
      have hjm2 : j = ms.length := by simp at hjm; omega
      subst hjm2
      have hu : u = 1 := by simpa using hj.symm
      have h0 : ts.countP (Go.Proofs.YtlgjippijbepkaaDoor.ser ms.length) = 0 := by
        rw [List.countP_eq_zero]
        intro p0 hp0 hs0
        obtain ⟨k, r0, l0, e1, e2, _⟩ := h.snt p0 hp0
        have hk2 := (List.getElem?_eq_some_iff.1 e2).1
        unfold Go.Proofs.YtlgjippijbepkaaDoor.ser at hs0
        rw [e1] at hs0
        have := h.may
        simp only [beq_iff_eq] at hs0
        omega
      rw [h0, hu]
      split <;> omega
theorem BI.refuse (h : BI Z ts qs ms m s x y z d q) : BI Z ts qs ms m s (x + 1) y (z + 1) d (q + 1) :=
  ⟨h.m0, h.m20, h.room, h.ser, h.may, by have := h.qn; omega, by have := h.sum; omega, by have := h.b; omega, h.snt, fun k v hk => by have := h.cnt k v hk; omega⟩
end
end Go.Proofs.YtlgjippijbepkaaDoor
