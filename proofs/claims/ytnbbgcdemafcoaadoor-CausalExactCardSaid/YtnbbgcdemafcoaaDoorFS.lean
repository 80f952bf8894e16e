/- A pair of inboxes: any call, and what stays true. -/
import Derived.Test.YtnbbgcdemafcoaaDoorFR
set_option linter.unusedSimpArgs false
set_option linter.unusedVariables false
namespace Go.Proofs.YtnbbgcdemafcoaaDoor
open Go Go.RowKit

theorem heldF_not {l : List ActD} {a x : ActD} (h : heldF l a.rep a.num = false) (hx : x ∈ l) : ¬ oneK x a := fun ⟨h1, h2⟩ => by
  unfold heldF at h
  rw [List.any_eq_false] at h
  exact h x hx (by simp [h1, h2])
theorem apart_snoc {l : List ActD} {a : ActD} (h : Apart l) (hn : heldF l a.rep a.num = false) : Apart (l ++ [a]) := by
  unfold Apart at *
  rw [List.pairwise_append]
  refine ⟨h, List.pairwise_singleton _ _, fun x hx y hy => ?_⟩
  rw [List.mem_singleton] at hy
  subst hy
  exact heldF_not hn hx
theorem apart_erase {l : List ActD} {i : Nat} (h : Apart l) : Apart (l.eraseIdx i) := List.Pairwise.sublist (List.eraseIdx_sublist l i) h
/-- n taken into 0 to m - 1. -/
def wj (n m : Int) : Nat := (if n.tmod m < 0 then n.tmod m + m else n.tmod m).toNat
theorem wj_at {n m : Int} (h : 1 ≤ m) : (wj n m : Int) < m := by
  have h1 := Int.tmod_lt_of_pos n (show 0 < m by omega)
  have h2 := Int.lt_tmod_of_pos n (show 0 < m by omega)
  unfold wj
  split <;> omega
theorem withinF_s (c0 : World) (F : HP) (n m : Int) : Spec Tryd.prog c0 12 #[.int .i64 n, .int .i64 m] (pu (1 ≤ m ∧ m ≤ 1000 ∧ InI n) F) (fun r => pu (r = .int .i64 (wj n m)) F) := by
  intro w hq; obtain ⟨⟨h1, h2, h3⟩, hs⟩ := hq.pu; clear hq
  unfold wj
  have hz : (m == 0) = false := by simp; omega
  have hm1 : n.tmod m < m ∧ - m < n.tmod m := ⟨Int.tmod_lt_of_pos _ (by omega), by have := Int.lt_tmod_of_pos n (show 0 < m by omega); omega⟩
  obtain ⟨hm1, hm2⟩ := hm1
  have hw1 : IntKind.i64.wrap (n.tmod m) = n.tmod m := IntWalk.i64_in _ (by omega)
  have hw2 : IntKind.i64.wrap (n.tmod m + m) = n.tmod m + m := IntWalk.i64_in _ (by omega)
  go_enter Tryd.func12, Tryd.ntmps12
  go_wp2_with fail
  all_goals (go_ret; simp only [za, zb, zc, zd, ze, zf])
  · exact ⟨_, rfl, hs.mono (ent_pu (by congr 1; omega) (by ((repeat (first | (with_reducible (first | exact ent_refl | exact ent_emp)) | ((with_reducible apply ent_front); (focus with_reducible (repeat (first | exact ent_here | apply ent_next | exact ent_last)); done)) | (with_reducible (first | exact ent_keep | apply ent_trans ent_drop)))); done)))⟩
  · exact ⟨_, rfl, hs.mono (ent_pu (by congr 1; omega) (by ((repeat (first | (with_reducible (first | exact ent_refl | exact ent_emp)) | ((with_reducible apply ent_front); (focus with_reducible (repeat (first | exact ent_here | apply ent_next | exact ent_last)); done)) | (with_reducible (first | exact ent_keep | apply ent_trans ent_drop)))); done)))⟩
/-- Behind k calls. -/
structure IGood (k : Nat) (l : List ActD) (m : Nat) : Prop where
  aw : AllW l
  ap : Apart l
  len : l.length ≤ 256
  m : m ≤ k
theorem good_off {k m : Nat} {l : List ActD} {c : Nat → Int} {a : ActD} {most : Int} (h : IGood k l m) (ha : ActW a) (hm : most ≤ 256) : IGood (k + 1) (offL c a most l) (m + 1) := by
  have h4 := h.m
  have h3 := h.len
  unfold offL
  split
  · rename_i hv
    unfold offV at hv
    split at hv
    · cases hv
    · split at hv
      · cases hv
      · split at hv
        · cases hv
        · split at hv
          · cases hv
          · rename_i h1 h2 hh hlen
            refine ⟨fun x hx => ?_, apart_snoc h.ap (by simpa using hh), ?_, by omega⟩
            · rcases List.mem_append.1 hx with hx | hx
              · exact h.aw x hx
              · obtain rfl := List.mem_singleton.1 hx
                exact ha
            · rw [List.length_append, List.length_singleton]
              omega
  · exact ⟨h.aw, h.ap, h.len, by omega⟩
theorem good_nx {k m : Nat} {l : List ActD} {c : Nat → Int} (h : IGood k l m) : IGood (k + 1) (nxL c l) m := by
  have h4 := h.m
  have h3 := h.len
  unfold nxL
  cases nextI c l with
  | none => exact ⟨h.aw, h.ap, h.len, by omega⟩
  | some i => exact ⟨fun x hx => h.aw x (List.mem_of_mem_eraseIdx hx), apart_erase h.ap, Nat.le_trans ((List.eraseIdx_sublist ..).length_le) h3, by omega⟩
theorem good_keep {k m : Nat} {l : List ActD} {c : Nat → Int} (h : IGood k l m) : IGood (k + 1) (keepF c l) m := by
  have h4 := h.m
  exact ⟨fun x hx => h.aw x (List.mem_filter.1 hx).1, List.Pairwise.sublist List.filter_sublist h.ap, Nat.le_trans (keepF_len c l) h.len, by omega⟩
theorem good_nil {k : Nat} : IGood k [] 0 := ⟨fun x hx => (by cases hx), List.Pairwise.nil, by simp, by omega⟩
theorem good_more {k m : Nat} {l : List ActD} (h : IGood k l m) : IGood (k + 1) l m := ⟨h.aw, h.ap, h.len, by have := h.m; omega⟩
/-- The two inboxes, behind k calls. -/
def inS (gp gb gr : Nat) (most : Int) (k : Nat) : HP := ex fun x : List ActD × Nat => pu (IGood k x.1 x.2) (ipair gp gb gr * (inb gb most x.1 x.2 * rinb gr most x.1))
theorem inS_open {gp gb gr : Nat} {most : Int} {F : HP} {k : Nat} {c0 w : World} (hs : Sat c0 (inS gp gb gr most k * F) w) : ∃ l m, IGood k l m ∧ Sat c0 (ibS gp gb gr most l m F) w := by
  unfold inS at hs
  rw [ex_star] at hs
  obtain ⟨⟨l, m⟩, hs⟩ := hs.ex
  rw [pu_star] at hs
  obtain ⟨hg, hs⟩ := hs.pu
  simp only [star_assoc] at hs
  exact ⟨l, m, hg, hs⟩
theorem inS_shut {gp gb gr : Nat} {most : Int} {F : HP} {k : Nat} {l : List ActD} {m : Nat} (h : IGood k l m) : Ent (ibS gp gb gr most l m F) (inS gp gb gr most k * F) := by
  unfold inS
  rw [ex_star]
  refine ent_ex (l, m) ?_
  rw [pu_star]
  refine ent_pu h ?_
  simp only [star_assoc]
  exact ent_refl
theorem idoes_s (c0 : World) (F : HP) (gp gb gr : Nat) (most d : Int) (c : Nat → Int) (a : ActD) (k : Nat) : Spec Tryd.prog c0 27 #[.pointer (some ⟨gp, 0, none⟩), .agg (opv d c a)]
    (pu (InI d ∧ ClkI c ∧ ActW a ∧ most ≤ 256 ∧ k ≤ 500) (inS gp gb gr most k * F)) (fun r => pu (r = .bool true) (inS gp gb gr most (k + 1) * F)) := fun w hs => by
  obtain ⟨⟨hd, hc, ha, hm, hk⟩, hs⟩ := hs.pu
  obtain ⟨l, m, hg, hs⟩ := inS_open hs
  have h1 := hg.len
  have h2 := hg.m
  have hw := wj_at (n := d) (m := 5) (by omega)
  have hwi : ∀ F, Spec Tryd.prog c0 12 #[.int .i64 d, .int .i64 5] F (fun r => pu (r = .int .i64 (wj d 5)) F) := fun F w hs => withinF_s c0 F d 5 w (hs.mono (ent_pu ⟨by omega, by omega, hd⟩ ent_refl))
  have hp : Sat c0 (pu (ClkI c ∧ ActW a ∧ AllW l ∧ Apart l ∧ m < 1000000 ∧ l.length ≤ 1000) (ibS gp gb gr most l m F)) w := hs.mono (ent_pu ⟨hc, ha, hg.aw, hg.ap, by omega, by omega⟩ ent_refl)
  have fin : ∀ {l2 : List ActD} {m2 : Nat}, IGood (k + 1) l2 m2 → ∀ {w : World}, Calls Tryd.prog 27 #[.pointer (some ⟨gp, 0, none⟩), .agg (opv d c a)] w (fun e w' => ∃ v, e = .returned v ∧ Sat c0 (pu (v = .bool true) (ibS gp gb gr most l2 m2 F)) w') → Calls Tryd.prog 27 #[.pointer (some ⟨gp, 0, none⟩), .agg (opv d c a)] w (fun e w' => ∃ v, e = .returned v ∧ Sat c0 (pu (v = .bool true) (inS gp gb gr most (k + 1) * F)) w') := fun hg2 w hcall => hcall.mono fun e w' ⟨v, he, hv⟩ => by
    obtain ⟨hr, hv⟩ := hv.pu
    exact ⟨v, he, hv.mono (ent_pu hr (inS_shut hg2))⟩
  have hcases : ((wj d 5 : Nat) : Int) = 0 ∨ ((wj d 5 : Nat) : Int) = 1 ∨ ((wj d 5 : Nat) : Int) = 2 ∨ ((wj d 5 : Nat) : Int) = 3 ∨ ((wj d 5 : Nat) : Int) = 4 := by omega
  rcases hcases with h | h | h | h | h <;> rw [h] at hwi
  · exact fin (good_off hg ha hm) (idoes0_s c0 F gp gb gr most d c a l m hwi w hp)
  · exact fin (good_nx hg) (idoes1_s c0 F gp gb gr most d c a l m hwi w hp)
  · exact fin (good_keep hg) (idoes2_s c0 F gp gb gr most d c a l m hwi w hp)
  · exact fin good_nil (idoes3_s c0 F gp gb gr most d c a l m hwi w hp)
  · exact fin (good_more hg) (idoes4_s c0 F gp gb gr most d c a l m hwi w hp)
theorem isame2_s (c0 : World) (F : HP) (gp gb gr : Nat) (most : Int) (k : Nat) : Spec Tryd.prog c0 28 #[.pointer (some ⟨gp, 0, none⟩)] (inS gp gb gr most k * F) (fun r => pu (r = .bool true) (inS gp gb gr most k * F)) := fun w hs => by
  obtain ⟨l, m, hg, hs⟩ := inS_open hs
  have h1 := hg.len
  exact (isame_s c0 F gp gb gr most most l m w (hs.mono (ent_pu (by omega) ent_refl))).mono fun e w' ⟨v, he, hv⟩ => by
    obtain ⟨hr, hv⟩ := hv.pu
    exact ⟨v, he, hv.mono (ent_pu hr (inS_shut hg))⟩
end Go.Proofs.YtnbbgcdemafcoaaDoor
