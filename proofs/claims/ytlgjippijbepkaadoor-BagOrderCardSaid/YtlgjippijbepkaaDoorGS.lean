/- The pair of bags: each call, whatever it comes to. -/
import Derived.Test.YtlgjippijbepkaaDoorGR
set_option linter.unusedSimpArgs false
set_option linter.unusedVariables false
namespace Go.Proofs.YtlgjippijbepkaaDoor
open Go Go.RowKit

theorem ent_ref_none {a : Nat → Addr} {H : HP} : Ent H (RefP a none .nilIface * H) := by
  unfold RefP
  rw [pu_star, emp_star]
  exact ent_pu rfl ent_refl
theorem isO_no {call : ByteArray} {i : Int} {n : Nat} (h : ¬ isB i n) : isO call i n = some ([⟨⟨#[98, 97, 103]⟩, call, atV i⟩], 2) := if_neg h
theorem isO_yes {call : ByteArray} {i : Int} {n : Nat} (h : isB i n) : isO call i n = none := if_pos h
theorem psend_s (c0 : World) (F : HP) (a : Nat → Addr) (g : Nat) (m s f t : Int) (ts : List PclD) (x y z d : Int) (v : Value) (l : List Int) : Spec Tryd.prog c0 10 #[.pointer (some ⟨g, 0, none⟩), .int .i64 f, .int .i64 t, v]
    (pu (ErrB F a ∧ SlR F 1 bytv v l ∧ l.length ≤ 140737488351232 ∧ ts.length ≤ 1000000 ∧ 0 ≤ s ∧ s ≤ 4611686018427400000 ∧ Cn x ∧ Cn z) (bagP g m s ts x y z d * F))
    (fun r => ex fun e : Value => ex fun us' : List PclD => ex fun X : HP => pu (r = .tuple #[.int .i64 (senN f t m s ts.length), e] ∧ SenR f t m s l ts us' X) (RefP a (senO f t m ts.length) e * (bagP g m (s + sen1 f t m ts.length) us' (x + senX f t) y (z + senZ f t m ts.length) d * (X * F)))) := fun w hs => by
  obtain ⟨⟨h1, h2, h3, h4, h5, h6, h7, h8⟩, hs⟩ := hs.pu
  refine (send_s c0 F a g m s ts x y z d f t v l w (hs.mono (ent_pu ⟨h1, h2, by omega, h4, h5, h6, h7, h8⟩ ent_refl))).mono fun e w' ⟨r, he, h⟩ => ⟨r, he, ?_⟩
  unfold SendQ at h
  by_cases hf : endsB f t = false
  · rw [if_pos hf] at h
    obtain ⟨e1, e2, e3, e4, e5, _⟩ := sen_bad (m := m) (s := s) (l := l) (L := []) (n := ts.length) hf
    rw [e1, e2, e3, e4, e5, Int.add_zero, Int.add_zero, Int.add_zero]
    obtain ⟨e, h⟩ := h.ex
    obtain ⟨hv, h⟩ := h.pu
    exact h.mono (ent_ex e (ent_ex ts (ent_ex emp (ent_pu ⟨hv, senR_bad hf⟩ (by rw [emp_star]; exact ent_refl)))))
  · have hf2 : endsB f t = true := by cases h0 : endsB f t <;> simp_all
    rw [if_neg hf] at h
    by_cases hm : m ≤ ts.length
    · rw [if_pos hm] at h
      obtain ⟨e1, e2, e3, e4, e5, _⟩ := sen_full (m := m) (s := s) (l := l) (L := ts.map fun _ => ⟨0, 0, 0, []⟩) (n := ts.length) hf2 hm (by simp)
      rw [e1, e2, e3, e4, e5, Int.add_zero]
      obtain ⟨e, h⟩ := h.ex
      obtain ⟨hv, h⟩ := h.pu
      exact h.mono (ent_ex e (ent_ex ts (ent_ex emp (ent_pu ⟨hv, senR_full hf2 hm⟩ (by rw [emp_star]; exact ent_refl)))))
    · rw [if_neg hm] at h
      obtain ⟨e1, e2, e3, e4, e5, _⟩ := sen_ok (m := m) (s := s) (l := l) (L := ts.map fun _ => ⟨0, 0, 0, []⟩) (n := ts.length) hf2 (by omega) (by simp)
      rw [e1, e2, e3, e4, e5, Int.add_zero]
      obtain ⟨gb, h⟩ := h.ex
      obtain ⟨hv, h⟩ := h.pu
      have hR : SenR f t m s l ts (ts ++ [⟨s + 1, f, t, some ⟨gb, 0, none⟩, l.length, l.length⟩]) (row 5 1 bytv (.slice (some ⟨gb, 0, none⟩) l.length l.length) l) := senR_ok hf2 (by omega) h3 rfl
      refine h.mono (ent_ex Value.nilIface (ent_ex (ts ++ [⟨s + 1, f, t, some ⟨gb, 0, none⟩, l.length, l.length⟩]) (ent_ex (row 5 1 bytv (.slice (some ⟨gb, 0, none⟩) l.length l.length) l) (ent_pu ⟨hv, hR⟩ ?_))))
      exact ent_trans ent_left ent_ref_none
theorem plook_s (c0 : World) (F : HP) (a : Nat → Addr) (g : Nat) (m s i : Int) (ts : List PclD) (L : List Par) (x y z d : Int) : Spec Tryd.prog c0 14 #[.pointer (some ⟨g, 0, none⟩), .int .i64 i]
    (pu (ErrB F a ∧ PRs F ts L) (bagP g m s ts x y z d * F)) (fun r => ex fun v : PclD => ex fun e : Value => pu (r = .tuple #[.agg (pcl v), e] ∧ v.serial = (lookQ L i).s ∧ v.src = (lookQ L i).f ∧ v.dst = (lookQ L i).t)
      (row 5 1 bytv (.slice v.rawp v.rawn v.rawc) (lookQ L i).l * (RefP a (isO ⟨#[76, 111, 111, 107]⟩ i ts.length) e * (bagP g m s ts x y z d * F)))) := fun w hs => by
  obtain ⟨⟨h1, h2⟩, hs⟩ := hs.pu
  by_cases hi : isB i ts.length
  · rw [isO_yes hi]
    obtain ⟨k, rfl, hk⟩ := isB_nat hi
    have hp : ts[k]? = some ts[k] := List.getElem?_eq_getElem hk
    generalize ts[k] = p at hp
    have hq := h2.lookQ hp
    generalize lookQ L (k : Int) = q at hq
    refine (look_s c0 F g k m s ts x y z d p q.l w (hs.mono (ent_pu ⟨hp, hq.l, by have := hq.n; omega⟩ ent_refl))).mono fun e w' ⟨r, he, h⟩ => ⟨r, he, ?_⟩
    obtain ⟨gb, h⟩ := h.ex
    obtain ⟨hv, h⟩ := h.pu
    exact h.mono (ent_ex _ (ent_ex _ (ent_pu ⟨hv, hq.s, hq.f, hq.t⟩ (star_mono ent_refl ent_ref_none))))
  · rw [isO_no hi, lookQ_no (by rw [← h2.len]; exact hi)]
    refine (look0_s c0 F a g m s i ts x y z d w (hs.mono (ent_pu ⟨h1, hi⟩ ent_refl))).mono fun e w' ⟨r, he, h⟩ => ⟨r, he, ?_⟩
    obtain ⟨e, h⟩ := h.ex
    obtain ⟨hv, h⟩ := h.pu
    exact h.mono (ent_ex pcl0 (ent_ex e (ent_pu ⟨hv, rfl, rfl, rfl⟩ ent_row_nil)))
theorem pdeliver_s (c0 : World) (F : HP) (a : Nat → Addr) (g : Nat) (m s i : Int) (ts : List PclD) (L : List Par) (x y z d : Int) : Spec Tryd.prog c0 11 #[.pointer (some ⟨g, 0, none⟩), .int .i64 i]
    (pu (ErrB F a ∧ PRs F ts L ∧ ts.length ≤ 1000000 ∧ Cn y) (bagP g m s ts x y z d * F)) (fun r => ex fun v : PclD => ex fun e : Value => pu (r = .tuple #[.agg (pcl v), e] ∧ v.serial = (lookQ L i).s ∧ v.src = (lookQ L i).f ∧ v.dst = (lookQ L i).t)
      (row 5 1 bytv (.slice v.rawp v.rawn v.rawc) (lookQ L i).l * (RefP a (isO ⟨#[68, 101, 108, 105, 118, 101, 114]⟩ i ts.length) e * (bagP g m s (outI i ts) x (y + is1 i ts.length) z d * F)))) := fun w hs => by
  obtain ⟨⟨h1, h2, h3, h4⟩, hs⟩ := hs.pu
  by_cases hi : isB i ts.length
  · rw [isO_yes hi, is1_yes hi]
    obtain ⟨k, rfl, hk⟩ := isB_nat hi
    rw [outI_yes hi]
    have hp : ts[k]? = some ts[k] := List.getElem?_eq_getElem hk
    generalize ts[k] = p at hp
    have hq := h2.lookQ hp
    generalize lookQ L (k : Int) = q at hq
    refine (deliver_s c0 F g k m s ts x y z d p q.l w (hs.mono (ent_pu ⟨hp, hq.l, by have := hq.n; omega, h3, h4⟩ ent_refl))).mono fun e w' ⟨r, he, h⟩ => ⟨r, he, ?_⟩
    obtain ⟨gb, h⟩ := h.ex
    obtain ⟨hv, h⟩ := h.pu
    exact h.mono (ent_ex _ (ent_ex _ (ent_pu ⟨hv, hq.s, hq.f, hq.t⟩ (star_mono ent_refl ent_ref_none))))
  · rw [isO_no hi, lookQ_no (by rw [← h2.len]; exact hi), is1_no hi, outI_no hi, Int.add_zero]
    refine (deliver0_s c0 F a g m s i ts x y z d w (hs.mono (ent_pu ⟨h1, hi⟩ ent_refl))).mono fun e w' ⟨r, he, h⟩ => ⟨r, he, ?_⟩
    obtain ⟨e, h⟩ := h.ex
    obtain ⟨hv, h⟩ := h.pu
    exact h.mono (ent_ex pcl0 (ent_ex e (ent_pu ⟨hv, rfl, rfl, rfl⟩ ent_row_nil)))
theorem pdrop_s (c0 : World) (F : HP) (a : Nat → Addr) (g : Nat) (m s i : Int) (ts : List PclD) (x y z d : Int) : Spec Tryd.prog c0 13 #[.pointer (some ⟨g, 0, none⟩), .int .i64 i]
    (pu (ErrB F a ∧ ts.length ≤ 1000000 ∧ Cn z) (bagP g m s ts x y z d * F)) (fun r => RefP a (isO ⟨#[68, 114, 111, 112]⟩ i ts.length) r * (bagP g m s (outI i ts) x y (z + is1 i ts.length) d * F)) := fun w hs => by
  obtain ⟨⟨h1, h3, h4⟩, hs⟩ := hs.pu
  by_cases hi : isB i ts.length
  · rw [isO_yes hi, is1_yes hi]
    obtain ⟨k, rfl, hk⟩ := isB_nat hi
    rw [outI_yes hi]
    refine (drop_s c0 F g k m s ts x y z d w (hs.mono (ent_pu ⟨hk, h3, h4⟩ ent_refl))).mono fun e w' ⟨r, he, h⟩ => ⟨r, he, ?_⟩
    obtain ⟨hv, hh⟩ := h.pu
    subst hv
    exact hh.mono ent_ref_none
  · rw [isO_no hi, is1_no hi, outI_no hi, Int.add_zero]
    exact (drop0_s c0 F a g m s i ts x y z d w (hs.mono (ent_pu ⟨h1, hi⟩ ent_refl)))
theorem pswap_s (c0 : World) (F : HP) (a : Nat → Addr) (g : Nat) (m s i j : Int) (ts : List PclD) (x y z d : Int) : Spec Tryd.prog c0 16 #[.pointer (some ⟨g, 0, none⟩), .int .i64 i, .int .i64 j]
    (pu (ErrB F a ∧ ts.length ≤ 1000000) (bagP g m s ts x y z d * F)) (fun r => RefP a (swaO i j ts.length) r * (bagP g m s (swaI i j ts) x y z d * F)) := fun w hs => by
  obtain ⟨⟨h1, h3⟩, hs⟩ := hs.pu
  by_cases hij : isB i ts.length ∧ isB j ts.length
  · obtain ⟨hi, hj⟩ := hij
    rw [swaO_2 hi, isO_yes hj]
    obtain ⟨k, rfl, hk⟩ := isB_nat hi
    obtain ⟨k2, rfl, hk2⟩ := isB_nat hj
    have hp : ts[k]? = some ts[k] := List.getElem?_eq_getElem hk
    generalize ts[k] = p at hp
    have hp2 : ts[k2]? = some ts[k2] := List.getElem?_eq_getElem hk2
    generalize ts[k2] = q at hp2
    rw [swaI_yes hp hp2]
    refine (swap_s c0 F g k k2 m s ts x y z d p q w (hs.mono (ent_pu ⟨hp, hp2, h3⟩ ent_refl))).mono fun e w' ⟨r, he, h⟩ => ⟨r, he, ?_⟩
    obtain ⟨hv, hh⟩ := h.pu
    subst hv
    exact hh.mono ent_ref_none
  · rw [swaI_no hij, show swaO i j ts.length = some ([⟨⟨#[98, 97, 103]⟩, ⟨#[83, 119, 97, 112]⟩, atV (if isB i ts.length then j else i)⟩], 2) from if_neg hij]
    exact (swap0_s c0 F a g m s i j ts x y z d w (hs.mono (ent_pu ⟨h1, hij⟩ ent_refl)))
/-- What Double puts in, wherever the others are read. -/
def DouR (i m : Int) (us us' : List PclD) (X : HP) : Prop := ∀ (Z : HP) (L : List Par), PRs Z us L → PRs (X * Z) us' (douL i m L)
theorem dou_no {i m : Int} {us : List PclD} (h : ¬ (isB i us.length ∧ (us.length : Int) < m)) : DouR i m us us emp ∧ dou1 i m us.length = 0 := by
  refine ⟨fun Z L hL => ?_, if_neg h⟩
  rw [emp_star, show douL i m L = L from if_neg (by rw [← hL.len]; exact h)]
  exact hL
theorem douO_no {i m : Int} {n : Nat} (h : ¬ isB i n) : douO i m n = isO ⟨#[68, 111, 117, 98, 108, 101]⟩ i n := by unfold douO isO; rw [if_neg h, if_neg h]
theorem douO_full {i m : Int} {n : Nat} (h : isB i n) (hm : m ≤ n) : douO i m n = some ([⟨⟨#[98, 97, 103]⟩, ⟨#[68, 111, 117, 98, 108, 101]⟩, atV i⟩], 13) := by unfold douO; rw [if_pos h, if_pos hm]
theorem douO_yes {i m : Int} {n : Nat} (h : isB i n) (hm : (n : Int) < m) : douO i m n = none := by unfold douO; rw [if_pos h, if_neg (by omega)]
theorem pdouble_s (c0 : World) (F : HP) (a : Nat → Addr) (g : Nat) (m s i : Int) (ts : List PclD) (L : List Par) (x y z d : Int) : Spec Tryd.prog c0 15 #[.pointer (some ⟨g, 0, none⟩), .int .i64 i]
    (pu (ErrB F a ∧ PRs F ts L ∧ ts.length ≤ 1000000 ∧ Cn d) (bagP g m s ts x y z d * F))
    (fun r => ex fun us' : List PclD => ex fun X : HP => pu (∀ Z, PRs Z ts L → PRs (X * Z) us' (douL i m L)) (RefP a (douO i m ts.length) r * (bagP g m s us' x y z (d + dou1 i m ts.length) * (X * F)))) := fun w hs => by
  obtain ⟨⟨h1, h2, h3, h4⟩, hs⟩ := hs.pu
  by_cases hi : isB i ts.length
  · by_cases hm : m ≤ ts.length
    · obtain ⟨hR, hd⟩ := dou_no (i := i) (m := m) (us := ts) (fun h => by omega)
      rw [douO_full hi hm, hd, Int.add_zero]
      obtain ⟨k, rfl, hk⟩ := isB_nat hi
      refine (doubleF_s c0 F a g k m s ts x y z d w (hs.mono (ent_pu ⟨h1, hk, hm⟩ ent_refl))).mono fun e w' ⟨r, he, h⟩ => ⟨r, he, ?_⟩
      exact h.mono (ent_ex ts (ent_ex emp (ent_pu (fun Z hZ => hR _ _ hZ) (by rw [emp_star]; exact ent_refl))))
    · have hm2 : (ts.length : Int) < m := by omega
      rw [douO_yes hi hm2, show dou1 i m ts.length = 1 from if_pos ⟨hi, hm2⟩]
      have hdl : douL i m L = L ++ [lookQ L i] := if_pos (by rw [← h2.len]; exact ⟨hi, hm2⟩)
      rw [hdl]
      obtain ⟨k, rfl, hk⟩ := isB_nat hi
      have hp : ts[k]? = some ts[k] := List.getElem?_eq_getElem hk
      generalize ts[k] = p at hp
      have hq := h2.lookQ hp
      have hqz : ∀ Z, PRs Z ts L → PR Z p (lookQ L (k : Int)) := fun Z hZ => hZ.lookQ hp
      generalize lookQ L (k : Int) = q at hq hqz
      refine (double_s c0 F g k m s ts x y z d p q.l w (hs.mono (ent_pu ⟨hp, hq.l, by have := hq.n; omega, h3, h4, hm2⟩ ent_refl))).mono fun e w' ⟨r, he, h⟩ => ⟨r, he, ?_⟩
      obtain ⟨gb, h⟩ := h.ex
      obtain ⟨hv, hh⟩ := h.pu
      subst hv
      exact hh.mono (ent_ex (ts ++ [⟨p.serial, p.src, p.dst, some ⟨gb, 0, none⟩, q.l.length, q.l.length⟩]) (ent_ex (row 5 1 bytv (.slice (some ⟨gb, 0, none⟩) q.l.length q.l.length) q.l) (ent_pu (fun Z hZ => (hZ.mono ent_drop).snoc ⟨hq.s, hq.f, hq.t, slr_row bytv_size, hq.n⟩) (ent_trans ent_left ent_ref_none))))
  · obtain ⟨hR, hd⟩ := dou_no (i := i) (m := m) (us := ts) (fun h => hi h.1)
    rw [douO_no hi, isO_no hi, hd, Int.add_zero]
    refine (double0_s c0 F a g m s i ts x y z d w (hs.mono (ent_pu ⟨h1, hi⟩ ent_refl))).mono fun e w' ⟨r, he, h⟩ => ⟨r, he, ?_⟩
    exact h.mono (ent_ex ts (ent_ex emp (ent_pu (fun Z hZ => hR _ _ hZ) (by rw [emp_star]; exact ent_refl))))
theorem rdoubleA_s (c0 : World) (F : HP) (g : Nat) (m n i : Int) (us : List PclD) (x y z d : Int) : Spec Tryd.prog c0 48 #[.pointer (some ⟨g, 0, none⟩), .int .i64 i]
    (pu (us.length ≤ 1000000 ∧ Cn d) (rbgP g m n us x y z d * F))
    (fun r => ex fun e : NoD => ex fun us' : List PclD => pu (r = .agg (nov e) ∧ (∀ (Z : HP) (L : List Par), PRs Z us L → PRs Z us' (douL i m L))) (NoP (douO i m us.length) e * (rbgP g m n us' x y z (d + dou1 i m us.length) * F))) := fun w hs => by
  obtain ⟨⟨h3, h4⟩, hs⟩ := hs.pu
  by_cases hi : isB i us.length
  · by_cases hm : m ≤ us.length
    · obtain ⟨hR, hd⟩ := dou_no (i := i) (m := m) (us := us) (fun h => by omega)
      have hR2 : ∀ (Z : HP) (L : List Par), PRs Z us L → PRs Z us (douL i m L) := fun Z L hZ => by have := hR Z L hZ; rwa [emp_star] at this
      rw [douO_full hi hm, hd, Int.add_zero]
      obtain ⟨k, rfl, hk⟩ := isB_nat hi
      refine (rdoubleF_s c0 F g k m n us x y z d w (hs.mono (ent_pu ⟨hk, hm⟩ ent_refl))).mono fun e w' ⟨r, he, h⟩ => ⟨r, he, ?_⟩
      obtain ⟨e, h⟩ := h.ex
      obtain ⟨hv, h⟩ := h.pu
      exact h.mono (ent_ex e (ent_ex us (ent_pu ⟨hv, hR2⟩ ent_refl)))
    · have hm2 : (us.length : Int) < m := by omega
      rw [douO_yes hi hm2, show dou1 i m us.length = 1 from if_pos ⟨hi, hm2⟩]
      have hdl : ∀ (Z : HP) (L : List Par), PRs Z us L → douL i m L = L ++ [lookQ L i] := fun Z L hZ => if_pos (by rw [← hZ.len]; exact ⟨hi, hm2⟩)
      obtain ⟨k, rfl, hk⟩ := isB_nat hi
      have hp : us[k]? = some us[k] := List.getElem?_eq_getElem hk
      generalize us[k] = p at hp
      refine (rdouble_s c0 F g k m n us x y z d p w (hs.mono (ent_pu ⟨hp, hm2, h3, h4⟩ ent_refl))).mono fun e w' ⟨r, he, h⟩ => ⟨r, he, ?_⟩
      obtain ⟨e, h⟩ := h.ex
      obtain ⟨hv, h⟩ := h.pu
      exact h.mono (ent_ex e (ent_ex (us ++ [p]) (ent_pu ⟨hv, fun Z L hZ => by rw [hdl Z L hZ]; exact hZ.snoc (hZ.lookQ hp)⟩ ent_refl)))
  · obtain ⟨hR, hd⟩ := dou_no (i := i) (m := m) (us := us) (fun h => hi h.1)
    have hR2 : ∀ (Z : HP) (L : List Par), PRs Z us L → PRs Z us (douL i m L) := fun Z L hZ => by have := hR Z L hZ; rwa [emp_star] at this
    rw [douO_no hi, hd, Int.add_zero]
    refine (rdouble0_s c0 F g m n i us x y z d w (hs.mono (ent_pu hi ent_refl))).mono fun e w' ⟨r, he, h⟩ => ⟨r, he, ?_⟩
    obtain ⟨e, h⟩ := h.ex
    obtain ⟨hv, h⟩ := h.pu
    exact h.mono (ent_ex e (ent_ex us (ent_pu ⟨hv, hR2⟩ ent_refl)))
end Go.Proofs.YtlgjippijbepkaaDoor
