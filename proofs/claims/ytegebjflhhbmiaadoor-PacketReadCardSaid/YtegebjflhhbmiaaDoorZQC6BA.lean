/- The program's pen: numbers up to the last one that is not 0. -/
import Derived.Test.YtegebjflhhbmiaaDoorZQC6AO
import Derived.Test.YtegebjflhhbmiaaDoorZQC6AX
import Derived.Test.YtegebjflhhbmiaaDoorZQC6AZ
set_option linter.unusedSimpArgs false
set_option linter.unusedVariables false
namespace Go.Proofs.YtegebjflhhbmiaaDoor
open Go Go.RowKit

def lst8 (c : Nat → Int) : List Int := (List.range 8).map c
theorem lst8_len (c : Nat → Int) : (lst8 c).length = 8 := rfl
theorem lst8_get (c : Nat → Int) {i : Nat} (h : i < 8) : (lst8 c)[i]? = some (c i) := by unfold lst8; rw [List.getElem?_map, List.getElem?_range h]; rfl
theorem extract_one {cs : Array Value} {k : Nat} {v : Value} (h : cs[k]? = some v) : cs.extract k (k + 1) = #[v] := by
  obtain ⟨hk, e⟩ := Array.getElem?_eq_some_iff.1 h
  apply Array.ext_getElem?
  intro j
  by_cases hj : j = 0
  · subst hj
    rw [Array.getElem?_extract, if_pos (by omega), Nat.add_zero, h]
    rfl
  · rw [Array.getElem?_eq_none (by rw [Array.size_extract]; omega), Array.getElem?_eq_none (by simp; omega)]
theorem slr_arr {cs : Array Value} {g o : Nat} {c : Nat → Int} {t : TypeId} {f : Nat × Nat} {R : HP} (h : ∀ i, i < 8 → cs[o + i]? = some (.int .i64 (c i))) : SlR (blk g (.cells cs t f) * R) 1 intv (.slice (some ⟨g, o, none⟩) 8 8) (lst8 c) := fun w hw => by
  refine ⟨some ⟨g, o, none⟩, 8, rfl, Nat.le_refl _, by decide, fun h => (by cases h), fun _ => ⟨g, o, rfl, ?_, fun i a ha => ?_⟩⟩
  · have h1 := (Array.getElem?_eq_some_iff.1 (h 0 (by omega))).1
    have h2 := (reads_part (R := R) (t := t) (f := f) (g := g) (show (o + 0) + 1 ≤ cs.size by omega) (extract_one (h 0 (by omega)))) w hw
    unfold win at h2
    split at h2
    · rename_i x hx
      exact (Array.getElem?_eq_some_iff.1 hx).1
    · cases h2
  · have hi : i < 8 := by have := (List.getElem?_eq_some_iff.1 ha).1; rw [lst8_len] at this; exact this
    rw [lst8_get c hi] at ha
    cases ha
    rw [Nat.mul_one]
    exact (reads_part (R := R) (t := t) (f := f) (g := g) (show (o + i) + 1 ≤ cs.size by have h1 := (Array.getElem?_eq_some_iff.1 (h i hi)).1; omega) (extract_one (h i hi))) w hw
theorem used_s (c0 : World) (F : HP) (v : Value) (c : Nat → Int) : Spec Tryd.prog c0 66 #[v] (pu (SlR F 1 intv v (lst8 c)) F) (fun r => pu (r = .int .i64 (usedN c 8 : Nat)) F) := by
  intro w hq; obtain ⟨hsl, hs⟩ := hq.pu; clear hq
  obtain ⟨A, cp, rfl⟩ := slr_form hsl hs.own
  obtain ⟨_, hn1, hn2, _⟩ := slr_len hsl hs.own
  unfold maxLen at hn2
  rw [lst8_len] at hsl hn1 ⊢
  go_enter Tryd.func66, Tryd.ntmps66
  go_wp2_with fail
  obtain ⟨H1, hH1, hq⟩ := Sat.name hs; clear hs; have hs := hq; clear hq
  go_loopw [3] (fun i wr => ∃ k : Nat, k ≤ 8 ∧ Hid (usedN c k = usedN c 8) ∧ i = .int .i64 k ∧ Sat c0 H1 wr) (fun i _ => (intOf i).toNat)
  case atStart => exact ⟨8, by omega, rfl, rfl, hs⟩
  case round =>
    obtain ⟨k, hk, hu, rfl, hs⟩ := hrel
    subst hH1
    cases k with
    | zero =>
      go_wp2_with fail
      (go_ret; simp only [za, zb, zc, zd, ze, zf])
      exact ⟨_, rfl, hs.mono (ent_pu (by rw [← hu.out]; rfl) ent_refl)⟩
    | succ k =>
      obtain ⟨gb, o, x, rfl, hlx, hel0⟩ := slr_get hsl hs.own (show k < 8 by omega)
      rw [lst8_get c (by omega)] at hlx
      cases hlx
      have hec0 : ReadC H1 gb (o + k) (.int .i64 (c k)) := by have := hel0.cell (i := 0) (by omega) (intv_0 _); simpa using this
      by_cases hc : c k = 0
      · have hu2 : usedN c k = usedN c 8 := by rw [← hu.out]; show _ = (if c k = 0 then usedN c k else k + 1); rw [if_pos hc]
        go_wp2_with (first
        | ((with_reducible rewrite [pl_strike_eq]); rotate_left 1; (focus rfl))
        | ((with_reducible apply pl_load1 hs); (focus (simp only [Act.eval, za, zb, zc, zd, ze, zf]; (try with_reducible rfl); done)); (focus (simp only [go_sem])); (focus ((repeat (first | (with_reducible (first | assumption | exact hec _ | exact hec2 _ | exact hec3 _ | exact hec4 _ _ | exact hec5 _ _)) | ((with_reducible apply readc_here); (focus (first | (simp only [zc, zd, ze, go_sem]; (try with_reducible rfl); done) | (go_simp; (try with_reducible rfl); done)))) | (with_reducible (first | (apply readc_left; assumption) | refine readc_exh (by assumption) ?_ | refine readc_exh0 (by assumption) ?_ | apply readc_next)))); done)); (focus rfl); simp only [Act.put, zg, zh, zi]))
        exact ⟨⟨k, by omega, hu2, rfl, hs⟩, by simp [intOf]⟩
      · have hu2 : k + 1 = usedN c 8 := by rw [← hu.out]; show _ = (if c k = 0 then usedN c k else k + 1); rw [if_neg hc]
        replace hu2 := Lib.hid hu2
        go_wp2_with (first
        | ((with_reducible rewrite [pl_strike_eq]); rotate_left 1; (focus rfl))
        | ((with_reducible apply pl_load1 hs); (focus (simp only [Act.eval, za, zb, zc, zd, ze, zf]; (try with_reducible rfl); done)); (focus (simp only [go_sem])); (focus ((repeat (first | (with_reducible (first | assumption | exact hec _ | exact hec2 _ | exact hec3 _ | exact hec4 _ _ | exact hec5 _ _)) | ((with_reducible apply readc_here); (focus (first | (simp only [zc, zd, ze, go_sem]; (try with_reducible rfl); done) | (go_simp; (try with_reducible rfl); done)))) | (with_reducible (first | (apply readc_left; assumption) | refine readc_exh (by assumption) ?_ | refine readc_exh0 (by assumption) ?_ | apply readc_next)))); done)); (focus rfl); simp only [Act.put, zg, zh, zi]))
        (go_ret; simp only [za, zb, zc, zd, ze, zf])
        exact ⟨_, rfl, hs.mono (ent_pu (by rw [← hu2.out]) ent_refl)⟩
def rowE (c : Nat → Int) (k : Nat) : List Int := ((rowOf c).take k).flatMap form
theorem rowE_succ (c : Nat → Int) {k : Nat} (h : k < usedN c 8) : rowE c (k + 1) = rowE c k ++ form (c k).toNat := by
  unfold rowE
  rw [List.take_add_one, rowOf_get, if_pos h, List.flatMap_append]
  simp
theorem flat_len {α : Type} {e : α → List Int} {b : Nat} : ∀ {l : List α}, (∀ x, x ∈ l → (e x).length ≤ b) → (l.flatMap e).length ≤ l.length * b
  | [], _ => by simp
  | x :: l, h => by
    have h1 := flat_len (l := l) fun y hy => h y (List.mem_cons_of_mem _ hy)
    have h2 := h x (List.mem_cons_self ..)
    rw [List.flatMap_cons, List.length_append, List.length_cons, Nat.add_mul]
    omega
theorem form9 {c : Int} (h : c ≤ mst) : (form c.toNat).length ≤ 9 := form_len 8 _ (by
  have : mst = 9223372036854775807 := rfl
  show c.toNat < 9223372036854775808
  omega)
theorem rowE_len {c : Nat → Int} (hc : ∀ i, i < 8 → c i ≤ mst) (k : Nat) : (rowE c k).length ≤ 72 := by
  unfold rowE
  have hu := usedN_le c 8
  have h1 := flat_len (l := (rowOf c).take k) (e := form) (b := 9) fun x hx => by
    have h2 := List.mem_of_mem_take hx
    unfold rowOf at h2
    obtain ⟨i, hi, rfl⟩ := List.mem_map.1 h2
    exact form9 (hc i (by have := List.mem_range.1 hi; omega))
  have h2 := List.length_take_le' k (rowOf c)
  rw [rowOf_len] at h2
  omega
theorem encRow_eq (c : Nat → Int) : encRow c = form (usedN c 8) ++ rowE c (usedN c 8) := by
  unfold encRow rowE
  rw [List.take_of_length_le (by rw [rowOf_len]; omega)]
theorem form_le8 {n : Nat} (h : n ≤ 8) : (form n).length = 1 := by rw [form_lo (by omega)]; rfl
theorem encRow_len {c : Nat → Int} (hc : ∀ i, i < 8 → c i ≤ mst) : (encRow c).length ≤ 73 := by
  have := rowE_len hc (usedN c 8)
  rw [encRow_eq, List.length_append, form_le8 (usedN_le c 8)]
  omega
/-- The writer writes a number that is not below 0. -/
theorem wnumI_s (c0 : World) (F : HP) (g : Nat) (l : List Int) (n : Int) : Spec Tryd.prog c0 31 #[.pointer (some ⟨g, 0, none⟩), .int .i64 n] (pu (0 ≤ n ∧ n ≤ mst ∧ l.length + 9 ≤ 140737488355328) (wrt g l * F)) (fun r => pu (r = .nilIface) (wrt g (l ++ form n.toNat) * F)) := fun w hq => by
  obtain ⟨⟨h0, h1, h2⟩, hs⟩ := hq.pu
  have hm : mst = 9223372036854775807 := rfl
  have h9 := form9 h1
  have h3 := wnum_s c0 F g l n.toNat w (hs.mono (ent_pu ⟨by omega, by omega⟩ ent_refl))
  rw [Int.toNat_of_nonneg h0] at h3
  exact h3
set_option maxHeartbeats 1000000 in
theorem penrow_s (c0 : World) (F : HP) (gi : Nat) (l : List Int) (v : Value) (c : Nat → Int) : Spec Tryd.prog c0 33 #[.agg #[.pointer (some ⟨gi, 0, none⟩)], v]
    (pu (SlR F 1 intv v (lst8 c) ∧ (∀ i, i < 8 → 0 ≤ c i ∧ c i ≤ mst) ∧ l.length + 100 ≤ 140737488355328) (wrt gi l * F)) (fun _ => wrt gi (l ++ encRow c) * F) := by
  intro w hq; obtain ⟨⟨hsl, hI, hl⟩, hs⟩ := hq.pu; clear hq
  obtain ⟨A, cp, rfl⟩ := slr_form hsl (hs.own.mono ent_drop)
  obtain ⟨_, hn1, hn2, _⟩ := slr_len hsl (hs.own.mono ent_drop)
  unfold maxLen at hn2
  rw [lst8_len] at hsl hn1 ⊢
  obtain ⟨gb, o, x, rfl, _, _⟩ := slr_get hsl (hs.own.mono ent_drop) (show 0 < 8 by omega)
  have hu := usedN_le c 8
  have hf := form_le8 hu
  have hE := encRow_eq c
  have hrl := rowE_len fun i hi => (hI i hi).2
  have hlast : ∀ k, k < usedN c 8 → rowE c (k + 1) = rowE c k ++ form (c k).toNat := fun k => rowE_succ c
  have hz : rowE c 0 = [] := rfl
  generalize encRow c = E at *
  have hnum0 : ∀ F, Spec Tryd.prog c0 31 #[.pointer (some ⟨gi, 0, none⟩), .int .i64 (usedN c 8 : Nat)] (wrt gi l * F) (fun r => pu (r = .nilIface) (wrt gi (l ++ form (usedN c 8)) * F)) := fun F w hs => wnum_s c0 F gi l (usedN c 8) w (hs.mono (ent_pu ⟨by omega, by omega⟩ ent_refl))
  generalize hnu : usedN c 8 = n at *
  replace hnu := Lib.hid hnu
  replace hE := Lib.hid hE
  replace hlast := Lib.hid hlast
  replace hrl := Lib.hid hrl
  go_enter Tryd.func33, Tryd.ntmps33
  go_wp2_with (first
        | ((with_reducible apply pl_call hs (used_s _ _ _ c)); (go_must (((focus (simp only [zj, zk, zl, List.append_toArray, List.nil_append, List.cons_append, Act.eval, za, zb, zc, zd, ze, zf]; (try with_reducible rfl); done)); (focus ((repeat (first | (with_reducible (first | exact ent_refl | apply ent_puR)) | ((with_reducible apply ent_front); (focus with_reducible (repeat (first | exact ent_here | apply ent_next | exact ent_last)); done)) | (with_reducible (first | exact ent_keep | apply ent_trans ent_drop)) | (focus (first | (focus (first | ((repeat (first | (with_reducible (first | assumption | exact slr_ro |  exact hsl _ | exact hsl2 _ | exact hsl3 _ _ _ | exact hsl4 _ _ _ | exact slr_nil | exact slr_row (fun _ => by simp only [go_sem]) | exact slr_one (fun _ => by simp only [go_sem]) | (apply slr_left; assumption))) | (with_reducible apply slr_next))); done) | ((repeat (first | (with_reducible (first | assumption | exact slr_ro |  exact hsl _ | exact hsl2 _ | exact hsl3 _ _ _ | exact hsl4 _ _ _ | exact slr_nil | exact slr_row (fun _ => by simp only [go_sem]) | exact slr_one (fun _ => by simp only [go_sem]) | (apply slr_left; assumption))) | (with_reducible (first | (apply slr_exh; focus assumption) | (apply slr_exh0; focus assumption) | apply slr_next)))); done))))))); done)); (focus (simp only [go_sem]))))); clear hs; (try clear w); intro v w hq; (obtain ⟨hv, hs⟩ := hq.pu; rw [hnu.out] at hv; subst hv); clear hq; (try simp only [star_assoc, star_emp, emp_star] at hs); (try simp only [Act.put, zg, zh, zi]))
        | ((with_reducible apply pl_call hs (hnum0 _)); (go_must (((focus (simp only [zj, zk, zl, List.append_toArray, List.nil_append, List.cons_append, Act.eval, za, zb, zc, zd, ze, zf]; (try with_reducible rfl); done)); (focus ((repeat (first | (with_reducible (first | exact ent_refl | apply ent_puR)) | ((with_reducible apply ent_front); (focus with_reducible (repeat (first | exact ent_here | apply ent_next | exact ent_last)); done)) | (with_reducible (first | exact ent_keep | apply ent_trans ent_drop)) | (fail))); done)); (focus (simp only [go_sem]))))); clear hs; (try clear w); intro v w hq; (obtain ⟨rfl, hs⟩ := hq.pu); clear hq; (try simp only [star_assoc, star_emp, emp_star] at hs); (try simp only [Act.put, zg, zh, zi]))
        | ((with_reducible apply pl_load1 hs); (focus (simp only [Act.eval, za, zb, zc, zd, ze, zf]; (try with_reducible rfl); done)); (focus (simp only [go_sem])); (focus ((repeat (first | (with_reducible (first | assumption | exact hec _ | exact hec2 _ | exact hec3 _ | exact hec4 _ _ | exact hec5 _ _)) | ((with_reducible apply readc_here); (focus (first | (simp only [zc, zd, ze, go_sem]; (try with_reducible rfl); done) | (go_simp; (try with_reducible rfl); done)))) | (with_reducible (first | (apply readc_left; assumption) | refine readc_exh (by assumption) ?_ | refine readc_exh0 (by assumption) ?_ | apply readc_next)))); done)); (focus rfl); simp only [Act.put, zg, zh, zi])
        | ((with_reducible apply pl_box hs); (focus (simp only [Act.eval, za, zb, zc, zd, ze, zf]; (try with_reducible rfl); done)); (focus (first | (with_reducible (first | exact cells_intv _ | exact cells_bytv _ | exact cells_agg _ | exact cells_int _ _ | exact cells_bool _ | exact cells_string _ | exact cells_slice _ _ _ | exact cells_pointer _ | exact cells_map _ | exact cells_iface _ _ | exact cells_nilIface | exact cells_func _ _ _)) | (exact cells_one (by assumption)))); clear hs; (try clear w); intro g w hs; skip; simp only [Act.put, zg, zh, zi]))
  (obtain ⟨gp, hgg⟩ : ∃ x, x = g := ⟨_, rfl⟩); subst hgg
  go_loopw [6, 17] (fun _ i wr => ∃ k : Nat, k ≤ n ∧ i = .int .i64 k ∧ Sat c0 (wrt gi (l ++ form n ++ rowE c k) * (blk gp (.cells #[.pointer (some ⟨gi, 0, none⟩)] 67 (0, 0)) * F)) wr) (fun _ i _ => n - (intOf i).toNat)
  case atStart => exact ⟨0, by omega, rfl, by rw [hz, List.append_nil]; exact hs⟩
  case round =>
    clear hs
    obtain ⟨k, hk, rfl, hs⟩ := hrel
    have hL : (l ++ form n ++ rowE c k).length + 9 ≤ 140737488355328 := by have := hrl.out k; rw [List.length_append, List.length_append]; omega
    by_cases hlt : k < n
    · obtain ⟨gb', o', x, hA, hlx, hel0⟩ := slr_get hsl (hs.own.mono (ent_trans ent_drop ent_drop)) (show k < 8 by omega)
      cases hA
      rw [lst8_get c (by omega)] at hlx
      cases hlx
      have hec0 : ReadC F gb (o + k) (.int .i64 (c k)) := by have := hel0.cell (i := 0) (by omega) (intv_0 _); simpa using this
      have hnum : ∀ F, Spec Tryd.prog c0 31 #[.pointer (some ⟨gi, 0, none⟩), .int .i64 (c k)] (wrt gi (l ++ form n ++ rowE c k) * F) (fun r => pu (r = .nilIface) (wrt gi (l ++ form n ++ rowE c (k + 1)) * F)) := fun F w hs => by
        have := wnumI_s c0 F gi _ (c k) w (hs.mono (ent_pu ⟨(hI k (by omega)).1, (hI k (by omega)).2, hL⟩ ent_refl))
        rw [List.append_assoc _ (rowE c k), ← hlast.out k hlt] at this
        exact this
      generalize l ++ form n ++ rowE c k = L at *
      generalize hL2 : l ++ form n ++ rowE c (k + 1) = L2 at *
      replace hL2 := Lib.hid hL2
      go_wp2_with (first
        | ((with_reducible apply pl_call hs (hnum _)); (go_must (((focus (simp only [zj, zk, zl, List.append_toArray, List.nil_append, List.cons_append, Act.eval, za, zb, zc, zd, ze, zf]; (try with_reducible rfl); done)); (focus ((repeat (first | (with_reducible (first | exact ent_refl | apply ent_puR)) | ((with_reducible apply ent_front); (focus with_reducible (repeat (first | exact ent_here | apply ent_next | exact ent_last)); done)) | (with_reducible (first | exact ent_keep | apply ent_trans ent_drop)) | (fail))); done)); (focus (simp only [go_sem]))))); clear hs; (try clear w); intro v w hq; (obtain ⟨rfl, hs⟩ := hq.pu); clear hq; (try simp only [star_assoc, star_emp, emp_star] at hs); (try simp only [Act.put, zg, zh, zi]))
        | ((with_reducible apply pl_load1 hs); (focus (simp only [Act.eval, za, zb, zc, zd, ze, zf]; (try with_reducible rfl); done)); (focus (simp only [go_sem])); (focus ((repeat (first | (with_reducible (first | assumption | exact hec _ | exact hec2 _ | exact hec3 _ | exact hec4 _ _ | exact hec5 _ _)) | ((with_reducible apply readc_here); (focus (first | (simp only [zc, zd, ze, go_sem]; (try with_reducible rfl); done) | (go_simp; (try with_reducible rfl); done)))) | (with_reducible (first | (apply readc_left; assumption) | refine readc_exh (by assumption) ?_ | refine readc_exh0 (by assumption) ?_ | apply readc_next)))); done)); (focus rfl); simp only [Act.put, zg, zh, zi]))
      exact ⟨⟨k + 1, by omega, by go_num, by rw [hL2.out]; exact hs⟩, by simp [intOf]; omega⟩
    · have hfin : l ++ form n ++ rowE c k = l ++ E := by rw [hE.out, List.append_assoc, show k = n by omega]
      rw [hfin] at hs
      go_wp2_with fail
      refine bodyPost_end (results_none rfl _ _ _) rfl ⟨_, rfl, hs.mono (by ((repeat (first | (with_reducible (first | exact ent_refl | exact ent_emp)) | ((with_reducible apply ent_front); (focus with_reducible (repeat (first | exact ent_here | apply ent_next | exact ent_last)); done)) | (with_reducible (first | exact ent_keep | apply ent_trans ent_drop)))); done))⟩
theorem okA_iff (a : ActD) : okA a = true ↔ ((1 ≤ a.op.kind ∧ a.op.kind ≤ 3) ∧ (0 ≤ a.op.rep ∧ a.op.rep ≤ 7) ∧ 0 ≤ a.op.pl ∧ (a.op.kind = 1 → 0 ≤ a.op.char ∧ a.op.char ≤ 1114111) ∧ (a.op.kind ≠ 1 → a.op.char = 0)) ∧ 1 ≤ a.num ∧ okC a.clock := by
  unfold okA
  simp only [Bool.and_eq_true, decide_eq_true_eq, okOp_iff]
theorem encAct_le {a : ActD} (h : okA a = true) (hI : ActDI a) : (encAct a).length ≤ 110 := by
  obtain ⟨⟨h1, h2, h3, h4, h5⟩, h6, h7⟩ := (okA_iff a).1 h
  have hm : mst = 9223372036854775807 := rfl
  have e1 := form9 (c := a.op.rep) (by omega)
  have e2 := form9 (c := a.op.pl) (by have := hI.op.pl; unfold InI at this; omega)
  have e3 := form9 (c := a.num) (by have := hI.num; unfold InI at this; omega)
  have e4 := encRow_len (c := a.clock) fun i hi => by have := hI.clock i hi; unfold InI at this; omega
  have e5 : (encChar a.op.kind a.op.char.toNat).length ≤ 9 := by
    unfold encChar
    split
    · exact form9 (by have := h4 (by assumption); omega)
    · simp
  unfold encAct
  simp only [List.length_append, List.length_cons, List.length_nil]
  omega
theorem acts_le {l : List ActD} (h : ∀ a, a ∈ l → okA a = true ∧ ActDI a) : (l.flatMap encAct).length ≤ l.length * 110 := flat_len fun a ha => encAct_le (h a ha).1 (h a ha).2
set_option maxRecDepth 20000 in
set_option maxHeartbeats 4000000 in
theorem penacts_s (c0 : World) (F : HP) (gi : Nat) (L : List Int) (v : Value) (l : List ActD) : Spec Tryd.prog c0 32 #[.agg #[.pointer (some ⟨gi, 0, none⟩)], v]
    (pu (SlR F 13 actv v l ∧ (∀ a, a ∈ l → okA a = true ∧ ActDI a) ∧ L.length + 110 * l.length + 300 ≤ 140737488355328) (wrt gi L * F)) (fun _ => wrt gi (L ++ encActs l) * F) := by
  intro w hq; obtain ⟨⟨hsl, hI, hl⟩, hs⟩ := hq.pu; clear hq
  obtain ⟨A, cp, rfl⟩ := slr_form hsl (hs.own.mono ent_drop)
  obtain ⟨_, hn1, hn2, _⟩ := slr_len hsl (hs.own.mono ent_drop)
  unfold maxLen at hn2
  have hE : ∀ k, (l.take k).flatMap encAct = (l.take k).flatMap encAct := fun _ => rfl
  have hmst : mst = 9223372036854775807 := rfl
  have hlen : ∀ k, (L ++ form l.length ++ (l.take k).flatMap encAct).length + 280 ≤ 140737488355328 := fun k => by
    have h1 := acts_le (l := l.take k) fun a ha => hI a (List.mem_of_mem_take ha)
    have h2 := List.length_take_le' k l
    have h3 := form9 (c := (l.length : Int)) (by omega)
    rw [Int.toNat_natCast] at h3
    rw [List.length_append, List.length_append]
    omega
  have hnum0 : ∀ F, Spec Tryd.prog c0 31 #[.pointer (some ⟨gi, 0, none⟩), .int .i64 (l.length : Nat)] (wrt gi L * F) (fun r => pu (r = .nilIface) (wrt gi (L ++ form l.length) * F)) := fun F w hs => wnumI_s c0 F gi L (l.length : Nat) w (hs.mono (ent_pu ⟨by omega, by omega, by omega⟩ ent_refl))
  replace hlen := Lib.hid hlen
  clear hE hmst
  generalize hnl : l.length = n at *
  replace hnl := Lib.hid hnl
  clear hl
  go_enter Tryd.func32, Tryd.ntmps32
  go_wp2_with (first
        | ((with_reducible apply pl_call hs (hnum0 _)); (go_must (((focus (simp only [zj, zk, zl, List.append_toArray, List.nil_append, List.cons_append, Act.eval, za, zb, zc, zd, ze, zf]; (try with_reducible rfl); done)); (focus ((repeat (first | (with_reducible (first | exact ent_refl | apply ent_puR)) | ((with_reducible apply ent_front); (focus with_reducible (repeat (first | exact ent_here | apply ent_next | exact ent_last)); done)) | (with_reducible (first | exact ent_keep | apply ent_trans ent_drop)) | (fail))); done)); (focus (simp only [go_sem]))))); clear hs; (try clear w); intro v w hq; (obtain ⟨rfl, hs⟩ := hq.pu); clear hq; (try simp only [star_assoc, star_emp, emp_star] at hs); (try simp only [Act.put, zg, zh, zi]))
        | ((with_reducible apply pl_load1 hs); (focus (simp only [Act.eval, za, zb, zc, zd, ze, zf]; (try with_reducible rfl); done)); (focus (simp only [go_sem])); (focus ((repeat (first | (with_reducible (first | assumption | exact hec _ | exact hec2 _ | exact hec3 _ | exact hec4 _ _ | exact hec5 _ _)) | ((with_reducible apply readc_here); (focus (first | (simp only [zc, zd, ze, go_sem]; (try with_reducible rfl); done) | (go_simp; (try with_reducible rfl); done)))) | (with_reducible (first | (apply readc_left; assumption) | refine readc_exh (by assumption) ?_ | refine readc_exh0 (by assumption) ?_ | apply readc_next)))); done)); (focus rfl); simp only [Act.put, zg, zh, zi])
        | ((with_reducible apply pl_box hs); (focus (simp only [Act.eval, za, zb, zc, zd, ze, zf]; (try with_reducible rfl); done)); (focus (first | (with_reducible (first | exact cells_intv _ | exact cells_bytv _ | exact cells_agg _ | exact cells_int _ _ | exact cells_bool _ | exact cells_string _ | exact cells_slice _ _ _ | exact cells_pointer _ | exact cells_map _ | exact cells_iface _ _ | exact cells_nilIface | exact cells_func _ _ _)) | (exact cells_one (by assumption)))); clear hs; (try clear w); intro g w hs; skip; simp only [Act.put, zg, zh, zi]))
  (obtain ⟨gp, hgg⟩ : ∃ x, x = g := ⟨_, rfl⟩); subst hgg
  go_loopw [13] (fun i wr => ∃ k : Nat, k ≤ n ∧ i = .int .i64 k ∧ Sat c0 (wrt gi (L ++ form n ++ (l.take k).flatMap encAct) * (blk gp (.cells #[.pointer (some ⟨gi, 0, none⟩)] 67 (0, 0)) * F)) wr) (fun i _ => n - (intOf i).toNat)
  case atStart => exact ⟨0, by omega, rfl, by rw [List.take_zero, List.flatMap_nil, List.append_nil]; exact hs⟩
  case round =>
    clear hs
    obtain ⟨k, hk, rfl, hs⟩ := hrel
    have hL := hlen.out k
    by_cases hlt : k < n
    · obtain ⟨gb, o, x, rfl, hlx, hel0⟩ := slr_get hsl (hs.own.mono (ent_trans ent_drop ent_drop)) hlt
      have hsucc : L ++ form n ++ (l.take (k + 1)).flatMap encAct = L ++ form n ++ (l.take k).flatMap encAct ++ encAct x := by
        rw [List.take_add_one, hlx, List.flatMap_append]
        simp
      obtain ⟨hA, hAI⟩ := hI x (List.mem_of_getElem? hlx)
      obtain ⟨⟨⟨k1, k2⟩, ⟨r1, r2⟩, p1, q1, q2⟩, m1, okc⟩ := (okA_iff x).1 hA
      have hp := hAI.op.pl
      have hm := hAI.num
      have hcI := hAI.clock
      unfold InI at hp hm
      unfold ClkI InI at hcI
      have hck : ∀ i, i < 8 → 0 ≤ x.clock i ∧ x.clock i ≤ mst := fun i hi => ⟨okc i hi, by have := hcI i hi; have hmst : mst = 9223372036854775807 := rfl; omega⟩
      have hsl3 : ∀ (g : Nat) (f : Nat × Nat) R, SlR (blk g (.cells (actv x) 78 f) * R) 1 intv (.slice (some ⟨g, 5, none⟩) 8 8) (lst8 x.clock) := fun g _ R => slr_arr (actv_clk5 x)
      clear hlx hI hA hAI okc hcI
      generalize L ++ form n ++ (l.take k).flatMap encAct = L1 at *
      replace hsucc := Lib.hid hsucc
      have hmst : mst = 9223372036854775807 := rfl
      have hcl : x.op.char ≤ mst := by by_cases h : x.op.kind = 1; have := q1 h; omega; have := q2 h; omega
      have a1 : (L1 ++ [x.op.kind]).length = L1.length + 1 := by simp
      have a2 : (L1 ++ [x.op.kind] ++ form x.op.rep.toNat).length ≤ L1.length + 10 := by rw [List.length_append, a1]; have := form9 (c := x.op.rep) (by omega); omega
      have a3 : (L1 ++ [x.op.kind] ++ form x.op.rep.toNat ++ form x.op.pl.toNat).length ≤ L1.length + 19 := by rw [List.length_append]; have := form9 (c := x.op.pl) (by omega); omega
      have a4 : (L1 ++ [x.op.kind] ++ form x.op.rep.toNat ++ form x.op.pl.toNat ++ form x.op.char.toNat).length ≤ L1.length + 28 := by rw [List.length_append]; have := form9 hcl; omega
      have a5 : (L1 ++ [x.op.kind] ++ form x.op.rep.toNat ++ form x.op.pl.toNat ++ form x.op.char.toNat ++ form x.num.toNat).length ≤ L1.length + 37 := by rw [List.length_append]; have := form9 (c := x.num) (by omega); omega
      have a6 : (L1 ++ [x.op.kind] ++ form x.op.rep.toNat ++ form x.op.pl.toNat ++ form x.num.toNat).length ≤ L1.length + 28 := by rw [List.length_append]; have := form9 (c := x.num) (by omega); omega
      go_wp2_with (first
        | ((with_reducible apply wp_region_sl (G := (wrt _ _)) (id := 11) hs 1000); (focus with_reducible (repeat (first | exact ent_here | apply ent_next | exact ent_last)); done); (focus kernel_rfl); (focus decide +kernel); clear hs; (try clear w); intro hR w hRR hs; (try simp only [star_assoc] at hs))
        | ((with_reducible apply pl_call hs (wbyte_s _ _ _ _ _)); (go_must (((focus (simp only [zj, zk, zl, List.append_toArray, List.nil_append, List.cons_append, Act.eval, za, zb, zc, zd, ze, zf]; (try with_reducible rfl); done)); (focus ((repeat (first | (with_reducible (first | exact ent_refl | apply ent_puR)) | ((with_reducible apply ent_front); (focus with_reducible (repeat (first | exact ent_here | apply ent_next | exact ent_last)); done)) | (with_reducible (first | exact ent_keep | apply ent_trans ent_drop)) | (focus (first | ((repeat' (first | omega)); done))))); done)); (focus (simp only [go_sem]))))); clear hs; (try clear w); intro v w hq; (have hs := hq); clear hq; (try simp only [star_assoc, star_emp, emp_star] at hs); (try simp only [Act.put, zg, zh, zi]))
        | ((with_reducible apply pl_call hs (wnumI_s _ _ _ _ _)); (go_must (((focus (simp only [zj, zk, zl, List.append_toArray, List.nil_append, List.cons_append, Act.eval, za, zb, zc, zd, ze, zf]; (try with_reducible rfl); done)); (focus ((repeat (first | (with_reducible (first | exact ent_refl | apply ent_puR)) | ((with_reducible apply ent_front); (focus with_reducible (repeat (first | exact ent_here | apply ent_next | exact ent_last)); done)) | (with_reducible (first | exact ent_keep | apply ent_trans ent_drop)) | (focus (first | ((repeat' (first | (with_reducible assumption) | (with_reducible apply And.intro) | omega)); done))))); done)); (focus (simp only [go_sem]))))); clear hs; (try clear w); intro v w hq; (obtain ⟨rfl, hs⟩ := hq.pu); clear hq; (try simp only [star_assoc, star_emp, emp_star] at hs); (try simp only [Act.put, zg, zh, zi]))
        | ((with_reducible apply mx_call hs (penrow_s _ _ _ _ _ x.clock)); (go_must (((focus (simp only [zj, zk, zl, List.append_toArray, List.nil_append, List.cons_append, Act.eval, za, zb, zc, zd, ze, zf]; (try with_reducible rfl); done)); (focus ((repeat (first | (with_reducible (first | exact ent_refl | apply ent_puR)) | ((with_reducible apply ent_front); (focus with_reducible (repeat (first | exact ent_here | apply ent_next | exact ent_last)); done)) | (with_reducible (first | exact ent_keep | apply ent_trans ent_drop)) | (focus (first | ((repeat' (first | (with_reducible assumption) | (with_reducible apply And.intro) | omega | (focus (first | ((repeat (first | (with_reducible (first | assumption | exact slr_ro |  exact hsl _ | exact hsl2 _ | exact hsl3 _ _ _ | exact hsl4 _ _ _ | exact slr_nil | exact slr_row (fun _ => by simp only [go_sem]) | exact slr_one (fun _ => by simp only [go_sem]) | (apply slr_left; assumption))) | (with_reducible apply slr_next))); done) | ((repeat (first | (with_reducible (first | assumption | exact slr_ro |  exact hsl _ | exact hsl2 _ | exact hsl3 _ _ _ | exact hsl4 _ _ _ | exact slr_nil | exact slr_row (fun _ => by simp only [go_sem]) | exact slr_one (fun _ => by simp only [go_sem]) | (apply slr_left; assumption))) | (with_reducible (first | (apply slr_exh; focus assumption) | (apply slr_exh0; focus assumption) | apply slr_next)))); done))))); done))))); done)); (focus (simp only [go_sem])); (focus (intros; with_reducible (refine in_of_sat (by assumption) ?_; repeat (first | exact ent_exh_here | exact ent_last | refine ent_pu_l (fun _ => ?_) | refine ent_ex_l (fun _ => ?_) | apply ent_exh_next)); done))))); clear hs; (try clear w); intro v w hq; (have hs := hq); clear hq; (try simp only [star_assoc, star_emp, emp_star] at hs); (try simp only [Act.put, zg, zh, zi]))
        | ((with_reducible apply pl_loadN hs); (focus (simp only [Act.eval, za, zb, zc, zd, ze, zf]; (try with_reducible rfl); done)); (with_reducible (first | exact agg_67 | exact agg_78)); (focus ((repeat (first | (with_reducible (first | assumption | exact hel _ | exact hel2 _ | exact hel3 _)) | ((with_reducible apply reads_whole); (focus (first | (with_reducible rfl) | (simp only [go_sem]; done) | (simp; done)))) | ((with_reducible apply reads_part); (focus (first | (simp [go_sem]; done) | (simp only [go_sem]; omega) | go_size)); (focus (first | (simp only [Nat.reduceAdd, Nat.zero_add, go_sem]; (try with_reducible rfl); done) | (simp [go_sem]; (try with_reducible rfl); done)))) | (with_reducible (first | (apply reads_left; assumption) | refine reads_exh (by assumption) ?_ | refine reads_exh0 (by assumption) ?_ | apply reads_next)))); done)); (focus rfl); simp only [Act.put, zg, zh, zi])
        | ((with_reducible apply pl_load1 hs); (focus (simp only [Act.eval, za, zb, zc, zd, ze, zf]; (try with_reducible rfl); done)); (focus (simp only [go_sem])); (focus ((repeat (first | (with_reducible (first | assumption | exact hec _ | exact hec2 _ | exact hec3 _ | exact hec4 _ _ | exact hec5 _ _)) | ((with_reducible apply readc_here); (focus (first | (simp only [zc, zd, ze, go_sem]; (try with_reducible rfl); done) | (go_simp; (try with_reducible rfl); done)))) | (with_reducible (first | (apply readc_left; assumption) | refine readc_exh (by assumption) ?_ | refine readc_exh0 (by assumption) ?_ | apply readc_next)))); done)); (focus rfl); simp only [Act.put, zg, zh, zi])
        | ((with_reducible apply pl_alloc hs); (with_reducible (first | exact zero_78)); clear hs; (try clear w); intro g w hs; skip; simp only [Act.put, zg, zh, zi])
        | ((with_reducible apply pl_storeN hs); (focus (simp only [Act.eval, za, zb, zc, zd, ze, zf]; (try with_reducible rfl); done)); (focus (simp only [Act.eval, za, zb, zc, zd, ze, zf]; (try with_reducible rfl); done)); (with_reducible (first | exact agg_78)); (focus with_reducible (repeat (first | exact ent_here | apply ent_next | exact ent_last)); done); (focus (first | (with_reducible rfl) | (simp only [go_sem]; done) | (simp; done))); (focus (first | (simp [go_sem]; done) | (simp only [go_sem]; omega) | go_size)); (focus (first | (simp only [go_sem]; done) | (simp [go_sem]; done))); (focus (first | ((with_reducible apply splice_whole); (focus (first | (with_reducible rfl) | (simp only [go_sem]; done) | (simp; done)))) | (simp [splice, go_sem]; done) | (simp only [go_sem]; (try with_reducible rfl); done))); clear hs; (try clear w); intro w hs; (try simp only [zg, zh, zi, clk_set, opv_s0, opv_s1, opv_s2, opv_s3, actv_s0, actv_s1, actv_s2, actv_s3, actv_s4, rnd_s0, rnd_s17, lnk_s0, lnk_s1, lnk_s2, nov_s0, nov_s1, nov_s2, intv_set, bytv_set] at hs); simp only [Act.put, zg, zh, zi])
        | ((with_reducible apply mix_end hRR hs); (focus with_reducible (repeat (first | exact ent_here | apply ent_next | exact ent_last)); done); clear hs; (try clear w); intro w hs; (try simp only [star_assoc, star_emp, emp_star] at hs); clear hRR hR)
        | ((with_reducible apply mx_loadN hRR); (focus (simp only [Act.eval, za, zb, zc, zd, ze, zf]; (try with_reducible rfl); done)); (with_reducible (first | exact agg_67)); (focus ((repeat (first | (with_reducible (first | assumption | exact hel _ | exact hel2 _ | exact hel3 _)) | ((with_reducible apply reads_whole); (focus (first | (with_reducible rfl) | (simp only [go_sem]; done) | (simp; done)))) | ((with_reducible apply reads_part); (focus (first | (simp [go_sem]; done) | (simp only [go_sem]; omega) | go_size)); (focus (first | (simp only [Nat.reduceAdd, Nat.zero_add, go_sem]; (try with_reducible rfl); done) | (simp [go_sem]; (try with_reducible rfl); done)))) | (with_reducible (first | (apply reads_left; assumption) | refine reads_exh (by assumption) ?_ | refine reads_exh0 (by assumption) ?_ | apply reads_next)))); done)); simp only [Act.put, zg, zh, zi])
        | ((with_reducible refine mix_float ?_ ?_ ?_ (fun h hk => ?_) ?_); rotate_left 1; (focus rfl); (focus rfl); (focus (go_simp; (try (rw [if_pos (by omega)]; (try go_simp))); (try simp (disch := omega) only [IntWalk.i64_in, IntWalk.i32_in]); (try with_reducible rfl); done)); simp only [Act.put, zg, zh, zi]))
      · have hk1 : x.op.kind = 1 := by simpa using ‹(x.op.kind == 1) = true›
        exact ⟨⟨k + 1, by omega, by go_num, hs.mono (by rw [hsucc.out, show L1 ++ encAct x = L1 ++ [x.op.kind] ++ form x.op.rep.toNat ++ form x.op.pl.toNat ++ form x.op.char.toNat ++ form x.num.toNat ++ encRow x.clock by unfold encAct encChar; rw [if_pos hk1]; simp [List.append_assoc]]; ((repeat (first | (with_reducible (first | exact ent_refl | exact ent_emp)) | ((with_reducible apply ent_front); (focus with_reducible (repeat (first | exact ent_here | apply ent_next | exact ent_last)); done)) | (with_reducible (first | exact ent_keep | apply ent_trans ent_drop)))); done))⟩, by simp [intOf]; omega⟩
      · have hk1 : ¬ x.op.kind = 1 := by simpa using ‹(x.op.kind == 1) = false›
        exact ⟨⟨k + 1, by omega, by go_num, hs.mono (by rw [hsucc.out, show L1 ++ encAct x = L1 ++ [x.op.kind] ++ form x.op.rep.toNat ++ form x.op.pl.toNat ++ form x.num.toNat ++ encRow x.clock by unfold encAct encChar; rw [if_neg hk1]; simp [List.append_assoc]]; ((repeat (first | (with_reducible (first | exact ent_refl | exact ent_emp)) | ((with_reducible apply ent_front); (focus with_reducible (repeat (first | exact ent_here | apply ent_next | exact ent_last)); done)) | (with_reducible (first | exact ent_keep | apply ent_trans ent_drop)))); done))⟩, by simp [intOf]; omega⟩
    · have hfin : L ++ form n ++ (l.take k).flatMap encAct = L ++ encActs l := by
        unfold encActs
        have := hnl.out
        rw [List.take_of_length_le (by omega), hnl.out, List.append_assoc]
      rw [hfin] at hs
      go_wp2_with fail
      refine bodyPost_end (results_none rfl _ _ _) rfl ⟨_, rfl, hs.mono (by ((repeat (first | (with_reducible (first | exact ent_refl | exact ent_emp)) | ((with_reducible apply ent_front); (focus with_reducible (repeat (first | exact ent_here | apply ent_next | exact ent_last)); done)) | (with_reducible (first | exact ent_keep | apply ent_trans ent_drop)))); done))⟩
def rndE (f : Nat → RoundD) (k : Nat) : List Int := ((rndL f).take k).flatMap encRound
theorem rndE_succ (f : Nat → RoundD) {k : Nat} (h : k < usedN (numsOf f) 8) : rndE f (k + 1) = rndE f k ++ encRound (f k) := by
  unfold rndE
  rw [List.take_add_one, rndL_get, if_pos h, List.flatMap_append]
  simp
theorem encRound_le {r : RoundD} (h : okD r = true) (hI : RoundDI r) : (encRound r).length ≤ 170 := by
  obtain ⟨h1, h2, h3, h4, h5, h6⟩ := (okD_iff r).1 h
  have hm : mst = 9223372036854775807 := rfl
  have e1 := form9 (c := r.num) (by have := hI.num; unfold InI at this; omega)
  have e2 := form9 (c := r.dec) (by omega)
  have e3 := encRow_len (c := r.cut) fun i hi => by have := hI.cut i hi; unfold InI at this; omega
  have e4 := encRow_len (c := r.votes) fun i hi => by have := h6 i hi; omega
  unfold encRound
  split
  · simp only [List.length_append, List.length_nil]; omega
  · simp only [List.length_append]; omega
theorem rndE_len {f : Nat → RoundD} (h : ∀ i, i < 8 → okD (f i) = true ∧ RoundDI (f i)) (k : Nat) : (rndE f k).length ≤ 1360 := by
  unfold rndE
  have hu := usedN_le (numsOf f) 8
  have h1 := flat_len (l := (rndL f).take k) (e := encRound) (b := 170) fun x hx => by
    have h2 := List.mem_of_mem_take hx
    unfold rndL at h2
    obtain ⟨i, hi, rfl⟩ := List.mem_map.1 h2
    have hi8 : i < 8 := by have := List.mem_range.1 hi; omega
    exact encRound_le (h i hi8).1 (h i hi8).2
  have h2 := List.length_take_le' k (rndL f)
  rw [rndL_len] at h2
  omega
theorem encRounds_eq (f : Nat → RoundD) : encRounds f = form (usedN (numsOf f) 8) ++ rndE f (usedN (numsOf f) 8) := by
  unfold encRounds rndE
  rw [List.take_of_length_le (by rw [rndL_len]; omega)]
theorem encRounds_len {f : Nat → RoundD} (h : ∀ i, i < 8 → okD (f i) = true ∧ RoundDI (f i)) : (encRounds f).length ≤ 1361 := by
  have := rndE_len h (usedN (numsOf f) 8)
  rw [encRounds_eq, List.length_append, form_le8 (usedN_le _ 8)]
  omega
set_option maxRecDepth 20000 in
set_option maxHeartbeats 4000000 in
theorem penrounds_s (c0 : World) (F : HP) (gi : Nat) (L : List Int) (f : Nat → RoundD) : Spec Tryd.prog c0 34 #[.agg #[.pointer (some ⟨gi, 0, none⟩)], .agg (rnds f)]
    (pu ((∀ i, i < 8 → okD (f i) = true ∧ RoundDI (f i)) ∧ L.length + 2000 ≤ 140737488355328) (wrt gi L * F)) (fun _ => wrt gi (L ++ encRounds f) * F) := by
  intro w hq; obtain ⟨⟨hI, hl⟩, hs⟩ := hq.pu; clear hq
  have hE := encRounds_eq f
  have hrl := rndE_len hI
  have hu := usedN_le (numsOf f) 8
  have hf8 := form_le8 hu
  have hsucc : ∀ k, k < usedN (numsOf f) 8 → rndE f (k + 1) = rndE f k ++ encRound (f k) := fun k => rndE_succ f
  have hz : rndE f 0 = [] := rfl
  have hnum0 : ∀ F, Spec Tryd.prog c0 31 #[.pointer (some ⟨gi, 0, none⟩), .int .i64 (usedN (numsOf f) 8 : Nat)] (wrt gi L * F) (fun r => pu (r = .nilIface) (wrt gi (L ++ form (usedN (numsOf f) 8)) * F)) := fun F w hs => wnum_s c0 F gi L (usedN (numsOf f) 8) w (hs.mono (ent_pu ⟨by omega, by omega⟩ ent_refl))
  generalize encRounds f = E at *
  generalize hnu : usedN (numsOf f) 8 = n at *
  replace hnu := Lib.hid hnu
  have hu' : (n : Int) ≤ 8 := by omega
  replace hE := Lib.hid hE
  replace hsucc := Lib.hid hsucc
  replace hrl := Lib.hid hrl
  replace hI := Lib.hid hI
  go_enter Tryd.func34, Tryd.ntmps34
  go_wp2_with (first
        | ((with_reducible apply pl_loadN hs); (focus (simp only [Act.eval, za, zb, zc, zd, ze, zf]; (try with_reducible rfl); done)); (with_reducible (first | exact agg_26 | exact agg_28 | exact agg_67)); (focus ((repeat (first | (with_reducible (first | assumption | exact hel _ | exact hel2 _ | exact hel3 _)) | ((with_reducible apply reads_whole); (focus (first | (with_reducible rfl) | (simp only [go_sem]; done) | (simp; done)))) | ((with_reducible apply reads_part); (focus (first | (simp [go_sem]; done) | (simp only [go_sem]; omega) | go_size)); (focus (first | (simp only [Nat.reduceAdd, Nat.zero_add, go_sem]; (try with_reducible rfl); done) | (simp [go_sem]; (try with_reducible rfl); done)))) | (with_reducible (first | (apply reads_left; assumption) | refine reads_exh (by assumption) ?_ | refine reads_exh0 (by assumption) ?_ | apply reads_next)))); done)); (focus rfl); simp only [Act.put, zg, zh, zi])
        | ((with_reducible apply pl_box hs); (focus (simp only [Act.eval, za, zb, zc, zd, ze, zf]; (try with_reducible rfl); done)); (focus (first | (with_reducible (first | exact cells_intv _ | exact cells_bytv _ | exact cells_agg _ | exact cells_int _ _ | exact cells_bool _ | exact cells_string _ | exact cells_slice _ _ _ | exact cells_pointer _ | exact cells_map _ | exact cells_iface _ _ | exact cells_nilIface | exact cells_func _ _ _)) | (exact cells_one (by assumption)))); clear hs; (try clear w); intro g w hs; skip; simp only [Act.put, zg, zh, zi]))
  rename_i gp K0 ha0
  (obtain ⟨gy, hgg⟩ : ∃ x, x = g := ⟨_, rfl⟩); subst hgg
  obtain ⟨H1, hH1, hq⟩ := Sat.name hs; clear hs; have hs := hq; clear hq
  go_loopw [4, 11] (fun v i wr => ∃ k : Nat, k ≤ 8 ∧ i = .int .i64 k ∧ Sat c0 (row 3 1 intv v ((List.range k).map (numsOf f)) * H1) wr) (fun _ i _ => 8 - (intOf i).toNat)
  case atStart => exact ⟨0, by omega, rfl, hs.mono ent_row_nil⟩
  case round =>
    clear hs
    obtain ⟨k, hk, rfl, hs⟩ := hrel
    obtain ⟨B, d, rfl, hd1, hd2⟩ := row_slice hs.own
    have hsu : (List.range (k + 1)).map (numsOf f) = (List.range k).map (numsOf f) ++ [(f k).num] := by rw [List.range_succ, List.map_append]; rfl
    by_cases hlt : k < 8
    · have hix : ∀ w, (idxS 28 (.agg (rnds f)) (.int .i64 (k : Int))).run Tryd.prog w = .ok (.agg (rnd (f k))) w := idx_rnds f k hlt
      have hll : ((List.range k).map (numsOf f)).length = k := by simp
      generalize (List.range k).map (numsOf f) = l at *
      go_wp2_with (first
        | ((with_reducible apply pl_load1 hs); (focus (simp only [Act.eval, za, zb, zc, zd, ze, zf]; (try with_reducible rfl); done)); (focus (simp only [go_sem])); (focus ((repeat (first | (with_reducible (first | assumption | exact hec _ | exact hec2 _ | exact hec3 _ | exact hec4 _ _ | exact hec5 _ _)) | ((with_reducible apply readc_here); (focus (first | (simp only [zc, zd, ze, go_sem]; (try with_reducible rfl); done) | (go_simp; (try with_reducible rfl); done)))) | (with_reducible (first | (apply readc_left; assumption) | refine readc_exh (by assumption) ?_ | refine readc_exh0 (by assumption) ?_ | apply readc_next)))); done)); (focus rfl); simp only [Act.put, zg, zh, zi])
        | ((with_reducible apply pl_alloc hs); (with_reducible (first | exact zero_26)); clear hs; (try clear w); intro g w hs; skip; simp only [Act.put, zg, zh, zi])
        | ((with_reducible apply pl_bs1 hs); (with_reducible (first | exact bst_47)); (focus (simp only [Act.eval, za, zb, zc, zd, ze, zf]; (try with_reducible rfl); done)); (focus (first | (with_reducible (first | exact cells_intv _ | exact cells_bytv _ | exact cells_agg _ | exact cells_int _ _ | exact cells_bool _ | exact cells_string _ | exact cells_slice _ _ _ | exact cells_pointer _ | exact cells_map _ | exact cells_iface _ _ | exact cells_nilIface | exact cells_func _ _ _)) | (exact cells_one (by assumption)))); (focus (first | (with_reducible rfl) | (simp only [go_sem]; done) | (simp; done))); clear hs; (try clear w); intro g w hs; skip; simp only [Act.put, zg, zh, zi])
        | ((with_reducible apply pl_storeN hs); (focus (simp only [Act.eval, za, zb, zc, zd, ze, zf]; (try with_reducible rfl); done)); (focus (simp only [Act.eval, za, zb, zc, zd, ze, zf]; (try with_reducible rfl); done)); (with_reducible (first | exact agg_26)); (focus with_reducible (repeat (first | exact ent_here | apply ent_next | exact ent_last)); done); (focus (first | (with_reducible rfl) | (simp only [go_sem]; done) | (simp; done))); (focus (first | (simp [go_sem]; done) | (simp only [go_sem]; omega) | go_size)); (focus (first | (simp only [go_sem]; done) | (simp [go_sem]; done))); (focus (first | ((with_reducible apply splice_whole); (focus (first | (with_reducible rfl) | (simp only [go_sem]; done) | (simp; done)))) | (simp [splice, go_sem]; done) | (simp only [go_sem]; (try with_reducible rfl); done))); clear hs; (try clear w); intro w hs; (try simp only [zg, zh, zi, clk_set, opv_s0, opv_s1, opv_s2, opv_s3, actv_s0, actv_s1, actv_s2, actv_s3, actv_s4, rnd_s0, rnd_s17, lnk_s0, lnk_s1, lnk_s2, nov_s0, nov_s1, nov_s2, intv_set, bytv_set] at hs); simp only [Act.put, zg, zh, zi])
        | ((with_reducible apply pl_append1 hs); (with_reducible (first | exact app_24 | exact app_32 | exact app_45 | exact app_46 | exact app_47 | exact app_122)); (focus (simp only [Act.eval, za, zb, zc, zd, ze, zf]; (try with_reducible rfl); done)); (first | (focus with_reducible (repeat (first | exact ent_here | apply ent_next | exact ent_last)); done) | (focus (with_reducible exact ent_row_nil)) | (focus ((with_reducible apply ent_row_of_blk); (focus with_reducible (repeat (first | exact ent_here | apply ent_next | exact ent_last)); done); (focus (simp only [go_sem]))))); (focus (simp only [Act.eval, za, zb, zc, zd, ze, zf]; (try with_reducible rfl); done)); (focus ((repeat (first | (with_reducible (first | assumption | exact hel _ | exact hel2 _ | exact hel3 _)) | ((with_reducible apply reads_whole); (focus (first | (with_reducible rfl) | (simp only [go_sem]; done) | (simp; done)))) | ((with_reducible apply reads_part); (focus (first | (simp [go_sem]; done) | (simp only [go_sem]; omega) | go_size)); (focus (first | (simp only [Nat.reduceAdd, Nat.zero_add, go_sem]; (try with_reducible rfl); done) | (simp [go_sem]; (try with_reducible rfl); done)))) | (with_reducible (first | (apply reads_left; assumption) | refine reads_exh (by assumption) ?_ | refine reads_exh0 (by assumption) ?_ | apply reads_next)))); done)); (focus (first | (simp only [maxLen] at *; omega) | (simp [maxLen] at *; omega))); (focus (first | (simp only [maxLen] at *; omega) | (simp [maxLen] at *; omega))); clear hs; (try clear w); intro Ap cq w hs; skip; simp only [Act.put, zg, zh, zi]))
      exact ⟨⟨k + 1, by omega, by go_num, by rw [hsu]; exact hs.mono (by ((repeat (first | (with_reducible (first | exact ent_refl | exact ent_emp)) | ((with_reducible apply ent_front); (focus with_reducible (repeat (first | exact ent_here | apply ent_next | exact ent_last)); done)) | (with_reducible (first | exact ent_keep | apply ent_trans ent_drop)))); done))⟩, by simp [intOf]; omega⟩
    · obtain rfl : k = 8 := by omega
      subst hH1
      rw [show (List.range 8).map (numsOf f) = lst8 (numsOf f) from rfl] at hs hd1 ⊢
      rw [lst8_len] at hd1 hs ⊢
      go_wp2_with (first
        | ((with_reducible apply pl_call hs (used_s _ _ _ (numsOf f))); (go_must (((focus (simp only [zj, zk, zl, List.append_toArray, List.nil_append, List.cons_append, Act.eval, za, zb, zc, zd, ze, zf]; (try with_reducible rfl); done)); (focus ((repeat (first | (with_reducible (first | exact ent_refl | apply ent_puR)) | ((with_reducible apply ent_front); (focus with_reducible (repeat (first | exact ent_here | apply ent_next | exact ent_last)); done)) | (with_reducible (first | exact ent_keep | apply ent_trans ent_drop)) | (focus (first | (focus (first | ((repeat (first | (with_reducible (first | assumption | exact slr_ro |  exact hsl _ | exact hsl2 _ | exact hsl3 _ _ _ | exact hsl4 _ _ _ | exact slr_nil | exact slr_row (fun _ => by simp only [go_sem]) | exact slr_one (fun _ => by simp only [go_sem]) | (apply slr_left; assumption))) | (with_reducible apply slr_next))); done) | ((repeat (first | (with_reducible (first | assumption | exact slr_ro |  exact hsl _ | exact hsl2 _ | exact hsl3 _ _ _ | exact hsl4 _ _ _ | exact slr_nil | exact slr_row (fun _ => by simp only [go_sem]) | exact slr_one (fun _ => by simp only [go_sem]) | (apply slr_left; assumption))) | (with_reducible (first | (apply slr_exh; focus assumption) | (apply slr_exh0; focus assumption) | apply slr_next)))); done))))))); done)); (focus (simp only [go_sem]))))); clear hs; (try clear w); intro v w hq; (obtain ⟨hv, hs⟩ := hq.pu; rw [hnu.out] at hv; subst hv); clear hq; (try simp only [star_assoc, star_emp, emp_star] at hs); (try simp only [Act.put, zg, zh, zi]))
        | ((with_reducible apply pl_call hs (hnum0 _)); (go_must (((focus (simp only [zj, zk, zl, List.append_toArray, List.nil_append, List.cons_append, Act.eval, za, zb, zc, zd, ze, zf]; (try with_reducible rfl); done)); (focus ((repeat (first | (with_reducible (first | exact ent_refl | apply ent_puR)) | ((with_reducible apply ent_front); (focus with_reducible (repeat (first | exact ent_here | apply ent_next | exact ent_last)); done)) | (with_reducible (first | exact ent_keep | apply ent_trans ent_drop)) | (fail))); done)); (focus (simp only [go_sem]))))); clear hs; (try clear w); intro v w hq; (obtain ⟨rfl, hs⟩ := hq.pu); clear hq; (try simp only [star_assoc, star_emp, emp_star] at hs); (try simp only [Act.put, zg, zh, zi]))
        | ((with_reducible apply pl_load1 hs); (focus (simp only [Act.eval, za, zb, zc, zd, ze, zf]; (try with_reducible rfl); done)); (focus (simp only [go_sem])); (focus ((repeat (first | (with_reducible (first | assumption | exact hec _ | exact hec2 _ | exact hec3 _ | exact hec4 _ _ | exact hec5 _ _)) | ((with_reducible apply readc_here); (focus (first | (simp only [zc, zd, ze, go_sem]; (try with_reducible rfl); done) | (go_simp; (try with_reducible rfl); done)))) | (with_reducible (first | (apply readc_left; assumption) | refine readc_exh (by assumption) ?_ | refine readc_exh0 (by assumption) ?_ | apply readc_next)))); done)); (focus rfl); simp only [Act.put, zg, zh, zi]))
      go_simp
      clear hd1 hd2 hsu hk hnum0 hlt
      go_loopw [29] (fun i wr => ∃ k : Nat, k ≤ n ∧ i = .int .i64 k ∧ Sat c0 (wrt gi (L ++ form n ++ rndE f k) * (blk gy (.cells (rnds f) 28 (0, 0)) * (blk gp (.cells #[.pointer (some ⟨gi, 0, none⟩)] 67 (0, 0)) * F))) wr) (fun i _ => n - (intOf i).toNat)
      case atStart => exact ⟨0, by omega, rfl, by rw [hz, List.append_nil]; exact hs.mono (by ((repeat (first | (with_reducible (first | exact ent_refl | exact ent_emp)) | ((with_reducible apply ent_front); (focus with_reducible (repeat (first | exact ent_here | apply ent_next | exact ent_last)); done)) | (with_reducible (first | exact ent_keep | apply ent_trans ent_drop)))); done))⟩
      case round =>
        clear hs
        obtain ⟨k, hk, rfl, hs⟩ := hrel
        have hL : (L ++ form n ++ rndE f k).length + 500 ≤ 140737488355328 := by have := hrl.out k; rw [List.length_append, List.length_append]; omega
        by_cases hlt : k < n
        · have hk8 : k < 8 := by omega
          have hel : ∀ R, Reads (blk gy (.cells (rnds f) 28 (0, 0)) * R) gy (k * 18) 18 (rnd (f k)) := fun R => reads_part (by rw [rnds_size]; omega) (rnds_extract f k hk8)
          have hsu : L ++ form n ++ rndE f (k + 1) = L ++ form n ++ rndE f k ++ encRound (f k) := by rw [hsucc.out k hlt, List.append_assoc _ (rndE f k)]
          obtain ⟨hD, hDI⟩ := hI.out k hk8
          generalize f k = r at *
          obtain ⟨h1, h2, h3, h4, h5, h6⟩ := (okD_iff r).1 hD
          have hp := hDI.num
          have hcI := hDI.cut
          unfold InI at hp
          unfold ClkI InI at hcI
          have hck : ∀ i, i < 8 → 0 ≤ r.cut i ∧ r.cut i ≤ mst := fun i hi => ⟨h5 i hi, by have := hcI i hi; have hmst : mst = 9223372036854775807 := rfl; omega⟩
          have hcv : ∀ i, i < 8 → 0 ≤ r.votes i ∧ r.votes i ≤ mst := fun i hi => ⟨(h6 i hi).1, by have := h6 i hi; have hmst : mst = 9223372036854775807 := rfl; omega⟩
          have hec1 := encRow_len fun i hi => (hck i hi).2
          have hec5 := encRow_len fun i hi => (hcv i hi).2
          have hmst : mst = 9223372036854775807 := rfl
          have hle1 : r.num ≤ mst := by omega
          have hle2 : r.dec ≤ mst := by omega
          have hsl3 : ∀ (g : Nat) (f : Nat × Nat) R, SlR (blk g (.cells (rnd r) 26 f) * R) 1 intv (.slice (some ⟨g, 1, none⟩) 8 8) (lst8 r.cut) := fun g _ R => slr_arr (rnd_clk1 r)
          have hsl4 : ∀ (g : Nat) (f : Nat × Nat) R, SlR (blk g (.cells (rnd r) 26 f) * R) 1 intv (.slice (some ⟨g, 9, none⟩) 8 8) (lst8 r.votes) := fun g _ R => slr_arr (rnd_clk9 r)
          clear hD hDI h2 h5 h6 hcI hmst
          replace hsu := Lib.hid hsu
          generalize L ++ form n ++ rndE f k = L1 at *
          have e1 := form9 hle1
          have a1 : (L1 ++ form r.num.toNat).length ≤ L1.length + 9 := by rw [List.length_append]; omega
          have a2 : (L1 ++ form r.num.toNat ++ encRow r.cut).length ≤ L1.length + 82 := by rw [List.length_append]; omega
          have a3 : (L1 ++ form r.num.toNat ++ encRow r.cut ++ encRow r.votes).length ≤ L1.length + 155 := by rw [List.length_append]; omega
          go_wp2_with (first
        | ((with_reducible apply wp_region_sl (G := (wrt _ _)) (id := 14) hs 1000); (focus with_reducible (repeat (first | exact ent_here | apply ent_next | exact ent_last)); done); (focus kernel_rfl); (focus decide +kernel); clear hs; (try clear w); intro hR w hRR hs; (try simp only [star_assoc] at hs))
        | ((with_reducible apply wp_region_sl (G := (wrt _ _)) (id := 15) hs 1000); (focus with_reducible (repeat (first | exact ent_here | apply ent_next | exact ent_last)); done); (focus kernel_rfl); (focus decide +kernel); clear hs; (try clear w); intro hR w hRR hs; (try simp only [star_assoc] at hs))
        | ((with_reducible apply pl_call hs (wnumI_s _ _ _ _ _)); (go_must (((focus (simp only [zj, zk, zl, List.append_toArray, List.nil_append, List.cons_append, Act.eval, za, zb, zc, zd, ze, zf]; (try with_reducible rfl); done)); (focus ((repeat (first | (with_reducible (first | exact ent_refl | apply ent_puR)) | ((with_reducible apply ent_front); (focus with_reducible (repeat (first | exact ent_here | apply ent_next | exact ent_last)); done)) | (with_reducible (first | exact ent_keep | apply ent_trans ent_drop)) | (focus (first | ((repeat' (first | (with_reducible assumption) | (with_reducible apply And.intro) | omega)); done))))); done)); (focus (simp only [go_sem]))))); clear hs; (try clear w); intro v w hq; (obtain ⟨rfl, hs⟩ := hq.pu); clear hq; (try simp only [star_assoc, star_emp, emp_star] at hs); (try simp only [Act.put, zg, zh, zi]))
        | ((with_reducible apply mx_call hs (penrow_s _ _ _ _ _ _)); (go_must (((focus (simp only [zj, zk, zl, List.append_toArray, List.nil_append, List.cons_append, Act.eval, za, zb, zc, zd, ze, zf]; (try with_reducible rfl); done)); (focus ((repeat (first | (with_reducible (first | exact ent_refl | apply ent_puR)) | ((with_reducible apply ent_front); (focus with_reducible (repeat (first | exact ent_here | apply ent_next | exact ent_last)); done)) | (with_reducible (first | exact ent_keep | apply ent_trans ent_drop)) | (focus (first | ((repeat' (first | (with_reducible assumption) | (with_reducible apply And.intro) | omega | (focus (first | ((repeat (first | (with_reducible (first | assumption | exact slr_ro |  exact hsl _ | exact hsl2 _ | exact hsl3 _ _ _ | exact hsl4 _ _ _ | exact slr_nil | exact slr_row (fun _ => by simp only [go_sem]) | exact slr_one (fun _ => by simp only [go_sem]) | (apply slr_left; assumption))) | (with_reducible apply slr_next))); done) | ((repeat (first | (with_reducible (first | assumption | exact slr_ro |  exact hsl _ | exact hsl2 _ | exact hsl3 _ _ _ | exact hsl4 _ _ _ | exact slr_nil | exact slr_row (fun _ => by simp only [go_sem]) | exact slr_one (fun _ => by simp only [go_sem]) | (apply slr_left; assumption))) | (with_reducible (first | (apply slr_exh; focus assumption) | (apply slr_exh0; focus assumption) | apply slr_next)))); done))))); done))))); done)); (focus (simp only [go_sem])); (focus (intros; with_reducible (refine in_of_sat (by assumption) ?_; repeat (first | exact ent_exh_here | exact ent_last | refine ent_pu_l (fun _ => ?_) | refine ent_ex_l (fun _ => ?_) | apply ent_exh_next)); done))))); clear hs; (try clear w); intro v w hq; (have hs := hq); clear hq; (try simp only [star_assoc, star_emp, emp_star] at hs); (try simp only [Act.put, zg, zh, zi]))
        | ((with_reducible apply pl_loadN hs); (focus (simp only [Act.eval, za, zb, zc, zd, ze, zf]; (try with_reducible rfl); done)); (with_reducible (first | exact agg_26 | exact agg_28 | exact agg_67)); (focus ((repeat (first | (with_reducible (first | assumption | exact hel _ | exact hel2 _ | exact hel3 _)) | ((with_reducible apply reads_whole); (focus (first | (with_reducible rfl) | (simp only [go_sem]; done) | (simp; done)))) | ((with_reducible apply reads_part); (focus (first | (simp [go_sem]; done) | (simp only [go_sem]; omega) | go_size)); (focus (first | (simp only [Nat.reduceAdd, Nat.zero_add, go_sem]; (try with_reducible rfl); done) | (simp [go_sem]; (try with_reducible rfl); done)))) | (with_reducible (first | (apply reads_left; assumption) | refine reads_exh (by assumption) ?_ | refine reads_exh0 (by assumption) ?_ | apply reads_next)))); done)); (focus rfl); simp only [Act.put, zg, zh, zi])
        | ((with_reducible apply pl_load1 hs); (focus (simp only [Act.eval, za, zb, zc, zd, ze, zf]; (try with_reducible rfl); done)); (focus (simp only [go_sem])); (focus ((repeat (first | (with_reducible (first | assumption | exact hec _ | exact hec2 _ | exact hec3 _ | exact hec4 _ _ | exact hec5 _ _)) | ((with_reducible apply readc_here); (focus (first | (simp only [zc, zd, ze, go_sem]; (try with_reducible rfl); done) | (go_simp; (try with_reducible rfl); done)))) | (with_reducible (first | (apply readc_left; assumption) | refine readc_exh (by assumption) ?_ | refine readc_exh0 (by assumption) ?_ | apply readc_next)))); done)); (focus rfl); simp only [Act.put, zg, zh, zi])
        | ((with_reducible apply pl_alloc hs); (with_reducible (first | exact zero_26)); clear hs; (try clear w); intro g w hs; skip; simp only [Act.put, zg, zh, zi])
        | ((with_reducible apply pl_storeN hs); (focus (simp only [Act.eval, za, zb, zc, zd, ze, zf]; (try with_reducible rfl); done)); (focus (simp only [Act.eval, za, zb, zc, zd, ze, zf]; (try with_reducible rfl); done)); (with_reducible (first | exact agg_26)); (focus with_reducible (repeat (first | exact ent_here | apply ent_next | exact ent_last)); done); (focus (first | (with_reducible rfl) | (simp only [go_sem]; done) | (simp; done))); (focus (first | (simp [go_sem]; done) | (simp only [go_sem]; omega) | go_size)); (focus (first | (simp only [go_sem]; done) | (simp [go_sem]; done))); (focus (first | ((with_reducible apply splice_whole); (focus (first | (with_reducible rfl) | (simp only [go_sem]; done) | (simp; done)))) | (simp [splice, go_sem]; done) | (simp only [go_sem]; (try with_reducible rfl); done))); clear hs; (try clear w); intro w hs; (try simp only [zg, zh, zi, clk_set, opv_s0, opv_s1, opv_s2, opv_s3, actv_s0, actv_s1, actv_s2, actv_s3, actv_s4, rnd_s0, rnd_s17, lnk_s0, lnk_s1, lnk_s2, nov_s0, nov_s1, nov_s2, intv_set, bytv_set] at hs); simp only [Act.put, zg, zh, zi])
        | ((with_reducible apply mix_end hRR hs); (focus with_reducible (repeat (first | exact ent_here | apply ent_next | exact ent_last)); done); clear hs; (try clear w); intro w hs; (try simp only [star_assoc, star_emp, emp_star] at hs); clear hRR hR)
        | ((with_reducible apply mx_loadN hRR); (focus (simp only [Act.eval, za, zb, zc, zd, ze, zf]; (try with_reducible rfl); done)); (with_reducible (first | exact agg_67)); (focus ((repeat (first | (with_reducible (first | assumption | exact hel _ | exact hel2 _ | exact hel3 _)) | ((with_reducible apply reads_whole); (focus (first | (with_reducible rfl) | (simp only [go_sem]; done) | (simp; done)))) | ((with_reducible apply reads_part); (focus (first | (simp [go_sem]; done) | (simp only [go_sem]; omega) | go_size)); (focus (first | (simp only [Nat.reduceAdd, Nat.zero_add, go_sem]; (try with_reducible rfl); done) | (simp [go_sem]; (try with_reducible rfl); done)))) | (with_reducible (first | (apply reads_left; assumption) | refine reads_exh (by assumption) ?_ | refine reads_exh0 (by assumption) ?_ | apply reads_next)))); done)); simp only [Act.put, zg, zh, zi])
        | ((with_reducible refine mix_float ?_ ?_ ?_ (fun h hk => ?_) ?_); rotate_left 1; (focus rfl); (focus rfl); (focus (go_simp; (try (rw [if_pos (by omega)]; (try go_simp))); (try simp (disch := omega) only [IntWalk.i64_in, IntWalk.i32_in]); (try with_reducible rfl); done)); simp only [Act.put, zg, zh, zi]))
          · have hk1 : ¬ r.num = 0 := by simpa using ‹(r.num != 0) = true›
            exact ⟨⟨k + 1, by omega, by go_num, hs.mono (by rw [hsu.out, show L1 ++ encRound r = L1 ++ form r.num.toNat ++ encRow r.cut ++ encRow r.votes ++ form r.dec.toNat by unfold encRound; rw [if_neg hk1]; simp [List.append_assoc]]; ((repeat (first | (with_reducible (first | exact ent_refl | exact ent_emp)) | ((with_reducible apply ent_front); (focus with_reducible (repeat (first | exact ent_here | apply ent_next | exact ent_last)); done)) | (with_reducible (first | exact ent_keep | apply ent_trans ent_drop)))); done))⟩, by simp [intOf]; omega⟩
          · have hk1 : r.num = 0 := by simpa using ‹(r.num != 0) = false›
            exact ⟨⟨k + 1, by omega, by go_num, hs.mono (by rw [hsu.out, show L1 ++ encRound r = L1 ++ form r.num.toNat by unfold encRound; rw [if_pos hk1]; simp [List.append_assoc]]; ((repeat (first | (with_reducible (first | exact ent_refl | exact ent_emp)) | ((with_reducible apply ent_front); (focus with_reducible (repeat (first | exact ent_here | apply ent_next | exact ent_last)); done)) | (with_reducible (first | exact ent_keep | apply ent_trans ent_drop)))); done))⟩, by simp [intOf]; omega⟩
        · have hfin : L ++ form n ++ rndE f k = L ++ E := by rw [hE.out, List.append_assoc, show k = n by omega]
          rw [hfin] at hs
          go_wp2_with fail
          refine bodyPost_end (results_none rfl _ _ _) rfl ⟨_, rfl, hs.mono (by ((repeat (first | (with_reducible (first | exact ent_refl | exact ent_emp)) | ((with_reducible apply ent_front); (focus with_reducible (repeat (first | exact ent_here | apply ent_next | exact ent_last)); done)) | (with_reducible (first | exact ent_keep | apply ent_trans ent_drop)))); done))⟩
end Go.Proofs.YtegebjflhhbmiaaDoor
