/- DiffShortest: the law's card, from its walk. -/
import Derived.Test.YtgoifgockcpnhaaDoorDE
import Derived.Test.YtgoifgockcpnhaaDoorD8
import Derived.Test.YtgoifgockcpnhaaDoorHZ
import Derived.Test.YtgoifgockcpnhaaDoorDG
import Derived.Test.YtgoifgockcpnhaaDoorDH
import Derived.Test.YtgoifgockcpnhaaDoorDL
import Derived.Test.YtgoifgockcpnhaaDoorCards
import Derived.Test.YtgoifgockcpnhaaDoorTie
import Derived.ProofKit
import Derived.Deep.DeepHandedRow
import Derived.Deep.DeepWitnessRowRef
set_option linter.unusedSimpArgs false
set_option linter.unusedVariables false
namespace Go.Proofs.YtgoifgockcpnhaaDoor
open Go Go.RowKit

/-- An edit as meant at a text, or what is wrong with it. -/
def asE (t : List Int) (e : EdtD) : Except Nat Ed :=
  if e.at_ < 0 ∨ (t.length : Int) < e.at_ ∨ e.er < 0 ∨ (t.length : Int) - e.at_ < e.er then .error 2
  else match runesL e.ins.data.toList with
    | none => .error 3
    | some m => .ok ⟨e.at_.toNat, e.er.toNat, m⟩
/-- All in turn: the text, and what takes them back (the last one first). -/
def apA (i : Nat) (t : List Int) (B : List Ed) : List EdtD → Except (Nat × Nat) (List Int × List Ed)
  | [] => .ok (t, B)
  | e :: l => match asE t e with
    | .error k => .error (i, k)
    | .ok d => apA (i + 1) (ap1 t d) (bk1 t d :: B) l
theorem bkE_cons (t : List Int) (d : Ed) (l : List Ed) : bkE t (d :: l) = bkE (ap1 t d) l ++ [bk1 t d] := by rw [bkE]
theorem apA_nil (i : Nat) (t : List Int) (B : List Ed) : apA i t B [] = .ok (t, B) := rfl
theorem apA_no {i : Nat} {t : List Int} {B : List Ed} {e : EdtD} {l : List EdtD} {k : Nat} (h : asE t e = .error k) : apA i t B (e :: l) = .error (i, k) := by unfold apA; rw [h]
theorem apA_yes {i : Nat} {t : List Int} {B : List Ed} {e : EdtD} {l : List EdtD} {d : Ed} (h : asE t e = .ok d) : apA i t B (e :: l) = apA (i + 1) (ap1 t d) (bk1 t d :: B) l := by rw [apA, h]
theorem asE_range {t : List Int} {e : EdtD} (h : e.at_ < 0 ∨ (t.length : Int) < e.at_ ∨ e.er < 0 ∨ (t.length : Int) - e.at_ < e.er) : asE t e = .error 2 := by unfold asE; rw [if_pos h]
theorem asE_text {t : List Int} {e : EdtD} (h : ¬ (e.at_ < 0 ∨ (t.length : Int) < e.at_ ∨ e.er < 0 ∨ (t.length : Int) - e.at_ < e.er)) (hm : runesL e.ins.data.toList = none) : asE t e = .error 3 := by unfold asE; rw [if_neg h, hm]
theorem asE_ok {t : List Int} {e : EdtD} {m : List Int} (h : ¬ (e.at_ < 0 ∨ (t.length : Int) < e.at_ ∨ e.er < 0 ∨ (t.length : Int) - e.at_ < e.er)) (hm : runesL e.ins.data.toList = some m) : asE t e = .ok ⟨e.at_.toNat, e.er.toNat, m⟩ := by unfold asE; rw [if_neg h, hm]
/-- An edit in the document's form. -/
theorem asE_enc {t : List Int} {d : Ed} (h : okE t d) (hI : ∀ c, c ∈ d.ins → RuneI c) : asE t (encE d) = .ok d := by
  obtain ⟨h1, h2⟩ := h
  have := asE_ok (t := t) (e := encE d) (m := d.ins) (by show ¬ ((d.at_ : Int) < 0 ∨ (t.length : Int) < (d.at_ : Int) ∨ (d.er : Int) < 0 ∨ (t.length : Int) - (d.at_ : Int) < (d.er : Int)); omega) (runes_rts hI)
  rw [this]
  show Except.ok (⟨(d.at_ : Int).toNat, (d.er : Int).toNat, d.ins⟩ : Ed) = Except.ok d
  rw [Int.toNat_natCast, Int.toNat_natCast]
theorem asE_okE {t : List Int} {e : EdtD} {d : Ed} (h : asE t e = .ok d) : okE t d ∧ (∀ c, c ∈ d.ins → RuneI c) ∧ d.ins.length ≤ e.ins.size ∧ runesL e.ins.data.toList = some d.ins ∧ e.at_ = d.at_ ∧ e.er = d.er := by
  unfold asE at h
  split at h
  · cases h
  · rename_i hn
    split at h
    · cases h
    · rename_i m hm
      cases h
      refine ⟨⟨?_, ?_⟩, runes_in hm, runes_len hm, hm, ?_, ?_⟩ <;> simp only <;> omega
theorem apA_enc : ∀ (l : List Ed) (i : Nat) (t u : List Int) (B : List Ed), (∀ d, d ∈ l → ∀ c, c ∈ d.ins → RuneI c) → apE t l = some u → apA i t B (l.map encE) = .ok (u, bkE t l ++ B)
  | [], _, t, u, B, _, h => by cases h; rfl
  | d :: l, i, t, u, B, hI, h => by
    unfold apE at h
    split at h
    · rename_i hok
      rw [zk, apA_yes (asE_enc hok (hI d (List.mem_cons_self ..))), apA_enc l (i + 1) _ u _ (fun d' h' => hI d' (List.mem_cons_of_mem _ h')) h]
      rw [bkE_cons, List.append_assoc]
      rfl
    · cases h
theorem apA_ok : ∀ (l : List EdtD) (i : Nat) (t u : List Int) (B C : List Ed), apA i t B l = .ok (u, C) → ∃ ds, ds.length = l.length ∧ apE t ds = some u ∧ C = bkE t ds ++ B
  | [], _, t, u, B, C, h => by cases h; exact ⟨[], rfl, rfl, rfl⟩
  | e :: l, i, t, u, B, C, h => by
    cases ha : asE t e with
    | error k => rw [apA_no ha] at h; cases h
    | ok d =>
      rw [apA_yes ha] at h
      obtain ⟨ds, h1, h2, h3⟩ := apA_ok l (i + 1) _ u _ C h
      refine ⟨d :: ds, by simp [h1], ?_, ?_⟩
      · unfold apE
        rw [if_pos (asE_okE ha).1]
        exact h2
      · rw [h3]
        rw [bkE_cons, List.append_assoc]
        rfl
theorem ap1_len {t : List Int} {d : Ed} (h : okE t d) : (ap1 t d).length + d.er = t.length + d.ins.length := by
  obtain ⟨h1, h2⟩ := h
  unfold ap1
  simp only [List.length_append, List.length_take, List.length_drop]
  omega
theorem ap1_in {t : List Int} {d : Ed} (ht : ∀ c, c ∈ t → RuneI c) (hd : ∀ c, c ∈ d.ins → RuneI c) : ∀ c, c ∈ ap1 t d → RuneI c := fun c hc => by
  unfold ap1 at hc
  rcases List.mem_append.1 hc with h | h
  · rcases List.mem_append.1 h with h | h
    · exact ht c (List.mem_of_mem_take h)
    · exact hd c h
  · exact ht c (List.mem_of_mem_drop h)
theorem bk1_in {t : List Int} {d : Ed} (ht : ∀ c, c ∈ t → RuneI c) : ∀ c, c ∈ (bk1 t d).ins → RuneI c := fun c hc => ht c (List.mem_of_mem_drop (List.mem_of_mem_take hc))
/-- What stays true of the text and the back edits: all characters are right, and how many there are. -/
theorem apA_in : ∀ (l : List EdtD) (i : Nat) (t u : List Int) (B C : List Ed), (∀ c, c ∈ t → RuneI c) → (∀ d, d ∈ B → ∀ c, c ∈ d.ins → RuneI c) → apA i t B l = .ok (u, C) → (∀ c, c ∈ u → RuneI c) ∧ (∀ d, d ∈ C → ∀ c, c ∈ d.ins → RuneI c)
  | [], _, t, u, B, C, ht, hB, h => by cases h; exact ⟨ht, hB⟩
  | e :: l, i, t, u, B, C, ht, hB, h => by
    cases ha : asE t e with
    | error k => rw [apA_no ha] at h; cases h
    | ok d =>
      rw [apA_yes ha] at h
      refine apA_in l (i + 1) _ u _ C (ap1_in ht (asE_okE ha).2.1) (fun d' hd' => ?_) h
      rcases List.mem_cons.1 hd' with rfl | hd'
      · exact bk1_in ht
      · exact hB d' hd'
/-- What Apply and Invert answer. -/
def apR (s : ByteArray) (l : List EdtD) : Except (Nat × Nat) (List Int × List Ed) := match runesL s.data.toList with
  | none => .error (0, 3)
  | some t => apA 0 t [] l
/-- What edits have done, their back edits take back. -/
theorem apR_back {s : ByteArray} {l : List EdtD} {u : List Int} {C : List Ed} (h : apR s l = .ok (u, C)) : ∃ t D, runesL s.data.toList = some t ∧ C.length = l.length ∧ apR (rts u) (C.map encE) = .ok (t, D) := by
  unfold apR at h
  split at h
  · cases h
  · rename_i t ht
    obtain ⟨ds, h1, h2, h3⟩ := apA_ok l 0 t u [] C h
    obtain ⟨h4, h5⟩ := apA_in l 0 t u [] C (runes_in ht) (by simp) h
    rw [List.append_nil] at h3
    refine ⟨t, bkE u C ++ [], ht, by rw [h3, bkE_len, h1], ?_⟩
    unfold apR
    rw [runes_rts h4]
    exact apA_enc C 0 u t [] h5 (by rw [h3]; exact apE_bkE ds t u h2)
/-- Edits make b of a. -/
theorem apR_edits {A B : ByteArray} {x y : List Int} (hx : runesL A.data.toList = some x) (hy : runesL B.data.toList = some y) : ∃ D, apR A ((wk 0 0 [] x y).map encE) = .ok (y, D) := by
  refine ⟨bkE x (wk 0 0 [] x y) ++ [], ?_⟩
  unfold apR
  rw [hx]
  exact apA_enc _ 0 x y [] (fun d hd c hc => by
    rcases (wk_ins_in _ 0 0 [] x y d (Nat.le_refl _) hd).1 c hc with h | h
    · cases h
    · exact runes_in hy c h) (apE_all x y)
end Go.Proofs.YtgoifgockcpnhaaDoor

set_option linter.unusedSimpArgs false
set_option linter.unusedVariables false
namespace Go.Proofs.YtgoifgockcpnhaaDoor
open Go Go.RowKit

theorem intT3 : IntT Tryd.prog 3 := ⟨_, Tryd.underlying3⟩
set_option maxRecDepth 20000 in
theorem grow_s (c0 : World) (F : HP) (n : Nat) : Spec Tryd.prog c0 66 #[.slice none 0 0, .int .i64 n] (pu (n ≤ 100000000) F) (fun r => row 21 1 runv r [] * F) := by
  intro w hq; obtain ⟨hn, hs⟩ := hq.pu; clear hq
  have hmx : 0 ≤ maxLen := Nat.zero_le _
  by_cases h0 : 0 < n
  · have hI : (0 : Int) < n := by omega
    go_enter Tryd.func66, Tryd.ntmps66
    go_wp2_with (first
        | (((with_reducible apply pl_app0 hs); (focus (with_reducible exact mk_33)); (focus (exact intT3)); (focus (simp only [Act.eval, za, zb, zc, zd, ze, zf]; (try with_reducible rfl); done)); (focus (simp only [Act.eval, za, zb, zc, zd, ze, zf]; (try with_reducible rfl); done)); (focus omega); (focus omega); (focus (simp only [maxLen]; omega)); clear hs; (try clear w); intro g cq w hs; simp only [Act.put, zg, zh, zi])))
    (go_ret; simp only [za, zb, zc, zd, ze, zf])
    exact ⟨_, rfl, hs.mono (ent_trans (ent_row_take runv_size 0 (by omega)) (by rw [List.take_zero]; ((repeat (first | (with_reducible (first | exact ent_refl | exact ent_emp)) | ((with_reducible apply ent_front); (focus with_reducible (repeat (first | exact ent_here | apply ent_next | exact ent_last)); done)) | (with_reducible (first | exact ent_keep | apply ent_trans ent_drop)))); done)))⟩
  · obtain rfl : n = 0 := by omega
    go_enter Tryd.func66, Tryd.ntmps66
    go_wp2_with fail
    (go_ret; simp only [za, zb, zc, zd, ze, zf])
    exact ⟨_, rfl, hs.mono ent_row_nil⟩
def lens (ls : List (List Int)) : Nat := (ls.map List.length).sum
theorem lens_take {ls : List (List Int)} {k : Nat} {l : List Int} (h : ls[k]? = some l) : lens (ls.take (k + 1)) = lens (ls.take k) + l.length := by
  unfold lens
  rw [List.take_add_one, h, List.map_append, List.sum_append]
  simp
theorem lens_le (ls : List (List Int)) (k : Nat) : lens (ls.take k) ≤ lens ls := by
  unfold lens
  have h : ls = ls.take k ++ ls.drop k := (List.take_append_drop k ls).symm
  conv => rhs; rw [h]
  rw [List.map_append, List.sum_append]
  omega
theorem flat_take {ls : List (List Int)} {k : Nat} {l : List Int} (h : ls[k]? = some l) : (ls.take (k + 1)).flatten = (ls.take k).flatten ++ l := by
  rw [List.take_add_one, h, List.flatten_append]
  simp
theorem flat_len (ls : List (List Int)) : ls.flatten.length = lens ls := by unfold lens; rw [List.length_flatten]
/-- The k-th of a row of rows. -/
theorem sl2_row {H : HP} {A : Option Addr} {n c k : Nat} {ls : List (List Int)} (h : Sl2 H 1 runv (.slice A n c) ls) {w : World} (hw : Own H w) (hk : k < n) :
    ∃ g o l p m d, A = some ⟨g, o, none⟩ ∧ ls[k]? = some l ∧ m = l.length ∧ ReadC H g (o + k) (.slice p m d) ∧ SlR H 1 runv (.slice p m d) l := by
  obtain ⟨ts, h1, h2, h3⟩ := h
  obtain ⟨g, o, t, hA, ht, hr⟩ := slr_get h1 hw hk
  have hkl : k < ls.length := by have := (List.getElem?_eq_some_iff.1 ht).1; omega
  have hl := List.getElem?_eq_getElem hkl
  have hs := h3 k t _ ht hl
  refine ⟨g, o, _, t.p, t.n, t.c, hA, hl, (slr_len hs hw).1, ?_, hs⟩
  have := hr.cell (i := 0) (by omega) (slv_0 t)
  rwa [Nat.mul_one] at this
set_option maxRecDepth 20000 in
set_option maxHeartbeats 1000000 in
theorem concat_s (c0 : World) (F : HP) (v : Value) (ls : List (List Int)) : Spec Tryd.prog c0 59 #[v] (pu (Sl2 F 1 runv v ls ∧ lens ls ≤ 100000000) F) (fun r => row 21 1 runv r ls.flatten * F) := by
  intro w hq; obtain ⟨⟨hSl, hls⟩, hs⟩ := hq.pu; clear hq
  have hSl2 := hSl
  obtain ⟨ts, h1, h2, _⟩ := hSl2
  obtain ⟨A, c, rfl⟩ := slr_form h1 hs.own
  obtain ⟨_, hn1, hn2, _⟩ := slr_len h1 hs.own
  unfold maxLen at hn2
  have hle := lens_le ls
  rw [h2] at *
  generalize hn : ls.length = n at *
  replace hn := Lib.hid hn
  replace hle := Lib.hid hle
  replace hSl := Lib.hid hSl
  clear h1
  go_enter Tryd.func59, Tryd.ntmps59
  go_wp2_with fail
  go_loopw [3, 11] (fun sv iv wr => ∃ k : Nat, k ≤ n ∧ iv = .int .i64 k ∧ sv = .int .i64 (lens (ls.take k) : Nat) ∧ Sat c0 F wr) (fun _ iv _ => n - (intOf iv).toNat)
  case atStart => exact ⟨0, by omega, rfl, rfl, hs⟩
  case round =>
    clear hs
    obtain ⟨k, hk, rfl, rfl, hs⟩ := hrel
    have hlk := hle.out k
    by_cases hlt : k < n
    · obtain ⟨g, o, l, p, m, d, rfl, hlk1, rfl, hr1, hs1⟩ := sl2_row hSl.out hs.own hlt
      have hst := lens_take hlk1
      have hlk2 := hle.out (k + 1)
      rw [hst] at hlk2
      replace hst := Lib.hid hst
      clear hlk1
      generalize lens (ls.take k) = S at *
      go_wp2_with (first
        | ((with_reducible apply pl_load1 hs); (focus (simp only [Act.eval, za, zb, zc, zd, ze, zf]; (try with_reducible rfl); done)); (focus (simp only [go_sem])); (focus ((repeat (first | (with_reducible (first | assumption | exact hec _ | exact hec2 _ | exact hec3 _ | exact hec4 _ _)) | ((with_reducible apply readc_here); (focus (first | (simp only [zc, zd, ze, go_sem]; (try with_reducible rfl); done) | (go_simp; (try with_reducible rfl); done)))) | (with_reducible (first | (apply readc_left; assumption) | refine readc_exh (by assumption) ?_ | refine readc_exh0 (by assumption) ?_ | apply readc_next)))); done)); (focus rfl); simp only [Act.put, zg, zh, zi]))
      exact ⟨⟨k + 1, by omega, congrArg (Value.int .i64) (by omega), congrArg (Value.int .i64) (by rw [hst.out]; omega), hs⟩, by simp only [intOf]; omega⟩
    · obtain rfl : n = k := by omega
      have hall : lens (ls.take n) = lens ls := by rw [List.take_of_length_le (by have := hn.out; omega)]
      rw [hall]
      clear hall hlk
      generalize hL : lens ls = L at *
      replace hL := Lib.hid hL
      go_wp2_with (first
        | ((with_reducible apply pl_call hs (grow_s _ _ _)); ((((focus (simp only [zj, zk, zl, List.append_toArray, List.nil_append, List.cons_append, Act.eval, za, zb, zc, zd, ze, zf]; (try with_reducible rfl); done)); (focus ((repeat (first | (with_reducible (first | exact ent_refl | apply ent_puR)) | ((with_reducible apply ent_front); (focus with_reducible (repeat (first | exact ent_here | apply ent_next | exact ent_last)); done)) | (with_reducible (first | exact ent_keep | apply ent_trans ent_drop)) | (focus (first | (with_reducible assumption))))); done)); (focus (simp only [go_sem]))))); clear hs; (try clear w); intro v w hq; (have hs := hq; obtain ⟨Ag, cg, he, hg1, hg2⟩ := row_slice hs.own; simp only [List.length_nil] at he hg1; subst he); clear hq; (try simp only [star_assoc, star_emp, emp_star] at hs); (try simp only [Act.put, zg, zh, zi])))
      have hn' := hn.out
      go_loopw [6, 27] (fun sv iv wr => ∃ k : Nat, k ≤ n ∧ iv = .int .i64 k ∧ Sat c0 (row 21 1 runv sv (ls.take k).flatten * F) wr) (fun _ iv _ => n - (intOf iv).toNat)
      case atStart => exact ⟨0, by omega, rfl, by rw [List.take_zero]; exact hs⟩
      case round =>
        clear hs
        clear hn'
        obtain ⟨k, hk, rfl, hs⟩ := hrel
        obtain ⟨Ap, cp, rfl, hp1, hp2⟩ := row_slice hs.own
        by_cases hlt : k < n
        · obtain ⟨g, o, l, p, m, d, rfl, hlk1, rfl, hr1, hs1⟩ := sl2_row hSl.out (hs.mono ent_drop).own hlt
          have hst := flat_take hlk1
          have hzl : (ls.take k).flatten.length + l.length ≤ 100000000 := by
            have e1 := congrArg List.length hst
            rw [List.length_append, flat_len] at e1
            have := hle.out (k + 1)
            have := hL.out
            omega
          replace hst := Lib.hid hst
          clear hlk1
          generalize (ls.take k).flatten = Z at *
          go_wp2_with (first
        | ((with_reducible apply pl_load1 hs); (focus (simp only [Act.eval, za, zb, zc, zd, ze, zf]; (try with_reducible rfl); done)); (focus (simp only [go_sem])); (focus ((repeat (first | (with_reducible (first | assumption | exact hec _ | exact hec2 _ | exact hec3 _ | exact hec4 _ _)) | ((with_reducible apply readc_here); (focus (first | (simp only [zc, zd, ze, go_sem]; (try with_reducible rfl); done) | (go_simp; (try with_reducible rfl); done)))) | (with_reducible (first | (apply readc_left; assumption) | refine readc_exh (by assumption) ?_ | refine readc_exh0 (by assumption) ?_ | apply readc_next)))); done)); (focus rfl); simp only [Act.put, zg, zh, zi])
        | ((with_reducible apply pl_appendN hs); (with_reducible (first | exact app_22 | exact app_33 | exact app_47 | exact app_48 | exact app_80 | exact app_90 | exact app_97)); (focus (simp only [Act.eval, za, zb, zc, zd, ze, zf]; (try with_reducible rfl); done)); (first | (focus with_reducible (repeat (first | exact ent_here | apply ent_next | exact ent_last)); done) | (focus (with_reducible exact ent_row_nil)) | (focus ((with_reducible apply ent_row_of_blk); (focus with_reducible (repeat (first | exact ent_here | apply ent_next | exact ent_last)); done); (focus (simp only [go_sem]))))); (focus (simp only [Act.eval, za, zb, zc, zd, ze, zf]; (try with_reducible rfl); done)); (focus (first | ((repeat (first | (with_reducible (first | assumption | exact slr_ro |  exact hsl _ | exact hsl2 _ | exact hsl3 _ _ _ | exact slr_nil | exact slr_row (fun _ => by simp only [go_sem]) | exact slr_one (fun _ => by simp only [go_sem]) | (apply slr_left; assumption))) | (with_reducible apply slr_next))); done) | ((repeat (first | (with_reducible (first | assumption | exact slr_ro |  exact hsl _ | exact hsl2 _ | exact hsl3 _ _ _ | exact slr_nil | exact slr_row (fun _ => by simp only [go_sem]) | exact slr_one (fun _ => by simp only [go_sem]) | (apply slr_left; assumption))) | (with_reducible (first | (apply slr_exh; focus assumption) | (apply slr_exh0; focus assumption) | apply slr_next)))); done))); (focus (first | (simp only [maxLen] at *; omega) | (simp [maxLen] at *; omega))); (focus (first | (simp only [maxLen] at *; omega) | (simp [maxLen] at *; omega))); clear hs; (try clear w); intro Ap cq w hs; (try simp only [List.length_nil, Nat.zero_add, List.nil_append] at hs ⊢); simp only [Act.put, zg, zh, zi]))
          exact ⟨⟨k + 1, by omega, congrArg (Value.int .i64) (by omega), by rw [hst.out]; exact hs⟩, by simp only [intOf]; omega⟩
        · obtain rfl : n = k := by omega
          have hall : ls.take n = ls := List.take_of_length_le (by have := hn.out; omega)
          rw [hall] at hs
          clear hall
          generalize hZ : ls.flatten = Z at *
          have hZl : (ls.take n).flatten.length = Z.length := by rw [List.take_of_length_le (by have := hn.out; omega), hZ]
          rw [hZl] at *
          go_wp2_with fail
          (go_ret; simp only [za, zb, zc, zd, ze, zf])
          exact ⟨_, rfl, hs⟩
end Go.Proofs.YtgoifgockcpnhaaDoor

set_option linter.unusedSimpArgs false
set_option linter.unusedVariables false
namespace Go.Proofs.YtgoifgockcpnhaaDoor
open Go Go.RowKit

/-! ### parts of a row of characters -/
def ctA (A : Option Addr) (l m s : Nat) : Option Addr := if m = l then A else A.map (·.add (l * s))
theorem slice_lh (A : Option Addr) (n c : Nat) (p q : Nat) (h : p + q ≤ c) (w : World) : (Instr.slice 33 (.slice A n c) (some (.int .i64 p)) (some (.int .i64 ((p : Int) + (q : Int)))) none).run Tryd.prog w = .ok (.slice (ctA A p c 1) q (c - p)) w := by
  rw [run_slice_lh w 33 A n c (by kernel_rfl) .i64 .i64 p _ (by omega) (by omega) (by omega)]
  rw [show (sizeOf (Tryd.prog.elem 33)).run Tryd.prog w = .ok 1 w by kernel_rfl]
  show Result.ok (Value.slice (if c = (p : Int).toNat then A else A.map (·.add ((p : Int).toNat * 1))) (((p : Int) + (q : Int)).toNat - (p : Int).toNat) (c - (p : Int).toNat)) w = _
  rw [show ((p : Int) + (q : Int)).toNat - (p : Int).toNat = q by omega, Int.toNat_natCast]
  rfl
theorem slice_h (A : Option Addr) (n c : Nat) (p : Nat) (h : p ≤ c) (w : World) : (Instr.slice 33 (.slice A n c) none (some (.int .i64 p)) none).run Tryd.prog w = .ok (.slice (ctA A 0 c 1) p c) w := by
  rw [run_slice_h w 33 A n c (by kernel_rfl) .i64 p (by omega) (by omega)]
  rw [show (sizeOf (Tryd.prog.elem 33)).run Tryd.prog w = .ok 1 w by kernel_rfl]
  show Result.ok (Value.slice (if c = 0 then A else A.map (·.add (0 * 1))) ((p : Int).toNat - 0) (c - 0)) w = _
  rw [Int.toNat_natCast, Nat.sub_zero, Nat.sub_zero]
  rfl
theorem slice_l (A : Option Addr) (n c : Nat) (p q : Nat) (h : p + q ≤ n) (w : World) : (Instr.slice 33 (.slice A n c) (some (.int .i64 ((p : Int) + (q : Int)))) none none).run Tryd.prog w = .ok (.slice (ctA A (p + q) c 1) (n - (p + q)) (c - (p + q))) w := by
  rw [run_slice_l w 33 A n c (by kernel_rfl) .i64 _ (by omega) (by omega)]
  rw [show (sizeOf (Tryd.prog.elem 33)).run Tryd.prog w = .ok 1 w by kernel_rfl]
  show Result.ok (Value.slice (if c = ((p : Int) + (q : Int)).toNat then A else A.map (·.add (((p : Int) + (q : Int)).toNat * 1))) (n - ((p : Int) + (q : Int)).toNat) (c - ((p : Int) + (q : Int)).toNat)) w = _
  rw [show ((p : Int) + (q : Int)).toNat = p + q by omega]
  rfl
theorem drop_getG {α : Type} {l : List α} {i : Nat} {a : α} (h : l[i]? = some a) : l.drop i = a :: l.drop (i + 1) := by
  obtain ⟨hi, rfl⟩ := List.getElem?_eq_some_iff.1 h
  exact List.drop_eq_getElem_cons hi
theorem SlIs.dropO {α : Type} {w : World} {B s : Nat} {enc : α → Array Value} {l : List α} {g o n c : Nat} (h : SlIs w B s enc (.slice (some ⟨g, o, none⟩) n c) l) (k : Nat) (hk : k ≤ n) :
    SlIs w B s enc (.slice (if c = k then some ⟨g, o, none⟩ else some ⟨g, o + k * s, none⟩) (n - k) (c - k)) (l.drop k) := by
  obtain ⟨A', c', h1, h2, h3, h3', h4⟩ := h
  injection h1 with e1 e2 e3
  subst e1; subst e2; subst e3
  refine ⟨if c = k then some ⟨g, o, none⟩ else some ⟨g, o + k * s, none⟩, c - k, by rw [List.length_drop], by simp; omega, by omega, (fun h => by split at h <;> cases h), fun hn => ?_⟩
  simp at hn
  rw [if_neg (by omega)]
  obtain ⟨b, o', h5, h6, h7⟩ := h4 (by omega)
  injection h5 with h5
  injection h5 with e1 e2 e3
  subst e1; subst e2
  refine ⟨g, o + k * s, rfl, h6, fun i a ha => ?_⟩
  have := h7 (k + i) a (by simpa [List.getElem?_drop] using ha)
  rw [Nat.add_mul, ← Nat.add_assoc] at this
  exact this
theorem slr_dropO {α : Type} {H : HP} {s : Nat} {enc : α → Array Value} {l : List α} {g o n cap : Nat} (h : SlR H s enc (.slice (some ⟨g, o, none⟩) n cap) l) (k : Nat) (hk : k ≤ n) : SlR H s enc (.slice (if cap = k then some ⟨g, o, none⟩ else some ⟨g, o + k * s, none⟩) (n - k) (cap - k)) (l.drop k) := fun w hw => (h w hw).dropO k hk
theorem slr_cut {H : HP} {A : Option Addr} {n c : Nat} {l : List Int} (h : SlR H 1 runv (.slice A n c) l) (p q : Nat) (hq : p + q ≤ n) : SlR H 1 runv (.slice (ctA A p c 1) q (c - p)) ((l.drop p).take q) := fun w hw => by
  have h0 := h w hw
  obtain ⟨h1, h2, h3, h4⟩ := h0.len
  cases A with
  | none =>
    obtain rfl : c = 0 := h4 rfl
    obtain rfl : n = 0 := by omega
    obtain rfl : p = 0 := by omega
    obtain rfl : q = 0 := by omega
    obtain rfl : l = [] := List.eq_nil_of_length_eq_zero h1.symm
    exact SlIs.nil
  | some ad =>
    obtain ⟨b, o, f⟩ := ad
    by_cases hn : n = 0
    · obtain rfl : p = 0 := by omega
      obtain rfl : q = 0 := by omega
      obtain rfl : l = [] := List.eq_nil_of_length_eq_zero (by omega)
      refine ⟨_, _, rfl, Nat.zero_le _, by simpa using h3, fun he => ?_, fun he => absurd he (by simp)⟩
      unfold ctA at he
      split at he
      · cases he
      · simp at he
    · obtain ⟨b', o', a, hA, _, _⟩ := h0.get (i := 0) (by omega)
      obtain rfl : f = none := by injection hA with hA; injection hA
      have hd := h0.dropO p (by omega)
      have he : ctA (some ⟨b, o, none⟩) p c 1 = if c = p then some ⟨b, o, none⟩ else some ⟨b, o + p * 1, none⟩ := by
        unfold ctA
        split
        · rfl
        · simp [Addr.add]
      rw [he]
      exact hd.take q (by omega)
theorem slr_cut0 {H : HP} {A : Option Addr} {n c : Nat} {l : List Int} (h : SlR H 1 runv (.slice A n c) l) (p : Nat) (hp : p ≤ n) : SlR H 1 runv (.slice (ctA A 0 c 1) p c) (l.take p) := by
  have := slr_cut h 0 p (by omega)
  rwa [List.drop_zero, Nat.sub_zero] at this
theorem slr_cutE {H : HP} {A : Option Addr} {n c : Nat} {l : List Int} (h : SlR H 1 runv (.slice A n c) l) (p : Nat) (hp : p ≤ n) : SlR H 1 runv (.slice (ctA A p c 1) (n - p) (c - p)) (l.drop p) := fun w hw => by
  have h1 := slr_cut h p (n - p) (by omega) w hw
  have h2 := (h w hw).len.1
  rwa [List.take_of_length_le (by rw [List.length_drop]; omega)] at h1
theorem slr_val {H : HP} {s : Nat} {enc : Int → Array Value} {v v' : Value} {l : List Int} (h : SlR H s enc v l) (e : v = v') : SlR H s enc v' l := e ▸ h
attribute [local irreducible] ctA
attribute [go_sem high] slice_lh slice_h slice_l
theorem concat3_s (c0 : World) (F : HP) (v : Value) (x y z : SlD) (l1 l2 l3 : List Int) : Spec Tryd.prog c0 59 #[v] (pu (SlR F 1 slv v [x, y, z] ∧ SlR F 1 runv (.slice x.p x.n x.c) l1 ∧ SlR F 1 runv (.slice y.p y.n y.c) l2 ∧ SlR F 1 runv (.slice z.p z.n z.c) l3 ∧ l1.length + l2.length + l3.length ≤ 100000000) F) (fun r => row 21 1 runv r (l1 ++ l2 ++ l3) * F) := fun w hs => by
  obtain ⟨⟨h1, h2, h3, h4, h5⟩, hs⟩ := hs.pu
  have := concat_s c0 F v [l1, l2, l3] w (hs.mono (ent_pu ⟨⟨[x, y, z], h1, rfl, fun i t l ht hl => by
    match i with
    | 0 => cases ht; cases hl; exact h2
    | 1 => cases ht; cases hl; exact h3
    | 2 => cases ht; cases hl; exact h4
    | i + 3 => cases ht⟩, by simp [lens]; omega⟩ ent_refl))
  rwa [show [l1, l2, l3].flatten = l1 ++ l2 ++ l3 by simp] at this
/-! ### what is told -/
abbrev cAp : ByteArray := ⟨#[65, 112, 112, 108, 121]⟩
abbrev cIn : ByteArray := ⟨#[73, 110, 118, 101, 114, 116]⟩
def outP (gl : Nat) (B : List Ed) : HP := ex fun t : SlD => pu (t.n = B.length) (blk gl (.cells #[.slice t.p t.n t.c] 22 (0, 0)) * row 44 3 edt (.slice t.p t.n t.c) (B.reverse.map encE))
abbrev outB (gl : Nat) (A : Option Addr) (n c : Nat) (D : List EdtD) (F : HP) : HP := blk gl (.cells #[.slice A n c] 22 (0, 0)) * (row 44 3 edt (.slice A n c) D * F)
theorem out_shut {gl : Nat} {A : Option Addr} {n c : Nat} {B : List Ed} {D : List EdtD} {F : HP} (hD : D = B.reverse.map encE) (hn : n = B.length) : Ent (outB gl A n c D F) (outP gl B * F) := by
  subst hD
  unfold outP
  rw [ex_star]
  refine ent_ex ⟨A, n, c⟩ ?_
  rw [pu_star]
  simp only [star_assoc]
  exact ent_pu hn ent_refl
theorem out_open {gl : Nat} {B : List Ed} {F : HP} {c0 w : World} (hs : Sat c0 (outP gl B * F) w) : ∃ A c, Sat c0 (outB gl A B.length c (B.reverse.map encE) F) w := by
  unfold outP at hs
  rw [ex_star] at hs
  obtain ⟨⟨A, n, c⟩, hs⟩ := hs.ex
  rw [pu_star] at hs
  simp only [star_assoc] at hs
  obtain ⟨h, hs⟩ := hs.pu
  (try dsimp only at h hs)
  subst h
  exact ⟨A, c, hs⟩
theorem tell0_s (c0 : World) (F : HP) (e : EdtD) (v : Value) : Spec Tryd.prog c0 42 #[.agg (edt e), v] F (fun _ => F) := by
  intro w hs
  go_enter Tryd.func42, Tryd.ntmps42
  go_wp2_with (first
        | ((with_reducible apply pl_box hs); (focus (simp only [Act.eval, za, zb, zc, zd, ze, zf]; (try with_reducible rfl); done)); (focus (first | (with_reducible (first | exact cells_intv _ | exact cells_bytv _ | exact cells_runv _ | exact cells_slv _ _ _ | exact cells_agg _ | exact cells_int _ _ | exact cells_bool _ | exact cells_string _ | exact cells_slice _ _ _ | exact cells_pointer _ | exact cells_map _ | exact cells_iface _ _ | exact cells_nilIface | exact cells_func _ _ _)) | (exact cells_one (by assumption)))); clear hs; (try clear w); intro g w hs; skip; simp only [Act.put, zg, zh, zi]))
  refine bodyPost_end (results_none rfl _ _ _) rfl ?_; have hfin : Sat c0 F _ := hs.mono (by ((repeat (first | (with_reducible (first | exact ent_refl | exact ent_emp)) | ((with_reducible apply ent_front); (focus with_reducible (repeat (first | exact ent_here | apply ent_next | exact ent_last)); done)) | (with_reducible (first | exact ent_keep | apply ent_trans ent_drop)))); done)); first | exact ⟨_, rfl, hfin⟩ | exact ⟨⟨_, rfl⟩, hfin⟩
set_option maxRecDepth 20000 in
set_option maxHeartbeats 2000000 in
theorem tell1_s (c0 : World) (F : HP) (gl p q : Nat) (B : List Ed) (di : ByteArray) (v : Value) (gs mi : List Int) : Spec Tryd.prog c0 43 #[.agg (edt ⟨p, q, di⟩), v, .pointer (some ⟨gl, 0, none⟩)]
    (pu (SlR F 1 runv v gs ∧ runesL di.data.toList = some mi ∧ di.size ≤ 1000000 ∧ B.length ≤ 1000000) (outP gl B * F)) (fun _ => outP gl (⟨p, mi.length, gs⟩ :: B) * F) := by
  intro w hq; obtain ⟨⟨hv, hm, hdi, hB⟩, hs⟩ := hq.pu; clear hq
  obtain ⟨A, c, hs⟩ := out_open hs
  have hDl : (B.reverse.map encE).length = B.length := by simp
  have hfin : (B.reverse.map encE) ++ [(⟨p, (mi.length : Nat), rts gs⟩ : EdtD)] = ((⟨p, mi.length, gs⟩ : Ed) :: B).reverse.map encE := by simp [encE]
  have hmx : 0 ≤ maxLen := Nat.zero_le _
  replace hfin := Lib.hid hfin
  rw [← hDl] at hs hB
  generalize (B.reverse.map encE) = D at *
  replace hDl := Lib.hid hDl
  go_enter Tryd.func43, Tryd.ntmps43
  go_wp2_with (first
        | ((with_reducible apply wp_region_sl (G := (row _ _ _ _ _)) (id := 1) hs 11); (focus with_reducible (repeat (first | exact ent_here | apply ent_next | exact ent_last)); done); (focus kernel_rfl); (focus decide +kernel); clear hs; (try clear w); intro hR w hRR hs; (try simp only [star_assoc] at hs))
        | ((with_reducible apply mx_call hs (count_s _ _ _ mi)); ((((focus (simp only [zj, zk, zl, List.append_toArray, List.nil_append, List.cons_append, Act.eval, za, zb, zc, zd, ze, zf]; (try with_reducible rfl); done)); (focus ((repeat (first | (with_reducible (first | exact ent_refl | apply ent_puR)) | ((with_reducible apply ent_front); (focus with_reducible (repeat (first | exact ent_here | apply ent_next | exact ent_last)); done)) | (with_reducible (first | exact ent_keep | apply ent_trans ent_drop)) | (focus (first | ((repeat' (first | (with_reducible assumption) | (with_reducible apply And.intro) | omega)); done))))); done)); (focus (simp only [go_sem])); (focus (intros; with_reducible (refine in_of_sat (by assumption) ?_; repeat (first | exact ent_exh_here | exact ent_last | refine ent_pu_l (fun _ => ?_) | refine ent_ex_l (fun _ => ?_) | apply ent_exh_next)); done))))); clear hs; (try clear w); intro v w hq; (obtain ⟨rfl, hs⟩ := hq.pu); clear hq; (try simp only [star_assoc, star_emp, emp_star] at hs); (try simp only [Act.put, zg, zh, zi]))
        | ((with_reducible apply pl_box hs); (focus (simp only [Act.eval, za, zb, zc, zd, ze, zf]; (try with_reducible rfl); done)); (focus (first | (with_reducible (first | exact cells_intv _ | exact cells_bytv _ | exact cells_runv _ | exact cells_slv _ _ _ | exact cells_agg _ | exact cells_int _ _ | exact cells_bool _ | exact cells_string _ | exact cells_slice _ _ _ | exact cells_pointer _ | exact cells_map _ | exact cells_iface _ _ | exact cells_nilIface | exact cells_func _ _ _)) | (exact cells_one (by assumption)))); clear hs; (try clear w); intro g w hs; skip; simp only [Act.put, zg, zh, zi])
        | ((with_reducible apply pl_store1 hs); (focus (simp only [Act.eval, za, zb, zc, zd, ze, zf]; (try with_reducible rfl); done)); (focus (simp only [Act.eval, za, zb, zc, zd, ze, zf]; (try with_reducible rfl); done)); (focus (simp only [go_sem])); (focus with_reducible (repeat (first | exact ent_here | apply ent_next | exact ent_last)); done); (focus (first | (simp [go_sem]; done) | (simp only [go_sem]; omega) | go_size)); (focus (first | (simp only [go_sem]; done) | (simp [go_sem]; done))); clear hs; (try clear w); intro w hs; (try simp only [zg, zh, zi, edt_s0, edt_s1, edt_s2, txt_s0, txt_s1, txt_s2, txt_s3, lnk_s0, lnk_s1, lnk_s2, nov_s0, nov_s1, nov_s2, intv_set, bytv_set, runv_set, slv_set] at hs); simp only [Act.put, zg, zh, zi])
        | ((with_reducible apply mix_thaw hRR hs); (focus with_reducible (repeat (first | exact ent_here | apply ent_next | exact ent_last)); done); clear hs; (try clear w); intro w hs; (try simp only [star_assoc, star_emp, emp_star] at hs); clear hRR hR)
        | ((with_reducible apply mx_load1 hRR); (focus (simp only [Act.eval, za, zb, zc, zd, ze, zf]; (try with_reducible rfl); done)); (focus (simp only [go_sem])); (focus ((repeat (first | (with_reducible (first | assumption | exact hec _ | exact hec2 _ | exact hec3 _ | exact hec4 _ _)) | ((with_reducible apply readc_here); (focus (first | (simp only [zc, zd, ze, go_sem]; (try with_reducible rfl); done) | (go_simp; (try with_reducible rfl); done)))) | (with_reducible (first | (apply readc_left; assumption) | refine readc_exh (by assumption) ?_ | refine readc_exh0 (by assumption) ?_ | apply readc_next)))); done)); simp only [Act.put, zg, zh, zi])
        | ((with_reducible apply mx_build hRR); (focus (simp only [zj, zk, zl, Act.eval, za, zb, zc, zd, ze, zf]; (try with_reducible rfl); done)); (first | (with_reducible exact bld_1 _ _ _)); simp only [Act.put, zg, zh, zi])
        | ((with_reducible apply mx_bs1 hs); (with_reducible (first | exact bst_22)); (focus (simp only [Act.eval, za, zb, zc, zd, ze, zf]; (try with_reducible rfl); done)); (focus (first | (with_reducible (first | exact cells_intv _ | exact cells_bytv _ | exact cells_runv _ | exact cells_slv _ _ _ | exact cells_agg _ | exact cells_int _ _ | exact cells_bool _ | exact cells_string _ | exact cells_slice _ _ _ | exact cells_pointer _ | exact cells_map _ | exact cells_iface _ _ | exact cells_nilIface | exact cells_func _ _ _)) | (exact cells_one (by assumption)))); (focus (first | (with_reducible rfl) | (simp only [go_sem]; done) | (simp; done))); (focus (intros; with_reducible (refine in_of_sat (by assumption) ?_; repeat (first | exact ent_exh_here | exact ent_last | refine ent_pu_l (fun _ => ?_) | refine ent_ex_l (fun _ => ?_) | apply ent_exh_next)); done)); clear hs; (try clear w); intro g w hs; skip; simp only [Act.put, zg, zh, zi])
        | ((with_reducible apply mx_append1 hs); (with_reducible (first | exact app_22 | exact app_33 | exact app_47 | exact app_48 | exact app_80 | exact app_90 | exact app_97)); (focus (simp only [Act.eval, za, zb, zc, zd, ze, zf]; (try with_reducible rfl); done)); (first | (focus with_reducible (repeat (first | exact ent_here | apply ent_next | exact ent_last)); done) | (focus (with_reducible exact ent_row_nil)) | (focus ((with_reducible apply ent_row_of_blk); (focus with_reducible (repeat (first | exact ent_here | apply ent_next | exact ent_last)); done); (focus (simp only [go_sem]))))); (focus (simp only [Act.eval, za, zb, zc, zd, ze, zf]; (try with_reducible rfl); done)); (focus ((repeat (first | (with_reducible (first | assumption | exact hel _ | exact hel2 _ | exact hel3 _)) | ((with_reducible apply reads_whole); (focus (first | (with_reducible rfl) | (simp only [go_sem]; done) | (simp; done)))) | ((with_reducible apply reads_part); (focus (first | (simp [go_sem]; done) | (simp only [go_sem]; omega) | go_size)); (focus (first | (simp only [Nat.reduceAdd, Nat.zero_add, go_sem]; (try with_reducible rfl); done) | (simp [go_sem]; (try with_reducible rfl); done)))) | (with_reducible (first | (apply reads_left; assumption) | refine reads_exh (by assumption) ?_ | refine reads_exh0 (by assumption) ?_ | apply reads_next)))); done)); (focus (first | (simp only [maxLen] at *; omega) | (simp [maxLen] at *; omega))); (focus (first | (simp only [maxLen] at *; omega) | (simp [maxLen] at *; omega))); (focus (intros; with_reducible (refine in_of_sat (by assumption) ?_; repeat (first | exact ent_exh_here | exact ent_last | refine ent_pu_l (fun _ => ?_) | refine ent_ex_l (fun _ => ?_) | apply ent_exh_next)); done)); clear hs; (try clear w); intro Ap cq w hs; skip; simp only [Act.put, zg, zh, zi])
        | ((with_reducible apply mx_cvRS hRR); (focus (simp only [Act.eval, za, zb, zc, zd, ze, zf]; (try with_reducible rfl); done)); (first | (with_reducible exact rut_33_9)); (focus (first | ((repeat (first | (with_reducible (first | assumption | exact slr_ro |  exact hsl _ | exact hsl2 _ | exact hsl3 _ _ _ | exact slr_nil | exact slr_row (fun _ => by simp only [go_sem]) | exact slr_one (fun _ => by simp only [go_sem]) | (apply slr_left; assumption))) | (with_reducible apply slr_next))); done) | ((repeat (first | (with_reducible (first | assumption | exact slr_ro |  exact hsl _ | exact hsl2 _ | exact hsl3 _ _ _ | exact slr_nil | exact slr_row (fun _ => by simp only [go_sem]) | exact slr_one (fun _ => by simp only [go_sem]) | (apply slr_left; assumption))) | (with_reducible (first | (apply slr_exh; focus assumption) | (apply slr_exh0; focus assumption) | apply slr_next)))); done))); (focus rfl); simp only [Act.put, zg, zh, zi])
        | ((with_reducible refine mix_float ?_ ?_ ?_ (fun h hk => ?_) ?_); rotate_left 1; (focus rfl); (focus rfl); (focus (go_simp; (try (rw [if_pos (by omega)]; (try go_simp))); (try simp (disch := omega) only [IntWalk.i64_in, IntWalk.i32_in]); (try with_reducible rfl); done)); simp only [Act.put, zg, zh, zi]))
  refine bodyPost_end (results_none rfl _ _ _) rfl ?_; have hfn : Sat c0 (outP gl (⟨p, mi.length, gs⟩ :: B) * F) _ := hs.mono (ent_trans (by ((repeat (first | (with_reducible (first | exact ent_refl | exact ent_emp)) | ((with_reducible apply ent_front); (focus with_reducible (repeat (first | exact ent_here | apply ent_next | exact ent_last)); done)) | (with_reducible (first | exact ent_keep | apply ent_trans ent_drop)))); done)) (out_shut (A := _) (n := D.length + 1) (c := _) hfin.out (by simp [hDl.out]))); first | exact ⟨_, rfl, hfn⟩ | exact ⟨⟨_, rfl⟩, hfn⟩
/-- What apply answers. -/
def ApP (a : Nat → Addr) (call s : ByteArray) (l : List EdtD) (O : List Ed → HP) (F : HP) (r : Value) : HP := match apR s l with
  | .ok (u, C) => ex fun v : Value => pu (r = .tuple #[v, .nilIface]) (row 21 1 runv v u * (O C * F))
  | .error (i, k) => ex fun e : Value => ex fun C : List Ed => pu (r = .tuple #[.slice none 0 0, e]) (RefP a (some ([⟨dfB, call, atV (i : Nat)⟩], k)) e * (O C * F))
theorem apP_ok {a : Nat → Addr} {call s : ByteArray} {l : List EdtD} {O : List Ed → HP} {F : HP} {u : List Int} {C : List Ed} {v : Value} (h : apR s l = .ok (u, C)) : Ent (row 21 1 runv v u * (O C * F)) (ApP a call s l O F (.tuple #[v, .nilIface])) := by
  unfold ApP; rw [h]; exact ent_ex v (ent_pu rfl ent_refl)
theorem apP_no {a : Nat → Addr} {call s : ByteArray} {l : List EdtD} {O : List Ed → HP} {F : HP} {i k : Nat} {C : List Ed} {e : Value} (h : apR s l = .error (i, k)) : Ent (RefP a (some ([⟨dfB, call, atV (i : Nat)⟩], k)) e * (O C * F)) (ApP a call s l O F (.tuple #[.slice none 0 0, e])) := by
  unfold ApP; rw [h]; exact ent_ex e (ent_ex C (ent_pu rfl ent_refl))
theorem apP0_ok {a : Nat → Addr} {call s : ByteArray} {l : List EdtD} {F : HP} {u : List Int} {C : List Ed} {v : Value} (h : apR s l = .ok (u, C)) : Ent (row 21 1 runv v u * F) (ApP a call s l (fun _ => emp) F (.tuple #[v, .nilIface])) := by
  have := apP_ok (a := a) (call := call) (O := fun _ => emp) (F := F) (v := v) h
  rwa [emp_star] at this
theorem apP0_no {a : Nat → Addr} {call s : ByteArray} {l : List EdtD} {F : HP} {i k : Nat} {e : Value} (h : apR s l = .error (i, k)) : Ent (RefP a (some ([⟨dfB, call, atV (i : Nat)⟩], k)) e * F) (ApP a call s l (fun _ => emp) F (.tuple #[.slice none 0 0, e])) := by
  have := apP_no (a := a) (call := call) (O := fun _ => emp) (F := F) (e := e) (C := []) h
  rwa [emp_star] at this
theorem apP_no0 {a : Nat → Addr} {call s : ByteArray} {l : List EdtD} {O : List Ed → HP} {F : HP} {k : Nat} {C : List Ed} {e : Value} (h : apR s l = .error (0, k)) : Ent (RefP a (some ([⟨dfB, call, atV 0⟩], k)) e * (O C * F)) (ApP a call s l O F (.tuple #[.slice none 0 0, e])) := apP_no h
theorem apP0_no0 {a : Nat → Addr} {call s : ByteArray} {l : List EdtD} {F : HP} {k : Nat} {e : Value} (h : apR s l = .error (0, k)) : Ent (RefP a (some ([⟨dfB, call, atV 0⟩], k)) e * F) (ApP a call s l (fun _ => emp) F (.tuple #[.slice none 0 0, e])) := apP0_no h
def outEdits (l : List EdtD) : Prop := ∀ d, d ∈ l → d.ins.size ≤ 10000
/-- One step: an edit that is refused, or done. -/
theorem apR_no {s : ByteArray} {l : List EdtD} {k : Nat} {t : List Int} {B : List Ed} {d : EdtD} {i : Nat} (h : apR s l = apA k t B (l.drop k)) (hd : l[k]? = some d) (hn : asE t d = .error i) : apR s l = .error (k, i) := by
  rw [h, drop_getG hd, apA_no hn]
theorem apR_yes {s : ByteArray} {l : List EdtD} {k : Nat} {t : List Int} {B : List Ed} {d : EdtD} {e : Ed} (h : apR s l = apA k t B (l.drop k)) (hd : l[k]? = some d) (hn : asE t d = .ok e) : apR s l = apA (k + 1) (ap1 t e) (bk1 t e :: B) (l.drop (k + 1)) := by
  rw [h, drop_getG hd, apA_yes hn]
theorem apR_end {s : ByteArray} {l : List EdtD} {k : Nat} {t : List Int} {B : List Ed} (h : apR s l = apA k t B (l.drop k)) (hk : l.length ≤ k) : apR s l = .ok (t, B) := by
  rw [h, List.drop_of_length_le hk, apA_nil]
set_option maxRecDepth 20000 in
set_option maxHeartbeats 8000000 in
theorem apply0_s (c0 : World) (F : HP) (a : Nat → Addr) (s : ByteArray) (lv : Value) (l : List EdtD) : Spec Tryd.prog c0 41 #[.string cAp, .string s, lv, .func (.func 42) #[] #[]]
    (pu (ErrB F a ∧ ReadC F 2 0 (.iface 125 (.pointer (some (a 2)))) ∧ TabF F ∧ SlR F 3 edt lv l ∧ s.size ≤ 10000 ∧ l.length ≤ 300 ∧ outEdits l) (F)) (ApP a cAp s l (fun _ => emp) F) := by
  intro w hq; obtain ⟨⟨hE, hgr, hT, hl, hs1, hl1, hl2⟩, hs⟩ := hq.pu; clear hq
  have hgt := hE.text
  obtain ⟨A, c, rfl⟩ := slr_form hl hs.own
  have hmx : 0 ≤ maxLen := Nat.zero_le _
  rcases Option.eq_none_or_eq_some (runesL s.data.toList) with hx | ⟨x, hx⟩
  ·
    have hR : apR s l = .error (0, 3) := by unfold apR; rw [hx]
    replace hR := Lib.hid hR
    go_enter Tryd.func41, Tryd.ntmps41
    go_wp2_with (first
        | ((with_reducible apply pl_call hs (valid_s _ _ _)); ((((focus (simp only [zj, zk, zl, List.append_toArray, List.nil_append, List.cons_append, Act.eval, za, zb, zc, zd, ze, zf]; (try with_reducible rfl); done)); (focus ((repeat (first | (with_reducible (first | exact ent_refl | apply ent_puR)) | ((with_reducible apply ent_front); (focus with_reducible (repeat (first | exact ent_here | apply ent_next | exact ent_last)); done)) | (with_reducible (first | exact ent_keep | apply ent_trans ent_drop)) | (focus (first | ((repeat' (first | (with_reducible assumption) | (with_reducible apply And.intro) | omega)); done))))); done)); (focus (simp only [go_sem]))))); clear hs; (try clear w); intro v w hq; (obtain ⟨hv, hs⟩ := hq.pu; rw [hx] at hv; (try simp only [Option.isSome_some, Option.isSome_none] at hv); subst hv); clear hq; (try simp only [star_assoc, star_emp, emp_star] at hs); (try simp only [Act.put, zg, zh, zi]))
        | ((with_reducible apply pl_call hs (fnewR_s _ _ a _ _ _ 3)); ((((focus (simp only [zj, zk, zl, List.append_toArray, List.nil_append, List.cons_append, Act.eval, za, zb, zc, zd, ze, zf]; (try with_reducible rfl); done)); (focus ((repeat (first | (with_reducible (first | exact ent_refl | apply ent_puR)) | ((with_reducible apply ent_front); (focus with_reducible (repeat (first | exact ent_here | apply ent_next | exact ent_last)); done)) | (with_reducible (first | exact ent_keep | apply ent_trans ent_drop)) | (focus (first | ((repeat' (first | (with_reducible apply And.intro) | omega)); done))))); done)); (focus (simp only [go_sem]))))); clear hs; (try clear w); intro v w hq; (have hs := hq); clear hq; (try simp only [star_assoc, star_emp, emp_star] at hs); (try simp only [Act.put, zg, zh, zi]))
        | ((with_reducible apply pl_load1 hs); (focus (simp only [Act.eval, za, zb, zc, zd, ze, zf]; (try with_reducible rfl); done)); (focus (simp only [go_sem])); (focus ((repeat (first | (with_reducible (first | assumption | exact hec _ | exact hec2 _ | exact hec3 _ | exact hec4 _ _)) | ((with_reducible apply readc_here); (focus (first | (simp only [zc, zd, ze, go_sem]; (try with_reducible rfl); done) | (go_simp; (try with_reducible rfl); done)))) | (with_reducible (first | (apply readc_left; assumption) | refine readc_exh (by assumption) ?_ | refine readc_exh0 (by assumption) ?_ | apply readc_next)))); done)); (focus rfl); simp only [Act.put, zg, zh, zi]))
    (go_ret2; simp only [za, zb, zc, zd, ze, zf])
    exact ⟨_, rfl, hs.mono (ent_trans (by ((repeat (first | (with_reducible (first | exact ent_refl | exact ent_emp)) | ((with_reducible apply ent_front); (focus with_reducible (repeat (first | exact ent_here | apply ent_next | exact ent_last)); done)) | (with_reducible (first | exact ent_keep | apply ent_trans ent_drop)))); done)) (apP0_no0 hR.out))⟩
  ·
    have hR : apR s l = apA 0 x [] (l.drop 0) := by unfold apR; rw [hx]; rfl
    have hxl := runes_len hx
    have hxI := runes_in hx
    have hxm : x.length ≤ maxLen := by unfold maxLen; omega
    replace hR := Lib.hid hR
    replace hl2 := Lib.hid hl2
    generalize hn : l.length = n at *
    replace hn := Lib.hid hn
    go_enter Tryd.func41, Tryd.ntmps41
    go_wp2_with (first
        | ((with_reducible apply pl_call hs (valid_s _ _ _)); ((((focus (simp only [zj, zk, zl, List.append_toArray, List.nil_append, List.cons_append, Act.eval, za, zb, zc, zd, ze, zf]; (try with_reducible rfl); done)); (focus ((repeat (first | (with_reducible (first | exact ent_refl | apply ent_puR)) | ((with_reducible apply ent_front); (focus with_reducible (repeat (first | exact ent_here | apply ent_next | exact ent_last)); done)) | (with_reducible (first | exact ent_keep | apply ent_trans ent_drop)) | (focus (first | ((repeat' (first | (with_reducible assumption) | (with_reducible apply And.intro) | omega)); done))))); done)); (focus (simp only [go_sem]))))); clear hs; (try clear w); intro v w hq; (obtain ⟨hv, hs⟩ := hq.pu; rw [hx] at hv; (try simp only [Option.isSome_some, Option.isSome_none] at hv); subst hv); clear hq; (try simp only [star_assoc, star_emp, emp_star] at hs); (try simp only [Act.put, zg, zh, zi]))
        | ((with_reducible apply pl_cvSR hs); (first | (with_reducible exact rut_33_9)); (focus (simp only [Act.eval, za, zb, zc, zd, ze, zf]; (try with_reducible rfl); done)); (focus with_reducible assumption); (focus (first | (with_reducible assumption) | omega | (simp; done) | (simp; omega))); clear hs; (try clear w); intro g cq w hs; simp only [Act.put, zg, zh, zi]))
    go_loopw [10, 23] (fun tv iv wr => ∃ (k : Nat) (t : List Int) (B : List Ed), k ≤ n ∧ iv = .int .i64 k ∧ t.length ≤ 10000 + 10000 * k ∧ B.length = k ∧ (∀ c, c ∈ t → RuneI c) ∧ Hid (apR s l = apA k t B (l.drop k)) ∧ Sat c0 (row 21 1 runv tv t * (F)) wr) (fun _ iv _ => n - (intOf iv).toNat)
    case atStart => exact ⟨0, x, [], by omega, rfl, by omega, rfl, hxI, hR, hs⟩
    case round =>
      clear hs
      clear hR hxI hxl hx hxm
      obtain ⟨k, t, B, hk, rfl, htl, hBk, htI, hR, hs⟩ := hrel
      obtain ⟨Ar, cr, rfl, hr1, hr2⟩ := row_slice hs.own
      by_cases hkn : k < n
      · have hkI : (k : Int) < n := by omega
        obtain ⟨bl, ol, d, rfl, hd, hrd⟩ := slr_get hl ((hs.mono ent_drop).own) hkn
        have hd10 := hl2.out d (List.mem_of_getElem? hd)
        by_cases hrg : d.at_ < 0 ∨ (t.length : Int) < d.at_ ∨ d.er < 0 ∨ (t.length : Int) - d.at_ < d.er
        ·
          have hR2 := apR_no hR.out hd (asE_range hrg)
          replace hR2 := Lib.hid hR2
          replace hR := Lib.hid hR
          replace hd := Lib.hid hd
          generalize htm : t.length = m at *
          replace htm := Lib.hid htm
          clear hl2 hd10
          obtain ⟨da, de, di⟩ := d
          dsimp only at hrg hrd
          rcases (show da < 0 ∨ (0 ≤ da ∧ (m : Int) < da) ∨ (0 ≤ da ∧ da ≤ (m : Int) ∧ de < 0) ∨ (0 ≤ da ∧ da ≤ (m : Int) ∧ 0 ≤ de ∧ (m : Int) - da < de) by omega) with e1 | ⟨e1, e2⟩ | ⟨e1, e2, e3⟩ | ⟨e1, e2, e3, e4⟩
          all_goals clear hrg
          all_goals go_wp2_with (first
        | ((with_reducible rewrite [pl_strike_eq]); rotate_left 1; (focus rfl))
        | ((with_reducible rewrite [pl_skip_eq]); rotate_left 1; (focus rfl); simp only [Act.put, zg, zh, zi])
        | ((with_reducible apply pl_guard_f); (focus rfl); (focus rfl); all_goals (intro hb; first | (cases hb; done) | ((try simp at hb); first | contradiction | ((have hF : False := (by omega)); (cases hF; done)) | (simp only [Act.put, zg, zh, zi]))))
        | ((with_reducible apply pl_call hs (fnewR_s _ _ a _ _ _ 2)); ((((focus (simp only [zj, zk, zl, List.append_toArray, List.nil_append, List.cons_append, Act.eval, za, zb, zc, zd, ze, zf]; (try with_reducible rfl); done)); (focus ((repeat (first | (with_reducible (first | exact ent_refl | apply ent_puR)) | ((with_reducible apply ent_front); (focus with_reducible (repeat (first | exact ent_here | apply ent_next | exact ent_last)); done)) | (with_reducible (first | exact ent_keep | apply ent_trans ent_drop)) | (focus (first | ((repeat' (first | (with_reducible apply And.intro) | omega)); done))))); done)); (focus (simp only [go_sem]))))); clear hs; (try clear w); intro v w hq; (have hs := hq); clear hq; (try simp only [star_assoc, star_emp, emp_star] at hs); (try simp only [Act.put, zg, zh, zi]))
        | ((with_reducible apply pl_loadN hs); (focus (simp only [Act.eval, za, zb, zc, zd, ze, zf]; (try with_reducible rfl); done)); (with_reducible (first | exact agg_44)); (focus ((repeat (first | (with_reducible (first | assumption | exact hel _ | exact hel2 _ | exact hel3 _)) | ((with_reducible apply reads_whole); (focus (first | (with_reducible rfl) | (simp only [go_sem]; done) | (simp; done)))) | ((with_reducible apply reads_part); (focus (first | (simp [go_sem]; done) | (simp only [go_sem]; omega) | go_size)); (focus (first | (simp only [Nat.reduceAdd, Nat.zero_add, go_sem]; (try with_reducible rfl); done) | (simp [go_sem]; (try with_reducible rfl); done)))) | (with_reducible (first | (apply reads_left; assumption) | refine reads_exh (by assumption) ?_ | refine reads_exh0 (by assumption) ?_ | apply reads_next)))); done)); (focus rfl); simp only [Act.put, zg, zh, zi])
        | ((with_reducible apply pl_load1 hs); (focus (simp only [Act.eval, za, zb, zc, zd, ze, zf]; (try with_reducible rfl); done)); (focus (simp only [go_sem])); (focus ((repeat (first | (with_reducible (first | assumption | exact hec _ | exact hec2 _ | exact hec3 _ | exact hec4 _ _)) | ((with_reducible apply readc_here); (focus (first | (simp only [zc, zd, ze, go_sem]; (try with_reducible rfl); done) | (go_simp; (try with_reducible rfl); done)))) | (with_reducible (first | (apply readc_left; assumption) | refine readc_exh (by assumption) ?_ | refine readc_exh0 (by assumption) ?_ | apply readc_next)))); done)); (focus rfl); simp only [Act.put, zg, zh, zi])
        | ((with_reducible apply pl_alloc hs); (with_reducible (first | exact zero_44)); clear hs; (try clear w); intro g w hs; skip; simp only [Act.put, zg, zh, zi])
        | ((with_reducible apply pl_storeN hs); (focus (simp only [Act.eval, za, zb, zc, zd, ze, zf]; (try with_reducible rfl); done)); (focus (simp only [Act.eval, za, zb, zc, zd, ze, zf]; (try with_reducible rfl); done)); (with_reducible (first | exact agg_44)); (focus with_reducible (repeat (first | exact ent_here | apply ent_next | exact ent_last)); done); (focus (first | (with_reducible rfl) | (simp only [go_sem]; done) | (simp; done))); (focus (first | (simp [go_sem]; done) | (simp only [go_sem]; omega) | go_size)); (focus (first | (simp only [go_sem]; done) | (simp [go_sem]; done))); (focus (first | ((with_reducible apply splice_whole); (focus (first | (with_reducible rfl) | (simp only [go_sem]; done) | (simp; done)))) | (simp [splice, go_sem]; done) | (simp only [go_sem]; (try with_reducible rfl); done))); clear hs; (try clear w); intro w hs; (try simp only [zg, zh, zi, edt_s0, edt_s1, edt_s2, txt_s0, txt_s1, txt_s2, txt_s3, lnk_s0, lnk_s1, lnk_s2, nov_s0, nov_s1, nov_s2, intv_set, bytv_set, runv_set, slv_set] at hs); simp only [Act.put, zg, zh, zi]))
          all_goals (go_ret2; simp only [za, zb, zc, zd, ze, zf])
          all_goals exact ⟨_, rfl, hs.mono (ent_trans (by ((repeat (first | (with_reducible (first | exact ent_refl | exact ent_emp)) | ((with_reducible apply ent_front); (focus with_reducible (repeat (first | exact ent_here | apply ent_next | exact ent_last)); done)) | (with_reducible (first | exact ent_keep | apply ent_trans ent_drop)))); done)) (apP0_no hR2.out))⟩
        · have hq1 : 0 ≤ d.at_ := by omega
          have hq2 : d.at_ ≤ (t.length : Int) := by omega
          have hq3 : 0 ≤ d.er := by omega
          have hq4 : d.er ≤ (t.length : Int) - d.at_ := by omega
          obtain ⟨da, de, di⟩ := d
          dsimp only at hq1 hq2 hq3 hq4 hd10 hrg
          obtain ⟨p, rfl⟩ := Int.eq_ofNat_of_zero_le hq1
          obtain ⟨q, rfl⟩ := Int.eq_ofNat_of_zero_le hq3
          rcases Option.eq_none_or_eq_some (runesL di.data.toList) with hy | ⟨y, hy⟩
          ·
            have hR2 := apR_no hR.out hd (asE_text hrg hy)
            replace hR2 := Lib.hid hR2
            replace hR := Lib.hid hR
            replace hd := Lib.hid hd
            clear hrg
            generalize htm : t.length = m at *
            replace htm := Lib.hid htm
            go_wp2_with (first
        | ((with_reducible rewrite [pl_strike_eq]); rotate_left 1; (focus rfl))
        | ((with_reducible apply pl_guard_f); (focus rfl); (focus rfl); all_goals (intro hb; first | (cases hb; done) | ((try simp at hb); first | contradiction | ((have hF : False := (by omega)); (cases hF; done)) | (simp only [Act.put, zg, zh, zi]))))
        | ((with_reducible apply pl_call hs (valid_s _ _ _)); ((((focus (simp only [zj, zk, zl, List.append_toArray, List.nil_append, List.cons_append, Act.eval, za, zb, zc, zd, ze, zf]; (try with_reducible rfl); done)); (focus ((repeat (first | (with_reducible (first | exact ent_refl | apply ent_puR)) | ((with_reducible apply ent_front); (focus with_reducible (repeat (first | exact ent_here | apply ent_next | exact ent_last)); done)) | (with_reducible (first | exact ent_keep | apply ent_trans ent_drop)) | (focus (first | ((repeat' (first | (with_reducible apply And.intro) | omega | (focus (with_reducible (repeat (first | assumption | (apply TabF.left; assumption) | refine TabF.exh (by assumption) ?_ | refine TabF.exh0 (by assumption) ?_ | exact (tblF_of (by assumption)) | apply TabF.next)); done)))); done))))); done)); (focus (simp only [go_sem]))))); clear hs; (try clear w); intro v w hq; (obtain ⟨hv, hs⟩ := hq.pu; rw [hy] at hv; (try simp only [Option.isSome_some, Option.isSome_none] at hv); subst hv); clear hq; (try simp only [star_assoc, star_emp, emp_star] at hs); (try simp only [Act.put, zg, zh, zi]))
        | ((with_reducible apply pl_call hs (fnewR_s _ _ a _ _ _ 3)); ((((focus (simp only [zj, zk, zl, List.append_toArray, List.nil_append, List.cons_append, Act.eval, za, zb, zc, zd, ze, zf]; (try with_reducible rfl); done)); (focus ((repeat (first | (with_reducible (first | exact ent_refl | apply ent_puR)) | ((with_reducible apply ent_front); (focus with_reducible (repeat (first | exact ent_here | apply ent_next | exact ent_last)); done)) | (with_reducible (first | exact ent_keep | apply ent_trans ent_drop)) | (focus (first | ((repeat' (first | (with_reducible apply And.intro) | omega)); done))))); done)); (focus (simp only [go_sem]))))); clear hs; (try clear w); intro v w hq; (have hs := hq); clear hq; (try simp only [star_assoc, star_emp, emp_star] at hs); (try simp only [Act.put, zg, zh, zi]))
        | ((with_reducible apply pl_loadN hs); (focus (simp only [Act.eval, za, zb, zc, zd, ze, zf]; (try with_reducible rfl); done)); (with_reducible (first | exact agg_44)); (focus ((repeat (first | (with_reducible (first | assumption | exact hel _ | exact hel2 _ | exact hel3 _)) | ((with_reducible apply reads_whole); (focus (first | (with_reducible rfl) | (simp only [go_sem]; done) | (simp; done)))) | ((with_reducible apply reads_part); (focus (first | (simp [go_sem]; done) | (simp only [go_sem]; omega) | go_size)); (focus (first | (simp only [Nat.reduceAdd, Nat.zero_add, go_sem]; (try with_reducible rfl); done) | (simp [go_sem]; (try with_reducible rfl); done)))) | (with_reducible (first | (apply reads_left; assumption) | refine reads_exh (by assumption) ?_ | refine reads_exh0 (by assumption) ?_ | apply reads_next)))); done)); (focus rfl); simp only [Act.put, zg, zh, zi])
        | ((with_reducible apply pl_load1 hs); (focus (simp only [Act.eval, za, zb, zc, zd, ze, zf]; (try with_reducible rfl); done)); (focus (simp only [go_sem])); (focus ((repeat (first | (with_reducible (first | assumption | exact hec _ | exact hec2 _ | exact hec3 _ | exact hec4 _ _)) | ((with_reducible apply readc_here); (focus (first | (simp only [zc, zd, ze, go_sem]; (try with_reducible rfl); done) | (go_simp; (try with_reducible rfl); done)))) | (with_reducible (first | (apply readc_left; assumption) | refine readc_exh (by assumption) ?_ | refine readc_exh0 (by assumption) ?_ | apply readc_next)))); done)); (focus rfl); simp only [Act.put, zg, zh, zi])
        | ((with_reducible apply pl_alloc hs); (with_reducible (first | exact zero_44)); clear hs; (try clear w); intro g w hs; skip; simp only [Act.put, zg, zh, zi])
        | ((with_reducible apply pl_storeN hs); (focus (simp only [Act.eval, za, zb, zc, zd, ze, zf]; (try with_reducible rfl); done)); (focus (simp only [Act.eval, za, zb, zc, zd, ze, zf]; (try with_reducible rfl); done)); (with_reducible (first | exact agg_44)); (focus with_reducible (repeat (first | exact ent_here | apply ent_next | exact ent_last)); done); (focus (first | (with_reducible rfl) | (simp only [go_sem]; done) | (simp; done))); (focus (first | (simp [go_sem]; done) | (simp only [go_sem]; omega) | go_size)); (focus (first | (simp only [go_sem]; done) | (simp [go_sem]; done))); (focus (first | ((with_reducible apply splice_whole); (focus (first | (with_reducible rfl) | (simp only [go_sem]; done) | (simp; done)))) | (simp [splice, go_sem]; done) | (simp only [go_sem]; (try with_reducible rfl); done))); clear hs; (try clear w); intro w hs; (try simp only [zg, zh, zi, edt_s0, edt_s1, edt_s2, txt_s0, txt_s1, txt_s2, txt_s3, lnk_s0, lnk_s1, lnk_s2, nov_s0, nov_s1, nov_s2, intv_set, bytv_set, runv_set, slv_set] at hs); simp only [Act.put, zg, zh, zi]))
            (go_ret2; simp only [za, zb, zc, zd, ze, zf])
            exact ⟨_, rfl, hs.mono (ent_trans (by ((repeat (first | (with_reducible (first | exact ent_refl | exact ent_emp)) | ((with_reducible apply ent_front); (focus with_reducible (repeat (first | exact ent_here | apply ent_next | exact ent_last)); done)) | (with_reducible (first | exact ent_keep | apply ent_trans ent_drop)))); done)) (apP0_no hR2.out))⟩
          ·
            have hR2 := apR_yes hR.out hd (asE_ok hrg hy)
            simp only [Int.toNat_natCast] at hR2
            have hyl := runes_len hy
            have hyI := runes_in hy
            have hok : okE t ⟨p, q, y⟩ := ⟨by simp only; omega, by simp only; omega⟩
            have hlen := ap1_len hok
            have hin := ap1_in (t := t) (d := ⟨p, q, y⟩) htI hyI
            have hp1 : p + q ≤ t.length := by omega
            have hpc : p + q ≤ cr := by omega
            have hp2 : p ≤ cr := by omega
            have hslA : ∀ R, SlR (row 21 1 runv (.slice Ar t.length cr) t * R) 1 runv (.slice (ctA Ar p cr 1) q (cr - p)) ((t.drop p).take q) := fun R => slr_cut (slr_row runv_size) p q hp1
            have hslB : ∀ R, SlR (row 21 1 runv (.slice Ar t.length cr) t * R) 1 runv (.slice (ctA Ar 0 cr 1) p cr) (t.take p) := fun R => slr_cut0 (slr_row runv_size) p (by omega)
            have hslC : ∀ R, SlR (row 21 1 runv (.slice Ar t.length cr) t * R) 1 runv (.slice (ctA Ar (p + q) cr 1) (t.length - (p + q)) (cr - (p + q))) (t.drop (p + q)) := fun R => slr_cutE (slr_row runv_size) (p + q) hp1
            have hcon : ∀ F g A2 c2, Spec Tryd.prog c0 59 #[.slice (some ⟨g, 0, none⟩) 3 3] (pu (SlR F 1 slv (.slice (some ⟨g, 0, none⟩) 3 3) [⟨ctA Ar 0 cr 1, p, cr⟩, ⟨A2, y.length, c2⟩, ⟨ctA Ar (p + q) cr 1, t.length - (p + q), cr - (p + q)⟩] ∧ SlR F 1 runv (.slice (ctA Ar 0 cr 1) p cr) (t.take p) ∧ SlR F 1 runv (.slice A2 y.length c2) y ∧ SlR F 1 runv (.slice (ctA Ar (p + q) cr 1) (t.length - (p + q)) (cr - (p + q))) (t.drop (p + q))) F) (fun r => row 21 1 runv r (ap1 t ⟨p, q, y⟩) * F) := fun F g A2 c2 w hs => by
              obtain ⟨⟨h1, h2, h3, h4⟩, hs⟩ := hs.pu
              exact concat3_s c0 F _ _ _ _ _ _ _ w (hs.mono (ent_pu ⟨h1, h2, h3, h4, by show (t.take p).length + y.length + (t.drop (p + q)).length ≤ 100000000; rw [List.length_take, List.length_drop]; omega⟩ ent_refl))
            have hlen2 : (ap1 t ⟨p, q, y⟩).length ≤ 10000 + 10000 * (k + 1) := by simp only at hlen; omega
            have hym : y.length ≤ maxLen := by unfold maxLen; omega
            have htell : ∀ F, Spec Tryd.prog c0 42 #[.agg (edt ⟨p, q, di⟩), .slice (ctA Ar p cr 1) q (cr - p)] F (fun _ => F) := fun F => tell0_s c0 F _ _
            replace hR2 := Lib.hid hR2
            replace hR := Lib.hid hR
            replace hd := Lib.hid hd
            clear hrg hlen hok
            replace hin := Lib.hid hin
            replace hlen2 := Lib.hid hlen2
            replace htI := Lib.hid htI
            replace hyI := Lib.hid hyI
            generalize htm : t.length = m at *
            replace htm := Lib.hid htm
            have hsl := hslA
            have hsl2 := hslC
            go_wp2_with (first
        | ((with_reducible rewrite [pl_strike_eq]); rotate_left 1; (focus rfl))
        | ((with_reducible apply wp_region_sl (G := emp) (id := 11) hs 1000); (focus (exact ent_emp_l)); (focus kernel_rfl); (focus decide +kernel); clear hs; (try clear w); intro hR w hRR hs; (try simp only [star_assoc] at hs))
        | ((with_reducible apply wp_region_sl (G := emp) (id := 12) hs 1000); (focus (exact ent_emp_l)); (focus kernel_rfl); (focus decide +kernel); clear hs; (try clear w); intro hR w hRR hs; (try simp only [star_assoc] at hs))
        | ((with_reducible apply pl_guard_f); (focus rfl); (focus rfl); all_goals (intro hb; first | (cases hb; done) | ((try simp at hb); first | contradiction | ((have hF : False := (by omega)); (cases hF; done)) | (simp only [Act.put, zg, zh, zi]))))
        | ((with_reducible apply pl_call hs (valid_s _ _ _)); ((((focus (simp only [zj, zk, zl, List.append_toArray, List.nil_append, List.cons_append, Act.eval, za, zb, zc, zd, ze, zf]; (try with_reducible rfl); done)); (focus ((repeat (first | (with_reducible (first | exact ent_refl | apply ent_puR)) | ((with_reducible apply ent_front); (focus with_reducible (repeat (first | exact ent_here | apply ent_next | exact ent_last)); done)) | (with_reducible (first | exact ent_keep | apply ent_trans ent_drop)) | (focus (first | ((repeat' (first | (with_reducible apply And.intro) | omega | (focus (with_reducible (repeat (first | assumption | (apply TabF.left; assumption) | refine TabF.exh (by assumption) ?_ | refine TabF.exh0 (by assumption) ?_ | exact (tblF_of (by assumption)) | apply TabF.next)); done)))); done))))); done)); (focus (simp only [go_sem]))))); clear hs; (try clear w); intro v w hq; (obtain ⟨hv, hs⟩ := hq.pu; rw [hy] at hv; (try simp only [Option.isSome_some, Option.isSome_none] at hv); subst hv); clear hq; (try simp only [star_assoc, star_emp, emp_star] at hs); (try simp only [Act.put, zg, zh, zi]))
        | ((with_reducible apply mx_callv hs (htell _)); (focus (simp only [Act.eval, za, zb, zc, zd, ze, zf]; (try with_reducible rfl); done)); ((((focus (simp only [zj, zk, zl, List.append_toArray, List.nil_append, List.cons_append, Act.eval, za, zb, zc, zd, ze, zf]; (try with_reducible rfl); done)); (focus ((repeat (first | (with_reducible (first | exact ent_refl | apply ent_puR)) | ((with_reducible apply ent_front); (focus with_reducible (repeat (first | exact ent_here | apply ent_next | exact ent_last)); done)) | (with_reducible (first | exact ent_keep | apply ent_trans ent_drop)) | (fail))); done)); (focus (simp only [go_sem])); (focus (intros; with_reducible (refine in_of_sat (by assumption) ?_; repeat (first | exact ent_exh_here | exact ent_last | refine ent_pu_l (fun _ => ?_) | refine ent_ex_l (fun _ => ?_) | apply ent_exh_next)); done))))); clear hs; (try clear w); intro v w hq; (have hs := hq; clear hsl; have hsl := hslB); clear hq; (try simp only [star_assoc, star_emp, emp_star] at hs); (try simp only [Act.put, zg, zh, zi]))
        | ((with_reducible apply mx_call hs (hcon _ _ _ _)); ((((focus (simp only [zj, zk, zl, List.append_toArray, List.nil_append, List.cons_append, Act.eval, za, zb, zc, zd, ze, zf]; (try with_reducible rfl); done)); (focus ((repeat (first | (with_reducible (first | exact ent_refl | apply ent_puR)) | ((with_reducible apply ent_front); (focus with_reducible (repeat (first | exact ent_here | apply ent_next | exact ent_last)); done)) | (with_reducible (first | exact ent_keep | apply ent_trans ent_drop)) | (focus (first | ((repeat' (first | (with_reducible apply And.intro) | (focus (first | ((repeat (first | (with_reducible (first | assumption | exact slr_ro |  exact hsl _ | exact hsl2 _ | exact hsl3 _ _ _ | exact slr_nil | exact slr_row (fun _ => by simp only [go_sem]) | exact slr_one (fun _ => by simp only [go_sem]) | (apply slr_left; assumption))) | (with_reducible apply slr_next))); done) | ((repeat (first | (with_reducible (first | assumption | exact slr_ro |  exact hsl _ | exact hsl2 _ | exact hsl3 _ _ _ | exact slr_nil | exact slr_row (fun _ => by simp only [go_sem]) | exact slr_one (fun _ => by simp only [go_sem]) | (apply slr_left; assumption))) | (with_reducible (first | (apply slr_exh; focus assumption) | (apply slr_exh0; focus assumption) | apply slr_next)))); done))))); done))))); done)); (focus (simp only [go_sem])); (focus (intros; with_reducible (refine in_of_sat (by assumption) ?_; repeat (first | exact ent_exh_here | exact ent_last | refine ent_pu_l (fun _ => ?_) | refine ent_ex_l (fun _ => ?_) | apply ent_exh_next)); done))))); clear hs; (try clear w); intro v w hq; (have hs := hq); clear hq; (try simp only [star_assoc, star_emp, emp_star] at hs); (try simp only [Act.put, zg, zh, zi]))
        | (((with_reducible apply mx_cvSR hs); (focus rfl); (first | (with_reducible exact rut_33_9)); (focus (simp only [Act.eval, za, zb, zc, zd, ze, zf]; (try with_reducible rfl); done)); (focus with_reducible assumption); (focus with_reducible assumption); (focus (intros; with_reducible (refine in_of_sat (by assumption) ?_; repeat (first | exact ent_exh_here | exact ent_last | refine ent_pu_l (fun _ => ?_) | refine ent_ex_l (fun _ => ?_) | apply ent_exh_next)); done)); clear hs; (try clear w); intro gy cy w hs; simp only [Act.put, zg, zh, zi]))
        | (((with_reducible apply mx_bsL (enc := slv) (s := 1) (E := 33) ([⟨ctA Ar 0 cr 1, p, cr⟩, ⟨some ⟨gy, 0, none⟩, y.length, cy⟩, ⟨ctA Ar (p + q) cr 1, m - (p + q), cr - (p + q)⟩] : List SlD) hs); (focus (intro w; go_simp; (try rfl); done)); (focus rfl); (focus rfl); (focus rfl); (focus (simp only [maxLen]; omega)); (focus (intros; with_reducible (refine in_of_sat (by assumption) ?_; repeat (first | exact ent_exh_here | exact ent_last | refine ent_pu_l (fun _ => ?_) | refine ent_ex_l (fun _ => ?_) | apply ent_exh_next)); done)); clear hs; (try clear w); intro g w hs; simp only [Act.put, zg, zh, zi]))
        | ((with_reducible apply pl_loadN hs); (focus (simp only [Act.eval, za, zb, zc, zd, ze, zf]; (try with_reducible rfl); done)); (with_reducible (first | exact agg_44)); (focus ((repeat (first | (with_reducible (first | assumption | exact hel _ | exact hel2 _ | exact hel3 _)) | ((with_reducible apply reads_whole); (focus (first | (with_reducible rfl) | (simp only [go_sem]; done) | (simp; done)))) | ((with_reducible apply reads_part); (focus (first | (simp [go_sem]; done) | (simp only [go_sem]; omega) | go_size)); (focus (first | (simp only [Nat.reduceAdd, Nat.zero_add, go_sem]; (try with_reducible rfl); done) | (simp [go_sem]; (try with_reducible rfl); done)))) | (with_reducible (first | (apply reads_left; assumption) | refine reads_exh (by assumption) ?_ | refine reads_exh0 (by assumption) ?_ | apply reads_next)))); done)); (focus rfl); simp only [Act.put, zg, zh, zi])
        | ((with_reducible apply pl_load1 hs); (focus (simp only [Act.eval, za, zb, zc, zd, ze, zf]; (try with_reducible rfl); done)); (focus (simp only [go_sem])); (focus ((repeat (first | (with_reducible (first | assumption | exact hec _ | exact hec2 _ | exact hec3 _ | exact hec4 _ _)) | ((with_reducible apply readc_here); (focus (first | (simp only [zc, zd, ze, go_sem]; (try with_reducible rfl); done) | (go_simp; (try with_reducible rfl); done)))) | (with_reducible (first | (apply readc_left; assumption) | refine readc_exh (by assumption) ?_ | refine readc_exh0 (by assumption) ?_ | apply readc_next)))); done)); (focus rfl); simp only [Act.put, zg, zh, zi])
        | ((with_reducible apply pl_alloc hs); (with_reducible (first | exact zero_44)); clear hs; (try clear w); intro g w hs; skip; simp only [Act.put, zg, zh, zi])
        | ((with_reducible apply pl_storeN hs); (focus (simp only [Act.eval, za, zb, zc, zd, ze, zf]; (try with_reducible rfl); done)); (focus (simp only [Act.eval, za, zb, zc, zd, ze, zf]; (try with_reducible rfl); done)); (with_reducible (first | exact agg_44)); (focus with_reducible (repeat (first | exact ent_here | apply ent_next | exact ent_last)); done); (focus (first | (with_reducible rfl) | (simp only [go_sem]; done) | (simp; done))); (focus (first | (simp [go_sem]; done) | (simp only [go_sem]; omega) | go_size)); (focus (first | (simp only [go_sem]; done) | (simp [go_sem]; done))); (focus (first | ((with_reducible apply splice_whole); (focus (first | (with_reducible rfl) | (simp only [go_sem]; done) | (simp; done)))) | (simp [splice, go_sem]; done) | (simp only [go_sem]; (try with_reducible rfl); done))); clear hs; (try clear w); intro w hs; (try simp only [zg, zh, zi, edt_s0, edt_s1, edt_s2, txt_s0, txt_s1, txt_s2, txt_s3, lnk_s0, lnk_s1, lnk_s2, nov_s0, nov_s1, nov_s2, intv_set, bytv_set, runv_set, slv_set] at hs); simp only [Act.put, zg, zh, zi])
        | ((with_reducible apply mix_end hRR hs); (focus with_reducible (repeat (first | exact ent_here | apply ent_next | exact ent_last)); done); clear hs; (try clear w); intro w hs; (try simp only [star_assoc, star_emp, emp_star] at hs); clear hRR hR)
        | ((with_reducible apply mx_loadN hRR); (focus (simp only [Act.eval, za, zb, zc, zd, ze, zf]; (try with_reducible rfl); done)); (with_reducible (first | exact agg_44)); (focus ((repeat (first | (with_reducible (first | assumption | exact hel _ | exact hel2 _ | exact hel3 _)) | ((with_reducible apply reads_whole); (focus (first | (with_reducible rfl) | (simp only [go_sem]; done) | (simp; done)))) | ((with_reducible apply reads_part); (focus (first | (simp [go_sem]; done) | (simp only [go_sem]; omega) | go_size)); (focus (first | (simp only [Nat.reduceAdd, Nat.zero_add, go_sem]; (try with_reducible rfl); done) | (simp [go_sem]; (try with_reducible rfl); done)))) | (with_reducible (first | (apply reads_left; assumption) | refine reads_exh (by assumption) ?_ | refine reads_exh0 (by assumption) ?_ | apply reads_next)))); done)); simp only [Act.put, zg, zh, zi])
        | ((with_reducible apply mx_load1 hRR); (focus (simp only [Act.eval, za, zb, zc, zd, ze, zf]; (try with_reducible rfl); done)); (focus (simp only [go_sem])); (focus ((repeat (first | (with_reducible (first | assumption | exact hec _ | exact hec2 _ | exact hec3 _ | exact hec4 _ _)) | ((with_reducible apply readc_here); (focus (first | (simp only [zc, zd, ze, go_sem]; (try with_reducible rfl); done) | (go_simp; (try with_reducible rfl); done)))) | (with_reducible (first | (apply readc_left; assumption) | refine readc_exh (by assumption) ?_ | refine readc_exh0 (by assumption) ?_ | apply readc_next)))); done)); simp only [Act.put, zg, zh, zi])
        | ((with_reducible refine mix_float ?_ ?_ ?_ (fun h hk => ?_) ?_); rotate_left 1; (focus rfl); (focus rfl); (focus (go_simp; (try (rw [if_pos (by omega)]; (try go_simp))); (try simp (disch := omega) only [IntWalk.i64_in, IntWalk.i32_in]); (try with_reducible rfl); done)); simp only [Act.put, zg, zh, zi]))
            exact ⟨⟨k + 1, ap1 t ⟨p, q, y⟩, bk1 t ⟨p, q, y⟩ :: B, by omega, congrArg (Value.int .i64) (by omega), hlen2.out, by simp [hBk], hin.out, hR2, hs.mono (by ((repeat (first | (with_reducible (first | exact ent_refl | exact ent_emp)) | ((with_reducible apply ent_front); (focus with_reducible (repeat (first | exact ent_here | apply ent_next | exact ent_last)); done)) | (with_reducible (first | exact ent_keep | apply ent_trans ent_drop)))); done))⟩, by simp only [intOf]; omega⟩
      · obtain rfl : k = n := by omega
        have hkI : ¬ ((k : Int) < k) := by omega
        have hR2 := apR_end hR.out (by have := hn.out; omega)
        replace hR2 := Lib.hid hR2
        go_wp2_with fail
        (go_ret2; simp only [za, zb, zc, zd, ze, zf])
        exact ⟨_, rfl, hs.mono (ent_trans (by ((repeat (first | (with_reducible (first | exact ent_refl | exact ent_emp)) | ((with_reducible apply ent_front); (focus with_reducible (repeat (first | exact ent_here | apply ent_next | exact ent_last)); done)) | (with_reducible (first | exact ent_keep | apply ent_trans ent_drop)))); done)) (apP0_ok hR2.out))⟩
set_option maxRecDepth 20000 in
set_option maxHeartbeats 8000000 in
theorem apply1_s (c0 : World) (F : HP) (a : Nat → Addr) (gl : Nat) (s : ByteArray) (lv : Value) (l : List EdtD) : Spec Tryd.prog c0 41 #[.string cIn, .string s, lv, .func (.func 43) #[] #[.pointer (some ⟨gl, 0, none⟩)]]
    (pu (ErrB F a ∧ ReadC F 2 0 (.iface 125 (.pointer (some (a 2)))) ∧ TabF F ∧ SlR F 3 edt lv l ∧ s.size ≤ 10000 ∧ l.length ≤ 300 ∧ outEdits l) (outP gl [] * F)) (ApP a cIn s l (outP gl) F) := by
  intro w hq; obtain ⟨⟨hE, hgr, hT, hl, hs1, hl1, hl2⟩, hs⟩ := hq.pu; clear hq
  have hgt := hE.text
  obtain ⟨A, c, rfl⟩ := slr_form hl (hs.mono ent_drop).own
  have hmx : 0 ≤ maxLen := Nat.zero_le _
  rcases Option.eq_none_or_eq_some (runesL s.data.toList) with hx | ⟨x, hx⟩
  ·
    have hR : apR s l = .error (0, 3) := by unfold apR; rw [hx]
    replace hR := Lib.hid hR
    go_enter Tryd.func41, Tryd.ntmps41
    go_wp2_with (first
        | ((with_reducible apply pl_call hs (valid_s _ _ _)); ((((focus (simp only [zj, zk, zl, List.append_toArray, List.nil_append, List.cons_append, Act.eval, za, zb, zc, zd, ze, zf]; (try with_reducible rfl); done)); (focus ((repeat (first | (with_reducible (first | exact ent_refl | apply ent_puR)) | ((with_reducible apply ent_front); (focus with_reducible (repeat (first | exact ent_here | apply ent_next | exact ent_last)); done)) | (with_reducible (first | exact ent_keep | apply ent_trans ent_drop)) | (focus (first | ((repeat' (first | (with_reducible apply And.intro) | omega | (focus (with_reducible (repeat (first | assumption | (apply TabF.left; assumption) | refine TabF.exh (by assumption) ?_ | refine TabF.exh0 (by assumption) ?_ | exact (tblF_of (by assumption)) | apply TabF.next)); done)))); done))))); done)); (focus (simp only [go_sem]))))); clear hs; (try clear w); intro v w hq; (obtain ⟨hv, hs⟩ := hq.pu; rw [hx] at hv; (try simp only [Option.isSome_some, Option.isSome_none] at hv); subst hv); clear hq; (try simp only [star_assoc, star_emp, emp_star] at hs); (try simp only [Act.put, zg, zh, zi]))
        | ((with_reducible apply pl_call hs (fnewR_s _ _ a _ _ _ 3)); ((((focus (simp only [zj, zk, zl, List.append_toArray, List.nil_append, List.cons_append, Act.eval, za, zb, zc, zd, ze, zf]; (try with_reducible rfl); done)); (focus ((repeat (first | (with_reducible (first | exact ent_refl | apply ent_puR)) | ((with_reducible apply ent_front); (focus with_reducible (repeat (first | exact ent_here | apply ent_next | exact ent_last)); done)) | (with_reducible (first | exact ent_keep | apply ent_trans ent_drop)) | (focus (first | ((repeat' (first | (with_reducible apply And.intro) | omega)); done))))); done)); (focus (simp only [go_sem]))))); clear hs; (try clear w); intro v w hq; (have hs := hq); clear hq; (try simp only [star_assoc, star_emp, emp_star] at hs); (try simp only [Act.put, zg, zh, zi]))
        | ((with_reducible apply pl_load1 hs); (focus (simp only [Act.eval, za, zb, zc, zd, ze, zf]; (try with_reducible rfl); done)); (focus (simp only [go_sem])); (focus ((repeat (first | (with_reducible (first | assumption | exact hec _ | exact hec2 _ | exact hec3 _ | exact hec4 _ _)) | ((with_reducible apply readc_here); (focus (first | (simp only [zc, zd, ze, go_sem]; (try with_reducible rfl); done) | (go_simp; (try with_reducible rfl); done)))) | (with_reducible (first | (apply readc_left; assumption) | refine readc_exh (by assumption) ?_ | refine readc_exh0 (by assumption) ?_ | apply readc_next)))); done)); (focus rfl); simp only [Act.put, zg, zh, zi]))
    (go_ret2; simp only [za, zb, zc, zd, ze, zf])
    exact ⟨_, rfl, hs.mono (ent_trans (by ((repeat (first | (with_reducible (first | exact ent_refl | exact ent_emp)) | ((with_reducible apply ent_front); (focus with_reducible (repeat (first | exact ent_here | apply ent_next | exact ent_last)); done)) | (with_reducible (first | exact ent_keep | apply ent_trans ent_drop)))); done)) (apP_no0 hR.out))⟩
  ·
    have hR : apR s l = apA 0 x [] (l.drop 0) := by unfold apR; rw [hx]; rfl
    have hxl := runes_len hx
    have hxI := runes_in hx
    have hxm : x.length ≤ maxLen := by unfold maxLen; omega
    replace hR := Lib.hid hR
    replace hl2 := Lib.hid hl2
    generalize hn : l.length = n at *
    replace hn := Lib.hid hn
    go_enter Tryd.func41, Tryd.ntmps41
    go_wp2_with (first
        | ((with_reducible apply pl_call hs (valid_s _ _ _)); ((((focus (simp only [zj, zk, zl, List.append_toArray, List.nil_append, List.cons_append, Act.eval, za, zb, zc, zd, ze, zf]; (try with_reducible rfl); done)); (focus ((repeat (first | (with_reducible (first | exact ent_refl | apply ent_puR)) | ((with_reducible apply ent_front); (focus with_reducible (repeat (first | exact ent_here | apply ent_next | exact ent_last)); done)) | (with_reducible (first | exact ent_keep | apply ent_trans ent_drop)) | (focus (first | ((repeat' (first | (with_reducible apply And.intro) | omega | (focus (with_reducible (repeat (first | assumption | (apply TabF.left; assumption) | refine TabF.exh (by assumption) ?_ | refine TabF.exh0 (by assumption) ?_ | exact (tblF_of (by assumption)) | apply TabF.next)); done)))); done))))); done)); (focus (simp only [go_sem]))))); clear hs; (try clear w); intro v w hq; (obtain ⟨hv, hs⟩ := hq.pu; rw [hx] at hv; (try simp only [Option.isSome_some, Option.isSome_none] at hv); subst hv); clear hq; (try simp only [star_assoc, star_emp, emp_star] at hs); (try simp only [Act.put, zg, zh, zi]))
        | ((with_reducible apply pl_cvSR hs); (first | (with_reducible exact rut_33_9)); (focus (simp only [Act.eval, za, zb, zc, zd, ze, zf]; (try with_reducible rfl); done)); (focus with_reducible assumption); (focus (first | (with_reducible assumption) | omega | (simp; done) | (simp; omega))); clear hs; (try clear w); intro g cq w hs; simp only [Act.put, zg, zh, zi]))
    go_loopw [10, 23] (fun tv iv wr => ∃ (k : Nat) (t : List Int) (B : List Ed), k ≤ n ∧ iv = .int .i64 k ∧ t.length ≤ 10000 + 10000 * k ∧ B.length = k ∧ (∀ c, c ∈ t → RuneI c) ∧ Hid (apR s l = apA k t B (l.drop k)) ∧ Sat c0 (row 21 1 runv tv t * (outP gl B * F)) wr) (fun _ iv _ => n - (intOf iv).toNat)
    case atStart => exact ⟨0, x, [], by omega, rfl, by omega, rfl, hxI, hR, hs⟩
    case round =>
      clear hs
      clear hR hxI hxl hx hxm
      obtain ⟨k, t, B, hk, rfl, htl, hBk, htI, hR, hs⟩ := hrel
      obtain ⟨Ar, cr, rfl, hr1, hr2⟩ := row_slice hs.own
      by_cases hkn : k < n
      · have hkI : (k : Int) < n := by omega
        obtain ⟨bl, ol, d, rfl, hd, hrd⟩ := slr_get hl (((hs.mono ent_drop).mono ent_drop).own) hkn
        have hd10 := hl2.out d (List.mem_of_getElem? hd)
        by_cases hrg : d.at_ < 0 ∨ (t.length : Int) < d.at_ ∨ d.er < 0 ∨ (t.length : Int) - d.at_ < d.er
        ·
          have hR2 := apR_no hR.out hd (asE_range hrg)
          replace hR2 := Lib.hid hR2
          replace hR := Lib.hid hR
          replace hd := Lib.hid hd
          generalize htm : t.length = m at *
          replace htm := Lib.hid htm
          clear hl2 hd10
          obtain ⟨da, de, di⟩ := d
          dsimp only at hrg hrd
          rcases (show da < 0 ∨ (0 ≤ da ∧ (m : Int) < da) ∨ (0 ≤ da ∧ da ≤ (m : Int) ∧ de < 0) ∨ (0 ≤ da ∧ da ≤ (m : Int) ∧ 0 ≤ de ∧ (m : Int) - da < de) by omega) with e1 | ⟨e1, e2⟩ | ⟨e1, e2, e3⟩ | ⟨e1, e2, e3, e4⟩
          all_goals clear hrg
          all_goals go_wp2_with (first
        | ((with_reducible rewrite [pl_strike_eq]); rotate_left 1; (focus rfl))
        | ((with_reducible rewrite [pl_skip_eq]); rotate_left 1; (focus rfl); simp only [Act.put, zg, zh, zi])
        | ((with_reducible apply pl_guard_f); (focus rfl); (focus rfl); all_goals (intro hb; first | (cases hb; done) | ((try simp at hb); first | contradiction | ((have hF : False := (by omega)); (cases hF; done)) | (simp only [Act.put, zg, zh, zi]))))
        | ((with_reducible apply pl_call hs (fnewR_s _ _ a _ _ _ 2)); ((((focus (simp only [zj, zk, zl, List.append_toArray, List.nil_append, List.cons_append, Act.eval, za, zb, zc, zd, ze, zf]; (try with_reducible rfl); done)); (focus ((repeat (first | (with_reducible (first | exact ent_refl | apply ent_puR)) | ((with_reducible apply ent_front); (focus with_reducible (repeat (first | exact ent_here | apply ent_next | exact ent_last)); done)) | (with_reducible (first | exact ent_keep | apply ent_trans ent_drop)) | (focus (first | ((repeat' (first | (with_reducible apply And.intro) | omega)); done))))); done)); (focus (simp only [go_sem]))))); clear hs; (try clear w); intro v w hq; (have hs := hq); clear hq; (try simp only [star_assoc, star_emp, emp_star] at hs); (try simp only [Act.put, zg, zh, zi]))
        | ((with_reducible apply pl_loadN hs); (focus (simp only [Act.eval, za, zb, zc, zd, ze, zf]; (try with_reducible rfl); done)); (with_reducible (first | exact agg_44)); (focus ((repeat (first | (with_reducible (first | assumption | exact hel _ | exact hel2 _ | exact hel3 _)) | ((with_reducible apply reads_whole); (focus (first | (with_reducible rfl) | (simp only [go_sem]; done) | (simp; done)))) | ((with_reducible apply reads_part); (focus (first | (simp [go_sem]; done) | (simp only [go_sem]; omega) | go_size)); (focus (first | (simp only [Nat.reduceAdd, Nat.zero_add, go_sem]; (try with_reducible rfl); done) | (simp [go_sem]; (try with_reducible rfl); done)))) | (with_reducible (first | (apply reads_left; assumption) | refine reads_exh (by assumption) ?_ | refine reads_exh0 (by assumption) ?_ | apply reads_next)))); done)); (focus rfl); simp only [Act.put, zg, zh, zi])
        | ((with_reducible apply pl_load1 hs); (focus (simp only [Act.eval, za, zb, zc, zd, ze, zf]; (try with_reducible rfl); done)); (focus (simp only [go_sem])); (focus ((repeat (first | (with_reducible (first | assumption | exact hec _ | exact hec2 _ | exact hec3 _ | exact hec4 _ _)) | ((with_reducible apply readc_here); (focus (first | (simp only [zc, zd, ze, go_sem]; (try with_reducible rfl); done) | (go_simp; (try with_reducible rfl); done)))) | (with_reducible (first | (apply readc_left; assumption) | refine readc_exh (by assumption) ?_ | refine readc_exh0 (by assumption) ?_ | apply readc_next)))); done)); (focus rfl); simp only [Act.put, zg, zh, zi])
        | ((with_reducible apply pl_alloc hs); (with_reducible (first | exact zero_44)); clear hs; (try clear w); intro g w hs; skip; simp only [Act.put, zg, zh, zi])
        | ((with_reducible apply pl_storeN hs); (focus (simp only [Act.eval, za, zb, zc, zd, ze, zf]; (try with_reducible rfl); done)); (focus (simp only [Act.eval, za, zb, zc, zd, ze, zf]; (try with_reducible rfl); done)); (with_reducible (first | exact agg_44)); (focus with_reducible (repeat (first | exact ent_here | apply ent_next | exact ent_last)); done); (focus (first | (with_reducible rfl) | (simp only [go_sem]; done) | (simp; done))); (focus (first | (simp [go_sem]; done) | (simp only [go_sem]; omega) | go_size)); (focus (first | (simp only [go_sem]; done) | (simp [go_sem]; done))); (focus (first | ((with_reducible apply splice_whole); (focus (first | (with_reducible rfl) | (simp only [go_sem]; done) | (simp; done)))) | (simp [splice, go_sem]; done) | (simp only [go_sem]; (try with_reducible rfl); done))); clear hs; (try clear w); intro w hs; (try simp only [zg, zh, zi, edt_s0, edt_s1, edt_s2, txt_s0, txt_s1, txt_s2, txt_s3, lnk_s0, lnk_s1, lnk_s2, nov_s0, nov_s1, nov_s2, intv_set, bytv_set, runv_set, slv_set] at hs); simp only [Act.put, zg, zh, zi]))
          all_goals (go_ret2; simp only [za, zb, zc, zd, ze, zf])
          all_goals exact ⟨_, rfl, hs.mono (ent_trans (by ((repeat (first | (with_reducible (first | exact ent_refl | exact ent_emp)) | ((with_reducible apply ent_front); (focus with_reducible (repeat (first | exact ent_here | apply ent_next | exact ent_last)); done)) | (with_reducible (first | exact ent_keep | apply ent_trans ent_drop)))); done)) (apP_no hR2.out))⟩
        · have hq1 : 0 ≤ d.at_ := by omega
          have hq2 : d.at_ ≤ (t.length : Int) := by omega
          have hq3 : 0 ≤ d.er := by omega
          have hq4 : d.er ≤ (t.length : Int) - d.at_ := by omega
          obtain ⟨da, de, di⟩ := d
          dsimp only at hq1 hq2 hq3 hq4 hd10 hrg
          obtain ⟨p, rfl⟩ := Int.eq_ofNat_of_zero_le hq1
          obtain ⟨q, rfl⟩ := Int.eq_ofNat_of_zero_le hq3
          rcases Option.eq_none_or_eq_some (runesL di.data.toList) with hy | ⟨y, hy⟩
          ·
            have hR2 := apR_no hR.out hd (asE_text hrg hy)
            replace hR2 := Lib.hid hR2
            replace hR := Lib.hid hR
            replace hd := Lib.hid hd
            clear hrg
            generalize htm : t.length = m at *
            replace htm := Lib.hid htm
            go_wp2_with (first
        | ((with_reducible rewrite [pl_strike_eq]); rotate_left 1; (focus rfl))
        | ((with_reducible apply pl_guard_f); (focus rfl); (focus rfl); all_goals (intro hb; first | (cases hb; done) | ((try simp at hb); first | contradiction | ((have hF : False := (by omega)); (cases hF; done)) | (simp only [Act.put, zg, zh, zi]))))
        | ((with_reducible apply pl_call hs (valid_s _ _ _)); ((((focus (simp only [zj, zk, zl, List.append_toArray, List.nil_append, List.cons_append, Act.eval, za, zb, zc, zd, ze, zf]; (try with_reducible rfl); done)); (focus ((repeat (first | (with_reducible (first | exact ent_refl | apply ent_puR)) | ((with_reducible apply ent_front); (focus with_reducible (repeat (first | exact ent_here | apply ent_next | exact ent_last)); done)) | (with_reducible (first | exact ent_keep | apply ent_trans ent_drop)) | (focus (first | ((repeat' (first | (with_reducible apply And.intro) | omega | (focus (with_reducible (repeat (first | assumption | (apply TabF.left; assumption) | refine TabF.exh (by assumption) ?_ | refine TabF.exh0 (by assumption) ?_ | exact (tblF_of (by assumption)) | apply TabF.next)); done)))); done))))); done)); (focus (simp only [go_sem]))))); clear hs; (try clear w); intro v w hq; (obtain ⟨hv, hs⟩ := hq.pu; rw [hy] at hv; (try simp only [Option.isSome_some, Option.isSome_none] at hv); subst hv); clear hq; (try simp only [star_assoc, star_emp, emp_star] at hs); (try simp only [Act.put, zg, zh, zi]))
        | ((with_reducible apply pl_call hs (fnewR_s _ _ a _ _ _ 3)); ((((focus (simp only [zj, zk, zl, List.append_toArray, List.nil_append, List.cons_append, Act.eval, za, zb, zc, zd, ze, zf]; (try with_reducible rfl); done)); (focus ((repeat (first | (with_reducible (first | exact ent_refl | apply ent_puR)) | ((with_reducible apply ent_front); (focus with_reducible (repeat (first | exact ent_here | apply ent_next | exact ent_last)); done)) | (with_reducible (first | exact ent_keep | apply ent_trans ent_drop)) | (focus (first | ((repeat' (first | (with_reducible apply And.intro) | omega)); done))))); done)); (focus (simp only [go_sem]))))); clear hs; (try clear w); intro v w hq; (have hs := hq); clear hq; (try simp only [star_assoc, star_emp, emp_star] at hs); (try simp only [Act.put, zg, zh, zi]))
        | ((with_reducible apply pl_loadN hs); (focus (simp only [Act.eval, za, zb, zc, zd, ze, zf]; (try with_reducible rfl); done)); (with_reducible (first | exact agg_44)); (focus ((repeat (first | (with_reducible (first | assumption | exact hel _ | exact hel2 _ | exact hel3 _)) | ((with_reducible apply reads_whole); (focus (first | (with_reducible rfl) | (simp only [go_sem]; done) | (simp; done)))) | ((with_reducible apply reads_part); (focus (first | (simp [go_sem]; done) | (simp only [go_sem]; omega) | go_size)); (focus (first | (simp only [Nat.reduceAdd, Nat.zero_add, go_sem]; (try with_reducible rfl); done) | (simp [go_sem]; (try with_reducible rfl); done)))) | (with_reducible (first | (apply reads_left; assumption) | refine reads_exh (by assumption) ?_ | refine reads_exh0 (by assumption) ?_ | apply reads_next)))); done)); (focus rfl); simp only [Act.put, zg, zh, zi])
        | ((with_reducible apply pl_load1 hs); (focus (simp only [Act.eval, za, zb, zc, zd, ze, zf]; (try with_reducible rfl); done)); (focus (simp only [go_sem])); (focus ((repeat (first | (with_reducible (first | assumption | exact hec _ | exact hec2 _ | exact hec3 _ | exact hec4 _ _)) | ((with_reducible apply readc_here); (focus (first | (simp only [zc, zd, ze, go_sem]; (try with_reducible rfl); done) | (go_simp; (try with_reducible rfl); done)))) | (with_reducible (first | (apply readc_left; assumption) | refine readc_exh (by assumption) ?_ | refine readc_exh0 (by assumption) ?_ | apply readc_next)))); done)); (focus rfl); simp only [Act.put, zg, zh, zi])
        | ((with_reducible apply pl_alloc hs); (with_reducible (first | exact zero_44)); clear hs; (try clear w); intro g w hs; skip; simp only [Act.put, zg, zh, zi])
        | ((with_reducible apply pl_storeN hs); (focus (simp only [Act.eval, za, zb, zc, zd, ze, zf]; (try with_reducible rfl); done)); (focus (simp only [Act.eval, za, zb, zc, zd, ze, zf]; (try with_reducible rfl); done)); (with_reducible (first | exact agg_44)); (focus with_reducible (repeat (first | exact ent_here | apply ent_next | exact ent_last)); done); (focus (first | (with_reducible rfl) | (simp only [go_sem]; done) | (simp; done))); (focus (first | (simp [go_sem]; done) | (simp only [go_sem]; omega) | go_size)); (focus (first | (simp only [go_sem]; done) | (simp [go_sem]; done))); (focus (first | ((with_reducible apply splice_whole); (focus (first | (with_reducible rfl) | (simp only [go_sem]; done) | (simp; done)))) | (simp [splice, go_sem]; done) | (simp only [go_sem]; (try with_reducible rfl); done))); clear hs; (try clear w); intro w hs; (try simp only [zg, zh, zi, edt_s0, edt_s1, edt_s2, txt_s0, txt_s1, txt_s2, txt_s3, lnk_s0, lnk_s1, lnk_s2, nov_s0, nov_s1, nov_s2, intv_set, bytv_set, runv_set, slv_set] at hs); simp only [Act.put, zg, zh, zi]))
            (go_ret2; simp only [za, zb, zc, zd, ze, zf])
            exact ⟨_, rfl, hs.mono (ent_trans (by ((repeat (first | (with_reducible (first | exact ent_refl | exact ent_emp)) | ((with_reducible apply ent_front); (focus with_reducible (repeat (first | exact ent_here | apply ent_next | exact ent_last)); done)) | (with_reducible (first | exact ent_keep | apply ent_trans ent_drop)))); done)) (apP_no hR2.out))⟩
          ·
            have hR2 := apR_yes hR.out hd (asE_ok hrg hy)
            simp only [Int.toNat_natCast] at hR2
            have hyl := runes_len hy
            have hyI := runes_in hy
            have hok : okE t ⟨p, q, y⟩ := ⟨by simp only; omega, by simp only; omega⟩
            have hlen := ap1_len hok
            have hin := ap1_in (t := t) (d := ⟨p, q, y⟩) htI hyI
            have hp1 : p + q ≤ t.length := by omega
            have hpc : p + q ≤ cr := by omega
            have hp2 : p ≤ cr := by omega
            have hslA : ∀ R, SlR (row 21 1 runv (.slice Ar t.length cr) t * R) 1 runv (.slice (ctA Ar p cr 1) q (cr - p)) ((t.drop p).take q) := fun R => slr_cut (slr_row runv_size) p q hp1
            have hslB : ∀ R, SlR (row 21 1 runv (.slice Ar t.length cr) t * R) 1 runv (.slice (ctA Ar 0 cr 1) p cr) (t.take p) := fun R => slr_cut0 (slr_row runv_size) p (by omega)
            have hslC : ∀ R, SlR (row 21 1 runv (.slice Ar t.length cr) t * R) 1 runv (.slice (ctA Ar (p + q) cr 1) (t.length - (p + q)) (cr - (p + q))) (t.drop (p + q)) := fun R => slr_cutE (slr_row runv_size) (p + q) hp1
            have hcon : ∀ F g A2 c2, Spec Tryd.prog c0 59 #[.slice (some ⟨g, 0, none⟩) 3 3] (pu (SlR F 1 slv (.slice (some ⟨g, 0, none⟩) 3 3) [⟨ctA Ar 0 cr 1, p, cr⟩, ⟨A2, y.length, c2⟩, ⟨ctA Ar (p + q) cr 1, t.length - (p + q), cr - (p + q)⟩] ∧ SlR F 1 runv (.slice (ctA Ar 0 cr 1) p cr) (t.take p) ∧ SlR F 1 runv (.slice A2 y.length c2) y ∧ SlR F 1 runv (.slice (ctA Ar (p + q) cr 1) (t.length - (p + q)) (cr - (p + q))) (t.drop (p + q))) F) (fun r => row 21 1 runv r (ap1 t ⟨p, q, y⟩) * F) := fun F g A2 c2 w hs => by
              obtain ⟨⟨h1, h2, h3, h4⟩, hs⟩ := hs.pu
              exact concat3_s c0 F _ _ _ _ _ _ _ w (hs.mono (ent_pu ⟨h1, h2, h3, h4, by show (t.take p).length + y.length + (t.drop (p + q)).length ≤ 100000000; rw [List.length_take, List.length_drop]; omega⟩ ent_refl))
            have hlen2 : (ap1 t ⟨p, q, y⟩).length ≤ 10000 + 10000 * (k + 1) := by simp only at hlen; omega
            have hym : y.length ≤ maxLen := by unfold maxLen; omega
            have htell : ∀ F, Spec Tryd.prog c0 43 #[.agg (edt ⟨p, q, di⟩), .slice (ctA Ar p cr 1) q (cr - p), .pointer (some ⟨gl, 0, none⟩)] (pu (SlR F 1 runv (.slice (ctA Ar p cr 1) q (cr - p)) ((t.drop p).take q)) (outP gl B * F)) (fun _ => outP gl (bk1 t ⟨p, q, y⟩ :: B) * F) := fun F w hs => by
              obtain ⟨h1, hs⟩ := hs.pu
              exact tell1_s c0 F gl p q B di _ _ y w (hs.mono (ent_pu ⟨h1, hy, by omega, by omega⟩ ent_refl))
            replace hR2 := Lib.hid hR2
            replace hR := Lib.hid hR
            replace hd := Lib.hid hd
            clear hrg hlen hok
            replace hin := Lib.hid hin
            replace hlen2 := Lib.hid hlen2
            replace htI := Lib.hid htI
            replace hyI := Lib.hid hyI
            generalize htm : t.length = m at *
            replace htm := Lib.hid htm
            have hsl := hslA
            have hsl2 := hslC
            go_wp2_with (first
        | ((with_reducible rewrite [pl_strike_eq]); rotate_left 1; (focus rfl))
        | ((with_reducible apply wp_region_sl (G := (outP _ _)) (id := 11) hs 1000); (focus with_reducible (repeat (first | exact ent_here | apply ent_next | exact ent_last)); done); (focus kernel_rfl); (focus decide +kernel); clear hs; (try clear w); intro hR w hRR hs; (try simp only [star_assoc] at hs))
        | ((with_reducible apply wp_region_sl (G := emp) (id := 12) hs 1000); (focus (exact ent_emp_l)); (focus kernel_rfl); (focus decide +kernel); clear hs; (try clear w); intro hR w hRR hs; (try simp only [star_assoc] at hs))
        | ((with_reducible apply pl_guard_f); (focus rfl); (focus rfl); all_goals (intro hb; first | (cases hb; done) | ((try simp at hb); first | contradiction | ((have hF : False := (by omega)); (cases hF; done)) | (simp only [Act.put, zg, zh, zi]))))
        | ((with_reducible apply pl_call hs (valid_s _ _ _)); ((((focus (simp only [zj, zk, zl, List.append_toArray, List.nil_append, List.cons_append, Act.eval, za, zb, zc, zd, ze, zf]; (try with_reducible rfl); done)); (focus ((repeat (first | (with_reducible (first | exact ent_refl | apply ent_puR)) | ((with_reducible apply ent_front); (focus with_reducible (repeat (first | exact ent_here | apply ent_next | exact ent_last)); done)) | (with_reducible (first | exact ent_keep | apply ent_trans ent_drop)) | (focus (first | ((repeat' (first | (with_reducible apply And.intro) | omega | (focus (with_reducible (repeat (first | assumption | (apply TabF.left; assumption) | refine TabF.exh (by assumption) ?_ | refine TabF.exh0 (by assumption) ?_ | exact (tblF_of (by assumption)) | apply TabF.next)); done)))); done))))); done)); (focus (simp only [go_sem]))))); clear hs; (try clear w); intro v w hq; (obtain ⟨hv, hs⟩ := hq.pu; rw [hy] at hv; (try simp only [Option.isSome_some, Option.isSome_none] at hv); subst hv); clear hq; (try simp only [star_assoc, star_emp, emp_star] at hs); (try simp only [Act.put, zg, zh, zi]))
        | ((with_reducible apply mx_callv hs (htell _)); (focus (simp only [Act.eval, za, zb, zc, zd, ze, zf]; (try with_reducible rfl); done)); ((((focus (simp only [zj, zk, zl, List.append_toArray, List.nil_append, List.cons_append, Act.eval, za, zb, zc, zd, ze, zf]; (try with_reducible rfl); done)); (focus ((repeat (first | (with_reducible (first | exact ent_refl | apply ent_puR)) | ((with_reducible apply ent_front); (focus with_reducible (repeat (first | exact ent_here | apply ent_next | exact ent_last)); done)) | (with_reducible (first | exact ent_keep | apply ent_trans ent_drop)) | (focus (first | (focus (first | ((repeat (first | (with_reducible (first | assumption | exact slr_ro |  exact hsl _ | exact hsl2 _ | exact hsl3 _ _ _ | exact slr_nil | exact slr_row (fun _ => by simp only [go_sem]) | exact slr_one (fun _ => by simp only [go_sem]) | (apply slr_left; assumption))) | (with_reducible apply slr_next))); done) | ((repeat (first | (with_reducible (first | assumption | exact slr_ro |  exact hsl _ | exact hsl2 _ | exact hsl3 _ _ _ | exact slr_nil | exact slr_row (fun _ => by simp only [go_sem]) | exact slr_one (fun _ => by simp only [go_sem]) | (apply slr_left; assumption))) | (with_reducible (first | (apply slr_exh; focus assumption) | (apply slr_exh0; focus assumption) | apply slr_next)))); done))))))); done)); (focus (simp only [go_sem])); (focus (intros; with_reducible (refine in_of_sat (by assumption) ?_; repeat (first | exact ent_exh_here | exact ent_last | refine ent_pu_l (fun _ => ?_) | refine ent_ex_l (fun _ => ?_) | apply ent_exh_next)); done))))); clear hs; (try clear w); intro v w hq; (have hs := hq; clear hsl; have hsl := hslB); clear hq; (try simp only [star_assoc, star_emp, emp_star] at hs); (try simp only [Act.put, zg, zh, zi]))
        | ((with_reducible apply mx_call hs (hcon _ _ _ _)); ((((focus (simp only [zj, zk, zl, List.append_toArray, List.nil_append, List.cons_append, Act.eval, za, zb, zc, zd, ze, zf]; (try with_reducible rfl); done)); (focus ((repeat (first | (with_reducible (first | exact ent_refl | apply ent_puR)) | ((with_reducible apply ent_front); (focus with_reducible (repeat (first | exact ent_here | apply ent_next | exact ent_last)); done)) | (with_reducible (first | exact ent_keep | apply ent_trans ent_drop)) | (focus (first | ((repeat' (first | (with_reducible apply And.intro) | (focus (first | ((repeat (first | (with_reducible (first | assumption | exact slr_ro |  exact hsl _ | exact hsl2 _ | exact hsl3 _ _ _ | exact slr_nil | exact slr_row (fun _ => by simp only [go_sem]) | exact slr_one (fun _ => by simp only [go_sem]) | (apply slr_left; assumption))) | (with_reducible apply slr_next))); done) | ((repeat (first | (with_reducible (first | assumption | exact slr_ro |  exact hsl _ | exact hsl2 _ | exact hsl3 _ _ _ | exact slr_nil | exact slr_row (fun _ => by simp only [go_sem]) | exact slr_one (fun _ => by simp only [go_sem]) | (apply slr_left; assumption))) | (with_reducible (first | (apply slr_exh; focus assumption) | (apply slr_exh0; focus assumption) | apply slr_next)))); done))))); done))))); done)); (focus (simp only [go_sem])); (focus (intros; with_reducible (refine in_of_sat (by assumption) ?_; repeat (first | exact ent_exh_here | exact ent_last | refine ent_pu_l (fun _ => ?_) | refine ent_ex_l (fun _ => ?_) | apply ent_exh_next)); done))))); clear hs; (try clear w); intro v w hq; (have hs := hq); clear hq; (try simp only [star_assoc, star_emp, emp_star] at hs); (try simp only [Act.put, zg, zh, zi]))
        | (((with_reducible apply mx_cvSR hs); (focus rfl); (first | (with_reducible exact rut_33_9)); (focus (simp only [Act.eval, za, zb, zc, zd, ze, zf]; (try with_reducible rfl); done)); (focus with_reducible assumption); (focus with_reducible assumption); (focus (intros; with_reducible (refine in_of_sat (by assumption) ?_; repeat (first | exact ent_exh_here | exact ent_last | refine ent_pu_l (fun _ => ?_) | refine ent_ex_l (fun _ => ?_) | apply ent_exh_next)); done)); clear hs; (try clear w); intro gy cy w hs; simp only [Act.put, zg, zh, zi]))
        | (((with_reducible apply mx_bsL (enc := slv) (s := 1) (E := 33) ([⟨ctA Ar 0 cr 1, p, cr⟩, ⟨some ⟨gy, 0, none⟩, y.length, cy⟩, ⟨ctA Ar (p + q) cr 1, m - (p + q), cr - (p + q)⟩] : List SlD) hs); (focus (intro w; go_simp; (try rfl); done)); (focus rfl); (focus rfl); (focus rfl); (focus (simp only [maxLen]; omega)); (focus (intros; with_reducible (refine in_of_sat (by assumption) ?_; repeat (first | exact ent_exh_here | exact ent_last | refine ent_pu_l (fun _ => ?_) | refine ent_ex_l (fun _ => ?_) | apply ent_exh_next)); done)); clear hs; (try clear w); intro g w hs; simp only [Act.put, zg, zh, zi]))
        | ((with_reducible apply pl_loadN hs); (focus (simp only [Act.eval, za, zb, zc, zd, ze, zf]; (try with_reducible rfl); done)); (with_reducible (first | exact agg_44)); (focus ((repeat (first | (with_reducible (first | assumption | exact hel _ | exact hel2 _ | exact hel3 _)) | ((with_reducible apply reads_whole); (focus (first | (with_reducible rfl) | (simp only [go_sem]; done) | (simp; done)))) | ((with_reducible apply reads_part); (focus (first | (simp [go_sem]; done) | (simp only [go_sem]; omega) | go_size)); (focus (first | (simp only [Nat.reduceAdd, Nat.zero_add, go_sem]; (try with_reducible rfl); done) | (simp [go_sem]; (try with_reducible rfl); done)))) | (with_reducible (first | (apply reads_left; assumption) | refine reads_exh (by assumption) ?_ | refine reads_exh0 (by assumption) ?_ | apply reads_next)))); done)); (focus rfl); simp only [Act.put, zg, zh, zi])
        | ((with_reducible apply pl_load1 hs); (focus (simp only [Act.eval, za, zb, zc, zd, ze, zf]; (try with_reducible rfl); done)); (focus (simp only [go_sem])); (focus ((repeat (first | (with_reducible (first | assumption | exact hec _ | exact hec2 _ | exact hec3 _ | exact hec4 _ _)) | ((with_reducible apply readc_here); (focus (first | (simp only [zc, zd, ze, go_sem]; (try with_reducible rfl); done) | (go_simp; (try with_reducible rfl); done)))) | (with_reducible (first | (apply readc_left; assumption) | refine readc_exh (by assumption) ?_ | refine readc_exh0 (by assumption) ?_ | apply readc_next)))); done)); (focus rfl); simp only [Act.put, zg, zh, zi])
        | ((with_reducible apply pl_alloc hs); (with_reducible (first | exact zero_44)); clear hs; (try clear w); intro g w hs; skip; simp only [Act.put, zg, zh, zi])
        | ((with_reducible apply pl_storeN hs); (focus (simp only [Act.eval, za, zb, zc, zd, ze, zf]; (try with_reducible rfl); done)); (focus (simp only [Act.eval, za, zb, zc, zd, ze, zf]; (try with_reducible rfl); done)); (with_reducible (first | exact agg_44)); (focus with_reducible (repeat (first | exact ent_here | apply ent_next | exact ent_last)); done); (focus (first | (with_reducible rfl) | (simp only [go_sem]; done) | (simp; done))); (focus (first | (simp [go_sem]; done) | (simp only [go_sem]; omega) | go_size)); (focus (first | (simp only [go_sem]; done) | (simp [go_sem]; done))); (focus (first | ((with_reducible apply splice_whole); (focus (first | (with_reducible rfl) | (simp only [go_sem]; done) | (simp; done)))) | (simp [splice, go_sem]; done) | (simp only [go_sem]; (try with_reducible rfl); done))); clear hs; (try clear w); intro w hs; (try simp only [zg, zh, zi, edt_s0, edt_s1, edt_s2, txt_s0, txt_s1, txt_s2, txt_s3, lnk_s0, lnk_s1, lnk_s2, nov_s0, nov_s1, nov_s2, intv_set, bytv_set, runv_set, slv_set] at hs); simp only [Act.put, zg, zh, zi])
        | ((with_reducible apply mix_end hRR hs); (focus with_reducible (repeat (first | exact ent_here | apply ent_next | exact ent_last)); done); clear hs; (try clear w); intro w hs; (try simp only [star_assoc, star_emp, emp_star] at hs); clear hRR hR)
        | ((with_reducible apply mx_loadN hRR); (focus (simp only [Act.eval, za, zb, zc, zd, ze, zf]; (try with_reducible rfl); done)); (with_reducible (first | exact agg_44)); (focus ((repeat (first | (with_reducible (first | assumption | exact hel _ | exact hel2 _ | exact hel3 _)) | ((with_reducible apply reads_whole); (focus (first | (with_reducible rfl) | (simp only [go_sem]; done) | (simp; done)))) | ((with_reducible apply reads_part); (focus (first | (simp [go_sem]; done) | (simp only [go_sem]; omega) | go_size)); (focus (first | (simp only [Nat.reduceAdd, Nat.zero_add, go_sem]; (try with_reducible rfl); done) | (simp [go_sem]; (try with_reducible rfl); done)))) | (with_reducible (first | (apply reads_left; assumption) | refine reads_exh (by assumption) ?_ | refine reads_exh0 (by assumption) ?_ | apply reads_next)))); done)); simp only [Act.put, zg, zh, zi])
        | ((with_reducible apply mx_load1 hRR); (focus (simp only [Act.eval, za, zb, zc, zd, ze, zf]; (try with_reducible rfl); done)); (focus (simp only [go_sem])); (focus ((repeat (first | (with_reducible (first | assumption | exact hec _ | exact hec2 _ | exact hec3 _ | exact hec4 _ _)) | ((with_reducible apply readc_here); (focus (first | (simp only [zc, zd, ze, go_sem]; (try with_reducible rfl); done) | (go_simp; (try with_reducible rfl); done)))) | (with_reducible (first | (apply readc_left; assumption) | refine readc_exh (by assumption) ?_ | refine readc_exh0 (by assumption) ?_ | apply readc_next)))); done)); simp only [Act.put, zg, zh, zi])
        | ((with_reducible refine mix_float ?_ ?_ ?_ (fun h hk => ?_) ?_); rotate_left 1; (focus rfl); (focus rfl); (focus (go_simp; (try (rw [if_pos (by omega)]; (try go_simp))); (try simp (disch := omega) only [IntWalk.i64_in, IntWalk.i32_in]); (try with_reducible rfl); done)); simp only [Act.put, zg, zh, zi]))
            exact ⟨⟨k + 1, ap1 t ⟨p, q, y⟩, bk1 t ⟨p, q, y⟩ :: B, by omega, congrArg (Value.int .i64) (by omega), hlen2.out, by simp [hBk], hin.out, hR2, hs.mono (by ((repeat (first | (with_reducible (first | exact ent_refl | exact ent_emp)) | ((with_reducible apply ent_front); (focus with_reducible (repeat (first | exact ent_here | apply ent_next | exact ent_last)); done)) | (with_reducible (first | exact ent_keep | apply ent_trans ent_drop)))); done))⟩, by simp only [intOf]; omega⟩
      · obtain rfl : k = n := by omega
        have hkI : ¬ ((k : Int) < k) := by omega
        have hR2 := apR_end hR.out (by have := hn.out; omega)
        replace hR2 := Lib.hid hR2
        go_wp2_with fail
        (go_ret2; simp only [za, zb, zc, zd, ze, zf])
        exact ⟨_, rfl, hs.mono (ent_trans (by ((repeat (first | (with_reducible (first | exact ent_refl | exact ent_emp)) | ((with_reducible apply ent_front); (focus with_reducible (repeat (first | exact ent_here | apply ent_next | exact ent_last)); done)) | (with_reducible (first | exact ent_keep | apply ent_trans ent_drop)))); done)) (apP_ok hR2.out))⟩
end Go.Proofs.YtgoifgockcpnhaaDoor

set_option linter.unusedSimpArgs false
set_option linter.unusedVariables false
namespace Go.Proofs.YtgoifgockcpnhaaDoor
open Go Go.RowKit

theorem rev_swap {α : Type} {l m : List α} {k jj n : Nat} (hn : l.length = n) (hm : m.length = n) (hkj : k + jj = n) (hle : jj ≤ k + 1) (h : ∀ j, j < n → m[j]? = if j < k ∨ jj ≤ j then l[n - 1 - j]? else l[j]?) : m = l.reverse := by
  apply List.ext_getElem?
  intro j
  by_cases hj : j < n
  · rw [h j hj, List.getElem?_reverse (by omega), hn]
    split
    · rfl
    · have : n - 1 - j = j := by omega
      rw [this]
  · rw [List.getElem?_eq_none (by omega), List.getElem?_eq_none (by simp; omega)]
set_option maxHeartbeats 1000000 in
theorem revE_s (c0 : World) (F : HP) (v : Value) (l : List EdtD) : Spec Tryd.prog c0 45 #[v] (pu (l.length ≤ 1000000) (row 44 3 edt v l * F)) (fun r => row 44 3 edt v l.reverse * F) := by
  intro w hq; obtain ⟨h40, hs⟩ := hq.pu; clear hq
  obtain ⟨A, cp, rfl, h1, h2⟩ := row_slice hs.own
  unfold maxLen at h2
  generalize hn : l.length = n at *
  replace hn := Lib.hid hn
  go_enter Tryd.func45, Tryd.ntmps45
  go_wp2_with fail
  go_loopw [2, 3] (fun i j wr => ∃ (k jj : Nat) (m : List EdtD), k + jj = n ∧ k ≤ jj + 1 ∧ i = .int .i64 k ∧ j = .int .i64 ((jj : Int) - 1) ∧ Hid (m.length = n ∧ ∀ j, j < n → m[j]? = if j < k ∨ jj ≤ j then l[n - 1 - j]? else l[j]?) ∧ Sat c0 (row 44 3 edt (.slice A n cp) m * F) wr) (fun i _ _ => n - (intOf i).toNat)
  case atStart => exact ⟨0, n, l, by omega, by omega, rfl, rfl, ⟨hn.out, fun j hj => by rw [if_neg (by omega)]⟩, hs⟩
  case round =>
    obtain ⟨k, jj, m, hkj, hk, rfl, rfl, hm, hs⟩ := hrel
    by_cases hlt : k + 1 < jj
    · obtain ⟨j, rfl⟩ : ∃ j, jj = j + 1 := ⟨jj - 1, by omega⟩
      have hj1 : ((j + 1 : Nat) : Int) - 1 = j := by omega
      rw [hj1]
      have hk1 : k < n := by omega
      have hj2 : j < n := by omega
      have hjk : k < j := by omega
      obtain ⟨g, a, rfl, hla, hel⟩ := row_at hs.own edt_size hk1
      obtain ⟨g', b, hgg, hlb, hel2⟩ := row_at hs.own edt_size hj2
      obtain rfl : g = g' := by simpa using hgg
      clear hgg
      have hkl : k < m.length := by have := hm.out.1; omega
      have hkl2 : j < m.length := by have := hm.out.1; omega
      have hkl3 : j < (m.set k b).length := by rw [List.length_set]; exact hkl2
      replace hla := Lib.hid hla
      replace hlb := Lib.hid hlb
      replace hkj := Lib.hid hkj
      go_wp2_with (first
        | ((with_reducible apply wp_region_mv (G := emp) (id := 3) hs 13 11 [2, 3] [0, 1, 4, 5, 6, 7, 8, 9, 10, 11, 12, 13, 14, 15]); (focus (exact ent_emp_l)); (focus kernel_rfl); (focus decide +kernel); clear hs; (try clear w); intro hR w hRR hs; (try simp only [star_assoc] at hs); simp only [zk, zl, List.getD_cons_zero, List.getD_cons_succ, movedA, moveOf, zc, Act.eval, Act.put, za, zb, zc, zd, ze, zf, zg, zh, zi])
        | ((with_reducible apply pl_storeRow hs); (focus (simp only [Act.eval, za, zb, zc, zd, ze, zf]; (try with_reducible rfl); done)); (focus with_reducible (repeat (first | exact ent_here | apply ent_next | exact ent_last)); done); (focus (simp only [Act.eval, za, zb, zc, zd, ze, zf]; (try with_reducible rfl); done)); (with_reducible (first | exact agg_44)); (focus (first | (with_reducible rfl) | (simp; done))); (focus (first | omega | (simp [go_sem]; omega) | (simp only [go_sem]; omega))); (focus (intro _; simp only [go_sem])); (focus (intro _; simp only [go_sem])); clear hs; (try clear w); intro w hs; skip; simp only [Act.put, zg, zh, zi])
        | (with_reducible refine And.intro rfl ?_)
        | ((with_reducible apply mix_thaw hRR hs); (focus with_reducible (repeat (first | exact ent_here | apply ent_next | exact ent_last)); done); clear hs; (try clear w); intro w hs; (try simp only [star_assoc, star_emp, emp_star] at hs); clear hRR hR)
        | ((with_reducible apply mx_loadN hRR); (focus (simp only [Act.eval, za, zb, zc, zd, ze, zf]; (try with_reducible rfl); done)); (with_reducible (first | exact agg_44)); (focus ((repeat (first | (with_reducible (first | assumption | exact hel _ | exact hel2 _ | exact hel3 _)) | ((with_reducible apply reads_whole); (focus (first | (with_reducible rfl) | (simp only [go_sem]; done) | (simp; done)))) | ((with_reducible apply reads_part); (focus (first | (simp [go_sem]; done) | (simp only [go_sem]; omega) | go_size)); (focus (first | (simp only [Nat.reduceAdd, Nat.zero_add, go_sem]; (try with_reducible rfl); done) | (simp [go_sem]; (try with_reducible rfl); done)))) | (with_reducible (first | (apply reads_left; assumption) | refine reads_exh (by assumption) ?_ | refine reads_exh0 (by assumption) ?_ | apply reads_next)))); done)); simp only [Act.put, zg, zh, zi])
        | ((with_reducible refine mix_float ?_ ?_ ?_ (fun h hk => ?_) ?_); rotate_left 1; (focus rfl); (focus rfl); (focus (go_simp; (try (rw [if_pos (by omega)]; (try go_simp))); (try simp (disch := omega) only [IntWalk.i64_in, IntWalk.i32_in]); (try with_reducible rfl); done)); simp only [Act.put, zg, zh, zi]))
      go_roundw
      case rel => exact ⟨k + 1, j, (m.set k b).set j a, by have := hkj.out; omega, by omega, by go_num, rfl, ⟨by rw [List.length_set, List.length_set]; exact hm.out.1, fun x hx => by
        have h := hm.out.2
        have hkj := hkj.out
        have hla := hla.out
        have hlb := hlb.out
        rw [h k hk1, if_neg (by omega)] at hla
        rw [h j hj2, if_neg (by omega)] at hlb
        rw [List.getElem?_set]
        by_cases hxj : j = x
        · subst hxj
          rw [if_pos rfl, if_pos (by rw [List.length_set, hm.out.1]; exact hx), if_pos (by omega), show n - 1 - j = k by omega, hla]
        · rw [if_neg hxj, List.getElem?_set]
          by_cases hxk : k = x
          · subst hxk
            rw [if_pos rfl, if_pos hkl, if_pos (by omega), show n - 1 - k = j by omega, hlb]
          · rw [if_neg hxk, h x hx]
            by_cases hc : x < k ∨ j + 1 ≤ x
            · rw [if_pos hc, if_pos (by omega)]
            · rw [if_neg hc, if_neg (by omega)]⟩, hs.mono (by ((repeat (first | (with_reducible (first | exact ent_refl | exact ent_emp)) | ((with_reducible apply ent_front); (focus with_reducible (repeat (first | exact ent_here | apply ent_next | exact ent_last)); done)) | (with_reducible (first | exact ent_keep | apply ent_trans ent_drop)))); done))⟩
      case measure => simp [intOf]; omega
    · have hge : ¬ ((k : Int) < (jj : Int) - 1) := by omega
      have hfin : m = l.reverse := rev_swap hn.out hm.out.1 hkj (by omega) hm.out.2
      subst hfin
      clear hm
      go_wp2_with fail
      refine bodyPost_end (results_none rfl _ _ _) rfl ?_
      exact ⟨⟨_, rfl⟩, hs⟩
/-- What Apply answers. -/
def ApR (a : Nat → Addr) (s : ByteArray) (l : List EdtD) (F : HP) (r : Value) : HP := match apR s l with
  | .ok (u, _) => pu (r = .tuple #[.string (rts u), .nilIface]) F
  | .error (i, k) => ex fun e : Value => pu (r = .tuple #[.string ⟨#[]⟩, e]) (RefP a (some ([⟨dfB, cAp, atV (i : Nat)⟩], k)) e * F)
/-- What Invert answers. -/
def InR (a : Nat → Addr) (s : ByteArray) (l : List EdtD) (F : HP) (r : Value) : HP := match apR s l with
  | .ok (_, C) => ex fun v : Value => pu (r = .tuple #[v, .nilIface]) (row 44 3 edt v (C.map encE) * F)
  | .error (i, k) => ex fun e : Value => pu (r = .tuple #[.slice none 0 0, e]) (RefP a (some ([⟨dfB, cIn, atV (i : Nat)⟩], k)) e * F)
abbrev ApPre (F : HP) (a : Nat → Addr) (s : ByteArray) (lv : Value) (l : List EdtD) : Prop := ErrB F a ∧ ReadC F 2 0 (.iface 125 (.pointer (some (a 2)))) ∧ TabF F ∧ SlR F 3 edt lv l ∧ s.size ≤ 10000 ∧ l.length ≤ 300 ∧ outEdits l
theorem apply0S_s (c0 : World) (F : HP) (a : Nat → Addr) (s : ByteArray) (lv : Value) (l : List EdtD) (u : List Int) (C : List Ed) (h : apR s l = .ok (u, C)) : Spec Tryd.prog c0 41 #[.string cAp, .string s, lv, .func (.func 42) #[] #[]] (pu (ApPre F a s lv l) F) (fun r => ex fun v : Value => pu (r = .tuple #[v, .nilIface]) (row 21 1 runv v u * F)) := by
  have := apply0_s c0 F a s lv l
  unfold ApP at this
  rw [h] at this
  simpa only [emp_star] using this
theorem apply0N_s (c0 : World) (F : HP) (a : Nat → Addr) (s : ByteArray) (lv : Value) (l : List EdtD) (i k : Nat) (h : apR s l = .error (i, k)) : Spec Tryd.prog c0 41 #[.string cAp, .string s, lv, .func (.func 42) #[] #[]] (pu (ApPre F a s lv l) F) (fun r => ex fun e : Value => ex fun C : List Ed => pu (r = .tuple #[.slice none 0 0, e]) (RefP a (some ([⟨dfB, cAp, atV (i : Nat)⟩], k)) e * F)) := by
  have := apply0_s c0 F a s lv l
  unfold ApP at this
  rw [h] at this
  simpa only [emp_star] using this
theorem out_new {gl : Nat} {F : HP} : Ent (blk gl (.cells #[.slice none 0 0] 22 (0, 0)) * F) (outP gl [] * F) :=
  ent_trans (B := outB gl none 0 0 [] F) (star_mono ent_refl ent_row_nil) (out_shut rfl rfl)
theorem apply1S_s (c0 : World) (F : HP) (a : Nat → Addr) (gl : Nat) (s : ByteArray) (lv : Value) (l : List EdtD) (u : List Int) (C : List Ed) (h : apR s l = .ok (u, C)) : Spec Tryd.prog c0 41 #[.string cIn, .string s, lv, .func (.func 43) #[] #[.pointer (some ⟨gl, 0, none⟩)]] (pu (ApPre F a s lv l) (blk gl (.cells #[.slice none 0 0] 22 (0, 0)) * F)) (fun r => ex fun v : Value => pu (r = .tuple #[v, .nilIface]) (row 21 1 runv v u * (outP gl C * F))) := by
  have := apply1_s c0 F a gl s lv l
  unfold ApP at this
  rw [h] at this
  exact this.mono (ent_pu_l fun h => ent_pu h out_new) fun _ => ent_refl
theorem apply1N_s (c0 : World) (F : HP) (a : Nat → Addr) (gl : Nat) (s : ByteArray) (lv : Value) (l : List EdtD) (i k : Nat) (h : apR s l = .error (i, k)) : Spec Tryd.prog c0 41 #[.string cIn, .string s, lv, .func (.func 43) #[] #[.pointer (some ⟨gl, 0, none⟩)]] (pu (ApPre F a s lv l) (blk gl (.cells #[.slice none 0 0] 22 (0, 0)) * F)) (fun r => ex fun e : Value => ex fun C : List Ed => pu (r = .tuple #[.slice none 0 0, e]) (RefP a (some ([⟨dfB, cIn, atV (i : Nat)⟩], k)) e * (outP gl C * F))) := by
  have := apply1_s c0 F a gl s lv l
  unfold ApP at this
  rw [h] at this
  exact this.mono (ent_pu_l fun h => ent_pu h out_new) fun _ => ent_refl
set_option maxRecDepth 20000 in
set_option maxHeartbeats 2000000 in
theorem apply_s (c0 : World) (F : HP) (a : Nat → Addr) (s : ByteArray) (lv : Value) (l : List EdtD) : Spec Tryd.prog c0 18 #[.string s, lv] (pu (ApPre F a s lv l) F) (ApR a s l F) := by
  intro w hq; obtain ⟨⟨hE, hgr, hT, hl, hs1, hl1, hl2⟩, hs⟩ := hq.pu; clear hq
  cases hR : apR s l with
  | error pk =>
    obtain ⟨i, k⟩ := pk
    unfold ApR
    rw [hR]
    have hsp := fun F => apply0N_s c0 F a s lv l i k hR
    clear hR
    go_enter Tryd.func18, Tryd.ntmps18
    go_wp2_with (first
        | ((with_reducible apply pl_call hs (hsp _)); ((((focus (simp only [zj, zk, zl, List.append_toArray, List.nil_append, List.cons_append, Act.eval, za, zb, zc, zd, ze, zf]; (try with_reducible rfl); done)); (focus ((repeat (first | (with_reducible (first | exact ent_refl | apply ent_puR)) | ((with_reducible apply ent_front); (focus with_reducible (repeat (first | exact ent_here | apply ent_next | exact ent_last)); done)) | (with_reducible (first | exact ent_keep | apply ent_trans ent_drop)) | (focus (first | ((repeat' (first | (with_reducible assumption) | (with_reducible apply And.intro))); done))))); done)); (focus (simp only [go_sem]))))); clear hs; (try clear w); intro v w hq; (obtain ⟨e, hq1⟩ := hq.ex; obtain ⟨B, hq2⟩ := hq1.ex; obtain ⟨rfl, hs⟩ := hq2.pu; clear hq1 hq2; obtain ⟨te, pe, rfl⟩ := refP_iface hs); clear hq; (try simp only [star_assoc, star_emp, emp_star] at hs); (try simp only [Act.put, zg, zh, zi]))
        | ((with_reducible apply pl_cvRS hs); (focus (simp only [Act.eval, za, zb, zc, zd, ze, zf]; (try with_reducible rfl); done)); (first | (with_reducible exact rut_33_9)); (focus (first | ((repeat (first | (with_reducible (first | assumption | exact slr_ro |  exact hsl _ | exact hsl2 _ | exact hsl3 _ _ _ | exact slr_nil | exact slr_row (fun _ => by simp only [go_sem]) | exact slr_one (fun _ => by simp only [go_sem]) | (apply slr_left; assumption))) | (with_reducible apply slr_next))); done) | ((repeat (first | (with_reducible (first | assumption | exact slr_ro |  exact hsl _ | exact hsl2 _ | exact hsl3 _ _ _ | exact slr_nil | exact slr_row (fun _ => by simp only [go_sem]) | exact slr_one (fun _ => by simp only [go_sem]) | (apply slr_left; assumption))) | (with_reducible (first | (apply slr_exh; focus assumption) | (apply slr_exh0; focus assumption) | apply slr_next)))); done))); (focus rfl); simp only [Act.put, zg, zh, zi]))
    (go_ret2; simp only [za, zb, zc, zd, ze, zf])
    exact ⟨_, rfl, hs.mono (ent_ex _ (ent_pu rfl (by ((repeat (first | (with_reducible (first | exact ent_refl | exact ent_emp)) | ((with_reducible apply ent_front); (focus with_reducible (repeat (first | exact ent_here | apply ent_next | exact ent_last)); done)) | (with_reducible (first | exact ent_keep | apply ent_trans ent_drop)))); done))))⟩
  | ok xy =>
    obtain ⟨u, C⟩ := xy
    unfold ApR
    rw [hR]
    have hsp := fun F => apply0S_s c0 F a s lv l u C hR
    clear hR
    go_enter Tryd.func18, Tryd.ntmps18
    go_wp2_with (first
        | ((with_reducible apply pl_call hs (hsp _)); ((((focus (simp only [zj, zk, zl, List.append_toArray, List.nil_append, List.cons_append, Act.eval, za, zb, zc, zd, ze, zf]; (try with_reducible rfl); done)); (focus ((repeat (first | (with_reducible (first | exact ent_refl | apply ent_puR)) | ((with_reducible apply ent_front); (focus with_reducible (repeat (first | exact ent_here | apply ent_next | exact ent_last)); done)) | (with_reducible (first | exact ent_keep | apply ent_trans ent_drop)) | (focus (first | ((repeat' (first | (with_reducible assumption) | (with_reducible apply And.intro))); done))))); done)); (focus (simp only [go_sem]))))); clear hs; (try clear w); intro v w hq; (obtain ⟨v, hq1⟩ := hq.ex; obtain ⟨rfl, hs⟩ := hq1.pu; clear hq1; obtain ⟨Av, cv, rfl, hv1, hv2⟩ := row_slice hs.own); clear hq; (try simp only [star_assoc, star_emp, emp_star] at hs); (try simp only [Act.put, zg, zh, zi]))
        | ((with_reducible apply pl_cvRS hs); (focus (simp only [Act.eval, za, zb, zc, zd, ze, zf]; (try with_reducible rfl); done)); (first | (with_reducible exact rut_33_9)); (focus (first | ((repeat (first | (with_reducible (first | assumption | exact slr_ro |  exact hsl _ | exact hsl2 _ | exact hsl3 _ _ _ | exact slr_nil | exact slr_row (fun _ => by simp only [go_sem]) | exact slr_one (fun _ => by simp only [go_sem]) | (apply slr_left; assumption))) | (with_reducible apply slr_next))); done) | ((repeat (first | (with_reducible (first | assumption | exact slr_ro |  exact hsl _ | exact hsl2 _ | exact hsl3 _ _ _ | exact slr_nil | exact slr_row (fun _ => by simp only [go_sem]) | exact slr_one (fun _ => by simp only [go_sem]) | (apply slr_left; assumption))) | (with_reducible (first | (apply slr_exh; focus assumption) | (apply slr_exh0; focus assumption) | apply slr_next)))); done))); (focus rfl); simp only [Act.put, zg, zh, zi]))
    (go_ret2; simp only [za, zb, zc, zd, ze, zf])
    exact ⟨_, rfl, hs.mono (ent_pu rfl (by ((repeat (first | (with_reducible (first | exact ent_refl | exact ent_emp)) | ((with_reducible apply ent_front); (focus with_reducible (repeat (first | exact ent_here | apply ent_next | exact ent_last)); done)) | (with_reducible (first | exact ent_keep | apply ent_trans ent_drop)))); done)))⟩
theorem apR_len {s : ByteArray} {l : List EdtD} {u : List Int} {C : List Ed} (h : apR s l = .ok (u, C)) : C.length = l.length := by
  obtain ⟨_, _, _, h1, _⟩ := apR_back h
  exact h1
set_option maxRecDepth 20000 in
set_option maxHeartbeats 2000000 in
theorem invert_s (c0 : World) (F : HP) (a : Nat → Addr) (s : ByteArray) (lv : Value) (l : List EdtD) : Spec Tryd.prog c0 20 #[.string s, lv] (pu (ApPre F a s lv l) F) (InR a s l F) := by
  intro w hq; obtain ⟨⟨hE, hgr, hT, hl, hs1, hl1, hl2⟩, hs⟩ := hq.pu; clear hq
  cases hR : apR s l with
  | error pk =>
    obtain ⟨i, k⟩ := pk
    unfold InR
    rw [hR]
    have hsp := fun F gl => apply1N_s c0 F a gl s lv l i k hR
    clear hR
    go_enter Tryd.func20, Tryd.ntmps20
    go_wp2_with (first
        | ((with_reducible apply pl_call hs (hsp _ _)); ((((focus (simp only [zj, zk, zl, List.append_toArray, List.nil_append, List.cons_append, Act.eval, za, zb, zc, zd, ze, zf]; (try with_reducible rfl); done)); (focus ((repeat (first | (with_reducible (first | exact ent_refl | apply ent_puR)) | ((with_reducible apply ent_front); (focus with_reducible (repeat (first | exact ent_here | apply ent_next | exact ent_last)); done)) | (with_reducible (first | exact ent_keep | apply ent_trans ent_drop)) | (focus (first | ((repeat' (first | (with_reducible assumption) | (with_reducible apply And.intro))); done))))); done)); (focus (simp only [go_sem]))))); clear hs; (try clear w); intro v w hq; (obtain ⟨e, hq1⟩ := hq.ex; obtain ⟨B, hq2⟩ := hq1.ex; obtain ⟨rfl, hs⟩ := hq2.pu; clear hq1 hq2; obtain ⟨te, pe, rfl⟩ := refP_iface hs); clear hq; (try simp only [star_assoc, star_emp, emp_star] at hs); (try simp only [Act.put, zg, zh, zi]))
        | ((with_reducible apply pl_alloc hs); (with_reducible (first | exact zero_22)); clear hs; (try clear w); intro g w hs; skip; simp only [Act.put, zg, zh, zi]))
    (go_ret2; simp only [za, zb, zc, zd, ze, zf])
    exact ⟨_, rfl, hs.mono (ent_ex _ (ent_pu rfl (by ((repeat (first | (with_reducible (first | exact ent_refl | exact ent_emp)) | ((with_reducible apply ent_front); (focus with_reducible (repeat (first | exact ent_here | apply ent_next | exact ent_last)); done)) | (with_reducible (first | exact ent_keep | apply ent_trans ent_drop)))); done))))⟩
  | ok xy =>
    obtain ⟨u, C⟩ := xy
    unfold InR
    rw [hR]
    have hsp := fun F gl => apply1S_s c0 F a gl s lv l u C hR
    have hCl : (C.reverse.map encE).length ≤ 1000000 := by rw [List.length_map, List.length_reverse, apR_len hR]; omega
    have hrev : (C.reverse.map encE).reverse = C.map encE := by rw [← List.map_reverse, List.reverse_reverse]
    have hCn : C.length = (C.reverse.map encE).length := by simp
    clear hR
    go_enter Tryd.func20, Tryd.ntmps20
    go_wp2_with (first
        | ((with_reducible apply pl_call hs (hsp _ _)); ((((focus (simp only [zj, zk, zl, List.append_toArray, List.nil_append, List.cons_append, Act.eval, za, zb, zc, zd, ze, zf]; (try with_reducible rfl); done)); (focus ((repeat (first | (with_reducible (first | exact ent_refl | apply ent_puR)) | ((with_reducible apply ent_front); (focus with_reducible (repeat (first | exact ent_here | apply ent_next | exact ent_last)); done)) | (with_reducible (first | exact ent_keep | apply ent_trans ent_drop)) | (focus (first | ((repeat' (first | (with_reducible assumption) | (with_reducible apply And.intro))); done))))); done)); (focus (simp only [go_sem]))))); clear hs; (try clear w); intro v w hq; (obtain ⟨v, hq1⟩ := hq.ex; obtain ⟨rfl, hs⟩ := hq1.pu; clear hq1; obtain ⟨Av, cv, rfl, hv1, hv2⟩ := row_slice hs.own; obtain ⟨Ao, co, hs⟩ := out_open (hs.mono ent_left)); clear hq; (try simp only [star_assoc, star_emp, emp_star] at hs); (try simp only [Act.put, zg, zh, zi]))
        | ((with_reducible apply pl_call hs (revE_s _ _ _ _)); ((((focus (simp only [zj, zk, zl, List.append_toArray, List.nil_append, List.cons_append, Act.eval, za, zb, zc, zd, ze, zf]; (try with_reducible rfl); done)); (focus ((repeat (first | (with_reducible (first | exact ent_refl | apply ent_puR)) | ((with_reducible apply ent_front); (focus with_reducible (repeat (first | exact ent_here | apply ent_next | exact ent_last)); done)) | (with_reducible (first | exact ent_keep | apply ent_trans ent_drop)) | (focus (first | (with_reducible assumption))))); done)); (focus (simp only [go_sem]))))); clear hs; (try clear w); intro v w hq; (have hs := hq; rw [hrev] at hs); clear hq; (try simp only [star_assoc, star_emp, emp_star] at hs); (try simp only [Act.put, zg, zh, zi]))
        | ((with_reducible apply pl_load1 hs); (focus (simp only [Act.eval, za, zb, zc, zd, ze, zf]; (try with_reducible rfl); done)); (focus (simp only [go_sem])); (focus ((repeat (first | (with_reducible (first | assumption | exact hec _ | exact hec2 _ | exact hec3 _ | exact hec4 _ _)) | ((with_reducible apply readc_here); (focus (first | (simp only [zc, zd, ze, go_sem]; (try with_reducible rfl); done) | (go_simp; (try with_reducible rfl); done)))) | (with_reducible (first | (apply readc_left; assumption) | refine readc_exh (by assumption) ?_ | refine readc_exh0 (by assumption) ?_ | apply readc_next)))); done)); (focus rfl); simp only [Act.put, zg, zh, zi])
        | ((with_reducible apply pl_alloc hs); (with_reducible (first | exact zero_22)); clear hs; (try clear w); intro g w hs; skip; simp only [Act.put, zg, zh, zi]))
    (go_ret2; simp only [za, zb, zc, zd, ze, zf])
    exact ⟨_, rfl, hs.mono (ent_ex _ (ent_pu rfl (by ((repeat (first | (with_reducible (first | exact ent_refl | exact ent_emp)) | ((with_reducible apply ent_front); (focus with_reducible (repeat (first | exact ent_here | apply ent_next | exact ent_last)); done)) | (with_reducible (first | exact ent_keep | apply ent_trans ent_drop)))); done))))⟩
end Go.Proofs.YtgoifgockcpnhaaDoor

set_option linter.unusedSimpArgs false
set_option linter.unusedVariables false
namespace Go.Proofs.YtgoifgockcpnhaaDoor
open Go Go.RowKit

theorem same_edt_s (c0 : World) (F : HP) (u v : Value) (l : List EdtD) : Spec Tryd.prog c0 24 #[u, v] (pu (SlR F 3 edt u l ∧ SlR F 3 edt v l) F) (fun r => pu (r = .bool true) F) := by
  intro w hq; obtain ⟨⟨hu, hv⟩, hs⟩ := hq.pu; clear hq
  obtain ⟨A, c, rfl⟩ := slr_form hu hs.own
  obtain ⟨A', c', rfl⟩ := slr_form hv hs.own
  obtain ⟨_, h2, h3, _⟩ := slr_len hu hs.own
  unfold maxLen at h3
  generalize hn : l.length = n at *
  replace hn := Lib.hid hn
  go_enter Tryd.func24, Tryd.ntmps24
  go_wp2_with (first
        | ((with_reducible apply wp_region_sl (G := emp) (id := 6) hs 1000); (focus (exact ent_emp_l)); (focus kernel_rfl); (focus decide +kernel); clear hs; (try clear w); intro hR w hRR hs; (try simp only [star_assoc] at hs))
        | ((with_reducible apply pl_loadN hs); (focus (simp only [Act.eval, za, zb, zc, zd, ze, zf]; (try with_reducible rfl); done)); (with_reducible (first | exact agg_44)); (focus ((repeat (first | (with_reducible (first | assumption | exact hel _ | exact hel2 _ | exact hel3 _)) | ((with_reducible apply reads_whole); (focus (first | (with_reducible rfl) | (simp only [go_sem]; done) | (simp; done)))) | ((with_reducible apply reads_part); (focus (first | (simp [go_sem]; done) | (simp only [go_sem]; omega) | go_size)); (focus (first | (simp only [Nat.reduceAdd, Nat.zero_add, go_sem]; (try with_reducible rfl); done) | (simp [go_sem]; (try with_reducible rfl); done)))) | (with_reducible (first | (apply reads_left; assumption) | refine reads_exh (by assumption) ?_ | refine reads_exh0 (by assumption) ?_ | apply reads_next)))); done)); (focus rfl); simp only [Act.put, zg, zh, zi])
        | ((with_reducible apply mix_end hRR hs); (focus with_reducible (repeat (first | exact ent_here | apply ent_next | exact ent_last)); done); clear hs; (try clear w); intro w hs; (try simp only [star_assoc, star_emp, emp_star] at hs); clear hRR hR)
        | ((with_reducible apply mix_thaw hRR hs); (focus with_reducible (repeat (first | exact ent_here | apply ent_next | exact ent_last)); done); clear hs; (try clear w); intro w hs; (try simp only [star_assoc, star_emp, emp_star] at hs); clear hRR hR)
        | ((with_reducible apply mx_loadN hRR); (focus (simp only [Act.eval, za, zb, zc, zd, ze, zf]; (try with_reducible rfl); done)); (with_reducible (first | exact agg_44)); (focus ((repeat (first | (with_reducible (first | assumption | exact hel _ | exact hel2 _ | exact hel3 _)) | ((with_reducible apply reads_whole); (focus (first | (with_reducible rfl) | (simp only [go_sem]; done) | (simp; done)))) | ((with_reducible apply reads_part); (focus (first | (simp [go_sem]; done) | (simp only [go_sem]; omega) | go_size)); (focus (first | (simp only [Nat.reduceAdd, Nat.zero_add, go_sem]; (try with_reducible rfl); done) | (simp [go_sem]; (try with_reducible rfl); done)))) | (with_reducible (first | (apply reads_left; assumption) | refine reads_exh (by assumption) ?_ | refine reads_exh0 (by assumption) ?_ | apply reads_next)))); done)); simp only [Act.put, zg, zh, zi])
        | ((with_reducible refine mix_float ?_ ?_ ?_ (fun h hk => ?_) ?_); rotate_left 1; (focus rfl); (focus rfl); (focus (go_simp; (try (rw [if_pos (by omega)]; (try go_simp))); (try simp (disch := omega) only [IntWalk.i64_in, IntWalk.i32_in]); (try with_reducible rfl); done)); simp only [Act.put, zg, zh, zi])
        | ((with_reducible refine mix_float_skip ?_ ?_ (fun h hk => ?_) ?_); (focus rfl); (focus rfl); (focus (go_simp; done)); simp only [Act.put, zg, zh, zi]))
  go_loopw [5] (fun i wr => ∃ k : Nat, k ≤ n ∧ i = .int .i64 k ∧ Sat c0 F wr) (fun i _ => n - (intOf i).toNat)
  case atStart => exact ⟨0, by omega, rfl, hs⟩
  case round =>
    obtain ⟨k, hk, rfl, hs⟩ := hrel
    by_cases hlt : k < n
    · obtain ⟨b, o, a, rfl, hla, hwa⟩ := slr_get hu hs.own hlt
      obtain ⟨b', o', a', rfl, hla', hwa'⟩ := slr_get hv hs.own hlt
      have : a = a' := by rw [hla] at hla'; exact Option.some.inj hla'
      subst this
      have hee := edtEq_refl a
      clear hla hla' hu hv
      go_wp2_with (first
        | ((with_reducible apply wp_region_sl (G := emp) (id := 6) hs 1000); (focus (exact ent_emp_l)); (focus kernel_rfl); (focus decide +kernel); clear hs; (try clear w); intro hR w hRR hs; (try simp only [star_assoc] at hs))
        | ((with_reducible apply pl_loadN hs); (focus (simp only [Act.eval, za, zb, zc, zd, ze, zf]; (try with_reducible rfl); done)); (with_reducible (first | exact agg_44)); (focus ((repeat (first | (with_reducible (first | assumption | exact hel _ | exact hel2 _ | exact hel3 _)) | ((with_reducible apply reads_whole); (focus (first | (with_reducible rfl) | (simp only [go_sem]; done) | (simp; done)))) | ((with_reducible apply reads_part); (focus (first | (simp [go_sem]; done) | (simp only [go_sem]; omega) | go_size)); (focus (first | (simp only [Nat.reduceAdd, Nat.zero_add, go_sem]; (try with_reducible rfl); done) | (simp [go_sem]; (try with_reducible rfl); done)))) | (with_reducible (first | (apply reads_left; assumption) | refine reads_exh (by assumption) ?_ | refine reads_exh0 (by assumption) ?_ | apply reads_next)))); done)); (focus rfl); simp only [Act.put, zg, zh, zi])
        | ((with_reducible apply mix_end hRR hs); (focus with_reducible (repeat (first | exact ent_here | apply ent_next | exact ent_last)); done); clear hs; (try clear w); intro w hs; (try simp only [star_assoc, star_emp, emp_star] at hs); clear hRR hR)
        | ((with_reducible apply mix_thaw hRR hs); (focus with_reducible (repeat (first | exact ent_here | apply ent_next | exact ent_last)); done); clear hs; (try clear w); intro w hs; (try simp only [star_assoc, star_emp, emp_star] at hs); clear hRR hR)
        | ((with_reducible apply mx_loadN hRR); (focus (simp only [Act.eval, za, zb, zc, zd, ze, zf]; (try with_reducible rfl); done)); (with_reducible (first | exact agg_44)); (focus ((repeat (first | (with_reducible (first | assumption | exact hel _ | exact hel2 _ | exact hel3 _)) | ((with_reducible apply reads_whole); (focus (first | (with_reducible rfl) | (simp only [go_sem]; done) | (simp; done)))) | ((with_reducible apply reads_part); (focus (first | (simp [go_sem]; done) | (simp only [go_sem]; omega) | go_size)); (focus (first | (simp only [Nat.reduceAdd, Nat.zero_add, go_sem]; (try with_reducible rfl); done) | (simp [go_sem]; (try with_reducible rfl); done)))) | (with_reducible (first | (apply reads_left; assumption) | refine reads_exh (by assumption) ?_ | refine reads_exh0 (by assumption) ?_ | apply reads_next)))); done)); simp only [Act.put, zg, zh, zi])
        | ((with_reducible refine mix_float ?_ ?_ ?_ (fun h hk => ?_) ?_); rotate_left 1; (focus rfl); (focus rfl); (focus (go_simp; (try (rw [if_pos (by omega)]; (try go_simp))); (try simp (disch := omega) only [IntWalk.i64_in, IntWalk.i32_in]); (try with_reducible rfl); done)); simp only [Act.put, zg, zh, zi])
        | ((with_reducible refine mix_float_skip ?_ ?_ (fun h hk => ?_) ?_); (focus rfl); (focus rfl); (focus (go_simp; done)); simp only [Act.put, zg, zh, zi]))
      go_roundw
      case rel => exact ⟨k + 1, by omega, by go_num, hs⟩
      case measure => simp [intOf]; omega
    · go_wp2_with (first
        | ((with_reducible apply wp_region_sl (G := emp) (id := 6) hs 1000); (focus (exact ent_emp_l)); (focus kernel_rfl); (focus decide +kernel); clear hs; (try clear w); intro hR w hRR hs; (try simp only [star_assoc] at hs))
        | ((with_reducible apply pl_loadN hs); (focus (simp only [Act.eval, za, zb, zc, zd, ze, zf]; (try with_reducible rfl); done)); (with_reducible (first | exact agg_44)); (focus ((repeat (first | (with_reducible (first | assumption | exact hel _ | exact hel2 _ | exact hel3 _)) | ((with_reducible apply reads_whole); (focus (first | (with_reducible rfl) | (simp only [go_sem]; done) | (simp; done)))) | ((with_reducible apply reads_part); (focus (first | (simp [go_sem]; done) | (simp only [go_sem]; omega) | go_size)); (focus (first | (simp only [Nat.reduceAdd, Nat.zero_add, go_sem]; (try with_reducible rfl); done) | (simp [go_sem]; (try with_reducible rfl); done)))) | (with_reducible (first | (apply reads_left; assumption) | refine reads_exh (by assumption) ?_ | refine reads_exh0 (by assumption) ?_ | apply reads_next)))); done)); (focus rfl); simp only [Act.put, zg, zh, zi])
        | ((with_reducible apply mix_end hRR hs); (focus with_reducible (repeat (first | exact ent_here | apply ent_next | exact ent_last)); done); clear hs; (try clear w); intro w hs; (try simp only [star_assoc, star_emp, emp_star] at hs); clear hRR hR)
        | ((with_reducible apply mix_thaw hRR hs); (focus with_reducible (repeat (first | exact ent_here | apply ent_next | exact ent_last)); done); clear hs; (try clear w); intro w hs; (try simp only [star_assoc, star_emp, emp_star] at hs); clear hRR hR)
        | ((with_reducible apply mx_loadN hRR); (focus (simp only [Act.eval, za, zb, zc, zd, ze, zf]; (try with_reducible rfl); done)); (with_reducible (first | exact agg_44)); (focus ((repeat (first | (with_reducible (first | assumption | exact hel _ | exact hel2 _ | exact hel3 _)) | ((with_reducible apply reads_whole); (focus (first | (with_reducible rfl) | (simp only [go_sem]; done) | (simp; done)))) | ((with_reducible apply reads_part); (focus (first | (simp [go_sem]; done) | (simp only [go_sem]; omega) | go_size)); (focus (first | (simp only [Nat.reduceAdd, Nat.zero_add, go_sem]; (try with_reducible rfl); done) | (simp [go_sem]; (try with_reducible rfl); done)))) | (with_reducible (first | (apply reads_left; assumption) | refine reads_exh (by assumption) ?_ | refine reads_exh0 (by assumption) ?_ | apply reads_next)))); done)); simp only [Act.put, zg, zh, zi])
        | ((with_reducible refine mix_float ?_ ?_ ?_ (fun h hk => ?_) ?_); rotate_left 1; (focus rfl); (focus rfl); (focus (go_simp; (try (rw [if_pos (by omega)]; (try go_simp))); (try simp (disch := omega) only [IntWalk.i64_in, IntWalk.i32_in]); (try with_reducible rfl); done)); simp only [Act.put, zg, zh, zi])
        | ((with_reducible refine mix_float_skip ?_ ?_ (fun h hk => ?_) ?_); (focus rfl); (focus rfl); (focus (go_simp; done)); simp only [Act.put, zg, zh, zi]))
      go_ret
      exact ⟨_, rfl, hs.mono (ent_pu rfl (by ((repeat (first | (with_reducible (first | exact ent_refl | exact ent_emp)) | ((with_reducible apply ent_front); (focus with_reducible (repeat (first | exact ent_here | apply ent_next | exact ent_last)); done)) | (with_reducible (first | exact ent_keep | apply ent_trans ent_drop)))); done)))⟩
end Go.Proofs.YtgoifgockcpnhaaDoor

set_option linter.unusedSimpArgs false
set_option linter.unusedVariables false
namespace Go.Proofs.YtgoifgockcpnhaaDoor
open Go Go.RowKit

/-! ### bounds -/
def outE (b : Nat) (l : List EdtD) : Prop := ∀ d, d ∈ l → d.ins.size ≤ b
theorem outE_out {b : Nat} {l : List EdtD} (h : outE b l) (hb : b ≤ 10000) : outEdits l := fun d hd => Nat.le_trans (h d hd) hb
theorem apA_bnd : ∀ (l : List EdtD) (b i N : Nat) (t u : List Int) (B C : List Ed), outE b l → (∀ d, d ∈ B → d.ins.length ≤ N) → t.length + b * l.length ≤ N → apA i t B l = .ok (u, C) → u.length ≤ N ∧ ∀ d, d ∈ C → d.ins.length ≤ N
  | [], b, _, N, t, u, B, C, _, hB, hN, h => by cases h; exact ⟨by simpa using hN, hB⟩
  | e :: l, b, i, N, t, u, B, C, hl, hB, hN, h => by
    cases ha : asE t e with
    | error k => rw [apA_no ha] at h; cases h
    | ok d =>
      rw [apA_yes ha] at h
      obtain ⟨h1, _, h2, _⟩ := asE_okE ha
      have h3 := ap1_len h1
      have h4 := hl e (List.mem_cons_self ..)
      rw [List.length_cons, Nat.mul_add, Nat.mul_one] at hN
      refine apA_bnd l b (i + 1) N _ u _ C (fun d hd => hl d (List.mem_cons_of_mem _ hd)) (fun d' hd' => ?_) (by omega) h
      rcases List.mem_cons.1 hd' with rfl | hd'
      · unfold bk1
        simp only [List.length_take, List.length_drop]
        omega
      · exact hB d' hd'
theorem apR_bnd {s : ByteArray} {l : List EdtD} {b N : Nat} {u : List Int} {C : List Ed} (hl : outE b l) (hN : s.size + b * l.length ≤ N) (h : apR s l = .ok (u, C)) : u.length ≤ N ∧ ∀ d, d ∈ C → d.ins.length ≤ N := by
  unfold apR at h
  split at h
  · cases h
  · rename_i t ht
    have := runes_len ht
    exact apA_bnd l b 0 N t u [] C hl (by simp) (by omega) h
theorem apR_inC {s : ByteArray} {l : List EdtD} {u : List Int} {C : List Ed} (h : apR s l = .ok (u, C)) : (∀ c, c ∈ u → RuneI c) ∧ ∀ d, d ∈ C → ∀ c, c ∈ d.ins → RuneI c := by
  unfold apR at h
  split at h
  · cases h
  · rename_i t ht
    exact apA_in l 0 t u [] C (runes_in ht) (by simp) h
theorem rts_bnd {l : List Int} (h : ∀ c, c ∈ l → RuneI c) {n : Nat} (hn : l.length ≤ n) : (rts l).size ≤ 4 * n := by
  have h1 := (encs_len h).1
  show (encs l).toArray.size ≤ 4 * n
  rw [List.size_toArray]
  omega
theorem outE_enc {C : List Ed} {N : Nat} (hI : ∀ d, d ∈ C → ∀ c, c ∈ d.ins → RuneI c) (hN : ∀ d, d ∈ C → d.ins.length ≤ N) : outE (4 * N) (C.map encE) := fun d hd => by
  obtain ⟨e, he, rfl⟩ := List.mem_map.1 hd
  exact rts_bnd (hI e he) (hN e he)
theorem rises_sum : ∀ (l : List Ed) (k : Int), rises k l → l.length ≤ sumE l
  | [], _, _ => by simp [sumE]
  | d :: l, k, h => by
    obtain ⟨h1, _, h3⟩ := h
    have := rises_sum l _ h3
    have e : sumE (d :: l) = (d.er + d.ins.length) + sumE l := by simp [sumE]
    rw [e, List.length_cons]
    omega
theorem wk_rises (x y : List Int) : rises (-1) (wk 0 0 [] x y) := rises_wk _ (-1) 0 0 [] x y (Nat.le_refl _) (by omega)
theorem wk_len (x y : List Int) : (wk 0 0 [] x y).length ≤ x.length + y.length := by
  have h1 := rises_sum _ _ (wk_rises x y)
  rw [sumE_all] at h1
  have := (dst_len x y).1
  omega
/-! ### cut -/
def cutE (d : EdtD) : EdtD := if 40 < d.ins.size then { d with ins := d.ins.extract 0 40 } else d
def cutK (l : List EdtD) (k : Nat) : List EdtD := (l.take k).map cutE
def cutL (l : List EdtD) : List EdtD := cutK l 30
theorem cutK_snoc {l : List EdtD} {k : Nat} {d : EdtD} (h : l[k]? = some d) : cutK l (k + 1) = cutK l k ++ [cutE d] := by
  unfold cutK
  rw [List.take_add_one, h, List.map_append]
  rfl
theorem cutK_len (l : List EdtD) (k : Nat) : (cutK l k).length ≤ k := by unfold cutK; rw [List.length_map, List.length_take]; omega
theorem cutK_all {l : List EdtD} {k : Nat} (h : l.length ≤ k) (hk : k ≤ 30) : cutK l k = cutL l := by
  unfold cutL cutK
  rw [List.take_of_length_le h, List.take_of_length_le (by omega)]
theorem cutL_len (l : List EdtD) : (cutL l).length ≤ 30 := cutK_len l 30
theorem cutL_out (l : List EdtD) : outE 40 (cutL l) := fun d hd => by
  obtain ⟨e, _, rfl⟩ := List.mem_map.1 hd
  unfold cutE
  split
  · simp only [ByteArray.size_extract]; omega
  · omega
set_option maxRecDepth 20000 in
set_option maxHeartbeats 4000000 in
theorem cut_s (c0 : World) (F : HP) (v : Value) (l : List EdtD) : Spec Tryd.prog c0 19 #[v] (pu (SlR F 3 edt v l ∧ ∀ d, d ∈ l → d.ins.size ≤ 9223372036854775807) F) (fun r => row 44 3 edt r (cutL l) * F) := by
  intro w hq; obtain ⟨⟨hl, hz⟩, hs⟩ := hq.pu; clear hq
  obtain ⟨A, c, rfl⟩ := slr_form hl hs.own
  obtain ⟨_, h2, h3, _⟩ := slr_len hl hs.own
  unfold maxLen at h3
  have hmx : 0 ≤ maxLen := Nat.zero_le _
  replace hz := Lib.hid hz
  generalize hn : l.length = n at *
  replace hn := Lib.hid hn
  go_enter Tryd.func19, Tryd.ntmps19
  go_wp2_with fail
  go_loopw [3, 4] (fun ov iv wr => ∃ k : Nat, k ≤ n ∧ k ≤ 30 ∧ iv = .int .i64 k ∧ Sat c0 (row 44 3 edt ov (cutK l k) * F) wr) (fun _ iv _ => n - (intOf iv).toNat)
  case atStart => exact ⟨0, by omega, by omega, rfl, hs.mono ent_row_nil⟩
  case round =>
    clear hs
    obtain ⟨k, hk, hk3, rfl, hs⟩ := hrel
    obtain ⟨Ao, co, rfl, ho1, ho2⟩ := row_slice hs.own
    by_cases hkn : k < n
    · have hkI : (k : Int) < n := by omega
      by_cases hk4 : k < 30
      · have hk4I : (k : Int) < 30 := by omega
        obtain ⟨bl, ol, d, rfl, hd, hrd⟩ := slr_get hl (hs.own.mono ent_drop) hkn
        have hzd := hz.out d (List.mem_of_getElem? hd)
        have hck := cutK_snoc hd
        have hLl := cutK_len l k
        generalize cutK l k = L at *
        have hLm : L.length ≤ 30 := by omega
        clear hd
        obtain ⟨da, de, di⟩ := d
        dsimp only at hzd
        by_cases h40 : 40 < di.size
        · have h40I : (40 : Int) < di.size := by omega
          rw [show cutE ⟨da, de, di⟩ = ⟨da, de, di.extract 0 40⟩ by unfold cutE; rw [if_pos h40]] at hck
          replace hck := Lib.hid hck
          go_wp2_with (first
        | ((with_reducible rewrite [pl_strike_eq]); rotate_left 1; (focus rfl))
        | ((with_reducible apply pl_loadN hs); (focus (simp only [Act.eval, za, zb, zc, zd, ze, zf]; (try with_reducible rfl); done)); (with_reducible (first | exact agg_44)); (focus ((repeat (first | (with_reducible (first | assumption | exact hel _ | exact hel2 _ | exact hel3 _)) | ((with_reducible apply reads_whole); (focus (first | (with_reducible rfl) | (simp only [go_sem]; done) | (simp; done)))) | ((with_reducible apply reads_part); (focus (first | (simp [go_sem]; done) | (simp only [go_sem]; omega) | go_size)); (focus (first | (simp only [Nat.reduceAdd, Nat.zero_add, go_sem]; (try with_reducible rfl); done) | (simp [go_sem]; (try with_reducible rfl); done)))) | (with_reducible (first | (apply reads_left; assumption) | refine reads_exh (by assumption) ?_ | refine reads_exh0 (by assumption) ?_ | apply reads_next)))); done)); (focus rfl); simp only [Act.put, zg, zh, zi])
        | ((with_reducible apply pl_load1 hs); (focus (simp only [Act.eval, za, zb, zc, zd, ze, zf]; (try with_reducible rfl); done)); (focus (simp only [go_sem])); (focus ((repeat (first | (with_reducible (first | assumption | exact hec _ | exact hec2 _ | exact hec3 _ | exact hec4 _ _)) | ((with_reducible apply readc_here); (focus (first | (simp only [zc, zd, ze, go_sem]; (try with_reducible rfl); done) | (go_simp; (try with_reducible rfl); done)))) | (with_reducible (first | (apply readc_left; assumption) | refine readc_exh (by assumption) ?_ | refine readc_exh0 (by assumption) ?_ | apply readc_next)))); done)); (focus rfl); simp only [Act.put, zg, zh, zi])
        | ((with_reducible apply pl_alloc hs); (with_reducible (first | exact zero_44)); clear hs; (try clear w); intro g w hs; skip; simp only [Act.put, zg, zh, zi])
        | ((with_reducible apply pl_bs1 hs); (with_reducible (first | exact bst_22)); (focus (simp only [Act.eval, za, zb, zc, zd, ze, zf]; (try with_reducible rfl); done)); (focus (first | (with_reducible (first | exact cells_intv _ | exact cells_bytv _ | exact cells_runv _ | exact cells_slv _ _ _ | exact cells_agg _ | exact cells_int _ _ | exact cells_bool _ | exact cells_string _ | exact cells_slice _ _ _ | exact cells_pointer _ | exact cells_map _ | exact cells_iface _ _ | exact cells_nilIface | exact cells_func _ _ _)) | (exact cells_one (by assumption)))); (focus (first | (with_reducible rfl) | (simp only [go_sem]; done) | (simp; done))); clear hs; (try clear w); intro g w hs; skip; simp only [Act.put, zg, zh, zi])
        | ((with_reducible apply pl_store1 hs); (focus (simp only [Act.eval, za, zb, zc, zd, ze, zf]; (try with_reducible rfl); done)); (focus (simp only [Act.eval, za, zb, zc, zd, ze, zf]; (try with_reducible rfl); done)); (focus (simp only [go_sem])); (focus with_reducible (repeat (first | exact ent_here | apply ent_next | exact ent_last)); done); (focus (first | (simp [go_sem]; done) | (simp only [go_sem]; omega) | go_size)); (focus (first | (simp only [go_sem]; done) | (simp [go_sem]; done))); clear hs; (try clear w); intro w hs; (try simp only [zg, zh, zi, edt_s0, edt_s1, edt_s2, txt_s0, txt_s1, txt_s2, txt_s3, lnk_s0, lnk_s1, lnk_s2, nov_s0, nov_s1, nov_s2, intv_set, bytv_set, runv_set, slv_set] at hs); simp only [Act.put, zg, zh, zi])
        | ((with_reducible apply pl_storeN hs); (focus (simp only [Act.eval, za, zb, zc, zd, ze, zf]; (try with_reducible rfl); done)); (focus (simp only [Act.eval, za, zb, zc, zd, ze, zf]; (try with_reducible rfl); done)); (with_reducible (first | exact agg_44)); (focus with_reducible (repeat (first | exact ent_here | apply ent_next | exact ent_last)); done); (focus (first | (with_reducible rfl) | (simp only [go_sem]; done) | (simp; done))); (focus (first | (simp [go_sem]; done) | (simp only [go_sem]; omega) | go_size)); (focus (first | (simp only [go_sem]; done) | (simp [go_sem]; done))); (focus (first | ((with_reducible apply splice_whole); (focus (first | (with_reducible rfl) | (simp only [go_sem]; done) | (simp; done)))) | (simp [splice, go_sem]; done) | (simp only [go_sem]; (try with_reducible rfl); done))); clear hs; (try clear w); intro w hs; (try simp only [zg, zh, zi, edt_s0, edt_s1, edt_s2, txt_s0, txt_s1, txt_s2, txt_s3, lnk_s0, lnk_s1, lnk_s2, nov_s0, nov_s1, nov_s2, intv_set, bytv_set, runv_set, slv_set] at hs); simp only [Act.put, zg, zh, zi])
        | ((with_reducible apply pl_append1 hs); (with_reducible (first | exact app_22 | exact app_33 | exact app_47 | exact app_48 | exact app_80 | exact app_90 | exact app_97)); (focus (simp only [Act.eval, za, zb, zc, zd, ze, zf]; (try with_reducible rfl); done)); (first | (focus with_reducible (repeat (first | exact ent_here | apply ent_next | exact ent_last)); done) | (focus (with_reducible exact ent_row_nil)) | (focus ((with_reducible apply ent_row_of_blk); (focus with_reducible (repeat (first | exact ent_here | apply ent_next | exact ent_last)); done); (focus (simp only [go_sem]))))); (focus (simp only [Act.eval, za, zb, zc, zd, ze, zf]; (try with_reducible rfl); done)); (focus ((repeat (first | (with_reducible (first | assumption | exact hel _ | exact hel2 _ | exact hel3 _)) | ((with_reducible apply reads_whole); (focus (first | (with_reducible rfl) | (simp only [go_sem]; done) | (simp; done)))) | ((with_reducible apply reads_part); (focus (first | (simp [go_sem]; done) | (simp only [go_sem]; omega) | go_size)); (focus (first | (simp only [Nat.reduceAdd, Nat.zero_add, go_sem]; (try with_reducible rfl); done) | (simp [go_sem]; (try with_reducible rfl); done)))) | (with_reducible (first | (apply reads_left; assumption) | refine reads_exh (by assumption) ?_ | refine reads_exh0 (by assumption) ?_ | apply reads_next)))); done)); (focus (first | (simp only [maxLen] at *; omega) | (simp [maxLen] at *; omega))); (focus (first | (simp only [maxLen] at *; omega) | (simp [maxLen] at *; omega))); clear hs; (try clear w); intro Ap cq w hs; skip; simp only [Act.put, zg, zh, zi]))
          exact ⟨⟨k + 1, by omega, by omega, congrArg (Value.int .i64) (by omega), by rw [hck.out]; exact hs.mono (by ((repeat (first | (with_reducible (first | exact ent_refl | exact ent_emp)) | ((with_reducible apply ent_front); (focus with_reducible (repeat (first | exact ent_here | apply ent_next | exact ent_last)); done)) | (with_reducible (first | exact ent_keep | apply ent_trans ent_drop)))); done))⟩, by simp only [intOf]; omega⟩
        · have h40I : ¬ ((40 : Int) < di.size) := by omega
          rw [show cutE ⟨da, de, di⟩ = ⟨da, de, di⟩ by unfold cutE; rw [if_neg h40]] at hck
          replace hck := Lib.hid hck
          go_wp2_with (first
        | ((with_reducible rewrite [pl_strike_eq]); rotate_left 1; (focus rfl))
        | ((with_reducible apply pl_loadN hs); (focus (simp only [Act.eval, za, zb, zc, zd, ze, zf]; (try with_reducible rfl); done)); (with_reducible (first | exact agg_44)); (focus ((repeat (first | (with_reducible (first | assumption | exact hel _ | exact hel2 _ | exact hel3 _)) | ((with_reducible apply reads_whole); (focus (first | (with_reducible rfl) | (simp only [go_sem]; done) | (simp; done)))) | ((with_reducible apply reads_part); (focus (first | (simp [go_sem]; done) | (simp only [go_sem]; omega) | go_size)); (focus (first | (simp only [Nat.reduceAdd, Nat.zero_add, go_sem]; (try with_reducible rfl); done) | (simp [go_sem]; (try with_reducible rfl); done)))) | (with_reducible (first | (apply reads_left; assumption) | refine reads_exh (by assumption) ?_ | refine reads_exh0 (by assumption) ?_ | apply reads_next)))); done)); (focus rfl); simp only [Act.put, zg, zh, zi])
        | ((with_reducible apply pl_load1 hs); (focus (simp only [Act.eval, za, zb, zc, zd, ze, zf]; (try with_reducible rfl); done)); (focus (simp only [go_sem])); (focus ((repeat (first | (with_reducible (first | assumption | exact hec _ | exact hec2 _ | exact hec3 _ | exact hec4 _ _)) | ((with_reducible apply readc_here); (focus (first | (simp only [zc, zd, ze, go_sem]; (try with_reducible rfl); done) | (go_simp; (try with_reducible rfl); done)))) | (with_reducible (first | (apply readc_left; assumption) | refine readc_exh (by assumption) ?_ | refine readc_exh0 (by assumption) ?_ | apply readc_next)))); done)); (focus rfl); simp only [Act.put, zg, zh, zi])
        | ((with_reducible apply pl_alloc hs); (with_reducible (first | exact zero_44)); clear hs; (try clear w); intro g w hs; skip; simp only [Act.put, zg, zh, zi])
        | ((with_reducible apply pl_bs1 hs); (with_reducible (first | exact bst_22)); (focus (simp only [Act.eval, za, zb, zc, zd, ze, zf]; (try with_reducible rfl); done)); (focus (first | (with_reducible (first | exact cells_intv _ | exact cells_bytv _ | exact cells_runv _ | exact cells_slv _ _ _ | exact cells_agg _ | exact cells_int _ _ | exact cells_bool _ | exact cells_string _ | exact cells_slice _ _ _ | exact cells_pointer _ | exact cells_map _ | exact cells_iface _ _ | exact cells_nilIface | exact cells_func _ _ _)) | (exact cells_one (by assumption)))); (focus (first | (with_reducible rfl) | (simp only [go_sem]; done) | (simp; done))); clear hs; (try clear w); intro g w hs; skip; simp only [Act.put, zg, zh, zi])
        | ((with_reducible apply pl_storeN hs); (focus (simp only [Act.eval, za, zb, zc, zd, ze, zf]; (try with_reducible rfl); done)); (focus (simp only [Act.eval, za, zb, zc, zd, ze, zf]; (try with_reducible rfl); done)); (with_reducible (first | exact agg_44)); (focus with_reducible (repeat (first | exact ent_here | apply ent_next | exact ent_last)); done); (focus (first | (with_reducible rfl) | (simp only [go_sem]; done) | (simp; done))); (focus (first | (simp [go_sem]; done) | (simp only [go_sem]; omega) | go_size)); (focus (first | (simp only [go_sem]; done) | (simp [go_sem]; done))); (focus (first | ((with_reducible apply splice_whole); (focus (first | (with_reducible rfl) | (simp only [go_sem]; done) | (simp; done)))) | (simp [splice, go_sem]; done) | (simp only [go_sem]; (try with_reducible rfl); done))); clear hs; (try clear w); intro w hs; (try simp only [zg, zh, zi, edt_s0, edt_s1, edt_s2, txt_s0, txt_s1, txt_s2, txt_s3, lnk_s0, lnk_s1, lnk_s2, nov_s0, nov_s1, nov_s2, intv_set, bytv_set, runv_set, slv_set] at hs); simp only [Act.put, zg, zh, zi])
        | ((with_reducible apply pl_append1 hs); (with_reducible (first | exact app_22 | exact app_33 | exact app_47 | exact app_48 | exact app_80 | exact app_90 | exact app_97)); (focus (simp only [Act.eval, za, zb, zc, zd, ze, zf]; (try with_reducible rfl); done)); (first | (focus with_reducible (repeat (first | exact ent_here | apply ent_next | exact ent_last)); done) | (focus (with_reducible exact ent_row_nil)) | (focus ((with_reducible apply ent_row_of_blk); (focus with_reducible (repeat (first | exact ent_here | apply ent_next | exact ent_last)); done); (focus (simp only [go_sem]))))); (focus (simp only [Act.eval, za, zb, zc, zd, ze, zf]; (try with_reducible rfl); done)); (focus ((repeat (first | (with_reducible (first | assumption | exact hel _ | exact hel2 _ | exact hel3 _)) | ((with_reducible apply reads_whole); (focus (first | (with_reducible rfl) | (simp only [go_sem]; done) | (simp; done)))) | ((with_reducible apply reads_part); (focus (first | (simp [go_sem]; done) | (simp only [go_sem]; omega) | go_size)); (focus (first | (simp only [Nat.reduceAdd, Nat.zero_add, go_sem]; (try with_reducible rfl); done) | (simp [go_sem]; (try with_reducible rfl); done)))) | (with_reducible (first | (apply reads_left; assumption) | refine reads_exh (by assumption) ?_ | refine reads_exh0 (by assumption) ?_ | apply reads_next)))); done)); (focus (first | (simp only [maxLen] at *; omega) | (simp [maxLen] at *; omega))); (focus (first | (simp only [maxLen] at *; omega) | (simp [maxLen] at *; omega))); clear hs; (try clear w); intro Ap cq w hs; skip; simp only [Act.put, zg, zh, zi]))
          exact ⟨⟨k + 1, by omega, by omega, congrArg (Value.int .i64) (by omega), by rw [hck.out]; exact hs.mono (by ((repeat (first | (with_reducible (first | exact ent_refl | exact ent_emp)) | ((with_reducible apply ent_front); (focus with_reducible (repeat (first | exact ent_here | apply ent_next | exact ent_last)); done)) | (with_reducible (first | exact ent_keep | apply ent_trans ent_drop)))); done))⟩, by simp only [intOf]; omega⟩
      · obtain rfl : k = 30 := by omega
        generalize hm : (cutK l 30).length = m at *
        replace hm := Lib.hid hm
        replace hs : Sat c0 (row 44 3 edt (.slice Ao m co) (cutL l) * F) wr := hs
        go_wp2_with (first
        | ((with_reducible rewrite [pl_strike_eq]); rotate_left 1; (focus rfl)))
        (go_ret; simp only [za, zb, zc, zd, ze, zf])
        exact ⟨_, rfl, hs⟩
    · obtain rfl : n = k := by omega
      have hcl : cutK l n = cutL l := cutK_all (by have := hn.out; omega) hk3
      generalize hm : (cutK l n).length = m at *
      replace hm := Lib.hid hm
      rw [hcl] at hs
      clear hcl
      have hkI : ¬ ((n : Int) < n) := by omega
      go_wp2_with fail
      (go_ret; simp only [za, zb, zc, zd, ze, zf])
      exact ⟨_, rfl, hs⟩
end Go.Proofs.YtgoifgockcpnhaaDoor

set_option linter.unusedSimpArgs false
set_option linter.unusedVariables false
namespace Go.Proofs.YtgoifgockcpnhaaDoor
open Go Go.RowKit

theorem applyS_s (c0 : World) (F : HP) (a : Nat → Addr) (s : ByteArray) (lv : Value) (l : List EdtD) (u : List Int) (C : List Ed) (h : apR s l = .ok (u, C)) : Spec Tryd.prog c0 18 #[.string s, lv] (pu (ApPre F a s lv l) F) (fun r => pu (r = .tuple #[.string (rts u), .nilIface]) F) := by
  have := apply_s c0 F a s lv l
  unfold ApR at this
  rw [h] at this
  exact this
theorem applyN_s (c0 : World) (F : HP) (a : Nat → Addr) (s : ByteArray) (lv : Value) (l : List EdtD) (i k : Nat) (h : apR s l = .error (i, k)) : Spec Tryd.prog c0 18 #[.string s, lv] (pu (ApPre F a s lv l) F) (fun r => ex fun e : Value => pu (r = .tuple #[.string ⟨#[]⟩, e]) (RefP a (some ([⟨dfB, cAp, atV (i : Nat)⟩], k)) e * F)) := by
  have := apply_s c0 F a s lv l
  unfold ApR at this
  rw [h] at this
  exact this
theorem invertS_s (c0 : World) (F : HP) (a : Nat → Addr) (s : ByteArray) (lv : Value) (l : List EdtD) (u : List Int) (C : List Ed) (h : apR s l = .ok (u, C)) : Spec Tryd.prog c0 20 #[.string s, lv] (pu (ApPre F a s lv l) F) (fun r => ex fun v : Value => pu (r = .tuple #[v, .nilIface]) (row 44 3 edt v (C.map encE) * F)) := by
  have := invert_s c0 F a s lv l
  unfold InR at this
  rw [h] at this
  exact this
theorem invertN_s (c0 : World) (F : HP) (a : Nat → Addr) (s : ByteArray) (lv : Value) (l : List EdtD) (i k : Nat) (h : apR s l = .error (i, k)) : Spec Tryd.prog c0 20 #[.string s, lv] (pu (ApPre F a s lv l) F) (fun r => ex fun e : Value => pu (r = .tuple #[.slice none 0 0, e]) (RefP a (some ([⟨dfB, cIn, atV (i : Nat)⟩], k)) e * F)) := by
  have := invert_s c0 F a s lv l
  unfold InR at this
  rw [h] at this
  exact this
/-- What is asked of some edits ahead of Apply or Invert, less the bounds. -/
abbrev ApQ (F : HP) (a : Nat → Addr) (lv : Value) (l : List EdtD) : Prop := ErrB F a ∧ ReadC F 2 0 (.iface 125 (.pointer (some (a 2)))) ∧ TabF F ∧ SlR F 3 edt lv l
theorem spec_q {c0 : World} {F : HP} {a : Nat → Addr} {s : ByteArray} {lv : Value} {l : List EdtD} {f : FuncId} {args : Array Value} {post : Value → HP} (h : Spec Tryd.prog c0 f args (pu (ApPre F a s lv l) F) post) (h1 : s.size ≤ 10000) (h2 : l.length ≤ 300) (h3 : outEdits l) : Spec Tryd.prog c0 f args (pu (ApQ F a lv l) F) post :=
  Spec.mono h (ent_pu_l fun ⟨e1, e2, e3, e4⟩ => ent_pu ⟨e1, e2, e3, e4, h1, h2, h3⟩ ent_refl) fun _ => ent_refl
theorem slr_end {A : Option Addr} {n c : Nat} {l : List EdtD} : SlR (row 44 3 edt (.slice A n c) l) 3 edt (.slice A n c) l := fun w hw => slr_row (R := emp) edt_size w (by rwa [star_emp])
set_option maxRecDepth 20000 in
set_option maxHeartbeats 4000000 in
theorem lawBack_s (c0 : World) (F : HP) (a : Nat → Addr) (t : TxtD) (m : List EdtD) : Spec Tryd.prog c0 6 #[.agg (txt t)] (pu (ErrB F a ∧ ReadC F 2 0 (.iface 125 (.pointer (some (a 2)))) ∧ TabF F ∧ t.a.size ≤ 9223372036854775807 ∧ SlR F 3 edt (.slice t.lp t.ln t.lc) m ∧ ∀ d, d ∈ m → d.ins.size ≤ 9223372036854775807) F) (fun r => pu (r = .bool true) F) := by
  intro w hq; obtain ⟨⟨hE, hgr, hT, hA, hm, hmz⟩, hs⟩ := hq.pu; clear hq
  obtain ⟨A, B, C0, lp, ln, lc⟩ := t
  dsimp only at hA hm
  have hA2 := clipB_size A
  have hcl := cutL_len m
  have hco := cutL_out m
  have hct : ∀ F, Spec Tryd.prog c0 19 #[.slice lp ln lc] (pu (SlR F 3 edt (.slice lp ln lc) m) F) (fun r => row 44 3 edt r (cutL m) * F) := fun F w hs => by
    obtain ⟨h1, hs⟩ := hs.pu
    exact cut_s c0 F _ m w (hs.mono (ent_pu ⟨h1, hmz⟩ ent_refl))
  cases hR : apR (clipB A) (cutL m) with
  | error pk =>
    obtain ⟨i, k⟩ := pk
    have hap := fun F lv => spec_q (applyN_s c0 F a (clipB A) lv (cutL m) i k hR) (by omega) (by omega) (outE_out hco (by omega))
    have hin := fun F lv => spec_q (invertN_s c0 F a (clipB A) lv (cutL m) i k hR) (by omega) (by omega) (outE_out hco (by omega))
    clear hR hmz hco
    go_enter Tryd.func6, Tryd.ntmps6
    go_wp2_with (first
        | ((with_reducible rewrite [pl_strike_eq]); rotate_left 1; (focus rfl))
        | ((with_reducible apply wp_region_sl (G := emp) (id := 1) hs 1000); (focus (exact ent_emp_l)); (focus kernel_rfl); (focus decide +kernel); clear hs; (try clear w); intro hR w hRR hs; (try simp only [star_assoc] at hs))
        | ((with_reducible apply mx_call hs (clip2_s _ _ _)); ((((focus (simp only [zj, zk, zl, List.append_toArray, List.nil_append, List.cons_append, Act.eval, za, zb, zc, zd, ze, zf]; (try with_reducible rfl); done)); (focus ((repeat (first | (with_reducible (first | exact ent_refl | apply ent_puR)) | ((with_reducible apply ent_front); (focus with_reducible (repeat (first | exact ent_here | apply ent_next | exact ent_last)); done)) | (with_reducible (first | exact ent_keep | apply ent_trans ent_drop)) | (focus (first | (with_reducible assumption))))); done)); (focus (simp only [go_sem])); (focus (intros; with_reducible (refine in_of_sat (by assumption) ?_; repeat (first | exact ent_exh_here | exact ent_last | refine ent_pu_l (fun _ => ?_) | refine ent_ex_l (fun _ => ?_) | apply ent_exh_next)); done))))); clear hs; (try clear w); intro v w hq; (obtain ⟨rfl, hs⟩ := hq.pu); clear hq; (try simp only [star_assoc, star_emp, emp_star] at hs); (try simp only [Act.put, zg, zh, zi]))
        | ((with_reducible apply mx_call hs (hct _)); ((((focus (simp only [zj, zk, zl, List.append_toArray, List.nil_append, List.cons_append, Act.eval, za, zb, zc, zd, ze, zf]; (try with_reducible rfl); done)); (focus ((repeat (first | (with_reducible (first | exact ent_refl | apply ent_puR)) | ((with_reducible apply ent_front); (focus with_reducible (repeat (first | exact ent_here | apply ent_next | exact ent_last)); done)) | (with_reducible (first | exact ent_keep | apply ent_trans ent_drop)) | (focus (first | (focus (first | ((repeat (first | (with_reducible (first | assumption | exact slr_ro |  exact hsl _ | exact hsl2 _ | exact hsl3 _ _ _ | exact slr_nil | exact slr_row (fun _ => by simp only [go_sem]) | exact slr_one (fun _ => by simp only [go_sem]) | (apply slr_left; assumption))) | (with_reducible apply slr_next))); done) | ((repeat (first | (with_reducible (first | assumption | exact slr_ro |  exact hsl _ | exact hsl2 _ | exact hsl3 _ _ _ | exact slr_nil | exact slr_row (fun _ => by simp only [go_sem]) | exact slr_one (fun _ => by simp only [go_sem]) | (apply slr_left; assumption))) | (with_reducible (first | (apply slr_exh; focus assumption) | (apply slr_exh0; focus assumption) | apply slr_next)))); done))))))); done)); (focus (simp only [go_sem])); (focus (intros; with_reducible (refine in_of_sat (by assumption) ?_; repeat (first | exact ent_exh_here | exact ent_last | refine ent_pu_l (fun _ => ?_) | refine ent_ex_l (fun _ => ?_) | apply ent_exh_next)); done))))); clear hs; (try clear w); intro v w hq; (have hs := hq; obtain ⟨Al, cl, rfl, hl1, hl2⟩ := row_slice hs.own; have hslL := slr_end (A := Al) (n := (cutL m).length) (c := cl) (l := cutL m)); clear hq; (try simp only [star_assoc, star_emp, emp_star] at hs); (try simp only [Act.put, zg, zh, zi]))
        | ((with_reducible apply pl_call hs (hap _ _)); ((((focus (simp only [zj, zk, zl, List.append_toArray, List.nil_append, List.cons_append, Act.eval, za, zb, zc, zd, ze, zf]; (try with_reducible rfl); done)); (focus ((repeat (first | (with_reducible (first | exact ent_refl | apply ent_puR)) | ((with_reducible apply ent_front); (focus with_reducible (repeat (first | exact ent_here | apply ent_next | exact ent_last)); done)) | (with_reducible (first | exact ent_keep | apply ent_trans ent_drop)) | (focus (first | ((repeat' (first | (with_reducible apply And.intro) | (focus (first | ((repeat (first | (with_reducible (first | assumption | exact slr_ro |  exact hsl _ | exact hsl2 _ | exact hsl3 _ _ _ | exact slr_nil | exact slr_row (fun _ => by simp only [go_sem]) | exact slr_one (fun _ => by simp only [go_sem]) | (apply slr_left; assumption))) | (with_reducible apply slr_next))); done) | ((repeat (first | (with_reducible (first | assumption | exact slr_ro |  exact hsl _ | exact hsl2 _ | exact hsl3 _ _ _ | exact slr_nil | exact slr_row (fun _ => by simp only [go_sem]) | exact slr_one (fun _ => by simp only [go_sem]) | (apply slr_left; assumption))) | (with_reducible (first | (apply slr_exh; focus assumption) | (apply slr_exh0; focus assumption) | apply slr_next)))); done))) | (focus ((repeat (first | (with_reducible (first | assumption | exact hec _ | exact hec2 _ | exact hec3 _ | exact hec4 _ _)) | ((with_reducible apply readc_here); (focus (first | (simp only [zc, zd, ze, go_sem]; (try with_reducible rfl); done) | (go_simp; (try with_reducible rfl); done)))) | (with_reducible (first | (apply readc_left; assumption) | refine readc_exh (by assumption) ?_ | refine readc_exh0 (by assumption) ?_ | apply readc_next)))); done)) | (focus (with_reducible (repeat (first | assumption | (apply ErrA.left; assumption) | refine ErrA.exh (by assumption) ?_ | refine ErrA.exh0 (by assumption) ?_ | apply ErrA.next | (apply ErrB.left; assumption) | refine ErrB.exh (by assumption) ?_ | refine ErrB.exh0 (by assumption) ?_ | apply ErrB.next)); done)) | (focus (with_reducible (repeat (first | assumption | (apply TabF.left; assumption) | refine TabF.exh (by assumption) ?_ | refine TabF.exh0 (by assumption) ?_ | exact (tblF_of (by assumption)) | apply TabF.next)); done)))); done))))); done)); (focus (simp only [go_sem]))))); clear hs; (try clear w); intro v w hq; (obtain ⟨e, hq1⟩ := hq.ex; obtain ⟨rfl, hs⟩ := hq1.pu; clear hq1; obtain ⟨te, pe, rfl⟩ := refP_iface hs); clear hq; (try simp only [star_assoc, star_emp, emp_star] at hs); (try simp only [Act.put, zg, zh, zi]))
        | ((with_reducible apply pl_call hs (hin _ _)); ((((focus (simp only [zj, zk, zl, List.append_toArray, List.nil_append, List.cons_append, Act.eval, za, zb, zc, zd, ze, zf]; (try with_reducible rfl); done)); (focus ((repeat (first | (with_reducible (first | exact ent_refl | apply ent_puR)) | ((with_reducible apply ent_front); (focus with_reducible (repeat (first | exact ent_here | apply ent_next | exact ent_last)); done)) | (with_reducible (first | exact ent_keep | apply ent_trans ent_drop)) | (focus (first | ((repeat' (first | (with_reducible apply And.intro) | (focus (first | ((repeat (first | (with_reducible (first | assumption | exact slr_ro |  exact hsl _ | exact hsl2 _ | exact hsl3 _ _ _ | exact slr_nil | exact slr_row (fun _ => by simp only [go_sem]) | exact slr_one (fun _ => by simp only [go_sem]) | (apply slr_left; assumption))) | (with_reducible apply slr_next))); done) | ((repeat (first | (with_reducible (first | assumption | exact slr_ro |  exact hsl _ | exact hsl2 _ | exact hsl3 _ _ _ | exact slr_nil | exact slr_row (fun _ => by simp only [go_sem]) | exact slr_one (fun _ => by simp only [go_sem]) | (apply slr_left; assumption))) | (with_reducible (first | (apply slr_exh; focus assumption) | (apply slr_exh0; focus assumption) | apply slr_next)))); done))) | (focus ((repeat (first | (with_reducible (first | assumption | exact hec _ | exact hec2 _ | exact hec3 _ | exact hec4 _ _)) | ((with_reducible apply readc_here); (focus (first | (simp only [zc, zd, ze, go_sem]; (try with_reducible rfl); done) | (go_simp; (try with_reducible rfl); done)))) | (with_reducible (first | (apply readc_left; assumption) | refine readc_exh (by assumption) ?_ | refine readc_exh0 (by assumption) ?_ | apply readc_next)))); done)) | (focus (with_reducible (repeat (first | assumption | (apply ErrA.left; assumption) | refine ErrA.exh (by assumption) ?_ | refine ErrA.exh0 (by assumption) ?_ | apply ErrA.next | (apply ErrB.left; assumption) | refine ErrB.exh (by assumption) ?_ | refine ErrB.exh0 (by assumption) ?_ | apply ErrB.next)); done)) | (focus (with_reducible (repeat (first | assumption | (apply TabF.left; assumption) | refine TabF.exh (by assumption) ?_ | refine TabF.exh0 (by assumption) ?_ | exact (tblF_of (by assumption)) | apply TabF.next)); done)))); done))))); done)); (focus (simp only [go_sem]))))); clear hs; (try clear w); intro v w hq; (obtain ⟨e, hq1⟩ := hq.ex; obtain ⟨rfl, hs⟩ := hq1.pu; clear hq1; obtain ⟨tf, pf, rfl⟩ := refP_iface hs); clear hq; (try simp only [star_assoc, star_emp, emp_star] at hs); (try simp only [Act.put, zg, zh, zi]))
        | ((with_reducible apply pl_call hs (wakes_s _ _ a)); ((((focus (simp only [zj, zk, zl, List.append_toArray, List.nil_append, List.cons_append, Act.eval, za, zb, zc, zd, ze, zf]; (try with_reducible rfl); done)); (focus ((repeat (first | (with_reducible (first | exact ent_refl | apply ent_puR)) | ((with_reducible apply ent_front); (focus with_reducible (repeat (first | exact ent_here | apply ent_next | exact ent_last)); done)) | (with_reducible (first | exact ent_keep | apply ent_trans ent_drop)) | (focus (first | ((repeat' (first | (with_reducible apply And.intro) | (focus (with_reducible (repeat (first | assumption | (apply ErrA.left; assumption) | refine ErrA.exh (by assumption) ?_ | refine ErrA.exh0 (by assumption) ?_ | apply ErrA.next | (apply ErrB.left; assumption) | refine ErrB.exh (by assumption) ?_ | refine ErrB.exh0 (by assumption) ?_ | apply ErrB.next)); done)) | (focus (with_reducible (repeat (first | assumption | (apply TabF.left; assumption) | refine TabF.exh (by assumption) ?_ | refine TabF.exh0 (by assumption) ?_ | exact (tblF_of (by assumption)) | apply TabF.next)); done)))); done))))); done)); (focus (simp only [go_sem]))))); clear hs; (try clear w); intro v w hq; (obtain ⟨rfl, hs⟩ := hq.pu); clear hq; (try simp only [star_assoc, star_emp, emp_star] at hs); (try simp only [Act.put, zg, zh, zi]))
        | ((with_reducible apply pl_box hs); (focus (simp only [Act.eval, za, zb, zc, zd, ze, zf]; (try with_reducible rfl); done)); (focus (first | (with_reducible (first | exact cells_intv _ | exact cells_bytv _ | exact cells_runv _ | exact cells_slv _ _ _ | exact cells_agg _ | exact cells_int _ _ | exact cells_bool _ | exact cells_string _ | exact cells_slice _ _ _ | exact cells_pointer _ | exact cells_map _ | exact cells_iface _ _ | exact cells_nilIface | exact cells_func _ _ _)) | (exact cells_one (by assumption)))); clear hs; (try clear w); intro g w hs; skip; simp only [Act.put, zg, zh, zi])
        | ((with_reducible apply mix_end hRR hs); (focus with_reducible (repeat (first | exact ent_here | apply ent_next | exact ent_last)); done); clear hs; (try clear w); intro w hs; (try simp only [star_assoc, star_emp, emp_star] at hs); clear hRR hR)
        | ((with_reducible apply mx_load1 hRR); (focus (simp only [Act.eval, za, zb, zc, zd, ze, zf]; (try with_reducible rfl); done)); (focus (simp only [go_sem])); (focus ((repeat (first | (with_reducible (first | assumption | exact hec _ | exact hec2 _ | exact hec3 _ | exact hec4 _ _)) | ((with_reducible apply readc_here); (focus (first | (simp only [zc, zd, ze, go_sem]; (try with_reducible rfl); done) | (go_simp; (try with_reducible rfl); done)))) | (with_reducible (first | (apply readc_left; assumption) | refine readc_exh (by assumption) ?_ | refine readc_exh0 (by assumption) ?_ | apply readc_next)))); done)); simp only [Act.put, zg, zh, zi])
        | ((with_reducible refine mix_float ?_ ?_ ?_ (fun h hk => ?_) ?_); rotate_left 1; (focus rfl); (focus rfl); (focus (go_simp; (try (rw [if_pos (by omega)]; (try go_simp))); (try simp (disch := omega) only [IntWalk.i64_in, IntWalk.i32_in]); (try with_reducible rfl); done)); simp only [Act.put, zg, zh, zi]))
    (go_ret; simp only [za, zb, zc, zd, ze, zf])
    exact ⟨_, rfl, hs.mono (ent_pu (by simp) (by ((repeat (first | (with_reducible (first | exact ent_refl | exact ent_emp)) | ((with_reducible apply ent_front); (focus with_reducible (repeat (first | exact ent_here | apply ent_next | exact ent_last)); done)) | (with_reducible (first | exact ent_keep | apply ent_trans ent_drop)))); done)))⟩
  | ok xy =>
    obtain ⟨u, C⟩ := xy
    have hap := fun F lv => spec_q (applyS_s c0 F a (clipB A) lv (cutL m) u C hR) (by omega) (by omega) (outE_out hco (by omega))
    have hin := fun F lv => spec_q (invertS_s c0 F a (clipB A) lv (cutL m) u C hR) (by omega) (by omega) (outE_out hco (by omega))
    obtain ⟨hu1, hC1⟩ := apR_bnd (N := 1320) hco (by omega) hR
    obtain ⟨huI, hCI⟩ := apR_inC hR
    obtain ⟨t0, D, ht0, hCl, hRb⟩ := apR_back hR
    have hlen : (C.map encE).length = (cutL m).length := by rw [List.length_map, hCl]
    have hus := rts_bnd huI hu1
    have hap2 : ∀ F lv, Spec Tryd.prog c0 18 #[.string (rts u), lv] (pu (ApQ F a lv (C.map encE)) F) (fun r => pu (r = .tuple #[.string (clipB A), .nilIface]) F) := fun F lv => by
      have := spec_q (applyS_s c0 F a (rts u) lv (C.map encE) t0 D hRb) (by omega) (by omega) (outE_out (outE_enc hCI hC1) (by omega))
      rwa [rts_runes ht0] at this
    clear hR hmz hco hu1 hC1 huI hCI ht0 hCl hRb
    replace hlen := Lib.hid hlen
    go_enter Tryd.func6, Tryd.ntmps6
    go_wp2_with (first
        | ((with_reducible rewrite [pl_strike_eq]); rotate_left 1; (focus rfl))
        | ((with_reducible apply wp_region_sl (G := emp) (id := 1) hs 1000); (focus (exact ent_emp_l)); (focus kernel_rfl); (focus decide +kernel); clear hs; (try clear w); intro hR w hRR hs; (try simp only [star_assoc] at hs))
        | ((with_reducible apply mx_call hs (clip2_s _ _ _)); ((((focus (simp only [zj, zk, zl, List.append_toArray, List.nil_append, List.cons_append, Act.eval, za, zb, zc, zd, ze, zf]; (try with_reducible rfl); done)); (focus ((repeat (first | (with_reducible (first | exact ent_refl | apply ent_puR)) | ((with_reducible apply ent_front); (focus with_reducible (repeat (first | exact ent_here | apply ent_next | exact ent_last)); done)) | (with_reducible (first | exact ent_keep | apply ent_trans ent_drop)) | (focus (first | (with_reducible assumption))))); done)); (focus (simp only [go_sem])); (focus (intros; with_reducible (refine in_of_sat (by assumption) ?_; repeat (first | exact ent_exh_here | exact ent_last | refine ent_pu_l (fun _ => ?_) | refine ent_ex_l (fun _ => ?_) | apply ent_exh_next)); done))))); clear hs; (try clear w); intro v w hq; (obtain ⟨rfl, hs⟩ := hq.pu); clear hq; (try simp only [star_assoc, star_emp, emp_star] at hs); (try simp only [Act.put, zg, zh, zi]))
        | ((with_reducible apply mx_call hs (hct _)); ((((focus (simp only [zj, zk, zl, List.append_toArray, List.nil_append, List.cons_append, Act.eval, za, zb, zc, zd, ze, zf]; (try with_reducible rfl); done)); (focus ((repeat (first | (with_reducible (first | exact ent_refl | apply ent_puR)) | ((with_reducible apply ent_front); (focus with_reducible (repeat (first | exact ent_here | apply ent_next | exact ent_last)); done)) | (with_reducible (first | exact ent_keep | apply ent_trans ent_drop)) | (focus (first | (focus (first | ((repeat (first | (with_reducible (first | assumption | exact slr_ro |  exact hsl _ | exact hsl2 _ | exact hsl3 _ _ _ | exact slr_nil | exact slr_row (fun _ => by simp only [go_sem]) | exact slr_one (fun _ => by simp only [go_sem]) | (apply slr_left; assumption))) | (with_reducible apply slr_next))); done) | ((repeat (first | (with_reducible (first | assumption | exact slr_ro |  exact hsl _ | exact hsl2 _ | exact hsl3 _ _ _ | exact slr_nil | exact slr_row (fun _ => by simp only [go_sem]) | exact slr_one (fun _ => by simp only [go_sem]) | (apply slr_left; assumption))) | (with_reducible (first | (apply slr_exh; focus assumption) | (apply slr_exh0; focus assumption) | apply slr_next)))); done))))))); done)); (focus (simp only [go_sem])); (focus (intros; with_reducible (refine in_of_sat (by assumption) ?_; repeat (first | exact ent_exh_here | exact ent_last | refine ent_pu_l (fun _ => ?_) | refine ent_ex_l (fun _ => ?_) | apply ent_exh_next)); done))))); clear hs; (try clear w); intro v w hq; (have hs := hq; obtain ⟨Al, cl, rfl, hl1, hl2⟩ := row_slice hs.own; have hslL := slr_end (A := Al) (n := (cutL m).length) (c := cl) (l := cutL m)); clear hq; (try simp only [star_assoc, star_emp, emp_star] at hs); (try simp only [Act.put, zg, zh, zi]))
        | ((with_reducible apply pl_call hs (hap _ _)); ((((focus (simp only [zj, zk, zl, List.append_toArray, List.nil_append, List.cons_append, Act.eval, za, zb, zc, zd, ze, zf]; (try with_reducible rfl); done)); (focus ((repeat (first | (with_reducible (first | exact ent_refl | apply ent_puR)) | ((with_reducible apply ent_front); (focus with_reducible (repeat (first | exact ent_here | apply ent_next | exact ent_last)); done)) | (with_reducible (first | exact ent_keep | apply ent_trans ent_drop)) | (focus (first | ((repeat' (first | (with_reducible apply And.intro) | (focus (first | ((repeat (first | (with_reducible (first | assumption | exact slr_ro |  exact hsl _ | exact hsl2 _ | exact hsl3 _ _ _ | exact slr_nil | exact slr_row (fun _ => by simp only [go_sem]) | exact slr_one (fun _ => by simp only [go_sem]) | (apply slr_left; assumption))) | (with_reducible apply slr_next))); done) | ((repeat (first | (with_reducible (first | assumption | exact slr_ro |  exact hsl _ | exact hsl2 _ | exact hsl3 _ _ _ | exact slr_nil | exact slr_row (fun _ => by simp only [go_sem]) | exact slr_one (fun _ => by simp only [go_sem]) | (apply slr_left; assumption))) | (with_reducible (first | (apply slr_exh; focus assumption) | (apply slr_exh0; focus assumption) | apply slr_next)))); done))) | (focus ((repeat (first | (with_reducible (first | assumption | exact hec _ | exact hec2 _ | exact hec3 _ | exact hec4 _ _)) | ((with_reducible apply readc_here); (focus (first | (simp only [zc, zd, ze, go_sem]; (try with_reducible rfl); done) | (go_simp; (try with_reducible rfl); done)))) | (with_reducible (first | (apply readc_left; assumption) | refine readc_exh (by assumption) ?_ | refine readc_exh0 (by assumption) ?_ | apply readc_next)))); done)) | (focus (with_reducible (repeat (first | assumption | (apply ErrA.left; assumption) | refine ErrA.exh (by assumption) ?_ | refine ErrA.exh0 (by assumption) ?_ | apply ErrA.next | (apply ErrB.left; assumption) | refine ErrB.exh (by assumption) ?_ | refine ErrB.exh0 (by assumption) ?_ | apply ErrB.next)); done)) | (focus (with_reducible (repeat (first | assumption | (apply TabF.left; assumption) | refine TabF.exh (by assumption) ?_ | refine TabF.exh0 (by assumption) ?_ | exact (tblF_of (by assumption)) | apply TabF.next)); done)))); done))))); done)); (focus (simp only [go_sem]))))); clear hs; (try clear w); intro v w hq; (obtain ⟨rfl, hs⟩ := hq.pu); clear hq; (try simp only [star_assoc, star_emp, emp_star] at hs); (try simp only [Act.put, zg, zh, zi]))
        | ((with_reducible apply pl_call hs (hap2 _ _)); ((((focus (simp only [zj, zk, zl, List.append_toArray, List.nil_append, List.cons_append, Act.eval, za, zb, zc, zd, ze, zf]; (try with_reducible rfl); done)); (focus ((repeat (first | (with_reducible (first | exact ent_refl | apply ent_puR)) | ((with_reducible apply ent_front); (focus with_reducible (repeat (first | exact ent_here | apply ent_next | exact ent_last)); done)) | (with_reducible (first | exact ent_keep | apply ent_trans ent_drop)) | (focus (first | ((repeat' (first | (with_reducible apply And.intro) | (focus (first | ((repeat (first | (with_reducible (first | assumption | exact slr_ro |  exact hsl _ | exact hsl2 _ | exact hsl3 _ _ _ | exact slr_nil | exact slr_row (fun _ => by simp only [go_sem]) | exact slr_one (fun _ => by simp only [go_sem]) | (apply slr_left; assumption))) | (with_reducible apply slr_next))); done) | ((repeat (first | (with_reducible (first | assumption | exact slr_ro |  exact hsl _ | exact hsl2 _ | exact hsl3 _ _ _ | exact slr_nil | exact slr_row (fun _ => by simp only [go_sem]) | exact slr_one (fun _ => by simp only [go_sem]) | (apply slr_left; assumption))) | (with_reducible (first | (apply slr_exh; focus assumption) | (apply slr_exh0; focus assumption) | apply slr_next)))); done))) | (focus ((repeat (first | (with_reducible (first | assumption | exact hec _ | exact hec2 _ | exact hec3 _ | exact hec4 _ _)) | ((with_reducible apply readc_here); (focus (first | (simp only [zc, zd, ze, go_sem]; (try with_reducible rfl); done) | (go_simp; (try with_reducible rfl); done)))) | (with_reducible (first | (apply readc_left; assumption) | refine readc_exh (by assumption) ?_ | refine readc_exh0 (by assumption) ?_ | apply readc_next)))); done)) | (focus (with_reducible (repeat (first | assumption | (apply ErrA.left; assumption) | refine ErrA.exh (by assumption) ?_ | refine ErrA.exh0 (by assumption) ?_ | apply ErrA.next | (apply ErrB.left; assumption) | refine ErrB.exh (by assumption) ?_ | refine ErrB.exh0 (by assumption) ?_ | apply ErrB.next)); done)) | (focus (with_reducible (repeat (first | assumption | (apply TabF.left; assumption) | refine TabF.exh (by assumption) ?_ | refine TabF.exh0 (by assumption) ?_ | exact (tblF_of (by assumption)) | apply TabF.next)); done)))); done))))); done)); (focus (simp only [go_sem]))))); clear hs; (try clear w); intro v w hq; (obtain ⟨rfl, hs⟩ := hq.pu); clear hq; (try simp only [star_assoc, star_emp, emp_star] at hs); (try simp only [Act.put, zg, zh, zi]))
        | ((with_reducible apply pl_call hs (hin _ _)); ((((focus (simp only [zj, zk, zl, List.append_toArray, List.nil_append, List.cons_append, Act.eval, za, zb, zc, zd, ze, zf]; (try with_reducible rfl); done)); (focus ((repeat (first | (with_reducible (first | exact ent_refl | apply ent_puR)) | ((with_reducible apply ent_front); (focus with_reducible (repeat (first | exact ent_here | apply ent_next | exact ent_last)); done)) | (with_reducible (first | exact ent_keep | apply ent_trans ent_drop)) | (focus (first | ((repeat' (first | (with_reducible apply And.intro) | (focus (first | ((repeat (first | (with_reducible (first | assumption | exact slr_ro |  exact hsl _ | exact hsl2 _ | exact hsl3 _ _ _ | exact slr_nil | exact slr_row (fun _ => by simp only [go_sem]) | exact slr_one (fun _ => by simp only [go_sem]) | (apply slr_left; assumption))) | (with_reducible apply slr_next))); done) | ((repeat (first | (with_reducible (first | assumption | exact slr_ro |  exact hsl _ | exact hsl2 _ | exact hsl3 _ _ _ | exact slr_nil | exact slr_row (fun _ => by simp only [go_sem]) | exact slr_one (fun _ => by simp only [go_sem]) | (apply slr_left; assumption))) | (with_reducible (first | (apply slr_exh; focus assumption) | (apply slr_exh0; focus assumption) | apply slr_next)))); done))) | (focus ((repeat (first | (with_reducible (first | assumption | exact hec _ | exact hec2 _ | exact hec3 _ | exact hec4 _ _)) | ((with_reducible apply readc_here); (focus (first | (simp only [zc, zd, ze, go_sem]; (try with_reducible rfl); done) | (go_simp; (try with_reducible rfl); done)))) | (with_reducible (first | (apply readc_left; assumption) | refine readc_exh (by assumption) ?_ | refine readc_exh0 (by assumption) ?_ | apply readc_next)))); done)) | (focus (with_reducible (repeat (first | assumption | (apply ErrA.left; assumption) | refine ErrA.exh (by assumption) ?_ | refine ErrA.exh0 (by assumption) ?_ | apply ErrA.next | (apply ErrB.left; assumption) | refine ErrB.exh (by assumption) ?_ | refine ErrB.exh0 (by assumption) ?_ | apply ErrB.next)); done)) | (focus (with_reducible (repeat (first | assumption | (apply TabF.left; assumption) | refine TabF.exh (by assumption) ?_ | refine TabF.exh0 (by assumption) ?_ | exact (tblF_of (by assumption)) | apply TabF.next)); done)))); done))))); done)); (focus (simp only [go_sem]))))); clear hs; (try clear w); intro v w hq; (obtain ⟨vb, hq1⟩ := hq.ex; obtain ⟨rfl, hs⟩ := hq1.pu; clear hq1; obtain ⟨Ab, cb, he, hb1, hb2⟩ := row_slice hs.own; rw [hlen.out] at he; subst he); clear hq; (try simp only [star_assoc, star_emp, emp_star] at hs); (try simp only [Act.put, zg, zh, zi]))
        | ((with_reducible apply pl_call hs (wakes_s _ _ a)); ((((focus (simp only [zj, zk, zl, List.append_toArray, List.nil_append, List.cons_append, Act.eval, za, zb, zc, zd, ze, zf]; (try with_reducible rfl); done)); (focus ((repeat (first | (with_reducible (first | exact ent_refl | apply ent_puR)) | ((with_reducible apply ent_front); (focus with_reducible (repeat (first | exact ent_here | apply ent_next | exact ent_last)); done)) | (with_reducible (first | exact ent_keep | apply ent_trans ent_drop)) | (focus (first | ((repeat' (first | (with_reducible apply And.intro) | (focus (with_reducible (repeat (first | assumption | (apply ErrA.left; assumption) | refine ErrA.exh (by assumption) ?_ | refine ErrA.exh0 (by assumption) ?_ | apply ErrA.next | (apply ErrB.left; assumption) | refine ErrB.exh (by assumption) ?_ | refine ErrB.exh0 (by assumption) ?_ | apply ErrB.next)); done)) | (focus (with_reducible (repeat (first | assumption | (apply TabF.left; assumption) | refine TabF.exh (by assumption) ?_ | refine TabF.exh0 (by assumption) ?_ | exact (tblF_of (by assumption)) | apply TabF.next)); done)))); done))))); done)); (focus (simp only [go_sem]))))); clear hs; (try clear w); intro v w hq; (obtain ⟨rfl, hs⟩ := hq.pu); clear hq; (try simp only [star_assoc, star_emp, emp_star] at hs); (try simp only [Act.put, zg, zh, zi]))
        | ((with_reducible apply pl_box hs); (focus (simp only [Act.eval, za, zb, zc, zd, ze, zf]; (try with_reducible rfl); done)); (focus (first | (with_reducible (first | exact cells_intv _ | exact cells_bytv _ | exact cells_runv _ | exact cells_slv _ _ _ | exact cells_agg _ | exact cells_int _ _ | exact cells_bool _ | exact cells_string _ | exact cells_slice _ _ _ | exact cells_pointer _ | exact cells_map _ | exact cells_iface _ _ | exact cells_nilIface | exact cells_func _ _ _)) | (exact cells_one (by assumption)))); clear hs; (try clear w); intro g w hs; skip; simp only [Act.put, zg, zh, zi])
        | ((with_reducible apply mix_end hRR hs); (focus with_reducible (repeat (first | exact ent_here | apply ent_next | exact ent_last)); done); clear hs; (try clear w); intro w hs; (try simp only [star_assoc, star_emp, emp_star] at hs); clear hRR hR)
        | ((with_reducible apply mx_load1 hRR); (focus (simp only [Act.eval, za, zb, zc, zd, ze, zf]; (try with_reducible rfl); done)); (focus (simp only [go_sem])); (focus ((repeat (first | (with_reducible (first | assumption | exact hec _ | exact hec2 _ | exact hec3 _ | exact hec4 _ _)) | ((with_reducible apply readc_here); (focus (first | (simp only [zc, zd, ze, go_sem]; (try with_reducible rfl); done) | (go_simp; (try with_reducible rfl); done)))) | (with_reducible (first | (apply readc_left; assumption) | refine readc_exh (by assumption) ?_ | refine readc_exh0 (by assumption) ?_ | apply readc_next)))); done)); simp only [Act.put, zg, zh, zi])
        | ((with_reducible refine mix_float ?_ ?_ ?_ (fun h hk => ?_) ?_); rotate_left 1; (focus rfl); (focus rfl); (focus (go_simp; (try (rw [if_pos (by omega)]; (try go_simp))); (try simp (disch := omega) only [IntWalk.i64_in, IntWalk.i32_in]); (try with_reducible rfl); done)); simp only [Act.put, zg, zh, zi]))
    (go_ret; simp only [za, zb, zc, zd, ze, zf])
    exact ⟨_, rfl, hs.mono (ent_pu (by simp) (by ((repeat (first | (with_reducible (first | exact ent_refl | exact ent_emp)) | ((with_reducible apply ent_front); (focus with_reducible (repeat (first | exact ent_here | apply ent_next | exact ent_last)); done)) | (with_reducible (first | exact ent_keep | apply ent_trans ent_drop)))); done)))⟩
end Go.Proofs.YtgoifgockcpnhaaDoor

set_option linter.unusedSimpArgs false
set_option linter.unusedVariables false
namespace Go.Proofs.YtgoifgockcpnhaaDoor
open Go Go.RowKit

theorem editsS_s (c0 : World) (F : HP) (a : Nat → Addr) (A B : ByteArray) (x y : List Int) (hR : txtR A B = .ok (x, y)) : Spec Tryd.prog c0 17 #[.string A, .string B] (pu (ErrB F a ∧ TabF F ∧ A.size ≤ 1000000 ∧ B.size ≤ 1000000) F) (fun r => ex fun v : Value => pu (r = .tuple #[v, .nilIface]) (row 44 3 edt v ((wk 0 0 [] x y).map encE) * F)) := by
  have := edits_s c0 F a A B
  unfold EdR at this
  rw [hR] at this
  exact this
theorem editsN_s (c0 : World) (F : HP) (a : Nat → Addr) (A B : ByteArray) (p : Int) (k : Nat) (hR : txtR A B = .error (p, k)) : Spec Tryd.prog c0 17 #[.string A, .string B] (pu (ErrB F a ∧ TabF F ∧ A.size ≤ 1000000 ∧ B.size ≤ 1000000) F) (fun r => ex fun e : Value => pu (r = .tuple #[.slice none 0 0, e]) (RefP a (some ([⟨dfB, cEd, p⟩], k)) e * F)) := by
  have := edits_s c0 F a A B
  unfold EdR at this
  rw [hR] at this
  exact this
theorem distS_s (c0 : World) (F : HP) (a : Nat → Addr) (A B : ByteArray) (x y : List Int) (hR : txtR A B = .ok (x, y)) : Spec Tryd.prog c0 13 #[.string A, .string B] (pu (ErrB F a ∧ TabF F ∧ A.size ≤ 1000000 ∧ B.size ≤ 1000000) F) (fun r => pu (r = .tuple #[.int .i64 (dst x y : Nat), .nilIface]) F) := by
  have := distance_s c0 F a A B
  unfold DiR at this
  rw [hR] at this
  exact this
theorem lenI_get {s : ByteArray} (h : ¬ lenI s < 0) : ∃ x, runesL s.data.toList = some x := by
  rcases Option.eq_none_or_eq_some (runesL s.data.toList) with hx | ⟨x, hx⟩
  · rw [lenI_none hx] at h; omega
  · exact ⟨x, hx⟩
theorem lenI_no {s : ByteArray} (h : lenI s < 0) : runesL s.data.toList = none := by
  rcases Option.eq_none_or_eq_some (runesL s.data.toList) with hx | ⟨x, hx⟩
  · exact hx
  · rw [lenI_some hx] at h; omega
theorem sumE_take {E : List Ed} {k : Nat} {d : Ed} (h : E[k]? = some d) : sumE (E.take (k + 1)) = sumE (E.take k) + (d.er + d.ins.length) := by
  rw [List.take_add_one, h, sumE_append]
  simp [sumE]
theorem sumE_le {E : List Ed} {k : Nat} : sumE (E.take k) ≤ sumE E := by
  conv => rhs; rw [← List.take_append_drop k E, sumE_append]
  omega
theorem rises_step {E : List Ed} {k : Nat} {d : Ed} {j : Int} (h : rises j (E.drop k)) (hd : E[k]? = some d) : 1 ≤ d.er + d.ins.length ∧ j < d.at_ ∧ rises (d.at_ + d.ins.length) (E.drop (k + 1)) := by
  rw [drop_getG hd] at h
  exact h
set_option maxRecDepth 20000 in
set_option maxHeartbeats 8000000 in
theorem lawShort_s (c0 : World) (F : HP) (a : Nat → Addr) (A B : ByteArray) : Spec Tryd.prog c0 5 #[.string A, .string B] (pu (ErrB F a ∧ ReadC F 2 0 (.iface 125 (.pointer (some (a 2)))) ∧ TabF F ∧ A.size ≤ 9223372036854775807 ∧ B.size ≤ 9223372036854775807) F) (fun r => pu (r = .bool true) F) := by
  intro w hq; obtain ⟨⟨hE, hgr, hT, hA, hB⟩, hs⟩ := hq.pu; clear hq
  have hA2 := clipB_size A
  have hB2 := clipB_size B
  by_cases hla : lenI (clipB A) < 0
  · obtain ⟨p, k, hR⟩ := txt_bad (A := clipB A) (B := clipB B) (.inl (lenI_no hla))
    have hed := fun F => editsN_s c0 F a _ _ p k hR
    clear hR
    go_enter Tryd.func5, Tryd.ntmps5
    go_wp2_with (first
        | ((with_reducible rewrite [pl_strike_eq]); rotate_left 1; (focus rfl))
        | ((with_reducible apply pl_call hs (clip2_s _ _ _)); ((((focus (simp only [zj, zk, zl, List.append_toArray, List.nil_append, List.cons_append, Act.eval, za, zb, zc, zd, ze, zf]; (try with_reducible rfl); done)); (focus ((repeat (first | (with_reducible (first | exact ent_refl | apply ent_puR)) | ((with_reducible apply ent_front); (focus with_reducible (repeat (first | exact ent_here | apply ent_next | exact ent_last)); done)) | (with_reducible (first | exact ent_keep | apply ent_trans ent_drop)) | (focus (first | (with_reducible assumption))))); done)); (focus (simp only [go_sem]))))); clear hs; (try clear w); intro v w hq; (obtain ⟨rfl, hs⟩ := hq.pu); clear hq; (try simp only [star_assoc, star_emp, emp_star] at hs); (try simp only [Act.put, zg, zh, zi]))
        | ((with_reducible apply pl_call hs (length_s _ _ _)); ((((focus (simp only [zj, zk, zl, List.append_toArray, List.nil_append, List.cons_append, Act.eval, za, zb, zc, zd, ze, zf]; (try with_reducible rfl); done)); (focus ((repeat (first | (with_reducible (first | exact ent_refl | apply ent_puR)) | ((with_reducible apply ent_front); (focus with_reducible (repeat (first | exact ent_here | apply ent_next | exact ent_last)); done)) | (with_reducible (first | exact ent_keep | apply ent_trans ent_drop)) | (focus (first | ((repeat' (first | omega)); done))))); done)); (focus (simp only [go_sem]))))); clear hs; (try clear w); intro v w hq; (obtain ⟨rfl, hs⟩ := hq.pu); clear hq; (try simp only [star_assoc, star_emp, emp_star] at hs); (try simp only [Act.put, zg, zh, zi]))
        | ((with_reducible apply pl_call hs (hed _)); ((((focus (simp only [zj, zk, zl, List.append_toArray, List.nil_append, List.cons_append, Act.eval, za, zb, zc, zd, ze, zf]; (try with_reducible rfl); done)); (focus ((repeat (first | (with_reducible (first | exact ent_refl | apply ent_puR)) | ((with_reducible apply ent_front); (focus with_reducible (repeat (first | exact ent_here | apply ent_next | exact ent_last)); done)) | (with_reducible (first | exact ent_keep | apply ent_trans ent_drop)) | (focus (first | ((repeat' (first | (with_reducible assumption) | (with_reducible apply And.intro) | omega)); done))))); done)); (focus (simp only [go_sem]))))); clear hs; (try clear w); intro v w hq; (obtain ⟨e, hq1⟩ := hq.ex; obtain ⟨rfl, hs⟩ := hq1.pu; clear hq1; obtain ⟨te, pe, rfl⟩ := refP_iface hs); clear hq; (try simp only [star_assoc, star_emp, emp_star] at hs); (try simp only [Act.put, zg, zh, zi]))
        | ((with_reducible apply pl_call hs (wakes_s _ _ a)); ((((focus (simp only [zj, zk, zl, List.append_toArray, List.nil_append, List.cons_append, Act.eval, za, zb, zc, zd, ze, zf]; (try with_reducible rfl); done)); (focus ((repeat (first | (with_reducible (first | exact ent_refl | apply ent_puR)) | ((with_reducible apply ent_front); (focus with_reducible (repeat (first | exact ent_here | apply ent_next | exact ent_last)); done)) | (with_reducible (first | exact ent_keep | apply ent_trans ent_drop)) | (focus (first | ((repeat' (first | (with_reducible apply And.intro) | (focus (with_reducible (repeat (first | assumption | (apply ErrA.left; assumption) | refine ErrA.exh (by assumption) ?_ | refine ErrA.exh0 (by assumption) ?_ | apply ErrA.next | (apply ErrB.left; assumption) | refine ErrB.exh (by assumption) ?_ | refine ErrB.exh0 (by assumption) ?_ | apply ErrB.next)); done)) | (focus (with_reducible (repeat (first | assumption | (apply TabF.left; assumption) | refine TabF.exh (by assumption) ?_ | refine TabF.exh0 (by assumption) ?_ | exact (tblF_of (by assumption)) | apply TabF.next)); done)))); done))))); done)); (focus (simp only [go_sem]))))); clear hs; (try clear w); intro v w hq; (obtain ⟨rfl, hs⟩ := hq.pu); clear hq; (try simp only [star_assoc, star_emp, emp_star] at hs); (try simp only [Act.put, zg, zh, zi])))
    (go_ret; simp only [za, zb, zc, zd, ze, zf])
    exact ⟨_, rfl, hs.mono (ent_pu (by simp) (by ((repeat (first | (with_reducible (first | exact ent_refl | exact ent_emp)) | ((with_reducible apply ent_front); (focus with_reducible (repeat (first | exact ent_here | apply ent_next | exact ent_last)); done)) | (with_reducible (first | exact ent_keep | apply ent_trans ent_drop)))); done)))⟩
  · by_cases hlb : lenI (clipB B) < 0
    · obtain ⟨p, k, hR⟩ := txt_bad (A := clipB A) (B := clipB B) (.inr (lenI_no hlb))
      have hed := fun F => editsN_s c0 F a _ _ p k hR
      clear hR
      go_enter Tryd.func5, Tryd.ntmps5
      go_wp2_with (first
        | ((with_reducible rewrite [pl_strike_eq]); rotate_left 1; (focus rfl))
        | ((with_reducible apply pl_call hs (clip2_s _ _ _)); ((((focus (simp only [zj, zk, zl, List.append_toArray, List.nil_append, List.cons_append, Act.eval, za, zb, zc, zd, ze, zf]; (try with_reducible rfl); done)); (focus ((repeat (first | (with_reducible (first | exact ent_refl | apply ent_puR)) | ((with_reducible apply ent_front); (focus with_reducible (repeat (first | exact ent_here | apply ent_next | exact ent_last)); done)) | (with_reducible (first | exact ent_keep | apply ent_trans ent_drop)) | (focus (first | (with_reducible assumption))))); done)); (focus (simp only [go_sem]))))); clear hs; (try clear w); intro v w hq; (obtain ⟨rfl, hs⟩ := hq.pu); clear hq; (try simp only [star_assoc, star_emp, emp_star] at hs); (try simp only [Act.put, zg, zh, zi]))
        | ((with_reducible apply pl_call hs (length_s _ _ _)); ((((focus (simp only [zj, zk, zl, List.append_toArray, List.nil_append, List.cons_append, Act.eval, za, zb, zc, zd, ze, zf]; (try with_reducible rfl); done)); (focus ((repeat (first | (with_reducible (first | exact ent_refl | apply ent_puR)) | ((with_reducible apply ent_front); (focus with_reducible (repeat (first | exact ent_here | apply ent_next | exact ent_last)); done)) | (with_reducible (first | exact ent_keep | apply ent_trans ent_drop)) | (focus (first | ((repeat' (first | omega)); done))))); done)); (focus (simp only [go_sem]))))); clear hs; (try clear w); intro v w hq; (obtain ⟨rfl, hs⟩ := hq.pu); clear hq; (try simp only [star_assoc, star_emp, emp_star] at hs); (try simp only [Act.put, zg, zh, zi]))
        | ((with_reducible apply pl_call hs (hed _)); ((((focus (simp only [zj, zk, zl, List.append_toArray, List.nil_append, List.cons_append, Act.eval, za, zb, zc, zd, ze, zf]; (try with_reducible rfl); done)); (focus ((repeat (first | (with_reducible (first | exact ent_refl | apply ent_puR)) | ((with_reducible apply ent_front); (focus with_reducible (repeat (first | exact ent_here | apply ent_next | exact ent_last)); done)) | (with_reducible (first | exact ent_keep | apply ent_trans ent_drop)) | (focus (first | ((repeat' (first | (with_reducible assumption) | (with_reducible apply And.intro) | omega)); done))))); done)); (focus (simp only [go_sem]))))); clear hs; (try clear w); intro v w hq; (obtain ⟨e, hq1⟩ := hq.ex; obtain ⟨rfl, hs⟩ := hq1.pu; clear hq1; obtain ⟨te, pe, rfl⟩ := refP_iface hs); clear hq; (try simp only [star_assoc, star_emp, emp_star] at hs); (try simp only [Act.put, zg, zh, zi]))
        | ((with_reducible apply pl_call hs (wakes_s _ _ a)); ((((focus (simp only [zj, zk, zl, List.append_toArray, List.nil_append, List.cons_append, Act.eval, za, zb, zc, zd, ze, zf]; (try with_reducible rfl); done)); (focus ((repeat (first | (with_reducible (first | exact ent_refl | apply ent_puR)) | ((with_reducible apply ent_front); (focus with_reducible (repeat (first | exact ent_here | apply ent_next | exact ent_last)); done)) | (with_reducible (first | exact ent_keep | apply ent_trans ent_drop)) | (focus (first | ((repeat' (first | (with_reducible apply And.intro) | (focus (with_reducible (repeat (first | assumption | (apply ErrA.left; assumption) | refine ErrA.exh (by assumption) ?_ | refine ErrA.exh0 (by assumption) ?_ | apply ErrA.next | (apply ErrB.left; assumption) | refine ErrB.exh (by assumption) ?_ | refine ErrB.exh0 (by assumption) ?_ | apply ErrB.next)); done)) | (focus (with_reducible (repeat (first | assumption | (apply TabF.left; assumption) | refine TabF.exh (by assumption) ?_ | refine TabF.exh0 (by assumption) ?_ | exact (tblF_of (by assumption)) | apply TabF.next)); done)))); done))))); done)); (focus (simp only [go_sem]))))); clear hs; (try clear w); intro v w hq; (obtain ⟨rfl, hs⟩ := hq.pu); clear hq; (try simp only [star_assoc, star_emp, emp_star] at hs); (try simp only [Act.put, zg, zh, zi])))
      (go_ret; simp only [za, zb, zc, zd, ze, zf])
      exact ⟨_, rfl, hs.mono (ent_pu (by simp) (by ((repeat (first | (with_reducible (first | exact ent_refl | exact ent_emp)) | ((with_reducible apply ent_front); (focus with_reducible (repeat (first | exact ent_here | apply ent_next | exact ent_last)); done)) | (with_reducible (first | exact ent_keep | apply ent_trans ent_drop)))); done)))⟩
    · obtain ⟨x, hx⟩ := lenI_get hla
      obtain ⟨y, hy⟩ := lenI_get hlb
      have hR := txt_small hx hy (by omega) (by omega)
      have hed := fun F => editsS_s c0 F a _ _ x y hR
      have hdi := fun F => distS_s c0 F a _ _ x y hR
      have hcm := fun F => commonS_s c0 F a _ _ x y hR
      have lx := runes_len hx
      have ly := runes_len hy
      have hIx := runes_in hx
      have hIy := runes_in hy
      have hEl := wk_len x y
      have hEb : ∀ d, d ∈ wk 0 0 [] x y → d.at_ ≤ 120 ∧ d.er ≤ 120 ∧ d.ins.length ≤ 120 ∧ ∀ c, c ∈ d.ins → RuneI c := fun d hd => by
        obtain ⟨h1, h2, h3, h4⟩ := wk_ins_in _ 0 0 [] x y d (Nat.le_refl _) hd
        simp only [List.length_nil] at h2 h3 h4
        refine ⟨by omega, by omega, by omega, fun c hc => ?_⟩
        rcases h1 c hc with h | h
        · cases h
        · exact hIy c h
      have hap : ∀ F lv, Spec Tryd.prog c0 18 #[.string (clipB A), lv] (pu (ApQ F a lv ((wk 0 0 [] x y).map encE)) F) (fun r => pu (r = .tuple #[.string (clipB B), .nilIface]) F) := fun F lv => by
        obtain ⟨D, hD⟩ := apR_edits hx hy
        have := spec_q (applyS_s c0 F a (clipB A) lv ((wk 0 0 [] x y).map encE) y D hD) (by omega) (by rw [List.length_map]; omega) (outE_out (outE_enc (N := 120) (fun d hd => (hEb d hd).2.2.2) (fun d hd => (hEb d hd).2.2.1)) (by omega))
        rwa [rts_runes hy] at this
      have hlx := lenI_some hx
      have hly := lenI_some hy
      have hsum := sumE_all x y
      have hris := wk_rises x y
      have hcl := cmn_len _ x y (Nat.le_refl _)
      have hcI := cmn_in (y := y) hIx
      have hcc := lenI_some (runes_rts hcI)
      have hrc := rts_small hcI (n := 120) (by have := (cmn_sub _ x y (Nat.le_refl _)).1.length_le; omega)
      have hdl := (dst_len x y).1
      have hab : dst x y = 0 ↔ clipB A = clipB B := ⟨fun h => by have := dst_zero h; subst this; rw [← rts_runes hx, ← rts_runes hy], fun h => by rw [h, hy] at hx; cases hx; exact dst_self x⟩
      have hle : ∀ F d, d ∈ wk 0 0 [] x y → Spec Tryd.prog c0 11 #[.string (rts d.ins)] F (fun r => pu (r = .int .i64 d.ins.length) F) := fun F d hd => by
        obtain ⟨_, _, h3, h4⟩ := hEb d hd
        have := length_s c0 F (rts d.ins)
        rw [lenI_some (runes_rts h4)] at this
        have h5 := rts_bnd h4 h3
        exact this.mono (ent_pu (by omega) ent_refl) fun _ => ent_refl
      have hlA : ∀ F, Spec Tryd.prog c0 11 #[.string (clipB A)] F (fun r => pu (r = .int .i64 x.length) F) := fun F => by
        have := length_s c0 F (clipB A)
        rw [hlx] at this
        exact this.mono (ent_pu (by omega) ent_refl) fun _ => ent_refl
      have hlB : ∀ F, Spec Tryd.prog c0 11 #[.string (clipB B)] F (fun r => pu (r = .int .i64 y.length) F) := fun F => by
        have := length_s c0 F (clipB B)
        rw [hly] at this
        exact this.mono (ent_pu (by omega) ent_refl) fun _ => ent_refl
      have hlC : ∀ F, Spec Tryd.prog c0 11 #[.string (rts (cmn x y))] F (fun r => pu (r = .int .i64 (cmn x y).length) F) := fun F => by
        have := length_s c0 F (rts (cmn x y))
        rw [hcc] at this
        exact this.mono (ent_pu (by omega) ent_refl) fun _ => ent_refl
      clear hR hla hlb hIx hIy hlx hly hcI hcc hx hy
      have hdI : (dst x y : Int) ≤ (x.length : Int) + (y.length : Int) - 2 * ((cmn x y).length : Int) := by omega
      have hdI2 : (x.length : Int) + (y.length : Int) - 2 * ((cmn x y).length : Int) ≤ (dst x y : Int) := by omega
      clear hcl
      replace hab := Lib.hid hab
      replace hEb := Lib.hid hEb
      replace hle := Lib.hid hle
      have hlE : ((wk 0 0 [] x y).map encE).length = (wk 0 0 [] x y).length := List.length_map ..
      generalize wk 0 0 [] x y = E at *
      generalize rts (cmn x y) = cb at *
      generalize (cmn x y).length = cn at *
      generalize x.length = xn at *
      generalize y.length = yn at *
      generalize hn : E.length = n at *
      go_enter Tryd.func5, Tryd.ntmps5
      go_wp2_with (first
        | ((with_reducible rewrite [pl_strike_eq]); rotate_left 1; (focus rfl))
        | ((with_reducible apply pl_call hs (clip2_s _ _ _)); ((((focus (simp only [zj, zk, zl, List.append_toArray, List.nil_append, List.cons_append, Act.eval, za, zb, zc, zd, ze, zf]; (try with_reducible rfl); done)); (focus ((repeat (first | (with_reducible (first | exact ent_refl | apply ent_puR)) | ((with_reducible apply ent_front); (focus with_reducible (repeat (first | exact ent_here | apply ent_next | exact ent_last)); done)) | (with_reducible (first | exact ent_keep | apply ent_trans ent_drop)) | (focus (first | (with_reducible assumption))))); done)); (focus (simp only [go_sem]))))); clear hs; (try clear w); intro v w hq; (obtain ⟨rfl, hs⟩ := hq.pu); clear hq; (try simp only [star_assoc, star_emp, emp_star] at hs); (try simp only [Act.put, zg, zh, zi]))
        | ((with_reducible apply pl_call hs (hlA _)); ((((focus (simp only [zj, zk, zl, List.append_toArray, List.nil_append, List.cons_append, Act.eval, za, zb, zc, zd, ze, zf]; (try with_reducible rfl); done)); (focus ((repeat (first | (with_reducible (first | exact ent_refl | apply ent_puR)) | ((with_reducible apply ent_front); (focus with_reducible (repeat (first | exact ent_here | apply ent_next | exact ent_last)); done)) | (with_reducible (first | exact ent_keep | apply ent_trans ent_drop)) | (fail))); done)); (focus (simp only [go_sem]))))); clear hs; (try clear w); intro v w hq; (obtain ⟨rfl, hs⟩ := hq.pu); clear hq; (try simp only [star_assoc, star_emp, emp_star] at hs); (try simp only [Act.put, zg, zh, zi]))
        | ((with_reducible apply pl_call hs (hlB _)); ((((focus (simp only [zj, zk, zl, List.append_toArray, List.nil_append, List.cons_append, Act.eval, za, zb, zc, zd, ze, zf]; (try with_reducible rfl); done)); (focus ((repeat (first | (with_reducible (first | exact ent_refl | apply ent_puR)) | ((with_reducible apply ent_front); (focus with_reducible (repeat (first | exact ent_here | apply ent_next | exact ent_last)); done)) | (with_reducible (first | exact ent_keep | apply ent_trans ent_drop)) | (fail))); done)); (focus (simp only [go_sem]))))); clear hs; (try clear w); intro v w hq; (obtain ⟨rfl, hs⟩ := hq.pu); clear hq; (try simp only [star_assoc, star_emp, emp_star] at hs); (try simp only [Act.put, zg, zh, zi]))
        | ((with_reducible apply pl_call hs (hed _)); ((((focus (simp only [zj, zk, zl, List.append_toArray, List.nil_append, List.cons_append, Act.eval, za, zb, zc, zd, ze, zf]; (try with_reducible rfl); done)); (focus ((repeat (first | (with_reducible (first | exact ent_refl | apply ent_puR)) | ((with_reducible apply ent_front); (focus with_reducible (repeat (first | exact ent_here | apply ent_next | exact ent_last)); done)) | (with_reducible (first | exact ent_keep | apply ent_trans ent_drop)) | (focus (first | ((repeat' (first | (with_reducible assumption) | (with_reducible apply And.intro) | omega)); done))))); done)); (focus (simp only [go_sem]))))); clear hs; (try clear w); intro v w hq; (obtain ⟨v, hq1⟩ := hq.ex; obtain ⟨rfl, hs⟩ := hq1.pu; clear hq1; obtain ⟨Av, cv, he, hv1, hv2⟩ := row_slice hs.own; rw [hlE] at he; subst he); clear hq; (try simp only [star_assoc, star_emp, emp_star] at hs); (try simp only [Act.put, zg, zh, zi]))
        | ((with_reducible apply pl_call hs (hdi _)); ((((focus (simp only [zj, zk, zl, List.append_toArray, List.nil_append, List.cons_append, Act.eval, za, zb, zc, zd, ze, zf]; (try with_reducible rfl); done)); (focus ((repeat (first | (with_reducible (first | exact ent_refl | apply ent_puR)) | ((with_reducible apply ent_front); (focus with_reducible (repeat (first | exact ent_here | apply ent_next | exact ent_last)); done)) | (with_reducible (first | exact ent_keep | apply ent_trans ent_drop)) | (focus (first | ((repeat' (first | (with_reducible apply And.intro) | omega | (focus (with_reducible (repeat (first | assumption | (apply ErrA.left; assumption) | refine ErrA.exh (by assumption) ?_ | refine ErrA.exh0 (by assumption) ?_ | apply ErrA.next | (apply ErrB.left; assumption) | refine ErrB.exh (by assumption) ?_ | refine ErrB.exh0 (by assumption) ?_ | apply ErrB.next)); done)) | (focus (with_reducible (repeat (first | assumption | (apply TabF.left; assumption) | refine TabF.exh (by assumption) ?_ | refine TabF.exh0 (by assumption) ?_ | exact (tblF_of (by assumption)) | apply TabF.next)); done)))); done))))); done)); (focus (simp only [go_sem]))))); clear hs; (try clear w); intro v w hq; (obtain ⟨rfl, hs⟩ := hq.pu); clear hq; (try simp only [star_assoc, star_emp, emp_star] at hs); (try simp only [Act.put, zg, zh, zi]))
        | ((with_reducible apply pl_call hs (hcm _)); ((((focus (simp only [zj, zk, zl, List.append_toArray, List.nil_append, List.cons_append, Act.eval, za, zb, zc, zd, ze, zf]; (try with_reducible rfl); done)); (focus ((repeat (first | (with_reducible (first | exact ent_refl | apply ent_puR)) | ((with_reducible apply ent_front); (focus with_reducible (repeat (first | exact ent_here | apply ent_next | exact ent_last)); done)) | (with_reducible (first | exact ent_keep | apply ent_trans ent_drop)) | (focus (first | ((repeat' (first | (with_reducible apply And.intro) | omega | (focus (with_reducible (repeat (first | assumption | (apply ErrA.left; assumption) | refine ErrA.exh (by assumption) ?_ | refine ErrA.exh0 (by assumption) ?_ | apply ErrA.next | (apply ErrB.left; assumption) | refine ErrB.exh (by assumption) ?_ | refine ErrB.exh0 (by assumption) ?_ | apply ErrB.next)); done)) | (focus (with_reducible (repeat (first | assumption | (apply TabF.left; assumption) | refine TabF.exh (by assumption) ?_ | refine TabF.exh0 (by assumption) ?_ | exact (tblF_of (by assumption)) | apply TabF.next)); done)))); done))))); done)); (focus (simp only [go_sem]))))); clear hs; (try clear w); intro v w hq; (obtain ⟨rfl, hs⟩ := hq.pu); clear hq; (try simp only [star_assoc, star_emp, emp_star] at hs); (try simp only [Act.put, zg, zh, zi]))
        | ((with_reducible apply pl_call hs (hap _ _)); ((((focus (simp only [zj, zk, zl, List.append_toArray, List.nil_append, List.cons_append, Act.eval, za, zb, zc, zd, ze, zf]; (try with_reducible rfl); done)); (focus ((repeat (first | (with_reducible (first | exact ent_refl | apply ent_puR)) | ((with_reducible apply ent_front); (focus with_reducible (repeat (first | exact ent_here | apply ent_next | exact ent_last)); done)) | (with_reducible (first | exact ent_keep | apply ent_trans ent_drop)) | (focus (first | ((repeat' (first | (with_reducible apply And.intro) | (focus (first | ((repeat (first | (with_reducible (first | assumption | exact slr_ro |  exact hsl _ | exact hsl2 _ | exact hsl3 _ _ _ | exact slr_nil | exact slr_row (fun _ => by simp only [go_sem]) | exact slr_one (fun _ => by simp only [go_sem]) | (apply slr_left; assumption))) | (with_reducible apply slr_next))); done) | ((repeat (first | (with_reducible (first | assumption | exact slr_ro |  exact hsl _ | exact hsl2 _ | exact hsl3 _ _ _ | exact slr_nil | exact slr_row (fun _ => by simp only [go_sem]) | exact slr_one (fun _ => by simp only [go_sem]) | (apply slr_left; assumption))) | (with_reducible (first | (apply slr_exh; focus assumption) | (apply slr_exh0; focus assumption) | apply slr_next)))); done))) | (focus ((repeat (first | (with_reducible (first | assumption | exact hec _ | exact hec2 _ | exact hec3 _ | exact hec4 _ _)) | ((with_reducible apply readc_here); (focus (first | (simp only [zc, zd, ze, go_sem]; (try with_reducible rfl); done) | (go_simp; (try with_reducible rfl); done)))) | (with_reducible (first | (apply readc_left; assumption) | refine readc_exh (by assumption) ?_ | refine readc_exh0 (by assumption) ?_ | apply readc_next)))); done)) | (focus (with_reducible (repeat (first | assumption | (apply ErrA.left; assumption) | refine ErrA.exh (by assumption) ?_ | refine ErrA.exh0 (by assumption) ?_ | apply ErrA.next | (apply ErrB.left; assumption) | refine ErrB.exh (by assumption) ?_ | refine ErrB.exh0 (by assumption) ?_ | apply ErrB.next)); done)) | (focus (with_reducible (repeat (first | assumption | (apply TabF.left; assumption) | refine TabF.exh (by assumption) ?_ | refine TabF.exh0 (by assumption) ?_ | exact (tblF_of (by assumption)) | apply TabF.next)); done)))); done))))); done)); (focus (simp only [go_sem]))))); clear hs; (try clear w); intro v w hq; (obtain ⟨rfl, hs⟩ := hq.pu); clear hq; (try simp only [star_assoc, star_emp, emp_star] at hs); (try simp only [Act.put, zg, zh, zi])))
      go_loopw [15, 16, 17] (fun sv lv iv wr => ∃ (k : Nat) (j : Int), k ≤ n ∧ iv = .int .i64 k ∧ sv = .int .i64 (sumE (E.take k) : Nat) ∧ lv = .int .i64 j ∧ -1 ≤ j ∧ j ≤ 240 ∧ Hid (rises j (E.drop k)) ∧ Sat c0 (row 44 3 edt (.slice Av n cv) (E.map encE) * F) wr) (fun _ _ iv _ => n - (intOf iv).toNat)
      case atStart => exact ⟨0, -1, by omega, rfl, rfl, rfl, by omega, by omega, Lib.hid hris, hs.mono (by ((repeat (first | (with_reducible (first | exact ent_refl | exact ent_emp)) | ((with_reducible apply ent_front); (focus with_reducible (repeat (first | exact ent_here | apply ent_next | exact ent_last)); done)) | (with_reducible (first | exact ent_keep | apply ent_trans ent_drop)))); done))⟩
      case round =>
        clear hs hris
        replace hn := Lib.hid hn
        replace hlE := Lib.hid hlE
        obtain ⟨k, j, hk, rfl, rfl, rfl, hj1, hj2, hrs, hs⟩ := hrel
        by_cases hkn : k < n
        · have hkI : (k : Int) < n := by omega
          obtain ⟨d, hd⟩ : ∃ d, E[k]? = some d := ⟨_, List.getElem?_eq_getElem (by have := hn.out; omega)⟩
          obtain ⟨h1, h2, h3, h4⟩ := hEb.out d (List.mem_of_getElem? hd)
          have hled := fun F => hle.out F d (List.mem_of_getElem? hd)
          obtain ⟨r1, r2, r3⟩ := rises_step hrs.out hd
          have hst := sumE_take hd
          have hsl := sumE_le (E := E) (k := k)
          obtain ⟨g, cap, he⟩ := edts_row_some hs.own (by have := hlE.out; omega)
          obtain ⟨rfl, hx9, rfl⟩ := sl_inj he
          clear hx9
          have hde : (E.map encE)[k]? = some ⟨d.at_, d.er, rts d.ins⟩ := by rw [List.getElem?_map, hd]; rfl
          have hec := edt_row_get (g := g) (n := n) (c := cv) (k := 0) (v := .int .i64 (d.at_ : Nat)) hde (by omega) (edt_0 _)
          simp only [Nat.add_zero] at hec
          have hec2 := edt_row_get (g := g) (n := n) (c := cv) (k := 1) (v := .int .i64 (d.er : Nat)) hde (by omega) (edt_1 _)
          have hec3 := edt_row_get (g := g) (n := n) (c := cv) (k := 2) (v := .string (rts d.ins)) hde (by omega) (edt_2 _)
          have r1I : (1 : Int) ≤ (d.er : Int) + (d.ins.length : Int) := by omega
          have hsm : sumE (E.take k) ≤ 300 := by omega
          clear h4 hd hde he r1
          replace r3 := Lib.hid r3
          replace hst := Lib.hid hst
          generalize sumE (E.take k) = S at *
          generalize E.map encE = L at *
          generalize rts d.ins = ri at *
          go_wp2_with (first
        | ((with_reducible rewrite [pl_strike_eq]); rotate_left 1; (focus rfl))
        | ((with_reducible apply pl_guard_f); (focus rfl); (focus rfl); all_goals (intro hb; first | (cases hb; done) | ((try simp at hb); first | contradiction | ((have hF : False := (by omega)); (cases hF; done)) | (simp only [Act.put, zg, zh, zi]))))
        | ((with_reducible apply pl_call hs (hled _)); ((((focus (simp only [zj, zk, zl, List.append_toArray, List.nil_append, List.cons_append, Act.eval, za, zb, zc, zd, ze, zf]; (try with_reducible rfl); done)); (focus ((repeat (first | (with_reducible (first | exact ent_refl | apply ent_puR)) | ((with_reducible apply ent_front); (focus with_reducible (repeat (first | exact ent_here | apply ent_next | exact ent_last)); done)) | (with_reducible (first | exact ent_keep | apply ent_trans ent_drop)) | (fail))); done)); (focus (simp only [go_sem]))))); clear hs; (try clear w); intro v w hq; (obtain ⟨rfl, hs⟩ := hq.pu); clear hq; (try simp only [star_assoc, star_emp, emp_star] at hs); (try simp only [Act.put, zg, zh, zi]))
        | ((with_reducible apply pl_load1 hs); (focus (simp only [Act.eval, za, zb, zc, zd, ze, zf]; (try with_reducible rfl); done)); (focus (simp only [go_sem])); (focus ((repeat (first | (with_reducible (first | assumption | exact hec _ | exact hec2 _ | exact hec3 _ | exact hec4 _ _)) | ((with_reducible apply readc_here); (focus (first | (simp only [zc, zd, ze, go_sem]; (try with_reducible rfl); done) | (go_simp; (try with_reducible rfl); done)))) | (with_reducible (first | (apply readc_left; assumption) | refine readc_exh (by assumption) ?_ | refine readc_exh0 (by assumption) ?_ | apply readc_next)))); done)); (focus rfl); simp only [Act.put, zg, zh, zi]))
          exact ⟨⟨k + 1, (d.at_ : Int) + d.ins.length, by omega, congrArg (Value.int .i64) (by omega), congrArg (Value.int .i64) (by rw [hst.out]; omega), congrArg (Value.int .i64) (by omega), by omega, by omega, r3, hs.mono (by ((repeat (first | (with_reducible (first | exact ent_refl | exact ent_emp)) | ((with_reducible apply ent_front); (focus with_reducible (repeat (first | exact ent_here | apply ent_next | exact ent_last)); done)) | (with_reducible (first | exact ent_keep | apply ent_trans ent_drop)))); done))⟩, by simp only [intOf]; omega⟩
        · obtain rfl : k = n := by omega
          rw [List.take_of_length_le (by have := hn.out; omega), hsum]
          clear hsum
          have heqF : ((xn : Int) + (yn : Int) - 2 * (cn : Int) == (0 : Int)) = ((clipB A).toList == (clipB B).toList) := by
            rw [Bool.eq_iff_iff, beq_iff_eq, beq_iff_eq, ba_iff]
            exact ⟨fun h => hab.out.1 (by omega), fun h => by have := hab.out.2 h; omega⟩
          go_wp2_with (first
        | ((with_reducible rewrite [pl_strike_eq]); rotate_left 1; (focus rfl))
        | ((with_reducible apply pl_call hs (hlC _)); ((((focus (simp only [zj, zk, zl, List.append_toArray, List.nil_append, List.cons_append, Act.eval, za, zb, zc, zd, ze, zf]; (try with_reducible rfl); done)); (focus ((repeat (first | (with_reducible (first | exact ent_refl | apply ent_puR)) | ((with_reducible apply ent_front); (focus with_reducible (repeat (first | exact ent_here | apply ent_next | exact ent_last)); done)) | (with_reducible (first | exact ent_keep | apply ent_trans ent_drop)) | (fail))); done)); (focus (simp only [go_sem]))))); clear hs; (try clear w); intro v w hq; (obtain ⟨rfl, hs⟩ := hq.pu); clear hq; (try simp only [star_assoc, star_emp, emp_star] at hs); (try simp only [Act.put, zg, zh, zi]))
        | ((with_reducible apply pl_call hs (wakes_s _ _ a)); ((((focus (simp only [zj, zk, zl, List.append_toArray, List.nil_append, List.cons_append, Act.eval, za, zb, zc, zd, ze, zf]; (try with_reducible rfl); done)); (focus ((repeat (first | (with_reducible (first | exact ent_refl | apply ent_puR)) | ((with_reducible apply ent_front); (focus with_reducible (repeat (first | exact ent_here | apply ent_next | exact ent_last)); done)) | (with_reducible (first | exact ent_keep | apply ent_trans ent_drop)) | (focus (first | ((repeat' (first | (with_reducible apply And.intro) | (focus (with_reducible (repeat (first | assumption | (apply ErrA.left; assumption) | refine ErrA.exh (by assumption) ?_ | refine ErrA.exh0 (by assumption) ?_ | apply ErrA.next | (apply ErrB.left; assumption) | refine ErrB.exh (by assumption) ?_ | refine ErrB.exh0 (by assumption) ?_ | apply ErrB.next)); done)) | (focus (with_reducible (repeat (first | assumption | (apply TabF.left; assumption) | refine TabF.exh (by assumption) ?_ | refine TabF.exh0 (by assumption) ?_ | exact (tblF_of (by assumption)) | apply TabF.next)); done)))); done))))); done)); (focus (simp only [go_sem]))))); clear hs; (try clear w); intro v w hq; (obtain ⟨rfl, hs⟩ := hq.pu); clear hq; (try simp only [star_assoc, star_emp, emp_star] at hs); (try simp only [Act.put, zg, zh, zi])))
          (go_ret; simp only [za, zb, zc, zd, ze, zf])
          exact ⟨_, rfl, hs.mono (ent_pu (by simp) (by ((repeat (first | (with_reducible (first | exact ent_refl | exact ent_emp)) | ((with_reducible apply ent_front); (focus with_reducible (repeat (first | exact ent_here | apply ent_next | exact ent_last)); done)) | (with_reducible (first | exact ent_keep | apply ent_trans ent_drop)))); done)))⟩
end Go.Proofs.YtgoifgockcpnhaaDoor

set_option linter.unusedSimpArgs false
set_option linter.unusedVariables false
namespace Go.Proofs.YtgoifgockcpnhaaDoor
open Go Go.RowKit Go.ChangeShapes Go.WideShapes Go.ChangeAt

theorem errC_laid {W : World} {l : List (String × DataW Unit)} (h : laidMetH Tryd.prog l W) (hh : (l.all fun x => x.2.handleName?.isNone) = true)
    (hm : ∀ k, k = 2 ∨ k = 3 ∨ k = 13 → (nmE k, DataW.iface "*errors.errorString" (.ptr (.agg [.lit (.string (txE k))]))) ∈ l) : ∃ a, ErrB (Exh (fun b => W.heap[b]?)) a ∧ ReadC (Exh (fun b => W.heap[b]?)) 2 0 (.iface 125 (.pointer (some (a 2)))) := by
  have hk : ∀ k, k = 2 ∨ k = 3 ∨ k = 13 → ∃ x : Addr, ReadC (Exh (fun b => W.heap[b]?)) (gl k) 0 (.iface 125 (.pointer (some x))) := fun k h2 => by
    obtain ⟨x, hx, _⟩ := errAt_of_laid h hh (hm k h2) (nmE_at k (by omega) (by omega)).1 (nmE_at k (by omega) (by omega)).2
    exact ⟨x, hx⟩
  obtain ⟨x0, e0⟩ := hk 2 (by decide)
  obtain ⟨x1, e1⟩ := hk 3 (by decide)
  obtain ⟨x2, e2⟩ := hk 13 (by decide)
  refine ⟨fun k => if k = 2 then x0 else if k = 3 then x1 else x2, ⟨fun k h2 => ?_⟩, e0⟩
  rcases h2 with rfl | rfl
  · exact e1
  · exact e2
end Go.Proofs.YtgoifgockcpnhaaDoor

set_option linter.unusedSimpArgs false
set_option linter.unusedVariables false
set_option linter.unusedSimpArgs false
set_option linter.unusedVariables false
namespace Go.Proofs.YtgoifgockcpnhaaDoor.diffShortestLaw
open Go Go.RowKit Go.ChangeShapes Go.WideShapes Go.ChangeAt
theorem own : ownKnob Tryd.prog.godebug = none := by kernel_rfl
set_option maxRecDepth 100000 in
theorem contract (H : Type) (enc : TypeId × Value → H) (W : World) (base : Nat) (args : Array Value) (ds gs : List (DataW H)) (before : List MemPlace)
    (hval : ∀ (j : Nat) t v, Tryd.f5.params[j]? = some t → args[j]? = some v → Value.okWide Tryd.prog W .any base t v)
    (hW : DataW.Whole enc Tryd.prog Tryd.f5.params.toList Rows.diffShortestSpec.vars false W args.toList ds gs before) (hL : laidMetH Tryd.prog Rows.diffShortestRow.laid W) :
    Calls Tryd.prog 5 args W fun e W' => ∃ v, e = .returned v ∧ Rows.diffShortestSpec.post enc Tryd.prog Tryd.f5 false true false false W args v W' := by
  have hW' := hW
  obtain ⟨p, q, hA0, hV, rfl, hfz, hnd⟩ := hW
  have hA : DataW.TrodAll enc Tryd.prog W 0 (fun _ => true) true Tryd.f5.params.toList args.toList ds p := hA0
  rw [Tryd.params5] at hA hval
  obtain ⟨rfl, rfl⟩ := trodVars_none hV
  obtain ⟨v0, vs0, d0, ds0, p0, q0, ha0, rfl, rfl, t0, r0⟩ := trodAll_cons hA
  obtain ⟨v1, vs1, d1, ds1, p1, q1, ha1, rfl, rfl, t1, r1⟩ := trodAll_cons r0
  obtain ⟨rfl, rfl, rfl⟩ := trodAll_nil r1
  obtain rfl : args = #[v0, v1] := by
    apply Array.toList_inj.1
    simp [ha0, ha1]
  obtain ⟨a0, rfl, i0⟩ := arg_str Tryd.underlying9 (hval 0 _ _ rfl rfl) t0
  obtain ⟨a1, rfl, i1⟩ := arg_str Tryd.underlying9 (hval 1 _ _ rfl rfl) t1
  refine law_contract (tb := 4) rfl rfl Tryd.underlying4 ⟨rfl, rfl, rfl⟩ (by kernel_rfl) (by kernel_rfl) hW' (law_of_spec fun c0 F hF hO => ?_)
  subst hF
  exact by
    obtain ⟨ad, hE, hG⟩ := errC_laid (l := Rows.diffShortestRow.laid) hL (by kernel_rfl) (by intro k h2; rcases h2 with rfl | rfl | rfl <;> (repeat (first | exact List.Mem.head _ | apply List.Mem.tail)))
    have hT := tabF_laid (l := Rows.diffShortestRow.laid) hL (by kernel_rfl) (d3 := Rows.laid_unicode_utf8_first) (d4 := Rows.laid_unicode_utf8_acceptRanges) (by kernel_rfl) (by kernel_rfl) (by repeat (first | exact List.Mem.head _ | apply List.Mem.tail)) (by repeat (first | exact List.Mem.head _ | apply List.Mem.tail))
    exact fun w hs => lawShort_s c0 _ ad a0 a1 w (hs.mono (ent_pu ⟨hE, hG, hT, i0, i1⟩ ent_refl))
theorem laid_met (os : Os) : laidMetH Tryd.prog Rows.diffShortestRow.laid ((tabWorld os).forCall (fun _ _ => 0) ⟨#[], (#[.string ⟨#[]⟩, .string ⟨#[]⟩] : Array Value), []⟩).memory :=
  laidMetH_of_parts3 (fuel := 8) (laidMet_of_run' 8 (by kernel_rfl) (by kernel_rfl)) (by kernel_rfl) (by kernel_rfl)
theorem reads (os : Os) {H : Type} (enc : TypeId × Value → H) : ∃ places, DataW.whole enc Tryd.prog ((tabWorld os).forCall (fun _ _ => 0) ⟨#[], (#[.string ⟨#[]⟩, .string ⟨#[]⟩] : Array Value), []⟩).memory Tryd.f5.params.toList Rows.diffShortestSpec.vars false (#[.string ⟨#[]⟩, .string ⟨#[]⟩] : Array Value).toList 8 = some ([.lit (.string []), .lit (.string [])], [], places) :=
  ⟨[], by kernel_rfl⟩
set_option maxRecDepth 100000 in
theorem lifted (os : Os) (started : os.Started) (H : Type) (enc : TypeId × Value → H) (F : Stop.Interp) :
    ReturnsInHanded {} Tryd.checked os 5 .any ((OpenSpec.ofChange Rows.diffShortestSpec).preRow enc Tryd.prog Tryd.f5 Rows.diffShortestRow.domain false Rows.diffShortestRow.laid) (((OpenSpec.ofChange Rows.diffShortestSpec).at F).post enc Tryd.prog Tryd.f5 false true false false) := by
  obtain ⟨places, hx⟩ := reads os enc
  refine returnsInHanded_of_row (C := Tryd.checked) (s := OpenSpec.ofChange Rows.diffShortestSpec) own started (by kernel_rfl) Tryd.func5
    (witness_row_atRef (enc := enc) (C := Tryd.checked) false (tabWorld os) (#[.string ⟨#[]⟩, .string ⟨#[]⟩] : Array Value) rfl (by kernel_rfl) (by kernel_rfl) (by kernel_rfl)
      (OpenSpec.preRow_of_cond 8 hx (by kernel_rfl) (fun k hk => by cases hk) (by kernel_rfl) (laid_met os))) ?_
  intro W base args ds gs before hval hW _ _ _ hL _ _
  exact contract H enc W base args ds gs before hval hW hL
theorem said : Rows.DiffShortestSaid :=
  OpenClaim.holds_of_cond 5 Tryd.f5 rfl rfl rfl rfl rfl rfl rfl ⟨rfl, rfl, rfl, rfl, rfl⟩ rfl rfl rfl rfl rfl (by kernel_rfl) Tryd.func5 (by kernel_rfl)
    (of_decide_eq_true (by kernel_rfl)) (by unfold Func.isWrapper; first | (rw [if_pos (by decide +kernel)]; kernel_rfl) | (rw [if_neg (by decide +kernel)]; exact ⟨rfl, rfl⟩))
    (fun os started H enc _ F => by rw [OpenClaim.pre_eq_preRow]; exact lifted os started H enc F)
theorem plain (f : FuncId) (fn : Func) (hf : Tryd.pinned.checked.prog.funcNamed "barrow/barrowlaw15.DiffShortest" = some f) (hfn : Tryd.pinned.checked.prog.funcs[f]? = some fn) :
    true = Tryd.pinned.checked.prog.looks [] ∧ ∀ (j : Nat) t, fn.params[j]? = some t → Tryd.pinned.checked.prog.wantsStandIn t = false := by
  obtain rfl : f = 5 := Option.some.inj ((show Tryd.prog.funcNamed "barrow/barrowlaw15.DiffShortest" = some 5 by kernel_rfl).symm.trans hf) |>.symm
  obtain rfl : fn = Tryd.f5 := (Option.some.inj (Tryd.func5.symm.trans hfn)).symm
  refine ⟨by kernel_rfl, fun j t ht => ?_⟩
  rw [Tryd.params5] at ht
  have hall : (Tryd.f5.params.toList.all fun t => !Tryd.pinned.checked.prog.wantsStandIn t) = true := by kernel_rfl
  rw [Tryd.params5] at hall
  have := List.all_eq_true.1 hall t (List.mem_of_getElem? (by simpa using ht))
  simpa using this
end Go.Proofs.YtgoifgockcpnhaaDoor.diffShortestLaw
namespace Go.Proofs.YtgoifgockcpnhaaDoor
open Go
theorem diffShortest_holds : Rows.DiffShortestCardSaid :=
  Claim7.holds_tied_plain_at .later [] _ _ _ _ diffShortestLaw.said (fun _ h => by cases h) (by kernel_rfl) (fun _ h => by cases h) diffShortest_row_tie rfl ⟨rfl, rfl⟩ (by kernel_rfl) rfl diffShortestLaw.plain (by kernel_rfl)
end Go.Proofs.YtgoifgockcpnhaaDoor
