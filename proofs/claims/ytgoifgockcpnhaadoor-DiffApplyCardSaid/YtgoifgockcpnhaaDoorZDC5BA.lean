/- slices.Grow and slices.Concat of rows of characters; slices.Reverse of edits. -/
import Derived.Test.YtgoifgockcpnhaaDoorZDC5AY
import Derived.Test.YtgoifgockcpnhaaDoorZDC5AZ
set_option linter.unusedSimpArgs false
set_option linter.unusedVariables false
namespace Go.Proofs.YtgoifgockcpnhaaDoor
open Go Go.RowKit

theorem intT3 : IntT Tryd.prog 3 := ⟨_, Tryd.underlying3⟩
set_option maxRecDepth 20000 in
theorem grow_s (c0 : World) (F : HP) (n : Nat) : Spec Tryd.prog c0 66 #[.slice none 0 0, .int .i64 n] (pu (n ≤ 100000000) F) (fun r => row 21 1 runv r [] * F) := by
  intro w hq; obtain ⟨hn, hs⟩ := hq.pu; clear hq
  have hmx : 0 ≤ maxLen := Nat.zero_le _
  by_cases h0 : 0 < n
  · have hI : (0 : Int) < n := by omega
    go_enter Tryd.func66, Tryd.ntmps66
    go_wp2_with (first
        | (((with_reducible apply pl_app0 hs); (focus (with_reducible exact mk_33)); (focus (exact intT3)); (focus (simp only [Act.eval, za, zb, zc, zd, ze, zf]; (try with_reducible rfl); done)); (focus (simp only [Act.eval, za, zb, zc, zd, ze, zf]; (try with_reducible rfl); done)); (focus omega); (focus omega); (focus (simp only [maxLen]; omega)); clear hs; (try clear w); intro g cq w hs; simp only [Act.put, zg, zh, zi])))
    (go_ret; simp only [za, zb, zc, zd, ze, zf])
    exact ⟨_, rfl, hs.mono (ent_trans (ent_row_take runv_size 0 (by omega)) (by rw [List.take_zero]; ((repeat (first | (with_reducible (first | exact ent_refl | exact ent_emp)) | ((with_reducible apply ent_front); (focus with_reducible (repeat (first | exact ent_here | apply ent_next | exact ent_last)); done)) | (with_reducible (first | exact ent_keep | apply ent_trans ent_drop)))); done)))⟩
  · obtain rfl : n = 0 := by omega
    go_enter Tryd.func66, Tryd.ntmps66
    go_wp2_with fail
    (go_ret; simp only [za, zb, zc, zd, ze, zf])
    exact ⟨_, rfl, hs.mono ent_row_nil⟩
def lens (ls : List (List Int)) : Nat := (ls.map List.length).sum
theorem lens_take {ls : List (List Int)} {k : Nat} {l : List Int} (h : ls[k]? = some l) : lens (ls.take (k + 1)) = lens (ls.take k) + l.length := by
  unfold lens
  rw [List.take_add_one, h, List.map_append, List.sum_append]
  simp
theorem lens_le (ls : List (List Int)) (k : Nat) : lens (ls.take k) ≤ lens ls := by
  unfold lens
  have h : ls = ls.take k ++ ls.drop k := (List.take_append_drop k ls).symm
  conv => rhs; rw [h]
  rw [List.map_append, List.sum_append]
  omega
theorem flat_take {ls : List (List Int)} {k : Nat} {l : List Int} (h : ls[k]? = some l) : (ls.take (k + 1)).flatten = (ls.take k).flatten ++ l := by
  rw [List.take_add_one, h, List.flatten_append]
  simp
theorem flat_len (ls : List (List Int)) : ls.flatten.length = lens ls := by unfold lens; rw [List.length_flatten]
/-- The k-th of a row of rows. -/
theorem sl2_row {H : HP} {A : Option Addr} {n c k : Nat} {ls : List (List Int)} (h : Sl2 H 1 runv (.slice A n c) ls) {w : World} (hw : Own H w) (hk : k < n) :
    ∃ g o l p m d, A = some ⟨g, o, none⟩ ∧ ls[k]? = some l ∧ m = l.length ∧ ReadC H g (o + k) (.slice p m d) ∧ SlR H 1 runv (.slice p m d) l := by
  obtain ⟨ts, h1, h2, h3⟩ := h
  obtain ⟨g, o, t, hA, ht, hr⟩ := slr_get h1 hw hk
  have hkl : k < ls.length := by have := (List.getElem?_eq_some_iff.1 ht).1; omega
  have hl := List.getElem?_eq_getElem hkl
  have hs := h3 k t _ ht hl
  refine ⟨g, o, _, t.p, t.n, t.c, hA, hl, (slr_len hs hw).1, ?_, hs⟩
  have := hr.cell (i := 0) (by omega) (slv_0 t)
  rwa [Nat.mul_one] at this
set_option maxRecDepth 20000 in
set_option maxHeartbeats 1000000 in
theorem concat_s (c0 : World) (F : HP) (v : Value) (ls : List (List Int)) : Spec Tryd.prog c0 59 #[v] (pu (Sl2 F 1 runv v ls ∧ lens ls ≤ 100000000) F) (fun r => row 21 1 runv r ls.flatten * F) := by
  intro w hq; obtain ⟨⟨hSl, hls⟩, hs⟩ := hq.pu; clear hq
  have hSl2 := hSl
  obtain ⟨ts, h1, h2, _⟩ := hSl2
  obtain ⟨A, c, rfl⟩ := slr_form h1 hs.own
  obtain ⟨_, hn1, hn2, _⟩ := slr_len h1 hs.own
  unfold maxLen at hn2
  have hle := lens_le ls
  rw [h2] at *
  generalize hn : ls.length = n at *
  replace hn := Lib.hid hn
  replace hle := Lib.hid hle
  replace hSl := Lib.hid hSl
  clear h1
  go_enter Tryd.func59, Tryd.ntmps59
  go_wp2_with fail
  go_loopw [3, 11] (fun sv iv wr => ∃ k : Nat, k ≤ n ∧ iv = .int .i64 k ∧ sv = .int .i64 (lens (ls.take k) : Nat) ∧ Sat c0 F wr) (fun _ iv _ => n - (intOf iv).toNat)
  case atStart => exact ⟨0, by omega, rfl, rfl, hs⟩
  case round =>
    clear hs
    obtain ⟨k, hk, rfl, rfl, hs⟩ := hrel
    have hlk := hle.out k
    by_cases hlt : k < n
    · obtain ⟨g, o, l, p, m, d, rfl, hlk1, rfl, hr1, hs1⟩ := sl2_row hSl.out hs.own hlt
      have hst := lens_take hlk1
      have hlk2 := hle.out (k + 1)
      rw [hst] at hlk2
      replace hst := Lib.hid hst
      clear hlk1
      generalize lens (ls.take k) = S at *
      go_wp2_with (first
        | ((with_reducible apply pl_load1 hs); (focus (simp only [Act.eval, za, zb, zc, zd, ze, zf]; (try with_reducible rfl); done)); (focus (simp only [go_sem])); (focus ((repeat (first | (with_reducible (first | assumption | exact hec _ | exact hec2 _ | exact hec3 _ | exact hec4 _ _)) | ((with_reducible apply readc_here); (focus (first | (simp only [zc, zd, ze, go_sem]; (try with_reducible rfl); done) | (go_simp; (try with_reducible rfl); done)))) | (with_reducible (first | (apply readc_left; assumption) | refine readc_exh (by assumption) ?_ | refine readc_exh0 (by assumption) ?_ | apply readc_next)))); done)); (focus rfl); simp only [Act.put, zg, zh, zi]))
      exact ⟨⟨k + 1, by omega, congrArg (Value.int .i64) (by omega), congrArg (Value.int .i64) (by rw [hst.out]; omega), hs⟩, by simp only [intOf]; omega⟩
    · obtain rfl : n = k := by omega
      have hall : lens (ls.take n) = lens ls := by rw [List.take_of_length_le (by have := hn.out; omega)]
      rw [hall]
      clear hall hlk
      generalize hL : lens ls = L at *
      replace hL := Lib.hid hL
      go_wp2_with (first
        | ((with_reducible apply pl_call hs (grow_s _ _ _)); ((((focus (simp only [zj, zk, zl, List.append_toArray, List.nil_append, List.cons_append, Act.eval, za, zb, zc, zd, ze, zf]; (try with_reducible rfl); done)); (focus ((repeat (first | (with_reducible (first | exact ent_refl | apply ent_puR)) | ((with_reducible apply ent_front); (focus with_reducible (repeat (first | exact ent_here | apply ent_next | exact ent_last)); done)) | (with_reducible (first | exact ent_keep | apply ent_trans ent_drop)) | (focus (first | (with_reducible assumption))))); done)); (focus (simp only [go_sem]))))); clear hs; (try clear w); intro v w hq; (have hs := hq; obtain ⟨Ag, cg, he, hg1, hg2⟩ := row_slice hs.own; simp only [List.length_nil] at he hg1; subst he); clear hq; (try simp only [star_assoc, star_emp, emp_star] at hs); (try simp only [Act.put, zg, zh, zi])))
      have hn' := hn.out
      go_loopw [6, 27] (fun sv iv wr => ∃ k : Nat, k ≤ n ∧ iv = .int .i64 k ∧ Sat c0 (row 21 1 runv sv (ls.take k).flatten * F) wr) (fun _ iv _ => n - (intOf iv).toNat)
      case atStart => exact ⟨0, by omega, rfl, by rw [List.take_zero]; exact hs⟩
      case round =>
        clear hs
        clear hn'
        obtain ⟨k, hk, rfl, hs⟩ := hrel
        obtain ⟨Ap, cp, rfl, hp1, hp2⟩ := row_slice hs.own
        by_cases hlt : k < n
        · obtain ⟨g, o, l, p, m, d, rfl, hlk1, rfl, hr1, hs1⟩ := sl2_row hSl.out (hs.mono ent_drop).own hlt
          have hst := flat_take hlk1
          have hzl : (ls.take k).flatten.length + l.length ≤ 100000000 := by
            have e1 := congrArg List.length hst
            rw [List.length_append, flat_len] at e1
            have := hle.out (k + 1)
            have := hL.out
            omega
          replace hst := Lib.hid hst
          clear hlk1
          generalize (ls.take k).flatten = Z at *
          go_wp2_with (first
        | ((with_reducible apply pl_load1 hs); (focus (simp only [Act.eval, za, zb, zc, zd, ze, zf]; (try with_reducible rfl); done)); (focus (simp only [go_sem])); (focus ((repeat (first | (with_reducible (first | assumption | exact hec _ | exact hec2 _ | exact hec3 _ | exact hec4 _ _)) | ((with_reducible apply readc_here); (focus (first | (simp only [zc, zd, ze, go_sem]; (try with_reducible rfl); done) | (go_simp; (try with_reducible rfl); done)))) | (with_reducible (first | (apply readc_left; assumption) | refine readc_exh (by assumption) ?_ | refine readc_exh0 (by assumption) ?_ | apply readc_next)))); done)); (focus rfl); simp only [Act.put, zg, zh, zi])
        | ((with_reducible apply pl_appendN hs); (with_reducible (first | exact app_22 | exact app_33 | exact app_47 | exact app_48 | exact app_80 | exact app_90 | exact app_97)); (focus (simp only [Act.eval, za, zb, zc, zd, ze, zf]; (try with_reducible rfl); done)); (first | (focus with_reducible (repeat (first | exact ent_here | apply ent_next | exact ent_last)); done) | (focus (with_reducible exact ent_row_nil)) | (focus ((with_reducible apply ent_row_of_blk); (focus with_reducible (repeat (first | exact ent_here | apply ent_next | exact ent_last)); done); (focus (simp only [go_sem]))))); (focus (simp only [Act.eval, za, zb, zc, zd, ze, zf]; (try with_reducible rfl); done)); (focus (first | ((repeat (first | (with_reducible (first | assumption | exact slr_ro |  exact hsl _ | exact hsl2 _ | exact hsl3 _ _ _ | exact slr_nil | exact slr_row (fun _ => by simp only [go_sem]) | exact slr_one (fun _ => by simp only [go_sem]) | (apply slr_left; assumption))) | (with_reducible apply slr_next))); done) | ((repeat (first | (with_reducible (first | assumption | exact slr_ro |  exact hsl _ | exact hsl2 _ | exact hsl3 _ _ _ | exact slr_nil | exact slr_row (fun _ => by simp only [go_sem]) | exact slr_one (fun _ => by simp only [go_sem]) | (apply slr_left; assumption))) | (with_reducible (first | (apply slr_exh; focus assumption) | (apply slr_exh0; focus assumption) | apply slr_next)))); done))); (focus (first | (simp only [maxLen] at *; omega) | (simp [maxLen] at *; omega))); (focus (first | (simp only [maxLen] at *; omega) | (simp [maxLen] at *; omega))); clear hs; (try clear w); intro Ap cq w hs; (try simp only [List.length_nil, Nat.zero_add, List.nil_append] at hs ⊢); simp only [Act.put, zg, zh, zi]))
          exact ⟨⟨k + 1, by omega, congrArg (Value.int .i64) (by omega), by rw [hst.out]; exact hs⟩, by simp only [intOf]; omega⟩
        · obtain rfl : n = k := by omega
          have hall : ls.take n = ls := List.take_of_length_le (by have := hn.out; omega)
          rw [hall] at hs
          clear hall
          generalize hZ : ls.flatten = Z at *
          have hZl : (ls.take n).flatten.length = Z.length := by rw [List.take_of_length_le (by have := hn.out; omega), hZ]
          rw [hZl] at *
          go_wp2_with fail
          (go_ret; simp only [za, zb, zc, zd, ze, zf])
          exact ⟨_, rfl, hs⟩
end Go.Proofs.YtgoifgockcpnhaaDoor
