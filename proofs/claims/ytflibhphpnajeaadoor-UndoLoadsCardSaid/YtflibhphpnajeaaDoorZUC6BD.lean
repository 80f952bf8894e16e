/- UndoLoads: which edits are refused. -/
import Derived.Test.YtflibhphpnajeaaDoorZUC6BB
import Derived.Test.YtflibhphpnajeaaDoorZUC6BC
import Derived.Test.YtflibhphpnajeaaDoorZUC6AZ
set_option linter.unusedSimpArgs false
set_option linter.unusedVariables false
namespace Go.Proofs.YtflibhphpnajeaaDoor
open Go Go.RowKit

theorem mkS : MakeT Tryd.prog 50 22 1 24 slv sl0 := ⟨Tryd.underlying50, ⟨.slice none 0 0, by kernel_rfl, rfl⟩, by decide, fun a => by simp only [go_sem]⟩
theorem intT3 : IntT Tryd.prog 3 := ⟨_, Tryd.underlying3⟩
set_option maxRecDepth 20000 in
theorem grow_s (c0 : World) (F : HP) (n : Nat) : Spec Tryd.prog c0 61 #[.slice none 0 0, .int .i64 n] (pu (n ≤ 100000000) F) (fun r => row 22 1 slv r [] * F) := by
  intro w hq; obtain ⟨hn, hs⟩ := hq.pu; clear hq
  have hmx : 0 ≤ maxLen := Nat.zero_le _
  by_cases h0 : 0 < n
  · have hI : (0 : Int) < n := by omega
    go_enter Tryd.func61, Tryd.ntmps61
    go_wp2_with (first
        | (((with_reducible apply pl_app0 hs); (focus (with_reducible exact mkS)); (focus (exact intT3)); (focus (simp only [Act.eval, za, zb, zc, zd, ze, zf]; (try with_reducible rfl); done)); (focus (simp only [Act.eval, za, zb, zc, zd, ze, zf]; (try with_reducible rfl); done)); (focus omega); (focus omega); (focus (simp only [maxLen]; omega)); clear hs; (try clear w); intro g cq w hs; simp only [Act.put, zg, zh, zi]))
        | ((with_reducible apply pl_appCut hs); (with_reducible (first | exact app_22 | exact app_41 | exact app_42 | exact app_47 | exact app_50)); (focus (simp only [Act.eval, za, zb, zc, zd, ze, zf]; (try with_reducible rfl); done)); (focus with_reducible (repeat (first | exact ent_here | apply ent_next | exact ent_last)); done); (focus (simp only [Act.eval, za, zb, zc, zd, ze, zf]; (try with_reducible rfl); done)); (focus (first | ((repeat (first | (with_reducible (first | assumption |  exact hsl _ | exact hsl2 _ | exact hsl3 _ _ _ | exact slr_nil | exact slr_row (fun _ => by simp only [go_sem]) | exact slr_one (fun _ => by simp only [go_sem]) | (apply slr_left; assumption))) | (with_reducible apply slr_next))); done) | ((repeat (first | (with_reducible (first | assumption |  exact hsl _ | exact hsl2 _ | exact hsl3 _ _ _ | exact slr_nil | exact slr_row (fun _ => by simp only [go_sem]) | exact slr_one (fun _ => by simp only [go_sem]) | (apply slr_left; assumption))) | (with_reducible (first | (apply slr_exh; focus assumption) | (apply slr_exh0; focus assumption) | apply slr_next)))); done))); (focus (first | (with_reducible assumption) | omega | (simp; done) | (simp; omega))); (focus (first | (with_reducible assumption) | omega | (simp; done) | (simp; omega))); clear hs; (try clear w); intro w hs; (try simp only [happ] at hs ⊢); simp only [Act.put, zg, zh, zi])
        | ((with_reducible apply pl_appendN hs); (with_reducible (first | exact app_22 | exact app_41 | exact app_42 | exact app_47 | exact app_50)); (focus (simp only [Act.eval, za, zb, zc, zd, ze, zf]; (try with_reducible rfl); done)); (first | (focus with_reducible (repeat (first | exact ent_here | apply ent_next | exact ent_last)); done) | (focus (with_reducible exact ent_row_nil)) | (focus ((with_reducible apply ent_row_of_blk); (focus with_reducible (repeat (first | exact ent_here | apply ent_next | exact ent_last)); done); (focus (simp only [go_sem]))))); (focus (simp only [Act.eval, za, zb, zc, zd, ze, zf]; (try with_reducible rfl); done)); (focus (first | ((repeat (first | (with_reducible (first | assumption |  exact hsl _ | exact hsl2 _ | exact hsl3 _ _ _ | exact slr_nil | exact slr_row (fun _ => by simp only [go_sem]) | exact slr_one (fun _ => by simp only [go_sem]) | (apply slr_left; assumption))) | (with_reducible apply slr_next))); done) | ((repeat (first | (with_reducible (first | assumption |  exact hsl _ | exact hsl2 _ | exact hsl3 _ _ _ | exact slr_nil | exact slr_row (fun _ => by simp only [go_sem]) | exact slr_one (fun _ => by simp only [go_sem]) | (apply slr_left; assumption))) | (with_reducible (first | (apply slr_exh; focus assumption) | (apply slr_exh0; focus assumption) | apply slr_next)))); done))); (focus (first | (simp only [maxLen] at *; omega) | (simp [maxLen] at *; omega))); (focus (first | (simp only [maxLen] at *; omega) | (simp [maxLen] at *; omega))); clear hs; (try clear w); intro Ap cq w hs; (try simp only [List.length_nil, Nat.zero_add, List.nil_append] at hs ⊢); simp only [Act.put, zg, zh, zi]))
    (go_ret; simp only [za, zb, zc, zd, ze, zf])
    exact ⟨_, rfl, hs.mono (ent_trans (ent_row_take slv_size 0 (by omega)) (by rw [List.take_zero]; ((repeat (first | (with_reducible (first | exact ent_refl | exact ent_emp)) | ((with_reducible apply ent_front); (focus with_reducible (repeat (first | exact ent_here | apply ent_next | exact ent_last)); done)) | (with_reducible (first | exact ent_keep | apply ent_trans ent_drop)))); done)))⟩
  · obtain rfl : n = 0 := by omega
    go_enter Tryd.func61, Tryd.ntmps61
    go_wp2_with (first
        | ((with_reducible apply pl_appCut hs); (with_reducible (first | exact app_22 | exact app_41 | exact app_42 | exact app_47 | exact app_50)); (focus (simp only [Act.eval, za, zb, zc, zd, ze, zf]; (try with_reducible rfl); done)); (focus with_reducible (repeat (first | exact ent_here | apply ent_next | exact ent_last)); done); (focus (simp only [Act.eval, za, zb, zc, zd, ze, zf]; (try with_reducible rfl); done)); (focus (first | ((repeat (first | (with_reducible (first | assumption |  exact hsl _ | exact hsl2 _ | exact hsl3 _ _ _ | exact slr_nil | exact slr_row (fun _ => by simp only [go_sem]) | exact slr_one (fun _ => by simp only [go_sem]) | (apply slr_left; assumption))) | (with_reducible apply slr_next))); done) | ((repeat (first | (with_reducible (first | assumption |  exact hsl _ | exact hsl2 _ | exact hsl3 _ _ _ | exact slr_nil | exact slr_row (fun _ => by simp only [go_sem]) | exact slr_one (fun _ => by simp only [go_sem]) | (apply slr_left; assumption))) | (with_reducible (first | (apply slr_exh; focus assumption) | (apply slr_exh0; focus assumption) | apply slr_next)))); done))); (focus (first | (with_reducible assumption) | omega | (simp; done) | (simp; omega))); (focus (first | (with_reducible assumption) | omega | (simp; done) | (simp; omega))); clear hs; (try clear w); intro w hs; (try simp only [happ] at hs ⊢); simp only [Act.put, zg, zh, zi])
        | ((with_reducible apply pl_appendN hs); (with_reducible (first | exact app_22 | exact app_41 | exact app_42 | exact app_47 | exact app_50)); (focus (simp only [Act.eval, za, zb, zc, zd, ze, zf]; (try with_reducible rfl); done)); (first | (focus with_reducible (repeat (first | exact ent_here | apply ent_next | exact ent_last)); done) | (focus (with_reducible exact ent_row_nil)) | (focus ((with_reducible apply ent_row_of_blk); (focus with_reducible (repeat (first | exact ent_here | apply ent_next | exact ent_last)); done); (focus (simp only [go_sem]))))); (focus (simp only [Act.eval, za, zb, zc, zd, ze, zf]; (try with_reducible rfl); done)); (focus (first | ((repeat (first | (with_reducible (first | assumption |  exact hsl _ | exact hsl2 _ | exact hsl3 _ _ _ | exact slr_nil | exact slr_row (fun _ => by simp only [go_sem]) | exact slr_one (fun _ => by simp only [go_sem]) | (apply slr_left; assumption))) | (with_reducible apply slr_next))); done) | ((repeat (first | (with_reducible (first | assumption |  exact hsl _ | exact hsl2 _ | exact hsl3 _ _ _ | exact slr_nil | exact slr_row (fun _ => by simp only [go_sem]) | exact slr_one (fun _ => by simp only [go_sem]) | (apply slr_left; assumption))) | (with_reducible (first | (apply slr_exh; focus assumption) | (apply slr_exh0; focus assumption) | apply slr_next)))); done))); (focus (first | (simp only [maxLen] at *; omega) | (simp [maxLen] at *; omega))); (focus (first | (simp only [maxLen] at *; omega) | (simp [maxLen] at *; omega))); clear hs; (try clear w); intro Ap cq w hs; (try simp only [List.length_nil, Nat.zero_add, List.nil_append] at hs ⊢); simp only [Act.put, zg, zh, zi]))
    (go_ret; simp only [za, zb, zc, zd, ze, zf])
    exact ⟨_, rfl, hs.mono ent_row_nil⟩
def lens (ls : List (List SlD)) : Nat := (ls.map List.length).sum
theorem lens_take {ls : List (List SlD)} {k : Nat} {l : List SlD} (h : ls[k]? = some l) : lens (ls.take (k + 1)) = lens (ls.take k) + l.length := by
  unfold lens
  rw [List.take_add_one, h, List.map_append, List.sum_append]
  simp
theorem lens_le (ls : List (List SlD)) (k : Nat) : lens (ls.take k) ≤ lens ls := by
  unfold lens
  have h : ls = ls.take k ++ ls.drop k := (List.take_append_drop k ls).symm
  conv => rhs; rw [h]
  rw [List.map_append, List.sum_append]
  omega
theorem flat_take {ls : List (List SlD)} {k : Nat} {l : List SlD} (h : ls[k]? = some l) : (ls.take (k + 1)).flatten = (ls.take k).flatten ++ l := by
  rw [List.take_add_one, h, List.flatten_append]
  simp
theorem flat_len (ls : List (List SlD)) : ls.flatten.length = lens ls := by unfold lens; rw [List.length_flatten]
/-- The k-th of a row of rows. -/
theorem sl2_row {H : HP} {A : Option Addr} {n c k : Nat} {ls : List (List SlD)} (h : Sl2 H 1 slv (.slice A n c) ls) {w : World} (hw : Own H w) (hk : k < n) :
    ∃ g o l p m d, A = some ⟨g, o, none⟩ ∧ ls[k]? = some l ∧ m = l.length ∧ ReadC H g (o + k) (.slice p m d) ∧ SlR H 1 slv (.slice p m d) l := by
  obtain ⟨ts, h1, h2, h3⟩ := h
  obtain ⟨g, o, t, hA, ht, hr⟩ := slr_get h1 hw hk
  have hkl : k < ls.length := by have := (List.getElem?_eq_some_iff.1 ht).1; omega
  have hl := List.getElem?_eq_getElem hkl
  have hs := h3 k t _ ht hl
  refine ⟨g, o, _, t.p, t.n, t.c, hA, hl, (slr_len hs hw).1, ?_, hs⟩
  have := hr.cell (i := 0) (by omega) (slv_0 t)
  rwa [Nat.mul_one] at this
set_option maxRecDepth 20000 in
set_option maxHeartbeats 1000000 in
theorem concat_s (c0 : World) (F : HP) (v : Value) (ls : List (List SlD)) : Spec Tryd.prog c0 50 #[v] (pu (Sl2 F 1 slv v ls ∧ lens ls ≤ 100000000) F) (fun r => row 22 1 slv r ls.flatten * F) := by
  intro w hq; obtain ⟨⟨hSl, hls⟩, hs⟩ := hq.pu; clear hq
  have hSl2 := hSl
  obtain ⟨ts, h1, h2, _⟩ := hSl2
  obtain ⟨A, c, rfl⟩ := slr_form h1 hs.own
  obtain ⟨_, hn1, hn2, _⟩ := slr_len h1 hs.own
  unfold maxLen at hn2
  have hle := lens_le ls
  rw [h2] at *
  generalize hn : ls.length = n at *
  replace hn := Lib.hid hn
  replace hle := Lib.hid hle
  replace hSl := Lib.hid hSl
  clear h1
  go_enter Tryd.func50, Tryd.ntmps50
  go_wp2_with (first
        | ((with_reducible apply pl_load1 hs); (focus (simp only [Act.eval, za, zb, zc, zd, ze, zf]; (try with_reducible rfl); done)); (focus (simp only [go_sem])); (focus ((repeat (first | (with_reducible (first | assumption | exact hec _ | exact hec2 _ | exact hec3 _ | exact hec4 _ _)) | ((with_reducible apply readc_here); (focus (first | (simp only [zc, zd, ze, go_sem]; (try with_reducible rfl); done) | (go_simp; (try with_reducible rfl); done)))) | (with_reducible (first | (apply readc_left; assumption) | refine readc_exh (by assumption) ?_ | refine readc_exh0 (by assumption) ?_ | apply readc_next)))); done)); (focus rfl); simp only [Act.put, zg, zh, zi])
        | ((with_reducible apply pl_appendN hs); (with_reducible (first | exact app_22 | exact app_41 | exact app_42 | exact app_47 | exact app_50)); (focus (simp only [Act.eval, za, zb, zc, zd, ze, zf]; (try with_reducible rfl); done)); (first | (focus with_reducible (repeat (first | exact ent_here | apply ent_next | exact ent_last)); done) | (focus (with_reducible exact ent_row_nil)) | (focus ((with_reducible apply ent_row_of_blk); (focus with_reducible (repeat (first | exact ent_here | apply ent_next | exact ent_last)); done); (focus (simp only [go_sem]))))); (focus (simp only [Act.eval, za, zb, zc, zd, ze, zf]; (try with_reducible rfl); done)); (focus (first | ((repeat (first | (with_reducible (first | assumption |  exact hsl _ | exact hsl2 _ | exact hsl3 _ _ _ | exact slr_nil | exact slr_row (fun _ => by simp only [go_sem]) | exact slr_one (fun _ => by simp only [go_sem]) | (apply slr_left; assumption))) | (with_reducible apply slr_next))); done) | ((repeat (first | (with_reducible (first | assumption |  exact hsl _ | exact hsl2 _ | exact hsl3 _ _ _ | exact slr_nil | exact slr_row (fun _ => by simp only [go_sem]) | exact slr_one (fun _ => by simp only [go_sem]) | (apply slr_left; assumption))) | (with_reducible (first | (apply slr_exh; focus assumption) | (apply slr_exh0; focus assumption) | apply slr_next)))); done))); (focus (first | (simp only [maxLen] at *; omega) | (simp [maxLen] at *; omega))); (focus (first | (simp only [maxLen] at *; omega) | (simp [maxLen] at *; omega))); clear hs; (try clear w); intro Ap cq w hs; (try simp only [List.length_nil, Nat.zero_add, List.nil_append] at hs ⊢); simp only [Act.put, zg, zh, zi]))
  go_loopw [3, 11] (fun sv iv wr => ∃ k : Nat, k ≤ n ∧ iv = .int .i64 k ∧ sv = .int .i64 (lens (ls.take k) : Nat) ∧ Sat c0 F wr) (fun _ iv _ => n - (intOf iv).toNat)
  case atStart => exact ⟨0, by omega, rfl, rfl, hs⟩
  case round =>
    clear hs
    obtain ⟨k, hk, rfl, rfl, hs⟩ := hrel
    have hlk := hle.out k
    by_cases hlt : k < n
    · obtain ⟨g, o, l, p, m, d, rfl, hlk1, rfl, hr1, hs1⟩ := sl2_row hSl.out hs.own hlt
      have hst := lens_take hlk1
      have hlk2 := hle.out (k + 1)
      rw [hst] at hlk2
      replace hst := Lib.hid hst
      clear hlk1
      generalize lens (ls.take k) = S at *
      go_wp2_with (first
        | ((with_reducible apply pl_load1 hs); (focus (simp only [Act.eval, za, zb, zc, zd, ze, zf]; (try with_reducible rfl); done)); (focus (simp only [go_sem])); (focus ((repeat (first | (with_reducible (first | assumption | exact hec _ | exact hec2 _ | exact hec3 _ | exact hec4 _ _)) | ((with_reducible apply readc_here); (focus (first | (simp only [zc, zd, ze, go_sem]; (try with_reducible rfl); done) | (go_simp; (try with_reducible rfl); done)))) | (with_reducible (first | (apply readc_left; assumption) | refine readc_exh (by assumption) ?_ | refine readc_exh0 (by assumption) ?_ | apply readc_next)))); done)); (focus rfl); simp only [Act.put, zg, zh, zi])
        | ((with_reducible apply pl_appendN hs); (with_reducible (first | exact app_22 | exact app_41 | exact app_42 | exact app_47 | exact app_50)); (focus (simp only [Act.eval, za, zb, zc, zd, ze, zf]; (try with_reducible rfl); done)); (first | (focus with_reducible (repeat (first | exact ent_here | apply ent_next | exact ent_last)); done) | (focus (with_reducible exact ent_row_nil)) | (focus ((with_reducible apply ent_row_of_blk); (focus with_reducible (repeat (first | exact ent_here | apply ent_next | exact ent_last)); done); (focus (simp only [go_sem]))))); (focus (simp only [Act.eval, za, zb, zc, zd, ze, zf]; (try with_reducible rfl); done)); (focus (first | ((repeat (first | (with_reducible (first | assumption |  exact hsl _ | exact hsl2 _ | exact hsl3 _ _ _ | exact slr_nil | exact slr_row (fun _ => by simp only [go_sem]) | exact slr_one (fun _ => by simp only [go_sem]) | (apply slr_left; assumption))) | (with_reducible apply slr_next))); done) | ((repeat (first | (with_reducible (first | assumption |  exact hsl _ | exact hsl2 _ | exact hsl3 _ _ _ | exact slr_nil | exact slr_row (fun _ => by simp only [go_sem]) | exact slr_one (fun _ => by simp only [go_sem]) | (apply slr_left; assumption))) | (with_reducible (first | (apply slr_exh; focus assumption) | (apply slr_exh0; focus assumption) | apply slr_next)))); done))); (focus (first | (simp only [maxLen] at *; omega) | (simp [maxLen] at *; omega))); (focus (first | (simp only [maxLen] at *; omega) | (simp [maxLen] at *; omega))); clear hs; (try clear w); intro Ap cq w hs; (try simp only [List.length_nil, Nat.zero_add, List.nil_append] at hs ⊢); simp only [Act.put, zg, zh, zi]))
      exact ⟨⟨k + 1, by omega, congrArg (Value.int .i64) (by omega), congrArg (Value.int .i64) (by rw [hst.out]; omega), hs⟩, by simp only [intOf]; omega⟩
    · obtain rfl : n = k := by omega
      have hall : lens (ls.take n) = lens ls := by rw [List.take_of_length_le (by have := hn.out; omega)]
      rw [hall]
      clear hall hlk
      generalize hL : lens ls = L at *
      replace hL := Lib.hid hL
      go_wp2_with (first
        | ((with_reducible apply pl_call hs (grow_s _ _ _)); ((((focus (simp only [zj, zk, zl, List.append_toArray, List.nil_append, List.cons_append, Act.eval, za, zb, zc, zd, ze, zf]; (try with_reducible rfl); done)); (focus ((repeat (first | (with_reducible (first | exact ent_refl | apply ent_puR)) | ((with_reducible apply ent_front); (focus with_reducible (repeat (first | exact ent_here | apply ent_next | exact ent_last)); done)) | (with_reducible (first | exact ent_keep | apply ent_trans ent_drop)) | (focus (first | (with_reducible assumption) | (focus (first | ((repeat (first | (with_reducible (first | assumption |  exact hsl _ | exact hsl2 _ | exact hsl3 _ _ _ | exact slr_nil | exact slr_row (fun _ => by simp only [go_sem]) | exact slr_one (fun _ => by simp only [go_sem]) | (apply slr_left; assumption))) | (with_reducible apply slr_next))); done) | ((repeat (first | (with_reducible (first | assumption |  exact hsl _ | exact hsl2 _ | exact hsl3 _ _ _ | exact slr_nil | exact slr_row (fun _ => by simp only [go_sem]) | exact slr_one (fun _ => by simp only [go_sem]) | (apply slr_left; assumption))) | (with_reducible (first | (apply slr_exh; focus assumption) | (apply slr_exh0; focus assumption) | apply slr_next)))); done))) | (focus ((repeat (first | (with_reducible (first | assumption | exact hec _ | exact hec2 _ | exact hec3 _ | exact hec4 _ _)) | ((with_reducible apply readc_here); (focus (first | (simp only [zc, zd, ze, go_sem]; (try with_reducible rfl); done) | (go_simp; (try with_reducible rfl); done)))) | (with_reducible (first | (apply readc_left; assumption) | refine readc_exh (by assumption) ?_ | refine readc_exh0 (by assumption) ?_ | apply readc_next)))); done)) | (focus ((repeat (first | (with_reducible (first | assumption | exact hel _ | exact hel2 _ | exact hel3 _)) | ((with_reducible apply reads_whole); (focus (first | (with_reducible rfl) | (simp only [go_sem]; done) | (simp; done)))) | ((with_reducible apply reads_part); (focus (first | (simp [go_sem]; done) | (simp only [go_sem]; omega) | go_size)); (focus (first | (simp only [Nat.reduceAdd, Nat.zero_add, go_sem]; (try with_reducible rfl); done) | (simp [go_sem]; (try with_reducible rfl); done)))) | (with_reducible (first | (apply reads_left; assumption) | refine reads_exh (by assumption) ?_ | refine reads_exh0 (by assumption) ?_ | apply reads_next)))); done)) | (focus (with_reducible (repeat (first | assumption | (apply ErrA.left; assumption) | refine ErrA.exh (by assumption) ?_ | refine ErrA.exh0 (by assumption) ?_ | apply ErrA.next)); done)) | ((repeat' (first | (with_reducible assumption) | (with_reducible apply And.intro) | omega | (focus (first | ((repeat (first | (with_reducible (first | assumption |  exact hsl _ | exact hsl2 _ | exact hsl3 _ _ _ | exact slr_nil | exact slr_row (fun _ => by simp only [go_sem]) | exact slr_one (fun _ => by simp only [go_sem]) | (apply slr_left; assumption))) | (with_reducible apply slr_next))); done) | ((repeat (first | (with_reducible (first | assumption |  exact hsl _ | exact hsl2 _ | exact hsl3 _ _ _ | exact slr_nil | exact slr_row (fun _ => by simp only [go_sem]) | exact slr_one (fun _ => by simp only [go_sem]) | (apply slr_left; assumption))) | (with_reducible (first | (apply slr_exh; focus assumption) | (apply slr_exh0; focus assumption) | apply slr_next)))); done))) | (focus ((repeat (first | (with_reducible (first | assumption | exact hec _ | exact hec2 _ | exact hec3 _ | exact hec4 _ _)) | ((with_reducible apply readc_here); (focus (first | (simp only [zc, zd, ze, go_sem]; (try with_reducible rfl); done) | (go_simp; (try with_reducible rfl); done)))) | (with_reducible (first | (apply readc_left; assumption) | refine readc_exh (by assumption) ?_ | refine readc_exh0 (by assumption) ?_ | apply readc_next)))); done)) | (focus ((repeat (first | (with_reducible (first | assumption | exact hel _ | exact hel2 _ | exact hel3 _)) | ((with_reducible apply reads_whole); (focus (first | (with_reducible rfl) | (simp only [go_sem]; done) | (simp; done)))) | ((with_reducible apply reads_part); (focus (first | (simp [go_sem]; done) | (simp only [go_sem]; omega) | go_size)); (focus (first | (simp only [Nat.reduceAdd, Nat.zero_add, go_sem]; (try with_reducible rfl); done) | (simp [go_sem]; (try with_reducible rfl); done)))) | (with_reducible (first | (apply reads_left; assumption) | refine reads_exh (by assumption) ?_ | refine reads_exh0 (by assumption) ?_ | apply reads_next)))); done)) | (focus (with_reducible (repeat (first | assumption | (apply ErrA.left; assumption) | refine ErrA.exh (by assumption) ?_ | refine ErrA.exh0 (by assumption) ?_ | apply ErrA.next)); done)) | (simp; done) | (simp; omega) | (focus (with_reducible (repeat (first | assumption | (apply PS.left; assumption) | refine PS.exh (by assumption) ?_ | refine PS.exh0 (by assumption) ?_ | apply PS.next)); done)))); done) | (with_reducible rfl) | omega | go_size | (simp [go_sem]; done) | (focus (with_reducible (repeat (first | assumption | (apply PS.left; assumption) | refine PS.exh (by assumption) ?_ | refine PS.exh0 (by assumption) ?_ | apply PS.next)); done)))))); done)); (focus (simp only [go_sem]))))); clear hs; (try clear w); intro v w hq; (have hs := hq; obtain ⟨Ag, cg, he, hg1, hg2⟩ := row_slice hs.own; simp only [List.length_nil] at he hg1; subst he); clear hq; (try simp only [star_assoc, star_emp, emp_star] at hs); (try simp only [Act.put, zg, zh, zi]))
        | ((with_reducible apply pl_load1 hs); (focus (simp only [Act.eval, za, zb, zc, zd, ze, zf]; (try with_reducible rfl); done)); (focus (simp only [go_sem])); (focus ((repeat (first | (with_reducible (first | assumption | exact hec _ | exact hec2 _ | exact hec3 _ | exact hec4 _ _)) | ((with_reducible apply readc_here); (focus (first | (simp only [zc, zd, ze, go_sem]; (try with_reducible rfl); done) | (go_simp; (try with_reducible rfl); done)))) | (with_reducible (first | (apply readc_left; assumption) | refine readc_exh (by assumption) ?_ | refine readc_exh0 (by assumption) ?_ | apply readc_next)))); done)); (focus rfl); simp only [Act.put, zg, zh, zi])
        | ((with_reducible apply pl_appendN hs); (with_reducible (first | exact app_22 | exact app_41 | exact app_42 | exact app_47 | exact app_50)); (focus (simp only [Act.eval, za, zb, zc, zd, ze, zf]; (try with_reducible rfl); done)); (first | (focus with_reducible (repeat (first | exact ent_here | apply ent_next | exact ent_last)); done) | (focus (with_reducible exact ent_row_nil)) | (focus ((with_reducible apply ent_row_of_blk); (focus with_reducible (repeat (first | exact ent_here | apply ent_next | exact ent_last)); done); (focus (simp only [go_sem]))))); (focus (simp only [Act.eval, za, zb, zc, zd, ze, zf]; (try with_reducible rfl); done)); (focus (first | ((repeat (first | (with_reducible (first | assumption |  exact hsl _ | exact hsl2 _ | exact hsl3 _ _ _ | exact slr_nil | exact slr_row (fun _ => by simp only [go_sem]) | exact slr_one (fun _ => by simp only [go_sem]) | (apply slr_left; assumption))) | (with_reducible apply slr_next))); done) | ((repeat (first | (with_reducible (first | assumption |  exact hsl _ | exact hsl2 _ | exact hsl3 _ _ _ | exact slr_nil | exact slr_row (fun _ => by simp only [go_sem]) | exact slr_one (fun _ => by simp only [go_sem]) | (apply slr_left; assumption))) | (with_reducible (first | (apply slr_exh; focus assumption) | (apply slr_exh0; focus assumption) | apply slr_next)))); done))); (focus (first | (simp only [maxLen] at *; omega) | (simp [maxLen] at *; omega))); (focus (first | (simp only [maxLen] at *; omega) | (simp [maxLen] at *; omega))); clear hs; (try clear w); intro Ap cq w hs; (try simp only [List.length_nil, Nat.zero_add, List.nil_append] at hs ⊢); simp only [Act.put, zg, zh, zi]))
      have hn' := hn.out
      go_loopw [6, 27] (fun sv iv wr => ∃ k : Nat, k ≤ n ∧ iv = .int .i64 k ∧ Sat c0 (row 22 1 slv sv (ls.take k).flatten * F) wr) (fun _ iv _ => n - (intOf iv).toNat)
      case atStart => exact ⟨0, by omega, rfl, by rw [List.take_zero]; exact hs⟩
      case round =>
        clear hs
        clear hn'
        obtain ⟨k, hk, rfl, hs⟩ := hrel
        obtain ⟨Ap, cp, rfl, hp1, hp2⟩ := row_slice hs.own
        by_cases hlt : k < n
        · obtain ⟨g, o, l, p, m, d, rfl, hlk1, rfl, hr1, hs1⟩ := sl2_row hSl.out (hs.mono ent_drop).own hlt
          have hst := flat_take hlk1
          have hzl : (ls.take k).flatten.length + l.length ≤ 100000000 := by
            have e1 := congrArg List.length hst
            rw [List.length_append, flat_len] at e1
            have := hle.out (k + 1)
            have := hL.out
            omega
          replace hst := Lib.hid hst
          clear hlk1
          generalize (ls.take k).flatten = Z at *
          go_wp2_with (first
        | ((with_reducible apply pl_load1 hs); (focus (simp only [Act.eval, za, zb, zc, zd, ze, zf]; (try with_reducible rfl); done)); (focus (simp only [go_sem])); (focus ((repeat (first | (with_reducible (first | assumption | exact hec _ | exact hec2 _ | exact hec3 _ | exact hec4 _ _)) | ((with_reducible apply readc_here); (focus (first | (simp only [zc, zd, ze, go_sem]; (try with_reducible rfl); done) | (go_simp; (try with_reducible rfl); done)))) | (with_reducible (first | (apply readc_left; assumption) | refine readc_exh (by assumption) ?_ | refine readc_exh0 (by assumption) ?_ | apply readc_next)))); done)); (focus rfl); simp only [Act.put, zg, zh, zi])
        | ((with_reducible apply pl_appendN hs); (with_reducible (first | exact app_22 | exact app_41 | exact app_42 | exact app_47 | exact app_50)); (focus (simp only [Act.eval, za, zb, zc, zd, ze, zf]; (try with_reducible rfl); done)); (first | (focus with_reducible (repeat (first | exact ent_here | apply ent_next | exact ent_last)); done) | (focus (with_reducible exact ent_row_nil)) | (focus ((with_reducible apply ent_row_of_blk); (focus with_reducible (repeat (first | exact ent_here | apply ent_next | exact ent_last)); done); (focus (simp only [go_sem]))))); (focus (simp only [Act.eval, za, zb, zc, zd, ze, zf]; (try with_reducible rfl); done)); (focus (first | ((repeat (first | (with_reducible (first | assumption |  exact hsl _ | exact hsl2 _ | exact hsl3 _ _ _ | exact slr_nil | exact slr_row (fun _ => by simp only [go_sem]) | exact slr_one (fun _ => by simp only [go_sem]) | (apply slr_left; assumption))) | (with_reducible apply slr_next))); done) | ((repeat (first | (with_reducible (first | assumption |  exact hsl _ | exact hsl2 _ | exact hsl3 _ _ _ | exact slr_nil | exact slr_row (fun _ => by simp only [go_sem]) | exact slr_one (fun _ => by simp only [go_sem]) | (apply slr_left; assumption))) | (with_reducible (first | (apply slr_exh; focus assumption) | (apply slr_exh0; focus assumption) | apply slr_next)))); done))); (focus (first | (simp only [maxLen] at *; omega) | (simp [maxLen] at *; omega))); (focus (first | (simp only [maxLen] at *; omega) | (simp [maxLen] at *; omega))); clear hs; (try clear w); intro Ap cq w hs; (try simp only [List.length_nil, Nat.zero_add, List.nil_append] at hs ⊢); simp only [Act.put, zg, zh, zi]))
          exact ⟨⟨k + 1, by omega, congrArg (Value.int .i64) (by omega), by rw [hst.out]; exact hs⟩, by simp only [intOf]; omega⟩
        · obtain rfl : n = k := by omega
          have hall : ls.take n = ls := List.take_of_length_le (by have := hn.out; omega)
          rw [hall] at hs
          clear hall
          generalize hZ : ls.flatten = Z at *
          have hZl : (ls.take n).flatten.length = Z.length := by rw [List.take_of_length_le (by have := hn.out; omega), hZ]
          rw [hZl] at *
          go_wp2_with (first
        | ((with_reducible apply pl_load1 hs); (focus (simp only [Act.eval, za, zb, zc, zd, ze, zf]; (try with_reducible rfl); done)); (focus (simp only [go_sem])); (focus ((repeat (first | (with_reducible (first | assumption | exact hec _ | exact hec2 _ | exact hec3 _ | exact hec4 _ _)) | ((with_reducible apply readc_here); (focus (first | (simp only [zc, zd, ze, go_sem]; (try with_reducible rfl); done) | (go_simp; (try with_reducible rfl); done)))) | (with_reducible (first | (apply readc_left; assumption) | refine readc_exh (by assumption) ?_ | refine readc_exh0 (by assumption) ?_ | apply readc_next)))); done)); (focus rfl); simp only [Act.put, zg, zh, zi])
        | ((with_reducible apply pl_appendN hs); (with_reducible (first | exact app_22 | exact app_41 | exact app_42 | exact app_47 | exact app_50)); (focus (simp only [Act.eval, za, zb, zc, zd, ze, zf]; (try with_reducible rfl); done)); (first | (focus with_reducible (repeat (first | exact ent_here | apply ent_next | exact ent_last)); done) | (focus (with_reducible exact ent_row_nil)) | (focus ((with_reducible apply ent_row_of_blk); (focus with_reducible (repeat (first | exact ent_here | apply ent_next | exact ent_last)); done); (focus (simp only [go_sem]))))); (focus (simp only [Act.eval, za, zb, zc, zd, ze, zf]; (try with_reducible rfl); done)); (focus (first | ((repeat (first | (with_reducible (first | assumption |  exact hsl _ | exact hsl2 _ | exact hsl3 _ _ _ | exact slr_nil | exact slr_row (fun _ => by simp only [go_sem]) | exact slr_one (fun _ => by simp only [go_sem]) | (apply slr_left; assumption))) | (with_reducible apply slr_next))); done) | ((repeat (first | (with_reducible (first | assumption |  exact hsl _ | exact hsl2 _ | exact hsl3 _ _ _ | exact slr_nil | exact slr_row (fun _ => by simp only [go_sem]) | exact slr_one (fun _ => by simp only [go_sem]) | (apply slr_left; assumption))) | (with_reducible (first | (apply slr_exh; focus assumption) | (apply slr_exh0; focus assumption) | apply slr_next)))); done))); (focus (first | (simp only [maxLen] at *; omega) | (simp [maxLen] at *; omega))); (focus (first | (simp only [maxLen] at *; omega) | (simp [maxLen] at *; omega))); clear hs; (try clear w); intro Ap cq w hs; (try simp only [List.length_nil, Nat.zero_add, List.nil_append] at hs ⊢); simp only [Act.put, zg, zh, zi]))
          (go_ret; simp only [za, zb, zc, zd, ze, zf])
          exact ⟨_, rfl, hs⟩
theorem concat2_s (c0 : World) (F : HP) (v : Value) (x y : SlD) (l1 l2 : List SlD) : Spec Tryd.prog c0 50 #[v] (pu (SlR F 1 slv v [x, y] ∧ SlR F 1 slv (.slice x.p x.n x.c) l1 ∧ SlR F 1 slv (.slice y.p y.n y.c) l2 ∧ l1.length + l2.length ≤ 1000) F) (fun r => row 22 1 slv r (l1 ++ l2) * F) := fun w hs => by
  obtain ⟨⟨h1, h2, h3, h5⟩, hs⟩ := hs.pu
  have := concat_s c0 F v [l1, l2] w (hs.mono (ent_pu ⟨⟨[x, y], h1, rfl, fun i t l ht hl => by
    match i with
    | 0 => cases ht; cases hl; exact h2
    | 1 => cases ht; cases hl; exact h3
    | i + 2 => cases ht⟩, by simp [lens]; omega⟩ ent_refl))
  rwa [show [l1, l2].flatten = l1 ++ l2 by simp] at this
end Go.Proofs.YtflibhphpnajeaaDoor

set_option linter.unusedSimpArgs false
set_option linter.unusedVariables false
namespace Go.Proofs.YtflibhphpnajeaaDoor
open Go Go.RowKit

/-- Is an edit none, or has it a change of a kind that is none? -/
def badB (l : List ChgD) : Bool := decide (l.length = 0) || l.any fun c => !knB c.kind
theorem odd_any (l : List ChgD) : decide (0 ≤ oddI l) = l.any fun c => !knB c.kind := by
  unfold oddI
  cases h : l.findIdx? (fun c => !knB c.kind) with
  | none =>
    rw [List.findIdx?_eq_none_iff] at h
    have : (l.any fun c => !knB c.kind) = false := by
      rw [List.any_eq_false]
      intro x hx
      rw [h x hx]
      simp
    rw [this]
    rfl
  | some i =>
    rw [List.findIdx?_eq_some_iff_getElem] at h
    obtain ⟨hi, h1, _⟩ := h
    have : (l.any fun c => !knB c.kind) = true := List.any_eq_true.2 ⟨_, List.getElem_mem hi, h1⟩
    rw [this]
    exact decide_eq_true (Int.natCast_nonneg i)
theorem badB_odd (l : List ChgD) : badB l = (decide (l.length = 0) || decide (0 ≤ oddI l)) := by rw [odd_any]; rfl
/-- What Load answers of so many edits: refused where and why, or not. -/
def loadR (dn un : List (List ChgD)) : Option (Nat × Nat) := if 64 < dn.length + un.length then some (dn.length + un.length, 1) else match (dn ++ un).findIdx? badB with
  | some i => some (i, 6)
  | none => none
theorem loadR_many {dn un : List (List ChgD)} (h : 64 < dn.length + un.length) : loadR dn un = some (dn.length + un.length, 1) := by unfold loadR; rw [if_pos h]
theorem loadR_bad {dn un : List (List ChgD)} {k : Nat} {l : List ChgD} (h : ¬ 64 < dn.length + un.length) (hl : (dn ++ un)[k]? = some l) (hb : badB l = true) (hp : ∀ (j : Nat) m, j < k → (dn ++ un)[j]? = some m → badB m = false) : loadR dn un = some (k, 6) := by
  have : (dn ++ un).findIdx? badB = some k := by
    rw [List.findIdx?_eq_some_iff_getElem]
    have hk := (List.getElem?_eq_some_iff.1 hl).1
    refine ⟨hk, by rw [(List.getElem?_eq_some_iff.1 hl).2, hb], fun j hj => ?_⟩
    have := hp j _ hj (List.getElem?_eq_getElem (by omega))
    simpa using this
  unfold loadR
  rw [if_neg h, this]
theorem loadR_ok {dn un : List (List ChgD)} (h : ¬ 64 < dn.length + un.length) (hp : ∀ (j : Nat) m, (dn ++ un)[j]? = some m → badB m = false) : loadR dn un = none := by
  have : (dn ++ un).findIdx? badB = none := by
    rw [List.findIdx?_eq_none_iff]
    intro x hx
    obtain ⟨j, hj, rfl⟩ := List.getElem_of_mem hx
    exact hp j _ (List.getElem?_eq_getElem hj)
  unfold loadR
  rw [if_neg h, this]
theorem pre_step {ls : List (List ChgD)} {k : Nat} {l : List ChgD} (hl : ls[k]? = some l) (hb : badB l = false) (hp : ∀ (j : Nat) m, j < k → ls[j]? = some m → badB m = false) : ∀ (j : Nat) m, j < k + 1 → ls[j]? = some m → badB m = false := fun j m hj hm => by
  rcases Nat.lt_or_eq_of_le (Nat.le_of_lt_succ hj) with h | h
  · exact hp j m h hm
  · subst h; rw [hl] at hm; cases hm; exact hb
/-- Two rows of rows, one behind the other. -/
theorem sl2_append {H : HP} {s : Nat} {enc : ChgD → Array Value} {ts us : List SlD} {ls ms : List (List ChgD)} (h1 : ts.length = ls.length) (h2 : ∀ (i : Nat) t l, ts[i]? = some t → ls[i]? = some l → SlR H s enc (.slice t.p t.n t.c) l) (h3 : ∀ (i : Nat) t l, us[i]? = some t → ms[i]? = some l → SlR H s enc (.slice t.p t.n t.c) l) :
    ∀ (i : Nat) t l, (ts ++ us)[i]? = some t → (ls ++ ms)[i]? = some l → SlR H s enc (.slice t.p t.n t.c) l := fun i t l ht hl => by
  by_cases h : i < ts.length
  · rw [List.getElem?_append_left h] at ht
    rw [List.getElem?_append_left (by omega)] at hl
    exact h2 i t l ht hl
  · rw [List.getElem?_append_right (by omega)] at ht hl
    rw [← h1] at hl
    exact h3 _ t l ht hl
end Go.Proofs.YtflibhphpnajeaaDoor
