/- Bytes that are lent, and spoilt. -/
import Derived.Test.YtegebjflhhbmiaaDoorZQC6BW
import Derived.Test.YtegebjflhhbmiaaDoorZQC6AU
import Derived.Test.YtegebjflhhbmiaaDoorZQC6AX
set_option linter.unusedSimpArgs false
set_option linter.unusedVariables false
namespace Go.Proofs.YtegebjflhhbmiaaDoor
open Go Go.RowKit

/-! ### alike, lent -/
/-- What is lent: a row with four marks behind. -/
def lentP (v : Value) (l : List Int) : HP := ex fun A : Option Addr => ex fun c : Nat => pu (v = .slice A l.length c) (row 5 1 bytv (.slice A (l.length + 4) c) (l ++ [201, 202, 203, 204]))
set_option maxRecDepth 20000 in
set_option maxHeartbeats 2000000 in
theorem lend_s (c0 : World) (F : HP) (v : Value) (l : List Int) : Spec Tryd.prog c0 24 #[v] (pu (SlR F 1 bytv v l ∧ l.length ≤ 1000000) F) (fun r => lentP r l * F) := by
  intro w hq; obtain ⟨⟨hsl, hl⟩, hs⟩ := hq.pu; clear hq
  obtain ⟨A, c, rfl⟩ := slr_form hsl hs.own
  go_enter Tryd.func24, Tryd.ntmps24
  go_wp2_with (first
        | ((with_reducible apply pl_bsL (enc := bytv) (s := 1) [201, 202, 203, 204] hs); (focus (intro w; go_simp; (try rfl); done)); (focus rfl); (focus rfl); (focus rfl); (focus (simp only [maxLen]; omega)); clear hs; (try clear w); intro g w hs; simp only [Act.put, zg, zh, zi])
        | ((with_reducible apply pl_bs0r hs); (with_reducible (first | exact app_32)); clear hs; (try clear w); intro g w hs; skip; simp only [Act.put, zg, zh, zi])
        | ((with_reducible apply pl_appendN hs); (with_reducible (first | exact app_24 | exact app_32 | exact app_45 | exact app_46 | exact app_47 | exact app_122)); (focus (simp only [Act.eval, za, zb, zc, zd, ze, zf]; (try with_reducible rfl); done)); (first | (focus with_reducible (repeat (first | exact ent_here | apply ent_next | exact ent_last)); done) | (focus (with_reducible exact ent_row_nil)) | (focus ((with_reducible apply ent_row_of_blk); (focus with_reducible (repeat (first | exact ent_here | apply ent_next | exact ent_last)); done); (focus (simp only [go_sem]))))); (focus (simp only [Act.eval, za, zb, zc, zd, ze, zf]; (try with_reducible rfl); done)); (focus (first | ((repeat (first | (with_reducible (first | assumption | exact slr_ro |  exact hsl _ | exact hsl2 _ | exact hsl3 _ _ _ | exact slr_nil | exact slr_row (fun _ => by simp only [go_sem]) | exact slr_one (fun _ => by simp only [go_sem]) | (apply slr_left; assumption))) | (with_reducible apply slr_next))); done) | ((repeat (first | (with_reducible (first | assumption | exact slr_ro |  exact hsl _ | exact hsl2 _ | exact hsl3 _ _ _ | exact slr_nil | exact slr_row (fun _ => by simp only [go_sem]) | exact slr_one (fun _ => by simp only [go_sem]) | (apply slr_left; assumption))) | (with_reducible (first | (apply slr_exh; focus assumption) | (apply slr_exh0; focus assumption) | apply slr_next)))); done))); (focus (first | (simp only [maxLen] at *; omega) | (simp [maxLen] at *; omega))); (focus (first | (simp only [maxLen] at *; omega) | (simp [maxLen] at *; omega))); clear hs; (try clear w); intro Ap cq w hs; (try simp only [List.length_nil, Nat.zero_add, List.nil_append] at hs ⊢); simp only [Act.put, zg, zh, zi]))
  · obtain ⟨_, _, e1, h1, h2⟩ := row_slice hs.own
    obtain ⟨_, _, rfl⟩ := sl_inj e1
    (go_ret; simp only [za, zb, zc, zd, ze, zf])
    refine ⟨_, rfl, hs.mono (star_mono (ent_ex Ap (ent_ex cq (ent_pu rfl (by simp only [List.length_cons, List.length_nil, Nat.zero_add, Nat.reduceAdd]; exact ent_refl)))) ent_drop)⟩
  · obtain ⟨_, _, e1, h1, h2⟩ := row_slice hs.own
    obtain ⟨_, _, e2⟩ := sl_inj e1
    have hF : False := by
      simp only [List.length_append, List.length_cons, List.length_nil] at h1
      omega
    cases hF
theorem lentP_open {v : Value} {l : List Int} {F : HP} {c0 w : World} (hs : Sat c0 (lentP v l * F) w) : ∃ A c, v = .slice A l.length c ∧ l.length + 4 ≤ c ∧ c ≤ maxLen ∧ Sat c0 (row 5 1 bytv (.slice A (l.length + 4) c) (l ++ [201, 202, 203, 204]) * F) w := by
  unfold lentP at hs
  rw [ex_star] at hs
  obtain ⟨A, hs⟩ := hs.ex
  rw [ex_star] at hs
  obtain ⟨c, hs⟩ := hs.ex
  rw [pu_star] at hs
  obtain ⟨hv, hs⟩ := hs.pu
  obtain ⟨_, _, e1, h1, h2⟩ := row_slice hs.own
  obtain ⟨_, _, rfl⟩ := sl_inj e1
  exact ⟨A, c, hv, by simpa using h1, h2, hs⟩
theorem slr_lentP {v : Value} {l : List Int} : SlR (lentP v l) 1 bytv v l := fun w hw => by
  obtain ⟨A, c, rfl, h1, h2, hs⟩ := lentP_open (c0 := w) (F := emp) (w := w) ⟨rfl, rfl, rfl, hw.mono ent_last⟩
  obtain ⟨g, _, rfl, _, _⟩ := row_at (E := 5) (A := A) (n := l.length + 4) (cap := c) (i := 0) (l := l ++ [201, 202, 203, 204]) hs.own bytv_size (by omega)
  exact slr_row_take (E := 5) (s := 1) (g := g) (n := l.length + 4) (cap := c) (enc := bytv) (l := l ++ [201, 202, 203, 204]) (m := l) (k := l.length) bytv_size (by omega) List.take_left w hs.own
set_option maxRecDepth 20000 in
set_option maxHeartbeats 2000000 in
theorem intact_s (c0 : World) (F : HP) (u v : Value) (l : List Int) : Spec Tryd.prog c0 25 #[u, v] (pu (SlR F 1 bytv v l ∧ l.length ≤ 1000000) (lentP u l * F)) (fun r => pu (r = .bool true) F) := by
  intro w hq; obtain ⟨⟨hsl, hl⟩, hs⟩ := hq.pu; clear hq
  obtain ⟨A, c, rfl, h1, h2, hs⟩ := lentP_open hs
  obtain ⟨B, d, rfl⟩ := slr_form hsl (hs.own.mono ent_drop)
  unfold maxLen at h2
  have hbt : bts (l ++ [201, 202, 203, 204]) = bts l ++ ⟨#[201, 202, 203, 204]⟩ := by rw [bts_append]; rfl
  have hlm : (l ++ [201, 202, 203, 204]).length = l.length + 4 := by simp
  obtain ⟨m, hm⟩ : ∃ m, m = l ++ [201, 202, 203, 204] := ⟨_, rfl⟩
  rw [← hm] at hs hbt hlm
  replace hm := Lib.hid hm
  go_enter Tryd.func25, Tryd.ntmps25
  go_wp2_with (first
        | ((with_reducible apply pl_cvBS hs); (focus (simp only [Act.eval, za, zb, zc, zd, ze, zf]; (try with_reducible rfl); done)); (first | (with_reducible exact byt_32_9)); (focus (first | ((repeat (first | (with_reducible (first | assumption | exact slr_ro |  exact hsl _ | exact hsl2 _ | exact hsl3 _ _ _ | exact slr_nil | exact slr_row (fun _ => by simp only [go_sem]) | exact slr_one (fun _ => by simp only [go_sem]) | (apply slr_left; assumption))) | (with_reducible apply slr_next))); done) | ((repeat (first | (with_reducible (first | assumption | exact slr_ro |  exact hsl _ | exact hsl2 _ | exact hsl3 _ _ _ | exact slr_nil | exact slr_row (fun _ => by simp only [go_sem]) | exact slr_one (fun _ => by simp only [go_sem]) | (apply slr_left; assumption))) | (with_reducible (first | (apply slr_exh; focus assumption) | (apply slr_exh0; focus assumption) | apply slr_next)))); done))); (focus rfl); simp only [Act.put, zg, zh, zi]))
  · have hF : False := by
      have hbs := bts_size l
      omega
    cases hF
  go_loopw [7] (fun i wr => ∃ (k : Nat) (m' : List Int), k ≤ l.length + 4 ∧ i = .int .i64 k ∧ m'.length = l.length + 4 ∧ Sat c0 (row 5 1 bytv (.slice A (l.length + 4) c) m' * F) wr) (fun i _ => (l.length + 4) - (intOf i).toNat)
  case atStart => exact ⟨0, m, by omega, rfl, hlm, hs⟩
  case round =>
    clear hs
    obtain ⟨k, m', hk, rfl, hm', hs⟩ := hrel
    by_cases hlt : k < l.length + 4
    · have hkl : k < m'.length := by omega
      obtain ⟨g, b, rfl, hlb, hel⟩ := row_at hs.own bytv_size hlt
      clear hel
      go_wp2_with (first
        | (((with_reducible apply pl_storeIn (i := k) (j := 0) hs); (focus (simp only [Act.eval, za, zb, zc, zd, ze, zf]; (try with_reducible rfl); done)); (focus with_reducible (repeat (first | exact ent_here | apply ent_next | exact ent_last)); done); (focus (simp only [Act.eval, za, zb, zc, zd, ze, zf]; (try with_reducible rfl); done)); (focus (simp only [go_sem])); (focus rfl); (focus omega); (focus omega); (focus (exact hlb)); (focus (exact bytv_set _ _)); (focus (exact bytv_size)); clear hs; (try clear w);  intro w hs; simp only [Act.put, zg, zh, zi])))
      exact ⟨⟨k + 1, _, by omega, by go_num, (by rw [List.length_set]; exact hm'), hs⟩, by simp [intOf]; omega⟩
    · go_wp2_with fail
      (go_ret; simp only [za, zb, zc, zd, ze, zf])
      exact ⟨_, rfl, hs.mono (ent_pu rfl ent_drop)⟩
end Go.Proofs.YtegebjflhhbmiaaDoor
