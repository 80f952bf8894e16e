/- Calls of a reader: what stays; bytes that are cut. -/
import Derived.Test.YtdniiegnaabagaaDoorV8
set_option linter.unusedSimpArgs false
set_option linter.unusedVariables false
namespace Go.Proofs.YtdniiegnaabagaaDoor
open Go Go.RowKit

structure CalI (c : CalD) : Prop where
  kind : InI c.kind
  least : InI c.least
  most : InI c.most
/-- The reader behind one call. -/
def RdS.did (s : RdS) (c : CalD) : RdS := if c.kind % 5 = 0 then (s.num c.most).2 else if c.kind % 5 = 1 then (s.text c.most).2 else if c.kind % 5 = 2 then s.byte.2 else if c.kind % 5 = 3 then (s.count c.least c.most).2 else s.fin.2
theorem RdS.call_raw {α : Type} {s : RdS} {c : ByteArray} {z : α} {x : Except Nat (α × Nat)} : (s.call c z x).2.raw = s.raw := by
  unfold RdS.call
  split
  · rfl
  · split <;> rfl
theorem RdS.did_raw (s : RdS) (c : CalD) : (s.did c).raw = s.raw := by
  unfold RdS.did
  repeat' split
  all_goals exact RdS.call_raw
theorem RdS.call_in {α : Type} {s : RdS} {c : ByteArray} {z : α} {x : Except Nat (α × Nat)} (h : s.In) (hx : ∀ v p, x = .ok (v, p) → p ≤ s.raw.length) : (s.call c z x).2.In := by
  unfold RdS.call
  split
  · exact h
  · match x, hx with
    | .ok (v, p), hx => exact ⟨hx v p rfl, h.2⟩
    | .error e, _ => exact h
theorem RdS.num_in {s : RdS} {most : Int} (h : s.In) : (s.num most).2.In := RdS.call_in h fun _ _ hx => (RdS.xNum_ok h hx).2.1
theorem RdS.byte_in {s : RdS} (h : s.In) : s.byte.2.In := RdS.call_in h fun v p hx => by
  unfold RdS.xByte at hx
  split at hx
  · rename_i b hb
    cases hx
    exact (List.getElem?_eq_some_iff.1 hb).1
  · cases hx
theorem RdS.text_in {s : RdS} {most : Int} (h : s.In) : (s.text most).2.In := RdS.call_in h fun v p hx => by
  obtain ⟨v0, k0, h1, h2, _, rfl⟩ := RdS.xText_ok hx
  have := rd0_in h h1
  omega
theorem RdS.count_in {s : RdS} {least most : Int} (h : s.In) : (s.count least most).2.In := RdS.call_in h fun v p hx => by
  obtain ⟨v0, k0, h1, _, _, rfl⟩ := RdS.xCount_ok hx
  exact rd0_in h h1
theorem RdS.fin_in {s : RdS} (h : s.In) : s.fin.2.In := RdS.call_in h fun v p hx => by
  unfold RdS.xEnd at hx
  split at hx
  · cases hx
  · cases hx; exact h.1
theorem RdS.did_in {s : RdS} (h : s.In) (c : CalD) : (s.did c).In := by
  unfold RdS.did
  repeat' split
  · exact RdS.num_in h
  · exact RdS.text_in h
  · exact RdS.byte_in h
  · exact RdS.count_in h
  · exact RdS.fin_in h
theorem clip_s (c0 : World) (F : HP) (A : Option Addr) (n c q : Nat) : Spec Tryd.prog c0 12 #[.slice A n c] (pu (q = min n 4000 ∧ n ≤ c ∧ c ≤ maxLen) F) (fun r => pu (r = .slice A q c) F) := by
  intro w hq; obtain ⟨⟨rfl, h1, h2⟩, hs⟩ := hq.pu; clear hq
  unfold maxLen at h2
  by_cases h : n ≤ 4000
  · have hm : min n 4000 = n := by omega
    rw [hm]
    go_enter Tryd.func12, Tryd.ntmps12
    go_wp2_with fail
    (go_ret; simp only [za, zb, zc, zd, ze, zf])
    exact ⟨_, rfl, hs.mono (ent_pu rfl (by ((repeat (first | (with_reducible (first | exact ent_refl | exact ent_emp)) | ((with_reducible apply ent_front); (focus with_reducible (repeat (first | exact ent_here | apply ent_next | exact ent_last)); done)) | (with_reducible (first | exact ent_keep | apply ent_trans ent_drop)))); done)))⟩
  · have hm : min n 4000 = 4000 := by omega
    rw [hm]
    go_enter Tryd.func12, Tryd.ntmps12
    go_wp2_with fail
    (go_ret; simp only [za, zb, zc, zd, ze, zf])
    exact ⟨_, rfl, hs.mono (ent_pu rfl (by ((repeat (first | (with_reducible (first | exact ent_refl | exact ent_emp)) | ((with_reducible apply ent_front); (focus with_reducible (repeat (first | exact ent_here | apply ent_next | exact ent_last)); done)) | (with_reducible (first | exact ent_keep | apply ent_trans ent_drop)))); done)))⟩
theorem left_i (c0 : World) (F : HP) (g : Nat) (A : Option Addr) (n c : Nat) (p : Int) (e : Value) : Spec Tryd.prog c0 24 #[.pointer (some ⟨g, 0, none⟩)] (pu (0 ≤ p ∧ p ≤ n ∧ n ≤ 4000) (rdc g A n c p e * F))
    (fun r => pu (r = .int .i64 ((n : Int) - p)) (rdc g A n c p e * F)) := by
  intro w hq; obtain ⟨⟨h0, h1, h2⟩, hs⟩ := hq.pu; clear hq
  go_enter Tryd.func24, Tryd.ntmps24
  go_wp2_with (first
        | ((with_reducible apply wp_region_sl (G := emp) (id := 1) hs 1000); (focus (exact ent_emp_l)); (focus kernel_rfl); (focus decide +kernel); clear hs; (try clear w); intro hR w hRR hs; (try simp only [star_assoc] at hs))
        | ((with_reducible apply pl_load1 hs); (focus (simp only [Act.eval, za, zb, zc, zd, ze, zf]; (try with_reducible rfl); done)); (focus (simp only [go_sem])); (focus ((repeat (first | (with_reducible (first | assumption | exact hec _ | exact hec2 _ | exact hec3 _ | exact hec4 _ _)) | ((with_reducible apply readc_here); (focus (first | (simp only [zc, zd, ze, go_sem]; (try with_reducible rfl); done) | (go_simp; (try with_reducible rfl); done)))) | (with_reducible (first | (apply readc_left; assumption) | refine readc_exh (by assumption) ?_ | refine readc_exh0 (by assumption) ?_ | apply readc_next)))); done)); (focus rfl); simp only [Act.put, zg, zh, zi])
        | ((with_reducible apply mix_end hRR hs); (focus with_reducible (repeat (first | exact ent_here | apply ent_next | exact ent_last)); done); clear hs; (try clear w); intro w hs; (try simp only [star_assoc, star_emp, emp_star] at hs); clear hRR hR)
        | ((with_reducible apply mix_thaw hRR hs); (focus with_reducible (repeat (first | exact ent_here | apply ent_next | exact ent_last)); done); clear hs; (try clear w); intro w hs; (try simp only [star_assoc, star_emp, emp_star] at hs); clear hRR hR)
        | ((with_reducible apply mx_load1 hRR); (focus (simp only [Act.eval, za, zb, zc, zd, ze, zf]; (try with_reducible rfl); done)); (focus (simp only [go_sem])); (focus ((repeat (first | (with_reducible (first | assumption | exact hec _ | exact hec2 _ | exact hec3 _ | exact hec4 _ _)) | ((with_reducible apply readc_here); (focus (first | (simp only [zc, zd, ze, go_sem]; (try with_reducible rfl); done) | (go_simp; (try with_reducible rfl); done)))) | (with_reducible (first | (apply readc_left; assumption) | refine readc_exh (by assumption) ?_ | refine readc_exh0 (by assumption) ?_ | apply readc_next)))); done)); simp only [Act.put, zg, zh, zi])
        | ((with_reducible refine mix_float ?_ ?_ ?_ (fun h hk => ?_) ?_); rotate_left 1; (focus rfl); (focus rfl); (focus (go_simp; (try (rw [if_pos (by omega)]; (try go_simp))); (try simp (disch := omega) only [IntWalk.i64_in, IntWalk.i32_in]); (try with_reducible rfl); done)); simp only [Act.put, zg, zh, zi])
        | ((with_reducible refine mix_float_skip ?_ ?_ (fun h hk => ?_) ?_); (focus rfl); (focus rfl); (focus (go_simp; done)); simp only [Act.put, zg, zh, zi]))
  (go_ret; simp only [za, zb, zc, zd, ze, zf])
  exact ⟨_, rfl, hs.mono (ent_pu rfl (by ((repeat (first | (with_reducible (first | exact ent_refl | exact ent_emp)) | ((with_reducible apply ent_front); (focus with_reducible (repeat (first | exact ent_here | apply ent_next | exact ent_last)); done)) | (with_reducible (first | exact ent_keep | apply ent_trans ent_drop)))); done)))⟩
theorem at_i (c0 : World) (F : HP) (g : Nat) (A : Option Addr) (n c : Nat) (p : Int) (e : Value) : Spec Tryd.prog c0 22 #[.pointer (some ⟨g, 0, none⟩)] (rdc g A n c p e * F)
    (fun r => pu (r = .int .i64 p) (rdc g A n c p e * F)) := by
  intro w hs
  go_enter Tryd.func22, Tryd.ntmps22
  go_wp2_with (first
        | ((with_reducible apply pl_load1 hs); (focus (simp only [Act.eval, za, zb, zc, zd, ze, zf]; (try with_reducible rfl); done)); (focus (simp only [go_sem])); (focus ((repeat (first | (with_reducible (first | assumption | exact hec _ | exact hec2 _ | exact hec3 _ | exact hec4 _ _)) | ((with_reducible apply readc_here); (focus (first | (simp only [zc, zd, ze, go_sem]; (try with_reducible rfl); done) | (go_simp; (try with_reducible rfl); done)))) | (with_reducible (first | (apply readc_left; assumption) | refine readc_exh (by assumption) ?_ | refine readc_exh0 (by assumption) ?_ | apply readc_next)))); done)); (focus rfl); simp only [Act.put, zg, zh, zi]))
  (go_ret; simp only [za, zb, zc, zd, ze, zf])
  exact ⟨_, rfl, hs.mono (ent_pu rfl (by ((repeat (first | (with_reducible (first | exact ent_refl | exact ent_emp)) | ((with_reducible apply ent_front); (focus with_reducible (repeat (first | exact ent_here | apply ent_next | exact ent_last)); done)) | (with_reducible (first | exact ent_keep | apply ent_trans ent_drop)))); done)))⟩
end Go.Proofs.YtdniiegnaabagaaDoor
