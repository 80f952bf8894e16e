/- The laws Names and Unlike. -/
import Derived.Test.YtegebjflhhbmiaaDoorZQC1BD
import Derived.Test.YtegebjflhhbmiaaDoorZQC1BF
import Derived.Test.YtegebjflhhbmiaaDoorZQC1AM
set_option linter.unusedSimpArgs false
set_option linter.unusedVariables false
namespace Go.Proofs.YtegebjflhhbmiaaDoor
open Go Go.RowKit

theorem names_s (c0 : World) (F : HP) (a : Nat → Addr) : Spec Tryd.prog c0 6 #[] (pu (ErrB F a) F) (fun r => pu (r = .bool true) F) := by
  intro w hq; obtain ⟨hE, hs⟩ := hq.pu; clear hq
  have hkd : ∀ (F : HP), Spec Tryd.prog c0 16 #[.slice none 0 0] F (fun r => pu (r = .int .i64 0) F) := fun F w hs =>
    kind_s c0 F _ [] w (hs.mono (ent_pu ⟨slr_nil, by simp⟩ ent_refl))
  go_enter Tryd.func6, Tryd.ntmps6
  go_wp2_with (first
        | ((with_reducible rewrite [pl_strike_eq]); rotate_left 1; (focus rfl))
        | ((with_reducible apply pl_call hs (hkd _)); (go_must (((focus (simp only [zj, zk, zl, List.append_toArray, List.nil_append, List.cons_append, Act.eval, za, zb, zc, zd, ze, zf]; (try with_reducible rfl); done)); (focus ((repeat (first | (with_reducible (first | exact ent_refl | apply ent_puR)) | ((with_reducible apply ent_front); (focus with_reducible (repeat (first | exact ent_here | apply ent_next | exact ent_last)); done)) | (with_reducible (first | exact ent_keep | apply ent_trans ent_drop)) | (fail))); done)); (focus (simp only [go_sem]))))); clear hs; (try clear w); intro v w hq; (obtain ⟨rfl, hs⟩ := hq.pu); clear hq; (try simp only [star_assoc, star_emp, emp_star] at hs); (try simp only [Act.put, zg, zh, zi]))
        | ((with_reducible apply pl_call hs (wakes_s _ _ a)); (go_must (((focus (simp only [zj, zk, zl, List.append_toArray, List.nil_append, List.cons_append, Act.eval, za, zb, zc, zd, ze, zf]; (try with_reducible rfl); done)); (focus ((repeat (first | (with_reducible (first | exact ent_refl | apply ent_puR)) | ((with_reducible apply ent_front); (focus with_reducible (repeat (first | exact ent_here | apply ent_next | exact ent_last)); done)) | (with_reducible (first | exact ent_keep | apply ent_trans ent_drop)) | (focus (first | (with_reducible assumption))))); done)); (focus (simp only [go_sem]))))); clear hs; (try clear w); intro v w hq; (obtain ⟨rfl, hs⟩ := hq.pu); clear hq; (try simp only [star_assoc, star_emp, emp_star] at hs); (try simp only [Act.put, zg, zh, zi])))
  (go_ret; simp only [za, zb, zc, zd, ze, zf])
  exact ⟨_, rfl, hs.mono (ent_pu rfl (by ((repeat (first | (with_reducible (first | exact ent_refl | exact ent_emp)) | ((with_reducible apply ent_front); (focus with_reducible (repeat (first | exact ent_here | apply ent_next | exact ent_last)); done)) | (with_reducible (first | exact ent_keep | apply ent_trans ent_drop)))); done)))⟩
end Go.Proofs.YtegebjflhhbmiaaDoor
