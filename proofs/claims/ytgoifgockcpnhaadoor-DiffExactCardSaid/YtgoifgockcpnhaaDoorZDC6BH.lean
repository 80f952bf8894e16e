/- DiffCommon: what two texts have in common stands in both, with gaps; of a text and itself it is the text. -/
import Derived.Test.YtgoifgockcpnhaaDoorZDC6BG
set_option linter.unusedSimpArgs false
set_option linter.unusedVariables false
namespace Go.Proofs.YtgoifgockcpnhaaDoor
open Go Go.RowKit

theorem clip2_s (c0 : World) (F : HP) (s : ByteArray) : Spec Tryd.prog c0 10 #[.string s] (pu (s.size ≤ 9223372036854775807) F) (fun r => pu (r = .string (clipB s)) F) := by
  intro w hq; obtain ⟨h1, hs⟩ := hq.pu; clear hq
  by_cases h : 120 < s.size
  · have h' : (120 : Int) < s.size := by omega
    go_enter Tryd.func10, Tryd.ntmps10
    go_wp2_with fail
    (go_ret; simp only [za, zb, zc, zd, ze, zf])
    exact ⟨_, rfl, hs.mono (ent_pu (by unfold clipB; rw [if_pos h]) (by ((repeat (first | (with_reducible (first | exact ent_refl | exact ent_emp)) | ((with_reducible apply ent_front); (focus with_reducible (repeat (first | exact ent_here | apply ent_next | exact ent_last)); done)) | (with_reducible (first | exact ent_keep | apply ent_trans ent_drop)))); done)))⟩
  · have h' : ¬ (120 : Int) < s.size := by omega
    go_enter Tryd.func10, Tryd.ntmps10
    go_wp2_with fail
    (go_ret; simp only [za, zb, zc, zd, ze, zf])
    exact ⟨_, rfl, hs.mono (ent_pu (by unfold clipB; rw [if_neg h]) (by ((repeat (first | (with_reducible (first | exact ent_refl | exact ent_emp)) | ((with_reducible apply ent_front); (focus with_reducible (repeat (first | exact ent_here | apply ent_next | exact ent_last)); done)) | (with_reducible (first | exact ent_keep | apply ent_trans ent_drop)))); done)))⟩
end Go.Proofs.YtgoifgockcpnhaaDoor
