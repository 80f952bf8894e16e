/- Refusals: how they are made. -/
import Derived.Test.YtgoifgockcpnhaaDoorZDC7AP
set_option linter.unusedSimpArgs false
set_option linter.unusedVariables false
namespace Go.Proofs.YtgoifgockcpnhaaDoor
open Go Go.RowKit

/-- A refusal in memory: where, and why. -/
def fltv (a b : ByteArray) (n : Int) (t : TypeId) (p : Option Addr) : Array Value := #[.string a, .string b, .int .i64 n, .iface t (.pointer p)]
def atV (n : Int) : Int := if n < -1 then -1 else n
theorem atV_m1 : atV (-1) = -1 := by decide
theorem fnew_s (c0 : World) (F : HP) (a b : ByteArray) (n : Int) (t : TypeId) (p : Option Addr) : Spec Tryd.prog c0 58 #[.string a, .string b, .int .i64 n, .iface t (.pointer p)] F
    (fun r => ex fun g => pu (r = .iface 112 (.pointer (some ⟨g, 0, none⟩))) (blk g (.cells (fltv a b (atV n) t p) 114 (0, 0)) * F)) := by
  intro w hs
  by_cases hn : n < -1
  · have hv : atV n = -1 := if_pos hn
    go_enter Tryd.func58, Tryd.ntmps58
    go_wp2_with (first
        | ((with_reducible apply pl_build hs); (focus (simp only [zj, zk, zl, Act.eval, za, zb, zc, zd, ze, zf]; (try with_reducible rfl); done)); (first | (with_reducible exact bld_9 _ _ _ _ _)); (focus rfl); simp only [Act.put, zg, zh, zi])
        | ((with_reducible apply pl_box hs); (focus (simp only [Act.eval, za, zb, zc, zd, ze, zf]; (try with_reducible rfl); done)); (focus (first | (with_reducible (first | exact cells_intv _ | exact cells_bytv _ | exact cells_runv _ | exact cells_slv _ _ _ | exact cells_agg _ | exact cells_int _ _ | exact cells_bool _ | exact cells_string _ | exact cells_slice _ _ _ | exact cells_pointer _ | exact cells_map _ | exact cells_iface _ _ | exact cells_nilIface | exact cells_func _ _ _)) | (exact cells_one (by assumption)))); clear hs; (try clear w); intro g w hs; skip; simp only [Act.put, zg, zh, zi]))
    (go_ret; simp only [za, zb, zc, zd, ze, zf])
    exact ⟨_, rfl, hs.mono (ent_ex _ (ent_pu rfl (by (try rw [hv]); unfold fltv; ((repeat (first | (with_reducible (first | exact ent_refl | exact ent_emp)) | ((with_reducible apply ent_front); (focus with_reducible (repeat (first | exact ent_here | apply ent_next | exact ent_last)); done)) | (with_reducible (first | exact ent_keep | apply ent_trans ent_drop)))); done))))⟩
  · have hv : atV n = n := if_neg hn
    go_enter Tryd.func58, Tryd.ntmps58
    go_wp2_with (first
        | ((with_reducible apply pl_build hs); (focus (simp only [zj, zk, zl, Act.eval, za, zb, zc, zd, ze, zf]; (try with_reducible rfl); done)); (first | (with_reducible exact bld_9 _ _ _ _ _)); (focus rfl); simp only [Act.put, zg, zh, zi])
        | ((with_reducible apply pl_box hs); (focus (simp only [Act.eval, za, zb, zc, zd, ze, zf]; (try with_reducible rfl); done)); (focus (first | (with_reducible (first | exact cells_intv _ | exact cells_bytv _ | exact cells_runv _ | exact cells_slv _ _ _ | exact cells_agg _ | exact cells_int _ _ | exact cells_bool _ | exact cells_string _ | exact cells_slice _ _ _ | exact cells_pointer _ | exact cells_map _ | exact cells_iface _ _ | exact cells_nilIface | exact cells_func _ _ _)) | (exact cells_one (by assumption)))); clear hs; (try clear w); intro g w hs; skip; simp only [Act.put, zg, zh, zi]))
    (go_ret; simp only [za, zb, zc, zd, ze, zf])
    exact ⟨_, rfl, hs.mono (ent_ex _ (ent_pu rfl (by (try rw [hv]); unfold fltv; ((repeat (first | (with_reducible (first | exact ent_refl | exact ent_emp)) | ((with_reducible apply ent_front); (focus with_reducible (repeat (first | exact ent_here | apply ent_next | exact ent_last)); done)) | (with_reducible (first | exact ent_keep | apply ent_trans ent_drop)))); done))))⟩
end Go.Proofs.YtgoifgockcpnhaaDoor
