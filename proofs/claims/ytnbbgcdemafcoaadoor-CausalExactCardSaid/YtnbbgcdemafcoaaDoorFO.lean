/- The program's inbox: Clear. -/
import Derived.Test.YtnbbgcdemafcoaaDoorFN
set_option linter.unusedSimpArgs false
set_option linter.unusedVariables false
namespace Go.Proofs.YtnbbgcdemafcoaaDoor
open Go Go.RowKit Go.Maps

theorem SetIs.wiped {w : World} {h n : Nat} {f : Int → Int → Bool} (hs : SetIs w h n f) (ty : TypeId) :
    ∃ w', (Builtin.clear_ #[68] ty #[.map (some h)]).run Tryd.prog w = .ok (.tuple #[]) w' ∧ SetIs w' h 0 (fun _ _ => false) ∧ w.mapTurned w' h := by
  obtain ⟨D, ⟨es, c, h1, _⟩, _⟩ := hs
  refine ⟨ChangeMaps.setBlock w h (.map #[] c), ?_, ⟨.map [], ⟨#[], c, by simp [ChangeMaps.setBlock, (Array.getElem?_eq_some_iff.1 h1).1], ⟨by simp, MapKept.stamped_empty c, by simp⟩, Nat.le_refl _, rfl⟩, fun _ _ _ _ => rfl⟩, ⟨es, c, _, _, h1, rfl⟩⟩
  unfold Builtin.clear_
  simp [run_underlying Tryd.underlying68, MapKept.run_getObj_map h1, MapKept.run_setObj_map _ h1, Result.andThen, ChangeMaps.setBlock]
set_option maxRecDepth 20000 in
theorem ow_wipe {c : World} {H : HP} {w : World} {Q : Exit → Act → World → Prop} {a : Act} {dst : Option Tmp} {ty : TypeId} {pos : String} {aft : Array Edge} {gd : Option (Nat × Bool)} {K : Act → World → Prop} {m : Operand} {h n : Nat} {f : Int → Int → Bool} {R : HP} (hs : Sat c H w) (hm : a.eval m = .map (some h)) (he : Ent H (keys h n f * R)) (hK : ∀ w' : World, Sat c (keys h 0 (fun _ _ => false) * R) w' → K (a.put dst (.tuple #[])) w') : Oper.wp Tryd.prog ⟨dst, .call ⟨.builtin .clear, #[m], #[68]⟩, ty, pos, aft, gd⟩ a w K Q := by
  have hs' := hs.mono he
  obtain ⟨w', hrun, h1, h2⟩ := (keys_here w hs'.own).wiped ty
  unfold Oper.wp
  simp [execOp, resolve, invoke, builtin, hm, hrun, Result.andThen]
  exact hK _ (hs'.keysTurn h1 h2)
theorem pl_wipe {c : World} {H : HP} {w : World} {ops : Array Oper} {Q : Exit → Act → World → Prop} {a : Act} {dst : Option Tmp} {ty : TypeId} {pos : String} {aft : Array Edge} {rest : List Oper} {m : Operand} {h n : Nat} {f : Int → Int → Bool} {R : HP} (hs : Sat c H w) (hm : a.eval m = .map (some h)) (he : Ent H (keys h n f * R)) (hK : ∀ w' : World, Sat c (keys h 0 (fun _ _ => false) * R) w' → wpList Tryd.prog ops Q rest (a.put dst (.tuple #[])) w') : wpList Tryd.prog ops Q (⟨dst, .call ⟨.builtin .clear, #[m], #[68]⟩, ty, pos, aft, none⟩ :: rest) a w :=
  wpList_plain rfl fun K hk => ow_wipe hs hm he (fun  w' h => hk _ _ (hK  w' h))
set_option maxRecDepth 20000 in
set_option maxHeartbeats 4000000 in
theorem clear_s (c0 : World) (F : HP) (gi : Nat) (most : Int) (l : List ActD) (m : Nat) : Spec Tryd.prog c0 51 #[.pointer (some ⟨gi, 0, none⟩)] (inb gi most l m * F) (fun _ => inb gi most [] 0 * F) := by
  intro w hs
  obtain ⟨h, v, hs⟩ := inb_open hs
  go_enter Tryd.func51, Tryd.ntmps51
  go_wp2_with (first
        | ((with_reducible apply pl_load1 hs); (focus (simp only [Act.eval, za, zb, zc, zd, ze, zf]; (try with_reducible rfl); done)); (focus (simp only [go_sem])); (focus ((repeat (first | (with_reducible (first | assumption | exact hec _ | exact hec2 _ | exact hec3 _ | exact hec4 _ _)) | ((with_reducible apply readc_here); (focus (first | (simp only [zc, zd, ze, go_sem]; (try with_reducible rfl); done) | (go_simp; (try with_reducible rfl); done)))) | (with_reducible (first | (apply readc_left; assumption) | refine readc_exh (by assumption) ?_ | refine readc_exh0 (by assumption) ?_ | apply readc_next)))); done)); (focus rfl); simp only [Act.put, zg, zh, zi])
        | ((with_reducible apply pl_store1 hs); (focus (simp only [Act.eval, za, zb, zc, zd, ze, zf]; (try with_reducible rfl); done)); (focus (simp only [Act.eval, za, zb, zc, zd, ze, zf]; (try with_reducible rfl); done)); (focus (simp only [go_sem])); (focus with_reducible (repeat (first | exact ent_here | apply ent_next | exact ent_last)); done); (focus (first | (simp [go_sem]; done) | (simp only [go_sem]; omega) | go_size)); (focus (first | (simp only [go_sem]; done) | (simp [go_sem]; done))); clear hs; (try clear w); intro w hs; (try simp only [zg, zh, zi, clk_set, actv_set4] at hs); simp only [Act.put, zg, zh, zi])
        | ((with_reducible apply pl_clearTail hs); (with_reducible (first | exact app_22 | exact app_51 | exact app_52)); (focus (first | (with_reducible exact clr_act))); (focus (simp only [Act.eval, za, zb, zc, zd, ze, zf]; (try with_reducible rfl); done)); (focus with_reducible (repeat (first | exact ent_here | apply ent_next | exact ent_last)); done); (focus (first | (with_reducible rfl) | (simp; done))); (focus (first | (with_reducible assumption) | omega | (simp; done) | (simp; omega))); clear hs; (try clear w); intro w hs; skip; simp only [Act.put, zg, zh, zi]))
  have hs2 : Sat c0 (keys h m (heldF l) * (blk gi (.cells #[.int .i64 most, .slice none 0 0, .map (some h)] 70 (0, 0)) * F)) _ := hs.mono (by ((repeat (first | (with_reducible (first | exact ent_refl | exact ent_emp)) | ((with_reducible apply ent_front); (focus with_reducible (repeat (first | exact ent_here | apply ent_next | exact ent_last)); done)) | (with_reducible (first | exact ent_keep | apply ent_trans ent_drop)))); done))
  obtain ⟨w2, hrun, h1, h2⟩ := (keys_here _ hs2.own).wiped 0
  replace hs : Sat c0 (keys h 0 (heldF []) * (blk gi (.cells #[.int .i64 most, .slice none 0 0, .map (some h)] 70 (0, 0)) * F)) _ := hs2.keysTurn h1 h2
  rw [hrun]
  go_simp
  (try simp only [Act.put, zg, zh, zi])
  go_wp2_with (first
        | ((with_reducible apply pl_load1 hs); (focus (simp only [Act.eval, za, zb, zc, zd, ze, zf]; (try with_reducible rfl); done)); (focus (simp only [go_sem])); (focus ((repeat (first | (with_reducible (first | assumption | exact hec _ | exact hec2 _ | exact hec3 _ | exact hec4 _ _)) | ((with_reducible apply readc_here); (focus (first | (simp only [zc, zd, ze, go_sem]; (try with_reducible rfl); done) | (go_simp; (try with_reducible rfl); done)))) | (with_reducible (first | (apply readc_left; assumption) | refine readc_exh (by assumption) ?_ | refine readc_exh0 (by assumption) ?_ | apply readc_next)))); done)); (focus rfl); simp only [Act.put, zg, zh, zi])
        | ((with_reducible apply pl_store1 hs); (focus (simp only [Act.eval, za, zb, zc, zd, ze, zf]; (try with_reducible rfl); done)); (focus (simp only [Act.eval, za, zb, zc, zd, ze, zf]; (try with_reducible rfl); done)); (focus (simp only [go_sem])); (focus with_reducible (repeat (first | exact ent_here | apply ent_next | exact ent_last)); done); (focus (first | (simp [go_sem]; done) | (simp only [go_sem]; omega) | go_size)); (focus (first | (simp only [go_sem]; done) | (simp [go_sem]; done))); clear hs; (try clear w); intro w hs; (try simp only [zg, zh, zi, clk_set, actv_set4] at hs); simp only [Act.put, zg, zh, zi])
        | ((with_reducible apply pl_clearTail hs); (with_reducible (first | exact app_22 | exact app_51 | exact app_52)); (focus (first | (with_reducible exact clr_act))); (focus (simp only [Act.eval, za, zb, zc, zd, ze, zf]; (try with_reducible rfl); done)); (focus with_reducible (repeat (first | exact ent_here | apply ent_next | exact ent_last)); done); (focus (first | (with_reducible rfl) | (simp; done))); (focus (first | (with_reducible assumption) | omega | (simp; done) | (simp; omega))); clear hs; (try clear w); intro w hs; skip; simp only [Act.put, zg, zh, zi]))
  refine bodyPost_end (results_none rfl _ _ _) rfl ?_
  exact ⟨_, rfl, hs.mono (ent_trans (B := blk gi (.cells #[.int .i64 most, .slice none 0 0, .map (some h)] 70 (0, 0)) * (keys h 0 (heldF []) * F)) (by ((repeat (first | (with_reducible (first | exact ent_refl | exact ent_emp)) | ((with_reducible apply ent_front); (focus with_reducible (repeat (first | exact ent_here | apply ent_next | exact ent_last)); done)) | (with_reducible (first | exact ent_keep | apply ent_trans ent_drop)))); done)) (ent_trans (star_mono ent_refl ent_row_nil) inb_shut))⟩
end Go.Proofs.YtnbbgcdemafcoaaDoor
