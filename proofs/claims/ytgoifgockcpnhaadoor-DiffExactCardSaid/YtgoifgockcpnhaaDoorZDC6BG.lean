/- What the laws of texts share: how long, awake, within. -/
import Derived.Test.YtgoifgockcpnhaaDoorZDC6BF
set_option linter.unusedSimpArgs false
set_option linter.unusedVariables false
namespace Go.Proofs.YtgoifgockcpnhaaDoor
open Go Go.RowKit

theorem clipB_size (s : ByteArray) : (clipB s).size ≤ 120 := by
  unfold clipB
  split
  · rw [ByteArray.size_extract]; omega
  · omega
theorem wkE : wk 0 0 [] [97, 98, 99, 100] [97, 120, 99, 100] = [⟨1, 1, [120]⟩] := by simp [wk, dst, fl]
theorem wkD : dst [97, 98] [98, 97] = 2 := by simp [dst]
theorem one_read {g n c : Nat} {l : List EdtD} {d : EdtD} (h : l[0]? = some d) : ∀ R, Reads (row 44 3 edt (.slice (some ⟨g, 0, none⟩) n c) l * R) g 0 3 (edt d) := fun R => by
  have := reads_row (E := 44) (g := g) (n := n) (cap := c) (R := R) edt_size h
  rwa [Nat.zero_mul] at this
set_option maxRecDepth 20000 in
set_option maxHeartbeats 1000000 in
theorem wakes_s (c0 : World) (F : HP) (a : Nat → Addr) : Spec Tryd.prog c0 12 #[] (pu (ErrB F a ∧ TabF F) F) (fun r => pu (r = .bool true) F) := by
  intro w hq; obtain ⟨⟨hE, hT⟩, hs⟩ := hq.pu; clear hq
  have hed : ∀ F, Spec Tryd.prog c0 17 #[.string ⟨#[97, 98, 99, 100]⟩, .string ⟨#[97, 120, 99, 100]⟩] (pu (ErrB F a ∧ TabF F) F) (fun r => ex fun v : Value => pu (r = .tuple #[v, .nilIface]) (row 44 3 edt v [⟨1, 1, ⟨#[120]⟩⟩] * F)) := fun F w hs => by
    obtain ⟨⟨h1, h2⟩, hs⟩ := hs.pu
    have := edits_s c0 F a ⟨#[97, 98, 99, 100]⟩ ⟨#[97, 120, 99, 100]⟩ w (hs.mono (ent_pu ⟨h1, h2, by decide, by decide⟩ ent_refl))
    unfold EdR at this
    rw [show txtR ⟨#[97, 98, 99, 100]⟩ ⟨#[97, 120, 99, 100]⟩ = .ok ([97, 98, 99, 100], [97, 120, 99, 100]) from rfl] at this
    simp only [wkE] at this
    exact this
  have hdi : ∀ F, Spec Tryd.prog c0 13 #[.string ⟨#[97, 98]⟩, .string ⟨#[98, 97]⟩] (pu (ErrB F a ∧ TabF F) F) (fun r => pu (r = .tuple #[.int .i64 2, .nilIface]) F) := fun F w hs => by
    obtain ⟨⟨h1, h2⟩, hs⟩ := hs.pu
    have := distance_s c0 F a ⟨#[97, 98]⟩ ⟨#[98, 97]⟩ w (hs.mono (ent_pu ⟨h1, h2, by decide, by decide⟩ ent_refl))
    unfold DiR at this
    rw [show txtR ⟨#[97, 98]⟩ ⟨#[98, 97]⟩ = .ok ([97, 98], [98, 97]) from rfl] at this
    simp only [wkD] at this
    exact this
  go_enter Tryd.func12, Tryd.ntmps12
  go_wp2_with (first
        | ((with_reducible rewrite [pl_strike_eq]); rotate_left 1; (focus rfl))
        | ((with_reducible apply pl_call hs (hed _)); ((((focus (simp only [zj, zk, zl, List.append_toArray, List.nil_append, List.cons_append, Act.eval, za, zb, zc, zd, ze, zf]; (try with_reducible rfl); done)); (focus ((repeat (first | (with_reducible (first | exact ent_refl | apply ent_puR)) | ((with_reducible apply ent_front); (focus with_reducible (repeat (first | exact ent_here | apply ent_next | exact ent_last)); done)) | (with_reducible (first | exact ent_keep | apply ent_trans ent_drop)) | (focus (first | ((repeat' (first | (with_reducible assumption) | (with_reducible apply And.intro))); done))))); done)); (focus (simp only [go_sem]))))); clear hs; (try clear w); intro v w hq; (obtain ⟨v, hq1⟩ := hq.ex; obtain ⟨rfl, hs⟩ := hq1.pu; clear hq1; obtain ⟨g, cap, rfl⟩ := edts_row_some hs.own (by simp); (simp only [List.length_cons, List.length_nil, Nat.zero_add] at hs ⊢); have hel := one_read (g := g) (n := 1) (c := cap) (l := [(⟨1, 1, ⟨#[120]⟩⟩ : EdtD)]) rfl); clear hq; (try simp only [star_assoc, star_emp, emp_star] at hs); (try simp only [Act.put, zg, zh, zi]))
        | ((with_reducible apply pl_call hs (hdi _)); ((((focus (simp only [zj, zk, zl, List.append_toArray, List.nil_append, List.cons_append, Act.eval, za, zb, zc, zd, ze, zf]; (try with_reducible rfl); done)); (focus ((repeat (first | (with_reducible (first | exact ent_refl | apply ent_puR)) | ((with_reducible apply ent_front); (focus with_reducible (repeat (first | exact ent_here | apply ent_next | exact ent_last)); done)) | (with_reducible (first | exact ent_keep | apply ent_trans ent_drop)) | (focus (first | ((repeat' (first | (with_reducible apply And.intro) | (focus (with_reducible (repeat (first | assumption | (apply ErrA.left; assumption) | refine ErrA.exh (by assumption) ?_ | refine ErrA.exh0 (by assumption) ?_ | apply ErrA.next | (apply ErrB.left; assumption) | refine ErrB.exh (by assumption) ?_ | refine ErrB.exh0 (by assumption) ?_ | apply ErrB.next)); done)) | (focus (with_reducible (repeat (first | assumption | (apply TabF.left; assumption) | refine TabF.exh (by assumption) ?_ | refine TabF.exh0 (by assumption) ?_ | exact (tblF_of (by assumption)) | apply TabF.next)); done)))); done))))); done)); (focus (simp only [go_sem]))))); clear hs; (try clear w); intro v w hq; (obtain ⟨rfl, hs⟩ := hq.pu); clear hq; (try simp only [star_assoc, star_emp, emp_star] at hs); (try simp only [Act.put, zg, zh, zi]))
        | ((with_reducible apply pl_loadN hs); (focus (simp only [Act.eval, za, zb, zc, zd, ze, zf]; (try with_reducible rfl); done)); (with_reducible (first | exact agg_44)); (focus ((repeat (first | (with_reducible (first | assumption | exact hel _ | exact hel2 _ | exact hel3 _)) | ((with_reducible apply reads_whole); (focus (first | (with_reducible rfl) | (simp only [go_sem]; done) | (simp; done)))) | ((with_reducible apply reads_part); (focus (first | (simp [go_sem]; done) | (simp only [go_sem]; omega) | go_size)); (focus (first | (simp only [Nat.reduceAdd, Nat.zero_add, go_sem]; (try with_reducible rfl); done) | (simp [go_sem]; (try with_reducible rfl); done)))) | (with_reducible (first | (apply reads_left; assumption) | refine reads_exh (by assumption) ?_ | refine reads_exh0 (by assumption) ?_ | apply reads_next)))); done)); (focus rfl); simp only [Act.put, zg, zh, zi])
        | ((with_reducible apply pl_build hs); (focus (simp only [zj, zk, zl, Act.eval, za, zb, zc, zd, ze, zf]; (try with_reducible rfl); done)); (first | (with_reducible exact bld_1 _ _ _)); (focus rfl); simp only [Act.put, zg, zh, zi]))
  (go_ret; simp only [za, zb, zc, zd, ze, zf])
  exact ⟨_, rfl, hs.mono (ent_pu (by rw [edtEq_refl]) (by ((repeat (first | (with_reducible (first | exact ent_refl | exact ent_emp)) | ((with_reducible apply ent_front); (focus with_reducible (repeat (first | exact ent_here | apply ent_next | exact ent_last)); done)) | (with_reducible (first | exact ent_keep | apply ent_trans ent_drop)))); done)))⟩
/-! ### does a row stand in another one, with gaps? -/
end Go.Proofs.YtgoifgockcpnhaaDoor
