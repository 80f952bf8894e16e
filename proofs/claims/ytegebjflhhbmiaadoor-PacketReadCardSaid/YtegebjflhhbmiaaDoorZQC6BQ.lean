/- The law's wakes. -/
import Derived.Test.YtegebjflhhbmiaaDoorZQC6BM
import Derived.Test.YtegebjflhhbmiaaDoorZQC6BP
import Derived.Test.YtegebjflhhbmiaaDoorZQC6BL
set_option linter.unusedSimpArgs false
set_option linter.unusedVariables false
namespace Go.Proofs.YtegebjflhhbmiaaDoor
open Go Go.RowKit

abbrev wk : MsgD := ⟨2, 2, 0, setAt (setAt (setAt clk0 0 3) 1 0) 2 1, none, 0, 0, rnds0⟩
theorem wk_enc : encMsg (mpOf wk []) = [2, 2, 0, 3, 3, 0, 1] := by
  have hu : usedN (setAt (setAt (setAt clk0 0 3) 1 0) 2 1) 8 = 3 := by decide
  have hr : rowOf (setAt (setAt (setAt clk0 0 3) 1 0) 2 1) = [3, 0, 1] := by
    unfold rowOf
    rw [hu]
    decide
  have hb : encBody 2 (setAt (setAt (setAt clk0 0 3) 1 0) 2 1, [], rnds0) = encRow (setAt (setAt (setAt clk0 0 3) 1 0) 2 1) := by unfold encBody; simp
  show [(2 : Int)] ++ (form (2 : Int).toNat ++ (form (0 : Int).toNat ++ encBody 2 (setAt (setAt (setAt clk0 0 3) 1 0) 2 1, [], rnds0))) = _
  rw [hb]
  unfold encRow
  rw [hu, hr]
  simp [form_lo]
theorem wk_ok : okM wk [] = true := by decide
theorem wk_in : MsgI wk [] := by
  refine ⟨by unfold InI; decide, by unfold InI; decide, by unfold InI; decide, fun i hi => ?_, fun i hi => ?_, fun x hx => by cases hx⟩
  · have : ∀ i, i < 8 → -9223372036854775808 ≤ wk.c i ∧ wk.c i ≤ 9223372036854775807 := by decide
    exact this i hi
  · show RoundDI rnd0
    exact ⟨by unfold InI; decide, fun j hj => by show InI 0; unfold InI; decide, fun j hj => by show InI 0; unfold InI; decide, by unfold InI; decide⟩
theorem wk_rd : rdMsg [2, 2, 0, 3, 3, 0, 1] = .ok (mpOf wk []) := by
  rw [← wk_enc]
  refine rdMsg_enc ⟨⟨by decide, by decide⟩, ⟨by decide, by decide⟩, ⟨by decide, by decide⟩, ?_⟩
  show okBody 2 _
  unfold okBody
  simp only [show ¬ (2 : Int) = 1 by decide, if_false, if_true]
  refine ⟨⟨by decide, fun i hi => ?_⟩, rfl, rfl⟩
  show setAt (setAt (setAt clk0 0 3) 1 0) 2 1 i = 0
  unfold setAt clk0
  rw [if_neg (by omega), if_neg (by omega), if_neg (by omega)]
theorem rndsEq_refl (f : Nat → RoundD) : rndsEq f f = true := rndsEq_iff.2 fun i _ => by simp [rndEq, clkEq_refl]
set_option maxRecDepth 20000 in
set_option maxHeartbeats 2000000 in
theorem wakes_s (c0 : World) (F : HP) (a : Nat → Addr) : Spec Tryd.prog c0 12 #[] (pu (ErrB F a) F) (fun r => pu (r = .bool true) F) := by
  intro w hq; obtain ⟨hE, hs⟩ := hq.pu; clear hq
  have hIw : ∀ b : Int, b ∈ [2, 2, 0, 3, 3, 0, 1] → InB b := by simp [InB]
  have hby : ∀ F, Spec Tryd.prog c0 10 #[.agg (msg ⟨2, 2, 0, setAt (setAt (setAt clk0 0 3) 1 0) 2 1, none, 0, 0, rnds0⟩)] F (fun r => ex fun gb : Nat => pu (r = .tuple #[.slice (some ⟨gb, 0, none⟩) 7 7, .nilIface]) (row 5 1 bytv (.slice (some ⟨gb, 0, none⟩) 7 7) [2, 2, 0, 3, 3, 0, 1] * F)) := fun F w hs => by
    have h := bytesYes_s c0 F wk [] wk_ok w (hs.mono (ent_pu ⟨slr_nil, wk_in, by decide⟩ ent_refl))
    rw [wk_enc] at h
    exact h
  have hrd : ∀ (F : HP) (gb : Nat), Spec Tryd.prog c0 13 #[.slice (some ⟨gb, 0, none⟩) 7 7] (pu (ErrB F a) (row 5 1 bytv (.slice (some ⟨gb, 0, none⟩) 7 7) [2, 2, 0, 3, 3, 0, 1] * F)) (fun r => ex fun d : MsgD => ex fun l : List ActD => pu (r = .tuple #[.agg (msg d), .nilIface] ∧ msgEq d wk l [] = true) (row 78 13 actv d.s l * (row 5 1 bytv (.slice (some ⟨gb, 0, none⟩) 7 7) [2, 2, 0, 3, 3, 0, 1] * F))) := fun F gb w hq => by
    obtain ⟨hF, hs⟩ := hq.pu
    refine (readOk_s c0 (row 5 1 bytv (.slice (some ⟨gb, 0, none⟩) 7 7) [2, 2, 0, 3, 3, 0, 1] * F) a (.slice (some ⟨gb, 0, none⟩) 7 7) [2, 2, 0, 3, 3, 0, 1] _ wk_rd w (hs.mono (ent_pu ⟨hF.next, slr_row fun _ => rfl, hIw, by decide⟩ ent_refl))).mono fun ex w' ⟨u, hu, h⟩ => ⟨u, hu, ?_⟩
    obtain ⟨d, h⟩ := h.ex
    obtain ⟨l, h⟩ := h.ex
    obtain ⟨⟨h1, h2⟩, h⟩ := h.pu
    refine h.mono (ent_ex d (ent_ex l (ent_pu ⟨h1, ?_⟩ ent_refl)))
    unfold mpOf at h2
    injection h2 with e1 e2 e3 e4 e5 e6
    subst e5
    unfold msgEq
    rw [e1, e2, e3, e4, e6, clkEq_refl, rndsEq_refl]
    simp [actsEq]
  have hkd : ∀ (F : HP) (gb : Nat), Spec Tryd.prog c0 16 #[.slice (some ⟨gb, 0, none⟩) 7 7] (pu (SlR F 1 bytv (.slice (some ⟨gb, 0, none⟩) 7 7) [2, 2, 0, 3, 3, 0, 1]) F) (fun r => pu (r = .int .i64 2) F) := fun F gb w hq => by
    obtain ⟨hF, hs⟩ := hq.pu
    exact kind_s c0 F _ _ w (hs.mono (ent_pu ⟨hF, hIw⟩ ent_refl))
  have hbt : bts [2, 2, 0, 3, 3, 0, 1] = ⟨#[2, 2, 0, 3, 3, 0, 1]⟩ := rfl
  go_enter Tryd.func12, Tryd.ntmps12
  go_wp2_with (first
        | ((with_reducible rewrite [pl_strike_eq]); rotate_left 1; (focus rfl))
        | ((with_reducible apply pl_call hs (hby _)); (go_must (((focus (simp only [zj, zk, zl, List.append_toArray, List.nil_append, List.cons_append, Act.eval, za, zb, zc, zd, ze, zf]; (try with_reducible rfl); done)); (focus ((repeat (first | (with_reducible (first | exact ent_refl | apply ent_puR)) | ((with_reducible apply ent_front); (focus with_reducible (repeat (first | exact ent_here | apply ent_next | exact ent_last)); done)) | (with_reducible (first | exact ent_keep | apply ent_trans ent_drop)) | (fail))); done)); (focus (simp only [go_sem]))))); clear hs; (try clear w); intro v w hq; (obtain ⟨gb, hq1⟩ := hq.ex; obtain ⟨rfl, hs⟩ := hq1.pu; clear hq1); clear hq; (try simp only [star_assoc, star_emp, emp_star] at hs); (try simp only [Act.put, zg, zh, zi]))
        | ((with_reducible apply pl_call hs (hrd _ _)); (go_must (((focus (simp only [zj, zk, zl, List.append_toArray, List.nil_append, List.cons_append, Act.eval, za, zb, zc, zd, ze, zf]; (try with_reducible rfl); done)); (focus ((repeat (first | (with_reducible (first | exact ent_refl | apply ent_puR)) | ((with_reducible apply ent_front); (focus with_reducible (repeat (first | exact ent_here | apply ent_next | exact ent_last)); done)) | (with_reducible (first | exact ent_keep | apply ent_trans ent_drop)) | (focus (first | (focus (with_reducible (repeat (first | assumption | (apply ErrA.left; assumption) | refine ErrA.exh (by assumption) ?_ | refine ErrA.exh0 (by assumption) ?_ | apply ErrA.next | (apply ErrB.left; assumption) | refine ErrB.exh (by assumption) ?_ | refine ErrB.exh0 (by assumption) ?_ | apply ErrB.next)); done)))))); done)); (focus (simp only [go_sem]))))); clear hs; (try clear w); intro v w hq; (obtain ⟨d, hq1⟩ := hq.ex; obtain ⟨l, hq2⟩ := hq1.ex; obtain ⟨⟨rfl, hm⟩, hs⟩ := hq2.pu; clear hq1 hq2); clear hq; (try simp only [star_assoc, star_emp, emp_star] at hs); (try simp only [Act.put, zg, zh, zi]))
        | ((with_reducible apply pl_call hs (message_s _ _ d ⟨2, 2, 0, setAt (setAt (setAt clk0 0 3) 1 0) 2 1, none, 0, 0, rnds0⟩ l [])); (go_must (((focus (simp only [zj, zk, zl, List.append_toArray, List.nil_append, List.cons_append, Act.eval, za, zb, zc, zd, ze, zf]; (try with_reducible rfl); done)); (focus ((repeat (first | (with_reducible (first | exact ent_refl | apply ent_puR)) | ((with_reducible apply ent_front); (focus with_reducible (repeat (first | exact ent_here | apply ent_next | exact ent_last)); done)) | (with_reducible (first | exact ent_keep | apply ent_trans ent_drop)) | (focus (first | ((repeat' (first | (with_reducible apply And.intro) | (focus (first | ((repeat (first | (with_reducible (first | assumption | exact slr_ro |  exact hsl _ | exact hsl2 _ | exact hsl3 _ _ _ | exact slr_nil | exact slr_row (fun _ => by simp only [go_sem]) | exact slr_one (fun _ => by simp only [go_sem]) | (apply slr_left; assumption))) | (with_reducible apply slr_next))); done) | ((repeat (first | (with_reducible (first | assumption | exact slr_ro |  exact hsl _ | exact hsl2 _ | exact hsl3 _ _ _ | exact slr_nil | exact slr_row (fun _ => by simp only [go_sem]) | exact slr_one (fun _ => by simp only [go_sem]) | (apply slr_left; assumption))) | (with_reducible (first | (apply slr_exh; focus assumption) | (apply slr_exh0; focus assumption) | apply slr_next)))); done))))); done))))); done)); (focus (simp only [go_sem]))))); clear hs; (try clear w); intro v w hq; (obtain ⟨hv, hs⟩ := hq.pu; rw [hm] at hv; subst hv); clear hq; (try simp only [star_assoc, star_emp, emp_star] at hs); (try simp only [Act.put, zg, zh, zi]))
        | ((with_reducible apply pl_call hs (hkd _ _)); (go_must (((focus (simp only [zj, zk, zl, List.append_toArray, List.nil_append, List.cons_append, Act.eval, za, zb, zc, zd, ze, zf]; (try with_reducible rfl); done)); (focus ((repeat (first | (with_reducible (first | exact ent_refl | apply ent_puR)) | ((with_reducible apply ent_front); (focus with_reducible (repeat (first | exact ent_here | apply ent_next | exact ent_last)); done)) | (with_reducible (first | exact ent_keep | apply ent_trans ent_drop)) | (focus (first | (focus (first | ((repeat (first | (with_reducible (first | assumption | exact slr_ro |  exact hsl _ | exact hsl2 _ | exact hsl3 _ _ _ | exact slr_nil | exact slr_row (fun _ => by simp only [go_sem]) | exact slr_one (fun _ => by simp only [go_sem]) | (apply slr_left; assumption))) | (with_reducible apply slr_next))); done) | ((repeat (first | (with_reducible (first | assumption | exact slr_ro |  exact hsl _ | exact hsl2 _ | exact hsl3 _ _ _ | exact slr_nil | exact slr_row (fun _ => by simp only [go_sem]) | exact slr_one (fun _ => by simp only [go_sem]) | (apply slr_left; assumption))) | (with_reducible (first | (apply slr_exh; focus assumption) | (apply slr_exh0; focus assumption) | apply slr_next)))); done))))))); done)); (focus (simp only [go_sem]))))); clear hs; (try clear w); intro v w hq; (obtain ⟨rfl, hs⟩ := hq.pu); clear hq; (try simp only [star_assoc, star_emp, emp_star] at hs); (try simp only [Act.put, zg, zh, zi]))
        | ((with_reducible apply pl_loadN hs); (focus (simp only [Act.eval, za, zb, zc, zd, ze, zf]; (try with_reducible rfl); done)); (with_reducible (first | exact agg_30)); (focus ((repeat (first | (with_reducible (first | assumption | exact hel _ | exact hel2 _ | exact hel3 _)) | ((with_reducible apply reads_whole); (focus (first | (with_reducible rfl) | (simp only [go_sem]; done) | (simp; done)))) | ((with_reducible apply reads_part); (focus (first | (simp [go_sem]; done) | (simp only [go_sem]; omega) | go_size)); (focus (first | (simp only [Nat.reduceAdd, Nat.zero_add, go_sem]; (try with_reducible rfl); done) | (simp [go_sem]; (try with_reducible rfl); done)))) | (with_reducible (first | (apply reads_left; assumption) | refine reads_exh (by assumption) ?_ | refine reads_exh0 (by assumption) ?_ | apply reads_next)))); done)); (focus rfl); simp only [Act.put, zg, zh, zi])
        | ((with_reducible apply pl_build hs); (focus (simp only [zj, zk, zl, Act.eval, za, zb, zc, zd, ze, zf]; (try with_reducible rfl); done)); (first | (with_reducible exact bld_1 _ _ _) | (with_reducible exact bld_5 _ _ _)); (focus rfl); simp only [Act.put, zg, zh, zi])
        | ((with_reducible apply pl_alloc hs); (with_reducible (first | exact zero_30)); clear hs; (try clear w); intro g w hs; skip; simp only [Act.put, zg, zh, zi])
        | ((with_reducible apply pl_storeN hs); (focus (simp only [Act.eval, za, zb, zc, zd, ze, zf]; (try with_reducible rfl); done)); (focus (simp only [Act.eval, za, zb, zc, zd, ze, zf]; (try with_reducible rfl); done)); (with_reducible (first | exact agg_30)); (focus with_reducible (repeat (first | exact ent_here | apply ent_next | exact ent_last)); done); (focus (first | (with_reducible rfl) | (simp only [go_sem]; done) | (simp; done))); (focus (first | (simp [go_sem]; done) | (simp only [go_sem]; omega) | go_size)); (focus (first | (simp only [go_sem]; done) | (simp [go_sem]; done))); (focus (first | ((with_reducible apply splice_whole); (focus (first | (with_reducible rfl) | (simp only [go_sem]; done) | (simp; done)))) | (simp [splice, go_sem]; done) | (simp only [go_sem]; (try with_reducible rfl); done))); clear hs; (try clear w); intro w hs; (try simp only [zg, zh, zi, clk_set, opv_s0, opv_s1, opv_s2, opv_s3, actv_s0, actv_s1, actv_s2, actv_s3, actv_s4, rnd_s0, rnd_s17, lnk_s0, lnk_s1, lnk_s2, nov_s0, nov_s1, nov_s2, intv_set, bytv_set] at hs); simp only [Act.put, zg, zh, zi])
        | ((with_reducible apply pl_cvBS hs); (focus (simp only [Act.eval, za, zb, zc, zd, ze, zf]; (try with_reducible rfl); done)); (first | (with_reducible exact byt_32_9)); (focus (first | ((repeat (first | (with_reducible (first | assumption | exact slr_ro |  exact hsl _ | exact hsl2 _ | exact hsl3 _ _ _ | exact slr_nil | exact slr_row (fun _ => by simp only [go_sem]) | exact slr_one (fun _ => by simp only [go_sem]) | (apply slr_left; assumption))) | (with_reducible apply slr_next))); done) | ((repeat (first | (with_reducible (first | assumption | exact slr_ro |  exact hsl _ | exact hsl2 _ | exact hsl3 _ _ _ | exact slr_nil | exact slr_row (fun _ => by simp only [go_sem]) | exact slr_one (fun _ => by simp only [go_sem]) | (apply slr_left; assumption))) | (with_reducible (first | (apply slr_exh; focus assumption) | (apply slr_exh0; focus assumption) | apply slr_next)))); done))); (focus rfl); simp only [Act.put, zg, zh, zi]))
  (go_ret; simp only [za, zb, zc, zd, ze, zf])
  exact ⟨_, rfl, hs.mono (ent_pu rfl (by ((repeat (first | (with_reducible (first | exact ent_refl | exact ent_emp)) | ((with_reducible apply ent_front); (focus with_reducible (repeat (first | exact ent_here | apply ent_next | exact ent_last)); done)) | (with_reducible (first | exact ent_keep | apply ent_trans ent_drop)))); done)))⟩
end Go.Proofs.YtegebjflhhbmiaaDoor
