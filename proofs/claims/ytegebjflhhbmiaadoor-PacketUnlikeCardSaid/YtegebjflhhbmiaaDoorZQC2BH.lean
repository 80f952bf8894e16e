/- The laws Names and Unlike. -/
import Derived.Test.YtegebjflhhbmiaaDoorZQC2BD
import Derived.Test.YtegebjflhhbmiaaDoorZQC2BG
import Derived.Test.YtegebjflhhbmiaaDoorZQC2AM
set_option linter.unusedSimpArgs false
set_option linter.unusedVariables false
namespace Go.Proofs.YtegebjflhhbmiaaDoor
open Go Go.RowKit

/-- What Bytes answers: the bytes, or a refusal. -/
def BytR (a : Nat → Addr) (d : MsgD) (l : List ActD) (r e : Value) : HP := if okM d l then ex fun gb : Nat => pu (r = .slice (some ⟨gb, 0, none⟩) (encMsg (mpOf d l)).length (encMsg (mpOf d l)).length ∧ e = .nilIface) (row 5 1 bytv (.slice (some ⟨gb, 0, none⟩) (encMsg (mpOf d l)).length (encMsg (mpOf d l)).length) (encMsg (mpOf d l))) else pu (r = .slice none 0 0 ∧ ∃ t q, e = .iface t (.pointer q)) (RefP a (some ([⟨packetB, cBytes, -1⟩], 6)) e)
theorem bytes_s (c0 : World) (F : HP) (a : Nat → Addr) (d : MsgD) (l : List ActD) : Spec Tryd.prog c0 10 #[.agg (msg d)] (pu (ErrB F a ∧ SlR F 13 actv d.s l ∧ MsgI d l ∧ l.length ≤ 1000000) F) (fun v => ex fun r : Value => ex fun e : Value => pu (v = .tuple #[r, e]) (BytR a d l r e * F)) := fun w hq => by
  obtain ⟨⟨h1, h2, h3, h4⟩, hs⟩ := hq.pu
  unfold BytR
  cases hok : okM d l with
  | true =>
    simp only [if_true]
    refine (bytesYes_s c0 F d l hok w (hs.mono (ent_pu ⟨h2, h3, h4⟩ ent_refl))).mono fun ex w' ⟨u, hu, h⟩ => ⟨u, hu, ?_⟩
    obtain ⟨gb, h1⟩ := h.ex
    obtain ⟨hv, h2⟩ := h1.pu
    clear h h1
    subst hv
    refine h2.mono (ent_ex _ (ent_ex .nilIface (ent_pu rfl ?_)))
    rw [ex_star]
    refine ent_ex gb ?_
    rw [pu_star]
    exact ent_pu ⟨rfl, rfl⟩ ent_refl
  | false =>
    simp only [Bool.false_eq_true, if_false]
    refine (bytesNo_s c0 F a d l hok w (hs.mono (ent_pu ⟨h1, h2⟩ ent_refl))).mono fun ex w' ⟨u, hu, h⟩ => ⟨u, hu, ?_⟩
    obtain ⟨e, h3⟩ := h.ex
    obtain ⟨hv, h4⟩ := h3.pu
    clear h h3
    subst hv
    obtain ⟨t, q, hi⟩ := fch_iface (refP_some h4).2
    refine h4.mono (ent_ex _ (ent_ex e (ent_pu rfl ?_)))
    rw [pu_star]
    exact ent_pu ⟨rfl, t, q, hi⟩ ent_refl
theorem bytR_cases {a : Nat → Addr} {d : MsgD} {l : List ActD} {r e : Value} {F : HP} {c w : World} (hs : Sat c (BytR a d l r e * F) w) : (∃ gb : Nat, r = .slice (some ⟨gb, 0, none⟩) (encMsg (mpOf d l)).length (encMsg (mpOf d l)).length ∧ e = .nilIface ∧ okM d l = true ∧ Sat c (row 5 1 bytv (.slice (some ⟨gb, 0, none⟩) (encMsg (mpOf d l)).length (encMsg (mpOf d l)).length) (encMsg (mpOf d l)) * F) w) ∨ (∃ t q, r = .slice none 0 0 ∧ e = .iface t (.pointer q) ∧ okM d l = false ∧ Sat c (RefP a (some ([⟨packetB, cBytes, -1⟩], 6)) (.iface t (.pointer q)) * F) w) := by
  unfold BytR at hs
  cases hok : okM d l with
  | true =>
    rw [hok] at hs
    simp only [if_true] at hs
    rw [ex_star] at hs
    obtain ⟨gb, h1⟩ := hs.ex
    rw [pu_star] at h1
    obtain ⟨⟨h2, h3⟩, h4⟩ := h1.pu
    exact .inl ⟨gb, h2, h3, rfl, h4⟩
  | false =>
    rw [hok] at hs
    simp only [Bool.false_eq_true, if_false] at hs
    rw [pu_star] at hs
    obtain ⟨⟨h2, t, q, h3⟩, h4⟩ := hs.pu
    subst h3
    exact .inr ⟨t, q, h2, rfl, rfl, h4⟩
theorem msgI_cut {d : MsgD} {l : List ActD} (h : MsgI d l) : MsgI (cutM d) (l.take 60) := by
  have h6 : ∀ x, x ∈ l.take 60 → ActDI x := fun x hx => h.a x (List.mem_of_mem_take hx)
  unfold cutM
  split
  · exact ⟨h.kind, h.frm, h.ep, h.c, h.r, h6⟩
  · exact ⟨h.kind, h.frm, h.ep, h.c, h.r, h6⟩
set_option maxRecDepth 20000 in
set_option maxHeartbeats 4000000 in
theorem unlike_s (c0 : World) (F : HP) (a : Nat → Addr) (d e : MsgD) : Spec Tryd.prog c0 5 #[.agg (msg d), .agg (msg e)] (pu (ErrB F a ∧ MsgA F d ∧ MsgA F e) F) (fun r => pu (r = .bool true) F) := by
  intro w hq; obtain ⟨⟨hE, ⟨l, hsl, hI⟩, ⟨m, hsl2, hJ⟩⟩, hs⟩ := hq.pu; clear hq
  have hslc := slr_cutM hsl hs.own
  have hslc2 := slr_cutM hsl2 hs.own
  have hIc := msgI_cut hI
  have hJc := msgI_cut hJ
  have hL : (l.take 60).length ≤ 60 := List.length_take_le 60 l
  have hM : (m.take 60).length ≤ 60 := List.length_take_le 60 m
  have hal : okM (cutM d) (l.take 60) = true → okM (cutM e) (m.take 60) = true → (encMsg (mpOf (cutM d) (l.take 60)) = encMsg (mpOf (cutM e) (m.take 60)) ↔ msgEq (cutM d) (cutM e) (l.take 60) (m.take 60) = true) := fun h1 h2 => bytes_alike h1 hIc (by omega) h2 hJc (by omega)
  have hw1 : okM (cutM d) (l.take 60) = true → ∀ b, b ∈ encMsg (mpOf (cutM d) (l.take 60)) → InB b := fun h => by rw [← encMsg_norm]; exact encMsg_in (okMsg_norm h hIc (by omega))
  have hw2 : okM (cutM e) (m.take 60) = true → ∀ b, b ∈ encMsg (mpOf (cutM e) (m.take 60)) → InB b := fun h => by rw [← encMsg_norm]; exact encMsg_in (okMsg_norm h hJc (by omega))
  replace hal := Lib.hid hal
  replace hw1 := Lib.hid hw1
  replace hw2 := Lib.hid hw2
  generalize l.take 60 = L at *
  generalize m.take 60 = M at *
  go_enter Tryd.func5, Tryd.ntmps5
  go_wp2_with (first
        | ((with_reducible apply wp_region_sl (G := emp) (id := 1) hs 4); (focus (exact ent_emp_l)); (focus kernel_rfl); (focus decide +kernel); clear hs; (try clear w); intro hR w hRR hs; (try simp only [star_assoc] at hs))
        | ((with_reducible apply wp_region_sl (G := emp) (id := 5) hs 1000); (focus (exact ent_emp_l)); (focus kernel_rfl); (focus decide +kernel); clear hs; (try clear w); intro hR w hRR hs; (try simp only [star_assoc] at hs))
        | ((with_reducible apply wp_region_sl (G := emp) (id := 6) hs 1000); (focus (exact ent_emp_l)); (focus kernel_rfl); (focus decide +kernel); clear hs; (try clear w); intro hR w hRR hs; (try simp only [star_assoc] at hs))
        | ((with_reducible rewrite [pl_strike_eq]); rotate_left 1; (focus rfl))
        | ((with_reducible apply mx_call hs (cut_s _ _ _ _)); (go_must (((focus (simp only [zj, zk, zl, List.append_toArray, List.nil_append, List.cons_append, Act.eval, za, zb, zc, zd, ze, zf]; (try with_reducible rfl); done)); (focus ((repeat (first | (with_reducible (first | exact ent_refl | apply ent_puR)) | ((with_reducible apply ent_front); (focus with_reducible (repeat (first | exact ent_here | apply ent_next | exact ent_last)); done)) | (with_reducible (first | exact ent_keep | apply ent_trans ent_drop)) | (focus (first | (focus (first | ((repeat (first | (with_reducible (first | assumption | exact slr_ro |  exact hsl _ | exact hsl2 _ | exact hsl3 _ _ _ | exact slr_nil | exact slr_row (fun _ => by simp only [go_sem]) | exact slr_one (fun _ => by simp only [go_sem]) | (apply slr_left; assumption))) | (with_reducible apply slr_next))); done) | ((repeat (first | (with_reducible (first | assumption | exact slr_ro |  exact hsl _ | exact hsl2 _ | exact hsl3 _ _ _ | exact slr_nil | exact slr_row (fun _ => by simp only [go_sem]) | exact slr_one (fun _ => by simp only [go_sem]) | (apply slr_left; assumption))) | (with_reducible (first | (apply slr_exh; focus assumption) | (apply slr_exh0; focus assumption) | apply slr_next)))); done))))))); done)); (focus (simp only [go_sem])); (focus (intros; with_reducible (refine in_of_sat (by assumption) ?_; repeat (first | exact ent_exh_here | exact ent_last | refine ent_pu_l (fun _ => ?_) | refine ent_ex_l (fun _ => ?_) | apply ent_exh_next)); done))))); clear hs; (try clear w); intro v w hq; (obtain ⟨rfl, hs⟩ := hq.pu); clear hq; (try simp only [star_assoc, star_emp, emp_star] at hs); (try simp only [Act.put, zg, zh, zi]))
        | (focus ((with_reducible apply pl_callx hs (SpecX.ok (no := fun _ => pu False emp) (bytes_s _ _ a _ _))); (go_must (((focus (simp only [zj, zk, zl, List.append_toArray, List.nil_append, List.cons_append, Act.eval, za, zb, zc, zd, ze, zf]; (try with_reducible rfl); done)); (focus ((repeat (first | (with_reducible (first | exact ent_refl | apply ent_puR)) | ((with_reducible apply ent_front); (focus with_reducible (repeat (first | exact ent_here | apply ent_next | exact ent_last)); done)) | (with_reducible (first | exact ent_keep | apply ent_trans ent_drop)) | (focus (first | ((repeat' (first | (with_reducible assumption) | (with_reducible apply And.intro) | omega | (focus (first | ((repeat (first | (with_reducible (first | assumption | exact slr_ro |  exact hsl _ | exact hsl2 _ | exact hsl3 _ _ _ | exact slr_nil | exact slr_row (fun _ => by simp only [go_sem]) | exact slr_one (fun _ => by simp only [go_sem]) | (apply slr_left; assumption))) | (with_reducible apply slr_next))); done) | ((repeat (first | (with_reducible (first | assumption | exact slr_ro |  exact hsl _ | exact hsl2 _ | exact hsl3 _ _ _ | exact slr_nil | exact slr_row (fun _ => by simp only [go_sem]) | exact slr_one (fun _ => by simp only [go_sem]) | (apply slr_left; assumption))) | (with_reducible (first | (apply slr_exh; focus assumption) | (apply slr_exh0; focus assumption) | apply slr_next)))); done))) | (focus (with_reducible (repeat (first | assumption | (apply ErrA.left; assumption) | refine ErrA.exh (by assumption) ?_ | refine ErrA.exh0 (by assumption) ?_ | apply ErrA.next | (apply ErrB.left; assumption) | refine ErrB.exh (by assumption) ?_ | refine ErrB.exh0 (by assumption) ?_ | apply ErrB.next)); done)))); done))))); done)); (focus (simp only [go_sem]))))); rotate_left 1; (clear hs; (try clear w); intro pv w hs; (try simp only [star_assoc, star_emp, emp_star] at hs); (try clear hRR hR); (exact (hs.pu.1).elim)); rotate_left 1; (clear hs; (try clear w); intro v w hq; ((obtain ⟨r, hq1⟩ := hq.ex; obtain ⟨e1, hq2⟩ := hq1.ex; obtain ⟨rfl, hs⟩ := hq2.pu; clear hq1 hq2; rcases bytR_cases hs with ⟨gb, rfl, rfl, hok, hs⟩ | ⟨te, pe, rfl, rfl, hok, hs⟩) <;> (clear hq; (try simp only [star_assoc, star_emp, emp_star] at hs); (try simp only [Act.put, zg, zh, zi]))))))
        | ((with_reducible apply mx_call hs (rright_s _ _ _ _)); (go_must (((focus (simp only [zj, zk, zl, List.append_toArray, List.nil_append, List.cons_append, Act.eval, za, zb, zc, zd, ze, zf]; (try with_reducible rfl); done)); (focus ((repeat (first | (with_reducible (first | exact ent_refl | apply ent_puR)) | ((with_reducible apply ent_front); (focus with_reducible (repeat (first | exact ent_here | apply ent_next | exact ent_last)); done)) | (with_reducible (first | exact ent_keep | apply ent_trans ent_drop)) | (focus (first | (focus (first | ((repeat (first | (with_reducible (first | assumption | exact slr_ro |  exact hsl _ | exact hsl2 _ | exact hsl3 _ _ _ | exact slr_nil | exact slr_row (fun _ => by simp only [go_sem]) | exact slr_one (fun _ => by simp only [go_sem]) | (apply slr_left; assumption))) | (with_reducible apply slr_next))); done) | ((repeat (first | (with_reducible (first | assumption | exact slr_ro |  exact hsl _ | exact hsl2 _ | exact hsl3 _ _ _ | exact slr_nil | exact slr_row (fun _ => by simp only [go_sem]) | exact slr_one (fun _ => by simp only [go_sem]) | (apply slr_left; assumption))) | (with_reducible (first | (apply slr_exh; focus assumption) | (apply slr_exh0; focus assumption) | apply slr_next)))); done))))))); done)); (focus (simp only [go_sem])); (focus (intros; with_reducible (refine in_of_sat (by assumption) ?_; repeat (first | exact ent_exh_here | exact ent_last | refine ent_pu_l (fun _ => ?_) | refine ent_ex_l (fun _ => ?_) | apply ent_exh_next)); done))))); clear hs; (try clear w); intro v w hq; (obtain ⟨rfl, hs⟩ := hq.pu); clear hq; (try simp only [star_assoc, star_emp, emp_star] at hs); (try simp only [Act.put, zg, zh, zi]))
        | ((with_reducible apply mx_call hs (message_s _ _ _ _ _ _)); (go_must (((focus (simp only [zj, zk, zl, List.append_toArray, List.nil_append, List.cons_append, Act.eval, za, zb, zc, zd, ze, zf]; (try with_reducible rfl); done)); (focus ((repeat (first | (with_reducible (first | exact ent_refl | apply ent_puR)) | ((with_reducible apply ent_front); (focus with_reducible (repeat (first | exact ent_here | apply ent_next | exact ent_last)); done)) | (with_reducible (first | exact ent_keep | apply ent_trans ent_drop)) | (focus (first | ((repeat' (first | (with_reducible apply And.intro) | (focus (first | ((repeat (first | (with_reducible (first | assumption | exact slr_ro |  exact hsl _ | exact hsl2 _ | exact hsl3 _ _ _ | exact slr_nil | exact slr_row (fun _ => by simp only [go_sem]) | exact slr_one (fun _ => by simp only [go_sem]) | (apply slr_left; assumption))) | (with_reducible apply slr_next))); done) | ((repeat (first | (with_reducible (first | assumption | exact slr_ro |  exact hsl _ | exact hsl2 _ | exact hsl3 _ _ _ | exact slr_nil | exact slr_row (fun _ => by simp only [go_sem]) | exact slr_one (fun _ => by simp only [go_sem]) | (apply slr_left; assumption))) | (with_reducible (first | (apply slr_exh; focus assumption) | (apply slr_exh0; focus assumption) | apply slr_next)))); done))))); done))))); done)); (focus (simp only [go_sem])); (focus (intros; with_reducible (refine in_of_sat (by assumption) ?_; repeat (first | exact ent_exh_here | exact ent_last | refine ent_pu_l (fun _ => ?_) | refine ent_ex_l (fun _ => ?_) | apply ent_exh_next)); done))))); clear hs; (try clear w); intro v w hq; (obtain ⟨rfl, hs⟩ := hq.pu); clear hq; (try simp only [star_assoc, star_emp, emp_star] at hs); (try simp only [Act.put, zg, zh, zi]))
        | ((with_reducible apply mx_call hs (wakes_s _ _ a)); (go_must (((focus (simp only [zj, zk, zl, List.append_toArray, List.nil_append, List.cons_append, Act.eval, za, zb, zc, zd, ze, zf]; (try with_reducible rfl); done)); (focus ((repeat (first | (with_reducible (first | exact ent_refl | apply ent_puR)) | ((with_reducible apply ent_front); (focus with_reducible (repeat (first | exact ent_here | apply ent_next | exact ent_last)); done)) | (with_reducible (first | exact ent_keep | apply ent_trans ent_drop)) | (focus (first | (focus (with_reducible (repeat (first | assumption | (apply ErrA.left; assumption) | refine ErrA.exh (by assumption) ?_ | refine ErrA.exh0 (by assumption) ?_ | apply ErrA.next | (apply ErrB.left; assumption) | refine ErrB.exh (by assumption) ?_ | refine ErrB.exh0 (by assumption) ?_ | apply ErrB.next)); done)))))); done)); (focus (simp only [go_sem])); (focus (intros; with_reducible (refine in_of_sat (by assumption) ?_; repeat (first | exact ent_exh_here | exact ent_last | refine ent_pu_l (fun _ => ?_) | refine ent_ex_l (fun _ => ?_) | apply ent_exh_next)); done))))); clear hs; (try clear w); intro v w hq; (obtain ⟨rfl, hs⟩ := hq.pu); clear hq; (try simp only [star_assoc, star_emp, emp_star] at hs); (try simp only [Act.put, zg, zh, zi]))
        | ((with_reducible apply pl_loadN hs); (focus (simp only [Act.eval, za, zb, zc, zd, ze, zf]; (try with_reducible rfl); done)); (with_reducible (first | exact agg_30)); (focus ((repeat (first | (with_reducible (first | assumption | exact hel _ | exact hel2 _ | exact hel3 _)) | ((with_reducible apply reads_whole); (focus (first | (with_reducible rfl) | (simp only [go_sem]; done) | (simp; done)))) | ((with_reducible apply reads_part); (focus (first | (simp [go_sem]; done) | (simp only [go_sem]; omega) | go_size)); (focus (first | (simp only [Nat.reduceAdd, Nat.zero_add, go_sem]; (try with_reducible rfl); done) | (simp [go_sem]; (try with_reducible rfl); done)))) | (with_reducible (first | (apply reads_left; assumption) | refine reads_exh (by assumption) ?_ | refine reads_exh0 (by assumption) ?_ | apply reads_next)))); done)); (focus rfl); simp only [Act.put, zg, zh, zi])
        | ((with_reducible apply pl_box hs); (focus (simp only [Act.eval, za, zb, zc, zd, ze, zf]; (try with_reducible rfl); done)); (focus (first | (with_reducible (first | exact cells_intv _ | exact cells_bytv _ | exact cells_agg _ | exact cells_int _ _ | exact cells_bool _ | exact cells_string _ | exact cells_slice _ _ _ | exact cells_pointer _ | exact cells_map _ | exact cells_iface _ _ | exact cells_nilIface | exact cells_func _ _ _)) | (exact cells_one (by assumption)))); clear hs; (try clear w); intro g w hs; skip; simp only [Act.put, zg, zh, zi])
        | ((with_reducible apply pl_storeN hs); (focus (simp only [Act.eval, za, zb, zc, zd, ze, zf]; (try with_reducible rfl); done)); (focus (simp only [Act.eval, za, zb, zc, zd, ze, zf]; (try with_reducible rfl); done)); (with_reducible (first | exact agg_30)); (focus with_reducible (repeat (first | exact ent_here | apply ent_next | exact ent_last)); done); (focus (first | (with_reducible rfl) | (simp only [go_sem]; done) | (simp; done))); (focus (first | (simp [go_sem]; done) | (simp only [go_sem]; omega) | go_size)); (focus (first | (simp only [go_sem]; done) | (simp [go_sem]; done))); (focus (first | ((with_reducible apply splice_whole); (focus (first | (with_reducible rfl) | (simp only [go_sem]; done) | (simp; done)))) | (simp [splice, go_sem]; done) | (simp only [go_sem]; (try with_reducible rfl); done))); clear hs; (try clear w); intro w hs; (try simp only [zg, zh, zi, clk_set, opv_s0, opv_s1, opv_s2, opv_s3, actv_s0, actv_s1, actv_s2, actv_s3, actv_s4, rnd_s0, rnd_s17, lnk_s0, lnk_s1, lnk_s2, nov_s0, nov_s1, nov_s2, intv_set, bytv_set] at hs); simp only [Act.put, zg, zh, zi])
        | ((with_reducible apply mix_end hRR hs); (focus with_reducible (repeat (first | exact ent_here | apply ent_next | exact ent_last)); done); clear hs; (try clear w); intro w hs; (try simp only [star_assoc, star_emp, emp_star] at hs); clear hRR hR)
        | ((with_reducible apply mix_thaw hRR hs); (focus with_reducible (repeat (first | exact ent_here | apply ent_next | exact ent_last)); done); clear hs; (try clear w); intro w hs; (try simp only [star_assoc, star_emp, emp_star] at hs); clear hRR hR)
        | ((with_reducible apply mx_strike); (focus rfl))
        | ((with_reducible apply mx_loadN hRR); (focus (simp only [Act.eval, za, zb, zc, zd, ze, zf]; (try with_reducible rfl); done)); (with_reducible (first | exact agg_30)); (focus ((repeat (first | (with_reducible (first | assumption | exact hel _ | exact hel2 _ | exact hel3 _)) | ((with_reducible apply reads_whole); (focus (first | (with_reducible rfl) | (simp only [go_sem]; done) | (simp; done)))) | ((with_reducible apply reads_part); (focus (first | (simp [go_sem]; done) | (simp only [go_sem]; omega) | go_size)); (focus (first | (simp only [Nat.reduceAdd, Nat.zero_add, go_sem]; (try with_reducible rfl); done) | (simp [go_sem]; (try with_reducible rfl); done)))) | (with_reducible (first | (apply reads_left; assumption) | refine reads_exh (by assumption) ?_ | refine reads_exh0 (by assumption) ?_ | apply reads_next)))); done)); simp only [Act.put, zg, zh, zi])
        | ((with_reducible apply mx_cvBS hRR); (focus (simp only [Act.eval, za, zb, zc, zd, ze, zf]; (try with_reducible rfl); done)); (first | (with_reducible exact byt_32_9)); (focus (first | ((repeat (first | (with_reducible (first | assumption | exact slr_ro |  exact hsl _ | exact hsl2 _ | exact hsl3 _ _ _ | exact slr_nil | exact slr_row (fun _ => by simp only [go_sem]) | exact slr_one (fun _ => by simp only [go_sem]) | (apply slr_left; assumption))) | (with_reducible apply slr_next))); done) | ((repeat (first | (with_reducible (first | assumption | exact slr_ro |  exact hsl _ | exact hsl2 _ | exact hsl3 _ _ _ | exact slr_nil | exact slr_row (fun _ => by simp only [go_sem]) | exact slr_one (fun _ => by simp only [go_sem]) | (apply slr_left; assumption))) | (with_reducible (first | (apply slr_exh; focus assumption) | (apply slr_exh0; focus assumption) | apply slr_next)))); done))); (focus rfl); simp only [Act.put, zg, zh, zi])
        | ((with_reducible refine mix_float ?_ ?_ ?_ (fun h hk => ?_) ?_); rotate_left 1; (focus rfl); (focus rfl); (focus (go_simp; (try (rw [if_pos (by omega)]; (try go_simp))); (try simp (disch := omega) only [IntWalk.i64_in, IntWalk.i32_in]); (try with_reducible rfl); done)); simp only [Act.put, zg, zh, zi])
        | ((with_reducible refine mix_guard_t (j := ?_) (d := ?_) (b := ?_) ?_ ?_ ?_ (fun hb => ?_) (fun hb => ?_)); rotate_left 3; (focus rfl); (focus rfl); (focus rfl); all_goals (first | (cases hb; done) | ((try simp at hb); first | contradiction | ((have hF : False := (by omega)); (cases hF; done)) | (simp only [Act.put, zg, zh, zi])))))
  all_goals first
    | (refine absurd ?_ (show ¬ ((bts (encMsg (mpOf (cutM d) L))).toList == (bts (encMsg (mpOf (cutM e) M))).toList) = msgEq (cutM d) (cutM e) L M by assumption)
       have e1 : okM (cutM d) L = true := by assumption
       have e2 : okM (cutM e) M = true := by assumption
       rw [Bool.eq_iff_iff, beq_iff_eq, ba_iff, ← hal.out e1 e2]
       exact ⟨fun h => bts_inj (hw1.out e1) (hw2.out e2) h, fun h => by rw [h]⟩)
    | ((go_ret; simp only [za, zb, zc, zd, ze, zf])
       exact ⟨_, rfl, hs.mono (ent_pu rfl (by ((repeat (first | (with_reducible (first | exact ent_refl | exact ent_emp)) | ((with_reducible apply ent_front); (focus with_reducible (repeat (first | exact ent_here | apply ent_next | exact ent_last)); done)) | (with_reducible (first | exact ent_keep | apply ent_trans ent_drop)))); done)))⟩)
end Go.Proofs.YtegebjflhhbmiaaDoor
