/- The law One. -/
import Derived.Test.YtegebjflhhbmiaaDoorZQC3BD
import Derived.Test.YtegebjflhhbmiaaDoorZQC3BF
import Derived.Test.YtegebjflhhbmiaaDoorZQC3AM
set_option linter.unusedSimpArgs false
set_option linter.unusedVariables false
namespace Go.Proofs.YtegebjflhhbmiaaDoor
open Go Go.RowKit

/-- What Read answers: a message, or a refusal. -/
def ReadR (a : Nat → Addr) (raw : List Int) (d : MsgD) (l : List ActD) (e : Value) : HP := match rdMsg raw with
  | .ok m => pu (e = .nilIface ∧ mpOf d l = m) (row 78 13 actv d.s l)
  | .error er => pu (d = msg0 ∧ l = [] ∧ ∃ t q, e = .iface t (.pointer q)) (RefP a (some (readRef er)) e)
theorem read_s (c0 : World) (F : HP) (a : Nat → Addr) (v : Value) (raw : List Int) : Spec Tryd.prog c0 13 #[v] (pu (ErrB F a ∧ SlR F 1 bytv v raw ∧ (∀ b, b ∈ raw → InB b) ∧ raw.length ≤ 140737488355328) F)
    (fun r => ex fun d : MsgD => ex fun l : List ActD => ex fun e : Value => pu (r = .tuple #[.agg (msg d), e]) (ReadR a raw d l e * F)) := fun w hs => by
  unfold ReadR
  cases hr : rdMsg raw with
  | ok m =>
    refine (readOk_s c0 F a v raw m hr w hs).mono fun ex w' ⟨u, hu, h⟩ => ⟨u, hu, ?_⟩
    obtain ⟨d, h1⟩ := h.ex
    obtain ⟨l, h2⟩ := h1.ex
    obtain ⟨⟨h3, h4⟩, h5⟩ := h2.pu
    refine h5.mono (ent_ex d (ent_ex l (ent_ex .nilIface (ent_pu h3 ?_))))
    simp only
    rw [pu_star]
    exact ent_pu ⟨trivial, h4⟩ ent_refl
  | error er =>
    refine (readNo_s c0 F a v raw er hr w hs).mono fun ex w' ⟨u, hu, h⟩ => ⟨u, hu, ?_⟩
    obtain ⟨x, h1⟩ := h.ex
    obtain ⟨h3, h5⟩ := h1.pu
    obtain ⟨t, q, hi⟩ := fch_iface (refP_some h5).2
    refine h5.mono (ent_ex msg0 (ent_ex [] (ent_ex x (ent_pu h3 ?_))))
    simp only
    rw [pu_star]
    exact ent_pu ⟨trivial, trivial, t, q, hi⟩ ent_refl
theorem readR_cases {a : Nat → Addr} {raw : List Int} {d : MsgD} {l : List ActD} {e : Value} {F : HP} {c w : World} (hs : Sat c (ReadR a raw d l e * F) w) : (rdMsg raw = .ok (mpOf d l) ∧ e = .nilIface ∧ Sat c (row 78 13 actv d.s l * F) w) ∨ (∃ er t q, rdMsg raw = .error er ∧ d = msg0 ∧ l = [] ∧ e = .iface t (.pointer q) ∧ Sat c (RefP a (some (readRef er)) (.iface t (.pointer q)) * F) w) := by
  unfold ReadR at hs
  cases hr : rdMsg raw with
  | ok m =>
    rw [hr] at hs
    simp only at hs
    rw [pu_star] at hs
    obtain ⟨⟨h1, h2⟩, h3⟩ := hs.pu
    exact .inl ⟨by rw [h2], h1, h3⟩
  | error er =>
    rw [hr] at hs
    simp only at hs
    rw [pu_star] at hs
    obtain ⟨⟨h1, h2, t, q, h3⟩, h4⟩ := hs.pu
    subst h3
    exact .inr ⟨er, t, q, rfl, h1, h2, rfl, h4⟩
theorem okA_of {a : ActD} (h : okAct a) : okA a = true ∧ ActDI a := by
  obtain ⟨h1, h2, h3, h4, h5, h6⟩ := h
  have hm : mst = 9223372036854775807 := rfl
  have hch : In32 a.op.char ∧ (a.op.kind = 1 → 0 ≤ a.op.char ∧ a.op.char ≤ 1114111) ∧ (a.op.kind ≠ 1 → a.op.char = 0) := by
    unfold In32
    split at h4
    · exact ⟨by omega, fun _ => h4, fun h => absurd (by assumption) h⟩
    · exact ⟨by omega, fun h => absurd h (by assumption), fun _ => h4⟩
  refine ⟨(okA_iff a).2 ⟨⟨h1, h2, h3.1, hch.2.1, hch.2.2⟩, h5.1, fun i hi => (h6.1 i hi).1⟩, ⟨⟨by unfold InI; omega, by unfold InI; omega, hch.1, by unfold InI; omega⟩, by unfold InI; omega, fun i hi => by have := h6.1 i hi; unfold InI; omega⟩⟩
theorem okD_of {r : RoundD} (h : okRd r) : okD r = true ∧ RoundDI r := by
  have hm : mst = 9223372036854775807 := rfl
  rcases h with rfl | ⟨h1, h2, h3, h4, h5, h6⟩
  · exact ⟨by decide, ⟨by unfold InI; decide, fun j hj => by show InI 0; unfold InI; decide, fun j hj => by show InI 0; unfold InI; decide, by unfold InI; decide⟩⟩
  · refine ⟨(okD_iff r).2 ⟨by omega, fun h0 => by omega, h5, h6, fun i hi => (h3.1 i hi).1, fun i hi => h4.1 i hi⟩, ⟨by unfold InI; omega, fun i hi => by have := h3.1 i hi; unfold InI; omega, fun i hi => by have := h4.1 i hi; unfold InI; omega, by unfold InI; omega⟩⟩
theorem okM_of {d : MsgD} {l : List ActD} (h : okMsg (mpOf d l)) : okM d l = true ∧ MsgI d l := by
  obtain ⟨⟨k1, k2⟩, ⟨f1, f2⟩, ⟨e1, e2⟩, hb⟩ := h
  have hm : mst = 9223372036854775807 := rfl
  dsimp only [mpOf] at k1 k2 f1 f2 e1 e2 hb
  have h0 : okClk mst clk0 := okClk0 mst (by decide)
  have hr0 : okRds noRds := ⟨fun _ _ => .inl rfl, fun _ _ => rfl⟩
  have ha0 : okActs [] := ⟨by simp, fun a ha => by cases ha⟩
  have key : okActs l ∧ okClk mst d.c ∧ okRds d.r ∧ (useA d.kind = false → l = []) ∧ (useC d.kind = false → d.c = clk0) ∧ (useR d.kind = false → d.r = noRds) := by
    unfold okBody at hb
    dsimp only at hb
    have hk4 : d.kind = 1 ∨ d.kind = 2 ∨ d.kind = 3 ∨ d.kind = 4 := by omega
    rcases hk4 with hk | hk | hk | hk
    · rw [if_pos hk] at hb
      obtain ⟨b1, b2, b3⟩ := hb
      rw [b2, b3, hk]
      exact ⟨b1, h0, hr0, fun h => absurd h (by decide), fun _ => rfl, fun _ => rfl⟩
    · rw [if_neg (by omega), if_pos hk] at hb
      obtain ⟨b1, b2, b3⟩ := hb
      rw [b2, b3, hk]
      exact ⟨ha0, b1, hr0, fun _ => rfl, fun h => absurd h (by decide), fun _ => rfl⟩
    · rw [if_neg (by omega), if_neg (by omega), if_pos hk] at hb
      obtain ⟨b1, b2, b3⟩ := hb
      rw [b3, hk]
      exact ⟨b1, h0, b2, fun h => absurd h (by decide), fun _ => rfl, fun h => absurd h (by decide)⟩
    · rw [if_neg (by omega), if_neg (by omega), if_neg (by omega)] at hb
      obtain ⟨b1, b2, b3⟩ := hb
      rw [b2, b3, hk]
      exact ⟨ha0, h0, b1, fun _ => rfl, fun _ => rfl, fun h => absurd h (by decide)⟩
  obtain ⟨q1, q2, q3, q4, q5, q6⟩ := key
  refine ⟨?_, ⟨by unfold InI; omega, by unfold InI; omega, by unfold InI; omega, fun i hi => by have := q2.1 i hi; unfold InI; omega, fun i hi => (okD_of (q3.1 i hi)).2, fun x hx => (okA_of (q1.2 x hx)).2⟩⟩
  unfold okM useK okDs
  simp only [Bool.and_eq_true, Bool.or_eq_true, decide_eq_true_eq, List.all_eq_true, List.mem_range]
  refine ⟨⟨k1, k2⟩, f1, f2, e1, ?_, ?_, ?_, fun x hx => (okA_of (q1.2 x hx)).1, fun i hi => (okD_of (q3.1 i hi)).1, fun i hi => (q2.1 i hi).1⟩
  · cases h : useA d.kind
    · exact .inr (by rw [q4 h]; rfl)
    · exact .inl rfl
  · cases h : useC d.kind
    · exact .inr (by rw [q5 h]; exact clkEq_refl _)
    · exact .inl rfl
  · cases h : useR d.kind
    · exact .inr (by rw [q6 h]; exact rndsEq_refl _)
    · exact .inl rfl
theorem acts_few {m : MsgP} (h : okMsg m) : 5 * m.acts.length ≤ (encMsg m).length := by
  obtain ⟨h1, _, _, hb⟩ := h
  have h5 := acts_len m.acts
  unfold encMsg
  simp only [List.length_append]
  have hz : ∀ k, okBody k (m.clock, m.acts, m.rounds) → 5 * m.acts.length ≤ (encBody k (m.clock, m.acts, m.rounds)).length := fun k hb => by
    unfold okBody at hb
    unfold encBody encActs
    dsimp only at hb ⊢
    split
    · simp only [List.length_append]; omega
    · rename_i n1
      rw [if_neg n1] at hb
      split
      · rename_i n2
        rw [if_pos n2] at hb
        rw [hb.2.1]; simp
      · rename_i n2
        rw [if_neg n2] at hb
        split
        · simp only [List.length_append]; omega
        · rename_i n3
          rw [if_neg n3] at hb
          rw [hb.2.2]; simp
  have := hz _ hb
  omega
theorem kind_of {m : MsgP} (h : okMsg m) : kindB (encMsg m) = m.kind := by
  obtain ⟨⟨h1, h2⟩, _⟩ := h
  show (if m.kind < 1 ∨ 4 < m.kind then 0 else m.kind) = m.kind
  rw [if_neg (by omega)]
set_option maxRecDepth 20000 in
set_option maxHeartbeats 4000000 in
theorem one_s (c0 : World) (F : HP) (a : Nat → Addr) (v : Value) (raw0 : List Int) : Spec Tryd.prog c0 4 #[v] (pu (ErrB F a ∧ SlR F 1 bytv v raw0 ∧ ∀ b, b ∈ raw0 → InB b) F) (fun r => pu (r = .bool true) F) := by
  intro w hq; obtain ⟨⟨hE, hsl0, hI0⟩, hs⟩ := hq.pu; clear hq
  obtain ⟨A, c, rfl⟩ := slr_form hsl0 hs.own
  have hI : ∀ b, b ∈ raw0.take 3000 → InB b := fun b hb => hI0 b (List.mem_of_mem_take hb)
  have hlen : (raw0.take 3000).length ≤ 3000 := List.length_take_le 3000 raw0
  have hlen2 : (raw0.take 3000).length ≤ 140737488355328 := by omega
  have hcl : ∀ F, Spec Tryd.prog c0 15 #[.slice A raw0.length c] (pu (SlR F 1 bytv (.slice A raw0.length c) raw0) F) (fun r => pu (r = .slice A (min raw0.length 3000) c) F) := fun F w hs => by
    refine (clip_s c0 F A raw0.length c raw0 w hs).mono fun ex w' ⟨u, hu, h⟩ => ⟨u, hu, ?_⟩
    obtain ⟨h1, h2⟩ := h.pu
    exact h2.mono (ent_pu h1.1 ent_refl)
  have hsl : SlR F 1 bytv (.slice A (min raw0.length 3000) c) (raw0.take 3000) := by
    rcases Nat.lt_or_ge 3000 raw0.length with h | h
    · rw [Nat.min_eq_right (by omega)]
      exact slr_take hsl0 3000 (by omega)
    · rw [Nat.min_eq_left h, List.take_of_length_le (by omega)]
      exact hsl0
  have hone : ∀ d l, rdMsg (raw0.take 3000) = .ok (mpOf d l) → okM d l = true ∧ MsgI d l ∧ l.length ≤ 1000000 ∧ encMsg (mpOf d l) = raw0.take 3000 ∧ kindB (raw0.take 3000) = d.kind := fun d l h => by
    obtain ⟨h1, h2⟩ := rdMsg_one hI h
    obtain ⟨h3, h4⟩ := okM_of h1
    have h5 := acts_few h1
    rw [h2] at h5
    exact ⟨h3, h4, by show (mpOf d l).acts.length ≤ 1000000; omega, h2, by rw [← h2]; exact kind_of h1⟩
  have hm0 : msgEq msg0 ⟨0, 0, 0, clk0, none, 0, 0, rnds0⟩ [] [] = true := by decide
  have hmz : ∀ F, Spec Tryd.prog c0 14 #[.agg (msg msg0), .agg (msg ⟨0, 0, 0, clk0, none, 0, 0, rnds0⟩)] F (fun r => pu (r = .bool true) F) := fun F w hs => by
    have h := message_s c0 F msg0 ⟨0, 0, 0, clk0, none, 0, 0, rnds0⟩ [] [] w (hs.mono (ent_pu ⟨slr_nil, slr_nil⟩ ent_refl))
    rw [hm0] at h
    exact h
  have hby : ∀ F d l, Spec Tryd.prog c0 10 #[.agg (msg d)] (pu (rdMsg (raw0.take 3000) = .ok (mpOf d l) ∧ SlR F 13 actv d.s l) F) (fun r => ex fun gb : Nat => pu (r = .tuple #[.slice (some ⟨gb, 0, none⟩) (raw0.take 3000).length (raw0.take 3000).length, .nilIface]) (row 5 1 bytv (.slice (some ⟨gb, 0, none⟩) (raw0.take 3000).length (raw0.take 3000).length) (raw0.take 3000) * F)) := fun F d l w hq => by
    obtain ⟨⟨h1, h2⟩, hs⟩ := hq.pu
    obtain ⟨k1, k2, k3, k4, _⟩ := hone d l h1
    have h := bytesYes_s c0 F d l k1 w (hs.mono (ent_pu ⟨h2, k2, k3⟩ ent_refl))
    rw [k4] at h
    exact h
  replace hone := Lib.hid hone
  generalize raw0.take 3000 = raw at *
  generalize min raw0.length 3000 = nr at *
  go_enter Tryd.func4, Tryd.ntmps4
  go_wp2_with (first
        | ((with_reducible apply wp_region_sl (G := emp) (id := 6) hs 1000); (focus (exact ent_emp_l)); (focus kernel_rfl); (focus decide +kernel); clear hs; (try clear w); intro hR w hRR hs; (try simp only [star_assoc] at hs))
        | ((with_reducible rewrite [pl_strike_eq]); rotate_left 1; (focus rfl))
        | ((with_reducible apply pl_call hs (hcl _)); (go_must (((focus (simp only [zj, zk, zl, List.append_toArray, List.nil_append, List.cons_append, Act.eval, za, zb, zc, zd, ze, zf]; (try with_reducible rfl); done)); (focus ((repeat (first | (with_reducible (first | exact ent_refl | apply ent_puR)) | ((with_reducible apply ent_front); (focus with_reducible (repeat (first | exact ent_here | apply ent_next | exact ent_last)); done)) | (with_reducible (first | exact ent_keep | apply ent_trans ent_drop)) | (focus (first | (with_reducible assumption))))); done)); (focus (simp only [go_sem]))))); clear hs; (try clear w); intro v w hq; (obtain ⟨rfl, hs⟩ := hq.pu); clear hq; (try simp only [star_assoc, star_emp, emp_star] at hs); (try simp only [Act.put, zg, zh, zi]))
        | (focus ((with_reducible apply pl_callx hs (SpecX.ok (no := fun _ => pu False emp) (read_s _ _ a _ raw))); (go_must (((focus (simp only [zj, zk, zl, List.append_toArray, List.nil_append, List.cons_append, Act.eval, za, zb, zc, zd, ze, zf]; (try with_reducible rfl); done)); (focus ((repeat (first | (with_reducible (first | exact ent_refl | apply ent_puR)) | ((with_reducible apply ent_front); (focus with_reducible (repeat (first | exact ent_here | apply ent_next | exact ent_last)); done)) | (with_reducible (first | exact ent_keep | apply ent_trans ent_drop)) | (focus (first | ((repeat' (first | (with_reducible assumption) | (with_reducible apply And.intro))); done))))); done)); (focus (simp only [go_sem]))))); rotate_left 1; (clear hs; (try clear w); intro pv w hs; (try simp only [star_assoc, star_emp, emp_star] at hs); (try clear hRR hR); (exact (hs.pu.1).elim)); rotate_left 1; (clear hs; (try clear w); intro v w hq; ((obtain ⟨d, hq1⟩ := hq.ex; obtain ⟨l, hq2⟩ := hq1.ex; obtain ⟨e1, hq3⟩ := hq2.ex; obtain ⟨rfl, hs⟩ := hq3.pu; clear hq1 hq2 hq3; rcases readR_cases hs with ⟨hrd, rfl, h9⟩ | ⟨er, te, pe, hrd, rfl, rfl, rfl, h9⟩ <;> (clear hs; have hs := h9; clear h9)) <;> (clear hq; (try simp only [star_assoc, star_emp, emp_star] at hs); (try simp only [Act.put, zg, zh, zi]))))))
        | ((with_reducible apply pl_call hs (hmz _)); (go_must (((focus (simp only [zj, zk, zl, List.append_toArray, List.nil_append, List.cons_append, Act.eval, za, zb, zc, zd, ze, zf]; (try with_reducible rfl); done)); (focus ((repeat (first | (with_reducible (first | exact ent_refl | apply ent_puR)) | ((with_reducible apply ent_front); (focus with_reducible (repeat (first | exact ent_here | apply ent_next | exact ent_last)); done)) | (with_reducible (first | exact ent_keep | apply ent_trans ent_drop)) | (fail))); done)); (focus (simp only [go_sem]))))); clear hs; (try clear w); intro v w hq; (obtain ⟨rfl, hs⟩ := hq.pu); clear hq; (try simp only [star_assoc, star_emp, emp_star] at hs); (try simp only [Act.put, zg, zh, zi]))
        | ((with_reducible apply pl_call hs (wakes_s _ _ a)); (go_must (((focus (simp only [zj, zk, zl, List.append_toArray, List.nil_append, List.cons_append, Act.eval, za, zb, zc, zd, ze, zf]; (try with_reducible rfl); done)); (focus ((repeat (first | (with_reducible (first | exact ent_refl | apply ent_puR)) | ((with_reducible apply ent_front); (focus with_reducible (repeat (first | exact ent_here | apply ent_next | exact ent_last)); done)) | (with_reducible (first | exact ent_keep | apply ent_trans ent_drop)) | (focus (first | (focus (with_reducible (repeat (first | assumption | (apply ErrA.left; assumption) | refine ErrA.exh (by assumption) ?_ | refine ErrA.exh0 (by assumption) ?_ | apply ErrA.next | (apply ErrB.left; assumption) | refine ErrB.exh (by assumption) ?_ | refine ErrB.exh0 (by assumption) ?_ | apply ErrB.next)); done)))))); done)); (focus (simp only [go_sem]))))); clear hs; (try clear w); intro v w hq; (obtain ⟨rfl, hs⟩ := hq.pu); clear hq; (try simp only [star_assoc, star_emp, emp_star] at hs); (try simp only [Act.put, zg, zh, zi]))
        | ((with_reducible apply mx_call hs (wakes_s _ _ a)); (go_must (((focus (simp only [zj, zk, zl, List.append_toArray, List.nil_append, List.cons_append, Act.eval, za, zb, zc, zd, ze, zf]; (try with_reducible rfl); done)); (focus ((repeat (first | (with_reducible (first | exact ent_refl | apply ent_puR)) | ((with_reducible apply ent_front); (focus with_reducible (repeat (first | exact ent_here | apply ent_next | exact ent_last)); done)) | (with_reducible (first | exact ent_keep | apply ent_trans ent_drop)) | (focus (first | (focus (with_reducible (repeat (first | assumption | (apply ErrA.left; assumption) | refine ErrA.exh (by assumption) ?_ | refine ErrA.exh0 (by assumption) ?_ | apply ErrA.next | (apply ErrB.left; assumption) | refine ErrB.exh (by assumption) ?_ | refine ErrB.exh0 (by assumption) ?_ | apply ErrB.next)); done)))))); done)); (focus (simp only [go_sem])); (focus (intros; with_reducible (refine in_of_sat (by assumption) ?_; repeat (first | exact ent_exh_here | exact ent_last | refine ent_pu_l (fun _ => ?_) | refine ent_ex_l (fun _ => ?_) | apply ent_exh_next)); done))))); clear hs; (try clear w); intro v w hq; (obtain ⟨rfl, hs⟩ := hq.pu); clear hq; (try simp only [star_assoc, star_emp, emp_star] at hs); (try simp only [Act.put, zg, zh, zi]))
        | ((with_reducible apply pl_call hs (hby _ _ _)); (go_must (((focus (simp only [zj, zk, zl, List.append_toArray, List.nil_append, List.cons_append, Act.eval, za, zb, zc, zd, ze, zf]; (try with_reducible rfl); done)); (focus ((repeat (first | (with_reducible (first | exact ent_refl | apply ent_puR)) | ((with_reducible apply ent_front); (focus with_reducible (repeat (first | exact ent_here | apply ent_next | exact ent_last)); done)) | (with_reducible (first | exact ent_keep | apply ent_trans ent_drop)) | (focus (first | ((repeat' (first | (with_reducible assumption) | (with_reducible apply And.intro) | (focus (first | ((repeat (first | (with_reducible (first | assumption | exact slr_ro |  exact hsl _ | exact hsl2 _ | exact hsl3 _ _ _ | exact slr_nil | exact slr_row (fun _ => by simp only [go_sem]) | exact slr_one (fun _ => by simp only [go_sem]) | (apply slr_left; assumption))) | (with_reducible apply slr_next))); done) | ((repeat (first | (with_reducible (first | assumption | exact slr_ro |  exact hsl _ | exact hsl2 _ | exact hsl3 _ _ _ | exact slr_nil | exact slr_row (fun _ => by simp only [go_sem]) | exact slr_one (fun _ => by simp only [go_sem]) | (apply slr_left; assumption))) | (with_reducible (first | (apply slr_exh; focus assumption) | (apply slr_exh0; focus assumption) | apply slr_next)))); done))))); done))))); done)); (focus (simp only [go_sem]))))); clear hs; (try clear w); intro v w hq; (obtain ⟨gb, hq1⟩ := hq.ex; obtain ⟨rfl, hs⟩ := hq1.pu; clear hq1); clear hq; (try simp only [star_assoc, star_emp, emp_star] at hs); (try simp only [Act.put, zg, zh, zi]))
        | ((with_reducible apply mx_call hs (right_s _ _ d l)); (go_must (((focus (simp only [zj, zk, zl, List.append_toArray, List.nil_append, List.cons_append, Act.eval, za, zb, zc, zd, ze, zf]; (try with_reducible rfl); done)); (focus ((repeat (first | (with_reducible (first | exact ent_refl | apply ent_puR)) | ((with_reducible apply ent_front); (focus with_reducible (repeat (first | exact ent_here | apply ent_next | exact ent_last)); done)) | (with_reducible (first | exact ent_keep | apply ent_trans ent_drop)) | (focus (first | (focus (first | ((repeat (first | (with_reducible (first | assumption | exact slr_ro |  exact hsl _ | exact hsl2 _ | exact hsl3 _ _ _ | exact slr_nil | exact slr_row (fun _ => by simp only [go_sem]) | exact slr_one (fun _ => by simp only [go_sem]) | (apply slr_left; assumption))) | (with_reducible apply slr_next))); done) | ((repeat (first | (with_reducible (first | assumption | exact slr_ro |  exact hsl _ | exact hsl2 _ | exact hsl3 _ _ _ | exact slr_nil | exact slr_row (fun _ => by simp only [go_sem]) | exact slr_one (fun _ => by simp only [go_sem]) | (apply slr_left; assumption))) | (with_reducible (first | (apply slr_exh; focus assumption) | (apply slr_exh0; focus assumption) | apply slr_next)))); done))))))); done)); (focus (simp only [go_sem])); (focus (intros; with_reducible (refine in_of_sat (by assumption) ?_; repeat (first | exact ent_exh_here | exact ent_last | refine ent_pu_l (fun _ => ?_) | refine ent_ex_l (fun _ => ?_) | apply ent_exh_next)); done))))); clear hs; (try clear w); intro v w hq; (obtain ⟨hv, hs⟩ := hq.pu; rw [(hone.out _ _ hrd).1] at hv; subst hv); clear hq; (try simp only [star_assoc, star_emp, emp_star] at hs); (try simp only [Act.put, zg, zh, zi]))
        | ((with_reducible apply mx_call hs (kind_s _ _ _ raw)); (go_must (((focus (simp only [zj, zk, zl, List.append_toArray, List.nil_append, List.cons_append, Act.eval, za, zb, zc, zd, ze, zf]; (try with_reducible rfl); done)); (focus ((repeat (first | (with_reducible (first | exact ent_refl | apply ent_puR)) | ((with_reducible apply ent_front); (focus with_reducible (repeat (first | exact ent_here | apply ent_next | exact ent_last)); done)) | (with_reducible (first | exact ent_keep | apply ent_trans ent_drop)) | (focus (first | ((repeat' (first | (with_reducible assumption) | (with_reducible apply And.intro) | (focus (first | ((repeat (first | (with_reducible (first | assumption | exact slr_ro |  exact hsl _ | exact hsl2 _ | exact hsl3 _ _ _ | exact slr_nil | exact slr_row (fun _ => by simp only [go_sem]) | exact slr_one (fun _ => by simp only [go_sem]) | (apply slr_left; assumption))) | (with_reducible apply slr_next))); done) | ((repeat (first | (with_reducible (first | assumption | exact slr_ro |  exact hsl _ | exact hsl2 _ | exact hsl3 _ _ _ | exact slr_nil | exact slr_row (fun _ => by simp only [go_sem]) | exact slr_one (fun _ => by simp only [go_sem]) | (apply slr_left; assumption))) | (with_reducible (first | (apply slr_exh; focus assumption) | (apply slr_exh0; focus assumption) | apply slr_next)))); done))))); done))))); done)); (focus (simp only [go_sem])); (focus (intros; with_reducible (refine in_of_sat (by assumption) ?_; repeat (first | exact ent_exh_here | exact ent_last | refine ent_pu_l (fun _ => ?_) | refine ent_ex_l (fun _ => ?_) | apply ent_exh_next)); done))))); clear hs; (try clear w); intro v w hq; (obtain ⟨hv, hs⟩ := hq.pu; rw [(hone.out _ _ hrd).2.2.2.2] at hv; subst hv); clear hq; (try simp only [star_assoc, star_emp, emp_star] at hs); (try simp only [Act.put, zg, zh, zi]))
        | ((with_reducible apply pl_loadN hs); (focus (simp only [Act.eval, za, zb, zc, zd, ze, zf]; (try with_reducible rfl); done)); (with_reducible (first | exact agg_30)); (focus ((repeat (first | (with_reducible (first | assumption | exact hel _ | exact hel2 _ | exact hel3 _)) | ((with_reducible apply reads_whole); (focus (first | (with_reducible rfl) | (simp only [go_sem]; done) | (simp; done)))) | ((with_reducible apply reads_part); (focus (first | (simp [go_sem]; done) | (simp only [go_sem]; omega) | go_size)); (focus (first | (simp only [Nat.reduceAdd, Nat.zero_add, go_sem]; (try with_reducible rfl); done) | (simp [go_sem]; (try with_reducible rfl); done)))) | (with_reducible (first | (apply reads_left; assumption) | refine reads_exh (by assumption) ?_ | refine reads_exh0 (by assumption) ?_ | apply reads_next)))); done)); (focus rfl); simp only [Act.put, zg, zh, zi])
        | ((with_reducible apply pl_build hs); (focus (simp only [zj, zk, zl, Act.eval, za, zb, zc, zd, ze, zf]; (try with_reducible rfl); done)); (first | (with_reducible exact bld_4)); (focus rfl); simp only [Act.put, zg, zh, zi])
        | ((with_reducible apply pl_alloc hs); (with_reducible (first | exact zero_30)); clear hs; (try clear w); intro g w hs; skip; simp only [Act.put, zg, zh, zi])
        | ((with_reducible apply pl_storeN hs); (focus (simp only [Act.eval, za, zb, zc, zd, ze, zf]; (try with_reducible rfl); done)); (focus (simp only [Act.eval, za, zb, zc, zd, ze, zf]; (try with_reducible rfl); done)); (with_reducible (first | exact agg_30)); (focus with_reducible (repeat (first | exact ent_here | apply ent_next | exact ent_last)); done); (focus (first | (with_reducible rfl) | (simp only [go_sem]; done) | (simp; done))); (focus (first | (simp [go_sem]; done) | (simp only [go_sem]; omega) | go_size)); (focus (first | (simp only [go_sem]; done) | (simp [go_sem]; done))); (focus (first | ((with_reducible apply splice_whole); (focus (first | (with_reducible rfl) | (simp only [go_sem]; done) | (simp; done)))) | (simp [splice, go_sem]; done) | (simp only [go_sem]; (try with_reducible rfl); done))); clear hs; (try clear w); intro w hs; (try simp only [zg, zh, zi, clk_set, opv_s0, opv_s1, opv_s2, opv_s3, actv_s0, actv_s1, actv_s2, actv_s3, actv_s4, rnd_s0, rnd_s17, lnk_s0, lnk_s1, lnk_s2, nov_s0, nov_s1, nov_s2, intv_set, bytv_set] at hs); simp only [Act.put, zg, zh, zi])
        | ((with_reducible apply mix_end hRR hs); (focus with_reducible (repeat (first | exact ent_here | apply ent_next | exact ent_last)); done); clear hs; (try clear w); intro w hs; (try simp only [star_assoc, star_emp, emp_star] at hs); clear hRR hR)
        | ((with_reducible apply mx_strike); (focus rfl))
        | ((with_reducible apply mx_loadN hRR); (focus (simp only [Act.eval, za, zb, zc, zd, ze, zf]; (try with_reducible rfl); done)); (with_reducible (first | exact agg_30)); (focus ((repeat (first | (with_reducible (first | assumption | exact hel _ | exact hel2 _ | exact hel3 _)) | ((with_reducible apply reads_whole); (focus (first | (with_reducible rfl) | (simp only [go_sem]; done) | (simp; done)))) | ((with_reducible apply reads_part); (focus (first | (simp [go_sem]; done) | (simp only [go_sem]; omega) | go_size)); (focus (first | (simp only [Nat.reduceAdd, Nat.zero_add, go_sem]; (try with_reducible rfl); done) | (simp [go_sem]; (try with_reducible rfl); done)))) | (with_reducible (first | (apply reads_left; assumption) | refine reads_exh (by assumption) ?_ | refine reads_exh0 (by assumption) ?_ | apply reads_next)))); done)); simp only [Act.put, zg, zh, zi])
        | ((with_reducible apply mx_load1 hRR); (focus (simp only [Act.eval, za, zb, zc, zd, ze, zf]; (try with_reducible rfl); done)); (focus (simp only [go_sem])); (focus ((repeat (first | (with_reducible (first | assumption | exact hec _ | exact hec2 _ | exact hec3 _ | exact hec4 _ _)) | ((with_reducible apply readc_here); (focus (first | (simp only [zc, zd, ze, go_sem]; (try with_reducible rfl); done) | (go_simp; (try with_reducible rfl); done)))) | (with_reducible (first | (apply readc_left; assumption) | refine readc_exh (by assumption) ?_ | refine readc_exh0 (by assumption) ?_ | apply readc_next)))); done)); simp only [Act.put, zg, zh, zi])
        | ((with_reducible apply mx_cvBS hRR); (focus (simp only [Act.eval, za, zb, zc, zd, ze, zf]; (try with_reducible rfl); done)); (first | (with_reducible exact byt_32_9)); (focus (first | ((repeat (first | (with_reducible (first | assumption | exact slr_ro |  exact hsl _ | exact hsl2 _ | exact hsl3 _ _ _ | exact slr_nil | exact slr_row (fun _ => by simp only [go_sem]) | exact slr_one (fun _ => by simp only [go_sem]) | (apply slr_left; assumption))) | (with_reducible apply slr_next))); done) | ((repeat (first | (with_reducible (first | assumption | exact slr_ro |  exact hsl _ | exact hsl2 _ | exact hsl3 _ _ _ | exact slr_nil | exact slr_row (fun _ => by simp only [go_sem]) | exact slr_one (fun _ => by simp only [go_sem]) | (apply slr_left; assumption))) | (with_reducible (first | (apply slr_exh; focus assumption) | (apply slr_exh0; focus assumption) | apply slr_next)))); done))); (focus rfl); simp only [Act.put, zg, zh, zi])
        | ((with_reducible refine mix_float ?_ ?_ ?_ (fun h hk => ?_) ?_); rotate_left 1; (focus rfl); (focus rfl); (focus (go_simp; (try (rw [if_pos (by omega)]; (try go_simp))); (try simp (disch := omega) only [IntWalk.i64_in, IntWalk.i32_in]); (try with_reducible rfl); done)); simp only [Act.put, zg, zh, zi]))
  all_goals (
    (go_ret; simp only [za, zb, zc, zd, ze, zf])
    exact ⟨_, rfl, hs.mono (ent_pu rfl (by ((repeat (first | (with_reducible (first | exact ent_refl | exact ent_emp)) | ((with_reducible apply ent_front); (focus with_reducible (repeat (first | exact ent_here | apply ent_next | exact ent_last)); done)) | (with_reducible (first | exact ent_keep | apply ent_trans ent_drop)))); done)))⟩)
end Go.Proofs.YtegebjflhhbmiaaDoor
