/- The law Read. -/
import Derived.Test.YtegebjflhhbmiaaDoorZQC6BO
import Derived.Test.YtegebjflhhbmiaaDoorZQC6BY
import Derived.Test.YtegebjflhhbmiaaDoorZQC6BT
import Derived.Test.YtegebjflhhbmiaaDoorZQC6AS
import Derived.Test.YtegebjflhhbmiaaDoorZQC6BS
set_option linter.unusedSimpArgs false
set_option linter.unusedVariables false
namespace Go.Proofs.YtegebjflhhbmiaaDoor
open Go Go.RowKit

theorem told_alike {raw : List Int} {d e : MsgD} {l m : List ActD} (h1 : Told raw d l) (h2 : Told raw e m) : msgEq d e l m = true := by
  unfold Told at h1 h2
  refine msgEq_norm.2 (congrArg nmP ?_)
  cases hr : rdMsg raw with
  | ok x => rw [hr] at h1 h2; exact h1.trans h2.symm
  | error e => rw [hr] at h1 h2; rw [h1.1, h1.2, h2.1, h2.2]
theorem told_few {raw : List Int} {d : MsgD} {l : List ActD} (hI : ∀ b, b ∈ raw → InB b) (h : Told raw d l) : 5 * l.length ≤ raw.length := by
  unfold Told at h
  cases hr : rdMsg raw with
  | ok x =>
    rw [hr] at h
    obtain ⟨h1, h2⟩ := rdMsg_one hI hr
    have h3 := acts_few h1
    rw [h2, ← h] at h3
    have h4 : (mpOf d l).acts.length = l.length := rfl
    omega
  | error e => rw [hr] at h; rw [h.2]; simp
theorem readU_s (c0 : World) (F : HP) (a : Nat → Addr) (v : Value) (raw : List Int) : Spec Tryd.prog c0 13 #[v] (pu (ErrB F a ∧ SlR F 1 bytv v raw ∧ (∀ b, b ∈ raw → InB b) ∧ raw.length ≤ 140737488355328) F)
    (fun r => ex fun d : MsgD => ex fun l : List ActD => ex fun e : Value => pu (r = .tuple #[.agg (msg d), e] ∧ Told raw d l) (row 78 13 actv (.slice d.p d.n d.cap) l * (RefP a (rdO raw) e * F))) := fun w hq => by
  unfold Told rdO
  cases hr : rdMsg raw with
  | ok m =>
    refine (readOk_s c0 F a v raw m hr w hq).mono fun ex w' ⟨u, hu, h⟩ => ⟨u, hu, ?_⟩
    obtain ⟨d, h⟩ := h.ex
    obtain ⟨l, h⟩ := h.ex
    obtain ⟨⟨h1, h2⟩, h⟩ := h.pu
    refine h.mono (ent_ex d (ent_ex l (ent_ex .nilIface (ent_pu ⟨h1, h2⟩ (star_mono ent_refl ?_)))))
    unfold RefP
    rw [pu_star, emp_star]
    exact ent_pu rfl ent_refl
  | error e =>
    refine (readNo_s c0 F a v raw e hr w hq).mono fun ex w' ⟨u, hu, h⟩ => ⟨u, hu, ?_⟩
    obtain ⟨x, h⟩ := h.ex
    obtain ⟨h1, h⟩ := h.pu
    exact h.mono (ent_ex msg0 (ent_ex [] (ent_ex x (ent_pu ⟨h1, rfl, rfl⟩ ent_row_nil))))
theorem slr_lentL {v : Value} {l : List Int} {X : HP} : SlR (lentP v l * X) 1 bytv v l := slr_left slr_lentP
def RawA (F : HP) (d : SlD) : Prop := ∃ l, SlR F 1 bytv (.slice d.p d.n d.c) l ∧ ∀ b, b ∈ l → InB b
theorem opens_rawv (W : World) : OpensAt Tryd.prog W 32 1 slv (fun d => ∃ l, SlIs W W.heap.size 1 bytv (.slice d.p d.n d.c) l ∧ ∀ a, a ∈ l → InB a) :=
  opens_slA Tryd.underlying32 (by kernel_rfl) (opens_bytv.at W) (by decide)
theorem rawA_of {W : World} {d : SlD} (h : ∃ l, SlIs W W.heap.size 1 bytv (.slice d.p d.n d.c) l ∧ ∀ a, a ∈ l → InB a) : RawA (Exh (fun b => W.heap[b]?)) d := by
  obtain ⟨l, h1, h2⟩ := h
  exact ⟨l, slr_start h1, h2⟩
set_option maxRecDepth 20000 in
set_option maxHeartbeats 8000000 in
theorem readLaw_s (c0 : World) (F : HP) (a : Nat → Addr) (v : Value) (l : List SlD) : Spec Tryd.prog c0 8 #[v] (pu (ErrA F a ∧ SlR F 1 slv v l ∧ ∀ d, d ∈ l → RawA F d) F) (fun r => pu (r = .bool true) F) := by
  intro w hq; obtain ⟨⟨hE, hsl0, hM0⟩, hs⟩ := hq.pu; clear hq
  have hEb := hE.b
  obtain ⟨A0, cp0, rfl⟩ := slr_form hsl0 hs.own
  obtain ⟨_, hn1, hn2, _⟩ := slr_len hsl0 hs.own
  unfold maxLen at hn2
  generalize hnl : l.length = n0 at *
  replace hnl := Lib.hid hnl
  go_enter Tryd.func8, Tryd.ntmps8
  go_wp2_with fail
  go_loopw [3] (fun i wr => ∃ k : Nat, k ≤ n0 ∧ k ≤ 40 ∧ i = .int .i64 k ∧ Sat c0 F wr) (fun i _ => n0 - (intOf i).toNat)
  case atStart => exact ⟨0, by omega, by omega, rfl, hs⟩
  case round =>
    clear hs
    obtain ⟨k, hk, hk40, rfl, hs⟩ := hrel
    by_cases hlt : k < n0 ∧ k < 40
    · obtain ⟨hlt, hlt2⟩ := hlt
      have hlt3 : (k : Int) < n0 := by omega
      have hlt4 : (k : Int) < 40 := by omega
      obtain ⟨gb0, o0, x, rfl, hlx, hel0⟩ := slr_get hsl0 hs.own hlt
      obtain ⟨rx, hslx, hIx⟩ := hM0 x (List.mem_of_getElem? hlx)
      obtain ⟨xp, xn, xc⟩ := x
      replace hslx : SlR F 1 bytv (.slice xp xn xc) rx := hslx
      have hec : ReadC F gb0 (o0 + k) (.slice xp xn xc) := by
        have h := hel0.cell (i := 0) (by omega) (slv_0 _)
        rwa [Nat.mul_one] at h
      have hclip : ∀ F, Spec Tryd.prog c0 15 #[.slice xp xn xc] (pu (SlR F 1 bytv (.slice xp xn xc) rx) F) (fun r => pu (r = .slice xp (min xn 3000) xc) F) := fun F w hs => (clip_s c0 F xp xn xc rx w hs).mono fun ex w' ⟨u, hu, h⟩ => ⟨u, hu, h.mono (ent_pu_l fun h => ent_pu h.1 ent_refl)⟩
      have hsly : SlR F 1 bytv (.slice xp (min xn 3000) xc) (rx.take 3000) := by
        obtain ⟨hn, _⟩ := slr_len hslx hs.own
        rcases Nat.lt_or_ge 3000 xn with h | h
        · rw [Nat.min_eq_right (by omega)]
          exact slr_take hslx 3000 (by omega)
        · rw [Nat.min_eq_left h, List.take_of_length_le (by omega)]
          exact hslx
      have hI : ∀ b, b ∈ rx.take 3000 → InB b := fun b hb => hIx b (List.mem_of_mem_take hb)
      have hL : (rx.take 3000).length ≤ 3000 := List.length_take_le 3000 rx
      generalize rx.take 3000 = R at *
      generalize min xn 3000 = m at *
      have hread : ∀ F v, Spec Tryd.prog c0 13 #[v] (pu (ErrB F a ∧ SlR F 1 bytv v R) F) (fun r => ex fun d : MsgD => ex fun l : List ActD => ex fun e : Value => pu (r = .tuple #[.agg (msg d), e] ∧ Told R d l) (row 78 13 actv (.slice d.p d.n d.cap) l * (RefP a (rdO R) e * F))) := fun F v w hs => readU_s c0 F a v R w (hs.mono (ent_pu_l fun h => ent_pu ⟨h.1, h.2, hI, by omega⟩ ent_refl))
      have hrread : ∀ F p n c, Spec Tryd.prog c0 23 #[.slice p n c] (pu (SlR F 1 bytv (.slice p n c) R) F) (fun r => ex fun d : MsgD => ex fun l : List ActD => ex fun z : NoD => pu (r = .tuple #[.agg (msg d), .agg (nov z)] ∧ Told R d l) (row 78 13 actv (.slice d.p d.n d.cap) l * (NoP (rdO R) z * F))) := fun F p n c w hs => rread_s c0 F p n c R w (hs.mono (ent_pu_l fun h => ent_pu ⟨h, hI⟩ ent_refl))
      have hmsg : ∀ F d e l m, Spec Tryd.prog c0 14 #[.agg (msg d), .agg (msg e)] (pu (SlR F 13 actv (.slice d.p d.n d.cap) l ∧ SlR F 13 actv (.slice e.p e.n e.cap) m ∧ Told R d l ∧ Told R e m) F) (fun r => pu (r = .bool true) F) := fun F d e l m w hs => by
        obtain ⟨⟨h1, h2, h3, h4⟩, hs⟩ := hs.pu
        have h := message_s c0 F d e l m w (hs.mono (ent_pu ⟨h1, h2⟩ ent_refl))
        rw [told_alike h3 h4] at h
        exact h
      have hspoil : ∀ F v l d, Spec Tryd.prog c0 27 #[v] (pu (Told R d l) (row 78 13 actv v l * F)) (fun _ => F) := fun F v l d w hs => spoilA_s c0 F v l w (hs.mono (ent_pu_l fun h => ent_pu (by have := told_few hI h; omega) ent_refl))
      have hkind : ∀ F v, Spec Tryd.prog c0 16 #[v] (pu (SlR F 1 bytv v R) F) (fun r => pu (r = .int .i64 (kindB R)) F) := fun F v w hs => kind_s c0 F v R w (hs.mono (ent_pu_l fun h => ent_pu ⟨h, hI⟩ ent_refl))
      have hrkind : ∀ F v, Spec Tryd.prog c0 26 #[v] (pu (SlR F 1 bytv v R) F) (fun r => pu (r = .int .i64 (kindB R)) F) := fun F v w hs => rkind_s c0 F v R w (hs.mono (ent_pu_l fun h => ent_pu ⟨h, hI⟩ ent_refl))
      generalize rdO R = O at *
      generalize kindB R = K at *
      clear hIx hlx hel0
      go_wp2_with (first
        | ((with_reducible rewrite [pl_strike_eq]); rotate_left 1; (focus rfl))
        | ((with_reducible apply pl_call hs (hclip _)); (go_must (((focus (simp only [zj, zk, zl, List.append_toArray, List.nil_append, List.cons_append, Act.eval, za, zb, zc, zd, ze, zf]; (try with_reducible rfl); done)); (focus ((repeat (first | (with_reducible (first | exact ent_refl | apply ent_puR)) | ((with_reducible apply ent_front); (focus with_reducible (repeat (first | exact ent_here | apply ent_next | exact ent_last)); done)) | (with_reducible (first | exact ent_keep | apply ent_trans ent_drop)) | (focus (first | (with_reducible assumption))))); done)); (focus (simp only [go_sem]))))); clear hs; (try clear w); intro v w hq; (obtain ⟨rfl, hs⟩ := hq.pu); clear hq; (try simp only [star_assoc, star_emp, emp_star] at hs); (try simp only [Act.put, zg, zh, zi]))
        | ((with_reducible apply pl_call hs (hrread _ _ _ _)); (go_must (((focus (simp only [zj, zk, zl, List.append_toArray, List.nil_append, List.cons_append, Act.eval, za, zb, zc, zd, ze, zf]; (try with_reducible rfl); done)); (focus ((repeat (first | (with_reducible (first | exact ent_refl | apply ent_puR)) | ((with_reducible apply ent_front); (focus with_reducible (repeat (first | exact ent_here | apply ent_next | exact ent_last)); done)) | (with_reducible (first | exact ent_keep | apply ent_trans ent_drop)) | (focus (first | (with_reducible assumption))))); done)); (focus (simp only [go_sem]))))); clear hs; (try clear w); intro v w hq; (obtain ⟨d1, hq1⟩ := hq.ex; obtain ⟨l1, hq2⟩ := hq1.ex; obtain ⟨z1, hq3⟩ := hq2.ex; obtain ⟨⟨rfl, hT1⟩, hs⟩ := hq3.pu; clear hq1 hq2 hq3); clear hq; (try simp only [star_assoc, star_emp, emp_star] at hs); (try simp only [Act.put, zg, zh, zi]))
        | ((with_reducible apply pl_call hs (lend_s _ _ _ R)); (go_must (((focus (simp only [zj, zk, zl, List.append_toArray, List.nil_append, List.cons_append, Act.eval, za, zb, zc, zd, ze, zf]; (try with_reducible rfl); done)); (focus ((repeat (first | (with_reducible (first | exact ent_refl | apply ent_puR)) | ((with_reducible apply ent_front); (focus with_reducible (repeat (first | exact ent_here | apply ent_next | exact ent_last)); done)) | (with_reducible (first | exact ent_keep | apply ent_trans ent_drop)) | (focus (first | ((repeat' (first | (with_reducible apply And.intro) | omega | (focus (first | ((repeat (first | (with_reducible (first | assumption | exact slr_ro |  exact hsl _ | exact hsl2 _ | exact hsl3 _ _ _ | exact slr_nil | exact slr_row (fun _ => by simp only [go_sem]) | exact slr_one (fun _ => by simp only [go_sem]) | (apply slr_left; assumption))) | (with_reducible apply slr_next))); done) | ((repeat (first | (with_reducible (first | assumption | exact slr_ro |  exact hsl _ | exact hsl2 _ | exact hsl3 _ _ _ | exact slr_nil | exact slr_row (fun _ => by simp only [go_sem]) | exact slr_one (fun _ => by simp only [go_sem]) | (apply slr_left; assumption))) | (with_reducible (first | (apply slr_exh; focus assumption) | (apply slr_exh0; focus assumption) | apply slr_next)))); done))))); done))))); done)); (focus (simp only [go_sem]))))); clear hs; (try clear w); intro v w hq; (have hs := hq; have hsl2 := fun X => slr_lentL (v := v) (l := R) (X := X)); clear hq; (try simp only [star_assoc, star_emp, emp_star] at hs); (try simp only [Act.put, zg, zh, zi]))
        | ((with_reducible apply pl_call hs (hread _ _)); (go_must (((focus (simp only [zj, zk, zl, List.append_toArray, List.nil_append, List.cons_append, Act.eval, za, zb, zc, zd, ze, zf]; (try with_reducible rfl); done)); (focus ((repeat (first | (with_reducible (first | exact ent_refl | apply ent_puR)) | ((with_reducible apply ent_front); (focus with_reducible (repeat (first | exact ent_here | apply ent_next | exact ent_last)); done)) | (with_reducible (first | exact ent_keep | apply ent_trans ent_drop)) | (focus (first | ((repeat' (first | (with_reducible apply And.intro) | (focus (first | ((repeat (first | (with_reducible (first | assumption | exact slr_ro |  exact hsl _ | exact hsl2 _ | exact hsl3 _ _ _ | exact slr_nil | exact slr_row (fun _ => by simp only [go_sem]) | exact slr_one (fun _ => by simp only [go_sem]) | (apply slr_left; assumption))) | (with_reducible apply slr_next))); done) | ((repeat (first | (with_reducible (first | assumption | exact slr_ro |  exact hsl _ | exact hsl2 _ | exact hsl3 _ _ _ | exact slr_nil | exact slr_row (fun _ => by simp only [go_sem]) | exact slr_one (fun _ => by simp only [go_sem]) | (apply slr_left; assumption))) | (with_reducible (first | (apply slr_exh; focus assumption) | (apply slr_exh0; focus assumption) | apply slr_next)))); done))) | (focus (with_reducible (repeat (first | assumption | (apply ErrA.left; assumption) | refine ErrA.exh (by assumption) ?_ | refine ErrA.exh0 (by assumption) ?_ | apply ErrA.next | (apply ErrB.left; assumption) | refine ErrB.exh (by assumption) ?_ | refine ErrB.exh0 (by assumption) ?_ | apply ErrB.next)); done)))); done))))); done)); (focus (simp only [go_sem]))))); clear hs; (try clear w); intro v w hq; (obtain ⟨d2, hq1⟩ := hq.ex; obtain ⟨l2, hq2⟩ := hq1.ex; obtain ⟨e2, hq3⟩ := hq2.ex; obtain ⟨⟨rfl, hT2⟩, hs⟩ := hq3.pu; clear hq1 hq2 hq3); clear hq; (try simp only [star_assoc, star_emp, emp_star] at hs); (try simp only [Act.put, zg, zh, zi]))
        | ((with_reducible apply pl_call hs (hkind _ _)); (go_must (((focus (simp only [zj, zk, zl, List.append_toArray, List.nil_append, List.cons_append, Act.eval, za, zb, zc, zd, ze, zf]; (try with_reducible rfl); done)); (focus ((repeat (first | (with_reducible (first | exact ent_refl | apply ent_puR)) | ((with_reducible apply ent_front); (focus with_reducible (repeat (first | exact ent_here | apply ent_next | exact ent_last)); done)) | (with_reducible (first | exact ent_keep | apply ent_trans ent_drop)) | (focus (first | (focus (first | ((repeat (first | (with_reducible (first | assumption | exact slr_ro |  exact hsl _ | exact hsl2 _ | exact hsl3 _ _ _ | exact slr_nil | exact slr_row (fun _ => by simp only [go_sem]) | exact slr_one (fun _ => by simp only [go_sem]) | (apply slr_left; assumption))) | (with_reducible apply slr_next))); done) | ((repeat (first | (with_reducible (first | assumption | exact slr_ro |  exact hsl _ | exact hsl2 _ | exact hsl3 _ _ _ | exact slr_nil | exact slr_row (fun _ => by simp only [go_sem]) | exact slr_one (fun _ => by simp only [go_sem]) | (apply slr_left; assumption))) | (with_reducible (first | (apply slr_exh; focus assumption) | (apply slr_exh0; focus assumption) | apply slr_next)))); done))))))); done)); (focus (simp only [go_sem]))))); clear hs; (try clear w); intro v w hq; (obtain ⟨rfl, hs⟩ := hq.pu); clear hq; (try simp only [star_assoc, star_emp, emp_star] at hs); (try simp only [Act.put, zg, zh, zi]))
        | ((with_reducible apply pl_call hs (hrkind _ _)); (go_must (((focus (simp only [zj, zk, zl, List.append_toArray, List.nil_append, List.cons_append, Act.eval, za, zb, zc, zd, ze, zf]; (try with_reducible rfl); done)); (focus ((repeat (first | (with_reducible (first | exact ent_refl | apply ent_puR)) | ((with_reducible apply ent_front); (focus with_reducible (repeat (first | exact ent_here | apply ent_next | exact ent_last)); done)) | (with_reducible (first | exact ent_keep | apply ent_trans ent_drop)) | (focus (first | (focus (first | ((repeat (first | (with_reducible (first | assumption | exact slr_ro |  exact hsl _ | exact hsl2 _ | exact hsl3 _ _ _ | exact slr_nil | exact slr_row (fun _ => by simp only [go_sem]) | exact slr_one (fun _ => by simp only [go_sem]) | (apply slr_left; assumption))) | (with_reducible apply slr_next))); done) | ((repeat (first | (with_reducible (first | assumption | exact slr_ro |  exact hsl _ | exact hsl2 _ | exact hsl3 _ _ _ | exact slr_nil | exact slr_row (fun _ => by simp only [go_sem]) | exact slr_one (fun _ => by simp only [go_sem]) | (apply slr_left; assumption))) | (with_reducible (first | (apply slr_exh; focus assumption) | (apply slr_exh0; focus assumption) | apply slr_next)))); done))))))); done)); (focus (simp only [go_sem]))))); clear hs; (try clear w); intro v w hq; (obtain ⟨rfl, hs⟩ := hq.pu); clear hq; (try simp only [star_assoc, star_emp, emp_star] at hs); (try simp only [Act.put, zg, zh, zi]))
        | ((with_reducible apply pl_call hs (intact_s _ _ _ _ R)); (go_must (((focus (simp only [zj, zk, zl, List.append_toArray, List.nil_append, List.cons_append, Act.eval, za, zb, zc, zd, ze, zf]; (try with_reducible rfl); done)); (focus ((repeat (first | (with_reducible (first | exact ent_refl | apply ent_puR)) | ((with_reducible apply ent_front); (focus with_reducible (repeat (first | exact ent_here | apply ent_next | exact ent_last)); done)) | (with_reducible (first | exact ent_keep | apply ent_trans ent_drop)) | (focus (first | ((repeat' (first | (with_reducible apply And.intro) | omega | (focus (first | ((repeat (first | (with_reducible (first | assumption | exact slr_ro |  exact hsl _ | exact hsl2 _ | exact hsl3 _ _ _ | exact slr_nil | exact slr_row (fun _ => by simp only [go_sem]) | exact slr_one (fun _ => by simp only [go_sem]) | (apply slr_left; assumption))) | (with_reducible apply slr_next))); done) | ((repeat (first | (with_reducible (first | assumption | exact slr_ro |  exact hsl _ | exact hsl2 _ | exact hsl3 _ _ _ | exact slr_nil | exact slr_row (fun _ => by simp only [go_sem]) | exact slr_one (fun _ => by simp only [go_sem]) | (apply slr_left; assumption))) | (with_reducible (first | (apply slr_exh; focus assumption) | (apply slr_exh0; focus assumption) | apply slr_next)))); done))))); done))))); done)); (focus (simp only [go_sem]))))); clear hs; (try clear w); intro v w hq; (obtain ⟨rfl, hs⟩ := hq.pu); clear hq; (try simp only [star_assoc, star_emp, emp_star] at hs); (try simp only [Act.put, zg, zh, zi]))
        | ((with_reducible apply pl_call hs (refusedK_s _ _ a O _ _)); (go_must (((focus (simp only [zj, zk, zl, List.append_toArray, List.nil_append, List.cons_append, Act.eval, za, zb, zc, zd, ze, zf]; (try with_reducible rfl); done)); (focus ((repeat (first | (with_reducible (first | exact ent_refl | apply ent_puR)) | ((with_reducible apply ent_front); (focus with_reducible (repeat (first | exact ent_here | apply ent_next | exact ent_last)); done)) | (with_reducible (first | exact ent_keep | apply ent_trans ent_drop)) | (focus (first | (focus (with_reducible (repeat (first | assumption | (apply ErrA.left; assumption) | refine ErrA.exh (by assumption) ?_ | refine ErrA.exh0 (by assumption) ?_ | apply ErrA.next | (apply ErrB.left; assumption) | refine ErrB.exh (by assumption) ?_ | refine ErrB.exh0 (by assumption) ?_ | apply ErrB.next)); done)))))); done)); (focus (simp only [go_sem]))))); clear hs; (try clear w); intro v w hq; (obtain ⟨rfl, hs⟩ := hq.pu); clear hq; (try simp only [star_assoc, star_emp, emp_star] at hs); (try simp only [Act.put, zg, zh, zi]))
        | ((with_reducible apply pl_call hs (hmsg _ _ _ _ _)); (go_must (((focus (simp only [zj, zk, zl, List.append_toArray, List.nil_append, List.cons_append, Act.eval, za, zb, zc, zd, ze, zf]; (try with_reducible rfl); done)); (focus ((repeat (first | (with_reducible (first | exact ent_refl | apply ent_puR)) | ((with_reducible apply ent_front); (focus with_reducible (repeat (first | exact ent_here | apply ent_next | exact ent_last)); done)) | (with_reducible (first | exact ent_keep | apply ent_trans ent_drop)) | (focus (first | ((repeat' (first | (with_reducible assumption) | (with_reducible apply And.intro) | (focus (first | ((repeat (first | (with_reducible (first | assumption | exact slr_ro |  exact hsl _ | exact hsl2 _ | exact hsl3 _ _ _ | exact slr_nil | exact slr_row (fun _ => by simp only [go_sem]) | exact slr_one (fun _ => by simp only [go_sem]) | (apply slr_left; assumption))) | (with_reducible apply slr_next))); done) | ((repeat (first | (with_reducible (first | assumption | exact slr_ro |  exact hsl _ | exact hsl2 _ | exact hsl3 _ _ _ | exact slr_nil | exact slr_row (fun _ => by simp only [go_sem]) | exact slr_one (fun _ => by simp only [go_sem]) | (apply slr_left; assumption))) | (with_reducible (first | (apply slr_exh; focus assumption) | (apply slr_exh0; focus assumption) | apply slr_next)))); done))))); done))))); done)); (focus (simp only [go_sem]))))); clear hs; (try clear w); intro v w hq; (obtain ⟨rfl, hs⟩ := hq.pu); clear hq; (try simp only [star_assoc, star_emp, emp_star] at hs); (try simp only [Act.put, zg, zh, zi]))
        | ((with_reducible apply pl_call hs (hspoil _ _ _ _)); (go_must (((focus (simp only [zj, zk, zl, List.append_toArray, List.nil_append, List.cons_append, Act.eval, za, zb, zc, zd, ze, zf]; (try with_reducible rfl); done)); (focus ((repeat (first | (with_reducible (first | exact ent_refl | apply ent_puR)) | ((with_reducible apply ent_front); (focus with_reducible (repeat (first | exact ent_here | apply ent_next | exact ent_last)); done)) | (with_reducible (first | exact ent_keep | apply ent_trans ent_drop)) | (focus (first | (with_reducible assumption))))); done)); (focus (simp only [go_sem]))))); clear hs; (try clear w); intro v w hq; (have hs := hq); clear hq; (try simp only [star_assoc, star_emp, emp_star] at hs); (try simp only [Act.put, zg, zh, zi]))
        | ((with_reducible apply pl_loadN hs); (focus (simp only [Act.eval, za, zb, zc, zd, ze, zf]; (try with_reducible rfl); done)); (with_reducible (first | exact agg_30 | exact agg_49)); (focus ((repeat (first | (with_reducible (first | assumption | exact hel _ | exact hel2 _ | exact hel3 _)) | ((with_reducible apply reads_whole); (focus (first | (with_reducible rfl) | (simp only [go_sem]; done) | (simp; done)))) | ((with_reducible apply reads_part); (focus (first | (simp [go_sem]; done) | (simp only [go_sem]; omega) | go_size)); (focus (first | (simp only [Nat.reduceAdd, Nat.zero_add, go_sem]; (try with_reducible rfl); done) | (simp [go_sem]; (try with_reducible rfl); done)))) | (with_reducible (first | (apply reads_left; assumption) | refine reads_exh (by assumption) ?_ | refine reads_exh0 (by assumption) ?_ | apply reads_next)))); done)); (focus rfl); simp only [Act.put, zg, zh, zi])
        | ((with_reducible apply pl_load1 hs); (focus (simp only [Act.eval, za, zb, zc, zd, ze, zf]; (try with_reducible rfl); done)); (focus (simp only [go_sem])); (focus ((repeat (first | (with_reducible (first | assumption | exact hec _ | exact hec2 _ | exact hec3 _ | exact hec4 _ _)) | ((with_reducible apply readc_here); (focus (first | (simp only [zc, zd, ze, go_sem]; (try with_reducible rfl); done) | (go_simp; (try with_reducible rfl); done)))) | (with_reducible (first | (apply readc_left; assumption) | refine readc_exh (by assumption) ?_ | refine readc_exh0 (by assumption) ?_ | apply readc_next)))); done)); (focus rfl); simp only [Act.put, zg, zh, zi])
        | ((with_reducible apply pl_alloc hs); (with_reducible (first | exact zero_30 | exact zero_49)); clear hs; (try clear w); intro g w hs; skip; simp only [Act.put, zg, zh, zi])
        | ((with_reducible apply pl_storeN hs); (focus (simp only [Act.eval, za, zb, zc, zd, ze, zf]; (try with_reducible rfl); done)); (focus (simp only [Act.eval, za, zb, zc, zd, ze, zf]; (try with_reducible rfl); done)); (with_reducible (first | exact agg_30 | exact agg_49)); (focus with_reducible (repeat (first | exact ent_here | apply ent_next | exact ent_last)); done); (focus (first | (with_reducible rfl) | (simp only [go_sem]; done) | (simp; done))); (focus (first | (simp [go_sem]; done) | (simp only [go_sem]; omega) | go_size)); (focus (first | (simp only [go_sem]; done) | (simp [go_sem]; done))); (focus (first | ((with_reducible apply splice_whole); (focus (first | (with_reducible rfl) | (simp only [go_sem]; done) | (simp; done)))) | (simp [splice, go_sem]; done) | (simp only [go_sem]; (try with_reducible rfl); done))); clear hs; (try clear w); intro w hs; (try simp only [zg, zh, zi, clk_set, opv_s0, opv_s1, opv_s2, opv_s3, actv_s0, actv_s1, actv_s2, actv_s3, actv_s4, rnd_s0, rnd_s17, lnk_s0, lnk_s1, lnk_s2, nov_s0, nov_s1, nov_s2, intv_set, bytv_set] at hs); simp only [Act.put, zg, zh, zi]))
      exact ⟨⟨k + 1, by omega, by omega, by go_num, hs.mono (by ((repeat (first | (with_reducible (first | exact ent_refl | exact ent_emp)) | ((with_reducible apply ent_front); (focus with_reducible (repeat (first | exact ent_here | apply ent_next | exact ent_last)); done)) | (with_reducible (first | exact ent_keep | apply ent_trans ent_drop)))); done))⟩, by simp [intOf]; omega⟩
    · go_wp2_with (first
        | ((with_reducible rewrite [pl_strike_eq]); rotate_left 1; (focus rfl))
        | ((with_reducible rewrite [pl_skip_eq]); rotate_left 1; (focus rfl); simp only [Act.put, zg, zh, zi])
        | ((with_reducible apply pl_call hs (wakes_s _ _ a)); (go_must (((focus (simp only [zj, zk, zl, List.append_toArray, List.nil_append, List.cons_append, Act.eval, za, zb, zc, zd, ze, zf]; (try with_reducible rfl); done)); (focus ((repeat (first | (with_reducible (first | exact ent_refl | apply ent_puR)) | ((with_reducible apply ent_front); (focus with_reducible (repeat (first | exact ent_here | apply ent_next | exact ent_last)); done)) | (with_reducible (first | exact ent_keep | apply ent_trans ent_drop)) | (focus (first | (with_reducible assumption))))); done)); (focus (simp only [go_sem]))))); clear hs; (try clear w); intro v w hq; (obtain ⟨rfl, hs⟩ := hq.pu); clear hq; (try simp only [star_assoc, star_emp, emp_star] at hs); (try simp only [Act.put, zg, zh, zi])))
      all_goals (
        (go_ret; simp only [za, zb, zc, zd, ze, zf])
        exact ⟨_, rfl, hs.mono (ent_pu rfl (by ((repeat (first | (with_reducible (first | exact ent_refl | exact ent_emp)) | ((with_reducible apply ent_front); (focus with_reducible (repeat (first | exact ent_here | apply ent_next | exact ent_last)); done)) | (with_reducible (first | exact ent_keep | apply ent_trans ent_drop)))); done)))⟩)
end Go.Proofs.YtegebjflhhbmiaaDoor
