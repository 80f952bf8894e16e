/- The program's eye: numbers up to the last one that is not 0. -/
import Derived.Test.YtegebjflhhbmiaaDoorZQC6BA
import Derived.Test.YtegebjflhhbmiaaDoorZQC6AX
import Derived.Test.YtegebjflhhbmiaaDoorZQC6BB
set_option linter.unusedSimpArgs false
set_option linter.unusedVariables false
namespace Go.Proofs.YtegebjflhhbmiaaDoor
open Go Go.RowKit


def peL (e : PE) : List LinkD := match e.2 with
  | none => []
  | some (c, _) => [⟨wireB, c, e.1⟩]
def peK (e : PE) : Nat := match e.2 with
  | none => 6
  | some (_, k) => k
/-- How a reading was given up. -/
def StopP (a : Nat → Addr) (e : PE) (pv : Value) : HP := ex fun why : Value => pu (pv = .iface 83 (.agg #[.int .i64 (e.1 : Nat), why]) ∧ 1 ≤ peK e ∧ peK e ≤ 13) (fch a (peL e) (peK e) why)
/-- What a part gave up for. -/
def NoX {α : Type} (a : Nat → Addr) (r : Except PE α) (pv : Value) : HP := ex fun e : PE => pu (r = .error e) (StopP a e pv)
theorem nox_pure {α : Type} {a : Nat → Addr} {r : Except PE α} {pv : Value} {F : HP} {c w : World} (hs : Sat c (NoX a r pv * F) w) : ∃ e, r = .error e ∧ Sat c (StopP a e pv * F) w := by
  unfold NoX at hs
  rw [ex_star] at hs
  obtain ⟨e, hs⟩ := hs.ex
  rw [pu_star] at hs
  obtain ⟨he, hs⟩ := hs.pu
  exact ⟨e, he, hs⟩
theorem nox_of {α : Type} {a : Nat → Addr} {r : Except PE α} {e : PE} {pv : Value} {F : HP} (h : r = .error e) : Ent (StopP a e pv * F) (NoX a r pv * F) := by
  unfold NoX
  rw [ex_star]
  refine ent_ex e ?_
  rw [pu_star]
  exact ent_pu h ent_refl
/-- What gives up here gives up there. -/
theorem nox_turn {α β : Type} {a : Nat → Addr} {r : Except PE α} {s : Except PE β} {pv : Value} {F : HP} (h : ∀ e, r = .error e → s = .error e) : Ent (NoX a r pv * F) (NoX a s pv * F) := by
  unfold NoX
  rw [ex_star, ex_star]
  refine ent_ex_l fun e => ?_
  rw [pu_star]
  refine ent_pu_l fun he => ent_ex e ?_
  rw [pu_star]
  exact ent_pu (h e he) ent_refl
theorem nox_form {α : Type} {a : Nat → Addr} {r : Except PE α} {p : Nat} {pv : Value} {F : HP} (h : r = .error (p, none)) (hv : pv = .iface 83 (.agg #[.int .i64 (p : Nat), .iface 162 (.pointer (some (a 6)))])) : Ent F (NoX a r pv * F) := by
  refine ent_trans ?_ (nox_of h)
  unfold StopP
  rw [ex_star]
  refine ent_ex (.iface 162 (.pointer (some (a 6)))) ?_
  rw [pu_star]
  exact ent_pu ⟨hv, (by show 1 ≤ 6; decide), (by show 6 ≤ 13; decide)⟩ fch_one
theorem nox_wire {α : Type} {a : Nat → Addr} {r : Except PE α} {p k : Nat} {cl : ByteArray} {pv why : Value} {F : HP} (h : r = .error (p, some (cl, k))) (h1 : 1 ≤ k ∧ k ≤ 13) (hv : pv = .iface 83 (.agg #[.int .i64 (p : Nat), why])) : Ent (fch a [⟨wireB, cl, (p : Nat)⟩] k why * F) (NoX a r pv * F) := by
  refine ent_trans ?_ (nox_of h)
  unfold StopP
  rw [ex_star]
  refine ent_ex why ?_
  rw [pu_star]
  exact ent_pu ⟨hv, h1.1, h1.2⟩ ent_refl
theorem must_x (c0 : World) (F : HP) (n : Int) (v : Value) : SpecX Tryd.prog c0 74 #[.int .i64 n, v] (pu (v = .nilIface ∨ ∃ t q, v = .iface t (.pointer q)) F) (fun _ => pu (v = .nilIface) F) (fun pv => pu (v ≠ .nilIface ∧ pv = .iface 83 (.agg #[.int .i64 n, v])) F) := by
  intro w hq; obtain ⟨hv, hs⟩ := hq.pu; clear hq
  rcases hv with rfl | ⟨t, q, rfl⟩
  · go_enter Tryd.func74, Tryd.ntmps74
    go_wp2_with fail
    exact bodyPost_end (results_none rfl _ _ _) rfl (.inl ⟨_, rfl, hs.mono (ent_pu (by trivial) ent_refl)⟩)
  · go_enter Tryd.func74, Tryd.ntmps74
    go_wp2_with (first
        | ((with_reducible apply pl_build hs); (focus (simp only [zj, zk, zl, Act.eval, za, zb, zc, zd, ze, zf]; (try with_reducible rfl); done)); (first | (with_reducible exact bld_11 _ _ _)); (focus rfl); simp only [Act.put, zg, zh, zi]))
    exact ⟨rfl, .inr ⟨_, rfl, hs.mono (ent_pu ⟨(fun h => by cases h), rfl⟩ ent_refl)⟩⟩
set_option maxRecDepth 20000 in
set_option maxHeartbeats 1000000 in
theorem enum_x (c0 : World) (F : HP) (a : Nat → Addr) (gi : Nat) (A : Option Addr) (n c : Nat) (raw : List Int) (p least : Nat) (most : Int) : SpecX Tryd.prog c0 69 #[.agg #[.pointer (some ⟨gi, 0, none⟩)], .int .i64 (least : Nat), .int .i64 most]
    (pu (PRd A n c raw a F ∧ (∀ b, b ∈ raw → InB b) ∧ p ≤ raw.length) (rdc gi A n c p .nilIface * F))
    (fun r => ex fun v : Nat => ex fun q : Nat => pu (r = .int .i64 (v : Nat) ∧ pIn least most raw p = .ok (v, q) ∧ q ≤ raw.length ∧ v < 9223372036854775808 ∧ (v : Int) ≤ most) (rdc gi A n c q .nilIface * F)) (fun pv => NoX a (pIn least most raw p) pv * F) := by
  intro w hq; obtain ⟨⟨hpr, hI, hp⟩, hs⟩ := hq.pu; clear hq
  have hIn : (⟨raw, p, none⟩ : RdS).In := ⟨hp, hI⟩
  have hec0 := hpr.er.ad 6 (by omega) (by omega)
  simp only [gl] at hec0
  cases hx : (⟨raw, p, none⟩ : RdS).xNum most with
  | ok y =>
    obtain ⟨x, q⟩ := y
    obtain ⟨_, h1, h2, h3, _⟩ := RdS.xNum_ok hIn hx
    have hP : pIn least most raw p = if x < least then .error (p, none) else .ok (x, q) := by unfold pIn; rw [hx]
    have hnum : ∀ F, Spec Tryd.prog c0 89 #[.pointer (some ⟨gi, 0, none⟩), .int .i64 most] (pu (PRd A n c raw a F) (rdc gi A n c p .nilIface * F)) (fun r => pu (r = .tuple #[.int .i64 (x : Nat), .nilIface]) (rdc gi A n c q .nilIface * F)) := fun F w hs => by
      obtain ⟨hF, hs⟩ := hs.pu
      refine (rnum_s c0 F a gi A n c .nilIface ⟨raw, p, none⟩ most w (hs.mono (ent_pu ⟨hF, hIn⟩ (rdr_okE (s := ⟨raw, p, none⟩) rfl)))).mono fun ex w' ⟨u, hu, h⟩ => ⟨u, hu, ?_⟩
      obtain ⟨e2, h1⟩ := h.ex
      obtain ⟨hv, h2⟩ := h1.pu
      have hn : (⟨raw, p, none⟩ : RdS).num most = (x, ⟨raw, q, none⟩) := by unfold RdS.num RdS.call; rw [hx]; rfl
      rw [hn] at hv h2
      obtain ⟨rfl, h3⟩ := rdr_none rfl h2
      exact h3.mono (ent_pu hv ent_refl)
    by_cases hl : x < least
    · rw [if_pos hl] at hP
      have hl' : (x : Int) < (least : Int) := by omega
      clear hx hIn hI h1 h2 h3
      replace hP := Lib.hid hP
      go_enter Tryd.func69, Tryd.ntmps69
      go_wp2_with (first
        | ((with_reducible apply pl_call hs (at_s _ _ _ _ _ _ _ _)); (go_must (((focus (simp only [zj, zk, zl, List.append_toArray, List.nil_append, List.cons_append, Act.eval, za, zb, zc, zd, ze, zf]; (try with_reducible rfl); done)); (focus ((repeat (first | (with_reducible (first | exact ent_refl | apply ent_puR)) | ((with_reducible apply ent_front); (focus with_reducible (repeat (first | exact ent_here | apply ent_next | exact ent_last)); done)) | (with_reducible (first | exact ent_keep | apply ent_trans ent_drop)) | (fail))); done)); (focus (simp only [go_sem]))))); clear hs; (try clear w); intro v w hq; (obtain ⟨rfl, hs⟩ := hq.pu); clear hq; (try simp only [star_assoc, star_emp, emp_star] at hs); (try simp only [Act.put, zg, zh, zi]))
        | ((with_reducible apply pl_call hs (hnum _)); (go_must (((focus (simp only [zj, zk, zl, List.append_toArray, List.nil_append, List.cons_append, Act.eval, za, zb, zc, zd, ze, zf]; (try with_reducible rfl); done)); (focus ((repeat (first | (with_reducible (first | exact ent_refl | apply ent_puR)) | ((with_reducible apply ent_front); (focus with_reducible (repeat (first | exact ent_here | apply ent_next | exact ent_last)); done)) | (with_reducible (first | exact ent_keep | apply ent_trans ent_drop)) | (focus (first | ((repeat' (first | (focus (with_reducible (repeat (first | assumption | (apply PRd.left; assumption) | refine PRd.exh (by assumption) ?_ | refine PRd.exh0 (by assumption) ?_ | apply PRd.next)); done)))); done))))); done)); (focus (simp only [go_sem]))))); clear hs; (try clear w); intro v w hq; (obtain ⟨rfl, hs⟩ := hq.pu); clear hq; (try simp only [star_assoc, star_emp, emp_star] at hs); (try simp only [Act.put, zg, zh, zi]))
        | (focus ((with_reducible apply pl_callx hs (must_x _ _ _ _)); (go_must (((focus (simp only [zj, zk, zl, List.append_toArray, List.nil_append, List.cons_append, Act.eval, za, zb, zc, zd, ze, zf]; (try with_reducible rfl); done)); (focus ((repeat (first | (with_reducible (first | exact ent_refl | apply ent_puR)) | ((with_reducible apply ent_front); (focus with_reducible (repeat (first | exact ent_here | apply ent_next | exact ent_last)); done)) | (with_reducible (first | exact ent_keep | apply ent_trans ent_drop)) | (focus (first | ((repeat' (first | (simp; done))); done))))); done)); (focus (simp only [go_sem]))))); rotate_left 1; (clear hs; (try clear w); intro pv w hs; (try simp only [star_assoc, star_emp, emp_star] at hs); (try clear hRR hR); (obtain ⟨⟨hv, hpv⟩, hs⟩ := hs.pu; (try exact absurd rfl hv))); rotate_left 1; (clear hs; (try clear w); intro v w hq; ((obtain ⟨hv, hs⟩ := hq.pu; (first | (cases hv; done) | clear hv)) <;> (clear hq; (try simp only [star_assoc, star_emp, emp_star] at hs); (try simp only [Act.put, zg, zh, zi]))))))
        | ((with_reducible apply pl_load1 hs); (focus (simp only [Act.eval, za, zb, zc, zd, ze, zf]; (try with_reducible rfl); done)); (focus (simp only [go_sem])); (focus ((repeat (first | (with_reducible (first | assumption | exact hec _ | exact hec2 _ | exact hec3 _ | exact hec4 _ _)) | ((with_reducible apply readc_here); (focus (first | (simp only [zc, zd, ze, go_sem]; (try with_reducible rfl); done) | (go_simp; (try with_reducible rfl); done)))) | (with_reducible (first | (apply readc_left; assumption) | refine readc_exh (by assumption) ?_ | refine readc_exh0 (by assumption) ?_ | apply readc_next)))); done)); (focus rfl); simp only [Act.put, zg, zh, zi])
        | ((with_reducible apply pl_box hs); (focus (simp only [Act.eval, za, zb, zc, zd, ze, zf]; (try with_reducible rfl); done)); (focus (first | (with_reducible (first | exact cells_intv _ | exact cells_bytv _ | exact cells_agg _ | exact cells_int _ _ | exact cells_bool _ | exact cells_string _ | exact cells_slice _ _ _ | exact cells_pointer _ | exact cells_map _ | exact cells_iface _ _ | exact cells_nilIface | exact cells_func _ _ _)) | (exact cells_one (by assumption)))); clear hs; (try clear w); intro g w hs; skip; simp only [Act.put, zg, zh, zi]))
      exact ⟨rfl, .inr ⟨_, rfl, hs.mono (ent_trans (B := F) (by ((repeat (first | (with_reducible (first | exact ent_refl | exact ent_emp)) | ((with_reducible apply ent_front); (focus with_reducible (repeat (first | exact ent_here | apply ent_next | exact ent_last)); done)) | (with_reducible (first | exact ent_keep | apply ent_trans ent_drop)))); done)) (nox_form hP.out (by first | exact hpv | rfl)))⟩⟩
    · rw [if_neg hl] at hP
      have hl' : ¬ (x : Int) < (least : Int) := by omega
      clear hx hIn hI
      replace hP := Lib.hid hP
      go_enter Tryd.func69, Tryd.ntmps69
      go_wp2_with (first
        | ((with_reducible apply pl_call hs (at_s _ _ _ _ _ _ _ _)); (go_must (((focus (simp only [zj, zk, zl, List.append_toArray, List.nil_append, List.cons_append, Act.eval, za, zb, zc, zd, ze, zf]; (try with_reducible rfl); done)); (focus ((repeat (first | (with_reducible (first | exact ent_refl | apply ent_puR)) | ((with_reducible apply ent_front); (focus with_reducible (repeat (first | exact ent_here | apply ent_next | exact ent_last)); done)) | (with_reducible (first | exact ent_keep | apply ent_trans ent_drop)) | (fail))); done)); (focus (simp only [go_sem]))))); clear hs; (try clear w); intro v w hq; (obtain ⟨rfl, hs⟩ := hq.pu); clear hq; (try simp only [star_assoc, star_emp, emp_star] at hs); (try simp only [Act.put, zg, zh, zi]))
        | ((with_reducible apply pl_call hs (hnum _)); (go_must (((focus (simp only [zj, zk, zl, List.append_toArray, List.nil_append, List.cons_append, Act.eval, za, zb, zc, zd, ze, zf]; (try with_reducible rfl); done)); (focus ((repeat (first | (with_reducible (first | exact ent_refl | apply ent_puR)) | ((with_reducible apply ent_front); (focus with_reducible (repeat (first | exact ent_here | apply ent_next | exact ent_last)); done)) | (with_reducible (first | exact ent_keep | apply ent_trans ent_drop)) | (focus (first | ((repeat' (first | (focus (with_reducible (repeat (first | assumption | (apply PRd.left; assumption) | refine PRd.exh (by assumption) ?_ | refine PRd.exh0 (by assumption) ?_ | apply PRd.next)); done)))); done))))); done)); (focus (simp only [go_sem]))))); clear hs; (try clear w); intro v w hq; (obtain ⟨rfl, hs⟩ := hq.pu); clear hq; (try simp only [star_assoc, star_emp, emp_star] at hs); (try simp only [Act.put, zg, zh, zi]))
        | (focus ((with_reducible apply pl_callx hs (must_x _ _ _ _)); (go_must (((focus (simp only [zj, zk, zl, List.append_toArray, List.nil_append, List.cons_append, Act.eval, za, zb, zc, zd, ze, zf]; (try with_reducible rfl); done)); (focus ((repeat (first | (with_reducible (first | exact ent_refl | apply ent_puR)) | ((with_reducible apply ent_front); (focus with_reducible (repeat (first | exact ent_here | apply ent_next | exact ent_last)); done)) | (with_reducible (first | exact ent_keep | apply ent_trans ent_drop)) | (focus (first | ((repeat' (first | (simp; done))); done))))); done)); (focus (simp only [go_sem]))))); rotate_left 1; (clear hs; (try clear w); intro pv w hs; (try simp only [star_assoc, star_emp, emp_star] at hs); (try clear hRR hR); (obtain ⟨⟨hv, hpv⟩, hs⟩ := hs.pu; (try exact absurd rfl hv))); rotate_left 1; (clear hs; (try clear w); intro v w hq; ((obtain ⟨hv, hs⟩ := hq.pu; (first | (cases hv; done) | clear hv)) <;> (clear hq; (try simp only [star_assoc, star_emp, emp_star] at hs); (try simp only [Act.put, zg, zh, zi]))))))
        | ((with_reducible apply pl_load1 hs); (focus (simp only [Act.eval, za, zb, zc, zd, ze, zf]; (try with_reducible rfl); done)); (focus (simp only [go_sem])); (focus ((repeat (first | (with_reducible (first | assumption | exact hec _ | exact hec2 _ | exact hec3 _ | exact hec4 _ _)) | ((with_reducible apply readc_here); (focus (first | (simp only [zc, zd, ze, go_sem]; (try with_reducible rfl); done) | (go_simp; (try with_reducible rfl); done)))) | (with_reducible (first | (apply readc_left; assumption) | refine readc_exh (by assumption) ?_ | refine readc_exh0 (by assumption) ?_ | apply readc_next)))); done)); (focus rfl); simp only [Act.put, zg, zh, zi])
        | ((with_reducible apply pl_box hs); (focus (simp only [Act.eval, za, zb, zc, zd, ze, zf]; (try with_reducible rfl); done)); (focus (first | (with_reducible (first | exact cells_intv _ | exact cells_bytv _ | exact cells_agg _ | exact cells_int _ _ | exact cells_bool _ | exact cells_string _ | exact cells_slice _ _ _ | exact cells_pointer _ | exact cells_map _ | exact cells_iface _ _ | exact cells_nilIface | exact cells_func _ _ _)) | (exact cells_one (by assumption)))); clear hs; (try clear w); intro g w hs; skip; simp only [Act.put, zg, zh, zi]))
      (go_ret; simp only [za, zb, zc, zd, ze, zf])
      exact .inl ⟨_, rfl, hs.mono (ent_ex x (ent_ex q (ent_pu ⟨rfl, hP.out, h1, h3, h2⟩ (by ((repeat (first | (with_reducible (first | exact ent_refl | exact ent_emp)) | ((with_reducible apply ent_front); (focus with_reducible (repeat (first | exact ent_here | apply ent_next | exact ent_last)); done)) | (with_reducible (first | exact ent_keep | apply ent_trans ent_drop)))); done)))))⟩
  | error k =>
    have hP : pIn least most raw p = .error (p, some (cNumber, k)) := by unfold pIn; rw [hx]
    have hk := RdS.xNum_err hx
    have hnum : ∀ F, Spec Tryd.prog c0 89 #[.pointer (some ⟨gi, 0, none⟩), .int .i64 most] (pu (PRd A n c raw a F) (rdc gi A n c p .nilIface * F)) (fun r => ex fun e2 => pu (r = .tuple #[.int .i64 0, e2] ∧ ∃ t q, e2 = .iface t (.pointer q)) (fch a [⟨wireB, cNumber, p⟩] k e2 * F)) := fun F w hs => by
      obtain ⟨hF, hs⟩ := hs.pu
      refine (rnum_s c0 F a gi A n c .nilIface ⟨raw, p, none⟩ most w (hs.mono (ent_pu ⟨hF, hIn⟩ (rdr_okE (s := ⟨raw, p, none⟩) rfl)))).mono fun ex w' ⟨u, hu, h⟩ => ⟨u, hu, ?_⟩
      obtain ⟨e2, h1⟩ := h.ex
      obtain ⟨hv, h2⟩ := h1.pu
      have hn : (⟨raw, p, none⟩ : RdS).num most = (0, ⟨raw, p, some (cNumber, p, k)⟩) := by unfold RdS.num RdS.call; rw [hx]; rfl
      rw [hn] at hv h2
      have hi := rdr_some rfl h2
      unfold rdr at h2
      rw [star_assoc] at h2
      have h3 := (refP_some (h2.mono ent_drop)).2
      exact h3.mono (ent_ex e2 (ent_pu ⟨hv, hi⟩ ent_refl))
    clear hx hIn hI
    replace hP := Lib.hid hP
    go_enter Tryd.func69, Tryd.ntmps69
    go_wp2_with (first
        | ((with_reducible apply pl_call hs (at_s _ _ _ _ _ _ _ _)); (go_must (((focus (simp only [zj, zk, zl, List.append_toArray, List.nil_append, List.cons_append, Act.eval, za, zb, zc, zd, ze, zf]; (try with_reducible rfl); done)); (focus ((repeat (first | (with_reducible (first | exact ent_refl | apply ent_puR)) | ((with_reducible apply ent_front); (focus with_reducible (repeat (first | exact ent_here | apply ent_next | exact ent_last)); done)) | (with_reducible (first | exact ent_keep | apply ent_trans ent_drop)) | (fail))); done)); (focus (simp only [go_sem]))))); clear hs; (try clear w); intro v w hq; (obtain ⟨rfl, hs⟩ := hq.pu); clear hq; (try simp only [star_assoc, star_emp, emp_star] at hs); (try simp only [Act.put, zg, zh, zi]))
        | ((with_reducible apply pl_call hs (hnum _)); (go_must (((focus (simp only [zj, zk, zl, List.append_toArray, List.nil_append, List.cons_append, Act.eval, za, zb, zc, zd, ze, zf]; (try with_reducible rfl); done)); (focus ((repeat (first | (with_reducible (first | exact ent_refl | apply ent_puR)) | ((with_reducible apply ent_front); (focus with_reducible (repeat (first | exact ent_here | apply ent_next | exact ent_last)); done)) | (with_reducible (first | exact ent_keep | apply ent_trans ent_drop)) | (focus (first | ((repeat' (first | (focus (with_reducible (repeat (first | assumption | (apply PRd.left; assumption) | refine PRd.exh (by assumption) ?_ | refine PRd.exh0 (by assumption) ?_ | apply PRd.next)); done)))); done))))); done)); (focus (simp only [go_sem]))))); clear hs; (try clear w); intro v w hq; (obtain ⟨e2, hq1⟩ := hq.ex; obtain ⟨⟨rfl, te, pe, rfl⟩, hs⟩ := hq1.pu; clear hq1); clear hq; (try simp only [star_assoc, star_emp, emp_star] at hs); (try simp only [Act.put, zg, zh, zi]))
        | (focus ((with_reducible apply pl_callx hs (must_x _ _ _ _)); (go_must (((focus (simp only [zj, zk, zl, List.append_toArray, List.nil_append, List.cons_append, Act.eval, za, zb, zc, zd, ze, zf]; (try with_reducible rfl); done)); (focus ((repeat (first | (with_reducible (first | exact ent_refl | apply ent_puR)) | ((with_reducible apply ent_front); (focus with_reducible (repeat (first | exact ent_here | apply ent_next | exact ent_last)); done)) | (with_reducible (first | exact ent_keep | apply ent_trans ent_drop)) | (focus (first | ((repeat' (first | (simp; done))); done))))); done)); (focus (simp only [go_sem]))))); rotate_left 1; (clear hs; (try clear w); intro pv w hs; (try simp only [star_assoc, star_emp, emp_star] at hs); (try clear hRR hR); (obtain ⟨⟨hv, hpv⟩, hs⟩ := hs.pu; (try exact absurd rfl hv))); rotate_left 1; (clear hs; (try clear w); intro v w hq; ((obtain ⟨hv, hs⟩ := hq.pu; (first | (cases hv; done) | clear hv)) <;> (clear hq; (try simp only [star_assoc, star_emp, emp_star] at hs); (try simp only [Act.put, zg, zh, zi]))))))
        | ((with_reducible apply pl_load1 hs); (focus (simp only [Act.eval, za, zb, zc, zd, ze, zf]; (try with_reducible rfl); done)); (focus (simp only [go_sem])); (focus ((repeat (first | (with_reducible (first | assumption | exact hec _ | exact hec2 _ | exact hec3 _ | exact hec4 _ _)) | ((with_reducible apply readc_here); (focus (first | (simp only [zc, zd, ze, go_sem]; (try with_reducible rfl); done) | (go_simp; (try with_reducible rfl); done)))) | (with_reducible (first | (apply readc_left; assumption) | refine readc_exh (by assumption) ?_ | refine readc_exh0 (by assumption) ?_ | apply readc_next)))); done)); (focus rfl); simp only [Act.put, zg, zh, zi])
        | ((with_reducible apply pl_box hs); (focus (simp only [Act.eval, za, zb, zc, zd, ze, zf]; (try with_reducible rfl); done)); (focus (first | (with_reducible (first | exact cells_intv _ | exact cells_bytv _ | exact cells_agg _ | exact cells_int _ _ | exact cells_bool _ | exact cells_string _ | exact cells_slice _ _ _ | exact cells_pointer _ | exact cells_map _ | exact cells_iface _ _ | exact cells_nilIface | exact cells_func _ _ _)) | (exact cells_one (by assumption)))); clear hs; (try clear w); intro g w hs; skip; simp only [Act.put, zg, zh, zi]))
    exact ⟨rfl, .inr ⟨_, rfl, hs.mono (ent_trans (B := fch a [⟨wireB, cNumber, p⟩] k (.iface te (.pointer pe)) * F) (by ((repeat (first | (with_reducible (first | exact ent_refl | exact ent_emp)) | ((with_reducible apply ent_front); (focus with_reducible (repeat (first | exact ent_here | apply ent_next | exact ent_last)); done)) | (with_reducible (first | exact ent_keep | apply ent_trans ent_drop)))); done)) (nox_wire hP.out hk (by first | exact hpv | rfl)))⟩⟩
set_option maxRecDepth 20000 in
set_option maxHeartbeats 1000000 in
theorem ekind_x (c0 : World) (F : HP) (a : Nat → Addr) (gi : Nat) (A : Option Addr) (n c : Nat) (raw : List Int) (p : Nat) (most : Int) : SpecX Tryd.prog c0 68 #[.agg #[.pointer (some ⟨gi, 0, none⟩)], .int .i64 most]
    (pu (PRd A n c raw a F ∧ (∀ b, b ∈ raw → InB b) ∧ p ≤ raw.length) (rdc gi A n c p .nilIface * F))
    (fun r => ex fun b : Int => ex fun q : Nat => pu (r = .int .i64 b ∧ pKind most raw p = .ok (b, q) ∧ q ≤ raw.length ∧ 1 ≤ b ∧ b ≤ most ∧ b ≤ 255) (rdc gi A n c q .nilIface * F)) (fun pv => NoX a (pKind most raw p) pv * F) := by
  intro w hq; obtain ⟨⟨hpr, hI, hp⟩, hs⟩ := hq.pu; clear hq
  have hIn : (⟨raw, p, none⟩ : RdS).In := ⟨hp, hI⟩
  have hec0 := hpr.er.ad 6 (by omega) (by omega)
  simp only [gl] at hec0
  cases hx : raw[p]? with
  | some x =>
    have hxp := (List.getElem?_eq_some_iff.1 hx).1
    have hxI := hI x (List.mem_of_getElem? hx)
    unfold InB at hxI
    have hP : pKind most raw p = if x < 1 ∨ most < x then .error (p, none) else .ok (x, p + 1) := by unfold pKind RdS.xByte; simp only [hx]
    have hnum : ∀ F, Spec Tryd.prog c0 88 #[.pointer (some ⟨gi, 0, none⟩)] (pu (PRd A n c raw a F) (rdc gi A n c p .nilIface * F)) (fun r => pu (r = .tuple #[.int .u8 x, .nilIface]) (rdc gi A n c ((p + 1 : Nat) : Int) .nilIface * F)) := fun F w hs => by
      obtain ⟨hF, hs⟩ := hs.pu
      refine (rbyte_s c0 F a gi A n c .nilIface ⟨raw, p, none⟩ w (hs.mono (ent_pu ⟨hF, hIn⟩ (rdr_okE (s := ⟨raw, p, none⟩) rfl)))).mono fun ex w' ⟨u, hu, h⟩ => ⟨u, hu, ?_⟩
      obtain ⟨e2, h1⟩ := h.ex
      obtain ⟨hv, h2⟩ := h1.pu
      have hn : (⟨raw, p, none⟩ : RdS).byte = (x, ⟨raw, p + 1, none⟩) := by unfold RdS.byte RdS.call RdS.xByte; simp only [hx]; rfl
      rw [hn] at hv h2
      obtain ⟨rfl, h3⟩ := rdr_none rfl h2
      exact h3.mono (ent_pu hv ent_refl)
    by_cases hl : x < 1 ∨ most < x
    · rw [if_pos hl] at hP
      clear hx hIn hI hxp
      replace hP := Lib.hid hP
      replace hl := Lib.hid hl
      go_enter Tryd.func68, Tryd.ntmps68
      go_wp2_with (first
        | ((with_reducible rewrite [pl_strike_eq]); rotate_left 1; (focus rfl))
        | ((with_reducible apply pl_guard_f); (focus rfl); (focus rfl); all_goals (intro hb; first | (cases hb; done) | ((try simp at hb); first | contradiction | ((have hF : False := (by omega)); (cases hF; done)) | (simp only [Act.put, zg, zh, zi]))))
        | ((with_reducible apply pl_call hs (at_s _ _ _ _ _ _ _ _)); (go_must (((focus (simp only [zj, zk, zl, List.append_toArray, List.nil_append, List.cons_append, Act.eval, za, zb, zc, zd, ze, zf]; (try with_reducible rfl); done)); (focus ((repeat (first | (with_reducible (first | exact ent_refl | apply ent_puR)) | ((with_reducible apply ent_front); (focus with_reducible (repeat (first | exact ent_here | apply ent_next | exact ent_last)); done)) | (with_reducible (first | exact ent_keep | apply ent_trans ent_drop)) | (fail))); done)); (focus (simp only [go_sem]))))); clear hs; (try clear w); intro v w hq; (obtain ⟨rfl, hs⟩ := hq.pu); clear hq; (try simp only [star_assoc, star_emp, emp_star] at hs); (try simp only [Act.put, zg, zh, zi]))
        | ((with_reducible apply pl_call hs (hnum _)); (go_must (((focus (simp only [zj, zk, zl, List.append_toArray, List.nil_append, List.cons_append, Act.eval, za, zb, zc, zd, ze, zf]; (try with_reducible rfl); done)); (focus ((repeat (first | (with_reducible (first | exact ent_refl | apply ent_puR)) | ((with_reducible apply ent_front); (focus with_reducible (repeat (first | exact ent_here | apply ent_next | exact ent_last)); done)) | (with_reducible (first | exact ent_keep | apply ent_trans ent_drop)) | (focus (first | ((repeat' (first | (focus (with_reducible (repeat (first | assumption | (apply PRd.left; assumption) | refine PRd.exh (by assumption) ?_ | refine PRd.exh0 (by assumption) ?_ | apply PRd.next)); done)))); done))))); done)); (focus (simp only [go_sem]))))); clear hs; (try clear w); intro v w hq; (obtain ⟨rfl, hs⟩ := hq.pu); clear hq; (try simp only [star_assoc, star_emp, emp_star] at hs); (try simp only [Act.put, zg, zh, zi]))
        | (focus ((with_reducible apply pl_callx hs (must_x _ _ _ _)); (go_must (((focus (simp only [zj, zk, zl, List.append_toArray, List.nil_append, List.cons_append, Act.eval, za, zb, zc, zd, ze, zf]; (try with_reducible rfl); done)); (focus ((repeat (first | (with_reducible (first | exact ent_refl | apply ent_puR)) | ((with_reducible apply ent_front); (focus with_reducible (repeat (first | exact ent_here | apply ent_next | exact ent_last)); done)) | (with_reducible (first | exact ent_keep | apply ent_trans ent_drop)) | (focus (first | ((repeat' (first | (simp; done))); done))))); done)); (focus (simp only [go_sem]))))); rotate_left 1; (clear hs; (try clear w); intro pv w hs; (try simp only [star_assoc, star_emp, emp_star] at hs); (try clear hRR hR); (obtain ⟨⟨hv, hpv⟩, hs⟩ := hs.pu; (try exact absurd rfl hv))); rotate_left 1; (clear hs; (try clear w); intro v w hq; ((obtain ⟨hv, hs⟩ := hq.pu; (first | (cases hv; done) | clear hv)) <;> (clear hq; (try simp only [star_assoc, star_emp, emp_star] at hs); (try simp only [Act.put, zg, zh, zi]))))))
        | ((with_reducible apply pl_load1 hs); (focus (simp only [Act.eval, za, zb, zc, zd, ze, zf]; (try with_reducible rfl); done)); (focus (simp only [go_sem])); (focus ((repeat (first | (with_reducible (first | assumption | exact hec _ | exact hec2 _ | exact hec3 _ | exact hec4 _ _)) | ((with_reducible apply readc_here); (focus (first | (simp only [zc, zd, ze, go_sem]; (try with_reducible rfl); done) | (go_simp; (try with_reducible rfl); done)))) | (with_reducible (first | (apply readc_left; assumption) | refine readc_exh (by assumption) ?_ | refine readc_exh0 (by assumption) ?_ | apply readc_next)))); done)); (focus rfl); simp only [Act.put, zg, zh, zi])
        | ((with_reducible apply pl_box hs); (focus (simp only [Act.eval, za, zb, zc, zd, ze, zf]; (try with_reducible rfl); done)); (focus (first | (with_reducible (first | exact cells_intv _ | exact cells_bytv _ | exact cells_agg _ | exact cells_int _ _ | exact cells_bool _ | exact cells_string _ | exact cells_slice _ _ _ | exact cells_pointer _ | exact cells_map _ | exact cells_iface _ _ | exact cells_nilIface | exact cells_func _ _ _)) | (exact cells_one (by assumption)))); clear hs; (try clear w); intro g w hs; skip; simp only [Act.put, zg, zh, zi]))
      all_goals first
        | exact ⟨rfl, .inr ⟨_, rfl, hs.mono (ent_trans (B := F) (by ((repeat (first | (with_reducible (first | exact ent_refl | exact ent_emp)) | ((with_reducible apply ent_front); (focus with_reducible (repeat (first | exact ent_here | apply ent_next | exact ent_last)); done)) | (with_reducible (first | exact ent_keep | apply ent_trans ent_drop)))); done)) (nox_form hP.out (by first | exact hpv | rfl)))⟩⟩
        | exact absurd hl.out (by omega)
    · rw [if_neg hl] at hP
      have hl1 : ¬ x < 1 := fun h => hl (.inl h)
      have hl2 : ¬ most < x := fun h => hl (.inr h)
      clear hx hIn hI hl
      replace hP := Lib.hid hP
      go_enter Tryd.func68, Tryd.ntmps68
      go_wp2_with (first
        | ((with_reducible rewrite [pl_strike_eq]); rotate_left 1; (focus rfl))
        | ((with_reducible apply pl_call hs (at_s _ _ _ _ _ _ _ _)); (go_must (((focus (simp only [zj, zk, zl, List.append_toArray, List.nil_append, List.cons_append, Act.eval, za, zb, zc, zd, ze, zf]; (try with_reducible rfl); done)); (focus ((repeat (first | (with_reducible (first | exact ent_refl | apply ent_puR)) | ((with_reducible apply ent_front); (focus with_reducible (repeat (first | exact ent_here | apply ent_next | exact ent_last)); done)) | (with_reducible (first | exact ent_keep | apply ent_trans ent_drop)) | (fail))); done)); (focus (simp only [go_sem]))))); clear hs; (try clear w); intro v w hq; (obtain ⟨rfl, hs⟩ := hq.pu); clear hq; (try simp only [star_assoc, star_emp, emp_star] at hs); (try simp only [Act.put, zg, zh, zi]))
        | ((with_reducible apply pl_call hs (hnum _)); (go_must (((focus (simp only [zj, zk, zl, List.append_toArray, List.nil_append, List.cons_append, Act.eval, za, zb, zc, zd, ze, zf]; (try with_reducible rfl); done)); (focus ((repeat (first | (with_reducible (first | exact ent_refl | apply ent_puR)) | ((with_reducible apply ent_front); (focus with_reducible (repeat (first | exact ent_here | apply ent_next | exact ent_last)); done)) | (with_reducible (first | exact ent_keep | apply ent_trans ent_drop)) | (focus (first | ((repeat' (first | (focus (with_reducible (repeat (first | assumption | (apply PRd.left; assumption) | refine PRd.exh (by assumption) ?_ | refine PRd.exh0 (by assumption) ?_ | apply PRd.next)); done)))); done))))); done)); (focus (simp only [go_sem]))))); clear hs; (try clear w); intro v w hq; (obtain ⟨rfl, hs⟩ := hq.pu); clear hq; (try simp only [star_assoc, star_emp, emp_star] at hs); (try simp only [Act.put, zg, zh, zi]))
        | (focus ((with_reducible apply pl_callx hs (must_x _ _ _ _)); (go_must (((focus (simp only [zj, zk, zl, List.append_toArray, List.nil_append, List.cons_append, Act.eval, za, zb, zc, zd, ze, zf]; (try with_reducible rfl); done)); (focus ((repeat (first | (with_reducible (first | exact ent_refl | apply ent_puR)) | ((with_reducible apply ent_front); (focus with_reducible (repeat (first | exact ent_here | apply ent_next | exact ent_last)); done)) | (with_reducible (first | exact ent_keep | apply ent_trans ent_drop)) | (focus (first | ((repeat' (first | (simp; done))); done))))); done)); (focus (simp only [go_sem]))))); rotate_left 1; (clear hs; (try clear w); intro pv w hs; (try simp only [star_assoc, star_emp, emp_star] at hs); (try clear hRR hR); (obtain ⟨⟨hv, hpv⟩, hs⟩ := hs.pu; (try exact absurd rfl hv))); rotate_left 1; (clear hs; (try clear w); intro v w hq; ((obtain ⟨hv, hs⟩ := hq.pu; (first | (cases hv; done) | clear hv)) <;> (clear hq; (try simp only [star_assoc, star_emp, emp_star] at hs); (try simp only [Act.put, zg, zh, zi]))))))
        | ((with_reducible apply pl_load1 hs); (focus (simp only [Act.eval, za, zb, zc, zd, ze, zf]; (try with_reducible rfl); done)); (focus (simp only [go_sem])); (focus ((repeat (first | (with_reducible (first | assumption | exact hec _ | exact hec2 _ | exact hec3 _ | exact hec4 _ _)) | ((with_reducible apply readc_here); (focus (first | (simp only [zc, zd, ze, go_sem]; (try with_reducible rfl); done) | (go_simp; (try with_reducible rfl); done)))) | (with_reducible (first | (apply readc_left; assumption) | refine readc_exh (by assumption) ?_ | refine readc_exh0 (by assumption) ?_ | apply readc_next)))); done)); (focus rfl); simp only [Act.put, zg, zh, zi])
        | ((with_reducible apply pl_box hs); (focus (simp only [Act.eval, za, zb, zc, zd, ze, zf]; (try with_reducible rfl); done)); (focus (first | (with_reducible (first | exact cells_intv _ | exact cells_bytv _ | exact cells_agg _ | exact cells_int _ _ | exact cells_bool _ | exact cells_string _ | exact cells_slice _ _ _ | exact cells_pointer _ | exact cells_map _ | exact cells_iface _ _ | exact cells_nilIface | exact cells_func _ _ _)) | (exact cells_one (by assumption)))); clear hs; (try clear w); intro g w hs; skip; simp only [Act.put, zg, zh, zi]))
      (go_ret; simp only [za, zb, zc, zd, ze, zf])
      exact .inl ⟨_, rfl, hs.mono (ent_ex x (ent_ex (p + 1) (ent_pu ⟨rfl, hP.out, by omega, by omega, by omega, by omega⟩ (by ((repeat (first | (with_reducible (first | exact ent_refl | exact ent_emp)) | ((with_reducible apply ent_front); (focus with_reducible (repeat (first | exact ent_here | apply ent_next | exact ent_last)); done)) | (with_reducible (first | exact ent_keep | apply ent_trans ent_drop)))); done)))))⟩
  | none =>
    have hP : pKind most raw p = .error (p, some (cByte, 7)) := by unfold pKind RdS.xByte; simp only [hx]
    have hk : 1 ≤ 7 ∧ 7 ≤ 13 := by decide
    have hnum : ∀ F, Spec Tryd.prog c0 88 #[.pointer (some ⟨gi, 0, none⟩)] (pu (PRd A n c raw a F) (rdc gi A n c p .nilIface * F)) (fun r => ex fun e2 => pu (r = .tuple #[.int .u8 0, e2] ∧ ∃ t q, e2 = .iface t (.pointer q)) (fch a [⟨wireB, cByte, p⟩] 7 e2 * F)) := fun F w hs => by
      obtain ⟨hF, hs⟩ := hs.pu
      refine (rbyte_s c0 F a gi A n c .nilIface ⟨raw, p, none⟩ w (hs.mono (ent_pu ⟨hF, hIn⟩ (rdr_okE (s := ⟨raw, p, none⟩) rfl)))).mono fun ex w' ⟨u, hu, h⟩ => ⟨u, hu, ?_⟩
      obtain ⟨e2, h1⟩ := h.ex
      obtain ⟨hv, h2⟩ := h1.pu
      have hn : (⟨raw, p, none⟩ : RdS).byte = (0, ⟨raw, p, some (cByte, p, 7)⟩) := by unfold RdS.byte RdS.call RdS.xByte; simp only [hx]; rfl
      rw [hn] at hv h2
      have hi := rdr_some rfl h2
      unfold rdr at h2
      rw [star_assoc] at h2
      have h3 := (refP_some (h2.mono ent_drop)).2
      exact h3.mono (ent_ex e2 (ent_pu ⟨hv, hi⟩ ent_refl))
    clear hx hIn hI
    replace hP := Lib.hid hP
    go_enter Tryd.func68, Tryd.ntmps68
    go_wp2_with (first
        | ((with_reducible apply pl_call hs (at_s _ _ _ _ _ _ _ _)); (go_must (((focus (simp only [zj, zk, zl, List.append_toArray, List.nil_append, List.cons_append, Act.eval, za, zb, zc, zd, ze, zf]; (try with_reducible rfl); done)); (focus ((repeat (first | (with_reducible (first | exact ent_refl | apply ent_puR)) | ((with_reducible apply ent_front); (focus with_reducible (repeat (first | exact ent_here | apply ent_next | exact ent_last)); done)) | (with_reducible (first | exact ent_keep | apply ent_trans ent_drop)) | (fail))); done)); (focus (simp only [go_sem]))))); clear hs; (try clear w); intro v w hq; (obtain ⟨rfl, hs⟩ := hq.pu); clear hq; (try simp only [star_assoc, star_emp, emp_star] at hs); (try simp only [Act.put, zg, zh, zi]))
        | ((with_reducible apply pl_call hs (hnum _)); (go_must (((focus (simp only [zj, zk, zl, List.append_toArray, List.nil_append, List.cons_append, Act.eval, za, zb, zc, zd, ze, zf]; (try with_reducible rfl); done)); (focus ((repeat (first | (with_reducible (first | exact ent_refl | apply ent_puR)) | ((with_reducible apply ent_front); (focus with_reducible (repeat (first | exact ent_here | apply ent_next | exact ent_last)); done)) | (with_reducible (first | exact ent_keep | apply ent_trans ent_drop)) | (focus (first | ((repeat' (first | (focus (with_reducible (repeat (first | assumption | (apply PRd.left; assumption) | refine PRd.exh (by assumption) ?_ | refine PRd.exh0 (by assumption) ?_ | apply PRd.next)); done)))); done))))); done)); (focus (simp only [go_sem]))))); clear hs; (try clear w); intro v w hq; (obtain ⟨e2, hq1⟩ := hq.ex; obtain ⟨⟨rfl, te, pe, rfl⟩, hs⟩ := hq1.pu; clear hq1); clear hq; (try simp only [star_assoc, star_emp, emp_star] at hs); (try simp only [Act.put, zg, zh, zi]))
        | (focus ((with_reducible apply pl_callx hs (must_x _ _ _ _)); (go_must (((focus (simp only [zj, zk, zl, List.append_toArray, List.nil_append, List.cons_append, Act.eval, za, zb, zc, zd, ze, zf]; (try with_reducible rfl); done)); (focus ((repeat (first | (with_reducible (first | exact ent_refl | apply ent_puR)) | ((with_reducible apply ent_front); (focus with_reducible (repeat (first | exact ent_here | apply ent_next | exact ent_last)); done)) | (with_reducible (first | exact ent_keep | apply ent_trans ent_drop)) | (focus (first | ((repeat' (first | (simp; done))); done))))); done)); (focus (simp only [go_sem]))))); rotate_left 1; (clear hs; (try clear w); intro pv w hs; (try simp only [star_assoc, star_emp, emp_star] at hs); (try clear hRR hR); (obtain ⟨⟨hv, hpv⟩, hs⟩ := hs.pu; (try exact absurd rfl hv))); rotate_left 1; (clear hs; (try clear w); intro v w hq; ((obtain ⟨hv, hs⟩ := hq.pu; (first | (cases hv; done) | clear hv)) <;> (clear hq; (try simp only [star_assoc, star_emp, emp_star] at hs); (try simp only [Act.put, zg, zh, zi]))))))
        | ((with_reducible apply pl_load1 hs); (focus (simp only [Act.eval, za, zb, zc, zd, ze, zf]; (try with_reducible rfl); done)); (focus (simp only [go_sem])); (focus ((repeat (first | (with_reducible (first | assumption | exact hec _ | exact hec2 _ | exact hec3 _ | exact hec4 _ _)) | ((with_reducible apply readc_here); (focus (first | (simp only [zc, zd, ze, go_sem]; (try with_reducible rfl); done) | (go_simp; (try with_reducible rfl); done)))) | (with_reducible (first | (apply readc_left; assumption) | refine readc_exh (by assumption) ?_ | refine readc_exh0 (by assumption) ?_ | apply readc_next)))); done)); (focus rfl); simp only [Act.put, zg, zh, zi])
        | ((with_reducible apply pl_box hs); (focus (simp only [Act.eval, za, zb, zc, zd, ze, zf]; (try with_reducible rfl); done)); (focus (first | (with_reducible (first | exact cells_intv _ | exact cells_bytv _ | exact cells_agg _ | exact cells_int _ _ | exact cells_bool _ | exact cells_string _ | exact cells_slice _ _ _ | exact cells_pointer _ | exact cells_map _ | exact cells_iface _ _ | exact cells_nilIface | exact cells_func _ _ _)) | (exact cells_one (by assumption)))); clear hs; (try clear w); intro g w hs; skip; simp only [Act.put, zg, zh, zi]))
    exact ⟨rfl, .inr ⟨_, rfl, hs.mono (ent_trans (B := fch a [⟨wireB, cByte, p⟩] 7 (.iface te (.pointer pe)) * F) (by ((repeat (first | (with_reducible (first | exact ent_refl | exact ent_emp)) | ((with_reducible apply ent_front); (focus with_reducible (repeat (first | exact ent_here | apply ent_next | exact ent_last)); done)) | (with_reducible (first | exact ent_keep | apply ent_trans ent_drop)))); done)) (nox_wire hP.out hk (by first | exact hpv | rfl)))⟩⟩
theorem ended_s (c0 : World) (F : HP) (i m : Nat) (hm : m < 1000) : Spec Tryd.prog c0 91 #[.int .i64 i, .int .i64 m] F (fun r => pu (r = .int .i64 (endd i m : Nat)) F) := by
  intro w hs
  by_cases h : i + 1 = m
  · have he : endd i m = 1 := if_pos h
    rw [he]
    subst h
    go_enter Tryd.func91, Tryd.ntmps91
    go_wp2_with fail
    (go_ret; simp only [za, zb, zc, zd, ze, zf])
    exact ⟨_, rfl, hs.mono (ent_pu rfl ent_refl)⟩
  · have he : endd i m = 0 := if_neg h
    rw [he]
    have hb : ((i : Int) == (m : Int) - 1) = false := by rw [beq_eq_false_iff_ne]; omega
    go_enter Tryd.func91, Tryd.ntmps91
    go_wp2_with fail
    (go_ret; simp only [za, zb, zc, zd, ze, zf])
    exact ⟨_, rfl, hs.mono (ent_pu rfl ent_refl)⟩
end Go.Proofs.YtegebjflhhbmiaaDoor

set_option linter.unusedSimpArgs false
set_option linter.unusedVariables false
namespace Go.Proofs.YtegebjflhhbmiaaDoor
open Go Go.RowKit

theorem enum0_x (c0 : World) (F : HP) (a : Nat → Addr) (gi : Nat) (A : Option Addr) (n c : Nat) (raw : List Int) (p : Nat) (most : Int) : SpecX Tryd.prog c0 69 #[.agg #[.pointer (some ⟨gi, 0, none⟩)], .int .i64 0, .int .i64 most]
    (pu (PRd A n c raw a F ∧ (∀ b, b ∈ raw → InB b) ∧ p ≤ raw.length) (rdc gi A n c p .nilIface * F))
    (fun r => ex fun v : Nat => ex fun q : Nat => pu (r = .int .i64 (v : Nat) ∧ pIn 0 most raw p = .ok (v, q) ∧ q ≤ raw.length ∧ v < 9223372036854775808 ∧ (v : Int) ≤ most) (rdc gi A n c q .nilIface * F)) (fun pv => NoX a (pIn 0 most raw p) pv * F) := enum_x c0 F a gi A n c raw p 0 most
/-! ### several, one behind another -/
def glue {α : Type} (l : List α) (r : Except PE (List α × Nat)) : Except PE (List α × Nat) := match r with
  | .ok (m, q) => .ok (l ++ m, q)
  | .error e => .error e
theorem glue_nil {α : Type} (r : Except PE (List α × Nat)) : glue [] r = r := by
  unfold glue
  split <;> simp_all
theorem glue_glue {α : Type} (l m : List α) (r : Except PE (List α × Nat)) : glue l (glue m r) = glue (l ++ m) r := by
  unfold glue
  cases r with
  | ok y => simp
  | error e => rfl
theorem rep_ok {α : Type} {x : Nat → Pr α} {n i : Nat} {R : List Int} {p q : Nat} {b : α} (hn : 0 < n) (h : x i R p = .ok (b, q)) : Pr.rep x n i R p = glue [b] (Pr.rep x (n - 1) (i + 1) R q) := by
  obtain ⟨m, rfl⟩ : ∃ m, n = m + 1 := ⟨n - 1, by omega⟩
  rw [Pr.rep, Pr.bind_ok h, Nat.add_sub_cancel]
  unfold Pr.bind glue Pr.ret
  split <;> simp_all
theorem rep_no {α : Type} {x : Nat → Pr α} {n i : Nat} {R : List Int} {p : Nat} {e : PE} (hn : 0 < n) (h : x i R p = .error e) : Pr.rep x n i R p = .error e := by
  obtain ⟨m, rfl⟩ : ∃ m, n = m + 1 := ⟨n - 1, by omega⟩
  rw [Pr.rep, Pr.bind_no h]
theorem rep_zero {α : Type} {x : Nat → Pr α} {i : Nat} {R : List Int} {p : Nat} : Pr.rep x 0 i R p = .ok ([], p) := rfl
theorem clkOf_nil : clkOf [] = clk0 := rfl
theorem clkOf_snoc (l : List Nat) (v : Nat) : setAt (clkOf l) l.length (v : Int) = clkOf (l ++ [v]) := by
  funext j
  unfold setAt clkOf
  rw [za, za]
  by_cases h : j = l.length
  · rw [if_pos h, h]; simp
  · rw [if_neg h]
    by_cases h2 : j < l.length
    · rw [List.getElem?_append_left h2]
    · rw [List.getElem?_eq_none (by omega), List.getElem?_eq_none (by simp; omega)]
theorem pRow_eq {most : Int} {R : List Int} {p q n : Nat} (h : pIn 0 8 R p = .ok (n, q)) : pRow most R p = match Pr.rep (fun i => pIn (endd i n) most) n 0 R q with
  | .ok (l, r) => .ok (clkOf l, r)
  | .error e => .error e := by
  unfold pRow pRowL
  rw [Pr.bind]
  rw [Pr.bind_ok h]
  unfold Pr.bind Pr.ret
  generalize Pr.rep (fun i => pIn (endd i n) most) n 0 R q = z
  cases z with
  | ok y => rfl
  | error e => rfl
theorem pRow_no {most : Int} {R : List Int} {p : Nat} {e : PE} (h : pIn 0 8 R p = .error e) : pRow most R p = .error e := by
  unfold pRow pRowL
  rw [Pr.bind_no (Pr.bind_no h)]
set_option maxRecDepth 20000 in
set_option maxHeartbeats 2000000 in
theorem erow_x (c0 : World) (F : HP) (a : Nat → Addr) (gi : Nat) (A : Option Addr) (n c : Nat) (raw : List Int) (p : Nat) (most : Int) (gt o : Nat) (t : TypeId) (enc : (Nat → Int) → Array Value) (hst : ∀ d j v, j < 8 → (enc d).setIfInBounds (o + j) (.int .i64 v) = enc (setAt d j v)) (hsz : ∀ d, o + 8 ≤ (enc d).size) : SpecX Tryd.prog c0 71 #[.agg #[.pointer (some ⟨gi, 0, none⟩)], .slice (some ⟨gt, o, none⟩) 8 8, .int .i64 most]
    (pu (PRd A n c raw a F ∧ (∀ b, b ∈ raw → InB b) ∧ p ≤ raw.length) (rdc gi A n c p .nilIface * (blk gt (.cells (enc clk0) t (0, 0)) * F)))
    (fun _ => ex fun d : Nat → Int => ex fun q : Nat => pu (pRow most raw p = .ok (d, q) ∧ q ≤ raw.length) (rdc gi A n c q .nilIface * (blk gt (.cells (enc d) t (0, 0)) * F))) (fun pv => NoX a (pRow most raw p) pv * F) := by
  intro w hq; obtain ⟨⟨hpr, hI, hp⟩, hs⟩ := hq.pu; clear hq
  go_enter Tryd.func71, Tryd.ntmps71
  go_wp2_with (first
        | (focus ((with_reducible apply pl_callx hs (enum0_x _ _ a _ A n c raw p 8)); (go_must (((focus (simp only [zj, zk, zl, List.append_toArray, List.nil_append, List.cons_append, Act.eval, za, zb, zc, zd, ze, zf]; (try with_reducible rfl); done)); (focus ((repeat (first | (with_reducible (first | exact ent_refl | apply ent_puR)) | ((with_reducible apply ent_front); (focus with_reducible (repeat (first | exact ent_here | apply ent_next | exact ent_last)); done)) | (with_reducible (first | exact ent_keep | apply ent_trans ent_drop)) | (focus (first | ((repeat' (first | (with_reducible assumption) | (with_reducible apply And.intro) | (focus (with_reducible (repeat (first | assumption | (apply PRd.left; assumption) | refine PRd.exh (by assumption) ?_ | refine PRd.exh0 (by assumption) ?_ | apply PRd.next)); done)))); done))))); done)); (focus (simp only [go_sem]))))); rotate_left 1; (clear hs; (try clear w); intro pv w hs; (try simp only [star_assoc, star_emp, emp_star] at hs); (try clear hRR hR); (skip)); rotate_left 1; (clear hs; (try clear w); intro v w hq; ((obtain ⟨m, hq1⟩ := hq.ex; obtain ⟨q, hq2⟩ := hq1.ex; obtain ⟨⟨rfl, hm, hql, hm1, hm8⟩, hs⟩ := hq2.pu; clear hq1 hq2) <;> (clear hq; (try simp only [star_assoc, star_emp, emp_star] at hs); (try simp only [Act.put, zg, zh, zi]))))))
        | ((with_reducible apply pl_loadN hs); (focus (simp only [Act.eval, za, zb, zc, zd, ze, zf]; (try with_reducible rfl); done)); (with_reducible (first | exact agg_87)); (focus ((repeat (first | (with_reducible (first | assumption | exact hel _ | exact hel2 _ | exact hel3 _)) | ((with_reducible apply reads_whole); (focus (first | (with_reducible rfl) | (simp only [go_sem]; done) | (simp; done)))) | ((with_reducible apply reads_part); (focus (first | (simp [go_sem]; done) | (simp only [go_sem]; omega) | go_size)); (focus (first | (simp only [Nat.reduceAdd, Nat.zero_add, go_sem]; (try with_reducible rfl); done) | (simp [go_sem]; (try with_reducible rfl); done)))) | (with_reducible (first | (apply reads_left; assumption) | refine reads_exh (by assumption) ?_ | refine reads_exh0 (by assumption) ?_ | apply reads_next)))); done)); (focus rfl); simp only [Act.put, zg, zh, zi])
        | ((with_reducible apply pl_box hs); (focus (simp only [Act.eval, za, zb, zc, zd, ze, zf]; (try with_reducible rfl); done)); (focus (first | (with_reducible (first | exact cells_intv _ | exact cells_bytv _ | exact cells_agg _ | exact cells_int _ _ | exact cells_bool _ | exact cells_string _ | exact cells_slice _ _ _ | exact cells_pointer _ | exact cells_map _ | exact cells_iface _ _ | exact cells_nilIface | exact cells_func _ _ _)) | (exact cells_one (by assumption)))); clear hs; (try clear w); intro g w hs; skip; simp only [Act.put, zg, zh, zi]))
  rotate_left 1
  · exact ⟨rfl, .inr ⟨_, rfl, hs.mono (ent_trans (B := NoX a (pIn 0 8 raw p) pv * F) (by ((repeat (first | (with_reducible (first | exact ent_refl | exact ent_emp)) | ((with_reducible apply ent_front); (focus with_reducible (repeat (first | exact ent_here | apply ent_next | exact ent_last)); done)) | (with_reducible (first | exact ent_keep | apply ent_trans ent_drop)))); done)) (nox_turn fun e h => pRow_no h))⟩⟩
  have hPR := pRow_eq (most := most) hm
  replace hPR := Lib.hid hPR
  clear hm hm1
  (obtain ⟨gp, hgg⟩ : ∃ x, x = g := ⟨_, rfl⟩); subst hgg
  go_loopw [7, 11] (fun _ i wr => ∃ (k pk : Nat) (lk : List Nat), lk.length = k ∧ k ≤ m ∧ pk ≤ raw.length ∧ Hid (Pr.rep (fun i => pIn (endd i m) most) m 0 raw q = glue lk (Pr.rep (fun i => pIn (endd i m) most) (m - k) k raw pk)) ∧ i = .int .i64 (k : Nat) ∧ Sat c0 (rdc gi A n c pk .nilIface * (blk gt (.cells (enc (clkOf lk)) t (0, 0)) * (blk gp (.cells #[.pointer (some ⟨gi, 0, none⟩)] 87 (0, 0)) * F))) wr) (fun _ i _ => m - (intOf i).toNat)
  case atStart => exact ⟨0, q, [], rfl, by omega, hql, (glue_nil _).symm, rfl, hs.mono (by rw [clkOf_nil]; ((repeat (first | (with_reducible (first | exact ent_refl | exact ent_emp)) | ((with_reducible apply ent_front); (focus with_reducible (repeat (first | exact ent_here | apply ent_next | exact ent_last)); done)) | (with_reducible (first | exact ent_keep | apply ent_trans ent_drop)))); done))⟩
  case round =>
    clear hs
    obtain ⟨k, pk, lk, hlk, hk, hpk, hrep, rfl, hs⟩ := hrel
    by_cases hlt : k < m
    · have hlt' : (k : Int) < m := by omega
      have hk8 : k < 8 := by omega
      have hset : ∀ v, (enc (clkOf lk)).setIfInBounds (o + k) (.int .i64 v) = enc (setAt (clkOf lk) k v) := fun v => hst _ k v hk8
      have hsz0 := hsz (clkOf lk)
      have hszk : o + k < (enc (clkOf lk)).size := by omega
      go_wp2_with (first
        | ((with_reducible apply wp_region_pq (G := (rdc gi A n c pk .nilIface * (blk gt _))) (id := 5) hs [0, 1, 2, 3, 4, 6] [5, 7, 8, 9]); (focus ((repeat ((with_reducible apply ent_pair); (focus with_reducible (repeat (first | exact ent_here | apply ent_next | exact ent_last)); done))); (focus with_reducible (repeat (first | exact ent_here | apply ent_next | exact ent_last)); done))); (focus kernel_rfl); (focus decide +kernel); (focus (intro c a d v w h; cases d <;> exact h)); clear hs; (try clear w); intro hR w hRR hs; (try simp only [star_assoc] at hs); simp only [List.filterMap_cons, List.filterMap_nil, zd, ze, List.length_cons, List.length_nil, Nat.reduceAdd])
        | ((with_reducible apply mq_call hs (ended_s _ _ k m (by omega))); (go_must (((focus (simp only [zj, zk, zl, List.append_toArray, List.nil_append, List.cons_append, Act.eval, za, zb, zc, zd, ze, zf]; (try with_reducible rfl); done)); (focus ((repeat (first | (with_reducible (first | exact ent_refl | apply ent_puR)) | ((with_reducible apply ent_front); (focus with_reducible (repeat (first | exact ent_here | apply ent_next | exact ent_last)); done)) | (with_reducible (first | exact ent_keep | apply ent_trans ent_drop)) | (fail))); done)); (focus (simp only [go_sem])); (focus (intros; with_reducible (refine in_of_sat (by assumption) ?_; repeat (first | exact ent_exh_here | exact ent_last | refine ent_pu_l (fun _ => ?_) | refine ent_ex_l (fun _ => ?_) | apply ent_exh_next)); done))))); clear hs; (try clear w); intro v w hq; (obtain ⟨rfl, hs⟩ := hq.pu); clear hq; (try simp only [star_assoc, star_emp, emp_star] at hs); (try simp only [Act.put, zg, zh, zi]))
        | (focus ((with_reducible apply mq_callx hRR hs (enum_x _ _ a _ A n c raw pk (endd k m) most)); (go_must (((focus (simp only [zj, zk, zl, List.append_toArray, List.nil_append, List.cons_append, Act.eval, za, zb, zc, zd, ze, zf]; (try with_reducible rfl); done)); (focus ((repeat (first | (with_reducible (first | exact ent_refl | apply ent_puR)) | ((with_reducible apply ent_front); (focus with_reducible (repeat (first | exact ent_here | apply ent_next | exact ent_last)); done)) | (with_reducible (first | exact ent_keep | apply ent_trans ent_drop)) | (focus (first | ((repeat' (first | (with_reducible assumption) | (with_reducible apply And.intro) | (focus (with_reducible (repeat (first | assumption | (apply PRd.left; assumption) | refine PRd.exh (by assumption) ?_ | refine PRd.exh0 (by assumption) ?_ | apply PRd.next)); done)))); done))))); done)); (focus (simp only [go_sem])); (focus (intros; with_reducible (refine in_of_sat (by assumption) ?_; repeat (first | exact ent_exh_here | exact ent_last | refine ent_pu_l (fun _ => ?_) | refine ent_ex_l (fun _ => ?_) | apply ent_exh_next)); done)); (focus (intro pv; (focus with_reducible (repeat (first | exact ent_here | apply ent_next | exact ent_last)); done)))))); rotate_left 1; (clear hs; (try clear w); intro pv w hs; (try simp only [star_assoc, star_emp, emp_star] at hs); (try clear hRR hR); (skip)); rotate_left 1; (clear hs; (try clear w); intro v w hq; ((obtain ⟨v, hq1⟩ := hq.ex; obtain ⟨q2, hq2⟩ := hq1.ex; obtain ⟨⟨rfl, hv, hvl, hv1, hv8⟩, hs⟩ := hq2.pu; clear hq1 hq2) <;> (clear hq; (try simp only [star_assoc, star_emp, emp_star] at hs); (try simp only [Act.put, zg, zh, zi]))))))
        | (with_reducible refine mix_nilq ?_)
        | ((with_reducible refine mq_pure ?_ ?_ ?_ ?_ ?_); rotate_left 1; (focus rfl); (focus (go_simp; (try (rw [if_pos (by omega)]; (try go_simp))); (try with_reducible rfl); done)); (focus (intros; with_reducible (refine in_of_sat (by assumption) ?_; repeat (first | exact ent_exh_here | exact ent_last | refine ent_pu_l (fun _ => ?_) | refine ent_ex_l (fun _ => ?_) | apply ent_exh_next)); done)); simp only [Act.put, zg, zh, zi])
        | ((with_reducible apply mq_end hRR hs); (focus with_reducible (repeat (first | exact ent_here | apply ent_next | exact ent_last)); done); clear hs; (try clear w); intro w hs; (try simp only [star_assoc, star_emp, emp_star] at hs); clear hRR hR)
        | ((with_reducible apply mq_store1 hs); (focus (simp only [Act.eval, za, zb, zc, zd, ze, zf]; (try with_reducible rfl); done)); (focus (simp only [Act.eval, za, zb, zc, zd, ze, zf]; (try with_reducible rfl); done)); (focus (simp only [go_sem])); (focus with_reducible (repeat (first | exact ent_here | apply ent_next | exact ent_last)); done); (focus (first | (simp [go_sem]; done) | (simp only [go_sem]; omega) | go_size)); (focus (first | (simp only [go_sem]; done) | (simp [go_sem]; done))); (focus (intros; with_reducible (refine in_of_sat (by assumption) ?_; repeat (first | exact ent_exh_here | exact ent_last | refine ent_pu_l (fun _ => ?_) | refine ent_ex_l (fun _ => ?_) | apply ent_exh_next)); done)); clear hs; (try clear w); intro w hs; (try simp only [zg, zh, zi, clk_set, opv_s0, opv_s1, opv_s2, opv_s3, actv_s0, actv_s1, actv_s2, actv_s3, actv_s4, rnd_s0, rnd_s17, lnk_s0, lnk_s1, lnk_s2, nov_s0, nov_s1, nov_s2, intv_set, bytv_set] at hs); (try rw [hset] at hs); (try simp only [Act.put, zg, zh, zi]))
        | ((with_reducible apply mx_loadN hRR); (focus (simp only [Act.eval, za, zb, zc, zd, ze, zf]; (try with_reducible rfl); done)); (with_reducible (first | exact agg_87)); (focus ((repeat (first | (with_reducible (first | assumption | exact hel _ | exact hel2 _ | exact hel3 _)) | ((with_reducible apply reads_whole); (focus (first | (with_reducible rfl) | (simp only [go_sem]; done) | (simp; done)))) | ((with_reducible apply reads_part); (focus (first | (simp [go_sem]; done) | (simp only [go_sem]; omega) | go_size)); (focus (first | (simp only [Nat.reduceAdd, Nat.zero_add, go_sem]; (try with_reducible rfl); done) | (simp [go_sem]; (try with_reducible rfl); done)))) | (with_reducible (first | (apply reads_left; assumption) | refine reads_exh (by assumption) ?_ | refine reads_exh0 (by assumption) ?_ | apply reads_next)))); done)); simp only [Act.put, zg, zh, zi])
        | ((with_reducible refine mix_float ?_ ?_ ?_ (fun h hk => ?_) ?_); rotate_left 1; (focus rfl); (focus rfl); (focus (go_simp; (try (rw [if_pos (by omega)]; (try go_simp))); (try simp (disch := omega) only [IntWalk.i64_in, IntWalk.i32_in]); (try with_reducible rfl); done)); simp only [Act.put, zg, zh, zi]))
      · exact ⟨⟨k + 1, q2, lk ++ [v], by simp [hlk], by omega, hvl, (by
          have h1 := hrep.out
          rw [rep_ok (x := fun i => pIn (endd i m) most) (n := m - k) (i := k) (by omega) hv, glue_glue, Nat.sub_sub] at h1
          exact h1), by go_num, hs.mono (by rw [← clkOf_snoc, hlk]; ((repeat (first | (with_reducible (first | exact ent_refl | exact ent_emp)) | ((with_reducible apply ent_front); (focus with_reducible (repeat (first | exact ent_here | apply ent_next | exact ent_last)); done)) | (with_reducible (first | exact ent_keep | apply ent_trans ent_drop)))); done))⟩, by simp [intOf]; omega⟩
      · exact ⟨rfl, .inr ⟨_, rfl, hs.mono (ent_trans (B := NoX a (pIn (endd k m) most raw pk) pv * F) (by ((repeat (first | (with_reducible (first | exact ent_refl | exact ent_emp)) | ((with_reducible apply ent_front); (focus with_reducible (repeat (first | exact ent_here | apply ent_next | exact ent_last)); done)) | (with_reducible (first | exact ent_keep | apply ent_trans ent_drop)))); done)) (nox_turn fun e h => by rw [hPR.out, hrep.out, rep_no (x := fun i => pIn (endd i m) most) (n := m - k) (i := k) (by omega) h]; rfl))⟩⟩
    · have hlt' : ¬ (k : Int) < m := by omega
      have hfin : pRow most raw p = .ok (clkOf lk, pk) := by
        rw [hPR.out, hrep.out, show m - k = 0 by omega, rep_zero]
        simp [glue]
      replace hfin := Lib.hid hfin
      go_wp2_with fail
      exact bodyPost_end (results_none rfl _ _ _) rfl (.inl ⟨⟨_, rfl⟩, hs.mono (ent_ex (clkOf lk) (ent_ex pk (ent_pu ⟨hfin.out, hpk⟩ (by ((repeat (first | (with_reducible (first | exact ent_refl | exact ent_emp)) | ((with_reducible apply ent_front); (focus with_reducible (repeat (first | exact ent_here | apply ent_next | exact ent_last)); done)) | (with_reducible (first | exact ent_keep | apply ent_trans ent_drop)))); done)))))⟩)
end Go.Proofs.YtegebjflhhbmiaaDoor
