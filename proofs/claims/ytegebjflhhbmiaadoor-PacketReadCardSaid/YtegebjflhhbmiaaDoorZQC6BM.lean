/- The program's Read. -/
import Derived.Test.YtegebjflhhbmiaaDoorZQC6BE
import Derived.Test.YtegebjflhhbmiaaDoorZQC6BL
import Derived.Test.YtegebjflhhbmiaaDoorZQC6AX
set_option linter.unusedSimpArgs false
set_option linter.unusedVariables false
namespace Go.Proofs.YtegebjflhhbmiaaDoor
open Go Go.RowKit

def pM2F (k : Int) : Pr MsgP := (pIn 0 7).bind fun f => (pIn 0 mst).bind fun e => if k = 1 then pActs.bind fun l => Pr.ret ⟨k, f, e, clk0, l, noRds⟩ else if k = 2 then (pRow mst).bind fun c => Pr.ret ⟨k, f, e, c, [], noRds⟩ else if k = 3 then pActs.bind fun l => pRounds.bind fun g => Pr.ret ⟨k, f, e, clk0, l, g⟩ else pRounds.bind fun g => Pr.ret ⟨k, f, e, clk0, [], g⟩
theorem pMsg_flat : pMsg = (pKind 4).bind pM2F := by
  unfold pMsg
  congr 1
  funext k
  rw [pr_id]
  unfold pM2 pM3 pM2F
  simp only [pr_assoc]
  congr 1
  funext f
  congr 1
  funext e
  unfold pBody pAR
  split
  · simp only [pr_assoc, pr_ret]
  · split
    · simp only [pr_assoc, pr_ret]
    · split
      · simp only [pr_assoc, pr_ret]
      · simp only [pr_assoc, pr_ret]
/-- How a whole reading ends. -/
def fin (raw : List Int) (r : Except PE (MsgP × Nat)) : Except PE MsgP := match r with
  | .ok (m, q) => if q < raw.length then .error (q, some (cEnd, 6)) else .ok m
  | .error e => .error e
theorem rdMsg_cont (raw : List Int) : Cont (rdMsg raw) (fin raw) ((pKind 4).bind pM2F) raw 0 := by
  unfold Cont rdMsg fin
  rw [pMsg_flat]
  generalize ((pKind 4).bind pM2F) raw 0 = z
  cases z with
  | ok y => rfl
  | error e => rfl
theorem fin_no (raw : List Int) (e : PE) : fin raw (.error e) = .error e := rfl
theorem erowM_x (c0 : World) (F : HP) (a : Nat → Addr) (gi : Nat) (A : Option Addr) (n c : Nat) (raw : List Int) (p : Nat) (most : Int) (gt : Nat) (t : TypeId) (kd fr ep : Int) (P : Option Addr) (N C : Nat) (R : Nat → RoundD) : SpecX Tryd.prog c0 71 #[.agg #[.pointer (some ⟨gi, 0, none⟩)], .slice (some ⟨gt, 3, none⟩) 8 8, .int .i64 most]
    (pu (PRd A n c raw a F ∧ (∀ b, b ∈ raw → InB b) ∧ p ≤ raw.length) (rdc gi A n c p .nilIface * (blk gt (.cells (msg ⟨kd, fr, ep, msg0.c, P, N, C, R⟩) t (0, 0)) * F)))
    (fun _ => ex fun d : Nat → Int => ex fun q : Nat => pu (pRow most raw p = .ok (d, q) ∧ q ≤ raw.length) (rdc gi A n c q .nilIface * (blk gt (.cells (msg ⟨kd, fr, ep, d, P, N, C, R⟩) t (0, 0)) * F))) (fun pv => NoX a (pRow most raw p) pv * F) := by
  have h1 : ∀ (d : Nat → Int) (j : Nat) (v : Int), j < 8 → (msg ⟨kd, fr, ep, d, P, N, C, R⟩).setIfInBounds (3 + j) (.int .i64 v) = msg ⟨kd, fr, ep, setAt d j v, P, N, C, R⟩ := fun d j v hj => msg_sc ⟨kd, fr, ep, d, P, N, C, R⟩ hj v
  have h2 : ∀ d : Nat → Int, 3 + 8 ≤ (msg ⟨kd, fr, ep, d, P, N, C, R⟩).size := fun d => by rw [msg_size]; omega
  exact erow_x c0 F a gi A n c raw p most gt 3 t (fun d => msg ⟨kd, fr, ep, d, P, N, C, R⟩) h1 h2
/-- How the end is met. -/
def EndP (a : Nat → Addr) (raw : List Int) (q : Nat) (r : Value) : HP := if q < raw.length then fch a [⟨wireB, cEnd, (q : Nat)⟩] 6 r else pu (r = .nilIface) emp
theorem eend_s (c0 : World) (F : HP) (a : Nat → Addr) (gi : Nat) (A : Option Addr) (n c : Nat) (raw : List Int) (q : Nat) : Spec Tryd.prog c0 75 #[.pointer (some ⟨gi, 0, none⟩)] (pu (PRd A n c raw a F ∧ (∀ b, b ∈ raw → InB b) ∧ q ≤ raw.length) (rdc gi A n c q .nilIface * F)) (fun r => pu (r = .nilIface ∨ ∃ t p, r = .iface t (.pointer p)) (EndP a raw q r * F)) := fun w hs => by
  obtain ⟨⟨hF, hI, hq⟩, hs⟩ := hs.pu
  refine (rend_s c0 F a gi A n c .nilIface ⟨raw, q, none⟩ w (hs.mono (ent_pu ⟨hF, hq, hI⟩ (rdr_okE (s := ⟨raw, q, none⟩) rfl)))).mono fun ex w' ⟨u, hu, h⟩ => ⟨u, hu, ?_⟩
  obtain ⟨e2, h1⟩ := h.ex
  obtain ⟨rfl, h⟩ := h1.pu
  clear h1
  show Sat c0 (pu _ ((if q < raw.length then fch a [⟨wireB, cEnd, (q : Nat)⟩] 6 u else pu (u = .nilIface) emp) * F)) w'
  by_cases hlt : q < raw.length
  · have hn : ((⟨raw, q, none⟩ : RdS).fin).2 = ⟨raw, q, some (cEnd, q, 6)⟩ := by unfold RdS.fin RdS.call RdS.xEnd; simp [hlt, RdS.fail]
    rw [hn] at h
    have hi := rdr_some rfl h
    rw [if_pos hlt]
    unfold rdr at h
    rw [star_assoc] at h
    exact (refP_some (h.mono ent_drop)).2.mono (ent_pu (.inr hi) ent_refl)
  · have hn : ((⟨raw, q, none⟩ : RdS).fin).2 = ⟨raw, q, none⟩ := by unfold RdS.fin RdS.call RdS.xEnd; simp [hlt, RdS.to]
    rw [hn] at h
    obtain ⟨rfl, h3⟩ := rdr_none rfl h
    rw [if_neg hlt, pu_star, emp_star]
    exact h3.mono (ent_pu (.inl rfl) (ent_pu rfl ent_drop))
theorem endP_nil {a : Nat → Addr} {raw : List Int} {q : Nat} {F : HP} {c w : World} (hs : Sat c (EndP a raw q .nilIface * F) w) : ¬ q < raw.length ∧ Sat c F w := by
  unfold EndP at hs
  split at hs
  · obtain ⟨t, p, h⟩ := fch_iface hs
    cases h
  · rename_i h
    rw [pu_star, emp_star] at hs
    exact ⟨h, hs.pu.2⟩
theorem endP_no {a : Nat → Addr} {raw : List Int} {q : Nat} {r : Value} {F : HP} {c w : World} (hr : r ≠ .nilIface) (hs : Sat c (EndP a raw q r * F) w) : q < raw.length ∧ Sat c (fch a [⟨wireB, cEnd, (q : Nat)⟩] 6 r * F) w := by
  unfold EndP at hs
  split at hs
  · exact ⟨by assumption, hs⟩
  · rw [pu_star] at hs
    exact absurd hs.pu.1 hr
theorem fin_ok {raw : List Int} {m : MsgP} {q : Nat} (h : Cont (rdMsg raw) (fin raw) (Pr.ret m) raw q) (hq : ¬ q < raw.length) : rdMsg raw = .ok m := by
  unfold Cont at h
  rw [h]
  unfold fin Pr.ret
  exact if_neg hq
theorem fin_end {raw : List Int} {m : MsgP} {q : Nat} (h : Cont (rdMsg raw) (fin raw) (Pr.ret m) raw q) (hq : q < raw.length) : rdMsg raw = .error (q, some (cEnd, 6)) := by
  unfold Cont at h
  rw [h]
  unfold fin Pr.ret
  exact if_pos hq
theorem Cont.bod {k : Int} {R : Except PE MsgP} {g : Except PE (MsgP × Nat) → Except PE MsgP} {u v w x : Pr MsgP} {raw : List Int} {p : Nat} (h : Cont R g (if k = 1 then u else if k = 2 then v else if k = 3 then w else x) raw p) : ((k == 1) = true → Cont R g u raw p) ∧ ((k == 1) = false → (k == 2) = true → Cont R g v raw p) ∧ ((k == 1) = false → (k == 2) = false → (k == 3) = true → Cont R g w raw p) ∧ ((k == 1) = false → (k == 2) = false → (k == 3) = false → Cont R g x raw p) := by
  simp only [beq_iff_eq, beq_eq_false_iff_ne]
  refine ⟨fun h1 => ?_, fun h1 h2 => ?_, fun h1 h2 h3 => ?_, fun h1 h2 h3 => ?_⟩ <;> simpa [*] using h
theorem msg_ret {c0 w : World} {F : HP} {a : Nat → Addr} {raw : List Int} {q g : Nat} {d : MsgD} {l : List ActD} {H R : HP} {t : Act} (hs : Sat c0 H w) (hA : Cont (rdMsg raw) (fin raw) (Pr.ret (mpOf d l)) raw q) (he : Ent H (EndP a raw q .nilIface * (blk g (.cells (msg d) 30 (0, 0)) * R))) (hR : Ent R (row 78 13 actv d.s l * F)) (hp : t.tmps.getD 2 undef = .pointer (some ⟨g, 0, none⟩)) (hd : t.defers = []) :
    bodyPost Tryd.prog Tryd.f42 (fun e w' => (∃ v, e = .returned v ∧ Sat c0 (ex fun d : MsgD => ex fun l : List ActD => pu (v = .agg (msg d) ∧ rdMsg raw = .ok (mpOf d l)) (row 78 13 actv d.s l * F)) w') ∨ ∃ pv, e = .panicked [{ v := pv, recovered := false }] ∧ Sat c0 (NoX a (rdMsg raw) pv * F) w') .ret t w := by
  obtain ⟨h5, h6⟩ := endP_nil (hs.mono he)
  have h7 := fin_ok hA h5
  exact ret_cell (n := 156) rfl Tryd.underlying30 rfl (by kernel_rfl) g hp _ ((reads_whole (msg_size d) : Reads _ _ 0 156 (msg d)) w h6.own) hd (.inl ⟨_, rfl, h6.mono (ent_ex d (ent_ex l (ent_pu ⟨rfl, h7⟩ (ent_trans ent_drop hR))))⟩)
set_option maxRecDepth 20000 in
set_option maxHeartbeats 4000000 in
theorem emessage_x (c0 : World) (F : HP) (a : Nat → Addr) (gi : Nat) (A : Option Addr) (n c : Nat) (raw : List Int) : SpecX Tryd.prog c0 42 #[.agg #[.pointer (some ⟨gi, 0, none⟩)]]
    (pu (PRd A n c raw a F ∧ (∀ b, b ∈ raw → InB b) ∧ raw.length ≤ 140737488355328) (rdc gi A n c 0 .nilIface * F))
    (fun r => ex fun d : MsgD => ex fun l : List ActD => pu (r = .agg (msg d) ∧ rdMsg raw = .ok (mpOf d l)) (row 78 13 actv d.s l * F)) (fun pv => NoX a (rdMsg raw) pv * F) := by
  intro w hq; obtain ⟨⟨hpr, hI, hlen⟩, hs⟩ := hq.pu; clear hq
  have hp : 0 ≤ raw.length := by omega
  have hA := rdMsg_cont raw
  have hknd : ∀ F, SpecX Tryd.prog c0 68 #[.agg #[.pointer (some ⟨gi, 0, none⟩)], .int .i64 4] (pu (PRd A n c raw a F) (rdc gi A n c 0 .nilIface * F)) (fun r => ex fun b : Int => ex fun q : Nat => pu (r = .int .i64 b ∧ pKind 4 raw 0 = .ok (b, q) ∧ q ≤ raw.length ∧ 1 ≤ b ∧ b ≤ 4 ∧ b ≤ 255) (rdc gi A n c q .nilIface * F)) (fun pv => NoX a (pKind 4 raw 0) pv * F) := fun F w hq => by
    obtain ⟨h1, hs⟩ := hq.pu
    exact ekind_x c0 F a gi A n c raw 0 4 w (hs.mono (ent_pu ⟨h1, hI, hp⟩ ent_refl))
  have hset : ∀ (d : MsgD) (v : Int), (msg d).setIfInBounds 0 (.int .i64 v) = msg ⟨v, d.frm, d.ep, d.c, d.p, d.n, d.cap, d.r⟩ := msg_s0
  have hset2 : ∀ (d : MsgD) (v : Int), (msg d).setIfInBounds 1 (.int .i64 v) = msg ⟨d.kind, v, d.ep, d.c, d.p, d.n, d.cap, d.r⟩ := msg_s1
  have hset3 : ∀ (d : MsgD) (v : Int), (msg d).setIfInBounds 2 (.int .i64 v) = msg ⟨d.kind, d.frm, v, d.c, d.p, d.n, d.cap, d.r⟩ := msg_s2
  have hset4 : ∀ (d : MsgD) (p : Option Addr) (n c : Nat), (msg d).setIfInBounds 11 (.slice p n c) = msg ⟨d.kind, d.frm, d.ep, d.c, p, n, c, d.r⟩ := msg_s11
  go_enter Tryd.func42, Tryd.ntmps42
  go_wp2_with (first
        | ((with_reducible apply wp_region_pq (G := (rdc _ A n c _ .nilIface * (blk _ (.cells (msg _) _ _)))) (id := 10) hs [0, 1, 2] [3]); (focus ((repeat ((with_reducible apply ent_pair); (focus with_reducible (repeat (first | exact ent_here | apply ent_next | exact ent_last)); done))); (focus with_reducible (repeat (first | exact ent_here | apply ent_next | exact ent_last)); done))); (focus kernel_rfl); (focus decide +kernel); (focus (intro c a d v w h; cases d <;> exact h)); clear hs; (try clear w); intro hR w hRR hs; (try simp only [star_assoc] at hs); simp only [List.filterMap_cons, List.filterMap_nil, zd, ze, List.length_cons, List.length_nil, Nat.reduceAdd])
        | (focus ((with_reducible apply pl_callx hs (hknd _)); (go_must (((focus (simp only [zj, zk, zl, List.append_toArray, List.nil_append, List.cons_append, Act.eval, za, zb, zc, zd, ze, zf]; (try with_reducible rfl); done)); (focus ((repeat (first | (with_reducible (first | exact ent_refl | apply ent_puR)) | ((with_reducible apply ent_front); (focus with_reducible (repeat (first | exact ent_here | apply ent_next | exact ent_last)); done)) | (with_reducible (first | exact ent_keep | apply ent_trans ent_drop)) | (focus (first | ((repeat' (first | (focus (with_reducible (repeat (first | assumption | (apply PRd.left; assumption) | refine PRd.exh (by assumption) ?_ | refine PRd.exh0 (by assumption) ?_ | apply PRd.next)); done)))); done))))); done)); (focus (simp only [go_sem]))))); rotate_left 1; (clear hs; (try clear w); intro pv w hs; (try simp only [star_assoc, star_emp, emp_star] at hs); (try clear hRR hR); (skip)); rotate_left 1; (clear hs; (try clear w); intro v w hq; ((obtain ⟨k, hq1⟩ := hq.ex; obtain ⟨q1, hq2⟩ := hq1.ex; obtain ⟨⟨rfl, hv, hvl, hv1, hv2, hv3⟩, hs⟩ := hq2.pu; clear hq1 hq2; replace hA := hA.ok hv; clear hv) <;> (clear hq; (try simp only [star_assoc, star_emp, emp_star] at hs); (try simp only [Act.put, zg, zh, zi]))))))
        | (focus ((with_reducible apply pl_callx hs (enumI_x _ _ a _ A n c raw _ _ _)); (go_must (((focus (simp only [zj, zk, zl, List.append_toArray, List.nil_append, List.cons_append, Act.eval, za, zb, zc, zd, ze, zf]; (try with_reducible rfl); done)); (focus ((repeat (first | (with_reducible (first | exact ent_refl | apply ent_puR)) | ((with_reducible apply ent_front); (focus with_reducible (repeat (first | exact ent_here | apply ent_next | exact ent_last)); done)) | (with_reducible (first | exact ent_keep | apply ent_trans ent_drop)) | (focus (first | ((repeat' (first | (with_reducible assumption) | (with_reducible apply And.intro) | omega | (focus (with_reducible (repeat (first | assumption | (apply PRd.left; assumption) | refine PRd.exh (by assumption) ?_ | refine PRd.exh0 (by assumption) ?_ | apply PRd.next)); done)))); done))))); done)); (focus (simp only [go_sem]))))); rotate_left 1; (clear hs; (try clear w); intro pv w hs; (try simp only [star_assoc, star_emp, emp_star] at hs); (try clear hRR hR); (skip)); rotate_left 1; (clear hs; (try clear w); intro v w hq; ((obtain ⟨v, hq1⟩ := hq.ex; obtain ⟨q1, hq2⟩ := hq1.ex; obtain ⟨⟨rfl, hv, hvl, hv1, hv2⟩, hs⟩ := hq2.pu; clear hq1 hq2; replace hA := hA.ok hv; clear hv) <;> (clear hq; (try simp only [star_assoc, star_emp, emp_star] at hs); (try simp only [Act.put, zg, zh, zi]))))))
        | (focus ((with_reducible apply pl_callx hs (eacts_x _ _ a _ A n c raw _)); (go_must (((focus (simp only [zj, zk, zl, List.append_toArray, List.nil_append, List.cons_append, Act.eval, za, zb, zc, zd, ze, zf]; (try with_reducible rfl); done)); (focus ((repeat (first | (with_reducible (first | exact ent_refl | apply ent_puR)) | ((with_reducible apply ent_front); (focus with_reducible (repeat (first | exact ent_here | apply ent_next | exact ent_last)); done)) | (with_reducible (first | exact ent_keep | apply ent_trans ent_drop)) | (focus (first | ((repeat' (first | (with_reducible assumption) | (with_reducible apply And.intro) | (focus (with_reducible (repeat (first | assumption | (apply PRd.left; assumption) | refine PRd.exh (by assumption) ?_ | refine PRd.exh0 (by assumption) ?_ | apply PRd.next)); done)))); done))))); done)); (focus (simp only [go_sem]))))); rotate_left 1; (clear hs; (try clear w); intro pv w hs; (try simp only [star_assoc, star_emp, emp_star] at hs); (try clear hRR hR); (skip)); rotate_left 1; (clear hs; (try clear w); intro v w hq; ((obtain ⟨l, hq1⟩ := hq.ex; obtain ⟨q1, hq2⟩ := hq1.ex; obtain ⟨⟨hv, hvl⟩, hs⟩ := hq2.pu; clear hq1 hq2; (first | replace hA := (hA.bod.1 (by assumption)).ok hv | replace hA := (hA.bod.2.2.1 (by assumption) (by assumption) (by assumption)).ok hv); clear hv; obtain ⟨Ap, cp, rfl, hc1, hc2⟩ := row_slice hs.own) <;> (clear hq; (try simp only [star_assoc, star_emp, emp_star] at hs); (try simp only [Act.put, zg, zh, zi]))))))
        | (focus ((with_reducible apply mq_callx hRR hs (erowM_x _ _ a _ A n c raw _ _ _ _ _ _ _ _ _ _ _)); (go_must (((focus (simp only [zj, zk, zl, List.append_toArray, List.nil_append, List.cons_append, Act.eval, za, zb, zc, zd, ze, zf]; (try with_reducible rfl); done)); (focus ((repeat (first | (with_reducible (first | exact ent_refl | apply ent_puR)) | ((with_reducible apply ent_front); (focus with_reducible (repeat (first | exact ent_here | apply ent_next | exact ent_last)); done)) | (with_reducible (first | exact ent_keep | apply ent_trans ent_drop)) | (focus (first | ((repeat' (first | (with_reducible assumption) | (with_reducible apply And.intro) | (focus (with_reducible (repeat (first | assumption | (apply PRd.left; assumption) | refine PRd.exh (by assumption) ?_ | refine PRd.exh0 (by assumption) ?_ | apply PRd.next)); done)))); done))))); done)); (focus (simp only [go_sem])); (focus (intros; with_reducible (refine in_of_sat (by assumption) ?_; repeat (first | exact ent_exh_here | exact ent_last | refine ent_pu_l (fun _ => ?_) | refine ent_ex_l (fun _ => ?_) | apply ent_exh_next)); done)); (focus (intro pv; (focus with_reducible (repeat (first | exact ent_here | apply ent_next | exact ent_last)); done)))))); rotate_left 1; (clear hs; (try clear w); intro pv w hs; (try simp only [star_assoc, star_emp, emp_star] at hs); (try clear hRR hR); (skip)); rotate_left 1; (clear hs; (try clear w); intro v w hq; ((obtain ⟨cl, hq1⟩ := hq.ex; obtain ⟨q1, hq2⟩ := hq1.ex; obtain ⟨⟨hv, hvl⟩, hs⟩ := hq2.pu; clear hq1 hq2; replace hA := (hA.bod.2.1 (by assumption) (by assumption)).ok hv; clear hv) <;> (clear hq; (try simp only [star_assoc, star_emp, emp_star] at hs); (try simp only [Act.put, zg, zh, zi]))))))
        | (focus ((with_reducible apply pl_callx hs (erounds_x _ _ a _ A n c raw _)); (go_must (((focus (simp only [zj, zk, zl, List.append_toArray, List.nil_append, List.cons_append, Act.eval, za, zb, zc, zd, ze, zf]; (try with_reducible rfl); done)); (focus ((repeat (first | (with_reducible (first | exact ent_refl | apply ent_puR)) | ((with_reducible apply ent_front); (focus with_reducible (repeat (first | exact ent_here | apply ent_next | exact ent_last)); done)) | (with_reducible (first | exact ent_keep | apply ent_trans ent_drop)) | (focus (first | ((repeat' (first | (with_reducible assumption) | (with_reducible apply And.intro) | (focus (with_reducible (repeat (first | assumption | (apply PRd.left; assumption) | refine PRd.exh (by assumption) ?_ | refine PRd.exh0 (by assumption) ?_ | apply PRd.next)); done)))); done))))); done)); (focus (simp only [go_sem]))))); rotate_left 1; (clear hs; (try clear w); intro pv w hs; (try simp only [star_assoc, star_emp, emp_star] at hs); (try clear hRR hR); (skip)); rotate_left 1; (clear hs; (try clear w); intro v w hq; ((obtain ⟨f, hq1⟩ := hq.ex; obtain ⟨q1, hq2⟩ := hq1.ex; obtain ⟨⟨rfl, hv, hvl⟩, hs⟩ := hq2.pu; clear hq1 hq2; (first | replace hA := hA.ok hv | replace hA := (hA.bod.2.2.2 (by assumption) (by assumption) (by assumption)).ok hv); clear hv) <;> (clear hq; (try simp only [star_assoc, star_emp, emp_star] at hs); (try simp only [Act.put, zg, zh, zi]))))))
        | ((with_reducible apply pl_call hs (at_s _ _ _ _ _ _ _ _)); (go_must (((focus (simp only [zj, zk, zl, List.append_toArray, List.nil_append, List.cons_append, Act.eval, za, zb, zc, zd, ze, zf]; (try with_reducible rfl); done)); (focus ((repeat (first | (with_reducible (first | exact ent_refl | apply ent_puR)) | ((with_reducible apply ent_front); (focus with_reducible (repeat (first | exact ent_here | apply ent_next | exact ent_last)); done)) | (with_reducible (first | exact ent_keep | apply ent_trans ent_drop)) | (fail))); done)); (focus (simp only [go_sem]))))); clear hs; (try clear w); intro v w hq; (obtain ⟨rfl, hs⟩ := hq.pu); clear hq; (try simp only [star_assoc, star_emp, emp_star] at hs); (try simp only [Act.put, zg, zh, zi]))
        | ((with_reducible apply pl_call hs (eend_s _ _ a _ A n c raw _)); (go_must (((focus (simp only [zj, zk, zl, List.append_toArray, List.nil_append, List.cons_append, Act.eval, za, zb, zc, zd, ze, zf]; (try with_reducible rfl); done)); (focus ((repeat (first | (with_reducible (first | exact ent_refl | apply ent_puR)) | ((with_reducible apply ent_front); (focus with_reducible (repeat (first | exact ent_here | apply ent_next | exact ent_last)); done)) | (with_reducible (first | exact ent_keep | apply ent_trans ent_drop)) | (focus (first | ((repeat' (first | (with_reducible assumption) | (with_reducible apply And.intro) | (focus (with_reducible (repeat (first | assumption | (apply PRd.left; assumption) | refine PRd.exh (by assumption) ?_ | refine PRd.exh0 (by assumption) ?_ | apply PRd.next)); done)))); done))))); done)); (focus (simp only [go_sem]))))); clear hs; (try clear w); intro v w hq; (obtain ⟨hor, hs⟩ := hq.pu); clear hq; (try simp only [star_assoc, star_emp, emp_star] at hs); (try simp only [Act.put, zg, zh, zi]))
        | (focus ((with_reducible apply pl_callx hs (must_x _ _ _ _)); (go_must (((focus (simp only [zj, zk, zl, List.append_toArray, List.nil_append, List.cons_append, Act.eval, za, zb, zc, zd, ze, zf]; (try with_reducible rfl); done)); (focus ((repeat (first | (with_reducible (first | exact ent_refl | apply ent_puR)) | ((with_reducible apply ent_front); (focus with_reducible (repeat (first | exact ent_here | apply ent_next | exact ent_last)); done)) | (with_reducible (first | exact ent_keep | apply ent_trans ent_drop)) | (focus (first | (with_reducible assumption))))); done)); (focus (simp only [go_sem]))))); rotate_left 1; (clear hs; (try clear w); intro pv w hs; (try simp only [star_assoc, star_emp, emp_star] at hs); (try clear hRR hR); (obtain ⟨⟨hv, hpv⟩, hs⟩ := hs.pu)); rotate_left 1; (clear hs; (try clear w); intro v w hq; ((obtain ⟨hv, hs⟩ := hq.pu; subst hv) <;> (clear hq; (try simp only [star_assoc, star_emp, emp_star] at hs); (try simp only [Act.put, zg, zh, zi]))))))
        | ((with_reducible apply pl_loadN hs); (focus (simp only [Act.eval, za, zb, zc, zd, ze, zf]; (try with_reducible rfl); done)); (with_reducible (first | exact agg_30 | exact agg_87)); (focus ((repeat (first | (with_reducible (first | assumption | exact hel _ | exact hel2 _ | exact hel3 _)) | ((with_reducible apply reads_whole); (focus (first | (with_reducible rfl) | (simp only [go_sem]; done) | (simp; done)))) | ((with_reducible apply reads_part); (focus (first | (simp [go_sem]; done) | (simp only [go_sem]; omega) | go_size)); (focus (first | (simp only [Nat.reduceAdd, Nat.zero_add, go_sem]; (try with_reducible rfl); done) | (simp [go_sem]; (try with_reducible rfl); done)))) | (with_reducible (first | (apply reads_left; assumption) | refine reads_exh (by assumption) ?_ | refine reads_exh0 (by assumption) ?_ | apply reads_next)))); done)); (focus rfl); simp only [Act.put, zg, zh, zi])
        | ((with_reducible apply pl_load1 hs); (focus (simp only [Act.eval, za, zb, zc, zd, ze, zf]; (try with_reducible rfl); done)); (focus (simp only [go_sem])); (focus ((repeat (first | (with_reducible (first | assumption | exact hec _ | exact hec2 _ | exact hec3 _ | exact hec4 _ _)) | ((with_reducible apply readc_here); (focus (first | (simp only [zc, zd, ze, go_sem]; (try with_reducible rfl); done) | (go_simp; (try with_reducible rfl); done)))) | (with_reducible (first | (apply readc_left; assumption) | refine readc_exh (by assumption) ?_ | refine readc_exh0 (by assumption) ?_ | apply readc_next)))); done)); (focus rfl); simp only [Act.put, zg, zh, zi])
        | ((with_reducible apply pl_alloc hs); (with_reducible (first | exact zero_30)); clear hs; (try clear w); intro g w hs; skip; simp only [Act.put, zg, zh, zi])
        | ((with_reducible apply pl_box hs); (focus (simp only [Act.eval, za, zb, zc, zd, ze, zf]; (try with_reducible rfl); done)); (focus (first | (with_reducible (first | exact cells_intv _ | exact cells_bytv _ | exact cells_agg _ | exact cells_int _ _ | exact cells_bool _ | exact cells_string _ | exact cells_slice _ _ _ | exact cells_pointer _ | exact cells_map _ | exact cells_iface _ _ | exact cells_nilIface | exact cells_func _ _ _)) | (exact cells_one (by assumption)))); clear hs; (try clear w); intro g w hs; skip; simp only [Act.put, zg, zh, zi])
        | ((with_reducible apply pl_store1 hs); (focus (simp only [Act.eval, za, zb, zc, zd, ze, zf]; (try with_reducible rfl); done)); (focus (simp only [Act.eval, za, zb, zc, zd, ze, zf]; (try with_reducible rfl); done)); (focus (simp only [go_sem])); (focus with_reducible (repeat (first | exact ent_here | apply ent_next | exact ent_last)); done); (focus (first | (simp [go_sem]; done) | (simp only [go_sem]; omega) | go_size)); (focus (first | (simp only [go_sem]; done) | (simp [go_sem]; done))); clear hs; (try clear w); intro w hs; (try simp only [zg, zh, zi, clk_set, opv_s0, opv_s1, opv_s2, opv_s3, actv_s0, actv_s1, actv_s2, actv_s3, actv_s4, rnd_s0, rnd_s17, lnk_s0, lnk_s1, lnk_s2, nov_s0, nov_s1, nov_s2, intv_set, bytv_set] at hs); (try rw [hset] at hs); (try rw [hset2] at hs); (try rw [hset3] at hs); (try rw [hset4] at hs); simp only [Act.put, zg, zh, zi])
        | ((with_reducible apply pl_storeN hs); (focus (simp only [Act.eval, za, zb, zc, zd, ze, zf]; (try with_reducible rfl); done)); (focus (simp only [Act.eval, za, zb, zc, zd, ze, zf]; (try with_reducible rfl); done)); (with_reducible (first | exact agg_28 | exact agg_30)); (focus with_reducible (repeat (first | exact ent_here | apply ent_next | exact ent_last)); done); (focus (first | (with_reducible rfl) | (simp only [go_sem]; done) | (simp; done))); (focus (first | (simp [go_sem]; done) | (simp only [go_sem]; omega) | go_size)); (focus (first | (simp only [go_sem]; done) | (simp [go_sem]; done))); (focus (first | ((with_reducible apply splice_whole); (focus (first | (with_reducible rfl) | (simp only [go_sem]; done) | (simp; done)))) | (simp [splice, go_sem]; done) | (simp only [go_sem]; (try with_reducible rfl); done))); clear hs; (try clear w); intro w hs; (try simp only [zg, zh, zi, clk_set, opv_s0, opv_s1, opv_s2, opv_s3, actv_s0, actv_s1, actv_s2, actv_s3, actv_s4, rnd_s0, rnd_s17, lnk_s0, lnk_s1, lnk_s2, nov_s0, nov_s1, nov_s2, intv_set, bytv_set] at hs); (try rw [hset] at hs); (try rw [hset2] at hs); (try rw [hset3] at hs); (try rw [hset4] at hs); simp only [Act.put, zg, zh, zi])
        | (with_reducible refine mix_nilq ?_)
        | ((with_reducible apply mq_end hRR hs); (focus with_reducible (repeat (first | exact ent_here | apply ent_next | exact ent_last)); done); clear hs; (try clear w); intro w hs; (try simp only [star_assoc, star_emp, emp_star] at hs); clear hRR hR)
        | ((with_reducible apply mx_loadN hRR); (focus (simp only [Act.eval, za, zb, zc, zd, ze, zf]; (try with_reducible rfl); done)); (with_reducible (first | exact agg_87)); (focus ((repeat (first | (with_reducible (first | assumption | exact hel _ | exact hel2 _ | exact hel3 _)) | ((with_reducible apply reads_whole); (focus (first | (with_reducible rfl) | (simp only [go_sem]; done) | (simp; done)))) | ((with_reducible apply reads_part); (focus (first | (simp [go_sem]; done) | (simp only [go_sem]; omega) | go_size)); (focus (first | (simp only [Nat.reduceAdd, Nat.zero_add, go_sem]; (try with_reducible rfl); done) | (simp [go_sem]; (try with_reducible rfl); done)))) | (with_reducible (first | (apply reads_left; assumption) | refine reads_exh (by assumption) ?_ | refine reads_exh0 (by assumption) ?_ | apply reads_next)))); done)); simp only [Act.put, zg, zh, zi])
        | ((with_reducible refine mix_float ?_ ?_ ?_ (fun h hk => ?_) ?_); rotate_left 1; (focus rfl); (focus rfl); (focus (go_simp; (try (rw [if_pos (by omega)]; (try go_simp))); (try simp (disch := omega) only [IntWalk.i64_in, IntWalk.i32_in]); (try with_reducible rfl); done)); simp only [Act.put, zg, zh, zi]))
  all_goals first
    | (have h5 := endP_no (q := q1) hv (hs.mono (by (focus with_reducible (repeat (first | exact ent_here | apply ent_next | exact ent_last)); done)))
       exact ⟨rfl, .inr ⟨_, rfl, h5.2.mono (ent_trans (star_mono ent_refl (by ((repeat (first | (with_reducible (first | exact ent_refl | exact ent_emp)) | ((with_reducible apply ent_front); (focus with_reducible (repeat (first | exact ent_here | apply ent_next | exact ent_last)); done)) | (with_reducible (first | exact ent_keep | apply ent_trans ent_drop)))); done))) (nox_wire (fin_end hA h5.1) (by decide) hpv))⟩⟩)
    | exact ⟨rfl, .inr ⟨_, rfl, hs.mono (ent_trans (star_mono ent_refl (by ((repeat (first | (with_reducible (first | exact ent_refl | exact ent_emp)) | ((with_reducible apply ent_front); (focus with_reducible (repeat (first | exact ent_here | apply ent_next | exact ent_last)); done)) | (with_reducible (first | exact ent_keep | apply ent_trans ent_drop)))); done))) (nox_turn fun e h => by first | exact hA.no (fin_no raw) h | exact (hA.bod.1 (by assumption)).no (fin_no raw) h | exact (hA.bod.2.1 (by assumption) (by assumption)).no (fin_no raw) h | exact (hA.bod.2.2.1 (by assumption) (by assumption) (by assumption)).no (fin_no raw) h | exact (hA.bod.2.2.2 (by assumption) (by assumption) (by assumption)).no (fin_no raw) h))⟩⟩
    | skip
  · refine msg_ret (l := l) (q := q1) (d := ?dd1) (R := ?RR1) (g := ?gg1) hs ?tA1 ?tE1 ?tR1 ?tP1 rfl
    case tE1 =>
      with_reducible apply ent_front
      · (focus with_reducible (repeat (first | exact ent_here | apply ent_next | exact ent_last)); done)
      · with_reducible apply ent_front
        · (focus with_reducible (repeat (first | exact ent_here | apply ent_next | exact ent_last)); done)
        · exact ent_refl
    case tP1 => rfl
    case tR1 =>
      show Ent _ (row _ 13 actv (.slice _ _ _) _ * F)
      ((repeat (first | (with_reducible (first | exact ent_refl | exact ent_emp)) | ((with_reducible apply ent_front); (focus with_reducible (repeat (first | exact ent_here | apply ent_next | exact ent_last)); done)) | (with_reducible (first | exact ent_keep | apply ent_trans ent_drop)))); done)
    case tA1 => exact hA
  · refine msg_ret (l := []) (q := q1) (d := ?dd2) (R := ?RR2) (g := ?gg2) hs ?tA2 ?tE2 ?tR2 ?tP2 rfl
    case tE2 =>
      with_reducible apply ent_front
      · (focus with_reducible (repeat (first | exact ent_here | apply ent_next | exact ent_last)); done)
      · with_reducible apply ent_front
        · (focus with_reducible (repeat (first | exact ent_here | apply ent_next | exact ent_last)); done)
        · exact ent_refl
    case tP2 => rfl
    case tR2 =>
      show Ent _ (row _ 13 actv (.slice none 0 0) [] * F)
      exact ent_trans (B := F) (by ((repeat (first | (with_reducible (first | exact ent_refl | exact ent_emp)) | ((with_reducible apply ent_front); (focus with_reducible (repeat (first | exact ent_here | apply ent_next | exact ent_last)); done)) | (with_reducible (first | exact ent_keep | apply ent_trans ent_drop)))); done)) ent_row_nil
    case tA2 => exact hA
  · refine msg_ret (l := l) (q := q1) (d := ?dd3) (R := ?RR3) (g := ?gg3) hs ?tA3 ?tE3 ?tR3 ?tP3 rfl
    case tE3 =>
      with_reducible apply ent_front
      · (focus with_reducible (repeat (first | exact ent_here | apply ent_next | exact ent_last)); done)
      · with_reducible apply ent_front
        · (focus with_reducible (repeat (first | exact ent_here | apply ent_next | exact ent_last)); done)
        · exact ent_refl
    case tP3 => rfl
    case tR3 =>
      show Ent _ (row _ 13 actv (.slice _ _ _) _ * F)
      ((repeat (first | (with_reducible (first | exact ent_refl | exact ent_emp)) | ((with_reducible apply ent_front); (focus with_reducible (repeat (first | exact ent_here | apply ent_next | exact ent_last)); done)) | (with_reducible (first | exact ent_keep | apply ent_trans ent_drop)))); done)
    case tA3 => exact hA
  · refine msg_ret (l := []) (q := q1) (d := ?dd4) (R := ?RR4) (g := ?gg4) hs ?tA4 ?tE4 ?tR4 ?tP4 rfl
    case tE4 =>
      with_reducible apply ent_front
      · (focus with_reducible (repeat (first | exact ent_here | apply ent_next | exact ent_last)); done)
      · with_reducible apply ent_front
        · (focus with_reducible (repeat (first | exact ent_here | apply ent_next | exact ent_last)); done)
        · exact ent_refl
    case tP4 => rfl
    case tR4 =>
      show Ent _ (row _ 13 actv (.slice none 0 0) [] * F)
      exact ent_trans (B := F) (by ((repeat (first | (with_reducible (first | exact ent_refl | exact ent_emp)) | ((with_reducible apply ent_front); (focus with_reducible (repeat (first | exact ent_here | apply ent_next | exact ent_last)); done)) | (with_reducible (first | exact ent_keep | apply ent_trans ent_drop)))); done)) ent_row_nil
    case tA4 => exact hA
end Go.Proofs.YtegebjflhhbmiaaDoor

set_option linter.unusedSimpArgs false
set_option linter.unusedVariables false
namespace Go.Proofs.YtegebjflhhbmiaaDoor
open Go Go.RowKit

def cRead : ByteArray := ⟨#[82, 101, 97, 100]⟩
@[go_sem] theorem ta_P (v : Value) (w : World) : (Instr.typeAssert (.iface 83 v) 20 83 true).run Tryd.prog w = .ok (.tuple #[v, .bool true]) w := by kernel_rfl
abbrev pargs (g2 g3 : Nat) : Array Value := #[.pointer (some ⟨g2, 0, none⟩), .pointer (some ⟨g3, 0, none⟩)]
set_option maxRecDepth 20000 in
set_option maxHeartbeats 1000000 in
theorem rdR_s (c0 : World) (H : HP) (g2 g3 : Nat) : SpecD Tryd.prog c0 40 (pargs g2 g3) .returning H .returning H := by
  intro w hs
  refine callsD_of_wpS Tryd.func40 rfl fun c₀ cs hu => ?_
  unfold pargs
  simp only [Tryd.ntmps40, List.size_toArray, List.length_cons, List.length_nil, Nat.reduceAdd, Nat.reduceSub, Array.replicate_succ, Array.replicate_zero, List.push_toArray, List.append_toArray, List.nil_append, List.cons_append]
  apply wpS_seq
  apply wpS_region
  simp [wpOpsS, go_sem, recoverD, hu, Exit.thenS]
  refine wpS_of_wp ?_
  go_wp2_with fail
  refine ⟨rfl, .returning, ?_, _, results_none rfl _ _ _, ⟨_, rfl⟩, rfl, hs⟩
  rw [← hu]
set_option maxRecDepth 20000 in
set_option maxHeartbeats 1000000 in
theorem rdP_s (c0 : World) (F : HP) (g2 g3 n : Nat) (d : MsgD) (x : Value) (t : TypeId) (q : Option Addr) : SpecD Tryd.prog c0 40 (pargs g2 g3) (.panicking [{ v := .iface 83 (.agg #[.int .i64 n, .iface t (.pointer q)]), recovered := false }])
    (blk g2 (.cells (msg d) 30 (0, 0)) * (blk g3 (.cells #[x] 34 (0, 0)) * F))
    (.panicking [{ v := .iface 83 (.agg #[.int .i64 n, .iface t (.pointer q)]), recovered := true }])
    (ex fun ge : Nat => blk g2 (.cells (msg msg0) 30 (0, 0)) * (blk g3 (.cells #[.iface 116 (.pointer (some ⟨ge, 0, none⟩))] 34 (0, 0)) * (blk ge (.cells (fltv ⟨#[112, 97, 99, 107, 101, 116]⟩ ⟨#[82, 101, 97, 100]⟩ n t q) 118 (0, 0)) * F))) := by
  intro w hs
  have hat : atV (n : Int) = n := if_neg (by omega)
  refine callsD_of_wpS Tryd.func40 rfl fun c₀ cs hu => ?_
  unfold pargs
  simp only [Tryd.ntmps40, List.size_toArray, List.length_cons, List.length_nil, Nat.reduceAdd, Nat.reduceSub, Array.replicate_succ, Array.replicate_zero, List.push_toArray, List.append_toArray, List.nil_append, List.cons_append]
  apply wpS_seq
  apply wpS_region
  simp [wpOpsS, go_sem, recoverD, hu, Exit.thenS]
  refine wpS_of_wp ?_
  go_wp2_with (first
        | ((with_reducible apply pl_call hs (fnew_s _ _ _ _ _ _ _)); (go_must (((focus (simp only [zj, zk, zl, List.append_toArray, List.nil_append, List.cons_append, Act.eval, za, zb, zc, zd, ze, zf]; (try with_reducible rfl); done)); (focus ((repeat (first | (with_reducible (first | exact ent_refl | apply ent_puR)) | ((with_reducible apply ent_front); (focus with_reducible (repeat (first | exact ent_here | apply ent_next | exact ent_last)); done)) | (with_reducible (first | exact ent_keep | apply ent_trans ent_drop)) | (fail))); done)); (focus (simp only [go_sem]))))); clear hs; (try clear w); intro v w hq; (obtain ⟨ge, hq1⟩ := hq.ex; obtain ⟨rfl, hs⟩ := hq1.pu; clear hq1); clear hq; (try simp only [star_assoc, star_emp, emp_star] at hs); (try simp only [Act.put, zg, zh, zi]))
        | ((with_reducible apply pl_load1 hs); (focus (simp only [Act.eval, za, zb, zc, zd, ze, zf]; (try with_reducible rfl); done)); (focus (simp only [go_sem])); (focus ((repeat (first | (with_reducible (first | assumption | exact hec _ | exact hec2 _ | exact hec3 _ | exact hec4 _ _)) | ((with_reducible apply readc_here); (focus (first | (simp only [zc, zd, ze, go_sem]; (try with_reducible rfl); done) | (go_simp; (try with_reducible rfl); done)))) | (with_reducible (first | (apply readc_left; assumption) | refine readc_exh (by assumption) ?_ | refine readc_exh0 (by assumption) ?_ | apply readc_next)))); done)); (focus rfl); simp only [Act.put, zg, zh, zi])
        | ((with_reducible apply pl_build hs); (focus (simp only [zj, zk, zl, Act.eval, za, zb, zc, zd, ze, zf]; (try with_reducible rfl); done)); (first | (with_reducible exact bld_4)); (focus rfl); simp only [Act.put, zg, zh, zi])
        | ((with_reducible apply pl_alloc hs); (with_reducible (first | exact zero_83)); clear hs; (try clear w); intro g w hs; skip; simp only [Act.put, zg, zh, zi])
        | ((with_reducible apply pl_store1 hs); (focus (simp only [Act.eval, za, zb, zc, zd, ze, zf]; (try with_reducible rfl); done)); (focus (simp only [Act.eval, za, zb, zc, zd, ze, zf]; (try with_reducible rfl); done)); (focus (simp only [go_sem])); (focus with_reducible (repeat (first | exact ent_here | apply ent_next | exact ent_last)); done); (focus (first | (simp [go_sem]; done) | (simp only [go_sem]; omega) | go_size)); (focus (first | (simp only [go_sem]; done) | (simp [go_sem]; done))); clear hs; (try clear w); intro w hs; (try simp only [zg, zh, zi, clk_set, opv_s0, opv_s1, opv_s2, opv_s3, actv_s0, actv_s1, actv_s2, actv_s3, actv_s4, rnd_s0, rnd_s17, lnk_s0, lnk_s1, lnk_s2, nov_s0, nov_s1, nov_s2, intv_set, bytv_set] at hs); simp only [Act.put, zg, zh, zi])
        | ((with_reducible apply pl_storeN hs); (focus (simp only [Act.eval, za, zb, zc, zd, ze, zf]; (try with_reducible rfl); done)); (focus (simp only [Act.eval, za, zb, zc, zd, ze, zf]; (try with_reducible rfl); done)); (with_reducible (first | exact agg_30 | exact agg_83)); (focus with_reducible (repeat (first | exact ent_here | apply ent_next | exact ent_last)); done); (focus (first | (with_reducible rfl) | (simp only [go_sem]; done) | (simp; done))); (focus (first | (simp [go_sem]; done) | (simp only [go_sem]; omega) | go_size)); (focus (first | (simp only [go_sem]; done) | (simp [go_sem]; done))); (focus (first | ((with_reducible apply splice_whole); (focus (first | (with_reducible rfl) | (simp only [go_sem]; done) | (simp; done)))) | (simp [splice, go_sem]; done) | (simp only [go_sem]; (try with_reducible rfl); done))); clear hs; (try clear w); intro w hs; (try simp only [zg, zh, zi, clk_set, opv_s0, opv_s1, opv_s2, opv_s3, actv_s0, actv_s1, actv_s2, actv_s3, actv_s4, rnd_s0, rnd_s17, lnk_s0, lnk_s1, lnk_s2, nov_s0, nov_s1, nov_s2, intv_set, bytv_set] at hs); simp only [Act.put, zg, zh, zi]))
  (try rw [hat] at hs)
  exact ⟨rfl, _, rfl, _, results_none rfl _ _ _, ⟨_, rfl⟩, rfl, hs.mono (ent_ex ge (by show Ent _ (blk g2 (.cells (msg ⟨0, 0, 0, clk0, none, 0, 0, rnds0⟩) 30 (0, 0)) * _); ((repeat (first | (with_reducible (first | exact ent_refl | exact ent_emp)) | ((with_reducible apply ent_front); (focus with_reducible (repeat (first | exact ent_here | apply ent_next | exact ent_last)); done)) | (with_reducible (first | exact ent_keep | apply ent_trans ent_drop)))); done)))⟩
theorem leaves_cc {P : Program} {fn : Func} {tmps : Array Value} {R : Ending → World → Prop} {w : World} {p q : Tmp} {ty tz : TypeId} {n g k : Nat} {d : TypeDesc} {cs : Array Value} {v : Value} (hr : fn.results = #[.cell p ty, .cell q tz]) (hu : P.underlying ty = some d) (hd : isAggD d = true) (hi : (P.info? ty).map (·.size) = some n) (ht : ScT P tz)
    (hp : tmps.getD p undef = .pointer (some ⟨g, 0, none⟩)) (hq : tmps.getD q undef = .pointer (some ⟨k, 0, none⟩)) (hw : win w g 0 n = some cs) (hc : w.cell? ⟨k, 0, none⟩ = some v) (h : R (.returned (.tuple #[.agg cs, v])) w) : Leaves P fn tmps R [] .returning w := by
  have hp' : tmps[p]?.getD undef = .pointer (some ⟨g, 0, none⟩) := by simpa using hp
  have hq' : tmps[q]?.getD undef = .pointer (some ⟨k, 0, none⟩) := by simpa using hq
  exact ⟨.tuple #[.agg cs, v], by simp [results, hr, hp', hq', asAddr, run_loadVar_win hu hd hi hw, run_loadVar1 ht hc], h⟩
set_option maxRecDepth 20000 in
set_option maxHeartbeats 2000000 in
theorem readOk_s (c0 : World) (F : HP) (a : Nat → Addr) (v : Value) (raw : List Int) (m : MsgP) (hr : rdMsg raw = .ok m) : Spec Tryd.prog c0 13 #[v] (pu (ErrB F a ∧ SlR F 1 bytv v raw ∧ (∀ b, b ∈ raw → InB b) ∧ raw.length ≤ 140737488355328) F)
    (fun r => ex fun d : MsgD => ex fun l : List ActD => pu (r = .tuple #[.agg (msg d), .nilIface] ∧ mpOf d l = m) (row 78 13 actv d.s l * F)) := by
  intro w hq; obtain ⟨⟨hE, hsl, hI, hl⟩, hs⟩ := hq.pu; clear hq
  have hmf : ∀ (fn : Fn) (first cap : Array Value) (w : World), (Instr.makeFunc fn first cap).run Tryd.prog w = .ok (.func fn first cap) w := fun _ _ _ _ => rfl
  have hmsg : ∀ (F : HP) (gr gb : Nat), Spec Tryd.prog c0 42 #[.agg #[.pointer (some ⟨gr, 0, none⟩)]] (pu (ErrB F a) (rdr a gr (some ⟨gb, 0, none⟩) raw.length raw.length .nilIface ⟨raw, 0, none⟩ * (row 5 1 bytv (.slice (some ⟨gb, 0, none⟩) raw.length raw.length) raw * F))) (fun r => ex fun d : MsgD => ex fun l : List ActD => pu (r = .agg (msg d) ∧ mpOf d l = m) (row 78 13 actv d.s l * F)) := fun F gr gb w hq => by
    obtain ⟨hF, hs⟩ := hq.pu
    obtain ⟨_, hs⟩ := rdr_none rfl hs
    refine (emessage_x c0 (row 5 1 bytv (.slice (some ⟨gb, 0, none⟩) raw.length raw.length) raw * F) a gr (some ⟨gb, 0, none⟩) raw.length raw.length raw w (hs.mono (ent_pu ⟨⟨slr_row fun _ => rfl, hF.next⟩, hI, hl⟩ ent_refl))).mono fun ex w' h => ?_
    rcases h with ⟨u, hu, h⟩ | ⟨pv, hu, h⟩
    · obtain ⟨d, h⟩ := h.ex
      obtain ⟨l, h⟩ := h.ex
      obtain ⟨⟨h1, h2⟩, h⟩ := h.pu
      rw [hr] at h2
      exact ⟨u, hu, h.mono (ent_ex d (ent_ex l (ent_pu ⟨h1, (Except.ok.inj h2).symm⟩ (star_mono ent_refl ent_drop))))⟩
    · obtain ⟨e, h1, _⟩ := nox_pure h
      rw [hr] at h1
      cases h1
  go_enter_defers Tryd.func13, Tryd.ntmps13
  go_wp2_with (first
        | ((with_reducible apply pl_call hs (newReader_s _ _ a _ raw)); (go_must (((focus (simp only [zj, zk, zl, List.append_toArray, List.nil_append, List.cons_append, Act.eval, za, zb, zc, zd, ze, zf]; (try with_reducible rfl); done)); (focus ((repeat (first | (with_reducible (first | exact ent_refl | apply ent_puR)) | ((with_reducible apply ent_front); (focus with_reducible (repeat (first | exact ent_here | apply ent_next | exact ent_last)); done)) | (with_reducible (first | exact ent_keep | apply ent_trans ent_drop)) | (focus (first | ((repeat' (first | (with_reducible assumption) | (with_reducible apply And.intro) | (focus (first | ((repeat (first | (with_reducible (first | assumption | exact slr_ro |  exact hsl _ | exact hsl2 _ | exact hsl3 _ _ _ | exact slr_nil | exact slr_row (fun _ => by simp only [go_sem]) | exact slr_one (fun _ => by simp only [go_sem]) | (apply slr_left; assumption))) | (with_reducible apply slr_next))); done) | ((repeat (first | (with_reducible (first | assumption | exact slr_ro |  exact hsl _ | exact hsl2 _ | exact hsl3 _ _ _ | exact slr_nil | exact slr_row (fun _ => by simp only [go_sem]) | exact slr_one (fun _ => by simp only [go_sem]) | (apply slr_left; assumption))) | (with_reducible (first | (apply slr_exh; focus assumption) | (apply slr_exh0; focus assumption) | apply slr_next)))); done))))); done))))); done)); (focus (simp only [go_sem]))))); clear hs; (try clear w); intro v w hq; (obtain ⟨gr, hq1⟩ := hq.ex; obtain ⟨gb, hq2⟩ := hq1.ex; obtain ⟨rfl, hs⟩ := hq2.pu; clear hq1 hq2); clear hq; (try simp only [star_assoc, star_emp, emp_star] at hs); (try simp only [Act.put, zg, zh, zi]))
        | ((with_reducible apply pl_call hs (hmsg _ _ _)); (go_must (((focus (simp only [zj, zk, zl, List.append_toArray, List.nil_append, List.cons_append, Act.eval, za, zb, zc, zd, ze, zf]; (try with_reducible rfl); done)); (focus ((repeat (first | (with_reducible (first | exact ent_refl | apply ent_puR)) | ((with_reducible apply ent_front); (focus with_reducible (repeat (first | exact ent_here | apply ent_next | exact ent_last)); done)) | (with_reducible (first | exact ent_keep | apply ent_trans ent_drop)) | (focus (first | (focus (with_reducible (repeat (first | assumption | (apply ErrA.left; assumption) | refine ErrA.exh (by assumption) ?_ | refine ErrA.exh0 (by assumption) ?_ | apply ErrA.next | (apply ErrB.left; assumption) | refine ErrB.exh (by assumption) ?_ | refine ErrB.exh0 (by assumption) ?_ | apply ErrB.next)); done)))))); done)); (focus (simp only [go_sem]))))); clear hs; (try clear w); intro v w hq; (obtain ⟨d, hq1⟩ := hq.ex; obtain ⟨l, hq2⟩ := hq1.ex; obtain ⟨⟨rfl, hm⟩, hs⟩ := hq2.pu; clear hq1 hq2); clear hq; (try simp only [star_assoc, star_emp, emp_star] at hs); (try simp only [Act.put, zg, zh, zi]))
        | ((with_reducible apply pl_build hs); (focus (simp only [zj, zk, zl, Act.eval, za, zb, zc, zd, ze, zf]; (try with_reducible rfl); done)); (first | (with_reducible exact bld_12 _)); (focus rfl); simp only [Act.put, zg, zh, zi])
        | ((with_reducible apply pl_alloc hs); (with_reducible (first | exact zero_30 | exact zero_34)); clear hs; (try clear w); intro g w hs; skip; simp only [Act.put, zg, zh, zi])
        | ((with_reducible apply pl_store1 hs); (focus (simp only [Act.eval, za, zb, zc, zd, ze, zf]; (try with_reducible rfl); done)); (focus (simp only [Act.eval, za, zb, zc, zd, ze, zf]; (try with_reducible rfl); done)); (focus (simp only [go_sem])); (focus with_reducible (repeat (first | exact ent_here | apply ent_next | exact ent_last)); done); (focus (first | (simp [go_sem]; done) | (simp only [go_sem]; omega) | go_size)); (focus (first | (simp only [go_sem]; done) | (simp [go_sem]; done))); clear hs; (try clear w); intro w hs; (try simp only [zg, zh, zi, clk_set, opv_s0, opv_s1, opv_s2, opv_s3, actv_s0, actv_s1, actv_s2, actv_s3, actv_s4, rnd_s0, rnd_s17, lnk_s0, lnk_s1, lnk_s2, nov_s0, nov_s1, nov_s2, intv_set, bytv_set] at hs); simp only [Act.put, zg, zh, zi])
        | ((with_reducible apply pl_storeN hs); (focus (simp only [Act.eval, za, zb, zc, zd, ze, zf]; (try with_reducible rfl); done)); (focus (simp only [Act.eval, za, zb, zc, zd, ze, zf]; (try with_reducible rfl); done)); (with_reducible (first | exact agg_30)); (focus with_reducible (repeat (first | exact ent_here | apply ent_next | exact ent_last)); done); (focus (first | (with_reducible rfl) | (simp only [go_sem]; done) | (simp; done))); (focus (first | (simp [go_sem]; done) | (simp only [go_sem]; omega) | go_size)); (focus (first | (simp only [go_sem]; done) | (simp [go_sem]; done))); (focus (first | ((with_reducible apply splice_whole); (focus (first | (with_reducible rfl) | (simp only [go_sem]; done) | (simp; done)))) | (simp [splice, go_sem]; done) | (simp only [go_sem]; (try with_reducible rfl); done))); clear hs; (try clear w); intro w hs; (try simp only [zg, zh, zi, clk_set, opv_s0, opv_s1, opv_s2, opv_s3, actv_s0, actv_s1, actv_s2, actv_s3, actv_s4, rnd_s0, rnd_s17, lnk_s0, lnk_s1, lnk_s2, nov_s0, nov_s1, nov_s2, intv_set, bytv_set] at hs); simp only [Act.put, zg, zh, zi]))
  rename_i g2
  refine leaves_cons (f := 40) (args := pargs g2 g) (by simp) (by simp [go_sem]) ?_
  refine (rdR_s c0 _ _ _ w hs).mono ?_
  rintro e u' w'' ⟨⟨v, rfl⟩, rfl, hs⟩
  exact leaves_cc (n := 156) rfl Tryd.underlying30 rfl (by kernel_rfl) (by simp only [go_sem]) rfl rfl ((by (focus ((repeat (first | (with_reducible (first | assumption | exact hel _ | exact hel2 _ | exact hel3 _)) | ((with_reducible apply reads_whole); (focus (first | (with_reducible rfl) | (simp only [go_sem]; done) | (simp; done)))) | ((with_reducible apply reads_part); (focus (first | (simp [go_sem]; done) | (simp only [go_sem]; omega) | go_size)); (focus (first | (simp only [Nat.reduceAdd, Nat.zero_add, go_sem]; (try with_reducible rfl); done) | (simp [go_sem]; (try with_reducible rfl); done)))) | (with_reducible (first | (apply reads_left; assumption) | refine reads_exh (by assumption) ?_ | refine reads_exh0 (by assumption) ?_ | apply reads_next)))); done)) : Reads _ g2 0 156 (msg d)) w'' hs.own) ((by (focus ((repeat (first | (with_reducible (first | assumption | exact hec _ | exact hec2 _ | exact hec3 _ | exact hec4 _ _)) | ((with_reducible apply readc_here); (focus (first | (simp only [zc, zd, ze, go_sem]; (try with_reducible rfl); done) | (go_simp; (try with_reducible rfl); done)))) | (with_reducible (first | (apply readc_left; assumption) | refine readc_exh (by assumption) ?_ | refine readc_exh0 (by assumption) ?_ | apply readc_next)))); done)) : ReadC _ g 0 .nilIface) w'' hs.own) ⟨_, rfl, hs.mono (ent_ex d (ent_ex l (ent_pu ⟨rfl, hm⟩ (by ((repeat (first | (with_reducible (first | exact ent_refl | exact ent_emp)) | ((with_reducible apply ent_front); (focus with_reducible (repeat (first | exact ent_here | apply ent_next | exact ent_last)); done)) | (with_reducible (first | exact ent_keep | apply ent_trans ent_drop)))); done)))))⟩
theorem stopP_open {a : Nat → Addr} {e : PE} {pv : Value} {F : HP} {c w : World} (hs : Sat c (StopP a e pv * F) w) : ∃ t q, pv = .iface 83 (.agg #[.int .i64 (e.1 : Nat), .iface t (.pointer q)]) ∧ (1 ≤ peK e ∧ peK e ≤ 13) ∧ Sat c (fch a (peL e) (peK e) (.iface t (.pointer q)) * F) w := by
  unfold StopP at hs
  rw [ex_star] at hs
  obtain ⟨why, hs⟩ := hs.ex
  rw [pu_star] at hs
  obtain ⟨⟨h1, h2, h3⟩, hs⟩ := hs.pu
  obtain ⟨t, q, rfl⟩ := fch_iface hs
  exact ⟨t, q, h1, ⟨h2, h3⟩, hs⟩
def readRef (e : PE) : List LinkD × Nat := (⟨packetB, cRead, (e.1 : Nat)⟩ :: peL e, peK e)
theorem peL_len (e : PE) : (peL e).length ≤ 1 := by
  unfold peL
  split <;> simp
set_option maxRecDepth 20000 in
set_option maxHeartbeats 2000000 in
theorem readNo_s (c0 : World) (F : HP) (a : Nat → Addr) (v : Value) (raw : List Int) (e : PE) (hr : rdMsg raw = .error e) : Spec Tryd.prog c0 13 #[v] (pu (ErrB F a ∧ SlR F 1 bytv v raw ∧ (∀ b, b ∈ raw → InB b) ∧ raw.length ≤ 140737488355328) F)
    (fun r => ex fun x : Value => pu (r = .tuple #[.agg (msg msg0), x]) (RefP a (some (readRef e)) x * F)) := by
  intro w hq; obtain ⟨⟨hE, hsl, hI, hl⟩, hs⟩ := hq.pu; clear hq
  have hmf : ∀ (fn : Fn) (first cap : Array Value) (w : World), (Instr.makeFunc fn first cap).run Tryd.prog w = .ok (.func fn first cap) w := fun _ _ _ _ => rfl
  have hmsg : ∀ (F : HP) (gr gb : Nat), SpecE Tryd.prog c0 42 #[.agg #[.pointer (some ⟨gr, 0, none⟩)]] (pu (ErrB F a) (rdr a gr (some ⟨gb, 0, none⟩) raw.length raw.length .nilIface ⟨raw, 0, none⟩ * (row 5 1 bytv (.slice (some ⟨gb, 0, none⟩) raw.length raw.length) raw * F))) (fun pv => StopP a e pv * F) := fun F gr gb w hq => by
    obtain ⟨hF, hs⟩ := hq.pu
    obtain ⟨_, hs⟩ := rdr_none rfl hs
    refine (emessage_x c0 (row 5 1 bytv (.slice (some ⟨gb, 0, none⟩) raw.length raw.length) raw * F) a gr (some ⟨gb, 0, none⟩) raw.length raw.length raw w (hs.mono (ent_pu ⟨⟨slr_row fun _ => rfl, hF.next⟩, hI, hl⟩ ent_refl))).mono fun ex w' h => ?_
    rcases h with ⟨u, hu, h⟩ | ⟨pv, hu, h⟩
    · obtain ⟨d, h⟩ := h.ex
      obtain ⟨l, h⟩ := h.ex
      obtain ⟨⟨_, h2⟩, _⟩ := h.pu
      rw [hr] at h2
      cases h2
    · obtain ⟨e', h1, h⟩ := nox_pure h
      rw [hr] at h1
      cases h1
      exact ⟨pv, hu, h.mono (star_mono ent_refl ent_drop)⟩
  go_enter_defers Tryd.func13, Tryd.ntmps13
  go_wp2_with (first
        | ((with_reducible apply pl_call hs (newReader_s _ _ a _ raw)); (go_must (((focus (simp only [zj, zk, zl, List.append_toArray, List.nil_append, List.cons_append, Act.eval, za, zb, zc, zd, ze, zf]; (try with_reducible rfl); done)); (focus ((repeat (first | (with_reducible (first | exact ent_refl | apply ent_puR)) | ((with_reducible apply ent_front); (focus with_reducible (repeat (first | exact ent_here | apply ent_next | exact ent_last)); done)) | (with_reducible (first | exact ent_keep | apply ent_trans ent_drop)) | (focus (first | ((repeat' (first | (with_reducible assumption) | (with_reducible apply And.intro) | (focus (first | ((repeat (first | (with_reducible (first | assumption | exact slr_ro |  exact hsl _ | exact hsl2 _ | exact hsl3 _ _ _ | exact slr_nil | exact slr_row (fun _ => by simp only [go_sem]) | exact slr_one (fun _ => by simp only [go_sem]) | (apply slr_left; assumption))) | (with_reducible apply slr_next))); done) | ((repeat (first | (with_reducible (first | assumption | exact slr_ro |  exact hsl _ | exact hsl2 _ | exact hsl3 _ _ _ | exact slr_nil | exact slr_row (fun _ => by simp only [go_sem]) | exact slr_one (fun _ => by simp only [go_sem]) | (apply slr_left; assumption))) | (with_reducible (first | (apply slr_exh; focus assumption) | (apply slr_exh0; focus assumption) | apply slr_next)))); done))))); done))))); done)); (focus (simp only [go_sem]))))); clear hs; (try clear w); intro v w hq; (obtain ⟨gr, hq1⟩ := hq.ex; obtain ⟨gb, hq2⟩ := hq1.ex; obtain ⟨rfl, hs⟩ := hq2.pu; clear hq1 hq2); clear hq; (try simp only [star_assoc, star_emp, emp_star] at hs); (try simp only [Act.put, zg, zh, zi]))
        | ((with_reducible apply pl_calle hs (hmsg _ _ _)); (go_must (((focus (simp only [zj, zk, zl, List.append_toArray, List.nil_append, List.cons_append, Act.eval, za, zb, zc, zd, ze, zf]; (try with_reducible rfl); done)); (focus ((repeat (first | (with_reducible (first | exact ent_refl | apply ent_puR)) | ((with_reducible apply ent_front); (focus with_reducible (repeat (first | exact ent_here | apply ent_next | exact ent_last)); done)) | (with_reducible (first | exact ent_keep | apply ent_trans ent_drop)) | (focus (first | (focus (with_reducible (repeat (first | assumption | (apply ErrA.left; assumption) | refine ErrA.exh (by assumption) ?_ | refine ErrA.exh0 (by assumption) ?_ | apply ErrA.next | (apply ErrB.left; assumption) | refine ErrB.exh (by assumption) ?_ | refine ErrB.exh0 (by assumption) ?_ | apply ErrB.next)); done)))))); done)); (focus (simp only [go_sem]))))); clear hs; (try clear w); intro pv w hs; (skip); (try simp only [star_assoc, star_emp, emp_star] at hs))
        | ((with_reducible apply pl_build hs); (focus (simp only [zj, zk, zl, Act.eval, za, zb, zc, zd, ze, zf]; (try with_reducible rfl); done)); (first | (with_reducible exact bld_12 _)); (focus rfl); simp only [Act.put, zg, zh, zi])
        | ((with_reducible apply pl_alloc hs); (with_reducible (first | exact zero_30 | exact zero_34)); clear hs; (try clear w); intro g w hs; skip; simp only [Act.put, zg, zh, zi]))
  rename_i g2 K0 ha0
  obtain ⟨t, q, rfl, hk, hs⟩ := stopP_open hs
  refine leaves_cons (f := 40) (args := pargs g2 g) (by simp) (by simp [go_sem]) ?_
  refine (rdP_s c0 (fch a (peL e) (peK e) (.iface t (.pointer q)) * F) g2 g e.1 msg0 .nilIface t q w (hs.mono (by ((repeat (first | (with_reducible (first | exact ent_refl | exact ent_emp)) | ((with_reducible apply ent_front); (focus with_reducible (repeat (first | exact ent_here | apply ent_next | exact ent_last)); done)) | (with_reducible (first | exact ent_keep | apply ent_trans ent_drop)))); done)))).mono ?_
  rintro _ u' w'' ⟨⟨v, rfl⟩, rfl, hs⟩
  obtain ⟨ge, hs⟩ := hs.ex
  show Leaves _ _ _ _ [] .returning _
  refine leaves_cc (n := 156) rfl Tryd.underlying30 rfl (by kernel_rfl) (by simp only [go_sem]) rfl rfl ((by (focus ((repeat (first | (with_reducible (first | assumption | exact hel _ | exact hel2 _ | exact hel3 _)) | ((with_reducible apply reads_whole); (focus (first | (with_reducible rfl) | (simp only [go_sem]; done) | (simp; done)))) | ((with_reducible apply reads_part); (focus (first | (simp [go_sem]; done) | (simp only [go_sem]; omega) | go_size)); (focus (first | (simp only [Nat.reduceAdd, Nat.zero_add, go_sem]; (try with_reducible rfl); done) | (simp [go_sem]; (try with_reducible rfl); done)))) | (with_reducible (first | (apply reads_left; assumption) | refine reads_exh (by assumption) ?_ | refine reads_exh0 (by assumption) ?_ | apply reads_next)))); done)) : Reads _ g2 0 156 (msg msg0)) w'' hs.own) ((by (focus ((repeat (first | (with_reducible (first | assumption | exact hec _ | exact hec2 _ | exact hec3 _ | exact hec4 _ _)) | ((with_reducible apply readc_here); (focus (first | (simp only [zc, zd, ze, go_sem]; (try with_reducible rfl); done) | (go_simp; (try with_reducible rfl); done)))) | (with_reducible (first | (apply readc_left; assumption) | refine readc_exh (by assumption) ?_ | refine readc_exh0 (by assumption) ?_ | apply readc_next)))); done)) : ReadC _ g 0 (.iface 116 (.pointer (some ⟨ge, 0, none⟩)))) w'' hs.own) ⟨_, rfl, hs.mono (ent_ex _ (ent_pu rfl (ent_trans (B := blk ge (.cells (fltv ⟨#[112, 97, 99, 107, 101, 116]⟩ ⟨#[82, 101, 97, 100]⟩ e.1 t q) 118 (0, 0)) * (fch a (peL e) (peK e) (.iface t (.pointer q)) * F)) (by ((repeat (first | (with_reducible (first | exact ent_refl | exact ent_emp)) | ((with_reducible apply ent_front); (focus with_reducible (repeat (first | exact ent_here | apply ent_next | exact ent_last)); done)) | (with_reducible (first | exact ent_keep | apply ent_trans ent_drop)))); done)) ?_)))⟩
  have hl1 := peL_len e
  simp only [RefP, readRef]
  rw [pu_star]
  exact ent_pu ⟨hk.1, hk.2, by simp; omega⟩ (fch_more (l := ⟨packetB, cRead, (e.1 : Nat)⟩))
end Go.Proofs.YtegebjflhhbmiaaDoor
