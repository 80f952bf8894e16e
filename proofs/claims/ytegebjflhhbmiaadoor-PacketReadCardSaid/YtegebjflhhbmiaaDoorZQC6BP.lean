/- Messages alike; the kind of a message's bytes; cut, clip. -/
import Derived.Test.YtegebjflhhbmiaaDoorZQC6AN
set_option linter.unusedSimpArgs false
set_option linter.unusedVariables false
namespace Go.Proofs.YtegebjflhhbmiaaDoor
open Go Go.RowKit

def kindB (l : List Int) : Int := match l with
  | [] => 0
  | b :: _ => if b < 1 ∨ 4 < b then 0 else b
set_option maxHeartbeats 1000000 in
theorem kind_s (c0 : World) (F : HP) (v : Value) (l : List Int) : Spec Tryd.prog c0 16 #[v] (pu (SlR F 1 bytv v l ∧ ∀ b, b ∈ l → InB b) F) (fun r => pu (r = .int .i64 (kindB l)) F) := by
  intro w hq; obtain ⟨⟨hsl, hI⟩, hs⟩ := hq.pu; clear hq
  obtain ⟨A, c, rfl⟩ := slr_form hsl hs.own
  obtain ⟨_, hn1, hn2, _⟩ := slr_len hsl hs.own
  unfold maxLen at hn2
  cases l with
  | nil =>
    go_enter Tryd.func16, Tryd.ntmps16
    go_wp2_with fail
    (go_ret; simp only [za, zb, zc, zd, ze, zf])
    exact ⟨_, rfl, hs.mono (ent_pu rfl ent_refl)⟩
  | cons b t =>
    obtain ⟨gb, o, x, rfl, hlx, hel0⟩ := slr_get (i := 0) hsl hs.own (by simp)
    have hbI := hI b (List.mem_cons_self ..)
    unfold InB at hbI
    obtain rfl : b = x := by simpa using hlx
    have hec0 : ReadC F gb (o + 0 * 1 + 0) (.int .u8 b) := hel0.cell (i := 0) (by omega) (bytv_0 b)
    rw [show o + 0 * 1 + 0 = o by omega] at hec0
    have hlen : ¬ (((b :: t).length : Nat) : Int) = 0 := by simp only [List.length_cons]; omega
    have hlen2 : 0 < (b :: t).length := by simp
    generalize (b :: t).length = m at *
    by_cases h1 : b < 1
    · have hk : kindB (b :: t) = 0 := if_pos (.inl h1)
      rw [hk]
      go_enter Tryd.func16, Tryd.ntmps16
      go_wp2_with (first
        | ((with_reducible rewrite [pl_strike_eq]); rotate_left 1; (focus rfl))
        | ((with_reducible apply pl_guard_f); (focus rfl); (focus rfl); all_goals (intro hb; first | (cases hb; done) | ((try simp at hb); first | contradiction | ((have hF : False := (by omega)); (cases hF; done)) | (simp only [Act.put, zg, zh, zi]))))
        | ((with_reducible apply pl_load1 hs); (focus (simp only [Act.eval, za, zb, zc, zd, ze, zf]; (try with_reducible rfl); done)); (focus (simp only [go_sem])); (focus ((repeat (first | (with_reducible (first | assumption | exact hec _ | exact hec2 _ | exact hec3 _ | exact hec4 _ _)) | ((with_reducible apply readc_here); (focus (first | (simp only [zc, zd, ze, go_sem]; (try with_reducible rfl); done) | (go_simp; (try with_reducible rfl); done)))) | (with_reducible (first | (apply readc_left; assumption) | refine readc_exh (by assumption) ?_ | refine readc_exh0 (by assumption) ?_ | apply readc_next)))); done)); (focus rfl); simp only [Act.put, zg, zh, zi]))
      (go_ret; simp only [za, zb, zc, zd, ze, zf])
      exact ⟨_, rfl, hs.mono (ent_pu rfl ent_refl)⟩
    · by_cases h4 : 4 < b
      · have hk : kindB (b :: t) = 0 := if_pos (.inr h4)
        rw [hk]
        go_enter Tryd.func16, Tryd.ntmps16
        go_wp2_with (first
        | ((with_reducible rewrite [pl_strike_eq]); rotate_left 1; (focus rfl))
        | ((with_reducible apply pl_guard_f); (focus rfl); (focus rfl); all_goals (intro hb; first | (cases hb; done) | ((try simp at hb); first | contradiction | ((have hF : False := (by omega)); (cases hF; done)) | (simp only [Act.put, zg, zh, zi]))))
        | ((with_reducible apply pl_load1 hs); (focus (simp only [Act.eval, za, zb, zc, zd, ze, zf]; (try with_reducible rfl); done)); (focus (simp only [go_sem])); (focus ((repeat (first | (with_reducible (first | assumption | exact hec _ | exact hec2 _ | exact hec3 _ | exact hec4 _ _)) | ((with_reducible apply readc_here); (focus (first | (simp only [zc, zd, ze, go_sem]; (try with_reducible rfl); done) | (go_simp; (try with_reducible rfl); done)))) | (with_reducible (first | (apply readc_left; assumption) | refine readc_exh (by assumption) ?_ | refine readc_exh0 (by assumption) ?_ | apply readc_next)))); done)); (focus rfl); simp only [Act.put, zg, zh, zi]))
        (go_ret; simp only [za, zb, zc, zd, ze, zf])
        exact ⟨_, rfl, hs.mono (ent_pu rfl ent_refl)⟩
      · have hk : kindB (b :: t) = b := if_neg (by omega)
        rw [hk]
        go_enter Tryd.func16, Tryd.ntmps16
        go_wp2_with (first
        | ((with_reducible rewrite [pl_strike_eq]); rotate_left 1; (focus rfl))
        | ((with_reducible apply pl_guard_f); (focus rfl); (focus rfl); all_goals (intro hb; first | (cases hb; done) | ((try simp at hb); first | contradiction | ((have hF : False := (by omega)); (cases hF; done)) | (simp only [Act.put, zg, zh, zi]))))
        | ((with_reducible apply pl_load1 hs); (focus (simp only [Act.eval, za, zb, zc, zd, ze, zf]; (try with_reducible rfl); done)); (focus (simp only [go_sem])); (focus ((repeat (first | (with_reducible (first | assumption | exact hec _ | exact hec2 _ | exact hec3 _ | exact hec4 _ _)) | ((with_reducible apply readc_here); (focus (first | (simp only [zc, zd, ze, go_sem]; (try with_reducible rfl); done) | (go_simp; (try with_reducible rfl); done)))) | (with_reducible (first | (apply readc_left; assumption) | refine readc_exh (by assumption) ?_ | refine readc_exh0 (by assumption) ?_ | apply readc_next)))); done)); (focus rfl); simp only [Act.put, zg, zh, zi]))
        (go_ret; simp only [za, zb, zc, zd, ze, zf])
        exact ⟨_, rfl, hs.mono (ent_pu rfl ent_refl)⟩
set_option maxHeartbeats 1000000 in
theorem rkind_s (c0 : World) (F : HP) (v : Value) (l : List Int) : Spec Tryd.prog c0 26 #[v] (pu (SlR F 1 bytv v l ∧ ∀ b, b ∈ l → InB b) F) (fun r => pu (r = .int .i64 (kindB l)) F) := by
  intro w hq; obtain ⟨⟨hsl, hI⟩, hs⟩ := hq.pu; clear hq
  obtain ⟨A, c, rfl⟩ := slr_form hsl hs.own
  obtain ⟨_, hn1, hn2, _⟩ := slr_len hsl hs.own
  unfold maxLen at hn2
  cases l with
  | nil =>
    go_enter Tryd.func26, Tryd.ntmps26
    go_wp2_with fail
    (go_ret; simp only [za, zb, zc, zd, ze, zf])
    exact ⟨_, rfl, hs.mono (ent_pu rfl ent_refl)⟩
  | cons b t =>
    obtain ⟨gb, o, x, rfl, hlx, hel0⟩ := slr_get (i := 0) hsl hs.own (by simp)
    have hbI := hI b (List.mem_cons_self ..)
    unfold InB at hbI
    obtain rfl : b = x := by simpa using hlx
    have hec0 : ReadC F gb (o + 0 * 1 + 0) (.int .u8 b) := hel0.cell (i := 0) (by omega) (bytv_0 b)
    rw [show o + 0 * 1 + 0 = o by omega] at hec0
    have hlen : ¬ (((b :: t).length : Nat) : Int) = 0 := by simp only [List.length_cons]; omega
    have hlen2 : 0 < (b :: t).length := by simp
    generalize (b :: t).length = m at *
    by_cases h1 : b < 1
    · have hk : kindB (b :: t) = 0 := if_pos (.inl h1)
      rw [hk]
      go_enter Tryd.func26, Tryd.ntmps26
      go_wp2_with (first
        | ((with_reducible rewrite [pl_strike_eq]); rotate_left 1; (focus rfl))
        | ((with_reducible apply pl_guard_f); (focus rfl); (focus rfl); all_goals (intro hb; first | (cases hb; done) | ((try simp at hb); first | contradiction | ((have hF : False := (by omega)); (cases hF; done)) | (simp only [Act.put, zg, zh, zi]))))
        | ((with_reducible apply pl_load1 hs); (focus (simp only [Act.eval, za, zb, zc, zd, ze, zf]; (try with_reducible rfl); done)); (focus (simp only [go_sem])); (focus ((repeat (first | (with_reducible (first | assumption | exact hec _ | exact hec2 _ | exact hec3 _ | exact hec4 _ _)) | ((with_reducible apply readc_here); (focus (first | (simp only [zc, zd, ze, go_sem]; (try with_reducible rfl); done) | (go_simp; (try with_reducible rfl); done)))) | (with_reducible (first | (apply readc_left; assumption) | refine readc_exh (by assumption) ?_ | refine readc_exh0 (by assumption) ?_ | apply readc_next)))); done)); (focus rfl); simp only [Act.put, zg, zh, zi]))
      (go_ret; simp only [za, zb, zc, zd, ze, zf])
      exact ⟨_, rfl, hs.mono (ent_pu rfl ent_refl)⟩
    · by_cases h4 : 4 < b
      · have hk : kindB (b :: t) = 0 := if_pos (.inr h4)
        rw [hk]
        go_enter Tryd.func26, Tryd.ntmps26
        go_wp2_with (first
        | ((with_reducible rewrite [pl_strike_eq]); rotate_left 1; (focus rfl))
        | ((with_reducible apply pl_guard_f); (focus rfl); (focus rfl); all_goals (intro hb; first | (cases hb; done) | ((try simp at hb); first | contradiction | ((have hF : False := (by omega)); (cases hF; done)) | (simp only [Act.put, zg, zh, zi]))))
        | ((with_reducible apply pl_load1 hs); (focus (simp only [Act.eval, za, zb, zc, zd, ze, zf]; (try with_reducible rfl); done)); (focus (simp only [go_sem])); (focus ((repeat (first | (with_reducible (first | assumption | exact hec _ | exact hec2 _ | exact hec3 _ | exact hec4 _ _)) | ((with_reducible apply readc_here); (focus (first | (simp only [zc, zd, ze, go_sem]; (try with_reducible rfl); done) | (go_simp; (try with_reducible rfl); done)))) | (with_reducible (first | (apply readc_left; assumption) | refine readc_exh (by assumption) ?_ | refine readc_exh0 (by assumption) ?_ | apply readc_next)))); done)); (focus rfl); simp only [Act.put, zg, zh, zi]))
        (go_ret; simp only [za, zb, zc, zd, ze, zf])
        exact ⟨_, rfl, hs.mono (ent_pu rfl ent_refl)⟩
      · have hk : kindB (b :: t) = b := if_neg (by omega)
        rw [hk]
        go_enter Tryd.func26, Tryd.ntmps26
        go_wp2_with (first
        | ((with_reducible rewrite [pl_strike_eq]); rotate_left 1; (focus rfl))
        | ((with_reducible apply pl_guard_f); (focus rfl); (focus rfl); all_goals (intro hb; first | (cases hb; done) | ((try simp at hb); first | contradiction | ((have hF : False := (by omega)); (cases hF; done)) | (simp only [Act.put, zg, zh, zi]))))
        | ((with_reducible apply pl_load1 hs); (focus (simp only [Act.eval, za, zb, zc, zd, ze, zf]; (try with_reducible rfl); done)); (focus (simp only [go_sem])); (focus ((repeat (first | (with_reducible (first | assumption | exact hec _ | exact hec2 _ | exact hec3 _ | exact hec4 _ _)) | ((with_reducible apply readc_here); (focus (first | (simp only [zc, zd, ze, go_sem]; (try with_reducible rfl); done) | (go_simp; (try with_reducible rfl); done)))) | (with_reducible (first | (apply readc_left; assumption) | refine readc_exh (by assumption) ?_ | refine readc_exh0 (by assumption) ?_ | apply readc_next)))); done)); (focus rfl); simp only [Act.put, zg, zh, zi]))
        (go_ret; simp only [za, zb, zc, zd, ze, zf])
        exact ⟨_, rfl, hs.mono (ent_pu rfl ent_refl)⟩
def actsEq (l m : List ActD) : Bool := decide (l.length = m.length) && (List.range l.length).all fun i => actvEq (l.getD i act0) (m.getD i act0)
theorem actsEq_no {l m : List ActD} {k : Nat} {x y : ActD} (hx : l[k]? = some x) (hy : m[k]? = some y) (h : actvEq x y = false) : actsEq l m = false := by
  unfold actsEq
  have hk := (List.getElem?_eq_some_iff.1 hx).1
  rw [show ((List.range l.length).all fun i => actvEq (l.getD i act0) (m.getD i act0)) = false from List.all_eq_false.2 ⟨k, List.mem_range.2 hk, by rw [za, za, hx, hy]; simp [h]⟩]
  exact Bool.and_false _
set_option maxHeartbeats 1000000 in
theorem actsK_s (c0 : World) (F : HP) (v u : Value) (l m : List ActD) : Spec Tryd.prog c0 43 #[v, u] (pu (SlR F 13 actv v l ∧ SlR F 13 actv u m) F) (fun r => pu (r = .bool (actsEq l m)) F) := by
  intro w hq; obtain ⟨⟨hsl, hsl2⟩, hs⟩ := hq.pu; clear hq
  obtain ⟨A, c, rfl⟩ := slr_form hsl hs.own
  obtain ⟨B, d, rfl⟩ := slr_form hsl2 hs.own
  obtain ⟨_, hn1, hn2, _⟩ := slr_len hsl hs.own
  obtain ⟨_, hn3, hn4, _⟩ := slr_len hsl2 hs.own
  unfold maxLen at hn2 hn4
  by_cases hlen : l.length = m.length
  · have hE : actsEq l m = (List.range l.length).all fun i => actvEq (l.getD i act0) (m.getD i act0) := by unfold actsEq; rw [decide_eq_true hlen, Bool.true_and]
    have hno : ∀ k x y, l[k]? = some x → m[k]? = some y → actvEq x y = false → actsEq l m = false := fun k x y => actsEq_no
    have hyes : (∀ j x y, j < l.length → l[j]? = some x → m[j]? = some y → actvEq x y = true) → actsEq l m = true := fun h => by
      rw [hE]
      refine List.all_eq_true.2 fun i hi => ?_
      have hi1 := List.mem_range.1 hi
      rw [za, za, List.getElem?_eq_getElem hi1, List.getElem?_eq_getElem (show i < m.length by omega)]
      exact h i _ _ hi1 (List.getElem?_eq_getElem hi1) (List.getElem?_eq_getElem (show i < m.length by omega))
    clear hE
    rw [← hlen] at hsl2 hn3 ⊢
    generalize hL : l.length = n at *
    replace hL := Lib.hid hL
    replace hlen := Lib.hid hlen
    replace hno := Lib.hid hno
    replace hyes := Lib.hid hyes
    go_enter Tryd.func43, Tryd.ntmps43
    go_wp2_with fail
    obtain ⟨H1, hH1, hq⟩ := Sat.name hs; clear hs; have hs := hq; clear hq
    go_loopw [5] (fun i wr => ∃ k : Nat, k ≤ n ∧ (∀ j x y, j < k → l[j]? = some x → m[j]? = some y → actvEq x y = true) ∧ i = .int .i64 k ∧ Sat c0 H1 wr) (fun i _ => n - (intOf i).toNat)
    case atStart => exact ⟨0, by omega, fun j _ _ h => by omega, rfl, hs⟩
    case round =>
      obtain ⟨k, hk, hall, rfl, hs⟩ := hrel
      replace hall := Lib.hid hall
      subst hH1
      by_cases hlt : k < n
      · obtain ⟨gb, o, x, rfl, hlx, hel0⟩ := slr_get hsl hs.own hlt
        obtain ⟨gb2, o2, y, rfl, hly, hel20⟩ := slr_get hsl2 hs.own hlt
        go_wp2_with (first
        | ((with_reducible apply wp_region_sl (G := emp) (id := 6) hs 1000); (focus (exact ent_emp_l)); (focus kernel_rfl); (focus decide +kernel); clear hs; (try clear w); intro hR w hRR hs; (try simp only [star_assoc] at hs))
        | ((with_reducible apply mix_end hRR hs); (focus with_reducible (repeat (first | exact ent_here | apply ent_next | exact ent_last)); done); clear hs; (try clear w); intro w hs; (try simp only [star_assoc, star_emp, emp_star] at hs); clear hRR hR)
        | ((with_reducible apply mx_loadN hRR); (focus (simp only [Act.eval, za, zb, zc, zd, ze, zf]; (try with_reducible rfl); done)); (with_reducible (first | exact agg_78)); (focus ((repeat (first | (with_reducible (first | assumption | exact hel _ | exact hel2 _ | exact hel3 _)) | ((with_reducible apply reads_whole); (focus (first | (with_reducible rfl) | (simp only [go_sem]; done) | (simp; done)))) | ((with_reducible apply reads_part); (focus (first | (simp [go_sem]; done) | (simp only [go_sem]; omega) | go_size)); (focus (first | (simp only [Nat.reduceAdd, Nat.zero_add, go_sem]; (try with_reducible rfl); done) | (simp [go_sem]; (try with_reducible rfl); done)))) | (with_reducible (first | (apply reads_left; assumption) | refine reads_exh (by assumption) ?_ | refine reads_exh0 (by assumption) ?_ | apply reads_next)))); done)); simp only [Act.put, zg, zh, zi])
        | ((with_reducible refine mix_float ?_ ?_ ?_ (fun h hk => ?_) ?_); rotate_left 1; (focus rfl); (focus rfl); (focus (go_simp; (try (rw [if_pos (by omega)]; (try go_simp))); (try simp (disch := omega) only [IntWalk.i64_in, IntWalk.i32_in]); (try with_reducible rfl); done)); simp only [Act.put, zg, zh, zi]))
        · (go_ret; simp only [za, zb, zc, zd, ze, zf])
          exact ⟨_, rfl, hs.mono (ent_pu (congrArg Value.bool (hno.out k x y hlx hly (by simpa using ‹(!actvEq x y) = true›)).symm) ent_refl)⟩
        · exact ⟨⟨k + 1, by omega, fun j a b hj ha hb => by
            rcases Nat.lt_or_eq_of_le (Nat.le_of_lt_succ hj) with h1 | h1
            · exact hall.out j a b h1 ha hb
            · subst h1; rw [hlx] at ha; rw [hly] at hb; cases ha; cases hb; simpa using ‹(!actvEq x y) = false›, by go_num, hs⟩, by simp [intOf]; omega⟩
      · go_wp2_with fail
        (go_ret; simp only [za, zb, zc, zd, ze, zf])
        exact ⟨_, rfl, hs.mono (ent_pu (congrArg Value.bool (hyes.out fun j a b hj ha hb => hall.out j a b (by omega) ha hb).symm) ent_refl)⟩
  · have hE : actsEq l m = false := by unfold actsEq; rw [decide_eq_false hlen, Bool.false_and]
    rw [hE]
    go_enter Tryd.func43, Tryd.ntmps43
    go_wp2_with fail
    (go_ret; simp only [za, zb, zc, zd, ze, zf])
    exact ⟨_, rfl, hs.mono (ent_pu rfl ent_refl)⟩
def msgEq (d e : MsgD) (l m : List ActD) : Bool := d.kind == e.kind && (d.frm == e.frm && (d.ep == e.ep && (clkEq d.c e.c && (rndsEq d.r e.r && actsEq l m))))
set_option maxHeartbeats 1000000 in
theorem message_s (c0 : World) (F : HP) (d e : MsgD) (l m : List ActD) : Spec Tryd.prog c0 14 #[.agg (msg d), .agg (msg e)] (pu (SlR F 13 actv d.s l ∧ SlR F 13 actv e.s m) F) (fun r => pu (r = .bool (msgEq d e l m)) F) := by
  intro w hq; obtain ⟨⟨hsl, hsl2⟩, hs⟩ := hq.pu; clear hq
  unfold MsgD.s at hsl hsl2
  go_enter Tryd.func14, Tryd.ntmps14
  go_wp2_with (first
        | ((with_reducible rewrite [pl_strike_eq]); rotate_left 1; (focus rfl))
        | ((with_reducible rewrite [pl_skip_eq]); rotate_left 1; (focus rfl); simp only [Act.put, zg, zh, zi])
        | ((with_reducible apply pl_guard_t); (focus rfl); (focus rfl); all_goals (intro hb; first | (cases hb; done) | ((try simp at hb); first | contradiction | ((have hF : False := (by omega)); (cases hF; done)) | (simp only [Act.put, zg, zh, zi]))))
        | ((with_reducible apply pl_call hs (actsK_s _ _ _ _ l m)); (go_must (((focus (simp only [zj, zk, zl, List.append_toArray, List.nil_append, List.cons_append, Act.eval, za, zb, zc, zd, ze, zf]; (try with_reducible rfl); done)); (focus ((repeat (first | (with_reducible (first | exact ent_refl | apply ent_puR)) | ((with_reducible apply ent_front); (focus with_reducible (repeat (first | exact ent_here | apply ent_next | exact ent_last)); done)) | (with_reducible (first | exact ent_keep | apply ent_trans ent_drop)) | (focus (first | ((repeat' (first | (with_reducible apply And.intro) | (focus (first | ((repeat (first | (with_reducible (first | assumption | exact slr_ro |  exact hsl _ | exact hsl2 _ | exact hsl3 _ _ _ | exact slr_nil | exact slr_row (fun _ => by simp only [go_sem]) | exact slr_one (fun _ => by simp only [go_sem]) | (apply slr_left; assumption))) | (with_reducible apply slr_next))); done) | ((repeat (first | (with_reducible (first | assumption | exact slr_ro |  exact hsl _ | exact hsl2 _ | exact hsl3 _ _ _ | exact slr_nil | exact slr_row (fun _ => by simp only [go_sem]) | exact slr_one (fun _ => by simp only [go_sem]) | (apply slr_left; assumption))) | (with_reducible (first | (apply slr_exh; focus assumption) | (apply slr_exh0; focus assumption) | apply slr_next)))); done))))); done))))); done)); (focus (simp only [go_sem]))))); clear hs; (try clear w); intro v w hq; (obtain ⟨rfl, hs⟩ := hq.pu); clear hq; (try simp only [star_assoc, star_emp, emp_star] at hs); (try simp only [Act.put, zg, zh, zi]))
        | ((with_reducible apply pl_loadN hs); (focus (simp only [Act.eval, za, zb, zc, zd, ze, zf]; (try with_reducible rfl); done)); (with_reducible (first | exact agg_23 | exact agg_28)); (focus ((repeat (first | (with_reducible (first | assumption | exact hel _ | exact hel2 _ | exact hel3 _)) | ((with_reducible apply reads_whole); (focus (first | (with_reducible rfl) | (simp only [go_sem]; done) | (simp; done)))) | ((with_reducible apply reads_part); (focus (first | (simp [go_sem]; done) | (simp only [go_sem]; omega) | go_size)); (focus (first | (simp only [Nat.reduceAdd, Nat.zero_add, go_sem]; (try with_reducible rfl); done) | (simp [go_sem]; (try with_reducible rfl); done)))) | (with_reducible (first | (apply reads_left; assumption) | refine reads_exh (by assumption) ?_ | refine reads_exh0 (by assumption) ?_ | apply reads_next)))); done)); (focus rfl); simp only [Act.put, zg, zh, zi])
        | ((with_reducible apply pl_load1 hs); (focus (simp only [Act.eval, za, zb, zc, zd, ze, zf]; (try with_reducible rfl); done)); (focus (simp only [go_sem])); (focus ((repeat (first | (with_reducible (first | assumption | exact hec _ | exact hec2 _ | exact hec3 _ | exact hec4 _ _)) | ((with_reducible apply readc_here); (focus (first | (simp only [zc, zd, ze, go_sem]; (try with_reducible rfl); done) | (go_simp; (try with_reducible rfl); done)))) | (with_reducible (first | (apply readc_left; assumption) | refine readc_exh (by assumption) ?_ | refine readc_exh0 (by assumption) ?_ | apply readc_next)))); done)); (focus rfl); simp only [Act.put, zg, zh, zi])
        | ((with_reducible apply pl_box hs); (focus (simp only [Act.eval, za, zb, zc, zd, ze, zf]; (try with_reducible rfl); done)); (focus (first | (with_reducible (first | exact cells_intv _ | exact cells_bytv _ | exact cells_agg _ | exact cells_int _ _ | exact cells_bool _ | exact cells_string _ | exact cells_slice _ _ _ | exact cells_pointer _ | exact cells_map _ | exact cells_iface _ _ | exact cells_nilIface | exact cells_func _ _ _)) | (exact cells_one (by assumption)))); clear hs; (try clear w); intro g w hs; skip; simp only [Act.put, zg, zh, zi]))
  all_goals (
    (go_ret; simp only [za, zb, zc, zd, ze, zf])
    exact ⟨_, rfl, hs.mono (ent_pu (congrArg Value.bool (by unfold msgEq; simp [*])) (by ((repeat (first | (with_reducible (first | exact ent_refl | exact ent_emp)) | ((with_reducible apply ent_front); (focus with_reducible (repeat (first | exact ent_here | apply ent_next | exact ent_last)); done)) | (with_reducible (first | exact ent_keep | apply ent_trans ent_drop)))); done)))⟩)
theorem clip_s (c0 : World) (F : HP) (A : Option Addr) (n c : Nat) (l : List Int) : Spec Tryd.prog c0 15 #[.slice A n c] (pu (SlR F 1 bytv (.slice A n c) l) F) (fun r => pu (r = .slice A (min n 3000) c ∧ SlR F 1 bytv (.slice A (min n 3000) c) (l.take 3000)) F) := by
  intro w hq; obtain ⟨hsl, hs⟩ := hq.pu; clear hq
  obtain ⟨hn, hn1, hn2, hn3⟩ := slr_len hsl hs.own
  unfold maxLen at hn2
  have hcut : SlR F 1 bytv (.slice A (min n 3000) c) (l.take 3000) := by
    rcases Nat.lt_or_ge 3000 n with h | h
    · rw [Nat.min_eq_right (by omega)]
      exact slr_take hsl 3000 (by omega)
    · rw [Nat.min_eq_left h, List.take_of_length_le (by omega)]
      exact hsl
  replace hcut := Lib.hid hcut
  by_cases h3 : 3000 < n
  · have h3' : (3000 : Int) < n := by omega
    rw [Nat.min_eq_right (by omega)] at hcut ⊢
    cases A with
    | none => exact absurd (hn3 rfl) (by omega)
    | some ad =>
    clear hn hn3
    obtain ⟨gb, o, e⟩ := ad
    go_enter Tryd.func15, Tryd.ntmps15
    go_wp2_with fail
    (go_ret; simp only [za, zb, zc, zd, ze, zf])
    exact ⟨_, rfl, hs.mono (ent_pu ⟨rfl, hcut.out⟩ ent_refl)⟩
  · have h3' : ¬ (3000 : Int) < n := by omega
    rw [Nat.min_eq_left (by omega)] at hcut ⊢
    clear hn hn3
    go_enter Tryd.func15, Tryd.ntmps15
    go_wp2_with fail
    (go_ret; simp only [za, zb, zc, zd, ze, zf])
    exact ⟨_, rfl, hs.mono (ent_pu ⟨rfl, hcut.out⟩ ent_refl)⟩
end Go.Proofs.YtegebjflhhbmiaaDoor
