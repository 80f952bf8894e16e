/- back: what a reader makes of items' bytes, whole or cut. -/
import Derived.Test.YtdniiegnaabagaaDoorVM
set_option linter.unusedSimpArgs false
set_option linter.unusedVariables false
namespace Go.Proofs.YtdniiegnaabagaaDoor
open Go Go.RowKit

theorem encI_in {x : ItmD} (hx : ItmI x) : ∀ b, b ∈ encI x → InB b := by
  intro b hb
  unfold encI at hb
  split at hb
  · exact form_in _ b hb
  · split at hb
    · rcases List.mem_append.1 hb with h | h
      · exact form_in _ b h
      · exact ofb_in _ b h
    · simp at hb
      subst hb
      exact hx.b
theorem encL_in {l : List ItmD} (h : ∀ x, x ∈ l → ItmI x) : ∀ b, b ∈ encL l → InB b := by
  intro b hb
  obtain ⟨x, hx, hb⟩ := List.mem_flatMap.1 hb
  exact encI_in (h x hx) b hb
theorem encI_pos (x : ItmD) : 0 < (encI x).length := by
  unfold encI
  split
  · exact form_pos _
  · split
    · have := form_pos x.s.size
      rw [List.length_append]
      omega
    · simp
set_option maxRecDepth 20000 in
set_option maxHeartbeats 4000000 in
theorem back_s (c0 : World) (F : HP) (ad : Nat → Addr) (vb vm : Value) (R : List Int) (m : List ItmD) (k : Nat) : Spec Tryd.prog c0 27 #[vb, vm]
    (pu (ErrA F ad ∧ SlR F 1 bytv vb R ∧ SlR F 4 itm vm m ∧ (∀ x, x ∈ m → ItmI x ∧ okI x = true) ∧ R = (encL m).take k ∧ (encL m).length ≤ 4360) F)
    (fun r => ex fun n : Int => ex fun code : Int => pu (r = .tuple #[.int .i64 n, .int .i64 code] ∧ ((encL m).length ≤ k → n = m.length ∧ code = 0) ∧ (k < (encL m).length → 0 ≤ n ∧ n < m.length ∧ code = 7)) F) := by
  intro w hq; obtain ⟨⟨hE, hsb, hsm, hI, hR, hL⟩, hs⟩ := hq.pu; clear hq
  obtain ⟨A, c, rfl⟩ := slr_form hsm hs.own
  obtain ⟨_, hn1, hn2, _⟩ := slr_len hsm hs.own
  unfold maxLen at hn2
  have hEb : ErrB F ad := hE.b
  have hIR : ∀ b, b ∈ R → InB b := fun b hb => encL_in (fun x hx => (hI x hx).1) b (List.mem_of_mem_take (hR ▸ hb))
  have hRl : R.length = min k (encL m).length := by rw [hR, List.length_take]
  obtain ⟨q, hq⟩ : ∃ q, q = R.length := ⟨_, rfl⟩
  have hq4 : q ≤ 4360 := by omega
  generalize hn : m.length = n at *
  replace hn := Lib.hid hn
  have hnr : ∀ F v, Spec Tryd.prog c0 13 #[v] (pu (SlR F 1 bytv v R) F) (fun r => ex fun g : Nat => ex fun gb : Nat => pu (r = .pointer (some ⟨g, 0, none⟩)) (rdc g (some ⟨gb, 0, none⟩) q q (0 : Nat) .nilIface * (row 5 1 bytv (.slice (some ⟨gb, 0, none⟩) q q) R * F))) := fun F v w hs => by
    refine (newReader_s c0 F ad v R w (hs.mono (ent_pu_l fun h => ent_pu ⟨h, by omega⟩ ent_refl))).mono fun ex w' ⟨r, hx, h⟩ => ⟨r, hx, ?_⟩
    rw [← hq] at h
    obtain ⟨g, h⟩ := h.ex
    obtain ⟨gb, h⟩ := h.ex
    obtain ⟨hv, h⟩ := h.pu
    obtain ⟨_, h'⟩ := rdr_none rfl h
    exact h'.mono (ent_ex g (ent_ex gb (ent_pu hv ent_refl)))
  have hcd : ∀ F t p ls, Spec Tryd.prog c0 48 #[.iface t (.pointer p)] (pu (ErrA F ad) (fch ad ls 7 (.iface t (.pointer p)) * F)) (fun r => pu (r = .int .i64 7) F) := fun F t p ls w hs => by
    refine (code_s c0 F ad 7 ls (.iface t (.pointer p)) (by simp) w (hs.mono (ent_pu_l fun h => ent_pu ⟨h, by omega, by omega⟩ ent_refl))).mono fun ex w' ⟨r, hx, h⟩ => ⟨r, hx, ?_⟩
    obtain ⟨hv, h⟩ := h.pu
    exact h.mono (ent_pu hv ent_drop)
  have hcn := fun F => codeNil_s c0 F
  replace hRl := Lib.hid hRl
  replace hR := Lib.hid hR
  replace hL := Lib.hid hL
  replace hq := Lib.hid hq
  go_enter Tryd.func27, Tryd.ntmps27
  go_wp2_with (first
        | ((with_reducible apply pl_call hs (hnr _ _)); (go_must (((focus (simp only [zj, zk, zl, List.append_toArray, List.nil_append, List.cons_append, Act.eval, za, zb, zc, zd, ze, zf]; (try with_reducible rfl); done)); (focus ((repeat (first | (with_reducible (first | exact ent_refl | apply ent_puR)) | ((with_reducible apply ent_front); (focus with_reducible (repeat (first | exact ent_here | apply ent_next | exact ent_last)); done)) | (with_reducible (first | exact ent_keep | apply ent_trans ent_drop)) | (focus (first | (with_reducible assumption))))); done)); (focus (simp only [go_sem]))))); clear hs; (try clear w); intro v w hq; (obtain ⟨gr, hq1⟩ := hq.ex; obtain ⟨gb, hq2⟩ := hq1.ex; obtain ⟨rfl, hs⟩ := hq2.pu; clear hq1 hq2); clear hq; (try simp only [star_assoc, star_emp, emp_star] at hs); (try simp only [Act.put, zg, zh, zi])))
  go_loopw [7] (fun i wr => ∃ (j p : Nat), j ≤ n ∧ i = .int .i64 j ∧ p = (encL (m.take j)).length ∧ p ≤ k ∧ Sat c0 (rdc gr (some ⟨gb, 0, none⟩) q q (p : Nat) .nilIface * (row 5 1 bytv (.slice (some ⟨gb, 0, none⟩) q q) R * F)) wr) (fun i _ => n - (intOf i).toNat)
  case atStart => exact ⟨0, 0, by omega, rfl, by simp [encL], by omega, hs⟩
  case round =>
    clear hs
    obtain ⟨j, p, hj, rfl, hp, hpk, hs⟩ := hrel
    have hpq : p ≤ q := by
      have h1 := hRl.out
      have h2 := hq.out
      have h3 : p ≤ (encL m).length := by
        rw [hp]
        have h4 : encL m = encL (m.take j) ++ encL (m.drop j) := by
          conv => lhs; rw [← List.take_append_drop j m]
          unfold encL
          rw [List.flatMap_append]
        rw [h4, List.length_append]
        omega
      omega
    have hIn : (⟨R, p, none⟩ : RdS).In := ⟨by have := hq.out; dsimp only; omega, hIR⟩
    by_cases hlt : j < n
    · obtain ⟨gm, om, x, rfl, hlx, hel0⟩ := slr_get hsm (hs.own.mono (ent_trans ent_drop ent_drop)) hlt
      have hc0 : ReadC F gm (om + j * 4) (.int .i64 x.kind) := hel0.cell (i := 0) (by omega) rfl
      have hc1 : ReadC F gm (om + j * 4 + 1) (.int .i64 x.n) := hel0.cell (i := 1) (by omega) rfl
      have hc2 : ReadC F gm (om + j * 4 + 2) (.string x.s) := hel0.cell (i := 2) (by omega) rfl
      have hc3 : ReadC F gm (om + j * 4 + 3) (.int .u8 x.b) := hel0.cell (i := 3) (by omega) rfl
      clear hel0
      obtain ⟨hxI, hok⟩ := hI x (List.mem_of_getElem? hlx)
      have hxl := encI_len hxI hok
      have hxp := encI_pos x
      obtain ⟨ht1, ht2⟩ := encL_at hlx
      have hD : R.drop p = (encI x ++ encL (m.drop (j + 1))).take (k - p) := by
        rw [hR.out, hp, ht1]
        exact cut_at (by omega)
      have hkin := hxI.kind
      have hlen : k < p + (encI x).length → k < (encL m).length := fun h => by
        rw [ht1, List.length_append, List.length_append, ← hp]
        omega
      have hnx : p + (encI x).length = (encL (m.take (j + 1))).length := by rw [ht2, List.length_append, hp]
      have hki : kindI x = x.kind % 3 := rfl
      have hns : okI x = true := hok
      unfold okI at hok
      simp only [Bool.and_eq_true, decide_eq_true_eq, Bool.or_eq_true, hki] at hok
      obtain ⟨h100, hok⟩ := hok
      have hprd : ∀ F', ErrB F' ad → SlR F' 1 bytv (.slice (some ⟨gb, 0, none⟩) q q) R → PRd (some ⟨gb, 0, none⟩) q q R ad F' := fun F' h1 h2 => ⟨h2, h1⟩
      by_cases hfull : (encI x).length ≤ k - p
      · have hD2 : R.drop p = encI x ++ (encL (m.drop (j + 1))).take (k - p - (encI x).length) := by
          rw [hD, List.take_append, List.take_of_length_le hfull]
        have hpk2 : p + (encI x).length ≤ k := by omega
        clear hlen hD ht1 ht2 hlx hns
        by_cases hk0 : x.kind % 3 = 0
        · have hn0 : 0 ≤ x.n := by omega
          have he : encI x = form x.n.toNat := by unfold encI; rw [hki, if_pos hk0]
          have hnI := hxI.n
          unfold InI at hnI
          have hx := num_full (n := x.n.toNat) (p := p) (by omega) (he ▸ hD2)
          rw [← he] at hx
          have h1 : ∀ F, Spec Tryd.prog c0 15 #[.pointer (some ⟨gr, 0, none⟩), .int .i64 9223372036854775807] (pu (ErrB F ad ∧ SlR F 1 bytv (.slice (some ⟨gb, 0, none⟩) q q) R) (rdc gr (some ⟨gb, 0, none⟩) q q p .nilIface * F)) (fun r => pu (r = .tuple #[.int .i64 x.n, .nilIface]) (rdc gr (some ⟨gb, 0, none⟩) q q (p + (encI x).length : Nat) .nilIface * F)) := fun F w hs => by
            have := numOk c0 F ad gr (some ⟨gb, 0, none⟩) q q p _ x.n.toNat R _ hx hIn w (hs.mono (ent_pu_l fun h => ent_pu (hprd _ h.1 h.2) ent_refl))
            rw [Int.toNat_of_nonneg hn0] at this
            exact this
          clear hx hD2 he hki hxI hIn hprd hok
          generalize p + (encI x).length = p2 at *
          go_wp2_with (first
        | ((with_reducible apply pl_call hs (within_s _ _ _ _)); (go_must (((focus (simp only [zj, zk, zl, List.append_toArray, List.nil_append, List.cons_append, Act.eval, za, zb, zc, zd, ze, zf]; (try with_reducible rfl); done)); (focus ((repeat (first | (with_reducible (first | exact ent_refl | apply ent_puR)) | ((with_reducible apply ent_front); (focus with_reducible (repeat (first | exact ent_here | apply ent_next | exact ent_last)); done)) | (with_reducible (first | exact ent_keep | apply ent_trans ent_drop)) | (focus (first | ((repeat' (first | (with_reducible assumption) | (with_reducible apply And.intro) | omega)); done))))); done)); (focus (simp only [go_sem]))))); clear hs; (try clear w); intro v w hq; (obtain ⟨rfl, hs⟩ := hq.pu); clear hq; (try simp only [star_assoc, star_emp, emp_star] at hs); (try simp only [Act.put, zg, zh, zi]))
        | ((with_reducible apply pl_call hs (h1 _)); (go_must (((focus (simp only [zj, zk, zl, List.append_toArray, List.nil_append, List.cons_append, Act.eval, za, zb, zc, zd, ze, zf]; (try with_reducible rfl); done)); (focus ((repeat (first | (with_reducible (first | exact ent_refl | apply ent_puR)) | ((with_reducible apply ent_front); (focus with_reducible (repeat (first | exact ent_here | apply ent_next | exact ent_last)); done)) | (with_reducible (first | exact ent_keep | apply ent_trans ent_drop)) | (focus (first | ((repeat' (first | (with_reducible apply And.intro) | (focus (first | ((repeat (first | (with_reducible (first | assumption | exact slr_ro |  exact hsl _ | exact hsl2 _ | exact hsl3 _ _ _ | exact slr_nil | exact slr_row (fun _ => by simp only [go_sem]) | exact slr_one (fun _ => by simp only [go_sem]) | (apply slr_left; assumption))) | (with_reducible apply slr_next))); done) | ((repeat (first | (with_reducible (first | assumption | exact slr_ro |  exact hsl _ | exact hsl2 _ | exact hsl3 _ _ _ | exact slr_nil | exact slr_row (fun _ => by simp only [go_sem]) | exact slr_one (fun _ => by simp only [go_sem]) | (apply slr_left; assumption))) | (with_reducible (first | (apply slr_exh; focus assumption) | (apply slr_exh0; focus assumption) | apply slr_next)))); done))) | (focus (with_reducible (repeat (first | assumption | (apply ErrA.left; assumption) | refine ErrA.exh (by assumption) ?_ | refine ErrA.exh0 (by assumption) ?_ | apply ErrA.next | (apply ErrB.left; assumption) | refine ErrB.exh (by assumption) ?_ | refine ErrB.exh0 (by assumption) ?_ | apply ErrB.next)); done)))); done))))); done)); (focus (simp only [go_sem]))))); clear hs; (try clear w); intro v w hq; (obtain ⟨rfl, hs⟩ := hq.pu); clear hq; (try simp only [star_assoc, star_emp, emp_star] at hs); (try simp only [Act.put, zg, zh, zi]))
        | ((with_reducible apply pl_load1 hs); (focus (simp only [Act.eval, za, zb, zc, zd, ze, zf]; (try with_reducible rfl); done)); (focus (simp only [go_sem])); (focus ((repeat (first | (with_reducible (first | assumption | exact hec _ | exact hec2 _ | exact hec3 _ | exact hec4 _ _)) | ((with_reducible apply readc_here); (focus (first | (simp only [zc, zd, ze, go_sem]; (try with_reducible rfl); done) | (go_simp; (try with_reducible rfl); done)))) | (with_reducible (first | (apply readc_left; assumption) | refine readc_exh (by assumption) ?_ | refine readc_exh0 (by assumption) ?_ | apply readc_next)))); done)); (focus rfl); simp only [Act.put, zg, zh, zi]))
          exact ⟨⟨j + 1, p2, by omega, by go_num, hnx, hpk2, hs⟩, by simp [intOf]; omega⟩
        · by_cases hk1 : x.kind % 3 = 1
          · have he : encI x = form x.s.size ++ ofb x.s := by unfold encI; rw [hki, if_neg hk0, if_pos hk1]
            have hx := text_full (s := x.s) (p := p) (by omega) (he ▸ hD2)
            rw [← he] at hx
            have h1 : ∀ F, Spec Tryd.prog c0 17 #[.pointer (some ⟨gr, 0, none⟩), .int .i64 9223372036854775807] (pu (ErrB F ad ∧ SlR F 1 bytv (.slice (some ⟨gb, 0, none⟩) q q) R) (rdc gr (some ⟨gb, 0, none⟩) q q p .nilIface * F)) (fun r => pu (r = .tuple #[.string x.s, .nilIface]) (rdc gr (some ⟨gb, 0, none⟩) q q (p + (encI x).length : Nat) .nilIface * F)) := fun F w hs => by
              have := txtOk c0 F ad gr (some ⟨gb, 0, none⟩) q q p _ (ofb x.s) R _ hx hIn w (hs.mono (ent_pu_l fun h => ent_pu (hprd _ h.1 h.2) ent_refl))
              rw [bts_ofb] at this
              exact this
            clear hx hD2 he hki hxI hIn hprd hok
            generalize p + (encI x).length = p2 at *
            go_wp2_with (first
        | ((with_reducible apply pl_call hs (within_s _ _ _ _)); (go_must (((focus (simp only [zj, zk, zl, List.append_toArray, List.nil_append, List.cons_append, Act.eval, za, zb, zc, zd, ze, zf]; (try with_reducible rfl); done)); (focus ((repeat (first | (with_reducible (first | exact ent_refl | apply ent_puR)) | ((with_reducible apply ent_front); (focus with_reducible (repeat (first | exact ent_here | apply ent_next | exact ent_last)); done)) | (with_reducible (first | exact ent_keep | apply ent_trans ent_drop)) | (focus (first | ((repeat' (first | (with_reducible assumption) | (with_reducible apply And.intro) | omega)); done))))); done)); (focus (simp only [go_sem]))))); clear hs; (try clear w); intro v w hq; (obtain ⟨rfl, hs⟩ := hq.pu); clear hq; (try simp only [star_assoc, star_emp, emp_star] at hs); (try simp only [Act.put, zg, zh, zi]))
        | ((with_reducible apply pl_call hs (h1 _)); (go_must (((focus (simp only [zj, zk, zl, List.append_toArray, List.nil_append, List.cons_append, Act.eval, za, zb, zc, zd, ze, zf]; (try with_reducible rfl); done)); (focus ((repeat (first | (with_reducible (first | exact ent_refl | apply ent_puR)) | ((with_reducible apply ent_front); (focus with_reducible (repeat (first | exact ent_here | apply ent_next | exact ent_last)); done)) | (with_reducible (first | exact ent_keep | apply ent_trans ent_drop)) | (focus (first | ((repeat' (first | (with_reducible apply And.intro) | (focus (first | ((repeat (first | (with_reducible (first | assumption | exact slr_ro |  exact hsl _ | exact hsl2 _ | exact hsl3 _ _ _ | exact slr_nil | exact slr_row (fun _ => by simp only [go_sem]) | exact slr_one (fun _ => by simp only [go_sem]) | (apply slr_left; assumption))) | (with_reducible apply slr_next))); done) | ((repeat (first | (with_reducible (first | assumption | exact slr_ro |  exact hsl _ | exact hsl2 _ | exact hsl3 _ _ _ | exact slr_nil | exact slr_row (fun _ => by simp only [go_sem]) | exact slr_one (fun _ => by simp only [go_sem]) | (apply slr_left; assumption))) | (with_reducible (first | (apply slr_exh; focus assumption) | (apply slr_exh0; focus assumption) | apply slr_next)))); done))) | (focus (with_reducible (repeat (first | assumption | (apply ErrA.left; assumption) | refine ErrA.exh (by assumption) ?_ | refine ErrA.exh0 (by assumption) ?_ | apply ErrA.next | (apply ErrB.left; assumption) | refine ErrB.exh (by assumption) ?_ | refine ErrB.exh0 (by assumption) ?_ | apply ErrB.next)); done)))); done))))); done)); (focus (simp only [go_sem]))))); clear hs; (try clear w); intro v w hq; (obtain ⟨rfl, hs⟩ := hq.pu); clear hq; (try simp only [star_assoc, star_emp, emp_star] at hs); (try simp only [Act.put, zg, zh, zi]))
        | ((with_reducible apply pl_load1 hs); (focus (simp only [Act.eval, za, zb, zc, zd, ze, zf]; (try with_reducible rfl); done)); (focus (simp only [go_sem])); (focus ((repeat (first | (with_reducible (first | assumption | exact hec _ | exact hec2 _ | exact hec3 _ | exact hec4 _ _)) | ((with_reducible apply readc_here); (focus (first | (simp only [zc, zd, ze, go_sem]; (try with_reducible rfl); done) | (go_simp; (try with_reducible rfl); done)))) | (with_reducible (first | (apply readc_left; assumption) | refine readc_exh (by assumption) ?_ | refine readc_exh0 (by assumption) ?_ | apply readc_next)))); done)); (focus rfl); simp only [Act.put, zg, zh, zi]))
            exact ⟨⟨j + 1, p2, by omega, by go_num, hnx, hpk2, hs⟩, by simp [intOf]; omega⟩
          · have he : encI x = [x.b] := by unfold encI; rw [hki, if_neg hk0, if_neg hk1]
            have hx := byte_full (p := p) (he ▸ hD2)
            have h1 : ∀ F, Spec Tryd.prog c0 19 #[.pointer (some ⟨gr, 0, none⟩)] (pu (ErrB F ad ∧ SlR F 1 bytv (.slice (some ⟨gb, 0, none⟩) q q) R) (rdc gr (some ⟨gb, 0, none⟩) q q p .nilIface * F)) (fun r => pu (r = .tuple #[.int .u8 x.b, .nilIface]) (rdc gr (some ⟨gb, 0, none⟩) q q (p + (encI x).length : Nat) .nilIface * F)) := fun F w hs => by
              have := bytOk c0 F ad gr (some ⟨gb, 0, none⟩) q q p _ x.b R hx hIn w (hs.mono (ent_pu_l fun h => ent_pu (hprd _ h.1 h.2) ent_refl))
              rw [he]
              exact this
            clear hx hD2 he hki hxI hIn hprd hok
            have hk2 : x.kind % 3 = 2 := by omega
            clear hk0 hk1
            generalize p + (encI x).length = p2 at *
            go_wp2_with (first
        | ((with_reducible apply pl_call hs (within_s _ _ _ _)); (go_must (((focus (simp only [zj, zk, zl, List.append_toArray, List.nil_append, List.cons_append, Act.eval, za, zb, zc, zd, ze, zf]; (try with_reducible rfl); done)); (focus ((repeat (first | (with_reducible (first | exact ent_refl | apply ent_puR)) | ((with_reducible apply ent_front); (focus with_reducible (repeat (first | exact ent_here | apply ent_next | exact ent_last)); done)) | (with_reducible (first | exact ent_keep | apply ent_trans ent_drop)) | (focus (first | ((repeat' (first | (with_reducible assumption) | (with_reducible apply And.intro) | omega)); done))))); done)); (focus (simp only [go_sem]))))); clear hs; (try clear w); intro v w hq; (obtain ⟨rfl, hs⟩ := hq.pu); clear hq; (try simp only [star_assoc, star_emp, emp_star] at hs); (try simp only [Act.put, zg, zh, zi]))
        | ((with_reducible apply pl_call hs (h1 _)); (go_must (((focus (simp only [zj, zk, zl, List.append_toArray, List.nil_append, List.cons_append, Act.eval, za, zb, zc, zd, ze, zf]; (try with_reducible rfl); done)); (focus ((repeat (first | (with_reducible (first | exact ent_refl | apply ent_puR)) | ((with_reducible apply ent_front); (focus with_reducible (repeat (first | exact ent_here | apply ent_next | exact ent_last)); done)) | (with_reducible (first | exact ent_keep | apply ent_trans ent_drop)) | (focus (first | ((repeat' (first | (with_reducible apply And.intro) | (focus (first | ((repeat (first | (with_reducible (first | assumption | exact slr_ro |  exact hsl _ | exact hsl2 _ | exact hsl3 _ _ _ | exact slr_nil | exact slr_row (fun _ => by simp only [go_sem]) | exact slr_one (fun _ => by simp only [go_sem]) | (apply slr_left; assumption))) | (with_reducible apply slr_next))); done) | ((repeat (first | (with_reducible (first | assumption | exact slr_ro |  exact hsl _ | exact hsl2 _ | exact hsl3 _ _ _ | exact slr_nil | exact slr_row (fun _ => by simp only [go_sem]) | exact slr_one (fun _ => by simp only [go_sem]) | (apply slr_left; assumption))) | (with_reducible (first | (apply slr_exh; focus assumption) | (apply slr_exh0; focus assumption) | apply slr_next)))); done))) | (focus (with_reducible (repeat (first | assumption | (apply ErrA.left; assumption) | refine ErrA.exh (by assumption) ?_ | refine ErrA.exh0 (by assumption) ?_ | apply ErrA.next | (apply ErrB.left; assumption) | refine ErrB.exh (by assumption) ?_ | refine ErrB.exh0 (by assumption) ?_ | apply ErrB.next)); done)))); done))))); done)); (focus (simp only [go_sem]))))); clear hs; (try clear w); intro v w hq; (obtain ⟨rfl, hs⟩ := hq.pu); clear hq; (try simp only [star_assoc, star_emp, emp_star] at hs); (try simp only [Act.put, zg, zh, zi]))
        | ((with_reducible apply pl_load1 hs); (focus (simp only [Act.eval, za, zb, zc, zd, ze, zf]; (try with_reducible rfl); done)); (focus (simp only [go_sem])); (focus ((repeat (first | (with_reducible (first | assumption | exact hec _ | exact hec2 _ | exact hec3 _ | exact hec4 _ _)) | ((with_reducible apply readc_here); (focus (first | (simp only [zc, zd, ze, go_sem]; (try with_reducible rfl); done) | (go_simp; (try with_reducible rfl); done)))) | (with_reducible (first | (apply readc_left; assumption) | refine readc_exh (by assumption) ?_ | refine readc_exh0 (by assumption) ?_ | apply readc_next)))); done)); (focus rfl); simp only [Act.put, zg, zh, zi]))
            exact ⟨⟨j + 1, p2, by omega, by go_num, hnx, hpk2, hs⟩, by simp [intOf]; omega⟩
      · have hsh : k - p < (encI x).length := by omega
        have hD2 : R.drop p = (encI x).take (k - p) := by
          rw [hD, List.take_append_of_le_length (by omega)]
        have hlk := hlen (by omega)
        replace hlk := Lib.hid hlk
        clear hlen hD ht1 ht2 hlx hns hnx
        by_cases hk0 : x.kind % 3 = 0
        · have hn0 : 0 ≤ x.n := by omega
          have he : encI x = form x.n.toNat := by unfold encI; rw [hki, if_pos hk0]
          have hnI := hxI.n
          unfold InI at hnI
          have hx := num_short (n := x.n.toNat) (p := p) (j := k - p) (by omega) (by rw [← he]; omega) (by rw [← he]; exact hD2)
          have h1 : ∀ F, Spec Tryd.prog c0 15 #[.pointer (some ⟨gr, 0, none⟩), .int .i64 9223372036854775807] (pu (ErrB F ad ∧ SlR F 1 bytv (.slice (some ⟨gb, 0, none⟩) q q) R) (rdc gr (some ⟨gb, 0, none⟩) q q p .nilIface * F)) (fun r => ex fun t : TypeId => ex fun q : Option Addr => pu (r = .tuple #[.int .i64 0, .iface t (.pointer q)]) (fch ad [⟨wireB, cNumber, p⟩] 7 (.iface t (.pointer q)) * F)) := fun F w hs =>
            numNo c0 F ad gr (some ⟨gb, 0, none⟩) q q p R _ hx hIn w (hs.mono (ent_pu_l fun h => ent_pu (hprd _ h.1 h.2) ent_refl))
          clear hx hD2 he hki hxI hIn hprd hok hsh hfull hxl hxp
          go_wp2_with (first
        | ((with_reducible apply pl_call hs (within_s _ _ _ _)); (go_must (((focus (simp only [zj, zk, zl, List.append_toArray, List.nil_append, List.cons_append, Act.eval, za, zb, zc, zd, ze, zf]; (try with_reducible rfl); done)); (focus ((repeat (first | (with_reducible (first | exact ent_refl | apply ent_puR)) | ((with_reducible apply ent_front); (focus with_reducible (repeat (first | exact ent_here | apply ent_next | exact ent_last)); done)) | (with_reducible (first | exact ent_keep | apply ent_trans ent_drop)) | (focus (first | ((repeat' (first | (with_reducible assumption) | (with_reducible apply And.intro) | omega)); done))))); done)); (focus (simp only [go_sem]))))); clear hs; (try clear w); intro v w hq; (obtain ⟨rfl, hs⟩ := hq.pu); clear hq; (try simp only [star_assoc, star_emp, emp_star] at hs); (try simp only [Act.put, zg, zh, zi]))
        | ((with_reducible apply pl_call hs (h1 _)); (go_must (((focus (simp only [zj, zk, zl, List.append_toArray, List.nil_append, List.cons_append, Act.eval, za, zb, zc, zd, ze, zf]; (try with_reducible rfl); done)); (focus ((repeat (first | (with_reducible (first | exact ent_refl | apply ent_puR)) | ((with_reducible apply ent_front); (focus with_reducible (repeat (first | exact ent_here | apply ent_next | exact ent_last)); done)) | (with_reducible (first | exact ent_keep | apply ent_trans ent_drop)) | (focus (first | ((repeat' (first | (with_reducible apply And.intro) | (focus (first | ((repeat (first | (with_reducible (first | assumption | exact slr_ro |  exact hsl _ | exact hsl2 _ | exact hsl3 _ _ _ | exact slr_nil | exact slr_row (fun _ => by simp only [go_sem]) | exact slr_one (fun _ => by simp only [go_sem]) | (apply slr_left; assumption))) | (with_reducible apply slr_next))); done) | ((repeat (first | (with_reducible (first | assumption | exact slr_ro |  exact hsl _ | exact hsl2 _ | exact hsl3 _ _ _ | exact slr_nil | exact slr_row (fun _ => by simp only [go_sem]) | exact slr_one (fun _ => by simp only [go_sem]) | (apply slr_left; assumption))) | (with_reducible (first | (apply slr_exh; focus assumption) | (apply slr_exh0; focus assumption) | apply slr_next)))); done))) | (focus (with_reducible (repeat (first | assumption | (apply ErrA.left; assumption) | refine ErrA.exh (by assumption) ?_ | refine ErrA.exh0 (by assumption) ?_ | apply ErrA.next | (apply ErrB.left; assumption) | refine ErrB.exh (by assumption) ?_ | refine ErrB.exh0 (by assumption) ?_ | apply ErrB.next)); done)))); done))))); done)); (focus (simp only [go_sem]))))); clear hs; (try clear w); intro v w hq; (obtain ⟨t1, hq1⟩ := hq.ex; obtain ⟨q1, hq2⟩ := hq1.ex; obtain ⟨rfl, hs⟩ := hq2.pu; clear hq1 hq2); clear hq; (try simp only [star_assoc, star_emp, emp_star] at hs); (try simp only [Act.put, zg, zh, zi]))
        | ((with_reducible apply pl_call hs (hcd _ _ _ [⟨wireB, cNumber, p⟩])); (go_must (((focus (simp only [zj, zk, zl, List.append_toArray, List.nil_append, List.cons_append, Act.eval, za, zb, zc, zd, ze, zf]; (try with_reducible rfl); done)); (focus ((repeat (first | (with_reducible (first | exact ent_refl | apply ent_puR)) | ((with_reducible apply ent_front); (focus with_reducible (repeat (first | exact ent_here | apply ent_next | exact ent_last)); done)) | (with_reducible (first | exact ent_keep | apply ent_trans ent_drop)) | (focus (first | (focus (with_reducible (repeat (first | assumption | (apply ErrA.left; assumption) | refine ErrA.exh (by assumption) ?_ | refine ErrA.exh0 (by assumption) ?_ | apply ErrA.next | (apply ErrB.left; assumption) | refine ErrB.exh (by assumption) ?_ | refine ErrB.exh0 (by assumption) ?_ | apply ErrB.next)); done)))))); done)); (focus (simp only [go_sem]))))); clear hs; (try clear w); intro v w hq; (obtain ⟨rfl, hs⟩ := hq.pu); clear hq; (try simp only [star_assoc, star_emp, emp_star] at hs); (try simp only [Act.put, zg, zh, zi]))
        | ((with_reducible apply pl_load1 hs); (focus (simp only [Act.eval, za, zb, zc, zd, ze, zf]; (try with_reducible rfl); done)); (focus (simp only [go_sem])); (focus ((repeat (first | (with_reducible (first | assumption | exact hec _ | exact hec2 _ | exact hec3 _ | exact hec4 _ _)) | ((with_reducible apply readc_here); (focus (first | (simp only [zc, zd, ze, go_sem]; (try with_reducible rfl); done) | (go_simp; (try with_reducible rfl); done)))) | (with_reducible (first | (apply readc_left; assumption) | refine readc_exh (by assumption) ?_ | refine readc_exh0 (by assumption) ?_ | apply readc_next)))); done)); (focus rfl); simp only [Act.put, zg, zh, zi]))
          (go_ret2; simp only [za, zb, zc, zd, ze, zf])
          exact ⟨_, rfl, hs.mono (ent_ex (j : Int) (ent_ex 7 (ent_pu ⟨rfl, by have := hlk.out; omega, by omega⟩ (by ((repeat (first | (with_reducible (first | exact ent_refl | exact ent_emp)) | ((with_reducible apply ent_front); (focus with_reducible (repeat (first | exact ent_here | apply ent_next | exact ent_last)); done)) | (with_reducible (first | exact ent_keep | apply ent_trans ent_drop)))); done)))))⟩
        · by_cases hk1 : x.kind % 3 = 1
          · have he : encI x = form x.s.size ++ ofb x.s := by unfold encI; rw [hki, if_neg hk0, if_pos hk1]
            have hx := text_short (s := x.s) (p := p) (j := k - p) (by omega) (by rw [← he]; omega) (by rw [← he]; exact hD2)
            have h1 : ∀ F, Spec Tryd.prog c0 17 #[.pointer (some ⟨gr, 0, none⟩), .int .i64 9223372036854775807] (pu (ErrB F ad ∧ SlR F 1 bytv (.slice (some ⟨gb, 0, none⟩) q q) R) (rdc gr (some ⟨gb, 0, none⟩) q q p .nilIface * F)) (fun r => ex fun t : TypeId => ex fun q : Option Addr => pu (r = .tuple #[.string (bts []), .iface t (.pointer q)]) (fch ad [⟨wireB, cText, p⟩] 7 (.iface t (.pointer q)) * F)) := fun F w hs =>
              txtNo c0 F ad gr (some ⟨gb, 0, none⟩) q q p R _ hx hIn w (hs.mono (ent_pu_l fun h => ent_pu (hprd _ h.1 h.2) ent_refl))
            clear hx hD2 he hki hxI hIn hprd hok hsh hfull hxl hxp
            generalize bts [] = bz at *
            by_cases hbz : bz = x.s
            · subst hbz
              go_wp2_with (first
        | ((with_reducible apply pl_call hs (within_s _ _ _ _)); (go_must (((focus (simp only [zj, zk, zl, List.append_toArray, List.nil_append, List.cons_append, Act.eval, za, zb, zc, zd, ze, zf]; (try with_reducible rfl); done)); (focus ((repeat (first | (with_reducible (first | exact ent_refl | apply ent_puR)) | ((with_reducible apply ent_front); (focus with_reducible (repeat (first | exact ent_here | apply ent_next | exact ent_last)); done)) | (with_reducible (first | exact ent_keep | apply ent_trans ent_drop)) | (focus (first | ((repeat' (first | (with_reducible assumption) | (with_reducible apply And.intro) | omega)); done))))); done)); (focus (simp only [go_sem]))))); clear hs; (try clear w); intro v w hq; (obtain ⟨rfl, hs⟩ := hq.pu); clear hq; (try simp only [star_assoc, star_emp, emp_star] at hs); (try simp only [Act.put, zg, zh, zi]))
        | ((with_reducible apply pl_call hs (h1 _)); (go_must (((focus (simp only [zj, zk, zl, List.append_toArray, List.nil_append, List.cons_append, Act.eval, za, zb, zc, zd, ze, zf]; (try with_reducible rfl); done)); (focus ((repeat (first | (with_reducible (first | exact ent_refl | apply ent_puR)) | ((with_reducible apply ent_front); (focus with_reducible (repeat (first | exact ent_here | apply ent_next | exact ent_last)); done)) | (with_reducible (first | exact ent_keep | apply ent_trans ent_drop)) | (focus (first | ((repeat' (first | (with_reducible apply And.intro) | (focus (first | ((repeat (first | (with_reducible (first | assumption | exact slr_ro |  exact hsl _ | exact hsl2 _ | exact hsl3 _ _ _ | exact slr_nil | exact slr_row (fun _ => by simp only [go_sem]) | exact slr_one (fun _ => by simp only [go_sem]) | (apply slr_left; assumption))) | (with_reducible apply slr_next))); done) | ((repeat (first | (with_reducible (first | assumption | exact slr_ro |  exact hsl _ | exact hsl2 _ | exact hsl3 _ _ _ | exact slr_nil | exact slr_row (fun _ => by simp only [go_sem]) | exact slr_one (fun _ => by simp only [go_sem]) | (apply slr_left; assumption))) | (with_reducible (first | (apply slr_exh; focus assumption) | (apply slr_exh0; focus assumption) | apply slr_next)))); done))) | (focus (with_reducible (repeat (first | assumption | (apply ErrA.left; assumption) | refine ErrA.exh (by assumption) ?_ | refine ErrA.exh0 (by assumption) ?_ | apply ErrA.next | (apply ErrB.left; assumption) | refine ErrB.exh (by assumption) ?_ | refine ErrB.exh0 (by assumption) ?_ | apply ErrB.next)); done)))); done))))); done)); (focus (simp only [go_sem]))))); clear hs; (try clear w); intro v w hq; (obtain ⟨t1, hq1⟩ := hq.ex; obtain ⟨q1, hq2⟩ := hq1.ex; obtain ⟨rfl, hs⟩ := hq2.pu; clear hq1 hq2); clear hq; (try simp only [star_assoc, star_emp, emp_star] at hs); (try simp only [Act.put, zg, zh, zi]))
        | ((with_reducible apply pl_call hs (hcd _ _ _ [⟨wireB, cText, p⟩])); (go_must (((focus (simp only [zj, zk, zl, List.append_toArray, List.nil_append, List.cons_append, Act.eval, za, zb, zc, zd, ze, zf]; (try with_reducible rfl); done)); (focus ((repeat (first | (with_reducible (first | exact ent_refl | apply ent_puR)) | ((with_reducible apply ent_front); (focus with_reducible (repeat (first | exact ent_here | apply ent_next | exact ent_last)); done)) | (with_reducible (first | exact ent_keep | apply ent_trans ent_drop)) | (focus (first | (focus (with_reducible (repeat (first | assumption | (apply ErrA.left; assumption) | refine ErrA.exh (by assumption) ?_ | refine ErrA.exh0 (by assumption) ?_ | apply ErrA.next | (apply ErrB.left; assumption) | refine ErrB.exh (by assumption) ?_ | refine ErrB.exh0 (by assumption) ?_ | apply ErrB.next)); done)))))); done)); (focus (simp only [go_sem]))))); clear hs; (try clear w); intro v w hq; (obtain ⟨rfl, hs⟩ := hq.pu); clear hq; (try simp only [star_assoc, star_emp, emp_star] at hs); (try simp only [Act.put, zg, zh, zi]))
        | ((with_reducible apply pl_load1 hs); (focus (simp only [Act.eval, za, zb, zc, zd, ze, zf]; (try with_reducible rfl); done)); (focus (simp only [go_sem])); (focus ((repeat (first | (with_reducible (first | assumption | exact hec _ | exact hec2 _ | exact hec3 _ | exact hec4 _ _)) | ((with_reducible apply readc_here); (focus (first | (simp only [zc, zd, ze, go_sem]; (try with_reducible rfl); done) | (go_simp; (try with_reducible rfl); done)))) | (with_reducible (first | (apply readc_left; assumption) | refine readc_exh (by assumption) ?_ | refine readc_exh0 (by assumption) ?_ | apply readc_next)))); done)); (focus rfl); simp only [Act.put, zg, zh, zi]))
              (go_ret2; simp only [za, zb, zc, zd, ze, zf])
              exact ⟨_, rfl, hs.mono (ent_ex (j : Int) (ent_ex 7 (ent_pu ⟨rfl, by have := hlk.out; omega, by omega⟩ (by ((repeat (first | (with_reducible (first | exact ent_refl | exact ent_emp)) | ((with_reducible apply ent_front); (focus with_reducible (repeat (first | exact ent_here | apply ent_next | exact ent_last)); done)) | (with_reducible (first | exact ent_keep | apply ent_trans ent_drop)))); done)))))⟩
            · go_wp2_with (first
        | ((with_reducible apply pl_call hs (within_s _ _ _ _)); (go_must (((focus (simp only [zj, zk, zl, List.append_toArray, List.nil_append, List.cons_append, Act.eval, za, zb, zc, zd, ze, zf]; (try with_reducible rfl); done)); (focus ((repeat (first | (with_reducible (first | exact ent_refl | apply ent_puR)) | ((with_reducible apply ent_front); (focus with_reducible (repeat (first | exact ent_here | apply ent_next | exact ent_last)); done)) | (with_reducible (first | exact ent_keep | apply ent_trans ent_drop)) | (focus (first | ((repeat' (first | (with_reducible assumption) | (with_reducible apply And.intro) | omega)); done))))); done)); (focus (simp only [go_sem]))))); clear hs; (try clear w); intro v w hq; (obtain ⟨rfl, hs⟩ := hq.pu); clear hq; (try simp only [star_assoc, star_emp, emp_star] at hs); (try simp only [Act.put, zg, zh, zi]))
        | ((with_reducible apply pl_call hs (h1 _)); (go_must (((focus (simp only [zj, zk, zl, List.append_toArray, List.nil_append, List.cons_append, Act.eval, za, zb, zc, zd, ze, zf]; (try with_reducible rfl); done)); (focus ((repeat (first | (with_reducible (first | exact ent_refl | apply ent_puR)) | ((with_reducible apply ent_front); (focus with_reducible (repeat (first | exact ent_here | apply ent_next | exact ent_last)); done)) | (with_reducible (first | exact ent_keep | apply ent_trans ent_drop)) | (focus (first | ((repeat' (first | (with_reducible apply And.intro) | (focus (first | ((repeat (first | (with_reducible (first | assumption | exact slr_ro |  exact hsl _ | exact hsl2 _ | exact hsl3 _ _ _ | exact slr_nil | exact slr_row (fun _ => by simp only [go_sem]) | exact slr_one (fun _ => by simp only [go_sem]) | (apply slr_left; assumption))) | (with_reducible apply slr_next))); done) | ((repeat (first | (with_reducible (first | assumption | exact slr_ro |  exact hsl _ | exact hsl2 _ | exact hsl3 _ _ _ | exact slr_nil | exact slr_row (fun _ => by simp only [go_sem]) | exact slr_one (fun _ => by simp only [go_sem]) | (apply slr_left; assumption))) | (with_reducible (first | (apply slr_exh; focus assumption) | (apply slr_exh0; focus assumption) | apply slr_next)))); done))) | (focus (with_reducible (repeat (first | assumption | (apply ErrA.left; assumption) | refine ErrA.exh (by assumption) ?_ | refine ErrA.exh0 (by assumption) ?_ | apply ErrA.next | (apply ErrB.left; assumption) | refine ErrB.exh (by assumption) ?_ | refine ErrB.exh0 (by assumption) ?_ | apply ErrB.next)); done)))); done))))); done)); (focus (simp only [go_sem]))))); clear hs; (try clear w); intro v w hq; (obtain ⟨t1, hq1⟩ := hq.ex; obtain ⟨q1, hq2⟩ := hq1.ex; obtain ⟨rfl, hs⟩ := hq2.pu; clear hq1 hq2); clear hq; (try simp only [star_assoc, star_emp, emp_star] at hs); (try simp only [Act.put, zg, zh, zi]))
        | ((with_reducible apply pl_call hs (hcd _ _ _ [⟨wireB, cText, p⟩])); (go_must (((focus (simp only [zj, zk, zl, List.append_toArray, List.nil_append, List.cons_append, Act.eval, za, zb, zc, zd, ze, zf]; (try with_reducible rfl); done)); (focus ((repeat (first | (with_reducible (first | exact ent_refl | apply ent_puR)) | ((with_reducible apply ent_front); (focus with_reducible (repeat (first | exact ent_here | apply ent_next | exact ent_last)); done)) | (with_reducible (first | exact ent_keep | apply ent_trans ent_drop)) | (focus (first | (focus (with_reducible (repeat (first | assumption | (apply ErrA.left; assumption) | refine ErrA.exh (by assumption) ?_ | refine ErrA.exh0 (by assumption) ?_ | apply ErrA.next | (apply ErrB.left; assumption) | refine ErrB.exh (by assumption) ?_ | refine ErrB.exh0 (by assumption) ?_ | apply ErrB.next)); done)))))); done)); (focus (simp only [go_sem]))))); clear hs; (try clear w); intro v w hq; (obtain ⟨rfl, hs⟩ := hq.pu); clear hq; (try simp only [star_assoc, star_emp, emp_star] at hs); (try simp only [Act.put, zg, zh, zi]))
        | ((with_reducible apply pl_load1 hs); (focus (simp only [Act.eval, za, zb, zc, zd, ze, zf]; (try with_reducible rfl); done)); (focus (simp only [go_sem])); (focus ((repeat (first | (with_reducible (first | assumption | exact hec _ | exact hec2 _ | exact hec3 _ | exact hec4 _ _)) | ((with_reducible apply readc_here); (focus (first | (simp only [zc, zd, ze, go_sem]; (try with_reducible rfl); done) | (go_simp; (try with_reducible rfl); done)))) | (with_reducible (first | (apply readc_left; assumption) | refine readc_exh (by assumption) ?_ | refine readc_exh0 (by assumption) ?_ | apply readc_next)))); done)); (focus rfl); simp only [Act.put, zg, zh, zi]))
              (go_ret2; simp only [za, zb, zc, zd, ze, zf])
              exact ⟨_, rfl, hs.mono (ent_ex (j : Int) (ent_ex 7 (ent_pu ⟨rfl, by have := hlk.out; omega, by omega⟩ (by ((repeat (first | (with_reducible (first | exact ent_refl | exact ent_emp)) | ((with_reducible apply ent_front); (focus with_reducible (repeat (first | exact ent_here | apply ent_next | exact ent_last)); done)) | (with_reducible (first | exact ent_keep | apply ent_trans ent_drop)))); done)))))⟩
          · have he : encI x = [x.b] := by unfold encI; rw [hki, if_neg hk0, if_neg hk1]
            have hx := byte_short (p := p) (R := R) (by rw [hD2, he]; rw [he] at hsh; rw [show k - p = 0 by simp at hsh; omega]; rfl)
            have h1 : ∀ F, Spec Tryd.prog c0 19 #[.pointer (some ⟨gr, 0, none⟩)] (pu (ErrB F ad ∧ SlR F 1 bytv (.slice (some ⟨gb, 0, none⟩) q q) R) (rdc gr (some ⟨gb, 0, none⟩) q q p .nilIface * F)) (fun r => ex fun t : TypeId => ex fun q : Option Addr => pu (r = .tuple #[.int .u8 0, .iface t (.pointer q)]) (fch ad [⟨wireB, cByte, p⟩] 7 (.iface t (.pointer q)) * F)) := fun F w hs =>
              bytNo c0 F ad gr (some ⟨gb, 0, none⟩) q q p R hx hIn w (hs.mono (ent_pu_l fun h => ent_pu (hprd _ h.1 h.2) ent_refl))
            have hk2 : x.kind % 3 = 2 := by omega
            clear hx hD2 he hki hxI hIn hprd hok hsh hfull hxl hxp hk0 hk1
            go_wp2_with (first
        | ((with_reducible apply pl_call hs (within_s _ _ _ _)); (go_must (((focus (simp only [zj, zk, zl, List.append_toArray, List.nil_append, List.cons_append, Act.eval, za, zb, zc, zd, ze, zf]; (try with_reducible rfl); done)); (focus ((repeat (first | (with_reducible (first | exact ent_refl | apply ent_puR)) | ((with_reducible apply ent_front); (focus with_reducible (repeat (first | exact ent_here | apply ent_next | exact ent_last)); done)) | (with_reducible (first | exact ent_keep | apply ent_trans ent_drop)) | (focus (first | ((repeat' (first | (with_reducible assumption) | (with_reducible apply And.intro) | omega)); done))))); done)); (focus (simp only [go_sem]))))); clear hs; (try clear w); intro v w hq; (obtain ⟨rfl, hs⟩ := hq.pu); clear hq; (try simp only [star_assoc, star_emp, emp_star] at hs); (try simp only [Act.put, zg, zh, zi]))
        | ((with_reducible apply pl_call hs (h1 _)); (go_must (((focus (simp only [zj, zk, zl, List.append_toArray, List.nil_append, List.cons_append, Act.eval, za, zb, zc, zd, ze, zf]; (try with_reducible rfl); done)); (focus ((repeat (first | (with_reducible (first | exact ent_refl | apply ent_puR)) | ((with_reducible apply ent_front); (focus with_reducible (repeat (first | exact ent_here | apply ent_next | exact ent_last)); done)) | (with_reducible (first | exact ent_keep | apply ent_trans ent_drop)) | (focus (first | ((repeat' (first | (with_reducible apply And.intro) | (focus (first | ((repeat (first | (with_reducible (first | assumption | exact slr_ro |  exact hsl _ | exact hsl2 _ | exact hsl3 _ _ _ | exact slr_nil | exact slr_row (fun _ => by simp only [go_sem]) | exact slr_one (fun _ => by simp only [go_sem]) | (apply slr_left; assumption))) | (with_reducible apply slr_next))); done) | ((repeat (first | (with_reducible (first | assumption | exact slr_ro |  exact hsl _ | exact hsl2 _ | exact hsl3 _ _ _ | exact slr_nil | exact slr_row (fun _ => by simp only [go_sem]) | exact slr_one (fun _ => by simp only [go_sem]) | (apply slr_left; assumption))) | (with_reducible (first | (apply slr_exh; focus assumption) | (apply slr_exh0; focus assumption) | apply slr_next)))); done))) | (focus (with_reducible (repeat (first | assumption | (apply ErrA.left; assumption) | refine ErrA.exh (by assumption) ?_ | refine ErrA.exh0 (by assumption) ?_ | apply ErrA.next | (apply ErrB.left; assumption) | refine ErrB.exh (by assumption) ?_ | refine ErrB.exh0 (by assumption) ?_ | apply ErrB.next)); done)))); done))))); done)); (focus (simp only [go_sem]))))); clear hs; (try clear w); intro v w hq; (obtain ⟨t1, hq1⟩ := hq.ex; obtain ⟨q1, hq2⟩ := hq1.ex; obtain ⟨rfl, hs⟩ := hq2.pu; clear hq1 hq2); clear hq; (try simp only [star_assoc, star_emp, emp_star] at hs); (try simp only [Act.put, zg, zh, zi]))
        | ((with_reducible apply pl_call hs (hcd _ _ _ [⟨wireB, cByte, p⟩])); (go_must (((focus (simp only [zj, zk, zl, List.append_toArray, List.nil_append, List.cons_append, Act.eval, za, zb, zc, zd, ze, zf]; (try with_reducible rfl); done)); (focus ((repeat (first | (with_reducible (first | exact ent_refl | apply ent_puR)) | ((with_reducible apply ent_front); (focus with_reducible (repeat (first | exact ent_here | apply ent_next | exact ent_last)); done)) | (with_reducible (first | exact ent_keep | apply ent_trans ent_drop)) | (focus (first | (focus (with_reducible (repeat (first | assumption | (apply ErrA.left; assumption) | refine ErrA.exh (by assumption) ?_ | refine ErrA.exh0 (by assumption) ?_ | apply ErrA.next | (apply ErrB.left; assumption) | refine ErrB.exh (by assumption) ?_ | refine ErrB.exh0 (by assumption) ?_ | apply ErrB.next)); done)))))); done)); (focus (simp only [go_sem]))))); clear hs; (try clear w); intro v w hq; (obtain ⟨rfl, hs⟩ := hq.pu); clear hq; (try simp only [star_assoc, star_emp, emp_star] at hs); (try simp only [Act.put, zg, zh, zi]))
        | ((with_reducible apply pl_load1 hs); (focus (simp only [Act.eval, za, zb, zc, zd, ze, zf]; (try with_reducible rfl); done)); (focus (simp only [go_sem])); (focus ((repeat (first | (with_reducible (first | assumption | exact hec _ | exact hec2 _ | exact hec3 _ | exact hec4 _ _)) | ((with_reducible apply readc_here); (focus (first | (simp only [zc, zd, ze, go_sem]; (try with_reducible rfl); done) | (go_simp; (try with_reducible rfl); done)))) | (with_reducible (first | (apply readc_left; assumption) | refine readc_exh (by assumption) ?_ | refine readc_exh0 (by assumption) ?_ | apply readc_next)))); done)); (focus rfl); simp only [Act.put, zg, zh, zi]))
            (go_ret2; simp only [za, zb, zc, zd, ze, zf])
            exact ⟨_, rfl, hs.mono (ent_ex (j : Int) (ent_ex 7 (ent_pu ⟨rfl, by have := hlk.out; omega, by omega⟩ (by ((repeat (first | (with_reducible (first | exact ent_refl | exact ent_emp)) | ((with_reducible apply ent_front); (focus with_reducible (repeat (first | exact ent_here | apply ent_next | exact ent_last)); done)) | (with_reducible (first | exact ent_keep | apply ent_trans ent_drop)))); done)))))⟩
    · obtain rfl : j = n := by omega
      have hpm : p = (encL m).length := by rw [hp, List.take_of_length_le (by have := hn.out; omega)]
      have hpR : p = R.length := by have := hRl.out; omega
      have h1 : ∀ F, Spec Tryd.prog c0 49 #[.pointer (some ⟨gr, 0, none⟩)] (pu (ErrB F ad ∧ SlR F 1 bytv (.slice (some ⟨gb, 0, none⟩) q q) R) (rdc gr (some ⟨gb, 0, none⟩) q q p .nilIface * F)) (fun r => pu (r = .nilIface) F) := fun F w hs =>
        endOk c0 F ad gr (some ⟨gb, 0, none⟩) q q p R hpR hIn w (hs.mono (ent_pu_l fun h => ent_pu ⟨h.2, h.1⟩ ent_refl))
      have hnk : ¬ k < (encL m).length := by omega
      replace hnk := Lib.hid hnk
      clear hIn
      go_wp2_with (first
        | ((with_reducible apply pl_call hs (h1 _)); (go_must (((focus (simp only [zj, zk, zl, List.append_toArray, List.nil_append, List.cons_append, Act.eval, za, zb, zc, zd, ze, zf]; (try with_reducible rfl); done)); (focus ((repeat (first | (with_reducible (first | exact ent_refl | apply ent_puR)) | ((with_reducible apply ent_front); (focus with_reducible (repeat (first | exact ent_here | apply ent_next | exact ent_last)); done)) | (with_reducible (first | exact ent_keep | apply ent_trans ent_drop)) | (focus (first | ((repeat' (first | (with_reducible apply And.intro) | (focus (first | ((repeat (first | (with_reducible (first | assumption | exact slr_ro |  exact hsl _ | exact hsl2 _ | exact hsl3 _ _ _ | exact slr_nil | exact slr_row (fun _ => by simp only [go_sem]) | exact slr_one (fun _ => by simp only [go_sem]) | (apply slr_left; assumption))) | (with_reducible apply slr_next))); done) | ((repeat (first | (with_reducible (first | assumption | exact slr_ro |  exact hsl _ | exact hsl2 _ | exact hsl3 _ _ _ | exact slr_nil | exact slr_row (fun _ => by simp only [go_sem]) | exact slr_one (fun _ => by simp only [go_sem]) | (apply slr_left; assumption))) | (with_reducible (first | (apply slr_exh; focus assumption) | (apply slr_exh0; focus assumption) | apply slr_next)))); done))) | (focus (with_reducible (repeat (first | assumption | (apply ErrA.left; assumption) | refine ErrA.exh (by assumption) ?_ | refine ErrA.exh0 (by assumption) ?_ | apply ErrA.next | (apply ErrB.left; assumption) | refine ErrB.exh (by assumption) ?_ | refine ErrB.exh0 (by assumption) ?_ | apply ErrB.next)); done)))); done))))); done)); (focus (simp only [go_sem]))))); clear hs; (try clear w); intro v w hq; (obtain ⟨rfl, hs⟩ := hq.pu); clear hq; (try simp only [star_assoc, star_emp, emp_star] at hs); (try simp only [Act.put, zg, zh, zi]))
        | ((with_reducible apply pl_call hs (hcn _)); (go_must (((focus (simp only [zj, zk, zl, List.append_toArray, List.nil_append, List.cons_append, Act.eval, za, zb, zc, zd, ze, zf]; (try with_reducible rfl); done)); (focus ((repeat (first | (with_reducible (first | exact ent_refl | apply ent_puR)) | ((with_reducible apply ent_front); (focus with_reducible (repeat (first | exact ent_here | apply ent_next | exact ent_last)); done)) | (with_reducible (first | exact ent_keep | apply ent_trans ent_drop)) | (fail))); done)); (focus (simp only [go_sem]))))); clear hs; (try clear w); intro v w hq; (obtain ⟨rfl, hs⟩ := hq.pu); clear hq; (try simp only [star_assoc, star_emp, emp_star] at hs); (try simp only [Act.put, zg, zh, zi])))
      (go_ret2; simp only [za, zb, zc, zd, ze, zf])
      exact ⟨_, rfl, hs.mono (ent_ex (j : Int) (ent_ex 0 (ent_pu ⟨rfl, fun _ => ⟨rfl, rfl⟩, fun h => absurd h hnk.out⟩ (by ((repeat (first | (with_reducible (first | exact ent_refl | exact ent_emp)) | ((with_reducible apply ent_front); (focus with_reducible (repeat (first | exact ent_here | apply ent_next | exact ent_last)); done)) | (with_reducible (first | exact ent_keep | apply ent_trans ent_drop)))); done)))))⟩
end Go.Proofs.YtdniiegnaabagaaDoor
