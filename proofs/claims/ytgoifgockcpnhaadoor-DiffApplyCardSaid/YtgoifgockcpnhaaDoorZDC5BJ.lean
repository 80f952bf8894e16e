/- Apply and Invert: by the program. -/
import Derived.Test.YtgoifgockcpnhaaDoorZDC5BI
set_option linter.unusedSimpArgs false
set_option linter.unusedVariables false
namespace Go.Proofs.YtgoifgockcpnhaaDoor
open Go Go.RowKit

theorem rev_swap {α : Type} {l m : List α} {k jj n : Nat} (hn : l.length = n) (hm : m.length = n) (hkj : k + jj = n) (hle : jj ≤ k + 1) (h : ∀ j, j < n → m[j]? = if j < k ∨ jj ≤ j then l[n - 1 - j]? else l[j]?) : m = l.reverse := by
  apply List.ext_getElem?
  intro j
  by_cases hj : j < n
  · rw [h j hj, List.getElem?_reverse (by omega), hn]
    split
    · rfl
    · have : n - 1 - j = j := by omega
      rw [this]
  · rw [List.getElem?_eq_none (by omega), List.getElem?_eq_none (by simp; omega)]
set_option maxHeartbeats 1000000 in
theorem revE_s (c0 : World) (F : HP) (v : Value) (l : List EdtD) : Spec Tryd.prog c0 45 #[v] (pu (l.length ≤ 1000000) (row 44 3 edt v l * F)) (fun r => row 44 3 edt v l.reverse * F) := by
  intro w hq; obtain ⟨h40, hs⟩ := hq.pu; clear hq
  obtain ⟨A, cp, rfl, h1, h2⟩ := row_slice hs.own
  unfold maxLen at h2
  generalize hn : l.length = n at *
  replace hn := Lib.hid hn
  go_enter Tryd.func45, Tryd.ntmps45
  go_wp2_with fail
  go_loopw [2, 3] (fun i j wr => ∃ (k jj : Nat) (m : List EdtD), k + jj = n ∧ k ≤ jj + 1 ∧ i = .int .i64 k ∧ j = .int .i64 ((jj : Int) - 1) ∧ Hid (m.length = n ∧ ∀ j, j < n → m[j]? = if j < k ∨ jj ≤ j then l[n - 1 - j]? else l[j]?) ∧ Sat c0 (row 44 3 edt (.slice A n cp) m * F) wr) (fun i _ _ => n - (intOf i).toNat)
  case atStart => exact ⟨0, n, l, by omega, by omega, rfl, rfl, ⟨hn.out, fun j hj => by rw [if_neg (by omega)]⟩, hs⟩
  case round =>
    obtain ⟨k, jj, m, hkj, hk, rfl, rfl, hm, hs⟩ := hrel
    by_cases hlt : k + 1 < jj
    · obtain ⟨j, rfl⟩ : ∃ j, jj = j + 1 := ⟨jj - 1, by omega⟩
      have hj1 : ((j + 1 : Nat) : Int) - 1 = j := by omega
      rw [hj1]
      have hk1 : k < n := by omega
      have hj2 : j < n := by omega
      have hjk : k < j := by omega
      obtain ⟨g, a, rfl, hla, hel⟩ := row_at hs.own edt_size hk1
      obtain ⟨g', b, hgg, hlb, hel2⟩ := row_at hs.own edt_size hj2
      obtain rfl : g = g' := by simpa using hgg
      clear hgg
      have hkl : k < m.length := by have := hm.out.1; omega
      have hkl2 : j < m.length := by have := hm.out.1; omega
      have hkl3 : j < (m.set k b).length := by rw [List.length_set]; exact hkl2
      replace hla := Lib.hid hla
      replace hlb := Lib.hid hlb
      replace hkj := Lib.hid hkj
      go_wp2_with (first
        | ((with_reducible apply wp_region_mv (G := emp) (id := 3) hs 13 11 [2, 3] [0, 1, 4, 5, 6, 7, 8, 9, 10, 11, 12, 13, 14, 15]); (focus (exact ent_emp_l)); (focus kernel_rfl); (focus decide +kernel); clear hs; (try clear w); intro hR w hRR hs; (try simp only [star_assoc] at hs); simp only [zk, zl, List.getD_cons_zero, List.getD_cons_succ, movedA, moveOf, zc, Act.eval, Act.put, za, zb, zc, zd, ze, zf, zg, zh, zi])
        | ((with_reducible apply pl_storeRow hs); (focus (simp only [Act.eval, za, zb, zc, zd, ze, zf]; (try with_reducible rfl); done)); (focus with_reducible (repeat (first | exact ent_here | apply ent_next | exact ent_last)); done); (focus (simp only [Act.eval, za, zb, zc, zd, ze, zf]; (try with_reducible rfl); done)); (with_reducible (first | exact agg_44)); (focus (first | (with_reducible rfl) | (simp; done))); (focus (first | omega | (simp [go_sem]; omega) | (simp only [go_sem]; omega))); (focus (intro _; simp only [go_sem])); (focus (intro _; simp only [go_sem])); clear hs; (try clear w); intro w hs; skip; simp only [Act.put, zg, zh, zi])
        | (with_reducible refine And.intro rfl ?_)
        | ((with_reducible apply mix_thaw hRR hs); (focus with_reducible (repeat (first | exact ent_here | apply ent_next | exact ent_last)); done); clear hs; (try clear w); intro w hs; (try simp only [star_assoc, star_emp, emp_star] at hs); clear hRR hR)
        | ((with_reducible apply mx_loadN hRR); (focus (simp only [Act.eval, za, zb, zc, zd, ze, zf]; (try with_reducible rfl); done)); (with_reducible (first | exact agg_44)); (focus ((repeat (first | (with_reducible (first | assumption | exact hel _ | exact hel2 _ | exact hel3 _)) | ((with_reducible apply reads_whole); (focus (first | (with_reducible rfl) | (simp only [go_sem]; done) | (simp; done)))) | ((with_reducible apply reads_part); (focus (first | (simp [go_sem]; done) | (simp only [go_sem]; omega) | go_size)); (focus (first | (simp only [Nat.reduceAdd, Nat.zero_add, go_sem]; (try with_reducible rfl); done) | (simp [go_sem]; (try with_reducible rfl); done)))) | (with_reducible (first | (apply reads_left; assumption) | refine reads_exh (by assumption) ?_ | refine reads_exh0 (by assumption) ?_ | apply reads_next)))); done)); simp only [Act.put, zg, zh, zi])
        | ((with_reducible refine mix_float ?_ ?_ ?_ (fun h hk => ?_) ?_); rotate_left 1; (focus rfl); (focus rfl); (focus (go_simp; (try (rw [if_pos (by omega)]; (try go_simp))); (try simp (disch := omega) only [IntWalk.i64_in, IntWalk.i32_in]); (try with_reducible rfl); done)); simp only [Act.put, zg, zh, zi]))
      go_roundw
      case rel => exact ⟨k + 1, j, (m.set k b).set j a, by have := hkj.out; omega, by omega, by go_num, rfl, ⟨by rw [List.length_set, List.length_set]; exact hm.out.1, fun x hx => by
        have h := hm.out.2
        have hkj := hkj.out
        have hla := hla.out
        have hlb := hlb.out
        rw [h k hk1, if_neg (by omega)] at hla
        rw [h j hj2, if_neg (by omega)] at hlb
        rw [List.getElem?_set]
        by_cases hxj : j = x
        · subst hxj
          rw [if_pos rfl, if_pos (by rw [List.length_set, hm.out.1]; exact hx), if_pos (by omega), show n - 1 - j = k by omega, hla]
        · rw [if_neg hxj, List.getElem?_set]
          by_cases hxk : k = x
          · subst hxk
            rw [if_pos rfl, if_pos hkl, if_pos (by omega), show n - 1 - k = j by omega, hlb]
          · rw [if_neg hxk, h x hx]
            by_cases hc : x < k ∨ j + 1 ≤ x
            · rw [if_pos hc, if_pos (by omega)]
            · rw [if_neg hc, if_neg (by omega)]⟩, hs.mono (by ((repeat (first | (with_reducible (first | exact ent_refl | exact ent_emp)) | ((with_reducible apply ent_front); (focus with_reducible (repeat (first | exact ent_here | apply ent_next | exact ent_last)); done)) | (with_reducible (first | exact ent_keep | apply ent_trans ent_drop)))); done))⟩
      case measure => simp [intOf]; omega
    · have hge : ¬ ((k : Int) < (jj : Int) - 1) := by omega
      have hfin : m = l.reverse := rev_swap hn.out hm.out.1 hkj (by omega) hm.out.2
      subst hfin
      clear hm
      go_wp2_with fail
      refine bodyPost_end (results_none rfl _ _ _) rfl ?_
      exact ⟨⟨_, rfl⟩, hs⟩
/-- What Apply answers. -/
def ApR (a : Nat → Addr) (s : ByteArray) (l : List EdtD) (F : HP) (r : Value) : HP := match apR s l with
  | .ok (u, _) => pu (r = .tuple #[.string (rts u), .nilIface]) F
  | .error (i, k) => ex fun e : Value => pu (r = .tuple #[.string ⟨#[]⟩, e]) (RefP a (some ([⟨dfB, cAp, atV (i : Nat)⟩], k)) e * F)
/-- What Invert answers. -/
def InR (a : Nat → Addr) (s : ByteArray) (l : List EdtD) (F : HP) (r : Value) : HP := match apR s l with
  | .ok (_, C) => ex fun v : Value => pu (r = .tuple #[v, .nilIface]) (row 44 3 edt v (C.map encE) * F)
  | .error (i, k) => ex fun e : Value => pu (r = .tuple #[.slice none 0 0, e]) (RefP a (some ([⟨dfB, cIn, atV (i : Nat)⟩], k)) e * F)
abbrev ApPre (F : HP) (a : Nat → Addr) (s : ByteArray) (lv : Value) (l : List EdtD) : Prop := ErrB F a ∧ ReadC F 2 0 (.iface 125 (.pointer (some (a 2)))) ∧ TabF F ∧ SlR F 3 edt lv l ∧ s.size ≤ 10000 ∧ l.length ≤ 300 ∧ outEdits l
theorem apply0S_s (c0 : World) (F : HP) (a : Nat → Addr) (s : ByteArray) (lv : Value) (l : List EdtD) (u : List Int) (C : List Ed) (h : apR s l = .ok (u, C)) : Spec Tryd.prog c0 41 #[.string cAp, .string s, lv, .func (.func 42) #[] #[]] (pu (ApPre F a s lv l) F) (fun r => ex fun v : Value => pu (r = .tuple #[v, .nilIface]) (row 21 1 runv v u * F)) := by
  have := apply0_s c0 F a s lv l
  unfold ApP at this
  rw [h] at this
  simpa only [emp_star] using this
theorem apply0N_s (c0 : World) (F : HP) (a : Nat → Addr) (s : ByteArray) (lv : Value) (l : List EdtD) (i k : Nat) (h : apR s l = .error (i, k)) : Spec Tryd.prog c0 41 #[.string cAp, .string s, lv, .func (.func 42) #[] #[]] (pu (ApPre F a s lv l) F) (fun r => ex fun e : Value => ex fun C : List Ed => pu (r = .tuple #[.slice none 0 0, e]) (RefP a (some ([⟨dfB, cAp, atV (i : Nat)⟩], k)) e * F)) := by
  have := apply0_s c0 F a s lv l
  unfold ApP at this
  rw [h] at this
  simpa only [emp_star] using this
theorem out_new {gl : Nat} {F : HP} : Ent (blk gl (.cells #[.slice none 0 0] 22 (0, 0)) * F) (outP gl [] * F) :=
  ent_trans (B := outB gl none 0 0 [] F) (star_mono ent_refl ent_row_nil) (out_shut rfl rfl)
theorem apply1S_s (c0 : World) (F : HP) (a : Nat → Addr) (gl : Nat) (s : ByteArray) (lv : Value) (l : List EdtD) (u : List Int) (C : List Ed) (h : apR s l = .ok (u, C)) : Spec Tryd.prog c0 41 #[.string cIn, .string s, lv, .func (.func 43) #[] #[.pointer (some ⟨gl, 0, none⟩)]] (pu (ApPre F a s lv l) (blk gl (.cells #[.slice none 0 0] 22 (0, 0)) * F)) (fun r => ex fun v : Value => pu (r = .tuple #[v, .nilIface]) (row 21 1 runv v u * (outP gl C * F))) := by
  have := apply1_s c0 F a gl s lv l
  unfold ApP at this
  rw [h] at this
  exact this.mono (ent_pu_l fun h => ent_pu h out_new) fun _ => ent_refl
theorem apply1N_s (c0 : World) (F : HP) (a : Nat → Addr) (gl : Nat) (s : ByteArray) (lv : Value) (l : List EdtD) (i k : Nat) (h : apR s l = .error (i, k)) : Spec Tryd.prog c0 41 #[.string cIn, .string s, lv, .func (.func 43) #[] #[.pointer (some ⟨gl, 0, none⟩)]] (pu (ApPre F a s lv l) (blk gl (.cells #[.slice none 0 0] 22 (0, 0)) * F)) (fun r => ex fun e : Value => ex fun C : List Ed => pu (r = .tuple #[.slice none 0 0, e]) (RefP a (some ([⟨dfB, cIn, atV (i : Nat)⟩], k)) e * (outP gl C * F))) := by
  have := apply1_s c0 F a gl s lv l
  unfold ApP at this
  rw [h] at this
  exact this.mono (ent_pu_l fun h => ent_pu h out_new) fun _ => ent_refl
set_option maxRecDepth 20000 in
set_option maxHeartbeats 2000000 in
theorem apply_s (c0 : World) (F : HP) (a : Nat → Addr) (s : ByteArray) (lv : Value) (l : List EdtD) : Spec Tryd.prog c0 18 #[.string s, lv] (pu (ApPre F a s lv l) F) (ApR a s l F) := by
  intro w hq; obtain ⟨⟨hE, hgr, hT, hl, hs1, hl1, hl2⟩, hs⟩ := hq.pu; clear hq
  cases hR : apR s l with
  | error pk =>
    obtain ⟨i, k⟩ := pk
    unfold ApR
    rw [hR]
    have hsp := fun F => apply0N_s c0 F a s lv l i k hR
    clear hR
    go_enter Tryd.func18, Tryd.ntmps18
    go_wp2_with (first
        | ((with_reducible apply pl_call hs (hsp _)); ((((focus (simp only [zj, zk, zl, List.append_toArray, List.nil_append, List.cons_append, Act.eval, za, zb, zc, zd, ze, zf]; (try with_reducible rfl); done)); (focus ((repeat (first | (with_reducible (first | exact ent_refl | apply ent_puR)) | ((with_reducible apply ent_front); (focus with_reducible (repeat (first | exact ent_here | apply ent_next | exact ent_last)); done)) | (with_reducible (first | exact ent_keep | apply ent_trans ent_drop)) | (focus (first | ((repeat' (first | (with_reducible assumption) | (with_reducible apply And.intro))); done))))); done)); (focus (simp only [go_sem]))))); clear hs; (try clear w); intro v w hq; (obtain ⟨e, hq1⟩ := hq.ex; obtain ⟨B, hq2⟩ := hq1.ex; obtain ⟨rfl, hs⟩ := hq2.pu; clear hq1 hq2; obtain ⟨te, pe, rfl⟩ := refP_iface hs); clear hq; (try simp only [star_assoc, star_emp, emp_star] at hs); (try simp only [Act.put, zg, zh, zi]))
        | ((with_reducible apply pl_cvRS hs); (focus (simp only [Act.eval, za, zb, zc, zd, ze, zf]; (try with_reducible rfl); done)); (first | (with_reducible exact rut_33_9)); (focus (first | ((repeat (first | (with_reducible (first | assumption | exact slr_ro |  exact hsl _ | exact hsl2 _ | exact hsl3 _ _ _ | exact slr_nil | exact slr_row (fun _ => by simp only [go_sem]) | exact slr_one (fun _ => by simp only [go_sem]) | (apply slr_left; assumption))) | (with_reducible apply slr_next))); done) | ((repeat (first | (with_reducible (first | assumption | exact slr_ro |  exact hsl _ | exact hsl2 _ | exact hsl3 _ _ _ | exact slr_nil | exact slr_row (fun _ => by simp only [go_sem]) | exact slr_one (fun _ => by simp only [go_sem]) | (apply slr_left; assumption))) | (with_reducible (first | (apply slr_exh; focus assumption) | (apply slr_exh0; focus assumption) | apply slr_next)))); done))); (focus rfl); simp only [Act.put, zg, zh, zi]))
    (go_ret2; simp only [za, zb, zc, zd, ze, zf])
    exact ⟨_, rfl, hs.mono (ent_ex _ (ent_pu rfl (by ((repeat (first | (with_reducible (first | exact ent_refl | exact ent_emp)) | ((with_reducible apply ent_front); (focus with_reducible (repeat (first | exact ent_here | apply ent_next | exact ent_last)); done)) | (with_reducible (first | exact ent_keep | apply ent_trans ent_drop)))); done))))⟩
  | ok xy =>
    obtain ⟨u, C⟩ := xy
    unfold ApR
    rw [hR]
    have hsp := fun F => apply0S_s c0 F a s lv l u C hR
    clear hR
    go_enter Tryd.func18, Tryd.ntmps18
    go_wp2_with (first
        | ((with_reducible apply pl_call hs (hsp _)); ((((focus (simp only [zj, zk, zl, List.append_toArray, List.nil_append, List.cons_append, Act.eval, za, zb, zc, zd, ze, zf]; (try with_reducible rfl); done)); (focus ((repeat (first | (with_reducible (first | exact ent_refl | apply ent_puR)) | ((with_reducible apply ent_front); (focus with_reducible (repeat (first | exact ent_here | apply ent_next | exact ent_last)); done)) | (with_reducible (first | exact ent_keep | apply ent_trans ent_drop)) | (focus (first | ((repeat' (first | (with_reducible assumption) | (with_reducible apply And.intro))); done))))); done)); (focus (simp only [go_sem]))))); clear hs; (try clear w); intro v w hq; (obtain ⟨v, hq1⟩ := hq.ex; obtain ⟨rfl, hs⟩ := hq1.pu; clear hq1; obtain ⟨Av, cv, rfl, hv1, hv2⟩ := row_slice hs.own); clear hq; (try simp only [star_assoc, star_emp, emp_star] at hs); (try simp only [Act.put, zg, zh, zi]))
        | ((with_reducible apply pl_cvRS hs); (focus (simp only [Act.eval, za, zb, zc, zd, ze, zf]; (try with_reducible rfl); done)); (first | (with_reducible exact rut_33_9)); (focus (first | ((repeat (first | (with_reducible (first | assumption | exact slr_ro |  exact hsl _ | exact hsl2 _ | exact hsl3 _ _ _ | exact slr_nil | exact slr_row (fun _ => by simp only [go_sem]) | exact slr_one (fun _ => by simp only [go_sem]) | (apply slr_left; assumption))) | (with_reducible apply slr_next))); done) | ((repeat (first | (with_reducible (first | assumption | exact slr_ro |  exact hsl _ | exact hsl2 _ | exact hsl3 _ _ _ | exact slr_nil | exact slr_row (fun _ => by simp only [go_sem]) | exact slr_one (fun _ => by simp only [go_sem]) | (apply slr_left; assumption))) | (with_reducible (first | (apply slr_exh; focus assumption) | (apply slr_exh0; focus assumption) | apply slr_next)))); done))); (focus rfl); simp only [Act.put, zg, zh, zi]))
    (go_ret2; simp only [za, zb, zc, zd, ze, zf])
    exact ⟨_, rfl, hs.mono (ent_pu rfl (by ((repeat (first | (with_reducible (first | exact ent_refl | exact ent_emp)) | ((with_reducible apply ent_front); (focus with_reducible (repeat (first | exact ent_here | apply ent_next | exact ent_last)); done)) | (with_reducible (first | exact ent_keep | apply ent_trans ent_drop)))); done)))⟩
theorem apR_len {s : ByteArray} {l : List EdtD} {u : List Int} {C : List Ed} (h : apR s l = .ok (u, C)) : C.length = l.length := by
  obtain ⟨_, _, _, h1, _⟩ := apR_back h
  exact h1
set_option maxRecDepth 20000 in
set_option maxHeartbeats 2000000 in
theorem invert_s (c0 : World) (F : HP) (a : Nat → Addr) (s : ByteArray) (lv : Value) (l : List EdtD) : Spec Tryd.prog c0 20 #[.string s, lv] (pu (ApPre F a s lv l) F) (InR a s l F) := by
  intro w hq; obtain ⟨⟨hE, hgr, hT, hl, hs1, hl1, hl2⟩, hs⟩ := hq.pu; clear hq
  cases hR : apR s l with
  | error pk =>
    obtain ⟨i, k⟩ := pk
    unfold InR
    rw [hR]
    have hsp := fun F gl => apply1N_s c0 F a gl s lv l i k hR
    clear hR
    go_enter Tryd.func20, Tryd.ntmps20
    go_wp2_with (first
        | ((with_reducible apply pl_call hs (hsp _ _)); ((((focus (simp only [zj, zk, zl, List.append_toArray, List.nil_append, List.cons_append, Act.eval, za, zb, zc, zd, ze, zf]; (try with_reducible rfl); done)); (focus ((repeat (first | (with_reducible (first | exact ent_refl | apply ent_puR)) | ((with_reducible apply ent_front); (focus with_reducible (repeat (first | exact ent_here | apply ent_next | exact ent_last)); done)) | (with_reducible (first | exact ent_keep | apply ent_trans ent_drop)) | (focus (first | ((repeat' (first | (with_reducible assumption) | (with_reducible apply And.intro))); done))))); done)); (focus (simp only [go_sem]))))); clear hs; (try clear w); intro v w hq; (obtain ⟨e, hq1⟩ := hq.ex; obtain ⟨B, hq2⟩ := hq1.ex; obtain ⟨rfl, hs⟩ := hq2.pu; clear hq1 hq2; obtain ⟨te, pe, rfl⟩ := refP_iface hs); clear hq; (try simp only [star_assoc, star_emp, emp_star] at hs); (try simp only [Act.put, zg, zh, zi]))
        | ((with_reducible apply pl_alloc hs); (with_reducible (first | exact zero_22)); clear hs; (try clear w); intro g w hs; skip; simp only [Act.put, zg, zh, zi]))
    (go_ret2; simp only [za, zb, zc, zd, ze, zf])
    exact ⟨_, rfl, hs.mono (ent_ex _ (ent_pu rfl (by ((repeat (first | (with_reducible (first | exact ent_refl | exact ent_emp)) | ((with_reducible apply ent_front); (focus with_reducible (repeat (first | exact ent_here | apply ent_next | exact ent_last)); done)) | (with_reducible (first | exact ent_keep | apply ent_trans ent_drop)))); done))))⟩
  | ok xy =>
    obtain ⟨u, C⟩ := xy
    unfold InR
    rw [hR]
    have hsp := fun F gl => apply1S_s c0 F a gl s lv l u C hR
    have hCl : (C.reverse.map encE).length ≤ 1000000 := by rw [List.length_map, List.length_reverse, apR_len hR]; omega
    have hrev : (C.reverse.map encE).reverse = C.map encE := by rw [← List.map_reverse, List.reverse_reverse]
    have hCn : C.length = (C.reverse.map encE).length := by simp
    clear hR
    go_enter Tryd.func20, Tryd.ntmps20
    go_wp2_with (first
        | ((with_reducible apply pl_call hs (hsp _ _)); ((((focus (simp only [zj, zk, zl, List.append_toArray, List.nil_append, List.cons_append, Act.eval, za, zb, zc, zd, ze, zf]; (try with_reducible rfl); done)); (focus ((repeat (first | (with_reducible (first | exact ent_refl | apply ent_puR)) | ((with_reducible apply ent_front); (focus with_reducible (repeat (first | exact ent_here | apply ent_next | exact ent_last)); done)) | (with_reducible (first | exact ent_keep | apply ent_trans ent_drop)) | (focus (first | ((repeat' (first | (with_reducible assumption) | (with_reducible apply And.intro))); done))))); done)); (focus (simp only [go_sem]))))); clear hs; (try clear w); intro v w hq; (obtain ⟨v, hq1⟩ := hq.ex; obtain ⟨rfl, hs⟩ := hq1.pu; clear hq1; obtain ⟨Av, cv, rfl, hv1, hv2⟩ := row_slice hs.own; obtain ⟨Ao, co, hs⟩ := out_open (hs.mono ent_left)); clear hq; (try simp only [star_assoc, star_emp, emp_star] at hs); (try simp only [Act.put, zg, zh, zi]))
        | ((with_reducible apply pl_call hs (revE_s _ _ _ _)); ((((focus (simp only [zj, zk, zl, List.append_toArray, List.nil_append, List.cons_append, Act.eval, za, zb, zc, zd, ze, zf]; (try with_reducible rfl); done)); (focus ((repeat (first | (with_reducible (first | exact ent_refl | apply ent_puR)) | ((with_reducible apply ent_front); (focus with_reducible (repeat (first | exact ent_here | apply ent_next | exact ent_last)); done)) | (with_reducible (first | exact ent_keep | apply ent_trans ent_drop)) | (focus (first | (with_reducible assumption))))); done)); (focus (simp only [go_sem]))))); clear hs; (try clear w); intro v w hq; (have hs := hq; rw [hrev] at hs); clear hq; (try simp only [star_assoc, star_emp, emp_star] at hs); (try simp only [Act.put, zg, zh, zi]))
        | ((with_reducible apply pl_load1 hs); (focus (simp only [Act.eval, za, zb, zc, zd, ze, zf]; (try with_reducible rfl); done)); (focus (simp only [go_sem])); (focus ((repeat (first | (with_reducible (first | assumption | exact hec _ | exact hec2 _ | exact hec3 _ | exact hec4 _ _)) | ((with_reducible apply readc_here); (focus (first | (simp only [zc, zd, ze, go_sem]; (try with_reducible rfl); done) | (go_simp; (try with_reducible rfl); done)))) | (with_reducible (first | (apply readc_left; assumption) | refine readc_exh (by assumption) ?_ | refine readc_exh0 (by assumption) ?_ | apply readc_next)))); done)); (focus rfl); simp only [Act.put, zg, zh, zi])
        | ((with_reducible apply pl_alloc hs); (with_reducible (first | exact zero_22)); clear hs; (try clear w); intro g w hs; skip; simp only [Act.put, zg, zh, zi]))
    (go_ret2; simp only [za, zb, zc, zd, ze, zf])
    exact ⟨_, rfl, hs.mono (ent_ex _ (ent_pu rfl (by ((repeat (first | (with_reducible (first | exact ent_refl | exact ent_emp)) | ((with_reducible apply ent_front); (focus with_reducible (repeat (first | exact ent_here | apply ent_next | exact ent_last)); done)) | (with_reducible (first | exact ent_keep | apply ent_trans ent_drop)))); done))))⟩
end Go.Proofs.YtgoifgockcpnhaaDoor
