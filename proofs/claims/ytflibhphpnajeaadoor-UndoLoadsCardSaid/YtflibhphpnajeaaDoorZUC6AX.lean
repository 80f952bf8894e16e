/- The program's stack: what is told; rows of edits alike. -/
import Derived.Test.YtflibhphpnajeaaDoorZUC6AV
import Derived.Test.YtflibhphpnajeaaDoorZUC6AW
set_option linter.unusedSimpArgs false
set_option linter.unusedVariables false
namespace Go.Proofs.YtflibhphpnajeaaDoor
open Go Go.RowKit

theorem fch_none {a : Nat → Addr} {l : LinkD} {g : Nat} {F : HP} : Ent (blk g (.cells (fltv l.layer l.call l.pos 112 (some (a 12))) 100 (0, 0)) * F) (RefP a (some ([l], 12)) (.iface 98 (.pointer (some ⟨g, 0, none⟩))) * F) := by
  unfold RefP
  rw [pu_star]
  refine ent_pu ⟨by decide, by decide, by simp⟩ ?_
  exact ent_trans (star_mono ent_refl fch_one) (fch_more (l := l))
set_option maxRecDepth 20000 in
set_option maxHeartbeats 1000000 in
theorem peekU0_s (c0 : World) (F : HP) (gs : Nat) (un : List (List ChgD)) (a : Nat → Addr) : Spec Tryd.prog c0 46 #[.pointer (some ⟨gs, 0, none⟩), .bool false]
    (pu (ErrA F a) (stk gs [] un * F)) (fun r => ex fun b => ex fun e => pu (r = .tuple #[b, e]) (row 33 4 chg b [] * (RefP a (some ([⟨⟨#[117, 110, 100, 111]⟩, ⟨#[85, 110, 100, 111]⟩, -1⟩], 12)) e * (stk gs [] un * F)))) := by
  intro w hq; obtain ⟨hE, hs⟩ := hq.pu; clear hq
  obtain ⟨A, n, c, ts, B, m, d, us, ht, hu, rfl, rfl, hc1, hc2, hd1, hd2, hs⟩ := stk_open hs
  unfold stkO at hs
  obtain rfl : ts = [] := List.eq_nil_of_length_eq_zero ht
  simp only [List.length_nil] at hs hc1
  have hec0 : ReadC F 2 0 (.iface 112 (.pointer (some (a 12)))) := hE.ad 12 (by decide) (by decide)
  go_enter Tryd.func46, Tryd.ntmps46
  go_wp2_with (first
        | ((with_reducible apply pl_call hs (take0_s _ _ _ _ _ (a 12))); (go_must (((focus (simp only [zj, zk, zl, List.append_toArray, List.nil_append, List.cons_append, Act.eval, za, zb, zc, zd, ze, zf]; (try with_reducible rfl); done)); (focus ((repeat (first | (with_reducible (first | exact ent_refl | apply ent_puR)) | ((with_reducible apply ent_front); (focus with_reducible (repeat (first | exact ent_here | apply ent_next | exact ent_last)); done)) | (with_reducible (first | exact ent_keep | apply ent_trans ent_drop)) | (focus (first | (focus ((repeat (first | (with_reducible (first | assumption | exact hec _ | exact hec2 _ | exact hec3 _ | exact hec4 _ _)) | ((with_reducible apply readc_here); (focus (first | (simp only [zc, zd, ze, go_sem]; (try with_reducible rfl); done) | (go_simp; (try with_reducible rfl); done)))) | (with_reducible (first | (apply readc_left; assumption) | refine readc_exh (by assumption) ?_ | refine readc_exh0 (by assumption) ?_ | apply readc_next)))); done)))))); done)); (focus (simp only [go_sem]))))); clear hs; (try clear w); intro v w hq; (obtain ⟨gf, hq1⟩ := hq.ex; obtain ⟨rfl, hs⟩ := hq1.pu; clear hq1); clear hq; (try simp only [star_assoc, star_emp, emp_star] at hs); (try simp only [Act.put, zg, zh, zi]))
        | ((with_reducible apply pl_call hs (back_s _ _ _ [])); (go_must (((focus (simp only [zj, zk, zl, List.append_toArray, List.nil_append, List.cons_append, Act.eval, za, zb, zc, zd, ze, zf]; (try with_reducible rfl); done)); (focus ((repeat (first | (with_reducible (first | exact ent_refl | apply ent_puR)) | ((with_reducible apply ent_front); (focus with_reducible (repeat (first | exact ent_here | apply ent_next | exact ent_last)); done)) | (with_reducible (first | exact ent_keep | apply ent_trans ent_drop)) | (focus (first | ((repeat' (first | (with_reducible apply And.intro) | (focus (first | ((repeat (first | (with_reducible (first | assumption |  exact hsl _ | exact hsl2 _ | exact hsl3 _ _ _ | exact slr_nil | exact slr_row (fun _ => by simp only [go_sem]) | exact slr_one (fun _ => by simp only [go_sem]) | (apply slr_left; assumption))) | (with_reducible apply slr_next))); done) | ((repeat (first | (with_reducible (first | assumption |  exact hsl _ | exact hsl2 _ | exact hsl3 _ _ _ | exact slr_nil | exact slr_row (fun _ => by simp only [go_sem]) | exact slr_one (fun _ => by simp only [go_sem]) | (apply slr_left; assumption))) | (with_reducible (first | (apply slr_exh; focus assumption) | (apply slr_exh0; focus assumption) | apply slr_next)))); done))) | (simp; done))); done))))); done)); (focus (simp only [go_sem]))))); clear hs; (try clear w); intro v w hq; (have hs := hq; rw [show backL ([] : List ChgD) = [] from rfl] at hs); clear hq; (try simp only [star_assoc, star_emp, emp_star] at hs); (try simp only [Act.put, zg, zh, zi]))
        | ((with_reducible apply pl_load1 hs); (focus (simp only [Act.eval, za, zb, zc, zd, ze, zf]; (try with_reducible rfl); done)); (focus (simp only [go_sem])); (focus ((repeat (first | (with_reducible (first | assumption | exact hec _ | exact hec2 _ | exact hec3 _ | exact hec4 _ _)) | ((with_reducible apply readc_here); (focus (first | (simp only [zc, zd, ze, go_sem]; (try with_reducible rfl); done) | (go_simp; (try with_reducible rfl); done)))) | (with_reducible (first | (apply readc_left; assumption) | refine readc_exh (by assumption) ?_ | refine readc_exh0 (by assumption) ?_ | apply readc_next)))); done)); (focus rfl); simp only [Act.put, zg, zh, zi]))
  (go_ret2; simp only [za, zb, zc, zd, ze, zf])
  refine ⟨_, rfl, hs.mono (ent_ex v (ent_ex _ (ent_pu rfl (ent_trans ?_ (star_mono ent_refl (fch_none (l := ⟨⟨#[117, 110, 100, 111]⟩, ⟨#[85, 110, 100, 111]⟩, -1⟩)))))))⟩
  refine ent_trans ?_ (star_mono ent_refl (star_mono ent_refl (stk_shut (A := A) (n := 0) (c := c) (ts := []) (B := B) (m := us.length) (d := d) (us := us))))
  unfold stkO
  dsimp only
  ((repeat (first | (with_reducible (first | exact ent_refl | exact ent_emp)) | ((with_reducible apply ent_front); (focus with_reducible (repeat (first | exact ent_here | apply ent_next | exact ent_last)); done)) | (with_reducible (first | exact ent_keep | apply ent_trans ent_drop)))); done)
set_option maxRecDepth 20000 in
set_option maxHeartbeats 1000000 in
theorem peekU_s (c0 : World) (F : HP) (gs : Nat) (dn un : List (List ChgD)) (l : List ChgD) : Spec Tryd.prog c0 46 #[.pointer (some ⟨gs, 0, none⟩), .bool false]
    (pu (l.length ≤ 4398046510976 ∧ dn.length ≤ 4398046510976 ∧ un.length ≤ 4398046510976) (stk gs (dn ++ [l]) un * F)) (fun r => ex fun b => pu (r = .tuple #[b, .nilIface]) (row 33 4 chg b (backL l) * (stk gs (dn ++ [l]) un * F))) := by
  intro w hq; obtain ⟨⟨hl, hd9, hu9⟩, hs⟩ := hq.pu; clear hq
  obtain ⟨A, n, c, ts, B, m, d, us, ht, hu, rfl, rfl, hc1, hc2, hd1, hd2, hs⟩ := stk_open hs
  obtain ⟨ts, ⟨p, q, e⟩, rfl, hk⟩ := snoc_of_len (k := dn.length) (by rw [ht, List.length_append]; rfl)
  unfold stkO at hs
  rw [rowsOf_snoc _ _ hk] at hs
  dsimp only at hs
  rw [show (ts ++ [(⟨p, q, e⟩ : SlD)]).length = dn.length + 1 by rw [List.length_append, hk]; rfl] at hs hc1
  generalize hkk : dn.length = k at *
  simp only [star_assoc] at hs
  replace ht := Lib.hid ht
  replace hu := Lib.hid hu
  replace hkk := Lib.hid hkk
  go_enter Tryd.func46, Tryd.ntmps46
  go_wp2_with (first
        | ((with_reducible apply pl_call hs (take_s _ _ _ _ _ _ ts p q e)); (go_must (((focus (simp only [zj, zk, zl, List.append_toArray, List.nil_append, List.cons_append, Act.eval, za, zb, zc, zd, ze, zf]; (try with_reducible rfl); done)); (focus ((repeat (first | (with_reducible (first | exact ent_refl | apply ent_puR)) | ((with_reducible apply ent_front); (focus with_reducible (repeat (first | exact ent_here | apply ent_next | exact ent_last)); done)) | (with_reducible (first | exact ent_keep | apply ent_trans ent_drop)) | (focus (first | ((repeat' (first | (with_reducible assumption) | (with_reducible apply And.intro))); done))))); done)); (focus (simp only [go_sem]))))); clear hs; (try clear w); intro v w hq; (obtain ⟨rfl, hs⟩ := hq.pu); clear hq; (try simp only [star_assoc, star_emp, emp_star] at hs); (try simp only [Act.put, zg, zh, zi]))
        | ((with_reducible apply pl_call hs (back_s _ _ _ l)); (go_must (((focus (simp only [zj, zk, zl, List.append_toArray, List.nil_append, List.cons_append, Act.eval, za, zb, zc, zd, ze, zf]; (try with_reducible rfl); done)); (focus ((repeat (first | (with_reducible (first | exact ent_refl | apply ent_puR)) | ((with_reducible apply ent_front); (focus with_reducible (repeat (first | exact ent_here | apply ent_next | exact ent_last)); done)) | (with_reducible (first | exact ent_keep | apply ent_trans ent_drop)) | (focus (first | ((repeat' (first | (with_reducible assumption) | (with_reducible apply And.intro) | (focus (first | ((repeat (first | (with_reducible (first | assumption |  exact hsl _ | exact hsl2 _ | exact hsl3 _ _ _ | exact slr_nil | exact slr_row (fun _ => by simp only [go_sem]) | exact slr_one (fun _ => by simp only [go_sem]) | (apply slr_left; assumption))) | (with_reducible apply slr_next))); done) | ((repeat (first | (with_reducible (first | assumption |  exact hsl _ | exact hsl2 _ | exact hsl3 _ _ _ | exact slr_nil | exact slr_row (fun _ => by simp only [go_sem]) | exact slr_one (fun _ => by simp only [go_sem]) | (apply slr_left; assumption))) | (with_reducible (first | (apply slr_exh; focus assumption) | (apply slr_exh0; focus assumption) | apply slr_next)))); done))))); done))))); done)); (focus (simp only [go_sem]))))); clear hs; (try clear w); intro v w hq; (have hs := hq); clear hq; (try simp only [star_assoc, star_emp, emp_star] at hs); (try simp only [Act.put, zg, zh, zi]))
        | ((with_reducible apply pl_load1 hs); (focus (simp only [Act.eval, za, zb, zc, zd, ze, zf]; (try with_reducible rfl); done)); (focus (simp only [go_sem])); (focus ((repeat (first | (with_reducible (first | assumption | exact hec _ | exact hec2 _ | exact hec3 _ | exact hec4 _ _)) | ((with_reducible apply readc_here); (focus (first | (simp only [zc, zd, ze, go_sem]; (try with_reducible rfl); done) | (go_simp; (try with_reducible rfl); done)))) | (with_reducible (first | (apply readc_left; assumption) | refine readc_exh (by assumption) ?_ | refine readc_exh0 (by assumption) ?_ | apply readc_next)))); done)); (focus rfl); simp only [Act.put, zg, zh, zi]))
  (go_ret2; simp only [za, zb, zc, zd, ze, zf])
  refine ⟨_, rfl, hs.mono (ent_ex v (ent_pu rfl (star_mono ent_refl (ent_trans ?_ (stk_shut (A := A) (n := k + 1) (c := c) (ts := ts ++ [⟨p, q, e⟩]) (B := B) (m := us.length) (d := d) (us := us))))))⟩
  unfold stkO
  rw [rowsOf_snoc _ _ (hk.trans hkk.out.symm)]
  dsimp only
  simp only [star_assoc]
  ((repeat (first | (with_reducible (first | exact ent_refl | exact ent_emp)) | ((with_reducible apply ent_front); (focus with_reducible (repeat (first | exact ent_here | apply ent_next | exact ent_last)); done)) | (with_reducible (first | exact ent_keep | apply ent_trans ent_drop)))); done)
set_option maxRecDepth 20000 in
set_option maxHeartbeats 1000000 in
theorem redoR_s (c0 : World) (F : HP) (gs : Nat) (dn : List (List ChgD)) (a : Nat → Addr) : Spec Tryd.prog c0 23 #[.pointer (some ⟨gs, 0, none⟩)]
    (pu (ErrA F a) (stk gs dn [] * F)) (fun r => ex fun e => pu (r = .tuple #[.slice none 0 0, e]) (RefP a (some ([⟨⟨#[117, 110, 100, 111]⟩, ⟨#[82, 101, 100, 111]⟩, -1⟩], 12)) e * (stk gs dn [] * F))) := by
  intro w hq; obtain ⟨hE, hs⟩ := hq.pu; clear hq
  obtain ⟨A, n, c, ts, B, m, d, us, ht, hu, rfl, rfl, hc1, hc2, hd1, hd2, hs⟩ := stk_open hs
  unfold stkO at hs
  obtain rfl : us = [] := List.eq_nil_of_length_eq_zero hu
  simp only [List.length_nil] at hs hd1
  have hec0 : ReadC F 2 0 (.iface 112 (.pointer (some (a 12)))) := hE.ad 12 (by decide) (by decide)
  go_enter Tryd.func23, Tryd.ntmps23
  go_wp2_with (first
        | ((with_reducible apply pl_call hs (take0_s _ _ _ _ _ (a 12))); (go_must (((focus (simp only [zj, zk, zl, List.append_toArray, List.nil_append, List.cons_append, Act.eval, za, zb, zc, zd, ze, zf]; (try with_reducible rfl); done)); (focus ((repeat (first | (with_reducible (first | exact ent_refl | apply ent_puR)) | ((with_reducible apply ent_front); (focus with_reducible (repeat (first | exact ent_here | apply ent_next | exact ent_last)); done)) | (with_reducible (first | exact ent_keep | apply ent_trans ent_drop)) | (focus (first | (focus ((repeat (first | (with_reducible (first | assumption | exact hec _ | exact hec2 _ | exact hec3 _ | exact hec4 _ _)) | ((with_reducible apply readc_here); (focus (first | (simp only [zc, zd, ze, go_sem]; (try with_reducible rfl); done) | (go_simp; (try with_reducible rfl); done)))) | (with_reducible (first | (apply readc_left; assumption) | refine readc_exh (by assumption) ?_ | refine readc_exh0 (by assumption) ?_ | apply readc_next)))); done)))))); done)); (focus (simp only [go_sem]))))); clear hs; (try clear w); intro v w hq; (obtain ⟨gf, hq1⟩ := hq.ex; obtain ⟨rfl, hs⟩ := hq1.pu; clear hq1); clear hq; (try simp only [star_assoc, star_emp, emp_star] at hs); (try simp only [Act.put, zg, zh, zi]))
        | ((with_reducible apply pl_load1 hs); (focus (simp only [Act.eval, za, zb, zc, zd, ze, zf]; (try with_reducible rfl); done)); (focus (simp only [go_sem])); (focus ((repeat (first | (with_reducible (first | assumption | exact hec _ | exact hec2 _ | exact hec3 _ | exact hec4 _ _)) | ((with_reducible apply readc_here); (focus (first | (simp only [zc, zd, ze, go_sem]; (try with_reducible rfl); done) | (go_simp; (try with_reducible rfl); done)))) | (with_reducible (first | (apply readc_left; assumption) | refine readc_exh (by assumption) ?_ | refine readc_exh0 (by assumption) ?_ | apply readc_next)))); done)); (focus rfl); simp only [Act.put, zg, zh, zi]))
  (go_ret2; simp only [za, zb, zc, zd, ze, zf])
  refine ⟨_, rfl, hs.mono (ent_ex _ (ent_pu rfl (ent_trans ?_ (fch_none (l := ⟨⟨#[117, 110, 100, 111]⟩, ⟨#[82, 101, 100, 111]⟩, -1⟩)))))⟩
  refine ent_trans ?_ (star_mono ent_refl (stk_shut (A := A) (n := ts.length) (c := c) (ts := ts) (B := B) (m := 0) (d := d) (us := [])))
  unfold stkO
  ((repeat (first | (with_reducible (first | exact ent_refl | exact ent_emp)) | ((with_reducible apply ent_front); (focus with_reducible (repeat (first | exact ent_here | apply ent_next | exact ent_last)); done)) | (with_reducible (first | exact ent_keep | apply ent_trans ent_drop)))); done)
set_option maxRecDepth 20000 in
set_option maxHeartbeats 1000000 in
theorem peekR0_s (c0 : World) (F : HP) (gs : Nat) (dn : List (List ChgD)) (a : Nat → Addr) : Spec Tryd.prog c0 46 #[.pointer (some ⟨gs, 0, none⟩), .bool true]
    (pu (ErrA F a) (stk gs dn [] * F)) (fun r => ex fun b => ex fun e => pu (r = .tuple #[b, e]) (row 33 4 chg b [] * (RefP a (some ([⟨⟨#[117, 110, 100, 111]⟩, ⟨#[82, 101, 100, 111]⟩, -1⟩], 12)) e * (stk gs dn [] * F)))) := by
  intro w hq; obtain ⟨hE, hs⟩ := hq.pu; clear hq
  obtain ⟨A, n, c, ts, B, m, d, us, ht, hu, rfl, rfl, hc1, hc2, hd1, hd2, hs⟩ := stk_open hs
  unfold stkO at hs
  obtain rfl : us = [] := List.eq_nil_of_length_eq_zero hu
  simp only [List.length_nil] at hs hd1
  have hec0 : ReadC F 2 0 (.iface 112 (.pointer (some (a 12)))) := hE.ad 12 (by decide) (by decide)
  go_enter Tryd.func46, Tryd.ntmps46
  go_wp2_with (first
        | ((with_reducible apply pl_call hs (take0_s _ _ _ _ _ (a 12))); (go_must (((focus (simp only [zj, zk, zl, List.append_toArray, List.nil_append, List.cons_append, Act.eval, za, zb, zc, zd, ze, zf]; (try with_reducible rfl); done)); (focus ((repeat (first | (with_reducible (first | exact ent_refl | apply ent_puR)) | ((with_reducible apply ent_front); (focus with_reducible (repeat (first | exact ent_here | apply ent_next | exact ent_last)); done)) | (with_reducible (first | exact ent_keep | apply ent_trans ent_drop)) | (focus (first | (focus ((repeat (first | (with_reducible (first | assumption | exact hec _ | exact hec2 _ | exact hec3 _ | exact hec4 _ _)) | ((with_reducible apply readc_here); (focus (first | (simp only [zc, zd, ze, go_sem]; (try with_reducible rfl); done) | (go_simp; (try with_reducible rfl); done)))) | (with_reducible (first | (apply readc_left; assumption) | refine readc_exh (by assumption) ?_ | refine readc_exh0 (by assumption) ?_ | apply readc_next)))); done)))))); done)); (focus (simp only [go_sem]))))); clear hs; (try clear w); intro v w hq; (obtain ⟨gf, hq1⟩ := hq.ex; obtain ⟨rfl, hs⟩ := hq1.pu; clear hq1); clear hq; (try simp only [star_assoc, star_emp, emp_star] at hs); (try simp only [Act.put, zg, zh, zi]))
        | ((with_reducible apply pl_call hs (again_s _ _ _ [])); (go_must (((focus (simp only [zj, zk, zl, List.append_toArray, List.nil_append, List.cons_append, Act.eval, za, zb, zc, zd, ze, zf]; (try with_reducible rfl); done)); (focus ((repeat (first | (with_reducible (first | exact ent_refl | apply ent_puR)) | ((with_reducible apply ent_front); (focus with_reducible (repeat (first | exact ent_here | apply ent_next | exact ent_last)); done)) | (with_reducible (first | exact ent_keep | apply ent_trans ent_drop)) | (focus (first | ((repeat' (first | (with_reducible apply And.intro) | (focus (first | ((repeat (first | (with_reducible (first | assumption |  exact hsl _ | exact hsl2 _ | exact hsl3 _ _ _ | exact slr_nil | exact slr_row (fun _ => by simp only [go_sem]) | exact slr_one (fun _ => by simp only [go_sem]) | (apply slr_left; assumption))) | (with_reducible apply slr_next))); done) | ((repeat (first | (with_reducible (first | assumption |  exact hsl _ | exact hsl2 _ | exact hsl3 _ _ _ | exact slr_nil | exact slr_row (fun _ => by simp only [go_sem]) | exact slr_one (fun _ => by simp only [go_sem]) | (apply slr_left; assumption))) | (with_reducible (first | (apply slr_exh; focus assumption) | (apply slr_exh0; focus assumption) | apply slr_next)))); done))) | (simp; done))); done))))); done)); (focus (simp only [go_sem]))))); clear hs; (try clear w); intro v w hq; (have hs := hq; rw [show againL ([] : List ChgD) = [] from rfl] at hs); clear hq; (try simp only [star_assoc, star_emp, emp_star] at hs); (try simp only [Act.put, zg, zh, zi]))
        | ((with_reducible apply pl_load1 hs); (focus (simp only [Act.eval, za, zb, zc, zd, ze, zf]; (try with_reducible rfl); done)); (focus (simp only [go_sem])); (focus ((repeat (first | (with_reducible (first | assumption | exact hec _ | exact hec2 _ | exact hec3 _ | exact hec4 _ _)) | ((with_reducible apply readc_here); (focus (first | (simp only [zc, zd, ze, go_sem]; (try with_reducible rfl); done) | (go_simp; (try with_reducible rfl); done)))) | (with_reducible (first | (apply readc_left; assumption) | refine readc_exh (by assumption) ?_ | refine readc_exh0 (by assumption) ?_ | apply readc_next)))); done)); (focus rfl); simp only [Act.put, zg, zh, zi]))
  (go_ret2; simp only [za, zb, zc, zd, ze, zf])
  refine ⟨_, rfl, hs.mono (ent_ex v (ent_ex _ (ent_pu rfl (ent_trans ?_ (star_mono ent_refl (fch_none (l := ⟨⟨#[117, 110, 100, 111]⟩, ⟨#[82, 101, 100, 111]⟩, -1⟩)))))))⟩
  refine ent_trans ?_ (star_mono ent_refl (star_mono ent_refl (stk_shut (A := A) (n := ts.length) (c := c) (ts := ts) (B := B) (m := 0) (d := d) (us := []))))
  unfold stkO
  dsimp only
  ((repeat (first | (with_reducible (first | exact ent_refl | exact ent_emp)) | ((with_reducible apply ent_front); (focus with_reducible (repeat (first | exact ent_here | apply ent_next | exact ent_last)); done)) | (with_reducible (first | exact ent_keep | apply ent_trans ent_drop)))); done)
set_option maxRecDepth 20000 in
set_option maxHeartbeats 1000000 in
theorem peekR_s (c0 : World) (F : HP) (gs : Nat) (dn un : List (List ChgD)) (l : List ChgD) : Spec Tryd.prog c0 46 #[.pointer (some ⟨gs, 0, none⟩), .bool true]
    (pu (l.length ≤ 4398046510976 ∧ dn.length ≤ 4398046510976 ∧ un.length ≤ 4398046510976) (stk gs dn (un ++ [l]) * F)) (fun r => ex fun b => pu (r = .tuple #[b, .nilIface]) (row 33 4 chg b (againL l) * (stk gs dn (un ++ [l]) * F))) := by
  intro w hq; obtain ⟨⟨hl, hd9, hu9⟩, hs⟩ := hq.pu; clear hq
  obtain ⟨A, n, c, ts, B, m, d, us, ht, hu, rfl, rfl, hc1, hc2, hd1, hd2, hs⟩ := stk_open hs
  obtain ⟨us, ⟨p, q, e⟩, rfl, hk⟩ := snoc_of_len (k := un.length) (by rw [hu, List.length_append]; rfl)
  unfold stkO at hs
  rw [rowsOf_snoc _ _ hk] at hs
  dsimp only at hs
  rw [show (us ++ [(⟨p, q, e⟩ : SlD)]).length = un.length + 1 by rw [List.length_append, hk]; rfl] at hs hd1
  generalize hkk : un.length = k at *
  simp only [star_assoc] at hs
  replace ht := Lib.hid ht
  replace hu := Lib.hid hu
  replace hkk := Lib.hid hkk
  go_enter Tryd.func46, Tryd.ntmps46
  go_wp2_with (first
        | ((with_reducible apply pl_call hs (take_s _ _ _ _ _ _ us p q e)); (go_must (((focus (simp only [zj, zk, zl, List.append_toArray, List.nil_append, List.cons_append, Act.eval, za, zb, zc, zd, ze, zf]; (try with_reducible rfl); done)); (focus ((repeat (first | (with_reducible (first | exact ent_refl | apply ent_puR)) | ((with_reducible apply ent_front); (focus with_reducible (repeat (first | exact ent_here | apply ent_next | exact ent_last)); done)) | (with_reducible (first | exact ent_keep | apply ent_trans ent_drop)) | (focus (first | ((repeat' (first | (with_reducible assumption) | (with_reducible apply And.intro))); done))))); done)); (focus (simp only [go_sem]))))); clear hs; (try clear w); intro v w hq; (obtain ⟨rfl, hs⟩ := hq.pu); clear hq; (try simp only [star_assoc, star_emp, emp_star] at hs); (try simp only [Act.put, zg, zh, zi]))
        | ((with_reducible apply pl_call hs (again_s _ _ _ l)); (go_must (((focus (simp only [zj, zk, zl, List.append_toArray, List.nil_append, List.cons_append, Act.eval, za, zb, zc, zd, ze, zf]; (try with_reducible rfl); done)); (focus ((repeat (first | (with_reducible (first | exact ent_refl | apply ent_puR)) | ((with_reducible apply ent_front); (focus with_reducible (repeat (first | exact ent_here | apply ent_next | exact ent_last)); done)) | (with_reducible (first | exact ent_keep | apply ent_trans ent_drop)) | (focus (first | ((repeat' (first | (with_reducible assumption) | (with_reducible apply And.intro) | (focus (first | ((repeat (first | (with_reducible (first | assumption |  exact hsl _ | exact hsl2 _ | exact hsl3 _ _ _ | exact slr_nil | exact slr_row (fun _ => by simp only [go_sem]) | exact slr_one (fun _ => by simp only [go_sem]) | (apply slr_left; assumption))) | (with_reducible apply slr_next))); done) | ((repeat (first | (with_reducible (first | assumption |  exact hsl _ | exact hsl2 _ | exact hsl3 _ _ _ | exact slr_nil | exact slr_row (fun _ => by simp only [go_sem]) | exact slr_one (fun _ => by simp only [go_sem]) | (apply slr_left; assumption))) | (with_reducible (first | (apply slr_exh; focus assumption) | (apply slr_exh0; focus assumption) | apply slr_next)))); done))))); done))))); done)); (focus (simp only [go_sem]))))); clear hs; (try clear w); intro v w hq; (have hs := hq); clear hq; (try simp only [star_assoc, star_emp, emp_star] at hs); (try simp only [Act.put, zg, zh, zi]))
        | ((with_reducible apply pl_load1 hs); (focus (simp only [Act.eval, za, zb, zc, zd, ze, zf]; (try with_reducible rfl); done)); (focus (simp only [go_sem])); (focus ((repeat (first | (with_reducible (first | assumption | exact hec _ | exact hec2 _ | exact hec3 _ | exact hec4 _ _)) | ((with_reducible apply readc_here); (focus (first | (simp only [zc, zd, ze, go_sem]; (try with_reducible rfl); done) | (go_simp; (try with_reducible rfl); done)))) | (with_reducible (first | (apply readc_left; assumption) | refine readc_exh (by assumption) ?_ | refine readc_exh0 (by assumption) ?_ | apply readc_next)))); done)); (focus rfl); simp only [Act.put, zg, zh, zi]))
  (go_ret2; simp only [za, zb, zc, zd, ze, zf])
  refine ⟨_, rfl, hs.mono (ent_ex v (ent_pu rfl (star_mono ent_refl (ent_trans ?_ (stk_shut (A := A) (n := ts.length) (c := c) (ts := ts) (B := B) (m := k + 1) (d := d) (us := us ++ [⟨p, q, e⟩]))))))⟩
  unfold stkO
  rw [rowsOf_snoc _ _ (hk.trans hkk.out.symm)]
  dsimp only
  simp only [star_assoc]
  ((repeat (first | (with_reducible (first | exact ent_refl | exact ent_emp)) | ((with_reducible apply ent_front); (focus with_reducible (repeat (first | exact ent_here | apply ent_next | exact ent_last)); done)) | (with_reducible (first | exact ent_keep | apply ent_trans ent_drop)))); done)
theorem clear_s (c0 : World) (F : HP) (gs : Nat) (dn un : List (List ChgD)) : Spec Tryd.prog c0 48 #[.pointer (some ⟨gs, 0, none⟩)] (stk gs dn un * F) (fun _ => stk gs [] [] * F) := by
  intro w hs
  obtain ⟨A, n, c, ts, B, m, d, us, ht, hu, rfl, rfl, hc1, hc2, hd1, hd2, hs⟩ := stk_open hs
  unfold stkO at hs
  go_enter Tryd.func48, Tryd.ntmps48
  go_wp2_with (first
        | ((with_reducible apply pl_store1 hs); (focus (simp only [Act.eval, za, zb, zc, zd, ze, zf]; (try with_reducible rfl); done)); (focus (simp only [Act.eval, za, zb, zc, zd, ze, zf]; (try with_reducible rfl); done)); (focus (simp only [go_sem])); (focus with_reducible (repeat (first | exact ent_here | apply ent_next | exact ent_last)); done); (focus (first | (simp [go_sem]; done) | (simp only [go_sem]; omega) | go_size)); (focus (first | (simp only [go_sem]; done) | (simp [go_sem]; done))); clear hs; (try clear w); intro w hs; (try simp only [zg, zh, zi, idv_s0, idv_s1, idv_s2, chg_s0, chg_s1, chg_s2, chg_s3, uop_s0, uop_s1, uop_s2, prv_s0, prv_s1, lnk_s0, lnk_s1, lnk_s2, nov_s0, nov_s1, nov_s2, slv_set, intv_set] at hs); simp only [Act.put, zg, zh, zi]))
  refine bodyPost_end (results_none rfl _ _ _) rfl ⟨_, rfl, hs.mono ?_⟩
  refine ent_trans ?_ (stk_shut (A := none) (n := 0) (c := 0) (ts := []) (B := none) (m := 0) (d := 0) (us := []))
  unfold stkO
  refine star_mono ent_refl ?_
  refine ent_trans (B := F) (ent_trans ent_drop (ent_trans ent_drop (ent_trans ent_drop ent_drop))) ?_
  unfold rowsOf
  simp only [emp_star]
  exact ent_trans ent_row_nil (star_mono ent_refl ent_row_nil)
/-- Copies of rows that one owns. -/
theorem copiedO_s (c0 : World) (F : HP) (v : Value) (ts : List SlD) (ls : List (List ChgD)) : Spec Tryd.prog c0 34 #[v] (pu (ls.length ≤ 4398046510976 ∧ Len2 ls ∧ Hid (ts.length = ls.length)) (row 22 1 slv v ts * (rowsOf 33 4 chg ts ls * F))) (fun r => rows2 22 33 4 chg r ls * (row 22 1 slv v ts * (rowsOf 33 4 chg ts ls * F))) := fun w hs => by
  obtain ⟨⟨h1, h2, h3⟩, hs⟩ := hs.pu
  exact copied_s c0 _ v ls w (hs.mono (ent_pu ⟨sl2_rows2 chg_size h3.out, h1, h2⟩ ent_refl))
set_option maxRecDepth 20000 in
set_option maxHeartbeats 1000000 in
theorem edits_s (c0 : World) (F : HP) (gs : Nat) (dn un : List (List ChgD)) : Spec Tryd.prog c0 27 #[.pointer (some ⟨gs, 0, none⟩)] (pu (dn.length ≤ 4398046510976 ∧ un.length ≤ 4398046510976 ∧ Len2 dn ∧ Len2 un) (stk gs dn un * F))
    (fun r => ex fun x => ex fun y => pu (r = .tuple #[x, y]) (rows2 22 33 4 chg x dn * (rows2 22 33 4 chg y un * (stk gs dn un * F)))) := by
  intro w hq; obtain ⟨⟨h1, h2, h3, h4⟩, hs⟩ := hq.pu; clear hq
  obtain ⟨A, n, c, ts, B, m, d, us, ht, hu, rfl, rfl, hc1, hc2, hd1, hd2, hs⟩ := stk_open hs
  unfold stkO at hs
  replace ht := Lib.hid ht
  replace hu := Lib.hid hu
  go_enter Tryd.func27, Tryd.ntmps27
  go_wp2_with (first
        | ((with_reducible apply wp_region_sl (G := (row 22 1 slv _ ts * (rowsOf 33 4 chg ts dn * (row 22 1 slv _ us * (rowsOf 33 4 chg us un))))) (id := 1) hs 1000); (focus ((repeat ((with_reducible apply ent_pair); (focus with_reducible (repeat (first | exact ent_here | apply ent_next | exact ent_last)); done))); (focus with_reducible (repeat (first | exact ent_here | apply ent_next | exact ent_last)); done))); (focus kernel_rfl); (focus decide +kernel); clear hs; (try clear w); intro hR w hRR hs; (try simp only [star_assoc] at hs))
        | ((with_reducible apply mx_call hs (copiedO_s _ _ _ _ _)); (go_must (((focus (simp only [zj, zk, zl, List.append_toArray, List.nil_append, List.cons_append, Act.eval, za, zb, zc, zd, ze, zf]; (try with_reducible rfl); done)); (focus ((repeat (first | (with_reducible (first | exact ent_refl | apply ent_puR)) | ((with_reducible apply ent_front); (focus with_reducible (repeat (first | exact ent_here | apply ent_next | exact ent_last)); done)) | (with_reducible (first | exact ent_keep | apply ent_trans ent_drop)) | (focus (first | ((repeat' (first | (with_reducible assumption) | (with_reducible apply And.intro))); done))))); done)); (focus (simp only [go_sem])); (focus (intros; with_reducible (refine in_of_sat (by assumption) ?_; repeat (first | exact ent_exh_here | exact ent_last | refine ent_pu_l (fun _ => ?_) | refine ent_ex_l (fun _ => ?_) | apply ent_exh_next)); done))))); clear hs; (try clear w); intro v w hq; (have hs := hq); clear hq; (try simp only [star_assoc, star_emp, emp_star] at hs); (try simp only [Act.put, zg, zh, zi]))
        | ((with_reducible apply mix_end hRR hs); (focus with_reducible (repeat (first | exact ent_here | apply ent_next | exact ent_last)); done); clear hs; (try clear w); intro w hs; (try simp only [star_assoc, star_emp, emp_star] at hs); clear hRR hR)
        | ((with_reducible apply mx_load1 hRR); (focus (simp only [Act.eval, za, zb, zc, zd, ze, zf]; (try with_reducible rfl); done)); (focus (simp only [go_sem])); (focus ((repeat (first | (with_reducible (first | assumption | exact hec _ | exact hec2 _ | exact hec3 _ | exact hec4 _ _)) | ((with_reducible apply readc_here); (focus (first | (simp only [zc, zd, ze, go_sem]; (try with_reducible rfl); done) | (go_simp; (try with_reducible rfl); done)))) | (with_reducible (first | (apply readc_left; assumption) | refine readc_exh (by assumption) ?_ | refine readc_exh0 (by assumption) ?_ | apply readc_next)))); done)); simp only [Act.put, zg, zh, zi])
        | ((with_reducible refine mix_float ?_ ?_ ?_ (fun h hk => ?_) ?_); rotate_left 1; (focus rfl); (focus rfl); (focus (go_simp; (try (rw [if_pos (by omega)]; (try go_simp))); (try simp (disch := omega) only [IntWalk.i64_in, IntWalk.i32_in]); (try with_reducible rfl); done)); simp only [Act.put, zg, zh, zi]))
  rename_i x
  (go_ret2; simp only [za, zb, zc, zd, ze, zf])
  refine ⟨_, rfl, hs.mono (ent_ex x (ent_ex v (ent_pu rfl (ent_trans (B := rows2 22 33 4 chg x dn * (rows2 22 33 4 chg v un * (stkO gs A ts.length c ts dn B us.length d us un F))) (by unfold stkO; ((repeat (first | (with_reducible (first | exact ent_refl | exact ent_emp)) | ((with_reducible apply ent_front); (focus with_reducible (repeat (first | exact ent_here | apply ent_next | exact ent_last)); done)) | (with_reducible (first | exact ent_keep | apply ent_trans ent_drop)))); done)) (star_mono ent_refl (star_mono ent_refl stk_shut))))))⟩
end Go.Proofs.YtflibhphpnajeaaDoor
