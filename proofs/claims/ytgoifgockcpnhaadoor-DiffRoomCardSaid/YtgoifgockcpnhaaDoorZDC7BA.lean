/- The program's walk for Edits. -/
import Derived.Test.YtgoifgockcpnhaaDoorZDC7AY
import Derived.Test.YtgoifgockcpnhaaDoorZDC7AZ
import Derived.Test.YtgoifgockcpnhaaDoorZDC7AM
set_option linter.unusedSimpArgs false
set_option linter.unusedVariables false
namespace Go.Proofs.YtgoifgockcpnhaaDoor
open Go Go.RowKit

abbrev elB (gl go : Nat) (A : Option Addr) (n c : Nat) (D : List EdtD) (b : Bool) (F : HP) : HP := blk gl (.cells #[.slice A n c] 22 (0, 0)) * (row 44 3 edt (.slice A n c) D * (blk go (.cells #[.bool b] 4 (0, 0)) * F))
/-- The edits so far, and whether the last one is open. -/
def el (gl go : Nat) (D : List EdtD) (b : Bool) : HP := ex fun t : SlD => pu (t.n = D.length) (blk gl (.cells #[.slice t.p t.n t.c] 22 (0, 0)) * (row 44 3 edt (.slice t.p t.n t.c) D * blk go (.cells #[.bool b] 4 (0, 0))))
theorem el_shut {gl go : Nat} {A : Option Addr} {n c : Nat} {D : List EdtD} {b : Bool} {F : HP} (hn : n = D.length) : Ent (elB gl go A n c D b F) (el gl go D b * F) := by
  unfold el
  rw [ex_star]
  refine ent_ex ⟨A, n, c⟩ ?_
  rw [pu_star]
  simp only [star_assoc]
  exact ent_pu hn ent_refl
theorem el_open {gl go : Nat} {D : List EdtD} {b : Bool} {F : HP} {c0 w : World} (hs : Sat c0 (el gl go D b * F) w) : ∃ A c, Sat c0 (elB gl go A D.length c D b F) w := by
  unfold el at hs
  rw [ex_star] at hs
  obtain ⟨⟨A, n, c⟩, hs⟩ := hs.ex
  rw [pu_star] at hs
  simp only [star_assoc] at hs
  obtain ⟨h, hs⟩ := hs.pu
  (try dsimp only at h hs)
  subst h
  exact ⟨A, c, hs⟩
theorem last_get {α : Type} (D : List α) (d : α) : (D ++ [d])[D.length]? = some d := by rw [List.getElem?_append_right (Nat.le_refl _), Nat.sub_self]; rfl
theorem last_set {α : Type} (D : List α) (d e : α) : (D ++ [d]).set D.length e = D ++ [e] := by rw [List.set_append_right _ _ (Nat.le_refl _), Nat.sub_self]; rfl
theorem edt_row_get {g n c k : Nat} {l : List EdtD} {i : Nat} {d : EdtD} {v : Value} (hi : l[i]? = some d) (hk : k < 3) (he : (edt d)[k]? = some v) : ∀ R, ReadC (row 44 3 edt (.slice (some ⟨g, 0, none⟩) n c) l * R) g (i * 3 + k) v := fun R =>
  (reads_row (E := 44) (g := g) (n := n) (cap := c) (R := R) edt_size hi).cell hk he
theorem edts_row_some {v : Value} {l : List EdtD} {R : HP} {w : World} (h : Own (row 44 3 edt v l * R) w) (hl : 0 < l.length) : ∃ g cap, v = .slice (some ⟨g, 0, none⟩) l.length cap := by
  rcases row_form h with ⟨_, he⟩ | ⟨g, cap, he, _, _⟩
  · rw [he] at hl; simp at hl
  · exact ⟨g, cap, he⟩
/-- The closure 'edit': the open edit, or a new one. -/
abbrev edP (gl go : Nat) (L : List EdtD) (k : Nat) (F : HP) (r : Value) : HP := ex fun g : Nat => ex fun c : Nat => pu (r = .pointer (some ⟨g, k * 3, none⟩)) (elB gl go (some ⟨g, 0, none⟩) (k + 1) c L true F)
set_option maxRecDepth 20000 in
set_option maxHeartbeats 1000000 in
theorem edit1T_s (c0 : World) (F : HP) (gl go k : Nat) (L : List EdtD) (j : Value) : Spec Tryd.prog c0 37 #[j, .pointer (some ⟨go, 0, none⟩), .pointer (some ⟨gl, 0, none⟩)] (pu (L.length = k + 1 ∧ k ≤ 10000000) (el gl go L true * F)) (edP gl go L k F) := by
  intro w hq; obtain ⟨⟨hlen, hD⟩, hs⟩ := hq.pu; clear hq
  obtain ⟨A, c, hs⟩ := el_open hs
  obtain ⟨g, cap, he⟩ := edts_row_some (hs.own.mono ent_drop) (by omega)
  obtain ⟨rfl, _, rfl⟩ := sl_inj he
  rw [hlen] at hs
  clear hlen he
  go_enter Tryd.func37, Tryd.ntmps37
  go_wp2_with (first
        | ((with_reducible apply pl_load1 hs); (focus (simp only [Act.eval, za, zb, zc, zd, ze, zf]; (try with_reducible rfl); done)); (focus (simp only [go_sem])); (focus ((repeat (first | (with_reducible (first | assumption | exact hec _ | exact hec2 _ | exact hec3 _ | exact hec4 _ _)) | ((with_reducible apply readc_here); (focus (first | (simp only [zc, zd, ze, go_sem]; (try with_reducible rfl); done) | (go_simp; (try with_reducible rfl); done)))) | (with_reducible (first | (apply readc_left; assumption) | refine readc_exh (by assumption) ?_ | refine readc_exh0 (by assumption) ?_ | apply readc_next)))); done)); (focus rfl); simp only [Act.put, zg, zh, zi]))
  (go_ret; simp only [za, zb, zc, zd, ze, zf])
  exact ⟨_, rfl, hs.mono (ent_ex g (ent_ex c (ent_pu rfl (by ((repeat (first | (with_reducible (first | exact ent_refl | exact ent_emp)) | ((with_reducible apply ent_front); (focus with_reducible (repeat (first | exact ent_here | apply ent_next | exact ent_last)); done)) | (with_reducible (first | exact ent_keep | apply ent_trans ent_drop)))); done)))))⟩
set_option maxRecDepth 20000 in
set_option maxHeartbeats 1000000 in
theorem edit1F_s (c0 : World) (F : HP) (gl go : Nat) (D : List EdtD) (j : Int) : Spec Tryd.prog c0 37 #[.int .i64 j, .pointer (some ⟨go, 0, none⟩), .pointer (some ⟨gl, 0, none⟩)] (pu (D.length ≤ 10000000) (el gl go D false * F)) (edP gl go (D ++ [⟨j, 0, .empty⟩]) D.length F) := by
  intro w hq; obtain ⟨hD, hs⟩ := hq.pu; clear hq
  obtain ⟨A, c, hs⟩ := el_open hs
  have hmx : 0 ≤ maxLen := Nat.zero_le _
  go_enter Tryd.func37, Tryd.ntmps37
  go_wp2_with (first
        | (((with_reducible apply pl_append1 hs); (with_reducible (first | exact app_22 | exact app_33 | exact app_47 | exact app_48 | exact app_80 | exact app_90 | exact app_97)); (focus (simp only [Act.eval, za, zb, zc, zd, ze, zf]; (try with_reducible rfl); done)); (focus with_reducible (repeat (first | exact ent_here | apply ent_next | exact ent_last)); done); (focus (simp only [Act.eval, za, zb, zc, zd, ze, zf]; (try with_reducible rfl); done)); (focus ((repeat (first | (with_reducible (first | assumption | exact hel _ | exact hel2 _ | exact hel3 _)) | ((with_reducible apply reads_whole); (focus (first | (with_reducible rfl) | (simp only [go_sem]; done) | (simp; done)))) | ((with_reducible apply reads_part); (focus (first | (simp [go_sem]; done) | (simp only [go_sem]; omega) | go_size)); (focus (first | (simp only [Nat.reduceAdd, Nat.zero_add, go_sem]; (try with_reducible rfl); done) | (simp [go_sem]; (try with_reducible rfl); done)))) | (with_reducible (first | (apply reads_left; assumption) | refine reads_exh (by assumption) ?_ | refine reads_exh0 (by assumption) ?_ | apply reads_next)))); done)); (focus (first | (simp only [maxLen] at *; omega) | (simp [maxLen] at *; omega))); (focus (first | (simp only [maxLen] at *; omega) | (simp [maxLen] at *; omega))); clear hs; (try clear w); intro Ap cq w hs; (obtain ⟨ga, cp, he⟩ := edts_row_some hs.own (by simp)); (obtain ⟨rfl, hcl, rfl⟩ := sl_inj he); clear he hcl; simp only [Act.put, zg, zh, zi]))
        | ((with_reducible apply pl_load1 hs); (focus (simp only [Act.eval, za, zb, zc, zd, ze, zf]; (try with_reducible rfl); done)); (focus (simp only [go_sem])); (focus ((repeat (first | (with_reducible (first | assumption | exact hec _ | exact hec2 _ | exact hec3 _ | exact hec4 _ _)) | ((with_reducible apply readc_here); (focus (first | (simp only [zc, zd, ze, go_sem]; (try with_reducible rfl); done) | (go_simp; (try with_reducible rfl); done)))) | (with_reducible (first | (apply readc_left; assumption) | refine readc_exh (by assumption) ?_ | refine readc_exh0 (by assumption) ?_ | apply readc_next)))); done)); (focus rfl); simp only [Act.put, zg, zh, zi])
        | ((with_reducible apply pl_build hs); (focus (simp only [zj, zk, zl, Act.eval, za, zb, zc, zd, ze, zf]; (try with_reducible rfl); done)); (first | (with_reducible exact bld_0 _)); (focus rfl); simp only [Act.put, zg, zh, zi])
        | ((with_reducible apply pl_bs1 hs); (with_reducible (first | exact bst_22)); (focus (simp only [Act.eval, za, zb, zc, zd, ze, zf]; (try with_reducible rfl); done)); (focus (first | (with_reducible (first | exact cells_intv _ | exact cells_bytv _ | exact cells_runv _ | exact cells_slv _ _ _ | exact cells_agg _ | exact cells_int _ _ | exact cells_bool _ | exact cells_string _ | exact cells_slice _ _ _ | exact cells_pointer _ | exact cells_map _ | exact cells_iface _ _ | exact cells_nilIface | exact cells_func _ _ _)) | (exact cells_one (by assumption)))); (focus (first | (with_reducible rfl) | (simp only [go_sem]; done) | (simp; done))); clear hs; (try clear w); intro g w hs; skip; simp only [Act.put, zg, zh, zi])
        | ((with_reducible apply pl_store1 hs); (focus (simp only [Act.eval, za, zb, zc, zd, ze, zf]; (try with_reducible rfl); done)); (focus (simp only [Act.eval, za, zb, zc, zd, ze, zf]; (try with_reducible rfl); done)); (focus (simp only [go_sem])); (focus with_reducible (repeat (first | exact ent_here | apply ent_next | exact ent_last)); done); (focus (first | (simp [go_sem]; done) | (simp only [go_sem]; omega) | go_size)); (focus (first | (simp only [go_sem]; done) | (simp [go_sem]; done))); clear hs; (try clear w); intro w hs; (try simp only [zg, zh, zi, edt_s0, edt_s1, edt_s2, txt_s0, txt_s1, txt_s2, txt_s3, lnk_s0, lnk_s1, lnk_s2, nov_s0, nov_s1, nov_s2, intv_set, bytv_set, runv_set, slv_set] at hs); (try rw [hset] at hs); simp only [Act.put, zg, zh, zi]))
  (go_ret; simp only [za, zb, zc, zd, ze, zf])
  exact ⟨_, rfl, hs.mono (ent_ex ga (ent_ex cq (ent_pu rfl (by ((repeat (first | (with_reducible (first | exact ent_refl | exact ent_emp)) | ((with_reducible apply ent_front); (focus with_reducible (repeat (first | exact ent_here | apply ent_next | exact ent_last)); done)) | (with_reducible (first | exact ent_keep | apply ent_trans ent_drop)))); done)))))⟩
theorem both2_s (c0 : World) (F : HP) (gl go : Nat) (D : List EdtD) (b : Bool) (i j : Value) : Spec Tryd.prog c0 38 #[i, j, .pointer (some ⟨go, 0, none⟩)] (el gl go D b * F) (fun _ => el gl go D false * F) := by
  intro w hs
  obtain ⟨A, c, hs⟩ := el_open hs
  go_enter Tryd.func38, Tryd.ntmps38
  go_wp2_with (first
        | ((with_reducible apply pl_store1 hs); (focus (simp only [Act.eval, za, zb, zc, zd, ze, zf]; (try with_reducible rfl); done)); (focus (simp only [Act.eval, za, zb, zc, zd, ze, zf]; (try with_reducible rfl); done)); (focus (simp only [go_sem])); (focus with_reducible (repeat (first | exact ent_here | apply ent_next | exact ent_last)); done); (focus (first | (simp [go_sem]; done) | (simp only [go_sem]; omega) | go_size)); (focus (first | (simp only [go_sem]; done) | (simp [go_sem]; done))); clear hs; (try clear w); intro w hs; (try simp only [zg, zh, zi, edt_s0, edt_s1, edt_s2, txt_s0, txt_s1, txt_s2, txt_s3, lnk_s0, lnk_s1, lnk_s2, nov_s0, nov_s1, nov_s2, intv_set, bytv_set, runv_set, slv_set] at hs); (try rw [hset] at hs); simp only [Act.put, zg, zh, zi]))
  refine bodyPost_end (results_none rfl _ _ _) rfl ?_; have hfin : Sat c0 (el gl go D false * F) _ := hs.mono (ent_trans (by ((repeat (first | (with_reducible (first | exact ent_refl | exact ent_emp)) | ((with_reducible apply ent_front); (focus with_reducible (repeat (first | exact ent_here | apply ent_next | exact ent_last)); done)) | (with_reducible (first | exact ent_keep | apply ent_trans ent_drop)))); done)) (el_shut (A := A) (n := D.length) (c := c) rfl)); first | exact ⟨_, rfl, hfin⟩ | exact ⟨⟨_, rfl⟩, hfin⟩
abbrev edV (gl go : Nat) : Value := .func (.func 37) #[] #[.pointer (some ⟨go, 0, none⟩), .pointer (some ⟨gl, 0, none⟩)]
set_option maxRecDepth 20000 in
set_option maxHeartbeats 2000000 in
theorem erase3_s (c0 : World) (F H0 : HP) (gl go ge k : Nat) (L : List EdtD) (d : EdtD) (i j : Value) (hL : L[k]? = some d) (hlen : L.length = k + 1) (hd : 0 ≤ d.er ∧ d.er ≤ 10000000) (hed : ∀ F, Spec Tryd.prog c0 37 #[j, .pointer (some ⟨go, 0, none⟩), .pointer (some ⟨gl, 0, none⟩)] (H0 * F) (edP gl go L k F)) :
    Spec Tryd.prog c0 39 #[i, j, .pointer (some ⟨ge, 0, none⟩)] (pu (ReadC F ge 0 (edV gl go)) (H0 * F)) (fun _ => el gl go (L.set k { d with er := d.er + 1 }) true * F) := by
  intro w hq; obtain ⟨hge, hs⟩ := hq.pu; clear hq
  obtain ⟨hd1, hd2⟩ := hd
  replace hlen := Lib.hid hlen
  go_enter Tryd.func39, Tryd.ntmps39
  go_wp2_with (first
        | ((with_reducible apply pl_callv hs (hed _)); (focus (simp only [Act.eval, za, zb, zc, zd, ze, zf]; (try with_reducible rfl); done)); ((((focus (simp only [zj, zk, zl, List.append_toArray, List.nil_append, List.cons_append, Act.eval, za, zb, zc, zd, ze, zf]; (try with_reducible rfl); done)); (focus ((repeat (first | (with_reducible (first | exact ent_refl | apply ent_puR)) | ((with_reducible apply ent_front); (focus with_reducible (repeat (first | exact ent_here | apply ent_next | exact ent_last)); done)) | (with_reducible (first | exact ent_keep | apply ent_trans ent_drop)) | (fail))); done)); (focus (simp only [go_sem]))))); clear hs; (try clear w); intro v w hq; (obtain ⟨g, hq1⟩ := hq.ex; obtain ⟨c, hq2⟩ := hq1.ex; obtain ⟨rfl, hs⟩ := hq2.pu; clear hq1 hq2; have hec := edt_row_get (g := g) (n := k + 1) (c := c) (k := 1) hL (by omega) (edt_1 d)); clear hq; (try simp only [star_assoc, star_emp, emp_star] at hs); (try simp only [Act.put, zg, zh, zi]))
        | (((with_reducible apply pl_storeIn (i := k) (j := 1) hs); (focus (simp only [Act.eval, za, zb, zc, zd, ze, zf]; (try with_reducible rfl); done)); (focus with_reducible (repeat (first | exact ent_here | apply ent_next | exact ent_last)); done); (focus (simp only [Act.eval, za, zb, zc, zd, ze, zf]; (try with_reducible rfl); done)); (focus (simp only [go_sem])); (focus rfl); (focus omega); (focus omega); (focus (exact hL)); (focus (exact edt_s1 _ _)); (focus (exact edt_size)); clear hs; (try clear w); intro w hs; simp only [Act.put, zg, zh, zi]))
        | ((with_reducible apply pl_load1 hs); (focus (simp only [Act.eval, za, zb, zc, zd, ze, zf]; (try with_reducible rfl); done)); (focus (simp only [go_sem])); (focus ((repeat (first | (with_reducible (first | assumption | exact hec _ | exact hec2 _ | exact hec3 _ | exact hec4 _ _)) | ((with_reducible apply readc_here); (focus (first | (simp only [zc, zd, ze, go_sem]; (try with_reducible rfl); done) | (go_simp; (try with_reducible rfl); done)))) | (with_reducible (first | (apply readc_left; assumption) | refine readc_exh (by assumption) ?_ | refine readc_exh0 (by assumption) ?_ | apply readc_next)))); done)); (focus rfl); simp only [Act.put, zg, zh, zi]))
  refine bodyPost_end (results_none rfl _ _ _) rfl ?_; have hfin : Sat c0 (el gl go (L.set k { d with er := d.er + 1 }) true * F) _ := hs.mono (ent_trans (by ((repeat (first | (with_reducible (first | exact ent_refl | exact ent_emp)) | ((with_reducible apply ent_front); (focus with_reducible (repeat (first | exact ent_here | apply ent_next | exact ent_last)); done)) | (with_reducible (first | exact ent_keep | apply ent_trans ent_drop)))); done)) (el_shut (A := some ⟨g, 0, none⟩) (n := k + 1) (c := c) (by rw [List.length_set]; exact hlen.out.symm))); first | exact ⟨_, rfl, hfin⟩ | exact ⟨⟨_, rfl⟩, hfin⟩
theorem rts_one (i : Int) : rts [i] = Utf8.encode i := by
  unfold rts encs encR
  simp
theorem enc_size {q : Int} (h : RuneI q) : (Utf8.encode q).size ≤ 4 := (enc_dec h []).2.2.2
set_option maxRecDepth 20000 in
set_option maxHeartbeats 2000000 in
theorem insert4_s (c0 : World) (F H0 : HP) (gl go ge gy k : Nat) (v : Value) (y : List Int) (L : List EdtD) (d : EdtD) (i : Value) (j : Nat) (q : Int) (hL : L[k]? = some d) (hlen : L.length = k + 1) (hq : RuneI q) (hins : d.ins.size ≤ 10000000) (hed : ∀ F, Spec Tryd.prog c0 37 #[.int .i64 j, .pointer (some ⟨go, 0, none⟩), .pointer (some ⟨gl, 0, none⟩)] (H0 * F) (edP gl go L k F)) :
    Spec Tryd.prog c0 40 #[i, .int .i64 j, .pointer (some ⟨ge, 0, none⟩), .pointer (some ⟨gy, 0, none⟩)] (pu (ReadC F ge 0 (edV gl go) ∧ ReadC F gy 0 v ∧ SlR F 1 runv v y ∧ y[j]? = some q) (H0 * F)) (fun _ => el gl go (L.set k { d with ins := d.ins ++ rts [q] }) true * F) := by
  intro w hq; obtain ⟨⟨hge, hgy, hv, hj⟩, hs⟩ := hq.pu; clear hq
  replace hlen := Lib.hid hlen
  have henc := enc_size hq
  obtain ⟨B, dd, rfl⟩ := slr_form hv (hs.own.mono ent_drop)
  have hlt : j < y.length := (List.getElem?_eq_some_iff.1 hj).1
  obtain ⟨bx, ox, ax, rfl, hxk, hcx⟩ := slr_rune hv (hs.own.mono ent_drop) hlt
  obtain rfl : ax = q := by rw [hj] at hxk; exact (Option.some.inj hxk).symm
  rw [rts_one]
  obtain ⟨_, hx1, hx2, _⟩ := slr_len hv (hs.own.mono ent_drop)
  have hxm : (y.length : Int) ≤ 9223372036854775807 := by unfold maxLen at hx2; omega
  clear hxk hj hx1 hx2
  generalize y.length = n at *
  go_enter Tryd.func40, Tryd.ntmps40
  go_wp2_with (first
        | ((with_reducible apply wp_region_cn (G := (H0)) (id := 0) hs 14 [0, 1, 6, 7, 8, 9, 10, 2] [[3, 4, 5, 11, 12, 13]]); (focus with_reducible (repeat (first | exact ent_here | apply ent_next | exact ent_last)); done); (focus kernel_rfl); (focus decide +kernel); clear hs; (try clear w); intro hR w hRR hs; (try simp only [star_assoc] at hs); simp only [CutV, List.filterMap_cons, List.filterMap_nil, zd, ze, List.length_cons, List.length_nil, Nat.reduceAdd, List.drop_succ_cons, List.drop_zero])
        | ((with_reducible apply mix_cut2 (G' := emp) hRR hs); (focus with_reducible (repeat (first | exact ent_here | apply ent_next | exact ent_last)); done); (focus (exact ent_emp_l)); clear hs hRR hR; intro hR hRR hs; (try simp only [star_assoc] at hs); (try simp only [star_assoc] at hRR))
        | ((with_reducible apply mix_plain hRR hs); (focus with_reducible (repeat (first | exact ent_here | apply ent_next | exact ent_last)); done); clear hs; (try clear w); intro w hs; (try simp only [star_assoc, star_emp, emp_star] at hs); clear hRR hR)
        | ((with_reducible apply mx_callv hs (hed _)); (focus (simp only [Act.eval, za, zb, zc, zd, ze, zf]; (try with_reducible rfl); done)); ((((focus (simp only [zj, zk, zl, List.append_toArray, List.nil_append, List.cons_append, Act.eval, za, zb, zc, zd, ze, zf]; (try with_reducible rfl); done)); (focus ((repeat (first | (with_reducible (first | exact ent_refl | apply ent_puR)) | ((with_reducible apply ent_front); (focus with_reducible (repeat (first | exact ent_here | apply ent_next | exact ent_last)); done)) | (with_reducible (first | exact ent_keep | apply ent_trans ent_drop)) | (fail))); done)); (focus (simp only [go_sem])); (focus (intros; with_reducible (refine in_of_sat (by assumption) ?_; repeat (first | exact ent_exh_here | exact ent_last | refine ent_pu_l (fun _ => ?_) | refine ent_ex_l (fun _ => ?_) | apply ent_exh_next)); done))))); clear hs; (try clear w); intro v w hq; (obtain ⟨g, hq1⟩ := hq.ex; obtain ⟨c, hq2⟩ := hq1.ex; obtain ⟨rfl, hs⟩ := hq2.pu; clear hq1 hq2; have hec := edt_row_get (g := g) (n := k + 1) (c := c) (k := 2) hL (by omega) (edt_2 d)); clear hq; (try simp only [star_assoc, star_emp, emp_star] at hs); (try simp only [Act.put, zg, zh, zi]))
        | (((with_reducible apply pl_storeIn (i := k) (j := 2) hs); (focus (simp only [Act.eval, za, zb, zc, zd, ze, zf]; (try with_reducible rfl); done)); (focus with_reducible (repeat (first | exact ent_here | apply ent_next | exact ent_last)); done); (focus (simp only [Act.eval, za, zb, zc, zd, ze, zf]; (try with_reducible rfl); done)); (focus (simp only [go_sem])); (focus rfl); (focus omega); (focus omega); (focus (exact hL)); (focus (exact edt_s2 _ _)); (focus (exact edt_size)); clear hs; (try clear w); intro w hs; simp only [Act.put, zg, zh, zi]))
        | (((with_reducible refine mix_float ?_ ?_ ?_ (fun h hk => ?_) ?_); rotate_left 1; (focus rfl); (focus rfl); (focus (go_simp; rw [if_neg (by omega)]; (try go_simp); (try with_reducible rfl); done)); simp only [Act.put, zg, zh, zi]))
        | ((with_reducible apply mx_load1 hRR); (focus (simp only [Act.eval, za, zb, zc, zd, ze, zf]; (try with_reducible rfl); done)); (focus (simp only [go_sem])); (focus ((repeat (first | (with_reducible (first | assumption | exact hec _ | exact hec2 _ | exact hec3 _ | exact hec4 _ _)) | ((with_reducible apply readc_here); (focus (first | (simp only [zc, zd, ze, go_sem]; (try with_reducible rfl); done) | (go_simp; (try with_reducible rfl); done)))) | (with_reducible (first | (apply readc_left; assumption) | refine readc_exh (by assumption) ?_ | refine readc_exh0 (by assumption) ?_ | apply readc_next)))); done)); simp only [Act.put, zg, zh, zi])
        | ((with_reducible refine mix_float ?_ ?_ ?_ (fun h hk => ?_) ?_); rotate_left 1; (focus rfl); (focus rfl); (focus (go_simp; (try (rw [if_pos (by omega)]; (try go_simp))); (try simp (disch := omega) only [IntWalk.i64_in, IntWalk.i32_in]); (try with_reducible rfl); done)); simp only [Act.put, zg, zh, zi]))
  refine bodyPost_end (results_none rfl _ _ _) rfl ?_; have hfin : Sat c0 (el gl go (L.set k { d with ins := d.ins ++ Utf8.encode ax }) true * F) _ := hs.mono (ent_trans (by ((repeat (first | (with_reducible (first | exact ent_refl | exact ent_emp)) | ((with_reducible apply ent_front); (focus with_reducible (repeat (first | exact ent_here | apply ent_next | exact ent_last)); done)) | (with_reducible (first | exact ent_keep | apply ent_trans ent_drop)))); done)) (el_shut (A := some ⟨g, 0, none⟩) (n := k + 1) (c := c) (by rw [List.length_set]; exact hlen.out.symm))); first | exact ⟨_, rfl, hfin⟩ | exact ⟨⟨_, rfl⟩, hfin⟩
/-! ### in plain words -/
def pendB (e : Nat) (m : List Int) : Bool := decide (0 < e ∨ 0 < m.length)
abbrev elE (gl go : Nat) (E : List Ed) (a e : Nat) (m : List Int) : HP := el gl go ((E ++ fl a e m).map encE) (pendB e m)
theorem rts_append (l l' : List Int) : rts (l ++ l') = rts l ++ rts l' := by
  unfold rts encs
  rw [List.flatMap_append]
  apply ByteArray.ext
  simp
theorem pendB_no {e : Nat} {m : List Int} (h : ¬ (0 < e ∨ 0 < m.length)) : e = 0 ∧ m = [] ∧ pendB e m = false := ⟨by omega, List.eq_nil_of_length_eq_zero (by omega), by unfold pendB; exact decide_eq_false h⟩
theorem fl_map {E : List Ed} {a e : Nat} {m : List Int} (h : 0 < e ∨ 0 < m.length) : (E ++ fl a e m).map encE = E.map encE ++ [⟨a, e, rts m⟩] := by rw [fl_yes h, List.map_append]; rfl
theorem eraseE_s (c0 : World) (F : HP) (gl go ge : Nat) (E : List Ed) (a e j : Nat) (m : List Int) (i : Value) (hj : j = a + m.length) (hE : E.length ≤ 9000000) (he : e ≤ 9000000) :
    Spec Tryd.prog c0 39 #[i, .int .i64 j, .pointer (some ⟨ge, 0, none⟩)] (pu (ReadC F ge 0 (edV gl go)) (elE gl go E a e m * F)) (fun _ => elE gl go E a (e + 1) m * F) := by
  have hfin : (E ++ fl a (e + 1) m).map encE = E.map encE ++ [⟨a, (e : Int) + 1, rts m⟩] := by rw [fl_map (.inl (by omega))]; rfl
  have hpb : pendB (e + 1) m = true := by unfold pendB; exact decide_eq_true (.inl (by omega))
  unfold elE
  rw [hfin, hpb]
  by_cases hp : 0 < e ∨ 0 < m.length
  · have hpt : pendB e m = true := by unfold pendB; exact decide_eq_true hp
    rw [hpt, fl_map hp]
    have := erase3_s c0 F (el gl go (E.map encE ++ [⟨a, e, rts m⟩]) true) gl go ge E.length (E.map encE ++ [⟨a, e, rts m⟩]) ⟨a, e, rts m⟩ i (.int .i64 j) (by have := last_get (E.map encE) (⟨a, e, rts m⟩ : EdtD); rwa [List.length_map] at this) (by simp) ⟨by simp only; omega, by simp only; omega⟩ (fun F w hs => edit1T_s c0 F gl go E.length _ _ w (hs.mono (ent_pu ⟨by simp, by omega⟩ ent_refl)))
    have hset := last_set (E.map encE) (⟨a, e, rts m⟩ : EdtD) (⟨a, (e : Int) + 1, rts m⟩ : EdtD)
    rw [List.length_map] at hset
    rw [hset] at this
    exact this
  · obtain ⟨rfl, rfl, hpt⟩ := pendB_no hp
    rw [hpt, fl_no, List.append_nil]
    obtain rfl : j = a := by simpa using hj
    have := erase3_s c0 F (el gl go (E.map encE) false) gl go ge E.length (E.map encE ++ [⟨j, 0, .empty⟩]) ⟨j, 0, .empty⟩ i (.int .i64 j) (by have := last_get (E.map encE) (⟨j, 0, .empty⟩ : EdtD); rwa [List.length_map] at this) (by simp) ⟨by simp only; omega, by simp only; omega⟩ (fun F w hs => by
      have h2 := edit1F_s c0 F gl go (E.map encE) (j : Int) w (hs.mono (ent_pu (by rw [List.length_map]; omega) ent_refl))
      rwa [List.length_map] at h2)
    have hset := last_set (E.map encE) (⟨j, 0, .empty⟩ : EdtD) (⟨j, ((0 : Nat) : Int) + 1, rts []⟩ : EdtD)
    rw [List.length_map] at hset
    rw [show ({ (⟨j, 0, .empty⟩ : EdtD) with er := (⟨j, 0, .empty⟩ : EdtD).er + 1 }) = (⟨j, ((0 : Nat) : Int) + 1, rts []⟩ : EdtD) from rfl, hset] at this
    exact this
theorem insertE_s (c0 : World) (F : HP) (gl go ge gy : Nat) (v : Value) (y : List Int) (E : List Ed) (a e j : Nat) (m : List Int) (q : Int) (i : Value) (hj : j = a + m.length) (hE : E.length ≤ 9000000) (hm : m.length ≤ 2000000) (hmI : ∀ c, c ∈ m → RuneI c) (hq : RuneI q) :
    Spec Tryd.prog c0 40 #[i, .int .i64 j, .pointer (some ⟨ge, 0, none⟩), .pointer (some ⟨gy, 0, none⟩)] (pu (ReadC F ge 0 (edV gl go) ∧ ReadC F gy 0 v ∧ SlR F 1 runv v y ∧ y[j]? = some q) (elE gl go E a e m * F)) (fun _ => elE gl go E a e (m ++ [q]) * F) := by
  have hfin : (E ++ fl a e (m ++ [q])).map encE = E.map encE ++ [⟨a, e, rts m ++ rts [q]⟩] := by rw [fl_map (.inr (by simp)), rts_append]
  have hpb : pendB e (m ++ [q]) = true := by unfold pendB; exact decide_eq_true (.inr (by simp))
  have hrl : (rts m).size ≤ 10000000 := by
    have := (encs_len hmI).1
    show (encs m).toArray.size ≤ 10000000
    rw [List.size_toArray]
    omega
  unfold elE
  rw [hfin, hpb]
  by_cases hp : 0 < e ∨ 0 < m.length
  · have hpt : pendB e m = true := by unfold pendB; exact decide_eq_true hp
    rw [hpt, fl_map hp]
    have := insert4_s c0 F (el gl go (E.map encE ++ [⟨a, e, rts m⟩]) true) gl go ge gy E.length v y (E.map encE ++ [⟨a, e, rts m⟩]) ⟨a, e, rts m⟩ i j q (by have := last_get (E.map encE) (⟨a, e, rts m⟩ : EdtD); rwa [List.length_map] at this) (by simp) hq hrl (fun F w hs => edit1T_s c0 F gl go E.length _ _ w (hs.mono (ent_pu ⟨by simp, by omega⟩ ent_refl)))
    have hset := last_set (E.map encE) (⟨a, e, rts m⟩ : EdtD) (⟨a, e, rts m ++ rts [q]⟩ : EdtD)
    rw [List.length_map] at hset
    rw [hset] at this
    exact this
  · obtain ⟨rfl, rfl, hpt⟩ := pendB_no hp
    rw [hpt, fl_no, List.append_nil]
    obtain rfl : j = a := by simpa using hj
    have := insert4_s c0 F (el gl go (E.map encE) false) gl go ge gy E.length v y (E.map encE ++ [⟨j, 0, .empty⟩]) ⟨j, 0, .empty⟩ i j q (by have := last_get (E.map encE) (⟨j, 0, .empty⟩ : EdtD); rwa [List.length_map] at this) (by simp) hq (show ByteArray.empty.size ≤ 10000000 by decide) (fun F w hs => by
      have h2 := edit1F_s c0 F gl go (E.map encE) (j : Int) w (hs.mono (ent_pu (by rw [List.length_map]; omega) ent_refl))
      rwa [List.length_map] at h2)
    have hset := last_set (E.map encE) (⟨j, 0, .empty⟩ : EdtD) (⟨j, ((0 : Nat) : Int), rts [] ++ rts [q]⟩ : EdtD)
    rw [List.length_map] at hset
    rw [show ({ (⟨j, 0, .empty⟩ : EdtD) with ins := (⟨j, 0, .empty⟩ : EdtD).ins ++ rts [q] }) = (⟨j, ((0 : Nat) : Int), rts [] ++ rts [q]⟩ : EdtD) from rfl, hset] at this
    exact this
theorem bothE_s (c0 : World) (F : HP) (gl go : Nat) (E : List Ed) (a e b : Nat) (m : List Int) (i j : Value) : Spec Tryd.prog c0 38 #[i, j, .pointer (some ⟨go, 0, none⟩)] (elE gl go E a e m * F) (fun _ => elE gl go (E ++ fl a e m) b 0 [] * F) := by
  have h1 : ((E ++ fl a e m) ++ fl b 0 []).map encE = (E ++ fl a e m).map encE := by rw [fl_no, List.append_nil]
  have h2 : pendB 0 [] = false := rfl
  unfold elE
  rw [h1, h2]
  exact both2_s c0 F gl go _ _ i j
end Go.Proofs.YtgoifgockcpnhaaDoor

set_option linter.unusedSimpArgs false
set_option linter.unusedVariables false
namespace Go.Proofs.YtgoifgockcpnhaaDoor
open Go Go.RowKit

set_option maxRecDepth 20000 in
set_option maxHeartbeats 4000000 in
theorem walkE_s (c0 : World) (F : HP) (gt gl go ge gy : Nat) (u v : Value) (x y : List Int) : Spec Tryd.prog c0 35 #[.pointer (some ⟨gt, 0, none⟩), .func (.func 38) #[] #[.pointer (some ⟨go, 0, none⟩)], .func (.func 39) #[] #[.pointer (some ⟨ge, 0, none⟩)], .func (.func 40) #[] #[.pointer (some ⟨ge, 0, none⟩), .pointer (some ⟨gy, 0, none⟩)]]
    (pu (TblF F gt u v x y ∧ SlR F 1 runv u x ∧ SlR F 1 runv v y ∧ ReadC F ge 0 (edV gl go) ∧ ReadC F gy 0 v ∧ x.length ≤ 1000000 ∧ y.length ≤ 1000000 ∧ (∀ c, c ∈ y → RuneI c)) (el gl go [] false * F)) (fun _ => ex fun b : Bool => el gl go ((wk 0 0 [] x y).map encE) b * F) := by
  intro w hq; obtain ⟨⟨hT, hu, hv, hge, hgy, hxl, hyl, hyI⟩, hs⟩ := hq.pu; clear hq
  have hc0 := hT.c0
  have hc1 := hT.c1
  obtain ⟨A, c, rfl⟩ := slr_form hu (hs.own.mono ent_drop)
  obtain ⟨B, d, rfl⟩ := slr_form hv (hs.own.mono ent_drop)
  have hat := fun F i j => at_s c0 F gt (.slice A x.length c) (.slice B y.length d) x y i j
  generalize hn : x.length = n at *
  generalize hm : y.length = m at *
  replace hn := Lib.hid hn
  replace hm := Lib.hid hm
  replace hat := Lib.hid hat
  replace hyI := Lib.hid hyI
  go_enter Tryd.func35, Tryd.ntmps35
  go_step3
  go_wp2_with fail
  go_step3
  go_wp2_with fail
  go_loopw [8, 9] (fun iv jv wr => ∃ (i j a e : Nat) (q : List Int) (E : List Ed), i ≤ n ∧ j ≤ m ∧ iv = .int .i64 i ∧ jv = .int .i64 j ∧ j = a + q.length ∧ e ≤ i ∧ E.length ≤ i + j ∧ (∀ c, c ∈ q → RuneI c) ∧ Hid (E ++ wk a e q (x.drop i) (y.drop j) = wk 0 0 [] x y) ∧ (0 < e ∨ 0 < q.length → E.length < i + j) ∧ Sat c0 (elE gl go E a e q * F) wr) (fun iv jv _ => (n - (intOf iv).toNat) + (m - (intOf jv).toNat))
  case atStart => exact ⟨0, 0, 0, 0, [], [], by omega, by omega, rfl, rfl, rfl, by omega, by simp, by simp, Lib.hid (by simp), by simp, hs⟩
  case round =>
    clear hs
    obtain ⟨i, j, a, e, q, E, hi, hj, rfl, rfl, hja, hei, hEl, hqI, hre, hEp, hs⟩ := hrel
    replace hja := Lib.hid hja
    have hql : q.length ≤ 1000000 := by have := hja.out; omega
    have her : ∀ F iv, Spec Tryd.prog c0 39 #[iv, .int .i64 j, .pointer (some ⟨ge, 0, none⟩)] (pu (ReadC F ge 0 (edV gl go)) (elE gl go E a e q * F)) (fun _ => elE gl go E a (e + 1) q * F) := fun F iv => eraseE_s c0 F gl go ge E a e j q iv hja.out (by omega) (by omega)
    have hbo := fun F iv jv => bothE_s c0 F gl go E a e (j + 1) q iv jv
    have hfll : (E ++ fl a e q).length ≤ i + j := by
      by_cases hp : 0 < e ∨ 0 < q.length
      · rw [fl_yes hp, List.length_append]; have := hEp hp; simp; omega
      · obtain ⟨h1, h2, _⟩ := pendB_no hp; rw [h1, h2, fl_no, List.append_nil]; exact hEl
    clear hEp
    by_cases hin : i = n
    · have hiI : ¬ ((i : Int) < n) := by omega
      by_cases hjm : j = m
      · have hjI : ¬ ((j : Int) < m) := by omega
        have hfin : E ++ fl a e q = wk 0 0 [] x y := by
          have := hre.out
          rwa [wk_step_end (hn.out.trans hin.symm) (hm.out.trans hjm.symm)] at this
        replace hfin := Lib.hid hfin
        go_wp2_with (first
        | ((with_reducible apply wp_region_sl (G := emp) (id := 1) hs 1000); (focus (exact ent_emp_l)); (focus kernel_rfl); (focus decide +kernel); clear hs; (try clear w); intro hR w hRR hs; (try simp only [star_assoc] at hs))
        | ((with_reducible rewrite [pl_strike_eq]); rotate_left 1; (focus rfl))
        | ((with_reducible apply mix_end hRR hs); (focus with_reducible (repeat (first | exact ent_here | apply ent_next | exact ent_last)); done); clear hs; (try clear w); intro w hs; (try simp only [star_assoc, star_emp, emp_star] at hs); clear hRR hR)
        | ((with_reducible apply mx_load1 hRR); (focus (simp only [Act.eval, za, zb, zc, zd, ze, zf]; (try with_reducible rfl); done)); (focus (simp only [go_sem])); (focus ((repeat (first | (with_reducible (first | assumption | exact hec _ | exact hec2 _ | exact hec3 _ | exact hec4 _ _)) | ((with_reducible apply readc_here); (focus (first | (simp only [zc, zd, ze, go_sem]; (try with_reducible rfl); done) | (go_simp; (try with_reducible rfl); done)))) | (with_reducible (first | (apply readc_left; assumption) | refine readc_exh (by assumption) ?_ | refine readc_exh0 (by assumption) ?_ | apply readc_next)))); done)); simp only [Act.put, zg, zh, zi])
        | ((with_reducible refine mix_float ?_ ?_ ?_ (fun h hk => ?_) ?_); rotate_left 1; (focus rfl); (focus rfl); (focus (go_simp; (try (rw [if_pos (by omega)]; (try go_simp))); (try simp (disch := omega) only [IntWalk.i64_in, IntWalk.i32_in]); (try with_reducible rfl); done)); simp only [Act.put, zg, zh, zi]))
        refine bodyPost_end (results_none rfl _ _ _) rfl ?_; have hfn : Sat c0 (ex fun b : Bool => el gl go ((wk 0 0 [] x y).map encE) b * F) _ := hs.mono (by rw [← hfin.out]; exact ent_ex (pendB e q) ent_refl); first | exact ⟨_, rfl, hfn⟩ | exact ⟨⟨_, rfl⟩, hfn⟩
      · have hjI : (j : Int) < m := by omega
        obtain ⟨by', oy, ay, hB, hyj, hcy⟩ := slr_rune hv (hs.own.mono ent_drop) (show j < m by omega)
        have hst := wk_step_y (x := x) (m := q) (a := a) (e := e) (hn.out.trans hin.symm) hyj
        have hins : ∀ F iv, Spec Tryd.prog c0 40 #[iv, .int .i64 j, .pointer (some ⟨ge, 0, none⟩), .pointer (some ⟨gy, 0, none⟩)] (pu (ReadC F ge 0 (edV gl go) ∧ ReadC F gy 0 (.slice B m d) ∧ SlR F 1 runv (.slice B m d) y) (elE gl go E a e q * F)) (fun _ => elE gl go E a e (q ++ [ay]) * F) := fun F iv w hs => by
          obtain ⟨⟨h1, h2, h3⟩, hs⟩ := hs.pu
          exact insertE_s c0 F gl go ge gy _ y E a e j q ay iv hja.out (by omega) (by omega) hqI (hyI.out ay (List.mem_of_getElem? hyj)) w (hs.mono (ent_pu ⟨h1, h2, h3, hyj⟩ ent_refl))
        replace hst := Lib.hid hst
        replace hyj := Lib.hid hyj
        subst hB
        go_wp2_with (first
        | ((with_reducible apply wp_region_sl (G := emp) (id := 1) hs 1000); (focus (exact ent_emp_l)); (focus kernel_rfl); (focus decide +kernel); clear hs; (try clear w); intro hR w hRR hs; (try simp only [star_assoc] at hs))
        | ((with_reducible apply wp_region_sl (G := emp) (id := 3) hs 1000); (focus (exact ent_emp_l)); (focus kernel_rfl); (focus decide +kernel); clear hs; (try clear w); intro hR w hRR hs; (try simp only [star_assoc] at hs))
        | ((with_reducible rewrite [pl_strike_eq]); rotate_left 1; (focus rfl))
        | ((with_reducible apply pl_callv hs (hins _ _)); (focus (simp only [Act.eval, za, zb, zc, zd, ze, zf]; (try with_reducible rfl); done)); ((((focus (simp only [zj, zk, zl, List.append_toArray, List.nil_append, List.cons_append, Act.eval, za, zb, zc, zd, ze, zf]; (try with_reducible rfl); done)); (focus ((repeat (first | (with_reducible (first | exact ent_refl | apply ent_puR)) | ((with_reducible apply ent_front); (focus with_reducible (repeat (first | exact ent_here | apply ent_next | exact ent_last)); done)) | (with_reducible (first | exact ent_keep | apply ent_trans ent_drop)) | (focus (first | ((repeat' (first | (with_reducible assumption) | (with_reducible apply And.intro))); done))))); done)); (focus (simp only [go_sem]))))); clear hs; (try clear w); intro v w hq; (have hs := hq); clear hq; (try simp only [star_assoc, star_emp, emp_star] at hs); (try simp only [Act.put, zg, zh, zi]))
        | ((with_reducible apply mix_end hRR hs); (focus with_reducible (repeat (first | exact ent_here | apply ent_next | exact ent_last)); done); clear hs; (try clear w); intro w hs; (try simp only [star_assoc, star_emp, emp_star] at hs); clear hRR hR)
        | ((with_reducible apply mx_skip); (focus rfl); simp only [Act.put, zg, zh, zi])
        | ((with_reducible apply mx_load1 hRR); (focus (simp only [Act.eval, za, zb, zc, zd, ze, zf]; (try with_reducible rfl); done)); (focus (simp only [go_sem])); (focus ((repeat (first | (with_reducible (first | assumption | exact hec _ | exact hec2 _ | exact hec3 _ | exact hec4 _ _)) | ((with_reducible apply readc_here); (focus (first | (simp only [zc, zd, ze, go_sem]; (try with_reducible rfl); done) | (go_simp; (try with_reducible rfl); done)))) | (with_reducible (first | (apply readc_left; assumption) | refine readc_exh (by assumption) ?_ | refine readc_exh0 (by assumption) ?_ | apply readc_next)))); done)); simp only [Act.put, zg, zh, zi])
        | ((with_reducible refine mix_float ?_ ?_ ?_ (fun h hk => ?_) ?_); rotate_left 1; (focus rfl); (focus rfl); (focus (go_simp; (try (rw [if_pos (by omega)]; (try go_simp))); (try simp (disch := omega) only [IntWalk.i64_in, IntWalk.i32_in]); (try with_reducible rfl); done)); simp only [Act.put, zg, zh, zi]))
        exact ⟨⟨i, j + 1, a, e, q ++ [ay], E, by omega, by omega, rfl, congrArg (Value.int .i64) (by omega), by have := hja.out; simp; omega, by omega, by omega, fun z hz => (List.mem_append.1 hz).elim (hqI z) (fun h => by rw [List.mem_singleton] at h; subst h; exact hyI.out _ (List.mem_of_getElem? hyj.out)), Lib.hid (by rw [← hst.out]; exact hre.out), fun _ => by omega, hs⟩, by simp only [intOf]; omega⟩
    · have hiI : (i : Int) < n := by omega
      obtain ⟨bx, ox, ax, hA, hxk, hcx⟩ := slr_rune hu (hs.own.mono ent_drop) (show i < n by omega)
      by_cases hjm : j = m
      · have hjI : ¬ ((j : Int) < m) := by omega
        have hst := wk_step_x (y := y) (m := q) (a := a) (e := e) hxk (hm.out.trans hjm.symm)
        replace hst := Lib.hid hst
        clear hxk
        go_wp2_with (first
        | ((with_reducible apply wp_region_sl (G := emp) (id := 1) hs 1000); (focus (exact ent_emp_l)); (focus kernel_rfl); (focus decide +kernel); clear hs; (try clear w); intro hR w hRR hs; (try simp only [star_assoc] at hs))
        | ((with_reducible apply wp_region_sl (G := emp) (id := 3) hs 1000); (focus (exact ent_emp_l)); (focus kernel_rfl); (focus decide +kernel); clear hs; (try clear w); intro hR w hRR hs; (try simp only [star_assoc] at hs))
        | ((with_reducible rewrite [pl_strike_eq]); rotate_left 1; (focus rfl))
        | ((with_reducible apply pl_callv hs (her _ _)); (focus (simp only [Act.eval, za, zb, zc, zd, ze, zf]; (try with_reducible rfl); done)); ((((focus (simp only [zj, zk, zl, List.append_toArray, List.nil_append, List.cons_append, Act.eval, za, zb, zc, zd, ze, zf]; (try with_reducible rfl); done)); (focus ((repeat (first | (with_reducible (first | exact ent_refl | apply ent_puR)) | ((with_reducible apply ent_front); (focus with_reducible (repeat (first | exact ent_here | apply ent_next | exact ent_last)); done)) | (with_reducible (first | exact ent_keep | apply ent_trans ent_drop)) | (focus (first | (with_reducible assumption))))); done)); (focus (simp only [go_sem]))))); clear hs; (try clear w); intro v w hq; (have hs := hq); clear hq; (try simp only [star_assoc, star_emp, emp_star] at hs); (try simp only [Act.put, zg, zh, zi]))
        | ((with_reducible apply mix_end hRR hs); (focus with_reducible (repeat (first | exact ent_here | apply ent_next | exact ent_last)); done); clear hs; (try clear w); intro w hs; (try simp only [star_assoc, star_emp, emp_star] at hs); clear hRR hR)
        | ((with_reducible apply mx_strike); (focus rfl))
        | ((with_reducible apply mx_skip); (focus rfl); simp only [Act.put, zg, zh, zi])
        | ((with_reducible apply mx_load1 hRR); (focus (simp only [Act.eval, za, zb, zc, zd, ze, zf]; (try with_reducible rfl); done)); (focus (simp only [go_sem])); (focus ((repeat (first | (with_reducible (first | assumption | exact hec _ | exact hec2 _ | exact hec3 _ | exact hec4 _ _)) | ((with_reducible apply readc_here); (focus (first | (simp only [zc, zd, ze, go_sem]; (try with_reducible rfl); done) | (go_simp; (try with_reducible rfl); done)))) | (with_reducible (first | (apply readc_left; assumption) | refine readc_exh (by assumption) ?_ | refine readc_exh0 (by assumption) ?_ | apply readc_next)))); done)); simp only [Act.put, zg, zh, zi])
        | ((with_reducible refine mix_float ?_ ?_ ?_ (fun h hk => ?_) ?_); rotate_left 1; (focus rfl); (focus rfl); (focus (go_simp; (try (rw [if_pos (by omega)]; (try go_simp))); (try simp (disch := omega) only [IntWalk.i64_in, IntWalk.i32_in]); (try with_reducible rfl); done)); simp only [Act.put, zg, zh, zi]))
        exact ⟨⟨i + 1, j, a, e + 1, q, E, by omega, by omega, congrArg (Value.int .i64) (by omega), rfl, hja.out, by omega, by omega, hqI, Lib.hid (by rw [← hst.out]; exact hre.out), fun _ => by omega, hs⟩, by simp only [intOf]; omega⟩
      · have hjI : (j : Int) < m := by omega
        obtain ⟨by', oy, ay, hB, hyj, hcy⟩ := slr_rune hv (hs.own.mono ent_drop) (show j < m by omega)
        by_cases hab : ax = ay
        · subst hab
          have hst := wk_step_eq (m := q) (a := a) (e := e) hxk hyj
          rw [← hja.out] at hst
          replace hst := Lib.hid hst
          replace hxk := Lib.hid hxk
          replace hyj := Lib.hid hyj
          subst hA
          subst hB
          go_wp2_with (first
        | ((with_reducible apply wp_region_sl (G := emp) (id := 1) hs 1000); (focus (exact ent_emp_l)); (focus kernel_rfl); (focus decide +kernel); clear hs; (try clear w); intro hR w hRR hs; (try simp only [star_assoc] at hs))
        | ((with_reducible apply wp_region_sl (G := emp) (id := 3) hs 1000); (focus (exact ent_emp_l)); (focus kernel_rfl); (focus decide +kernel); clear hs; (try clear w); intro hR w hRR hs; (try simp only [star_assoc] at hs))
        | ((with_reducible apply pl_callv hs (hbo _ _ _)); (focus (simp only [Act.eval, za, zb, zc, zd, ze, zf]; (try with_reducible rfl); done)); ((((focus (simp only [zj, zk, zl, List.append_toArray, List.nil_append, List.cons_append, Act.eval, za, zb, zc, zd, ze, zf]; (try with_reducible rfl); done)); (focus ((repeat (first | (with_reducible (first | exact ent_refl | apply ent_puR)) | ((with_reducible apply ent_front); (focus with_reducible (repeat (first | exact ent_here | apply ent_next | exact ent_last)); done)) | (with_reducible (first | exact ent_keep | apply ent_trans ent_drop)) | (fail))); done)); (focus (simp only [go_sem]))))); clear hs; (try clear w); intro v w hq; (have hs := hq); clear hq; (try simp only [star_assoc, star_emp, emp_star] at hs); (try simp only [Act.put, zg, zh, zi]))
        | ((with_reducible apply mix_end hRR hs); (focus with_reducible (repeat (first | exact ent_here | apply ent_next | exact ent_last)); done); clear hs; (try clear w); intro w hs; (try simp only [star_assoc, star_emp, emp_star] at hs); clear hRR hR)
        | ((with_reducible apply mx_strike); (focus rfl))
        | ((with_reducible apply mx_load1 hRR); (focus (simp only [Act.eval, za, zb, zc, zd, ze, zf]; (try with_reducible rfl); done)); (focus (simp only [go_sem])); (focus ((repeat (first | (with_reducible (first | assumption | exact hec _ | exact hec2 _ | exact hec3 _ | exact hec4 _ _)) | ((with_reducible apply readc_here); (focus (first | (simp only [zc, zd, ze, go_sem]; (try with_reducible rfl); done) | (go_simp; (try with_reducible rfl); done)))) | (with_reducible (first | (apply readc_left; assumption) | refine readc_exh (by assumption) ?_ | refine readc_exh0 (by assumption) ?_ | apply readc_next)))); done)); simp only [Act.put, zg, zh, zi])
        | ((with_reducible refine mix_float ?_ ?_ ?_ (fun h hk => ?_) ?_); rotate_left 1; (focus rfl); (focus rfl); (focus (go_simp; (try (rw [if_pos (by omega)]; (try go_simp))); (try simp (disch := omega) only [IntWalk.i64_in, IntWalk.i32_in]); (try with_reducible rfl); done)); simp only [Act.put, zg, zh, zi]))
          exact ⟨⟨i + 1, j + 1, j + 1, 0, [], E ++ fl a e q, by omega, by omega, congrArg (Value.int .i64) (by omega), congrArg (Value.int .i64) (by omega), by simp, by omega, by omega, by simp, Lib.hid (by rw [List.append_assoc, ← hst.out]; exact hre.out), by simp, hs⟩, by simp only [intOf]; omega⟩
        · have hne : (ax == ay) = false := by simpa using hab
          have hat1 : ∀ F, Spec Tryd.prog c0 33 #[.pointer (some ⟨gt, 0, none⟩), .int .i64 ((i : Int) + 1), .int .i64 j] (pu (TblF F gt (.slice A n c) (.slice B m d) x y) F) (fun r => pu (r = .int .i64 (dA x y (i + 1) j : Nat)) F) := fun F w hs => by
            obtain ⟨h1, hs⟩ := hs.pu
            have := hat.out F (i + 1) j w (hs.mono (ent_pu ⟨h1, by omega, by omega, by omega, by omega⟩ ent_refl))
            rwa [show ((i + 1 : Nat) : Int) = (i : Int) + 1 by omega] at this
          have hat2 : ∀ F, Spec Tryd.prog c0 33 #[.pointer (some ⟨gt, 0, none⟩), .int .i64 i, .int .i64 ((j : Int) + 1)] (pu (TblF F gt (.slice A n c) (.slice B m d) x y) F) (fun r => pu (r = .int .i64 (dA x y i (j + 1) : Nat)) F) := fun F w hs => by
            obtain ⟨h1, hs⟩ := hs.pu
            have := hat.out F i (j + 1) w (hs.mono (ent_pu ⟨h1, by omega, by omega, by omega, by omega⟩ ent_refl))
            rwa [show ((j + 1 : Nat) : Int) = (j : Int) + 1 by omega] at this
          have hins : ∀ F iv, Spec Tryd.prog c0 40 #[iv, .int .i64 j, .pointer (some ⟨ge, 0, none⟩), .pointer (some ⟨gy, 0, none⟩)] (pu (ReadC F ge 0 (edV gl go) ∧ ReadC F gy 0 (.slice B m d) ∧ SlR F 1 runv (.slice B m d) y) (elE gl go E a e q * F)) (fun _ => elE gl go E a e (q ++ [ay]) * F) := fun F iv w hs => by
            obtain ⟨⟨h1, h2, h3⟩, hs⟩ := hs.pu
            exact insertE_s c0 F gl go ge gy _ y E a e j q ay iv hja.out (by omega) (by omega) hqI (hyI.out ay (List.mem_of_getElem? hyj)) w (hs.mono (ent_pu ⟨h1, h2, h3, hyj⟩ ent_refl))
          subst hA
          subst hB
          by_cases hd : dA x y (i + 1) j ≤ dA x y i (j + 1)
          · have hst := wk_step_le (m := q) (a := a) (e := e) hxk hyj hab hd
            have hdI : (dA x y (i + 1) j : Int) ≤ (dA x y i (j + 1) : Int) := by omega
            replace hst := Lib.hid hst
            replace hxk := Lib.hid hxk
            replace hyj := Lib.hid hyj
            go_wp2_with (first
        | ((with_reducible apply wp_region_sl (G := emp) (id := 1) hs 1000); (focus (exact ent_emp_l)); (focus kernel_rfl); (focus decide +kernel); clear hs; (try clear w); intro hR w hRR hs; (try simp only [star_assoc] at hs))
        | ((with_reducible apply wp_region_sl (G := emp) (id := 3) hs 1000); (focus (exact ent_emp_l)); (focus kernel_rfl); (focus decide +kernel); clear hs; (try clear w); intro hR w hRR hs; (try simp only [star_assoc] at hs))
        | ((with_reducible rewrite [pl_strike_eq]); rotate_left 1; (focus rfl))
        | ((with_reducible apply pl_callv hs (her _ _)); (focus (simp only [Act.eval, za, zb, zc, zd, ze, zf]; (try with_reducible rfl); done)); ((((focus (simp only [zj, zk, zl, List.append_toArray, List.nil_append, List.cons_append, Act.eval, za, zb, zc, zd, ze, zf]; (try with_reducible rfl); done)); (focus ((repeat (first | (with_reducible (first | exact ent_refl | apply ent_puR)) | ((with_reducible apply ent_front); (focus with_reducible (repeat (first | exact ent_here | apply ent_next | exact ent_last)); done)) | (with_reducible (first | exact ent_keep | apply ent_trans ent_drop)) | (focus (first | (with_reducible assumption))))); done)); (focus (simp only [go_sem]))))); clear hs; (try clear w); intro v w hq; (have hs := hq); clear hq; (try simp only [star_assoc, star_emp, emp_star] at hs); (try simp only [Act.put, zg, zh, zi]))
        | ((with_reducible apply pl_call hs (hat1 _)); ((((focus (simp only [zj, zk, zl, List.append_toArray, List.nil_append, List.cons_append, Act.eval, za, zb, zc, zd, ze, zf]; (try with_reducible rfl); done)); (focus ((repeat (first | (with_reducible (first | exact ent_refl | apply ent_puR)) | ((with_reducible apply ent_front); (focus with_reducible (repeat (first | exact ent_here | apply ent_next | exact ent_last)); done)) | (with_reducible (first | exact ent_keep | apply ent_trans ent_drop)) | (focus (first | ((repeat' (first | (focus (with_reducible (repeat (first | assumption | (apply TblF.left; assumption) | refine TblF.exh (by assumption) ?_ | refine TblF.exh0 (by assumption) ?_ | exact (tblF_of (by assumption)) | apply TblF.next)); done)))); done))))); done)); (focus (simp only [go_sem]))))); clear hs; (try clear w); intro v w hq; (obtain ⟨rfl, hs⟩ := hq.pu); clear hq; (try simp only [star_assoc, star_emp, emp_star] at hs); (try simp only [Act.put, zg, zh, zi]))
        | ((with_reducible apply pl_call hs (hat2 _)); ((((focus (simp only [zj, zk, zl, List.append_toArray, List.nil_append, List.cons_append, Act.eval, za, zb, zc, zd, ze, zf]; (try with_reducible rfl); done)); (focus ((repeat (first | (with_reducible (first | exact ent_refl | apply ent_puR)) | ((with_reducible apply ent_front); (focus with_reducible (repeat (first | exact ent_here | apply ent_next | exact ent_last)); done)) | (with_reducible (first | exact ent_keep | apply ent_trans ent_drop)) | (focus (first | ((repeat' (first | (focus (with_reducible (repeat (first | assumption | (apply TblF.left; assumption) | refine TblF.exh (by assumption) ?_ | refine TblF.exh0 (by assumption) ?_ | exact (tblF_of (by assumption)) | apply TblF.next)); done)))); done))))); done)); (focus (simp only [go_sem]))))); clear hs; (try clear w); intro v w hq; (obtain ⟨rfl, hs⟩ := hq.pu); clear hq; (try simp only [star_assoc, star_emp, emp_star] at hs); (try simp only [Act.put, zg, zh, zi]))
        | ((with_reducible apply mix_end hRR hs); (focus with_reducible (repeat (first | exact ent_here | apply ent_next | exact ent_last)); done); clear hs; (try clear w); intro w hs; (try simp only [star_assoc, star_emp, emp_star] at hs); clear hRR hR)
        | ((with_reducible apply mx_strike); (focus rfl))
        | ((with_reducible apply mx_load1 hRR); (focus (simp only [Act.eval, za, zb, zc, zd, ze, zf]; (try with_reducible rfl); done)); (focus (simp only [go_sem])); (focus ((repeat (first | (with_reducible (first | assumption | exact hec _ | exact hec2 _ | exact hec3 _ | exact hec4 _ _)) | ((with_reducible apply readc_here); (focus (first | (simp only [zc, zd, ze, go_sem]; (try with_reducible rfl); done) | (go_simp; (try with_reducible rfl); done)))) | (with_reducible (first | (apply readc_left; assumption) | refine readc_exh (by assumption) ?_ | refine readc_exh0 (by assumption) ?_ | apply readc_next)))); done)); simp only [Act.put, zg, zh, zi])
        | ((with_reducible refine mix_float ?_ ?_ ?_ (fun h hk => ?_) ?_); rotate_left 1; (focus rfl); (focus rfl); (focus (go_simp; (try (rw [if_pos (by omega)]; (try go_simp))); (try simp (disch := omega) only [IntWalk.i64_in, IntWalk.i32_in]); (try with_reducible rfl); done)); simp only [Act.put, zg, zh, zi]))
            exact ⟨⟨i + 1, j, a, e + 1, q, E, by omega, by omega, congrArg (Value.int .i64) (by omega), rfl, hja.out, by omega, by omega, hqI, Lib.hid (by rw [← hst.out]; exact hre.out), fun _ => by omega, hs⟩, by simp only [intOf]; omega⟩
          · have hst := wk_step_gt (m := q) (a := a) (e := e) hxk hyj hab hd
            have hdI : ¬ ((dA x y (i + 1) j : Int) ≤ (dA x y i (j + 1) : Int)) := by omega
            replace hst := Lib.hid hst
            replace hxk := Lib.hid hxk
            replace hyj := Lib.hid hyj
            go_wp2_with (first
        | ((with_reducible apply wp_region_sl (G := emp) (id := 1) hs 1000); (focus (exact ent_emp_l)); (focus kernel_rfl); (focus decide +kernel); clear hs; (try clear w); intro hR w hRR hs; (try simp only [star_assoc] at hs))
        | ((with_reducible apply wp_region_sl (G := emp) (id := 3) hs 1000); (focus (exact ent_emp_l)); (focus kernel_rfl); (focus decide +kernel); clear hs; (try clear w); intro hR w hRR hs; (try simp only [star_assoc] at hs))
        | ((with_reducible rewrite [pl_strike_eq]); rotate_left 1; (focus rfl))
        | ((with_reducible apply pl_callv hs (hins _ _)); (focus (simp only [Act.eval, za, zb, zc, zd, ze, zf]; (try with_reducible rfl); done)); ((((focus (simp only [zj, zk, zl, List.append_toArray, List.nil_append, List.cons_append, Act.eval, za, zb, zc, zd, ze, zf]; (try with_reducible rfl); done)); (focus ((repeat (first | (with_reducible (first | exact ent_refl | apply ent_puR)) | ((with_reducible apply ent_front); (focus with_reducible (repeat (first | exact ent_here | apply ent_next | exact ent_last)); done)) | (with_reducible (first | exact ent_keep | apply ent_trans ent_drop)) | (focus (first | ((repeat' (first | (with_reducible assumption) | (with_reducible apply And.intro))); done))))); done)); (focus (simp only [go_sem]))))); clear hs; (try clear w); intro v w hq; (have hs := hq); clear hq; (try simp only [star_assoc, star_emp, emp_star] at hs); (try simp only [Act.put, zg, zh, zi]))
        | ((with_reducible apply pl_call hs (hat1 _)); ((((focus (simp only [zj, zk, zl, List.append_toArray, List.nil_append, List.cons_append, Act.eval, za, zb, zc, zd, ze, zf]; (try with_reducible rfl); done)); (focus ((repeat (first | (with_reducible (first | exact ent_refl | apply ent_puR)) | ((with_reducible apply ent_front); (focus with_reducible (repeat (first | exact ent_here | apply ent_next | exact ent_last)); done)) | (with_reducible (first | exact ent_keep | apply ent_trans ent_drop)) | (focus (first | ((repeat' (first | (focus (with_reducible (repeat (first | assumption | (apply TblF.left; assumption) | refine TblF.exh (by assumption) ?_ | refine TblF.exh0 (by assumption) ?_ | exact (tblF_of (by assumption)) | apply TblF.next)); done)))); done))))); done)); (focus (simp only [go_sem]))))); clear hs; (try clear w); intro v w hq; (obtain ⟨rfl, hs⟩ := hq.pu); clear hq; (try simp only [star_assoc, star_emp, emp_star] at hs); (try simp only [Act.put, zg, zh, zi]))
        | ((with_reducible apply pl_call hs (hat2 _)); ((((focus (simp only [zj, zk, zl, List.append_toArray, List.nil_append, List.cons_append, Act.eval, za, zb, zc, zd, ze, zf]; (try with_reducible rfl); done)); (focus ((repeat (first | (with_reducible (first | exact ent_refl | apply ent_puR)) | ((with_reducible apply ent_front); (focus with_reducible (repeat (first | exact ent_here | apply ent_next | exact ent_last)); done)) | (with_reducible (first | exact ent_keep | apply ent_trans ent_drop)) | (focus (first | ((repeat' (first | (focus (with_reducible (repeat (first | assumption | (apply TblF.left; assumption) | refine TblF.exh (by assumption) ?_ | refine TblF.exh0 (by assumption) ?_ | exact (tblF_of (by assumption)) | apply TblF.next)); done)))); done))))); done)); (focus (simp only [go_sem]))))); clear hs; (try clear w); intro v w hq; (obtain ⟨rfl, hs⟩ := hq.pu); clear hq; (try simp only [star_assoc, star_emp, emp_star] at hs); (try simp only [Act.put, zg, zh, zi]))
        | ((with_reducible apply mix_end hRR hs); (focus with_reducible (repeat (first | exact ent_here | apply ent_next | exact ent_last)); done); clear hs; (try clear w); intro w hs; (try simp only [star_assoc, star_emp, emp_star] at hs); clear hRR hR)
        | ((with_reducible apply mx_strike); (focus rfl))
        | ((with_reducible apply mx_load1 hRR); (focus (simp only [Act.eval, za, zb, zc, zd, ze, zf]; (try with_reducible rfl); done)); (focus (simp only [go_sem])); (focus ((repeat (first | (with_reducible (first | assumption | exact hec _ | exact hec2 _ | exact hec3 _ | exact hec4 _ _)) | ((with_reducible apply readc_here); (focus (first | (simp only [zc, zd, ze, go_sem]; (try with_reducible rfl); done) | (go_simp; (try with_reducible rfl); done)))) | (with_reducible (first | (apply readc_left; assumption) | refine readc_exh (by assumption) ?_ | refine readc_exh0 (by assumption) ?_ | apply readc_next)))); done)); simp only [Act.put, zg, zh, zi])
        | ((with_reducible refine mix_float ?_ ?_ ?_ (fun h hk => ?_) ?_); rotate_left 1; (focus rfl); (focus rfl); (focus (go_simp; (try (rw [if_pos (by omega)]; (try go_simp))); (try simp (disch := omega) only [IntWalk.i64_in, IntWalk.i32_in]); (try with_reducible rfl); done)); simp only [Act.put, zg, zh, zi]))
            exact ⟨⟨i, j + 1, a, e, q ++ [ay], E, by omega, by omega, rfl, congrArg (Value.int .i64) (by omega), by have := hja.out; simp; omega, by omega, by omega, fun z hz => (List.mem_append.1 hz).elim (hqI z) (fun h => by rw [List.mem_singleton] at h; subst h; exact hyI.out _ (List.mem_of_getElem? hyj.out)), Lib.hid (by rw [← hst.out]; exact hre.out), fun _ => by omega, hs⟩, by simp only [intOf]; omega⟩
end Go.Proofs.YtgoifgockcpnhaaDoor
