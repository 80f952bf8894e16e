/- The reasons, as they are laid when a law begins. -/
import Derived.Test.YtegebjflhhbmiaaDoorZQC6AR
set_option linter.unusedSimpArgs false
set_option linter.unusedVariables false
namespace Go.Proofs.YtegebjflhhbmiaaDoor
open Go Go.RowKit

set_option maxRecDepth 20000 in
set_option maxHeartbeats 1000000 in
theorem chain_s (a : Nat → Addr) (k : Nat) : ∀ (ls : List LinkD) (c0 : World) (F : HP) (v u : Value) (acc : List LinkD), Spec Tryd.prog c0 80 #[v, u] (pu (acc.length + ls.length ≤ 1000) (row 133 3 lnk u acc * (fch a ls k v * F)))
    (fun r => row 133 3 lnk r (acc ++ ls) * (fch a ls k v * F))
  | [], c0, F, v, u, acc => by
    intro w hq; obtain ⟨hl, hs⟩ := hq.pu; clear hq
    obtain ⟨hv, hs2⟩ := fch_nil (hs.mono ent_left)
    clear hs
    subst hv
    have hs := hs2
    clear hs2
    go_enter Tryd.func80, Tryd.ntmps80
    go_wp2_with fail
    (go_ret; simp only [za, zb, zc, zd, ze, zf])
    rw [List.append_nil]
    exact ⟨_, rfl, hs.mono (star_mono ent_refl fch_one)⟩
  | l :: ls, c0, F, v, u, acc => by
    intro w hq; obtain ⟨hl, hs⟩ := hq.pu; clear hq
    obtain ⟨gf, t, p, hv, hs2⟩ := fch_cons (hs.mono ent_left)
    clear hs
    subst hv
    have hs := hs2
    clear hs2
    have ih := chain_s a k ls
    obtain ⟨A, c, rfl, _, _⟩ := row_slice (v := u) (l := acc) (E := 133) (s := 3) (enc := lnk) (hs.own.mono (by (focus with_reducible (repeat (first | exact ent_here | apply ent_next | exact ent_last)); done)))
    have hl2 : acc.length ≤ 1000 := by simp only [List.length_cons] at hl; omega
    have hl3 : (acc ++ [l]).length + ls.length ≤ 1000 := by simp only [List.length_cons, List.length_append, List.length_nil] at hl ⊢; omega
    replace hl := Lib.hid hl
    go_enter Tryd.func80, Tryd.ntmps80
    go_wp2_with (first
        | ((with_reducible apply wp_region_sl (G := (row _ _ _ _ _ * (fch _ _ _ _))) (id := 5) hs 1000); (focus ((repeat ((with_reducible apply ent_pair); (focus with_reducible (repeat (first | exact ent_here | apply ent_next | exact ent_last)); done))); (focus with_reducible (repeat (first | exact ent_here | apply ent_next | exact ent_last)); done))); (focus kernel_rfl); (focus decide +kernel); clear hs; (try clear w); intro hR w hRR hs; (try simp only [star_assoc] at hs))
        | ((with_reducible apply mx_call hs (link_s _ _ _ l t p)); (go_must (((focus (simp only [zj, zk, zl, List.append_toArray, List.nil_append, List.cons_append, Act.eval, za, zb, zc, zd, ze, zf]; (try with_reducible rfl); done)); (focus ((repeat (first | (with_reducible (first | exact ent_refl | apply ent_puR)) | ((with_reducible apply ent_front); (focus with_reducible (repeat (first | exact ent_here | apply ent_next | exact ent_last)); done)) | (with_reducible (first | exact ent_keep | apply ent_trans ent_drop)) | (focus (first | (focus ((repeat (first | (with_reducible (first | assumption | exact hel _ | exact hel2 _ | exact hel3 _)) | ((with_reducible apply reads_whole); (focus (first | (with_reducible rfl) | (simp only [go_sem]; done) | (simp; done)))) | ((with_reducible apply reads_part); (focus (first | (simp [go_sem]; done) | (simp only [go_sem]; omega) | go_size)); (focus (first | (simp only [Nat.reduceAdd, Nat.zero_add, go_sem]; (try with_reducible rfl); done) | (simp [go_sem]; (try with_reducible rfl); done)))) | (with_reducible (first | (apply reads_left; assumption) | refine reads_exh (by assumption) ?_ | refine reads_exh0 (by assumption) ?_ | apply reads_next)))); done)))))); done)); (focus (simp only [go_sem])); (focus (intros; with_reducible (refine in_of_sat (by assumption) ?_; repeat (first | exact ent_exh_here | exact ent_last | refine ent_pu_l (fun _ => ?_) | refine ent_ex_l (fun _ => ?_) | apply ent_exh_next)); done))))); clear hs; (try clear w); intro v w hq; (obtain ⟨rfl, hs⟩ := hq.pu); clear hq; (try simp only [star_assoc, star_emp, emp_star] at hs); (try simp only [Act.put, zg, zh, zi]))
        | ((with_reducible apply mx_call hs (ih _ _ _ _ (acc ++ [l]))); (go_must (((focus (simp only [zj, zk, zl, List.append_toArray, List.nil_append, List.cons_append, Act.eval, za, zb, zc, zd, ze, zf]; (try with_reducible rfl); done)); (focus ((repeat (first | (with_reducible (first | exact ent_refl | apply ent_puR)) | ((with_reducible apply ent_front); (focus with_reducible (repeat (first | exact ent_here | apply ent_next | exact ent_last)); done)) | (with_reducible (first | exact ent_keep | apply ent_trans ent_drop)) | (focus (first | (with_reducible assumption))))); done)); (focus (simp only [go_sem])); (focus (intros; with_reducible (refine in_of_sat (by assumption) ?_; repeat (first | exact ent_exh_here | exact ent_last | refine ent_pu_l (fun _ => ?_) | refine ent_ex_l (fun _ => ?_) | apply ent_exh_next)); done))))); clear hs; (try clear w); intro v w hq; (have hs := hq); clear hq; (try simp only [star_assoc, star_emp, emp_star] at hs); (try simp only [Act.put, zg, zh, zi]))
        | ((with_reducible apply mix_end hRR hs); (focus with_reducible (repeat (first | exact ent_here | apply ent_next | exact ent_last)); done); clear hs; (try clear w); intro w hs; (try simp only [star_assoc, star_emp, emp_star] at hs); clear hRR hR)
        | ((with_reducible apply mx_load1 hRR); (focus (simp only [Act.eval, za, zb, zc, zd, ze, zf]; (try with_reducible rfl); done)); (focus (simp only [go_sem])); (focus ((repeat (first | (with_reducible (first | assumption | exact hec _ | exact hec2 _ | exact hec3 _ | exact hec4 _ _)) | ((with_reducible apply readc_here); (focus (first | (simp only [zc, zd, ze, go_sem]; (try with_reducible rfl); done) | (go_simp; (try with_reducible rfl); done)))) | (with_reducible (first | (apply readc_left; assumption) | refine readc_exh (by assumption) ?_ | refine readc_exh0 (by assumption) ?_ | apply readc_next)))); done)); simp only [Act.put, zg, zh, zi])
        | ((with_reducible apply mx_bs1 hs); (with_reducible (first | exact bst_46)); (focus (simp only [Act.eval, za, zb, zc, zd, ze, zf]; (try with_reducible rfl); done)); (focus (first | (with_reducible (first | exact cells_intv _ | exact cells_bytv _ | exact cells_agg _ | exact cells_int _ _ | exact cells_bool _ | exact cells_string _ | exact cells_slice _ _ _ | exact cells_pointer _ | exact cells_map _ | exact cells_iface _ _ | exact cells_nilIface | exact cells_func _ _ _)) | (exact cells_one (by assumption)))); (focus (first | (with_reducible rfl) | (simp only [go_sem]; done) | (simp; done))); (focus (intros; with_reducible (refine in_of_sat (by assumption) ?_; repeat (first | exact ent_exh_here | exact ent_last | refine ent_pu_l (fun _ => ?_) | refine ent_ex_l (fun _ => ?_) | apply ent_exh_next)); done)); clear hs; (try clear w); intro g w hs; skip; simp only [Act.put, zg, zh, zi])
        | ((with_reducible apply mx_append1 hs); (with_reducible (first | exact app_24 | exact app_32 | exact app_45 | exact app_46 | exact app_47 | exact app_122)); (focus (simp only [Act.eval, za, zb, zc, zd, ze, zf]; (try with_reducible rfl); done)); (first | (focus with_reducible (repeat (first | exact ent_here | apply ent_next | exact ent_last)); done) | (focus (with_reducible exact ent_row_nil)) | (focus ((with_reducible apply ent_row_of_blk); (focus with_reducible (repeat (first | exact ent_here | apply ent_next | exact ent_last)); done); (focus (simp only [go_sem]))))); (focus (simp only [Act.eval, za, zb, zc, zd, ze, zf]; (try with_reducible rfl); done)); (focus ((repeat (first | (with_reducible (first | assumption | exact hel _ | exact hel2 _ | exact hel3 _)) | ((with_reducible apply reads_whole); (focus (first | (with_reducible rfl) | (simp only [go_sem]; done) | (simp; done)))) | ((with_reducible apply reads_part); (focus (first | (simp [go_sem]; done) | (simp only [go_sem]; omega) | go_size)); (focus (first | (simp only [Nat.reduceAdd, Nat.zero_add, go_sem]; (try with_reducible rfl); done) | (simp [go_sem]; (try with_reducible rfl); done)))) | (with_reducible (first | (apply reads_left; assumption) | refine reads_exh (by assumption) ?_ | refine reads_exh0 (by assumption) ?_ | apply reads_next)))); done)); (focus (first | (simp only [maxLen] at *; omega) | (simp [maxLen] at *; omega))); (focus (first | (simp only [maxLen] at *; omega) | (simp [maxLen] at *; omega))); (focus (intros; with_reducible (refine in_of_sat (by assumption) ?_; repeat (first | exact ent_exh_here | exact ent_last | refine ent_pu_l (fun _ => ?_) | refine ent_ex_l (fun _ => ?_) | apply ent_exh_next)); done)); clear hs; (try clear w); intro Ap cq w hs; skip; simp only [Act.put, zg, zh, zi])
        | ((with_reducible refine mix_float ?_ ?_ ?_ (fun h hk => ?_) ?_); rotate_left 1; (focus rfl); (focus rfl); (focus (go_simp; (try (rw [if_pos (by omega)]; (try go_simp))); (try simp (disch := omega) only [IntWalk.i64_in, IntWalk.i32_in]); (try with_reducible rfl); done)); simp only [Act.put, zg, zh, zi]))
    (go_ret; simp only [za, zb, zc, zd, ze, zf])
    rw [show acc ++ l :: ls = acc ++ [l] ++ ls by simp]
    exact ⟨_, rfl, hs.mono (ent_trans (B := row 133 3 lnk v (acc ++ [l] ++ ls) * (blk gf (.cells (fltv l.layer l.call l.pos t p) 118 (0, 0)) * (fch a ls k (.iface t (.pointer p)) * F))) (by ((repeat (first | (with_reducible (first | exact ent_refl | exact ent_emp)) | ((with_reducible apply ent_front); (focus with_reducible (repeat (first | exact ent_here | apply ent_next | exact ent_last)); done)) | (with_reducible (first | exact ent_keep | apply ent_trans ent_drop)))); done)) (star_mono ent_refl fch_more))⟩
theorem chain0_s (c0 : World) (F : HP) (a : Nat → Addr) (k : Nat) (ls : List LinkD) (v : Value) : Spec Tryd.prog c0 80 #[v, .slice none 0 0] (pu (ls.length ≤ 1000) (fch a ls k v * F)) (fun r => row 133 3 lnk r ls * (fch a ls k v * F)) := by
  have := chain_s a k ls c0 F v (.slice none 0 0) []
  rw [List.nil_append] at this
  exact Spec.mono this (ent_pu_l fun h => ent_pu (by simpa using h) ent_row_nil) fun _ => ent_refl
theorem Chain_s (c0 : World) (F : HP) (a : Nat → Addr) (k : Nat) (ls : List LinkD) (v : Value) : Spec Tryd.prog c0 57 #[v] (pu (ls.length ≤ 1000) (fch a ls k v * F)) (fun r => row 133 3 lnk r ls * (fch a ls k v * F)) := by
  intro w hq; obtain ⟨hl, hs⟩ := hq.pu; clear hq
  go_enter Tryd.func57, Tryd.ntmps57
  go_wp2_with (first
        | ((with_reducible apply pl_call hs (chain0_s _ _ a k ls v)); (go_must (((focus (simp only [zj, zk, zl, List.append_toArray, List.nil_append, List.cons_append, Act.eval, za, zb, zc, zd, ze, zf]; (try with_reducible rfl); done)); (focus ((repeat (first | (with_reducible (first | exact ent_refl | apply ent_puR)) | ((with_reducible apply ent_front); (focus with_reducible (repeat (first | exact ent_here | apply ent_next | exact ent_last)); done)) | (with_reducible (first | exact ent_keep | apply ent_trans ent_drop)) | (focus (first | (with_reducible assumption))))); done)); (focus (simp only [go_sem]))))); clear hs; (try clear w); intro v w hq; (have hs := hq); clear hq; (try simp only [star_assoc, star_emp, emp_star] at hs); (try simp only [Act.put, zg, zh, zi])))
  (go_ret; simp only [za, zb, zc, zd, ze, zf])
  exact ⟨_, rfl, hs.mono (by ((repeat (first | (with_reducible (first | exact ent_refl | exact ent_emp)) | ((with_reducible apply ent_front); (focus with_reducible (repeat (first | exact ent_here | apply ent_next | exact ent_last)); done)) | (with_reducible (first | exact ent_keep | apply ent_trans ent_drop)))); done))⟩
/-! ### how the document says it -/
set_option maxRecDepth 100000 in
theorem retNo {c0 w : World} {H : HP} {fn : Func} {a : Act} {p : Tmp} {post : Value → HP} {x : NoD} {g : Nat} (hs : Sat c0 H w) (hr : fn.results = #[.cell p 49]) (hp : a.tmps.getD p undef = .pointer (some ⟨g, 0, none⟩)) (hw : Reads H g 0 3 (nov x)) (hdf : a.defers = []) (h : Ent H (post (.agg (nov x)))) :
    bodyPost Tryd.prog fn (fun e w' => ∃ v, e = .returned v ∧ Sat c0 (post v) w') .ret a w :=
  ret_cell (n := 3) hr Tryd.underlying49 rfl (by kernel_rfl) g hp _ (hw w hs.own) hdf ⟨_, rfl, hs.mono h⟩
/-- A refusal as the document has it: none, or a chain and a number. -/
def NoP : Option (List LinkD × Nat) → NoD → HP
  | none, n => pu (n.code = 0) emp
  | some (ls, k), n => pu (n.code = k ∧ 1 ≤ k ∧ k ≤ 13) (row 133 3 lnk (.slice n.chainp n.chainn n.chainc) ls * row 3 1 intv (.slice n.codesp n.codesn n.codesc) [(k : Int)])
set_option maxRecDepth 20000 in
set_option maxHeartbeats 1000000 in
theorem wrap_s (c0 : World) (F : HP) (x y : ByteArray) (n : Int) (m : NoD) (k : Nat) (ls : List LinkD) : Spec Tryd.prog c0 76 #[.string x, .string y, .int .i64 n, .agg (nov m)] (pu (m.code = k ∧ 1 ≤ k ∧ k ≤ 13 ∧ ls.length ≤ 1000 ∧ SlR F 3 lnk (.slice m.chainp m.chainn m.chainc) ls) F)
    (fun r => ex fun z : SlD => pu (r = .agg (nov ⟨m.code, z.p, z.n, z.c, m.codesp, m.codesn, m.codesc⟩)) (row 133 3 lnk (.slice z.p z.n z.c) (⟨x, y, atV n⟩ :: ls) * F)) := by
  intro w hq; obtain ⟨⟨hm, h1, h2, hl, hsl⟩, hs⟩ := hq.pu; clear hq
  obtain ⟨code, A, q, c, B, d, e⟩ := m
  dsimp only at *
  subst hm
  have hz : ((k : Int) == 0) = false := by simp only [beq_eq_false_iff_ne]; omega
  by_cases hn : n < 0
  · have hv : atV n = -1 := by unfold atV; split <;> omega
    rw [hv]
    clear hv
    go_enter Tryd.func76, Tryd.ntmps76
    go_wp2_with (first
        | ((with_reducible apply wp_region_sl (G := (blk _ (.cells (lnk _) _ _) * (blk _ (.cells (nov nov0) _ _)))) (id := 6) hs 9); (focus ((repeat ((with_reducible apply ent_pair); (focus with_reducible (repeat (first | exact ent_here | apply ent_next | exact ent_last)); done))); (focus with_reducible (repeat (first | exact ent_here | apply ent_next | exact ent_last)); done))); (focus kernel_rfl); (focus decide +kernel); clear hs; (try clear w); intro hR w hRR hs; (try simp only [star_assoc] at hs))
        | ((with_reducible apply pl_load1 hs); (focus (simp only [Act.eval, za, zb, zc, zd, ze, zf]; (try with_reducible rfl); done)); (focus (simp only [go_sem])); (focus ((repeat (first | (with_reducible (first | assumption | exact hec _ | exact hec2 _ | exact hec3 _ | exact hec4 _ _)) | ((with_reducible apply readc_here); (focus (first | (simp only [zc, zd, ze, go_sem]; (try with_reducible rfl); done) | (go_simp; (try with_reducible rfl); done)))) | (with_reducible (first | (apply readc_left; assumption) | refine readc_exh (by assumption) ?_ | refine readc_exh0 (by assumption) ?_ | apply readc_next)))); done)); (focus rfl); simp only [Act.put, zg, zh, zi])
        | ((with_reducible apply pl_build hs); (focus (simp only [zj, zk, zl, Act.eval, za, zb, zc, zd, ze, zf]; (try with_reducible rfl); done)); (first | (with_reducible exact bld_7 _ _ _ _ _ _ _) | (with_reducible exact bld_18 _ _ _)); (focus rfl); simp only [Act.put, zg, zh, zi])
        | ((with_reducible apply pl_alloc hs); (with_reducible (first | exact zero_49)); clear hs; (try clear w); intro g w hs; skip; simp only [Act.put, zg, zh, zi])
        | ((with_reducible apply pl_box hs); (focus (simp only [Act.eval, za, zb, zc, zd, ze, zf]; (try with_reducible rfl); done)); (focus (first | (with_reducible (first | exact cells_intv _ | exact cells_bytv _ | exact cells_agg _ | exact cells_int _ _ | exact cells_bool _ | exact cells_string _ | exact cells_slice _ _ _ | exact cells_pointer _ | exact cells_map _ | exact cells_iface _ _ | exact cells_nilIface | exact cells_func _ _ _)) | (exact cells_one (by assumption)))); clear hs; (try clear w); intro g w hs; skip; simp only [Act.put, zg, zh, zi])
        | ((with_reducible apply pl_bs1 hs); (with_reducible (first | exact bst_46)); (focus (simp only [Act.eval, za, zb, zc, zd, ze, zf]; (try with_reducible rfl); done)); (focus (first | (with_reducible (first | exact cells_intv _ | exact cells_bytv _ | exact cells_agg _ | exact cells_int _ _ | exact cells_bool _ | exact cells_string _ | exact cells_slice _ _ _ | exact cells_pointer _ | exact cells_map _ | exact cells_iface _ _ | exact cells_nilIface | exact cells_func _ _ _)) | (exact cells_one (by assumption)))); (focus (first | (with_reducible rfl) | (simp only [go_sem]; done) | (simp; done))); clear hs; (try clear w); intro g w hs; skip; simp only [Act.put, zg, zh, zi])
        | ((with_reducible apply pl_storeN hs); (focus (simp only [Act.eval, za, zb, zc, zd, ze, zf]; (try with_reducible rfl); done)); (focus (simp only [Act.eval, za, zb, zc, zd, ze, zf]; (try with_reducible rfl); done)); (with_reducible (first | exact agg_49)); (focus with_reducible (repeat (first | exact ent_here | apply ent_next | exact ent_last)); done); (focus (first | (with_reducible rfl) | (simp only [go_sem]; done) | (simp; done))); (focus (first | (simp [go_sem]; done) | (simp only [go_sem]; omega) | go_size)); (focus (first | (simp only [go_sem]; done) | (simp [go_sem]; done))); (focus (first | ((with_reducible apply splice_whole); (focus (first | (with_reducible rfl) | (simp only [go_sem]; done) | (simp; done)))) | (simp [splice, go_sem]; done) | (simp only [go_sem]; (try with_reducible rfl); done))); clear hs; (try clear w); intro w hs; (try simp only [zg, zh, zi, clk_set, opv_s0, opv_s1, opv_s2, opv_s3, actv_s0, actv_s1, actv_s2, actv_s3, actv_s4, rnd_s0, rnd_s17, lnk_s0, lnk_s1, lnk_s2, nov_s0, nov_s1, nov_s2, intv_set, bytv_set] at hs); simp only [Act.put, zg, zh, zi])
        | ((with_reducible apply mix_thaw hRR hs); (focus with_reducible (repeat (first | exact ent_here | apply ent_next | exact ent_last)); done); clear hs; (try clear w); intro w hs; (try simp only [star_assoc, star_emp, emp_star] at hs); clear hRR hR)
        | ((with_reducible apply mx_load1 hRR); (focus (simp only [Act.eval, za, zb, zc, zd, ze, zf]; (try with_reducible rfl); done)); (focus (simp only [go_sem])); (focus ((repeat (first | (with_reducible (first | assumption | exact hec _ | exact hec2 _ | exact hec3 _ | exact hec4 _ _)) | ((with_reducible apply readc_here); (focus (first | (simp only [zc, zd, ze, go_sem]; (try with_reducible rfl); done) | (go_simp; (try with_reducible rfl); done)))) | (with_reducible (first | (apply readc_left; assumption) | refine readc_exh (by assumption) ?_ | refine readc_exh0 (by assumption) ?_ | apply readc_next)))); done)); simp only [Act.put, zg, zh, zi])
        | ((with_reducible apply mx_build hRR); (focus (simp only [zj, zk, zl, Act.eval, za, zb, zc, zd, ze, zf]; (try with_reducible rfl); done)); (first | (with_reducible exact bld_7 _ _ _ _ _ _ _)); simp only [Act.put, zg, zh, zi])
        | ((with_reducible apply mx_appendN hs); (with_reducible (first | exact app_24 | exact app_32 | exact app_45 | exact app_46 | exact app_47 | exact app_122)); (focus (simp only [Act.eval, za, zb, zc, zd, ze, zf]; (try with_reducible rfl); done)); (first | (focus with_reducible (repeat (first | exact ent_here | apply ent_next | exact ent_last)); done) | (focus (with_reducible exact ent_row_nil)) | (focus ((with_reducible apply ent_row_of_blk); (focus with_reducible (repeat (first | exact ent_here | apply ent_next | exact ent_last)); done); (focus (simp only [go_sem]))))); (focus (simp only [Act.eval, za, zb, zc, zd, ze, zf]; (try with_reducible rfl); done)); (focus (first | ((repeat (first | (with_reducible (first | assumption | exact slr_ro |  exact hsl _ | exact hsl2 _ | exact hsl3 _ _ _ | exact slr_nil | exact slr_row (fun _ => by simp only [go_sem]) | exact slr_one (fun _ => by simp only [go_sem]) | (apply slr_left; assumption))) | (with_reducible apply slr_next))); done) | ((repeat (first | (with_reducible (first | assumption | exact slr_ro |  exact hsl _ | exact hsl2 _ | exact hsl3 _ _ _ | exact slr_nil | exact slr_row (fun _ => by simp only [go_sem]) | exact slr_one (fun _ => by simp only [go_sem]) | (apply slr_left; assumption))) | (with_reducible (first | (apply slr_exh; focus assumption) | (apply slr_exh0; focus assumption) | apply slr_next)))); done))); (focus (first | (simp only [maxLen] at *; omega) | (simp [maxLen] at *; omega))); (focus (first | (simp only [maxLen] at *; omega) | (simp [maxLen] at *; omega))); (focus (intros; with_reducible (refine in_of_sat (by assumption) ?_; repeat (first | exact ent_exh_here | exact ent_last | refine ent_pu_l (fun _ => ?_) | refine ent_ex_l (fun _ => ?_) | apply ent_exh_next)); done)); clear hs; (try clear w); intro Ap cq w hs; (try simp only [List.length_nil, Nat.zero_add, List.nil_append] at hs ⊢); simp only [Act.put, zg, zh, zi])
        | ((with_reducible refine mix_float ?_ ?_ ?_ (fun h hk => ?_) ?_); rotate_left 1; (focus rfl); (focus rfl); (focus (go_simp; (try (rw [if_pos (by omega)]; (try go_simp))); (try simp (disch := omega) only [IntWalk.i64_in, IntWalk.i32_in]); (try with_reducible rfl); done)); simp only [Act.put, zg, zh, zi]))
    simp only [List.cons_append, List.nil_append, star_emp] at hs
    exact retNo hs rfl rfl (by (focus ((repeat (first | (with_reducible (first | assumption | exact hel _ | exact hel2 _ | exact hel3 _)) | ((with_reducible apply reads_whole); (focus (first | (with_reducible rfl) | (simp only [go_sem]; done) | (simp; done)))) | ((with_reducible apply reads_part); (focus (first | (simp [go_sem]; done) | (simp only [go_sem]; omega) | go_size)); (focus (first | (simp only [Nat.reduceAdd, Nat.zero_add, go_sem]; (try with_reducible rfl); done) | (simp [go_sem]; (try with_reducible rfl); done)))) | (with_reducible (first | (apply reads_left; assumption) | refine reads_exh (by assumption) ?_ | refine reads_exh0 (by assumption) ?_ | apply reads_next)))); done))) rfl (ent_ex (⟨Ap, _, cq⟩ : SlD) (ent_pu rfl (by ((repeat (first | (with_reducible (first | exact ent_refl | exact ent_emp)) | ((with_reducible apply ent_front); (focus with_reducible (repeat (first | exact ent_here | apply ent_next | exact ent_last)); done)) | (with_reducible (first | exact ent_keep | apply ent_trans ent_drop)))); done))))
  · have hv : atV n = n := by unfold atV; split <;> omega
    rw [hv]
    clear hv
    go_enter Tryd.func76, Tryd.ntmps76
    go_wp2_with (first
        | ((with_reducible apply wp_region_sl (G := (blk _ (.cells (lnk _) _ _) * (blk _ (.cells (nov nov0) _ _)))) (id := 6) hs 9); (focus ((repeat ((with_reducible apply ent_pair); (focus with_reducible (repeat (first | exact ent_here | apply ent_next | exact ent_last)); done))); (focus with_reducible (repeat (first | exact ent_here | apply ent_next | exact ent_last)); done))); (focus kernel_rfl); (focus decide +kernel); clear hs; (try clear w); intro hR w hRR hs; (try simp only [star_assoc] at hs))
        | ((with_reducible apply pl_load1 hs); (focus (simp only [Act.eval, za, zb, zc, zd, ze, zf]; (try with_reducible rfl); done)); (focus (simp only [go_sem])); (focus ((repeat (first | (with_reducible (first | assumption | exact hec _ | exact hec2 _ | exact hec3 _ | exact hec4 _ _)) | ((with_reducible apply readc_here); (focus (first | (simp only [zc, zd, ze, go_sem]; (try with_reducible rfl); done) | (go_simp; (try with_reducible rfl); done)))) | (with_reducible (first | (apply readc_left; assumption) | refine readc_exh (by assumption) ?_ | refine readc_exh0 (by assumption) ?_ | apply readc_next)))); done)); (focus rfl); simp only [Act.put, zg, zh, zi])
        | ((with_reducible apply pl_build hs); (focus (simp only [zj, zk, zl, Act.eval, za, zb, zc, zd, ze, zf]; (try with_reducible rfl); done)); (first | (with_reducible exact bld_7 _ _ _ _ _ _ _) | (with_reducible exact bld_18 _ _ _)); (focus rfl); simp only [Act.put, zg, zh, zi])
        | ((with_reducible apply pl_alloc hs); (with_reducible (first | exact zero_49)); clear hs; (try clear w); intro g w hs; skip; simp only [Act.put, zg, zh, zi])
        | ((with_reducible apply pl_box hs); (focus (simp only [Act.eval, za, zb, zc, zd, ze, zf]; (try with_reducible rfl); done)); (focus (first | (with_reducible (first | exact cells_intv _ | exact cells_bytv _ | exact cells_agg _ | exact cells_int _ _ | exact cells_bool _ | exact cells_string _ | exact cells_slice _ _ _ | exact cells_pointer _ | exact cells_map _ | exact cells_iface _ _ | exact cells_nilIface | exact cells_func _ _ _)) | (exact cells_one (by assumption)))); clear hs; (try clear w); intro g w hs; skip; simp only [Act.put, zg, zh, zi])
        | ((with_reducible apply pl_bs1 hs); (with_reducible (first | exact bst_46)); (focus (simp only [Act.eval, za, zb, zc, zd, ze, zf]; (try with_reducible rfl); done)); (focus (first | (with_reducible (first | exact cells_intv _ | exact cells_bytv _ | exact cells_agg _ | exact cells_int _ _ | exact cells_bool _ | exact cells_string _ | exact cells_slice _ _ _ | exact cells_pointer _ | exact cells_map _ | exact cells_iface _ _ | exact cells_nilIface | exact cells_func _ _ _)) | (exact cells_one (by assumption)))); (focus (first | (with_reducible rfl) | (simp only [go_sem]; done) | (simp; done))); clear hs; (try clear w); intro g w hs; skip; simp only [Act.put, zg, zh, zi])
        | ((with_reducible apply pl_storeN hs); (focus (simp only [Act.eval, za, zb, zc, zd, ze, zf]; (try with_reducible rfl); done)); (focus (simp only [Act.eval, za, zb, zc, zd, ze, zf]; (try with_reducible rfl); done)); (with_reducible (first | exact agg_49)); (focus with_reducible (repeat (first | exact ent_here | apply ent_next | exact ent_last)); done); (focus (first | (with_reducible rfl) | (simp only [go_sem]; done) | (simp; done))); (focus (first | (simp [go_sem]; done) | (simp only [go_sem]; omega) | go_size)); (focus (first | (simp only [go_sem]; done) | (simp [go_sem]; done))); (focus (first | ((with_reducible apply splice_whole); (focus (first | (with_reducible rfl) | (simp only [go_sem]; done) | (simp; done)))) | (simp [splice, go_sem]; done) | (simp only [go_sem]; (try with_reducible rfl); done))); clear hs; (try clear w); intro w hs; (try simp only [zg, zh, zi, clk_set, opv_s0, opv_s1, opv_s2, opv_s3, actv_s0, actv_s1, actv_s2, actv_s3, actv_s4, rnd_s0, rnd_s17, lnk_s0, lnk_s1, lnk_s2, nov_s0, nov_s1, nov_s2, intv_set, bytv_set] at hs); simp only [Act.put, zg, zh, zi])
        | ((with_reducible apply mix_thaw hRR hs); (focus with_reducible (repeat (first | exact ent_here | apply ent_next | exact ent_last)); done); clear hs; (try clear w); intro w hs; (try simp only [star_assoc, star_emp, emp_star] at hs); clear hRR hR)
        | ((with_reducible apply mx_load1 hRR); (focus (simp only [Act.eval, za, zb, zc, zd, ze, zf]; (try with_reducible rfl); done)); (focus (simp only [go_sem])); (focus ((repeat (first | (with_reducible (first | assumption | exact hec _ | exact hec2 _ | exact hec3 _ | exact hec4 _ _)) | ((with_reducible apply readc_here); (focus (first | (simp only [zc, zd, ze, go_sem]; (try with_reducible rfl); done) | (go_simp; (try with_reducible rfl); done)))) | (with_reducible (first | (apply readc_left; assumption) | refine readc_exh (by assumption) ?_ | refine readc_exh0 (by assumption) ?_ | apply readc_next)))); done)); simp only [Act.put, zg, zh, zi])
        | ((with_reducible apply mx_build hRR); (focus (simp only [zj, zk, zl, Act.eval, za, zb, zc, zd, ze, zf]; (try with_reducible rfl); done)); (first | (with_reducible exact bld_7 _ _ _ _ _ _ _)); simp only [Act.put, zg, zh, zi])
        | ((with_reducible apply mx_appendN hs); (with_reducible (first | exact app_24 | exact app_32 | exact app_45 | exact app_46 | exact app_47 | exact app_122)); (focus (simp only [Act.eval, za, zb, zc, zd, ze, zf]; (try with_reducible rfl); done)); (first | (focus with_reducible (repeat (first | exact ent_here | apply ent_next | exact ent_last)); done) | (focus (with_reducible exact ent_row_nil)) | (focus ((with_reducible apply ent_row_of_blk); (focus with_reducible (repeat (first | exact ent_here | apply ent_next | exact ent_last)); done); (focus (simp only [go_sem]))))); (focus (simp only [Act.eval, za, zb, zc, zd, ze, zf]; (try with_reducible rfl); done)); (focus (first | ((repeat (first | (with_reducible (first | assumption | exact slr_ro |  exact hsl _ | exact hsl2 _ | exact hsl3 _ _ _ | exact slr_nil | exact slr_row (fun _ => by simp only [go_sem]) | exact slr_one (fun _ => by simp only [go_sem]) | (apply slr_left; assumption))) | (with_reducible apply slr_next))); done) | ((repeat (first | (with_reducible (first | assumption | exact slr_ro |  exact hsl _ | exact hsl2 _ | exact hsl3 _ _ _ | exact slr_nil | exact slr_row (fun _ => by simp only [go_sem]) | exact slr_one (fun _ => by simp only [go_sem]) | (apply slr_left; assumption))) | (with_reducible (first | (apply slr_exh; focus assumption) | (apply slr_exh0; focus assumption) | apply slr_next)))); done))); (focus (first | (simp only [maxLen] at *; omega) | (simp [maxLen] at *; omega))); (focus (first | (simp only [maxLen] at *; omega) | (simp [maxLen] at *; omega))); (focus (intros; with_reducible (refine in_of_sat (by assumption) ?_; repeat (first | exact ent_exh_here | exact ent_last | refine ent_pu_l (fun _ => ?_) | refine ent_ex_l (fun _ => ?_) | apply ent_exh_next)); done)); clear hs; (try clear w); intro Ap cq w hs; (try simp only [List.length_nil, Nat.zero_add, List.nil_append] at hs ⊢); simp only [Act.put, zg, zh, zi])
        | ((with_reducible refine mix_float ?_ ?_ ?_ (fun h hk => ?_) ?_); rotate_left 1; (focus rfl); (focus rfl); (focus (go_simp; (try (rw [if_pos (by omega)]; (try go_simp))); (try simp (disch := omega) only [IntWalk.i64_in, IntWalk.i32_in]); (try with_reducible rfl); done)); simp only [Act.put, zg, zh, zi]))
    simp only [List.cons_append, List.nil_append, star_emp] at hs
    exact retNo hs rfl rfl (by (focus ((repeat (first | (with_reducible (first | assumption | exact hel _ | exact hel2 _ | exact hel3 _)) | ((with_reducible apply reads_whole); (focus (first | (with_reducible rfl) | (simp only [go_sem]; done) | (simp; done)))) | ((with_reducible apply reads_part); (focus (first | (simp [go_sem]; done) | (simp only [go_sem]; omega) | go_size)); (focus (first | (simp only [Nat.reduceAdd, Nat.zero_add, go_sem]; (try with_reducible rfl); done) | (simp [go_sem]; (try with_reducible rfl); done)))) | (with_reducible (first | (apply reads_left; assumption) | refine reads_exh (by assumption) ?_ | refine reads_exh0 (by assumption) ?_ | apply reads_next)))); done))) rfl (ent_ex (⟨Ap, _, cq⟩ : SlD) (ent_pu rfl (by ((repeat (first | (with_reducible (first | exact ent_refl | exact ent_emp)) | ((with_reducible apply ent_front); (focus with_reducible (repeat (first | exact ent_here | apply ent_next | exact ent_last)); done)) | (with_reducible (first | exact ent_keep | apply ent_trans ent_drop)))); done))))
set_option maxRecDepth 20000 in
set_option maxHeartbeats 1000000 in
theorem say_s (c0 : World) (F : HP) (x y : ByteArray) (n : Int) (k : Nat) : Spec Tryd.prog c0 49 #[.string x, .string y, .int .i64 n, .int .i64 k] (pu (1 ≤ k ∧ k ≤ 13) F)
    (fun r => ex fun m : NoD => pu (r = .agg (nov m)) (NoP (some ([⟨x, y, atV n⟩], k)) m * F)) := by
  intro w hq; obtain ⟨⟨h1, h2⟩, hs⟩ := hq.pu; clear hq
  go_enter Tryd.func49, Tryd.ntmps49
  go_wp2_with (first
        | ((with_reducible apply pl_call hs (wrap_s _ _ _ _ _ ⟨k, none, 0, 0, _, _, _⟩ k [])); (go_must (((focus (simp only [zj, zk, zl, List.append_toArray, List.nil_append, List.cons_append, Act.eval, za, zb, zc, zd, ze, zf]; (try with_reducible rfl); done)); (focus ((repeat (first | (with_reducible (first | exact ent_refl | apply ent_puR)) | ((with_reducible apply ent_front); (focus with_reducible (repeat (first | exact ent_here | apply ent_next | exact ent_last)); done)) | (with_reducible (first | exact ent_keep | apply ent_trans ent_drop)) | (focus (first | ((repeat' (first | (with_reducible assumption) | (with_reducible apply And.intro) | (focus (first | ((repeat (first | (with_reducible (first | assumption | exact slr_ro |  exact hsl _ | exact hsl2 _ | exact hsl3 _ _ _ | exact slr_nil | exact slr_row (fun _ => by simp only [go_sem]) | exact slr_one (fun _ => by simp only [go_sem]) | (apply slr_left; assumption))) | (with_reducible apply slr_next))); done) | ((repeat (first | (with_reducible (first | assumption | exact slr_ro |  exact hsl _ | exact hsl2 _ | exact hsl3 _ _ _ | exact slr_nil | exact slr_row (fun _ => by simp only [go_sem]) | exact slr_one (fun _ => by simp only [go_sem]) | (apply slr_left; assumption))) | (with_reducible (first | (apply slr_exh; focus assumption) | (apply slr_exh0; focus assumption) | apply slr_next)))); done))) | (simp; done))); done))))); done)); (focus (simp only [go_sem]))))); clear hs; (try clear w); intro v w hq; (obtain ⟨z, hq1⟩ := hq.ex; obtain ⟨rfl, hs⟩ := hq1.pu; clear hq1); clear hq; (try simp only [star_assoc, star_emp, emp_star] at hs); (try simp only [Act.put, zg, zh, zi]))
        | ((with_reducible apply pl_build hs); (focus (simp only [zj, zk, zl, Act.eval, za, zb, zc, zd, ze, zf]; (try with_reducible rfl); done)); (first | (with_reducible exact bld_8 _ _ _ _)); (focus rfl); simp only [Act.put, zg, zh, zi])
        | ((with_reducible apply pl_alloc hs); (with_reducible (first | exact zero_49)); clear hs; (try clear w); intro g w hs; skip; simp only [Act.put, zg, zh, zi])
        | ((with_reducible apply pl_bs1 hs); (with_reducible (first | exact bst_47)); (focus (simp only [Act.eval, za, zb, zc, zd, ze, zf]; (try with_reducible rfl); done)); (focus (first | (with_reducible (first | exact cells_intv _ | exact cells_bytv _ | exact cells_agg _ | exact cells_int _ _ | exact cells_bool _ | exact cells_string _ | exact cells_slice _ _ _ | exact cells_pointer _ | exact cells_map _ | exact cells_iface _ _ | exact cells_nilIface | exact cells_func _ _ _)) | (exact cells_one (by assumption)))); (focus (first | (with_reducible rfl) | (simp only [go_sem]; done) | (simp; done))); clear hs; (try clear w); intro g w hs; skip; simp only [Act.put, zg, zh, zi])
        | ((with_reducible apply pl_storeN hs); (focus (simp only [Act.eval, za, zb, zc, zd, ze, zf]; (try with_reducible rfl); done)); (focus (simp only [Act.eval, za, zb, zc, zd, ze, zf]; (try with_reducible rfl); done)); (with_reducible (first | exact agg_49)); (focus with_reducible (repeat (first | exact ent_here | apply ent_next | exact ent_last)); done); (focus (first | (with_reducible rfl) | (simp only [go_sem]; done) | (simp; done))); (focus (first | (simp [go_sem]; done) | (simp only [go_sem]; omega) | go_size)); (focus (first | (simp only [go_sem]; done) | (simp [go_sem]; done))); (focus (first | ((with_reducible apply splice_whole); (focus (first | (with_reducible rfl) | (simp only [go_sem]; done) | (simp; done)))) | (simp [splice, go_sem]; done) | (simp only [go_sem]; (try with_reducible rfl); done))); clear hs; (try clear w); intro w hs; (try simp only [zg, zh, zi, clk_set, opv_s0, opv_s1, opv_s2, opv_s3, actv_s0, actv_s1, actv_s2, actv_s3, actv_s4, rnd_s0, rnd_s17, lnk_s0, lnk_s1, lnk_s2, nov_s0, nov_s1, nov_s2, intv_set, bytv_set] at hs); simp only [Act.put, zg, zh, zi]))
  refine retNo hs rfl rfl (by (focus ((repeat (first | (with_reducible (first | assumption | exact hel _ | exact hel2 _ | exact hel3 _)) | ((with_reducible apply reads_whole); (focus (first | (with_reducible rfl) | (simp only [go_sem]; done) | (simp; done)))) | ((with_reducible apply reads_part); (focus (first | (simp [go_sem]; done) | (simp only [go_sem]; omega) | go_size)); (focus (first | (simp only [Nat.reduceAdd, Nat.zero_add, go_sem]; (try with_reducible rfl); done) | (simp [go_sem]; (try with_reducible rfl); done)))) | (with_reducible (first | (apply reads_left; assumption) | refine reads_exh (by assumption) ?_ | refine reads_exh0 (by assumption) ?_ | apply reads_next)))); done))) rfl (ent_ex (⟨k, z.p, z.n, z.c, some ⟨g, 0, none⟩, 1, 1⟩ : NoD) (ent_pu rfl ?_))
  unfold NoP
  rw [pu_star, star_assoc]
  refine ent_pu ⟨rfl, h1, h2⟩ (ent_trans (B := row 133 3 lnk (.slice z.p z.n z.c) [⟨x, y, atV n⟩] * (blk g (.cells (intv k) 3 (0, 0)) * F)) (by ((repeat (first | (with_reducible (first | exact ent_refl | exact ent_emp)) | ((with_reducible apply ent_front); (focus with_reducible (repeat (first | exact ent_here | apply ent_next | exact ent_last)); done)) | (with_reducible (first | exact ent_keep | apply ent_trans ent_drop)))); done)) (star_mono ent_refl (ent_bs1_row (intv_size _))))
theorem sayK_s (c0 : World) (F : HP) (x y : ByteArray) (n K : Int) (k : Nat) : Spec Tryd.prog c0 49 #[.string x, .string y, .int .i64 n, .int .i64 K] (pu (K = k ∧ 1 ≤ k ∧ k ≤ 13) F)
    (fun r => ex fun m : NoD => pu (r = .agg (nov m)) (NoP (some ([⟨x, y, atV n⟩], k)) m * F)) := fun w hs => by
  obtain ⟨⟨h, h1, h2⟩, hs2⟩ := hs.pu
  subst h
  exact say_s c0 F x y n k w (hs2.mono (ent_pu ⟨h1, h2⟩ ent_refl))
/-! ### the two are alike -/
/-- A refusal as the program has it. -/
def RefP (a : Nat → Addr) : Option (List LinkD × Nat) → Value → HP
  | none, v => pu (v = .nilIface) emp
  | some (ls, k), v => pu (1 ≤ k ∧ k ≤ 13 ∧ ls.length ≤ 1000) (fch a ls k v)
theorem refP_some {a : Nat → Addr} {ls : List LinkD} {k : Nat} {v : Value} {F : HP} {c w : World} (hs : Sat c (RefP a (some (ls, k)) v * F) w) : (1 ≤ k ∧ k ≤ 13 ∧ ls.length ≤ 1000) ∧ Sat c (fch a ls k v * F) w := by
  unfold RefP at hs
  rw [pu_star] at hs
  exact hs.pu
theorem noP_some {ls : List LinkD} {k : Nat} {m : NoD} {F : HP} {c w : World} (hs : Sat c (NoP (some (ls, k)) m * F) w) : m.code = k ∧ Sat c (row 133 3 lnk (.slice m.chainp m.chainn m.chainc) ls * (row 3 1 intv (.slice m.codesp m.codesn m.codesc) [(k : Int)] * F)) w := by
  unfold NoP at hs
  rw [pu_star, star_assoc] at hs
  exact ⟨hs.pu.1.1, hs.pu.2⟩
theorem fch_iface {a : Nat → Addr} {ls : List LinkD} {k : Nat} {v : Value} {F : HP} {c w : World} (hs : Sat c (fch a ls k v * F) w) : ∃ t p, v = .iface t (.pointer p) := by
  cases ls with
  | nil => exact ⟨_, _, (fch_nil hs).1⟩
  | cons l ls => obtain ⟨g, t, p, h, _⟩ := fch_cons hs; exact ⟨_, _, h⟩
theorem refused0_s (c0 : World) (F : HP) (m : NoD) : Spec Tryd.prog c0 20 #[.nilIface, .agg (nov m)] (pu (m.code = 0) F) (fun r => pu (r = .bool true) F) := by
  intro w hq; obtain ⟨hm, hs⟩ := hq.pu; clear hq
  obtain ⟨code, A, q, c, B, d, e⟩ := m
  dsimp only at *
  subst hm
  go_enter Tryd.func20, Tryd.ntmps20
  go_wp2_with (first
        | ((with_reducible apply pl_load1 hs); (focus (simp only [Act.eval, za, zb, zc, zd, ze, zf]; (try with_reducible rfl); done)); (focus (simp only [go_sem])); (focus ((repeat (first | (with_reducible (first | assumption | exact hec _ | exact hec2 _ | exact hec3 _ | exact hec4 _ _)) | ((with_reducible apply readc_here); (focus (first | (simp only [zc, zd, ze, go_sem]; (try with_reducible rfl); done) | (go_simp; (try with_reducible rfl); done)))) | (with_reducible (first | (apply readc_left; assumption) | refine readc_exh (by assumption) ?_ | refine readc_exh0 (by assumption) ?_ | apply readc_next)))); done)); (focus rfl); simp only [Act.put, zg, zh, zi])
        | ((with_reducible apply pl_box hs); (focus (simp only [Act.eval, za, zb, zc, zd, ze, zf]; (try with_reducible rfl); done)); (focus (first | (with_reducible (first | exact cells_intv _ | exact cells_bytv _ | exact cells_agg _ | exact cells_int _ _ | exact cells_bool _ | exact cells_string _ | exact cells_slice _ _ _ | exact cells_pointer _ | exact cells_map _ | exact cells_iface _ _ | exact cells_nilIface | exact cells_func _ _ _)) | (exact cells_one (by assumption)))); clear hs; (try clear w); intro g w hs; skip; simp only [Act.put, zg, zh, zi]))
  (go_ret; simp only [za, zb, zc, zd, ze, zf])
  exact ⟨_, rfl, hs.mono (ent_pu rfl (by ((repeat (first | (with_reducible (first | exact ent_refl | exact ent_emp)) | ((with_reducible apply ent_front); (focus with_reducible (repeat (first | exact ent_here | apply ent_next | exact ent_last)); done)) | (with_reducible (first | exact ent_keep | apply ent_trans ent_drop)))); done)))⟩
end Go.Proofs.YtegebjflhhbmiaaDoor

set_option linter.unusedSimpArgs false
set_option linter.unusedVariables false
namespace Go.Proofs.YtegebjflhhbmiaaDoor
open Go Go.RowKit

def nmE : Nat → String
  | 1 => "barrow/api.ErrArg"
  | 2 => "barrow/api.ErrRange"
  | 3 => "barrow/api.ErrText"
  | 4 => "barrow/api.ErrFull"
  | 5 => "barrow/api.ErrFrozen"
  | 6 => "barrow/api.ErrForm"
  | 7 => "barrow/api.ErrShort"
  | 8 => "barrow/api.ErrOrder"
  | 9 => "barrow/api.ErrTwice"
  | 10 => "barrow/api.ErrEpoch"
  | 11 => "barrow/api.ErrBusy"
  | 12 => "barrow/api.ErrNone"
  | 13 => "barrow/api.ErrRoom"
  | _ => ""
def txE : Nat → List UInt8
  | 1 => [98, 97, 100, 32, 97, 114, 103, 117, 109, 101, 110, 116]
  | 2 => [111, 117, 116, 32, 111, 102, 32, 114, 97, 110, 103, 101]
  | 3 => [98, 97, 100, 32, 116, 101, 120, 116]
  | 4 => [110, 111, 32, 99, 114, 101, 100, 105, 116, 32, 108, 101, 102, 116]
  | 5 => [102, 114, 111, 122, 101, 110]
  | 6 => [98, 97, 100, 32, 102, 111, 114, 109]
  | 7 => [99, 117, 116, 32, 115, 104, 111, 114, 116]
  | 8 => [110, 111, 116, 32, 121, 101, 116]
  | 9 => [116, 104, 101, 114, 101, 32, 97, 108, 114, 101, 97, 100, 121]
  | 10 => [97, 110, 111, 116, 104, 101, 114, 32, 101, 112, 111, 99, 104]
  | 11 => [98, 117, 115, 121]
  | 12 => [110, 111, 116, 104, 105, 110, 103, 32, 116, 104, 101, 114, 101]
  | 13 => [110, 111, 32, 114, 111, 111, 109]
  | _ => []
theorem txE_inj : ∀ i j : Fin 14, 1 ≤ i.val → 1 ≤ j.val → txE i.val = txE j.val → i = j := by decide
theorem thirteen {p : Nat → Prop} (h : p 1 ∧ p 2 ∧ p 3 ∧ p 4 ∧ p 5 ∧ p 6 ∧ p 7 ∧ p 8 ∧ p 9 ∧ p 10 ∧ p 11 ∧ p 12 ∧ p 13) (k : Nat) (h1 : 1 ≤ k) (h2 : k ≤ 13) : p k := by
  obtain ⟨e1, e2, e3, e4, e5, e6, e7, e8, e9, e10, e11, e12, e13⟩ := h
  obtain rfl | rfl | rfl | rfl | rfl | rfl | rfl | rfl | rfl | rfl | rfl | rfl | rfl : k = 1 ∨ k = 2 ∨ k = 3 ∨ k = 4 ∨ k = 5 ∨ k = 6 ∨ k = 7 ∨ k = 8 ∨ k = 9 ∨ k = 10 ∨ k = 11 ∨ k = 12 ∨ k = 13 := by omega
  all_goals assumption
theorem nmE_at : ∀ k, 1 ≤ k → k ≤ 13 → Tryd.prog.globalNamed (nmE k) = some (gl k) ∧ (Tryd.prog.globals[gl k]?).map (·.type) = some 34 :=
  thirteen ⟨⟨by kernel_rfl, by kernel_rfl⟩, ⟨by kernel_rfl, by kernel_rfl⟩, ⟨by kernel_rfl, by kernel_rfl⟩, ⟨by kernel_rfl, by kernel_rfl⟩, ⟨by kernel_rfl, by kernel_rfl⟩, ⟨by kernel_rfl, by kernel_rfl⟩, ⟨by kernel_rfl, by kernel_rfl⟩, ⟨by kernel_rfl, by kernel_rfl⟩, ⟨by kernel_rfl, by kernel_rfl⟩, ⟨by kernel_rfl, by kernel_rfl⟩, ⟨by kernel_rfl, by kernel_rfl⟩, ⟨by kernel_rfl, by kernel_rfl⟩, ⟨by kernel_rfl, by kernel_rfl⟩⟩
theorem errA_laid {W : World} {l : List (String × DataW Unit)} (h : laidMetH Tryd.prog l W) (hh : (l.all fun x => x.2.handleName?.isNone) = true)
    (hm : ∀ k, 1 ≤ k → k ≤ 13 → (nmE k, DataW.iface "*errors.errorString" (.ptr (.agg [.lit (.string (txE k))]))) ∈ l) (hW : Own (Exh (fun b => W.heap[b]?)) W) : ∃ a, ErrA (Exh (fun b => W.heap[b]?)) a :=
  errA_of hW txE (fun i j i1 i2 j1 j2 e => congrArg Fin.val (txE_inj ⟨i, by omega⟩ ⟨j, by omega⟩ i1 j1 e)) fun k h1 h2 => errAt_of_laid h hh (hm k h1 h2) (nmE_at k h1 h2).1 (nmE_at k h1 h2).2
end Go.Proofs.YtegebjflhhbmiaaDoor
