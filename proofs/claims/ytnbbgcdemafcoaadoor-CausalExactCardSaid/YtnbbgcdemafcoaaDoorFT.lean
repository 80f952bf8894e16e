/- CausalExact: its walk. -/
import Derived.Test.YtnbbgcdemafcoaaDoorFS
import Derived.Test.YtnbbgcdemafcoaaDoorE7
set_option linter.unusedSimpArgs false
set_option linter.unusedVariables false
namespace Go.Proofs.YtnbbgcdemafcoaaDoor
open Go Go.RowKit

theorem fnewR_s (c0 : World) (F : HP) (a : Nat → Addr) (x y : ByteArray) (n : Int) (k : Nat) : Spec Tryd.prog c0 30 #[.string x, .string y, .int .i64 n, .iface 109 (.pointer (some (a k)))]
    (pu (1 ≤ k ∧ k ≤ 13) F) (fun r => RefP a (some ([⟨x, y, atV n⟩], k)) r * F) := fun w hs => by
  obtain ⟨⟨h1, h2⟩, hs⟩ := hs.pu
  refine (fnew_s c0 F x y n _ (some (a k)) w hs).mono fun e w' ⟨v, he, h⟩ => ⟨v, he, ?_⟩
  obtain ⟨g, h⟩ := h.ex
  obtain ⟨hv, h3⟩ := h.pu
  subst hv
  refine h3.mono ?_
  dsimp only [RefP]
  rw [pu_star]
  refine ent_pu ⟨h1, h2, by simp⟩ ?_
  exact ent_trans (star_mono ent_refl fch_one) (fch_more (l := ⟨x, y, atV n⟩))
set_option maxRecDepth 20000 in
set_option maxHeartbeats 2000000 in
theorem newE_s (c0 : World) (F : HP) (a : Nat → Addr) (m : Int) : Spec Tryd.prog c0 11 #[.int .i64 m] (pu (ErrA F a ∧ ¬ (0 ≤ m ∧ m ≤ 256)) F) (fun r => ex fun e => pu (r = .tuple #[.pointer none, e]) (RefP a (some ([⟨⟨#[99, 97, 117, 115, 97, 108]⟩, ⟨#[78, 101, 119]⟩, atV m⟩], 1)) e * F)) := by
  intro w hq; obtain ⟨⟨hE, hm⟩, hs⟩ := hq.pu; clear hq
  have hg1 : ReadC F 0 0 (.iface 109 (.pointer (some (a 1)))) := hE.ad 1 (by decide) (by decide)
  by_cases h0 : m < 0
  · go_enter Tryd.func11, Tryd.ntmps11
    go_wp2_with (first
        | ((with_reducible apply pl_call hs (fnewR_s _ _ a _ _ _ 1)); (go_must (((focus (simp only [zj, zk, zl, List.append_toArray, List.nil_append, List.cons_append, Act.eval, za, zb, zc, zd, ze, zf]; (try with_reducible rfl); done)); (focus ((repeat (first | (with_reducible (first | exact ent_refl | apply ent_puR)) | ((with_reducible apply ent_front); (focus with_reducible (repeat (first | exact ent_here | apply ent_next | exact ent_last)); done)) | (with_reducible (first | exact ent_keep | apply ent_trans ent_drop)) | (focus (first | ((repeat' (first | (with_reducible apply And.intro) | omega)); done))))); done)); (focus (simp only [go_sem]))))); clear hs; (try clear w); intro v w hq; (have hs := hq); clear hq; (try simp only [star_assoc, star_emp, emp_star] at hs); (try simp only [Act.put, zg, zh, zi]))
        | ((with_reducible apply pl_load1 hs); (focus (simp only [Act.eval, za, zb, zc, zd, ze, zf]; (try with_reducible rfl); done)); (focus (simp only [go_sem])); (focus ((repeat (first | (with_reducible (first | assumption | exact hec _ | exact hec2 _ | exact hec3 _ | exact hec4 _ _)) | ((with_reducible apply readc_here); (focus (first | (simp only [zc, zd, ze, go_sem]; (try with_reducible rfl); done) | (go_simp; (try with_reducible rfl); done)))) | (with_reducible (first | (apply readc_left; assumption) | refine readc_exh (by assumption) ?_ | refine readc_exh0 (by assumption) ?_ | apply readc_next)))); done)); (focus rfl); simp only [Act.put, zg, zh, zi]))
    (go_ret2; simp only [za, zb, zc, zd, ze, zf])
    exact ⟨_, rfl, hs.mono (ent_ex _ (ent_pu rfl ent_refl))⟩
  · have h1 : 256 < m := by omega
    go_enter Tryd.func11, Tryd.ntmps11
    go_wp2_with (first
        | ((with_reducible rewrite [pl_strike_eq]); rotate_left 1; (focus rfl))
        | ((with_reducible apply pl_call hs (fnewR_s _ _ a _ _ _ 1)); (go_must (((focus (simp only [zj, zk, zl, List.append_toArray, List.nil_append, List.cons_append, Act.eval, za, zb, zc, zd, ze, zf]; (try with_reducible rfl); done)); (focus ((repeat (first | (with_reducible (first | exact ent_refl | apply ent_puR)) | ((with_reducible apply ent_front); (focus with_reducible (repeat (first | exact ent_here | apply ent_next | exact ent_last)); done)) | (with_reducible (first | exact ent_keep | apply ent_trans ent_drop)) | (focus (first | ((repeat' (first | (with_reducible apply And.intro) | omega)); done))))); done)); (focus (simp only [go_sem]))))); clear hs; (try clear w); intro v w hq; (have hs := hq); clear hq; (try simp only [star_assoc, star_emp, emp_star] at hs); (try simp only [Act.put, zg, zh, zi]))
        | ((with_reducible apply pl_load1 hs); (focus (simp only [Act.eval, za, zb, zc, zd, ze, zf]; (try with_reducible rfl); done)); (focus (simp only [go_sem])); (focus ((repeat (first | (with_reducible (first | assumption | exact hec _ | exact hec2 _ | exact hec3 _ | exact hec4 _ _)) | ((with_reducible apply readc_here); (focus (first | (simp only [zc, zd, ze, go_sem]; (try with_reducible rfl); done) | (go_simp; (try with_reducible rfl); done)))) | (with_reducible (first | (apply readc_left; assumption) | refine readc_exh (by assumption) ?_ | refine readc_exh0 (by assumption) ?_ | apply readc_next)))); done)); (focus rfl); simp only [Act.put, zg, zh, zi]))
    (go_ret2; simp only [za, zb, zc, zd, ze, zf])
    exact ⟨_, rfl, hs.mono (ent_ex _ (ent_pu rfl ent_refl))⟩
/-- A call as data. -/
structure IopD where
  d : Int
  c : Nat → Int
  a : ActD
instance : Inhabited IopD := ⟨⟨0, clk0, act0⟩⟩
def opx (o : IopD) : Array Value := opv o.d o.c o.a
@[go_sem] theorem opx_size (o : IopD) : (opx o).size = 22 := opv_size ..
theorem istart {gp gb gr : Nat} {m : Int} {F : HP} : Ent (ipair gp gb gr * (inb gb m [] 0 * (blk gr (.cells #[.int .i64 m, .slice none 0 0] 59 (0, 0)) * F))) (inS gp gb gr m 0 * F) :=
  ent_trans (star_mono ent_refl (star_mono ent_refl (ent_trans (star_mono ent_refl ent_row_nil) rinb_shut))) (inS_shut good_nil)
set_option maxRecDepth 20000 in
set_option maxHeartbeats 4000000 in
theorem iexact_s (c0 : World) (F : HP) (a : Nat → Addr) (m : Int) (v : Value) (l : List IopD) : Spec Tryd.prog c0 8 #[.int .i64 m, v] (pu (SlR F 22 opx v l ∧ (∀ o, o ∈ l → InI o.d ∧ ClkI o.c ∧ ActW o.a) ∧ ErrA F a) F) (fun r => pu (r = .bool true) F) := by
  intro w hq; obtain ⟨⟨hsl, hops, hE⟩, hs⟩ := hq.pu; clear hq
  obtain ⟨V, cv, rfl⟩ := slr_form hsl hs.own
  obtain ⟨_, _, hlc, _⟩ := slr_len hsl hs.own
  unfold maxLen at hlc
  replace hops := Lib.hid hops
  by_cases hm : 0 ≤ m ∧ m ≤ 256
  · obtain ⟨m0, m1⟩ := hm
    go_enter Tryd.func8, Tryd.ntmps8
    go_wp2_with (first
        | ((with_reducible rewrite [pl_strike_eq]); rotate_left 1; (focus rfl))
        | ((with_reducible apply pl_guard_f); (focus rfl); (focus rfl); all_goals (intro hb; first | (cases hb; done) | ((try simp at hb); first | contradiction | ((have hF : False := (by omega)); (cases hF; done)) | (simp only [Act.put, zg, zh, zi]))))
        | ((with_reducible apply pl_call hs (new_s _ _ _)); (go_must (((focus (simp only [zj, zk, zl, List.append_toArray, List.nil_append, List.cons_append, Act.eval, za, zb, zc, zd, ze, zf]; (try with_reducible rfl); done)); (focus ((repeat (first | (with_reducible (first | exact ent_refl | apply ent_puR)) | ((with_reducible apply ent_front); (focus with_reducible (repeat (first | exact ent_here | apply ent_next | exact ent_last)); done)) | (with_reducible (first | exact ent_keep | apply ent_trans ent_drop)) | (focus (first | ((repeat' (first | (with_reducible assumption) | (with_reducible apply And.intro))); done))))); done)); (focus (simp only [go_sem]))))); clear hs; (try clear w); intro v w hq; (obtain ⟨gb, hq1⟩ := hq.ex; obtain ⟨rfl, hs⟩ := hq1.pu; clear hq1); clear hq; (try simp only [star_assoc, star_emp, emp_star] at hs); (try simp only [Act.put, zg, zh, zi]))
        | ((with_reducible apply pl_build hs); (focus (simp only [zj, zk, zl, Act.eval, za, zb, zc, zd, ze, zf]; (try with_reducible rfl); done)); (first | (with_reducible exact bld_7 _) | (with_reducible exact bld_8 _ _)); (focus rfl); simp only [Act.put, zg, zh, zi])
        | ((with_reducible apply pl_box hs); (focus (simp only [Act.eval, za, zb, zc, zd, ze, zf]; (try with_reducible rfl); done)); (focus (first | (with_reducible (first | exact cells_intv _ | exact cells_agg _ | exact cells_int _ _ | exact cells_bool _ | exact cells_string _ | exact cells_slice _ _ _ | exact cells_pointer _ | exact cells_map _ | exact cells_iface _ _ | exact cells_nilIface | exact cells_func _ _ _)) | (exact cells_one (by assumption)))); clear hs; (try clear w); intro g w hs; skip; simp only [Act.put, zg, zh, zi]))
    rename_i gr K1 a1 b1
    (obtain ⟨gp, hgg⟩ : ∃ x, x = g := ⟨_, rfl⟩); subst hgg
    go_loopw [8] (fun i wr => ∃ (k : Nat), k ≤ l.length ∧ k ≤ 200 ∧ i = .int .i64 k ∧ Sat c0 (inS gp gb gr m k * F) wr) (fun i _ => l.length - (intOf i).toNat)
    case atStart => exact ⟨0, by omega, by omega, rfl, hs.mono (ent_trans (by ((repeat (first | (with_reducible (first | exact ent_refl | exact ent_emp)) | ((with_reducible apply ent_front); (focus with_reducible (repeat (first | exact ent_here | apply ent_next | exact ent_last)); done)) | (with_reducible (first | exact ent_keep | apply ent_trans ent_drop)))); done)) istart)⟩
    case round =>
      clear hs
      obtain ⟨k, hk, hk2, rfl, hs⟩ := hrel
      by_cases hlt : k < l.length ∧ k < 200
      · obtain ⟨hlt, hlt2⟩ := hlt
        obtain ⟨bm, om, x, rfl, hla, hwa⟩ := slr_get hsl (hs.own.mono ent_drop) hlt
        obtain ⟨h1, h2, h3⟩ := hops.out x (List.mem_of_getElem? hla)
        clear hla
        obtain ⟨d, c, a0⟩ := x
        dsimp only at h1 h2 h3
        replace hwa : Reads F bm (om + k * 22) 22 (opv d c a0) := hwa
        go_wp2_with (first
        | ((with_reducible rewrite [pl_strike_eq]); rotate_left 1; (focus rfl))
        | ((with_reducible apply pl_call hs (idoes_s _ _ gp gb gr m d c a0 k)); (go_must (((focus (simp only [zj, zk, zl, List.append_toArray, List.nil_append, List.cons_append, Act.eval, za, zb, zc, zd, ze, zf]; (try with_reducible rfl); done)); (focus ((repeat (first | (with_reducible (first | exact ent_refl | apply ent_puR)) | ((with_reducible apply ent_front); (focus with_reducible (repeat (first | exact ent_here | apply ent_next | exact ent_last)); done)) | (with_reducible (first | exact ent_keep | apply ent_trans ent_drop)) | (focus (first | ((repeat' (first | (with_reducible assumption) | (with_reducible apply And.intro) | omega)); done))))); done)); (focus (simp only [go_sem]))))); clear hs; (try clear w); intro v w hq; (obtain ⟨rfl, hs⟩ := hq.pu); clear hq; (try simp only [star_assoc, star_emp, emp_star] at hs); (try simp only [Act.put, zg, zh, zi]))
        | ((with_reducible apply pl_call hs (isame2_s _ _ gp gb gr m (k + 1))); (go_must (((focus (simp only [zj, zk, zl, List.append_toArray, List.nil_append, List.cons_append, Act.eval, za, zb, zc, zd, ze, zf]; (try with_reducible rfl); done)); (focus ((repeat (first | (with_reducible (first | exact ent_refl | apply ent_puR)) | ((with_reducible apply ent_front); (focus with_reducible (repeat (first | exact ent_here | apply ent_next | exact ent_last)); done)) | (with_reducible (first | exact ent_keep | apply ent_trans ent_drop)) | (fail))); done)); (focus (simp only [go_sem]))))); clear hs; (try clear w); intro v w hq; (obtain ⟨rfl, hs⟩ := hq.pu); clear hq; (try simp only [star_assoc, star_emp, emp_star] at hs); (try simp only [Act.put, zg, zh, zi]))
        | ((with_reducible apply pl_loadN hs); (focus (simp only [Act.eval, za, zb, zc, zd, ze, zf]; (try with_reducible rfl); done)); (with_reducible (first | exact agg_64)); (focus ((repeat (first | (with_reducible (first | assumption | exact hel _ | exact hel2 _ | exact hel3 _)) | ((with_reducible apply reads_whole); (focus (first | (with_reducible rfl) | (simp only [go_sem]; done) | (simp; done)))) | ((with_reducible apply reads_part); (focus (first | (simp [go_sem]; done) | (simp only [go_sem]; omega) | go_size)); (focus (first | (simp only [Nat.reduceAdd, Nat.zero_add, go_sem]; (try with_reducible rfl); done) | (simp [go_sem]; (try with_reducible rfl); done)))) | (with_reducible (first | (apply reads_left; assumption) | refine reads_exh (by assumption) ?_ | refine reads_exh0 (by assumption) ?_ | apply reads_next)))); done)); (focus rfl); simp only [Act.put, zg, zh, zi]))
        exact ⟨⟨k + 1, by omega, by omega, by simp, hs.mono (by ((repeat (first | (with_reducible (first | exact ent_refl | exact ent_emp)) | ((with_reducible apply ent_front); (focus with_reducible (repeat (first | exact ent_here | apply ent_next | exact ent_last)); done)) | (with_reducible (first | exact ent_keep | apply ent_trans ent_drop)))); done))⟩, by simp [intOf]; omega⟩
      · go_wp2_with (first
        | ((with_reducible rewrite [pl_strike_eq]); rotate_left 1; (focus rfl))
        | ((with_reducible rewrite [pl_skip_eq]); rotate_left 1; (focus rfl); simp only [Act.put, zg, zh, zi])
        | ((with_reducible apply pl_call hs (wakes_s _ _)); (go_must (((focus (simp only [zj, zk, zl, List.append_toArray, List.nil_append, List.cons_append, Act.eval, za, zb, zc, zd, ze, zf]; (try with_reducible rfl); done)); (focus ((repeat (first | (with_reducible (first | exact ent_refl | apply ent_puR)) | ((with_reducible apply ent_front); (focus with_reducible (repeat (first | exact ent_here | apply ent_next | exact ent_last)); done)) | (with_reducible (first | exact ent_keep | apply ent_trans ent_drop)) | (fail))); done)); (focus (simp only [go_sem]))))); clear hs; (try clear w); intro v w hq; (obtain ⟨rfl, hs⟩ := hq.pu); clear hq; (try simp only [star_assoc, star_emp, emp_star] at hs); (try simp only [Act.put, zg, zh, zi])))
        all_goals (go_ret; simp only [za, zb, zc, zd, ze, zf])
        all_goals exact ⟨_, rfl, hs.mono (ent_pu rfl (by ((repeat (first | (with_reducible (first | exact ent_refl | exact ent_emp)) | ((with_reducible apply ent_front); (focus with_reducible (repeat (first | exact ent_here | apply ent_next | exact ent_last)); done)) | (with_reducible (first | exact ent_keep | apply ent_trans ent_drop)))); done)))⟩
  · have hne : ∀ F, Spec Tryd.prog c0 11 #[.int .i64 m] (pu (ErrA F a) F) (fun r => ex fun e => pu (r = .tuple #[.pointer none, e]) (RefP a (some ([⟨⟨#[99, 97, 117, 115, 97, 108]⟩, ⟨#[78, 101, 119]⟩, atV m⟩], 1)) e * F)) := fun F w hs => by
      obtain ⟨h1, hs⟩ := hs.pu
      exact newE_s c0 F a m w (hs.mono (ent_pu ⟨h1, hm⟩ ent_refl))
    by_cases h0 : m < 0
    · go_enter Tryd.func8, Tryd.ntmps8
      go_wp2_with (first
        | ((with_reducible rewrite [pl_strike_eq]); rotate_left 1; (focus rfl))
        | ((with_reducible apply pl_call hs (hne _)); (go_must (((focus (simp only [zj, zk, zl, List.append_toArray, List.nil_append, List.cons_append, Act.eval, za, zb, zc, zd, ze, zf]; (try with_reducible rfl); done)); (focus ((repeat (first | (with_reducible (first | exact ent_refl | apply ent_puR)) | ((with_reducible apply ent_front); (focus with_reducible (repeat (first | exact ent_here | apply ent_next | exact ent_last)); done)) | (with_reducible (first | exact ent_keep | apply ent_trans ent_drop)) | (focus (first | (with_reducible assumption))))); done)); (focus (simp only [go_sem]))))); clear hs; (try clear w); intro v w hq; (obtain ⟨e, hq1⟩ := hq.ex; obtain ⟨rfl, hs⟩ := hq1.pu; clear hq1); clear hq; (try simp only [star_assoc, star_emp, emp_star] at hs); (try simp only [Act.put, zg, zh, zi]))
        | ((with_reducible apply pl_call hs (sayK_s _ _ _ _ _ _ 1)); (go_must (((focus (simp only [zj, zk, zl, List.append_toArray, List.nil_append, List.cons_append, Act.eval, za, zb, zc, zd, ze, zf]; (try with_reducible rfl); done)); (focus ((repeat (first | (with_reducible (first | exact ent_refl | apply ent_puR)) | ((with_reducible apply ent_front); (focus with_reducible (repeat (first | exact ent_here | apply ent_next | exact ent_last)); done)) | (with_reducible (first | exact ent_keep | apply ent_trans ent_drop)) | (focus (first | ((repeat' (first | (with_reducible apply And.intro) | omega)); done))))); done)); (focus (simp only [go_sem]))))); clear hs; (try clear w); intro v w hq; (obtain ⟨no, hq1⟩ := hq.ex; obtain ⟨rfl, hs⟩ := hq1.pu; clear hq1); clear hq; (try simp only [star_assoc, star_emp, emp_star] at hs); (try simp only [Act.put, zg, zh, zi]))
        | ((with_reducible apply pl_call hs (refused_s _ _ a _ _ _)); (go_must (((focus (simp only [zj, zk, zl, List.append_toArray, List.nil_append, List.cons_append, Act.eval, za, zb, zc, zd, ze, zf]; (try with_reducible rfl); done)); (focus ((repeat (first | (with_reducible (first | exact ent_refl | apply ent_puR)) | ((with_reducible apply ent_front); (focus with_reducible (repeat (first | exact ent_here | apply ent_next | exact ent_last)); done)) | (with_reducible (first | exact ent_keep | apply ent_trans ent_drop)) | (focus (first | (with_reducible assumption))))); done)); (focus (simp only [go_sem]))))); clear hs; (try clear w); intro v w hq; (obtain ⟨rfl, hs⟩ := hq.pu); clear hq; (try simp only [star_assoc, star_emp, emp_star] at hs); (try simp only [Act.put, zg, zh, zi]))
        | ((with_reducible apply pl_call hs (wakes_s _ _)); (go_must (((focus (simp only [zj, zk, zl, List.append_toArray, List.nil_append, List.cons_append, Act.eval, za, zb, zc, zd, ze, zf]; (try with_reducible rfl); done)); (focus ((repeat (first | (with_reducible (first | exact ent_refl | apply ent_puR)) | ((with_reducible apply ent_front); (focus with_reducible (repeat (first | exact ent_here | apply ent_next | exact ent_last)); done)) | (with_reducible (first | exact ent_keep | apply ent_trans ent_drop)) | (fail))); done)); (focus (simp only [go_sem]))))); clear hs; (try clear w); intro v w hq; (obtain ⟨rfl, hs⟩ := hq.pu); clear hq; (try simp only [star_assoc, star_emp, emp_star] at hs); (try simp only [Act.put, zg, zh, zi])))
      (go_ret; simp only [za, zb, zc, zd, ze, zf])
      exact ⟨_, rfl, hs.mono (ent_pu rfl (by ((repeat (first | (with_reducible (first | exact ent_refl | exact ent_emp)) | ((with_reducible apply ent_front); (focus with_reducible (repeat (first | exact ent_here | apply ent_next | exact ent_last)); done)) | (with_reducible (first | exact ent_keep | apply ent_trans ent_drop)))); done)))⟩
    · have h1 : 256 < m := by omega
      go_enter Tryd.func8, Tryd.ntmps8
      go_wp2_with (first
        | ((with_reducible rewrite [pl_strike_eq]); rotate_left 1; (focus rfl))
        | ((with_reducible apply pl_call hs (hne _)); (go_must (((focus (simp only [zj, zk, zl, List.append_toArray, List.nil_append, List.cons_append, Act.eval, za, zb, zc, zd, ze, zf]; (try with_reducible rfl); done)); (focus ((repeat (first | (with_reducible (first | exact ent_refl | apply ent_puR)) | ((with_reducible apply ent_front); (focus with_reducible (repeat (first | exact ent_here | apply ent_next | exact ent_last)); done)) | (with_reducible (first | exact ent_keep | apply ent_trans ent_drop)) | (focus (first | (with_reducible assumption))))); done)); (focus (simp only [go_sem]))))); clear hs; (try clear w); intro v w hq; (obtain ⟨e, hq1⟩ := hq.ex; obtain ⟨rfl, hs⟩ := hq1.pu; clear hq1); clear hq; (try simp only [star_assoc, star_emp, emp_star] at hs); (try simp only [Act.put, zg, zh, zi]))
        | ((with_reducible apply pl_call hs (sayK_s _ _ _ _ _ _ 1)); (go_must (((focus (simp only [zj, zk, zl, List.append_toArray, List.nil_append, List.cons_append, Act.eval, za, zb, zc, zd, ze, zf]; (try with_reducible rfl); done)); (focus ((repeat (first | (with_reducible (first | exact ent_refl | apply ent_puR)) | ((with_reducible apply ent_front); (focus with_reducible (repeat (first | exact ent_here | apply ent_next | exact ent_last)); done)) | (with_reducible (first | exact ent_keep | apply ent_trans ent_drop)) | (focus (first | ((repeat' (first | (with_reducible apply And.intro) | omega)); done))))); done)); (focus (simp only [go_sem]))))); clear hs; (try clear w); intro v w hq; (obtain ⟨no, hq1⟩ := hq.ex; obtain ⟨rfl, hs⟩ := hq1.pu; clear hq1); clear hq; (try simp only [star_assoc, star_emp, emp_star] at hs); (try simp only [Act.put, zg, zh, zi]))
        | ((with_reducible apply pl_call hs (refused_s _ _ a _ _ _)); (go_must (((focus (simp only [zj, zk, zl, List.append_toArray, List.nil_append, List.cons_append, Act.eval, za, zb, zc, zd, ze, zf]; (try with_reducible rfl); done)); (focus ((repeat (first | (with_reducible (first | exact ent_refl | apply ent_puR)) | ((with_reducible apply ent_front); (focus with_reducible (repeat (first | exact ent_here | apply ent_next | exact ent_last)); done)) | (with_reducible (first | exact ent_keep | apply ent_trans ent_drop)) | (focus (first | (with_reducible assumption))))); done)); (focus (simp only [go_sem]))))); clear hs; (try clear w); intro v w hq; (obtain ⟨rfl, hs⟩ := hq.pu); clear hq; (try simp only [star_assoc, star_emp, emp_star] at hs); (try simp only [Act.put, zg, zh, zi]))
        | ((with_reducible apply pl_call hs (wakes_s _ _)); (go_must (((focus (simp only [zj, zk, zl, List.append_toArray, List.nil_append, List.cons_append, Act.eval, za, zb, zc, zd, ze, zf]; (try with_reducible rfl); done)); (focus ((repeat (first | (with_reducible (first | exact ent_refl | apply ent_puR)) | ((with_reducible apply ent_front); (focus with_reducible (repeat (first | exact ent_here | apply ent_next | exact ent_last)); done)) | (with_reducible (first | exact ent_keep | apply ent_trans ent_drop)) | (fail))); done)); (focus (simp only [go_sem]))))); clear hs; (try clear w); intro v w hq; (obtain ⟨rfl, hs⟩ := hq.pu); clear hq; (try simp only [star_assoc, star_emp, emp_star] at hs); (try simp only [Act.put, zg, zh, zi])))
      (go_ret; simp only [za, zb, zc, zd, ze, zf])
      exact ⟨_, rfl, hs.mono (ent_pu rfl (by ((repeat (first | (with_reducible (first | exact ent_refl | exact ent_emp)) | ((with_reducible apply ent_front); (focus with_reducible (repeat (first | exact ent_here | apply ent_next | exact ent_last)); done)) | (with_reducible (first | exact ent_keep | apply ent_trans ent_drop)))); done)))⟩
end Go.Proofs.YtnbbgcdemafcoaaDoor
