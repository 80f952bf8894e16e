/- The document's Load. -/
import Derived.Test.YtflibhphpnajeaaDoorZUC6BG
import Derived.Test.YtflibhphpnajeaaDoorZUC6BA
set_option linter.unusedSimpArgs false
set_option linter.unusedVariables false
namespace Go.Proofs.YtflibhphpnajeaaDoor
open Go Go.RowKit

def okJ (l : List ChgD) (j : Nat) : Bool := decide (0 < l.length) && (l.take j).all fun c => knB c.kind
theorem okJ_0 (l : List ChgD) : okJ l 0 = decide (0 < l.length) := by unfold okJ; simp
theorem okJ_step {l : List ChgD} {j : Nat} {c : ChgD} (h : l[j]? = some c) : okJ l (j + 1) = (okJ l j && knB c.kind) := by
  unfold okJ
  rw [List.take_add_one, h, List.all_append, Bool.and_assoc]
  simp
theorem okJ_end {l : List ChgD} {j : Nat} (h : l.length ≤ j) : okJ l j = !badB l := by
  unfold okJ badB
  rw [List.take_of_length_le h, Bool.not_or, List.not_any_eq_all_not]
  congr 1
  · by_cases h0 : l.length = 0
    · rw [decide_eq_true h0, decide_eq_false (by omega)]; rfl
    · rw [decide_eq_false h0, decide_eq_true (by omega)]; rfl
  · congr 1
    funext c
    simp
theorem take_snoc {α : Type} {l : List α} {k : Nat} {a : α} (h : l[k]? = some a) : l.take (k + 1) = l.take k ++ [a] := by rw [List.take_add_one, h]; rfl
theorem pushL_take {dn : List (List ChgD)} {k : Nat} {l : List ChgD} (h : dn[k]? = some l) (hk : k < 64) : pushL (dn.take k) l = dn.take (k + 1) := by
  unfold pushL pushB
  rw [if_neg (by rw [List.length_take]; omega), take_snoc h]
/-- What the document's Load answers. -/
def RlR (dn un : List (List ChgD)) (F : HP) (r : Value) : HP := match loadR dn un with
  | none => ex fun gr : Nat => ex fun m : NoD => pu (r = .tuple #[.pointer (some ⟨gr, 0, none⟩), .agg (nov m)] ∧ m.code = 0) (rstk gr dn un * F)
  | some (i, k) => ex fun m : NoD => pu (r = .tuple #[.pointer none, .agg (nov m)]) (NoP (some ([⟨unB, loB, atV (i : Nat)⟩], k)) m * F)
theorem rlR_no {dn un : List (List ChgD)} {F : HP} {i k : Nat} {p : Int} {m : NoD} (h : loadR dn un = some (i, k)) (hp : p = (i : Nat)) : Ent (NoP (some ([⟨unB, loB, atV p⟩], k)) m * F) (RlR dn un F (.tuple #[.pointer none, .agg (nov m)])) := by
  subst hp; unfold RlR; rw [h]; exact ent_ex m (ent_pu rfl ent_refl)
theorem rlR_ok {dn un : List (List ChgD)} {F : HP} {gr : Nat} {m : NoD} (h : loadR dn un = none) (hm : m.code = 0) : Ent (rstk gr dn un * F) (RlR dn un F (.tuple #[.pointer (some ⟨gr, 0, none⟩), .agg (nov m)])) := by
  unfold RlR; rw [h]; exact ent_ex gr (ent_ex m (ent_pu ⟨rfl, hm⟩ ent_refl))
set_option maxRecDepth 20000 in
set_option maxHeartbeats 8000000 in
theorem rload_s (c0 : World) (F : HP) (u v : Value) (ts us : List SlD) (dn un : List (List ChgD)) : Spec Tryd.prog c0 30 #[u, v]
    (pu (SlR F 1 slv u ts ∧ SlR F 1 slv v us ∧ PS ts dn F ∧ PS us un F ∧ ts.length = dn.length ∧ us.length = un.length ∧ Len2 dn ∧ Len2 un ∧ dn.length ≤ 70 ∧ un.length ≤ 70) F) (RlR dn un F) := by
  intro w hq; obtain ⟨⟨h1, h4, h3, h6, h2, h5, hd, hu, hl1, hl2⟩, hs⟩ := hq.pu; clear hq
  obtain ⟨A, ca, rfl⟩ := slr_form h1 hs.own
  obtain ⟨B, cb, rfl⟩ := slr_form h4 hs.own
  have hmx : 0 ≤ maxLen := Nat.zero_le _
  have hmany0 : (64 < dn.length + un.length) = (64 < ts.length + us.length) := by rw [h2, h5]
  have hmany1 := fun h => loadR_many (dn := dn) (un := un) h
  rw [← h2] at hl1
  rw [← h5] at hl2
  by_cases hmany : 64 < ts.length + us.length
  · have hmI : (64 : Int) < (ts.length : Int) + (us.length : Int) := by omega
    have hR := hmany1 (by rw [hmany0]; exact hmany)
    rw [← h2, ← h5] at hR
    clear hmany0 hmany1 h2 h5
    generalize ts.length = n at *
    generalize us.length = m at *
    replace hR := Lib.hid hR
    go_enter Tryd.func30, Tryd.ntmps30
    go_wp2_with (first
        | ((with_reducible apply pl_call hs (sayK_s _ _ _ _ _ _ 1)); ((((focus (simp only [zj, zk, zl, List.append_toArray, List.nil_append, List.cons_append, Act.eval, za, zb, zc, zd, ze, zf]; (try with_reducible rfl); done)); (focus ((repeat (first | (with_reducible (first | exact ent_refl | apply ent_puR)) | ((with_reducible apply ent_front); (focus with_reducible (repeat (first | exact ent_here | apply ent_next | exact ent_last)); done)) | (with_reducible (first | exact ent_keep | apply ent_trans ent_drop)) | (focus (first | ((repeat' (first | (with_reducible apply And.intro) | omega)); done))))); done)); (focus (simp only [go_sem]))))); clear hs; (try clear w); intro v w hq; (obtain ⟨mn, hq1⟩ := hq.ex; obtain ⟨rfl, hs⟩ := hq1.pu; clear hq1); clear hq; (try simp only [star_assoc, star_emp, emp_star] at hs); (try simp only [Act.put, zg, zh, zi]))
        | ((with_reducible apply pl_build hs); (focus (simp only [zj, zk, zl, Act.eval, za, zb, zc, zd, ze, zf]; (try with_reducible rfl); done)); (first | (with_reducible exact bld_3) | (with_reducible exact bld_6)); (focus rfl); simp only [Act.put, zg, zh, zi])
        | ((with_reducible apply pl_alloc hs); (with_reducible (first | exact zero_44)); clear hs; (try clear w); intro g w hs; skip; simp only [Act.put, zg, zh, zi])
        | ((with_reducible apply pl_box hs); (focus (simp only [Act.eval, za, zb, zc, zd, ze, zf]; (try with_reducible rfl); done)); (focus (first | (with_reducible (first | exact cells_slv _ _ _ | exact cells_intv _ | exact cells_agg _ | exact cells_int _ _ | exact cells_bool _ | exact cells_string _ | exact cells_slice _ _ _ | exact cells_pointer _ | exact cells_map _ | exact cells_iface _ _ | exact cells_nilIface | exact cells_func _ _ _)) | (exact cells_one (by assumption)))); clear hs; (try clear w); intro g w hs; skip; simp only [Act.put, zg, zh, zi])
        | ((with_reducible apply pl_storeN hs); (focus (simp only [Act.eval, za, zb, zc, zd, ze, zf]; (try with_reducible rfl); done)); (focus (simp only [Act.eval, za, zb, zc, zd, ze, zf]; (try with_reducible rfl); done)); (with_reducible (first | exact agg_44)); (focus with_reducible (repeat (first | exact ent_here | apply ent_next | exact ent_last)); done); (focus (first | (with_reducible rfl) | (simp only [go_sem]; done) | (simp; done))); (focus (first | (simp [go_sem]; done) | (simp only [go_sem]; omega) | go_size)); (focus (first | (simp only [go_sem]; done) | (simp [go_sem]; done))); (focus (first | ((with_reducible apply splice_whole); (focus (first | (with_reducible rfl) | (simp only [go_sem]; done) | (simp; done)))) | (simp [splice, go_sem]; done) | (simp only [go_sem]; (try with_reducible rfl); done))); clear hs; (try clear w); intro w hs; (try simp only [zg, zh, zi, idv_s0, idv_s1, idv_s2, chg_s0, chg_s1, chg_s2, chg_s3, uop_s0, uop_s1, uop_s2, prv_s0, prv_s1, lnk_s0, lnk_s1, lnk_s2, nov_s0, nov_s1, nov_s2, slv_set, intv_set] at hs); simp only [Act.put, zg, zh, zi]))
    refine ret_tmp_cell (n := 3) rfl Tryd.underlying44 rfl (by kernel_rfl) _ rfl _ ((by (focus ((repeat (first | (with_reducible (first | assumption | exact hel _ | exact hel2 _ | exact hel3 _)) | ((with_reducible apply reads_whole); (focus (first | (with_reducible rfl) | (simp only [go_sem]; done) | (simp; done)))) | ((with_reducible apply reads_part); (focus (first | (simp [go_sem]; done) | (simp only [go_sem]; omega) | go_size)); (focus (first | (simp only [Nat.reduceAdd, Nat.zero_add, go_sem]; (try with_reducible rfl); done) | (simp [go_sem]; (try with_reducible rfl); done)))) | (with_reducible (first | (apply reads_left; assumption) | refine reads_exh (by assumption) ?_ | refine reads_exh0 (by assumption) ?_ | apply reads_next)))); done)) : Reads _ _ 0 3 (nov _)) w hs.own) rfl ⟨_, rfl, hs.mono (ent_trans (by ((repeat (first | (with_reducible (first | exact ent_refl | exact ent_emp)) | ((with_reducible apply ent_front); (focus with_reducible (repeat (first | exact ent_here | apply ent_next | exact ent_last)); done)) | (with_reducible (first | exact ent_keep | apply ent_trans ent_drop)))); done)) (rlR_no hR.out (by omega)))⟩
  · have hmI : ¬ (64 : Int) < (ts.length : Int) + (us.length : Int) := by omega
    have hnm : ¬ 64 < dn.length + un.length := by rw [hmany0]; exact hmany
    clear hmany0 hmany1
    generalize hn : ts.length = n at *
    generalize hm : us.length = m at *
    replace h2 := Lib.hid h2
    replace h5 := Lib.hid h5
    replace hn := Lib.hid hn
    replace hm := Lib.hid hm
    replace h3 := Lib.hid h3
    replace h6 := Lib.hid h6
    replace hd := Lib.hid hd
    replace hu := Lib.hid hu
    go_enter Tryd.func30, Tryd.ntmps30
    go_wp2_with (first
        | (((with_reducible apply pl_alloc hs); (with_reducible exact zero_44); clear hs; (try clear w); intro g5 w hs; simp only [Act.put, zg, zh, zi]))
        | (((with_reducible apply pl_box hs); (focus (simp only [Act.eval, za, zb, zc, zd, ze, zf]; (try with_reducible rfl); done)); (focus (with_reducible exact cells_agg _)); clear hs; (try clear w); intro gr w hs; simp only [Act.put, zg, zh, zi]))
        | ((with_reducible apply pl_build hs); (focus (simp only [zj, zk, zl, Act.eval, za, zb, zc, zd, ze, zf]; (try with_reducible rfl); done)); (first | (with_reducible exact bld_3) | (with_reducible exact bld_6)); (focus rfl); simp only [Act.put, zg, zh, zi]))
    go_loopw [7] (fun iv wr => ∃ k : Nat, k ≤ n + m ∧ iv = .int .i64 k ∧ Hid (∀ (j : Nat) x, j < k → (dn ++ un)[j]? = some x → badB x = false) ∧ Sat c0 (blk g5 (.cells (nov nov0) 44 (0, 0)) * (rstk gr (dn.take k) (un.take (k - n)) * F)) wr) (fun iv _ => (n + m) - (intOf iv).toNat)
    case atStart => exact ⟨0, by omega, rfl, Lib.hid fun j x hj => absurd hj (by omega), hs.mono (ent_trans (B := blk g5 (.cells (nov nov0) 44 (0, 0)) * (blk gr (.cells #[.slice none 0 0, .slice none 0 0] 52 (0, 0)) * F)) (by ((repeat (first | (with_reducible (first | exact ent_refl | exact ent_emp)) | ((with_reducible apply ent_front); (focus with_reducible (repeat (first | exact ent_here | apply ent_next | exact ent_last)); done)) | (with_reducible (first | exact ent_keep | apply ent_trans ent_drop)))); done)) (star_mono ent_refl (by rw [List.take_zero, Nat.zero_sub, List.take_zero]; exact rstk_nil)))⟩
    case round =>
      clear hs
      obtain ⟨k, hk, rfl, hpre, hs⟩ := hrel
      by_cases hlt : k < n + m
      · have hkI : (k : Int) < (n : Int) + (m : Int) := by omega
        have hs5 := hs
        clear hs
        obtain ⟨A0, n0, c0', ts0, B0, m0, d0, us0, ht0, hu0, e1, e2, hc1, hc2, hd1, hd2, hs⟩ := rstk_open (hs5.mono ent_left)
        clear hs5
        unfold rstkO at hs
        have hn0 : n0 = (dn.take k).length := by rw [e1, ht0]
        have hm0 : m0 = (un.take (k - n)).length := by rw [e2, hu0]
        have hn64 : n0 < 64 := by rw [hn0, List.length_take]; omega
        have hm64 : m0 < 64 := by rw [hm0, List.length_take]; omega
        clear hn0 hm0
        replace ht0 := Lib.hid ht0
        replace hu0 := Lib.hid hu0
        replace e1 := Lib.hid e1
        replace e2 := Lib.hid e2
        by_cases hkn : k < n
        · have hkc : (k : Int) < (n : Int) := by omega
          obtain ⟨b, o, t, rfl, hta, hwa⟩ := slr_get h1 (hs.mono (by ((repeat (first | (with_reducible (first | exact ent_refl | exact ent_emp)) | ((with_reducible apply ent_front); (focus with_reducible (repeat (first | exact ent_here | apply ent_next | exact ent_last)); done)) | (with_reducible (first | exact ent_keep | apply ent_trans ent_drop)))); done)) : Sat c0 F _).own hkn
          have hkl : k < dn.length := by have := h2.out; have := hn.out; omega
          have hla := List.getElem?_eq_getElem hkl
          generalize dn[k] = l at hla
          have hsl := h3.out.at_ k t l hta hla
          have hlb := hd.out l (List.mem_of_getElem? hla)
          have hal : (dn ++ un)[k]? = some l := by rw [List.getElem?_append_left (by have := h2.out; omega)]; exact hla
          have hw0 : ReadC F b (o + k * 1) (.slice t.p t.n t.c) := hwa.cell (i := 0) (by omega) (slv_0 _)
          rw [Nat.mul_one] at hw0
          obtain ⟨hln, _⟩ := slr_len hsl (hs.mono (by ((repeat (first | (with_reducible (first | exact ent_refl | exact ent_emp)) | ((with_reducible apply ent_front); (focus with_reducible (repeat (first | exact ent_here | apply ent_next | exact ent_last)); done)) | (with_reducible (first | exact ent_keep | apply ent_trans ent_drop)))); done)) : Sat c0 F _).own
          clear hwa hta hkl
          obtain ⟨p, q, c⟩ := t
          dsimp only at hsl hw0 hln
          have hqm : q ≤ 4398046510976 := by omega
          have h00 : okJ l 0 = decide (0 < q) := by rw [okJ_0, ← hln]
          replace h00 := Lib.hid h00
          replace hal := Lib.hid hal
          replace hla := Lib.hid hla
          replace hln := Lib.hid hln
          go_wp2_with (first
        | ((with_reducible apply pl_load1 hs); (focus (simp only [Act.eval, za, zb, zc, zd, ze, zf]; (try with_reducible rfl); done)); (focus (simp only [go_sem])); (focus ((repeat (first | (with_reducible (first | assumption | exact hec _ | exact hec2 _ | exact hec3 _ | exact hec4 _ _)) | ((with_reducible apply readc_here); (focus (first | (simp only [zc, zd, ze, go_sem]; (try with_reducible rfl); done) | (go_simp; (try with_reducible rfl); done)))) | (with_reducible (first | (apply readc_left; assumption) | refine readc_exh (by assumption) ?_ | refine readc_exh0 (by assumption) ?_ | apply readc_next)))); done)); (focus rfl); simp only [Act.put, zg, zh, zi]))
          go_loopw [9, 10] (fun okv jv wr => ∃ j : Nat, j ≤ q ∧ jv = .int .i64 j ∧ okv = .bool (okJ l j) ∧ Sat c0 (blk gr (.cells #[.slice A0 n0 c0', .slice B0 m0 d0] 52 (0, 0)) * (row 22 1 slv (.slice A0 n0 c0') ts0 * (rowsOf 33 4 chg ts0 (dn.take k) * (row 22 1 slv (.slice B0 m0 d0) us0 * (rowsOf 33 4 chg us0 (un.take (k - n)) * (blk g5 (.cells (nov nov0) 44 (0, 0)) * F)))))) wr) (fun _ jv _ => q - (intOf jv).toNat)
          case atStart => exact ⟨0, by omega, rfl, by rw [h00.out], hs⟩
          case round =>
            clear hs
            obtain ⟨j, hj, rfl, rfl, hs⟩ := hrel
            by_cases hjq : j < q
            · have hjI : (j : Int) < (q : Int) := by omega
              obtain ⟨b2, o2, x, rfl, hx, hwx⟩ := slr_get hsl (hs.mono (by ((repeat (first | (with_reducible (first | exact ent_refl | exact ent_emp)) | ((with_reducible apply ent_front); (focus with_reducible (repeat (first | exact ent_here | apply ent_next | exact ent_last)); done)) | (with_reducible (first | exact ent_keep | apply ent_trans ent_drop)))); done)) : Sat c0 F _).own hjq
              have hkx : ReadC F b2 (o2 + j * 4) (.int .i64 x.kind) := hwx.cell (i := 0) (by omega) (chg_0 x)
              have hst := okJ_step hx
              clear hwx hx
              generalize okJ l j = ob at *
              cases ob
              · rw [Bool.false_and] at hst
                replace hst := Lib.hid hst
                go_wp2_with fail
                exact ⟨⟨j + 1, by omega, congrArg (Value.int .i64) (by omega), by rw [hst.out], hs⟩, by simp only [intOf]; omega⟩
              · rw [Bool.true_and] at hst
                by_cases k1 : 1 ≤ x.kind
                · by_cases k2 : x.kind ≤ 3
                  · rw [show knB x.kind = true by unfold knB; rw [decide_eq_true k1, decide_eq_true k2]; rfl] at hst
                    replace hst := Lib.hid hst
                    go_wp2_with (first
        | ((with_reducible rewrite [pl_strike_eq]); rotate_left 1; (focus rfl))
        | ((with_reducible apply pl_load1 hs); (focus (simp only [Act.eval, za, zb, zc, zd, ze, zf]; (try with_reducible rfl); done)); (focus (simp only [go_sem])); (focus ((repeat (first | (with_reducible (first | assumption | exact hec _ | exact hec2 _ | exact hec3 _ | exact hec4 _ _)) | ((with_reducible apply readc_here); (focus (first | (simp only [zc, zd, ze, go_sem]; (try with_reducible rfl); done) | (go_simp; (try with_reducible rfl); done)))) | (with_reducible (first | (apply readc_left; assumption) | refine readc_exh (by assumption) ?_ | refine readc_exh0 (by assumption) ?_ | apply readc_next)))); done)); (focus rfl); simp only [Act.put, zg, zh, zi]))
                    exact ⟨⟨j + 1, by omega, congrArg (Value.int .i64) (by omega), by rw [hst.out], hs⟩, by simp only [intOf]; omega⟩
                  · rw [show knB x.kind = false by unfold knB; rw [decide_eq_true k1, decide_eq_false k2]; rfl] at hst
                    replace hst := Lib.hid hst
                    go_wp2_with (first
        | ((with_reducible rewrite [pl_strike_eq]); rotate_left 1; (focus rfl))
        | ((with_reducible apply pl_load1 hs); (focus (simp only [Act.eval, za, zb, zc, zd, ze, zf]; (try with_reducible rfl); done)); (focus (simp only [go_sem])); (focus ((repeat (first | (with_reducible (first | assumption | exact hec _ | exact hec2 _ | exact hec3 _ | exact hec4 _ _)) | ((with_reducible apply readc_here); (focus (first | (simp only [zc, zd, ze, go_sem]; (try with_reducible rfl); done) | (go_simp; (try with_reducible rfl); done)))) | (with_reducible (first | (apply readc_left; assumption) | refine readc_exh (by assumption) ?_ | refine readc_exh0 (by assumption) ?_ | apply readc_next)))); done)); (focus rfl); simp only [Act.put, zg, zh, zi]))
                    exact ⟨⟨j + 1, by omega, congrArg (Value.int .i64) (by omega), by rw [hst.out], hs⟩, by simp only [intOf]; omega⟩
                · rw [show knB x.kind = false by unfold knB; rw [decide_eq_false k1]; rfl] at hst
                  replace hst := Lib.hid hst
                  go_wp2_with (first
        | ((with_reducible rewrite [pl_strike_eq]); rotate_left 1; (focus rfl))
        | ((with_reducible apply pl_load1 hs); (focus (simp only [Act.eval, za, zb, zc, zd, ze, zf]; (try with_reducible rfl); done)); (focus (simp only [go_sem])); (focus ((repeat (first | (with_reducible (first | assumption | exact hec _ | exact hec2 _ | exact hec3 _ | exact hec4 _ _)) | ((with_reducible apply readc_here); (focus (first | (simp only [zc, zd, ze, go_sem]; (try with_reducible rfl); done) | (go_simp; (try with_reducible rfl); done)))) | (with_reducible (first | (apply readc_left; assumption) | refine readc_exh (by assumption) ?_ | refine readc_exh0 (by assumption) ?_ | apply readc_next)))); done)); (focus rfl); simp only [Act.put, zg, zh, zi]))
                  exact ⟨⟨j + 1, by omega, congrArg (Value.int .i64) (by omega), by rw [hst.out], hs⟩, by simp only [intOf]; omega⟩
            · obtain rfl : q = j := by omega
              have hjI : ¬ (q : Int) < (q : Int) := by omega
              have hend := okJ_end (l := l) (j := q) (by have := hln.out; omega)
              by_cases hb : badB l = true
              · have hR := loadR_bad hnm hal.out hb hpre.out
                rw [hb, Bool.not_true] at hend
                rw [hend]
                replace hR := Lib.hid hR
                go_wp2_with (first
        | ((with_reducible apply pl_call hs (sayK_s _ _ _ _ _ _ 6)); ((((focus (simp only [zj, zk, zl, List.append_toArray, List.nil_append, List.cons_append, Act.eval, za, zb, zc, zd, ze, zf]; (try with_reducible rfl); done)); (focus ((repeat (first | (with_reducible (first | exact ent_refl | apply ent_puR)) | ((with_reducible apply ent_front); (focus with_reducible (repeat (first | exact ent_here | apply ent_next | exact ent_last)); done)) | (with_reducible (first | exact ent_keep | apply ent_trans ent_drop)) | (focus (first | ((repeat' (first | (with_reducible apply And.intro) | omega)); done))))); done)); (focus (simp only [go_sem]))))); clear hs; (try clear w); intro v w hq; (obtain ⟨mn, hq1⟩ := hq.ex; obtain ⟨rfl, hs⟩ := hq1.pu; clear hq1); clear hq; (try simp only [star_assoc, star_emp, emp_star] at hs); (try simp only [Act.put, zg, zh, zi]))
        | ((with_reducible apply pl_storeN hs); (focus (simp only [Act.eval, za, zb, zc, zd, ze, zf]; (try with_reducible rfl); done)); (focus (simp only [Act.eval, za, zb, zc, zd, ze, zf]; (try with_reducible rfl); done)); (with_reducible (first | exact agg_44)); (focus with_reducible (repeat (first | exact ent_here | apply ent_next | exact ent_last)); done); (focus (first | (with_reducible rfl) | (simp only [go_sem]; done) | (simp; done))); (focus (first | (simp [go_sem]; done) | (simp only [go_sem]; omega) | go_size)); (focus (first | (simp only [go_sem]; done) | (simp [go_sem]; done))); (focus (first | ((with_reducible apply splice_whole); (focus (first | (with_reducible rfl) | (simp only [go_sem]; done) | (simp; done)))) | (simp [splice, go_sem]; done) | (simp only [go_sem]; (try with_reducible rfl); done))); clear hs; (try clear w); intro w hs; (try simp only [zg, zh, zi, idv_s0, idv_s1, idv_s2, chg_s0, chg_s1, chg_s2, chg_s3, uop_s0, uop_s1, uop_s2, prv_s0, prv_s1, lnk_s0, lnk_s1, lnk_s2, nov_s0, nov_s1, nov_s2, slv_set, intv_set] at hs); simp only [Act.put, zg, zh, zi]))
                refine ret_tmp_cell (n := 3) rfl Tryd.underlying44 rfl (by kernel_rfl) _ rfl _ ((by (focus ((repeat (first | (with_reducible (first | assumption | exact hel _ | exact hel2 _ | exact hel3 _)) | ((with_reducible apply reads_whole); (focus (first | (with_reducible rfl) | (simp only [go_sem]; done) | (simp; done)))) | ((with_reducible apply reads_part); (focus (first | (simp [go_sem]; done) | (simp only [go_sem]; omega) | go_size)); (focus (first | (simp only [Nat.reduceAdd, Nat.zero_add, go_sem]; (try with_reducible rfl); done) | (simp [go_sem]; (try with_reducible rfl); done)))) | (with_reducible (first | (apply reads_left; assumption) | refine reads_exh (by assumption) ?_ | refine reads_exh0 (by assumption) ?_ | apply reads_next)))); done)) : Reads _ _ 0 3 (nov _)) w hs.own) rfl ⟨_, rfl, hs.mono (ent_trans (by ((repeat (first | (with_reducible (first | exact ent_refl | exact ent_emp)) | ((with_reducible apply ent_front); (focus with_reducible (repeat (first | exact ent_here | apply ent_next | exact ent_last)); done)) | (with_reducible (first | exact ent_keep | apply ent_trans ent_drop)))); done)) (rlR_no hR.out rfl))⟩
              · have hbf : badB l = false := by simpa using hb
                have hst := pre_step hal.out hbf hpre.out
                rw [hbf, Bool.not_false] at hend
                rw [hend]
                replace hst := Lib.hid hst
                clear hb hbf hend
                go_wp2_with (first
        | ((with_reducible apply pl_call hs (rpush0_s _ _ _ _ _ _ ts0 l)); ((((focus (simp only [zj, zk, zl, List.append_toArray, List.nil_append, List.cons_append, Act.eval, za, zb, zc, zd, ze, zf]; (try with_reducible rfl); done)); (focus ((repeat (first | (with_reducible (first | exact ent_refl | apply ent_puR)) | ((with_reducible apply ent_front); (focus with_reducible (repeat (first | exact ent_here | apply ent_next | exact ent_last)); done)) | (with_reducible (first | exact ent_keep | apply ent_trans ent_drop)) | (focus (first | ((repeat' (first | (with_reducible assumption) | (with_reducible apply And.intro) | omega | (focus (first | ((repeat (first | (with_reducible (first | assumption |  exact hsl _ | exact hsl2 _ | exact hsl3 _ _ _ | exact slr_nil | exact slr_row (fun _ => by simp only [go_sem]) | exact slr_one (fun _ => by simp only [go_sem]) | (apply slr_left; assumption))) | (with_reducible apply slr_next))); done) | ((repeat (first | (with_reducible (first | assumption |  exact hsl _ | exact hsl2 _ | exact hsl3 _ _ _ | exact slr_nil | exact slr_row (fun _ => by simp only [go_sem]) | exact slr_one (fun _ => by simp only [go_sem]) | (apply slr_left; assumption))) | (with_reducible (first | (apply slr_exh; focus assumption) | (apply slr_exh0; focus assumption) | apply slr_next)))); done))))); done))))); done)); (focus (simp only [go_sem]))))); clear hs; (try clear w); intro v w hq; (obtain ⟨⟨X, nx, cx⟩, hs⟩ := hq.ex; dsimp only at hs; obtain ⟨P2, c2, rfl, _, _⟩ := row_slice hs.own); clear hq; (try simp only [star_assoc, star_emp, emp_star] at hs); (try simp only [Act.put, zg, zh, zi]))
        | ((with_reducible apply pl_load1 hs); (focus (simp only [Act.eval, za, zb, zc, zd, ze, zf]; (try with_reducible rfl); done)); (focus (simp only [go_sem])); (focus ((repeat (first | (with_reducible (first | assumption | exact hec _ | exact hec2 _ | exact hec3 _ | exact hec4 _ _)) | ((with_reducible apply readc_here); (focus (first | (simp only [zc, zd, ze, go_sem]; (try with_reducible rfl); done) | (go_simp; (try with_reducible rfl); done)))) | (with_reducible (first | (apply readc_left; assumption) | refine readc_exh (by assumption) ?_ | refine readc_exh0 (by assumption) ?_ | apply readc_next)))); done)); (focus rfl); simp only [Act.put, zg, zh, zi])
        | ((with_reducible apply pl_store1 hs); (focus (simp only [Act.eval, za, zb, zc, zd, ze, zf]; (try with_reducible rfl); done)); (focus (simp only [Act.eval, za, zb, zc, zd, ze, zf]; (try with_reducible rfl); done)); (focus (simp only [go_sem])); (focus with_reducible (repeat (first | exact ent_here | apply ent_next | exact ent_last)); done); (focus (first | (simp [go_sem]; done) | (simp only [go_sem]; omega) | go_size)); (focus (first | (simp only [go_sem]; done) | (simp [go_sem]; done))); clear hs; (try clear w); intro w hs; (try simp only [zg, zh, zi, idv_s0, idv_s1, idv_s2, chg_s0, chg_s1, chg_s2, chg_s3, uop_s0, uop_s1, uop_s2, prv_s0, prv_s1, lnk_s0, lnk_s1, lnk_s2, nov_s0, nov_s1, nov_s2, slv_set, intv_set] at hs); simp only [Act.put, zg, zh, zi]))
                refine ⟨⟨k + 1, by omega, congrArg (Value.int .i64) (by omega), hst, hs.mono ?_⟩, by simp only [intOf]; omega⟩
                rw [show k + 1 - n = k - n by omega, ← pushL_take hla.out (by omega)]
                refine ent_trans (B := blk g5 (.cells (nov nov0) 44 (0, 0)) * (blk gr (.cells #[.slice P2 (pushS ts0 ++ [(⟨X, nx, cx⟩ : SlD)]).length c2, .slice B0 m0 d0] 52 (0, 0)) * (row 22 1 slv (.slice P2 (pushS ts0 ++ [(⟨X, nx, cx⟩ : SlD)]).length c2) (pushS ts0 ++ [⟨X, nx, cx⟩]) * (rowsOf 33 4 chg ts0 (dn.take k) * (row 33 4 chg (.slice X nx cx) l * (row 22 1 slv (.slice B0 m0 d0) us0 * (rowsOf 33 4 chg us0 (un.take (k - n)) * F))))))) (by ((repeat (first | (with_reducible (first | exact ent_refl | exact ent_emp)) | ((with_reducible apply ent_front); (focus with_reducible (repeat (first | exact ent_here | apply ent_next | exact ent_last)); done)) | (with_reducible (first | exact ent_keep | apply ent_trans ent_drop)))); done)) ?_
                refine star_mono ent_refl ?_
                refine ent_trans ?_ (rstk_shut (A := P2) (n := (pushS ts0 ++ [(⟨X, nx, cx⟩ : SlD)]).length) (c := c2) (ts := pushS ts0 ++ [⟨X, nx, cx⟩]) (B := B0) (m := m0) (d := d0) (us := us0))
                unfold rstkO
                exact star_mono ent_refl (star_mono ent_refl (rows_push (t := ⟨X, nx, cx⟩) ht0.out))
        · have hkc : ¬ (k : Int) < (n : Int) := by omega
          obtain ⟨b, o, t, rfl, hta, hwa⟩ := slr_get h4 (hs.mono (by ((repeat (first | (with_reducible (first | exact ent_refl | exact ent_emp)) | ((with_reducible apply ent_front); (focus with_reducible (repeat (first | exact ent_here | apply ent_next | exact ent_last)); done)) | (with_reducible (first | exact ent_keep | apply ent_trans ent_drop)))); done)) : Sat c0 F _).own (show k - n < m by omega)
          have hkl : (k - n) < un.length := by have := h5.out; have := hm.out; omega
          have hla := List.getElem?_eq_getElem hkl
          generalize un[(k - n)] = l at hla
          have hsl := h6.out.at_ (k - n) t l hta hla
          have hlb := hu.out l (List.mem_of_getElem? hla)
          have hal : (dn ++ un)[k]? = some l := by rw [List.getElem?_append_right (by have := h2.out; omega), show k - dn.length = k - n by have := h2.out; omega]; exact hla
          have hw0 : ReadC F b (o + (k - n) * 1) (.slice t.p t.n t.c) := hwa.cell (i := 0) (by omega) (slv_0 _)
          rw [Nat.mul_one] at hw0
          obtain ⟨hln, _⟩ := slr_len hsl (hs.mono (by ((repeat (first | (with_reducible (first | exact ent_refl | exact ent_emp)) | ((with_reducible apply ent_front); (focus with_reducible (repeat (first | exact ent_here | apply ent_next | exact ent_last)); done)) | (with_reducible (first | exact ent_keep | apply ent_trans ent_drop)))); done)) : Sat c0 F _).own
          clear hwa hta hkl
          obtain ⟨p, q, c⟩ := t
          dsimp only at hsl hw0 hln
          have hqm : q ≤ 4398046510976 := by omega
          have h00 : okJ l 0 = decide (0 < q) := by rw [okJ_0, ← hln]
          replace h00 := Lib.hid h00
          replace hal := Lib.hid hal
          replace hla := Lib.hid hla
          replace hln := Lib.hid hln
          go_wp2_with (first
        | ((with_reducible apply pl_load1 hs); (focus (simp only [Act.eval, za, zb, zc, zd, ze, zf]; (try with_reducible rfl); done)); (focus (simp only [go_sem])); (focus ((repeat (first | (with_reducible (first | assumption | exact hec _ | exact hec2 _ | exact hec3 _ | exact hec4 _ _)) | ((with_reducible apply readc_here); (focus (first | (simp only [zc, zd, ze, go_sem]; (try with_reducible rfl); done) | (go_simp; (try with_reducible rfl); done)))) | (with_reducible (first | (apply readc_left; assumption) | refine readc_exh (by assumption) ?_ | refine readc_exh0 (by assumption) ?_ | apply readc_next)))); done)); (focus rfl); simp only [Act.put, zg, zh, zi]))
          go_loopw [9, 10] (fun okv jv wr => ∃ j : Nat, j ≤ q ∧ jv = .int .i64 j ∧ okv = .bool (okJ l j) ∧ Sat c0 (blk gr (.cells #[.slice A0 n0 c0', .slice B0 m0 d0] 52 (0, 0)) * (row 22 1 slv (.slice A0 n0 c0') ts0 * (rowsOf 33 4 chg ts0 (dn.take k) * (row 22 1 slv (.slice B0 m0 d0) us0 * (rowsOf 33 4 chg us0 (un.take (k - n)) * (blk g5 (.cells (nov nov0) 44 (0, 0)) * F)))))) wr) (fun _ jv _ => q - (intOf jv).toNat)
          case atStart => exact ⟨0, by omega, rfl, by rw [h00.out], hs⟩
          case round =>
            clear hs
            obtain ⟨j, hj, rfl, rfl, hs⟩ := hrel
            by_cases hjq : j < q
            · have hjI : (j : Int) < (q : Int) := by omega
              obtain ⟨b2, o2, x, rfl, hx, hwx⟩ := slr_get hsl (hs.mono (by ((repeat (first | (with_reducible (first | exact ent_refl | exact ent_emp)) | ((with_reducible apply ent_front); (focus with_reducible (repeat (first | exact ent_here | apply ent_next | exact ent_last)); done)) | (with_reducible (first | exact ent_keep | apply ent_trans ent_drop)))); done)) : Sat c0 F _).own hjq
              have hkx : ReadC F b2 (o2 + j * 4) (.int .i64 x.kind) := hwx.cell (i := 0) (by omega) (chg_0 x)
              have hst := okJ_step hx
              clear hwx hx
              generalize okJ l j = ob at *
              cases ob
              · rw [Bool.false_and] at hst
                replace hst := Lib.hid hst
                go_wp2_with fail
                exact ⟨⟨j + 1, by omega, congrArg (Value.int .i64) (by omega), by rw [hst.out], hs⟩, by simp only [intOf]; omega⟩
              · rw [Bool.true_and] at hst
                by_cases k1 : 1 ≤ x.kind
                · by_cases k2 : x.kind ≤ 3
                  · rw [show knB x.kind = true by unfold knB; rw [decide_eq_true k1, decide_eq_true k2]; rfl] at hst
                    replace hst := Lib.hid hst
                    go_wp2_with (first
        | ((with_reducible rewrite [pl_strike_eq]); rotate_left 1; (focus rfl))
        | ((with_reducible apply pl_load1 hs); (focus (simp only [Act.eval, za, zb, zc, zd, ze, zf]; (try with_reducible rfl); done)); (focus (simp only [go_sem])); (focus ((repeat (first | (with_reducible (first | assumption | exact hec _ | exact hec2 _ | exact hec3 _ | exact hec4 _ _)) | ((with_reducible apply readc_here); (focus (first | (simp only [zc, zd, ze, go_sem]; (try with_reducible rfl); done) | (go_simp; (try with_reducible rfl); done)))) | (with_reducible (first | (apply readc_left; assumption) | refine readc_exh (by assumption) ?_ | refine readc_exh0 (by assumption) ?_ | apply readc_next)))); done)); (focus rfl); simp only [Act.put, zg, zh, zi]))
                    exact ⟨⟨j + 1, by omega, congrArg (Value.int .i64) (by omega), by rw [hst.out], hs⟩, by simp only [intOf]; omega⟩
                  · rw [show knB x.kind = false by unfold knB; rw [decide_eq_true k1, decide_eq_false k2]; rfl] at hst
                    replace hst := Lib.hid hst
                    go_wp2_with (first
        | ((with_reducible rewrite [pl_strike_eq]); rotate_left 1; (focus rfl))
        | ((with_reducible apply pl_load1 hs); (focus (simp only [Act.eval, za, zb, zc, zd, ze, zf]; (try with_reducible rfl); done)); (focus (simp only [go_sem])); (focus ((repeat (first | (with_reducible (first | assumption | exact hec _ | exact hec2 _ | exact hec3 _ | exact hec4 _ _)) | ((with_reducible apply readc_here); (focus (first | (simp only [zc, zd, ze, go_sem]; (try with_reducible rfl); done) | (go_simp; (try with_reducible rfl); done)))) | (with_reducible (first | (apply readc_left; assumption) | refine readc_exh (by assumption) ?_ | refine readc_exh0 (by assumption) ?_ | apply readc_next)))); done)); (focus rfl); simp only [Act.put, zg, zh, zi]))
                    exact ⟨⟨j + 1, by omega, congrArg (Value.int .i64) (by omega), by rw [hst.out], hs⟩, by simp only [intOf]; omega⟩
                · rw [show knB x.kind = false by unfold knB; rw [decide_eq_false k1]; rfl] at hst
                  replace hst := Lib.hid hst
                  go_wp2_with (first
        | ((with_reducible rewrite [pl_strike_eq]); rotate_left 1; (focus rfl))
        | ((with_reducible apply pl_load1 hs); (focus (simp only [Act.eval, za, zb, zc, zd, ze, zf]; (try with_reducible rfl); done)); (focus (simp only [go_sem])); (focus ((repeat (first | (with_reducible (first | assumption | exact hec _ | exact hec2 _ | exact hec3 _ | exact hec4 _ _)) | ((with_reducible apply readc_here); (focus (first | (simp only [zc, zd, ze, go_sem]; (try with_reducible rfl); done) | (go_simp; (try with_reducible rfl); done)))) | (with_reducible (first | (apply readc_left; assumption) | refine readc_exh (by assumption) ?_ | refine readc_exh0 (by assumption) ?_ | apply readc_next)))); done)); (focus rfl); simp only [Act.put, zg, zh, zi]))
                  exact ⟨⟨j + 1, by omega, congrArg (Value.int .i64) (by omega), by rw [hst.out], hs⟩, by simp only [intOf]; omega⟩
            · obtain rfl : q = j := by omega
              have hjI : ¬ (q : Int) < (q : Int) := by omega
              have hend := okJ_end (l := l) (j := q) (by have := hln.out; omega)
              by_cases hb : badB l = true
              · have hR := loadR_bad hnm hal.out hb hpre.out
                rw [hb, Bool.not_true] at hend
                rw [hend]
                replace hR := Lib.hid hR
                go_wp2_with (first
        | ((with_reducible apply pl_call hs (sayK_s _ _ _ _ _ _ 6)); ((((focus (simp only [zj, zk, zl, List.append_toArray, List.nil_append, List.cons_append, Act.eval, za, zb, zc, zd, ze, zf]; (try with_reducible rfl); done)); (focus ((repeat (first | (with_reducible (first | exact ent_refl | apply ent_puR)) | ((with_reducible apply ent_front); (focus with_reducible (repeat (first | exact ent_here | apply ent_next | exact ent_last)); done)) | (with_reducible (first | exact ent_keep | apply ent_trans ent_drop)) | (focus (first | ((repeat' (first | (with_reducible apply And.intro) | omega)); done))))); done)); (focus (simp only [go_sem]))))); clear hs; (try clear w); intro v w hq; (obtain ⟨mn, hq1⟩ := hq.ex; obtain ⟨rfl, hs⟩ := hq1.pu; clear hq1); clear hq; (try simp only [star_assoc, star_emp, emp_star] at hs); (try simp only [Act.put, zg, zh, zi]))
        | ((with_reducible apply pl_storeN hs); (focus (simp only [Act.eval, za, zb, zc, zd, ze, zf]; (try with_reducible rfl); done)); (focus (simp only [Act.eval, za, zb, zc, zd, ze, zf]; (try with_reducible rfl); done)); (with_reducible (first | exact agg_44)); (focus with_reducible (repeat (first | exact ent_here | apply ent_next | exact ent_last)); done); (focus (first | (with_reducible rfl) | (simp only [go_sem]; done) | (simp; done))); (focus (first | (simp [go_sem]; done) | (simp only [go_sem]; omega) | go_size)); (focus (first | (simp only [go_sem]; done) | (simp [go_sem]; done))); (focus (first | ((with_reducible apply splice_whole); (focus (first | (with_reducible rfl) | (simp only [go_sem]; done) | (simp; done)))) | (simp [splice, go_sem]; done) | (simp only [go_sem]; (try with_reducible rfl); done))); clear hs; (try clear w); intro w hs; (try simp only [zg, zh, zi, idv_s0, idv_s1, idv_s2, chg_s0, chg_s1, chg_s2, chg_s3, uop_s0, uop_s1, uop_s2, prv_s0, prv_s1, lnk_s0, lnk_s1, lnk_s2, nov_s0, nov_s1, nov_s2, slv_set, intv_set] at hs); simp only [Act.put, zg, zh, zi]))
                refine ret_tmp_cell (n := 3) rfl Tryd.underlying44 rfl (by kernel_rfl) _ rfl _ ((by (focus ((repeat (first | (with_reducible (first | assumption | exact hel _ | exact hel2 _ | exact hel3 _)) | ((with_reducible apply reads_whole); (focus (first | (with_reducible rfl) | (simp only [go_sem]; done) | (simp; done)))) | ((with_reducible apply reads_part); (focus (first | (simp [go_sem]; done) | (simp only [go_sem]; omega) | go_size)); (focus (first | (simp only [Nat.reduceAdd, Nat.zero_add, go_sem]; (try with_reducible rfl); done) | (simp [go_sem]; (try with_reducible rfl); done)))) | (with_reducible (first | (apply reads_left; assumption) | refine reads_exh (by assumption) ?_ | refine reads_exh0 (by assumption) ?_ | apply reads_next)))); done)) : Reads _ _ 0 3 (nov _)) w hs.own) rfl ⟨_, rfl, hs.mono (ent_trans (by ((repeat (first | (with_reducible (first | exact ent_refl | exact ent_emp)) | ((with_reducible apply ent_front); (focus with_reducible (repeat (first | exact ent_here | apply ent_next | exact ent_last)); done)) | (with_reducible (first | exact ent_keep | apply ent_trans ent_drop)))); done)) (rlR_no hR.out rfl))⟩
              · have hbf : badB l = false := by simpa using hb
                have hst := pre_step hal.out hbf hpre.out
                rw [hbf, Bool.not_false] at hend
                rw [hend]
                replace hst := Lib.hid hst
                clear hb hbf hend
                go_wp2_with (first
        | ((with_reducible apply pl_call hs (rpush0_s _ _ _ _ _ _ us0 l)); ((((focus (simp only [zj, zk, zl, List.append_toArray, List.nil_append, List.cons_append, Act.eval, za, zb, zc, zd, ze, zf]; (try with_reducible rfl); done)); (focus ((repeat (first | (with_reducible (first | exact ent_refl | apply ent_puR)) | ((with_reducible apply ent_front); (focus with_reducible (repeat (first | exact ent_here | apply ent_next | exact ent_last)); done)) | (with_reducible (first | exact ent_keep | apply ent_trans ent_drop)) | (focus (first | ((repeat' (first | (with_reducible assumption) | (with_reducible apply And.intro) | omega | (focus (first | ((repeat (first | (with_reducible (first | assumption |  exact hsl _ | exact hsl2 _ | exact hsl3 _ _ _ | exact slr_nil | exact slr_row (fun _ => by simp only [go_sem]) | exact slr_one (fun _ => by simp only [go_sem]) | (apply slr_left; assumption))) | (with_reducible apply slr_next))); done) | ((repeat (first | (with_reducible (first | assumption |  exact hsl _ | exact hsl2 _ | exact hsl3 _ _ _ | exact slr_nil | exact slr_row (fun _ => by simp only [go_sem]) | exact slr_one (fun _ => by simp only [go_sem]) | (apply slr_left; assumption))) | (with_reducible (first | (apply slr_exh; focus assumption) | (apply slr_exh0; focus assumption) | apply slr_next)))); done))))); done))))); done)); (focus (simp only [go_sem]))))); clear hs; (try clear w); intro v w hq; (obtain ⟨⟨X, nx, cx⟩, hs⟩ := hq.ex; dsimp only at hs; obtain ⟨P2, c2, rfl, _, _⟩ := row_slice hs.own); clear hq; (try simp only [star_assoc, star_emp, emp_star] at hs); (try simp only [Act.put, zg, zh, zi]))
        | ((with_reducible apply pl_load1 hs); (focus (simp only [Act.eval, za, zb, zc, zd, ze, zf]; (try with_reducible rfl); done)); (focus (simp only [go_sem])); (focus ((repeat (first | (with_reducible (first | assumption | exact hec _ | exact hec2 _ | exact hec3 _ | exact hec4 _ _)) | ((with_reducible apply readc_here); (focus (first | (simp only [zc, zd, ze, go_sem]; (try with_reducible rfl); done) | (go_simp; (try with_reducible rfl); done)))) | (with_reducible (first | (apply readc_left; assumption) | refine readc_exh (by assumption) ?_ | refine readc_exh0 (by assumption) ?_ | apply readc_next)))); done)); (focus rfl); simp only [Act.put, zg, zh, zi])
        | ((with_reducible apply pl_store1 hs); (focus (simp only [Act.eval, za, zb, zc, zd, ze, zf]; (try with_reducible rfl); done)); (focus (simp only [Act.eval, za, zb, zc, zd, ze, zf]; (try with_reducible rfl); done)); (focus (simp only [go_sem])); (focus with_reducible (repeat (first | exact ent_here | apply ent_next | exact ent_last)); done); (focus (first | (simp [go_sem]; done) | (simp only [go_sem]; omega) | go_size)); (focus (first | (simp only [go_sem]; done) | (simp [go_sem]; done))); clear hs; (try clear w); intro w hs; (try simp only [zg, zh, zi, idv_s0, idv_s1, idv_s2, chg_s0, chg_s1, chg_s2, chg_s3, uop_s0, uop_s1, uop_s2, prv_s0, prv_s1, lnk_s0, lnk_s1, lnk_s2, nov_s0, nov_s1, nov_s2, slv_set, intv_set] at hs); simp only [Act.put, zg, zh, zi]))
                refine ⟨⟨k + 1, by omega, congrArg (Value.int .i64) (by omega), hst, hs.mono ?_⟩, by simp only [intOf]; omega⟩
                rw [List.take_of_length_le (show dn.length ≤ k + 1 by have := h2.out; omega), show k + 1 - n = (k - n) + 1 by omega, ← pushL_take hla.out (by omega)]
                rw [List.take_of_length_le (show dn.length ≤ k by have := h2.out; omega)]
                refine ent_trans (B := blk g5 (.cells (nov nov0) 44 (0, 0)) * (blk gr (.cells #[.slice A0 n0 c0', .slice P2 (pushS us0 ++ [(⟨X, nx, cx⟩ : SlD)]).length c2] 52 (0, 0)) * (row 22 1 slv (.slice A0 n0 c0') ts0 * (rowsOf 33 4 chg ts0 dn * (row 22 1 slv (.slice P2 (pushS us0 ++ [(⟨X, nx, cx⟩ : SlD)]).length c2) (pushS us0 ++ [⟨X, nx, cx⟩]) * (rowsOf 33 4 chg us0 (un.take (k - n)) * (row 33 4 chg (.slice X nx cx) l * F))))))) (by ((repeat (first | (with_reducible (first | exact ent_refl | exact ent_emp)) | ((with_reducible apply ent_front); (focus with_reducible (repeat (first | exact ent_here | apply ent_next | exact ent_last)); done)) | (with_reducible (first | exact ent_keep | apply ent_trans ent_drop)))); done)) ?_
                refine star_mono ent_refl ?_
                refine ent_trans ?_ (rstk_shut (A := A0) (n := n0) (c := c0') (ts := ts0) (B := P2) (m := (pushS us0 ++ [(⟨X, nx, cx⟩ : SlD)]).length) (d := c2) (us := pushS us0 ++ [⟨X, nx, cx⟩]))
                unfold rstkO
                exact star_mono ent_refl (star_mono ent_refl (star_mono ent_refl (star_mono ent_refl (rows_push (t := ⟨X, nx, cx⟩) hu0.out))))
      · have hkI : ¬ (k : Int) < (n : Int) + (m : Int) := by omega
        have hR := loadR_ok hnm fun j x hx => hpre.out j x (by have h7 := (List.getElem?_eq_some_iff.1 hx).1; rw [List.length_append] at h7; have := h2.out; have := h5.out; omega) hx
        rw [List.take_of_length_le (by have := h2.out; omega), List.take_of_length_le (by have := h5.out; omega)] at hs
        replace hR := Lib.hid hR
        go_wp2_with (first
        | ((with_reducible apply pl_build hs); (focus (simp only [zj, zk, zl, Act.eval, za, zb, zc, zd, ze, zf]; (try with_reducible rfl); done)); (first | (with_reducible exact bld_3) | (with_reducible exact bld_6)); (focus rfl); simp only [Act.put, zg, zh, zi])
        | ((with_reducible apply pl_storeN hs); (focus (simp only [Act.eval, za, zb, zc, zd, ze, zf]; (try with_reducible rfl); done)); (focus (simp only [Act.eval, za, zb, zc, zd, ze, zf]; (try with_reducible rfl); done)); (with_reducible (first | exact agg_44)); (focus with_reducible (repeat (first | exact ent_here | apply ent_next | exact ent_last)); done); (focus (first | (with_reducible rfl) | (simp only [go_sem]; done) | (simp; done))); (focus (first | (simp [go_sem]; done) | (simp only [go_sem]; omega) | go_size)); (focus (first | (simp only [go_sem]; done) | (simp [go_sem]; done))); (focus (first | ((with_reducible apply splice_whole); (focus (first | (with_reducible rfl) | (simp only [go_sem]; done) | (simp; done)))) | (simp [splice, go_sem]; done) | (simp only [go_sem]; (try with_reducible rfl); done))); clear hs; (try clear w); intro w hs; (try simp only [zg, zh, zi, idv_s0, idv_s1, idv_s2, chg_s0, chg_s1, chg_s2, chg_s3, uop_s0, uop_s1, uop_s2, prv_s0, prv_s1, lnk_s0, lnk_s1, lnk_s2, nov_s0, nov_s1, nov_s2, slv_set, intv_set] at hs); simp only [Act.put, zg, zh, zi]))
        refine ret_tmp_cell (n := 3) rfl Tryd.underlying44 rfl (by kernel_rfl) _ rfl _ ((by (focus ((repeat (first | (with_reducible (first | assumption | exact hel _ | exact hel2 _ | exact hel3 _)) | ((with_reducible apply reads_whole); (focus (first | (with_reducible rfl) | (simp only [go_sem]; done) | (simp; done)))) | ((with_reducible apply reads_part); (focus (first | (simp [go_sem]; done) | (simp only [go_sem]; omega) | go_size)); (focus (first | (simp only [Nat.reduceAdd, Nat.zero_add, go_sem]; (try with_reducible rfl); done) | (simp [go_sem]; (try with_reducible rfl); done)))) | (with_reducible (first | (apply reads_left; assumption) | refine reads_exh (by assumption) ?_ | refine reads_exh0 (by assumption) ?_ | apply reads_next)))); done)) : Reads _ _ 0 3 (nov _)) w hs.own) rfl ⟨_, rfl, hs.mono (ent_trans (by ((repeat (first | (with_reducible (first | exact ent_refl | exact ent_emp)) | ((with_reducible apply ent_front); (focus with_reducible (repeat (first | exact ent_here | apply ent_next | exact ent_last)); done)) | (with_reducible (first | exact ent_keep | apply ent_trans ent_drop)))); done)) (rlR_ok hR.out rfl))⟩
end Go.Proofs.YtflibhphpnajeaaDoor
