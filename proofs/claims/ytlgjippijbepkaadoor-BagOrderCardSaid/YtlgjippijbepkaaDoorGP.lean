/- The program's To and All; rows of parcels spoilt; what is got. -/
import Derived.Test.YtlgjippijbepkaaDoorGO
set_option linter.unusedSimpArgs false
set_option linter.unusedVariables false
namespace Go.Proofs.YtlgjippijbepkaaDoor
open Go Go.RowKit

set_option maxRecDepth 20000 in
set_option maxHeartbeats 2000000 in
theorem to_s (c0 : World) (F : HP) (g : Nat) (m s t : Int) (ts : List PclD) (x y z d : Int) : Spec Tryd.prog c0 51 #[.pointer (some ⟨g, 0, none⟩), .int .i64 t] (pu (ts.length ≤ 1000000) (bagP g m s ts x y z d * F))
    (fun r => row 3 1 intv r (toI t 0 (dsts ts)) * (bagP g m s ts x y z d * F)) := by
  intro w hq; obtain ⟨hl, hs⟩ := hq.pu; clear hq
  obtain ⟨A, c, c', q1, q2, h1, h2, hs⟩ := bag_open hs
  unfold maxLen at h2
  go_enter Tryd.func51, Tryd.ntmps51
  go_wp2_with (first
        | ((with_reducible apply pl_load1 hs); (focus (simp only [Act.eval, za, zb, zc, zd, ze, zf]; (try with_reducible rfl); done)); (focus (simp only [go_sem])); (focus ((repeat (first | (with_reducible (first | assumption | exact hec _ | exact hec2 _ | exact hec3 _ | exact hec4 _ _)) | ((with_reducible apply readc_here); (focus (first | (simp only [zc, zd, ze, go_sem]; (try with_reducible rfl); done) | (go_simp; (try with_reducible rfl); done)))) | (with_reducible (first | (apply readc_left; assumption) | refine readc_exh (by assumption) ?_ | refine readc_exh0 (by assumption) ?_ | apply readc_next)))); done)); (focus rfl); simp only [Act.put, zg, zh, zi]))
  go_loopw [5, 13] (fun v i wr => ∃ (k : Nat) (e : List Int) (B : Option Addr) (cB : Nat), k ≤ ts.length ∧ i = .int .i64 k ∧ v = .slice B e.length cB ∧ Hid (e = toI t 0 (dsts (ts.take k))) ∧ e.length ≤ 1000000 ∧ Sat c0 (row 3 1 intv (.slice B e.length cB) e * (bagB g ⟨m, s, A, ts.length, c, x, y, z, d⟩ * (row 37 4 pcl (.slice A ts.length c') ts * F))) wr) (fun _ i _ => ts.length - (intOf i).toNat)
  case atStart => exact ⟨0, [], none, 0, by omega, rfl, rfl, rfl, by simp, hs.mono ent_row_nil⟩
  case round =>
    clear hs
    obtain ⟨k, e, B, cB, hk, rfl, rfl, he, hel0, hs⟩ := hrel
    by_cases hlt : k < ts.length
    · obtain ⟨ga, p, rfl, hla, hel⟩ := row_at (E := 37) (A := A) (n := ts.length) (cap := c') (i := k) (l := ts) (hs.own.mono (by (focus with_reducible (repeat (first | exact ent_here | apply ent_next | exact ent_last)); done))) pcl_size hlt
      have hle := toI_le (t := t) (k := k + 1) hl
      have hyes := toI_yes (t := t) hla
      have hno := toI_no (t := t) hla
      rw [← he.out] at hyes hno
      replace hle := Lib.hid hle
      replace hyes := Lib.hid hyes
      replace hno := Lib.hid hno
      clear hla
      go_wp2_with (first
        | ((with_reducible apply pl_loadN hs); (focus (simp only [Act.eval, za, zb, zc, zd, ze, zf]; (try with_reducible rfl); done)); (with_reducible (first | exact agg_37)); (focus ((repeat (first | (with_reducible (first | assumption | exact hel _ | exact hel2 _ | exact hel3 _)) | ((with_reducible apply reads_whole); (focus (first | (with_reducible rfl) | (simp only [go_sem]; done) | (simp; done)))) | ((with_reducible apply reads_part); (focus (first | (simp [go_sem]; done) | (simp only [go_sem]; omega) | go_size)); (focus (first | (simp only [Nat.reduceAdd, Nat.zero_add, go_sem]; (try with_reducible rfl); done) | (simp [go_sem]; (try with_reducible rfl); done)))) | (with_reducible (first | (apply reads_left; assumption) | refine reads_exh (by assumption) ?_ | refine reads_exh0 (by assumption) ?_ | apply reads_next)))); done)); (focus rfl); simp only [Act.put, zg, zh, zi])
        | ((with_reducible apply pl_load1 hs); (focus (simp only [Act.eval, za, zb, zc, zd, ze, zf]; (try with_reducible rfl); done)); (focus (simp only [go_sem])); (focus ((repeat (first | (with_reducible (first | assumption | exact hec _ | exact hec2 _ | exact hec3 _ | exact hec4 _ _)) | ((with_reducible apply readc_here); (focus (first | (simp only [zc, zd, ze, go_sem]; (try with_reducible rfl); done) | (go_simp; (try with_reducible rfl); done)))) | (with_reducible (first | (apply readc_left; assumption) | refine readc_exh (by assumption) ?_ | refine readc_exh0 (by assumption) ?_ | apply readc_next)))); done)); (focus rfl); simp only [Act.put, zg, zh, zi])
        | ((with_reducible apply pl_alloc hs); (with_reducible (first | exact zero_37)); clear hs; (try clear w); intro g w hs; skip; simp only [Act.put, zg, zh, zi])
        | ((with_reducible apply pl_bs1 hs); (with_reducible (first | exact bst_30)); (focus (simp only [Act.eval, za, zb, zc, zd, ze, zf]; (try with_reducible rfl); done)); (focus (first | (with_reducible (first | exact cells_intv _ | exact cells_bytv _ | exact cells_agg _ | exact cells_int _ _ | exact cells_bool _ | exact cells_string _ | exact cells_slice _ _ _ | exact cells_pointer _ | exact cells_map _ | exact cells_iface _ _ | exact cells_nilIface | exact cells_func _ _ _)) | (exact cells_one (by assumption)))); (focus (first | (with_reducible rfl) | (simp only [go_sem]; done) | (simp; done))); clear hs; (try clear w); intro g w hs; skip; simp only [Act.put, zg, zh, zi])
        | ((with_reducible apply pl_storeN hs); (focus (simp only [Act.eval, za, zb, zc, zd, ze, zf]; (try with_reducible rfl); done)); (focus (simp only [Act.eval, za, zb, zc, zd, ze, zf]; (try with_reducible rfl); done)); (with_reducible (first | exact agg_37)); (focus with_reducible (repeat (first | exact ent_here | apply ent_next | exact ent_last)); done); (focus (first | (with_reducible rfl) | (simp only [go_sem]; done) | (simp; done))); (focus (first | (simp [go_sem]; done) | (simp only [go_sem]; omega) | go_size)); (focus (first | (simp only [go_sem]; done) | (simp [go_sem]; done))); (focus (first | ((with_reducible apply splice_whole); (focus (first | (with_reducible rfl) | (simp only [go_sem]; done) | (simp; done)))) | (simp [splice, go_sem]; done) | (simp only [go_sem]; (try with_reducible rfl); done))); clear hs; (try clear w); intro w hs; (try simp only [zg, zh, zi, pcl_s0, pcl_s1, pcl_s2, pcl_s3, opg_s0, opg_s1, opg_s2, opg_s3, bgv_s0, bgv_s1, bgv_s2, bgv_s3, bgv_s4, bgv_s5, bgv_s6, rbg_s0, rbg_s1, rbg_s2, rbg_s3, rbg_s4, rbg_s5, rbg_s6, prv_s0, prv_s1, lnk_s0, lnk_s1, lnk_s2, nov_s0, nov_s1, nov_s2, intv_set, bytv_set] at hs); simp only [Act.put, zg, zh, zi])
        | ((with_reducible apply pl_append1 hs); (with_reducible (first | exact app_22 | exact app_29 | exact app_30 | exact app_31 | exact app_49)); (focus (simp only [Act.eval, za, zb, zc, zd, ze, zf]; (try with_reducible rfl); done)); (first | (focus with_reducible (repeat (first | exact ent_here | apply ent_next | exact ent_last)); done) | (focus (with_reducible exact ent_row_nil)) | (focus ((with_reducible apply ent_row_of_blk); (focus with_reducible (repeat (first | exact ent_here | apply ent_next | exact ent_last)); done); (focus (simp only [go_sem]))))); (focus (simp only [Act.eval, za, zb, zc, zd, ze, zf]; (try with_reducible rfl); done)); (focus ((repeat (first | (with_reducible (first | assumption | exact hel _ | exact hel2 _ | exact hel3 _)) | ((with_reducible apply reads_whole); (focus (first | (with_reducible rfl) | (simp only [go_sem]; done) | (simp; done)))) | ((with_reducible apply reads_part); (focus (first | (simp [go_sem]; done) | (simp only [go_sem]; omega) | go_size)); (focus (first | (simp only [Nat.reduceAdd, Nat.zero_add, go_sem]; (try with_reducible rfl); done) | (simp [go_sem]; (try with_reducible rfl); done)))) | (with_reducible (first | (apply reads_left; assumption) | refine reads_exh (by assumption) ?_ | refine reads_exh0 (by assumption) ?_ | apply reads_next)))); done)); (focus (first | (simp only [maxLen] at *; omega) | (simp [maxLen] at *; omega))); (focus (first | (simp only [maxLen] at *; omega) | (simp [maxLen] at *; omega))); clear hs; (try clear w); intro Ap cq w hs; skip; simp only [Act.put, zg, zh, zi]))
      · (try simp only [bne_eq_false_iff_eq, bne_iff_ne, ne_eq, beq_iff_eq, beq_eq_false_iff_ne, decide_eq_true_eq, decide_eq_false_iff_not, Bool.not_eq_true', Bool.not_eq_false', Bool.not_eq_eq_eq_not, Bool.not_true, Bool.not_false, Bool.not_not, Bool.and_eq_true, Bool.or_eq_true, Bool.and_eq_false_imp, Bool.or_eq_false_iff] at *)
        have hd : p.dst = t := by assumption
        have hnx := hyes.out hd
        refine ⟨⟨k + 1, e ++ [(k : Int)], Ap, cq, by omega, by simp, by simp, Lib.hid hnx.symm, by rw [← hnx]; exact hle.out, hs.mono ?_⟩, by simp [intOf]; omega⟩
        rw [List.length_append, List.length_singleton]
        ((repeat (first | (with_reducible (first | exact ent_refl | exact ent_emp)) | ((with_reducible apply ent_front); (focus with_reducible (repeat (first | exact ent_here | apply ent_next | exact ent_last)); done)) | (with_reducible (first | exact ent_keep | apply ent_trans ent_drop)))); done)
      · (try simp only [bne_eq_false_iff_eq, bne_iff_ne, ne_eq, beq_iff_eq, beq_eq_false_iff_ne, decide_eq_true_eq, decide_eq_false_iff_not, Bool.not_eq_true', Bool.not_eq_false', Bool.not_eq_eq_eq_not, Bool.not_true, Bool.not_false, Bool.not_not, Bool.and_eq_true, Bool.or_eq_true, Bool.and_eq_false_imp, Bool.or_eq_false_iff] at *)
        have hd : ¬ p.dst = t := by assumption
        have hnx := hno.out hd
        exact ⟨⟨k + 1, e, B, cB, by omega, by simp, by simp, Lib.hid hnx.symm, hel0, hs.mono (by ((repeat (first | (with_reducible (first | exact ent_refl | exact ent_emp)) | ((with_reducible apply ent_front); (focus with_reducible (repeat (first | exact ent_here | apply ent_next | exact ent_last)); done)) | (with_reducible (first | exact ent_keep | apply ent_trans ent_drop)))); done))⟩, by simp [intOf]; omega⟩
    · go_wp2_with fail
      have hk2 : k = ts.length := by omega
      have he2 := he.out
      rw [hk2, List.take_length] at he2
      rw [← he2]
      (go_ret; simp only [za, zb, zc, zd, ze, zf])
      exact ⟨_, rfl, hs.mono (star_mono ent_refl (bag_shut ⟨q1, q2⟩ rfl))⟩
/-- The bytes of some parcels, of one's own. -/
def raws (ts : List PclD) : List SlD := ts.map fun p => ⟨p.rawp, p.rawn, p.rawc⟩
def parL (L : List Par) : List (List Int) := L.map fun q => q.l
theorem raws_len (ts : List PclD) : (raws ts).length = ts.length := by unfold raws; simp
theorem parL_len (L : List Par) : (parL L).length = L.length := by unfold parL; simp
abbrev rowsB (ts : List PclD) (L : List Par) : HP := rowsOf 5 1 bytv (raws ts) (parL L)
theorem raws_get {ts : List PclD} {i : Nat} {p : PclD} (h : ts[i]? = some p) : (raws ts)[i]? = some ⟨p.rawp, p.rawn, p.rawc⟩ := by unfold raws; rw [List.getElem?_map, h]; rfl
theorem parL_get {L : List Par} {i : Nat} {q : Par} (h : L[i]? = some q) : (parL L)[i]? = some q.l := by unfold parL; rw [List.getElem?_map, h]; rfl
/-- Parcels that are meant so, wherever their bytes lie. -/
structure PS (ts : List PclD) (L : List Par) : Prop where
  len : ts.length = L.length
  ea : ∀ (i : Nat) (p : PclD) (q : Par), ts[i]? = some p → L[i]? = some q → p.serial = q.s ∧ p.src = q.f ∧ p.dst = q.t ∧ q.l.length ≤ 140737488351232
theorem PS.prs {ts : List PclD} {L : List Par} (h : PS ts L) {F : HP} : PRs (rowsB ts L * F) ts L := ⟨h.len, fun i p q h1 h2 => by
  obtain ⟨e1, e2, e3, e4⟩ := h.ea i p q h1 h2
  exact ⟨e1, e2, e3, slr_rowsOf bytv_size (raws_get h1) (parL_get h2), e4⟩⟩
theorem PS.snoc {ts : List PclD} {L : List Par} (h : PS ts L) {p : PclD} {q : Par} (hp : p.serial = q.s ∧ p.src = q.f ∧ p.dst = q.t ∧ q.l.length ≤ 140737488351232) : PS (ts ++ [p]) (L ++ [q]) := by
  refine ⟨by simp [h.len], fun i p' q' h1 h2 => ?_⟩
  by_cases hi : i < ts.length
  · rw [List.getElem?_append_left hi] at h1
    rw [List.getElem?_append_left (by have := h.len; omega)] at h2
    exact h.ea i p' q' h1 h2
  · rw [List.getElem?_append_right (by omega)] at h1
    rw [List.getElem?_append_right (by have := h.len; omega), ← h.len] at h2
    cases hk : i - ts.length with
    | zero =>
      rw [hk] at h1 h2
      simp only [zd, Option.some.injEq] at h1 h2
      subst h1
      subst h2
      exact hp
    | succ k =>
      rw [hk] at h1
      simp at h1
theorem rowsB_snoc {ts : List PclD} {L : List Par} {p : PclD} {q : Par} (h : ts.length = L.length) : rowsB (ts ++ [p]) (L ++ [q]) = rowsB ts L * row 5 1 bytv (.slice p.rawp p.rawn p.rawc) q.l := by
  unfold rowsB raws parL
  rw [List.map_append, List.map_append]
  exact rowsOf_snoc _ _ (by simp [h])
theorem ps_nil {L : List Par} : PS [] (L.take 0) := ⟨by simp, fun i p q h => by simp at h⟩
theorem rowsB_nil {L : List Par} {H : HP} : Ent H (rowsB [] (L.take 0) * H) := by
  unfold rowsB raws parL
  simp only [zl, List.take_zero]
  unfold rowsOf
  rw [emp_star]
  exact ent_refl
theorem take_snoc {α : Type} {l : List α} {k : Nat} {x : α} (h : l[k]? = some x) : l.take (k + 1) = l.take k ++ [x] := by
  rw [List.take_add_one, h]
  rfl
set_option maxRecDepth 20000 in
set_option maxHeartbeats 2000000 in
theorem all_s (c0 : World) (F : HP) (g : Nat) (m s : Int) (ts : List PclD) (L : List Par) (x y z d : Int) : Spec Tryd.prog c0 25 #[.pointer (some ⟨g, 0, none⟩)] (pu (PRs F ts L ∧ ts.length ≤ 1000000) (bagP g m s ts x y z d * F))
    (fun r => ex fun vs : List PclD => pu (PS vs L) (row 37 4 pcl r vs * (rowsB vs L * (bagP g m s ts x y z d * F)))) := by
  intro w hq; obtain ⟨⟨hP, hl⟩, hs⟩ := hq.pu; clear hq
  obtain ⟨A, c, c', q1, q2, h1, h2, hs⟩ := bag_open hs
  unfold maxLen at h2
  go_enter Tryd.func25, Tryd.ntmps25
  go_wp2_with (first
        | ((with_reducible apply pl_load1 hs); (focus (simp only [Act.eval, za, zb, zc, zd, ze, zf]; (try with_reducible rfl); done)); (focus (simp only [go_sem])); (focus ((repeat (first | (with_reducible (first | assumption | exact hec _ | exact hec2 _ | exact hec3 _ | exact hec4 _ _)) | ((with_reducible apply readc_here); (focus (first | (simp only [zc, zd, ze, go_sem]; (try with_reducible rfl); done) | (go_simp; (try with_reducible rfl); done)))) | (with_reducible (first | (apply readc_left; assumption) | refine readc_exh (by assumption) ?_ | refine readc_exh0 (by assumption) ?_ | apply readc_next)))); done)); (focus rfl); simp only [Act.put, zg, zh, zi]))
  go_loopw [3, 11] (fun v i wr => ∃ (k : Nat) (vs : List PclD) (B : Option Addr) (cB : Nat), k ≤ ts.length ∧ i = .int .i64 k ∧ vs.length ≤ 1000000 ∧ v = .slice B vs.length cB ∧ Hid (PS vs (L.take k)) ∧ Sat c0 (row 37 4 pcl (.slice B vs.length cB) vs * (rowsB vs (L.take k) * (bagB g ⟨m, s, A, ts.length, c, x, y, z, d⟩ * (row 37 4 pcl (.slice A ts.length c') ts * F)))) wr) (fun _ i _ => ts.length - (intOf i).toNat)
  case atStart => exact ⟨0, [], none, 0, by omega, rfl, by simp, rfl, Lib.hid ps_nil, hs.mono (ent_trans rowsB_nil (ent_trans ent_row_nil ent_refl))⟩
  case round =>
    clear hs
    obtain ⟨k, vs, B, cB, hk, rfl, hvl, rfl, hps, hs⟩ := hrel
    by_cases hlt : k < ts.length
    · obtain ⟨ga, p, rfl, hla, hel⟩ := row_at (E := 37) (A := A) (n := ts.length) (cap := c') (i := k) (l := ts) (hs.own.mono (by (focus with_reducible (repeat (first | exact ent_here | apply ent_next | exact ent_last)); done))) pcl_size hlt
      obtain ⟨q, hq, hr⟩ := hP.get hla
      have hsq := hr.l
      have hsn := hr.n
      have hv1 : vs.length = k := by rw [hps.out.len, List.length_take]; have := hP.len; omega
      replace hv1 := Lib.hid hv1
      clear hla
      go_wp2_with (first
        | ((with_reducible apply pl_call hs (copied_s _ _ p q.l)); (go_must (((focus (simp only [zj, zk, zl, List.append_toArray, List.nil_append, List.cons_append, Act.eval, za, zb, zc, zd, ze, zf]; (try with_reducible rfl); done)); (focus ((repeat (first | (with_reducible (first | exact ent_refl | apply ent_puR)) | ((with_reducible apply ent_front); (focus with_reducible (repeat (first | exact ent_here | apply ent_next | exact ent_last)); done)) | (with_reducible (first | exact ent_keep | apply ent_trans ent_drop)) | (focus (first | ((repeat' (first | (with_reducible apply And.intro) | omega | (focus (first | ((repeat (first | (with_reducible (first | assumption | exact slr_ro |  exact hsl _ | exact hsl2 _ | exact hsl3 _ _ _ | exact slr_nil | exact slr_row (fun _ => by simp only [go_sem]) | exact slr_one (fun _ => by simp only [go_sem]) | (apply slr_left; assumption))) | (with_reducible apply slr_next))); done) | ((repeat (first | (with_reducible (first | assumption | exact slr_ro |  exact hsl _ | exact hsl2 _ | exact hsl3 _ _ _ | exact slr_nil | exact slr_row (fun _ => by simp only [go_sem]) | exact slr_one (fun _ => by simp only [go_sem]) | (apply slr_left; assumption))) | (with_reducible (first | (apply slr_exh; focus assumption) | (apply slr_exh0; focus assumption) | apply slr_next)))); done))))); done))))); done)); (focus (simp only [go_sem]))))); clear hs; (try clear w); intro v w hq; (obtain ⟨gb, hq1⟩ := hq.ex; obtain ⟨rfl, hs⟩ := hq1.pu; clear hq1); clear hq; (try simp only [star_assoc, star_emp, emp_star] at hs); (try simp only [Act.put, zg, zh, zi]))
        | ((with_reducible apply pl_loadN hs); (focus (simp only [Act.eval, za, zb, zc, zd, ze, zf]; (try with_reducible rfl); done)); (with_reducible (first | exact agg_37)); (focus ((repeat (first | (with_reducible (first | assumption | exact hel _ | exact hel2 _ | exact hel3 _)) | ((with_reducible apply reads_whole); (focus (first | (with_reducible rfl) | (simp only [go_sem]; done) | (simp; done)))) | ((with_reducible apply reads_part); (focus (first | (simp [go_sem]; done) | (simp only [go_sem]; omega) | go_size)); (focus (first | (simp only [Nat.reduceAdd, Nat.zero_add, go_sem]; (try with_reducible rfl); done) | (simp [go_sem]; (try with_reducible rfl); done)))) | (with_reducible (first | (apply reads_left; assumption) | refine reads_exh (by assumption) ?_ | refine reads_exh0 (by assumption) ?_ | apply reads_next)))); done)); (focus rfl); simp only [Act.put, zg, zh, zi])
        | ((with_reducible apply pl_alloc hs); (with_reducible (first | exact zero_37)); clear hs; (try clear w); intro g w hs; skip; simp only [Act.put, zg, zh, zi])
        | ((with_reducible apply pl_bs1 hs); (with_reducible (first | exact bst_29)); (focus (simp only [Act.eval, za, zb, zc, zd, ze, zf]; (try with_reducible rfl); done)); (focus (first | (with_reducible (first | exact cells_intv _ | exact cells_bytv _ | exact cells_agg _ | exact cells_int _ _ | exact cells_bool _ | exact cells_string _ | exact cells_slice _ _ _ | exact cells_pointer _ | exact cells_map _ | exact cells_iface _ _ | exact cells_nilIface | exact cells_func _ _ _)) | (exact cells_one (by assumption)))); (focus (first | (with_reducible rfl) | (simp only [go_sem]; done) | (simp; done))); clear hs; (try clear w); intro g w hs; skip; simp only [Act.put, zg, zh, zi])
        | ((with_reducible apply pl_storeN hs); (focus (simp only [Act.eval, za, zb, zc, zd, ze, zf]; (try with_reducible rfl); done)); (focus (simp only [Act.eval, za, zb, zc, zd, ze, zf]; (try with_reducible rfl); done)); (with_reducible (first | exact agg_37)); (focus with_reducible (repeat (first | exact ent_here | apply ent_next | exact ent_last)); done); (focus (first | (with_reducible rfl) | (simp only [go_sem]; done) | (simp; done))); (focus (first | (simp [go_sem]; done) | (simp only [go_sem]; omega) | go_size)); (focus (first | (simp only [go_sem]; done) | (simp [go_sem]; done))); (focus (first | ((with_reducible apply splice_whole); (focus (first | (with_reducible rfl) | (simp only [go_sem]; done) | (simp; done)))) | (simp [splice, go_sem]; done) | (simp only [go_sem]; (try with_reducible rfl); done))); clear hs; (try clear w); intro w hs; (try simp only [zg, zh, zi, pcl_s0, pcl_s1, pcl_s2, pcl_s3, opg_s0, opg_s1, opg_s2, opg_s3, bgv_s0, bgv_s1, bgv_s2, bgv_s3, bgv_s4, bgv_s5, bgv_s6, rbg_s0, rbg_s1, rbg_s2, rbg_s3, rbg_s4, rbg_s5, rbg_s6, prv_s0, prv_s1, lnk_s0, lnk_s1, lnk_s2, nov_s0, nov_s1, nov_s2, intv_set, bytv_set] at hs); simp only [Act.put, zg, zh, zi])
        | ((with_reducible apply pl_append1 hs); (with_reducible (first | exact app_22 | exact app_29 | exact app_30 | exact app_31 | exact app_49)); (focus (simp only [Act.eval, za, zb, zc, zd, ze, zf]; (try with_reducible rfl); done)); (first | (focus with_reducible (repeat (first | exact ent_here | apply ent_next | exact ent_last)); done) | (focus (with_reducible exact ent_row_nil)) | (focus ((with_reducible apply ent_row_of_blk); (focus with_reducible (repeat (first | exact ent_here | apply ent_next | exact ent_last)); done); (focus (simp only [go_sem]))))); (focus (simp only [Act.eval, za, zb, zc, zd, ze, zf]; (try with_reducible rfl); done)); (focus ((repeat (first | (with_reducible (first | assumption | exact hel _ | exact hel2 _ | exact hel3 _)) | ((with_reducible apply reads_whole); (focus (first | (with_reducible rfl) | (simp only [go_sem]; done) | (simp; done)))) | ((with_reducible apply reads_part); (focus (first | (simp [go_sem]; done) | (simp only [go_sem]; omega) | go_size)); (focus (first | (simp only [Nat.reduceAdd, Nat.zero_add, go_sem]; (try with_reducible rfl); done) | (simp [go_sem]; (try with_reducible rfl); done)))) | (with_reducible (first | (apply reads_left; assumption) | refine reads_exh (by assumption) ?_ | refine reads_exh0 (by assumption) ?_ | apply reads_next)))); done)); (focus (first | (simp only [maxLen] at *; omega) | (simp [maxLen] at *; omega))); (focus (first | (simp only [maxLen] at *; omega) | (simp [maxLen] at *; omega))); clear hs; (try clear w); intro Ap cq w hs; skip; simp only [Act.put, zg, zh, zi]))
      have hk3 : k ≤ ts.length - 1 := by omega
      refine ⟨⟨k + 1, vs ++ [⟨p.serial, p.src, p.dst, some ⟨gb, 0, none⟩, q.l.length, q.l.length⟩], Ap, cq, by omega, by simp, by simp; have := hv1.out; omega, by simp, Lib.hid ?_, hs.mono ?_⟩, by simp [intOf]; omega⟩
      · rw [take_snoc hq]
        exact hps.out.snoc ⟨hr.s, hr.f, hr.t, hsn⟩
      · rw [take_snoc hq, rowsB_snoc (by rw [hv1.out, List.length_take]; have := hP.len; omega), List.length_append, List.length_singleton]
        simp only [star_assoc]
        ((repeat (first | (with_reducible (first | exact ent_refl | exact ent_emp)) | ((with_reducible apply ent_front); (focus with_reducible (repeat (first | exact ent_here | apply ent_next | exact ent_last)); done)) | (with_reducible (first | exact ent_keep | apply ent_trans ent_drop)))); done)
    · go_wp2_with fail
      have hk2 : k = ts.length := by omega
      have he2 := hps.out
      have htk : L.take k = L := by rw [hk2, hP.len, List.take_length]
      rw [htk] at he2 hs
      (go_ret; simp only [za, zb, zc, zd, ze, zf])
      exact ⟨_, rfl, hs.mono (ent_ex vs (ent_pu he2 (star_mono ent_refl (star_mono ent_refl (bag_shut ⟨q1, q2⟩ rfl)))))⟩
theorem drop_cons {α : Type} {l : List α} {k : Nat} {x : α} (h : l[k]? = some x) : l.drop k = x :: l.drop (k + 1) := by
  obtain ⟨hk, rfl⟩ := List.getElem?_eq_some_iff.1 h
  exact List.drop_eq_getElem_cons hk
set_option maxRecDepth 20000 in
set_option maxHeartbeats 2000000 in
theorem spoil_pcl_s (c0 : World) (F : HP) (v : Value) (ts : List PclD) (L : List Par) : Spec Tryd.prog c0 56 #[v] (pu (PS ts L ∧ ts.length ≤ 1000000) (row 37 4 pcl v ts * (rowsB ts L * F))) (fun _ => F) := by
  intro w hq; obtain ⟨⟨hP, hl⟩, hs⟩ := hq.pu; clear hq
  obtain ⟨A, cap, rfl, h1, h2⟩ := row_slice hs.own
  unfold maxLen at h2
  generalize hn : ts.length = n at *
  replace hn := Lib.hid hn
  go_enter Tryd.func56, Tryd.ntmps56
  go_wp2_with fail
  go_loopw [2] (fun i wr => ∃ (k : Nat) (vs : List PclD), k ≤ n ∧ i = .int .i64 k ∧ Hid (vs.length = n) ∧ Hid (vs.drop k = ts.drop k) ∧ Sat c0 (row 37 4 pcl (.slice A n cap) vs * (rowsB (ts.drop k) (L.drop k) * F)) wr) (fun i _ => n - (intOf i).toNat)
  case atStart => exact ⟨0, ts, by omega, rfl, hn, rfl, hs⟩
  case round =>
    clear hs
    obtain ⟨k, vs, hk, rfl, hvn, hvd, hs⟩ := hrel
    by_cases hlt : k < n
    · obtain ⟨g, p, rfl, hlp, hel⟩ := row_at hs.own pcl_size hlt
      have hec : ∀ R, ReadC (row 37 4 pcl (.slice (some ⟨g, 0, none⟩) n cap) vs * R) g (k * 4 + 3) (.slice p.rawp p.rawn p.rawc) := fun R => (hel R).cell (i := 3) (by omega) (pcl_3 p)
      have hkl : k < vs.length := by rw [hvn.out]; exact hlt
      have htk : ts[k]? = some p := by
        have h5 : (vs.drop k)[0]? = (ts.drop k)[0]? := by rw [hvd.out]
        rw [List.getElem?_drop, List.getElem?_drop, Nat.add_zero, hlp] at h5
        exact h5.symm
      have hdx : vs.drop (k + 1) = ts.drop (k + 1) := by
        have h5 : (vs.drop k).drop 1 = (ts.drop k).drop 1 := by rw [hvd.out]
        rwa [List.drop_drop, List.drop_drop] at h5
      have hkL : k < L.length := by have := hP.len; have := hn.out; omega
      have hLk : L[k]? = some L[k] := List.getElem?_eq_getElem hkL
      generalize L[k] = q at hLk
      have hqn := (hP.ea _ _ _ htk hLk).2.2.2
      have hsplit : rowsB (ts.drop k) (L.drop k) = row 5 1 bytv (.slice p.rawp p.rawn p.rawc) q.l * rowsB (ts.drop (k + 1)) (L.drop (k + 1)) := by
        rw [drop_cons htk, drop_cons hLk]
        unfold rowsB raws parL
        rw [zk, zk, rowsOf]
      rw [hsplit] at hs
      simp only [star_assoc] at hs
      clear hsplit htk hLk hkL hlp
      replace hdx := Lib.hid hdx
      go_wp2_with (first
        | ((with_reducible apply pl_call hs (spoil_bytv_s _ _ _ q.l)); (go_must (((focus (simp only [zj, zk, zl, List.append_toArray, List.nil_append, List.cons_append, Act.eval, za, zb, zc, zd, ze, zf]; (try with_reducible rfl); done)); (focus ((repeat (first | (with_reducible (first | exact ent_refl | apply ent_puR)) | ((with_reducible apply ent_front); (focus with_reducible (repeat (first | exact ent_here | apply ent_next | exact ent_last)); done)) | (with_reducible (first | exact ent_keep | apply ent_trans ent_drop)) | (focus (first | (with_reducible assumption))))); done)); (focus (simp only [go_sem]))))); clear hs; (try clear w); intro v w hq; (have hs := hq); clear hq; (try simp only [star_assoc, star_emp, emp_star] at hs); (try simp only [Act.put, zg, zh, zi]))
        | ((with_reducible apply pl_load1 hs); (focus (simp only [Act.eval, za, zb, zc, zd, ze, zf]; (try with_reducible rfl); done)); (focus (simp only [go_sem])); (focus ((repeat (first | (with_reducible (first | assumption | exact hec _ | exact hec2 _ | exact hec3 _ | exact hec4 _ _)) | ((with_reducible apply readc_here); (focus (first | (simp only [zc, zd, ze, go_sem]; (try with_reducible rfl); done) | (go_simp; (try with_reducible rfl); done)))) | (with_reducible (first | (apply readc_left; assumption) | refine readc_exh (by assumption) ?_ | refine readc_exh0 (by assumption) ?_ | apply readc_next)))); done)); (focus rfl); simp only [Act.put, zg, zh, zi])
        | ((with_reducible apply pl_build hs); (focus (simp only [zj, zk, zl, Act.eval, za, zb, zc, zd, ze, zf]; (try with_reducible rfl); done)); (first | (with_reducible exact bld_1 _)); (focus rfl); simp only [Act.put, zg, zh, zi])
        | ((with_reducible apply pl_storeRow hs); (focus (simp only [Act.eval, za, zb, zc, zd, ze, zf]; (try with_reducible rfl); done)); (focus with_reducible (repeat (first | exact ent_here | apply ent_next | exact ent_last)); done); (focus (simp only [Act.eval, za, zb, zc, zd, ze, zf]; (try with_reducible rfl); done)); (with_reducible (first | exact agg_37)); (focus (first | (with_reducible rfl) | (simp; done))); (focus (first | omega | (simp [go_sem]; omega) | (simp only [go_sem]; omega))); (focus (intro _; simp only [go_sem])); (focus (intro _; simp only [go_sem])); clear hs; (try clear w); intro w hs; skip; simp only [Act.put, zg, zh, zi]))
      exact ⟨⟨k + 1, _, by omega, by simp, (by unfold Hid; rw [List.length_set]; exact hvn.out), (by unfold Hid; rw [List.drop_set_of_lt (by omega)]; exact hdx.out), hs⟩, by simp [intOf]; omega⟩
    · replace hs := hs.mono (star_mono ent_refl ent_drop)
      go_wp2_with fail
      go_loopw [0, 3] (fun u i wr => ∃ (k : Nat) (l' : List PclD), k ≤ 40 ∧ i = .int .i64 k ∧ l'.length ≤ 1000000 + k ∧ Sat c0 (row 37 4 pcl u l' * F) wr) (fun _ i _ => 40 - (intOf i).toNat)
      case atStart => exact ⟨0, vs, by omega, rfl, by have := hvn.out; omega, hs⟩
      case round =>
        clear hs
        obtain ⟨k, l', hk, rfl, hl', hs⟩ := hrel
        obtain ⟨A', cap', rfl, h1', h2'⟩ := row_slice hs.own
        by_cases hlt : k < 40
        · go_wp2_with (first
        | ((with_reducible apply pl_build hs); (focus (simp only [zj, zk, zl, Act.eval, za, zb, zc, zd, ze, zf]; (try with_reducible rfl); done)); (first | (with_reducible exact bld_1 _)); (focus rfl); simp only [Act.put, zg, zh, zi])
        | ((with_reducible apply pl_bs1 hs); (with_reducible (first | exact bst_29)); (focus (simp only [Act.eval, za, zb, zc, zd, ze, zf]; (try with_reducible rfl); done)); (focus (first | (with_reducible (first | exact cells_intv _ | exact cells_bytv _ | exact cells_agg _ | exact cells_int _ _ | exact cells_bool _ | exact cells_string _ | exact cells_slice _ _ _ | exact cells_pointer _ | exact cells_map _ | exact cells_iface _ _ | exact cells_nilIface | exact cells_func _ _ _)) | (exact cells_one (by assumption)))); (focus (first | (with_reducible rfl) | (simp only [go_sem]; done) | (simp; done))); clear hs; (try clear w); intro g w hs; skip; simp only [Act.put, zg, zh, zi])
        | ((with_reducible apply pl_append1 hs); (with_reducible (first | exact app_22 | exact app_29 | exact app_30 | exact app_31 | exact app_49)); (focus (simp only [Act.eval, za, zb, zc, zd, ze, zf]; (try with_reducible rfl); done)); (first | (focus with_reducible (repeat (first | exact ent_here | apply ent_next | exact ent_last)); done) | (focus (with_reducible exact ent_row_nil)) | (focus ((with_reducible apply ent_row_of_blk); (focus with_reducible (repeat (first | exact ent_here | apply ent_next | exact ent_last)); done); (focus (simp only [go_sem]))))); (focus (simp only [Act.eval, za, zb, zc, zd, ze, zf]; (try with_reducible rfl); done)); (focus ((repeat (first | (with_reducible (first | assumption | exact hel _ | exact hel2 _ | exact hel3 _)) | ((with_reducible apply reads_whole); (focus (first | (with_reducible rfl) | (simp only [go_sem]; done) | (simp; done)))) | ((with_reducible apply reads_part); (focus (first | (simp [go_sem]; done) | (simp only [go_sem]; omega) | go_size)); (focus (first | (simp only [Nat.reduceAdd, Nat.zero_add, go_sem]; (try with_reducible rfl); done) | (simp [go_sem]; (try with_reducible rfl); done)))) | (with_reducible (first | (apply reads_left; assumption) | refine reads_exh (by assumption) ?_ | refine reads_exh0 (by assumption) ?_ | apply reads_next)))); done)); (focus (first | (simp only [maxLen] at *; omega) | (simp [maxLen] at *; omega))); (focus (first | (simp only [maxLen] at *; omega) | (simp [maxLen] at *; omega))); clear hs; (try clear w); intro Ap cq w hs; skip; simp only [Act.put, zg, zh, zi]))
          go_roundw
          case rel => exact ⟨k + 1, l' ++ [_], by omega, by go_num, (by simp only [List.length_append, List.length_cons, List.length_nil]; omega), hs.mono (by ((repeat (first | (with_reducible (first | exact ent_refl | exact ent_emp)) | ((with_reducible apply ent_front); (focus with_reducible (repeat (first | exact ent_here | apply ent_next | exact ent_last)); done)) | (with_reducible (first | exact ent_keep | apply ent_trans ent_drop)))); done))⟩
          case measure => simp [intOf]; omega
        · go_wp2_with fail
          exact bodyPost_end (results_none rfl _ _ _) rfl ⟨_, rfl, hs.mono (by ((repeat (first | (with_reducible (first | exact ent_refl | exact ent_emp)) | ((with_reducible apply ent_front); (focus with_reducible (repeat (first | exact ent_here | apply ent_next | exact ent_last)); done)) | (with_reducible (first | exact ent_keep | apply ent_trans ent_drop)))); done))⟩
set_option maxRecDepth 20000 in
set_option maxHeartbeats 2000000 in
theorem got_s (c0 : World) (F : HP) (a : Nat → Addr) (v u : PclD) (e : Value) (no : NoD) (q : Par) (o : Option (List LinkD × Nat)) : Spec Tryd.prog c0 46 #[.agg (pcl v), e, .agg (pcl u), .agg (nov no)]
    (pu (ErrA F a ∧ PR F u q ∧ v.serial = q.s ∧ v.src = q.f ∧ v.dst = q.t) (row 5 1 bytv (.slice v.rawp v.rawn v.rawc) q.l * (RefP a o e * (NoP o no * F)))) (fun r => pu (r = .bool true) F) := by
  intro w hq; obtain ⟨⟨hE, hP, e1, e2, e3⟩, hs⟩ := hq.pu; clear hq
  obtain ⟨f1, f2, f3, f4, f5⟩ := hP
  obtain ⟨v1, v2, v3, va, vn, vc⟩ := v
  obtain ⟨u1, u2, u3, ua, un, uc⟩ := u
  obtain ⟨q1, q2, q3, ql⟩ := q
  dsimp only at *
  subst e1 e2 e3 f1 f2 f3
  go_enter Tryd.func46, Tryd.ntmps46
  go_wp2_with (first
        | ((with_reducible rewrite [pl_strike_eq]); rotate_left 1; (focus rfl))
        | ((with_reducible apply pl_call hs (parcel_s _ _ _ _ _ _ _ _ _ _ _ ql)); (go_must (((focus (simp only [zj, zk, zl, List.append_toArray, List.nil_append, List.cons_append, Act.eval, za, zb, zc, zd, ze, zf]; (try with_reducible rfl); done)); (focus ((repeat (first | (with_reducible (first | exact ent_refl | apply ent_puR)) | ((with_reducible apply ent_front); (focus with_reducible (repeat (first | exact ent_here | apply ent_next | exact ent_last)); done)) | (with_reducible (first | exact ent_keep | apply ent_trans ent_drop)) | (focus (first | ((repeat' (first | (with_reducible apply And.intro) | (focus (first | ((repeat (first | (with_reducible (first | assumption | exact slr_ro |  exact hsl _ | exact hsl2 _ | exact hsl3 _ _ _ | exact slr_nil | exact slr_row (fun _ => by simp only [go_sem]) | exact slr_one (fun _ => by simp only [go_sem]) | (apply slr_left; assumption))) | (with_reducible apply slr_next))); done) | ((repeat (first | (with_reducible (first | assumption | exact slr_ro |  exact hsl _ | exact hsl2 _ | exact hsl3 _ _ _ | exact slr_nil | exact slr_row (fun _ => by simp only [go_sem]) | exact slr_one (fun _ => by simp only [go_sem]) | (apply slr_left; assumption))) | (with_reducible (first | (apply slr_exh; focus assumption) | (apply slr_exh0; focus assumption) | apply slr_next)))); done))))); done))))); done)); (focus (simp only [go_sem]))))); clear hs; (try clear w); intro v w hq; (obtain ⟨rfl, hs⟩ := hq.pu); clear hq; (try simp only [star_assoc, star_emp, emp_star] at hs); (try simp only [Act.put, zg, zh, zi]))
        | ((with_reducible apply pl_call hs (refused_s _ _ a o _ _)); (go_must (((focus (simp only [zj, zk, zl, List.append_toArray, List.nil_append, List.cons_append, Act.eval, za, zb, zc, zd, ze, zf]; (try with_reducible rfl); done)); (focus ((repeat (first | (with_reducible (first | exact ent_refl | apply ent_puR)) | ((with_reducible apply ent_front); (focus with_reducible (repeat (first | exact ent_here | apply ent_next | exact ent_last)); done)) | (with_reducible (first | exact ent_keep | apply ent_trans ent_drop)) | (focus (first | (focus (with_reducible (repeat (first | assumption | (apply ErrA.left; assumption) | refine ErrA.exh (by assumption) ?_ | refine ErrA.exh0 (by assumption) ?_ | apply ErrA.next | (apply ErrB.left; assumption) | refine ErrB.exh (by assumption) ?_ | refine ErrB.exh0 (by assumption) ?_ | apply ErrB.next)); done)))))); done)); (focus (simp only [go_sem]))))); clear hs; (try clear w); intro v w hq; (obtain ⟨rfl, hs⟩ := hq.pu); clear hq; (try simp only [star_assoc, star_emp, emp_star] at hs); (try simp only [Act.put, zg, zh, zi]))
        | ((with_reducible apply pl_call hs (spoil_bytv_s _ _ _ ql)); (go_must (((focus (simp only [zj, zk, zl, List.append_toArray, List.nil_append, List.cons_append, Act.eval, za, zb, zc, zd, ze, zf]; (try with_reducible rfl); done)); (focus ((repeat (first | (with_reducible (first | exact ent_refl | apply ent_puR)) | ((with_reducible apply ent_front); (focus with_reducible (repeat (first | exact ent_here | apply ent_next | exact ent_last)); done)) | (with_reducible (first | exact ent_keep | apply ent_trans ent_drop)) | (focus (first | (with_reducible assumption))))); done)); (focus (simp only [go_sem]))))); clear hs; (try clear w); intro v w hq; (have hs := hq); clear hq; (try simp only [star_assoc, star_emp, emp_star] at hs); (try simp only [Act.put, zg, zh, zi]))
        | ((with_reducible apply pl_loadN hs); (focus (simp only [Act.eval, za, zb, zc, zd, ze, zf]; (try with_reducible rfl); done)); (with_reducible (first | exact agg_37 | exact agg_51)); (focus ((repeat (first | (with_reducible (first | assumption | exact hel _ | exact hel2 _ | exact hel3 _)) | ((with_reducible apply reads_whole); (focus (first | (with_reducible rfl) | (simp only [go_sem]; done) | (simp; done)))) | ((with_reducible apply reads_part); (focus (first | (simp [go_sem]; done) | (simp only [go_sem]; omega) | go_size)); (focus (first | (simp only [Nat.reduceAdd, Nat.zero_add, go_sem]; (try with_reducible rfl); done) | (simp [go_sem]; (try with_reducible rfl); done)))) | (with_reducible (first | (apply reads_left; assumption) | refine reads_exh (by assumption) ?_ | refine reads_exh0 (by assumption) ?_ | apply reads_next)))); done)); (focus rfl); simp only [Act.put, zg, zh, zi])
        | ((with_reducible apply pl_load1 hs); (focus (simp only [Act.eval, za, zb, zc, zd, ze, zf]; (try with_reducible rfl); done)); (focus (simp only [go_sem])); (focus ((repeat (first | (with_reducible (first | assumption | exact hec _ | exact hec2 _ | exact hec3 _ | exact hec4 _ _)) | ((with_reducible apply readc_here); (focus (first | (simp only [zc, zd, ze, go_sem]; (try with_reducible rfl); done) | (go_simp; (try with_reducible rfl); done)))) | (with_reducible (first | (apply readc_left; assumption) | refine readc_exh (by assumption) ?_ | refine readc_exh0 (by assumption) ?_ | apply readc_next)))); done)); (focus rfl); simp only [Act.put, zg, zh, zi])
        | ((with_reducible apply pl_box hs); (focus (simp only [Act.eval, za, zb, zc, zd, ze, zf]; (try with_reducible rfl); done)); (focus (first | (with_reducible (first | exact cells_intv _ | exact cells_bytv _ | exact cells_agg _ | exact cells_int _ _ | exact cells_bool _ | exact cells_string _ | exact cells_slice _ _ _ | exact cells_pointer _ | exact cells_map _ | exact cells_iface _ _ | exact cells_nilIface | exact cells_func _ _ _)) | (exact cells_one (by assumption)))); clear hs; (try clear w); intro g w hs; skip; simp only [Act.put, zg, zh, zi]))
  (go_ret; simp only [za, zb, zc, zd, ze, zf])
  exact ⟨_, rfl, hs.mono (ent_pu rfl (by ((repeat (first | (with_reducible (first | exact ent_refl | exact ent_emp)) | ((with_reducible apply ent_front); (focus with_reducible (repeat (first | exact ent_here | apply ent_next | exact ent_last)); done)) | (with_reducible (first | exact ent_keep | apply ent_trans ent_drop)))); done)))⟩
end Go.Proofs.YtlgjippijbepkaaDoor
