/- The document's stack. -/
import Derived.Test.YtflibhphpnajeaaDoorZUC6AS
import Derived.Test.YtflibhphpnajeaaDoorZUC6AT
set_option linter.unusedSimpArgs false
set_option linter.unusedVariables false
namespace Go.Proofs.YtflibhphpnajeaaDoor
open Go Go.RowKit

def rstk (g : Nat) (dn un : List (List ChgD)) : HP := ex fun v => ex fun u => blk g (.cells #[v, u] 52 (0, 0)) * (rows2 22 33 4 chg v dn * rows2 22 33 4 chg u un)
/-- The stack, opened. -/
def rstkO (g : Nat) (A : Option Addr) (n c : Nat) (ts : List SlD) (dn : List (List ChgD)) (B : Option Addr) (m d : Nat) (us : List SlD) (un : List (List ChgD)) (F : HP) : HP :=
  blk g (.cells #[.slice A n c, .slice B m d] 52 (0, 0)) * (row 22 1 slv (.slice A n c) ts * (rowsOf 33 4 chg ts dn * (row 22 1 slv (.slice B m d) us * (rowsOf 33 4 chg us un * F))))
theorem rstk_open {g : Nat} {dn un : List (List ChgD)} {F : HP} {c0 w : World} (hs : Sat c0 (rstk g dn un * F) w) :
    ∃ A n c ts B m d us, ts.length = dn.length ∧ us.length = un.length ∧ n = ts.length ∧ m = us.length ∧ n ≤ c ∧ c ≤ maxLen ∧ m ≤ d ∧ d ≤ maxLen ∧ Sat c0 (rstkO g A n c ts dn B m d us un F) w := by
  unfold rstk at hs
  rw [ex_star] at hs
  obtain ⟨v, hs⟩ := hs.ex
  rw [ex_star] at hs
  obtain ⟨u, hs⟩ := hs.ex
  simp only [star_assoc] at hs
  have h1 : Sat c0 (rows2 22 33 4 chg v dn * (rows2 22 33 4 chg u un * (blk g (.cells #[v, u] 52 (0, 0)) * F))) w := hs.mono (by ((repeat (first | (with_reducible (first | exact ent_refl | exact ent_emp)) | ((with_reducible apply ent_front); (focus with_reducible (repeat (first | exact ent_here | apply ent_next | exact ent_last)); done)) | (with_reducible (first | exact ent_keep | apply ent_trans ent_drop)))); done))
  obtain ⟨ts, ht, h1⟩ := rows2_open h1
  have h2 : Sat c0 (rows2 22 33 4 chg u un * (blk g (.cells #[v, u] 52 (0, 0)) * (row 22 1 slv v ts * (rowsOf 33 4 chg ts dn * F)))) w := h1.mono (by ((repeat (first | (with_reducible (first | exact ent_refl | exact ent_emp)) | ((with_reducible apply ent_front); (focus with_reducible (repeat (first | exact ent_here | apply ent_next | exact ent_last)); done)) | (with_reducible (first | exact ent_keep | apply ent_trans ent_drop)))); done))
  obtain ⟨us, hu, h2⟩ := rows2_open h2
  obtain ⟨A, c, rfl, hc1, hc2⟩ := row_slice (v := v) (l := ts) (E := 22) (s := 1) (enc := slv) (h2.own.mono (by (focus with_reducible (repeat (first | exact ent_here | apply ent_next | exact ent_last)); done)))
  obtain ⟨B, d, rfl, hd1, hd2⟩ := row_slice (v := u) (l := us) (E := 22) (s := 1) (enc := slv) (h2.own.mono (by (focus with_reducible (repeat (first | exact ent_here | apply ent_next | exact ent_last)); done)))
  exact ⟨A, _, c, ts, B, _, d, us, ht, hu, rfl, rfl, hc1, hc2, hd1, hd2, h2.mono (by unfold rstkO; ((repeat (first | (with_reducible (first | exact ent_refl | exact ent_emp)) | ((with_reducible apply ent_front); (focus with_reducible (repeat (first | exact ent_here | apply ent_next | exact ent_last)); done)) | (with_reducible (first | exact ent_keep | apply ent_trans ent_drop)))); done))⟩
theorem rstk_shut {g : Nat} {A : Option Addr} {n c : Nat} {ts : List SlD} {dn : List (List ChgD)} {B : Option Addr} {m d : Nat} {us : List SlD} {un : List (List ChgD)} {F : HP} : Ent (rstkO g A n c ts dn B m d us un F) (rstk g dn un * F) := by
  unfold rstk rstkO
  rw [ex_star]
  refine ent_ex (.slice A n c) ?_
  rw [ex_star]
  refine ent_ex (.slice B m d) ?_
  rw [star_assoc, star_assoc]
  exact star_mono ent_refl (ent_trans (star_mono ent_refl (star_mono ent_refl rows2_shut)) rows2_shut)

def pushS (ts : List SlD) : List SlD := if 64 ≤ ts.length then ts.drop 1 else ts
set_option maxRecDepth 20000 in
set_option maxHeartbeats 1000000 in
theorem rpush0_s (c0 : World) (F : HP) (A : Option Addr) (n ca : Nat) (v : Value) (ts : List SlD) (l : List ChgD) : Spec Tryd.prog c0 54 #[.slice A n ca, v]
    (pu (SlR F 4 chg v l ∧ n ≤ 1000 ∧ l.length ≤ 4398046510976) (row 22 1 slv (.slice A n ca) ts * F)) (fun r => ex fun t : SlD => row 22 1 slv r (pushS ts ++ [t]) * (row 33 4 chg (.slice t.p t.n t.c) l * F)) := by
  intro w hq; obtain ⟨⟨hv, h1, h2⟩, hs⟩ := hq.pu; clear hq
  obtain ⟨B, cb, rfl⟩ := slr_form hv (hs.own.mono ent_drop)
  obtain ⟨_, _, e0, hc1, hc2⟩ := row_slice hs.own
  obtain ⟨rfl, hn, rfl⟩ := sl_inj e0
  clear e0
  unfold maxLen at hc2
  rw [← hn] at hc1
  by_cases hb : 64 ≤ n
  · obtain ⟨g, _, rfl, _, _⟩ := row_at (i := 0) hs.own slv_size (by omega)
    have hsl : ∀ R, SlR (row 22 1 slv (.slice (some ⟨g, 0, none⟩) n ca) ts * R) 1 slv _ (ts.drop 1) := fun R => slr_drop (slr_row slv_size) 1 (by omega)
    have hps : ts.drop 1 = pushS ts := by unfold pushS; rw [if_pos (by omega)]
    have hpl : (pushS ts).length = n - 1 := by rw [← hps]; simp; omega
    rw [hps] at hsl
    clear hps
    have hb1 : (64 : Int) ≤ n := by omega
    have hq4 : 1 ≤ n := by omega
    have hq5 : (1 : Int) ≤ n := by omega
    have hq6 : 1 ≤ ca := by omega
    replace hn := Lib.hid hn
    obtain ⟨ad, had⟩ : ∃ ad, (if ca = 1 then some ⟨g, 0, none⟩ else some ⟨g, 1 * 1, none⟩ : Option Addr) = ad := ⟨_, rfl⟩
    rw [had] at hsl
    have hcapB : ((ca = 1) = True ∧ ad = some ⟨g, 0, none⟩) ∨ ((ca = 1) = False ∧ ad = some ⟨g, 1, none⟩) := by
      by_cases hc : ca = 1
      · rw [if_pos hc] at had; exact .inl ⟨eq_true hc, had.symm⟩
      · rw [if_neg hc] at had; exact .inr ⟨eq_false hc, had.symm⟩
    clear had
    rcases hcapB with ⟨hcap, rfl⟩ | ⟨hcap, rfl⟩
    · exfalso; have := of_eq_true hcap; omega
    have hpb : (pushS ts).length ≤ 1000 := by omega
    replace hpl := Lib.hid hpl
    go_enter Tryd.func54, Tryd.ntmps54
    go_wp2_with (first
        | ((with_reducible apply pl_bs1 hs); (with_reducible (first | exact bst_22 | exact bst_50)); (focus (simp only [Act.eval, za, zb, zc, zd, ze, zf]; (try with_reducible rfl); done)); (focus (first | (with_reducible (first | exact cells_slv _ _ _ | exact cells_intv _ | exact cells_agg _ | exact cells_int _ _ | exact cells_bool _ | exact cells_string _ | exact cells_slice _ _ _ | exact cells_pointer _ | exact cells_map _ | exact cells_iface _ _ | exact cells_nilIface | exact cells_func _ _ _)) | (exact cells_one (by assumption)))); (focus (first | (with_reducible rfl) | (simp only [go_sem]; done) | (simp; done))); clear hs; (try clear w); intro g w hs; skip; simp only [Act.put, zg, zh, zi])
        | ((with_reducible apply pl_bs0r hs); (with_reducible (first | exact app_22 | exact app_50)); clear hs; (try clear w); intro g w hs; skip; simp only [Act.put, zg, zh, zi])
        | ((with_reducible apply pl_appCut hs); (with_reducible (first | exact app_22 | exact app_41 | exact app_42 | exact app_47 | exact app_50)); (focus (simp only [Act.eval, za, zb, zc, zd, ze, zf]; (try with_reducible rfl); done)); (focus with_reducible (repeat (first | exact ent_here | apply ent_next | exact ent_last)); done); (focus (simp only [Act.eval, za, zb, zc, zd, ze, zf]; (try with_reducible rfl); done)); (focus (first | ((repeat (first | (with_reducible (first | assumption |  exact hsl _ | exact hsl2 _ | exact hsl3 _ _ _ | exact slr_nil | exact slr_row (fun _ => by simp only [go_sem]) | exact slr_one (fun _ => by simp only [go_sem]) | (apply slr_left; assumption))) | (with_reducible apply slr_next))); done) | ((repeat (first | (with_reducible (first | assumption |  exact hsl _ | exact hsl2 _ | exact hsl3 _ _ _ | exact slr_nil | exact slr_row (fun _ => by simp only [go_sem]) | exact slr_one (fun _ => by simp only [go_sem]) | (apply slr_left; assumption))) | (with_reducible (first | (apply slr_exh; focus assumption) | (apply slr_exh0; focus assumption) | apply slr_next)))); done))); (focus (first | (with_reducible assumption) | omega | (simp; done) | (simp; omega))); (focus (first | (with_reducible assumption) | omega | (simp; done) | (simp; omega))); clear hs; (try clear w); intro w hs; (try simp only [happ] at hs ⊢); simp only [Act.put, zg, zh, zi])
        | ((with_reducible apply pl_append1 hs); (with_reducible (first | exact app_22 | exact app_41 | exact app_42 | exact app_47 | exact app_50)); (focus (simp only [Act.eval, za, zb, zc, zd, ze, zf]; (try with_reducible rfl); done)); (first | (focus with_reducible (repeat (first | exact ent_here | apply ent_next | exact ent_last)); done) | (focus (with_reducible exact ent_row_nil)) | (focus ((with_reducible apply ent_row_of_blk); (focus with_reducible (repeat (first | exact ent_here | apply ent_next | exact ent_last)); done); (focus (simp only [go_sem]))))); (focus (simp only [Act.eval, za, zb, zc, zd, ze, zf]; (try with_reducible rfl); done)); (focus ((repeat (first | (with_reducible (first | assumption | exact hel _ | exact hel2 _ | exact hel3 _)) | ((with_reducible apply reads_whole); (focus (first | (with_reducible rfl) | (simp only [go_sem]; done) | (simp; done)))) | ((with_reducible apply reads_part); (focus (first | (simp [go_sem]; done) | (simp only [go_sem]; omega) | go_size)); (focus (first | (simp only [Nat.reduceAdd, Nat.zero_add, go_sem]; (try with_reducible rfl); done) | (simp [go_sem]; (try with_reducible rfl); done)))) | (with_reducible (first | (apply reads_left; assumption) | refine reads_exh (by assumption) ?_ | refine reads_exh0 (by assumption) ?_ | apply reads_next)))); done)); (focus (first | (simp only [maxLen] at *; omega) | (simp [maxLen] at *; omega))); (focus (first | (simp only [maxLen] at *; omega) | (simp [maxLen] at *; omega))); clear hs; (try clear w); intro Ap cq w hs; skip; simp only [Act.put, zg, zh, zi])
        | ((with_reducible apply pl_appendN hs); (with_reducible (first | exact app_22 | exact app_41 | exact app_42 | exact app_47 | exact app_50)); (focus (simp only [Act.eval, za, zb, zc, zd, ze, zf]; (try with_reducible rfl); done)); (first | (focus with_reducible (repeat (first | exact ent_here | apply ent_next | exact ent_last)); done) | (focus (with_reducible exact ent_row_nil)) | (focus ((with_reducible apply ent_row_of_blk); (focus with_reducible (repeat (first | exact ent_here | apply ent_next | exact ent_last)); done); (focus (simp only [go_sem]))))); (focus (simp only [Act.eval, za, zb, zc, zd, ze, zf]; (try with_reducible rfl); done)); (focus (first | ((repeat (first | (with_reducible (first | assumption |  exact hsl _ | exact hsl2 _ | exact hsl3 _ _ _ | exact slr_nil | exact slr_row (fun _ => by simp only [go_sem]) | exact slr_one (fun _ => by simp only [go_sem]) | (apply slr_left; assumption))) | (with_reducible apply slr_next))); done) | ((repeat (first | (with_reducible (first | assumption |  exact hsl _ | exact hsl2 _ | exact hsl3 _ _ _ | exact slr_nil | exact slr_row (fun _ => by simp only [go_sem]) | exact slr_one (fun _ => by simp only [go_sem]) | (apply slr_left; assumption))) | (with_reducible (first | (apply slr_exh; focus assumption) | (apply slr_exh0; focus assumption) | apply slr_next)))); done))); (focus (first | (simp only [maxLen] at *; omega) | (simp [maxLen] at *; omega))); (focus (first | (simp only [maxLen] at *; omega) | (simp [maxLen] at *; omega))); clear hs; (try clear w); intro Ap cq w hs; (try simp only [List.length_nil, Nat.zero_add, List.nil_append] at hs ⊢); simp only [Act.put, zg, zh, zi]))
    (go_ret; simp only [za, zb, zc, zd, ze, zf])
    exact ⟨_, rfl, hs.mono (ent_ex (⟨_, _, _⟩ : SlD) (by dsimp only; ((repeat (first | (with_reducible (first | exact ent_refl | exact ent_emp)) | ((with_reducible apply ent_front); (focus with_reducible (repeat (first | exact ent_here | apply ent_next | exact ent_last)); done)) | (with_reducible (first | exact ent_keep | apply ent_trans ent_drop)))); done)))⟩
  · have hps : ts = pushS ts := by unfold pushS; rw [if_neg (by omega)]
    have hb1 : (n : Int) < 64 := by omega
    have hsl : ∀ R, SlR (row 22 1 slv (.slice A n ca) ts * R) 1 slv _ (pushS ts) := fun R => by
      rw [← hps]
      exact slr_row slv_size
    have hpb : (pushS ts).length ≤ 1000 := by rw [← hps]; omega
    replace hn := Lib.hid hn
    clear hps
    go_enter Tryd.func54, Tryd.ntmps54
    go_wp2_with (first
        | ((with_reducible apply pl_bs1 hs); (with_reducible (first | exact bst_22 | exact bst_50)); (focus (simp only [Act.eval, za, zb, zc, zd, ze, zf]; (try with_reducible rfl); done)); (focus (first | (with_reducible (first | exact cells_slv _ _ _ | exact cells_intv _ | exact cells_agg _ | exact cells_int _ _ | exact cells_bool _ | exact cells_string _ | exact cells_slice _ _ _ | exact cells_pointer _ | exact cells_map _ | exact cells_iface _ _ | exact cells_nilIface | exact cells_func _ _ _)) | (exact cells_one (by assumption)))); (focus (first | (with_reducible rfl) | (simp only [go_sem]; done) | (simp; done))); clear hs; (try clear w); intro g w hs; skip; simp only [Act.put, zg, zh, zi])
        | ((with_reducible apply pl_bs0r hs); (with_reducible (first | exact app_22 | exact app_50)); clear hs; (try clear w); intro g w hs; skip; simp only [Act.put, zg, zh, zi])
        | ((with_reducible apply pl_appCut hs); (with_reducible (first | exact app_22 | exact app_41 | exact app_42 | exact app_47 | exact app_50)); (focus (simp only [Act.eval, za, zb, zc, zd, ze, zf]; (try with_reducible rfl); done)); (focus with_reducible (repeat (first | exact ent_here | apply ent_next | exact ent_last)); done); (focus (simp only [Act.eval, za, zb, zc, zd, ze, zf]; (try with_reducible rfl); done)); (focus (first | ((repeat (first | (with_reducible (first | assumption |  exact hsl _ | exact hsl2 _ | exact hsl3 _ _ _ | exact slr_nil | exact slr_row (fun _ => by simp only [go_sem]) | exact slr_one (fun _ => by simp only [go_sem]) | (apply slr_left; assumption))) | (with_reducible apply slr_next))); done) | ((repeat (first | (with_reducible (first | assumption |  exact hsl _ | exact hsl2 _ | exact hsl3 _ _ _ | exact slr_nil | exact slr_row (fun _ => by simp only [go_sem]) | exact slr_one (fun _ => by simp only [go_sem]) | (apply slr_left; assumption))) | (with_reducible (first | (apply slr_exh; focus assumption) | (apply slr_exh0; focus assumption) | apply slr_next)))); done))); (focus (first | (with_reducible assumption) | omega | (simp; done) | (simp; omega))); (focus (first | (with_reducible assumption) | omega | (simp; done) | (simp; omega))); clear hs; (try clear w); intro w hs; (try simp only [happ] at hs ⊢); simp only [Act.put, zg, zh, zi])
        | ((with_reducible apply pl_append1 hs); (with_reducible (first | exact app_22 | exact app_41 | exact app_42 | exact app_47 | exact app_50)); (focus (simp only [Act.eval, za, zb, zc, zd, ze, zf]; (try with_reducible rfl); done)); (first | (focus with_reducible (repeat (first | exact ent_here | apply ent_next | exact ent_last)); done) | (focus (with_reducible exact ent_row_nil)) | (focus ((with_reducible apply ent_row_of_blk); (focus with_reducible (repeat (first | exact ent_here | apply ent_next | exact ent_last)); done); (focus (simp only [go_sem]))))); (focus (simp only [Act.eval, za, zb, zc, zd, ze, zf]; (try with_reducible rfl); done)); (focus ((repeat (first | (with_reducible (first | assumption | exact hel _ | exact hel2 _ | exact hel3 _)) | ((with_reducible apply reads_whole); (focus (first | (with_reducible rfl) | (simp only [go_sem]; done) | (simp; done)))) | ((with_reducible apply reads_part); (focus (first | (simp [go_sem]; done) | (simp only [go_sem]; omega) | go_size)); (focus (first | (simp only [Nat.reduceAdd, Nat.zero_add, go_sem]; (try with_reducible rfl); done) | (simp [go_sem]; (try with_reducible rfl); done)))) | (with_reducible (first | (apply reads_left; assumption) | refine reads_exh (by assumption) ?_ | refine reads_exh0 (by assumption) ?_ | apply reads_next)))); done)); (focus (first | (simp only [maxLen] at *; omega) | (simp [maxLen] at *; omega))); (focus (first | (simp only [maxLen] at *; omega) | (simp [maxLen] at *; omega))); clear hs; (try clear w); intro Ap cq w hs; skip; simp only [Act.put, zg, zh, zi])
        | ((with_reducible apply pl_appendN hs); (with_reducible (first | exact app_22 | exact app_41 | exact app_42 | exact app_47 | exact app_50)); (focus (simp only [Act.eval, za, zb, zc, zd, ze, zf]; (try with_reducible rfl); done)); (first | (focus with_reducible (repeat (first | exact ent_here | apply ent_next | exact ent_last)); done) | (focus (with_reducible exact ent_row_nil)) | (focus ((with_reducible apply ent_row_of_blk); (focus with_reducible (repeat (first | exact ent_here | apply ent_next | exact ent_last)); done); (focus (simp only [go_sem]))))); (focus (simp only [Act.eval, za, zb, zc, zd, ze, zf]; (try with_reducible rfl); done)); (focus (first | ((repeat (first | (with_reducible (first | assumption |  exact hsl _ | exact hsl2 _ | exact hsl3 _ _ _ | exact slr_nil | exact slr_row (fun _ => by simp only [go_sem]) | exact slr_one (fun _ => by simp only [go_sem]) | (apply slr_left; assumption))) | (with_reducible apply slr_next))); done) | ((repeat (first | (with_reducible (first | assumption |  exact hsl _ | exact hsl2 _ | exact hsl3 _ _ _ | exact slr_nil | exact slr_row (fun _ => by simp only [go_sem]) | exact slr_one (fun _ => by simp only [go_sem]) | (apply slr_left; assumption))) | (with_reducible (first | (apply slr_exh; focus assumption) | (apply slr_exh0; focus assumption) | apply slr_next)))); done))); (focus (first | (simp only [maxLen] at *; omega) | (simp [maxLen] at *; omega))); (focus (first | (simp only [maxLen] at *; omega) | (simp [maxLen] at *; omega))); clear hs; (try clear w); intro Ap cq w hs; (try simp only [List.length_nil, Nat.zero_add, List.nil_append] at hs ⊢); simp only [Act.put, zg, zh, zi]))
    (go_ret; simp only [za, zb, zc, zd, ze, zf])
    exact ⟨_, rfl, hs.mono (ent_ex (⟨_, _, _⟩ : SlD) (by dsimp only; ((repeat (first | (with_reducible (first | exact ent_refl | exact ent_emp)) | ((with_reducible apply ent_front); (focus with_reducible (repeat (first | exact ent_here | apply ent_next | exact ent_last)); done)) | (with_reducible (first | exact ent_keep | apply ent_trans ent_drop)))); done)))⟩
theorem rows_push {ts : List SlD} {dn : List (List ChgD)} {t : SlD} {l : List ChgD} {F : HP} (h : ts.length = dn.length) :
    Ent (rowsOf 33 4 chg ts dn * (row 33 4 chg (.slice t.p t.n t.c) l * F)) (rowsOf 33 4 chg (pushS ts ++ [t]) (pushL dn l) * F) := by
  unfold pushS pushL pushB
  by_cases hb : 64 ≤ ts.length
  · rw [if_pos hb, if_pos (by omega), rowsOf_snoc _ _ (by simp [h]), rowsOf_split h 1]
    simp only [star_assoc]
    exact ent_drop
  · rw [if_neg hb, if_neg (by omega), rowsOf_snoc _ _ h]
    simp only [star_assoc]
    exact ent_refl
set_option maxRecDepth 20000 in
set_option maxHeartbeats 1000000 in
theorem rPush_s (c0 : World) (F : HP) (gs : Nat) (dn un : List (List ChgD)) (v : Value) (l : List ChgD) : Spec Tryd.prog c0 43 #[.pointer (some ⟨gs, 0, none⟩), v]
    (pu (SlR F 4 chg v l ∧ 0 < l.length ∧ l.length ≤ 4398046510976 ∧ dn.length ≤ 64) (rstk gs dn un * F)) (fun _ => rstk gs (pushL dn l) [] * F) := by
  intro w hq; obtain ⟨⟨hv, hl0, hl1, hd9⟩, hs⟩ := hq.pu; clear hq
  obtain ⟨V, cv, rfl⟩ := slr_form hv (hs.own.mono ent_drop)
  obtain ⟨A, n, c, ts, B, m, d, us, ht, hu, rfl, rfl, hc1, hc2, hd1, hd2, hs⟩ := rstk_open hs
  unfold rstkO at hs
  have ht2 : ts.length ≤ 64 := by omega
  replace ht := Lib.hid ht
  replace hu := Lib.hid hu
  go_enter Tryd.func43, Tryd.ntmps43
  go_wp2_with (first
        | ((with_reducible apply pl_call hs (rpush0_s _ _ _ _ _ _ ts l)); (go_must (((focus (simp only [zj, zk, zl, List.append_toArray, List.nil_append, List.cons_append, Act.eval, za, zb, zc, zd, ze, zf]; (try with_reducible rfl); done)); (focus ((repeat (first | (with_reducible (first | exact ent_refl | apply ent_puR)) | ((with_reducible apply ent_front); (focus with_reducible (repeat (first | exact ent_here | apply ent_next | exact ent_last)); done)) | (with_reducible (first | exact ent_keep | apply ent_trans ent_drop)) | (focus (first | (with_reducible assumption) | (focus (first | ((repeat (first | (with_reducible (first | assumption |  exact hsl _ | exact hsl2 _ | exact hsl3 _ _ _ | exact slr_nil | exact slr_row (fun _ => by simp only [go_sem]) | exact slr_one (fun _ => by simp only [go_sem]) | (apply slr_left; assumption))) | (with_reducible apply slr_next))); done) | ((repeat (first | (with_reducible (first | assumption |  exact hsl _ | exact hsl2 _ | exact hsl3 _ _ _ | exact slr_nil | exact slr_row (fun _ => by simp only [go_sem]) | exact slr_one (fun _ => by simp only [go_sem]) | (apply slr_left; assumption))) | (with_reducible (first | (apply slr_exh; focus assumption) | (apply slr_exh0; focus assumption) | apply slr_next)))); done))) | (focus ((repeat (first | (with_reducible (first | assumption | exact hec _ | exact hec2 _ | exact hec3 _ | exact hec4 _ _)) | ((with_reducible apply readc_here); (focus (first | (simp only [zc, zd, ze, go_sem]; (try with_reducible rfl); done) | (go_simp; (try with_reducible rfl); done)))) | (with_reducible (first | (apply readc_left; assumption) | refine readc_exh (by assumption) ?_ | refine readc_exh0 (by assumption) ?_ | apply readc_next)))); done)) | (focus ((repeat (first | (with_reducible (first | assumption | exact hel _ | exact hel2 _ | exact hel3 _)) | ((with_reducible apply reads_whole); (focus (first | (with_reducible rfl) | (simp only [go_sem]; done) | (simp; done)))) | ((with_reducible apply reads_part); (focus (first | (simp [go_sem]; done) | (simp only [go_sem]; omega) | go_size)); (focus (first | (simp only [Nat.reduceAdd, Nat.zero_add, go_sem]; (try with_reducible rfl); done) | (simp [go_sem]; (try with_reducible rfl); done)))) | (with_reducible (first | (apply reads_left; assumption) | refine reads_exh (by assumption) ?_ | refine reads_exh0 (by assumption) ?_ | apply reads_next)))); done)) | (focus (with_reducible (repeat (first | assumption | (apply ErrA.left; assumption) | refine ErrA.exh (by assumption) ?_ | refine ErrA.exh0 (by assumption) ?_ | apply ErrA.next)); done)) | ((repeat' (first | (with_reducible assumption) | (with_reducible apply And.intro) | omega | (focus (first | ((repeat (first | (with_reducible (first | assumption |  exact hsl _ | exact hsl2 _ | exact hsl3 _ _ _ | exact slr_nil | exact slr_row (fun _ => by simp only [go_sem]) | exact slr_one (fun _ => by simp only [go_sem]) | (apply slr_left; assumption))) | (with_reducible apply slr_next))); done) | ((repeat (first | (with_reducible (first | assumption |  exact hsl _ | exact hsl2 _ | exact hsl3 _ _ _ | exact slr_nil | exact slr_row (fun _ => by simp only [go_sem]) | exact slr_one (fun _ => by simp only [go_sem]) | (apply slr_left; assumption))) | (with_reducible (first | (apply slr_exh; focus assumption) | (apply slr_exh0; focus assumption) | apply slr_next)))); done))) | (focus ((repeat (first | (with_reducible (first | assumption | exact hec _ | exact hec2 _ | exact hec3 _ | exact hec4 _ _)) | ((with_reducible apply readc_here); (focus (first | (simp only [zc, zd, ze, go_sem]; (try with_reducible rfl); done) | (go_simp; (try with_reducible rfl); done)))) | (with_reducible (first | (apply readc_left; assumption) | refine readc_exh (by assumption) ?_ | refine readc_exh0 (by assumption) ?_ | apply readc_next)))); done)) | (focus ((repeat (first | (with_reducible (first | assumption | exact hel _ | exact hel2 _ | exact hel3 _)) | ((with_reducible apply reads_whole); (focus (first | (with_reducible rfl) | (simp only [go_sem]; done) | (simp; done)))) | ((with_reducible apply reads_part); (focus (first | (simp [go_sem]; done) | (simp only [go_sem]; omega) | go_size)); (focus (first | (simp only [Nat.reduceAdd, Nat.zero_add, go_sem]; (try with_reducible rfl); done) | (simp [go_sem]; (try with_reducible rfl); done)))) | (with_reducible (first | (apply reads_left; assumption) | refine reads_exh (by assumption) ?_ | refine reads_exh0 (by assumption) ?_ | apply reads_next)))); done)) | (focus (with_reducible (repeat (first | assumption | (apply ErrA.left; assumption) | refine ErrA.exh (by assumption) ?_ | refine ErrA.exh0 (by assumption) ?_ | apply ErrA.next)); done)) | (simp; done) | (simp; omega))); done) | (with_reducible rfl) | omega | go_size | (simp [go_sem]; done))))); done)); (focus (simp only [go_sem]))))); clear hs; (try clear w); intro v w hq; (obtain ⟨⟨X, nx, cx⟩, hs⟩ := hq.ex; dsimp only at hs; obtain ⟨A2, c2, rfl, _, _⟩ := row_slice hs.own); clear hq; (try simp only [star_assoc, star_emp, emp_star] at hs); (try simp only [Act.put, zg, zh, zi]))
        | ((with_reducible apply pl_load1 hs); (focus (simp only [Act.eval, za, zb, zc, zd, ze, zf]; (try with_reducible rfl); done)); (focus (simp only [go_sem])); (focus ((repeat (first | (with_reducible (first | assumption | exact hec _ | exact hec2 _ | exact hec3 _ | exact hec4 _ _)) | ((with_reducible apply readc_here); (focus (first | (simp only [zc, zd, ze, go_sem]; (try with_reducible rfl); done) | (go_simp; (try with_reducible rfl); done)))) | (with_reducible (first | (apply readc_left; assumption) | refine readc_exh (by assumption) ?_ | refine readc_exh0 (by assumption) ?_ | apply readc_next)))); done)); (focus rfl); simp only [Act.put, zg, zh, zi])
        | ((with_reducible apply pl_store1 hs); (focus (simp only [Act.eval, za, zb, zc, zd, ze, zf]; (try with_reducible rfl); done)); (focus (simp only [Act.eval, za, zb, zc, zd, ze, zf]; (try with_reducible rfl); done)); (focus (simp only [go_sem])); (focus with_reducible (repeat (first | exact ent_here | apply ent_next | exact ent_last)); done); (focus (first | (simp [go_sem]; done) | (simp only [go_sem]; omega) | go_size)); (focus (first | (simp only [go_sem]; done) | (simp [go_sem]; done))); clear hs; (try clear w); intro w hs; (try simp only [zg, zh, zi, idv_s0, idv_s1, idv_s2, chg_s0, chg_s1, chg_s2, chg_s3, uop_s0, uop_s1, uop_s2, prv_s0, prv_s1, lnk_s0, lnk_s1, lnk_s2, nov_s0, nov_s1, nov_s2, slv_set, intv_set] at hs); simp only [Act.put, zg, zh, zi]))
  refine bodyPost_end (results_none rfl _ _ _) rfl ?_
  refine ⟨_, rfl, hs.mono ?_⟩
  refine ent_trans (B := blk gs (.cells #[.slice A2 (pushS ts ++ [(⟨X, nx, cx⟩ : SlD)]).length c2, .slice none 0 0] 52 (0, 0)) * (row 22 1 slv (.slice A2 (pushS ts ++ [(⟨X, nx, cx⟩ : SlD)]).length c2) (pushS ts ++ [⟨X, nx, cx⟩]) * (rowsOf 33 4 chg ts dn * (row 33 4 chg (.slice X nx cx) l * F)))) (by ((repeat (first | (with_reducible (first | exact ent_refl | exact ent_emp)) | ((with_reducible apply ent_front); (focus with_reducible (repeat (first | exact ent_here | apply ent_next | exact ent_last)); done)) | (with_reducible (first | exact ent_keep | apply ent_trans ent_drop)))); done)) ?_
  refine ent_trans ?_ (rstk_shut (A := A2) (n := (pushS ts ++ [(⟨X, nx, cx⟩ : SlD)]).length) (c := c2) (ts := pushS ts ++ [⟨X, nx, cx⟩]) (B := none) (m := 0) (d := 0) (us := []))
  unfold rstkO
  refine star_mono ent_refl (star_mono ent_refl (ent_trans (rows_push (t := ⟨X, nx, cx⟩) ht.out) (star_mono ent_refl ?_)))
  refine ent_trans ent_row_nil (star_mono ent_refl ?_)
  unfold rowsOf
  rw [emp_star]
  exact ent_refl
theorem rPush0_s (c0 : World) (F : HP) (gs : Nat) (v : Value) : Spec Tryd.prog c0 43 #[.pointer (some ⟨gs, 0, none⟩), v]
    (pu (SlR F 4 chg v ([] : List ChgD)) F) (fun _ => F) := by
  intro w hq; obtain ⟨hv, hs⟩ := hq.pu; clear hq
  obtain ⟨V, cv, rfl⟩ := slr_form hv hs.own
  dsimp only [List.length_nil]
  go_enter Tryd.func43, Tryd.ntmps43
  go_wp2_with (first
        | ((with_reducible apply pl_load1 hs); (focus (simp only [Act.eval, za, zb, zc, zd, ze, zf]; (try with_reducible rfl); done)); (focus (simp only [go_sem])); (focus ((repeat (first | (with_reducible (first | assumption | exact hec _ | exact hec2 _ | exact hec3 _ | exact hec4 _ _)) | ((with_reducible apply readc_here); (focus (first | (simp only [zc, zd, ze, go_sem]; (try with_reducible rfl); done) | (go_simp; (try with_reducible rfl); done)))) | (with_reducible (first | (apply readc_left; assumption) | refine readc_exh (by assumption) ?_ | refine readc_exh0 (by assumption) ?_ | apply readc_next)))); done)); (focus rfl); simp only [Act.put, zg, zh, zi])
        | ((with_reducible apply pl_store1 hs); (focus (simp only [Act.eval, za, zb, zc, zd, ze, zf]; (try with_reducible rfl); done)); (focus (simp only [Act.eval, za, zb, zc, zd, ze, zf]; (try with_reducible rfl); done)); (focus (simp only [go_sem])); (focus with_reducible (repeat (first | exact ent_here | apply ent_next | exact ent_last)); done); (focus (first | (simp [go_sem]; done) | (simp only [go_sem]; omega) | go_size)); (focus (first | (simp only [go_sem]; done) | (simp [go_sem]; done))); clear hs; (try clear w); intro w hs; (try simp only [zg, zh, zi, idv_s0, idv_s1, idv_s2, chg_s0, chg_s1, chg_s2, chg_s3, uop_s0, uop_s1, uop_s2, prv_s0, prv_s1, lnk_s0, lnk_s1, lnk_s2, nov_s0, nov_s1, nov_s2, slv_set, intv_set] at hs); simp only [Act.put, zg, zh, zi]))
  exact bodyPost_ret (results_none rfl _ _ _) rfl ⟨_, rfl, hs⟩
end Go.Proofs.YtflibhphpnajeaaDoor
