/- undo.Load. -/
import Derived.Test.YtflibhphpnajeaaDoorZUC6BD
import Derived.Test.YtflibhphpnajeaaDoorZUC6BE
import Derived.Test.YtflibhphpnajeaaDoorZUC6BF
set_option linter.unusedSimpArgs false
set_option linter.unusedVariables false
namespace Go.Proofs.YtflibhphpnajeaaDoor
open Go Go.RowKit

/-- Rows lie where they are said to. -/
structure PS (ts : List SlD) (ls : List (List ChgD)) (F : HP) : Prop where
  at_ : ∀ (i : Nat) (t : SlD) (l : List ChgD), ts[i]? = some t → ls[i]? = some l → SlR F 4 chg (.slice t.p t.n t.c) l
theorem PS.next {A R : HP} {ts : List SlD} {ls : List (List ChgD)} (h : PS ts ls R) : PS ts ls (A * R) := ⟨fun i t l a b => slr_next (h.at_ i t l a b)⟩
theorem PS.left {A R : HP} {ts : List SlD} {ls : List (List ChgD)} (h : PS ts ls A) : PS ts ls (A * R) := ⟨fun i t l a b => slr_left (h.at_ i t l a b)⟩
theorem PS.exh {hR : Hp} {H A : HP} {ts : List SlD} {ls : List (List ChgD)} (hh : H.on hR) (h : PS ts ls H) : PS ts ls (Exh hR * A) := ⟨fun i t l a b => slr_exh hh (h.at_ i t l a b)⟩
theorem PS.exh0 {hR : Hp} {H : HP} {ts : List SlD} {ls : List (List ChgD)} (hh : H.on hR) (h : PS ts ls H) : PS ts ls (Exh hR) := ⟨fun i t l a b => slr_exh0 hh (h.at_ i t l a b)⟩
theorem copied2_s (c0 : World) (F : HP) (v : Value) (ts : List SlD) (ls : List (List ChgD)) (h1 : ts.length = ls.length) (h2 : ls.length ≤ 4398046510976) (h3 : Len2 ls) : Spec Tryd.prog c0 34 #[v] (pu (SlR F 1 slv v ts ∧ PS ts ls F) F) (fun r => rows2 22 33 4 chg r ls * F) := fun w hs => by
  obtain ⟨⟨e1, e2⟩, hs⟩ := hs.pu
  exact copied_s c0 F v ls w (hs.mono (ent_pu ⟨⟨ts, e1, h1, e2.at_⟩, h2, h3⟩ ent_refl))
abbrev unB : ByteArray := ⟨#[117, 110, 100, 111]⟩
abbrev loB : ByteArray := ⟨#[76, 111, 97, 100]⟩
/-- What Load answers. -/
def LdR (a : Nat → Addr) (dn un : List (List ChgD)) (F : HP) (r : Value) : HP := match loadR dn un with
  | none => ex fun gs : Nat => pu (r = .tuple #[.pointer (some ⟨gs, 0, none⟩), .nilIface]) (stk gs dn un * F)
  | some (i, k) => ex fun e : Value => pu (r = .tuple #[.pointer none, e]) (RefP a (some ([⟨unB, loB, atV (i : Nat)⟩], k)) e * F)
theorem ldR_no {a : Nat → Addr} {dn un : List (List ChgD)} {F : HP} {i k : Nat} {p : Int} {e : Value} (h : loadR dn un = some (i, k)) (hp : p = (i : Nat)) : Ent (RefP a (some ([⟨unB, loB, atV p⟩], k)) e * F) (LdR a dn un F (.tuple #[.pointer none, e])) := by
  subst hp; unfold LdR; rw [h]; exact ent_ex e (ent_pu rfl ent_refl)
theorem ldR_ok {a : Nat → Addr} {dn un : List (List ChgD)} {F : HP} {gs : Nat} (h : loadR dn un = none) : Ent (stk gs dn un * F) (LdR a dn un F (.tuple #[.pointer (some ⟨gs, 0, none⟩), .nilIface])) := by
  unfold LdR; rw [h]; exact ent_ex gs (ent_pu rfl ent_refl)
set_option maxRecDepth 20000 in
set_option maxHeartbeats 8000000 in
theorem load_s (c0 : World) (F : HP) (a : Nat → Addr) (u v : Value) (ts us : List SlD) (dn un : List (List ChgD)) : Spec Tryd.prog c0 29 #[u, v]
    (pu (SlR F 1 slv u ts ∧ SlR F 1 slv v us ∧ PS ts dn F ∧ PS us un F ∧ ts.length = dn.length ∧ us.length = un.length ∧ Len2 dn ∧ Len2 un ∧ dn.length ≤ 70 ∧ un.length ≤ 70 ∧ ErrA F a) F) (LdR a dn un F) := by
  intro w hq; obtain ⟨⟨h1, h4, h3, h6, h2, h5, hd, hu, hl1, hl2, hE⟩, hs⟩ := hq.pu; clear hq
  obtain ⟨A, ca, rfl⟩ := slr_form h1 hs.own
  obtain ⟨B, cb, rfl⟩ := slr_form h4 hs.own
  have hmx : 0 ≤ maxLen := Nat.zero_le _
  have hga : ReadC F 0 0 (.iface 112 (.pointer (some (a 1)))) := hE.ad 1 (by omega) (by omega)
  have hgf : ReadC F 1 0 (.iface 112 (.pointer (some (a 6)))) := hE.ad 6 (by omega) (by omega)
  have hcd := fun F v => copied2_s c0 F v ts dn h2 (by omega) hd
  have hcu := fun F v => copied2_s c0 F v us un h5 (by omega) hu
  have hap := sl2_append h2 h3.at_ h6.at_
  have hnl : (ts ++ us).length = ts.length + us.length := List.length_append
  have hml : (dn ++ un).length = ts.length + us.length := by rw [List.length_append, h2, h5]
  have hmany0 : (64 < dn.length + un.length) = (64 < ts.length + us.length) := by rw [h2, h5]
  have hmany1 := fun h => loadR_many (dn := dn) (un := un) h
  rw [← h2] at hl1
  rw [← h5] at hl2
  by_cases hmany : 64 < ts.length + us.length
  · have hmI : (64 : Int) < (ts.length : Int) + (us.length : Int) := by omega
    have hR := hmany1 (by rw [hmany0]; exact hmany)
    rw [← h2, ← h5] at hR
    clear hmany0 hmany1 hcd hcu hap hnl hml h2 h5
    generalize ts.length = n at *
    generalize us.length = m at *
    replace hR := Lib.hid hR
    go_enter Tryd.func29, Tryd.ntmps29
    go_wp2_with (first
        | ((with_reducible apply pl_call hs (fnewR_s _ _ a _ _ _ 1)); ((((focus (simp only [zj, zk, zl, List.append_toArray, List.nil_append, List.cons_append, Act.eval, za, zb, zc, zd, ze, zf]; (try with_reducible rfl); done)); (focus ((repeat (first | (with_reducible (first | exact ent_refl | apply ent_puR)) | ((with_reducible apply ent_front); (focus with_reducible (repeat (first | exact ent_here | apply ent_next | exact ent_last)); done)) | (with_reducible (first | exact ent_keep | apply ent_trans ent_drop)) | (focus (first | ((repeat' (first | (with_reducible apply And.intro) | omega)); done))))); done)); (focus (simp only [go_sem]))))); clear hs; (try clear w); intro v w hq; (have hs := hq); clear hq; (try simp only [star_assoc, star_emp, emp_star] at hs); (try simp only [Act.put, zg, zh, zi]))
        | ((with_reducible apply pl_load1 hs); (focus (simp only [Act.eval, za, zb, zc, zd, ze, zf]; (try with_reducible rfl); done)); (focus (simp only [go_sem])); (focus ((repeat (first | (with_reducible (first | assumption | exact hec _ | exact hec2 _ | exact hec3 _ | exact hec4 _ _)) | ((with_reducible apply readc_here); (focus (first | (simp only [zc, zd, ze, go_sem]; (try with_reducible rfl); done) | (go_simp; (try with_reducible rfl); done)))) | (with_reducible (first | (apply readc_left; assumption) | refine readc_exh (by assumption) ?_ | refine readc_exh0 (by assumption) ?_ | apply readc_next)))); done)); (focus rfl); simp only [Act.put, zg, zh, zi]))
    (go_ret2; simp only [za, zb, zc, zd, ze, zf])
    exact ⟨_, rfl, hs.mono (ent_trans (by ((repeat (first | (with_reducible (first | exact ent_refl | exact ent_emp)) | ((with_reducible apply ent_front); (focus with_reducible (repeat (first | exact ent_here | apply ent_next | exact ent_last)); done)) | (with_reducible (first | exact ent_keep | apply ent_trans ent_drop)))); done)) (ldR_no hR.out (by omega)))⟩
  · have hmI : ¬ (64 : Int) < (ts.length : Int) + (us.length : Int) := by omega
    have hnm : ¬ 64 < dn.length + un.length := by rw [hmany0]; exact hmany
    clear hmany0 hmany1
    replace h2 := Lib.hid h2
    replace h5 := Lib.hid h5
    replace hap := Lib.hid hap
    have hcon : ∀ F g, Spec Tryd.prog c0 50 #[.slice (some ⟨g, 0, none⟩) 2 2] (pu (SlR F 1 slv (.slice (some ⟨g, 0, none⟩) 2 2) [⟨A, ts.length, ca⟩, ⟨B, us.length, cb⟩] ∧ SlR F 1 slv (.slice A ts.length ca) ts ∧ SlR F 1 slv (.slice B us.length cb) us) F) (fun r => row 22 1 slv r (ts ++ us) * F) := fun F g w hs => by
      obtain ⟨⟨e1, e2, e3⟩, hs⟩ := hs.pu
      exact concat2_s c0 F _ _ _ ts us w (hs.mono (ent_pu ⟨e1, e2, e3, by omega⟩ ent_refl))
    generalize ts.length = n at *
    generalize us.length = m at *
    replace hnl := Lib.hid hnl
    replace hml := Lib.hid hml
    go_enter Tryd.func29, Tryd.ntmps29
    go_wp2_with (first
        | (((with_reducible apply pl_bsL (enc := slv) (s := 1) (E := 50) ([⟨A, n, ca⟩, ⟨B, m, cb⟩] : List SlD) hs); (focus (intro w; go_simp; (try rfl); done)); (focus rfl); (focus rfl); (focus rfl); (focus (simp only [maxLen]; omega)); clear hs; (try clear w); intro gb w hs; simp only [Act.put, zg, zh, zi]))
        | ((with_reducible apply pl_call hs (hcon _ _)); ((((focus (simp only [zj, zk, zl, List.append_toArray, List.nil_append, List.cons_append, Act.eval, za, zb, zc, zd, ze, zf]; (try with_reducible rfl); done)); (focus ((repeat (first | (with_reducible (first | exact ent_refl | apply ent_puR)) | ((with_reducible apply ent_front); (focus with_reducible (repeat (first | exact ent_here | apply ent_next | exact ent_last)); done)) | (with_reducible (first | exact ent_keep | apply ent_trans ent_drop)) | (focus (first | ((repeat' (first | (with_reducible apply And.intro) | (focus (first | ((repeat (first | (with_reducible (first | assumption |  exact hsl _ | exact hsl2 _ | exact hsl3 _ _ _ | exact slr_nil | exact slr_row (fun _ => by simp only [go_sem]) | exact slr_one (fun _ => by simp only [go_sem]) | (apply slr_left; assumption))) | (with_reducible apply slr_next))); done) | ((repeat (first | (with_reducible (first | assumption |  exact hsl _ | exact hsl2 _ | exact hsl3 _ _ _ | exact slr_nil | exact slr_row (fun _ => by simp only [go_sem]) | exact slr_one (fun _ => by simp only [go_sem]) | (apply slr_left; assumption))) | (with_reducible (first | (apply slr_exh; focus assumption) | (apply slr_exh0; focus assumption) | apply slr_next)))); done))))); done))))); done)); (focus (simp only [go_sem]))))); clear hs; (try clear w); intro v w hq; (have hs := hq; obtain ⟨Ar, cr, he, hr1, hr2⟩ := row_slice hs.own; rw [hnl.out] at he; subst he); clear hq; (try simp only [star_assoc, star_emp, emp_star] at hs); (try simp only [Act.put, zg, zh, zi])))
    go_loopw [24] (fun iv wr => ∃ k : Nat, k ≤ n + m ∧ iv = .int .i64 k ∧ Hid (∀ (j : Nat) x, j < k → (dn ++ un)[j]? = some x → badB x = false) ∧ Sat c0 (row 22 1 slv (.slice Ar (n + m) cr) (ts ++ us) * F) wr) (fun iv _ => (n + m) - (intOf iv).toNat)
    case atStart => exact ⟨0, by omega, rfl, Lib.hid fun j x hj => absurd hj (by omega), hs.mono (by ((repeat (first | (with_reducible (first | exact ent_refl | exact ent_emp)) | ((with_reducible apply ent_front); (focus with_reducible (repeat (first | exact ent_here | apply ent_next | exact ent_last)); done)) | (with_reducible (first | exact ent_keep | apply ent_trans ent_drop)))); done))⟩
    case round =>
      clear hs
      obtain ⟨k, hk, rfl, hpre, hs⟩ := hrel
      by_cases hlt : k < n + m
      · have hkI : (k : Int) < (n : Int) + (m : Int) := by omega
        obtain ⟨g, t, rfl, hta, hel⟩ := row_at hs.own slv_size hlt
        have hkl : k < (dn ++ un).length := by rw [hml.out]; exact hlt
        have hla := List.getElem?_eq_getElem hkl
        generalize (dn ++ un)[k] = l at hla
        have hsl := hap.out k t l hta hla
        have hec : ∀ R, ReadC (row 22 1 slv (.slice (some ⟨g, 0, none⟩) (n + m) cr) (ts ++ us) * R) g (k * 1) (.slice t.p t.n t.c) := fun R => (hel R).cell (i := 0) (by omega) (slv_0 t)
        rw [Nat.mul_one] at hec
        obtain ⟨hln, _⟩ := slr_len hsl (hs.own.mono ent_drop)
        clear hel hta
        obtain ⟨p, q, c⟩ := t
        dsimp only at hsl hec hln
        by_cases hb : badB l = true
        · have hR := loadR_bad hnm hla hb hpre.out
          replace hR := Lib.hid hR
          rw [badB_odd] at hb
          by_cases hq0 : q = 0
          · have hqI : (q : Int) ≤ 0 := by omega
            clear hb hla
            replace hln := Lib.hid hln
            go_wp2_with (first
        | ((with_reducible apply pl_call hs (fnewR_s _ _ a _ _ _ 6)); ((((focus (simp only [zj, zk, zl, List.append_toArray, List.nil_append, List.cons_append, Act.eval, za, zb, zc, zd, ze, zf]; (try with_reducible rfl); done)); (focus ((repeat (first | (with_reducible (first | exact ent_refl | apply ent_puR)) | ((with_reducible apply ent_front); (focus with_reducible (repeat (first | exact ent_here | apply ent_next | exact ent_last)); done)) | (with_reducible (first | exact ent_keep | apply ent_trans ent_drop)) | (focus (first | ((repeat' (first | (with_reducible apply And.intro) | omega)); done))))); done)); (focus (simp only [go_sem]))))); clear hs; (try clear w); intro v w hq; (have hs := hq); clear hq; (try simp only [star_assoc, star_emp, emp_star] at hs); (try simp only [Act.put, zg, zh, zi]))
        | ((with_reducible apply pl_load1 hs); (focus (simp only [Act.eval, za, zb, zc, zd, ze, zf]; (try with_reducible rfl); done)); (focus (simp only [go_sem])); (focus ((repeat (first | (with_reducible (first | assumption | exact hec _ | exact hec2 _ | exact hec3 _ | exact hec4 _ _)) | ((with_reducible apply readc_here); (focus (first | (simp only [zc, zd, ze, go_sem]; (try with_reducible rfl); done) | (go_simp; (try with_reducible rfl); done)))) | (with_reducible (first | (apply readc_left; assumption) | refine readc_exh (by assumption) ?_ | refine readc_exh0 (by assumption) ?_ | apply readc_next)))); done)); (focus rfl); simp only [Act.put, zg, zh, zi]))
            (go_ret2; simp only [za, zb, zc, zd, ze, zf])
            exact ⟨_, rfl, hs.mono (ent_trans (by ((repeat (first | (with_reducible (first | exact ent_refl | exact ent_emp)) | ((with_reducible apply ent_front); (focus with_reducible (repeat (first | exact ent_here | apply ent_next | exact ent_last)); done)) | (with_reducible (first | exact ent_keep | apply ent_trans ent_drop)))); done)) (ldR_no hR.out rfl))⟩
          · have hqI : (1 : Int) ≤ (q : Int) := by omega
            have hod : decide (0 ≤ oddI l) = true := by rw [decide_eq_false (show ¬ l.length = 0 by omega), Bool.false_or] at hb; exact hb
            have hco := fun F v => contains_s c0 F v l
            rw [hod] at hco
            clear hb hla hod
            replace hln := Lib.hid hln
            go_wp2_with (first
        | ((with_reducible apply pl_guard_f); (focus rfl); (focus rfl); all_goals (intro hb; first | (cases hb; done) | ((try simp at hb); first | contradiction | ((have hF : False := (by omega)); (cases hF; done)) | (simp only [Act.put, zg, zh, zi]))))
        | ((with_reducible apply pl_call hs (fnewR_s _ _ a _ _ _ 6)); ((((focus (simp only [zj, zk, zl, List.append_toArray, List.nil_append, List.cons_append, Act.eval, za, zb, zc, zd, ze, zf]; (try with_reducible rfl); done)); (focus ((repeat (first | (with_reducible (first | exact ent_refl | apply ent_puR)) | ((with_reducible apply ent_front); (focus with_reducible (repeat (first | exact ent_here | apply ent_next | exact ent_last)); done)) | (with_reducible (first | exact ent_keep | apply ent_trans ent_drop)) | (focus (first | ((repeat' (first | (with_reducible apply And.intro) | omega)); done))))); done)); (focus (simp only [go_sem]))))); clear hs; (try clear w); intro v w hq; (have hs := hq); clear hq; (try simp only [star_assoc, star_emp, emp_star] at hs); (try simp only [Act.put, zg, zh, zi]))
        | ((with_reducible apply pl_call hs (hco _ _)); ((((focus (simp only [zj, zk, zl, List.append_toArray, List.nil_append, List.cons_append, Act.eval, za, zb, zc, zd, ze, zf]; (try with_reducible rfl); done)); (focus ((repeat (first | (with_reducible (first | exact ent_refl | apply ent_puR)) | ((with_reducible apply ent_front); (focus with_reducible (repeat (first | exact ent_here | apply ent_next | exact ent_last)); done)) | (with_reducible (first | exact ent_keep | apply ent_trans ent_drop)) | (focus (first | (focus (first | ((repeat (first | (with_reducible (first | assumption |  exact hsl _ | exact hsl2 _ | exact hsl3 _ _ _ | exact slr_nil | exact slr_row (fun _ => by simp only [go_sem]) | exact slr_one (fun _ => by simp only [go_sem]) | (apply slr_left; assumption))) | (with_reducible apply slr_next))); done) | ((repeat (first | (with_reducible (first | assumption |  exact hsl _ | exact hsl2 _ | exact hsl3 _ _ _ | exact slr_nil | exact slr_row (fun _ => by simp only [go_sem]) | exact slr_one (fun _ => by simp only [go_sem]) | (apply slr_left; assumption))) | (with_reducible (first | (apply slr_exh; focus assumption) | (apply slr_exh0; focus assumption) | apply slr_next)))); done))))))); done)); (focus (simp only [go_sem]))))); clear hs; (try clear w); intro v w hq; (obtain ⟨rfl, hs⟩ := hq.pu); clear hq; (try simp only [star_assoc, star_emp, emp_star] at hs); (try simp only [Act.put, zg, zh, zi]))
        | ((with_reducible apply pl_load1 hs); (focus (simp only [Act.eval, za, zb, zc, zd, ze, zf]; (try with_reducible rfl); done)); (focus (simp only [go_sem])); (focus ((repeat (first | (with_reducible (first | assumption | exact hec _ | exact hec2 _ | exact hec3 _ | exact hec4 _ _)) | ((with_reducible apply readc_here); (focus (first | (simp only [zc, zd, ze, go_sem]; (try with_reducible rfl); done) | (go_simp; (try with_reducible rfl); done)))) | (with_reducible (first | (apply readc_left; assumption) | refine readc_exh (by assumption) ?_ | refine readc_exh0 (by assumption) ?_ | apply readc_next)))); done)); (focus rfl); simp only [Act.put, zg, zh, zi]))
            (go_ret2; simp only [za, zb, zc, zd, ze, zf])
            exact ⟨_, rfl, hs.mono (ent_trans (by ((repeat (first | (with_reducible (first | exact ent_refl | exact ent_emp)) | ((with_reducible apply ent_front); (focus with_reducible (repeat (first | exact ent_here | apply ent_next | exact ent_last)); done)) | (with_reducible (first | exact ent_keep | apply ent_trans ent_drop)))); done)) (ldR_no hR.out rfl))⟩
        · have hbf : badB l = false := by simpa using hb
          have hst := pre_step hla hbf hpre.out
          replace hst := Lib.hid hst
          rw [badB_odd, Bool.or_eq_false_iff] at hbf
          obtain ⟨hb1, hb2⟩ := hbf
          have hq0 : ¬ q = 0 := by have := of_decide_eq_false hb1; omega
          have hqI : (1 : Int) ≤ (q : Int) := by omega
          have hco := fun F v => contains_s c0 F v l
          rw [hb2] at hco
          clear hb hla hb1 hb2
          replace hln := Lib.hid hln
          go_wp2_with (first
        | ((with_reducible apply pl_guard_f); (focus rfl); (focus rfl); all_goals (intro hb; first | (cases hb; done) | ((try simp at hb); first | contradiction | ((have hF : False := (by omega)); (cases hF; done)) | (simp only [Act.put, zg, zh, zi]))))
        | ((with_reducible apply pl_call hs (hco _ _)); ((((focus (simp only [zj, zk, zl, List.append_toArray, List.nil_append, List.cons_append, Act.eval, za, zb, zc, zd, ze, zf]; (try with_reducible rfl); done)); (focus ((repeat (first | (with_reducible (first | exact ent_refl | apply ent_puR)) | ((with_reducible apply ent_front); (focus with_reducible (repeat (first | exact ent_here | apply ent_next | exact ent_last)); done)) | (with_reducible (first | exact ent_keep | apply ent_trans ent_drop)) | (focus (first | (focus (first | ((repeat (first | (with_reducible (first | assumption |  exact hsl _ | exact hsl2 _ | exact hsl3 _ _ _ | exact slr_nil | exact slr_row (fun _ => by simp only [go_sem]) | exact slr_one (fun _ => by simp only [go_sem]) | (apply slr_left; assumption))) | (with_reducible apply slr_next))); done) | ((repeat (first | (with_reducible (first | assumption |  exact hsl _ | exact hsl2 _ | exact hsl3 _ _ _ | exact slr_nil | exact slr_row (fun _ => by simp only [go_sem]) | exact slr_one (fun _ => by simp only [go_sem]) | (apply slr_left; assumption))) | (with_reducible (first | (apply slr_exh; focus assumption) | (apply slr_exh0; focus assumption) | apply slr_next)))); done))))))); done)); (focus (simp only [go_sem]))))); clear hs; (try clear w); intro v w hq; (obtain ⟨rfl, hs⟩ := hq.pu); clear hq; (try simp only [star_assoc, star_emp, emp_star] at hs); (try simp only [Act.put, zg, zh, zi]))
        | ((with_reducible apply pl_load1 hs); (focus (simp only [Act.eval, za, zb, zc, zd, ze, zf]; (try with_reducible rfl); done)); (focus (simp only [go_sem])); (focus ((repeat (first | (with_reducible (first | assumption | exact hec _ | exact hec2 _ | exact hec3 _ | exact hec4 _ _)) | ((with_reducible apply readc_here); (focus (first | (simp only [zc, zd, ze, go_sem]; (try with_reducible rfl); done) | (go_simp; (try with_reducible rfl); done)))) | (with_reducible (first | (apply readc_left; assumption) | refine readc_exh (by assumption) ?_ | refine readc_exh0 (by assumption) ?_ | apply readc_next)))); done)); (focus rfl); simp only [Act.put, zg, zh, zi]))
          exact ⟨⟨k + 1, by omega, congrArg (Value.int .i64) (by omega), hst, hs.mono (by ((repeat (first | (with_reducible (first | exact ent_refl | exact ent_emp)) | ((with_reducible apply ent_front); (focus with_reducible (repeat (first | exact ent_here | apply ent_next | exact ent_last)); done)) | (with_reducible (first | exact ent_keep | apply ent_trans ent_drop)))); done))⟩, by simp only [intOf]; omega⟩
      · have hkI : ¬ (k : Int) < (n : Int) + (m : Int) := by omega
        have hR := loadR_ok hnm fun j x hx => hpre.out j x (by have := hml.out; have := (List.getElem?_eq_some_iff.1 hx).1; omega) hx
        replace hR := Lib.hid hR
        go_wp2_with (first
        | ((with_reducible apply pl_call hs (hcd _ _)); ((((focus (simp only [zj, zk, zl, List.append_toArray, List.nil_append, List.cons_append, Act.eval, za, zb, zc, zd, ze, zf]; (try with_reducible rfl); done)); (focus ((repeat (first | (with_reducible (first | exact ent_refl | apply ent_puR)) | ((with_reducible apply ent_front); (focus with_reducible (repeat (first | exact ent_here | apply ent_next | exact ent_last)); done)) | (with_reducible (first | exact ent_keep | apply ent_trans ent_drop)) | (focus (first | ((repeat' (first | (with_reducible apply And.intro) | (focus (first | ((repeat (first | (with_reducible (first | assumption |  exact hsl _ | exact hsl2 _ | exact hsl3 _ _ _ | exact slr_nil | exact slr_row (fun _ => by simp only [go_sem]) | exact slr_one (fun _ => by simp only [go_sem]) | (apply slr_left; assumption))) | (with_reducible apply slr_next))); done) | ((repeat (first | (with_reducible (first | assumption |  exact hsl _ | exact hsl2 _ | exact hsl3 _ _ _ | exact slr_nil | exact slr_row (fun _ => by simp only [go_sem]) | exact slr_one (fun _ => by simp only [go_sem]) | (apply slr_left; assumption))) | (with_reducible (first | (apply slr_exh; focus assumption) | (apply slr_exh0; focus assumption) | apply slr_next)))); done))) | (focus (with_reducible (repeat (first | assumption | (apply PS.left; assumption) | refine PS.exh (by assumption) ?_ | refine PS.exh0 (by assumption) ?_ | apply PS.next)); done)))); done))))); done)); (focus (simp only [go_sem]))))); clear hs; (try clear w); intro v w hq; (obtain ⟨tx, htx, hs⟩ := rows2_open hq; obtain ⟨X, cx, rfl, hx1, hx2⟩ := row_slice hs.own); clear hq; (try simp only [star_assoc, star_emp, emp_star] at hs); (try simp only [Act.put, zg, zh, zi]))
        | ((with_reducible apply pl_call hs (hcu _ _)); ((((focus (simp only [zj, zk, zl, List.append_toArray, List.nil_append, List.cons_append, Act.eval, za, zb, zc, zd, ze, zf]; (try with_reducible rfl); done)); (focus ((repeat (first | (with_reducible (first | exact ent_refl | apply ent_puR)) | ((with_reducible apply ent_front); (focus with_reducible (repeat (first | exact ent_here | apply ent_next | exact ent_last)); done)) | (with_reducible (first | exact ent_keep | apply ent_trans ent_drop)) | (focus (first | ((repeat' (first | (with_reducible apply And.intro) | (focus (first | ((repeat (first | (with_reducible (first | assumption |  exact hsl _ | exact hsl2 _ | exact hsl3 _ _ _ | exact slr_nil | exact slr_row (fun _ => by simp only [go_sem]) | exact slr_one (fun _ => by simp only [go_sem]) | (apply slr_left; assumption))) | (with_reducible apply slr_next))); done) | ((repeat (first | (with_reducible (first | assumption |  exact hsl _ | exact hsl2 _ | exact hsl3 _ _ _ | exact slr_nil | exact slr_row (fun _ => by simp only [go_sem]) | exact slr_one (fun _ => by simp only [go_sem]) | (apply slr_left; assumption))) | (with_reducible (first | (apply slr_exh; focus assumption) | (apply slr_exh0; focus assumption) | apply slr_next)))); done))) | (focus (with_reducible (repeat (first | assumption | (apply PS.left; assumption) | refine PS.exh (by assumption) ?_ | refine PS.exh0 (by assumption) ?_ | apply PS.next)); done)))); done))))); done)); (focus (simp only [go_sem]))))); clear hs; (try clear w); intro v w hq; (obtain ⟨ty, hty, hs⟩ := rows2_open hq; obtain ⟨Y, cy, rfl, hy1, hy2⟩ := row_slice hs.own); clear hq; (try simp only [star_assoc, star_emp, emp_star] at hs); (try simp only [Act.put, zg, zh, zi]))
        | ((with_reducible apply pl_build hs); (focus (simp only [zj, zk, zl, Act.eval, za, zb, zc, zd, ze, zf]; (try with_reducible rfl); done)); (first | (with_reducible exact bld_11 _ _ _ _ _ _)); (focus rfl); simp only [Act.put, zg, zh, zi])
        | ((with_reducible apply pl_box hs); (focus (simp only [Act.eval, za, zb, zc, zd, ze, zf]; (try with_reducible rfl); done)); (focus (first | (with_reducible (first | exact cells_slv _ _ _ | exact cells_intv _ | exact cells_agg _ | exact cells_int _ _ | exact cells_bool _ | exact cells_string _ | exact cells_slice _ _ _ | exact cells_pointer _ | exact cells_map _ | exact cells_iface _ _ | exact cells_nilIface | exact cells_func _ _ _)) | (exact cells_one (by assumption)))); clear hs; (try clear w); intro g w hs; skip; simp only [Act.put, zg, zh, zi]))
        (go_ret2; simp only [za, zb, zc, zd, ze, zf])
        refine ⟨_, rfl, hs.mono (ent_trans (ent_trans ?_ (stk_shut (A := X) (n := tx.length) (c := cx) (ts := tx) (B := Y) (m := ty.length) (d := cy) (us := ty))) (ldR_ok hR.out))⟩
        unfold stkO
        ((repeat (first | (with_reducible (first | exact ent_refl | exact ent_emp)) | ((with_reducible apply ent_front); (focus with_reducible (repeat (first | exact ent_here | apply ent_next | exact ent_last)); done)) | (with_reducible (first | exact ent_keep | apply ent_trans ent_drop)))); done)
end Go.Proofs.YtflibhphpnajeaaDoor
