/- The document's reader: Count, Byte. -/
import Derived.Test.YtegebjflhhbmiaaDoorZQC6BE
import Derived.Test.YtegebjflhhbmiaaDoorZQC6BH
set_option linter.unusedSimpArgs false
set_option linter.unusedVariables false
namespace Go.Proofs.YtegebjflhhbmiaaDoor
open Go Go.RowKit

/-! ### the plain law -/
section
variable {α β : Type}
/-- What a reading comes to, from a place or behind a refusal. -/
def rt (x : Pr α) (R : List Int) : Except PE Nat → Except PE (α × Nat)
  | .ok p => x R p
  | .error e => .error e
/-- What is left: the value, if nothing was refused. -/
def Out (T : Except PE (α × Nat)) (v : α) (st : Except PE Nat) : Prop := match T with
  | .ok y => v = y.1 ∧ st = .ok y.2
  | .error e => st = .error e
theorem rt_bind {x : Pr α} {f : α → Pr β} {R : List Int} {st st' : Except PE Nat} {v : α} (h : Out (rt x R st) v st') : rt (x.bind f) R st = rt (f v) R st' := by
  cases st with
  | error e => cases h; rfl
  | ok p =>
    unfold rt at h ⊢
    simp only at h ⊢
    cases hx : x R p with
    | error e => rw [hx] at h; cases h; rw [Pr.bind_no hx]
    | ok y =>
      rw [hx] at h
      obtain ⟨a, q⟩ := y
      obtain ⟨h1, h2⟩ := h
      dsimp only at h1 h2
      subst h1 h2
      rw [Pr.bind_ok hx]
theorem out_ret {a : α} {R : List Int} {st : Except PE Nat} : Out (rt (Pr.ret a) R st) a st := by
  cases st with
  | error e => exact rfl
  | ok p => exact ⟨rfl, rfl⟩
theorem out_eq {T T' : Except PE (α × Nat)} {v : α} {st : Except PE Nat} (h : Out T v st) (e : T' = T) : Out T' v st := by rw [e]; exact h
/-- Several: those that were read ahead of the rest. -/
def glu (h : List α → β) (l : List α) : Except PE (List α × Nat) → Except PE (β × Nat)
  | .ok y => .ok (h (l ++ y.1), y.2)
  | .error e => .error e
theorem glu_step {h : List α → β} {l : List α} {x : Nat → Pr α} {n i : Nat} {R : List Int} {st st' : Except PE Nat} {v : α} (hn : 0 < n) (ho : Out (rt (x i) R st) v st') : glu h l (rt (Pr.rep x n i) R st) = glu h (l ++ [v]) (rt (Pr.rep x (n - 1) (i + 1)) R st') := by
  obtain ⟨m, rfl⟩ : ∃ m, n = m + 1 := ⟨n - 1, by omega⟩
  rw [Pr.rep, rt_bind ho, Nat.add_sub_cancel]
  cases st' with
  | error e => rfl
  | ok p =>
    unfold rt
    simp only
    unfold Pr.bind Pr.ret
    cases Pr.rep x m (i + 1) R p with
    | error e => rfl
    | ok y => simp [glu]
theorem glu_end {h : List α → β} {l : List α} {x : Nat → Pr α} {i : Nat} {R : List Int} {st : Except PE Nat} : Out (glu h l (rt (Pr.rep x 0 i) R st)) (h l) st := by
  cases st with
  | error e => exact rfl
  | ok p => exact ⟨by simp, rfl⟩
theorem glu_bad {h : List α → β} {l : List α} {x : Pr (List α)} {R : List Int} {e : PE} {v : β} : Out (glu h l (rt x R (.error e))) v (.error e) := rfl
end
/-- What form leaves. -/
def fm (no : Bool) (q : Nat) (st : Except PE Nat) : Except PE Nat := if no then (match st with
  | .ok _ => .error (q, none)
  | .error e => .error e) else st
theorem out_form {R : List Int} {st st' : Except PE Nat} {v q : Nat} {most : Int} {c : Bool} (h : Out (rt (pIn 0 most) R st) v st') (hq : ∀ p, st = .ok p → p = q) (hc : c = true) : Out (rt (pIn 1 most) R st) v (fm (decide (v = 0)) q st') := by
  cases st with
  | error e => cases h; unfold fm; split <;> exact rfl
  | ok p =>
    obtain rfl := hq p rfl
    unfold rt pIn at h ⊢
    simp only at h ⊢
    split at h
    · rename_i n r hx
      rw [if_neg (by omega)] at h
      obtain ⟨h1, h2⟩ := h
      dsimp only at h1 h2
      subst h1 h2
      by_cases h0 : v = 0
      · rw [if_pos (by omega)]; unfold fm; rw [decide_eq_true h0]; exact rfl
      · rw [if_neg (by omega)]; unfold fm; rw [decide_eq_false h0]; exact ⟨rfl, rfl⟩
    · cases h
      unfold fm
      split <;> exact rfl
/-- A number that may be the last one. -/
theorem out_endd {R : List Int} {st st' : Except PE Nat} {v q i n : Nat} {most : Int} {c : Bool} (h : Out (rt (pIn 0 most) R st) v st') (hq : ∀ p, st = .ok p → p = q) (hc : c = decide (i + 1 = n ∧ v = 0)) : Out (rt (pIn (endd i n) most) R st) v (fm c q st') := by
  unfold endd
  by_cases hi : i + 1 = n
  · rw [if_pos hi, hc, show decide (i + 1 = n ∧ v = 0) = decide (v = 0) by simp [hi]]
    exact out_form h hq rfl
  · rw [if_neg hi, hc, show decide (i + 1 = n ∧ v = 0) = false by simp [hi]]
    exact h
/-! ### in memory -/
structure DS where
  p : Nat
  m : NoD
  wr : Bool
  wh : Nat
  bad : Option (ByteArray × Nat)
def bst (p : Nat) (b : Option (ByteArray × Nat)) : Except PE Nat := match b with
  | some x => .error (p, some x)
  | none => .ok p
def bref (p : Nat) (b : Option (ByteArray × Nat)) : Option (List LinkD × Nat) := b.map fun x => ([⟨wireB, x.1, (p : Int)⟩], x.2)
def DS.st (D : DS) : Except PE Nat := if D.wr then .error (D.wh, none) else bst D.p D.bad
def DS.no (D : DS) : Bool := D.wr || D.bad.isSome
theorem DS.no_ok {D : DS} (h : D.no = false) : D.wr = false ∧ D.bad = none := by
  unfold DS.no at h
  rw [Bool.or_eq_false_iff] at h
  exact ⟨h.1, by simpa using h.2⟩
theorem DS.st_p {D : DS} {p : Nat} (h : D.st = .ok p) : p = D.p := by
  unfold DS.st bst at h
  split at h
  · cases h
  · split at h
    · cases h
    · cases h; rfl
theorem DS.no_st {D : DS} (h : D.no = true) : ∃ e, D.st = .error e := by
  unfold DS.st bst
  unfold DS.no at h
  split
  · exact ⟨_, rfl⟩
  · rename_i hw
    rw [show D.wr = false by simpa using hw, Bool.false_or] at h
    obtain ⟨x, hx⟩ := Option.isSome_iff_exists.1 h
    rw [hx]
    exact ⟨_, rfl⟩
abbrev rhd (gr g : Nat) (wr : Bool) (wh : Nat) : HP := blk gr (.cells #[.pointer (some ⟨g, 0, none⟩), .bool wr, .int .i64 wh] 109 (0, 0))
def drx (gr g : Nat) (A : Option Addr) (n c N : Nat) (D : DS) : HP := pu (D.p ≤ N) (rhd gr g D.wr D.wh * (rdd g A n c D.p D.m * NoP (bref D.p D.bad) D.m))
section
variable {gr g n c N : Nat} {A : Option Addr} {D : DS} {F R : HP} {c0 w : World}
theorem drx_open (hs : Sat c0 (drx gr g A n c N D * F) w) : D.p ≤ N ∧ Sat c0 (rhd gr g D.wr D.wh * (rdd g A n c D.p D.m * (NoP (bref D.p D.bad) D.m * F))) w := by
  unfold drx at hs
  rw [pu_star, star_assoc, star_assoc] at hs
  exact hs.pu
theorem drx_close (h : D.p ≤ N) : Ent (rhd gr g D.wr D.wh * (rdd g A n c D.p D.m * (NoP (bref D.p D.bad) D.m * F))) (drx gr g A n c N D * F) := by
  unfold drx
  rw [pu_star, star_assoc, star_assoc]
  exact ent_pu h ent_refl
theorem drx_flat : Ent (drx gr g A n c N D * F) (rhd gr g D.wr D.wh * (rdd g A n c D.p D.m * (NoP (bref D.p D.bad) D.m * F))) := by
  unfold drx
  rw [pu_star, star_assoc, star_assoc]
  exact ent_pu_l fun _ => ent_refl
theorem drx_c0 : ReadC (drx gr g A n c N D * R) gr 0 (.pointer (some ⟨g, 0, none⟩)) := fun w hw => (readc_here (o := 0) rfl : ReadC (rhd gr g D.wr D.wh * _) gr 0 _) w (hw.mono drx_flat)
theorem drx_at : ReadC (drx gr g A n c N D * R) g 1 (.int .i64 (D.p : Nat)) := fun w hw => (readc_next (readc_here (o := 1) rfl) : ReadC (rhd gr g D.wr D.wh * (rdd g A n c D.p D.m * _)) g 1 _) w (hw.mono drx_flat)
theorem noP_code {p : Nat} {b : Option (ByteArray × Nat)} {m : NoD} (hs : Sat c0 (NoP (bref p b) m * F) w) : (m.code = 0 ↔ b = none) := by
  cases b with
  | none =>
    unfold bref NoP at hs
    simp only [Option.map_none] at hs
    rw [pu_star] at hs
    exact ⟨fun _ => rfl, fun _ => hs.pu.1⟩
  | some x =>
    unfold bref NoP at hs
    simp only [Option.map_some] at hs
    rw [pu_star] at hs
    have := hs.pu.1
    exact ⟨fun h => by omega, fun h => by cases h⟩
end
set_option maxRecDepth 20000 in
theorem dbad_s (c0 : World) (F : HP) (gr g : Nat) (A : Option Addr) (n c N : Nat) (D : DS) : Spec Tryd.prog c0 82 #[.pointer (some ⟨gr, 0, none⟩)] (drx gr g A n c N D * F) (fun r => pu (r = .bool D.no) (drx gr g A n c N D * F)) := by
  intro w hs
  obtain ⟨hp, hs⟩ := drx_open hs
  have hcode := noP_code (hs.mono (ent_trans ent_drop ent_drop))
  obtain ⟨p, m, wr, wh, bad⟩ := D
  dsimp only at hp hs hcode
  have hcl : Ent (rhd gr g wr wh * (rdd g A n c p m * (NoP (bref p bad) m * F))) (drx gr g A n c N ⟨p, m, wr, wh, bad⟩ * F) := drx_close (D := ⟨p, m, wr, wh, bad⟩) hp
  cases wr with
  | true =>
    go_enter Tryd.func82, Tryd.ntmps82
    go_wp2_with (first
        | ((with_reducible rewrite [pl_strike_eq]); rotate_left 1; (focus rfl))
        | ((with_reducible rewrite [pl_skip_eq]); rotate_left 1; (focus rfl); simp only [Act.put, zg, zh, zi])
        | ((with_reducible apply pl_guard_t); (focus rfl); (focus rfl); all_goals (intro hb; first | (cases hb; done) | ((try simp at hb); first | contradiction | ((have hF : False := (by omega)); (cases hF; done)) | (simp only [Act.put, zg, zh, zi]))))
        | ((with_reducible apply pl_guard_f); (focus rfl); (focus rfl); all_goals (intro hb; first | (cases hb; done) | ((try simp at hb); first | contradiction | ((have hF : False := (by omega)); (cases hF; done)) | (simp only [Act.put, zg, zh, zi]))))
        | ((with_reducible apply pl_load1 hs); (focus (simp only [Act.eval, za, zb, zc, zd, ze, zf]; (try with_reducible rfl); done)); (focus (simp only [go_sem])); (focus ((repeat (first | (with_reducible (first | assumption | exact hec _ | exact hec2 _ | exact hec3 _ | exact hec4 _ _)) | ((with_reducible apply readc_here); (focus (first | (simp only [zc, zd, ze, go_sem]; (try with_reducible rfl); done) | (go_simp; (try with_reducible rfl); done)))) | (with_reducible (first | (apply readc_left; assumption) | refine readc_exh (by assumption) ?_ | refine readc_exh0 (by assumption) ?_ | apply readc_next)))); done)); (focus rfl); simp only [Act.put, zg, zh, zi]))
    (go_ret; simp only [za, zb, zc, zd, ze, zf])
    exact ⟨_, rfl, hs.mono (ent_pu rfl hcl)⟩
  | false =>
    have hb : (m.code != 0) = bad.isSome := by
      rw [Bool.eq_iff_iff, bne_iff_ne, ne_eq, hcode]
      cases bad <;> simp
    go_enter Tryd.func82, Tryd.ntmps82
    go_wp2_with (first
        | ((with_reducible rewrite [pl_strike_eq]); rotate_left 1; (focus rfl))
        | ((with_reducible rewrite [pl_skip_eq]); rotate_left 1; (focus rfl); simp only [Act.put, zg, zh, zi])
        | ((with_reducible apply pl_guard_t); (focus rfl); (focus rfl); all_goals (intro hb; first | (cases hb; done) | ((try simp at hb); first | contradiction | ((have hF : False := (by omega)); (cases hF; done)) | (simp only [Act.put, zg, zh, zi]))))
        | ((with_reducible apply pl_guard_f); (focus rfl); (focus rfl); all_goals (intro hb; first | (cases hb; done) | ((try simp at hb); first | contradiction | ((have hF : False := (by omega)); (cases hF; done)) | (simp only [Act.put, zg, zh, zi]))))
        | ((with_reducible apply pl_load1 hs); (focus (simp only [Act.eval, za, zb, zc, zd, ze, zf]; (try with_reducible rfl); done)); (focus (simp only [go_sem])); (focus ((repeat (first | (with_reducible (first | assumption | exact hec _ | exact hec2 _ | exact hec3 _ | exact hec4 _ _)) | ((with_reducible apply readc_here); (focus (first | (simp only [zc, zd, ze, go_sem]; (try with_reducible rfl); done) | (go_simp; (try with_reducible rfl); done)))) | (with_reducible (first | (apply readc_left; assumption) | refine readc_exh (by assumption) ?_ | refine readc_exh0 (by assumption) ?_ | apply readc_next)))); done)); (focus rfl); simp only [Act.put, zg, zh, zi]))
    all_goals (
      (go_ret; simp only [za, zb, zc, zd, ze, zf])
      exact ⟨_, rfl, hs.mono (ent_pu (by first | rfl | (rw [hb]; rfl)) hcl)⟩)
end Go.Proofs.YtegebjflhhbmiaaDoor

set_option linter.unusedSimpArgs false
set_option linter.unusedVariables false
namespace Go.Proofs.YtegebjflhhbmiaaDoor
open Go Go.RowKit

set_option maxRecDepth 20000 in
theorem dform_s (c0 : World) (F : HP) (gr gi : Nat) (A : Option Addr) (n c N : Nat) (D : DS) (q : Nat) (b : Bool) : Spec Tryd.prog c0 84 #[.pointer (some ⟨gr, 0, none⟩), .int .i64 (q : Nat), .bool b] (drx gr gi A n c N D * F) (fun _ => ex fun D' : DS => pu (D'.st = fm b q D.st ∧ D'.p = D.p) (drx gr gi A n c N D' * F)) := by
  intro w hs
  cases b with
  | false =>
    go_enter Tryd.func84, Tryd.ntmps84
    go_wp2_with fail
    exact bodyPost_end (results_none rfl _ _ _) rfl ⟨_, rfl, hs.mono (ent_ex D (ent_pu ⟨rfl, rfl⟩ ent_refl))⟩
  | true =>
    cases hno : D.no with
    | true =>
      obtain ⟨e, he⟩ := DS.no_st hno
      have hf : fm true q D.st = D.st := by rw [he]; rfl
      go_enter Tryd.func84, Tryd.ntmps84
      go_wp2_with (first
        | ((with_reducible rewrite [pl_strike_eq]); rotate_left 1; (focus rfl))
        | ((with_reducible apply pl_call hs (dbad_s _ _ _ gi A n c N D)); (go_must (((focus (simp only [zj, zk, zl, List.append_toArray, List.nil_append, List.cons_append, Act.eval, za, zb, zc, zd, ze, zf]; (try with_reducible rfl); done)); (focus ((repeat (first | (with_reducible (first | exact ent_refl | apply ent_puR)) | ((with_reducible apply ent_front); (focus with_reducible (repeat (first | exact ent_here | apply ent_next | exact ent_last)); done)) | (with_reducible (first | exact ent_keep | apply ent_trans ent_drop)) | (fail))); done)); (focus (simp only [go_sem]))))); clear hs; (try clear w); intro v w hq; (obtain ⟨hv, hs⟩ := hq.pu; rw [hno] at hv; subst hv); clear hq; (try simp only [star_assoc, star_emp, emp_star] at hs); (try simp only [Act.put, zg, zh, zi])))
      exact bodyPost_end (results_none rfl _ _ _) rfl ⟨_, rfl, hs.mono (ent_ex D (ent_pu ⟨hf.symm, rfl⟩ ent_refl))⟩
    | false =>
      obtain ⟨h1, h2⟩ := DS.no_ok hno
      obtain ⟨p, m, wr, wh, bad⟩ := D
      dsimp only at h1 h2
      subst h1 h2
      have hbad : Spec Tryd.prog c0 82 #[.pointer (some ⟨gr, 0, none⟩)] (drx gr gi A n c N ⟨p, m, false, wh, none⟩ * F) (fun r => pu (r = .bool false ∧ p ≤ N) (rhd gr gi false wh * (rdd gi A n c p m * (NoP (bref p none) m * F)))) := fun w hs => by
        refine (dbad_s c0 F gr gi A n c N ⟨p, m, false, wh, none⟩ w hs).mono fun ex w' ⟨u, hu, h⟩ => ⟨u, hu, ?_⟩
        obtain ⟨hv, h⟩ := h.pu
        obtain ⟨hp, h⟩ := drx_open h
        exact h.mono (ent_pu ⟨hv, hp⟩ ent_refl)
      go_enter Tryd.func84, Tryd.ntmps84
      go_wp2_with (first
        | ((with_reducible rewrite [pl_strike_eq]); rotate_left 1; (focus rfl))
        | ((with_reducible apply pl_call hs (hbad)); (go_must (((focus (simp only [zj, zk, zl, List.append_toArray, List.nil_append, List.cons_append, Act.eval, za, zb, zc, zd, ze, zf]; (try with_reducible rfl); done)); (focus ((repeat (first | (with_reducible (first | exact ent_refl | apply ent_puR)) | ((with_reducible apply ent_front); (focus with_reducible (repeat (first | exact ent_here | apply ent_next | exact ent_last)); done)) | (with_reducible (first | exact ent_keep | apply ent_trans ent_drop)) | (fail))); done)); (focus (simp only [go_sem]))))); clear hs; (try clear w); intro v w hq; (obtain ⟨⟨rfl, hp⟩, hs⟩ := hq.pu); clear hq; (try simp only [star_assoc, star_emp, emp_star] at hs); (try simp only [Act.put, zg, zh, zi]))
        | ((with_reducible apply pl_store1 hs); (focus (simp only [Act.eval, za, zb, zc, zd, ze, zf]; (try with_reducible rfl); done)); (focus (simp only [Act.eval, za, zb, zc, zd, ze, zf]; (try with_reducible rfl); done)); (focus (simp only [go_sem])); (focus with_reducible (repeat (first | exact ent_here | apply ent_next | exact ent_last)); done); (focus (first | (simp [go_sem]; done) | (simp only [go_sem]; omega) | go_size)); (focus (first | (simp only [go_sem]; done) | (simp [go_sem]; done))); clear hs; (try clear w); intro w hs; (try simp only [zg, zh, zi, clk_set, opv_s0, opv_s1, opv_s2, opv_s3, actv_s0, actv_s1, actv_s2, actv_s3, actv_s4, rnd_s0, rnd_s17, lnk_s0, lnk_s1, lnk_s2, nov_s0, nov_s1, nov_s2, intv_set, bytv_set] at hs); simp only [Act.put, zg, zh, zi]))
      exact bodyPost_end (results_none rfl _ _ _) rfl ⟨_, rfl, hs.mono (ent_ex ⟨p, m, true, q, none⟩ (ent_pu ⟨rfl, rfl⟩ (drx_close (D := ⟨p, m, true, q, none⟩) hp)))⟩
/-! ### what the wire's reader leaves -/
theorem call_open {α : Type} {g n c p : Nat} {A : Option Addr} {R : List Int} {m2 : NoD} {cl : ByteArray} {z : α} {r : Except Nat (α × Nat)} {F : HP} {c0 w : World} (hs : Sat c0 (rrd g A n c m2 ((⟨R, p, none⟩ : RdS).call cl z r).2 * F) w) :
    ∃ (p' : Nat) (m' : NoD) (b' : Option (ByteArray × Nat)), ((∀ y, r = .ok y → p' = y.2 ∧ b' = none) ∧ ∀ k, r = .error k → p' = p ∧ b' = some (cl, k)) ∧ Sat c0 (rdd g A n c p' m' * (NoP (bref p' b') m' * F)) w := by
  cases r with
  | ok y =>
    obtain ⟨m', h1, h2, h⟩ := rrd_none (s := (⟨R, y.2, none⟩ : RdS)) rfl hs
    refine ⟨y.2, m', none, ⟨fun _ h => (by cases h; exact ⟨rfl, rfl⟩), fun _ h => (by cases h)⟩, h.mono (star_mono ent_refl ?_)⟩
    unfold bref NoP
    simp only [Option.map_none]
    rw [pu_star, emp_star]
    exact ent_pu h1 ent_refl
  | error k =>
    refine ⟨p, m2, some (cl, k), ⟨fun _ h => (by cases h), fun _ h => (by cases h; exact ⟨rfl, rfl⟩)⟩, ?_⟩
    have h : Sat c0 (rrd g A n c m2 (⟨R, p, some (cl, p, k)⟩ : RdS) * F) w := hs
    rw [rrd_some (x := (cl, p, k)) rfl] at h
    exact h
theorem to_rrd {g n c p : Nat} {A : Option Addr} {R : List Int} {m : NoD} {F : HP} {c0 w : World} (hs : Sat c0 (rdd g A n c p m * (NoP (bref p none) m * F)) w) : Sat c0 (rrd g A n c nov0 (⟨R, p, none⟩ : RdS) * F) w := by
  have h := (noP_code (hs.mono ent_drop)).2 rfl
  refine hs.mono (ent_trans (star_mono ent_refl ?_) (rrd_okE (s := (⟨R, p, none⟩ : RdS)) rfl h rfl))
  unfold bref NoP
  simp only [Option.map_none]
  rw [pu_star, emp_star]
  exact ent_pu_l fun _ => ent_refl
theorem dnumD_s (c0 : World) (F : HP) (g : Nat) (A : Option Addr) (n c : Nat) (R : List Int) (p : Nat) (m : NoD) (most : Int) : Spec Tryd.prog c0 85 #[.pointer (some ⟨g, 0, none⟩), .int .i64 most]
    (pu (SlR F 1 bytv (.slice A n c) R ∧ (∀ b, b ∈ R → InB b) ∧ p ≤ R.length ∧ 0 ≤ most) (rdd g A n c p m * (NoP (bref p none) m * F)))
    (fun r => ex fun v : Nat => ex fun z : NoD => ex fun p' : Nat => ex fun m' : NoD => ex fun b' : Option (ByteArray × Nat) => pu (r = .tuple #[.int .i64 (v : Nat), .agg (nov z)] ∧ Out (rt (pIn 0 most) R (.ok p)) v (bst p' b') ∧ (v : Int) ≤ most ∧ v < 9223372036854775808 ∧ p' ≤ R.length) (rdd g A n c p' m' * (NoP (bref p' b') m' * F))) := fun w hq => by
  obtain ⟨⟨hsl, hI, hp, hmo⟩, hs⟩ := hq.pu
  have hIn : (⟨R, p, none⟩ : RdS).In := ⟨hp, hI⟩
  refine (dnum_s c0 F g A n c nov0 (⟨R, p, none⟩ : RdS) most w ((to_rrd hs).mono (ent_pu ⟨hsl, hIn⟩ ent_refl))).mono fun ex w' ⟨u, hu, h⟩ => ⟨u, hu, ?_⟩
  obtain ⟨z, h⟩ := h.ex
  obtain ⟨hv, h⟩ := h.pu
  obtain ⟨p', m', b', hr, h⟩ := call_open h
  unfold RdS.num RdS.call at hv
  cases hx : (⟨R, p, none⟩ : RdS).xNum most with
  | ok y =>
    rw [hx] at hv
    obtain ⟨v, q⟩ := y
    obtain ⟨rfl, rfl⟩ := hr.1 _ hx
    obtain ⟨_, h1, h2, h3, _⟩ := RdS.xNum_ok hIn hx
    exact h.mono (ent_ex v (ent_ex z (ent_ex p' (ent_ex m' (ent_ex none (ent_pu ⟨hv, (by unfold rt pIn; simp only; rw [hx]; simp only; rw [if_neg (by omega)]; exact ⟨rfl, rfl⟩), h2, h3, h1⟩ ent_refl))))))
  | error k =>
    rw [hx] at hv
    obtain ⟨rfl, rfl⟩ := hr.2 _ hx
    exact h.mono (ent_ex 0 (ent_ex z (ent_ex p' (ent_ex m' (ent_ex _ (ent_pu ⟨hv, (by unfold rt pIn; simp only; rw [hx]; exact rfl), hmo, by omega, hp⟩ ent_refl))))))
/-- A call of a reader that goes on: Number. -/
theorem dNumber_s (c0 : World) (F : HP) (gr gi : Nat) (A : Option Addr) (n c : Nat) (R : List Int) (D : DS) (most : Int) : Spec Tryd.prog c0 61 #[.pointer (some ⟨gr, 0, none⟩), .int .i64 most]
    (pu (SlR F 1 bytv (.slice A n c) R ∧ (∀ b, b ∈ R → InB b) ∧ 0 ≤ most) (drx gr gi A n c R.length D * F))
    (fun r => ex fun v : Nat => ex fun D' : DS => pu (r = .int .i64 (v : Nat) ∧ Out (rt (pIn 0 most) R D.st) v D'.st ∧ (v : Int) ≤ most ∧ v < 9223372036854775808) (drx gr gi A n c R.length D' * F)) := by
  intro w hq; obtain ⟨⟨hsl, hI, hmo⟩, hs⟩ := hq.pu; clear hq
  cases hno : D.no with
  | true =>
    obtain ⟨e, he⟩ := DS.no_st hno
    go_enter Tryd.func61, Tryd.ntmps61
    go_wp2_with (first
        | ((with_reducible apply pl_call hs (dbad_s _ _ _ gi A n c _ D)); (go_must (((focus (simp only [zj, zk, zl, List.append_toArray, List.nil_append, List.cons_append, Act.eval, za, zb, zc, zd, ze, zf]; (try with_reducible rfl); done)); (focus ((repeat (first | (with_reducible (first | exact ent_refl | apply ent_puR)) | ((with_reducible apply ent_front); (focus with_reducible (repeat (first | exact ent_here | apply ent_next | exact ent_last)); done)) | (with_reducible (first | exact ent_keep | apply ent_trans ent_drop)) | (fail))); done)); (focus (simp only [go_sem]))))); clear hs; (try clear w); intro v w hq; (obtain ⟨hv, hs⟩ := hq.pu; rw [hno] at hv; subst hv); clear hq; (try simp only [star_assoc, star_emp, emp_star] at hs); (try simp only [Act.put, zg, zh, zi])))
    (go_ret; simp only [za, zb, zc, zd, ze, zf])
    exact ⟨_, rfl, hs.mono (ent_ex 0 (ent_ex D (ent_pu ⟨rfl, by rw [he]; exact rfl, hmo, by omega⟩ ent_refl)))⟩
  | false =>
    obtain ⟨h1, h2⟩ := DS.no_ok hno
    obtain ⟨p, m, wr, wh, bad⟩ := D
    dsimp only at h1 h2
    subst h1 h2
    have hbad : Spec Tryd.prog c0 82 #[.pointer (some ⟨gr, 0, none⟩)] (drx gr gi A n c R.length ⟨p, m, false, wh, none⟩ * F) (fun r => pu (r = .bool false ∧ p ≤ R.length) (rhd gr gi false wh * (rdd gi A n c p m * (NoP (bref p none) m * F)))) := fun w hs => by
      refine (dbad_s c0 F gr gi A n c R.length ⟨p, m, false, wh, none⟩ w hs).mono fun ex w' ⟨u, hu, h⟩ => ⟨u, hu, ?_⟩
      obtain ⟨hv, h⟩ := h.pu
      obtain ⟨hp, h⟩ := drx_open h
      exact h.mono (ent_pu ⟨hv, hp⟩ ent_refl)
    go_enter Tryd.func61, Tryd.ntmps61
    go_wp2_with (first
        | ((with_reducible apply pl_call hs (hbad)); (go_must (((focus (simp only [zj, zk, zl, List.append_toArray, List.nil_append, List.cons_append, Act.eval, za, zb, zc, zd, ze, zf]; (try with_reducible rfl); done)); (focus ((repeat (first | (with_reducible (first | exact ent_refl | apply ent_puR)) | ((with_reducible apply ent_front); (focus with_reducible (repeat (first | exact ent_here | apply ent_next | exact ent_last)); done)) | (with_reducible (first | exact ent_keep | apply ent_trans ent_drop)) | (fail))); done)); (focus (simp only [go_sem]))))); clear hs; (try clear w); intro v w hq; (obtain ⟨⟨rfl, hp⟩, hs⟩ := hq.pu); clear hq; (try simp only [star_assoc, star_emp, emp_star] at hs); (try simp only [Act.put, zg, zh, zi]))
        | ((with_reducible apply pl_call hs (dnumD_s _ _ gi A n c R p m most)); (go_must (((focus (simp only [zj, zk, zl, List.append_toArray, List.nil_append, List.cons_append, Act.eval, za, zb, zc, zd, ze, zf]; (try with_reducible rfl); done)); (focus ((repeat (first | (with_reducible (first | exact ent_refl | apply ent_puR)) | ((with_reducible apply ent_front); (focus with_reducible (repeat (first | exact ent_here | apply ent_next | exact ent_last)); done)) | (with_reducible (first | exact ent_keep | apply ent_trans ent_drop)) | (focus (first | ((repeat' (first | (with_reducible assumption) | (with_reducible apply And.intro) | (focus (first | ((repeat (first | (with_reducible (first | assumption | exact slr_ro |  exact hsl _ | exact hsl2 _ | exact hsl3 _ _ _ | exact slr_nil | exact slr_row (fun _ => by simp only [go_sem]) | exact slr_one (fun _ => by simp only [go_sem]) | (apply slr_left; assumption))) | (with_reducible apply slr_next))); done) | ((repeat (first | (with_reducible (first | assumption | exact slr_ro |  exact hsl _ | exact hsl2 _ | exact hsl3 _ _ _ | exact slr_nil | exact slr_row (fun _ => by simp only [go_sem]) | exact slr_one (fun _ => by simp only [go_sem]) | (apply slr_left; assumption))) | (with_reducible (first | (apply slr_exh; focus assumption) | (apply slr_exh0; focus assumption) | apply slr_next)))); done))))); done))))); done)); (focus (simp only [go_sem]))))); clear hs; (try clear w); intro v w hq; (obtain ⟨v, hq⟩ := hq.ex; obtain ⟨z, hq⟩ := hq.ex; obtain ⟨p1, hq⟩ := hq.ex; obtain ⟨m1, hq⟩ := hq.ex; obtain ⟨b1, hq⟩ := hq.ex; obtain ⟨⟨rfl, ho, hv1, hv2, hp1⟩, hs⟩ := hq.pu); clear hq; (try simp only [star_assoc, star_emp, emp_star] at hs); (try simp only [Act.put, zg, zh, zi]))
        | ((with_reducible apply pl_load1 hs); (focus (simp only [Act.eval, za, zb, zc, zd, ze, zf]; (try with_reducible rfl); done)); (focus (simp only [go_sem])); (focus ((repeat (first | (with_reducible (first | assumption | exact hec _ | exact hec2 _ | exact hec3 _ | exact hec4 _ _)) | ((with_reducible apply readc_here); (focus (first | (simp only [zc, zd, ze, go_sem]; (try with_reducible rfl); done) | (go_simp; (try with_reducible rfl); done)))) | (with_reducible (first | (apply readc_left; assumption) | refine readc_exh (by assumption) ?_ | refine readc_exh0 (by assumption) ?_ | apply readc_next)))); done)); (focus rfl); simp only [Act.put, zg, zh, zi])
        | ((with_reducible apply pl_alloc hs); (with_reducible (first | exact zero_49)); clear hs; (try clear w); intro g w hs; skip; simp only [Act.put, zg, zh, zi])
        | ((with_reducible apply pl_storeN hs); (focus (simp only [Act.eval, za, zb, zc, zd, ze, zf]; (try with_reducible rfl); done)); (focus (simp only [Act.eval, za, zb, zc, zd, ze, zf]; (try with_reducible rfl); done)); (with_reducible (first | exact agg_49)); (focus with_reducible (repeat (first | exact ent_here | apply ent_next | exact ent_last)); done); (focus (first | (with_reducible rfl) | (simp only [go_sem]; done) | (simp; done))); (focus (first | (simp [go_sem]; done) | (simp only [go_sem]; omega) | go_size)); (focus (first | (simp only [go_sem]; done) | (simp [go_sem]; done))); (focus (first | ((with_reducible apply splice_whole); (focus (first | (with_reducible rfl) | (simp only [go_sem]; done) | (simp; done)))) | (simp [splice, go_sem]; done) | (simp only [go_sem]; (try with_reducible rfl); done))); clear hs; (try clear w); intro w hs; (try simp only [zg, zh, zi, clk_set, opv_s0, opv_s1, opv_s2, opv_s3, actv_s0, actv_s1, actv_s2, actv_s3, actv_s4, rnd_s0, rnd_s17, lnk_s0, lnk_s1, lnk_s2, nov_s0, nov_s1, nov_s2, intv_set, bytv_set] at hs); simp only [Act.put, zg, zh, zi]))
    (go_ret; simp only [za, zb, zc, zd, ze, zf])
    exact ⟨_, rfl, hs.mono (ent_ex v (ent_ex ⟨p1, m1, false, wh, b1⟩ (ent_pu ⟨rfl, ho, hv1, hv2⟩ (ent_trans (B := rhd gr gi false wh * (rdd gi A n c p1 m1 * (NoP (bref p1 b1) m1 * F))) (by ((repeat (first | (with_reducible (first | exact ent_refl | exact ent_emp)) | ((with_reducible apply ent_front); (focus with_reducible (repeat (first | exact ent_here | apply ent_next | exact ent_last)); done)) | (with_reducible (first | exact ent_keep | apply ent_trans ent_drop)))); done)) (drx_close (D := ⟨p1, m1, false, wh, b1⟩) hp1)))))⟩
end Go.Proofs.YtegebjflhhbmiaaDoor

set_option linter.unusedSimpArgs false
set_option linter.unusedVariables false
namespace Go.Proofs.YtegebjflhhbmiaaDoor
open Go Go.RowKit

theorem dcountD_s (c0 : World) (F : HP) (gi : Nat) (A : Option Addr) (n c : Nat) (R : List Int) (p : Nat) (m : NoD) (least : Int) : Spec Tryd.prog c0 101 #[.pointer (some ⟨gi, 0, none⟩), .int .i64 least, .int .i64 2147483647]
    (pu (SlR F 1 bytv (.slice A n c) R ∧ (∀ b, b ∈ R → InB b) ∧ p ≤ R.length) (rdd gi A n c p m * (NoP (bref p none) m * F)))
    (fun r => ex fun v : Nat => ex fun z : NoD => ex fun p' : Nat => ex fun m' : NoD => ex fun b' : Option (ByteArray × Nat) => pu (r = .tuple #[.int .i64 (v : Nat), .agg (nov z)] ∧ Out (rt (pCount least 2147483647) R (.ok p)) v (bst p' b') ∧ (v : Int) ≤ 2147483647 ∧ p' ≤ R.length) (rdd gi A n c p' m' * (NoP (bref p' b') m' * F))) := fun w hq => by
  obtain ⟨⟨hsl, hI, hp⟩, hs⟩ := hq.pu
  have hIn : (⟨R, p, none⟩ : RdS).In := ⟨hp, hI⟩
  refine (dcount_s c0 F gi A n c nov0 (⟨R, p, none⟩ : RdS) least 2147483647 w ((to_rrd hs).mono (ent_pu ⟨hsl, hIn⟩ ent_refl))).mono fun ex w' ⟨u, hu, h⟩ => ⟨u, hu, ?_⟩
  obtain ⟨z, h⟩ := h.ex
  obtain ⟨hv, h⟩ := h.pu
  obtain ⟨p', m', b', hr, h⟩ := call_open h
  unfold RdS.count RdS.call at hv
  cases hx : (⟨R, p, none⟩ : RdS).xCount least 2147483647 with
  | ok y =>
    rw [hx] at hv
    obtain ⟨v, q⟩ := y
    obtain ⟨rfl, rfl⟩ := hr.1 _ hx
    have hP : pCount least 2147483647 R p = .ok (v, p') := by unfold pCount; rw [hx]
    obtain ⟨k1, k2, k3, k4⟩ := (cod_in 0 2147483647).back R p v p' hI hp (count_in hP)
    exact h.mono (ent_ex v (ent_ex z (ent_ex p' (ent_ex m' (ent_ex none (ent_pu ⟨hv, (by unfold rt; simp only; rw [hP]; exact ⟨rfl, rfl⟩), k1.2.1, k3⟩ ent_refl))))))
  | error k =>
    rw [hx] at hv
    obtain ⟨rfl, rfl⟩ := hr.2 _ hx
    have hP : pCount least 2147483647 R p' = .error (p', some (cCount, k)) := by unfold pCount; rw [hx]
    exact h.mono (ent_ex 0 (ent_ex z (ent_ex p' (ent_ex m' (ent_ex _ (ent_pu ⟨hv, (by unfold rt; simp only; rw [hP]; exact rfl), by omega, hp⟩ ent_refl))))))
theorem dCount_s (c0 : World) (F : HP) (gr gi : Nat) (A : Option Addr) (n c : Nat) (R : List Int) (D : DS) (least : Int) : Spec Tryd.prog c0 86 #[.pointer (some ⟨gr, 0, none⟩), .int .i64 least]
    (pu (SlR F 1 bytv (.slice A n c) R ∧ (∀ b, b ∈ R → InB b)) (drx gr gi A n c R.length D * F))
    (fun r => ex fun v : Nat => ex fun D' : DS => pu (r = .int .i64 (v : Nat) ∧ Out (rt (pCount least 2147483647) R D.st) v D'.st ∧ (v : Int) ≤ 2147483647) (drx gr gi A n c R.length D' * F)) := by
  intro w hq; obtain ⟨⟨hsl, hI⟩, hs⟩ := hq.pu; clear hq
  cases hno : D.no with
  | true =>
    obtain ⟨e, he⟩ := DS.no_st hno
    go_enter Tryd.func86, Tryd.ntmps86
    go_wp2_with (first
        | ((with_reducible apply pl_call hs (dbad_s _ _ _ gi A n c _ D)); (go_must (((focus (simp only [zj, zk, zl, List.append_toArray, List.nil_append, List.cons_append, Act.eval, za, zb, zc, zd, ze, zf]; (try with_reducible rfl); done)); (focus ((repeat (first | (with_reducible (first | exact ent_refl | apply ent_puR)) | ((with_reducible apply ent_front); (focus with_reducible (repeat (first | exact ent_here | apply ent_next | exact ent_last)); done)) | (with_reducible (first | exact ent_keep | apply ent_trans ent_drop)) | (fail))); done)); (focus (simp only [go_sem]))))); clear hs; (try clear w); intro v w hq; (obtain ⟨hv, hs⟩ := hq.pu; rw [hno] at hv; subst hv); clear hq; (try simp only [star_assoc, star_emp, emp_star] at hs); (try simp only [Act.put, zg, zh, zi])))
    (go_ret; simp only [za, zb, zc, zd, ze, zf])
    exact ⟨_, rfl, hs.mono (ent_ex 0 (ent_ex D (ent_pu ⟨rfl, by rw [he]; exact rfl, by omega⟩ ent_refl)))⟩
  | false =>
    obtain ⟨h1, h2⟩ := DS.no_ok hno
    obtain ⟨p, m, wr, wh, bad⟩ := D
    dsimp only at h1 h2
    subst h1 h2
    have hbad : Spec Tryd.prog c0 82 #[.pointer (some ⟨gr, 0, none⟩)] (drx gr gi A n c R.length ⟨p, m, false, wh, none⟩ * F) (fun r => pu (r = .bool false ∧ p ≤ R.length) (rhd gr gi false wh * (rdd gi A n c p m * (NoP (bref p none) m * F)))) := fun w hs => by
      refine (dbad_s c0 F gr gi A n c R.length ⟨p, m, false, wh, none⟩ w hs).mono fun ex w' ⟨u, hu, h⟩ => ⟨u, hu, ?_⟩
      obtain ⟨hv, h⟩ := h.pu
      obtain ⟨hp, h⟩ := drx_open h
      exact h.mono (ent_pu ⟨hv, hp⟩ ent_refl)
    go_enter Tryd.func86, Tryd.ntmps86
    go_wp2_with (first
        | ((with_reducible apply pl_call hs (hbad)); (go_must (((focus (simp only [zj, zk, zl, List.append_toArray, List.nil_append, List.cons_append, Act.eval, za, zb, zc, zd, ze, zf]; (try with_reducible rfl); done)); (focus ((repeat (first | (with_reducible (first | exact ent_refl | apply ent_puR)) | ((with_reducible apply ent_front); (focus with_reducible (repeat (first | exact ent_here | apply ent_next | exact ent_last)); done)) | (with_reducible (first | exact ent_keep | apply ent_trans ent_drop)) | (fail))); done)); (focus (simp only [go_sem]))))); clear hs; (try clear w); intro v w hq; (obtain ⟨⟨rfl, hp⟩, hs⟩ := hq.pu); clear hq; (try simp only [star_assoc, star_emp, emp_star] at hs); (try simp only [Act.put, zg, zh, zi]))
        | ((with_reducible apply pl_call hs (dcountD_s _ _ gi A n c R p m least)); (go_must (((focus (simp only [zj, zk, zl, List.append_toArray, List.nil_append, List.cons_append, Act.eval, za, zb, zc, zd, ze, zf]; (try with_reducible rfl); done)); (focus ((repeat (first | (with_reducible (first | exact ent_refl | apply ent_puR)) | ((with_reducible apply ent_front); (focus with_reducible (repeat (first | exact ent_here | apply ent_next | exact ent_last)); done)) | (with_reducible (first | exact ent_keep | apply ent_trans ent_drop)) | (focus (first | ((repeat' (first | (with_reducible assumption) | (with_reducible apply And.intro) | (focus (first | ((repeat (first | (with_reducible (first | assumption | exact slr_ro |  exact hsl _ | exact hsl2 _ | exact hsl3 _ _ _ | exact slr_nil | exact slr_row (fun _ => by simp only [go_sem]) | exact slr_one (fun _ => by simp only [go_sem]) | (apply slr_left; assumption))) | (with_reducible apply slr_next))); done) | ((repeat (first | (with_reducible (first | assumption | exact slr_ro |  exact hsl _ | exact hsl2 _ | exact hsl3 _ _ _ | exact slr_nil | exact slr_row (fun _ => by simp only [go_sem]) | exact slr_one (fun _ => by simp only [go_sem]) | (apply slr_left; assumption))) | (with_reducible (first | (apply slr_exh; focus assumption) | (apply slr_exh0; focus assumption) | apply slr_next)))); done))))); done))))); done)); (focus (simp only [go_sem]))))); clear hs; (try clear w); intro v w hq; (obtain ⟨v, hq⟩ := hq.ex; obtain ⟨z, hq⟩ := hq.ex; obtain ⟨p1, hq⟩ := hq.ex; obtain ⟨m1, hq⟩ := hq.ex; obtain ⟨b1, hq⟩ := hq.ex; obtain ⟨⟨rfl, ho, hv1, hp1⟩, hs⟩ := hq.pu); clear hq; (try simp only [star_assoc, star_emp, emp_star] at hs); (try simp only [Act.put, zg, zh, zi]))
        | ((with_reducible apply pl_load1 hs); (focus (simp only [Act.eval, za, zb, zc, zd, ze, zf]; (try with_reducible rfl); done)); (focus (simp only [go_sem])); (focus ((repeat (first | (with_reducible (first | assumption | exact hec _ | exact hec2 _ | exact hec3 _ | exact hec4 _ _)) | ((with_reducible apply readc_here); (focus (first | (simp only [zc, zd, ze, go_sem]; (try with_reducible rfl); done) | (go_simp; (try with_reducible rfl); done)))) | (with_reducible (first | (apply readc_left; assumption) | refine readc_exh (by assumption) ?_ | refine readc_exh0 (by assumption) ?_ | apply readc_next)))); done)); (focus rfl); simp only [Act.put, zg, zh, zi])
        | ((with_reducible apply pl_alloc hs); (with_reducible (first | exact zero_49)); clear hs; (try clear w); intro g w hs; skip; simp only [Act.put, zg, zh, zi])
        | ((with_reducible apply pl_storeN hs); (focus (simp only [Act.eval, za, zb, zc, zd, ze, zf]; (try with_reducible rfl); done)); (focus (simp only [Act.eval, za, zb, zc, zd, ze, zf]; (try with_reducible rfl); done)); (with_reducible (first | exact agg_49)); (focus with_reducible (repeat (first | exact ent_here | apply ent_next | exact ent_last)); done); (focus (first | (with_reducible rfl) | (simp only [go_sem]; done) | (simp; done))); (focus (first | (simp [go_sem]; done) | (simp only [go_sem]; omega) | go_size)); (focus (first | (simp only [go_sem]; done) | (simp [go_sem]; done))); (focus (first | ((with_reducible apply splice_whole); (focus (first | (with_reducible rfl) | (simp only [go_sem]; done) | (simp; done)))) | (simp [splice, go_sem]; done) | (simp only [go_sem]; (try with_reducible rfl); done))); clear hs; (try clear w); intro w hs; (try simp only [zg, zh, zi, clk_set, opv_s0, opv_s1, opv_s2, opv_s3, actv_s0, actv_s1, actv_s2, actv_s3, actv_s4, rnd_s0, rnd_s17, lnk_s0, lnk_s1, lnk_s2, nov_s0, nov_s1, nov_s2, intv_set, bytv_set] at hs); simp only [Act.put, zg, zh, zi]))
    (go_ret; simp only [za, zb, zc, zd, ze, zf])
    exact ⟨_, rfl, hs.mono (ent_ex v (ent_ex ⟨p1, m1, false, wh, b1⟩ (ent_pu ⟨rfl, ho, hv1⟩ (ent_trans (B := rhd gr gi false wh * (rdd gi A n c p1 m1 * (NoP (bref p1 b1) m1 * F))) (by ((repeat (first | (with_reducible (first | exact ent_refl | exact ent_emp)) | ((with_reducible apply ent_front); (focus with_reducible (repeat (first | exact ent_here | apply ent_next | exact ent_last)); done)) | (with_reducible (first | exact ent_keep | apply ent_trans ent_drop)))); done)) (drx_close (D := ⟨p1, m1, false, wh, b1⟩) hp1)))))⟩
/-- A byte, whichever. -/
def pB : Pr Int := fun R p => match (⟨R, p, none⟩ : RdS).xByte with
  | .ok y => .ok y
  | .error k => .error (p, some (cByte, k))
theorem out_kind {R : List Int} {st st' : Except PE Nat} {v most : Int} {q : Nat} (h : Out (rt pB R st) v st') (hq : ∀ p, st = .ok p → p = q) : Out (rt (pKind most) R st) v (fm (decide (v < 1) || decide (most < v)) q st') := by
  cases st with
  | error e => cases h; unfold fm; split <;> exact rfl
  | ok p =>
    obtain rfl := hq p rfl
    unfold rt pB at h
    unfold rt pKind
    simp only at h ⊢
    cases hx : (⟨R, p, none⟩ : RdS).xByte with
    | ok y =>
      rw [hx] at h
      obtain ⟨b, r⟩ := y
      obtain ⟨h1, h2⟩ := h
      dsimp only at h1 h2 ⊢
      subst h1 h2
      by_cases h0 : v < 1 ∨ most < v
      · rw [if_pos h0]
        unfold fm
        rw [show (decide (v < 1) || decide (most < v)) = true by rcases h0 with h | h <;> simp [h]]
        exact rfl
      · rw [if_neg h0]
        unfold fm
        rw [show (decide (v < 1) || decide (most < v)) = false by simp; omega]
        exact ⟨rfl, rfl⟩
    | error k =>
      rw [hx] at h
      cases h
      generalize (decide (v < 1) || decide (most < v)) = b
      cases b <;> exact rfl
theorem dbyteD_s (c0 : World) (F : HP) (gi : Nat) (A : Option Addr) (n c : Nat) (R : List Int) (p : Nat) (m : NoD) : Spec Tryd.prog c0 83 #[.pointer (some ⟨gi, 0, none⟩)]
    (pu (SlR F 1 bytv (.slice A n c) R ∧ (∀ b, b ∈ R → InB b) ∧ p ≤ R.length) (rdd gi A n c p m * (NoP (bref p none) m * F)))
    (fun r => ex fun v : Int => ex fun z : NoD => ex fun p' : Nat => ex fun m' : NoD => ex fun b' : Option (ByteArray × Nat) => pu (r = .tuple #[.int .u8 v, .agg (nov z)] ∧ Out (rt pB R (.ok p)) v (bst p' b') ∧ InB v ∧ p' ≤ R.length) (rdd gi A n c p' m' * (NoP (bref p' b') m' * F))) := fun w hq => by
  obtain ⟨⟨hsl, hI, hp⟩, hs⟩ := hq.pu
  have hIn : (⟨R, p, none⟩ : RdS).In := ⟨hp, hI⟩
  refine (dbyte_s c0 F gi A n c nov0 (⟨R, p, none⟩ : RdS) w ((to_rrd hs).mono (ent_pu ⟨hsl, hIn⟩ ent_refl))).mono fun ex w' ⟨u, hu, h⟩ => ⟨u, hu, ?_⟩
  obtain ⟨z, h⟩ := h.ex
  obtain ⟨hv, h⟩ := h.pu
  obtain ⟨p', m', b', hr, h⟩ := call_open h
  unfold RdS.byte RdS.call at hv
  cases hx : (⟨R, p, none⟩ : RdS).xByte with
  | ok y =>
    rw [hx] at hv
    obtain ⟨v, q⟩ := y
    obtain ⟨rfl, rfl⟩ := hr.1 _ hx
    have hP : pB R p = .ok (v, p') := by unfold pB; rw [hx]
    have hx2 := hx
    unfold RdS.xByte at hx2
    split at hx2
    · rename_i b hb
      cases hx2
      exact h.mono (ent_ex v (ent_ex z (ent_ex _ (ent_ex m' (ent_ex none (ent_pu ⟨hv, (by unfold rt; simp only; rw [hP]; exact ⟨rfl, rfl⟩), hI v (List.mem_of_getElem? hb), (by have := (List.getElem?_eq_some_iff.1 hb).1; dsimp only at this ⊢; omega)⟩ ent_refl))))))
    · cases hx2
  | error k =>
    rw [hx] at hv
    obtain ⟨rfl, rfl⟩ := hr.2 _ hx
    have hP : pB R p' = .error (p', some (cByte, k)) := by unfold pB; rw [hx]
    exact h.mono (ent_ex 0 (ent_ex z (ent_ex p' (ent_ex m' (ent_ex _ (ent_pu ⟨hv, (by unfold rt; simp only; rw [hP]; exact rfl), (by unfold InB; omega), hp⟩ ent_refl))))))
theorem dByte_s (c0 : World) (F : HP) (gr gi : Nat) (A : Option Addr) (n c : Nat) (R : List Int) (D : DS) (most : Int) : Spec Tryd.prog c0 60 #[.pointer (some ⟨gr, 0, none⟩), .int .i64 1, .int .i64 most]
    (pu (SlR F 1 bytv (.slice A n c) R ∧ (∀ b, b ∈ R → InB b)) (drx gr gi A n c R.length D * F))
    (fun r => ex fun v : Int => ex fun D' : DS => pu (r = .int .i64 v ∧ Out (rt (pKind most) R D.st) v D'.st ∧ InB v) (drx gr gi A n c R.length D' * F)) := by
  intro w hq; obtain ⟨⟨hsl, hI⟩, hs⟩ := hq.pu; clear hq
  cases hno : D.no with
  | true =>
    obtain ⟨e, he⟩ := DS.no_st hno
    go_enter Tryd.func60, Tryd.ntmps60
    go_wp2_with (first
        | ((with_reducible apply pl_call hs (dbad_s _ _ _ gi A n c _ D)); (go_must (((focus (simp only [zj, zk, zl, List.append_toArray, List.nil_append, List.cons_append, Act.eval, za, zb, zc, zd, ze, zf]; (try with_reducible rfl); done)); (focus ((repeat (first | (with_reducible (first | exact ent_refl | apply ent_puR)) | ((with_reducible apply ent_front); (focus with_reducible (repeat (first | exact ent_here | apply ent_next | exact ent_last)); done)) | (with_reducible (first | exact ent_keep | apply ent_trans ent_drop)) | (fail))); done)); (focus (simp only [go_sem]))))); clear hs; (try clear w); intro v w hq; (obtain ⟨hv, hs⟩ := hq.pu; rw [hno] at hv; subst hv); clear hq; (try simp only [star_assoc, star_emp, emp_star] at hs); (try simp only [Act.put, zg, zh, zi])))
    (go_ret; simp only [za, zb, zc, zd, ze, zf])
    exact ⟨_, rfl, hs.mono (ent_ex 0 (ent_ex D (ent_pu ⟨rfl, by rw [he]; exact rfl, by unfold InB; omega⟩ ent_refl)))⟩
  | false =>
    obtain ⟨h1, h2⟩ := DS.no_ok hno
    obtain ⟨p, m, wr, wh, bad⟩ := D
    dsimp only at h1 h2
    subst h1 h2
    have hbad : Spec Tryd.prog c0 82 #[.pointer (some ⟨gr, 0, none⟩)] (drx gr gi A n c R.length ⟨p, m, false, wh, none⟩ * F) (fun r => pu (r = .bool false ∧ p ≤ R.length) (rhd gr gi false wh * (rdd gi A n c p m * (NoP (bref p none) m * F)))) := fun w hs => by
      refine (dbad_s c0 F gr gi A n c R.length ⟨p, m, false, wh, none⟩ w hs).mono fun ex w' ⟨u, hu, h⟩ => ⟨u, hu, ?_⟩
      obtain ⟨hv, h⟩ := h.pu
      obtain ⟨hp, h⟩ := drx_open h
      exact h.mono (ent_pu ⟨hv, hp⟩ ent_refl)
    have hbyte : ∀ F, Spec Tryd.prog c0 83 #[.pointer (some ⟨gi, 0, none⟩)] (pu (SlR F 1 bytv (.slice A n c) R ∧ p ≤ R.length) (rdd gi A n c p m * (NoP (bref p none) m * (rhd gr gi false wh * F))))
        (fun r => ex fun v : Int => ex fun z : NoD => ex fun D' : DS => pu (r = .tuple #[.int .u8 v, .agg (nov z)] ∧ Out (rt pB R (.ok p)) v D'.st ∧ InB v) (drx gr gi A n c R.length D' * F)) := fun F w hs => by
      obtain ⟨⟨h1, h2⟩, hs⟩ := hs.pu
      refine (dbyteD_s c0 (rhd gr gi false wh * F) gi A n c R p m w (hs.mono (ent_pu ⟨slr_next h1, hI, h2⟩ ent_refl))).mono fun ex w' ⟨u, hu, h⟩ => ⟨u, hu, ?_⟩
      obtain ⟨v, h⟩ := h.ex
      obtain ⟨z, h⟩ := h.ex
      obtain ⟨p1, h⟩ := h.ex
      obtain ⟨m1, h⟩ := h.ex
      obtain ⟨b1, h⟩ := h.ex
      obtain ⟨⟨g1, g2, g3, g4⟩, h⟩ := h.pu
      exact h.mono (ent_ex v (ent_ex z (ent_ex ⟨p1, m1, false, wh, b1⟩ (ent_pu ⟨g1, g2, g3⟩ (ent_trans (B := rhd gr gi false wh * (rdd gi A n c p1 m1 * (NoP (bref p1 b1) m1 * F))) (by ((repeat (first | (with_reducible (first | exact ent_refl | exact ent_emp)) | ((with_reducible apply ent_front); (focus with_reducible (repeat (first | exact ent_here | apply ent_next | exact ent_last)); done)) | (with_reducible (first | exact ent_keep | apply ent_trans ent_drop)))); done)) (drx_close (D := ⟨p1, m1, false, wh, b1⟩) g4))))))
    go_enter Tryd.func60, Tryd.ntmps60
    go_wp2_with (first
        | ((with_reducible rewrite [pl_strike_eq]); rotate_left 1; (focus rfl))
        | ((with_reducible apply pl_guard_f); (focus rfl); (focus rfl); all_goals (intro hb; first | (cases hb; done) | ((try simp at hb); first | contradiction | ((have hF : False := (by omega)); (cases hF; done)) | (simp only [Act.put, zg, zh, zi]))))
        | ((with_reducible apply pl_call hs (hbad)); (go_must (((focus (simp only [zj, zk, zl, List.append_toArray, List.nil_append, List.cons_append, Act.eval, za, zb, zc, zd, ze, zf]; (try with_reducible rfl); done)); (focus ((repeat (first | (with_reducible (first | exact ent_refl | apply ent_puR)) | ((with_reducible apply ent_front); (focus with_reducible (repeat (first | exact ent_here | apply ent_next | exact ent_last)); done)) | (with_reducible (first | exact ent_keep | apply ent_trans ent_drop)) | (fail))); done)); (focus (simp only [go_sem]))))); clear hs; (try clear w); intro v w hq; (obtain ⟨⟨rfl, hp⟩, hs⟩ := hq.pu); clear hq; (try simp only [star_assoc, star_emp, emp_star] at hs); (try simp only [Act.put, zg, zh, zi]))
        | ((with_reducible apply pl_call hs (hbyte _)); (go_must (((focus (simp only [zj, zk, zl, List.append_toArray, List.nil_append, List.cons_append, Act.eval, za, zb, zc, zd, ze, zf]; (try with_reducible rfl); done)); (focus ((repeat (first | (with_reducible (first | exact ent_refl | apply ent_puR)) | ((with_reducible apply ent_front); (focus with_reducible (repeat (first | exact ent_here | apply ent_next | exact ent_last)); done)) | (with_reducible (first | exact ent_keep | apply ent_trans ent_drop)) | (focus (first | ((repeat' (first | (with_reducible assumption) | (with_reducible apply And.intro))); done))))); done)); (focus (simp only [go_sem]))))); clear hs; (try clear w); intro v w hq; (obtain ⟨vb, hq⟩ := hq.ex; obtain ⟨z, hq⟩ := hq.ex; obtain ⟨D1, hq⟩ := hq.ex; obtain ⟨⟨rfl, ho, hv1⟩, hs⟩ := hq.pu; have hv2 := hv1; unfold InB at hv2); clear hq; (try simp only [star_assoc, star_emp, emp_star] at hs); (try simp only [Act.put, zg, zh, zi]))
        | ((with_reducible apply pl_call hs (dform_s _ _ _ gi A n c _ D1 p _)); (go_must (((focus (simp only [zj, zk, zl, List.append_toArray, List.nil_append, List.cons_append, Act.eval, za, zb, zc, zd, ze, zf]; (try with_reducible rfl); done)); (focus ((repeat (first | (with_reducible (first | exact ent_refl | apply ent_puR)) | ((with_reducible apply ent_front); (focus with_reducible (repeat (first | exact ent_here | apply ent_next | exact ent_last)); done)) | (with_reducible (first | exact ent_keep | apply ent_trans ent_drop)) | (fail))); done)); (focus (simp only [go_sem]))))); clear hs; (try clear w); intro v w hq; (obtain ⟨D2, hq⟩ := hq.ex; obtain ⟨⟨ho2, hp2⟩, hs⟩ := hq.pu); clear hq; (try simp only [star_assoc, star_emp, emp_star] at hs); (try simp only [Act.put, zg, zh, zi]))
        | ((with_reducible apply pl_load1 hs); (focus (simp only [Act.eval, za, zb, zc, zd, ze, zf]; (try with_reducible rfl); done)); (focus (simp only [go_sem])); (focus ((repeat (first | (with_reducible (first | assumption | exact hec _ | exact hec2 _ | exact hec3 _ | exact hec4 _ _)) | ((with_reducible apply readc_here); (focus (first | (simp only [zc, zd, ze, go_sem]; (try with_reducible rfl); done) | (go_simp; (try with_reducible rfl); done)))) | (with_reducible (first | (apply readc_left; assumption) | refine readc_exh (by assumption) ?_ | refine readc_exh0 (by assumption) ?_ | apply readc_next)))); done)); (focus rfl); simp only [Act.put, zg, zh, zi])
        | ((with_reducible apply pl_alloc hs); (with_reducible (first | exact zero_49)); clear hs; (try clear w); intro g w hs; skip; simp only [Act.put, zg, zh, zi])
        | ((with_reducible apply pl_storeN hs); (focus (simp only [Act.eval, za, zb, zc, zd, ze, zf]; (try with_reducible rfl); done)); (focus (simp only [Act.eval, za, zb, zc, zd, ze, zf]; (try with_reducible rfl); done)); (with_reducible (first | exact agg_49)); (focus with_reducible (repeat (first | exact ent_here | apply ent_next | exact ent_last)); done); (focus (first | (with_reducible rfl) | (simp only [go_sem]; done) | (simp; done))); (focus (first | (simp [go_sem]; done) | (simp only [go_sem]; omega) | go_size)); (focus (first | (simp only [go_sem]; done) | (simp [go_sem]; done))); (focus (first | ((with_reducible apply splice_whole); (focus (first | (with_reducible rfl) | (simp only [go_sem]; done) | (simp; done)))) | (simp [splice, go_sem]; done) | (simp only [go_sem]; (try with_reducible rfl); done))); clear hs; (try clear w); intro w hs; (try simp only [zg, zh, zi, clk_set, opv_s0, opv_s1, opv_s2, opv_s3, actv_s0, actv_s1, actv_s2, actv_s3, actv_s4, rnd_s0, rnd_s17, lnk_s0, lnk_s1, lnk_s2, nov_s0, nov_s1, nov_s2, intv_set, bytv_set] at hs); simp only [Act.put, zg, zh, zi]))
    all_goals (
      (go_ret; simp only [za, zb, zc, zd, ze, zf])
      refine ⟨_, rfl, hs.mono (ent_ex vb (ent_ex D2 (ent_pu ⟨rfl, ?_, hv1⟩ (by ((repeat (first | (with_reducible (first | exact ent_refl | exact ent_emp)) | ((with_reducible apply ent_front); (focus with_reducible (repeat (first | exact ent_here | apply ent_next | exact ent_last)); done)) | (with_reducible (first | exact ent_keep | apply ent_trans ent_drop)))); done)))))⟩
      have hk := out_kind (most := most) ho (q := p) (fun _ h => by cases h; rfl)
      rw [ho2]
      first
        | (rw [show (decide (vb < 1) || decide (most < vb)) = true by simp; omega] at hk; exact hk)
        | (rw [show (decide (vb < 1) || decide (most < vb)) = decide (most < vb) by rw [decide_eq_false (show ¬ vb < 1 by omega), Bool.false_or]] at hk; exact hk))
end Go.Proofs.YtegebjflhhbmiaaDoor
