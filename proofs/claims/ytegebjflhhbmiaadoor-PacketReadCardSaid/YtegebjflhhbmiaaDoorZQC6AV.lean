/- A reading that may give up: what the program's reader answers, and how it stands behind it. -/
import Derived.Test.YtegebjflhhbmiaaDoorZQC6AS
import Derived.Test.YtegebjflhhbmiaaDoorZQC6AT
import Derived.Test.YtegebjflhhbmiaaDoorZQC6AU
import Derived.Test.YtegebjflhhbmiaaDoorZQC6AG
set_option linter.unusedSimpArgs false
set_option linter.unusedVariables false
namespace Go.Proofs.YtegebjflhhbmiaaDoor
open Go Go.RowKit

/-- The four reasons of a reader and a writer. -/
structure ErrB (F : HP) (a : Nat → Addr) : Prop where
  ad : ∀ k, 1 ≤ k → (k = 1 ∨ k = 2 ∨ k = 6 ∨ k = 7) → ReadC F (gl k) 0 (.iface 162 (.pointer (some (a k))))
theorem ErrA.b {F : HP} {a : Nat → Addr} (h : ErrA F a) : ErrB F a := ⟨fun k h1 h2 => h.ad k h1 (by omega)⟩
theorem ErrB.next {A R : HP} {a : Nat → Addr} (h : ErrB R a) : ErrB (A * R) a := ⟨fun k h1 h2 => readc_next (h.ad k h1 h2)⟩
theorem ErrB.left {A R : HP} {a : Nat → Addr} (h : ErrB A a) : ErrB (A * R) a := ⟨fun k h1 h2 => readc_left (h.ad k h1 h2)⟩
theorem ErrB.exh {hR : Hp} {H A : HP} {a : Nat → Addr} (hh : H.on hR) (h : ErrB H a) : ErrB (Exh hR * A) a := ⟨fun k h1 h2 => readc_exh hh (h.ad k h1 h2)⟩
theorem ErrB.exh0 {hR : Hp} {H : HP} {a : Nat → Addr} (hh : H.on hR) (h : ErrB H a) : ErrB (Exh hR) a := ⟨fun k h1 h2 => readc_exh0 hh (h.ad k h1 h2)⟩

/-- A reader in memory. -/
abbrev rdc (g : Nat) (A : Option Addr) (n c : Nat) (p : Int) (e : Value) : HP := blk g (.cells #[.slice A n c, .int .i64 p, e] 124 (0, 0))
/-- How a reading gives up. -/
abbrev stopV (a : Nat → Addr) (k : Nat) : Value := .iface 149 (.agg #[.iface 162 (.pointer (some (a k)))])
theorem left_s (c0 : World) (F : HP) (g : Nat) (A : Option Addr) (n c p : Nat) (e : Value) : Spec Tryd.prog c0 94 #[.pointer (some ⟨g, 0, none⟩)] (pu (p ≤ n ∧ n ≤ maxLen) (rdc g A n c p e * F))
    (fun r => pu (r = .int .i64 ((n - p : Nat) : Int)) (rdc g A n c p e * F)) := by
  intro w hq; obtain ⟨⟨h1, h2⟩, hs⟩ := hq.pu; clear hq
  unfold maxLen at h2
  go_enter Tryd.func94, Tryd.ntmps94
  go_wp2_with (first
        | ((with_reducible apply wp_region_sl (G := emp) (id := 1) hs 1000); (focus (exact ent_emp_l)); (focus kernel_rfl); (focus decide +kernel); clear hs; (try clear w); intro hR w hRR hs; (try simp only [star_assoc] at hs))
        | ((with_reducible apply mix_end hRR hs); (focus with_reducible (repeat (first | exact ent_here | apply ent_next | exact ent_last)); done); clear hs; (try clear w); intro w hs; (try simp only [star_assoc, star_emp, emp_star] at hs); clear hRR hR)
        | ((with_reducible apply mx_load1 hRR); (focus (simp only [Act.eval, za, zb, zc, zd, ze, zf]; (try with_reducible rfl); done)); (focus (simp only [go_sem])); (focus ((repeat (first | (with_reducible (first | assumption | exact hec _ | exact hec2 _ | exact hec3 _ | exact hec4 _ _)) | ((with_reducible apply readc_here); (focus (first | (simp only [zc, zd, ze, go_sem]; (try with_reducible rfl); done) | (go_simp; (try with_reducible rfl); done)))) | (with_reducible (first | (apply readc_left; assumption) | refine readc_exh (by assumption) ?_ | refine readc_exh0 (by assumption) ?_ | apply readc_next)))); done)); simp only [Act.put, zg, zh, zi])
        | ((with_reducible refine mix_float ?_ ?_ ?_ (fun h hk => ?_) ?_); rotate_left 1; (focus rfl); (focus rfl); (focus (go_simp; (try (rw [if_pos (by omega)]; (try go_simp))); (try simp (disch := omega) only [IntWalk.i64_in, IntWalk.i32_in]); (try with_reducible rfl); done)); simp only [Act.put, zg, zh, zi]))
  (go_ret; simp only [za, zb, zc, zd, ze, zf])
  exact ⟨_, rfl, hs.mono (ent_pu (by congr 1; omega) (by ((repeat (first | (with_reducible (first | exact ent_refl | exact ent_emp)) | ((with_reducible apply ent_front); (focus with_reducible (repeat (first | exact ent_here | apply ent_next | exact ent_last)); done)) | (with_reducible (first | exact ent_keep | apply ent_trans ent_drop)))); done)))⟩
theorem at_s (c0 : World) (F : HP) (g : Nat) (A : Option Addr) (n c p : Nat) (e : Value) : Spec Tryd.prog c0 73 #[.pointer (some ⟨g, 0, none⟩)] (rdc g A n c p e * F)
    (fun r => pu (r = .int .i64 p) (rdc g A n c p e * F)) := by
  intro w hs
  go_enter Tryd.func73, Tryd.ntmps73
  go_wp2_with (first
        | ((with_reducible apply pl_load1 hs); (focus (simp only [Act.eval, za, zb, zc, zd, ze, zf]; (try with_reducible rfl); done)); (focus (simp only [go_sem])); (focus ((repeat (first | (with_reducible (first | assumption | exact hec _ | exact hec2 _ | exact hec3 _ | exact hec4 _ _)) | ((with_reducible apply readc_here); (focus (first | (simp only [zc, zd, ze, go_sem]; (try with_reducible rfl); done) | (go_simp; (try with_reducible rfl); done)))) | (with_reducible (first | (apply readc_left; assumption) | refine readc_exh (by assumption) ?_ | refine readc_exh0 (by assumption) ?_ | apply readc_next)))); done)); (focus rfl); simp only [Act.put, zg, zh, zi]))
  (go_ret; simp only [za, zb, zc, zd, ze, zf])
  exact ⟨_, rfl, hs.mono (ent_pu rfl (by ((repeat (first | (with_reducible (first | exact ent_refl | exact ent_emp)) | ((with_reducible apply ent_front); (focus with_reducible (repeat (first | exact ent_here | apply ent_next | exact ent_last)); done)) | (with_reducible (first | exact ent_keep | apply ent_trans ent_drop)))); done)))⟩
theorem byte_s (c0 : World) (F : HP) (g : Nat) (A : Option Addr) (n c p : Nat) (e : Value) (raw : List Int) (b : Int) : Spec Tryd.prog c0 103 #[.pointer (some ⟨g, 0, none⟩)] (pu (SlR F 1 bytv (.slice A n c) raw ∧ raw[p]? = some b) (rdc g A n c p e * F))
    (fun r => pu (r = .int .u8 b) (rdc g A n c ((p : Int) + 1) e * F)) := by
  intro w hq; obtain ⟨⟨hsl, hb⟩, hs⟩ := hq.pu; clear hq
  obtain ⟨hn, h1, h2, _⟩ := slr_len hsl (hs.own.mono ent_drop)
  have hlt : p < n := by rw [hn]; exact (List.getElem?_eq_some_iff.1 hb).1
  obtain ⟨gb, o, b', rfl, hb', hrd⟩ := slr_get hsl (hs.own.mono ent_drop) hlt
  obtain rfl : b' = b := Option.some.inj (hb'.symm.trans hb)
  have hec0 : ReadC F gb (o + p * 1) (.int .u8 b') := hrd.cell (i := 0) (by omega) (bytv_0 b')
  rw [Nat.mul_one] at hec0
  have hz : ((n - p : Nat) : Int) ≠ 0 := by omega
  have hpn : p ≤ n := by omega
  have h3 := h2
  unfold maxLen at h3
  clear hb hb' hrd
  replace hn := Lib.hid hn
  go_enter Tryd.func103, Tryd.ntmps103
  go_wp2_with (first
        | ((with_reducible apply wp_region_sl (G := emp) (id := 4) hs 1000); (focus (exact ent_emp_l)); (focus kernel_rfl); (focus decide +kernel); clear hs; (try clear w); intro hR w hRR hs; (try simp only [star_assoc] at hs))
        | ((with_reducible apply pl_call hs (left_s _ _ _ _ _ _ _ _)); (go_must (((focus (simp only [zj, zk, zl, List.append_toArray, List.nil_append, List.cons_append, Act.eval, za, zb, zc, zd, ze, zf]; (try with_reducible rfl); done)); (focus ((repeat (first | (with_reducible (first | exact ent_refl | apply ent_puR)) | ((with_reducible apply ent_front); (focus with_reducible (repeat (first | exact ent_here | apply ent_next | exact ent_last)); done)) | (with_reducible (first | exact ent_keep | apply ent_trans ent_drop)) | (focus (first | ((repeat' (first | (with_reducible assumption) | (with_reducible apply And.intro) | omega)); done))))); done)); (focus (simp only [go_sem]))))); clear hs; (try clear w); intro v w hq; (obtain ⟨rfl, hs⟩ := hq.pu); clear hq; (try simp only [star_assoc, star_emp, emp_star] at hs); (try simp only [Act.put, zg, zh, zi]))
        | ((with_reducible apply pl_load1 hs); (focus (simp only [Act.eval, za, zb, zc, zd, ze, zf]; (try with_reducible rfl); done)); (focus (simp only [go_sem])); (focus ((repeat (first | (with_reducible (first | assumption | exact hec _ | exact hec2 _ | exact hec3 _ | exact hec4 _ _)) | ((with_reducible apply readc_here); (focus (first | (simp only [zc, zd, ze, go_sem]; (try with_reducible rfl); done) | (go_simp; (try with_reducible rfl); done)))) | (with_reducible (first | (apply readc_left; assumption) | refine readc_exh (by assumption) ?_ | refine readc_exh0 (by assumption) ?_ | apply readc_next)))); done)); (focus rfl); simp only [Act.put, zg, zh, zi])
        | ((with_reducible apply pl_store1 hs); (focus (simp only [Act.eval, za, zb, zc, zd, ze, zf]; (try with_reducible rfl); done)); (focus (simp only [Act.eval, za, zb, zc, zd, ze, zf]; (try with_reducible rfl); done)); (focus (simp only [go_sem])); (focus with_reducible (repeat (first | exact ent_here | apply ent_next | exact ent_last)); done); (focus (first | (simp [go_sem]; done) | (simp only [go_sem]; omega) | go_size)); (focus (first | (simp only [go_sem]; done) | (simp [go_sem]; done))); clear hs; (try clear w); intro w hs; (try simp only [zg, zh, zi, clk_set, opv_s0, opv_s1, opv_s2, opv_s3, actv_s0, actv_s1, actv_s2, actv_s3, actv_s4, rnd_s0, rnd_s17, lnk_s0, lnk_s1, lnk_s2, nov_s0, nov_s1, nov_s2, intv_set, bytv_set] at hs); simp only [Act.put, zg, zh, zi])
        | ((with_reducible apply mix_end hRR hs); (focus with_reducible (repeat (first | exact ent_here | apply ent_next | exact ent_last)); done); clear hs; (try clear w); intro w hs; (try simp only [star_assoc, star_emp, emp_star] at hs); clear hRR hR)
        | ((with_reducible apply mx_load1 hRR); (focus (simp only [Act.eval, za, zb, zc, zd, ze, zf]; (try with_reducible rfl); done)); (focus (simp only [go_sem])); (focus ((repeat (first | (with_reducible (first | assumption | exact hec _ | exact hec2 _ | exact hec3 _ | exact hec4 _ _)) | ((with_reducible apply readc_here); (focus (first | (simp only [zc, zd, ze, go_sem]; (try with_reducible rfl); done) | (go_simp; (try with_reducible rfl); done)))) | (with_reducible (first | (apply readc_left; assumption) | refine readc_exh (by assumption) ?_ | refine readc_exh0 (by assumption) ?_ | apply readc_next)))); done)); simp only [Act.put, zg, zh, zi])
        | ((with_reducible refine mix_float ?_ ?_ ?_ (fun h hk => ?_) ?_); rotate_left 1; (focus rfl); (focus rfl); (focus (go_simp; (try (rw [if_pos (by omega)]; (try go_simp))); (try simp (disch := omega) only [IntWalk.i64_in, IntWalk.i32_in]); (try with_reducible rfl); done)); simp only [Act.put, zg, zh, zi]))
  (go_ret; simp only [za, zb, zc, zd, ze, zf])
  exact ⟨_, rfl, hs.mono (ent_pu rfl (by ((repeat (first | (with_reducible (first | exact ent_refl | exact ent_emp)) | ((with_reducible apply ent_front); (focus with_reducible (repeat (first | exact ent_here | apply ent_next | exact ent_last)); done)) | (with_reducible (first | exact ent_keep | apply ent_trans ent_drop)))); done)))⟩
theorem byteP_s (c0 : World) (F : HP) (g : Nat) (A : Option Addr) (n c : Nat) (e : Value) (a : Nat → Addr) : SpecP Tryd.prog c0 103 #[.pointer (some ⟨g, 0, none⟩)] (pu (ErrB F a ∧ n ≤ maxLen) (rdc g A n c n e * F))
    (stopV a 7) (rdc g A n c n e * F) := by
  intro w hq; obtain ⟨⟨hE, h2⟩, hs⟩ := hq.pu; clear hq
  have hec0 := hE.ad 7 (by omega) (by omega)
  simp only [gl] at hec0
  have hz : ((n - n : Nat) : Int) = 0 := by omega
  go_enter Tryd.func103, Tryd.ntmps103
  go_wp2_with (first
        | ((with_reducible apply pl_call hs (left_s _ _ _ _ _ _ _ _)); (go_must (((focus (simp only [zj, zk, zl, List.append_toArray, List.nil_append, List.cons_append, Act.eval, za, zb, zc, zd, ze, zf]; (try with_reducible rfl); done)); (focus ((repeat (first | (with_reducible (first | exact ent_refl | apply ent_puR)) | ((with_reducible apply ent_front); (focus with_reducible (repeat (first | exact ent_here | apply ent_next | exact ent_last)); done)) | (with_reducible (first | exact ent_keep | apply ent_trans ent_drop)) | (focus (first | ((repeat' (first | (with_reducible assumption) | (with_reducible apply And.intro) | omega)); done))))); done)); (focus (simp only [go_sem]))))); clear hs; (try clear w); intro v w hq; (obtain ⟨rfl, hs⟩ := hq.pu); clear hq; (try simp only [star_assoc, star_emp, emp_star] at hs); (try simp only [Act.put, zg, zh, zi]))
        | ((with_reducible apply pl_load1 hs); (focus (simp only [Act.eval, za, zb, zc, zd, ze, zf]; (try with_reducible rfl); done)); (focus (simp only [go_sem])); (focus ((repeat (first | (with_reducible (first | assumption | exact hec _ | exact hec2 _ | exact hec3 _ | exact hec4 _ _)) | ((with_reducible apply readc_here); (focus (first | (simp only [zc, zd, ze, go_sem]; (try with_reducible rfl); done) | (go_simp; (try with_reducible rfl); done)))) | (with_reducible (first | (apply readc_left; assumption) | refine readc_exh (by assumption) ?_ | refine readc_exh0 (by assumption) ?_ | apply readc_next)))); done)); (focus rfl); simp only [Act.put, zg, zh, zi])
        | ((with_reducible apply pl_build hs); (focus (simp only [zj, zk, zl, Act.eval, za, zb, zc, zd, ze, zf]; (try with_reducible rfl); done)); (first | (with_reducible exact bld_19 _ _)); (focus rfl); simp only [Act.put, zg, zh, zi]))
  exact ⟨rfl, rfl, hs⟩
set_option maxRecDepth 20000 in
set_option maxHeartbeats 1000000 in
theorem number_s (c0 : World) (F : HP) (g : Nat) (A : Option Addr) (n c p : Nat) (e : Value) (raw : List Int) (most : Int) (v k : Nat) : Spec Tryd.prog c0 105 #[.pointer (some ⟨g, 0, none⟩), .int .i64 most]
    (pu (SlR F 1 bytv (.slice A n c) raw ∧ p ≤ n ∧ (∀ b, b ∈ raw → InB b) ∧ rd0 most (raw.drop p) = .ok (v, k)) (rdc g A n c p e * F))
    (fun r => pu (r = .int .i64 v) (rdc g A n c ((p + k : Nat) : Int) e * F)) := by
  intro w hq; obtain ⟨⟨hsl, hp, hI, hr⟩, hs⟩ := hq.pu; clear hq
  go_enter Tryd.func105, Tryd.ntmps105
  go_wp2_with fail
  go_loopw [4, 7] (fun s i wr => ∃ j acc : Nat, j ≤ 9 ∧ acc < 128 ^ j ∧ p + j ≤ n ∧ s = .int .i64 acc ∧ i = .int .i64 j ∧ rdN most (9 - j) j acc (raw.drop (p + j)) = .ok (v, k) ∧ Sat c0 (rdc g A n c ((p + j : Nat) : Int) e * F) wr) (fun _ i _ => 9 - (intOf i).toNat)
  case atStart => exact ⟨0, 0, by omega, by omega, by omega, rfl, rfl, hr, hs⟩
  case round =>
    clear hs hr
    obtain ⟨j, acc, hj, hacc, hpj, rfl, rfl, hr, hs⟩ := hrel
    obtain ⟨b, t, h9, hd, hr⟩ := rdN_step hj hr
    obtain ⟨hb, hd, hlt⟩ := drop_at hd
    have hbI := hI b (List.mem_of_getElem? hb)
    unfold InB at hbI
    obtain ⟨hb1, hb2⟩ := hbI
    obtain ⟨hnb, hlt2⟩ := num_bits (b := b) hacc h9
    have hpn : p + (j + 1) ≤ n := by rw [(slr_len hsl (hs.own.mono ent_drop)).1]; omega
    have hlj : ((p + j : Nat) : Int) + 1 = ((p + (j + 1) : Nat) : Int) := by omega
    have hbs : ∀ F, Spec Tryd.prog c0 103 #[.pointer (some ⟨g, 0, none⟩)] (pu (SlR F 1 bytv (.slice A n c) raw) (rdc g A n c ((p + j : Nat) : Int) e * F)) (fun r => pu (r = .int .u8 b) (rdc g A n c ((p + (j + 1) : Nat) : Int) e * F)) := fun F w hs => by
      rw [← hlj]
      exact byte_s c0 F g A n c (p + j) e raw b w (hs.mono (ent_pu_l fun h => ent_pu ⟨h, hb⟩ ent_refl))
    generalize hnx : acc + (b % 128).toNat * 128 ^ j = nx at *
    rcases hr with ⟨h1, hr⟩ | ⟨h1, h2, h3, rfl, rfl⟩
    · have hb0 : b ≠ 0 := by omega
      clear hnx hlj
      replace hd := Lib.hid hd
      go_wp2_with (first
        | ((with_reducible apply pl_call hs (hbs _)); (go_must (((focus (simp only [zj, zk, zl, List.append_toArray, List.nil_append, List.cons_append, Act.eval, za, zb, zc, zd, ze, zf]; (try with_reducible rfl); done)); (focus ((repeat (first | (with_reducible (first | exact ent_refl | apply ent_puR)) | ((with_reducible apply ent_front); (focus with_reducible (repeat (first | exact ent_here | apply ent_next | exact ent_last)); done)) | (with_reducible (first | exact ent_keep | apply ent_trans ent_drop)) | (focus (first | (with_reducible assumption))))); done)); (focus (simp only [go_sem]))))); clear hs; (try clear w); intro v w hq; (obtain ⟨rfl, hs⟩ := hq.pu); clear hq; (try simp only [star_assoc, star_emp, emp_star] at hs); (try simp only [Act.put, zg, zh, zi])))
      exact ⟨⟨j + 1, nx, by omega, hlt2, hpn, rfl, by go_num, by rw [← Nat.add_assoc, hd.out]; exact hr, hs⟩, by simp [intOf]; omega⟩
    · by_cases hb0 : b = 0
      · obtain rfl := h2 hb0
        subst hb0
        obtain rfl : acc = 0 := by omega
        obtain rfl : 0 = v := by simpa using hnx
        have hnb0 : Go.bits .or .i64 0 0 = 0 := by decide +kernel
        have h30 : (0 : Int) ≤ most := by omega
        clear hnx hnb hlj
        go_wp2_with (first
        | ((with_reducible rewrite [pl_strike_eq]); rotate_left 1; (focus rfl))
        | ((with_reducible apply pl_call hs (hbs _)); (go_must (((focus (simp only [zj, zk, zl, List.append_toArray, List.nil_append, List.cons_append, Act.eval, za, zb, zc, zd, ze, zf]; (try with_reducible rfl); done)); (focus ((repeat (first | (with_reducible (first | exact ent_refl | apply ent_puR)) | ((with_reducible apply ent_front); (focus with_reducible (repeat (first | exact ent_here | apply ent_next | exact ent_last)); done)) | (with_reducible (first | exact ent_keep | apply ent_trans ent_drop)) | (focus (first | (with_reducible assumption))))); done)); (focus (simp only [go_sem]))))); clear hs; (try clear w); intro v w hq; (obtain ⟨rfl, hs⟩ := hq.pu); clear hq; (try simp only [star_assoc, star_emp, emp_star] at hs); (try simp only [Act.put, zg, zh, zi])))
        replace hs : Sat c0 (rdc g A n c ((p : Int) + 1) e * F) w := hs
        (go_ret; simp only [za, zb, zc, zd, ze, zf])
        exact ⟨_, rfl, hs.mono (ent_pu rfl (by ((repeat (first | (with_reducible (first | exact ent_refl | exact ent_emp)) | ((with_reducible apply ent_front); (focus with_reducible (repeat (first | exact ent_here | apply ent_next | exact ent_last)); done)) | (with_reducible (first | exact ent_keep | apply ent_trans ent_drop)))); done)))⟩
      · clear hnx hlj
        go_wp2_with (first
        | ((with_reducible apply pl_guard_t); (focus rfl); (focus rfl); all_goals (intro hb; first | (cases hb; done) | ((try simp at hb); first | contradiction | ((have hF : False := (by omega)); (cases hF; done)) | (simp only [Act.put, zg, zh, zi]))))
        | ((with_reducible apply pl_call hs (hbs _)); (go_must (((focus (simp only [zj, zk, zl, List.append_toArray, List.nil_append, List.cons_append, Act.eval, za, zb, zc, zd, ze, zf]; (try with_reducible rfl); done)); (focus ((repeat (first | (with_reducible (first | exact ent_refl | apply ent_puR)) | ((with_reducible apply ent_front); (focus with_reducible (repeat (first | exact ent_here | apply ent_next | exact ent_last)); done)) | (with_reducible (first | exact ent_keep | apply ent_trans ent_drop)) | (focus (first | (with_reducible assumption))))); done)); (focus (simp only [go_sem]))))); clear hs; (try clear w); intro v w hq; (obtain ⟨rfl, hs⟩ := hq.pu); clear hq; (try simp only [star_assoc, star_emp, emp_star] at hs); (try simp only [Act.put, zg, zh, zi])))
        (go_ret; simp only [za, zb, zc, zd, ze, zf])
        exact ⟨_, rfl, hs.mono (ent_pu rfl (by ((repeat (first | (with_reducible (first | exact ent_refl | exact ent_emp)) | ((with_reducible apply ent_front); (focus with_reducible (repeat (first | exact ent_here | apply ent_next | exact ent_last)); done)) | (with_reducible (first | exact ent_keep | apply ent_trans ent_drop)))); done)))⟩
/-- A number that is refused. -/
theorem rdN_stepP {most : Int} {j acc : Nat} {l : List Int} {k : Nat} (hj : j ≤ 9) (h : rdN most (9 - j) j acc l = .error k) : (j = 9 ∧ k = 6) ∨ (j < 9 ∧ l = [] ∧ k = 7) ∨ (∃ b t, j < 9 ∧ l = b :: t ∧
    ((128 ≤ b ∧ rdN most (9 - (j + 1)) (j + 1) (acc + (b % 128).toNat * 128 ^ j) t = .error k) ∨ (b < 128 ∧ b = 0 ∧ 0 < j ∧ k = 6) ∨ (b < 128 ∧ (b = 0 → j = 0) ∧ most < ((acc + (b % 128).toNat * 128 ^ j : Nat) : Int) ∧ k = 2))) := by
  rcases Nat.lt_or_eq_of_le hj with h9 | rfl
  · obtain ⟨f, hf⟩ : ∃ f, 9 - j = f + 1 := ⟨9 - (j + 1), by omega⟩
    rw [hf] at h
    cases l with
    | nil => rw [rdN] at h; cases h; exact .inr (.inl ⟨h9, rfl, rfl⟩)
    | cons b t =>
      refine .inr (.inr ⟨b, t, h9, rfl, ?_⟩)
      rw [rdN] at h
      split at h
      · rename_i h1
        exact .inl ⟨h1, by rw [show 9 - (j + 1) = f by omega]; exact h⟩
      · split at h
        · rename_i h1 h2
          cases h
          exact .inr (.inl ⟨by omega, h2.1, h2.2, rfl⟩)
        · split at h
          · rename_i h1 h2 h3
            cases h
            exact .inr (.inr ⟨by omega, by omega, h3, rfl⟩)
          · cases h
  · rw [Nat.sub_self, rdN] at h
    cases h
    exact .inl ⟨rfl, rfl⟩
set_option maxRecDepth 20000 in
set_option maxHeartbeats 1000000 in
theorem numberP_s (c0 : World) (F : HP) (g : Nat) (A : Option Addr) (n c p : Nat) (e : Value) (raw : List Int) (most : Int) (a : Nat → Addr) (k : Nat) : SpecP Tryd.prog c0 105 #[.pointer (some ⟨g, 0, none⟩), .int .i64 most]
    (pu (ErrB F a ∧ SlR F 1 bytv (.slice A n c) raw ∧ p ≤ n ∧ (∀ b, b ∈ raw → InB b) ∧ rd0 most (raw.drop p) = .error k) (rdc g A n c p e * F)) (stopV a k) (ex fun p' : Nat => rdc g A n c (p' : Int) e * F) := by
  intro w hq; obtain ⟨⟨hE, hsl, hp, hI, hr⟩, hs⟩ := hq.pu; clear hq
  have hec0 := hE.ad 2 (by omega) (by omega)
  have hec6 := hE.ad 6 (by omega) (by omega)
  simp only [gl] at hec0 hec6
  go_enter Tryd.func105, Tryd.ntmps105
  go_wp2_with fail
  go_loopw [4, 7] (fun s i wr => ∃ j acc : Nat, j ≤ 9 ∧ acc < 128 ^ j ∧ p + j ≤ n ∧ s = .int .i64 acc ∧ i = .int .i64 j ∧ rdN most (9 - j) j acc (raw.drop (p + j)) = .error k ∧ Sat c0 (rdc g A n c ((p + j : Nat) : Int) e * F) wr) (fun _ i _ => 9 - (intOf i).toNat)
  case atStart => exact ⟨0, 0, by omega, by omega, by omega, rfl, rfl, hr, hs⟩
  case round =>
    clear hs hr
    obtain ⟨j, acc, hj, hacc, hpj, rfl, rfl, hr, hs⟩ := hrel
    have hnl := (slr_len hsl (hs.own.mono ent_drop)).1
    have hcm := (slr_len hsl (hs.own.mono ent_drop)).2
    have hnm : n ≤ maxLen := by omega
    rcases rdN_stepP hj hr with ⟨rfl, rfl⟩ | ⟨h9, hd, rfl⟩ | ⟨b, t, h9, hd, hr⟩
    · clear hnl hcm
      go_wp2_with (first
        | ((with_reducible apply pl_load1 hs); (focus (simp only [Act.eval, za, zb, zc, zd, ze, zf]; (try with_reducible rfl); done)); (focus (simp only [go_sem])); (focus ((repeat (first | (with_reducible (first | assumption | exact hec _ | exact hec2 _ | exact hec3 _ | exact hec4 _ _)) | ((with_reducible apply readc_here); (focus (first | (simp only [zc, zd, ze, go_sem]; (try with_reducible rfl); done) | (go_simp; (try with_reducible rfl); done)))) | (with_reducible (first | (apply readc_left; assumption) | refine readc_exh (by assumption) ?_ | refine readc_exh0 (by assumption) ?_ | apply readc_next)))); done)); (focus rfl); simp only [Act.put, zg, zh, zi])
        | ((with_reducible apply pl_build hs); (focus (simp only [zj, zk, zl, Act.eval, za, zb, zc, zd, ze, zf]; (try with_reducible rfl); done)); (first | (with_reducible exact bld_19 _ _)); (focus rfl); simp only [Act.put, zg, zh, zi]))
      exact ⟨rfl, rfl, hs.mono (ent_ex (p + 9) ent_refl)⟩
    · have hpn : p + j = n := by
        have : (raw.drop (p + j)).length = 0 := by rw [hd]; rfl
        rw [List.length_drop] at this
        omega
      rw [hpn] at hs
      clear hnl hcm hpn hd
      go_wp2_with (first
        | ((with_reducible apply pl_callp hs (byteP_s _ _ _ _ _ _ _ a)); (go_must (((focus (simp only [zj, zk, zl, List.append_toArray, List.nil_append, List.cons_append, Act.eval, za, zb, zc, zd, ze, zf]; (try with_reducible rfl); done)); (focus ((repeat (first | (with_reducible (first | exact ent_refl | apply ent_puR)) | ((with_reducible apply ent_front); (focus with_reducible (repeat (first | exact ent_here | apply ent_next | exact ent_last)); done)) | (with_reducible (first | exact ent_keep | apply ent_trans ent_drop)) | (focus (first | ((repeat' (first | (with_reducible assumption) | (with_reducible apply And.intro))); done))))); done)); (focus (simp only [go_sem]))))); clear hs; (try clear w); intro w hs; (skip); (try simp only [star_assoc, star_emp, emp_star] at hs)))
      exact ⟨rfl, rfl, hs.mono (ent_ex n ent_refl)⟩
    · obtain ⟨hb, hd, hlt⟩ := drop_at hd
      have hbI := hI b (List.mem_of_getElem? hb)
      unfold InB at hbI
      obtain ⟨hb1, hb2⟩ := hbI
      obtain ⟨hnb, hlt2⟩ := num_bits (b := b) hacc h9
      have hpn : p + (j + 1) ≤ n := by omega
      have hlj : ((p + j : Nat) : Int) + 1 = ((p + (j + 1) : Nat) : Int) := by omega
      have hbs : ∀ F, Spec Tryd.prog c0 103 #[.pointer (some ⟨g, 0, none⟩)] (pu (SlR F 1 bytv (.slice A n c) raw) (rdc g A n c ((p + j : Nat) : Int) e * F)) (fun r => pu (r = .int .u8 b) (rdc g A n c ((p + (j + 1) : Nat) : Int) e * F)) := fun F w hs => by
        rw [← hlj]
        exact byte_s c0 F g A n c (p + j) e raw b w (hs.mono (ent_pu_l fun h => ent_pu ⟨h, hb⟩ ent_refl))
      generalize hnx : acc + (b % 128).toNat * 128 ^ j = nx at *
      clear hnl hcm hnm hlj hnx
      rcases hr with ⟨h1, hr⟩ | ⟨h1, h2, h3, rfl⟩ | ⟨h1, h2, h3, rfl⟩
      · have hb0 : b ≠ 0 := by omega
        replace hd := Lib.hid hd
        go_wp2_with (first
        | ((with_reducible apply pl_call hs (hbs _)); (go_must (((focus (simp only [zj, zk, zl, List.append_toArray, List.nil_append, List.cons_append, Act.eval, za, zb, zc, zd, ze, zf]; (try with_reducible rfl); done)); (focus ((repeat (first | (with_reducible (first | exact ent_refl | apply ent_puR)) | ((with_reducible apply ent_front); (focus with_reducible (repeat (first | exact ent_here | apply ent_next | exact ent_last)); done)) | (with_reducible (first | exact ent_keep | apply ent_trans ent_drop)) | (focus (first | (with_reducible assumption))))); done)); (focus (simp only [go_sem]))))); clear hs; (try clear w); intro v w hq; (obtain ⟨rfl, hs⟩ := hq.pu); clear hq; (try simp only [star_assoc, star_emp, emp_star] at hs); (try simp only [Act.put, zg, zh, zi])))
        exact ⟨⟨j + 1, nx, by omega, hlt2, hpn, rfl, by go_num, by rw [← Nat.add_assoc, hd.out]; exact hr, hs⟩, by simp [intOf]; omega⟩
      · go_wp2_with (first
        | ((with_reducible rewrite [pl_strike_eq]); rotate_left 1; (focus rfl))
        | ((with_reducible apply pl_call hs (hbs _)); (go_must (((focus (simp only [zj, zk, zl, List.append_toArray, List.nil_append, List.cons_append, Act.eval, za, zb, zc, zd, ze, zf]; (try with_reducible rfl); done)); (focus ((repeat (first | (with_reducible (first | exact ent_refl | apply ent_puR)) | ((with_reducible apply ent_front); (focus with_reducible (repeat (first | exact ent_here | apply ent_next | exact ent_last)); done)) | (with_reducible (first | exact ent_keep | apply ent_trans ent_drop)) | (focus (first | (with_reducible assumption))))); done)); (focus (simp only [go_sem]))))); clear hs; (try clear w); intro v w hq; (obtain ⟨rfl, hs⟩ := hq.pu); clear hq; (try simp only [star_assoc, star_emp, emp_star] at hs); (try simp only [Act.put, zg, zh, zi]))
        | ((with_reducible apply pl_load1 hs); (focus (simp only [Act.eval, za, zb, zc, zd, ze, zf]; (try with_reducible rfl); done)); (focus (simp only [go_sem])); (focus ((repeat (first | (with_reducible (first | assumption | exact hec _ | exact hec2 _ | exact hec3 _ | exact hec4 _ _)) | ((with_reducible apply readc_here); (focus (first | (simp only [zc, zd, ze, go_sem]; (try with_reducible rfl); done) | (go_simp; (try with_reducible rfl); done)))) | (with_reducible (first | (apply readc_left; assumption) | refine readc_exh (by assumption) ?_ | refine readc_exh0 (by assumption) ?_ | apply readc_next)))); done)); (focus rfl); simp only [Act.put, zg, zh, zi])
        | ((with_reducible apply pl_build hs); (focus (simp only [zj, zk, zl, Act.eval, za, zb, zc, zd, ze, zf]; (try with_reducible rfl); done)); (first | (with_reducible exact bld_19 _ _)); (focus rfl); simp only [Act.put, zg, zh, zi]))
        exact ⟨rfl, rfl, hs.mono (ent_ex (p + (j + 1)) ent_refl)⟩
      · by_cases hb0 : b = 0
        · have hj0 := h2 hb0
          subst hj0
          subst hb0
          obtain rfl : acc = 0 := by omega
          have hnb0 : Go.bits .or .i64 0 0 = 0 := by decide +kernel
          have hnx0 : nx = 0 := by
            have e : wrap64 ((0 : Int) % 128 * 2 ^ (7 * 0)) = 0 := by decide +kernel
            rw [e] at hnb
            have := hnb.symm.trans hnb0
            omega
          subst hnx0
          have h30 : most < (0 : Int) := by omega
          clear hnb
          go_wp2_with (first
        | ((with_reducible rewrite [pl_strike_eq]); rotate_left 1; (focus rfl))
        | ((with_reducible apply pl_call hs (hbs _)); (go_must (((focus (simp only [zj, zk, zl, List.append_toArray, List.nil_append, List.cons_append, Act.eval, za, zb, zc, zd, ze, zf]; (try with_reducible rfl); done)); (focus ((repeat (first | (with_reducible (first | exact ent_refl | apply ent_puR)) | ((with_reducible apply ent_front); (focus with_reducible (repeat (first | exact ent_here | apply ent_next | exact ent_last)); done)) | (with_reducible (first | exact ent_keep | apply ent_trans ent_drop)) | (focus (first | (with_reducible assumption))))); done)); (focus (simp only [go_sem]))))); clear hs; (try clear w); intro v w hq; (obtain ⟨rfl, hs⟩ := hq.pu); clear hq; (try simp only [star_assoc, star_emp, emp_star] at hs); (try simp only [Act.put, zg, zh, zi]))
        | ((with_reducible apply pl_load1 hs); (focus (simp only [Act.eval, za, zb, zc, zd, ze, zf]; (try with_reducible rfl); done)); (focus (simp only [go_sem])); (focus ((repeat (first | (with_reducible (first | assumption | exact hec _ | exact hec2 _ | exact hec3 _ | exact hec4 _ _)) | ((with_reducible apply readc_here); (focus (first | (simp only [zc, zd, ze, go_sem]; (try with_reducible rfl); done) | (go_simp; (try with_reducible rfl); done)))) | (with_reducible (first | (apply readc_left; assumption) | refine readc_exh (by assumption) ?_ | refine readc_exh0 (by assumption) ?_ | apply readc_next)))); done)); (focus rfl); simp only [Act.put, zg, zh, zi])
        | ((with_reducible apply pl_build hs); (focus (simp only [zj, zk, zl, Act.eval, za, zb, zc, zd, ze, zf]; (try with_reducible rfl); done)); (first | (with_reducible exact bld_19 _ _)); (focus rfl); simp only [Act.put, zg, zh, zi]))
          exact ⟨rfl, rfl, hs.mono (ent_ex (p + 1) ent_refl)⟩
        · go_wp2_with (first
        | ((with_reducible apply pl_guard_t); (focus rfl); (focus rfl); all_goals (intro hb; first | (cases hb; done) | ((try simp at hb); first | contradiction | ((have hF : False := (by omega)); (cases hF; done)) | (simp only [Act.put, zg, zh, zi]))))
        | ((with_reducible apply pl_call hs (hbs _)); (go_must (((focus (simp only [zj, zk, zl, List.append_toArray, List.nil_append, List.cons_append, Act.eval, za, zb, zc, zd, ze, zf]; (try with_reducible rfl); done)); (focus ((repeat (first | (with_reducible (first | exact ent_refl | apply ent_puR)) | ((with_reducible apply ent_front); (focus with_reducible (repeat (first | exact ent_here | apply ent_next | exact ent_last)); done)) | (with_reducible (first | exact ent_keep | apply ent_trans ent_drop)) | (focus (first | (with_reducible assumption))))); done)); (focus (simp only [go_sem]))))); clear hs; (try clear w); intro v w hq; (obtain ⟨rfl, hs⟩ := hq.pu); clear hq; (try simp only [star_assoc, star_emp, emp_star] at hs); (try simp only [Act.put, zg, zh, zi]))
        | ((with_reducible apply pl_load1 hs); (focus (simp only [Act.eval, za, zb, zc, zd, ze, zf]; (try with_reducible rfl); done)); (focus (simp only [go_sem])); (focus ((repeat (first | (with_reducible (first | assumption | exact hec _ | exact hec2 _ | exact hec3 _ | exact hec4 _ _)) | ((with_reducible apply readc_here); (focus (first | (simp only [zc, zd, ze, go_sem]; (try with_reducible rfl); done) | (go_simp; (try with_reducible rfl); done)))) | (with_reducible (first | (apply readc_left; assumption) | refine readc_exh (by assumption) ?_ | refine readc_exh0 (by assumption) ?_ | apply readc_next)))); done)); (focus rfl); simp only [Act.put, zg, zh, zi])
        | ((with_reducible apply pl_build hs); (focus (simp only [zj, zk, zl, Act.eval, za, zb, zc, zd, ze, zf]; (try with_reducible rfl); done)); (first | (with_reducible exact bld_19 _ _)); (focus rfl); simp only [Act.put, zg, zh, zi]))
          exact ⟨rfl, rfl, hs.mono (ent_ex (p + (j + 1)) ent_refl)⟩
end Go.Proofs.YtegebjflhhbmiaaDoor

set_option linter.unusedSimpArgs false
set_option linter.unusedVariables false
namespace Go.Proofs.YtegebjflhhbmiaaDoor
open Go Go.RowKit

abbrev dargs (g7 g3 g4 g6 : Nat) : Array Value := #[.pointer (some ⟨g7, 0, none⟩), .pointer (some ⟨g3, 0, none⟩), .pointer (some ⟨g4, 0, none⟩), .pointer (some ⟨g6, 0, none⟩)]
@[go_sem] theorem ta_S (v : Value) (w : World) : (Instr.typeAssert (.iface 149 v) 20 149 true).run Tryd.prog w = .ok (.tuple #[v, .bool true]) w := by kernel_rfl
set_option maxRecDepth 20000 in
set_option maxHeartbeats 1000000 in
theorem xrR_s (c0 : World) (H : HP) (g7 g3 g4 g6 : Nat) : SpecD Tryd.prog c0 107 (dargs g7 g3 g4 g6) .returning H .returning H := by
  intro w hs
  refine callsD_of_wpS Tryd.func107 rfl fun c₀ cs hu => ?_
  unfold dargs
  simp only [Tryd.ntmps107, List.size_toArray, List.length_cons, List.length_nil, Nat.reduceAdd, Nat.reduceSub, Array.replicate_succ, Array.replicate_zero, List.push_toArray, List.append_toArray, List.nil_append, List.cons_append]
  apply wpS_seq
  apply wpS_region
  simp [wpOpsS, go_sem, recoverD, hu, Exit.thenS]
  refine wpS_of_wp ?_
  go_wp2_with fail
  refine ⟨rfl, .returning, ?_, _, results_none rfl _ _ _, ⟨_, rfl⟩, rfl, hs⟩
  rw [← hu]
set_option maxRecDepth 20000 in
set_option maxHeartbeats 1000000 in
theorem xrP_s (c0 : World) (F : HP) (g7 g3 g4 g6 g : Nat) (A : Option Addr) (n c p : Nat) (p' : Int) (x : Value) (cl : ByteArray) (a : Nat → Addr) (k : Nat) : SpecD Tryd.prog c0 107 (dargs g7 g3 g4 g6) (.panicking [{ v := stopV a k, recovered := false }])
    (blk g7 (.cells #[.int .i64 p] 3 (0, 0)) * (blk g3 (.cells #[.pointer (some ⟨g, 0, none⟩)] 84 (0, 0)) * (blk g4 (.cells #[.string cl] 9 (0, 0)) * (blk g6 (.cells #[x] 34 (0, 0)) * (rdc g A n c p' .nilIface * F)))))
    (.panicking [{ v := stopV a k, recovered := true }])
    (ex fun ge : Nat => blk g6 (.cells #[.iface 116 (.pointer (some ⟨ge, 0, none⟩))] 34 (0, 0)) * (blk ge (.cells (fltv ⟨#[119, 105, 114, 101]⟩ cl p 162 (some (a k))) 118 (0, 0)) * (rdc g A n c p (.iface 116 (.pointer (some ⟨ge, 0, none⟩))) * F))) := by
  intro w hs
  refine callsD_of_wpS Tryd.func107 rfl fun c₀ cs hu => ?_
  unfold dargs
  simp only [Tryd.ntmps107, List.size_toArray, List.length_cons, List.length_nil, Nat.reduceAdd, Nat.reduceSub, Array.replicate_succ, Array.replicate_zero, List.push_toArray, List.append_toArray, List.nil_append, List.cons_append]
  apply wpS_seq
  apply wpS_region
  simp [wpOpsS, go_sem, recoverD, hu, Exit.thenS]
  refine wpS_of_wp ?_
  go_wp2_with (first
        | ((with_reducible apply wp_region_sl (G := emp) (id := 8) hs 8); (focus (exact ent_emp_l)); (focus kernel_rfl); (focus decide +kernel); clear hs; (try clear w); intro hR w hRR hs; (try simp only [star_assoc] at hs))
        | ((with_reducible apply mx_call hs (fnew_s _ _ _ _ _ _ _)); (go_must (((focus (simp only [zj, zk, zl, List.append_toArray, List.nil_append, List.cons_append, Act.eval, za, zb, zc, zd, ze, zf]; (try with_reducible rfl); done)); (focus ((repeat (first | (with_reducible (first | exact ent_refl | apply ent_puR)) | ((with_reducible apply ent_front); (focus with_reducible (repeat (first | exact ent_here | apply ent_next | exact ent_last)); done)) | (with_reducible (first | exact ent_keep | apply ent_trans ent_drop)) | (fail))); done)); (focus (simp only [go_sem])); (focus (intros; with_reducible (refine in_of_sat (by assumption) ?_; repeat (first | exact ent_exh_here | exact ent_last | refine ent_pu_l (fun _ => ?_) | refine ent_ex_l (fun _ => ?_) | apply ent_exh_next)); done))))); clear hs; (try clear w); intro v w hq; (obtain ⟨ge, hq1⟩ := hq.ex; obtain ⟨rfl, hs⟩ := hq1.pu; clear hq1); clear hq; (try simp only [star_assoc, star_emp, emp_star] at hs); (try simp only [Act.put, zg, zh, zi]))
        | ((with_reducible apply pl_load1 hs); (focus (simp only [Act.eval, za, zb, zc, zd, ze, zf]; (try with_reducible rfl); done)); (focus (simp only [go_sem])); (focus ((repeat (first | (with_reducible (first | assumption | exact hec _ | exact hec2 _ | exact hec3 _ | exact hec4 _ _)) | ((with_reducible apply readc_here); (focus (first | (simp only [zc, zd, ze, go_sem]; (try with_reducible rfl); done) | (go_simp; (try with_reducible rfl); done)))) | (with_reducible (first | (apply readc_left; assumption) | refine readc_exh (by assumption) ?_ | refine readc_exh0 (by assumption) ?_ | apply readc_next)))); done)); (focus rfl); simp only [Act.put, zg, zh, zi])
        | ((with_reducible apply pl_alloc hs); (with_reducible (first | exact zero_149)); clear hs; (try clear w); intro g w hs; skip; simp only [Act.put, zg, zh, zi])
        | ((with_reducible apply pl_store1 hs); (focus (simp only [Act.eval, za, zb, zc, zd, ze, zf]; (try with_reducible rfl); done)); (focus (simp only [Act.eval, za, zb, zc, zd, ze, zf]; (try with_reducible rfl); done)); (focus (simp only [go_sem])); (focus with_reducible (repeat (first | exact ent_here | apply ent_next | exact ent_last)); done); (focus (first | (simp [go_sem]; done) | (simp only [go_sem]; omega) | go_size)); (focus (first | (simp only [go_sem]; done) | (simp [go_sem]; done))); clear hs; (try clear w); intro w hs; (try simp only [zg, zh, zi, clk_set, opv_s0, opv_s1, opv_s2, opv_s3, actv_s0, actv_s1, actv_s2, actv_s3, actv_s4, rnd_s0, rnd_s17, lnk_s0, lnk_s1, lnk_s2, nov_s0, nov_s1, nov_s2, intv_set, bytv_set] at hs); simp only [Act.put, zg, zh, zi])
        | ((with_reducible apply pl_storeN hs); (focus (simp only [Act.eval, za, zb, zc, zd, ze, zf]; (try with_reducible rfl); done)); (focus (simp only [Act.eval, za, zb, zc, zd, ze, zf]; (try with_reducible rfl); done)); (with_reducible (first | exact agg_149)); (focus with_reducible (repeat (first | exact ent_here | apply ent_next | exact ent_last)); done); (focus (first | (with_reducible rfl) | (simp only [go_sem]; done) | (simp; done))); (focus (first | (simp [go_sem]; done) | (simp only [go_sem]; omega) | go_size)); (focus (first | (simp only [go_sem]; done) | (simp [go_sem]; done))); (focus (first | ((with_reducible apply splice_whole); (focus (first | (with_reducible rfl) | (simp only [go_sem]; done) | (simp; done)))) | (simp [splice, go_sem]; done) | (simp only [go_sem]; (try with_reducible rfl); done))); clear hs; (try clear w); intro w hs; (try simp only [zg, zh, zi, clk_set, opv_s0, opv_s1, opv_s2, opv_s3, actv_s0, actv_s1, actv_s2, actv_s3, actv_s4, rnd_s0, rnd_s17, lnk_s0, lnk_s1, lnk_s2, nov_s0, nov_s1, nov_s2, intv_set, bytv_set] at hs); simp only [Act.put, zg, zh, zi])
        | ((with_reducible apply mix_thaw hRR hs); (focus with_reducible (repeat (first | exact ent_here | apply ent_next | exact ent_last)); done); clear hs; (try clear w); intro w hs; (try simp only [star_assoc, star_emp, emp_star] at hs); clear hRR hR)
        | ((with_reducible apply mx_load1 hRR); (focus (simp only [Act.eval, za, zb, zc, zd, ze, zf]; (try with_reducible rfl); done)); (focus (simp only [go_sem])); (focus ((repeat (first | (with_reducible (first | assumption | exact hec _ | exact hec2 _ | exact hec3 _ | exact hec4 _ _)) | ((with_reducible apply readc_here); (focus (first | (simp only [zc, zd, ze, go_sem]; (try with_reducible rfl); done) | (go_simp; (try with_reducible rfl); done)))) | (with_reducible (first | (apply readc_left; assumption) | refine readc_exh (by assumption) ?_ | refine readc_exh0 (by assumption) ?_ | apply readc_next)))); done)); simp only [Act.put, zg, zh, zi])
        | ((with_reducible refine mix_float ?_ ?_ ?_ (fun h hk => ?_) ?_); rotate_left 1; (focus rfl); (focus rfl); (focus (go_simp; (try (rw [if_pos (by omega)]; (try go_simp))); (try simp (disch := omega) only [IntWalk.i64_in, IntWalk.i32_in]); (try with_reducible rfl); done)); simp only [Act.put, zg, zh, zi]))
  exact ⟨rfl, _, rfl, _, results_none rfl _ _ _, ⟨_, rfl⟩, rfl, hs.mono (ent_ex ge (by rw [show atV (p : Int) = p from if_neg (by omega)]; ((repeat (first | (with_reducible (first | exact ent_refl | exact ent_emp)) | ((with_reducible apply ent_front); (focus with_reducible (repeat (first | exact ent_here | apply ent_next | exact ent_last)); done)) | (with_reducible (first | exact ent_keep | apply ent_trans ent_drop)))); done)))⟩
/-! ### a reading -/
set_option maxRecDepth 20000 in
set_option maxHeartbeats 1000000 in
theorem reads_ok (c0 : World) (F : HP) (g : Nat) (A : Option Addr) (n c p p2 : Nat) (cl : ByteArray) (D : FuncId) (cap : Array Value) (hD : entB Tryd.prog D = true) (H1 H2 : HP) (PR : HP → Prop) (hn : ∀ A R, PR R → PR (A * R)) (hF : PR F) (h : ∀ c0 F, Spec Tryd.prog c0 D cap (pu (PR F) (rdc g A n c p .nilIface * (H1 * F))) (fun _ => rdc g A n c p2 .nilIface * (H2 * F))) :
    Spec Tryd.prog c0 92 #[.pointer (some ⟨g, 0, none⟩), .string cl, .func (.func D) #[] cap] (rdc g A n c p .nilIface * (H1 * F)) (fun r => pu (r = .nilIface) (rdc g A n c p2 .nilIface * (H2 * F))) := by
  intro w hs
  have hmf : ∀ (fn : Fn) (first cap : Array Value) (w : World), (Instr.makeFunc fn first cap).run Tryd.prog w = .ok (.func fn first cap) w := fun _ _ _ _ => rfl
  go_enter_defers Tryd.func92, Tryd.ntmps92
  go_wp2_with (first
        | (((with_reducible apply pl_callv hs (h _ _)); (focus (simp only [Act.eval, za, zb, zc, zd, ze, zf]; (try with_reducible rfl); done)); (focus (simp; done)); (focus ((with_reducible apply ent_puR); (focus (((with_reducible apply ent_front); (focus with_reducible (repeat (first | exact ent_here | apply ent_next | exact ent_last)); done)); ((with_reducible apply ent_front); (focus with_reducible (repeat (first | exact ent_here | apply ent_next | exact ent_last)); done)); exact ent_refl)); (focus ((repeat (with_reducible apply hn)); exact hF)))); (focus exact hD); clear hs; (try clear w);  intro v w hq; have hs := hq; clear hq; (try simp only [star_assoc, star_emp, emp_star] at hs); (try simp only [Act.put, zg, zh, zi])))
        | ((with_reducible apply pl_load1 hs); (focus (simp only [Act.eval, za, zb, zc, zd, ze, zf]; (try with_reducible rfl); done)); (focus (simp only [go_sem])); (focus ((repeat (first | (with_reducible (first | assumption | exact hec _ | exact hec2 _ | exact hec3 _ | exact hec4 _ _)) | ((with_reducible apply readc_here); (focus (first | (simp only [zc, zd, ze, go_sem]; (try with_reducible rfl); done) | (go_simp; (try with_reducible rfl); done)))) | (with_reducible (first | (apply readc_left; assumption) | refine readc_exh (by assumption) ?_ | refine readc_exh0 (by assumption) ?_ | apply readc_next)))); done)); (focus rfl); simp only [Act.put, zg, zh, zi])
        | ((with_reducible apply pl_alloc hs); (with_reducible (first | exact zero_3 | exact zero_34)); clear hs; (try clear w); intro g w hs; skip; simp only [Act.put, zg, zh, zi])
        | ((with_reducible apply pl_box hs); (focus (simp only [Act.eval, za, zb, zc, zd, ze, zf]; (try with_reducible rfl); done)); (focus (first | (with_reducible (first | exact cells_intv _ | exact cells_bytv _ | exact cells_agg _ | exact cells_int _ _ | exact cells_bool _ | exact cells_string _ | exact cells_slice _ _ _ | exact cells_pointer _ | exact cells_map _ | exact cells_iface _ _ | exact cells_nilIface | exact cells_func _ _ _)) | (exact cells_one (by assumption)))); clear hs; (try clear w); intro g w hs; skip; simp only [Act.put, zg, zh, zi])
        | ((with_reducible apply pl_store1 hs); (focus (simp only [Act.eval, za, zb, zc, zd, ze, zf]; (try with_reducible rfl); done)); (focus (simp only [Act.eval, za, zb, zc, zd, ze, zf]; (try with_reducible rfl); done)); (focus (simp only [go_sem])); (focus with_reducible (repeat (first | exact ent_here | apply ent_next | exact ent_last)); done); (focus (first | (simp [go_sem]; done) | (simp only [go_sem]; omega) | go_size)); (focus (first | (simp only [go_sem]; done) | (simp [go_sem]; done))); clear hs; (try clear w); intro w hs; (try simp only [zg, zh, zi, clk_set, opv_s0, opv_s1, opv_s2, opv_s3, actv_s0, actv_s1, actv_s2, actv_s3, actv_s4, rnd_s0, rnd_s17, lnk_s0, lnk_s1, lnk_s2, nov_s0, nov_s1, nov_s2, intv_set, bytv_set] at hs); simp only [Act.put, zg, zh, zi]))
  rename_i g3 g4 g6
  refine leaves_cons (f := 107) (args := dargs g g3 g4 g6) (by simp) (by simp [go_sem]) ?_
  refine (xrR_s c0 _ _ _ _ _ w hs).mono ?_
  rintro e u' w'' ⟨⟨v, rfl⟩, rfl, hs⟩
  exact leaves_c1 rfl (by simp only [go_sem]) rfl ((by (focus ((repeat (first | (with_reducible (first | assumption | exact hec _ | exact hec2 _ | exact hec3 _ | exact hec4 _ _)) | ((with_reducible apply readc_here); (focus (first | (simp only [zc, zd, ze, go_sem]; (try with_reducible rfl); done) | (go_simp; (try with_reducible rfl); done)))) | (with_reducible (first | (apply readc_left; assumption) | refine readc_exh (by assumption) ?_ | refine readc_exh0 (by assumption) ?_ | apply readc_next)))); done)) : ReadC _ g6 0 .nilIface) w'' hs.own) ⟨_, rfl, hs.mono (ent_pu rfl (by ((repeat (first | (with_reducible (first | exact ent_refl | exact ent_emp)) | ((with_reducible apply ent_front); (focus with_reducible (repeat (first | exact ent_here | apply ent_next | exact ent_last)); done)) | (with_reducible (first | exact ent_keep | apply ent_trans ent_drop)))); done)))⟩
set_option maxRecDepth 20000 in
set_option maxHeartbeats 1000000 in
theorem reads_no (c0 : World) (F : HP) (g : Nat) (A : Option Addr) (n c p : Nat) (cl : ByteArray) (a : Nat → Addr) (k : Nat) (D : FuncId) (cap : Array Value) (hD : entB Tryd.prog D = true) (H1 H2 : HP) (PR : HP → Prop) (hn : ∀ A R, PR R → PR (A * R)) (hF : PR F) (h : ∀ c0 F, SpecP Tryd.prog c0 D cap (pu (PR F) (rdc g A n c p .nilIface * (H1 * F))) (stopV a k) (ex fun p' : Nat => rdc g A n c (p' : Int) .nilIface * (H2 * F))) :
    Spec Tryd.prog c0 92 #[.pointer (some ⟨g, 0, none⟩), .string cl, .func (.func D) #[] cap] (rdc g A n c p .nilIface * (H1 * F))
      (fun r => ex fun ge : Nat => pu (r = .iface 116 (.pointer (some ⟨ge, 0, none⟩))) (blk ge (.cells (fltv ⟨#[119, 105, 114, 101]⟩ cl p 162 (some (a k))) 118 (0, 0)) * (rdc g A n c p (.iface 116 (.pointer (some ⟨ge, 0, none⟩))) * (H2 * F)))) := by
  intro w hs
  have hmf : ∀ (fn : Fn) (first cap : Array Value) (w : World), (Instr.makeFunc fn first cap).run Tryd.prog w = .ok (.func fn first cap) w := fun _ _ _ _ => rfl
  go_enter_defers Tryd.func92, Tryd.ntmps92
  go_wp2_with (first
        | (((with_reducible apply pl_callvp hs (h _ _)); (focus (simp only [Act.eval, za, zb, zc, zd, ze, zf]; (try with_reducible rfl); done)); (focus (simp; done)); (focus ((with_reducible apply ent_puR); (focus (((with_reducible apply ent_front); (focus with_reducible (repeat (first | exact ent_here | apply ent_next | exact ent_last)); done)); ((with_reducible apply ent_front); (focus with_reducible (repeat (first | exact ent_here | apply ent_next | exact ent_last)); done)); exact ent_refl)); (focus ((repeat (with_reducible apply hn)); exact hF)))); (focus exact hD); clear hs; (try clear w);  intro w hs; (try simp only [star_assoc, star_emp, emp_star] at hs)))
        | ((with_reducible apply pl_load1 hs); (focus (simp only [Act.eval, za, zb, zc, zd, ze, zf]; (try with_reducible rfl); done)); (focus (simp only [go_sem])); (focus ((repeat (first | (with_reducible (first | assumption | exact hec _ | exact hec2 _ | exact hec3 _ | exact hec4 _ _)) | ((with_reducible apply readc_here); (focus (first | (simp only [zc, zd, ze, go_sem]; (try with_reducible rfl); done) | (go_simp; (try with_reducible rfl); done)))) | (with_reducible (first | (apply readc_left; assumption) | refine readc_exh (by assumption) ?_ | refine readc_exh0 (by assumption) ?_ | apply readc_next)))); done)); (focus rfl); simp only [Act.put, zg, zh, zi])
        | ((with_reducible apply pl_alloc hs); (with_reducible (first | exact zero_3 | exact zero_34)); clear hs; (try clear w); intro g w hs; skip; simp only [Act.put, zg, zh, zi])
        | ((with_reducible apply pl_box hs); (focus (simp only [Act.eval, za, zb, zc, zd, ze, zf]; (try with_reducible rfl); done)); (focus (first | (with_reducible (first | exact cells_intv _ | exact cells_bytv _ | exact cells_agg _ | exact cells_int _ _ | exact cells_bool _ | exact cells_string _ | exact cells_slice _ _ _ | exact cells_pointer _ | exact cells_map _ | exact cells_iface _ _ | exact cells_nilIface | exact cells_func _ _ _)) | (exact cells_one (by assumption)))); clear hs; (try clear w); intro g w hs; skip; simp only [Act.put, zg, zh, zi])
        | ((with_reducible apply pl_store1 hs); (focus (simp only [Act.eval, za, zb, zc, zd, ze, zf]; (try with_reducible rfl); done)); (focus (simp only [Act.eval, za, zb, zc, zd, ze, zf]; (try with_reducible rfl); done)); (focus (simp only [go_sem])); (focus with_reducible (repeat (first | exact ent_here | apply ent_next | exact ent_last)); done); (focus (first | (simp [go_sem]; done) | (simp only [go_sem]; omega) | go_size)); (focus (first | (simp only [go_sem]; done) | (simp [go_sem]; done))); clear hs; (try clear w); intro w hs; (try simp only [zg, zh, zi, clk_set, opv_s0, opv_s1, opv_s2, opv_s3, actv_s0, actv_s1, actv_s2, actv_s3, actv_s4, rnd_s0, rnd_s17, lnk_s0, lnk_s1, lnk_s2, nov_s0, nov_s1, nov_s2, intv_set, bytv_set] at hs); simp only [Act.put, zg, zh, zi]))
  rename_i g0 Q0 g3 g4 g6 K0 hK0
  obtain ⟨p', hs⟩ := hs.ex
  refine leaves_cons (f := 107) (args := dargs g g3 g4 g6) (by simp) (by simp [go_sem]) ?_
  refine (xrP_s c0 (H2 * F) g g3 g4 g6 g0 A n c p (p' : Int) .nilIface cl a k w (hs.mono (by ((repeat (first | (with_reducible (first | exact ent_refl | exact ent_emp)) | ((with_reducible apply ent_front); (focus with_reducible (repeat (first | exact ent_here | apply ent_next | exact ent_last)); done)) | (with_reducible (first | exact ent_keep | apply ent_trans ent_drop)))); done)))).mono ?_
  rintro e u' w'' ⟨⟨v, rfl⟩, rfl, hs⟩
  obtain ⟨ge, hs⟩ := hs.ex
  show Leaves _ _ _ _ [] .returning _
  exact leaves_c1 rfl (by simp only [go_sem]) rfl ((by (focus ((repeat (first | (with_reducible (first | assumption | exact hec _ | exact hec2 _ | exact hec3 _ | exact hec4 _ _)) | ((with_reducible apply readc_here); (focus (first | (simp only [zc, zd, ze, go_sem]; (try with_reducible rfl); done) | (go_simp; (try with_reducible rfl); done)))) | (with_reducible (first | (apply readc_left; assumption) | refine readc_exh (by assumption) ?_ | refine readc_exh0 (by assumption) ?_ | apply readc_next)))); done)) : ReadC _ g6 0 (.iface 116 (.pointer (some ⟨ge, 0, none⟩)))) w'' hs.own) ⟨_, rfl, hs.mono (ent_ex ge (ent_pu rfl (by ((repeat (first | (with_reducible (first | exact ent_refl | exact ent_emp)) | ((with_reducible apply ent_front); (focus with_reducible (repeat (first | exact ent_here | apply ent_next | exact ent_last)); done)) | (with_reducible (first | exact ent_keep | apply ent_trans ent_drop)))); done))))⟩
theorem reads_stay (c0 : World) (F : HP) (g : Nat) (A : Option Addr) (n c p : Nat) (cl : ByteArray) (t : TypeId) (q : Option Addr) (D : FuncId) (cap : Array Value) :
    Spec Tryd.prog c0 92 #[.pointer (some ⟨g, 0, none⟩), .string cl, .func (.func D) #[] cap] (rdc g A n c p (.iface t (.pointer q)) * F) (fun r => pu (r = .iface t (.pointer q)) (rdc g A n c p (.iface t (.pointer q)) * F)) := by
  intro w hs
  go_enter_defers Tryd.func92, Tryd.ntmps92
  go_wp2_with (first
        | ((with_reducible apply pl_load1 hs); (focus (simp only [Act.eval, za, zb, zc, zd, ze, zf]; (try with_reducible rfl); done)); (focus (simp only [go_sem])); (focus ((repeat (first | (with_reducible (first | assumption | exact hec _ | exact hec2 _ | exact hec3 _ | exact hec4 _ _)) | ((with_reducible apply readc_here); (focus (first | (simp only [zc, zd, ze, go_sem]; (try with_reducible rfl); done) | (go_simp; (try with_reducible rfl); done)))) | (with_reducible (first | (apply readc_left; assumption) | refine readc_exh (by assumption) ?_ | refine readc_exh0 (by assumption) ?_ | apply readc_next)))); done)); (focus rfl); simp only [Act.put, zg, zh, zi])
        | ((with_reducible apply pl_alloc hs); (with_reducible (first | exact zero_3 | exact zero_34)); clear hs; (try clear w); intro g w hs; skip; simp only [Act.put, zg, zh, zi])
        | ((with_reducible apply pl_box hs); (focus (simp only [Act.eval, za, zb, zc, zd, ze, zf]; (try with_reducible rfl); done)); (focus (first | (with_reducible (first | exact cells_intv _ | exact cells_bytv _ | exact cells_agg _ | exact cells_int _ _ | exact cells_bool _ | exact cells_string _ | exact cells_slice _ _ _ | exact cells_pointer _ | exact cells_map _ | exact cells_iface _ _ | exact cells_nilIface | exact cells_func _ _ _)) | (exact cells_one (by assumption)))); clear hs; (try clear w); intro g w hs; skip; simp only [Act.put, zg, zh, zi])
        | ((with_reducible apply pl_store1 hs); (focus (simp only [Act.eval, za, zb, zc, zd, ze, zf]; (try with_reducible rfl); done)); (focus (simp only [Act.eval, za, zb, zc, zd, ze, zf]; (try with_reducible rfl); done)); (focus (simp only [go_sem])); (focus with_reducible (repeat (first | exact ent_here | apply ent_next | exact ent_last)); done); (focus (first | (simp [go_sem]; done) | (simp only [go_sem]; omega) | go_size)); (focus (first | (simp only [go_sem]; done) | (simp [go_sem]; done))); clear hs; (try clear w); intro w hs; (try simp only [zg, zh, zi, clk_set, opv_s0, opv_s1, opv_s2, opv_s3, actv_s0, actv_s1, actv_s2, actv_s3, actv_s4, rnd_s0, rnd_s17, lnk_s0, lnk_s1, lnk_s2, nov_s0, nov_s1, nov_s2, intv_set, bytv_set] at hs); simp only [Act.put, zg, zh, zi]))
  simp only [bodyPostD]
  exact leaves_c1 rfl (by simp only [go_sem]) rfl ((by (focus ((repeat (first | (with_reducible (first | assumption | exact hec _ | exact hec2 _ | exact hec3 _ | exact hec4 _ _)) | ((with_reducible apply readc_here); (focus (first | (simp only [zc, zd, ze, go_sem]; (try with_reducible rfl); done) | (go_simp; (try with_reducible rfl); done)))) | (with_reducible (first | (apply readc_left; assumption) | refine readc_exh (by assumption) ?_ | refine readc_exh0 (by assumption) ?_ | apply readc_next)))); done)) : ReadC _ g 0 (.iface t (.pointer q))) w hs.own) ⟨_, rfl, hs.mono (ent_pu rfl (by ((repeat (first | (with_reducible (first | exact ent_refl | exact ent_emp)) | ((with_reducible apply ent_front); (focus with_reducible (repeat (first | exact ent_here | apply ent_next | exact ent_last)); done)) | (with_reducible (first | exact ent_keep | apply ent_trans ent_drop)))); done)))⟩
end Go.Proofs.YtegebjflhhbmiaaDoor
