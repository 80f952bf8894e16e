/- Two texts are read: by the program, by the document. -/
import Derived.Test.YtgoifgockcpnhaaDoorZDC6AW
set_option linter.unusedSimpArgs false
set_option linter.unusedVariables false
namespace Go.Proofs.YtgoifgockcpnhaaDoor
open Go Go.RowKit

abbrev dfB : ByteArray := ⟨#[100, 105, 102, 102]⟩
/-- The reasons that a reading of two texts has. -/
structure ErrB (F : HP) (a : Nat → Addr) : Prop where
  ad : ∀ k, k = 3 ∨ k = 13 → ReadC F (gl k) 0 (.iface 125 (.pointer (some (a k))))
theorem ErrA.b {F : HP} {a : Nat → Addr} (h : ErrA F a) : ErrB F a := ⟨fun k hk => h.ad k (by omega) (by omega)⟩
theorem ErrB.next {A R : HP} {a : Nat → Addr} (h : ErrB R a) : ErrB (A * R) a := ⟨fun k h1 => readc_next (h.ad k h1)⟩
theorem ErrB.left {A R : HP} {a : Nat → Addr} (h : ErrB A a) : ErrB (A * R) a := ⟨fun k h1 => readc_left (h.ad k h1)⟩
theorem ErrB.exh {hR : Hp} {H A : HP} {a : Nat → Addr} (hh : H.on hR) (h : ErrB H a) : ErrB (Exh hR * A) a := ⟨fun k h1 => readc_exh hh (h.ad k h1)⟩
theorem ErrB.exh0 {hR : Hp} {H : HP} {a : Nat → Addr} (hh : H.on hR) (h : ErrB H a) : ErrB (Exh hR) a := ⟨fun k h1 => readc_exh0 hh (h.ad k h1)⟩
theorem ErrB.text {F : HP} {a : Nat → Addr} (h : ErrB F a) : ReadC F 0 0 (.iface 125 (.pointer (some (a 3)))) := h.ad 3 (.inl rfl)
theorem ErrB.room {F : HP} {a : Nat → Addr} (h : ErrB F a) : ReadC F 1 0 (.iface 125 (.pointer (some (a 13)))) := h.ad 13 (.inr rfl)
theorem fnewR_s (c0 : World) (F : HP) (a : Nat → Addr) (x y : ByteArray) (n : Int) (k : Nat) : Spec Tryd.prog c0 58 #[.string x, .string y, .int .i64 n, .iface 125 (.pointer (some (a k)))]
    (pu (1 ≤ k ∧ k ≤ 13) F) (fun r => RefP a (some ([⟨x, y, atV n⟩], k)) r * F) := fun w hs => by
  obtain ⟨⟨h1, h2⟩, hs⟩ := hs.pu
  refine (fnew_s c0 F x y n _ (some (a k)) w hs).mono fun e w' ⟨v, he, h⟩ => ⟨v, he, ?_⟩
  obtain ⟨g, h⟩ := h.ex
  obtain ⟨hv, h3⟩ := h.pu
  subst hv
  refine h3.mono ?_
  dsimp only [RefP]
  rw [pu_star]
  refine ent_pu ⟨h1, h2, by simp⟩ ?_
  exact ent_trans (star_mono ent_refl fch_one) (fch_more (l := ⟨x, y, atV n⟩))
@[go_sem] theorem idx2_0 (x y : ByteArray) (w : World) : (Instr.index 94 (.agg #[.string x, .string y]) (.int .i64 0)).run Tryd.prog w = .ok (.string x) w := by kernel_rfl
@[go_sem] theorem idx2_1 (x y : ByteArray) (w : World) : (Instr.index 94 (.agg #[.string x, .string y]) (.int .i64 1)).run Tryd.prog w = .ok (.string y) w := by kernel_rfl
/-- What is read of two texts. -/
def txtR (A B : ByteArray) : Except (Int × Nat) (List Int × List Int) := match runesL A.data.toList, runesL B.data.toList with
  | none, _ => .error (0, 3)
  | some _, none => .error (1, 3)
  | some x, some y => if 0 < x.length ∧ (4194304 : Int) / (x.length : Int) < (y.length : Int) then .error (-1, 13) else .ok (x, y)
/-- .. by the program. -/
def TxR (a : Nat → Addr) (call A B : ByteArray) (F : HP) (r : Value) : HP := match txtR A B with
  | .ok (x, y) => ex fun u : Value => ex fun v : Value => pu (r = .tuple #[u, v, .nilIface]) (row 21 1 runv u x * (row 21 1 runv v y * F))
  | .error (p, k) => ex fun e : Value => pu (r = .tuple #[.slice none 0 0, .slice none 0 0, e]) (RefP a (some ([⟨dfB, call, p⟩], k)) e * F)
theorem txR_ok {a : Nat → Addr} {call A B : ByteArray} {F : HP} {x y : List Int} {u v : Value} (h : txtR A B = .ok (x, y)) : Ent (row 21 1 runv u x * (row 21 1 runv v y * F)) (TxR a call A B F (.tuple #[u, v, .nilIface])) := by
  unfold TxR; rw [h]; exact ent_ex u (ent_ex v (ent_pu rfl ent_refl))
theorem txR_no {a : Nat → Addr} {call A B : ByteArray} {F : HP} {p : Int} {k : Nat} {e : Value} (h : txtR A B = .error (p, k)) : Ent (RefP a (some ([⟨dfB, call, p⟩], k)) e * F) (TxR a call A B F (.tuple #[.slice none 0 0, .slice none 0 0, e])) := by
  unfold TxR; rw [h]; exact ent_ex e (ent_pu rfl ent_refl)
theorem runes_len {s : ByteArray} {l : List Int} (h : runesL s.data.toList = some l) : l.length ≤ s.size := (encs_runes _ _ _ (Nat.le_refl _) h).2.2
theorem runes_in {s : ByteArray} {l : List Int} (h : runesL s.data.toList = some l) : ∀ c, c ∈ l → RuneI c := (encs_runes _ _ _ (Nat.le_refl _) h).2.1
theorem atV_0 : atV 0 = 0 := by decide
theorem atV_1 : atV 1 = 1 := by decide
set_option maxRecDepth 20000 in
set_option maxHeartbeats 2000000 in
theorem texts_s (c0 : World) (F : HP) (a : Nat → Addr) (call A B : ByteArray) : Spec Tryd.prog c0 31 #[.string call, .string A, .string B] (pu (ErrB F a ∧ TabF F ∧ A.size ≤ 1000000 ∧ B.size ≤ 1000000) F) (TxR a call A B F) := by
  intro w hq; obtain ⟨⟨hE, hT, hA, hB⟩, hs⟩ := hq.pu; clear hq
  have hgt := hE.text
  have hgr := hE.room
  go_enter Tryd.func31, Tryd.ntmps31
  go_wp2_with (first
        | ((with_reducible apply pl_build hs); (focus (simp only [zj, zk, zl, Act.eval, za, zb, zc, zd, ze, zf]; (try with_reducible rfl); done)); (first | (with_reducible exact bld_6 _ _)); (focus rfl); simp only [Act.put, zg, zh, zi]))
  go_loopw [16] (fun i wr => ∃ k : Nat, k ≤ 2 ∧ i = .int .i64 k ∧ (1 ≤ k → (runesL A.data.toList).isSome = true) ∧ (2 ≤ k → (runesL B.data.toList).isSome = true) ∧ Sat c0 F wr) (fun i _ => 2 - (intOf i).toNat)
  case atStart => exact ⟨0, by omega, rfl, by omega, by omega, hs⟩
  case round =>
    clear hs
    obtain ⟨k, hk, rfl, hkA, hkB, hs⟩ := hrel
    rcases (show k = 0 ∨ k = 1 ∨ k = 2 by omega) with rfl | rfl | rfl
    · clear hkA hkB
      rcases Option.eq_none_or_eq_some (runesL A.data.toList) with hx | ⟨x, hx⟩
      ·
        have hR : txtR A B = .error (0, 3) := by unfold txtR; rw [hx]
        replace hR := Lib.hid hR
        go_wp2_with (first
        | ((with_reducible apply pl_call hs (valid_s _ _ _)); ((((focus (simp only [zj, zk, zl, List.append_toArray, List.nil_append, List.cons_append, Act.eval, za, zb, zc, zd, ze, zf]; (try with_reducible rfl); done)); (focus ((repeat (first | (with_reducible (first | exact ent_refl | apply ent_puR)) | ((with_reducible apply ent_front); (focus with_reducible (repeat (first | exact ent_here | apply ent_next | exact ent_last)); done)) | (with_reducible (first | exact ent_keep | apply ent_trans ent_drop)) | (focus (first | ((repeat' (first | (with_reducible assumption) | (with_reducible apply And.intro) | omega)); done))))); done)); (focus (simp only [go_sem]))))); clear hs; (try clear w); intro v w hq; (obtain ⟨hv, hs⟩ := hq.pu; rw [hx] at hv; subst hv); clear hq; (try simp only [star_assoc, star_emp, emp_star] at hs); (try simp only [Act.put, zg, zh, zi]))
        | ((with_reducible apply pl_call hs (fnewR_s _ _ a _ _ _ 3)); ((((focus (simp only [zj, zk, zl, List.append_toArray, List.nil_append, List.cons_append, Act.eval, za, zb, zc, zd, ze, zf]; (try with_reducible rfl); done)); (focus ((repeat (first | (with_reducible (first | exact ent_refl | apply ent_puR)) | ((with_reducible apply ent_front); (focus with_reducible (repeat (first | exact ent_here | apply ent_next | exact ent_last)); done)) | (with_reducible (first | exact ent_keep | apply ent_trans ent_drop)) | (focus (first | ((repeat' (first | (with_reducible apply And.intro) | omega)); done))))); done)); (focus (simp only [go_sem]))))); clear hs; (try clear w); intro v w hq; (have hs := hq; rw [show atV ((0 : Nat) : Int) = 0 from rfl] at hs); clear hq; (try simp only [star_assoc, star_emp, emp_star] at hs); (try simp only [Act.put, zg, zh, zi]))
        | ((with_reducible apply pl_load1 hs); (focus (simp only [Act.eval, za, zb, zc, zd, ze, zf]; (try with_reducible rfl); done)); (focus (simp only [go_sem])); (focus ((repeat (first | (with_reducible (first | assumption | exact hec _ | exact hec2 _ | exact hec3 _ | exact hec4 _ _)) | ((with_reducible apply readc_here); (focus (first | (simp only [zc, zd, ze, go_sem]; (try with_reducible rfl); done) | (go_simp; (try with_reducible rfl); done)))) | (with_reducible (first | (apply readc_left; assumption) | refine readc_exh (by assumption) ?_ | refine readc_exh0 (by assumption) ?_ | apply readc_next)))); done)); (focus rfl); simp only [Act.put, zg, zh, zi]))
        (go_ret3; simp only [za, zb, zc, zd, ze, zf])
        exact ⟨_, rfl, hs.mono (ent_trans (by ((repeat (first | (with_reducible (first | exact ent_refl | exact ent_emp)) | ((with_reducible apply ent_front); (focus with_reducible (repeat (first | exact ent_here | apply ent_next | exact ent_last)); done)) | (with_reducible (first | exact ent_keep | apply ent_trans ent_drop)))); done)) (txR_no hR.out))⟩
      ·
        have hxs : (runesL A.data.toList).isSome = true := by rw [hx]; rfl
        replace hxs := Lib.hid hxs
        go_wp2_with (first
        | ((with_reducible apply pl_call hs (valid_s _ _ _)); ((((focus (simp only [zj, zk, zl, List.append_toArray, List.nil_append, List.cons_append, Act.eval, za, zb, zc, zd, ze, zf]; (try with_reducible rfl); done)); (focus ((repeat (first | (with_reducible (first | exact ent_refl | apply ent_puR)) | ((with_reducible apply ent_front); (focus with_reducible (repeat (first | exact ent_here | apply ent_next | exact ent_last)); done)) | (with_reducible (first | exact ent_keep | apply ent_trans ent_drop)) | (focus (first | ((repeat' (first | (with_reducible assumption) | (with_reducible apply And.intro) | omega)); done))))); done)); (focus (simp only [go_sem]))))); clear hs; (try clear w); intro v w hq; (obtain ⟨hv, hs⟩ := hq.pu; rw [hx] at hv; subst hv); clear hq; (try simp only [star_assoc, star_emp, emp_star] at hs); (try simp only [Act.put, zg, zh, zi])))
        exact ⟨⟨1, by omega, rfl, fun _ => hxs.out, by omega, hs⟩, by simp [intOf]⟩
    · have hxs := hkA (by omega)
      clear hkA hkB
      obtain ⟨x, hx⟩ := Option.isSome_iff_exists.1 hxs
      replace hxs := Lib.hid hxs
      rcases Option.eq_none_or_eq_some (runesL B.data.toList) with hy | ⟨y, hy⟩
      ·
        have hR : txtR A B = .error (1, 3) := by unfold txtR; rw [hx, hy]
        replace hR := Lib.hid hR
        go_wp2_with (first
        | ((with_reducible apply pl_call hs (valid_s _ _ _)); ((((focus (simp only [zj, zk, zl, List.append_toArray, List.nil_append, List.cons_append, Act.eval, za, zb, zc, zd, ze, zf]; (try with_reducible rfl); done)); (focus ((repeat (first | (with_reducible (first | exact ent_refl | apply ent_puR)) | ((with_reducible apply ent_front); (focus with_reducible (repeat (first | exact ent_here | apply ent_next | exact ent_last)); done)) | (with_reducible (first | exact ent_keep | apply ent_trans ent_drop)) | (focus (first | ((repeat' (first | (with_reducible assumption) | (with_reducible apply And.intro) | omega)); done))))); done)); (focus (simp only [go_sem]))))); clear hs; (try clear w); intro v w hq; (obtain ⟨hv, hs⟩ := hq.pu; rw [hy] at hv; subst hv); clear hq; (try simp only [star_assoc, star_emp, emp_star] at hs); (try simp only [Act.put, zg, zh, zi]))
        | ((with_reducible apply pl_call hs (fnewR_s _ _ a _ _ _ 3)); ((((focus (simp only [zj, zk, zl, List.append_toArray, List.nil_append, List.cons_append, Act.eval, za, zb, zc, zd, ze, zf]; (try with_reducible rfl); done)); (focus ((repeat (first | (with_reducible (first | exact ent_refl | apply ent_puR)) | ((with_reducible apply ent_front); (focus with_reducible (repeat (first | exact ent_here | apply ent_next | exact ent_last)); done)) | (with_reducible (first | exact ent_keep | apply ent_trans ent_drop)) | (focus (first | ((repeat' (first | (with_reducible apply And.intro) | omega)); done))))); done)); (focus (simp only [go_sem]))))); clear hs; (try clear w); intro v w hq; (have hs := hq; rw [show atV ((1 : Nat) : Int) = 1 from rfl] at hs); clear hq; (try simp only [star_assoc, star_emp, emp_star] at hs); (try simp only [Act.put, zg, zh, zi]))
        | ((with_reducible apply pl_load1 hs); (focus (simp only [Act.eval, za, zb, zc, zd, ze, zf]; (try with_reducible rfl); done)); (focus (simp only [go_sem])); (focus ((repeat (first | (with_reducible (first | assumption | exact hec _ | exact hec2 _ | exact hec3 _ | exact hec4 _ _)) | ((with_reducible apply readc_here); (focus (first | (simp only [zc, zd, ze, go_sem]; (try with_reducible rfl); done) | (go_simp; (try with_reducible rfl); done)))) | (with_reducible (first | (apply readc_left; assumption) | refine readc_exh (by assumption) ?_ | refine readc_exh0 (by assumption) ?_ | apply readc_next)))); done)); (focus rfl); simp only [Act.put, zg, zh, zi]))
        (go_ret3; simp only [za, zb, zc, zd, ze, zf])
        exact ⟨_, rfl, hs.mono (ent_trans (by ((repeat (first | (with_reducible (first | exact ent_refl | exact ent_emp)) | ((with_reducible apply ent_front); (focus with_reducible (repeat (first | exact ent_here | apply ent_next | exact ent_last)); done)) | (with_reducible (first | exact ent_keep | apply ent_trans ent_drop)))); done)) (txR_no hR.out))⟩
      ·
        have hys : (runesL B.data.toList).isSome = true := by rw [hy]; rfl
        replace hys := Lib.hid hys
        go_wp2_with (first
        | ((with_reducible apply pl_call hs (valid_s _ _ _)); ((((focus (simp only [zj, zk, zl, List.append_toArray, List.nil_append, List.cons_append, Act.eval, za, zb, zc, zd, ze, zf]; (try with_reducible rfl); done)); (focus ((repeat (first | (with_reducible (first | exact ent_refl | apply ent_puR)) | ((with_reducible apply ent_front); (focus with_reducible (repeat (first | exact ent_here | apply ent_next | exact ent_last)); done)) | (with_reducible (first | exact ent_keep | apply ent_trans ent_drop)) | (focus (first | ((repeat' (first | (with_reducible assumption) | (with_reducible apply And.intro) | omega)); done))))); done)); (focus (simp only [go_sem]))))); clear hs; (try clear w); intro v w hq; (obtain ⟨hv, hs⟩ := hq.pu; rw [hy] at hv; subst hv); clear hq; (try simp only [star_assoc, star_emp, emp_star] at hs); (try simp only [Act.put, zg, zh, zi])))
        exact ⟨⟨2, by omega, rfl, fun _ => hxs.out, fun _ => hys.out, hs⟩, by simp [intOf]⟩
    · obtain ⟨x, hx⟩ := Option.isSome_iff_exists.1 (hkA (by omega))
      obtain ⟨y, hy⟩ := Option.isSome_iff_exists.1 (hkB (by omega))
      clear hkA hkB
      have hxl := runes_len hx
      have hyl := runes_len hy
      have hxm : x.length ≤ maxLen := by unfold maxLen; omega
      have hym : y.length ≤ maxLen := by unfold maxLen; omega
      have hR : txtR A B = if 0 < x.length ∧ (4194304 : Int) / (x.length : Int) < (y.length : Int) then .error (-1, 13) else .ok (x, y) := by unfold txtR; rw [hx, hy]
      replace hR := Lib.hid hR
      by_cases h0 : 0 < x.length
      · have hz : (x.length : Int) ≠ 0 := by omega
        have hz1 : (0 : Int) < (x.length : Int) := by omega
        by_cases hr : (4194304 : Int) / (x.length : Int) < (y.length : Int)
        · have hR2 : txtR A B = .error (-1, 13) := by rw [hR.out, if_pos ⟨h0, hr⟩]
          replace hR2 := Lib.hid hR2
          clear hR
          go_wp2_with (first
        | ((with_reducible rewrite [pl_strike_eq]); rotate_left 1; (focus rfl))
        | ((with_reducible apply pl_call hs (fnewR_s _ _ a _ _ _ 13)); ((((focus (simp only [zj, zk, zl, List.append_toArray, List.nil_append, List.cons_append, Act.eval, za, zb, zc, zd, ze, zf]; (try with_reducible rfl); done)); (focus ((repeat (first | (with_reducible (first | exact ent_refl | apply ent_puR)) | ((with_reducible apply ent_front); (focus with_reducible (repeat (first | exact ent_here | apply ent_next | exact ent_last)); done)) | (with_reducible (first | exact ent_keep | apply ent_trans ent_drop)) | (focus (first | ((repeat' (first | (with_reducible apply And.intro) | omega)); done))))); done)); (focus (simp only [go_sem]))))); clear hs; (try clear w); intro v w hq; (have hs := hq; rw [atV_m1] at hs); clear hq; (try simp only [star_assoc, star_emp, emp_star] at hs); (try simp only [Act.put, zg, zh, zi]))
        | ((with_reducible apply pl_load1 hs); (focus (simp only [Act.eval, za, zb, zc, zd, ze, zf]; (try with_reducible rfl); done)); (focus (simp only [go_sem])); (focus ((repeat (first | (with_reducible (first | assumption | exact hec _ | exact hec2 _ | exact hec3 _ | exact hec4 _ _)) | ((with_reducible apply readc_here); (focus (first | (simp only [zc, zd, ze, go_sem]; (try with_reducible rfl); done) | (go_simp; (try with_reducible rfl); done)))) | (with_reducible (first | (apply readc_left; assumption) | refine readc_exh (by assumption) ?_ | refine readc_exh0 (by assumption) ?_ | apply readc_next)))); done)); (focus rfl); simp only [Act.put, zg, zh, zi])
        | ((with_reducible apply pl_cvSR hs); (first | (with_reducible exact rut_33_9)); (focus (simp only [Act.eval, za, zb, zc, zd, ze, zf]; (try with_reducible rfl); done)); (focus with_reducible assumption); (focus (first | (with_reducible assumption) | omega | (simp; done) | (simp; omega))); clear hs; (try clear w); intro g cq w hs; simp only [Act.put, zg, zh, zi]))
          (go_ret3; simp only [za, zb, zc, zd, ze, zf])
          exact ⟨_, rfl, hs.mono (ent_trans (by ((repeat (first | (with_reducible (first | exact ent_refl | exact ent_emp)) | ((with_reducible apply ent_front); (focus with_reducible (repeat (first | exact ent_here | apply ent_next | exact ent_last)); done)) | (with_reducible (first | exact ent_keep | apply ent_trans ent_drop)))); done)) (txR_no hR2.out))⟩
        · have hR2 : txtR A B = .ok (x, y) := by rw [hR.out, if_neg (fun h => hr h.2)]
          replace hR2 := Lib.hid hR2
          clear hR
          go_wp2_with (first
        | ((with_reducible rewrite [pl_strike_eq]); rotate_left 1; (focus rfl))
        | ((with_reducible apply pl_cvSR hs); (first | (with_reducible exact rut_33_9)); (focus (simp only [Act.eval, za, zb, zc, zd, ze, zf]; (try with_reducible rfl); done)); (focus with_reducible assumption); (focus (first | (with_reducible assumption) | omega | (simp; done) | (simp; omega))); clear hs; (try clear w); intro g cq w hs; simp only [Act.put, zg, zh, zi]))
          (go_ret3; simp only [za, zb, zc, zd, ze, zf])
          exact ⟨_, rfl, hs.mono (ent_trans (by ((repeat (first | (with_reducible (first | exact ent_refl | exact ent_emp)) | ((with_reducible apply ent_front); (focus with_reducible (repeat (first | exact ent_here | apply ent_next | exact ent_last)); done)) | (with_reducible (first | exact ent_keep | apply ent_trans ent_drop)))); done)) (txR_ok hR2.out))⟩
      · have hz1 : ¬ ((0 : Int) < (x.length : Int)) := by omega
        have hR2 : txtR A B = .ok (x, y) := by rw [hR.out, if_neg (fun h => h0 h.1)]
        replace hR2 := Lib.hid hR2
        clear hR
        go_wp2_with (first
        | ((with_reducible apply pl_cvSR hs); (first | (with_reducible exact rut_33_9)); (focus (simp only [Act.eval, za, zb, zc, zd, ze, zf]; (try with_reducible rfl); done)); (focus with_reducible assumption); (focus (first | (with_reducible assumption) | omega | (simp; done) | (simp; omega))); clear hs; (try clear w); intro g cq w hs; simp only [Act.put, zg, zh, zi]))
        (go_ret3; simp only [za, zb, zc, zd, ze, zf])
        exact ⟨_, rfl, hs.mono (ent_trans (by ((repeat (first | (with_reducible (first | exact ent_refl | exact ent_emp)) | ((with_reducible apply ent_front); (focus with_reducible (repeat (first | exact ent_here | apply ent_next | exact ent_last)); done)) | (with_reducible (first | exact ent_keep | apply ent_trans ent_drop)))); done)) (txR_ok hR2.out))⟩
/-! ### by the document -/
theorem results_ttc {P : Program} {fn : Func} {a : Act} {w : World} {p u v : Tmp} {ty : TypeId} {n : Nat} {d : TypeDesc} {R : Ending → World → Prop} (hr : fn.results = #[.tmp u, .tmp v, .cell p ty]) (hu : P.underlying ty = some d) (hd : isAggD d = true) (hi : (P.info? ty).map (·.size) = some n)
    (g : Nat) (hp : a.tmps.getD p undef = .pointer (some ⟨g, 0, none⟩)) (cs : Array Value) (hw : win w g 0 n = some cs) (hdf : a.defers = []) (h : R (.returned (.tuple #[a.tmps.getD u undef, a.tmps.getD v undef, .agg cs])) w) : bodyPost P fn R .ret a w := by
  refine bodyPost_ret ?_ hdf h
  have hp' : a.tmps[p]?.getD undef = .pointer (some ⟨g, 0, none⟩) := by simpa using hp
  simp [results, hr, hp', asAddr, run_loadVar_win hu hd hi hw]
def RdR (call A B : ByteArray) (F : HP) (r : Value) : HP := match txtR A B with
  | .ok (x, y) => ex fun u : Value => ex fun v : Value => ex fun m : NoD => pu (r = .tuple #[u, v, .agg (nov m)] ∧ m.code = 0) (row 21 1 runv u x * (row 21 1 runv v y * F))
  | .error (p, k) => ex fun m : NoD => pu (r = .tuple #[.slice none 0 0, .slice none 0 0, .agg (nov m)]) (NoP (some ([⟨dfB, call, p⟩], k)) m * F)
theorem rdR_ok {call A B : ByteArray} {F : HP} {x y : List Int} {u v : Value} {m : NoD} (h : txtR A B = .ok (x, y)) (hm : m.code = 0) : Ent (row 21 1 runv u x * (row 21 1 runv v y * F)) (RdR call A B F (.tuple #[u, v, .agg (nov m)])) := by
  unfold RdR; rw [h]; exact ent_ex u (ent_ex v (ent_ex m (ent_pu ⟨rfl, hm⟩ ent_refl)))
theorem rdR_no {call A B : ByteArray} {F : HP} {p : Int} {k : Nat} {m : NoD} (h : txtR A B = .error (p, k)) : Ent (NoP (some ([⟨dfB, call, p⟩], k)) m * F) (RdR call A B F (.tuple #[.slice none 0 0, .slice none 0 0, .agg (nov m)])) := by
  unfold RdR; rw [h]; exact ent_ex m (ent_pu rfl ent_refl)
theorem runesS_s (c0 : World) (F : HP) (s : ByteArray) (l : List Int) : Spec Tryd.prog c0 14 #[.string s] (pu (s.size ≤ 1000000 ∧ runesL s.data.toList = some l) F) (fun r => ex fun v : Value => pu (r = .tuple #[v, .bool true]) (row 21 1 runv v l * F)) := fun w hs => by
  obtain ⟨⟨h1, h2⟩, hs⟩ := hs.pu
  have := runes_s c0 F s w (hs.mono (ent_pu h1 ent_refl))
  unfold runesR at this
  rw [h2] at this
  exact this
theorem runesN_s (c0 : World) (F : HP) (s : ByteArray) : Spec Tryd.prog c0 14 #[.string s] (pu (s.size ≤ 1000000 ∧ runesL s.data.toList = none) F) (fun r => pu (r = .tuple #[.slice none 0 0, .bool false]) F) := fun w hs => by
  obtain ⟨⟨h1, h2⟩, hs⟩ := hs.pu
  have := runes_s c0 F s w (hs.mono (ent_pu h1 ent_refl))
  unfold runesR at this
  rw [h2] at this
  exact this
set_option maxRecDepth 20000 in
set_option maxHeartbeats 2000000 in
theorem read_s (c0 : World) (F : HP) (call A B : ByteArray) : Spec Tryd.prog c0 46 #[.string call, .string A, .string B] (pu (A.size ≤ 1000000 ∧ B.size ≤ 1000000) F) (RdR call A B F) := by
  intro w hq; obtain ⟨⟨hA, hB⟩, hs⟩ := hq.pu; clear hq
  rcases Option.eq_none_or_eq_some (runesL A.data.toList) with hx | ⟨x, hx⟩
  · have hR : txtR A B = .error (0, 3) := by unfold txtR; rw [hx]
    replace hR := Lib.hid hR
    have hrd : ∀ F, Spec Tryd.prog c0 14 #[.string A] F (fun r => pu (r = .tuple #[.slice none 0 0, .bool false]) F) := fun F w hs => runesN_s c0 F A w (Sat.mono hs (ent_pu ⟨hA, hx⟩ ent_refl))
    clear hx
    go_enter Tryd.func46, Tryd.ntmps46
    go_wp2_with (first
        | ((with_reducible apply pl_call hs (hrd _)); ((((focus (simp only [zj, zk, zl, List.append_toArray, List.nil_append, List.cons_append, Act.eval, za, zb, zc, zd, ze, zf]; (try with_reducible rfl); done)); (focus ((repeat (first | (with_reducible (first | exact ent_refl | apply ent_puR)) | ((with_reducible apply ent_front); (focus with_reducible (repeat (first | exact ent_here | apply ent_next | exact ent_last)); done)) | (with_reducible (first | exact ent_keep | apply ent_trans ent_drop)) | (fail))); done)); (focus (simp only [go_sem]))))); clear hs; (try clear w); intro v w hq; (obtain ⟨rfl, hs⟩ := hq.pu); clear hq; (try simp only [star_assoc, star_emp, emp_star] at hs); (try simp only [Act.put, zg, zh, zi]))
        | ((with_reducible apply pl_call hs (sayK_s _ _ _ _ _ _ 3)); ((((focus (simp only [zj, zk, zl, List.append_toArray, List.nil_append, List.cons_append, Act.eval, za, zb, zc, zd, ze, zf]; (try with_reducible rfl); done)); (focus ((repeat (first | (with_reducible (first | exact ent_refl | apply ent_puR)) | ((with_reducible apply ent_front); (focus with_reducible (repeat (first | exact ent_here | apply ent_next | exact ent_last)); done)) | (with_reducible (first | exact ent_keep | apply ent_trans ent_drop)) | (focus (first | ((repeat' (first | (with_reducible apply And.intro) | omega)); done))))); done)); (focus (simp only [go_sem]))))); clear hs; (try clear w); intro v w hq; (obtain ⟨m, hq1⟩ := hq.ex; obtain ⟨rfl, hs⟩ := hq1.pu; clear hq1; rw [atV_0] at hs); clear hq; (try simp only [star_assoc, star_emp, emp_star] at hs); (try simp only [Act.put, zg, zh, zi]))
        | ((with_reducible apply pl_alloc hs); (with_reducible (first | exact zero_50)); clear hs; (try clear w); intro g w hs; skip; simp only [Act.put, zg, zh, zi])
        | ((with_reducible apply pl_storeN hs); (focus (simp only [Act.eval, za, zb, zc, zd, ze, zf]; (try with_reducible rfl); done)); (focus (simp only [Act.eval, za, zb, zc, zd, ze, zf]; (try with_reducible rfl); done)); (with_reducible (first | exact agg_50)); (focus with_reducible (repeat (first | exact ent_here | apply ent_next | exact ent_last)); done); (focus (first | (with_reducible rfl) | (simp only [go_sem]; done) | (simp; done))); (focus (first | (simp [go_sem]; done) | (simp only [go_sem]; omega) | go_size)); (focus (first | (simp only [go_sem]; done) | (simp [go_sem]; done))); (focus (first | ((with_reducible apply splice_whole); (focus (first | (with_reducible rfl) | (simp only [go_sem]; done) | (simp; done)))) | (simp [splice, go_sem]; done) | (simp only [go_sem]; (try with_reducible rfl); done))); clear hs; (try clear w); intro w hs; (try simp only [zg, zh, zi, edt_s0, edt_s1, edt_s2, txt_s0, txt_s1, txt_s2, txt_s3, lnk_s0, lnk_s1, lnk_s2, nov_s0, nov_s1, nov_s2, intv_set, bytv_set, runv_set, slv_set] at hs); simp only [Act.put, zg, zh, zi]))
    refine results_ttc (n := 3) rfl Tryd.underlying50 rfl (by kernel_rfl) _ rfl _ ((by (focus ((repeat (first | (with_reducible (first | assumption | exact hel _ | exact hel2 _ | exact hel3 _)) | ((with_reducible apply reads_whole); (focus (first | (with_reducible rfl) | (simp only [go_sem]; done) | (simp; done)))) | ((with_reducible apply reads_part); (focus (first | (simp [go_sem]; done) | (simp only [go_sem]; omega) | go_size)); (focus (first | (simp only [Nat.reduceAdd, Nat.zero_add, go_sem]; (try with_reducible rfl); done) | (simp [go_sem]; (try with_reducible rfl); done)))) | (with_reducible (first | (apply reads_left; assumption) | refine reads_exh (by assumption) ?_ | refine reads_exh0 (by assumption) ?_ | apply reads_next)))); done)) : Reads _ _ 0 3 (nov _)) w hs.own) rfl ⟨_, rfl, hs.mono (ent_trans (by ((repeat (first | (with_reducible (first | exact ent_refl | exact ent_emp)) | ((with_reducible apply ent_front); (focus with_reducible (repeat (first | exact ent_here | apply ent_next | exact ent_last)); done)) | (with_reducible (first | exact ent_keep | apply ent_trans ent_drop)))); done)) (rdR_no hR.out))⟩
  · have hrx : ∀ F, Spec Tryd.prog c0 14 #[.string A] F (fun r => ex fun v : Value => pu (r = .tuple #[v, .bool true]) (row 21 1 runv v x * F)) := fun F w hs => runesS_s c0 F A x w (Sat.mono hs (ent_pu ⟨hA, hx⟩ ent_refl))
    rcases Option.eq_none_or_eq_some (runesL B.data.toList) with hy | ⟨y, hy⟩
    · have hR : txtR A B = .error (1, 3) := by unfold txtR; rw [hx, hy]
      replace hR := Lib.hid hR
      have hry : ∀ F, Spec Tryd.prog c0 14 #[.string B] F (fun r => pu (r = .tuple #[.slice none 0 0, .bool false]) F) := fun F w hs => runesN_s c0 F B w (Sat.mono hs (ent_pu ⟨hB, hy⟩ ent_refl))
      have hAB : Hid (A ≠ B) := Lib.hid fun h => by rw [h, hy] at hx; cases hx
      clear hx hy
      go_enter Tryd.func46, Tryd.ntmps46
      go_wp2_with (first
        | ((with_reducible apply pl_call hs (hrx _)); ((((focus (simp only [zj, zk, zl, List.append_toArray, List.nil_append, List.cons_append, Act.eval, za, zb, zc, zd, ze, zf]; (try with_reducible rfl); done)); (focus ((repeat (first | (with_reducible (first | exact ent_refl | apply ent_puR)) | ((with_reducible apply ent_front); (focus with_reducible (repeat (first | exact ent_here | apply ent_next | exact ent_last)); done)) | (with_reducible (first | exact ent_keep | apply ent_trans ent_drop)) | (fail))); done)); (focus (simp only [go_sem]))))); clear hs; (try clear w); intro v w hq; (obtain ⟨vx, hq1⟩ := hq.ex; obtain ⟨rfl, hs⟩ := hq1.pu; clear hq1); clear hq; (try simp only [star_assoc, star_emp, emp_star] at hs); (try simp only [Act.put, zg, zh, zi]))
        | ((with_reducible apply pl_call hs (hry _)); ((((focus (simp only [zj, zk, zl, List.append_toArray, List.nil_append, List.cons_append, Act.eval, za, zb, zc, zd, ze, zf]; (try with_reducible rfl); done)); (focus ((repeat (first | (with_reducible (first | exact ent_refl | apply ent_puR)) | ((with_reducible apply ent_front); (focus with_reducible (repeat (first | exact ent_here | apply ent_next | exact ent_last)); done)) | (with_reducible (first | exact ent_keep | apply ent_trans ent_drop)) | (fail))); done)); (focus (simp only [go_sem]))))); clear hs; (try clear w); intro v w hq; (obtain ⟨rfl, hs⟩ := hq.pu); clear hq; (try simp only [star_assoc, star_emp, emp_star] at hs); (try simp only [Act.put, zg, zh, zi]))
        | ((with_reducible apply pl_call hs (sayK_s _ _ _ _ _ _ 3)); ((((focus (simp only [zj, zk, zl, List.append_toArray, List.nil_append, List.cons_append, Act.eval, za, zb, zc, zd, ze, zf]; (try with_reducible rfl); done)); (focus ((repeat (first | (with_reducible (first | exact ent_refl | apply ent_puR)) | ((with_reducible apply ent_front); (focus with_reducible (repeat (first | exact ent_here | apply ent_next | exact ent_last)); done)) | (with_reducible (first | exact ent_keep | apply ent_trans ent_drop)) | (focus (first | ((repeat' (first | (with_reducible apply And.intro) | omega)); done))))); done)); (focus (simp only [go_sem]))))); clear hs; (try clear w); intro v w hq; (obtain ⟨m, hq1⟩ := hq.ex; obtain ⟨rfl, hs⟩ := hq1.pu; clear hq1; rw [atV_1] at hs); clear hq; (try simp only [star_assoc, star_emp, emp_star] at hs); (try simp only [Act.put, zg, zh, zi]))
        | ((with_reducible apply pl_alloc hs); (with_reducible (first | exact zero_50)); clear hs; (try clear w); intro g w hs; skip; simp only [Act.put, zg, zh, zi])
        | ((with_reducible apply pl_storeN hs); (focus (simp only [Act.eval, za, zb, zc, zd, ze, zf]; (try with_reducible rfl); done)); (focus (simp only [Act.eval, za, zb, zc, zd, ze, zf]; (try with_reducible rfl); done)); (with_reducible (first | exact agg_50)); (focus with_reducible (repeat (first | exact ent_here | apply ent_next | exact ent_last)); done); (focus (first | (with_reducible rfl) | (simp only [go_sem]; done) | (simp; done))); (focus (first | (simp [go_sem]; done) | (simp only [go_sem]; omega) | go_size)); (focus (first | (simp only [go_sem]; done) | (simp [go_sem]; done))); (focus (first | ((with_reducible apply splice_whole); (focus (first | (with_reducible rfl) | (simp only [go_sem]; done) | (simp; done)))) | (simp [splice, go_sem]; done) | (simp only [go_sem]; (try with_reducible rfl); done))); clear hs; (try clear w); intro w hs; (try simp only [zg, zh, zi, edt_s0, edt_s1, edt_s2, txt_s0, txt_s1, txt_s2, txt_s3, lnk_s0, lnk_s1, lnk_s2, nov_s0, nov_s1, nov_s2, intv_set, bytv_set, runv_set, slv_set] at hs); simp only [Act.put, zg, zh, zi]))
      refine results_ttc (n := 3) rfl Tryd.underlying50 rfl (by kernel_rfl) _ rfl _ ((by (focus ((repeat (first | (with_reducible (first | assumption | exact hel _ | exact hel2 _ | exact hel3 _)) | ((with_reducible apply reads_whole); (focus (first | (with_reducible rfl) | (simp only [go_sem]; done) | (simp; done)))) | ((with_reducible apply reads_part); (focus (first | (simp [go_sem]; done) | (simp only [go_sem]; omega) | go_size)); (focus (first | (simp only [Nat.reduceAdd, Nat.zero_add, go_sem]; (try with_reducible rfl); done) | (simp [go_sem]; (try with_reducible rfl); done)))) | (with_reducible (first | (apply reads_left; assumption) | refine reads_exh (by assumption) ?_ | refine reads_exh0 (by assumption) ?_ | apply reads_next)))); done)) : Reads _ _ 0 3 (nov _)) w hs.own) rfl ⟨_, rfl, hs.mono (ent_trans (by ((repeat (first | (with_reducible (first | exact ent_refl | exact ent_emp)) | ((with_reducible apply ent_front); (focus with_reducible (repeat (first | exact ent_here | apply ent_next | exact ent_last)); done)) | (with_reducible (first | exact ent_keep | apply ent_trans ent_drop)))); done)) (rdR_no hR.out))⟩
    · have hry : ∀ F, Spec Tryd.prog c0 14 #[.string B] F (fun r => ex fun v : Value => pu (r = .tuple #[v, .bool true]) (row 21 1 runv v y * F)) := fun F w hs => runesS_s c0 F B y w (Sat.mono hs (ent_pu ⟨hB, hy⟩ ent_refl))
      have hxl := runes_len hx
      have hyl := runes_len hy
      have hR : txtR A B = if 0 < x.length ∧ (4194304 : Int) / (x.length : Int) < (y.length : Int) then .error (-1, 13) else .ok (x, y) := by unfold txtR; rw [hx, hy]
      replace hR := Lib.hid hR
      clear hx hy
      by_cases h0 : 0 < x.length
      · have hz : (x.length : Int) ≠ 0 := by omega
        have hz1 : (0 : Int) < (x.length : Int) := by omega
        by_cases hr : (4194304 : Int) / (x.length : Int) < (y.length : Int)
        · have hR2 : txtR A B = .error (-1, 13) := by rw [hR.out, if_pos ⟨h0, hr⟩]
          replace hR2 := Lib.hid hR2
          clear hR
          go_enter Tryd.func46, Tryd.ntmps46
          go_wp2_with (first
        | ((with_reducible rewrite [pl_strike_eq]); rotate_left 1; (focus rfl))
        | ((with_reducible apply pl_call hs (hrx _)); ((((focus (simp only [zj, zk, zl, List.append_toArray, List.nil_append, List.cons_append, Act.eval, za, zb, zc, zd, ze, zf]; (try with_reducible rfl); done)); (focus ((repeat (first | (with_reducible (first | exact ent_refl | apply ent_puR)) | ((with_reducible apply ent_front); (focus with_reducible (repeat (first | exact ent_here | apply ent_next | exact ent_last)); done)) | (with_reducible (first | exact ent_keep | apply ent_trans ent_drop)) | (fail))); done)); (focus (simp only [go_sem]))))); clear hs; (try clear w); intro v w hq; (obtain ⟨vx, hq1⟩ := hq.ex; obtain ⟨rfl, hs⟩ := hq1.pu; clear hq1; obtain ⟨Ax, cx, rfl, hx1, hx2⟩ := row_slice hs.own); clear hq; (try simp only [star_assoc, star_emp, emp_star] at hs); (try simp only [Act.put, zg, zh, zi]))
        | ((with_reducible apply pl_call hs (hry _)); ((((focus (simp only [zj, zk, zl, List.append_toArray, List.nil_append, List.cons_append, Act.eval, za, zb, zc, zd, ze, zf]; (try with_reducible rfl); done)); (focus ((repeat (first | (with_reducible (first | exact ent_refl | apply ent_puR)) | ((with_reducible apply ent_front); (focus with_reducible (repeat (first | exact ent_here | apply ent_next | exact ent_last)); done)) | (with_reducible (first | exact ent_keep | apply ent_trans ent_drop)) | (fail))); done)); (focus (simp only [go_sem]))))); clear hs; (try clear w); intro v w hq; (obtain ⟨vy, hq1⟩ := hq.ex; obtain ⟨rfl, hs⟩ := hq1.pu; clear hq1; obtain ⟨Ay, cy, rfl, hy1, hy2⟩ := row_slice hs.own); clear hq; (try simp only [star_assoc, star_emp, emp_star] at hs); (try simp only [Act.put, zg, zh, zi]))
        | ((with_reducible apply pl_call hs (sayK_s _ _ _ _ _ _ 13)); ((((focus (simp only [zj, zk, zl, List.append_toArray, List.nil_append, List.cons_append, Act.eval, za, zb, zc, zd, ze, zf]; (try with_reducible rfl); done)); (focus ((repeat (first | (with_reducible (first | exact ent_refl | apply ent_puR)) | ((with_reducible apply ent_front); (focus with_reducible (repeat (first | exact ent_here | apply ent_next | exact ent_last)); done)) | (with_reducible (first | exact ent_keep | apply ent_trans ent_drop)) | (focus (first | ((repeat' (first | (with_reducible apply And.intro) | omega)); done))))); done)); (focus (simp only [go_sem]))))); clear hs; (try clear w); intro v w hq; (obtain ⟨m, hq1⟩ := hq.ex; obtain ⟨rfl, hs⟩ := hq1.pu; clear hq1; rw [atV_m1] at hs); clear hq; (try simp only [star_assoc, star_emp, emp_star] at hs); (try simp only [Act.put, zg, zh, zi]))
        | ((with_reducible apply pl_alloc hs); (with_reducible (first | exact zero_50)); clear hs; (try clear w); intro g w hs; skip; simp only [Act.put, zg, zh, zi])
        | ((with_reducible apply pl_storeN hs); (focus (simp only [Act.eval, za, zb, zc, zd, ze, zf]; (try with_reducible rfl); done)); (focus (simp only [Act.eval, za, zb, zc, zd, ze, zf]; (try with_reducible rfl); done)); (with_reducible (first | exact agg_50)); (focus with_reducible (repeat (first | exact ent_here | apply ent_next | exact ent_last)); done); (focus (first | (with_reducible rfl) | (simp only [go_sem]; done) | (simp; done))); (focus (first | (simp [go_sem]; done) | (simp only [go_sem]; omega) | go_size)); (focus (first | (simp only [go_sem]; done) | (simp [go_sem]; done))); (focus (first | ((with_reducible apply splice_whole); (focus (first | (with_reducible rfl) | (simp only [go_sem]; done) | (simp; done)))) | (simp [splice, go_sem]; done) | (simp only [go_sem]; (try with_reducible rfl); done))); clear hs; (try clear w); intro w hs; (try simp only [zg, zh, zi, edt_s0, edt_s1, edt_s2, txt_s0, txt_s1, txt_s2, txt_s3, lnk_s0, lnk_s1, lnk_s2, nov_s0, nov_s1, nov_s2, intv_set, bytv_set, runv_set, slv_set] at hs); simp only [Act.put, zg, zh, zi]))
          refine results_ttc (n := 3) rfl Tryd.underlying50 rfl (by kernel_rfl) _ rfl _ ((by (focus ((repeat (first | (with_reducible (first | assumption | exact hel _ | exact hel2 _ | exact hel3 _)) | ((with_reducible apply reads_whole); (focus (first | (with_reducible rfl) | (simp only [go_sem]; done) | (simp; done)))) | ((with_reducible apply reads_part); (focus (first | (simp [go_sem]; done) | (simp only [go_sem]; omega) | go_size)); (focus (first | (simp only [Nat.reduceAdd, Nat.zero_add, go_sem]; (try with_reducible rfl); done) | (simp [go_sem]; (try with_reducible rfl); done)))) | (with_reducible (first | (apply reads_left; assumption) | refine reads_exh (by assumption) ?_ | refine reads_exh0 (by assumption) ?_ | apply reads_next)))); done)) : Reads _ _ 0 3 (nov _)) w hs.own) rfl ⟨_, rfl, hs.mono (ent_trans (by ((repeat (first | (with_reducible (first | exact ent_refl | exact ent_emp)) | ((with_reducible apply ent_front); (focus with_reducible (repeat (first | exact ent_here | apply ent_next | exact ent_last)); done)) | (with_reducible (first | exact ent_keep | apply ent_trans ent_drop)))); done)) (rdR_no hR2.out))⟩
        · have hR2 : txtR A B = .ok (x, y) := by rw [hR.out, if_neg (fun h => hr h.2)]
          replace hR2 := Lib.hid hR2
          clear hR
          go_enter Tryd.func46, Tryd.ntmps46
          go_wp2_with (first
        | ((with_reducible rewrite [pl_strike_eq]); rotate_left 1; (focus rfl))
        | ((with_reducible apply pl_call hs (hrx _)); ((((focus (simp only [zj, zk, zl, List.append_toArray, List.nil_append, List.cons_append, Act.eval, za, zb, zc, zd, ze, zf]; (try with_reducible rfl); done)); (focus ((repeat (first | (with_reducible (first | exact ent_refl | apply ent_puR)) | ((with_reducible apply ent_front); (focus with_reducible (repeat (first | exact ent_here | apply ent_next | exact ent_last)); done)) | (with_reducible (first | exact ent_keep | apply ent_trans ent_drop)) | (fail))); done)); (focus (simp only [go_sem]))))); clear hs; (try clear w); intro v w hq; (obtain ⟨vx, hq1⟩ := hq.ex; obtain ⟨rfl, hs⟩ := hq1.pu; clear hq1; obtain ⟨Ax, cx, rfl, hx1, hx2⟩ := row_slice hs.own); clear hq; (try simp only [star_assoc, star_emp, emp_star] at hs); (try simp only [Act.put, zg, zh, zi]))
        | ((with_reducible apply pl_call hs (hry _)); ((((focus (simp only [zj, zk, zl, List.append_toArray, List.nil_append, List.cons_append, Act.eval, za, zb, zc, zd, ze, zf]; (try with_reducible rfl); done)); (focus ((repeat (first | (with_reducible (first | exact ent_refl | apply ent_puR)) | ((with_reducible apply ent_front); (focus with_reducible (repeat (first | exact ent_here | apply ent_next | exact ent_last)); done)) | (with_reducible (first | exact ent_keep | apply ent_trans ent_drop)) | (fail))); done)); (focus (simp only [go_sem]))))); clear hs; (try clear w); intro v w hq; (obtain ⟨vy, hq1⟩ := hq.ex; obtain ⟨rfl, hs⟩ := hq1.pu; clear hq1; obtain ⟨Ay, cy, rfl, hy1, hy2⟩ := row_slice hs.own); clear hq; (try simp only [star_assoc, star_emp, emp_star] at hs); (try simp only [Act.put, zg, zh, zi]))
        | ((with_reducible apply pl_build hs); (focus (simp only [zj, zk, zl, Act.eval, za, zb, zc, zd, ze, zf]; (try with_reducible rfl); done)); (first | (with_reducible exact bld_2)); (focus rfl); simp only [Act.put, zg, zh, zi])
        | ((with_reducible apply pl_alloc hs); (with_reducible (first | exact zero_50)); clear hs; (try clear w); intro g w hs; skip; simp only [Act.put, zg, zh, zi])
        | ((with_reducible apply pl_storeN hs); (focus (simp only [Act.eval, za, zb, zc, zd, ze, zf]; (try with_reducible rfl); done)); (focus (simp only [Act.eval, za, zb, zc, zd, ze, zf]; (try with_reducible rfl); done)); (with_reducible (first | exact agg_50)); (focus with_reducible (repeat (first | exact ent_here | apply ent_next | exact ent_last)); done); (focus (first | (with_reducible rfl) | (simp only [go_sem]; done) | (simp; done))); (focus (first | (simp [go_sem]; done) | (simp only [go_sem]; omega) | go_size)); (focus (first | (simp only [go_sem]; done) | (simp [go_sem]; done))); (focus (first | ((with_reducible apply splice_whole); (focus (first | (with_reducible rfl) | (simp only [go_sem]; done) | (simp; done)))) | (simp [splice, go_sem]; done) | (simp only [go_sem]; (try with_reducible rfl); done))); clear hs; (try clear w); intro w hs; (try simp only [zg, zh, zi, edt_s0, edt_s1, edt_s2, txt_s0, txt_s1, txt_s2, txt_s3, lnk_s0, lnk_s1, lnk_s2, nov_s0, nov_s1, nov_s2, intv_set, bytv_set, runv_set, slv_set] at hs); simp only [Act.put, zg, zh, zi]))
          refine results_ttc (n := 3) rfl Tryd.underlying50 rfl (by kernel_rfl) _ rfl _ ((by (focus ((repeat (first | (with_reducible (first | assumption | exact hel _ | exact hel2 _ | exact hel3 _)) | ((with_reducible apply reads_whole); (focus (first | (with_reducible rfl) | (simp only [go_sem]; done) | (simp; done)))) | ((with_reducible apply reads_part); (focus (first | (simp [go_sem]; done) | (simp only [go_sem]; omega) | go_size)); (focus (first | (simp only [Nat.reduceAdd, Nat.zero_add, go_sem]; (try with_reducible rfl); done) | (simp [go_sem]; (try with_reducible rfl); done)))) | (with_reducible (first | (apply reads_left; assumption) | refine reads_exh (by assumption) ?_ | refine reads_exh0 (by assumption) ?_ | apply reads_next)))); done)) : Reads _ _ 0 3 (nov _)) w hs.own) rfl ⟨_, rfl, hs.mono (ent_trans (B := row 21 1 runv (.slice Ax x.length cx) x * (row 21 1 runv (.slice Ay y.length cy) y * F)) (by ((repeat (first | (with_reducible (first | exact ent_refl | exact ent_emp)) | ((with_reducible apply ent_front); (focus with_reducible (repeat (first | exact ent_here | apply ent_next | exact ent_last)); done)) | (with_reducible (first | exact ent_keep | apply ent_trans ent_drop)))); done)) (rdR_ok hR2.out rfl))⟩
      · have hz1 : ¬ ((0 : Int) < (x.length : Int)) := by omega
        have hR2 : txtR A B = .ok (x, y) := by rw [hR.out, if_neg (fun h => h0 h.1)]
        replace hR2 := Lib.hid hR2
        clear hR
        go_enter Tryd.func46, Tryd.ntmps46
        go_wp2_with (first
        | ((with_reducible apply pl_call hs (hrx _)); ((((focus (simp only [zj, zk, zl, List.append_toArray, List.nil_append, List.cons_append, Act.eval, za, zb, zc, zd, ze, zf]; (try with_reducible rfl); done)); (focus ((repeat (first | (with_reducible (first | exact ent_refl | apply ent_puR)) | ((with_reducible apply ent_front); (focus with_reducible (repeat (first | exact ent_here | apply ent_next | exact ent_last)); done)) | (with_reducible (first | exact ent_keep | apply ent_trans ent_drop)) | (fail))); done)); (focus (simp only [go_sem]))))); clear hs; (try clear w); intro v w hq; (obtain ⟨vx, hq1⟩ := hq.ex; obtain ⟨rfl, hs⟩ := hq1.pu; clear hq1; obtain ⟨Ax, cx, rfl, hx1, hx2⟩ := row_slice hs.own); clear hq; (try simp only [star_assoc, star_emp, emp_star] at hs); (try simp only [Act.put, zg, zh, zi]))
        | ((with_reducible apply pl_call hs (hry _)); ((((focus (simp only [zj, zk, zl, List.append_toArray, List.nil_append, List.cons_append, Act.eval, za, zb, zc, zd, ze, zf]; (try with_reducible rfl); done)); (focus ((repeat (first | (with_reducible (first | exact ent_refl | apply ent_puR)) | ((with_reducible apply ent_front); (focus with_reducible (repeat (first | exact ent_here | apply ent_next | exact ent_last)); done)) | (with_reducible (first | exact ent_keep | apply ent_trans ent_drop)) | (fail))); done)); (focus (simp only [go_sem]))))); clear hs; (try clear w); intro v w hq; (obtain ⟨vy, hq1⟩ := hq.ex; obtain ⟨rfl, hs⟩ := hq1.pu; clear hq1; obtain ⟨Ay, cy, rfl, hy1, hy2⟩ := row_slice hs.own); clear hq; (try simp only [star_assoc, star_emp, emp_star] at hs); (try simp only [Act.put, zg, zh, zi]))
        | ((with_reducible apply pl_build hs); (focus (simp only [zj, zk, zl, Act.eval, za, zb, zc, zd, ze, zf]; (try with_reducible rfl); done)); (first | (with_reducible exact bld_2)); (focus rfl); simp only [Act.put, zg, zh, zi])
        | ((with_reducible apply pl_alloc hs); (with_reducible (first | exact zero_50)); clear hs; (try clear w); intro g w hs; skip; simp only [Act.put, zg, zh, zi])
        | ((with_reducible apply pl_storeN hs); (focus (simp only [Act.eval, za, zb, zc, zd, ze, zf]; (try with_reducible rfl); done)); (focus (simp only [Act.eval, za, zb, zc, zd, ze, zf]; (try with_reducible rfl); done)); (with_reducible (first | exact agg_50)); (focus with_reducible (repeat (first | exact ent_here | apply ent_next | exact ent_last)); done); (focus (first | (with_reducible rfl) | (simp only [go_sem]; done) | (simp; done))); (focus (first | (simp [go_sem]; done) | (simp only [go_sem]; omega) | go_size)); (focus (first | (simp only [go_sem]; done) | (simp [go_sem]; done))); (focus (first | ((with_reducible apply splice_whole); (focus (first | (with_reducible rfl) | (simp only [go_sem]; done) | (simp; done)))) | (simp [splice, go_sem]; done) | (simp only [go_sem]; (try with_reducible rfl); done))); clear hs; (try clear w); intro w hs; (try simp only [zg, zh, zi, edt_s0, edt_s1, edt_s2, txt_s0, txt_s1, txt_s2, txt_s3, lnk_s0, lnk_s1, lnk_s2, nov_s0, nov_s1, nov_s2, intv_set, bytv_set, runv_set, slv_set] at hs); simp only [Act.put, zg, zh, zi]))
        refine results_ttc (n := 3) rfl Tryd.underlying50 rfl (by kernel_rfl) _ rfl _ ((by (focus ((repeat (first | (with_reducible (first | assumption | exact hel _ | exact hel2 _ | exact hel3 _)) | ((with_reducible apply reads_whole); (focus (first | (with_reducible rfl) | (simp only [go_sem]; done) | (simp; done)))) | ((with_reducible apply reads_part); (focus (first | (simp [go_sem]; done) | (simp only [go_sem]; omega) | go_size)); (focus (first | (simp only [Nat.reduceAdd, Nat.zero_add, go_sem]; (try with_reducible rfl); done) | (simp [go_sem]; (try with_reducible rfl); done)))) | (with_reducible (first | (apply reads_left; assumption) | refine reads_exh (by assumption) ?_ | refine reads_exh0 (by assumption) ?_ | apply reads_next)))); done)) : Reads _ _ 0 3 (nov _)) w hs.own) rfl ⟨_, rfl, hs.mono (ent_trans (B := row 21 1 runv (.slice Ax x.length cx) x * (row 21 1 runv (.slice Ay y.length cy) y * F)) (by ((repeat (first | (with_reducible (first | exact ent_refl | exact ent_emp)) | ((with_reducible apply ent_front); (focus with_reducible (repeat (first | exact ent_here | apply ent_next | exact ent_last)); done)) | (with_reducible (first | exact ent_keep | apply ent_trans ent_drop)))); done)) (rdR_ok hR2.out rfl))⟩
end Go.Proofs.YtgoifgockcpnhaaDoor
