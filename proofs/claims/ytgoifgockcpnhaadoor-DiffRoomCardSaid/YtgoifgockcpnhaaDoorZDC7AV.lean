/- Two texts are read: by the program, by the document. -/
import Derived.Test.YtgoifgockcpnhaaDoorZDC7AO
import Derived.Test.YtgoifgockcpnhaaDoorZDC7AQ
import Derived.Test.YtgoifgockcpnhaaDoorZDC7AU
import Derived.Test.YtgoifgockcpnhaaDoorZDC7AM
import Derived.Test.YtgoifgockcpnhaaDoorZDC7AI
set_option linter.unusedSimpArgs false
set_option linter.unusedVariables false
namespace Go.Proofs.YtgoifgockcpnhaaDoor
open Go Go.RowKit

theorem encs_len {l : List Int} (h : ∀ c, c ∈ l → RuneI c) : (encs l).length ≤ 4 * l.length ∧ l.length ≤ (encs l).length := by
  induction l with
  | nil => simp [encs]
  | cons c l ih =>
    obtain ⟨h1, h2⟩ := ih fun x hx => h x (List.mem_cons_of_mem _ hx)
    obtain ⟨_, _, h4, h5⟩ := enc_dec (h c (List.mem_cons_self ..)) []
    have : encs (c :: l) = encR c ++ encs l := by unfold encs; rw [List.flatMap_cons]
    rw [this, List.length_append, List.length_cons]
    omega
theorem slr_rune {H : HP} {A : Option Addr} {n c i : Nat} {l : List Int} (h : SlR H 1 runv (.slice A n c) l) {w : World} (hw : Own H w) (hi : i < n) : ∃ b o a, A = some ⟨b, o, none⟩ ∧ l[i]? = some a ∧ ReadC H b (o + i) (.int .i32 a) := by
  obtain ⟨b, o, a, hA, hla, hwa⟩ := slr_get h hw hi
  exact ⟨b, o, a, hA, hla, by have := hwa.cell (i := 0) (by omega) (runv_0 a); rwa [Nat.mul_one] at this⟩
end Go.Proofs.YtgoifgockcpnhaaDoor

set_option linter.unusedSimpArgs false
set_option linter.unusedVariables false
namespace Go.Proofs.YtgoifgockcpnhaaDoor
open Go Go.RowKit

abbrev dfB : ByteArray := ⟨#[100, 105, 102, 102]⟩
/-- The reasons that a reading of two texts has. -/
structure ErrB (F : HP) (a : Nat → Addr) : Prop where
  ad : ∀ k, k = 3 ∨ k = 13 → ReadC F (gl k) 0 (.iface 125 (.pointer (some (a k))))
theorem ErrA.b {F : HP} {a : Nat → Addr} (h : ErrA F a) : ErrB F a := ⟨fun k hk => h.ad k (by omega) (by omega)⟩
theorem ErrB.next {A R : HP} {a : Nat → Addr} (h : ErrB R a) : ErrB (A * R) a := ⟨fun k h1 => readc_next (h.ad k h1)⟩
theorem ErrB.left {A R : HP} {a : Nat → Addr} (h : ErrB A a) : ErrB (A * R) a := ⟨fun k h1 => readc_left (h.ad k h1)⟩
theorem ErrB.exh {hR : Hp} {H A : HP} {a : Nat → Addr} (hh : H.on hR) (h : ErrB H a) : ErrB (Exh hR * A) a := ⟨fun k h1 => readc_exh hh (h.ad k h1)⟩
theorem ErrB.exh0 {hR : Hp} {H : HP} {a : Nat → Addr} (hh : H.on hR) (h : ErrB H a) : ErrB (Exh hR) a := ⟨fun k h1 => readc_exh0 hh (h.ad k h1)⟩
theorem ErrB.text {F : HP} {a : Nat → Addr} (h : ErrB F a) : ReadC F 0 0 (.iface 125 (.pointer (some (a 3)))) := h.ad 3 (.inl rfl)
theorem ErrB.room {F : HP} {a : Nat → Addr} (h : ErrB F a) : ReadC F 1 0 (.iface 125 (.pointer (some (a 13)))) := h.ad 13 (.inr rfl)
theorem fnewR_s (c0 : World) (F : HP) (a : Nat → Addr) (x y : ByteArray) (n : Int) (k : Nat) : Spec Tryd.prog c0 58 #[.string x, .string y, .int .i64 n, .iface 125 (.pointer (some (a k)))]
    (pu (1 ≤ k ∧ k ≤ 13) F) (fun r => RefP a (some ([⟨x, y, atV n⟩], k)) r * F) := fun w hs => by
  obtain ⟨⟨h1, h2⟩, hs⟩ := hs.pu
  refine (fnew_s c0 F x y n _ (some (a k)) w hs).mono fun e w' ⟨v, he, h⟩ => ⟨v, he, ?_⟩
  obtain ⟨g, h⟩ := h.ex
  obtain ⟨hv, h3⟩ := h.pu
  subst hv
  refine h3.mono ?_
  dsimp only [RefP]
  rw [pu_star]
  refine ent_pu ⟨h1, h2, by simp⟩ ?_
  exact ent_trans (star_mono ent_refl fch_one) (fch_more (l := ⟨x, y, atV n⟩))
@[go_sem] theorem idx2_0 (x y : ByteArray) (w : World) : (Instr.index 94 (.agg #[.string x, .string y]) (.int .i64 0)).run Tryd.prog w = .ok (.string x) w := by kernel_rfl
@[go_sem] theorem idx2_1 (x y : ByteArray) (w : World) : (Instr.index 94 (.agg #[.string x, .string y]) (.int .i64 1)).run Tryd.prog w = .ok (.string y) w := by kernel_rfl
/-- What is read of two texts. -/
def txtR (A B : ByteArray) : Except (Int × Nat) (List Int × List Int) := match runesL A.data.toList, runesL B.data.toList with
  | none, _ => .error (0, 3)
  | some _, none => .error (1, 3)
  | some x, some y => if 0 < x.length ∧ (4194304 : Int) / (x.length : Int) < (y.length : Int) then .error (-1, 13) else .ok (x, y)
/-- .. by the program. -/
def TxR (a : Nat → Addr) (call A B : ByteArray) (F : HP) (r : Value) : HP := match txtR A B with
  | .ok (x, y) => ex fun u : Value => ex fun v : Value => pu (r = .tuple #[u, v, .nilIface]) (row 21 1 runv u x * (row 21 1 runv v y * F))
  | .error (p, k) => ex fun e : Value => pu (r = .tuple #[.slice none 0 0, .slice none 0 0, e]) (RefP a (some ([⟨dfB, call, p⟩], k)) e * F)
theorem txR_ok {a : Nat → Addr} {call A B : ByteArray} {F : HP} {x y : List Int} {u v : Value} (h : txtR A B = .ok (x, y)) : Ent (row 21 1 runv u x * (row 21 1 runv v y * F)) (TxR a call A B F (.tuple #[u, v, .nilIface])) := by
  unfold TxR; rw [h]; exact ent_ex u (ent_ex v (ent_pu rfl ent_refl))
theorem txR_no {a : Nat → Addr} {call A B : ByteArray} {F : HP} {p : Int} {k : Nat} {e : Value} (h : txtR A B = .error (p, k)) : Ent (RefP a (some ([⟨dfB, call, p⟩], k)) e * F) (TxR a call A B F (.tuple #[.slice none 0 0, .slice none 0 0, e])) := by
  unfold TxR; rw [h]; exact ent_ex e (ent_pu rfl ent_refl)
theorem runes_len {s : ByteArray} {l : List Int} (h : runesL s.data.toList = some l) : l.length ≤ s.size := (encs_runes _ _ _ (Nat.le_refl _) h).2.2
theorem runes_in {s : ByteArray} {l : List Int} (h : runesL s.data.toList = some l) : ∀ c, c ∈ l → RuneI c := (encs_runes _ _ _ (Nat.le_refl _) h).2.1
set_option maxRecDepth 20000 in
set_option maxHeartbeats 2000000 in
theorem texts_s (c0 : World) (F : HP) (a : Nat → Addr) (call A B : ByteArray) : Spec Tryd.prog c0 31 #[.string call, .string A, .string B] (pu (ErrB F a ∧ TabF F ∧ A.size ≤ 1000000 ∧ B.size ≤ 1000000) F) (TxR a call A B F) := by
  intro w hq; obtain ⟨⟨hE, hT, hA, hB⟩, hs⟩ := hq.pu; clear hq
  have hgt := hE.text
  have hgr := hE.room
  go_enter Tryd.func31, Tryd.ntmps31
  go_wp2_with (first
        | ((with_reducible apply pl_build hs); (focus (simp only [zj, zk, zl, Act.eval, za, zb, zc, zd, ze, zf]; (try with_reducible rfl); done)); (first | (with_reducible exact bld_6 _ _)); (focus rfl); simp only [Act.put, zg, zh, zi]))
  go_loopw [16] (fun i wr => ∃ k : Nat, k ≤ 2 ∧ i = .int .i64 k ∧ (1 ≤ k → (runesL A.data.toList).isSome = true) ∧ (2 ≤ k → (runesL B.data.toList).isSome = true) ∧ Sat c0 F wr) (fun i _ => 2 - (intOf i).toNat)
  case atStart => exact ⟨0, by omega, rfl, by omega, by omega, hs⟩
  case round =>
    clear hs
    obtain ⟨k, hk, rfl, hkA, hkB, hs⟩ := hrel
    rcases (show k = 0 ∨ k = 1 ∨ k = 2 by omega) with rfl | rfl | rfl
    · clear hkA hkB
      rcases Option.eq_none_or_eq_some (runesL A.data.toList) with hx | ⟨x, hx⟩
      ·
        have hR : txtR A B = .error (0, 3) := by unfold txtR; rw [hx]
        replace hR := Lib.hid hR
        go_wp2_with (first
        | ((with_reducible apply pl_call hs (valid_s _ _ _)); ((((focus (simp only [zj, zk, zl, List.append_toArray, List.nil_append, List.cons_append, Act.eval, za, zb, zc, zd, ze, zf]; (try with_reducible rfl); done)); (focus ((repeat (first | (with_reducible (first | exact ent_refl | apply ent_puR)) | ((with_reducible apply ent_front); (focus with_reducible (repeat (first | exact ent_here | apply ent_next | exact ent_last)); done)) | (with_reducible (first | exact ent_keep | apply ent_trans ent_drop)) | (focus (first | ((repeat' (first | (with_reducible assumption) | (with_reducible apply And.intro) | omega)); done))))); done)); (focus (simp only [go_sem]))))); clear hs; (try clear w); intro v w hq; (obtain ⟨hv, hs⟩ := hq.pu; rw [hx] at hv; subst hv); clear hq; (try simp only [star_assoc, star_emp, emp_star] at hs); (try simp only [Act.put, zg, zh, zi]))
        | ((with_reducible apply pl_call hs (fnewR_s _ _ a _ _ _ 3)); ((((focus (simp only [zj, zk, zl, List.append_toArray, List.nil_append, List.cons_append, Act.eval, za, zb, zc, zd, ze, zf]; (try with_reducible rfl); done)); (focus ((repeat (first | (with_reducible (first | exact ent_refl | apply ent_puR)) | ((with_reducible apply ent_front); (focus with_reducible (repeat (first | exact ent_here | apply ent_next | exact ent_last)); done)) | (with_reducible (first | exact ent_keep | apply ent_trans ent_drop)) | (focus (first | ((repeat' (first | (with_reducible apply And.intro) | omega)); done))))); done)); (focus (simp only [go_sem]))))); clear hs; (try clear w); intro v w hq; (have hs := hq; rw [show atV ((0 : Nat) : Int) = 0 from rfl] at hs); clear hq; (try simp only [star_assoc, star_emp, emp_star] at hs); (try simp only [Act.put, zg, zh, zi]))
        | ((with_reducible apply pl_load1 hs); (focus (simp only [Act.eval, za, zb, zc, zd, ze, zf]; (try with_reducible rfl); done)); (focus (simp only [go_sem])); (focus ((repeat (first | (with_reducible (first | assumption | exact hec _ | exact hec2 _ | exact hec3 _ | exact hec4 _ _)) | ((with_reducible apply readc_here); (focus (first | (simp only [zc, zd, ze, go_sem]; (try with_reducible rfl); done) | (go_simp; (try with_reducible rfl); done)))) | (with_reducible (first | (apply readc_left; assumption) | refine readc_exh (by assumption) ?_ | refine readc_exh0 (by assumption) ?_ | apply readc_next)))); done)); (focus rfl); simp only [Act.put, zg, zh, zi]))
        (go_ret3; simp only [za, zb, zc, zd, ze, zf])
        exact ⟨_, rfl, hs.mono (ent_trans (by ((repeat (first | (with_reducible (first | exact ent_refl | exact ent_emp)) | ((with_reducible apply ent_front); (focus with_reducible (repeat (first | exact ent_here | apply ent_next | exact ent_last)); done)) | (with_reducible (first | exact ent_keep | apply ent_trans ent_drop)))); done)) (txR_no hR.out))⟩
      ·
        have hxs : (runesL A.data.toList).isSome = true := by rw [hx]; rfl
        replace hxs := Lib.hid hxs
        go_wp2_with (first
        | ((with_reducible apply pl_call hs (valid_s _ _ _)); ((((focus (simp only [zj, zk, zl, List.append_toArray, List.nil_append, List.cons_append, Act.eval, za, zb, zc, zd, ze, zf]; (try with_reducible rfl); done)); (focus ((repeat (first | (with_reducible (first | exact ent_refl | apply ent_puR)) | ((with_reducible apply ent_front); (focus with_reducible (repeat (first | exact ent_here | apply ent_next | exact ent_last)); done)) | (with_reducible (first | exact ent_keep | apply ent_trans ent_drop)) | (focus (first | ((repeat' (first | (with_reducible assumption) | (with_reducible apply And.intro) | omega)); done))))); done)); (focus (simp only [go_sem]))))); clear hs; (try clear w); intro v w hq; (obtain ⟨hv, hs⟩ := hq.pu; rw [hx] at hv; subst hv); clear hq; (try simp only [star_assoc, star_emp, emp_star] at hs); (try simp only [Act.put, zg, zh, zi])))
        exact ⟨⟨1, by omega, rfl, fun _ => hxs.out, by omega, hs⟩, by simp [intOf]⟩
    · have hxs := hkA (by omega)
      clear hkA hkB
      obtain ⟨x, hx⟩ := Option.isSome_iff_exists.1 hxs
      replace hxs := Lib.hid hxs
      rcases Option.eq_none_or_eq_some (runesL B.data.toList) with hy | ⟨y, hy⟩
      ·
        have hR : txtR A B = .error (1, 3) := by unfold txtR; rw [hx, hy]
        replace hR := Lib.hid hR
        go_wp2_with (first
        | ((with_reducible apply pl_call hs (valid_s _ _ _)); ((((focus (simp only [zj, zk, zl, List.append_toArray, List.nil_append, List.cons_append, Act.eval, za, zb, zc, zd, ze, zf]; (try with_reducible rfl); done)); (focus ((repeat (first | (with_reducible (first | exact ent_refl | apply ent_puR)) | ((with_reducible apply ent_front); (focus with_reducible (repeat (first | exact ent_here | apply ent_next | exact ent_last)); done)) | (with_reducible (first | exact ent_keep | apply ent_trans ent_drop)) | (focus (first | ((repeat' (first | (with_reducible assumption) | (with_reducible apply And.intro) | omega)); done))))); done)); (focus (simp only [go_sem]))))); clear hs; (try clear w); intro v w hq; (obtain ⟨hv, hs⟩ := hq.pu; rw [hy] at hv; subst hv); clear hq; (try simp only [star_assoc, star_emp, emp_star] at hs); (try simp only [Act.put, zg, zh, zi]))
        | ((with_reducible apply pl_call hs (fnewR_s _ _ a _ _ _ 3)); ((((focus (simp only [zj, zk, zl, List.append_toArray, List.nil_append, List.cons_append, Act.eval, za, zb, zc, zd, ze, zf]; (try with_reducible rfl); done)); (focus ((repeat (first | (with_reducible (first | exact ent_refl | apply ent_puR)) | ((with_reducible apply ent_front); (focus with_reducible (repeat (first | exact ent_here | apply ent_next | exact ent_last)); done)) | (with_reducible (first | exact ent_keep | apply ent_trans ent_drop)) | (focus (first | ((repeat' (first | (with_reducible apply And.intro) | omega)); done))))); done)); (focus (simp only [go_sem]))))); clear hs; (try clear w); intro v w hq; (have hs := hq; rw [show atV ((1 : Nat) : Int) = 1 from rfl] at hs); clear hq; (try simp only [star_assoc, star_emp, emp_star] at hs); (try simp only [Act.put, zg, zh, zi]))
        | ((with_reducible apply pl_load1 hs); (focus (simp only [Act.eval, za, zb, zc, zd, ze, zf]; (try with_reducible rfl); done)); (focus (simp only [go_sem])); (focus ((repeat (first | (with_reducible (first | assumption | exact hec _ | exact hec2 _ | exact hec3 _ | exact hec4 _ _)) | ((with_reducible apply readc_here); (focus (first | (simp only [zc, zd, ze, go_sem]; (try with_reducible rfl); done) | (go_simp; (try with_reducible rfl); done)))) | (with_reducible (first | (apply readc_left; assumption) | refine readc_exh (by assumption) ?_ | refine readc_exh0 (by assumption) ?_ | apply readc_next)))); done)); (focus rfl); simp only [Act.put, zg, zh, zi]))
        (go_ret3; simp only [za, zb, zc, zd, ze, zf])
        exact ⟨_, rfl, hs.mono (ent_trans (by ((repeat (first | (with_reducible (first | exact ent_refl | exact ent_emp)) | ((with_reducible apply ent_front); (focus with_reducible (repeat (first | exact ent_here | apply ent_next | exact ent_last)); done)) | (with_reducible (first | exact ent_keep | apply ent_trans ent_drop)))); done)) (txR_no hR.out))⟩
      ·
        have hys : (runesL B.data.toList).isSome = true := by rw [hy]; rfl
        replace hys := Lib.hid hys
        go_wp2_with (first
        | ((with_reducible apply pl_call hs (valid_s _ _ _)); ((((focus (simp only [zj, zk, zl, List.append_toArray, List.nil_append, List.cons_append, Act.eval, za, zb, zc, zd, ze, zf]; (try with_reducible rfl); done)); (focus ((repeat (first | (with_reducible (first | exact ent_refl | apply ent_puR)) | ((with_reducible apply ent_front); (focus with_reducible (repeat (first | exact ent_here | apply ent_next | exact ent_last)); done)) | (with_reducible (first | exact ent_keep | apply ent_trans ent_drop)) | (focus (first | ((repeat' (first | (with_reducible assumption) | (with_reducible apply And.intro) | omega)); done))))); done)); (focus (simp only [go_sem]))))); clear hs; (try clear w); intro v w hq; (obtain ⟨hv, hs⟩ := hq.pu; rw [hy] at hv; subst hv); clear hq; (try simp only [star_assoc, star_emp, emp_star] at hs); (try simp only [Act.put, zg, zh, zi])))
        exact ⟨⟨2, by omega, rfl, fun _ => hxs.out, fun _ => hys.out, hs⟩, by simp [intOf]⟩
    · obtain ⟨x, hx⟩ := Option.isSome_iff_exists.1 (hkA (by omega))
      obtain ⟨y, hy⟩ := Option.isSome_iff_exists.1 (hkB (by omega))
      clear hkA hkB
      have hxl := runes_len hx
      have hyl := runes_len hy
      have hxm : x.length ≤ maxLen := by unfold maxLen; omega
      have hym : y.length ≤ maxLen := by unfold maxLen; omega
      have hR : txtR A B = if 0 < x.length ∧ (4194304 : Int) / (x.length : Int) < (y.length : Int) then .error (-1, 13) else .ok (x, y) := by unfold txtR; rw [hx, hy]
      replace hR := Lib.hid hR
      by_cases h0 : 0 < x.length
      · have hz : (x.length : Int) ≠ 0 := by omega
        have hz1 : (0 : Int) < (x.length : Int) := by omega
        by_cases hr : (4194304 : Int) / (x.length : Int) < (y.length : Int)
        · have hR2 : txtR A B = .error (-1, 13) := by rw [hR.out, if_pos ⟨h0, hr⟩]
          replace hR2 := Lib.hid hR2
          clear hR
          go_wp2_with (first
        | ((with_reducible rewrite [pl_strike_eq]); rotate_left 1; (focus rfl))
        | ((with_reducible apply pl_call hs (fnewR_s _ _ a _ _ _ 13)); ((((focus (simp only [zj, zk, zl, List.append_toArray, List.nil_append, List.cons_append, Act.eval, za, zb, zc, zd, ze, zf]; (try with_reducible rfl); done)); (focus ((repeat (first | (with_reducible (first | exact ent_refl | apply ent_puR)) | ((with_reducible apply ent_front); (focus with_reducible (repeat (first | exact ent_here | apply ent_next | exact ent_last)); done)) | (with_reducible (first | exact ent_keep | apply ent_trans ent_drop)) | (focus (first | ((repeat' (first | (with_reducible apply And.intro) | omega)); done))))); done)); (focus (simp only [go_sem]))))); clear hs; (try clear w); intro v w hq; (have hs := hq; rw [atV_m1] at hs); clear hq; (try simp only [star_assoc, star_emp, emp_star] at hs); (try simp only [Act.put, zg, zh, zi]))
        | ((with_reducible apply pl_load1 hs); (focus (simp only [Act.eval, za, zb, zc, zd, ze, zf]; (try with_reducible rfl); done)); (focus (simp only [go_sem])); (focus ((repeat (first | (with_reducible (first | assumption | exact hec _ | exact hec2 _ | exact hec3 _ | exact hec4 _ _)) | ((with_reducible apply readc_here); (focus (first | (simp only [zc, zd, ze, go_sem]; (try with_reducible rfl); done) | (go_simp; (try with_reducible rfl); done)))) | (with_reducible (first | (apply readc_left; assumption) | refine readc_exh (by assumption) ?_ | refine readc_exh0 (by assumption) ?_ | apply readc_next)))); done)); (focus rfl); simp only [Act.put, zg, zh, zi])
        | ((with_reducible apply pl_cvSR hs); (first | (with_reducible exact rut_33_9)); (focus (simp only [Act.eval, za, zb, zc, zd, ze, zf]; (try with_reducible rfl); done)); (focus with_reducible assumption); (focus (first | (with_reducible assumption) | omega | (simp; done) | (simp; omega))); clear hs; (try clear w); intro g cq w hs; simp only [Act.put, zg, zh, zi]))
          (go_ret3; simp only [za, zb, zc, zd, ze, zf])
          exact ⟨_, rfl, hs.mono (ent_trans (by ((repeat (first | (with_reducible (first | exact ent_refl | exact ent_emp)) | ((with_reducible apply ent_front); (focus with_reducible (repeat (first | exact ent_here | apply ent_next | exact ent_last)); done)) | (with_reducible (first | exact ent_keep | apply ent_trans ent_drop)))); done)) (txR_no hR2.out))⟩
        · have hR2 : txtR A B = .ok (x, y) := by rw [hR.out, if_neg (fun h => hr h.2)]
          replace hR2 := Lib.hid hR2
          clear hR
          go_wp2_with (first
        | ((with_reducible rewrite [pl_strike_eq]); rotate_left 1; (focus rfl))
        | ((with_reducible apply pl_cvSR hs); (first | (with_reducible exact rut_33_9)); (focus (simp only [Act.eval, za, zb, zc, zd, ze, zf]; (try with_reducible rfl); done)); (focus with_reducible assumption); (focus (first | (with_reducible assumption) | omega | (simp; done) | (simp; omega))); clear hs; (try clear w); intro g cq w hs; simp only [Act.put, zg, zh, zi]))
          (go_ret3; simp only [za, zb, zc, zd, ze, zf])
          exact ⟨_, rfl, hs.mono (ent_trans (by ((repeat (first | (with_reducible (first | exact ent_refl | exact ent_emp)) | ((with_reducible apply ent_front); (focus with_reducible (repeat (first | exact ent_here | apply ent_next | exact ent_last)); done)) | (with_reducible (first | exact ent_keep | apply ent_trans ent_drop)))); done)) (txR_ok hR2.out))⟩
      · have hz1 : ¬ ((0 : Int) < (x.length : Int)) := by omega
        have hR2 : txtR A B = .ok (x, y) := by rw [hR.out, if_neg (fun h => h0 h.1)]
        replace hR2 := Lib.hid hR2
        clear hR
        go_wp2_with (first
        | ((with_reducible apply pl_cvSR hs); (first | (with_reducible exact rut_33_9)); (focus (simp only [Act.eval, za, zb, zc, zd, ze, zf]; (try with_reducible rfl); done)); (focus with_reducible assumption); (focus (first | (with_reducible assumption) | omega | (simp; done) | (simp; omega))); clear hs; (try clear w); intro g cq w hs; simp only [Act.put, zg, zh, zi]))
        (go_ret3; simp only [za, zb, zc, zd, ze, zf])
        exact ⟨_, rfl, hs.mono (ent_trans (by ((repeat (first | (with_reducible (first | exact ent_refl | exact ent_emp)) | ((with_reducible apply ent_front); (focus with_reducible (repeat (first | exact ent_here | apply ent_next | exact ent_last)); done)) | (with_reducible (first | exact ent_keep | apply ent_trans ent_drop)))); done)) (txR_ok hR2.out))⟩
/-! ### by the document -/
end Go.Proofs.YtgoifgockcpnhaaDoor
