/- The program's apply: edits in turn, each told with what it erases. -/
import Derived.Test.YtgoifgockcpnhaaDoorZDC5BA
import Derived.Test.YtgoifgockcpnhaaDoorZDC5BG
import Derived.Test.YtgoifgockcpnhaaDoorZDC5BH
set_option linter.unusedSimpArgs false
set_option linter.unusedVariables false
namespace Go.Proofs.YtgoifgockcpnhaaDoor
open Go Go.RowKit

/-! ### parts of a row of characters -/
def ctA (A : Option Addr) (l m s : Nat) : Option Addr := if m = l then A else A.map (·.add (l * s))
theorem slice_lh (A : Option Addr) (n c : Nat) (p q : Nat) (h : p + q ≤ c) (w : World) : (Instr.slice 33 (.slice A n c) (some (.int .i64 p)) (some (.int .i64 ((p : Int) + (q : Int)))) none).run Tryd.prog w = .ok (.slice (ctA A p c 1) q (c - p)) w := by
  rw [run_slice_lh w 33 A n c (by kernel_rfl) .i64 .i64 p _ (by omega) (by omega) (by omega)]
  rw [show (sizeOf (Tryd.prog.elem 33)).run Tryd.prog w = .ok 1 w by kernel_rfl]
  show Result.ok (Value.slice (if c = (p : Int).toNat then A else A.map (·.add ((p : Int).toNat * 1))) (((p : Int) + (q : Int)).toNat - (p : Int).toNat) (c - (p : Int).toNat)) w = _
  rw [show ((p : Int) + (q : Int)).toNat - (p : Int).toNat = q by omega, Int.toNat_natCast]
  rfl
theorem slice_h (A : Option Addr) (n c : Nat) (p : Nat) (h : p ≤ c) (w : World) : (Instr.slice 33 (.slice A n c) none (some (.int .i64 p)) none).run Tryd.prog w = .ok (.slice (ctA A 0 c 1) p c) w := by
  rw [run_slice_h w 33 A n c (by kernel_rfl) .i64 p (by omega) (by omega)]
  rw [show (sizeOf (Tryd.prog.elem 33)).run Tryd.prog w = .ok 1 w by kernel_rfl]
  show Result.ok (Value.slice (if c = 0 then A else A.map (·.add (0 * 1))) ((p : Int).toNat - 0) (c - 0)) w = _
  rw [Int.toNat_natCast, Nat.sub_zero, Nat.sub_zero]
  rfl
theorem slice_l (A : Option Addr) (n c : Nat) (p q : Nat) (h : p + q ≤ n) (w : World) : (Instr.slice 33 (.slice A n c) (some (.int .i64 ((p : Int) + (q : Int)))) none none).run Tryd.prog w = .ok (.slice (ctA A (p + q) c 1) (n - (p + q)) (c - (p + q))) w := by
  rw [run_slice_l w 33 A n c (by kernel_rfl) .i64 _ (by omega) (by omega)]
  rw [show (sizeOf (Tryd.prog.elem 33)).run Tryd.prog w = .ok 1 w by kernel_rfl]
  show Result.ok (Value.slice (if c = ((p : Int) + (q : Int)).toNat then A else A.map (·.add (((p : Int) + (q : Int)).toNat * 1))) (n - ((p : Int) + (q : Int)).toNat) (c - ((p : Int) + (q : Int)).toNat)) w = _
  rw [show ((p : Int) + (q : Int)).toNat = p + q by omega]
  rfl
theorem drop_getG {α : Type} {l : List α} {i : Nat} {a : α} (h : l[i]? = some a) : l.drop i = a :: l.drop (i + 1) := by
  obtain ⟨hi, rfl⟩ := List.getElem?_eq_some_iff.1 h
  exact List.drop_eq_getElem_cons hi
theorem SlIs.dropO {α : Type} {w : World} {B s : Nat} {enc : α → Array Value} {l : List α} {g o n c : Nat} (h : SlIs w B s enc (.slice (some ⟨g, o, none⟩) n c) l) (k : Nat) (hk : k ≤ n) :
    SlIs w B s enc (.slice (if c = k then some ⟨g, o, none⟩ else some ⟨g, o + k * s, none⟩) (n - k) (c - k)) (l.drop k) := by
  obtain ⟨A', c', h1, h2, h3, h3', h4⟩ := h
  injection h1 with e1 e2 e3
  subst e1; subst e2; subst e3
  refine ⟨if c = k then some ⟨g, o, none⟩ else some ⟨g, o + k * s, none⟩, c - k, by rw [List.length_drop], by simp; omega, by omega, (fun h => by split at h <;> cases h), fun hn => ?_⟩
  simp at hn
  rw [if_neg (by omega)]
  obtain ⟨b, o', h5, h6, h7⟩ := h4 (by omega)
  injection h5 with h5
  injection h5 with e1 e2 e3
  subst e1; subst e2
  refine ⟨g, o + k * s, rfl, h6, fun i a ha => ?_⟩
  have := h7 (k + i) a (by simpa [List.getElem?_drop] using ha)
  rw [Nat.add_mul, ← Nat.add_assoc] at this
  exact this
theorem slr_cut {H : HP} {A : Option Addr} {n c : Nat} {l : List Int} (h : SlR H 1 runv (.slice A n c) l) (p q : Nat) (hq : p + q ≤ n) : SlR H 1 runv (.slice (ctA A p c 1) q (c - p)) ((l.drop p).take q) := fun w hw => by
  have h0 := h w hw
  obtain ⟨h1, h2, h3, h4⟩ := h0.len
  cases A with
  | none =>
    obtain rfl : c = 0 := h4 rfl
    obtain rfl : n = 0 := by omega
    obtain rfl : p = 0 := by omega
    obtain rfl : q = 0 := by omega
    obtain rfl : l = [] := List.eq_nil_of_length_eq_zero h1.symm
    exact SlIs.nil
  | some ad =>
    obtain ⟨b, o, f⟩ := ad
    by_cases hn : n = 0
    · obtain rfl : p = 0 := by omega
      obtain rfl : q = 0 := by omega
      obtain rfl : l = [] := List.eq_nil_of_length_eq_zero (by omega)
      refine ⟨_, _, rfl, Nat.zero_le _, by simpa using h3, fun he => ?_, fun he => absurd he (by simp)⟩
      unfold ctA at he
      split at he
      · cases he
      · simp at he
    · obtain ⟨b', o', a, hA, _, _⟩ := h0.get (i := 0) (by omega)
      obtain rfl : f = none := by injection hA with hA; injection hA
      have hd := h0.dropO p (by omega)
      have he : ctA (some ⟨b, o, none⟩) p c 1 = if c = p then some ⟨b, o, none⟩ else some ⟨b, o + p * 1, none⟩ := by
        unfold ctA
        split
        · rfl
        · simp [Addr.add]
      rw [he]
      exact hd.take q (by omega)
theorem slr_cut0 {H : HP} {A : Option Addr} {n c : Nat} {l : List Int} (h : SlR H 1 runv (.slice A n c) l) (p : Nat) (hp : p ≤ n) : SlR H 1 runv (.slice (ctA A 0 c 1) p c) (l.take p) := by
  have := slr_cut h 0 p (by omega)
  rwa [List.drop_zero, Nat.sub_zero] at this
theorem slr_cutE {H : HP} {A : Option Addr} {n c : Nat} {l : List Int} (h : SlR H 1 runv (.slice A n c) l) (p : Nat) (hp : p ≤ n) : SlR H 1 runv (.slice (ctA A p c 1) (n - p) (c - p)) (l.drop p) := fun w hw => by
  have h1 := slr_cut h p (n - p) (by omega) w hw
  have h2 := (h w hw).len.1
  rwa [List.take_of_length_le (by rw [List.length_drop]; omega)] at h1
attribute [local irreducible] ctA
attribute [go_sem high] slice_lh slice_h slice_l
theorem concat3_s (c0 : World) (F : HP) (v : Value) (x y z : SlD) (l1 l2 l3 : List Int) : Spec Tryd.prog c0 59 #[v] (pu (SlR F 1 slv v [x, y, z] ∧ SlR F 1 runv (.slice x.p x.n x.c) l1 ∧ SlR F 1 runv (.slice y.p y.n y.c) l2 ∧ SlR F 1 runv (.slice z.p z.n z.c) l3 ∧ l1.length + l2.length + l3.length ≤ 100000000) F) (fun r => row 21 1 runv r (l1 ++ l2 ++ l3) * F) := fun w hs => by
  obtain ⟨⟨h1, h2, h3, h4, h5⟩, hs⟩ := hs.pu
  have := concat_s c0 F v [l1, l2, l3] w (hs.mono (ent_pu ⟨⟨[x, y, z], h1, rfl, fun i t l ht hl => by
    match i with
    | 0 => cases ht; cases hl; exact h2
    | 1 => cases ht; cases hl; exact h3
    | 2 => cases ht; cases hl; exact h4
    | i + 3 => cases ht⟩, by simp [lens]; omega⟩ ent_refl))
  rwa [show [l1, l2, l3].flatten = l1 ++ l2 ++ l3 by simp] at this
/-! ### what is told -/
abbrev cAp : ByteArray := ⟨#[65, 112, 112, 108, 121]⟩
abbrev cIn : ByteArray := ⟨#[73, 110, 118, 101, 114, 116]⟩
def outP (gl : Nat) (B : List Ed) : HP := ex fun t : SlD => pu (t.n = B.length) (blk gl (.cells #[.slice t.p t.n t.c] 22 (0, 0)) * row 44 3 edt (.slice t.p t.n t.c) (B.reverse.map encE))
abbrev outB (gl : Nat) (A : Option Addr) (n c : Nat) (D : List EdtD) (F : HP) : HP := blk gl (.cells #[.slice A n c] 22 (0, 0)) * (row 44 3 edt (.slice A n c) D * F)
theorem out_shut {gl : Nat} {A : Option Addr} {n c : Nat} {B : List Ed} {D : List EdtD} {F : HP} (hD : D = B.reverse.map encE) (hn : n = B.length) : Ent (outB gl A n c D F) (outP gl B * F) := by
  subst hD
  unfold outP
  rw [ex_star]
  refine ent_ex ⟨A, n, c⟩ ?_
  rw [pu_star]
  simp only [star_assoc]
  exact ent_pu hn ent_refl
theorem out_open {gl : Nat} {B : List Ed} {F : HP} {c0 w : World} (hs : Sat c0 (outP gl B * F) w) : ∃ A c, Sat c0 (outB gl A B.length c (B.reverse.map encE) F) w := by
  unfold outP at hs
  rw [ex_star] at hs
  obtain ⟨⟨A, n, c⟩, hs⟩ := hs.ex
  rw [pu_star] at hs
  simp only [star_assoc] at hs
  obtain ⟨h, hs⟩ := hs.pu
  (try dsimp only at h hs)
  subst h
  exact ⟨A, c, hs⟩
theorem tell0_s (c0 : World) (F : HP) (e : EdtD) (v : Value) : Spec Tryd.prog c0 42 #[.agg (edt e), v] F (fun _ => F) := by
  intro w hs
  go_enter Tryd.func42, Tryd.ntmps42
  go_wp2_with (first
        | ((with_reducible apply pl_box hs); (focus (simp only [Act.eval, za, zb, zc, zd, ze, zf]; (try with_reducible rfl); done)); (focus (first | (with_reducible (first | exact cells_intv _ | exact cells_bytv _ | exact cells_runv _ | exact cells_slv _ _ _ | exact cells_agg _ | exact cells_int _ _ | exact cells_bool _ | exact cells_string _ | exact cells_slice _ _ _ | exact cells_pointer _ | exact cells_map _ | exact cells_iface _ _ | exact cells_nilIface | exact cells_func _ _ _)) | (exact cells_one (by assumption)))); clear hs; (try clear w); intro g w hs; skip; simp only [Act.put, zg, zh, zi]))
  refine bodyPost_end (results_none rfl _ _ _) rfl ?_; have hfin : Sat c0 F _ := hs.mono (by ((repeat (first | (with_reducible (first | exact ent_refl | exact ent_emp)) | ((with_reducible apply ent_front); (focus with_reducible (repeat (first | exact ent_here | apply ent_next | exact ent_last)); done)) | (with_reducible (first | exact ent_keep | apply ent_trans ent_drop)))); done)); first | exact ⟨_, rfl, hfin⟩ | exact ⟨⟨_, rfl⟩, hfin⟩
set_option maxRecDepth 20000 in
set_option maxHeartbeats 2000000 in
theorem tell1_s (c0 : World) (F : HP) (gl p q : Nat) (B : List Ed) (di : ByteArray) (v : Value) (gs mi : List Int) : Spec Tryd.prog c0 43 #[.agg (edt ⟨p, q, di⟩), v, .pointer (some ⟨gl, 0, none⟩)]
    (pu (SlR F 1 runv v gs ∧ runesL di.data.toList = some mi ∧ di.size ≤ 1000000 ∧ B.length ≤ 1000000) (outP gl B * F)) (fun _ => outP gl (⟨p, mi.length, gs⟩ :: B) * F) := by
  intro w hq; obtain ⟨⟨hv, hm, hdi, hB⟩, hs⟩ := hq.pu; clear hq
  obtain ⟨A, c, hs⟩ := out_open hs
  have hDl : (B.reverse.map encE).length = B.length := by simp
  have hfin : (B.reverse.map encE) ++ [(⟨p, (mi.length : Nat), rts gs⟩ : EdtD)] = ((⟨p, mi.length, gs⟩ : Ed) :: B).reverse.map encE := by simp [encE]
  have hmx : 0 ≤ maxLen := Nat.zero_le _
  replace hfin := Lib.hid hfin
  rw [← hDl] at hs hB
  generalize (B.reverse.map encE) = D at *
  replace hDl := Lib.hid hDl
  go_enter Tryd.func43, Tryd.ntmps43
  go_wp2_with (first
        | ((with_reducible apply wp_region_sl (G := (row _ _ _ _ _)) (id := 1) hs 11); (focus with_reducible (repeat (first | exact ent_here | apply ent_next | exact ent_last)); done); (focus kernel_rfl); (focus decide +kernel); clear hs; (try clear w); intro hR w hRR hs; (try simp only [star_assoc] at hs))
        | ((with_reducible apply mx_call hs (count_s _ _ _ mi)); ((((focus (simp only [zj, zk, zl, List.append_toArray, List.nil_append, List.cons_append, Act.eval, za, zb, zc, zd, ze, zf]; (try with_reducible rfl); done)); (focus ((repeat (first | (with_reducible (first | exact ent_refl | apply ent_puR)) | ((with_reducible apply ent_front); (focus with_reducible (repeat (first | exact ent_here | apply ent_next | exact ent_last)); done)) | (with_reducible (first | exact ent_keep | apply ent_trans ent_drop)) | (focus (first | ((repeat' (first | (with_reducible assumption) | (with_reducible apply And.intro) | omega)); done))))); done)); (focus (simp only [go_sem])); (focus (intros; with_reducible (refine in_of_sat (by assumption) ?_; repeat (first | exact ent_exh_here | exact ent_last | refine ent_pu_l (fun _ => ?_) | refine ent_ex_l (fun _ => ?_) | apply ent_exh_next)); done))))); clear hs; (try clear w); intro v w hq; (obtain ⟨rfl, hs⟩ := hq.pu); clear hq; (try simp only [star_assoc, star_emp, emp_star] at hs); (try simp only [Act.put, zg, zh, zi]))
        | ((with_reducible apply pl_box hs); (focus (simp only [Act.eval, za, zb, zc, zd, ze, zf]; (try with_reducible rfl); done)); (focus (first | (with_reducible (first | exact cells_intv _ | exact cells_bytv _ | exact cells_runv _ | exact cells_slv _ _ _ | exact cells_agg _ | exact cells_int _ _ | exact cells_bool _ | exact cells_string _ | exact cells_slice _ _ _ | exact cells_pointer _ | exact cells_map _ | exact cells_iface _ _ | exact cells_nilIface | exact cells_func _ _ _)) | (exact cells_one (by assumption)))); clear hs; (try clear w); intro g w hs; skip; simp only [Act.put, zg, zh, zi])
        | ((with_reducible apply pl_store1 hs); (focus (simp only [Act.eval, za, zb, zc, zd, ze, zf]; (try with_reducible rfl); done)); (focus (simp only [Act.eval, za, zb, zc, zd, ze, zf]; (try with_reducible rfl); done)); (focus (simp only [go_sem])); (focus with_reducible (repeat (first | exact ent_here | apply ent_next | exact ent_last)); done); (focus (first | (simp [go_sem]; done) | (simp only [go_sem]; omega) | go_size)); (focus (first | (simp only [go_sem]; done) | (simp [go_sem]; done))); clear hs; (try clear w); intro w hs; (try simp only [zg, zh, zi, edt_s0, edt_s1, edt_s2, txt_s0, txt_s1, txt_s2, txt_s3, lnk_s0, lnk_s1, lnk_s2, nov_s0, nov_s1, nov_s2, intv_set, bytv_set, runv_set, slv_set] at hs); simp only [Act.put, zg, zh, zi])
        | ((with_reducible apply mix_thaw hRR hs); (focus with_reducible (repeat (first | exact ent_here | apply ent_next | exact ent_last)); done); clear hs; (try clear w); intro w hs; (try simp only [star_assoc, star_emp, emp_star] at hs); clear hRR hR)
        | ((with_reducible apply mx_load1 hRR); (focus (simp only [Act.eval, za, zb, zc, zd, ze, zf]; (try with_reducible rfl); done)); (focus (simp only [go_sem])); (focus ((repeat (first | (with_reducible (first | assumption | exact hec _ | exact hec2 _ | exact hec3 _ | exact hec4 _ _)) | ((with_reducible apply readc_here); (focus (first | (simp only [zc, zd, ze, go_sem]; (try with_reducible rfl); done) | (go_simp; (try with_reducible rfl); done)))) | (with_reducible (first | (apply readc_left; assumption) | refine readc_exh (by assumption) ?_ | refine readc_exh0 (by assumption) ?_ | apply readc_next)))); done)); simp only [Act.put, zg, zh, zi])
        | ((with_reducible apply mx_build hRR); (focus (simp only [zj, zk, zl, Act.eval, za, zb, zc, zd, ze, zf]; (try with_reducible rfl); done)); (first | (with_reducible exact bld_1 _ _ _)); simp only [Act.put, zg, zh, zi])
        | ((with_reducible apply mx_bs1 hs); (with_reducible (first | exact bst_22)); (focus (simp only [Act.eval, za, zb, zc, zd, ze, zf]; (try with_reducible rfl); done)); (focus (first | (with_reducible (first | exact cells_intv _ | exact cells_bytv _ | exact cells_runv _ | exact cells_slv _ _ _ | exact cells_agg _ | exact cells_int _ _ | exact cells_bool _ | exact cells_string _ | exact cells_slice _ _ _ | exact cells_pointer _ | exact cells_map _ | exact cells_iface _ _ | exact cells_nilIface | exact cells_func _ _ _)) | (exact cells_one (by assumption)))); (focus (first | (with_reducible rfl) | (simp only [go_sem]; done) | (simp; done))); (focus (intros; with_reducible (refine in_of_sat (by assumption) ?_; repeat (first | exact ent_exh_here | exact ent_last | refine ent_pu_l (fun _ => ?_) | refine ent_ex_l (fun _ => ?_) | apply ent_exh_next)); done)); clear hs; (try clear w); intro g w hs; skip; simp only [Act.put, zg, zh, zi])
        | ((with_reducible apply mx_append1 hs); (with_reducible (first | exact app_22 | exact app_33 | exact app_47 | exact app_48 | exact app_80 | exact app_90 | exact app_97)); (focus (simp only [Act.eval, za, zb, zc, zd, ze, zf]; (try with_reducible rfl); done)); (first | (focus with_reducible (repeat (first | exact ent_here | apply ent_next | exact ent_last)); done) | (focus (with_reducible exact ent_row_nil)) | (focus ((with_reducible apply ent_row_of_blk); (focus with_reducible (repeat (first | exact ent_here | apply ent_next | exact ent_last)); done); (focus (simp only [go_sem]))))); (focus (simp only [Act.eval, za, zb, zc, zd, ze, zf]; (try with_reducible rfl); done)); (focus ((repeat (first | (with_reducible (first | assumption | exact hel _ | exact hel2 _ | exact hel3 _)) | ((with_reducible apply reads_whole); (focus (first | (with_reducible rfl) | (simp only [go_sem]; done) | (simp; done)))) | ((with_reducible apply reads_part); (focus (first | (simp [go_sem]; done) | (simp only [go_sem]; omega) | go_size)); (focus (first | (simp only [Nat.reduceAdd, Nat.zero_add, go_sem]; (try with_reducible rfl); done) | (simp [go_sem]; (try with_reducible rfl); done)))) | (with_reducible (first | (apply reads_left; assumption) | refine reads_exh (by assumption) ?_ | refine reads_exh0 (by assumption) ?_ | apply reads_next)))); done)); (focus (first | (simp only [maxLen] at *; omega) | (simp [maxLen] at *; omega))); (focus (first | (simp only [maxLen] at *; omega) | (simp [maxLen] at *; omega))); (focus (intros; with_reducible (refine in_of_sat (by assumption) ?_; repeat (first | exact ent_exh_here | exact ent_last | refine ent_pu_l (fun _ => ?_) | refine ent_ex_l (fun _ => ?_) | apply ent_exh_next)); done)); clear hs; (try clear w); intro Ap cq w hs; skip; simp only [Act.put, zg, zh, zi])
        | ((with_reducible apply mx_cvRS hRR); (focus (simp only [Act.eval, za, zb, zc, zd, ze, zf]; (try with_reducible rfl); done)); (first | (with_reducible exact rut_33_9)); (focus (first | ((repeat (first | (with_reducible (first | assumption | exact slr_ro |  exact hsl _ | exact hsl2 _ | exact hsl3 _ _ _ | exact slr_nil | exact slr_row (fun _ => by simp only [go_sem]) | exact slr_one (fun _ => by simp only [go_sem]) | (apply slr_left; assumption))) | (with_reducible apply slr_next))); done) | ((repeat (first | (with_reducible (first | assumption | exact slr_ro |  exact hsl _ | exact hsl2 _ | exact hsl3 _ _ _ | exact slr_nil | exact slr_row (fun _ => by simp only [go_sem]) | exact slr_one (fun _ => by simp only [go_sem]) | (apply slr_left; assumption))) | (with_reducible (first | (apply slr_exh; focus assumption) | (apply slr_exh0; focus assumption) | apply slr_next)))); done))); (focus rfl); simp only [Act.put, zg, zh, zi])
        | ((with_reducible refine mix_float ?_ ?_ ?_ (fun h hk => ?_) ?_); rotate_left 1; (focus rfl); (focus rfl); (focus (go_simp; (try (rw [if_pos (by omega)]; (try go_simp))); (try simp (disch := omega) only [IntWalk.i64_in, IntWalk.i32_in]); (try with_reducible rfl); done)); simp only [Act.put, zg, zh, zi]))
  refine bodyPost_end (results_none rfl _ _ _) rfl ?_; have hfn : Sat c0 (outP gl (⟨p, mi.length, gs⟩ :: B) * F) _ := hs.mono (ent_trans (by ((repeat (first | (with_reducible (first | exact ent_refl | exact ent_emp)) | ((with_reducible apply ent_front); (focus with_reducible (repeat (first | exact ent_here | apply ent_next | exact ent_last)); done)) | (with_reducible (first | exact ent_keep | apply ent_trans ent_drop)))); done)) (out_shut (A := _) (n := D.length + 1) (c := _) hfin.out (by simp [hDl.out]))); first | exact ⟨_, rfl, hfn⟩ | exact ⟨⟨_, rfl⟩, hfn⟩
/-- What apply answers. -/
def ApP (a : Nat → Addr) (call s : ByteArray) (l : List EdtD) (O : List Ed → HP) (F : HP) (r : Value) : HP := match apR s l with
  | .ok (u, C) => ex fun v : Value => pu (r = .tuple #[v, .nilIface]) (row 21 1 runv v u * (O C * F))
  | .error (i, k) => ex fun e : Value => ex fun C : List Ed => pu (r = .tuple #[.slice none 0 0, e]) (RefP a (some ([⟨dfB, call, atV (i : Nat)⟩], k)) e * (O C * F))
theorem apP_ok {a : Nat → Addr} {call s : ByteArray} {l : List EdtD} {O : List Ed → HP} {F : HP} {u : List Int} {C : List Ed} {v : Value} (h : apR s l = .ok (u, C)) : Ent (row 21 1 runv v u * (O C * F)) (ApP a call s l O F (.tuple #[v, .nilIface])) := by
  unfold ApP; rw [h]; exact ent_ex v (ent_pu rfl ent_refl)
theorem apP_no {a : Nat → Addr} {call s : ByteArray} {l : List EdtD} {O : List Ed → HP} {F : HP} {i k : Nat} {C : List Ed} {e : Value} (h : apR s l = .error (i, k)) : Ent (RefP a (some ([⟨dfB, call, atV (i : Nat)⟩], k)) e * (O C * F)) (ApP a call s l O F (.tuple #[.slice none 0 0, e])) := by
  unfold ApP; rw [h]; exact ent_ex e (ent_ex C (ent_pu rfl ent_refl))
theorem apP0_ok {a : Nat → Addr} {call s : ByteArray} {l : List EdtD} {F : HP} {u : List Int} {C : List Ed} {v : Value} (h : apR s l = .ok (u, C)) : Ent (row 21 1 runv v u * F) (ApP a call s l (fun _ => emp) F (.tuple #[v, .nilIface])) := by
  have := apP_ok (a := a) (call := call) (O := fun _ => emp) (F := F) (v := v) h
  rwa [emp_star] at this
theorem apP0_no {a : Nat → Addr} {call s : ByteArray} {l : List EdtD} {F : HP} {i k : Nat} {e : Value} (h : apR s l = .error (i, k)) : Ent (RefP a (some ([⟨dfB, call, atV (i : Nat)⟩], k)) e * F) (ApP a call s l (fun _ => emp) F (.tuple #[.slice none 0 0, e])) := by
  have := apP_no (a := a) (call := call) (O := fun _ => emp) (F := F) (e := e) (C := []) h
  rwa [emp_star] at this
theorem apP_no0 {a : Nat → Addr} {call s : ByteArray} {l : List EdtD} {O : List Ed → HP} {F : HP} {k : Nat} {C : List Ed} {e : Value} (h : apR s l = .error (0, k)) : Ent (RefP a (some ([⟨dfB, call, atV 0⟩], k)) e * (O C * F)) (ApP a call s l O F (.tuple #[.slice none 0 0, e])) := apP_no h
theorem apP0_no0 {a : Nat → Addr} {call s : ByteArray} {l : List EdtD} {F : HP} {k : Nat} {e : Value} (h : apR s l = .error (0, k)) : Ent (RefP a (some ([⟨dfB, call, atV 0⟩], k)) e * F) (ApP a call s l (fun _ => emp) F (.tuple #[.slice none 0 0, e])) := apP0_no h
def outEdits (l : List EdtD) : Prop := ∀ d, d ∈ l → d.ins.size ≤ 10000
/-- One step: an edit that is refused, or done. -/
theorem apR_no {s : ByteArray} {l : List EdtD} {k : Nat} {t : List Int} {B : List Ed} {d : EdtD} {i : Nat} (h : apR s l = apA k t B (l.drop k)) (hd : l[k]? = some d) (hn : asE t d = .error i) : apR s l = .error (k, i) := by
  rw [h, drop_getG hd, apA_no hn]
theorem apR_yes {s : ByteArray} {l : List EdtD} {k : Nat} {t : List Int} {B : List Ed} {d : EdtD} {e : Ed} (h : apR s l = apA k t B (l.drop k)) (hd : l[k]? = some d) (hn : asE t d = .ok e) : apR s l = apA (k + 1) (ap1 t e) (bk1 t e :: B) (l.drop (k + 1)) := by
  rw [h, drop_getG hd, apA_yes hn]
theorem apR_end {s : ByteArray} {l : List EdtD} {k : Nat} {t : List Int} {B : List Ed} (h : apR s l = apA k t B (l.drop k)) (hk : l.length ≤ k) : apR s l = .ok (t, B) := by
  rw [h, List.drop_of_length_le hk, apA_nil]
set_option maxRecDepth 20000 in
set_option maxHeartbeats 8000000 in
theorem apply0_s (c0 : World) (F : HP) (a : Nat → Addr) (s : ByteArray) (lv : Value) (l : List EdtD) : Spec Tryd.prog c0 41 #[.string cAp, .string s, lv, .func (.func 42) #[] #[]]
    (pu (ErrB F a ∧ ReadC F 2 0 (.iface 125 (.pointer (some (a 2)))) ∧ TabF F ∧ SlR F 3 edt lv l ∧ s.size ≤ 10000 ∧ l.length ≤ 300 ∧ outEdits l) (F)) (ApP a cAp s l (fun _ => emp) F) := by
  intro w hq; obtain ⟨⟨hE, hgr, hT, hl, hs1, hl1, hl2⟩, hs⟩ := hq.pu; clear hq
  have hgt := hE.text
  obtain ⟨A, c, rfl⟩ := slr_form hl hs.own
  have hmx : 0 ≤ maxLen := Nat.zero_le _
  rcases Option.eq_none_or_eq_some (runesL s.data.toList) with hx | ⟨x, hx⟩
  ·
    have hR : apR s l = .error (0, 3) := by unfold apR; rw [hx]
    replace hR := Lib.hid hR
    go_enter Tryd.func41, Tryd.ntmps41
    go_wp2_with (first
        | ((with_reducible apply pl_call hs (valid_s _ _ _)); ((((focus (simp only [zj, zk, zl, List.append_toArray, List.nil_append, List.cons_append, Act.eval, za, zb, zc, zd, ze, zf]; (try with_reducible rfl); done)); (focus ((repeat (first | (with_reducible (first | exact ent_refl | apply ent_puR)) | ((with_reducible apply ent_front); (focus with_reducible (repeat (first | exact ent_here | apply ent_next | exact ent_last)); done)) | (with_reducible (first | exact ent_keep | apply ent_trans ent_drop)) | (focus (first | ((repeat' (first | (with_reducible assumption) | (with_reducible apply And.intro) | omega)); done))))); done)); (focus (simp only [go_sem]))))); clear hs; (try clear w); intro v w hq; (obtain ⟨hv, hs⟩ := hq.pu; rw [hx] at hv; (try simp only [Option.isSome_some, Option.isSome_none] at hv); subst hv); clear hq; (try simp only [star_assoc, star_emp, emp_star] at hs); (try simp only [Act.put, zg, zh, zi]))
        | ((with_reducible apply pl_call hs (fnewR_s _ _ a _ _ _ 3)); ((((focus (simp only [zj, zk, zl, List.append_toArray, List.nil_append, List.cons_append, Act.eval, za, zb, zc, zd, ze, zf]; (try with_reducible rfl); done)); (focus ((repeat (first | (with_reducible (first | exact ent_refl | apply ent_puR)) | ((with_reducible apply ent_front); (focus with_reducible (repeat (first | exact ent_here | apply ent_next | exact ent_last)); done)) | (with_reducible (first | exact ent_keep | apply ent_trans ent_drop)) | (focus (first | ((repeat' (first | (with_reducible apply And.intro) | omega)); done))))); done)); (focus (simp only [go_sem]))))); clear hs; (try clear w); intro v w hq; (have hs := hq); clear hq; (try simp only [star_assoc, star_emp, emp_star] at hs); (try simp only [Act.put, zg, zh, zi]))
        | ((with_reducible apply pl_load1 hs); (focus (simp only [Act.eval, za, zb, zc, zd, ze, zf]; (try with_reducible rfl); done)); (focus (simp only [go_sem])); (focus ((repeat (first | (with_reducible (first | assumption | exact hec _ | exact hec2 _ | exact hec3 _ | exact hec4 _ _)) | ((with_reducible apply readc_here); (focus (first | (simp only [zc, zd, ze, go_sem]; (try with_reducible rfl); done) | (go_simp; (try with_reducible rfl); done)))) | (with_reducible (first | (apply readc_left; assumption) | refine readc_exh (by assumption) ?_ | refine readc_exh0 (by assumption) ?_ | apply readc_next)))); done)); (focus rfl); simp only [Act.put, zg, zh, zi]))
    (go_ret2; simp only [za, zb, zc, zd, ze, zf])
    exact ⟨_, rfl, hs.mono (ent_trans (by ((repeat (first | (with_reducible (first | exact ent_refl | exact ent_emp)) | ((with_reducible apply ent_front); (focus with_reducible (repeat (first | exact ent_here | apply ent_next | exact ent_last)); done)) | (with_reducible (first | exact ent_keep | apply ent_trans ent_drop)))); done)) (apP0_no0 hR.out))⟩
  ·
    have hR : apR s l = apA 0 x [] (l.drop 0) := by unfold apR; rw [hx]; rfl
    have hxl := runes_len hx
    have hxI := runes_in hx
    have hxm : x.length ≤ maxLen := by unfold maxLen; omega
    replace hR := Lib.hid hR
    replace hl2 := Lib.hid hl2
    generalize hn : l.length = n at *
    replace hn := Lib.hid hn
    go_enter Tryd.func41, Tryd.ntmps41
    go_wp2_with (first
        | ((with_reducible apply pl_call hs (valid_s _ _ _)); ((((focus (simp only [zj, zk, zl, List.append_toArray, List.nil_append, List.cons_append, Act.eval, za, zb, zc, zd, ze, zf]; (try with_reducible rfl); done)); (focus ((repeat (first | (with_reducible (first | exact ent_refl | apply ent_puR)) | ((with_reducible apply ent_front); (focus with_reducible (repeat (first | exact ent_here | apply ent_next | exact ent_last)); done)) | (with_reducible (first | exact ent_keep | apply ent_trans ent_drop)) | (focus (first | ((repeat' (first | (with_reducible assumption) | (with_reducible apply And.intro) | omega)); done))))); done)); (focus (simp only [go_sem]))))); clear hs; (try clear w); intro v w hq; (obtain ⟨hv, hs⟩ := hq.pu; rw [hx] at hv; (try simp only [Option.isSome_some, Option.isSome_none] at hv); subst hv); clear hq; (try simp only [star_assoc, star_emp, emp_star] at hs); (try simp only [Act.put, zg, zh, zi]))
        | ((with_reducible apply pl_cvSR hs); (first | (with_reducible exact rut_33_9)); (focus (simp only [Act.eval, za, zb, zc, zd, ze, zf]; (try with_reducible rfl); done)); (focus with_reducible assumption); (focus (first | (with_reducible assumption) | omega | (simp; done) | (simp; omega))); clear hs; (try clear w); intro g cq w hs; simp only [Act.put, zg, zh, zi]))
    go_loopw [10, 23] (fun tv iv wr => ∃ (k : Nat) (t : List Int) (B : List Ed), k ≤ n ∧ iv = .int .i64 k ∧ t.length ≤ 10000 + 10000 * k ∧ B.length = k ∧ (∀ c, c ∈ t → RuneI c) ∧ Hid (apR s l = apA k t B (l.drop k)) ∧ Sat c0 (row 21 1 runv tv t * (F)) wr) (fun _ iv _ => n - (intOf iv).toNat)
    case atStart => exact ⟨0, x, [], by omega, rfl, by omega, rfl, hxI, hR, hs⟩
    case round =>
      clear hs
      clear hR hxI hxl hx hxm
      obtain ⟨k, t, B, hk, rfl, htl, hBk, htI, hR, hs⟩ := hrel
      obtain ⟨Ar, cr, rfl, hr1, hr2⟩ := row_slice hs.own
      by_cases hkn : k < n
      · have hkI : (k : Int) < n := by omega
        obtain ⟨bl, ol, d, rfl, hd, hrd⟩ := slr_get hl ((hs.mono ent_drop).own) hkn
        have hd10 := hl2.out d (List.mem_of_getElem? hd)
        by_cases hrg : d.at_ < 0 ∨ (t.length : Int) < d.at_ ∨ d.er < 0 ∨ (t.length : Int) - d.at_ < d.er
        ·
          have hR2 := apR_no hR.out hd (asE_range hrg)
          replace hR2 := Lib.hid hR2
          replace hR := Lib.hid hR
          replace hd := Lib.hid hd
          generalize htm : t.length = m at *
          replace htm := Lib.hid htm
          clear hl2 hd10
          obtain ⟨da, de, di⟩ := d
          dsimp only at hrg hrd
          rcases (show da < 0 ∨ (0 ≤ da ∧ (m : Int) < da) ∨ (0 ≤ da ∧ da ≤ (m : Int) ∧ de < 0) ∨ (0 ≤ da ∧ da ≤ (m : Int) ∧ 0 ≤ de ∧ (m : Int) - da < de) by omega) with e1 | ⟨e1, e2⟩ | ⟨e1, e2, e3⟩ | ⟨e1, e2, e3, e4⟩
          all_goals clear hrg
          all_goals go_wp2_with (first
        | ((with_reducible rewrite [pl_strike_eq]); rotate_left 1; (focus rfl))
        | ((with_reducible rewrite [pl_skip_eq]); rotate_left 1; (focus rfl); simp only [Act.put, zg, zh, zi])
        | ((with_reducible apply pl_guard_f); (focus rfl); (focus rfl); all_goals (intro hb; first | (cases hb; done) | ((try simp at hb); first | contradiction | ((have hF : False := (by omega)); (cases hF; done)) | (simp only [Act.put, zg, zh, zi]))))
        | ((with_reducible apply pl_call hs (fnewR_s _ _ a _ _ _ 2)); ((((focus (simp only [zj, zk, zl, List.append_toArray, List.nil_append, List.cons_append, Act.eval, za, zb, zc, zd, ze, zf]; (try with_reducible rfl); done)); (focus ((repeat (first | (with_reducible (first | exact ent_refl | apply ent_puR)) | ((with_reducible apply ent_front); (focus with_reducible (repeat (first | exact ent_here | apply ent_next | exact ent_last)); done)) | (with_reducible (first | exact ent_keep | apply ent_trans ent_drop)) | (focus (first | ((repeat' (first | (with_reducible apply And.intro) | omega)); done))))); done)); (focus (simp only [go_sem]))))); clear hs; (try clear w); intro v w hq; (have hs := hq); clear hq; (try simp only [star_assoc, star_emp, emp_star] at hs); (try simp only [Act.put, zg, zh, zi]))
        | ((with_reducible apply pl_loadN hs); (focus (simp only [Act.eval, za, zb, zc, zd, ze, zf]; (try with_reducible rfl); done)); (with_reducible (first | exact agg_44)); (focus ((repeat (first | (with_reducible (first | assumption | exact hel _ | exact hel2 _ | exact hel3 _)) | ((with_reducible apply reads_whole); (focus (first | (with_reducible rfl) | (simp only [go_sem]; done) | (simp; done)))) | ((with_reducible apply reads_part); (focus (first | (simp [go_sem]; done) | (simp only [go_sem]; omega) | go_size)); (focus (first | (simp only [Nat.reduceAdd, Nat.zero_add, go_sem]; (try with_reducible rfl); done) | (simp [go_sem]; (try with_reducible rfl); done)))) | (with_reducible (first | (apply reads_left; assumption) | refine reads_exh (by assumption) ?_ | refine reads_exh0 (by assumption) ?_ | apply reads_next)))); done)); (focus rfl); simp only [Act.put, zg, zh, zi])
        | ((with_reducible apply pl_load1 hs); (focus (simp only [Act.eval, za, zb, zc, zd, ze, zf]; (try with_reducible rfl); done)); (focus (simp only [go_sem])); (focus ((repeat (first | (with_reducible (first | assumption | exact hec _ | exact hec2 _ | exact hec3 _ | exact hec4 _ _)) | ((with_reducible apply readc_here); (focus (first | (simp only [zc, zd, ze, go_sem]; (try with_reducible rfl); done) | (go_simp; (try with_reducible rfl); done)))) | (with_reducible (first | (apply readc_left; assumption) | refine readc_exh (by assumption) ?_ | refine readc_exh0 (by assumption) ?_ | apply readc_next)))); done)); (focus rfl); simp only [Act.put, zg, zh, zi])
        | ((with_reducible apply pl_alloc hs); (with_reducible (first | exact zero_44)); clear hs; (try clear w); intro g w hs; skip; simp only [Act.put, zg, zh, zi])
        | ((with_reducible apply pl_storeN hs); (focus (simp only [Act.eval, za, zb, zc, zd, ze, zf]; (try with_reducible rfl); done)); (focus (simp only [Act.eval, za, zb, zc, zd, ze, zf]; (try with_reducible rfl); done)); (with_reducible (first | exact agg_44)); (focus with_reducible (repeat (first | exact ent_here | apply ent_next | exact ent_last)); done); (focus (first | (with_reducible rfl) | (simp only [go_sem]; done) | (simp; done))); (focus (first | (simp [go_sem]; done) | (simp only [go_sem]; omega) | go_size)); (focus (first | (simp only [go_sem]; done) | (simp [go_sem]; done))); (focus (first | ((with_reducible apply splice_whole); (focus (first | (with_reducible rfl) | (simp only [go_sem]; done) | (simp; done)))) | (simp [splice, go_sem]; done) | (simp only [go_sem]; (try with_reducible rfl); done))); clear hs; (try clear w); intro w hs; (try simp only [zg, zh, zi, edt_s0, edt_s1, edt_s2, txt_s0, txt_s1, txt_s2, txt_s3, lnk_s0, lnk_s1, lnk_s2, nov_s0, nov_s1, nov_s2, intv_set, bytv_set, runv_set, slv_set] at hs); simp only [Act.put, zg, zh, zi]))
          all_goals (go_ret2; simp only [za, zb, zc, zd, ze, zf])
          all_goals exact ⟨_, rfl, hs.mono (ent_trans (by ((repeat (first | (with_reducible (first | exact ent_refl | exact ent_emp)) | ((with_reducible apply ent_front); (focus with_reducible (repeat (first | exact ent_here | apply ent_next | exact ent_last)); done)) | (with_reducible (first | exact ent_keep | apply ent_trans ent_drop)))); done)) (apP0_no hR2.out))⟩
        · have hq1 : 0 ≤ d.at_ := by omega
          have hq2 : d.at_ ≤ (t.length : Int) := by omega
          have hq3 : 0 ≤ d.er := by omega
          have hq4 : d.er ≤ (t.length : Int) - d.at_ := by omega
          obtain ⟨da, de, di⟩ := d
          dsimp only at hq1 hq2 hq3 hq4 hd10 hrg
          obtain ⟨p, rfl⟩ := Int.eq_ofNat_of_zero_le hq1
          obtain ⟨q, rfl⟩ := Int.eq_ofNat_of_zero_le hq3
          rcases Option.eq_none_or_eq_some (runesL di.data.toList) with hy | ⟨y, hy⟩
          ·
            have hR2 := apR_no hR.out hd (asE_text hrg hy)
            replace hR2 := Lib.hid hR2
            replace hR := Lib.hid hR
            replace hd := Lib.hid hd
            clear hrg
            generalize htm : t.length = m at *
            replace htm := Lib.hid htm
            go_wp2_with (first
        | ((with_reducible rewrite [pl_strike_eq]); rotate_left 1; (focus rfl))
        | ((with_reducible apply pl_guard_f); (focus rfl); (focus rfl); all_goals (intro hb; first | (cases hb; done) | ((try simp at hb); first | contradiction | ((have hF : False := (by omega)); (cases hF; done)) | (simp only [Act.put, zg, zh, zi]))))
        | ((with_reducible apply pl_call hs (valid_s _ _ _)); ((((focus (simp only [zj, zk, zl, List.append_toArray, List.nil_append, List.cons_append, Act.eval, za, zb, zc, zd, ze, zf]; (try with_reducible rfl); done)); (focus ((repeat (first | (with_reducible (first | exact ent_refl | apply ent_puR)) | ((with_reducible apply ent_front); (focus with_reducible (repeat (first | exact ent_here | apply ent_next | exact ent_last)); done)) | (with_reducible (first | exact ent_keep | apply ent_trans ent_drop)) | (focus (first | ((repeat' (first | (with_reducible apply And.intro) | omega | (focus (with_reducible (repeat (first | assumption | (apply TabF.left; assumption) | refine TabF.exh (by assumption) ?_ | refine TabF.exh0 (by assumption) ?_ | exact (tblF_of (by assumption)) | apply TabF.next)); done)))); done))))); done)); (focus (simp only [go_sem]))))); clear hs; (try clear w); intro v w hq; (obtain ⟨hv, hs⟩ := hq.pu; rw [hy] at hv; (try simp only [Option.isSome_some, Option.isSome_none] at hv); subst hv); clear hq; (try simp only [star_assoc, star_emp, emp_star] at hs); (try simp only [Act.put, zg, zh, zi]))
        | ((with_reducible apply pl_call hs (fnewR_s _ _ a _ _ _ 3)); ((((focus (simp only [zj, zk, zl, List.append_toArray, List.nil_append, List.cons_append, Act.eval, za, zb, zc, zd, ze, zf]; (try with_reducible rfl); done)); (focus ((repeat (first | (with_reducible (first | exact ent_refl | apply ent_puR)) | ((with_reducible apply ent_front); (focus with_reducible (repeat (first | exact ent_here | apply ent_next | exact ent_last)); done)) | (with_reducible (first | exact ent_keep | apply ent_trans ent_drop)) | (focus (first | ((repeat' (first | (with_reducible apply And.intro) | omega)); done))))); done)); (focus (simp only [go_sem]))))); clear hs; (try clear w); intro v w hq; (have hs := hq); clear hq; (try simp only [star_assoc, star_emp, emp_star] at hs); (try simp only [Act.put, zg, zh, zi]))
        | ((with_reducible apply pl_loadN hs); (focus (simp only [Act.eval, za, zb, zc, zd, ze, zf]; (try with_reducible rfl); done)); (with_reducible (first | exact agg_44)); (focus ((repeat (first | (with_reducible (first | assumption | exact hel _ | exact hel2 _ | exact hel3 _)) | ((with_reducible apply reads_whole); (focus (first | (with_reducible rfl) | (simp only [go_sem]; done) | (simp; done)))) | ((with_reducible apply reads_part); (focus (first | (simp [go_sem]; done) | (simp only [go_sem]; omega) | go_size)); (focus (first | (simp only [Nat.reduceAdd, Nat.zero_add, go_sem]; (try with_reducible rfl); done) | (simp [go_sem]; (try with_reducible rfl); done)))) | (with_reducible (first | (apply reads_left; assumption) | refine reads_exh (by assumption) ?_ | refine reads_exh0 (by assumption) ?_ | apply reads_next)))); done)); (focus rfl); simp only [Act.put, zg, zh, zi])
        | ((with_reducible apply pl_load1 hs); (focus (simp only [Act.eval, za, zb, zc, zd, ze, zf]; (try with_reducible rfl); done)); (focus (simp only [go_sem])); (focus ((repeat (first | (with_reducible (first | assumption | exact hec _ | exact hec2 _ | exact hec3 _ | exact hec4 _ _)) | ((with_reducible apply readc_here); (focus (first | (simp only [zc, zd, ze, go_sem]; (try with_reducible rfl); done) | (go_simp; (try with_reducible rfl); done)))) | (with_reducible (first | (apply readc_left; assumption) | refine readc_exh (by assumption) ?_ | refine readc_exh0 (by assumption) ?_ | apply readc_next)))); done)); (focus rfl); simp only [Act.put, zg, zh, zi])
        | ((with_reducible apply pl_alloc hs); (with_reducible (first | exact zero_44)); clear hs; (try clear w); intro g w hs; skip; simp only [Act.put, zg, zh, zi])
        | ((with_reducible apply pl_storeN hs); (focus (simp only [Act.eval, za, zb, zc, zd, ze, zf]; (try with_reducible rfl); done)); (focus (simp only [Act.eval, za, zb, zc, zd, ze, zf]; (try with_reducible rfl); done)); (with_reducible (first | exact agg_44)); (focus with_reducible (repeat (first | exact ent_here | apply ent_next | exact ent_last)); done); (focus (first | (with_reducible rfl) | (simp only [go_sem]; done) | (simp; done))); (focus (first | (simp [go_sem]; done) | (simp only [go_sem]; omega) | go_size)); (focus (first | (simp only [go_sem]; done) | (simp [go_sem]; done))); (focus (first | ((with_reducible apply splice_whole); (focus (first | (with_reducible rfl) | (simp only [go_sem]; done) | (simp; done)))) | (simp [splice, go_sem]; done) | (simp only [go_sem]; (try with_reducible rfl); done))); clear hs; (try clear w); intro w hs; (try simp only [zg, zh, zi, edt_s0, edt_s1, edt_s2, txt_s0, txt_s1, txt_s2, txt_s3, lnk_s0, lnk_s1, lnk_s2, nov_s0, nov_s1, nov_s2, intv_set, bytv_set, runv_set, slv_set] at hs); simp only [Act.put, zg, zh, zi]))
            (go_ret2; simp only [za, zb, zc, zd, ze, zf])
            exact ⟨_, rfl, hs.mono (ent_trans (by ((repeat (first | (with_reducible (first | exact ent_refl | exact ent_emp)) | ((with_reducible apply ent_front); (focus with_reducible (repeat (first | exact ent_here | apply ent_next | exact ent_last)); done)) | (with_reducible (first | exact ent_keep | apply ent_trans ent_drop)))); done)) (apP0_no hR2.out))⟩
          ·
            have hR2 := apR_yes hR.out hd (asE_ok hrg hy)
            simp only [Int.toNat_natCast] at hR2
            have hyl := runes_len hy
            have hyI := runes_in hy
            have hok : okE t ⟨p, q, y⟩ := ⟨by simp only; omega, by simp only; omega⟩
            have hlen := ap1_len hok
            have hin := ap1_in (t := t) (d := ⟨p, q, y⟩) htI hyI
            have hp1 : p + q ≤ t.length := by omega
            have hpc : p + q ≤ cr := by omega
            have hp2 : p ≤ cr := by omega
            have hslA : ∀ R, SlR (row 21 1 runv (.slice Ar t.length cr) t * R) 1 runv (.slice (ctA Ar p cr 1) q (cr - p)) ((t.drop p).take q) := fun R => slr_cut (slr_row runv_size) p q hp1
            have hslB : ∀ R, SlR (row 21 1 runv (.slice Ar t.length cr) t * R) 1 runv (.slice (ctA Ar 0 cr 1) p cr) (t.take p) := fun R => slr_cut0 (slr_row runv_size) p (by omega)
            have hslC : ∀ R, SlR (row 21 1 runv (.slice Ar t.length cr) t * R) 1 runv (.slice (ctA Ar (p + q) cr 1) (t.length - (p + q)) (cr - (p + q))) (t.drop (p + q)) := fun R => slr_cutE (slr_row runv_size) (p + q) hp1
            have hcon : ∀ F g A2 c2, Spec Tryd.prog c0 59 #[.slice (some ⟨g, 0, none⟩) 3 3] (pu (SlR F 1 slv (.slice (some ⟨g, 0, none⟩) 3 3) [⟨ctA Ar 0 cr 1, p, cr⟩, ⟨A2, y.length, c2⟩, ⟨ctA Ar (p + q) cr 1, t.length - (p + q), cr - (p + q)⟩] ∧ SlR F 1 runv (.slice (ctA Ar 0 cr 1) p cr) (t.take p) ∧ SlR F 1 runv (.slice A2 y.length c2) y ∧ SlR F 1 runv (.slice (ctA Ar (p + q) cr 1) (t.length - (p + q)) (cr - (p + q))) (t.drop (p + q))) F) (fun r => row 21 1 runv r (ap1 t ⟨p, q, y⟩) * F) := fun F g A2 c2 w hs => by
              obtain ⟨⟨h1, h2, h3, h4⟩, hs⟩ := hs.pu
              exact concat3_s c0 F _ _ _ _ _ _ _ w (hs.mono (ent_pu ⟨h1, h2, h3, h4, by show (t.take p).length + y.length + (t.drop (p + q)).length ≤ 100000000; rw [List.length_take, List.length_drop]; omega⟩ ent_refl))
            have hlen2 : (ap1 t ⟨p, q, y⟩).length ≤ 10000 + 10000 * (k + 1) := by simp only at hlen; omega
            have hym : y.length ≤ maxLen := by unfold maxLen; omega
            have htell : ∀ F, Spec Tryd.prog c0 42 #[.agg (edt ⟨p, q, di⟩), .slice (ctA Ar p cr 1) q (cr - p)] F (fun _ => F) := fun F => tell0_s c0 F _ _
            replace hR2 := Lib.hid hR2
            replace hR := Lib.hid hR
            replace hd := Lib.hid hd
            clear hrg hlen hok
            replace hin := Lib.hid hin
            replace hlen2 := Lib.hid hlen2
            replace htI := Lib.hid htI
            replace hyI := Lib.hid hyI
            generalize htm : t.length = m at *
            replace htm := Lib.hid htm
            have hsl := hslA
            have hsl2 := hslC
            go_wp2_with (first
        | ((with_reducible rewrite [pl_strike_eq]); rotate_left 1; (focus rfl))
        | ((with_reducible apply wp_region_sl (G := emp) (id := 11) hs 1000); (focus (exact ent_emp_l)); (focus kernel_rfl); (focus decide +kernel); clear hs; (try clear w); intro hR w hRR hs; (try simp only [star_assoc] at hs))
        | ((with_reducible apply wp_region_sl (G := emp) (id := 12) hs 1000); (focus (exact ent_emp_l)); (focus kernel_rfl); (focus decide +kernel); clear hs; (try clear w); intro hR w hRR hs; (try simp only [star_assoc] at hs))
        | ((with_reducible apply pl_guard_f); (focus rfl); (focus rfl); all_goals (intro hb; first | (cases hb; done) | ((try simp at hb); first | contradiction | ((have hF : False := (by omega)); (cases hF; done)) | (simp only [Act.put, zg, zh, zi]))))
        | ((with_reducible apply pl_call hs (valid_s _ _ _)); ((((focus (simp only [zj, zk, zl, List.append_toArray, List.nil_append, List.cons_append, Act.eval, za, zb, zc, zd, ze, zf]; (try with_reducible rfl); done)); (focus ((repeat (first | (with_reducible (first | exact ent_refl | apply ent_puR)) | ((with_reducible apply ent_front); (focus with_reducible (repeat (first | exact ent_here | apply ent_next | exact ent_last)); done)) | (with_reducible (first | exact ent_keep | apply ent_trans ent_drop)) | (focus (first | ((repeat' (first | (with_reducible apply And.intro) | omega | (focus (with_reducible (repeat (first | assumption | (apply TabF.left; assumption) | refine TabF.exh (by assumption) ?_ | refine TabF.exh0 (by assumption) ?_ | exact (tblF_of (by assumption)) | apply TabF.next)); done)))); done))))); done)); (focus (simp only [go_sem]))))); clear hs; (try clear w); intro v w hq; (obtain ⟨hv, hs⟩ := hq.pu; rw [hy] at hv; (try simp only [Option.isSome_some, Option.isSome_none] at hv); subst hv); clear hq; (try simp only [star_assoc, star_emp, emp_star] at hs); (try simp only [Act.put, zg, zh, zi]))
        | ((with_reducible apply mx_callv hs (htell _)); (focus (simp only [Act.eval, za, zb, zc, zd, ze, zf]; (try with_reducible rfl); done)); ((((focus (simp only [zj, zk, zl, List.append_toArray, List.nil_append, List.cons_append, Act.eval, za, zb, zc, zd, ze, zf]; (try with_reducible rfl); done)); (focus ((repeat (first | (with_reducible (first | exact ent_refl | apply ent_puR)) | ((with_reducible apply ent_front); (focus with_reducible (repeat (first | exact ent_here | apply ent_next | exact ent_last)); done)) | (with_reducible (first | exact ent_keep | apply ent_trans ent_drop)) | (fail))); done)); (focus (simp only [go_sem])); (focus (intros; with_reducible (refine in_of_sat (by assumption) ?_; repeat (first | exact ent_exh_here | exact ent_last | refine ent_pu_l (fun _ => ?_) | refine ent_ex_l (fun _ => ?_) | apply ent_exh_next)); done))))); clear hs; (try clear w); intro v w hq; (have hs := hq; clear hsl; have hsl := hslB); clear hq; (try simp only [star_assoc, star_emp, emp_star] at hs); (try simp only [Act.put, zg, zh, zi]))
        | ((with_reducible apply mx_call hs (hcon _ _ _ _)); ((((focus (simp only [zj, zk, zl, List.append_toArray, List.nil_append, List.cons_append, Act.eval, za, zb, zc, zd, ze, zf]; (try with_reducible rfl); done)); (focus ((repeat (first | (with_reducible (first | exact ent_refl | apply ent_puR)) | ((with_reducible apply ent_front); (focus with_reducible (repeat (first | exact ent_here | apply ent_next | exact ent_last)); done)) | (with_reducible (first | exact ent_keep | apply ent_trans ent_drop)) | (focus (first | ((repeat' (first | (with_reducible apply And.intro) | (focus (first | ((repeat (first | (with_reducible (first | assumption | exact slr_ro |  exact hsl _ | exact hsl2 _ | exact hsl3 _ _ _ | exact slr_nil | exact slr_row (fun _ => by simp only [go_sem]) | exact slr_one (fun _ => by simp only [go_sem]) | (apply slr_left; assumption))) | (with_reducible apply slr_next))); done) | ((repeat (first | (with_reducible (first | assumption | exact slr_ro |  exact hsl _ | exact hsl2 _ | exact hsl3 _ _ _ | exact slr_nil | exact slr_row (fun _ => by simp only [go_sem]) | exact slr_one (fun _ => by simp only [go_sem]) | (apply slr_left; assumption))) | (with_reducible (first | (apply slr_exh; focus assumption) | (apply slr_exh0; focus assumption) | apply slr_next)))); done))))); done))))); done)); (focus (simp only [go_sem])); (focus (intros; with_reducible (refine in_of_sat (by assumption) ?_; repeat (first | exact ent_exh_here | exact ent_last | refine ent_pu_l (fun _ => ?_) | refine ent_ex_l (fun _ => ?_) | apply ent_exh_next)); done))))); clear hs; (try clear w); intro v w hq; (have hs := hq); clear hq; (try simp only [star_assoc, star_emp, emp_star] at hs); (try simp only [Act.put, zg, zh, zi]))
        | (((with_reducible apply mx_cvSR hs); (focus rfl); (first | (with_reducible exact rut_33_9)); (focus (simp only [Act.eval, za, zb, zc, zd, ze, zf]; (try with_reducible rfl); done)); (focus with_reducible assumption); (focus with_reducible assumption); (focus (intros; with_reducible (refine in_of_sat (by assumption) ?_; repeat (first | exact ent_exh_here | exact ent_last | refine ent_pu_l (fun _ => ?_) | refine ent_ex_l (fun _ => ?_) | apply ent_exh_next)); done)); clear hs; (try clear w); intro gy cy w hs; simp only [Act.put, zg, zh, zi]))
        | (((with_reducible apply mx_bsL (enc := slv) (s := 1) (E := 33) ([⟨ctA Ar 0 cr 1, p, cr⟩, ⟨some ⟨gy, 0, none⟩, y.length, cy⟩, ⟨ctA Ar (p + q) cr 1, m - (p + q), cr - (p + q)⟩] : List SlD) hs); (focus (intro w; go_simp; (try rfl); done)); (focus rfl); (focus rfl); (focus rfl); (focus (simp only [maxLen]; omega)); (focus (intros; with_reducible (refine in_of_sat (by assumption) ?_; repeat (first | exact ent_exh_here | exact ent_last | refine ent_pu_l (fun _ => ?_) | refine ent_ex_l (fun _ => ?_) | apply ent_exh_next)); done)); clear hs; (try clear w); intro g w hs; simp only [Act.put, zg, zh, zi]))
        | ((with_reducible apply pl_loadN hs); (focus (simp only [Act.eval, za, zb, zc, zd, ze, zf]; (try with_reducible rfl); done)); (with_reducible (first | exact agg_44)); (focus ((repeat (first | (with_reducible (first | assumption | exact hel _ | exact hel2 _ | exact hel3 _)) | ((with_reducible apply reads_whole); (focus (first | (with_reducible rfl) | (simp only [go_sem]; done) | (simp; done)))) | ((with_reducible apply reads_part); (focus (first | (simp [go_sem]; done) | (simp only [go_sem]; omega) | go_size)); (focus (first | (simp only [Nat.reduceAdd, Nat.zero_add, go_sem]; (try with_reducible rfl); done) | (simp [go_sem]; (try with_reducible rfl); done)))) | (with_reducible (first | (apply reads_left; assumption) | refine reads_exh (by assumption) ?_ | refine reads_exh0 (by assumption) ?_ | apply reads_next)))); done)); (focus rfl); simp only [Act.put, zg, zh, zi])
        | ((with_reducible apply pl_load1 hs); (focus (simp only [Act.eval, za, zb, zc, zd, ze, zf]; (try with_reducible rfl); done)); (focus (simp only [go_sem])); (focus ((repeat (first | (with_reducible (first | assumption | exact hec _ | exact hec2 _ | exact hec3 _ | exact hec4 _ _)) | ((with_reducible apply readc_here); (focus (first | (simp only [zc, zd, ze, go_sem]; (try with_reducible rfl); done) | (go_simp; (try with_reducible rfl); done)))) | (with_reducible (first | (apply readc_left; assumption) | refine readc_exh (by assumption) ?_ | refine readc_exh0 (by assumption) ?_ | apply readc_next)))); done)); (focus rfl); simp only [Act.put, zg, zh, zi])
        | ((with_reducible apply pl_alloc hs); (with_reducible (first | exact zero_44)); clear hs; (try clear w); intro g w hs; skip; simp only [Act.put, zg, zh, zi])
        | ((with_reducible apply pl_storeN hs); (focus (simp only [Act.eval, za, zb, zc, zd, ze, zf]; (try with_reducible rfl); done)); (focus (simp only [Act.eval, za, zb, zc, zd, ze, zf]; (try with_reducible rfl); done)); (with_reducible (first | exact agg_44)); (focus with_reducible (repeat (first | exact ent_here | apply ent_next | exact ent_last)); done); (focus (first | (with_reducible rfl) | (simp only [go_sem]; done) | (simp; done))); (focus (first | (simp [go_sem]; done) | (simp only [go_sem]; omega) | go_size)); (focus (first | (simp only [go_sem]; done) | (simp [go_sem]; done))); (focus (first | ((with_reducible apply splice_whole); (focus (first | (with_reducible rfl) | (simp only [go_sem]; done) | (simp; done)))) | (simp [splice, go_sem]; done) | (simp only [go_sem]; (try with_reducible rfl); done))); clear hs; (try clear w); intro w hs; (try simp only [zg, zh, zi, edt_s0, edt_s1, edt_s2, txt_s0, txt_s1, txt_s2, txt_s3, lnk_s0, lnk_s1, lnk_s2, nov_s0, nov_s1, nov_s2, intv_set, bytv_set, runv_set, slv_set] at hs); simp only [Act.put, zg, zh, zi])
        | ((with_reducible apply mix_end hRR hs); (focus with_reducible (repeat (first | exact ent_here | apply ent_next | exact ent_last)); done); clear hs; (try clear w); intro w hs; (try simp only [star_assoc, star_emp, emp_star] at hs); clear hRR hR)
        | ((with_reducible apply mx_loadN hRR); (focus (simp only [Act.eval, za, zb, zc, zd, ze, zf]; (try with_reducible rfl); done)); (with_reducible (first | exact agg_44)); (focus ((repeat (first | (with_reducible (first | assumption | exact hel _ | exact hel2 _ | exact hel3 _)) | ((with_reducible apply reads_whole); (focus (first | (with_reducible rfl) | (simp only [go_sem]; done) | (simp; done)))) | ((with_reducible apply reads_part); (focus (first | (simp [go_sem]; done) | (simp only [go_sem]; omega) | go_size)); (focus (first | (simp only [Nat.reduceAdd, Nat.zero_add, go_sem]; (try with_reducible rfl); done) | (simp [go_sem]; (try with_reducible rfl); done)))) | (with_reducible (first | (apply reads_left; assumption) | refine reads_exh (by assumption) ?_ | refine reads_exh0 (by assumption) ?_ | apply reads_next)))); done)); simp only [Act.put, zg, zh, zi])
        | ((with_reducible apply mx_load1 hRR); (focus (simp only [Act.eval, za, zb, zc, zd, ze, zf]; (try with_reducible rfl); done)); (focus (simp only [go_sem])); (focus ((repeat (first | (with_reducible (first | assumption | exact hec _ | exact hec2 _ | exact hec3 _ | exact hec4 _ _)) | ((with_reducible apply readc_here); (focus (first | (simp only [zc, zd, ze, go_sem]; (try with_reducible rfl); done) | (go_simp; (try with_reducible rfl); done)))) | (with_reducible (first | (apply readc_left; assumption) | refine readc_exh (by assumption) ?_ | refine readc_exh0 (by assumption) ?_ | apply readc_next)))); done)); simp only [Act.put, zg, zh, zi])
        | ((with_reducible refine mix_float ?_ ?_ ?_ (fun h hk => ?_) ?_); rotate_left 1; (focus rfl); (focus rfl); (focus (go_simp; (try (rw [if_pos (by omega)]; (try go_simp))); (try simp (disch := omega) only [IntWalk.i64_in, IntWalk.i32_in]); (try with_reducible rfl); done)); simp only [Act.put, zg, zh, zi]))
            exact ⟨⟨k + 1, ap1 t ⟨p, q, y⟩, bk1 t ⟨p, q, y⟩ :: B, by omega, congrArg (Value.int .i64) (by omega), hlen2.out, by simp [hBk], hin.out, hR2, hs.mono (by ((repeat (first | (with_reducible (first | exact ent_refl | exact ent_emp)) | ((with_reducible apply ent_front); (focus with_reducible (repeat (first | exact ent_here | apply ent_next | exact ent_last)); done)) | (with_reducible (first | exact ent_keep | apply ent_trans ent_drop)))); done))⟩, by simp only [intOf]; omega⟩
      · obtain rfl : k = n := by omega
        have hkI : ¬ ((k : Int) < k) := by omega
        have hR2 := apR_end hR.out (by have := hn.out; omega)
        replace hR2 := Lib.hid hR2
        go_wp2_with fail
        (go_ret2; simp only [za, zb, zc, zd, ze, zf])
        exact ⟨_, rfl, hs.mono (ent_trans (by ((repeat (first | (with_reducible (first | exact ent_refl | exact ent_emp)) | ((with_reducible apply ent_front); (focus with_reducible (repeat (first | exact ent_here | apply ent_next | exact ent_last)); done)) | (with_reducible (first | exact ent_keep | apply ent_trans ent_drop)))); done)) (apP0_ok hR2.out))⟩
set_option maxRecDepth 20000 in
set_option maxHeartbeats 8000000 in
theorem apply1_s (c0 : World) (F : HP) (a : Nat → Addr) (gl : Nat) (s : ByteArray) (lv : Value) (l : List EdtD) : Spec Tryd.prog c0 41 #[.string cIn, .string s, lv, .func (.func 43) #[] #[.pointer (some ⟨gl, 0, none⟩)]]
    (pu (ErrB F a ∧ ReadC F 2 0 (.iface 125 (.pointer (some (a 2)))) ∧ TabF F ∧ SlR F 3 edt lv l ∧ s.size ≤ 10000 ∧ l.length ≤ 300 ∧ outEdits l) (outP gl [] * F)) (ApP a cIn s l (outP gl) F) := by
  intro w hq; obtain ⟨⟨hE, hgr, hT, hl, hs1, hl1, hl2⟩, hs⟩ := hq.pu; clear hq
  have hgt := hE.text
  obtain ⟨A, c, rfl⟩ := slr_form hl (hs.mono ent_drop).own
  have hmx : 0 ≤ maxLen := Nat.zero_le _
  rcases Option.eq_none_or_eq_some (runesL s.data.toList) with hx | ⟨x, hx⟩
  ·
    have hR : apR s l = .error (0, 3) := by unfold apR; rw [hx]
    replace hR := Lib.hid hR
    go_enter Tryd.func41, Tryd.ntmps41
    go_wp2_with (first
        | ((with_reducible apply pl_call hs (valid_s _ _ _)); ((((focus (simp only [zj, zk, zl, List.append_toArray, List.nil_append, List.cons_append, Act.eval, za, zb, zc, zd, ze, zf]; (try with_reducible rfl); done)); (focus ((repeat (first | (with_reducible (first | exact ent_refl | apply ent_puR)) | ((with_reducible apply ent_front); (focus with_reducible (repeat (first | exact ent_here | apply ent_next | exact ent_last)); done)) | (with_reducible (first | exact ent_keep | apply ent_trans ent_drop)) | (focus (first | ((repeat' (first | (with_reducible apply And.intro) | omega | (focus (with_reducible (repeat (first | assumption | (apply TabF.left; assumption) | refine TabF.exh (by assumption) ?_ | refine TabF.exh0 (by assumption) ?_ | exact (tblF_of (by assumption)) | apply TabF.next)); done)))); done))))); done)); (focus (simp only [go_sem]))))); clear hs; (try clear w); intro v w hq; (obtain ⟨hv, hs⟩ := hq.pu; rw [hx] at hv; (try simp only [Option.isSome_some, Option.isSome_none] at hv); subst hv); clear hq; (try simp only [star_assoc, star_emp, emp_star] at hs); (try simp only [Act.put, zg, zh, zi]))
        | ((with_reducible apply pl_call hs (fnewR_s _ _ a _ _ _ 3)); ((((focus (simp only [zj, zk, zl, List.append_toArray, List.nil_append, List.cons_append, Act.eval, za, zb, zc, zd, ze, zf]; (try with_reducible rfl); done)); (focus ((repeat (first | (with_reducible (first | exact ent_refl | apply ent_puR)) | ((with_reducible apply ent_front); (focus with_reducible (repeat (first | exact ent_here | apply ent_next | exact ent_last)); done)) | (with_reducible (first | exact ent_keep | apply ent_trans ent_drop)) | (focus (first | ((repeat' (first | (with_reducible apply And.intro) | omega)); done))))); done)); (focus (simp only [go_sem]))))); clear hs; (try clear w); intro v w hq; (have hs := hq); clear hq; (try simp only [star_assoc, star_emp, emp_star] at hs); (try simp only [Act.put, zg, zh, zi]))
        | ((with_reducible apply pl_load1 hs); (focus (simp only [Act.eval, za, zb, zc, zd, ze, zf]; (try with_reducible rfl); done)); (focus (simp only [go_sem])); (focus ((repeat (first | (with_reducible (first | assumption | exact hec _ | exact hec2 _ | exact hec3 _ | exact hec4 _ _)) | ((with_reducible apply readc_here); (focus (first | (simp only [zc, zd, ze, go_sem]; (try with_reducible rfl); done) | (go_simp; (try with_reducible rfl); done)))) | (with_reducible (first | (apply readc_left; assumption) | refine readc_exh (by assumption) ?_ | refine readc_exh0 (by assumption) ?_ | apply readc_next)))); done)); (focus rfl); simp only [Act.put, zg, zh, zi]))
    (go_ret2; simp only [za, zb, zc, zd, ze, zf])
    exact ⟨_, rfl, hs.mono (ent_trans (by ((repeat (first | (with_reducible (first | exact ent_refl | exact ent_emp)) | ((with_reducible apply ent_front); (focus with_reducible (repeat (first | exact ent_here | apply ent_next | exact ent_last)); done)) | (with_reducible (first | exact ent_keep | apply ent_trans ent_drop)))); done)) (apP_no0 hR.out))⟩
  ·
    have hR : apR s l = apA 0 x [] (l.drop 0) := by unfold apR; rw [hx]; rfl
    have hxl := runes_len hx
    have hxI := runes_in hx
    have hxm : x.length ≤ maxLen := by unfold maxLen; omega
    replace hR := Lib.hid hR
    replace hl2 := Lib.hid hl2
    generalize hn : l.length = n at *
    replace hn := Lib.hid hn
    go_enter Tryd.func41, Tryd.ntmps41
    go_wp2_with (first
        | ((with_reducible apply pl_call hs (valid_s _ _ _)); ((((focus (simp only [zj, zk, zl, List.append_toArray, List.nil_append, List.cons_append, Act.eval, za, zb, zc, zd, ze, zf]; (try with_reducible rfl); done)); (focus ((repeat (first | (with_reducible (first | exact ent_refl | apply ent_puR)) | ((with_reducible apply ent_front); (focus with_reducible (repeat (first | exact ent_here | apply ent_next | exact ent_last)); done)) | (with_reducible (first | exact ent_keep | apply ent_trans ent_drop)) | (focus (first | ((repeat' (first | (with_reducible apply And.intro) | omega | (focus (with_reducible (repeat (first | assumption | (apply TabF.left; assumption) | refine TabF.exh (by assumption) ?_ | refine TabF.exh0 (by assumption) ?_ | exact (tblF_of (by assumption)) | apply TabF.next)); done)))); done))))); done)); (focus (simp only [go_sem]))))); clear hs; (try clear w); intro v w hq; (obtain ⟨hv, hs⟩ := hq.pu; rw [hx] at hv; (try simp only [Option.isSome_some, Option.isSome_none] at hv); subst hv); clear hq; (try simp only [star_assoc, star_emp, emp_star] at hs); (try simp only [Act.put, zg, zh, zi]))
        | ((with_reducible apply pl_cvSR hs); (first | (with_reducible exact rut_33_9)); (focus (simp only [Act.eval, za, zb, zc, zd, ze, zf]; (try with_reducible rfl); done)); (focus with_reducible assumption); (focus (first | (with_reducible assumption) | omega | (simp; done) | (simp; omega))); clear hs; (try clear w); intro g cq w hs; simp only [Act.put, zg, zh, zi]))
    go_loopw [10, 23] (fun tv iv wr => ∃ (k : Nat) (t : List Int) (B : List Ed), k ≤ n ∧ iv = .int .i64 k ∧ t.length ≤ 10000 + 10000 * k ∧ B.length = k ∧ (∀ c, c ∈ t → RuneI c) ∧ Hid (apR s l = apA k t B (l.drop k)) ∧ Sat c0 (row 21 1 runv tv t * (outP gl B * F)) wr) (fun _ iv _ => n - (intOf iv).toNat)
    case atStart => exact ⟨0, x, [], by omega, rfl, by omega, rfl, hxI, hR, hs⟩
    case round =>
      clear hs
      clear hR hxI hxl hx hxm
      obtain ⟨k, t, B, hk, rfl, htl, hBk, htI, hR, hs⟩ := hrel
      obtain ⟨Ar, cr, rfl, hr1, hr2⟩ := row_slice hs.own
      by_cases hkn : k < n
      · have hkI : (k : Int) < n := by omega
        obtain ⟨bl, ol, d, rfl, hd, hrd⟩ := slr_get hl (((hs.mono ent_drop).mono ent_drop).own) hkn
        have hd10 := hl2.out d (List.mem_of_getElem? hd)
        by_cases hrg : d.at_ < 0 ∨ (t.length : Int) < d.at_ ∨ d.er < 0 ∨ (t.length : Int) - d.at_ < d.er
        ·
          have hR2 := apR_no hR.out hd (asE_range hrg)
          replace hR2 := Lib.hid hR2
          replace hR := Lib.hid hR
          replace hd := Lib.hid hd
          generalize htm : t.length = m at *
          replace htm := Lib.hid htm
          clear hl2 hd10
          obtain ⟨da, de, di⟩ := d
          dsimp only at hrg hrd
          rcases (show da < 0 ∨ (0 ≤ da ∧ (m : Int) < da) ∨ (0 ≤ da ∧ da ≤ (m : Int) ∧ de < 0) ∨ (0 ≤ da ∧ da ≤ (m : Int) ∧ 0 ≤ de ∧ (m : Int) - da < de) by omega) with e1 | ⟨e1, e2⟩ | ⟨e1, e2, e3⟩ | ⟨e1, e2, e3, e4⟩
          all_goals clear hrg
          all_goals go_wp2_with (first
        | ((with_reducible rewrite [pl_strike_eq]); rotate_left 1; (focus rfl))
        | ((with_reducible rewrite [pl_skip_eq]); rotate_left 1; (focus rfl); simp only [Act.put, zg, zh, zi])
        | ((with_reducible apply pl_guard_f); (focus rfl); (focus rfl); all_goals (intro hb; first | (cases hb; done) | ((try simp at hb); first | contradiction | ((have hF : False := (by omega)); (cases hF; done)) | (simp only [Act.put, zg, zh, zi]))))
        | ((with_reducible apply pl_call hs (fnewR_s _ _ a _ _ _ 2)); ((((focus (simp only [zj, zk, zl, List.append_toArray, List.nil_append, List.cons_append, Act.eval, za, zb, zc, zd, ze, zf]; (try with_reducible rfl); done)); (focus ((repeat (first | (with_reducible (first | exact ent_refl | apply ent_puR)) | ((with_reducible apply ent_front); (focus with_reducible (repeat (first | exact ent_here | apply ent_next | exact ent_last)); done)) | (with_reducible (first | exact ent_keep | apply ent_trans ent_drop)) | (focus (first | ((repeat' (first | (with_reducible apply And.intro) | omega)); done))))); done)); (focus (simp only [go_sem]))))); clear hs; (try clear w); intro v w hq; (have hs := hq); clear hq; (try simp only [star_assoc, star_emp, emp_star] at hs); (try simp only [Act.put, zg, zh, zi]))
        | ((with_reducible apply pl_loadN hs); (focus (simp only [Act.eval, za, zb, zc, zd, ze, zf]; (try with_reducible rfl); done)); (with_reducible (first | exact agg_44)); (focus ((repeat (first | (with_reducible (first | assumption | exact hel _ | exact hel2 _ | exact hel3 _)) | ((with_reducible apply reads_whole); (focus (first | (with_reducible rfl) | (simp only [go_sem]; done) | (simp; done)))) | ((with_reducible apply reads_part); (focus (first | (simp [go_sem]; done) | (simp only [go_sem]; omega) | go_size)); (focus (first | (simp only [Nat.reduceAdd, Nat.zero_add, go_sem]; (try with_reducible rfl); done) | (simp [go_sem]; (try with_reducible rfl); done)))) | (with_reducible (first | (apply reads_left; assumption) | refine reads_exh (by assumption) ?_ | refine reads_exh0 (by assumption) ?_ | apply reads_next)))); done)); (focus rfl); simp only [Act.put, zg, zh, zi])
        | ((with_reducible apply pl_load1 hs); (focus (simp only [Act.eval, za, zb, zc, zd, ze, zf]; (try with_reducible rfl); done)); (focus (simp only [go_sem])); (focus ((repeat (first | (with_reducible (first | assumption | exact hec _ | exact hec2 _ | exact hec3 _ | exact hec4 _ _)) | ((with_reducible apply readc_here); (focus (first | (simp only [zc, zd, ze, go_sem]; (try with_reducible rfl); done) | (go_simp; (try with_reducible rfl); done)))) | (with_reducible (first | (apply readc_left; assumption) | refine readc_exh (by assumption) ?_ | refine readc_exh0 (by assumption) ?_ | apply readc_next)))); done)); (focus rfl); simp only [Act.put, zg, zh, zi])
        | ((with_reducible apply pl_alloc hs); (with_reducible (first | exact zero_44)); clear hs; (try clear w); intro g w hs; skip; simp only [Act.put, zg, zh, zi])
        | ((with_reducible apply pl_storeN hs); (focus (simp only [Act.eval, za, zb, zc, zd, ze, zf]; (try with_reducible rfl); done)); (focus (simp only [Act.eval, za, zb, zc, zd, ze, zf]; (try with_reducible rfl); done)); (with_reducible (first | exact agg_44)); (focus with_reducible (repeat (first | exact ent_here | apply ent_next | exact ent_last)); done); (focus (first | (with_reducible rfl) | (simp only [go_sem]; done) | (simp; done))); (focus (first | (simp [go_sem]; done) | (simp only [go_sem]; omega) | go_size)); (focus (first | (simp only [go_sem]; done) | (simp [go_sem]; done))); (focus (first | ((with_reducible apply splice_whole); (focus (first | (with_reducible rfl) | (simp only [go_sem]; done) | (simp; done)))) | (simp [splice, go_sem]; done) | (simp only [go_sem]; (try with_reducible rfl); done))); clear hs; (try clear w); intro w hs; (try simp only [zg, zh, zi, edt_s0, edt_s1, edt_s2, txt_s0, txt_s1, txt_s2, txt_s3, lnk_s0, lnk_s1, lnk_s2, nov_s0, nov_s1, nov_s2, intv_set, bytv_set, runv_set, slv_set] at hs); simp only [Act.put, zg, zh, zi]))
          all_goals (go_ret2; simp only [za, zb, zc, zd, ze, zf])
          all_goals exact ⟨_, rfl, hs.mono (ent_trans (by ((repeat (first | (with_reducible (first | exact ent_refl | exact ent_emp)) | ((with_reducible apply ent_front); (focus with_reducible (repeat (first | exact ent_here | apply ent_next | exact ent_last)); done)) | (with_reducible (first | exact ent_keep | apply ent_trans ent_drop)))); done)) (apP_no hR2.out))⟩
        · have hq1 : 0 ≤ d.at_ := by omega
          have hq2 : d.at_ ≤ (t.length : Int) := by omega
          have hq3 : 0 ≤ d.er := by omega
          have hq4 : d.er ≤ (t.length : Int) - d.at_ := by omega
          obtain ⟨da, de, di⟩ := d
          dsimp only at hq1 hq2 hq3 hq4 hd10 hrg
          obtain ⟨p, rfl⟩ := Int.eq_ofNat_of_zero_le hq1
          obtain ⟨q, rfl⟩ := Int.eq_ofNat_of_zero_le hq3
          rcases Option.eq_none_or_eq_some (runesL di.data.toList) with hy | ⟨y, hy⟩
          ·
            have hR2 := apR_no hR.out hd (asE_text hrg hy)
            replace hR2 := Lib.hid hR2
            replace hR := Lib.hid hR
            replace hd := Lib.hid hd
            clear hrg
            generalize htm : t.length = m at *
            replace htm := Lib.hid htm
            go_wp2_with (first
        | ((with_reducible rewrite [pl_strike_eq]); rotate_left 1; (focus rfl))
        | ((with_reducible apply pl_guard_f); (focus rfl); (focus rfl); all_goals (intro hb; first | (cases hb; done) | ((try simp at hb); first | contradiction | ((have hF : False := (by omega)); (cases hF; done)) | (simp only [Act.put, zg, zh, zi]))))
        | ((with_reducible apply pl_call hs (valid_s _ _ _)); ((((focus (simp only [zj, zk, zl, List.append_toArray, List.nil_append, List.cons_append, Act.eval, za, zb, zc, zd, ze, zf]; (try with_reducible rfl); done)); (focus ((repeat (first | (with_reducible (first | exact ent_refl | apply ent_puR)) | ((with_reducible apply ent_front); (focus with_reducible (repeat (first | exact ent_here | apply ent_next | exact ent_last)); done)) | (with_reducible (first | exact ent_keep | apply ent_trans ent_drop)) | (focus (first | ((repeat' (first | (with_reducible apply And.intro) | omega | (focus (with_reducible (repeat (first | assumption | (apply TabF.left; assumption) | refine TabF.exh (by assumption) ?_ | refine TabF.exh0 (by assumption) ?_ | exact (tblF_of (by assumption)) | apply TabF.next)); done)))); done))))); done)); (focus (simp only [go_sem]))))); clear hs; (try clear w); intro v w hq; (obtain ⟨hv, hs⟩ := hq.pu; rw [hy] at hv; (try simp only [Option.isSome_some, Option.isSome_none] at hv); subst hv); clear hq; (try simp only [star_assoc, star_emp, emp_star] at hs); (try simp only [Act.put, zg, zh, zi]))
        | ((with_reducible apply pl_call hs (fnewR_s _ _ a _ _ _ 3)); ((((focus (simp only [zj, zk, zl, List.append_toArray, List.nil_append, List.cons_append, Act.eval, za, zb, zc, zd, ze, zf]; (try with_reducible rfl); done)); (focus ((repeat (first | (with_reducible (first | exact ent_refl | apply ent_puR)) | ((with_reducible apply ent_front); (focus with_reducible (repeat (first | exact ent_here | apply ent_next | exact ent_last)); done)) | (with_reducible (first | exact ent_keep | apply ent_trans ent_drop)) | (focus (first | ((repeat' (first | (with_reducible apply And.intro) | omega)); done))))); done)); (focus (simp only [go_sem]))))); clear hs; (try clear w); intro v w hq; (have hs := hq); clear hq; (try simp only [star_assoc, star_emp, emp_star] at hs); (try simp only [Act.put, zg, zh, zi]))
        | ((with_reducible apply pl_loadN hs); (focus (simp only [Act.eval, za, zb, zc, zd, ze, zf]; (try with_reducible rfl); done)); (with_reducible (first | exact agg_44)); (focus ((repeat (first | (with_reducible (first | assumption | exact hel _ | exact hel2 _ | exact hel3 _)) | ((with_reducible apply reads_whole); (focus (first | (with_reducible rfl) | (simp only [go_sem]; done) | (simp; done)))) | ((with_reducible apply reads_part); (focus (first | (simp [go_sem]; done) | (simp only [go_sem]; omega) | go_size)); (focus (first | (simp only [Nat.reduceAdd, Nat.zero_add, go_sem]; (try with_reducible rfl); done) | (simp [go_sem]; (try with_reducible rfl); done)))) | (with_reducible (first | (apply reads_left; assumption) | refine reads_exh (by assumption) ?_ | refine reads_exh0 (by assumption) ?_ | apply reads_next)))); done)); (focus rfl); simp only [Act.put, zg, zh, zi])
        | ((with_reducible apply pl_load1 hs); (focus (simp only [Act.eval, za, zb, zc, zd, ze, zf]; (try with_reducible rfl); done)); (focus (simp only [go_sem])); (focus ((repeat (first | (with_reducible (first | assumption | exact hec _ | exact hec2 _ | exact hec3 _ | exact hec4 _ _)) | ((with_reducible apply readc_here); (focus (first | (simp only [zc, zd, ze, go_sem]; (try with_reducible rfl); done) | (go_simp; (try with_reducible rfl); done)))) | (with_reducible (first | (apply readc_left; assumption) | refine readc_exh (by assumption) ?_ | refine readc_exh0 (by assumption) ?_ | apply readc_next)))); done)); (focus rfl); simp only [Act.put, zg, zh, zi])
        | ((with_reducible apply pl_alloc hs); (with_reducible (first | exact zero_44)); clear hs; (try clear w); intro g w hs; skip; simp only [Act.put, zg, zh, zi])
        | ((with_reducible apply pl_storeN hs); (focus (simp only [Act.eval, za, zb, zc, zd, ze, zf]; (try with_reducible rfl); done)); (focus (simp only [Act.eval, za, zb, zc, zd, ze, zf]; (try with_reducible rfl); done)); (with_reducible (first | exact agg_44)); (focus with_reducible (repeat (first | exact ent_here | apply ent_next | exact ent_last)); done); (focus (first | (with_reducible rfl) | (simp only [go_sem]; done) | (simp; done))); (focus (first | (simp [go_sem]; done) | (simp only [go_sem]; omega) | go_size)); (focus (first | (simp only [go_sem]; done) | (simp [go_sem]; done))); (focus (first | ((with_reducible apply splice_whole); (focus (first | (with_reducible rfl) | (simp only [go_sem]; done) | (simp; done)))) | (simp [splice, go_sem]; done) | (simp only [go_sem]; (try with_reducible rfl); done))); clear hs; (try clear w); intro w hs; (try simp only [zg, zh, zi, edt_s0, edt_s1, edt_s2, txt_s0, txt_s1, txt_s2, txt_s3, lnk_s0, lnk_s1, lnk_s2, nov_s0, nov_s1, nov_s2, intv_set, bytv_set, runv_set, slv_set] at hs); simp only [Act.put, zg, zh, zi]))
            (go_ret2; simp only [za, zb, zc, zd, ze, zf])
            exact ⟨_, rfl, hs.mono (ent_trans (by ((repeat (first | (with_reducible (first | exact ent_refl | exact ent_emp)) | ((with_reducible apply ent_front); (focus with_reducible (repeat (first | exact ent_here | apply ent_next | exact ent_last)); done)) | (with_reducible (first | exact ent_keep | apply ent_trans ent_drop)))); done)) (apP_no hR2.out))⟩
          ·
            have hR2 := apR_yes hR.out hd (asE_ok hrg hy)
            simp only [Int.toNat_natCast] at hR2
            have hyl := runes_len hy
            have hyI := runes_in hy
            have hok : okE t ⟨p, q, y⟩ := ⟨by simp only; omega, by simp only; omega⟩
            have hlen := ap1_len hok
            have hin := ap1_in (t := t) (d := ⟨p, q, y⟩) htI hyI
            have hp1 : p + q ≤ t.length := by omega
            have hpc : p + q ≤ cr := by omega
            have hp2 : p ≤ cr := by omega
            have hslA : ∀ R, SlR (row 21 1 runv (.slice Ar t.length cr) t * R) 1 runv (.slice (ctA Ar p cr 1) q (cr - p)) ((t.drop p).take q) := fun R => slr_cut (slr_row runv_size) p q hp1
            have hslB : ∀ R, SlR (row 21 1 runv (.slice Ar t.length cr) t * R) 1 runv (.slice (ctA Ar 0 cr 1) p cr) (t.take p) := fun R => slr_cut0 (slr_row runv_size) p (by omega)
            have hslC : ∀ R, SlR (row 21 1 runv (.slice Ar t.length cr) t * R) 1 runv (.slice (ctA Ar (p + q) cr 1) (t.length - (p + q)) (cr - (p + q))) (t.drop (p + q)) := fun R => slr_cutE (slr_row runv_size) (p + q) hp1
            have hcon : ∀ F g A2 c2, Spec Tryd.prog c0 59 #[.slice (some ⟨g, 0, none⟩) 3 3] (pu (SlR F 1 slv (.slice (some ⟨g, 0, none⟩) 3 3) [⟨ctA Ar 0 cr 1, p, cr⟩, ⟨A2, y.length, c2⟩, ⟨ctA Ar (p + q) cr 1, t.length - (p + q), cr - (p + q)⟩] ∧ SlR F 1 runv (.slice (ctA Ar 0 cr 1) p cr) (t.take p) ∧ SlR F 1 runv (.slice A2 y.length c2) y ∧ SlR F 1 runv (.slice (ctA Ar (p + q) cr 1) (t.length - (p + q)) (cr - (p + q))) (t.drop (p + q))) F) (fun r => row 21 1 runv r (ap1 t ⟨p, q, y⟩) * F) := fun F g A2 c2 w hs => by
              obtain ⟨⟨h1, h2, h3, h4⟩, hs⟩ := hs.pu
              exact concat3_s c0 F _ _ _ _ _ _ _ w (hs.mono (ent_pu ⟨h1, h2, h3, h4, by show (t.take p).length + y.length + (t.drop (p + q)).length ≤ 100000000; rw [List.length_take, List.length_drop]; omega⟩ ent_refl))
            have hlen2 : (ap1 t ⟨p, q, y⟩).length ≤ 10000 + 10000 * (k + 1) := by simp only at hlen; omega
            have hym : y.length ≤ maxLen := by unfold maxLen; omega
            have htell : ∀ F, Spec Tryd.prog c0 43 #[.agg (edt ⟨p, q, di⟩), .slice (ctA Ar p cr 1) q (cr - p), .pointer (some ⟨gl, 0, none⟩)] (pu (SlR F 1 runv (.slice (ctA Ar p cr 1) q (cr - p)) ((t.drop p).take q)) (outP gl B * F)) (fun _ => outP gl (bk1 t ⟨p, q, y⟩ :: B) * F) := fun F w hs => by
              obtain ⟨h1, hs⟩ := hs.pu
              exact tell1_s c0 F gl p q B di _ _ y w (hs.mono (ent_pu ⟨h1, hy, by omega, by omega⟩ ent_refl))
            replace hR2 := Lib.hid hR2
            replace hR := Lib.hid hR
            replace hd := Lib.hid hd
            clear hrg hlen hok
            replace hin := Lib.hid hin
            replace hlen2 := Lib.hid hlen2
            replace htI := Lib.hid htI
            replace hyI := Lib.hid hyI
            generalize htm : t.length = m at *
            replace htm := Lib.hid htm
            have hsl := hslA
            have hsl2 := hslC
            go_wp2_with (first
        | ((with_reducible rewrite [pl_strike_eq]); rotate_left 1; (focus rfl))
        | ((with_reducible apply wp_region_sl (G := (outP _ _)) (id := 11) hs 1000); (focus with_reducible (repeat (first | exact ent_here | apply ent_next | exact ent_last)); done); (focus kernel_rfl); (focus decide +kernel); clear hs; (try clear w); intro hR w hRR hs; (try simp only [star_assoc] at hs))
        | ((with_reducible apply wp_region_sl (G := emp) (id := 12) hs 1000); (focus (exact ent_emp_l)); (focus kernel_rfl); (focus decide +kernel); clear hs; (try clear w); intro hR w hRR hs; (try simp only [star_assoc] at hs))
        | ((with_reducible apply pl_guard_f); (focus rfl); (focus rfl); all_goals (intro hb; first | (cases hb; done) | ((try simp at hb); first | contradiction | ((have hF : False := (by omega)); (cases hF; done)) | (simp only [Act.put, zg, zh, zi]))))
        | ((with_reducible apply pl_call hs (valid_s _ _ _)); ((((focus (simp only [zj, zk, zl, List.append_toArray, List.nil_append, List.cons_append, Act.eval, za, zb, zc, zd, ze, zf]; (try with_reducible rfl); done)); (focus ((repeat (first | (with_reducible (first | exact ent_refl | apply ent_puR)) | ((with_reducible apply ent_front); (focus with_reducible (repeat (first | exact ent_here | apply ent_next | exact ent_last)); done)) | (with_reducible (first | exact ent_keep | apply ent_trans ent_drop)) | (focus (first | ((repeat' (first | (with_reducible apply And.intro) | omega | (focus (with_reducible (repeat (first | assumption | (apply TabF.left; assumption) | refine TabF.exh (by assumption) ?_ | refine TabF.exh0 (by assumption) ?_ | exact (tblF_of (by assumption)) | apply TabF.next)); done)))); done))))); done)); (focus (simp only [go_sem]))))); clear hs; (try clear w); intro v w hq; (obtain ⟨hv, hs⟩ := hq.pu; rw [hy] at hv; (try simp only [Option.isSome_some, Option.isSome_none] at hv); subst hv); clear hq; (try simp only [star_assoc, star_emp, emp_star] at hs); (try simp only [Act.put, zg, zh, zi]))
        | ((with_reducible apply mx_callv hs (htell _)); (focus (simp only [Act.eval, za, zb, zc, zd, ze, zf]; (try with_reducible rfl); done)); ((((focus (simp only [zj, zk, zl, List.append_toArray, List.nil_append, List.cons_append, Act.eval, za, zb, zc, zd, ze, zf]; (try with_reducible rfl); done)); (focus ((repeat (first | (with_reducible (first | exact ent_refl | apply ent_puR)) | ((with_reducible apply ent_front); (focus with_reducible (repeat (first | exact ent_here | apply ent_next | exact ent_last)); done)) | (with_reducible (first | exact ent_keep | apply ent_trans ent_drop)) | (focus (first | (focus (first | ((repeat (first | (with_reducible (first | assumption | exact slr_ro |  exact hsl _ | exact hsl2 _ | exact hsl3 _ _ _ | exact slr_nil | exact slr_row (fun _ => by simp only [go_sem]) | exact slr_one (fun _ => by simp only [go_sem]) | (apply slr_left; assumption))) | (with_reducible apply slr_next))); done) | ((repeat (first | (with_reducible (first | assumption | exact slr_ro |  exact hsl _ | exact hsl2 _ | exact hsl3 _ _ _ | exact slr_nil | exact slr_row (fun _ => by simp only [go_sem]) | exact slr_one (fun _ => by simp only [go_sem]) | (apply slr_left; assumption))) | (with_reducible (first | (apply slr_exh; focus assumption) | (apply slr_exh0; focus assumption) | apply slr_next)))); done))))))); done)); (focus (simp only [go_sem])); (focus (intros; with_reducible (refine in_of_sat (by assumption) ?_; repeat (first | exact ent_exh_here | exact ent_last | refine ent_pu_l (fun _ => ?_) | refine ent_ex_l (fun _ => ?_) | apply ent_exh_next)); done))))); clear hs; (try clear w); intro v w hq; (have hs := hq; clear hsl; have hsl := hslB); clear hq; (try simp only [star_assoc, star_emp, emp_star] at hs); (try simp only [Act.put, zg, zh, zi]))
        | ((with_reducible apply mx_call hs (hcon _ _ _ _)); ((((focus (simp only [zj, zk, zl, List.append_toArray, List.nil_append, List.cons_append, Act.eval, za, zb, zc, zd, ze, zf]; (try with_reducible rfl); done)); (focus ((repeat (first | (with_reducible (first | exact ent_refl | apply ent_puR)) | ((with_reducible apply ent_front); (focus with_reducible (repeat (first | exact ent_here | apply ent_next | exact ent_last)); done)) | (with_reducible (first | exact ent_keep | apply ent_trans ent_drop)) | (focus (first | ((repeat' (first | (with_reducible apply And.intro) | (focus (first | ((repeat (first | (with_reducible (first | assumption | exact slr_ro |  exact hsl _ | exact hsl2 _ | exact hsl3 _ _ _ | exact slr_nil | exact slr_row (fun _ => by simp only [go_sem]) | exact slr_one (fun _ => by simp only [go_sem]) | (apply slr_left; assumption))) | (with_reducible apply slr_next))); done) | ((repeat (first | (with_reducible (first | assumption | exact slr_ro |  exact hsl _ | exact hsl2 _ | exact hsl3 _ _ _ | exact slr_nil | exact slr_row (fun _ => by simp only [go_sem]) | exact slr_one (fun _ => by simp only [go_sem]) | (apply slr_left; assumption))) | (with_reducible (first | (apply slr_exh; focus assumption) | (apply slr_exh0; focus assumption) | apply slr_next)))); done))))); done))))); done)); (focus (simp only [go_sem])); (focus (intros; with_reducible (refine in_of_sat (by assumption) ?_; repeat (first | exact ent_exh_here | exact ent_last | refine ent_pu_l (fun _ => ?_) | refine ent_ex_l (fun _ => ?_) | apply ent_exh_next)); done))))); clear hs; (try clear w); intro v w hq; (have hs := hq); clear hq; (try simp only [star_assoc, star_emp, emp_star] at hs); (try simp only [Act.put, zg, zh, zi]))
        | (((with_reducible apply mx_cvSR hs); (focus rfl); (first | (with_reducible exact rut_33_9)); (focus (simp only [Act.eval, za, zb, zc, zd, ze, zf]; (try with_reducible rfl); done)); (focus with_reducible assumption); (focus with_reducible assumption); (focus (intros; with_reducible (refine in_of_sat (by assumption) ?_; repeat (first | exact ent_exh_here | exact ent_last | refine ent_pu_l (fun _ => ?_) | refine ent_ex_l (fun _ => ?_) | apply ent_exh_next)); done)); clear hs; (try clear w); intro gy cy w hs; simp only [Act.put, zg, zh, zi]))
        | (((with_reducible apply mx_bsL (enc := slv) (s := 1) (E := 33) ([⟨ctA Ar 0 cr 1, p, cr⟩, ⟨some ⟨gy, 0, none⟩, y.length, cy⟩, ⟨ctA Ar (p + q) cr 1, m - (p + q), cr - (p + q)⟩] : List SlD) hs); (focus (intro w; go_simp; (try rfl); done)); (focus rfl); (focus rfl); (focus rfl); (focus (simp only [maxLen]; omega)); (focus (intros; with_reducible (refine in_of_sat (by assumption) ?_; repeat (first | exact ent_exh_here | exact ent_last | refine ent_pu_l (fun _ => ?_) | refine ent_ex_l (fun _ => ?_) | apply ent_exh_next)); done)); clear hs; (try clear w); intro g w hs; simp only [Act.put, zg, zh, zi]))
        | ((with_reducible apply pl_loadN hs); (focus (simp only [Act.eval, za, zb, zc, zd, ze, zf]; (try with_reducible rfl); done)); (with_reducible (first | exact agg_44)); (focus ((repeat (first | (with_reducible (first | assumption | exact hel _ | exact hel2 _ | exact hel3 _)) | ((with_reducible apply reads_whole); (focus (first | (with_reducible rfl) | (simp only [go_sem]; done) | (simp; done)))) | ((with_reducible apply reads_part); (focus (first | (simp [go_sem]; done) | (simp only [go_sem]; omega) | go_size)); (focus (first | (simp only [Nat.reduceAdd, Nat.zero_add, go_sem]; (try with_reducible rfl); done) | (simp [go_sem]; (try with_reducible rfl); done)))) | (with_reducible (first | (apply reads_left; assumption) | refine reads_exh (by assumption) ?_ | refine reads_exh0 (by assumption) ?_ | apply reads_next)))); done)); (focus rfl); simp only [Act.put, zg, zh, zi])
        | ((with_reducible apply pl_load1 hs); (focus (simp only [Act.eval, za, zb, zc, zd, ze, zf]; (try with_reducible rfl); done)); (focus (simp only [go_sem])); (focus ((repeat (first | (with_reducible (first | assumption | exact hec _ | exact hec2 _ | exact hec3 _ | exact hec4 _ _)) | ((with_reducible apply readc_here); (focus (first | (simp only [zc, zd, ze, go_sem]; (try with_reducible rfl); done) | (go_simp; (try with_reducible rfl); done)))) | (with_reducible (first | (apply readc_left; assumption) | refine readc_exh (by assumption) ?_ | refine readc_exh0 (by assumption) ?_ | apply readc_next)))); done)); (focus rfl); simp only [Act.put, zg, zh, zi])
        | ((with_reducible apply pl_alloc hs); (with_reducible (first | exact zero_44)); clear hs; (try clear w); intro g w hs; skip; simp only [Act.put, zg, zh, zi])
        | ((with_reducible apply pl_storeN hs); (focus (simp only [Act.eval, za, zb, zc, zd, ze, zf]; (try with_reducible rfl); done)); (focus (simp only [Act.eval, za, zb, zc, zd, ze, zf]; (try with_reducible rfl); done)); (with_reducible (first | exact agg_44)); (focus with_reducible (repeat (first | exact ent_here | apply ent_next | exact ent_last)); done); (focus (first | (with_reducible rfl) | (simp only [go_sem]; done) | (simp; done))); (focus (first | (simp [go_sem]; done) | (simp only [go_sem]; omega) | go_size)); (focus (first | (simp only [go_sem]; done) | (simp [go_sem]; done))); (focus (first | ((with_reducible apply splice_whole); (focus (first | (with_reducible rfl) | (simp only [go_sem]; done) | (simp; done)))) | (simp [splice, go_sem]; done) | (simp only [go_sem]; (try with_reducible rfl); done))); clear hs; (try clear w); intro w hs; (try simp only [zg, zh, zi, edt_s0, edt_s1, edt_s2, txt_s0, txt_s1, txt_s2, txt_s3, lnk_s0, lnk_s1, lnk_s2, nov_s0, nov_s1, nov_s2, intv_set, bytv_set, runv_set, slv_set] at hs); simp only [Act.put, zg, zh, zi])
        | ((with_reducible apply mix_end hRR hs); (focus with_reducible (repeat (first | exact ent_here | apply ent_next | exact ent_last)); done); clear hs; (try clear w); intro w hs; (try simp only [star_assoc, star_emp, emp_star] at hs); clear hRR hR)
        | ((with_reducible apply mx_loadN hRR); (focus (simp only [Act.eval, za, zb, zc, zd, ze, zf]; (try with_reducible rfl); done)); (with_reducible (first | exact agg_44)); (focus ((repeat (first | (with_reducible (first | assumption | exact hel _ | exact hel2 _ | exact hel3 _)) | ((with_reducible apply reads_whole); (focus (first | (with_reducible rfl) | (simp only [go_sem]; done) | (simp; done)))) | ((with_reducible apply reads_part); (focus (first | (simp [go_sem]; done) | (simp only [go_sem]; omega) | go_size)); (focus (first | (simp only [Nat.reduceAdd, Nat.zero_add, go_sem]; (try with_reducible rfl); done) | (simp [go_sem]; (try with_reducible rfl); done)))) | (with_reducible (first | (apply reads_left; assumption) | refine reads_exh (by assumption) ?_ | refine reads_exh0 (by assumption) ?_ | apply reads_next)))); done)); simp only [Act.put, zg, zh, zi])
        | ((with_reducible apply mx_load1 hRR); (focus (simp only [Act.eval, za, zb, zc, zd, ze, zf]; (try with_reducible rfl); done)); (focus (simp only [go_sem])); (focus ((repeat (first | (with_reducible (first | assumption | exact hec _ | exact hec2 _ | exact hec3 _ | exact hec4 _ _)) | ((with_reducible apply readc_here); (focus (first | (simp only [zc, zd, ze, go_sem]; (try with_reducible rfl); done) | (go_simp; (try with_reducible rfl); done)))) | (with_reducible (first | (apply readc_left; assumption) | refine readc_exh (by assumption) ?_ | refine readc_exh0 (by assumption) ?_ | apply readc_next)))); done)); simp only [Act.put, zg, zh, zi])
        | ((with_reducible refine mix_float ?_ ?_ ?_ (fun h hk => ?_) ?_); rotate_left 1; (focus rfl); (focus rfl); (focus (go_simp; (try (rw [if_pos (by omega)]; (try go_simp))); (try simp (disch := omega) only [IntWalk.i64_in, IntWalk.i32_in]); (try with_reducible rfl); done)); simp only [Act.put, zg, zh, zi]))
            exact ⟨⟨k + 1, ap1 t ⟨p, q, y⟩, bk1 t ⟨p, q, y⟩ :: B, by omega, congrArg (Value.int .i64) (by omega), hlen2.out, by simp [hBk], hin.out, hR2, hs.mono (by ((repeat (first | (with_reducible (first | exact ent_refl | exact ent_emp)) | ((with_reducible apply ent_front); (focus with_reducible (repeat (first | exact ent_here | apply ent_next | exact ent_last)); done)) | (with_reducible (first | exact ent_keep | apply ent_trans ent_drop)))); done))⟩, by simp only [intOf]; omega⟩
      · obtain rfl : k = n := by omega
        have hkI : ¬ ((k : Int) < k) := by omega
        have hR2 := apR_end hR.out (by have := hn.out; omega)
        replace hR2 := Lib.hid hR2
        go_wp2_with fail
        (go_ret2; simp only [za, zb, zc, zd, ze, zf])
        exact ⟨_, rfl, hs.mono (ent_trans (by ((repeat (first | (with_reducible (first | exact ent_refl | exact ent_emp)) | ((with_reducible apply ent_front); (focus with_reducible (repeat (first | exact ent_here | apply ent_next | exact ent_last)); done)) | (with_reducible (first | exact ent_keep | apply ent_trans ent_drop)))); done)) (apP_ok hR2.out))⟩
end Go.Proofs.YtgoifgockcpnhaaDoor
