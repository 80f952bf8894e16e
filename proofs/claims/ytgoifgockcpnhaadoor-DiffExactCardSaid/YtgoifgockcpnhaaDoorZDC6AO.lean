/- The documents' reading of a text; what is clipped. -/
import Derived.Test.YtgoifgockcpnhaaDoorZDC6AL
import Derived.Test.YtgoifgockcpnhaaDoorZDC6AM
import Derived.Test.YtgoifgockcpnhaaDoorZDC6AN
set_option linter.unusedSimpArgs false
set_option linter.unusedVariables false
namespace Go.Proofs.YtgoifgockcpnhaaDoor
open Go Go.RowKit

def clipB (s : ByteArray) : ByteArray := if 120 < s.size then s.extract 0 120 else s
set_option maxRecDepth 20000 in
@[go_sem] theorem wrap_u8 (b : UInt8) : wrap64 (b.toNat : Int) = b.toNat := by
  have := b.toNat_lt
  exact IntWalk.wrap64_in _ (by constructor <;> omega)
/-- A byte of a text, as a number. -/
def bt (s : ByteArray) (i : Nat) : Nat := (s.get! i).toNat
theorem bt_of {s : ByteArray} {i : Nat} (h : i < s.size) : (s[i]'h).toNat = bt s i := by
  unfold bt
  have : s.get! i = s[i]'h := by
    show s.data[i]! = s.data[i]'h
    exact getElem!_pos s.data i h
  rw [this]
theorem dec_bt (s : ByteArray) (k : Nat) : Lib.decodeL (s.data.toList.drop k) = Lib.decodeN (s.size - k) (bt s k) (bt s (k + 1)) (bt s (k + 2)) (bt s (k + 3)) := by
  rw [Lib.decodeL_drop, Lib.decode_at]
  rfl
theorem step_ok {s : ByteArray} {k c n : Nat} {l : List Int} (hk : k < s.size) (hl : runesL s.data.toList = (runesL (s.data.toList.drop k)).map (l ++ ·))
    (hd : Lib.decodeN (s.size - k) (bt s k) (bt s (k + 1)) (bt s (k + 2)) (bt s (k + 3)) = (c, n)) (hb : ¬ (c = 65533 ∧ n = 1)) : runesL s.data.toList = (runesL (s.data.toList.drop (k + n))).map ((l ++ [(c : Int)]) ++ ·) := by
  have hne : s.data.toList.drop k ≠ [] := fun h => by
    have := congrArg List.length h
    have e : s.data.size = s.size := rfl
    rw [List.length_drop, Array.length_toList, e, List.length_nil] at this
    omega
  rw [runesL_step _ hne, dec_bt, hd] at hl
  simp only at hl
  rw [if_neg hb, List.drop_drop] at hl
  rw [hl, Option.map_map]
  congr 1
  funext x
  simp
theorem step_no {s : ByteArray} {k : Nat} {l : List Int} (hk : k < s.size) (hl : runesL s.data.toList = (runesL (s.data.toList.drop k)).map (l ++ ·))
    (hd : NoRune (s.size - k) (bt s k) (bt s (k + 1)) (bt s (k + 2)) (bt s (k + 3))) : runesL s.data.toList = none := by
  have hne : s.data.toList.drop k ≠ [] := fun h => by
    have := congrArg List.length h
    have e : s.data.size = s.size := rfl
    rw [List.length_drop, Array.length_toList, e, List.length_nil] at this
    omega
  rw [runesL_step _ hne, dec_bt, dec_none hd (by unfold bt; exact UInt8.toNat_lt _)] at hl
  simpa using hl
theorem bt_lt (s : ByteArray) (i : Nat) : bt s i < 256 := by unfold bt; exact UInt8.toNat_lt _
attribute [irreducible] bt
/-- What Runes answers. -/
def runesR (s : ByteArray) (F : HP) (r : Value) : HP := match runesL s.data.toList with
  | some l => ex fun v : Value => pu (r = .tuple #[v, .bool true]) (row 21 1 runv v l * F)
  | none => pu (r = .tuple #[.slice none 0 0, .bool false]) F
theorem runesR_some {s : ByteArray} {F : HP} {v : Value} {l : List Int} (h : runesL s.data.toList = some l) : Ent (row 21 1 runv v l * F) (runesR s F (.tuple #[v, .bool true])) := by
  unfold runesR
  rw [h]
  exact ent_ex v (ent_pu rfl ent_refl)
theorem runesR_none {s : ByteArray} {F : HP} (h : runesL s.data.toList = none) : Ent F (runesR s F (.tuple #[.slice none 0 0, .bool false])) := by
  unfold runesR
  rw [h]
  exact ent_pu rfl ent_refl
/-- The number so far. -/
def cval (s : ByteArray) (k b : Nat) : Nat → Nat
  | 0 => b
  | j + 1 => 64 * cval s k b j + bt s (k + j + 1) - 128
theorem cval_lt {s : ByteArray} {k b : Nat} (hb : b < 64) : ∀ j, (∀ i, i < j → 128 ≤ bt s (k + i + 1) ∧ bt s (k + i + 1) < 192) → cval s k b j < 64 ^ (j + 1)
  | 0, _ => by unfold cval; rw [Nat.zero_add, Nat.pow_one]; exact hb
  | j + 1, h => by
    have h1 := cval_lt hb j fun i hi => h i (by omega)
    have h2 := h j (by omega)
    unfold cval
    rw [Nat.pow_succ]
    omega
theorem cval_0 (s : ByteArray) (k b : Nat) : cval s k b 0 = b := rfl
theorem cval_S (s : ByteArray) (k b j : Nat) : cval s k b (j + 1) = 64 * cval s k b j + bt s (k + j + 1) - 128 := rfl
attribute [irreducible] cval
set_option maxRecDepth 200000 in
set_option maxHeartbeats 16000000 in
theorem runes_s (c0 : World) (F : HP) (s : ByteArray) : Spec Tryd.prog c0 14 #[.string s] (pu (s.size ≤ 1000000) F) (fun r => runesR s F r) := by
  intro w hq; obtain ⟨hsz, hs⟩ := hq.pu; clear hq
  go_enter Tryd.func14, Tryd.ntmps14
  go_wp2_with fail
  go_loopw [4, 5] (fun u i wr => ∃ (k : Nat) (l : List Int), k ≤ s.size ∧ l.length ≤ k ∧ i = .int .i64 k ∧ Hid (runesL s.data.toList = (runesL (s.data.toList.drop k)).map (l ++ ·)) ∧ Sat c0 (row 21 1 runv u l * F) wr) (fun _ i _ => s.size - (intOf i).toNat)
  case atStart => exact ⟨0, [], by omega, by simp, rfl, by unfold Hid; simp, hs.mono ent_row_nil⟩
  case round =>
    clear hs
    obtain ⟨k, l, hk, hlk, rfl, hl, hs⟩ := hrel
    obtain ⟨A, c, rfl, h1, h2⟩ := row_slice hs.own
    unfold maxLen at h2
    by_cases hlt : k < s.size
    · have hb := bt_of hlt
      have hbl := bt_lt s k
      have hno := @step_no s k l hlt hl.out
      have hok := fun c n => @step_ok s k c n l hlt hl.out
      replace hno := Lib.hid hno
      replace hok := Lib.hid hok
      have hkI : (k : Int) < s.size := by omega
      rcases (show bt s k < 128 ∨ (192 ≤ bt s k ∧ bt s k < 224) ∨ (224 ≤ bt s k ∧ bt s k < 240) ∨ (240 ≤ bt s k ∧ bt s k < 248) ∨ (128 ≤ bt s k ∧ bt s k < 192) ∨ 248 ≤ bt s k by omega) with hc | hc | hc | hc | hc | hc
      · -- 1 bytes
        obtain ⟨B, hB⟩ : ∃ B : Nat, bt s k = B + 0 := ⟨bt s k - 0, by omega⟩
        have hBM : B < 128 := by omega
        have hi1 : (0 : Int) ≤ (bt s k : Int) := by omega
        have hi2 : (bt s k : Int) < 128 := by omega
        replace hB := Lib.hid hB
        have hcs : k + 1 ≤ s.size := by omega
        have hcsI : (k : Int) + 1 ≤ s.size := by omega
        go_wp2_with (first
        | ((with_reducible rewrite [pl_skip_eq]); rotate_left 1; (focus rfl); simp only [Act.put, zg, zh, zi]))
        go_loopw [8, 9] (fun cv kv wr => ∃ j : Nat, j + 1 ≤ 1 ∧ kv = .int .i64 (j + 1 : Nat) ∧ cv = .int .i64 (cval s k B j : Nat) ∧ Hid (∀ i, i < j → 128 ≤ bt s (k + i + 1) ∧ bt s (k + i + 1) < 192) ∧ Sat c0 (row 21 1 runv (.slice A l.length c) l * F) wr) (fun _ kv _ => 1 - (intOf kv).toNat)
        case atStart => exact ⟨0, by omega, rfl, (congrArg (Value.int .i64) (by have := hB.out; rw [cval_0]; omega)), (by unfold Hid; intro i hi; omega), hs⟩
        case round =>
          clear hs
          obtain ⟨j, hj, rfl, rfl, hcont, hs⟩ := hrel
          obtain rfl : j = 0 := by omega
          have hv0 := cval_0 s k B
          have hBB := hB.out
          obtain ⟨C, hC⟩ : ∃ C, C = cval s k B 0 := ⟨_, rfl⟩
          rw [← hC]
          have hq : C < 128 := by omega
          have hf0 : (C : Int) ≤ 127 := by omega
          have hr := hok.out C 1 (by rw [dec_one (show bt s k < 128 by omega), show C = bt s k by omega]) (by omega)
          replace hr := Lib.hid hr
          clear hv0  hBB hno hok hcont  hj hbl hq hC hB hb hi1 hi2 hBM
          go_wp2_with (first
        | ((with_reducible rewrite [pl_strike_eq]); rotate_left 1; (focus rfl))
        | ((with_reducible rewrite [pl_skip_eq]); rotate_left 1; (focus rfl); simp only [Act.put, zg, zh, zi])
        | ((with_reducible apply pl_guard_f); (focus rfl); (focus rfl); all_goals (intro hb; first | (cases hb; done) | ((try simp at hb); first | (with_reducible contradiction) | ((have hF : False := (by omega)); (cases hF; done)) | (simp only [Act.put, zg, zh, zi]))))
        | ((with_reducible apply pl_load1 hs); (focus (simp only [Act.eval, za, zb, zc, zd, ze, zf]; (try with_reducible rfl); done)); (focus (simp only [go_sem])); (focus ((repeat (first | (with_reducible (first | assumption | exact hec _ | exact hec2 _ | exact hec3 _ | exact hec4 _ _)) | ((with_reducible apply readc_here); (focus (first | (simp only [zc, zd, ze, go_sem]; (try with_reducible rfl); done) | (go_simp; (try with_reducible rfl); done)))) | (with_reducible (first | (apply readc_left; assumption) | refine readc_exh (by assumption) ?_ | refine readc_exh0 (by assumption) ?_ | apply readc_next)))); done)); (focus rfl); simp only [Act.put, zg, zh, zi])
        | ((with_reducible apply pl_build hs); (focus (simp only [zj, zk, zl, Act.eval, za, zb, zc, zd, ze, zf]; (try with_reducible rfl); done)); (first | (with_reducible exact bld_5 _ _ _ _ _)); (focus rfl); simp only [Act.put, zg, zh, zi])
        | ((with_reducible apply pl_alloc hs); (with_reducible (first | exact zero_69)); clear hs; (try clear w); intro g w hs; skip; simp only [Act.put, zg, zh, zi])
        | ((with_reducible apply pl_bs1 hs); (with_reducible (first | exact bst_33)); (focus (simp only [Act.eval, za, zb, zc, zd, ze, zf]; (try with_reducible rfl); done)); (focus (first | (with_reducible (first | exact cells_intv _ | exact cells_bytv _ | exact cells_runv _ | exact cells_slv _ _ _ | exact cells_agg _ | exact cells_int _ _ | exact cells_bool _ | exact cells_string _ | exact cells_slice _ _ _ | exact cells_pointer _ | exact cells_map _ | exact cells_iface _ _ | exact cells_nilIface | exact cells_func _ _ _)) | (exact cells_one (by assumption)))); (focus (first | (with_reducible rfl) | (simp only [go_sem]; done) | (simp; done))); clear hs; (try clear w); intro g w hs; skip; simp only [Act.put, zg, zh, zi])
        | ((with_reducible apply pl_storeN hs); (focus (simp only [Act.eval, za, zb, zc, zd, ze, zf]; (try with_reducible rfl); done)); (focus (simp only [Act.eval, za, zb, zc, zd, ze, zf]; (try with_reducible rfl); done)); (with_reducible (first | exact agg_69)); (focus with_reducible (repeat (first | exact ent_here | apply ent_next | exact ent_last)); done); (focus (first | (with_reducible rfl) | (simp only [go_sem]; done) | (simp; done))); (focus (first | (simp [go_sem]; done) | (simp only [go_sem]; omega) | go_size)); (focus (first | (simp only [go_sem]; done) | (simp [go_sem]; done))); (focus (first | ((with_reducible apply splice_whole); (focus (first | (with_reducible rfl) | (simp only [go_sem]; done) | (simp; done)))) | (simp [splice, go_sem]; done) | (simp only [go_sem]; (try with_reducible rfl); done))); clear hs; (try clear w); intro w hs; (try simp only [zg, zh, zi, edt_s0, edt_s1, edt_s2, txt_s0, txt_s1, txt_s2, txt_s3, lnk_s0, lnk_s1, lnk_s2, nov_s0, nov_s1, nov_s2, intv_set, bytv_set, runv_set, slv_set] at hs); simp only [Act.put, zg, zh, zi])
        | ((with_reducible apply pl_append1 hs); (with_reducible (first | exact app_22 | exact app_33 | exact app_47 | exact app_48 | exact app_80 | exact app_90 | exact app_97)); (focus (simp only [Act.eval, za, zb, zc, zd, ze, zf]; (try with_reducible rfl); done)); (first | (focus with_reducible (repeat (first | exact ent_here | apply ent_next | exact ent_last)); done) | (focus (with_reducible exact ent_row_nil)) | (focus ((with_reducible apply ent_row_of_blk); (focus with_reducible (repeat (first | exact ent_here | apply ent_next | exact ent_last)); done); (focus (simp only [go_sem]))))); (focus (simp only [Act.eval, za, zb, zc, zd, ze, zf]; (try with_reducible rfl); done)); (focus ((repeat (first | (with_reducible (first | assumption | exact hel _ | exact hel2 _ | exact hel3 _)) | ((with_reducible apply reads_whole); (focus (first | (with_reducible rfl) | (simp only [go_sem]; done) | (simp; done)))) | ((with_reducible apply reads_part); (focus (first | (simp [go_sem]; done) | (simp only [go_sem]; omega) | go_size)); (focus (first | (simp only [Nat.reduceAdd, Nat.zero_add, go_sem]; (try with_reducible rfl); done) | (simp [go_sem]; (try with_reducible rfl); done)))) | (with_reducible (first | (apply reads_left; assumption) | refine reads_exh (by assumption) ?_ | refine reads_exh0 (by assumption) ?_ | apply reads_next)))); done)); (focus (first | (simp only [maxLen] at *; omega) | (simp [maxLen] at *; omega))); (focus (first | (simp only [maxLen] at *; omega) | (simp [maxLen] at *; omega))); clear hs; (try clear w); intro Ap cq w hs; skip; simp only [Act.put, zg, zh, zi]))
          refine ⟨⟨k + 1, l ++ [(C : Int)], by omega, by simp; omega, congrArg (Value.int .i64) (by omega), hr, hs.mono (by ((repeat (first | (with_reducible (first | exact ent_refl | exact ent_emp)) | ((with_reducible apply ent_front); (focus with_reducible (repeat (first | exact ent_here | apply ent_next | exact ent_last)); done)) | (with_reducible (first | exact ent_keep | apply ent_trans ent_drop)))); done))⟩, by simp only [intOf]; omega⟩
      · -- 2 bytes
        obtain ⟨B, hB⟩ : ∃ B : Nat, bt s k = B + 192 := ⟨bt s k - 192, by omega⟩
        have hBM : B < 32 := by omega
        have hi1 : (192 : Int) ≤ (bt s k : Int) := by omega
        have hi2 : (bt s k : Int) < 224 := by omega
        replace hB := Lib.hid hB
        by_cases hcs : k + 2 ≤ s.size
        · have hcsI : (k : Int) + 2 ≤ s.size := by omega
          go_wp2_with (first
        | ((with_reducible rewrite [pl_strike_eq]); rotate_left 1; (focus rfl))
        | ((with_reducible rewrite [pl_skip_eq]); rotate_left 1; (focus rfl); simp only [Act.put, zg, zh, zi]))
          go_loopw [8, 9] (fun cv kv wr => ∃ j : Nat, j + 1 ≤ 2 ∧ kv = .int .i64 (j + 1 : Nat) ∧ cv = .int .i64 (cval s k B j : Nat) ∧ Hid (∀ i, i < j → 128 ≤ bt s (k + i + 1) ∧ bt s (k + i + 1) < 192) ∧ Sat c0 (row 21 1 runv (.slice A l.length c) l * F) wr) (fun _ kv _ => 2 - (intOf kv).toNat)
          case atStart => exact ⟨0, by omega, rfl, (congrArg (Value.int .i64) (by have := hB.out; rw [cval_0]; omega)), (by unfold Hid; intro i hi; omega), hs⟩
          case round =>
            clear hs
            obtain ⟨j, hj, rfl, rfl, hcont, hs⟩ := hrel
            rcases (show j = 0 ∨ j = 1 by omega) with rfl | rfl
            · -- round 0
              have hks : k + 1 < s.size := by omega
              have hbj := bt_of hks
              have hbx := bt_lt s (k + 1)
              have hki : (k : Int) + 1 < s.size := by omega
              have hCb := @cval_lt s k B (by omega) 0 hcont.out
              have hC9 : cval s k B 0 < 64 := hCb
              clear hCb
              obtain ⟨C, hC⟩ : ∃ C, C = cval s k B 0 := ⟨_, rfl⟩
              rw [← hC] at hC9 ⊢
              replace hC := Lib.hid hC
              have hCI : (C : Int) ≤ 63 := by omega
              clear hC9
              by_cases hx : 128 ≤ bt s (k + 1) ∧ bt s (k + 1) < 192
              · have hx1 : (128 : Int) ≤ (bt s (k + 1) : Int) := by omega
                have hx2 : (bt s (k + 1) : Int) < 192 := by omega
                go_wp2_with (first
        | ((with_reducible apply pl_guard_f); (focus rfl); (focus rfl); all_goals (intro hb; first | (cases hb; done) | ((try simp at hb); first | (with_reducible contradiction) | ((have hF : False := (by omega)); (cases hF; done)) | (simp only [Act.put, zg, zh, zi])))))
                refine ⟨⟨1, by omega, rfl, congrArg (Value.int .i64) (by rw [cval_S, ← hC.out]; have hadd : k + 0 + 1 = k + 1 := (by omega); rw [hadd]; omega), (by unfold Hid; intro i hi; rcases (show i < 0 ∨ i = 0 by omega) with hi | rfl; exact hcont.out i hi; exact hx), hs⟩, by simp [intOf]⟩
              · have hx1 : (bt s (k + 1) : Int) < 128 ∨ ((128 : Int) ≤ (bt s (k + 1) : Int) ∧ (192 : Int) ≤ (bt s (k + 1) : Int)) := by omega
                have hN := hno.out (by have := hB.out; unfold NoRune; omega)
                replace hN := Lib.hid hN
                rcases hx1 with hx1 | ⟨hx1, hx2⟩
                all_goals
                  go_wp2_with (first
        | ((with_reducible apply pl_guard_f); (focus rfl); (focus rfl); all_goals (intro hb; first | (cases hb; done) | ((try simp at hb); first | (with_reducible contradiction) | ((have hF : False := (by omega)); (cases hF; done)) | (simp only [Act.put, zg, zh, zi])))))
                  (go_ret2; simp only [za, zb, zc, zd, ze, zf])
                  exact ⟨_, rfl, hs.mono (ent_trans (by ((repeat (first | (with_reducible (first | exact ent_refl | exact ent_emp)) | ((with_reducible apply ent_front); (focus with_reducible (repeat (first | exact ent_here | apply ent_next | exact ent_last)); done)) | (with_reducible (first | exact ent_keep | apply ent_trans ent_drop)))); done)) (runesR_none hN.out))⟩
            · -- the end
              have hk1 : 128 ≤ bt s (k + 1) ∧ bt s (k + 1) < 192 := hcont.out 0 (by omega)
              have hv1 : cval s k B 1 = 64 * cval s k B 0 + bt s (k + 1) - 128 := cval_S s k B 0
              have hv0 := cval_0 s k B
              have hBB := hB.out
              obtain ⟨C, hC⟩ : ∃ C, C = cval s k B 1 := ⟨_, rfl⟩
              rw [← hC]
              rcases (show (128 ≤ C) ∨ (C < 128) by omega) with hq | hq
              · -- 128 ≤ C
                have hf0 : (128 : Int) ≤ (C : Int) := by omega
                have hf1 : (C : Int) ≤ 2047 := by omega
                have hr := hok.out C 2 (dec_two hc.1 hc.2 (by omega) hk1.1 hk1.2 (by omega) (by omega)) (by omega)
                replace hr := Lib.hid hr
                clear hv0 hv1 hBB hno hok hcont hk1 hj hbl hq hC hB hb hi1 hi2 hBM
                go_wp2_with (first
        | ((with_reducible rewrite [pl_skip_eq]); rotate_left 1; (focus rfl); simp only [Act.put, zg, zh, zi])
        | ((with_reducible apply pl_guard_f); (focus rfl); (focus rfl); all_goals (intro hb; first | (cases hb; done) | ((try simp at hb); first | (with_reducible contradiction) | ((have hF : False := (by omega)); (cases hF; done)) | (simp only [Act.put, zg, zh, zi]))))
        | ((with_reducible apply pl_load1 hs); (focus (simp only [Act.eval, za, zb, zc, zd, ze, zf]; (try with_reducible rfl); done)); (focus (simp only [go_sem])); (focus ((repeat (first | (with_reducible (first | assumption | exact hec _ | exact hec2 _ | exact hec3 _ | exact hec4 _ _)) | ((with_reducible apply readc_here); (focus (first | (simp only [zc, zd, ze, go_sem]; (try with_reducible rfl); done) | (go_simp; (try with_reducible rfl); done)))) | (with_reducible (first | (apply readc_left; assumption) | refine readc_exh (by assumption) ?_ | refine readc_exh0 (by assumption) ?_ | apply readc_next)))); done)); (focus rfl); simp only [Act.put, zg, zh, zi])
        | ((with_reducible apply pl_build hs); (focus (simp only [zj, zk, zl, Act.eval, za, zb, zc, zd, ze, zf]; (try with_reducible rfl); done)); (first | (with_reducible exact bld_5 _ _ _ _ _)); (focus rfl); simp only [Act.put, zg, zh, zi])
        | ((with_reducible apply pl_alloc hs); (with_reducible (first | exact zero_69)); clear hs; (try clear w); intro g w hs; skip; simp only [Act.put, zg, zh, zi])
        | ((with_reducible apply pl_bs1 hs); (with_reducible (first | exact bst_33)); (focus (simp only [Act.eval, za, zb, zc, zd, ze, zf]; (try with_reducible rfl); done)); (focus (first | (with_reducible (first | exact cells_intv _ | exact cells_bytv _ | exact cells_runv _ | exact cells_slv _ _ _ | exact cells_agg _ | exact cells_int _ _ | exact cells_bool _ | exact cells_string _ | exact cells_slice _ _ _ | exact cells_pointer _ | exact cells_map _ | exact cells_iface _ _ | exact cells_nilIface | exact cells_func _ _ _)) | (exact cells_one (by assumption)))); (focus (first | (with_reducible rfl) | (simp only [go_sem]; done) | (simp; done))); clear hs; (try clear w); intro g w hs; skip; simp only [Act.put, zg, zh, zi])
        | ((with_reducible apply pl_storeN hs); (focus (simp only [Act.eval, za, zb, zc, zd, ze, zf]; (try with_reducible rfl); done)); (focus (simp only [Act.eval, za, zb, zc, zd, ze, zf]; (try with_reducible rfl); done)); (with_reducible (first | exact agg_69)); (focus with_reducible (repeat (first | exact ent_here | apply ent_next | exact ent_last)); done); (focus (first | (with_reducible rfl) | (simp only [go_sem]; done) | (simp; done))); (focus (first | (simp [go_sem]; done) | (simp only [go_sem]; omega) | go_size)); (focus (first | (simp only [go_sem]; done) | (simp [go_sem]; done))); (focus (first | ((with_reducible apply splice_whole); (focus (first | (with_reducible rfl) | (simp only [go_sem]; done) | (simp; done)))) | (simp [splice, go_sem]; done) | (simp only [go_sem]; (try with_reducible rfl); done))); clear hs; (try clear w); intro w hs; (try simp only [zg, zh, zi, edt_s0, edt_s1, edt_s2, txt_s0, txt_s1, txt_s2, txt_s3, lnk_s0, lnk_s1, lnk_s2, nov_s0, nov_s1, nov_s2, intv_set, bytv_set, runv_set, slv_set] at hs); simp only [Act.put, zg, zh, zi])
        | ((with_reducible apply pl_append1 hs); (with_reducible (first | exact app_22 | exact app_33 | exact app_47 | exact app_48 | exact app_80 | exact app_90 | exact app_97)); (focus (simp only [Act.eval, za, zb, zc, zd, ze, zf]; (try with_reducible rfl); done)); (first | (focus with_reducible (repeat (first | exact ent_here | apply ent_next | exact ent_last)); done) | (focus (with_reducible exact ent_row_nil)) | (focus ((with_reducible apply ent_row_of_blk); (focus with_reducible (repeat (first | exact ent_here | apply ent_next | exact ent_last)); done); (focus (simp only [go_sem]))))); (focus (simp only [Act.eval, za, zb, zc, zd, ze, zf]; (try with_reducible rfl); done)); (focus ((repeat (first | (with_reducible (first | assumption | exact hel _ | exact hel2 _ | exact hel3 _)) | ((with_reducible apply reads_whole); (focus (first | (with_reducible rfl) | (simp only [go_sem]; done) | (simp; done)))) | ((with_reducible apply reads_part); (focus (first | (simp [go_sem]; done) | (simp only [go_sem]; omega) | go_size)); (focus (first | (simp only [Nat.reduceAdd, Nat.zero_add, go_sem]; (try with_reducible rfl); done) | (simp [go_sem]; (try with_reducible rfl); done)))) | (with_reducible (first | (apply reads_left; assumption) | refine reads_exh (by assumption) ?_ | refine reads_exh0 (by assumption) ?_ | apply reads_next)))); done)); (focus (first | (simp only [maxLen] at *; omega) | (simp [maxLen] at *; omega))); (focus (first | (simp only [maxLen] at *; omega) | (simp [maxLen] at *; omega))); clear hs; (try clear w); intro Ap cq w hs; skip; simp only [Act.put, zg, zh, zi]))
                refine ⟨⟨k + 2, l ++ [(C : Int)], by omega, by simp; omega, congrArg (Value.int .i64) (by omega), hr, hs.mono (by ((repeat (first | (with_reducible (first | exact ent_refl | exact ent_emp)) | ((with_reducible apply ent_front); (focus with_reducible (repeat (first | exact ent_here | apply ent_next | exact ent_last)); done)) | (with_reducible (first | exact ent_keep | apply ent_trans ent_drop)))); done))⟩, by simp only [intOf]; omega⟩
              · -- C < 128
                have hf0 : (C : Int) ≤ 127 := by omega
                have hN := hno.out (by unfold NoRune; omega)
                replace hN := Lib.hid hN
                clear hv0 hv1 hBB hno hok hcont hk1 hj hbl hq hC hB hb hi1 hi2 hBM
                go_wp2_with (first
        | ((with_reducible apply pl_guard_f); (focus rfl); (focus rfl); all_goals (intro hb; first | (cases hb; done) | ((try simp at hb); first | (with_reducible contradiction) | ((have hF : False := (by omega)); (cases hF; done)) | (simp only [Act.put, zg, zh, zi]))))
        | ((with_reducible apply pl_load1 hs); (focus (simp only [Act.eval, za, zb, zc, zd, ze, zf]; (try with_reducible rfl); done)); (focus (simp only [go_sem])); (focus ((repeat (first | (with_reducible (first | assumption | exact hec _ | exact hec2 _ | exact hec3 _ | exact hec4 _ _)) | ((with_reducible apply readc_here); (focus (first | (simp only [zc, zd, ze, go_sem]; (try with_reducible rfl); done) | (go_simp; (try with_reducible rfl); done)))) | (with_reducible (first | (apply readc_left; assumption) | refine readc_exh (by assumption) ?_ | refine readc_exh0 (by assumption) ?_ | apply readc_next)))); done)); (focus rfl); simp only [Act.put, zg, zh, zi])
        | ((with_reducible apply pl_build hs); (focus (simp only [zj, zk, zl, Act.eval, za, zb, zc, zd, ze, zf]; (try with_reducible rfl); done)); (first | (with_reducible exact bld_5 _ _ _ _ _)); (focus rfl); simp only [Act.put, zg, zh, zi])
        | ((with_reducible apply pl_alloc hs); (with_reducible (first | exact zero_69)); clear hs; (try clear w); intro g w hs; skip; simp only [Act.put, zg, zh, zi])
        | ((with_reducible apply pl_storeN hs); (focus (simp only [Act.eval, za, zb, zc, zd, ze, zf]; (try with_reducible rfl); done)); (focus (simp only [Act.eval, za, zb, zc, zd, ze, zf]; (try with_reducible rfl); done)); (with_reducible (first | exact agg_69)); (focus with_reducible (repeat (first | exact ent_here | apply ent_next | exact ent_last)); done); (focus (first | (with_reducible rfl) | (simp only [go_sem]; done) | (simp; done))); (focus (first | (simp [go_sem]; done) | (simp only [go_sem]; omega) | go_size)); (focus (first | (simp only [go_sem]; done) | (simp [go_sem]; done))); (focus (first | ((with_reducible apply splice_whole); (focus (first | (with_reducible rfl) | (simp only [go_sem]; done) | (simp; done)))) | (simp [splice, go_sem]; done) | (simp only [go_sem]; (try with_reducible rfl); done))); clear hs; (try clear w); intro w hs; (try simp only [zg, zh, zi, edt_s0, edt_s1, edt_s2, txt_s0, txt_s1, txt_s2, txt_s3, lnk_s0, lnk_s1, lnk_s2, nov_s0, nov_s1, nov_s2, intv_set, bytv_set, runv_set, slv_set] at hs); simp only [Act.put, zg, zh, zi]))
                (go_ret2; simp only [za, zb, zc, zd, ze, zf])
                exact ⟨_, rfl, hs.mono (ent_trans (by ((repeat (first | (with_reducible (first | exact ent_refl | exact ent_emp)) | ((with_reducible apply ent_front); (focus with_reducible (repeat (first | exact ent_here | apply ent_next | exact ent_last)); done)) | (with_reducible (first | exact ent_keep | apply ent_trans ent_drop)))); done)) (runesR_none hN.out))⟩
        · have hcsI : ¬ ((k : Int) + 2 ≤ s.size) := by omega
          have hN := hno.out (by unfold NoRune; omega)
          replace hN := Lib.hid hN
          go_wp2_with (first
        | ((with_reducible rewrite [pl_strike_eq]); rotate_left 1; (focus rfl))
        | ((with_reducible rewrite [pl_skip_eq]); rotate_left 1; (focus rfl); simp only [Act.put, zg, zh, zi]))
          (go_ret2; simp only [za, zb, zc, zd, ze, zf])
          exact ⟨_, rfl, hs.mono (ent_trans (by ((repeat (first | (with_reducible (first | exact ent_refl | exact ent_emp)) | ((with_reducible apply ent_front); (focus with_reducible (repeat (first | exact ent_here | apply ent_next | exact ent_last)); done)) | (with_reducible (first | exact ent_keep | apply ent_trans ent_drop)))); done)) (runesR_none hN.out))⟩
      · -- 3 bytes
        obtain ⟨B, hB⟩ : ∃ B : Nat, bt s k = B + 224 := ⟨bt s k - 224, by omega⟩
        have hBM : B < 16 := by omega
        have hi1 : (224 : Int) ≤ (bt s k : Int) := by omega
        have hi2 : (bt s k : Int) < 240 := by omega
        replace hB := Lib.hid hB
        by_cases hcs : k + 3 ≤ s.size
        · have hcsI : (k : Int) + 3 ≤ s.size := by omega
          go_wp2_with (first
        | ((with_reducible rewrite [pl_strike_eq]); rotate_left 1; (focus rfl))
        | ((with_reducible rewrite [pl_skip_eq]); rotate_left 1; (focus rfl); simp only [Act.put, zg, zh, zi]))
          go_loopw [8, 9] (fun cv kv wr => ∃ j : Nat, j + 1 ≤ 3 ∧ kv = .int .i64 (j + 1 : Nat) ∧ cv = .int .i64 (cval s k B j : Nat) ∧ Hid (∀ i, i < j → 128 ≤ bt s (k + i + 1) ∧ bt s (k + i + 1) < 192) ∧ Sat c0 (row 21 1 runv (.slice A l.length c) l * F) wr) (fun _ kv _ => 3 - (intOf kv).toNat)
          case atStart => exact ⟨0, by omega, rfl, (congrArg (Value.int .i64) (by have := hB.out; rw [cval_0]; omega)), (by unfold Hid; intro i hi; omega), hs⟩
          case round =>
            clear hs
            obtain ⟨j, hj, rfl, rfl, hcont, hs⟩ := hrel
            rcases (show j = 0 ∨ j = 1 ∨ j = 2 by omega) with rfl | rfl | rfl
            · -- round 0
              have hks : k + 1 < s.size := by omega
              have hbj := bt_of hks
              have hbx := bt_lt s (k + 1)
              have hki : (k : Int) + 1 < s.size := by omega
              have hCb := @cval_lt s k B (by omega) 0 hcont.out
              have hC9 : cval s k B 0 < 64 := hCb
              clear hCb
              obtain ⟨C, hC⟩ : ∃ C, C = cval s k B 0 := ⟨_, rfl⟩
              rw [← hC] at hC9 ⊢
              replace hC := Lib.hid hC
              have hCI : (C : Int) ≤ 63 := by omega
              clear hC9
              by_cases hx : 128 ≤ bt s (k + 1) ∧ bt s (k + 1) < 192
              · have hx1 : (128 : Int) ≤ (bt s (k + 1) : Int) := by omega
                have hx2 : (bt s (k + 1) : Int) < 192 := by omega
                go_wp2_with (first
        | ((with_reducible apply pl_guard_f); (focus rfl); (focus rfl); all_goals (intro hb; first | (cases hb; done) | ((try simp at hb); first | (with_reducible contradiction) | ((have hF : False := (by omega)); (cases hF; done)) | (simp only [Act.put, zg, zh, zi])))))
                refine ⟨⟨1, by omega, rfl, congrArg (Value.int .i64) (by rw [cval_S, ← hC.out]; have hadd : k + 0 + 1 = k + 1 := (by omega); rw [hadd]; omega), (by unfold Hid; intro i hi; rcases (show i < 0 ∨ i = 0 by omega) with hi | rfl; exact hcont.out i hi; exact hx), hs⟩, by simp [intOf]⟩
              · have hx1 : (bt s (k + 1) : Int) < 128 ∨ ((128 : Int) ≤ (bt s (k + 1) : Int) ∧ (192 : Int) ≤ (bt s (k + 1) : Int)) := by omega
                have hN := hno.out (by have := hB.out; unfold NoRune; omega)
                replace hN := Lib.hid hN
                rcases hx1 with hx1 | ⟨hx1, hx2⟩
                all_goals
                  go_wp2_with (first
        | ((with_reducible apply pl_guard_f); (focus rfl); (focus rfl); all_goals (intro hb; first | (cases hb; done) | ((try simp at hb); first | (with_reducible contradiction) | ((have hF : False := (by omega)); (cases hF; done)) | (simp only [Act.put, zg, zh, zi])))))
                  (go_ret2; simp only [za, zb, zc, zd, ze, zf])
                  exact ⟨_, rfl, hs.mono (ent_trans (by ((repeat (first | (with_reducible (first | exact ent_refl | exact ent_emp)) | ((with_reducible apply ent_front); (focus with_reducible (repeat (first | exact ent_here | apply ent_next | exact ent_last)); done)) | (with_reducible (first | exact ent_keep | apply ent_trans ent_drop)))); done)) (runesR_none hN.out))⟩
            · -- round 1
              have hks : k + 2 < s.size := by omega
              have hbj := bt_of hks
              have hbx := bt_lt s (k + 2)
              have hki : (k : Int) + 2 < s.size := by omega
              have hCb := @cval_lt s k B (by omega) 1 hcont.out
              have hC9 : cval s k B 1 < 4096 := hCb
              clear hCb
              obtain ⟨C, hC⟩ : ∃ C, C = cval s k B 1 := ⟨_, rfl⟩
              rw [← hC] at hC9 ⊢
              replace hC := Lib.hid hC
              have hCI : (C : Int) ≤ 4095 := by omega
              clear hC9
              by_cases hx : 128 ≤ bt s (k + 2) ∧ bt s (k + 2) < 192
              · have hx1 : (128 : Int) ≤ (bt s (k + 2) : Int) := by omega
                have hx2 : (bt s (k + 2) : Int) < 192 := by omega
                go_wp2_with (first
        | ((with_reducible apply pl_guard_f); (focus rfl); (focus rfl); all_goals (intro hb; first | (cases hb; done) | ((try simp at hb); first | (with_reducible contradiction) | ((have hF : False := (by omega)); (cases hF; done)) | (simp only [Act.put, zg, zh, zi])))))
                refine ⟨⟨2, by omega, rfl, congrArg (Value.int .i64) (by rw [cval_S, ← hC.out]; have hadd : k + 1 + 1 = k + 2 := (by omega); rw [hadd]; omega), (by unfold Hid; intro i hi; rcases (show i < 1 ∨ i = 1 by omega) with hi | rfl; exact hcont.out i hi; exact hx), hs⟩, by simp [intOf]⟩
              · have hx1 : (bt s (k + 2) : Int) < 128 ∨ ((128 : Int) ≤ (bt s (k + 2) : Int) ∧ (192 : Int) ≤ (bt s (k + 2) : Int)) := by omega
                have hN := hno.out (by have := hB.out; unfold NoRune; omega)
                replace hN := Lib.hid hN
                rcases hx1 with hx1 | ⟨hx1, hx2⟩
                all_goals
                  go_wp2_with (first
        | ((with_reducible apply pl_guard_f); (focus rfl); (focus rfl); all_goals (intro hb; first | (cases hb; done) | ((try simp at hb); first | (with_reducible contradiction) | ((have hF : False := (by omega)); (cases hF; done)) | (simp only [Act.put, zg, zh, zi])))))
                  (go_ret2; simp only [za, zb, zc, zd, ze, zf])
                  exact ⟨_, rfl, hs.mono (ent_trans (by ((repeat (first | (with_reducible (first | exact ent_refl | exact ent_emp)) | ((with_reducible apply ent_front); (focus with_reducible (repeat (first | exact ent_here | apply ent_next | exact ent_last)); done)) | (with_reducible (first | exact ent_keep | apply ent_trans ent_drop)))); done)) (runesR_none hN.out))⟩
            · -- the end
              have hk1 : 128 ≤ bt s (k + 1) ∧ bt s (k + 1) < 192 := hcont.out 0 (by omega)
              have hk2 : 128 ≤ bt s (k + 2) ∧ bt s (k + 2) < 192 := hcont.out 1 (by omega)
              have hv1 : cval s k B 1 = 64 * cval s k B 0 + bt s (k + 1) - 128 := cval_S s k B 0
              have hv2 : cval s k B 2 = 64 * cval s k B 1 + bt s (k + 2) - 128 := cval_S s k B 1
              have hv0 := cval_0 s k B
              have hBB := hB.out
              obtain ⟨C, hC⟩ : ∃ C, C = cval s k B 2 := ⟨_, rfl⟩
              rw [← hC]
              rcases (show (2048 ≤ C ∧ C < 55296) ∨ (57343 < C) ∨ (C < 2048) ∨ (55296 ≤ C ∧ C ≤ 57343) by omega) with hq | hq | hq | hq
              · -- 2048 ≤ C ∧ C < 55296
                have hf0 : (2048 : Int) ≤ (C : Int) := by omega
                have hf1 : (C : Int) ≤ 55295 := by omega
                have hr := hok.out C 3 (dec_three hc.1 hc.2 (by omega) hk1.1 hk1.2 hk2.1 hk2.2 (by omega) (by omega) (by omega)) (by omega)
                replace hr := Lib.hid hr
                clear hv0 hv1 hv2 hBB hno hok hcont hk1 hk2 hj hbl hq hC hB hb hi1 hi2 hBM
                go_wp2_with (first
        | ((with_reducible rewrite [pl_skip_eq]); rotate_left 1; (focus rfl); simp only [Act.put, zg, zh, zi])
        | ((with_reducible apply pl_guard_f); (focus rfl); (focus rfl); all_goals (intro hb; first | (cases hb; done) | ((try simp at hb); first | (with_reducible contradiction) | ((have hF : False := (by omega)); (cases hF; done)) | (simp only [Act.put, zg, zh, zi]))))
        | ((with_reducible apply pl_load1 hs); (focus (simp only [Act.eval, za, zb, zc, zd, ze, zf]; (try with_reducible rfl); done)); (focus (simp only [go_sem])); (focus ((repeat (first | (with_reducible (first | assumption | exact hec _ | exact hec2 _ | exact hec3 _ | exact hec4 _ _)) | ((with_reducible apply readc_here); (focus (first | (simp only [zc, zd, ze, go_sem]; (try with_reducible rfl); done) | (go_simp; (try with_reducible rfl); done)))) | (with_reducible (first | (apply readc_left; assumption) | refine readc_exh (by assumption) ?_ | refine readc_exh0 (by assumption) ?_ | apply readc_next)))); done)); (focus rfl); simp only [Act.put, zg, zh, zi])
        | ((with_reducible apply pl_build hs); (focus (simp only [zj, zk, zl, Act.eval, za, zb, zc, zd, ze, zf]; (try with_reducible rfl); done)); (first | (with_reducible exact bld_5 _ _ _ _ _)); (focus rfl); simp only [Act.put, zg, zh, zi])
        | ((with_reducible apply pl_alloc hs); (with_reducible (first | exact zero_69)); clear hs; (try clear w); intro g w hs; skip; simp only [Act.put, zg, zh, zi])
        | ((with_reducible apply pl_bs1 hs); (with_reducible (first | exact bst_33)); (focus (simp only [Act.eval, za, zb, zc, zd, ze, zf]; (try with_reducible rfl); done)); (focus (first | (with_reducible (first | exact cells_intv _ | exact cells_bytv _ | exact cells_runv _ | exact cells_slv _ _ _ | exact cells_agg _ | exact cells_int _ _ | exact cells_bool _ | exact cells_string _ | exact cells_slice _ _ _ | exact cells_pointer _ | exact cells_map _ | exact cells_iface _ _ | exact cells_nilIface | exact cells_func _ _ _)) | (exact cells_one (by assumption)))); (focus (first | (with_reducible rfl) | (simp only [go_sem]; done) | (simp; done))); clear hs; (try clear w); intro g w hs; skip; simp only [Act.put, zg, zh, zi])
        | ((with_reducible apply pl_storeN hs); (focus (simp only [Act.eval, za, zb, zc, zd, ze, zf]; (try with_reducible rfl); done)); (focus (simp only [Act.eval, za, zb, zc, zd, ze, zf]; (try with_reducible rfl); done)); (with_reducible (first | exact agg_69)); (focus with_reducible (repeat (first | exact ent_here | apply ent_next | exact ent_last)); done); (focus (first | (with_reducible rfl) | (simp only [go_sem]; done) | (simp; done))); (focus (first | (simp [go_sem]; done) | (simp only [go_sem]; omega) | go_size)); (focus (first | (simp only [go_sem]; done) | (simp [go_sem]; done))); (focus (first | ((with_reducible apply splice_whole); (focus (first | (with_reducible rfl) | (simp only [go_sem]; done) | (simp; done)))) | (simp [splice, go_sem]; done) | (simp only [go_sem]; (try with_reducible rfl); done))); clear hs; (try clear w); intro w hs; (try simp only [zg, zh, zi, edt_s0, edt_s1, edt_s2, txt_s0, txt_s1, txt_s2, txt_s3, lnk_s0, lnk_s1, lnk_s2, nov_s0, nov_s1, nov_s2, intv_set, bytv_set, runv_set, slv_set] at hs); simp only [Act.put, zg, zh, zi])
        | ((with_reducible apply pl_append1 hs); (with_reducible (first | exact app_22 | exact app_33 | exact app_47 | exact app_48 | exact app_80 | exact app_90 | exact app_97)); (focus (simp only [Act.eval, za, zb, zc, zd, ze, zf]; (try with_reducible rfl); done)); (first | (focus with_reducible (repeat (first | exact ent_here | apply ent_next | exact ent_last)); done) | (focus (with_reducible exact ent_row_nil)) | (focus ((with_reducible apply ent_row_of_blk); (focus with_reducible (repeat (first | exact ent_here | apply ent_next | exact ent_last)); done); (focus (simp only [go_sem]))))); (focus (simp only [Act.eval, za, zb, zc, zd, ze, zf]; (try with_reducible rfl); done)); (focus ((repeat (first | (with_reducible (first | assumption | exact hel _ | exact hel2 _ | exact hel3 _)) | ((with_reducible apply reads_whole); (focus (first | (with_reducible rfl) | (simp only [go_sem]; done) | (simp; done)))) | ((with_reducible apply reads_part); (focus (first | (simp [go_sem]; done) | (simp only [go_sem]; omega) | go_size)); (focus (first | (simp only [Nat.reduceAdd, Nat.zero_add, go_sem]; (try with_reducible rfl); done) | (simp [go_sem]; (try with_reducible rfl); done)))) | (with_reducible (first | (apply reads_left; assumption) | refine reads_exh (by assumption) ?_ | refine reads_exh0 (by assumption) ?_ | apply reads_next)))); done)); (focus (first | (simp only [maxLen] at *; omega) | (simp [maxLen] at *; omega))); (focus (first | (simp only [maxLen] at *; omega) | (simp [maxLen] at *; omega))); clear hs; (try clear w); intro Ap cq w hs; skip; simp only [Act.put, zg, zh, zi]))
                refine ⟨⟨k + 3, l ++ [(C : Int)], by omega, by simp; omega, congrArg (Value.int .i64) (by omega), hr, hs.mono (by ((repeat (first | (with_reducible (first | exact ent_refl | exact ent_emp)) | ((with_reducible apply ent_front); (focus with_reducible (repeat (first | exact ent_here | apply ent_next | exact ent_last)); done)) | (with_reducible (first | exact ent_keep | apply ent_trans ent_drop)))); done))⟩, by simp only [intOf]; omega⟩
              · -- 57343 < C
                have hf0 : (57343 : Int) < (C : Int) := by omega
                have hf1 : (C : Int) ≤ 65535 := by omega
                have hr := hok.out C 3 (dec_three hc.1 hc.2 (by omega) hk1.1 hk1.2 hk2.1 hk2.2 (by omega) (by omega) (by omega)) (by omega)
                replace hr := Lib.hid hr
                clear hv0 hv1 hv2 hBB hno hok hcont hk1 hk2 hj hbl hq hC hB hb hi1 hi2 hBM
                go_wp2_with (first
        | ((with_reducible rewrite [pl_strike_eq]); rotate_left 1; (focus rfl))
        | ((with_reducible apply pl_guard_f); (focus rfl); (focus rfl); all_goals (intro hb; first | (cases hb; done) | ((try simp at hb); first | (with_reducible contradiction) | ((have hF : False := (by omega)); (cases hF; done)) | (simp only [Act.put, zg, zh, zi]))))
        | ((with_reducible apply pl_load1 hs); (focus (simp only [Act.eval, za, zb, zc, zd, ze, zf]; (try with_reducible rfl); done)); (focus (simp only [go_sem])); (focus ((repeat (first | (with_reducible (first | assumption | exact hec _ | exact hec2 _ | exact hec3 _ | exact hec4 _ _)) | ((with_reducible apply readc_here); (focus (first | (simp only [zc, zd, ze, go_sem]; (try with_reducible rfl); done) | (go_simp; (try with_reducible rfl); done)))) | (with_reducible (first | (apply readc_left; assumption) | refine readc_exh (by assumption) ?_ | refine readc_exh0 (by assumption) ?_ | apply readc_next)))); done)); (focus rfl); simp only [Act.put, zg, zh, zi])
        | ((with_reducible apply pl_build hs); (focus (simp only [zj, zk, zl, Act.eval, za, zb, zc, zd, ze, zf]; (try with_reducible rfl); done)); (first | (with_reducible exact bld_5 _ _ _ _ _)); (focus rfl); simp only [Act.put, zg, zh, zi])
        | ((with_reducible apply pl_alloc hs); (with_reducible (first | exact zero_69)); clear hs; (try clear w); intro g w hs; skip; simp only [Act.put, zg, zh, zi])
        | ((with_reducible apply pl_bs1 hs); (with_reducible (first | exact bst_33)); (focus (simp only [Act.eval, za, zb, zc, zd, ze, zf]; (try with_reducible rfl); done)); (focus (first | (with_reducible (first | exact cells_intv _ | exact cells_bytv _ | exact cells_runv _ | exact cells_slv _ _ _ | exact cells_agg _ | exact cells_int _ _ | exact cells_bool _ | exact cells_string _ | exact cells_slice _ _ _ | exact cells_pointer _ | exact cells_map _ | exact cells_iface _ _ | exact cells_nilIface | exact cells_func _ _ _)) | (exact cells_one (by assumption)))); (focus (first | (with_reducible rfl) | (simp only [go_sem]; done) | (simp; done))); clear hs; (try clear w); intro g w hs; skip; simp only [Act.put, zg, zh, zi])
        | ((with_reducible apply pl_storeN hs); (focus (simp only [Act.eval, za, zb, zc, zd, ze, zf]; (try with_reducible rfl); done)); (focus (simp only [Act.eval, za, zb, zc, zd, ze, zf]; (try with_reducible rfl); done)); (with_reducible (first | exact agg_69)); (focus with_reducible (repeat (first | exact ent_here | apply ent_next | exact ent_last)); done); (focus (first | (with_reducible rfl) | (simp only [go_sem]; done) | (simp; done))); (focus (first | (simp [go_sem]; done) | (simp only [go_sem]; omega) | go_size)); (focus (first | (simp only [go_sem]; done) | (simp [go_sem]; done))); (focus (first | ((with_reducible apply splice_whole); (focus (first | (with_reducible rfl) | (simp only [go_sem]; done) | (simp; done)))) | (simp [splice, go_sem]; done) | (simp only [go_sem]; (try with_reducible rfl); done))); clear hs; (try clear w); intro w hs; (try simp only [zg, zh, zi, edt_s0, edt_s1, edt_s2, txt_s0, txt_s1, txt_s2, txt_s3, lnk_s0, lnk_s1, lnk_s2, nov_s0, nov_s1, nov_s2, intv_set, bytv_set, runv_set, slv_set] at hs); simp only [Act.put, zg, zh, zi])
        | ((with_reducible apply pl_append1 hs); (with_reducible (first | exact app_22 | exact app_33 | exact app_47 | exact app_48 | exact app_80 | exact app_90 | exact app_97)); (focus (simp only [Act.eval, za, zb, zc, zd, ze, zf]; (try with_reducible rfl); done)); (first | (focus with_reducible (repeat (first | exact ent_here | apply ent_next | exact ent_last)); done) | (focus (with_reducible exact ent_row_nil)) | (focus ((with_reducible apply ent_row_of_blk); (focus with_reducible (repeat (first | exact ent_here | apply ent_next | exact ent_last)); done); (focus (simp only [go_sem]))))); (focus (simp only [Act.eval, za, zb, zc, zd, ze, zf]; (try with_reducible rfl); done)); (focus ((repeat (first | (with_reducible (first | assumption | exact hel _ | exact hel2 _ | exact hel3 _)) | ((with_reducible apply reads_whole); (focus (first | (with_reducible rfl) | (simp only [go_sem]; done) | (simp; done)))) | ((with_reducible apply reads_part); (focus (first | (simp [go_sem]; done) | (simp only [go_sem]; omega) | go_size)); (focus (first | (simp only [Nat.reduceAdd, Nat.zero_add, go_sem]; (try with_reducible rfl); done) | (simp [go_sem]; (try with_reducible rfl); done)))) | (with_reducible (first | (apply reads_left; assumption) | refine reads_exh (by assumption) ?_ | refine reads_exh0 (by assumption) ?_ | apply reads_next)))); done)); (focus (first | (simp only [maxLen] at *; omega) | (simp [maxLen] at *; omega))); (focus (first | (simp only [maxLen] at *; omega) | (simp [maxLen] at *; omega))); clear hs; (try clear w); intro Ap cq w hs; skip; simp only [Act.put, zg, zh, zi]))
                refine ⟨⟨k + 3, l ++ [(C : Int)], by omega, by simp; omega, congrArg (Value.int .i64) (by omega), hr, hs.mono (by ((repeat (first | (with_reducible (first | exact ent_refl | exact ent_emp)) | ((with_reducible apply ent_front); (focus with_reducible (repeat (first | exact ent_here | apply ent_next | exact ent_last)); done)) | (with_reducible (first | exact ent_keep | apply ent_trans ent_drop)))); done))⟩, by simp only [intOf]; omega⟩
              · -- C < 2048
                have hf0 : (C : Int) ≤ 2047 := by omega
                have hN := hno.out (by unfold NoRune; omega)
                replace hN := Lib.hid hN
                clear hv0 hv1 hv2 hBB hno hok hcont hk1 hk2 hj hbl hq hC hB hb hi1 hi2 hBM
                go_wp2_with (first
        | ((with_reducible apply pl_guard_f); (focus rfl); (focus rfl); all_goals (intro hb; first | (cases hb; done) | ((try simp at hb); first | (with_reducible contradiction) | ((have hF : False := (by omega)); (cases hF; done)) | (simp only [Act.put, zg, zh, zi]))))
        | ((with_reducible apply pl_load1 hs); (focus (simp only [Act.eval, za, zb, zc, zd, ze, zf]; (try with_reducible rfl); done)); (focus (simp only [go_sem])); (focus ((repeat (first | (with_reducible (first | assumption | exact hec _ | exact hec2 _ | exact hec3 _ | exact hec4 _ _)) | ((with_reducible apply readc_here); (focus (first | (simp only [zc, zd, ze, go_sem]; (try with_reducible rfl); done) | (go_simp; (try with_reducible rfl); done)))) | (with_reducible (first | (apply readc_left; assumption) | refine readc_exh (by assumption) ?_ | refine readc_exh0 (by assumption) ?_ | apply readc_next)))); done)); (focus rfl); simp only [Act.put, zg, zh, zi])
        | ((with_reducible apply pl_build hs); (focus (simp only [zj, zk, zl, Act.eval, za, zb, zc, zd, ze, zf]; (try with_reducible rfl); done)); (first | (with_reducible exact bld_5 _ _ _ _ _)); (focus rfl); simp only [Act.put, zg, zh, zi])
        | ((with_reducible apply pl_alloc hs); (with_reducible (first | exact zero_69)); clear hs; (try clear w); intro g w hs; skip; simp only [Act.put, zg, zh, zi])
        | ((with_reducible apply pl_storeN hs); (focus (simp only [Act.eval, za, zb, zc, zd, ze, zf]; (try with_reducible rfl); done)); (focus (simp only [Act.eval, za, zb, zc, zd, ze, zf]; (try with_reducible rfl); done)); (with_reducible (first | exact agg_69)); (focus with_reducible (repeat (first | exact ent_here | apply ent_next | exact ent_last)); done); (focus (first | (with_reducible rfl) | (simp only [go_sem]; done) | (simp; done))); (focus (first | (simp [go_sem]; done) | (simp only [go_sem]; omega) | go_size)); (focus (first | (simp only [go_sem]; done) | (simp [go_sem]; done))); (focus (first | ((with_reducible apply splice_whole); (focus (first | (with_reducible rfl) | (simp only [go_sem]; done) | (simp; done)))) | (simp [splice, go_sem]; done) | (simp only [go_sem]; (try with_reducible rfl); done))); clear hs; (try clear w); intro w hs; (try simp only [zg, zh, zi, edt_s0, edt_s1, edt_s2, txt_s0, txt_s1, txt_s2, txt_s3, lnk_s0, lnk_s1, lnk_s2, nov_s0, nov_s1, nov_s2, intv_set, bytv_set, runv_set, slv_set] at hs); simp only [Act.put, zg, zh, zi]))
                (go_ret2; simp only [za, zb, zc, zd, ze, zf])
                exact ⟨_, rfl, hs.mono (ent_trans (by ((repeat (first | (with_reducible (first | exact ent_refl | exact ent_emp)) | ((with_reducible apply ent_front); (focus with_reducible (repeat (first | exact ent_here | apply ent_next | exact ent_last)); done)) | (with_reducible (first | exact ent_keep | apply ent_trans ent_drop)))); done)) (runesR_none hN.out))⟩
              · -- 55296 ≤ C ∧ C ≤ 57343
                have hf0 : (2048 : Int) ≤ (C : Int) := by omega
                have hf1 : (55296 : Int) ≤ (C : Int) := by omega
                have hf2 : (C : Int) ≤ 57343 := by omega
                have hN := hno.out (by unfold NoRune; omega)
                replace hN := Lib.hid hN
                clear hv0 hv1 hv2 hBB hno hok hcont hk1 hk2 hj hbl hq hC hB hb hi1 hi2 hBM
                go_wp2_with (first
        | ((with_reducible rewrite [pl_strike_eq]); rotate_left 1; (focus rfl))
        | ((with_reducible apply pl_guard_f); (focus rfl); (focus rfl); all_goals (intro hb; first | (cases hb; done) | ((try simp at hb); first | (with_reducible contradiction) | ((have hF : False := (by omega)); (cases hF; done)) | (simp only [Act.put, zg, zh, zi]))))
        | ((with_reducible apply pl_load1 hs); (focus (simp only [Act.eval, za, zb, zc, zd, ze, zf]; (try with_reducible rfl); done)); (focus (simp only [go_sem])); (focus ((repeat (first | (with_reducible (first | assumption | exact hec _ | exact hec2 _ | exact hec3 _ | exact hec4 _ _)) | ((with_reducible apply readc_here); (focus (first | (simp only [zc, zd, ze, go_sem]; (try with_reducible rfl); done) | (go_simp; (try with_reducible rfl); done)))) | (with_reducible (first | (apply readc_left; assumption) | refine readc_exh (by assumption) ?_ | refine readc_exh0 (by assumption) ?_ | apply readc_next)))); done)); (focus rfl); simp only [Act.put, zg, zh, zi])
        | ((with_reducible apply pl_build hs); (focus (simp only [zj, zk, zl, Act.eval, za, zb, zc, zd, ze, zf]; (try with_reducible rfl); done)); (first | (with_reducible exact bld_5 _ _ _ _ _)); (focus rfl); simp only [Act.put, zg, zh, zi])
        | ((with_reducible apply pl_alloc hs); (with_reducible (first | exact zero_69)); clear hs; (try clear w); intro g w hs; skip; simp only [Act.put, zg, zh, zi])
        | ((with_reducible apply pl_storeN hs); (focus (simp only [Act.eval, za, zb, zc, zd, ze, zf]; (try with_reducible rfl); done)); (focus (simp only [Act.eval, za, zb, zc, zd, ze, zf]; (try with_reducible rfl); done)); (with_reducible (first | exact agg_69)); (focus with_reducible (repeat (first | exact ent_here | apply ent_next | exact ent_last)); done); (focus (first | (with_reducible rfl) | (simp only [go_sem]; done) | (simp; done))); (focus (first | (simp [go_sem]; done) | (simp only [go_sem]; omega) | go_size)); (focus (first | (simp only [go_sem]; done) | (simp [go_sem]; done))); (focus (first | ((with_reducible apply splice_whole); (focus (first | (with_reducible rfl) | (simp only [go_sem]; done) | (simp; done)))) | (simp [splice, go_sem]; done) | (simp only [go_sem]; (try with_reducible rfl); done))); clear hs; (try clear w); intro w hs; (try simp only [zg, zh, zi, edt_s0, edt_s1, edt_s2, txt_s0, txt_s1, txt_s2, txt_s3, lnk_s0, lnk_s1, lnk_s2, nov_s0, nov_s1, nov_s2, intv_set, bytv_set, runv_set, slv_set] at hs); simp only [Act.put, zg, zh, zi]))
                (go_ret2; simp only [za, zb, zc, zd, ze, zf])
                exact ⟨_, rfl, hs.mono (ent_trans (by ((repeat (first | (with_reducible (first | exact ent_refl | exact ent_emp)) | ((with_reducible apply ent_front); (focus with_reducible (repeat (first | exact ent_here | apply ent_next | exact ent_last)); done)) | (with_reducible (first | exact ent_keep | apply ent_trans ent_drop)))); done)) (runesR_none hN.out))⟩
        · have hcsI : ¬ ((k : Int) + 3 ≤ s.size) := by omega
          have hN := hno.out (by unfold NoRune; omega)
          replace hN := Lib.hid hN
          go_wp2_with (first
        | ((with_reducible rewrite [pl_strike_eq]); rotate_left 1; (focus rfl))
        | ((with_reducible rewrite [pl_skip_eq]); rotate_left 1; (focus rfl); simp only [Act.put, zg, zh, zi]))
          (go_ret2; simp only [za, zb, zc, zd, ze, zf])
          exact ⟨_, rfl, hs.mono (ent_trans (by ((repeat (first | (with_reducible (first | exact ent_refl | exact ent_emp)) | ((with_reducible apply ent_front); (focus with_reducible (repeat (first | exact ent_here | apply ent_next | exact ent_last)); done)) | (with_reducible (first | exact ent_keep | apply ent_trans ent_drop)))); done)) (runesR_none hN.out))⟩
      · -- 4 bytes
        obtain ⟨B, hB⟩ : ∃ B : Nat, bt s k = B + 240 := ⟨bt s k - 240, by omega⟩
        have hBM : B < 8 := by omega
        have hi1 : (240 : Int) ≤ (bt s k : Int) := by omega
        have hi2 : (bt s k : Int) < 248 := by omega
        replace hB := Lib.hid hB
        by_cases hcs : k + 4 ≤ s.size
        · have hcsI : (k : Int) + 4 ≤ s.size := by omega
          go_wp2_with (first
        | ((with_reducible rewrite [pl_strike_eq]); rotate_left 1; (focus rfl)))
          go_loopw [8, 9] (fun cv kv wr => ∃ j : Nat, j + 1 ≤ 4 ∧ kv = .int .i64 (j + 1 : Nat) ∧ cv = .int .i64 (cval s k B j : Nat) ∧ Hid (∀ i, i < j → 128 ≤ bt s (k + i + 1) ∧ bt s (k + i + 1) < 192) ∧ Sat c0 (row 21 1 runv (.slice A l.length c) l * F) wr) (fun _ kv _ => 4 - (intOf kv).toNat)
          case atStart => exact ⟨0, by omega, rfl, (congrArg (Value.int .i64) (by have := hB.out; rw [cval_0]; omega)), (by unfold Hid; intro i hi; omega), hs⟩
          case round =>
            clear hs
            obtain ⟨j, hj, rfl, rfl, hcont, hs⟩ := hrel
            rcases (show j = 0 ∨ j = 1 ∨ j = 2 ∨ j = 3 by omega) with rfl | rfl | rfl | rfl
            · -- round 0
              have hks : k + 1 < s.size := by omega
              have hbj := bt_of hks
              have hbx := bt_lt s (k + 1)
              have hki : (k : Int) + 1 < s.size := by omega
              have hCb := @cval_lt s k B (by omega) 0 hcont.out
              have hC9 : cval s k B 0 < 64 := hCb
              clear hCb
              obtain ⟨C, hC⟩ : ∃ C, C = cval s k B 0 := ⟨_, rfl⟩
              rw [← hC] at hC9 ⊢
              replace hC := Lib.hid hC
              have hCI : (C : Int) ≤ 63 := by omega
              clear hC9
              by_cases hx : 128 ≤ bt s (k + 1) ∧ bt s (k + 1) < 192
              · have hx1 : (128 : Int) ≤ (bt s (k + 1) : Int) := by omega
                have hx2 : (bt s (k + 1) : Int) < 192 := by omega
                go_wp2_with (first
        | ((with_reducible apply pl_guard_f); (focus rfl); (focus rfl); all_goals (intro hb; first | (cases hb; done) | ((try simp at hb); first | (with_reducible contradiction) | ((have hF : False := (by omega)); (cases hF; done)) | (simp only [Act.put, zg, zh, zi])))))
                refine ⟨⟨1, by omega, rfl, congrArg (Value.int .i64) (by rw [cval_S, ← hC.out]; have hadd : k + 0 + 1 = k + 1 := (by omega); rw [hadd]; omega), (by unfold Hid; intro i hi; rcases (show i < 0 ∨ i = 0 by omega) with hi | rfl; exact hcont.out i hi; exact hx), hs⟩, by simp [intOf]⟩
              · have hx1 : (bt s (k + 1) : Int) < 128 ∨ ((128 : Int) ≤ (bt s (k + 1) : Int) ∧ (192 : Int) ≤ (bt s (k + 1) : Int)) := by omega
                have hN := hno.out (by have := hB.out; unfold NoRune; omega)
                replace hN := Lib.hid hN
                rcases hx1 with hx1 | ⟨hx1, hx2⟩
                all_goals
                  go_wp2_with (first
        | ((with_reducible apply pl_guard_f); (focus rfl); (focus rfl); all_goals (intro hb; first | (cases hb; done) | ((try simp at hb); first | (with_reducible contradiction) | ((have hF : False := (by omega)); (cases hF; done)) | (simp only [Act.put, zg, zh, zi])))))
                  (go_ret2; simp only [za, zb, zc, zd, ze, zf])
                  exact ⟨_, rfl, hs.mono (ent_trans (by ((repeat (first | (with_reducible (first | exact ent_refl | exact ent_emp)) | ((with_reducible apply ent_front); (focus with_reducible (repeat (first | exact ent_here | apply ent_next | exact ent_last)); done)) | (with_reducible (first | exact ent_keep | apply ent_trans ent_drop)))); done)) (runesR_none hN.out))⟩
            · -- round 1
              have hks : k + 2 < s.size := by omega
              have hbj := bt_of hks
              have hbx := bt_lt s (k + 2)
              have hki : (k : Int) + 2 < s.size := by omega
              have hCb := @cval_lt s k B (by omega) 1 hcont.out
              have hC9 : cval s k B 1 < 4096 := hCb
              clear hCb
              obtain ⟨C, hC⟩ : ∃ C, C = cval s k B 1 := ⟨_, rfl⟩
              rw [← hC] at hC9 ⊢
              replace hC := Lib.hid hC
              have hCI : (C : Int) ≤ 4095 := by omega
              clear hC9
              by_cases hx : 128 ≤ bt s (k + 2) ∧ bt s (k + 2) < 192
              · have hx1 : (128 : Int) ≤ (bt s (k + 2) : Int) := by omega
                have hx2 : (bt s (k + 2) : Int) < 192 := by omega
                go_wp2_with (first
        | ((with_reducible apply pl_guard_f); (focus rfl); (focus rfl); all_goals (intro hb; first | (cases hb; done) | ((try simp at hb); first | (with_reducible contradiction) | ((have hF : False := (by omega)); (cases hF; done)) | (simp only [Act.put, zg, zh, zi])))))
                refine ⟨⟨2, by omega, rfl, congrArg (Value.int .i64) (by rw [cval_S, ← hC.out]; have hadd : k + 1 + 1 = k + 2 := (by omega); rw [hadd]; omega), (by unfold Hid; intro i hi; rcases (show i < 1 ∨ i = 1 by omega) with hi | rfl; exact hcont.out i hi; exact hx), hs⟩, by simp [intOf]⟩
              · have hx1 : (bt s (k + 2) : Int) < 128 ∨ ((128 : Int) ≤ (bt s (k + 2) : Int) ∧ (192 : Int) ≤ (bt s (k + 2) : Int)) := by omega
                have hN := hno.out (by have := hB.out; unfold NoRune; omega)
                replace hN := Lib.hid hN
                rcases hx1 with hx1 | ⟨hx1, hx2⟩
                all_goals
                  go_wp2_with (first
        | ((with_reducible apply pl_guard_f); (focus rfl); (focus rfl); all_goals (intro hb; first | (cases hb; done) | ((try simp at hb); first | (with_reducible contradiction) | ((have hF : False := (by omega)); (cases hF; done)) | (simp only [Act.put, zg, zh, zi])))))
                  (go_ret2; simp only [za, zb, zc, zd, ze, zf])
                  exact ⟨_, rfl, hs.mono (ent_trans (by ((repeat (first | (with_reducible (first | exact ent_refl | exact ent_emp)) | ((with_reducible apply ent_front); (focus with_reducible (repeat (first | exact ent_here | apply ent_next | exact ent_last)); done)) | (with_reducible (first | exact ent_keep | apply ent_trans ent_drop)))); done)) (runesR_none hN.out))⟩
            · -- round 2
              have hks : k + 3 < s.size := by omega
              have hbj := bt_of hks
              have hbx := bt_lt s (k + 3)
              have hki : (k : Int) + 3 < s.size := by omega
              have hCb := @cval_lt s k B (by omega) 2 hcont.out
              have hC9 : cval s k B 2 < 262144 := hCb
              clear hCb
              obtain ⟨C, hC⟩ : ∃ C, C = cval s k B 2 := ⟨_, rfl⟩
              rw [← hC] at hC9 ⊢
              replace hC := Lib.hid hC
              have hCI : (C : Int) ≤ 262143 := by omega
              clear hC9
              by_cases hx : 128 ≤ bt s (k + 3) ∧ bt s (k + 3) < 192
              · have hx1 : (128 : Int) ≤ (bt s (k + 3) : Int) := by omega
                have hx2 : (bt s (k + 3) : Int) < 192 := by omega
                go_wp2_with (first
        | ((with_reducible apply pl_guard_f); (focus rfl); (focus rfl); all_goals (intro hb; first | (cases hb; done) | ((try simp at hb); first | (with_reducible contradiction) | ((have hF : False := (by omega)); (cases hF; done)) | (simp only [Act.put, zg, zh, zi])))))
                refine ⟨⟨3, by omega, rfl, congrArg (Value.int .i64) (by rw [cval_S, ← hC.out]; have hadd : k + 2 + 1 = k + 3 := (by omega); rw [hadd]; omega), (by unfold Hid; intro i hi; rcases (show i < 2 ∨ i = 2 by omega) with hi | rfl; exact hcont.out i hi; exact hx), hs⟩, by simp [intOf]⟩
              · have hx1 : (bt s (k + 3) : Int) < 128 ∨ ((128 : Int) ≤ (bt s (k + 3) : Int) ∧ (192 : Int) ≤ (bt s (k + 3) : Int)) := by omega
                have hN := hno.out (by have := hB.out; unfold NoRune; omega)
                replace hN := Lib.hid hN
                rcases hx1 with hx1 | ⟨hx1, hx2⟩
                all_goals
                  go_wp2_with (first
        | ((with_reducible apply pl_guard_f); (focus rfl); (focus rfl); all_goals (intro hb; first | (cases hb; done) | ((try simp at hb); first | (with_reducible contradiction) | ((have hF : False := (by omega)); (cases hF; done)) | (simp only [Act.put, zg, zh, zi])))))
                  (go_ret2; simp only [za, zb, zc, zd, ze, zf])
                  exact ⟨_, rfl, hs.mono (ent_trans (by ((repeat (first | (with_reducible (first | exact ent_refl | exact ent_emp)) | ((with_reducible apply ent_front); (focus with_reducible (repeat (first | exact ent_here | apply ent_next | exact ent_last)); done)) | (with_reducible (first | exact ent_keep | apply ent_trans ent_drop)))); done)) (runesR_none hN.out))⟩
            · -- the end
              have hk1 : 128 ≤ bt s (k + 1) ∧ bt s (k + 1) < 192 := hcont.out 0 (by omega)
              have hk2 : 128 ≤ bt s (k + 2) ∧ bt s (k + 2) < 192 := hcont.out 1 (by omega)
              have hk3 : 128 ≤ bt s (k + 3) ∧ bt s (k + 3) < 192 := hcont.out 2 (by omega)
              have hv1 : cval s k B 1 = 64 * cval s k B 0 + bt s (k + 1) - 128 := cval_S s k B 0
              have hv2 : cval s k B 2 = 64 * cval s k B 1 + bt s (k + 2) - 128 := cval_S s k B 1
              have hv3 : cval s k B 3 = 64 * cval s k B 2 + bt s (k + 3) - 128 := cval_S s k B 2
              have hv0 := cval_0 s k B
              have hBB := hB.out
              obtain ⟨C, hC⟩ : ∃ C, C = cval s k B 3 := ⟨_, rfl⟩
              rw [← hC]
              rcases (show (65536 ≤ C ∧ C ≤ 1114111) ∨ (C < 65536) ∨ (1114111 < C) by omega) with hq | hq | hq
              · -- 65536 ≤ C ∧ C ≤ 1114111
                have hf0 : (65536 : Int) ≤ (C : Int) := by omega
                have hf1 : (C : Int) ≤ 1114111 := by omega
                have hr := hok.out C 4 (dec_four hc.1 hc.2 (by omega) hk1.1 hk1.2 hk2.1 hk2.2 hk3.1 hk3.2 (by omega) (by omega) (by omega)) (by omega)
                replace hr := Lib.hid hr
                clear hv0 hv1 hv2 hv3 hBB hno hok hcont hk1 hk2 hk3 hj hbl hq hC hB hb hi1 hi2 hBM
                obtain ⟨m, hm, hm1, hm2⟩ : ∃ m : Int, m = 65536 ∧ 65536 ≤ m ∧ m ≤ 65536 := ⟨_, rfl, by omega, by omega⟩
                have hec4 : ∀ (g : Nat) (R : HP), ReadC (blk g (.cells #[.int .i64 0, .int .i64 0, .int .i64 128, .int .i64 2048, .int .i64 65536] 69 (0, 0)) * R) g 4 (.int .i64 m) := fun g R => readc_here (by rw [hm]; rfl)
                clear hm
                go_wp2_with (first
        | ((with_reducible rewrite [pl_strike_eq]); rotate_left 1; (focus rfl))
        | ((with_reducible apply pl_guard_f); (focus rfl); (focus rfl); all_goals (intro hb; first | (cases hb; done) | ((try simp at hb); first | (with_reducible contradiction) | ((have hF : False := (by omega)); (cases hF; done)) | (simp only [Act.put, zg, zh, zi]))))
        | ((with_reducible apply pl_load1 hs); (focus (simp only [Act.eval, za, zb, zc, zd, ze, zf]; (try with_reducible rfl); done)); (focus (simp only [go_sem])); (focus ((repeat (first | (with_reducible (first | assumption | exact hec _ | exact hec2 _ | exact hec3 _ | exact hec4 _ _)) | ((with_reducible apply readc_here); (focus (first | (simp only [zc, zd, ze, go_sem]; (try with_reducible rfl); done) | (go_simp; (try with_reducible rfl); done)))) | (with_reducible (first | (apply readc_left; assumption) | refine readc_exh (by assumption) ?_ | refine readc_exh0 (by assumption) ?_ | apply readc_next)))); done)); (focus rfl); simp only [Act.put, zg, zh, zi])
        | ((with_reducible apply pl_build hs); (focus (simp only [zj, zk, zl, Act.eval, za, zb, zc, zd, ze, zf]; (try with_reducible rfl); done)); (first | (with_reducible exact bld_5 _ _ _ _ _)); (focus rfl); simp only [Act.put, zg, zh, zi])
        | ((with_reducible apply pl_alloc hs); (with_reducible (first | exact zero_69)); clear hs; (try clear w); intro g w hs; skip; simp only [Act.put, zg, zh, zi])
        | ((with_reducible apply pl_bs1 hs); (with_reducible (first | exact bst_33)); (focus (simp only [Act.eval, za, zb, zc, zd, ze, zf]; (try with_reducible rfl); done)); (focus (first | (with_reducible (first | exact cells_intv _ | exact cells_bytv _ | exact cells_runv _ | exact cells_slv _ _ _ | exact cells_agg _ | exact cells_int _ _ | exact cells_bool _ | exact cells_string _ | exact cells_slice _ _ _ | exact cells_pointer _ | exact cells_map _ | exact cells_iface _ _ | exact cells_nilIface | exact cells_func _ _ _)) | (exact cells_one (by assumption)))); (focus (first | (with_reducible rfl) | (simp only [go_sem]; done) | (simp; done))); clear hs; (try clear w); intro g w hs; skip; simp only [Act.put, zg, zh, zi])
        | ((with_reducible apply pl_storeN hs); (focus (simp only [Act.eval, za, zb, zc, zd, ze, zf]; (try with_reducible rfl); done)); (focus (simp only [Act.eval, za, zb, zc, zd, ze, zf]; (try with_reducible rfl); done)); (with_reducible (first | exact agg_69)); (focus with_reducible (repeat (first | exact ent_here | apply ent_next | exact ent_last)); done); (focus (first | (with_reducible rfl) | (simp only [go_sem]; done) | (simp; done))); (focus (first | (simp [go_sem]; done) | (simp only [go_sem]; omega) | go_size)); (focus (first | (simp only [go_sem]; done) | (simp [go_sem]; done))); (focus (first | ((with_reducible apply splice_whole); (focus (first | (with_reducible rfl) | (simp only [go_sem]; done) | (simp; done)))) | (simp [splice, go_sem]; done) | (simp only [go_sem]; (try with_reducible rfl); done))); clear hs; (try clear w); intro w hs; (try simp only [zg, zh, zi, edt_s0, edt_s1, edt_s2, txt_s0, txt_s1, txt_s2, txt_s3, lnk_s0, lnk_s1, lnk_s2, nov_s0, nov_s1, nov_s2, intv_set, bytv_set, runv_set, slv_set] at hs); simp only [Act.put, zg, zh, zi])
        | ((with_reducible apply pl_append1 hs); (with_reducible (first | exact app_22 | exact app_33 | exact app_47 | exact app_48 | exact app_80 | exact app_90 | exact app_97)); (focus (simp only [Act.eval, za, zb, zc, zd, ze, zf]; (try with_reducible rfl); done)); (first | (focus with_reducible (repeat (first | exact ent_here | apply ent_next | exact ent_last)); done) | (focus (with_reducible exact ent_row_nil)) | (focus ((with_reducible apply ent_row_of_blk); (focus with_reducible (repeat (first | exact ent_here | apply ent_next | exact ent_last)); done); (focus (simp only [go_sem]))))); (focus (simp only [Act.eval, za, zb, zc, zd, ze, zf]; (try with_reducible rfl); done)); (focus ((repeat (first | (with_reducible (first | assumption | exact hel _ | exact hel2 _ | exact hel3 _)) | ((with_reducible apply reads_whole); (focus (first | (with_reducible rfl) | (simp only [go_sem]; done) | (simp; done)))) | ((with_reducible apply reads_part); (focus (first | (simp [go_sem]; done) | (simp only [go_sem]; omega) | go_size)); (focus (first | (simp only [Nat.reduceAdd, Nat.zero_add, go_sem]; (try with_reducible rfl); done) | (simp [go_sem]; (try with_reducible rfl); done)))) | (with_reducible (first | (apply reads_left; assumption) | refine reads_exh (by assumption) ?_ | refine reads_exh0 (by assumption) ?_ | apply reads_next)))); done)); (focus (first | (simp only [maxLen] at *; omega) | (simp [maxLen] at *; omega))); (focus (first | (simp only [maxLen] at *; omega) | (simp [maxLen] at *; omega))); clear hs; (try clear w); intro Ap cq w hs; skip; simp only [Act.put, zg, zh, zi]))
                refine ⟨⟨k + 4, l ++ [(C : Int)], by omega, by simp; omega, congrArg (Value.int .i64) (by omega), hr, hs.mono (by ((repeat (first | (with_reducible (first | exact ent_refl | exact ent_emp)) | ((with_reducible apply ent_front); (focus with_reducible (repeat (first | exact ent_here | apply ent_next | exact ent_last)); done)) | (with_reducible (first | exact ent_keep | apply ent_trans ent_drop)))); done))⟩, by simp only [intOf]; omega⟩
              · -- C < 65536
                have hf0 : (C : Int) ≤ 65535 := by omega
                have hN := hno.out (by unfold NoRune; omega)
                replace hN := Lib.hid hN
                clear hv0 hv1 hv2 hv3 hBB hno hok hcont hk1 hk2 hk3 hj hbl hq hC hB hb hi1 hi2 hBM
                obtain ⟨m, hm, hm1, hm2⟩ : ∃ m : Int, m = 65536 ∧ 65536 ≤ m ∧ m ≤ 65536 := ⟨_, rfl, by omega, by omega⟩
                have hec4 : ∀ (g : Nat) (R : HP), ReadC (blk g (.cells #[.int .i64 0, .int .i64 0, .int .i64 128, .int .i64 2048, .int .i64 65536] 69 (0, 0)) * R) g 4 (.int .i64 m) := fun g R => readc_here (by rw [hm]; rfl)
                clear hm
                go_wp2_with (first
        | ((with_reducible apply pl_guard_f); (focus rfl); (focus rfl); all_goals (intro hb; first | (cases hb; done) | ((try simp at hb); first | (with_reducible contradiction) | ((have hF : False := (by omega)); (cases hF; done)) | (simp only [Act.put, zg, zh, zi]))))
        | ((with_reducible apply pl_load1 hs); (focus (simp only [Act.eval, za, zb, zc, zd, ze, zf]; (try with_reducible rfl); done)); (focus (simp only [go_sem])); (focus ((repeat (first | (with_reducible (first | assumption | exact hec _ | exact hec2 _ | exact hec3 _ | exact hec4 _ _)) | ((with_reducible apply readc_here); (focus (first | (simp only [zc, zd, ze, go_sem]; (try with_reducible rfl); done) | (go_simp; (try with_reducible rfl); done)))) | (with_reducible (first | (apply readc_left; assumption) | refine readc_exh (by assumption) ?_ | refine readc_exh0 (by assumption) ?_ | apply readc_next)))); done)); (focus rfl); simp only [Act.put, zg, zh, zi])
        | ((with_reducible apply pl_build hs); (focus (simp only [zj, zk, zl, Act.eval, za, zb, zc, zd, ze, zf]; (try with_reducible rfl); done)); (first | (with_reducible exact bld_5 _ _ _ _ _)); (focus rfl); simp only [Act.put, zg, zh, zi])
        | ((with_reducible apply pl_alloc hs); (with_reducible (first | exact zero_69)); clear hs; (try clear w); intro g w hs; skip; simp only [Act.put, zg, zh, zi])
        | ((with_reducible apply pl_storeN hs); (focus (simp only [Act.eval, za, zb, zc, zd, ze, zf]; (try with_reducible rfl); done)); (focus (simp only [Act.eval, za, zb, zc, zd, ze, zf]; (try with_reducible rfl); done)); (with_reducible (first | exact agg_69)); (focus with_reducible (repeat (first | exact ent_here | apply ent_next | exact ent_last)); done); (focus (first | (with_reducible rfl) | (simp only [go_sem]; done) | (simp; done))); (focus (first | (simp [go_sem]; done) | (simp only [go_sem]; omega) | go_size)); (focus (first | (simp only [go_sem]; done) | (simp [go_sem]; done))); (focus (first | ((with_reducible apply splice_whole); (focus (first | (with_reducible rfl) | (simp only [go_sem]; done) | (simp; done)))) | (simp [splice, go_sem]; done) | (simp only [go_sem]; (try with_reducible rfl); done))); clear hs; (try clear w); intro w hs; (try simp only [zg, zh, zi, edt_s0, edt_s1, edt_s2, txt_s0, txt_s1, txt_s2, txt_s3, lnk_s0, lnk_s1, lnk_s2, nov_s0, nov_s1, nov_s2, intv_set, bytv_set, runv_set, slv_set] at hs); simp only [Act.put, zg, zh, zi]))
                (go_ret2; simp only [za, zb, zc, zd, ze, zf])
                exact ⟨_, rfl, hs.mono (ent_trans (by ((repeat (first | (with_reducible (first | exact ent_refl | exact ent_emp)) | ((with_reducible apply ent_front); (focus with_reducible (repeat (first | exact ent_here | apply ent_next | exact ent_last)); done)) | (with_reducible (first | exact ent_keep | apply ent_trans ent_drop)))); done)) (runesR_none hN.out))⟩
              · -- 1114111 < C
                have hf0 : (65536 : Int) ≤ (C : Int) := by omega
                have hf1 : (1114111 : Int) < (C : Int) := by omega
                have hf2 : (C : Int) ≤ 2097151 := by omega
                have hN := hno.out (by unfold NoRune; omega)
                replace hN := Lib.hid hN
                clear hv0 hv1 hv2 hv3 hBB hno hok hcont hk1 hk2 hk3 hj hbl hq hC hB hb hi1 hi2 hBM
                obtain ⟨m, hm, hm1, hm2⟩ : ∃ m : Int, m = 65536 ∧ 65536 ≤ m ∧ m ≤ 65536 := ⟨_, rfl, by omega, by omega⟩
                have hec4 : ∀ (g : Nat) (R : HP), ReadC (blk g (.cells #[.int .i64 0, .int .i64 0, .int .i64 128, .int .i64 2048, .int .i64 65536] 69 (0, 0)) * R) g 4 (.int .i64 m) := fun g R => readc_here (by rw [hm]; rfl)
                clear hm
                go_wp2_with (first
        | ((with_reducible apply pl_guard_f); (focus rfl); (focus rfl); all_goals (intro hb; first | (cases hb; done) | ((try simp at hb); first | (with_reducible contradiction) | ((have hF : False := (by omega)); (cases hF; done)) | (simp only [Act.put, zg, zh, zi]))))
        | ((with_reducible apply pl_load1 hs); (focus (simp only [Act.eval, za, zb, zc, zd, ze, zf]; (try with_reducible rfl); done)); (focus (simp only [go_sem])); (focus ((repeat (first | (with_reducible (first | assumption | exact hec _ | exact hec2 _ | exact hec3 _ | exact hec4 _ _)) | ((with_reducible apply readc_here); (focus (first | (simp only [zc, zd, ze, go_sem]; (try with_reducible rfl); done) | (go_simp; (try with_reducible rfl); done)))) | (with_reducible (first | (apply readc_left; assumption) | refine readc_exh (by assumption) ?_ | refine readc_exh0 (by assumption) ?_ | apply readc_next)))); done)); (focus rfl); simp only [Act.put, zg, zh, zi])
        | ((with_reducible apply pl_build hs); (focus (simp only [zj, zk, zl, Act.eval, za, zb, zc, zd, ze, zf]; (try with_reducible rfl); done)); (first | (with_reducible exact bld_5 _ _ _ _ _)); (focus rfl); simp only [Act.put, zg, zh, zi])
        | ((with_reducible apply pl_alloc hs); (with_reducible (first | exact zero_69)); clear hs; (try clear w); intro g w hs; skip; simp only [Act.put, zg, zh, zi])
        | ((with_reducible apply pl_storeN hs); (focus (simp only [Act.eval, za, zb, zc, zd, ze, zf]; (try with_reducible rfl); done)); (focus (simp only [Act.eval, za, zb, zc, zd, ze, zf]; (try with_reducible rfl); done)); (with_reducible (first | exact agg_69)); (focus with_reducible (repeat (first | exact ent_here | apply ent_next | exact ent_last)); done); (focus (first | (with_reducible rfl) | (simp only [go_sem]; done) | (simp; done))); (focus (first | (simp [go_sem]; done) | (simp only [go_sem]; omega) | go_size)); (focus (first | (simp only [go_sem]; done) | (simp [go_sem]; done))); (focus (first | ((with_reducible apply splice_whole); (focus (first | (with_reducible rfl) | (simp only [go_sem]; done) | (simp; done)))) | (simp [splice, go_sem]; done) | (simp only [go_sem]; (try with_reducible rfl); done))); clear hs; (try clear w); intro w hs; (try simp only [zg, zh, zi, edt_s0, edt_s1, edt_s2, txt_s0, txt_s1, txt_s2, txt_s3, lnk_s0, lnk_s1, lnk_s2, nov_s0, nov_s1, nov_s2, intv_set, bytv_set, runv_set, slv_set] at hs); simp only [Act.put, zg, zh, zi]))
                (go_ret2; simp only [za, zb, zc, zd, ze, zf])
                exact ⟨_, rfl, hs.mono (ent_trans (by ((repeat (first | (with_reducible (first | exact ent_refl | exact ent_emp)) | ((with_reducible apply ent_front); (focus with_reducible (repeat (first | exact ent_here | apply ent_next | exact ent_last)); done)) | (with_reducible (first | exact ent_keep | apply ent_trans ent_drop)))); done)) (runesR_none hN.out))⟩
        · have hcsI : ¬ ((k : Int) + 4 ≤ s.size) := by omega
          have hN := hno.out (by unfold NoRune; omega)
          replace hN := Lib.hid hN
          go_wp2_with (first
        | ((with_reducible rewrite [pl_strike_eq]); rotate_left 1; (focus rfl)))
          (go_ret2; simp only [za, zb, zc, zd, ze, zf])
          exact ⟨_, rfl, hs.mono (ent_trans (by ((repeat (first | (with_reducible (first | exact ent_refl | exact ent_emp)) | ((with_reducible apply ent_front); (focus with_reducible (repeat (first | exact ent_here | apply ent_next | exact ent_last)); done)) | (with_reducible (first | exact ent_keep | apply ent_trans ent_drop)))); done)) (runesR_none hN.out))⟩
      · -- none
        have hi1 : (128 : Int) ≤ (bt s k : Int) := by omega
        have hi2 : (bt s k : Int) < 192 := by omega
        have hN := hno.out (by unfold NoRune; omega)
        replace hN := Lib.hid hN
        go_wp2_with (first
        | ((with_reducible rewrite [pl_skip_eq]); rotate_left 1; (focus rfl); simp only [Act.put, zg, zh, zi]))
        (go_ret2; simp only [za, zb, zc, zd, ze, zf])
        exact ⟨_, rfl, hs.mono (ent_trans (by ((repeat (first | (with_reducible (first | exact ent_refl | exact ent_emp)) | ((with_reducible apply ent_front); (focus with_reducible (repeat (first | exact ent_here | apply ent_next | exact ent_last)); done)) | (with_reducible (first | exact ent_keep | apply ent_trans ent_drop)))); done)) (runesR_none hN.out))⟩
      · -- none
        have hi1 : (248 : Int) ≤ (bt s k : Int) := by omega
        have hi2 : (bt s k : Int) < 256 := by omega
        have hN := hno.out (by unfold NoRune; omega)
        replace hN := Lib.hid hN
        go_wp2_with (first
        | ((with_reducible rewrite [pl_strike_eq]); rotate_left 1; (focus rfl)))
        (go_ret2; simp only [za, zb, zc, zd, ze, zf])
        exact ⟨_, rfl, hs.mono (ent_trans (by ((repeat (first | (with_reducible (first | exact ent_refl | exact ent_emp)) | ((with_reducible apply ent_front); (focus with_reducible (repeat (first | exact ent_here | apply ent_next | exact ent_last)); done)) | (with_reducible (first | exact ent_keep | apply ent_trans ent_drop)))); done)) (runesR_none hN.out))⟩
    · have hkI : ¬ ((k : Int) < s.size) := by omega
      go_wp2_with fail
      (go_ret2; simp only [za, zb, zc, zd, ze, zf])
      have hsome : runesL s.data.toList = some l := by
        have hd : s.data.toList.drop k = [] := List.drop_eq_nil_iff.2 (by rw [Array.length_toList]; have e : s.data.size = s.size := rfl; omega)
        rw [hl.out, hd, runesL_nil]
        simp
      exact ⟨_, rfl, hs.mono (ent_trans (by ((repeat (first | (with_reducible (first | exact ent_refl | exact ent_emp)) | ((with_reducible apply ent_front); (focus with_reducible (repeat (first | exact ent_here | apply ent_next | exact ent_last)); done)) | (with_reducible (first | exact ent_keep | apply ent_trans ent_drop)))); done)) (runesR_some hsome))⟩
end Go.Proofs.YtgoifgockcpnhaaDoor
