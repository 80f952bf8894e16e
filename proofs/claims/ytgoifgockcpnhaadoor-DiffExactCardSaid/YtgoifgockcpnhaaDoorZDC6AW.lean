/- Characters written as a text; the laws' own small functions. -/
import Derived.Test.YtgoifgockcpnhaaDoorZDC6AO
import Derived.Test.YtgoifgockcpnhaaDoorZDC6AQ
import Derived.Test.YtgoifgockcpnhaaDoorZDC6AU
import Derived.Test.YtgoifgockcpnhaaDoorZDC6AV
set_option linter.unusedSimpArgs false
set_option linter.unusedVariables false
namespace Go.Proofs.YtgoifgockcpnhaaDoor
open Go Go.RowKit

def natI (l : List UInt8) : List Int := l.map fun b => (b.toNat : Int)
def encB (l : List Int) : List Int := natI (encs l)
theorem bts_natI (l : List UInt8) : bts (natI l) = ⟨l.toArray⟩ := by
  unfold bts natI
  rw [List.map_map]
  congr 2
  have : ((fun n : Int => UInt8.ofNat n.toNat) ∘ fun b : UInt8 => (b.toNat : Int)) = id := by
    funext b
    show UInt8.ofNat ((b.toNat : Int)).toNat = b
    rw [Int.toNat_natCast]
    exact UInt8.ofNat_toNat
  rw [this, List.map_id]
theorem bts_encB (l : List Int) : bts (encB l) = rts l := bts_natI _
theorem encB_snoc (l : List Int) (c : Int) : encB (l ++ [c]) = encB l ++ natI (encR c) := by
  unfold encB encs natI
  rw [List.flatMap_append, List.map_append]
  simp
theorem encB_take {l : List Int} {k : Nat} {c : Int} (h : l[k]? = some c) : encB (l.take (k + 1)) = encB (l.take k) ++ natI (encR c) := by
  rw [List.take_add_one, h]
  exact encB_snoc _ _
theorem natI_1 {n : Nat} (h : n < 128) : natI (encR n) = [(n : Int)] := by
  rw [encR_1 h]; unfold natI
  simp only [zk, zl, u8_nat (show n < 256 by omega)]
theorem natI_2 {n : Nat} (h : 128 ≤ n) (h' : n < 2048) : natI (encR n) = [192 + (n : Int) / 64, 128 + (n : Int) % 64] := by
  rw [encR_2 h h']; unfold natI
  simp only [zk, zl, u8_nat (show 192 + n / 64 < 256 by omega), u8_nat (show 128 + n % 64 < 256 by omega)]
  simp
theorem natI_3 {n : Nat} (h : 2048 ≤ n) (h' : n < 65536) (hs : n < 55296 ∨ 57343 < n) : natI (encR n) = [224 + (n : Int) / 4096, 128 + (n : Int) / 64 % 64, 128 + (n : Int) % 64] := by
  rw [encR_3 h h' hs]; unfold natI
  simp only [zk, zl, u8_nat (show 224 + n / 4096 < 256 by omega), u8_nat (show 128 + n / 64 % 64 < 256 by omega), u8_nat (show 128 + n % 64 < 256 by omega)]
  simp
theorem natI_4 {n : Nat} (h : 65536 ≤ n) (h' : n ≤ 1114111) : natI (encR n) = [240 + (n : Int) / 262144, 128 + (n : Int) / 4096 % 64, 128 + (n : Int) / 64 % 64, 128 + (n : Int) % 64] := by
  rw [encR_4 h h']; unfold natI
  simp only [zk, zl, u8_nat (show 240 + n / 262144 < 256 by omega), u8_nat (show 128 + n / 4096 % 64 < 256 by omega), u8_nat (show 128 + n / 64 % 64 < 256 by omega), u8_nat (show 128 + n % 64 < 256 by omega)]
  simp
theorem natJ_1 {a : Int} (h0 : 0 ≤ a) (h : a ≤ 127) : natI (encR a) = [a] := by
  obtain ⟨n, rfl⟩ : ∃ n : Nat, a = n := ⟨a.toNat, by omega⟩
  exact natI_1 (by omega)
theorem natJ_2 {a : Int} (h : 128 ≤ a) (h' : a ≤ 2047) : natI (encR a) = [192 + a / 64, 128 + a % 64] := by
  obtain ⟨n, rfl⟩ : ∃ n : Nat, a = n := ⟨a.toNat, by omega⟩
  exact natI_2 (by omega) (by omega)
theorem natJ_3 {a : Int} (h : 2048 ≤ a) (h' : a ≤ 65535) (hs : a < 55296 ∨ 57343 < a) : natI (encR a) = [224 + a / 4096, 128 + a / 64 % 64, 128 + a % 64] := by
  obtain ⟨n, rfl⟩ : ∃ n : Nat, a = n := ⟨a.toNat, by omega⟩
  exact natI_3 (by omega) (by omega) (by omega)
theorem natJ_4 {a : Int} (h : 65536 ≤ a) (h' : a ≤ 1114111) : natI (encR a) = [240 + a / 262144, 128 + a / 4096 % 64, 128 + a / 64 % 64, 128 + a % 64] := by
  obtain ⟨n, rfl⟩ : ∃ n : Nat, a = n := ⟨a.toNat, by omega⟩
  exact natI_4 (by omega) (by omega)
theorem encs_len {l : List Int} (h : ∀ c, c ∈ l → RuneI c) : (encs l).length ≤ 4 * l.length ∧ l.length ≤ (encs l).length := by
  induction l with
  | nil => simp [encs]
  | cons c l ih =>
    obtain ⟨h1, h2⟩ := ih fun x hx => h x (List.mem_cons_of_mem _ hx)
    obtain ⟨_, _, h4, h5⟩ := enc_dec (h c (List.mem_cons_self ..)) []
    have : encs (c :: l) = encR c ++ encs l := by unfold encs; rw [List.flatMap_cons]
    rw [this, List.length_append, List.length_cons]
    omega
theorem encB_len {l : List Int} (h : ∀ c, c ∈ l → RuneI c) : (encB l).length ≤ 4 * l.length := by
  unfold encB natI
  rw [List.length_map]
  exact (encs_len h).1
theorem slr_rune {H : HP} {A : Option Addr} {n c i : Nat} {l : List Int} (h : SlR H 1 runv (.slice A n c) l) {w : World} (hw : Own H w) (hi : i < n) : ∃ b o a, A = some ⟨b, o, none⟩ ∧ l[i]? = some a ∧ ReadC H b (o + i) (.int .i32 a) := by
  obtain ⟨b, o, a, hA, hla, hwa⟩ := slr_get h hw hi
  exact ⟨b, o, a, hA, hla, by have := hwa.cell (i := 0) (by omega) (runv_0 a); rwa [Nat.mul_one] at this⟩
set_option maxRecDepth 20000 in
set_option maxHeartbeats 2000000 in
theorem utf8_s (c0 : World) (F : HP) (v : Value) (l : List Int) : Spec Tryd.prog c0 54 #[v] (pu (SlR F 1 runv v l ∧ (∀ c, c ∈ l → RuneI c) ∧ l.length ≤ 1000000) F) (fun r => pu (r = .string (rts l)) F) := by
  intro w hq; obtain ⟨⟨hsl, hI, hm⟩, hs⟩ := hq.pu; clear hq
  obtain ⟨A, c, rfl⟩ := slr_form hsl hs.own
  obtain ⟨_, h2, h3, _⟩ := slr_len hsl hs.own
  unfold maxLen at h3
  generalize hn : l.length = n at *
  replace hn := Lib.hid hn
  go_enter Tryd.func54, Tryd.ntmps54
  go_wp2_with fail
  go_loopw [3, 4] (fun u i wr => ∃ k : Nat, k ≤ n ∧ i = .int .i64 k ∧ Sat c0 (row 5 1 bytv u (encB (l.take k)) * F) wr) (fun _ i _ => n - (intOf i).toNat)
  case atStart => exact ⟨0, by omega, rfl, hs.mono ent_row_nil⟩
  case round =>
    clear hs
    obtain ⟨k, hk, rfl, hs⟩ := hrel
    obtain ⟨B, d, rfl, hd1, hd2⟩ := row_slice hs.own
    have hEl := encB_len (l := l.take k) fun x hx => hI x (List.mem_of_mem_take hx)
    have hkl : (l.take k).length ≤ k := List.length_take_le ..
    by_cases hlt : k < n
    · obtain ⟨b, o, a, rfl, hla, hwa⟩ := slr_rune hsl (hs.own.mono ent_drop) hlt
      have hR := hI a (List.mem_of_getElem? hla)
      have hsn := encB_take hla
      generalize encB (l.take k) = E at *
      unfold RuneI at hR
      obtain ⟨hx2, hx0, hx1⟩ := hR
      clear hla
      rcases (show a ≤ 127 ∨ (128 ≤ a ∧ a ≤ 2047) ∨ (2048 ≤ a ∧ a ≤ 65535) ∨ (65536 ≤ a ∧ a ≤ 1114111) by omega) with hc | hc | hc | hc
      · rw [natJ_1 hx2 hc] at hsn
        have hc1 : a ≤ 127 := hc
        clear hx1 hc hx0
        go_wp2_with (first
        | ((with_reducible apply pl_load1 hs); (focus (simp only [Act.eval, za, zb, zc, zd, ze, zf]; (try with_reducible rfl); done)); (focus (simp only [go_sem])); (focus ((repeat (first | (with_reducible (first | assumption | exact hec _ | exact hec2 _ | exact hec3 _ | exact hec4 _ _)) | ((with_reducible apply readc_here); (focus (first | (simp only [zc, zd, ze, go_sem]; (try with_reducible rfl); done) | (go_simp; (try with_reducible rfl); done)))) | (with_reducible (first | (apply readc_left; assumption) | refine readc_exh (by assumption) ?_ | refine readc_exh0 (by assumption) ?_ | apply readc_next)))); done)); (focus rfl); simp only [Act.put, zg, zh, zi])
        | ((with_reducible apply pl_bs1 hs); (with_reducible (first | exact bst_90)); (focus (simp only [Act.eval, za, zb, zc, zd, ze, zf]; (try with_reducible rfl); done)); (focus (first | (with_reducible (first | exact cells_intv _ | exact cells_bytv _ | exact cells_runv _ | exact cells_slv _ _ _ | exact cells_agg _ | exact cells_int _ _ | exact cells_bool _ | exact cells_string _ | exact cells_slice _ _ _ | exact cells_pointer _ | exact cells_map _ | exact cells_iface _ _ | exact cells_nilIface | exact cells_func _ _ _)) | (exact cells_one (by assumption)))); (focus (first | (with_reducible rfl) | (simp only [go_sem]; done) | (simp; done))); clear hs; (try clear w); intro g w hs; skip; simp only [Act.put, zg, zh, zi])
        | ((with_reducible apply pl_append1 hs); (with_reducible (first | exact app_22 | exact app_33 | exact app_47 | exact app_48 | exact app_80 | exact app_90 | exact app_97)); (focus (simp only [Act.eval, za, zb, zc, zd, ze, zf]; (try with_reducible rfl); done)); (first | (focus with_reducible (repeat (first | exact ent_here | apply ent_next | exact ent_last)); done) | (focus (with_reducible exact ent_row_nil)) | (focus ((with_reducible apply ent_row_of_blk); (focus with_reducible (repeat (first | exact ent_here | apply ent_next | exact ent_last)); done); (focus (simp only [go_sem]))))); (focus (simp only [Act.eval, za, zb, zc, zd, ze, zf]; (try with_reducible rfl); done)); (focus ((repeat (first | (with_reducible (first | assumption | exact hel _ | exact hel2 _ | exact hel3 _)) | ((with_reducible apply reads_whole); (focus (first | (with_reducible rfl) | (simp only [go_sem]; done) | (simp; done)))) | ((with_reducible apply reads_part); (focus (first | (simp [go_sem]; done) | (simp only [go_sem]; omega) | go_size)); (focus (first | (simp only [Nat.reduceAdd, Nat.zero_add, go_sem]; (try with_reducible rfl); done) | (simp [go_sem]; (try with_reducible rfl); done)))) | (with_reducible (first | (apply reads_left; assumption) | refine reads_exh (by assumption) ?_ | refine reads_exh0 (by assumption) ?_ | apply reads_next)))); done)); (focus (first | (simp only [maxLen] at *; omega) | (simp [maxLen] at *; omega))); (focus (first | (simp only [maxLen] at *; omega) | (simp [maxLen] at *; omega))); clear hs; (try clear w); intro Ap cq w hs; skip; simp only [Act.put, zg, zh, zi]))
        exact ⟨⟨k + 1, by omega, by go_num, hs.mono (by rw [hsn]; ((repeat (first | (with_reducible (first | exact ent_refl | exact ent_emp)) | ((with_reducible apply ent_front); (focus with_reducible (repeat (first | exact ent_here | apply ent_next | exact ent_last)); done)) | (with_reducible (first | exact ent_keep | apply ent_trans ent_drop)))); done))⟩, by simp [intOf]; omega⟩
      · rw [natJ_2 hc.1 hc.2] at hsn
        have hc1 := hc.1
        have hc2 := hc.2
        clear hx1 hc hx0
        go_wp2_with (first
        | ((with_reducible apply pl_bsL (enc := bytv) (s := 1) [192 + a / 64, 128 + a % 64] hs); (focus (intro w; go_simp; (try rfl); done)); (focus rfl); (focus rfl); (focus rfl); (focus (simp only [maxLen]; omega)); clear hs; (try clear w); intro g w hs; simp only [Act.put, zg, zh, zi])
        | ((with_reducible apply pl_load1 hs); (focus (simp only [Act.eval, za, zb, zc, zd, ze, zf]; (try with_reducible rfl); done)); (focus (simp only [go_sem])); (focus ((repeat (first | (with_reducible (first | assumption | exact hec _ | exact hec2 _ | exact hec3 _ | exact hec4 _ _)) | ((with_reducible apply readc_here); (focus (first | (simp only [zc, zd, ze, go_sem]; (try with_reducible rfl); done) | (go_simp; (try with_reducible rfl); done)))) | (with_reducible (first | (apply readc_left; assumption) | refine readc_exh (by assumption) ?_ | refine readc_exh0 (by assumption) ?_ | apply readc_next)))); done)); (focus rfl); simp only [Act.put, zg, zh, zi])
        | ((with_reducible apply pl_appendN hs); (with_reducible (first | exact app_22 | exact app_33 | exact app_47 | exact app_48 | exact app_80 | exact app_90 | exact app_97)); (focus (simp only [Act.eval, za, zb, zc, zd, ze, zf]; (try with_reducible rfl); done)); (first | (focus with_reducible (repeat (first | exact ent_here | apply ent_next | exact ent_last)); done) | (focus (with_reducible exact ent_row_nil)) | (focus ((with_reducible apply ent_row_of_blk); (focus with_reducible (repeat (first | exact ent_here | apply ent_next | exact ent_last)); done); (focus (simp only [go_sem]))))); (focus (simp only [Act.eval, za, zb, zc, zd, ze, zf]; (try with_reducible rfl); done)); (focus (first | ((repeat (first | (with_reducible (first | assumption | exact slr_ro |  exact hsl _ | exact hsl2 _ | exact hsl3 _ _ _ | exact slr_nil | exact slr_row (fun _ => by simp only [go_sem]) | exact slr_one (fun _ => by simp only [go_sem]) | (apply slr_left; assumption))) | (with_reducible apply slr_next))); done) | ((repeat (first | (with_reducible (first | assumption | exact slr_ro |  exact hsl _ | exact hsl2 _ | exact hsl3 _ _ _ | exact slr_nil | exact slr_row (fun _ => by simp only [go_sem]) | exact slr_one (fun _ => by simp only [go_sem]) | (apply slr_left; assumption))) | (with_reducible (first | (apply slr_exh; focus assumption) | (apply slr_exh0; focus assumption) | apply slr_next)))); done))); (focus (first | (simp only [maxLen] at *; omega) | (simp [maxLen] at *; omega))); (focus (first | (simp only [maxLen] at *; omega) | (simp [maxLen] at *; omega))); clear hs; (try clear w); intro Ap cq w hs; (try simp only [List.length_nil, Nat.zero_add, List.nil_append] at hs ⊢); simp only [Act.put, zg, zh, zi]))
        exact ⟨⟨k + 1, by omega, by go_num, hs.mono (by rw [hsn]; ((repeat (first | (with_reducible (first | exact ent_refl | exact ent_emp)) | ((with_reducible apply ent_front); (focus with_reducible (repeat (first | exact ent_here | apply ent_next | exact ent_last)); done)) | (with_reducible (first | exact ent_keep | apply ent_trans ent_drop)))); done))⟩, by simp [intOf]; omega⟩
      · rw [natJ_3 hc.1 hc.2 hx1] at hsn
        have hc1 := hc.1
        have hc2 := hc.2
        clear hx1 hc hx0
        go_wp2_with (first
        | ((with_reducible apply pl_bsL (enc := bytv) (s := 1) [224 + a / 4096, 128 + a / 64 % 64, 128 + a % 64] hs); (focus (intro w; go_simp; (try rfl); done)); (focus rfl); (focus rfl); (focus rfl); (focus (simp only [maxLen]; omega)); clear hs; (try clear w); intro g w hs; simp only [Act.put, zg, zh, zi])
        | ((with_reducible apply pl_load1 hs); (focus (simp only [Act.eval, za, zb, zc, zd, ze, zf]; (try with_reducible rfl); done)); (focus (simp only [go_sem])); (focus ((repeat (first | (with_reducible (first | assumption | exact hec _ | exact hec2 _ | exact hec3 _ | exact hec4 _ _)) | ((with_reducible apply readc_here); (focus (first | (simp only [zc, zd, ze, go_sem]; (try with_reducible rfl); done) | (go_simp; (try with_reducible rfl); done)))) | (with_reducible (first | (apply readc_left; assumption) | refine readc_exh (by assumption) ?_ | refine readc_exh0 (by assumption) ?_ | apply readc_next)))); done)); (focus rfl); simp only [Act.put, zg, zh, zi])
        | ((with_reducible apply pl_appendN hs); (with_reducible (first | exact app_22 | exact app_33 | exact app_47 | exact app_48 | exact app_80 | exact app_90 | exact app_97)); (focus (simp only [Act.eval, za, zb, zc, zd, ze, zf]; (try with_reducible rfl); done)); (first | (focus with_reducible (repeat (first | exact ent_here | apply ent_next | exact ent_last)); done) | (focus (with_reducible exact ent_row_nil)) | (focus ((with_reducible apply ent_row_of_blk); (focus with_reducible (repeat (first | exact ent_here | apply ent_next | exact ent_last)); done); (focus (simp only [go_sem]))))); (focus (simp only [Act.eval, za, zb, zc, zd, ze, zf]; (try with_reducible rfl); done)); (focus (first | ((repeat (first | (with_reducible (first | assumption | exact slr_ro |  exact hsl _ | exact hsl2 _ | exact hsl3 _ _ _ | exact slr_nil | exact slr_row (fun _ => by simp only [go_sem]) | exact slr_one (fun _ => by simp only [go_sem]) | (apply slr_left; assumption))) | (with_reducible apply slr_next))); done) | ((repeat (first | (with_reducible (first | assumption | exact slr_ro |  exact hsl _ | exact hsl2 _ | exact hsl3 _ _ _ | exact slr_nil | exact slr_row (fun _ => by simp only [go_sem]) | exact slr_one (fun _ => by simp only [go_sem]) | (apply slr_left; assumption))) | (with_reducible (first | (apply slr_exh; focus assumption) | (apply slr_exh0; focus assumption) | apply slr_next)))); done))); (focus (first | (simp only [maxLen] at *; omega) | (simp [maxLen] at *; omega))); (focus (first | (simp only [maxLen] at *; omega) | (simp [maxLen] at *; omega))); clear hs; (try clear w); intro Ap cq w hs; (try simp only [List.length_nil, Nat.zero_add, List.nil_append] at hs ⊢); simp only [Act.put, zg, zh, zi]))
        exact ⟨⟨k + 1, by omega, by go_num, hs.mono (by rw [hsn]; ((repeat (first | (with_reducible (first | exact ent_refl | exact ent_emp)) | ((with_reducible apply ent_front); (focus with_reducible (repeat (first | exact ent_here | apply ent_next | exact ent_last)); done)) | (with_reducible (first | exact ent_keep | apply ent_trans ent_drop)))); done))⟩, by simp [intOf]; omega⟩
      · rw [natJ_4 hc.1 hc.2] at hsn
        have hc1 := hc.1
        clear hx1 hc
        go_wp2_with (first
        | ((with_reducible apply pl_bsL (enc := bytv) (s := 1) [240 + a / 262144, 128 + a / 4096 % 64, 128 + a / 64 % 64, 128 + a % 64] hs); (focus (intro w; go_simp; (try rfl); done)); (focus rfl); (focus rfl); (focus rfl); (focus (simp only [maxLen]; omega)); clear hs; (try clear w); intro g w hs; simp only [Act.put, zg, zh, zi])
        | ((with_reducible apply pl_load1 hs); (focus (simp only [Act.eval, za, zb, zc, zd, ze, zf]; (try with_reducible rfl); done)); (focus (simp only [go_sem])); (focus ((repeat (first | (with_reducible (first | assumption | exact hec _ | exact hec2 _ | exact hec3 _ | exact hec4 _ _)) | ((with_reducible apply readc_here); (focus (first | (simp only [zc, zd, ze, go_sem]; (try with_reducible rfl); done) | (go_simp; (try with_reducible rfl); done)))) | (with_reducible (first | (apply readc_left; assumption) | refine readc_exh (by assumption) ?_ | refine readc_exh0 (by assumption) ?_ | apply readc_next)))); done)); (focus rfl); simp only [Act.put, zg, zh, zi])
        | ((with_reducible apply pl_appendN hs); (with_reducible (first | exact app_22 | exact app_33 | exact app_47 | exact app_48 | exact app_80 | exact app_90 | exact app_97)); (focus (simp only [Act.eval, za, zb, zc, zd, ze, zf]; (try with_reducible rfl); done)); (first | (focus with_reducible (repeat (first | exact ent_here | apply ent_next | exact ent_last)); done) | (focus (with_reducible exact ent_row_nil)) | (focus ((with_reducible apply ent_row_of_blk); (focus with_reducible (repeat (first | exact ent_here | apply ent_next | exact ent_last)); done); (focus (simp only [go_sem]))))); (focus (simp only [Act.eval, za, zb, zc, zd, ze, zf]; (try with_reducible rfl); done)); (focus (first | ((repeat (first | (with_reducible (first | assumption | exact slr_ro |  exact hsl _ | exact hsl2 _ | exact hsl3 _ _ _ | exact slr_nil | exact slr_row (fun _ => by simp only [go_sem]) | exact slr_one (fun _ => by simp only [go_sem]) | (apply slr_left; assumption))) | (with_reducible apply slr_next))); done) | ((repeat (first | (with_reducible (first | assumption | exact slr_ro |  exact hsl _ | exact hsl2 _ | exact hsl3 _ _ _ | exact slr_nil | exact slr_row (fun _ => by simp only [go_sem]) | exact slr_one (fun _ => by simp only [go_sem]) | (apply slr_left; assumption))) | (with_reducible (first | (apply slr_exh; focus assumption) | (apply slr_exh0; focus assumption) | apply slr_next)))); done))); (focus (first | (simp only [maxLen] at *; omega) | (simp [maxLen] at *; omega))); (focus (first | (simp only [maxLen] at *; omega) | (simp [maxLen] at *; omega))); clear hs; (try clear w); intro Ap cq w hs; (try simp only [List.length_nil, Nat.zero_add, List.nil_append] at hs ⊢); simp only [Act.put, zg, zh, zi]))
        exact ⟨⟨k + 1, by omega, by go_num, hs.mono (by rw [hsn]; ((repeat (first | (with_reducible (first | exact ent_refl | exact ent_emp)) | ((with_reducible apply ent_front); (focus with_reducible (repeat (first | exact ent_here | apply ent_next | exact ent_last)); done)) | (with_reducible (first | exact ent_keep | apply ent_trans ent_drop)))); done))⟩, by simp [intOf]; omega⟩
    · have hfin : encB (l.take k) = encB l := by rw [List.take_of_length_le (by have := hn.out; omega)]
      have hb5 : (encB l).length ≤ 140737488355328 := by rw [← hfin]; omega
      rw [hfin] at hs hd1 ⊢
      clear hfin hEl
      go_wp2_with (first
        | ((with_reducible apply pl_cvBS hs); (focus (simp only [Act.eval, za, zb, zc, zd, ze, zf]; (try with_reducible rfl); done)); (first | (with_reducible exact byt_90_9)); (focus (first | ((repeat (first | (with_reducible (first | assumption | exact slr_ro |  exact hsl _ | exact hsl2 _ | exact hsl3 _ _ _ | exact slr_nil | exact slr_row (fun _ => by simp only [go_sem]) | exact slr_one (fun _ => by simp only [go_sem]) | (apply slr_left; assumption))) | (with_reducible apply slr_next))); done) | ((repeat (first | (with_reducible (first | assumption | exact slr_ro |  exact hsl _ | exact hsl2 _ | exact hsl3 _ _ _ | exact slr_nil | exact slr_row (fun _ => by simp only [go_sem]) | exact slr_one (fun _ => by simp only [go_sem]) | (apply slr_left; assumption))) | (with_reducible (first | (apply slr_exh; focus assumption) | (apply slr_exh0; focus assumption) | apply slr_next)))); done))); (focus rfl); simp only [Act.put, zg, zh, zi]))
      (go_ret; simp only [za, zb, zc, zd, ze, zf])
      exact ⟨_, rfl, hs.mono (ent_pu (by rw [bts_encB]) (by ((repeat (first | (with_reducible (first | exact ent_refl | exact ent_emp)) | ((with_reducible apply ent_front); (focus with_reducible (repeat (first | exact ent_here | apply ent_next | exact ent_last)); done)) | (with_reducible (first | exact ent_keep | apply ent_trans ent_drop)))); done)))⟩
end Go.Proofs.YtgoifgockcpnhaaDoor
