/- Two texts are read: by the program, by the document. -/
import Derived.Test.YtgoifgockcpnhaaDoorZDC5AO
import Derived.Test.YtgoifgockcpnhaaDoorZDC5AQ
import Derived.Test.YtgoifgockcpnhaaDoorZDC5AU
import Derived.Test.YtgoifgockcpnhaaDoorZDC5AV
set_option linter.unusedSimpArgs false
set_option linter.unusedVariables false
namespace Go.Proofs.YtgoifgockcpnhaaDoor
open Go Go.RowKit

def natI (l : List UInt8) : List Int := l.map fun b => (b.toNat : Int)
def encB (l : List Int) : List Int := natI (encs l)
theorem bts_natI (l : List UInt8) : bts (natI l) = ⟨l.toArray⟩ := by
  unfold bts natI
  rw [List.map_map]
  congr 2
  have : ((fun n : Int => UInt8.ofNat n.toNat) ∘ fun b : UInt8 => (b.toNat : Int)) = id := by
    funext b
    show UInt8.ofNat ((b.toNat : Int)).toNat = b
    rw [Int.toNat_natCast]
    exact UInt8.ofNat_toNat
  rw [this, List.map_id]
theorem bts_encB (l : List Int) : bts (encB l) = rts l := bts_natI _
theorem encB_snoc (l : List Int) (c : Int) : encB (l ++ [c]) = encB l ++ natI (encR c) := by
  unfold encB encs natI
  rw [List.flatMap_append, List.map_append]
  simp
theorem encB_take {l : List Int} {k : Nat} {c : Int} (h : l[k]? = some c) : encB (l.take (k + 1)) = encB (l.take k) ++ natI (encR c) := by
  rw [List.take_add_one, h]
  exact encB_snoc _ _
theorem natI_1 {n : Nat} (h : n < 128) : natI (encR n) = [(n : Int)] := by
  rw [encR_1 h]; unfold natI
  simp only [zk, zl, u8_nat (show n < 256 by omega)]
theorem natI_2 {n : Nat} (h : 128 ≤ n) (h' : n < 2048) : natI (encR n) = [192 + (n : Int) / 64, 128 + (n : Int) % 64] := by
  rw [encR_2 h h']; unfold natI
  simp only [zk, zl, u8_nat (show 192 + n / 64 < 256 by omega), u8_nat (show 128 + n % 64 < 256 by omega)]
  simp
theorem natI_3 {n : Nat} (h : 2048 ≤ n) (h' : n < 65536) (hs : n < 55296 ∨ 57343 < n) : natI (encR n) = [224 + (n : Int) / 4096, 128 + (n : Int) / 64 % 64, 128 + (n : Int) % 64] := by
  rw [encR_3 h h' hs]; unfold natI
  simp only [zk, zl, u8_nat (show 224 + n / 4096 < 256 by omega), u8_nat (show 128 + n / 64 % 64 < 256 by omega), u8_nat (show 128 + n % 64 < 256 by omega)]
  simp
theorem natI_4 {n : Nat} (h : 65536 ≤ n) (h' : n ≤ 1114111) : natI (encR n) = [240 + (n : Int) / 262144, 128 + (n : Int) / 4096 % 64, 128 + (n : Int) / 64 % 64, 128 + (n : Int) % 64] := by
  rw [encR_4 h h']; unfold natI
  simp only [zk, zl, u8_nat (show 240 + n / 262144 < 256 by omega), u8_nat (show 128 + n / 4096 % 64 < 256 by omega), u8_nat (show 128 + n / 64 % 64 < 256 by omega), u8_nat (show 128 + n % 64 < 256 by omega)]
  simp
theorem natJ_1 {a : Int} (h0 : 0 ≤ a) (h : a ≤ 127) : natI (encR a) = [a] := by
  obtain ⟨n, rfl⟩ : ∃ n : Nat, a = n := ⟨a.toNat, by omega⟩
  exact natI_1 (by omega)
theorem natJ_2 {a : Int} (h : 128 ≤ a) (h' : a ≤ 2047) : natI (encR a) = [192 + a / 64, 128 + a % 64] := by
  obtain ⟨n, rfl⟩ : ∃ n : Nat, a = n := ⟨a.toNat, by omega⟩
  exact natI_2 (by omega) (by omega)
theorem natJ_3 {a : Int} (h : 2048 ≤ a) (h' : a ≤ 65535) (hs : a < 55296 ∨ 57343 < a) : natI (encR a) = [224 + a / 4096, 128 + a / 64 % 64, 128 + a % 64] := by
  obtain ⟨n, rfl⟩ : ∃ n : Nat, a = n := ⟨a.toNat, by omega⟩
  exact natI_3 (by omega) (by omega) (by omega)
theorem natJ_4 {a : Int} (h : 65536 ≤ a) (h' : a ≤ 1114111) : natI (encR a) = [240 + a / 262144, 128 + a / 4096 % 64, 128 + a / 64 % 64, 128 + a % 64] := by
  obtain ⟨n, rfl⟩ : ∃ n : Nat, a = n := ⟨a.toNat, by omega⟩
  exact natI_4 (by omega) (by omega)
theorem encs_len {l : List Int} (h : ∀ c, c ∈ l → RuneI c) : (encs l).length ≤ 4 * l.length ∧ l.length ≤ (encs l).length := by
  induction l with
  | nil => simp [encs]
  | cons c l ih =>
    obtain ⟨h1, h2⟩ := ih fun x hx => h x (List.mem_cons_of_mem _ hx)
    obtain ⟨_, _, h4, h5⟩ := enc_dec (h c (List.mem_cons_self ..)) []
    have : encs (c :: l) = encR c ++ encs l := by unfold encs; rw [List.flatMap_cons]
    rw [this, List.length_append, List.length_cons]
    omega
theorem encB_len {l : List Int} (h : ∀ c, c ∈ l → RuneI c) : (encB l).length ≤ 4 * l.length := by
  unfold encB natI
  rw [List.length_map]
  exact (encs_len h).1
theorem slr_rune {H : HP} {A : Option Addr} {n c i : Nat} {l : List Int} (h : SlR H 1 runv (.slice A n c) l) {w : World} (hw : Own H w) (hi : i < n) : ∃ b o a, A = some ⟨b, o, none⟩ ∧ l[i]? = some a ∧ ReadC H b (o + i) (.int .i32 a) := by
  obtain ⟨b, o, a, hA, hla, hwa⟩ := slr_get h hw hi
  exact ⟨b, o, a, hA, hla, by have := hwa.cell (i := 0) (by omega) (runv_0 a); rwa [Nat.mul_one] at this⟩
set_option maxRecDepth 20000 in
set_option maxHeartbeats 2000000 in
theorem utf8_s (c0 : World) (F : HP) (v : Value) (l : List Int) : Spec Tryd.prog c0 54 #[v] (pu (SlR F 1 runv v l ∧ (∀ c, c ∈ l → RuneI c) ∧ l.length ≤ 1000000) F) (fun r => pu (r = .string (rts l)) F) := by
  intro w hq; obtain ⟨⟨hsl, hI, hm⟩, hs⟩ := hq.pu; clear hq
  obtain ⟨A, c, rfl⟩ := slr_form hsl hs.own
  obtain ⟨_, h2, h3, _⟩ := slr_len hsl hs.own
  unfold maxLen at h3
  generalize hn : l.length = n at *
  replace hn := Lib.hid hn
  go_enter Tryd.func54, Tryd.ntmps54
  go_wp2_with fail
  go_loopw [3, 4] (fun u i wr => ∃ k : Nat, k ≤ n ∧ i = .int .i64 k ∧ Sat c0 (row 5 1 bytv u (encB (l.take k)) * F) wr) (fun _ i _ => n - (intOf i).toNat)
  case atStart => exact ⟨0, by omega, rfl, hs.mono ent_row_nil⟩
  case round =>
    clear hs
    obtain ⟨k, hk, rfl, hs⟩ := hrel
    obtain ⟨B, d, rfl, hd1, hd2⟩ := row_slice hs.own
    have hEl := encB_len (l := l.take k) fun x hx => hI x (List.mem_of_mem_take hx)
    have hkl : (l.take k).length ≤ k := List.length_take_le ..
    by_cases hlt : k < n
    · obtain ⟨b, o, a, rfl, hla, hwa⟩ := slr_rune hsl (hs.own.mono ent_drop) hlt
      have hR := hI a (List.mem_of_getElem? hla)
      have hsn := encB_take hla
      generalize encB (l.take k) = E at *
      unfold RuneI at hR
      obtain ⟨hx2, hx0, hx1⟩ := hR
      clear hla
      rcases (show a ≤ 127 ∨ (128 ≤ a ∧ a ≤ 2047) ∨ (2048 ≤ a ∧ a ≤ 65535) ∨ (65536 ≤ a ∧ a ≤ 1114111) by omega) with hc | hc | hc | hc
      · rw [natJ_1 hx2 hc] at hsn
        have hc1 : a ≤ 127 := hc
        clear hx1 hc hx0
        go_wp2_with (first
        | ((with_reducible apply pl_load1 hs); (focus (simp only [Act.eval, za, zb, zc, zd, ze, zf]; (try with_reducible rfl); done)); (focus (simp only [go_sem])); (focus ((repeat (first | (with_reducible (first | assumption | exact hec _ | exact hec2 _ | exact hec3 _ | exact hec4 _ _)) | ((with_reducible apply readc_here); (focus (first | (simp only [zc, zd, ze, go_sem]; (try with_reducible rfl); done) | (go_simp; (try with_reducible rfl); done)))) | (with_reducible (first | (apply readc_left; assumption) | refine readc_exh (by assumption) ?_ | refine readc_exh0 (by assumption) ?_ | apply readc_next)))); done)); (focus rfl); simp only [Act.put, zg, zh, zi])
        | ((with_reducible apply pl_bs1 hs); (with_reducible (first | exact bst_90)); (focus (simp only [Act.eval, za, zb, zc, zd, ze, zf]; (try with_reducible rfl); done)); (focus (first | (with_reducible (first | exact cells_intv _ | exact cells_bytv _ | exact cells_runv _ | exact cells_slv _ _ _ | exact cells_agg _ | exact cells_int _ _ | exact cells_bool _ | exact cells_string _ | exact cells_slice _ _ _ | exact cells_pointer _ | exact cells_map _ | exact cells_iface _ _ | exact cells_nilIface | exact cells_func _ _ _)) | (exact cells_one (by assumption)))); (focus (first | (with_reducible rfl) | (simp only [go_sem]; done) | (simp; done))); clear hs; (try clear w); intro g w hs; skip; simp only [Act.put, zg, zh, zi])
        | ((with_reducible apply pl_append1 hs); (with_reducible (first | exact app_22 | exact app_33 | exact app_47 | exact app_48 | exact app_80 | exact app_90 | exact app_97)); (focus (simp only [Act.eval, za, zb, zc, zd, ze, zf]; (try with_reducible rfl); done)); (first | (focus with_reducible (repeat (first | exact ent_here | apply ent_next | exact ent_last)); done) | (focus (with_reducible exact ent_row_nil)) | (focus ((with_reducible apply ent_row_of_blk); (focus with_reducible (repeat (first | exact ent_here | apply ent_next | exact ent_last)); done); (focus (simp only [go_sem]))))); (focus (simp only [Act.eval, za, zb, zc, zd, ze, zf]; (try with_reducible rfl); done)); (focus ((repeat (first | (with_reducible (first | assumption | exact hel _ | exact hel2 _ | exact hel3 _)) | ((with_reducible apply reads_whole); (focus (first | (with_reducible rfl) | (simp only [go_sem]; done) | (simp; done)))) | ((with_reducible apply reads_part); (focus (first | (simp [go_sem]; done) | (simp only [go_sem]; omega) | go_size)); (focus (first | (simp only [Nat.reduceAdd, Nat.zero_add, go_sem]; (try with_reducible rfl); done) | (simp [go_sem]; (try with_reducible rfl); done)))) | (with_reducible (first | (apply reads_left; assumption) | refine reads_exh (by assumption) ?_ | refine reads_exh0 (by assumption) ?_ | apply reads_next)))); done)); (focus (first | (simp only [maxLen] at *; omega) | (simp [maxLen] at *; omega))); (focus (first | (simp only [maxLen] at *; omega) | (simp [maxLen] at *; omega))); clear hs; (try clear w); intro Ap cq w hs; skip; simp only [Act.put, zg, zh, zi]))
        exact ⟨⟨k + 1, by omega, by go_num, hs.mono (by rw [hsn]; ((repeat (first | (with_reducible (first | exact ent_refl | exact ent_emp)) | ((with_reducible apply ent_front); (focus with_reducible (repeat (first | exact ent_here | apply ent_next | exact ent_last)); done)) | (with_reducible (first | exact ent_keep | apply ent_trans ent_drop)))); done))⟩, by simp [intOf]; omega⟩
      · rw [natJ_2 hc.1 hc.2] at hsn
        have hc1 := hc.1
        have hc2 := hc.2
        clear hx1 hc hx0
        go_wp2_with (first
        | ((with_reducible apply pl_bsL (enc := bytv) (s := 1) [192 + a / 64, 128 + a % 64] hs); (focus (intro w; go_simp; (try rfl); done)); (focus rfl); (focus rfl); (focus rfl); (focus (simp only [maxLen]; omega)); clear hs; (try clear w); intro g w hs; simp only [Act.put, zg, zh, zi])
        | ((with_reducible apply pl_load1 hs); (focus (simp only [Act.eval, za, zb, zc, zd, ze, zf]; (try with_reducible rfl); done)); (focus (simp only [go_sem])); (focus ((repeat (first | (with_reducible (first | assumption | exact hec _ | exact hec2 _ | exact hec3 _ | exact hec4 _ _)) | ((with_reducible apply readc_here); (focus (first | (simp only [zc, zd, ze, go_sem]; (try with_reducible rfl); done) | (go_simp; (try with_reducible rfl); done)))) | (with_reducible (first | (apply readc_left; assumption) | refine readc_exh (by assumption) ?_ | refine readc_exh0 (by assumption) ?_ | apply readc_next)))); done)); (focus rfl); simp only [Act.put, zg, zh, zi])
        | ((with_reducible apply pl_appendN hs); (with_reducible (first | exact app_22 | exact app_33 | exact app_47 | exact app_48 | exact app_80 | exact app_90 | exact app_97)); (focus (simp only [Act.eval, za, zb, zc, zd, ze, zf]; (try with_reducible rfl); done)); (first | (focus with_reducible (repeat (first | exact ent_here | apply ent_next | exact ent_last)); done) | (focus (with_reducible exact ent_row_nil)) | (focus ((with_reducible apply ent_row_of_blk); (focus with_reducible (repeat (first | exact ent_here | apply ent_next | exact ent_last)); done); (focus (simp only [go_sem]))))); (focus (simp only [Act.eval, za, zb, zc, zd, ze, zf]; (try with_reducible rfl); done)); (focus (first | ((repeat (first | (with_reducible (first | assumption | exact slr_ro |  exact hsl _ | exact hsl2 _ | exact hsl3 _ _ _ | exact slr_nil | exact slr_row (fun _ => by simp only [go_sem]) | exact slr_one (fun _ => by simp only [go_sem]) | (apply slr_left; assumption))) | (with_reducible apply slr_next))); done) | ((repeat (first | (with_reducible (first | assumption | exact slr_ro |  exact hsl _ | exact hsl2 _ | exact hsl3 _ _ _ | exact slr_nil | exact slr_row (fun _ => by simp only [go_sem]) | exact slr_one (fun _ => by simp only [go_sem]) | (apply slr_left; assumption))) | (with_reducible (first | (apply slr_exh; focus assumption) | (apply slr_exh0; focus assumption) | apply slr_next)))); done))); (focus (first | (simp only [maxLen] at *; omega) | (simp [maxLen] at *; omega))); (focus (first | (simp only [maxLen] at *; omega) | (simp [maxLen] at *; omega))); clear hs; (try clear w); intro Ap cq w hs; (try simp only [List.length_nil, Nat.zero_add, List.nil_append] at hs ⊢); simp only [Act.put, zg, zh, zi]))
        exact ⟨⟨k + 1, by omega, by go_num, hs.mono (by rw [hsn]; ((repeat (first | (with_reducible (first | exact ent_refl | exact ent_emp)) | ((with_reducible apply ent_front); (focus with_reducible (repeat (first | exact ent_here | apply ent_next | exact ent_last)); done)) | (with_reducible (first | exact ent_keep | apply ent_trans ent_drop)))); done))⟩, by simp [intOf]; omega⟩
      · rw [natJ_3 hc.1 hc.2 hx1] at hsn
        have hc1 := hc.1
        have hc2 := hc.2
        clear hx1 hc hx0
        go_wp2_with (first
        | ((with_reducible apply pl_bsL (enc := bytv) (s := 1) [224 + a / 4096, 128 + a / 64 % 64, 128 + a % 64] hs); (focus (intro w; go_simp; (try rfl); done)); (focus rfl); (focus rfl); (focus rfl); (focus (simp only [maxLen]; omega)); clear hs; (try clear w); intro g w hs; simp only [Act.put, zg, zh, zi])
        | ((with_reducible apply pl_load1 hs); (focus (simp only [Act.eval, za, zb, zc, zd, ze, zf]; (try with_reducible rfl); done)); (focus (simp only [go_sem])); (focus ((repeat (first | (with_reducible (first | assumption | exact hec _ | exact hec2 _ | exact hec3 _ | exact hec4 _ _)) | ((with_reducible apply readc_here); (focus (first | (simp only [zc, zd, ze, go_sem]; (try with_reducible rfl); done) | (go_simp; (try with_reducible rfl); done)))) | (with_reducible (first | (apply readc_left; assumption) | refine readc_exh (by assumption) ?_ | refine readc_exh0 (by assumption) ?_ | apply readc_next)))); done)); (focus rfl); simp only [Act.put, zg, zh, zi])
        | ((with_reducible apply pl_appendN hs); (with_reducible (first | exact app_22 | exact app_33 | exact app_47 | exact app_48 | exact app_80 | exact app_90 | exact app_97)); (focus (simp only [Act.eval, za, zb, zc, zd, ze, zf]; (try with_reducible rfl); done)); (first | (focus with_reducible (repeat (first | exact ent_here | apply ent_next | exact ent_last)); done) | (focus (with_reducible exact ent_row_nil)) | (focus ((with_reducible apply ent_row_of_blk); (focus with_reducible (repeat (first | exact ent_here | apply ent_next | exact ent_last)); done); (focus (simp only [go_sem]))))); (focus (simp only [Act.eval, za, zb, zc, zd, ze, zf]; (try with_reducible rfl); done)); (focus (first | ((repeat (first | (with_reducible (first | assumption | exact slr_ro |  exact hsl _ | exact hsl2 _ | exact hsl3 _ _ _ | exact slr_nil | exact slr_row (fun _ => by simp only [go_sem]) | exact slr_one (fun _ => by simp only [go_sem]) | (apply slr_left; assumption))) | (with_reducible apply slr_next))); done) | ((repeat (first | (with_reducible (first | assumption | exact slr_ro |  exact hsl _ | exact hsl2 _ | exact hsl3 _ _ _ | exact slr_nil | exact slr_row (fun _ => by simp only [go_sem]) | exact slr_one (fun _ => by simp only [go_sem]) | (apply slr_left; assumption))) | (with_reducible (first | (apply slr_exh; focus assumption) | (apply slr_exh0; focus assumption) | apply slr_next)))); done))); (focus (first | (simp only [maxLen] at *; omega) | (simp [maxLen] at *; omega))); (focus (first | (simp only [maxLen] at *; omega) | (simp [maxLen] at *; omega))); clear hs; (try clear w); intro Ap cq w hs; (try simp only [List.length_nil, Nat.zero_add, List.nil_append] at hs ⊢); simp only [Act.put, zg, zh, zi]))
        exact ⟨⟨k + 1, by omega, by go_num, hs.mono (by rw [hsn]; ((repeat (first | (with_reducible (first | exact ent_refl | exact ent_emp)) | ((with_reducible apply ent_front); (focus with_reducible (repeat (first | exact ent_here | apply ent_next | exact ent_last)); done)) | (with_reducible (first | exact ent_keep | apply ent_trans ent_drop)))); done))⟩, by simp [intOf]; omega⟩
      · rw [natJ_4 hc.1 hc.2] at hsn
        have hc1 := hc.1
        clear hx1 hc
        go_wp2_with (first
        | ((with_reducible apply pl_bsL (enc := bytv) (s := 1) [240 + a / 262144, 128 + a / 4096 % 64, 128 + a / 64 % 64, 128 + a % 64] hs); (focus (intro w; go_simp; (try rfl); done)); (focus rfl); (focus rfl); (focus rfl); (focus (simp only [maxLen]; omega)); clear hs; (try clear w); intro g w hs; simp only [Act.put, zg, zh, zi])
        | ((with_reducible apply pl_load1 hs); (focus (simp only [Act.eval, za, zb, zc, zd, ze, zf]; (try with_reducible rfl); done)); (focus (simp only [go_sem])); (focus ((repeat (first | (with_reducible (first | assumption | exact hec _ | exact hec2 _ | exact hec3 _ | exact hec4 _ _)) | ((with_reducible apply readc_here); (focus (first | (simp only [zc, zd, ze, go_sem]; (try with_reducible rfl); done) | (go_simp; (try with_reducible rfl); done)))) | (with_reducible (first | (apply readc_left; assumption) | refine readc_exh (by assumption) ?_ | refine readc_exh0 (by assumption) ?_ | apply readc_next)))); done)); (focus rfl); simp only [Act.put, zg, zh, zi])
        | ((with_reducible apply pl_appendN hs); (with_reducible (first | exact app_22 | exact app_33 | exact app_47 | exact app_48 | exact app_80 | exact app_90 | exact app_97)); (focus (simp only [Act.eval, za, zb, zc, zd, ze, zf]; (try with_reducible rfl); done)); (first | (focus with_reducible (repeat (first | exact ent_here | apply ent_next | exact ent_last)); done) | (focus (with_reducible exact ent_row_nil)) | (focus ((with_reducible apply ent_row_of_blk); (focus with_reducible (repeat (first | exact ent_here | apply ent_next | exact ent_last)); done); (focus (simp only [go_sem]))))); (focus (simp only [Act.eval, za, zb, zc, zd, ze, zf]; (try with_reducible rfl); done)); (focus (first | ((repeat (first | (with_reducible (first | assumption | exact slr_ro |  exact hsl _ | exact hsl2 _ | exact hsl3 _ _ _ | exact slr_nil | exact slr_row (fun _ => by simp only [go_sem]) | exact slr_one (fun _ => by simp only [go_sem]) | (apply slr_left; assumption))) | (with_reducible apply slr_next))); done) | ((repeat (first | (with_reducible (first | assumption | exact slr_ro |  exact hsl _ | exact hsl2 _ | exact hsl3 _ _ _ | exact slr_nil | exact slr_row (fun _ => by simp only [go_sem]) | exact slr_one (fun _ => by simp only [go_sem]) | (apply slr_left; assumption))) | (with_reducible (first | (apply slr_exh; focus assumption) | (apply slr_exh0; focus assumption) | apply slr_next)))); done))); (focus (first | (simp only [maxLen] at *; omega) | (simp [maxLen] at *; omega))); (focus (first | (simp only [maxLen] at *; omega) | (simp [maxLen] at *; omega))); clear hs; (try clear w); intro Ap cq w hs; (try simp only [List.length_nil, Nat.zero_add, List.nil_append] at hs ⊢); simp only [Act.put, zg, zh, zi]))
        exact ⟨⟨k + 1, by omega, by go_num, hs.mono (by rw [hsn]; ((repeat (first | (with_reducible (first | exact ent_refl | exact ent_emp)) | ((with_reducible apply ent_front); (focus with_reducible (repeat (first | exact ent_here | apply ent_next | exact ent_last)); done)) | (with_reducible (first | exact ent_keep | apply ent_trans ent_drop)))); done))⟩, by simp [intOf]; omega⟩
    · have hfin : encB (l.take k) = encB l := by rw [List.take_of_length_le (by have := hn.out; omega)]
      have hb5 : (encB l).length ≤ 140737488355328 := by rw [← hfin]; omega
      rw [hfin] at hs hd1 ⊢
      clear hfin hEl
      go_wp2_with (first
        | ((with_reducible apply pl_cvBS hs); (focus (simp only [Act.eval, za, zb, zc, zd, ze, zf]; (try with_reducible rfl); done)); (first | (with_reducible exact byt_90_9)); (focus (first | ((repeat (first | (with_reducible (first | assumption | exact slr_ro |  exact hsl _ | exact hsl2 _ | exact hsl3 _ _ _ | exact slr_nil | exact slr_row (fun _ => by simp only [go_sem]) | exact slr_one (fun _ => by simp only [go_sem]) | (apply slr_left; assumption))) | (with_reducible apply slr_next))); done) | ((repeat (first | (with_reducible (first | assumption | exact slr_ro |  exact hsl _ | exact hsl2 _ | exact hsl3 _ _ _ | exact slr_nil | exact slr_row (fun _ => by simp only [go_sem]) | exact slr_one (fun _ => by simp only [go_sem]) | (apply slr_left; assumption))) | (with_reducible (first | (apply slr_exh; focus assumption) | (apply slr_exh0; focus assumption) | apply slr_next)))); done))); (focus rfl); simp only [Act.put, zg, zh, zi]))
      (go_ret; simp only [za, zb, zc, zd, ze, zf])
      exact ⟨_, rfl, hs.mono (ent_pu (by rw [bts_encB]) (by ((repeat (first | (with_reducible (first | exact ent_refl | exact ent_emp)) | ((with_reducible apply ent_front); (focus with_reducible (repeat (first | exact ent_here | apply ent_next | exact ent_last)); done)) | (with_reducible (first | exact ent_keep | apply ent_trans ent_drop)))); done)))⟩
end Go.Proofs.YtgoifgockcpnhaaDoor

set_option linter.unusedSimpArgs false
set_option linter.unusedVariables false
namespace Go.Proofs.YtgoifgockcpnhaaDoor
open Go Go.RowKit

abbrev dfB : ByteArray := ⟨#[100, 105, 102, 102]⟩
/-- The reasons that a reading of two texts has. -/
structure ErrB (F : HP) (a : Nat → Addr) : Prop where
  ad : ∀ k, k = 3 ∨ k = 13 → ReadC F (gl k) 0 (.iface 125 (.pointer (some (a k))))
theorem ErrA.b {F : HP} {a : Nat → Addr} (h : ErrA F a) : ErrB F a := ⟨fun k hk => h.ad k (by omega) (by omega)⟩
theorem ErrB.next {A R : HP} {a : Nat → Addr} (h : ErrB R a) : ErrB (A * R) a := ⟨fun k h1 => readc_next (h.ad k h1)⟩
theorem ErrB.left {A R : HP} {a : Nat → Addr} (h : ErrB A a) : ErrB (A * R) a := ⟨fun k h1 => readc_left (h.ad k h1)⟩
theorem ErrB.exh {hR : Hp} {H A : HP} {a : Nat → Addr} (hh : H.on hR) (h : ErrB H a) : ErrB (Exh hR * A) a := ⟨fun k h1 => readc_exh hh (h.ad k h1)⟩
theorem ErrB.exh0 {hR : Hp} {H : HP} {a : Nat → Addr} (hh : H.on hR) (h : ErrB H a) : ErrB (Exh hR) a := ⟨fun k h1 => readc_exh0 hh (h.ad k h1)⟩
theorem ErrB.text {F : HP} {a : Nat → Addr} (h : ErrB F a) : ReadC F 0 0 (.iface 125 (.pointer (some (a 3)))) := h.ad 3 (.inl rfl)
theorem ErrB.room {F : HP} {a : Nat → Addr} (h : ErrB F a) : ReadC F 1 0 (.iface 125 (.pointer (some (a 13)))) := h.ad 13 (.inr rfl)
theorem fnewR_s (c0 : World) (F : HP) (a : Nat → Addr) (x y : ByteArray) (n : Int) (k : Nat) : Spec Tryd.prog c0 58 #[.string x, .string y, .int .i64 n, .iface 125 (.pointer (some (a k)))]
    (pu (1 ≤ k ∧ k ≤ 13) F) (fun r => RefP a (some ([⟨x, y, atV n⟩], k)) r * F) := fun w hs => by
  obtain ⟨⟨h1, h2⟩, hs⟩ := hs.pu
  refine (fnew_s c0 F x y n _ (some (a k)) w hs).mono fun e w' ⟨v, he, h⟩ => ⟨v, he, ?_⟩
  obtain ⟨g, h⟩ := h.ex
  obtain ⟨hv, h3⟩ := h.pu
  subst hv
  refine h3.mono ?_
  dsimp only [RefP]
  rw [pu_star]
  refine ent_pu ⟨h1, h2, by simp⟩ ?_
  exact ent_trans (star_mono ent_refl fch_one) (fch_more (l := ⟨x, y, atV n⟩))
@[go_sem] theorem idx2_0 (x y : ByteArray) (w : World) : (Instr.index 94 (.agg #[.string x, .string y]) (.int .i64 0)).run Tryd.prog w = .ok (.string x) w := by kernel_rfl
@[go_sem] theorem idx2_1 (x y : ByteArray) (w : World) : (Instr.index 94 (.agg #[.string x, .string y]) (.int .i64 1)).run Tryd.prog w = .ok (.string y) w := by kernel_rfl
/-- What is read of two texts. -/
def txtR (A B : ByteArray) : Except (Int × Nat) (List Int × List Int) := match runesL A.data.toList, runesL B.data.toList with
  | none, _ => .error (0, 3)
  | some _, none => .error (1, 3)
  | some x, some y => if 0 < x.length ∧ (4194304 : Int) / (x.length : Int) < (y.length : Int) then .error (-1, 13) else .ok (x, y)
/-- .. by the program. -/
def TxR (a : Nat → Addr) (call A B : ByteArray) (F : HP) (r : Value) : HP := match txtR A B with
  | .ok (x, y) => ex fun u : Value => ex fun v : Value => pu (r = .tuple #[u, v, .nilIface]) (row 21 1 runv u x * (row 21 1 runv v y * F))
  | .error (p, k) => ex fun e : Value => pu (r = .tuple #[.slice none 0 0, .slice none 0 0, e]) (RefP a (some ([⟨dfB, call, p⟩], k)) e * F)
theorem txR_ok {a : Nat → Addr} {call A B : ByteArray} {F : HP} {x y : List Int} {u v : Value} (h : txtR A B = .ok (x, y)) : Ent (row 21 1 runv u x * (row 21 1 runv v y * F)) (TxR a call A B F (.tuple #[u, v, .nilIface])) := by
  unfold TxR; rw [h]; exact ent_ex u (ent_ex v (ent_pu rfl ent_refl))
theorem txR_no {a : Nat → Addr} {call A B : ByteArray} {F : HP} {p : Int} {k : Nat} {e : Value} (h : txtR A B = .error (p, k)) : Ent (RefP a (some ([⟨dfB, call, p⟩], k)) e * F) (TxR a call A B F (.tuple #[.slice none 0 0, .slice none 0 0, e])) := by
  unfold TxR; rw [h]; exact ent_ex e (ent_pu rfl ent_refl)
theorem runes_len {s : ByteArray} {l : List Int} (h : runesL s.data.toList = some l) : l.length ≤ s.size := (encs_runes _ _ _ (Nat.le_refl _) h).2.2
theorem runes_in {s : ByteArray} {l : List Int} (h : runesL s.data.toList = some l) : ∀ c, c ∈ l → RuneI c := (encs_runes _ _ _ (Nat.le_refl _) h).2.1
set_option maxRecDepth 20000 in
set_option maxHeartbeats 2000000 in
theorem texts_s (c0 : World) (F : HP) (a : Nat → Addr) (call A B : ByteArray) : Spec Tryd.prog c0 31 #[.string call, .string A, .string B] (pu (ErrB F a ∧ TabF F ∧ A.size ≤ 1000000 ∧ B.size ≤ 1000000) F) (TxR a call A B F) := by
  intro w hq; obtain ⟨⟨hE, hT, hA, hB⟩, hs⟩ := hq.pu; clear hq
  have hgt := hE.text
  have hgr := hE.room
  go_enter Tryd.func31, Tryd.ntmps31
  go_wp2_with (first
        | ((with_reducible apply pl_build hs); (focus (simp only [zj, zk, zl, Act.eval, za, zb, zc, zd, ze, zf]; (try with_reducible rfl); done)); (first | (with_reducible exact bld_6 _ _)); (focus rfl); simp only [Act.put, zg, zh, zi]))
  go_loopw [16] (fun i wr => ∃ k : Nat, k ≤ 2 ∧ i = .int .i64 k ∧ (1 ≤ k → (runesL A.data.toList).isSome = true) ∧ (2 ≤ k → (runesL B.data.toList).isSome = true) ∧ Sat c0 F wr) (fun i _ => 2 - (intOf i).toNat)
  case atStart => exact ⟨0, by omega, rfl, by omega, by omega, hs⟩
  case round =>
    clear hs
    obtain ⟨k, hk, rfl, hkA, hkB, hs⟩ := hrel
    rcases (show k = 0 ∨ k = 1 ∨ k = 2 by omega) with rfl | rfl | rfl
    · clear hkA hkB
      rcases Option.eq_none_or_eq_some (runesL A.data.toList) with hx | ⟨x, hx⟩
      ·
        have hR : txtR A B = .error (0, 3) := by unfold txtR; rw [hx]
        replace hR := Lib.hid hR
        go_wp2_with (first
        | ((with_reducible apply pl_call hs (valid_s _ _ _)); ((((focus (simp only [zj, zk, zl, List.append_toArray, List.nil_append, List.cons_append, Act.eval, za, zb, zc, zd, ze, zf]; (try with_reducible rfl); done)); (focus ((repeat (first | (with_reducible (first | exact ent_refl | apply ent_puR)) | ((with_reducible apply ent_front); (focus with_reducible (repeat (first | exact ent_here | apply ent_next | exact ent_last)); done)) | (with_reducible (first | exact ent_keep | apply ent_trans ent_drop)) | (focus (first | ((repeat' (first | (with_reducible assumption) | (with_reducible apply And.intro) | omega)); done))))); done)); (focus (simp only [go_sem]))))); clear hs; (try clear w); intro v w hq; (obtain ⟨hv, hs⟩ := hq.pu; rw [hx] at hv; subst hv); clear hq; (try simp only [star_assoc, star_emp, emp_star] at hs); (try simp only [Act.put, zg, zh, zi]))
        | ((with_reducible apply pl_call hs (fnewR_s _ _ a _ _ _ 3)); ((((focus (simp only [zj, zk, zl, List.append_toArray, List.nil_append, List.cons_append, Act.eval, za, zb, zc, zd, ze, zf]; (try with_reducible rfl); done)); (focus ((repeat (first | (with_reducible (first | exact ent_refl | apply ent_puR)) | ((with_reducible apply ent_front); (focus with_reducible (repeat (first | exact ent_here | apply ent_next | exact ent_last)); done)) | (with_reducible (first | exact ent_keep | apply ent_trans ent_drop)) | (focus (first | ((repeat' (first | (with_reducible apply And.intro) | omega)); done))))); done)); (focus (simp only [go_sem]))))); clear hs; (try clear w); intro v w hq; (have hs := hq; rw [show atV ((0 : Nat) : Int) = 0 from rfl] at hs); clear hq; (try simp only [star_assoc, star_emp, emp_star] at hs); (try simp only [Act.put, zg, zh, zi]))
        | ((with_reducible apply pl_load1 hs); (focus (simp only [Act.eval, za, zb, zc, zd, ze, zf]; (try with_reducible rfl); done)); (focus (simp only [go_sem])); (focus ((repeat (first | (with_reducible (first | assumption | exact hec _ | exact hec2 _ | exact hec3 _ | exact hec4 _ _)) | ((with_reducible apply readc_here); (focus (first | (simp only [zc, zd, ze, go_sem]; (try with_reducible rfl); done) | (go_simp; (try with_reducible rfl); done)))) | (with_reducible (first | (apply readc_left; assumption) | refine readc_exh (by assumption) ?_ | refine readc_exh0 (by assumption) ?_ | apply readc_next)))); done)); (focus rfl); simp only [Act.put, zg, zh, zi]))
        (go_ret3; simp only [za, zb, zc, zd, ze, zf])
        exact ⟨_, rfl, hs.mono (ent_trans (by ((repeat (first | (with_reducible (first | exact ent_refl | exact ent_emp)) | ((with_reducible apply ent_front); (focus with_reducible (repeat (first | exact ent_here | apply ent_next | exact ent_last)); done)) | (with_reducible (first | exact ent_keep | apply ent_trans ent_drop)))); done)) (txR_no hR.out))⟩
      ·
        have hxs : (runesL A.data.toList).isSome = true := by rw [hx]; rfl
        replace hxs := Lib.hid hxs
        go_wp2_with (first
        | ((with_reducible apply pl_call hs (valid_s _ _ _)); ((((focus (simp only [zj, zk, zl, List.append_toArray, List.nil_append, List.cons_append, Act.eval, za, zb, zc, zd, ze, zf]; (try with_reducible rfl); done)); (focus ((repeat (first | (with_reducible (first | exact ent_refl | apply ent_puR)) | ((with_reducible apply ent_front); (focus with_reducible (repeat (first | exact ent_here | apply ent_next | exact ent_last)); done)) | (with_reducible (first | exact ent_keep | apply ent_trans ent_drop)) | (focus (first | ((repeat' (first | (with_reducible assumption) | (with_reducible apply And.intro) | omega)); done))))); done)); (focus (simp only [go_sem]))))); clear hs; (try clear w); intro v w hq; (obtain ⟨hv, hs⟩ := hq.pu; rw [hx] at hv; subst hv); clear hq; (try simp only [star_assoc, star_emp, emp_star] at hs); (try simp only [Act.put, zg, zh, zi])))
        exact ⟨⟨1, by omega, rfl, fun _ => hxs.out, by omega, hs⟩, by simp [intOf]⟩
    · have hxs := hkA (by omega)
      clear hkA hkB
      obtain ⟨x, hx⟩ := Option.isSome_iff_exists.1 hxs
      replace hxs := Lib.hid hxs
      rcases Option.eq_none_or_eq_some (runesL B.data.toList) with hy | ⟨y, hy⟩
      ·
        have hR : txtR A B = .error (1, 3) := by unfold txtR; rw [hx, hy]
        replace hR := Lib.hid hR
        go_wp2_with (first
        | ((with_reducible apply pl_call hs (valid_s _ _ _)); ((((focus (simp only [zj, zk, zl, List.append_toArray, List.nil_append, List.cons_append, Act.eval, za, zb, zc, zd, ze, zf]; (try with_reducible rfl); done)); (focus ((repeat (first | (with_reducible (first | exact ent_refl | apply ent_puR)) | ((with_reducible apply ent_front); (focus with_reducible (repeat (first | exact ent_here | apply ent_next | exact ent_last)); done)) | (with_reducible (first | exact ent_keep | apply ent_trans ent_drop)) | (focus (first | ((repeat' (first | (with_reducible assumption) | (with_reducible apply And.intro) | omega)); done))))); done)); (focus (simp only [go_sem]))))); clear hs; (try clear w); intro v w hq; (obtain ⟨hv, hs⟩ := hq.pu; rw [hy] at hv; subst hv); clear hq; (try simp only [star_assoc, star_emp, emp_star] at hs); (try simp only [Act.put, zg, zh, zi]))
        | ((with_reducible apply pl_call hs (fnewR_s _ _ a _ _ _ 3)); ((((focus (simp only [zj, zk, zl, List.append_toArray, List.nil_append, List.cons_append, Act.eval, za, zb, zc, zd, ze, zf]; (try with_reducible rfl); done)); (focus ((repeat (first | (with_reducible (first | exact ent_refl | apply ent_puR)) | ((with_reducible apply ent_front); (focus with_reducible (repeat (first | exact ent_here | apply ent_next | exact ent_last)); done)) | (with_reducible (first | exact ent_keep | apply ent_trans ent_drop)) | (focus (first | ((repeat' (first | (with_reducible apply And.intro) | omega)); done))))); done)); (focus (simp only [go_sem]))))); clear hs; (try clear w); intro v w hq; (have hs := hq; rw [show atV ((1 : Nat) : Int) = 1 from rfl] at hs); clear hq; (try simp only [star_assoc, star_emp, emp_star] at hs); (try simp only [Act.put, zg, zh, zi]))
        | ((with_reducible apply pl_load1 hs); (focus (simp only [Act.eval, za, zb, zc, zd, ze, zf]; (try with_reducible rfl); done)); (focus (simp only [go_sem])); (focus ((repeat (first | (with_reducible (first | assumption | exact hec _ | exact hec2 _ | exact hec3 _ | exact hec4 _ _)) | ((with_reducible apply readc_here); (focus (first | (simp only [zc, zd, ze, go_sem]; (try with_reducible rfl); done) | (go_simp; (try with_reducible rfl); done)))) | (with_reducible (first | (apply readc_left; assumption) | refine readc_exh (by assumption) ?_ | refine readc_exh0 (by assumption) ?_ | apply readc_next)))); done)); (focus rfl); simp only [Act.put, zg, zh, zi]))
        (go_ret3; simp only [za, zb, zc, zd, ze, zf])
        exact ⟨_, rfl, hs.mono (ent_trans (by ((repeat (first | (with_reducible (first | exact ent_refl | exact ent_emp)) | ((with_reducible apply ent_front); (focus with_reducible (repeat (first | exact ent_here | apply ent_next | exact ent_last)); done)) | (with_reducible (first | exact ent_keep | apply ent_trans ent_drop)))); done)) (txR_no hR.out))⟩
      ·
        have hys : (runesL B.data.toList).isSome = true := by rw [hy]; rfl
        replace hys := Lib.hid hys
        go_wp2_with (first
        | ((with_reducible apply pl_call hs (valid_s _ _ _)); ((((focus (simp only [zj, zk, zl, List.append_toArray, List.nil_append, List.cons_append, Act.eval, za, zb, zc, zd, ze, zf]; (try with_reducible rfl); done)); (focus ((repeat (first | (with_reducible (first | exact ent_refl | apply ent_puR)) | ((with_reducible apply ent_front); (focus with_reducible (repeat (first | exact ent_here | apply ent_next | exact ent_last)); done)) | (with_reducible (first | exact ent_keep | apply ent_trans ent_drop)) | (focus (first | ((repeat' (first | (with_reducible assumption) | (with_reducible apply And.intro) | omega)); done))))); done)); (focus (simp only [go_sem]))))); clear hs; (try clear w); intro v w hq; (obtain ⟨hv, hs⟩ := hq.pu; rw [hy] at hv; subst hv); clear hq; (try simp only [star_assoc, star_emp, emp_star] at hs); (try simp only [Act.put, zg, zh, zi])))
        exact ⟨⟨2, by omega, rfl, fun _ => hxs.out, fun _ => hys.out, hs⟩, by simp [intOf]⟩
    · obtain ⟨x, hx⟩ := Option.isSome_iff_exists.1 (hkA (by omega))
      obtain ⟨y, hy⟩ := Option.isSome_iff_exists.1 (hkB (by omega))
      clear hkA hkB
      have hxl := runes_len hx
      have hyl := runes_len hy
      have hxm : x.length ≤ maxLen := by unfold maxLen; omega
      have hym : y.length ≤ maxLen := by unfold maxLen; omega
      have hR : txtR A B = if 0 < x.length ∧ (4194304 : Int) / (x.length : Int) < (y.length : Int) then .error (-1, 13) else .ok (x, y) := by unfold txtR; rw [hx, hy]
      replace hR := Lib.hid hR
      by_cases h0 : 0 < x.length
      · have hz : (x.length : Int) ≠ 0 := by omega
        have hz1 : (0 : Int) < (x.length : Int) := by omega
        by_cases hr : (4194304 : Int) / (x.length : Int) < (y.length : Int)
        · have hR2 : txtR A B = .error (-1, 13) := by rw [hR.out, if_pos ⟨h0, hr⟩]
          replace hR2 := Lib.hid hR2
          clear hR
          go_wp2_with (first
        | ((with_reducible rewrite [pl_strike_eq]); rotate_left 1; (focus rfl))
        | ((with_reducible apply pl_call hs (fnewR_s _ _ a _ _ _ 13)); ((((focus (simp only [zj, zk, zl, List.append_toArray, List.nil_append, List.cons_append, Act.eval, za, zb, zc, zd, ze, zf]; (try with_reducible rfl); done)); (focus ((repeat (first | (with_reducible (first | exact ent_refl | apply ent_puR)) | ((with_reducible apply ent_front); (focus with_reducible (repeat (first | exact ent_here | apply ent_next | exact ent_last)); done)) | (with_reducible (first | exact ent_keep | apply ent_trans ent_drop)) | (focus (first | ((repeat' (first | (with_reducible apply And.intro) | omega)); done))))); done)); (focus (simp only [go_sem]))))); clear hs; (try clear w); intro v w hq; (have hs := hq; rw [atV_m1] at hs); clear hq; (try simp only [star_assoc, star_emp, emp_star] at hs); (try simp only [Act.put, zg, zh, zi]))
        | ((with_reducible apply pl_load1 hs); (focus (simp only [Act.eval, za, zb, zc, zd, ze, zf]; (try with_reducible rfl); done)); (focus (simp only [go_sem])); (focus ((repeat (first | (with_reducible (first | assumption | exact hec _ | exact hec2 _ | exact hec3 _ | exact hec4 _ _)) | ((with_reducible apply readc_here); (focus (first | (simp only [zc, zd, ze, go_sem]; (try with_reducible rfl); done) | (go_simp; (try with_reducible rfl); done)))) | (with_reducible (first | (apply readc_left; assumption) | refine readc_exh (by assumption) ?_ | refine readc_exh0 (by assumption) ?_ | apply readc_next)))); done)); (focus rfl); simp only [Act.put, zg, zh, zi])
        | ((with_reducible apply pl_cvSR hs); (first | (with_reducible exact rut_33_9)); (focus (simp only [Act.eval, za, zb, zc, zd, ze, zf]; (try with_reducible rfl); done)); (focus with_reducible assumption); (focus (first | (with_reducible assumption) | omega | (simp; done) | (simp; omega))); clear hs; (try clear w); intro g cq w hs; simp only [Act.put, zg, zh, zi]))
          (go_ret3; simp only [za, zb, zc, zd, ze, zf])
          exact ⟨_, rfl, hs.mono (ent_trans (by ((repeat (first | (with_reducible (first | exact ent_refl | exact ent_emp)) | ((with_reducible apply ent_front); (focus with_reducible (repeat (first | exact ent_here | apply ent_next | exact ent_last)); done)) | (with_reducible (first | exact ent_keep | apply ent_trans ent_drop)))); done)) (txR_no hR2.out))⟩
        · have hR2 : txtR A B = .ok (x, y) := by rw [hR.out, if_neg (fun h => hr h.2)]
          replace hR2 := Lib.hid hR2
          clear hR
          go_wp2_with (first
        | ((with_reducible rewrite [pl_strike_eq]); rotate_left 1; (focus rfl))
        | ((with_reducible apply pl_cvSR hs); (first | (with_reducible exact rut_33_9)); (focus (simp only [Act.eval, za, zb, zc, zd, ze, zf]; (try with_reducible rfl); done)); (focus with_reducible assumption); (focus (first | (with_reducible assumption) | omega | (simp; done) | (simp; omega))); clear hs; (try clear w); intro g cq w hs; simp only [Act.put, zg, zh, zi]))
          (go_ret3; simp only [za, zb, zc, zd, ze, zf])
          exact ⟨_, rfl, hs.mono (ent_trans (by ((repeat (first | (with_reducible (first | exact ent_refl | exact ent_emp)) | ((with_reducible apply ent_front); (focus with_reducible (repeat (first | exact ent_here | apply ent_next | exact ent_last)); done)) | (with_reducible (first | exact ent_keep | apply ent_trans ent_drop)))); done)) (txR_ok hR2.out))⟩
      · have hz1 : ¬ ((0 : Int) < (x.length : Int)) := by omega
        have hR2 : txtR A B = .ok (x, y) := by rw [hR.out, if_neg (fun h => h0 h.1)]
        replace hR2 := Lib.hid hR2
        clear hR
        go_wp2_with (first
        | ((with_reducible apply pl_cvSR hs); (first | (with_reducible exact rut_33_9)); (focus (simp only [Act.eval, za, zb, zc, zd, ze, zf]; (try with_reducible rfl); done)); (focus with_reducible assumption); (focus (first | (with_reducible assumption) | omega | (simp; done) | (simp; omega))); clear hs; (try clear w); intro g cq w hs; simp only [Act.put, zg, zh, zi]))
        (go_ret3; simp only [za, zb, zc, zd, ze, zf])
        exact ⟨_, rfl, hs.mono (ent_trans (by ((repeat (first | (with_reducible (first | exact ent_refl | exact ent_emp)) | ((with_reducible apply ent_front); (focus with_reducible (repeat (first | exact ent_here | apply ent_next | exact ent_last)); done)) | (with_reducible (first | exact ent_keep | apply ent_trans ent_drop)))); done)) (txR_ok hR2.out))⟩
/-! ### by the document -/
theorem results_ttc {P : Program} {fn : Func} {a : Act} {w : World} {p u v : Tmp} {ty : TypeId} {n : Nat} {d : TypeDesc} {R : Ending → World → Prop} (hr : fn.results = #[.tmp u, .tmp v, .cell p ty]) (hu : P.underlying ty = some d) (hd : isAggD d = true) (hi : (P.info? ty).map (·.size) = some n)
    (g : Nat) (hp : a.tmps.getD p undef = .pointer (some ⟨g, 0, none⟩)) (cs : Array Value) (hw : win w g 0 n = some cs) (hdf : a.defers = []) (h : R (.returned (.tuple #[a.tmps.getD u undef, a.tmps.getD v undef, .agg cs])) w) : bodyPost P fn R .ret a w := by
  refine bodyPost_ret ?_ hdf h
  have hp' : a.tmps[p]?.getD undef = .pointer (some ⟨g, 0, none⟩) := by simpa using hp
  simp [results, hr, hp', asAddr, run_loadVar_win hu hd hi hw]
theorem runesS_s (c0 : World) (F : HP) (s : ByteArray) (l : List Int) : Spec Tryd.prog c0 14 #[.string s] (pu (s.size ≤ 1000000 ∧ runesL s.data.toList = some l) F) (fun r => ex fun v : Value => pu (r = .tuple #[v, .bool true]) (row 21 1 runv v l * F)) := fun w hs => by
  obtain ⟨⟨h1, h2⟩, hs⟩ := hs.pu
  have := runes_s c0 F s w (hs.mono (ent_pu h1 ent_refl))
  unfold runesR at this
  rw [h2] at this
  exact this
theorem runesN_s (c0 : World) (F : HP) (s : ByteArray) : Spec Tryd.prog c0 14 #[.string s] (pu (s.size ≤ 1000000 ∧ runesL s.data.toList = none) F) (fun r => pu (r = .tuple #[.slice none 0 0, .bool false]) F) := fun w hs => by
  obtain ⟨⟨h1, h2⟩, hs⟩ := hs.pu
  have := runes_s c0 F s w (hs.mono (ent_pu h1 ent_refl))
  unfold runesR at this
  rw [h2] at this
  exact this
end Go.Proofs.YtgoifgockcpnhaaDoor
