/- Distance: by the program, by the document. -/
import Derived.Test.YtgoifgockcpnhaaDoorZDC7AV
import Derived.Test.YtgoifgockcpnhaaDoorZDC7AW
set_option linter.unusedSimpArgs false
set_option linter.unusedVariables false
namespace Go.Proofs.YtgoifgockcpnhaaDoor
open Go Go.RowKit

def dA (x y : List Int) (i j : Nat) : Nat := dst (x.drop i) (y.drop j)
theorem dA_end {x y : List Int} {i j : Nat} (h : x.length = i) (hj : j ≤ y.length) : dA x y i j = y.length - j := by
  unfold dA
  rw [List.drop_of_length_le (by omega), dst_nil, List.length_drop]
theorem dA_end' {x y : List Int} {i j : Nat} (h : y.length = j) (hi : i ≤ x.length) : dA x y i j = x.length - i := by
  unfold dA
  rw [List.drop_of_length_le (l := y) (by omega), dst_nil', List.length_drop]
theorem drop_get {l : List Int} {i : Nat} {a : Int} (h : l[i]? = some a) : l.drop i = a :: l.drop (i + 1) := by
  obtain ⟨hi, rfl⟩ := List.getElem?_eq_some_iff.1 h
  exact List.drop_eq_getElem_cons hi
theorem dA_eq {x y : List Int} {i j : Nat} {c : Int} (hx : x[i]? = some c) (hy : y[j]? = some c) : dA x y i j = dA x y (i + 1) (j + 1) := by
  unfold dA
  rw [drop_get hx, drop_get hy, dst_eq]
theorem dA_ne {x y : List Int} {i j : Nat} {a b : Int} (hx : x[i]? = some a) (hy : y[j]? = some b) (h : a ≠ b) : dA x y i j = 1 + min (dA x y (i + 1) j) (dA x y i (j + 1)) := by
  unfold dA
  rw [drop_get hx, drop_get hy, dst_ne h]
theorem dA_le (x y : List Int) (i j : Nat) : dA x y i j ≤ x.length + y.length := by
  unfold dA
  have := (dst_len (x.drop i) (y.drop j)).1
  rw [List.length_drop, List.length_drop] at this
  omega
def tabR (x y : List Int) (i : Nat) : List Int := (List.range (y.length + 1)).map fun j => (dA x y i j : Int)
def tabL (x y : List Int) : List (List Int) := (List.range (x.length + 1)).map (tabR x y)
theorem tabR_len (x y : List Int) (i : Nat) : (tabR x y i).length = y.length + 1 := by unfold tabR; simp
theorem tabL_len (x y : List Int) : (tabL x y).length = x.length + 1 := by unfold tabL; simp
theorem tabR_get {x y : List Int} {i j : Nat} (h : j ≤ y.length) : (tabR x y i)[j]? = some (dA x y i j : Int) := by
  unfold tabR
  rw [List.getElem?_map, List.getElem?_range (by omega)]
  rfl
theorem tabL_get {x y : List Int} {i : Nat} (h : i ≤ x.length) : (tabL x y)[i]? = some (tabR x y i) := by
  unfold tabL
  rw [List.getElem?_map, List.getElem?_range (by omega)]
  rfl
theorem tabL_drop {x y : List Int} {i : Nat} (h : i ≤ x.length) : (tabL x y).drop i = tabR x y i :: (tabL x y).drop (i + 1) := by
  obtain ⟨hi, he⟩ := List.getElem?_eq_some_iff.1 (tabL_get (y := y) h)
  rw [List.drop_eq_getElem_cons hi, he]
/-- A row of which the places from j on are right. -/
def part (x y : List Int) (i j : Nat) : List Int := List.replicate j 0 ++ (tabR x y i).drop j
theorem part_all (x y : List Int) (i : Nat) : part x y i (y.length + 1) = List.replicate (y.length + 1) 0 := by
  unfold part
  rw [List.drop_of_length_le (by rw [tabR_len]; exact Nat.le_refl _), List.append_nil]
theorem part_0 (x y : List Int) (i : Nat) : part x y i 0 = tabR x y i := rfl
theorem part_get {x y : List Int} {i j k : Nat} (h : j ≤ k) (hk : k ≤ y.length) : (part x y i j)[k]? = some (dA x y i k : Int) := by
  unfold part
  rw [List.getElem?_append_right (by rw [List.length_replicate]; exact h), List.length_replicate, List.getElem?_drop, show j + (k - j) = k by omega, tabR_get hk]
theorem part_at {x y : List Int} {i j : Nat} (hj : j ≤ y.length) : (part x y i (j + 1))[j]? = some 0 := by
  unfold part
  rw [List.getElem?_append_left (by simp), List.getElem?_replicate, if_pos (by omega)]
theorem part_set {x y : List Int} {i j : Nat} (hj : j ≤ y.length) {v : Int} (hv : v = (dA x y i j : Int)) : (part x y i (j + 1)).set j v = part x y i j := by
  subst hv
  have hg := tabR_get (x := x) (i := i) hj
  obtain ⟨hl, he⟩ := List.getElem?_eq_some_iff.1 hg
  unfold part
  rw [List.drop_eq_getElem_cons hl, he, List.replicate_succ', List.append_assoc, List.set_append_right _ _ (by rw [List.length_replicate]; exact Nat.le_refl _), List.length_replicate, Nat.sub_self]
  rfl
/-- The table's slices: the first k of them are not there yet. -/
def slots (k : Nat) (ts : List SlD) : List SlD := List.replicate k sl0 ++ ts
theorem slots_at (k : Nat) (ts : List SlD) : (slots (k + 1) ts)[k]? = some sl0 := by
  unfold slots
  rw [List.getElem?_append_left (by simp), List.getElem?_replicate, if_pos (by omega)]
theorem slots_set (k : Nat) (ts : List SlD) (t : SlD) : (slots (k + 1) ts).set k t = slots k (t :: ts) := by
  unfold slots
  rw [List.replicate_succ', List.append_assoc, List.set_append_right _ _ (by rw [List.length_replicate]; exact Nat.le_refl _), List.length_replicate, Nat.sub_self]
  rfl
theorem slots_get (k j : Nat) (ts : List SlD) : (slots k ts)[k + j]? = ts[j]? := by
  unfold slots
  rw [List.getElem?_append_right (by rw [List.length_replicate]; omega), List.length_replicate, show k + j - k = j by omega]
/-- A row of one's own, read at a place. -/
theorem row_read {α : Type} {E : TypeId} {n cap g : Nat} {enc : α → Array Value} {l : List α} {i : Nat} {a : α} {v : Value} (hi : l[i]? = some a) (he : enc a = #[v]) (hs : ∀ a, (enc a).size = 1) : ∀ R, ReadC (row E 1 enc (.slice (some ⟨g, 0, none⟩) n cap) l * R) g i v := fun R => by
  have h := reads_row (E := E) (g := g) (n := n) (cap := cap) (R := R) hs hi
  have h2 := h.cell (i := 0) (v := v) (by omega) (by rw [he]; rfl)
  rwa [Nat.mul_one] at h2
theorem row_some {α : Type} {E : TypeId} {enc : α → Array Value} {v : Value} {l : List α} {R : HP} {w : World} (h : Own (row E 1 enc v l * R) w) (hl : 0 < l.length) : ∃ g cap, v = .slice (some ⟨g, 0, none⟩) l.length cap := by
  rcases row_form h with ⟨_, he⟩ | ⟨g, cap, he, _, _⟩
  · rw [he] at hl; simp at hl
  · exact ⟨g, cap, he⟩
abbrev tbl (gt : Nat) (u v d : Value) : HP := blk gt (.cells #[u, v, d] 99 (0, 0))
set_option maxRecDepth 20000 in
set_option maxHeartbeats 4000000 in
theorem made_s (c0 : World) (F : HP) (u v : Value) (x y : List Int) : Spec Tryd.prog c0 32 #[u, v] (pu (SlR F 1 runv u x ∧ SlR F 1 runv v y ∧ x.length ≤ 1000000 ∧ y.length ≤ 1000000) F)
    (fun r => ex fun gt : Nat => ex fun gd : Nat => ex fun ts : List SlD => pu (r = .pointer (some ⟨gt, 0, none⟩) ∧ ts.length = x.length + 1) (tbl gt u v (.slice (some ⟨gd, 0, none⟩) (x.length + 1) (x.length + 1)) * (row 33 1 slv (.slice (some ⟨gd, 0, none⟩) (x.length + 1) (x.length + 1)) ts * (rowsOf 21 1 runv ts (tabL x y) * F)))) := by
  intro w hq; obtain ⟨⟨hu, hv, hxl, hyl⟩, hs⟩ := hq.pu; clear hq
  obtain ⟨A, c, rfl⟩ := slr_form hu hs.own
  obtain ⟨B, d, rfl⟩ := slr_form hv hs.own
  have hlA := (slr_len hu hs.own).2
  have hlB := (slr_len hv hs.own).2
  have hpa := part_all x y
  have htl := tabL_len x y
  have hd0 := fun i j (h : x.length = i) (hj : j ≤ y.length) => dA_end (x := x) (y := y) h hj
  have hd1 := fun i j (h : y.length = j) (hi : i ≤ x.length) => dA_end' (x := x) (y := y) h hi
  have hps := fun i j (hj : j ≤ y.length) (v : Int) (hv : v = (dA x y i j : Int)) => part_set (x := x) (y := y) (i := i) hj hv
  have hpt := fun i j (hj : j ≤ y.length) => part_at (x := x) (y := y) (i := i) hj
  have hpg := fun i j k (h : j ≤ k) (hk : k ≤ y.length) => part_get (x := x) (y := y) (i := i) h hk
  have htg := fun i j (hk : j ≤ y.length) => tabR_get (x := x) (y := y) (i := i) hk
  have htd := fun i (h : i ≤ x.length) => tabL_drop (x := x) (y := y) h
  have hle := fun i j => dA_le x y i j
  have htr := fun i => tabR_len x y i
  generalize hn : x.length = n at *
  generalize hm : y.length = m at *
  replace hn := Lib.hid hn; replace hm := Lib.hid hm; replace hpa := Lib.hid hpa; replace htl := Lib.hid htl; replace hd0 := Lib.hid hd0; replace hd1 := Lib.hid hd1; replace hps := Lib.hid hps; replace hpt := Lib.hid hpt; replace hpg := Lib.hid hpg; replace htg := Lib.hid htg; replace htd := Lib.hid htd; replace hle := Lib.hid hle; replace htr := Lib.hid htr
  unfold maxLen at hlA hlB
  obtain ⟨hA1, hA2, _⟩ := hlA
  obtain ⟨hB1, hB2, _⟩ := hlB
  go_enter Tryd.func32, Tryd.ntmps32
  go_wp2_with (first
        | (((with_reducible apply pl_make (n := n + 1) hs); (focus (with_reducible exact mk_97)); (focus (simp only [Act.eval, za, zb, zc, zd, ze, zf]; exact congrArg (Value.int .i64) (by omega))); (focus (simp only [Act.eval, za, zb, zc, zd, ze, zf]; exact congrArg (Value.int .i64) (by omega))); (focus (first | (simp only [maxLen] at *; omega) | (simp [maxLen] at *; omega))); (focus (simp only [maxLen]; omega)); clear hs; (try clear w); intro gd w hs; simp only [Act.put, zg, zh, zi]))
        | ((with_reducible apply pl_build hs); (focus (simp only [zj, zk, zl, Act.eval, za, zb, zc, zd, ze, zf]; (try with_reducible rfl); done)); (first | (with_reducible exact bld_7 _ _ _ _ _ _ _ _ _)); (focus rfl); simp only [Act.put, zg, zh, zi])
        | ((with_reducible apply pl_box hs); (focus (simp only [Act.eval, za, zb, zc, zd, ze, zf]; (try with_reducible rfl); done)); (focus (first | (with_reducible (first | exact cells_intv _ | exact cells_bytv _ | exact cells_runv _ | exact cells_slv _ _ _ | exact cells_agg _ | exact cells_int _ _ | exact cells_bool _ | exact cells_string _ | exact cells_slice _ _ _ | exact cells_pointer _ | exact cells_map _ | exact cells_iface _ _ | exact cells_nilIface | exact cells_func _ _ _)) | (exact cells_one (by assumption)))); clear hs; (try clear w); intro g w hs; skip; simp only [Act.put, zg, zh, zi]))
  obtain ⟨gt, hgg⟩ : ∃ q, q = g := ⟨_, rfl⟩
  subst hgg
  go_loopw [6] (fun i wr => ∃ (k : Nat) (ts : List SlD), k ≤ n + 1 ∧ i = .int .i64 ((k : Int) - 1) ∧ ts.length + k = n + 1 ∧ Sat c0 (tbl gt (.slice A n c) (.slice B m d) (.slice (some ⟨gd, 0, none⟩) (n + 1) (n + 1)) * (row 33 1 slv (.slice (some ⟨gd, 0, none⟩) (n + 1) (n + 1)) (slots k ts) * (rowsOf 21 1 runv ts ((tabL x y).drop k) * F))) wr) (fun i _ => (intOf i + 1).toNat)
  case atStart => exact ⟨n + 1, [], by omega, congrArg (Value.int .i64) (by omega), by simp, hs.mono (by rw [List.drop_of_length_le (by rw [htl.out]; exact Nat.le_refl _)]; unfold rowsOf slots; rw [emp_star, List.append_nil]; ((repeat (first | (with_reducible (first | exact ent_refl | exact ent_emp)) | ((with_reducible apply ent_front); (focus with_reducible (repeat (first | exact ent_here | apply ent_next | exact ent_last)); done)) | (with_reducible (first | exact ent_keep | apply ent_trans ent_drop)))); done))⟩
  case round =>
    clear hs
    obtain ⟨k, ts, hk, hi, hts, hs⟩ := hrel
    rcases Nat.eq_zero_or_pos k with rfl | hkp
    · have hi2 := hi.trans (congrArg (Value.int .i64) (show ((0 : Nat) : Int) - 1 = -1 by omega))
      clear hi
      subst hi2
      rw [show slots 0 ts = ts from by simp [slots], List.drop_zero] at hs
      go_wp2_with fail
      (go_ret; simp only [za, zb, zc, zd, ze, zf])
      exact ⟨_, rfl, hs.mono (ent_ex gt (ent_ex gd (ent_ex ts (ent_pu ⟨rfl, by omega⟩ (by ((repeat (first | (with_reducible (first | exact ent_refl | exact ent_emp)) | ((with_reducible apply ent_front); (focus with_reducible (repeat (first | exact ent_here | apply ent_next | exact ent_last)); done)) | (with_reducible (first | exact ent_keep | apply ent_trans ent_drop)))); done))))))⟩
    · obtain ⟨k, rfl⟩ : ∃ q, k = q + 1 := ⟨k - 1, by omega⟩
      have hi2 := hi.trans (congrArg (Value.int .i64) (show ((k + 1 : Nat) : Int) - 1 = (k : Int) by omega))
      clear hi
      subst hi2
      have hkn : k ≤ n := by omega
      have hls := slots_at k ts
      have hdr := htd.out k hkn
      replace hdr := Lib.hid hdr
      go_wp2_with (first
        | (((with_reducible apply pl_make (n := m + 1) hs); (focus (with_reducible exact mk_33)); (focus (simp only [Act.eval, za, zb, zc, zd, ze, zf]; exact congrArg (Value.int .i64) (by omega))); (focus (simp only [Act.eval, za, zb, zc, zd, ze, zf]; exact congrArg (Value.int .i64) (by omega))); (focus (first | (simp only [maxLen] at *; omega) | (simp [maxLen] at *; omega))); (focus (simp only [maxLen]; omega)); clear hs; (try clear w); intro gr w hs; simp only [Act.put, zg, zh, zi]))
        | (((with_reducible apply pl_storeIn (i := k) (j := 0) hs); (focus (simp only [Act.eval, za, zb, zc, zd, ze, zf]; (try with_reducible rfl); done)); (focus with_reducible (repeat (first | exact ent_here | apply ent_next | exact ent_last)); done); (focus (simp only [Act.eval, za, zb, zc, zd, ze, zf]; (try with_reducible rfl); done)); (focus (simp only [go_sem])); (focus rfl); (focus omega); (focus omega); (focus (exact hls)); (focus (exact slv_set _ _ _ _)); (focus (exact slv_size)); clear hs; (try clear w); intro w hs; simp only [Act.put, zg, zh, zi]))
        | ((with_reducible apply pl_load1 hs); (focus (simp only [Act.eval, za, zb, zc, zd, ze, zf]; (try with_reducible rfl); done)); (focus (simp only [go_sem])); (focus ((repeat (first | (with_reducible (first | assumption | exact hec _ | exact hec2 _ | exact hec3 _ | exact hec4 _ _)) | ((with_reducible apply readc_here); (focus (first | (simp only [zc, zd, ze, go_sem]; (try with_reducible rfl); done) | (go_simp; (try with_reducible rfl); done)))) | (with_reducible (first | (apply readc_left; assumption) | refine readc_exh (by assumption) ?_ | refine readc_exh0 (by assumption) ?_ | apply readc_next)))); done)); (focus rfl); simp only [Act.put, zg, zh, zi]))
      rw [slots_set, ← hpa.out k] at hs
      clear hls
      go_loopw [8] (fun jv wr => ∃ j : Nat, j ≤ m + 1 ∧ jv = .int .i64 ((j : Int) - 1) ∧ Sat c0 (row 21 1 runv (.slice (some ⟨gr, 0, none⟩) (m + 1) (m + 1)) (part x y k j) * (tbl gt (.slice A n c) (.slice B m d) (.slice (some ⟨gd, 0, none⟩) (n + 1) (n + 1)) * (row 33 1 slv (.slice (some ⟨gd, 0, none⟩) (n + 1) (n + 1)) (slots k (⟨some ⟨gr, 0, none⟩, m + 1, m + 1⟩ :: ts)) * (rowsOf 21 1 runv ts ((tabL x y).drop (k + 1)) * F)))) wr) (fun jv _ => (intOf jv + 1).toNat)
      case atStart => exact ⟨m + 1, by omega, congrArg (Value.int .i64) (by omega), hs.mono (by ((repeat (first | (with_reducible (first | exact ent_refl | exact ent_emp)) | ((with_reducible apply ent_front); (focus with_reducible (repeat (first | exact ent_here | apply ent_next | exact ent_last)); done)) | (with_reducible (first | exact ent_keep | apply ent_trans ent_drop)))); done))⟩
      case round =>
        clear hs
        obtain ⟨j, hj, hi, hs⟩ := hrel
        rcases Nat.eq_zero_or_pos j with rfl | hjp
        · have hi2 := hi.trans (congrArg (Value.int .i64) (show ((0 : Nat) : Int) - 1 = -1 by omega))
          clear hi
          subst hi2
          go_wp2_with fail
          refine ⟨⟨k, ⟨some ⟨gr, 0, none⟩, m + 1, m + 1⟩ :: ts, by omega, rfl, by simp only [List.length_cons]; omega, hs.mono ?_⟩, by simp only [intOf]; omega⟩
          rw [hdr.out, rowsOf, ← part_0]
          simp only [star_assoc]
          ((repeat (first | (with_reducible (first | exact ent_refl | exact ent_emp)) | ((with_reducible apply ent_front); (focus with_reducible (repeat (first | exact ent_here | apply ent_next | exact ent_last)); done)) | (with_reducible (first | exact ent_keep | apply ent_trans ent_drop)))); done)
        · obtain ⟨j, rfl⟩ : ∃ q, j = q + 1 := ⟨j - 1, by omega⟩
          have hi2 := hi.trans (congrArg (Value.int .i64) (show ((j + 1 : Nat) : Int) - 1 = (j : Int) by omega))
          clear hi
          subst hi2
          have hjm : j ≤ m := by omega
          have hlb := hpt.out k j hjm
          have hkj := hle.out k j
          by_cases hkn2 : k = n
          · have hset := hps.out k j hjm ((m : Int) - (j : Int)) (by rw [hd0.out k j (by omega) hjm]; omega)
            replace hset := Lib.hid hset
            subst hkn2
            go_wp2_with (first
        | (((with_reducible apply pl_storeIn (i := j) (j := 0) hs); (focus (simp only [Act.eval, za, zb, zc, zd, ze, zf]; (try with_reducible rfl); done)); (focus with_reducible (repeat (first | exact ent_here | apply ent_next | exact ent_last)); done); (focus (simp only [Act.eval, za, zb, zc, zd, ze, zf]; (try with_reducible rfl); done)); (focus (simp only [go_sem])); (focus rfl); (focus omega); (focus omega); (focus (exact hlb)); (focus (exact runv_set _ _)); (focus (exact runv_size)); clear hs; (try clear w); intro w hs; simp only [Act.put, zg, zh, zi])))
            exact ⟨⟨j, by omega, rfl, by rw [hset.out] at hs; exact hs.mono (by ((repeat (first | (with_reducible (first | exact ent_refl | exact ent_emp)) | ((with_reducible apply ent_front); (focus with_reducible (repeat (first | exact ent_here | apply ent_next | exact ent_last)); done)) | (with_reducible (first | exact ent_keep | apply ent_trans ent_drop)))); done))⟩, by simp only [intOf]; omega⟩
          · have hkl : (k : Int) < n := by omega
            have hke : ((k : Int) == (n : Int)) = false := by simp; omega
            by_cases hjm2 : j = m
            · have hset := hps.out k j hjm ((n : Int) - (k : Int)) (by rw [hd1.out k j (by omega) (by omega)]; omega)
              replace hset := Lib.hid hset
              subst hjm2
              go_wp2_with (first
        | (((with_reducible apply pl_storeIn (i := j) (j := 0) hs); (focus (simp only [Act.eval, za, zb, zc, zd, ze, zf]; (try with_reducible rfl); done)); (focus with_reducible (repeat (first | exact ent_here | apply ent_next | exact ent_last)); done); (focus (simp only [Act.eval, za, zb, zc, zd, ze, zf]; (try with_reducible rfl); done)); (focus (simp only [go_sem])); (focus rfl); (focus omega); (focus omega); (focus (exact hlb)); (focus (exact runv_set _ _)); (focus (exact runv_size)); clear hs; (try clear w); intro w hs; simp only [Act.put, zg, zh, zi])))
              exact ⟨⟨j, by omega, rfl, by rw [hset.out] at hs; exact hs.mono (by ((repeat (first | (with_reducible (first | exact ent_refl | exact ent_emp)) | ((with_reducible apply ent_front); (focus with_reducible (repeat (first | exact ent_here | apply ent_next | exact ent_last)); done)) | (with_reducible (first | exact ent_keep | apply ent_trans ent_drop)))); done))⟩, by simp only [intOf]; omega⟩
            · have hjl : (j : Int) < m := by omega
              have hje : ((j : Int) == (m : Int)) = false := by simp; omega
              have hown := hs.own.mono (ent_trans ent_drop (ent_trans ent_drop (ent_trans ent_drop ent_drop)))
              obtain ⟨bx, ox, ax, rfl, hxk, hcx⟩ := slr_rune hu hown (show k < n by omega)
              obtain ⟨by', oy, ay, rfl, hyj, hcy⟩ := slr_rune hv hown (show j < m by omega)
              obtain ⟨⟨p0, n0, q0⟩, ts, rfl⟩ : ∃ t0 ts', ts = t0 :: ts' := by
                match ts, hts with
                | [], hts => simp at hts; omega
                | t0 :: ts', _ => exact ⟨t0, ts', rfl⟩
              have hdr1 := htd.out (k + 1) (by omega)
              rw [hdr1, rowsOf] at hs
              simp only [star_assoc] at hs
              obtain ⟨g1, cap1, he1⟩ := row_some (hs.own.mono (ent_trans ent_drop (ent_trans ent_drop ent_drop))) (by rw [htr.out]; omega)
              rw [htr.out] at he1
              obtain ⟨rfl, rfl, rfl⟩ := sl_inj he1
              replace hdr1 := Lib.hid hdr1
              have hec := row_read (E := 33) (n := n + 1) (cap := n + 1) (g := gd) (enc := slv) (slots_get k 1 (⟨some ⟨gr, 0, none⟩, m + 1, m + 1⟩ :: ⟨some ⟨g1, 0, none⟩, m + 1, q0⟩ :: ts)) rfl (fun _ => rfl)
              have hec3 := row_read (E := 21) (n := m + 1) (cap := m + 1) (g := gr) (enc := runv) (hpg.out k (j + 1) (j + 1) (by omega) (by omega)) rfl (fun _ => rfl)
              have hb1 := hle.out (k + 1) j
              have hb2 := hle.out k (j + 1)
              by_cases hab : ax = ay
              · subst hab
                have hec2 := row_read (E := 21) (n := m + 1) (cap := q0) (g := g1) (enc := runv) (htg.out (k + 1) (j + 1) (by omega)) rfl (fun _ => rfl)
                have hset := hps.out k j hjm (dA x y (k + 1) (j + 1) : Int) (by rw [dA_eq hxk hyj])
                replace hset := Lib.hid hset
                replace hxk := Lib.hid hxk
                replace hyj := Lib.hid hyj
                go_wp2_with (first
        | ((with_reducible apply wp_region_sl (G := emp) (id := 15) hs 1000); (focus (exact ent_emp_l)); (focus kernel_rfl); (focus decide +kernel); clear hs; (try clear w); intro hR w hRR hs; (try simp only [star_assoc] at hs))
        | (((with_reducible apply pl_storeIn (i := j) (j := 0) hs); (focus (simp only [Act.eval, za, zb, zc, zd, ze, zf]; (try with_reducible rfl); done)); (focus with_reducible (repeat (first | exact ent_here | apply ent_next | exact ent_last)); done); (focus (simp only [Act.eval, za, zb, zc, zd, ze, zf]; (try with_reducible rfl); done)); (focus (simp only [go_sem])); (focus rfl); (focus omega); (focus omega); (focus (exact hlb)); (focus (exact runv_set _ _)); (focus (exact runv_size)); clear hs; (try clear w); intro w hs; simp only [Act.put, zg, zh, zi]))
        | ((with_reducible apply pl_load1 hs); (focus (simp only [Act.eval, za, zb, zc, zd, ze, zf]; (try with_reducible rfl); done)); (focus (simp only [go_sem])); (focus ((repeat (first | (with_reducible (first | assumption | exact hec _ | exact hec2 _ | exact hec3 _ | exact hec4 _ _)) | ((with_reducible apply readc_here); (focus (first | (simp only [zc, zd, ze, go_sem]; (try with_reducible rfl); done) | (go_simp; (try with_reducible rfl); done)))) | (with_reducible (first | (apply readc_left; assumption) | refine readc_exh (by assumption) ?_ | refine readc_exh0 (by assumption) ?_ | apply readc_next)))); done)); (focus rfl); simp only [Act.put, zg, zh, zi])
        | ((with_reducible apply mix_end hRR hs); (focus with_reducible (repeat (first | exact ent_here | apply ent_next | exact ent_last)); done); clear hs; (try clear w); intro w hs; (try simp only [star_assoc, star_emp, emp_star] at hs); clear hRR hR)
        | ((with_reducible apply mx_load1 hRR); (focus (simp only [Act.eval, za, zb, zc, zd, ze, zf]; (try with_reducible rfl); done)); (focus (simp only [go_sem])); (focus ((repeat (first | (with_reducible (first | assumption | exact hec _ | exact hec2 _ | exact hec3 _ | exact hec4 _ _)) | ((with_reducible apply readc_here); (focus (first | (simp only [zc, zd, ze, go_sem]; (try with_reducible rfl); done) | (go_simp; (try with_reducible rfl); done)))) | (with_reducible (first | (apply readc_left; assumption) | refine readc_exh (by assumption) ?_ | refine readc_exh0 (by assumption) ?_ | apply readc_next)))); done)); simp only [Act.put, zg, zh, zi])
        | ((with_reducible refine mix_float ?_ ?_ ?_ (fun h hk => ?_) ?_); rotate_left 1; (focus rfl); (focus rfl); (focus (go_simp; (try (rw [if_pos (by omega)]; (try go_simp))); (try simp (disch := omega) only [IntWalk.i64_in, IntWalk.i32_in]); (try with_reducible rfl); done)); simp only [Act.put, zg, zh, zi]))
                refine ⟨⟨j, by omega, rfl, ?_⟩, by simp only [intOf]; omega⟩
                rw [hset.out] at hs
                refine hs.mono ?_
                rw [hdr1.out, rowsOf]
                simp only [star_assoc]
                ((repeat (first | (with_reducible (first | exact ent_refl | exact ent_emp)) | ((with_reducible apply ent_front); (focus with_reducible (repeat (first | exact ent_here | apply ent_next | exact ent_last)); done)) | (with_reducible (first | exact ent_keep | apply ent_trans ent_drop)))); done)
              · have hec2 := row_read (E := 21) (n := m + 1) (cap := q0) (g := g1) (enc := runv) (htg.out (k + 1) j (by omega)) rfl (fun _ => rfl)
                have hset := hps.out k j hjm (1 + min (dA x y (k + 1) j : Int) (dA x y k (j + 1) : Int)) (by rw [dA_ne hxk hyj hab]; omega)
                have hne : (ax == ay) = false := by simpa using hab
                replace hset := Lib.hid hset
                replace hxk := Lib.hid hxk
                replace hyj := Lib.hid hyj
                go_wp2_with (first
        | ((with_reducible apply wp_region_sl (G := emp) (id := 15) hs 1000); (focus (exact ent_emp_l)); (focus kernel_rfl); (focus decide +kernel); clear hs; (try clear w); intro hR w hRR hs; (try simp only [star_assoc] at hs))
        | ((with_reducible apply wp_region_sl (G := emp) (id := 10) hs 21); (focus (exact ent_emp_l)); (focus kernel_rfl); (focus decide +kernel); clear hs; (try clear w); intro hR w hRR hs; (try simp only [star_assoc] at hs))
        | (((with_reducible apply pl_storeIn (i := j) (j := 0) hs); (focus (simp only [Act.eval, za, zb, zc, zd, ze, zf]; (try with_reducible rfl); done)); (focus with_reducible (repeat (first | exact ent_here | apply ent_next | exact ent_last)); done); (focus (simp only [Act.eval, za, zb, zc, zd, ze, zf]; (try with_reducible rfl); done)); (focus (simp only [go_sem])); (focus rfl); (focus omega); (focus omega); (focus (exact hlb)); (focus (exact runv_set _ _)); (focus (exact runv_size)); clear hs; (try clear w); intro w hs; simp only [Act.put, zg, zh, zi]))
        | ((with_reducible apply mix_end hRR hs); (focus with_reducible (repeat (first | exact ent_here | apply ent_next | exact ent_last)); done); clear hs; (try clear w); intro w hs; (try simp only [star_assoc, star_emp, emp_star] at hs); clear hRR hR)
        | ((with_reducible apply mix_thaw hRR hs); (focus with_reducible (repeat (first | exact ent_here | apply ent_next | exact ent_last)); done); clear hs; (try clear w); intro w hs; (try simp only [star_assoc, star_emp, emp_star] at hs); clear hRR hR)
        | ((with_reducible apply mx_load1 hRR); (focus (simp only [Act.eval, za, zb, zc, zd, ze, zf]; (try with_reducible rfl); done)); (focus (simp only [go_sem])); (focus ((repeat (first | (with_reducible (first | assumption | exact hec _ | exact hec2 _ | exact hec3 _ | exact hec4 _ _)) | ((with_reducible apply readc_here); (focus (first | (simp only [zc, zd, ze, go_sem]; (try with_reducible rfl); done) | (go_simp; (try with_reducible rfl); done)))) | (with_reducible (first | (apply readc_left; assumption) | refine readc_exh (by assumption) ?_ | refine readc_exh0 (by assumption) ?_ | apply readc_next)))); done)); simp only [Act.put, zg, zh, zi])
        | ((with_reducible refine mix_float ?_ ?_ ?_ (fun h hk => ?_) ?_); rotate_left 1; (focus rfl); (focus rfl); (focus (go_simp; (try (rw [if_pos (by omega)]; (try go_simp))); (try simp (disch := omega) only [IntWalk.i64_in, IntWalk.i32_in]); (try with_reducible rfl); done)); simp only [Act.put, zg, zh, zi]))
                refine ⟨⟨j, by omega, rfl, ?_⟩, by simp only [intOf]; omega⟩
                rw [hset.out] at hs
                refine hs.mono ?_
                rw [hdr1.out, rowsOf]
                simp only [star_assoc]
                ((repeat (first | (with_reducible (first | exact ent_refl | exact ent_emp)) | ((with_reducible apply ent_front); (focus with_reducible (repeat (first | exact ent_here | apply ent_next | exact ent_last)); done)) | (with_reducible (first | exact ent_keep | apply ent_trans ent_drop)))); done)
end Go.Proofs.YtgoifgockcpnhaaDoor

set_option linter.unusedSimpArgs false
set_option linter.unusedVariables false
namespace Go.Proofs.YtgoifgockcpnhaaDoor
open Go Go.RowKit

/-- The program's table, to be read. -/
structure TblF (F : HP) (gt : Nat) (u v : Value) (x y : List Int) : Prop where
  c0 : ReadC F gt 0 u
  c1 : ReadC F gt 1 v
  d : ∃ dv, ReadC F gt 2 dv ∧ Sl2 F 1 runv dv (tabL x y)
theorem TblF.next {A R : HP} {gt : Nat} {u v : Value} {x y : List Int} (h : TblF R gt u v x y) : TblF (A * R) gt u v x y :=
  ⟨readc_next h.c0, readc_next h.c1, h.d.elim fun dv ⟨h1, ts, h2, h3, h4⟩ => ⟨dv, readc_next h1, ts, slr_next h2, h3, fun i t l e1 e2 => slr_next (h4 i t l e1 e2)⟩⟩
theorem TblF.left {A R : HP} {gt : Nat} {u v : Value} {x y : List Int} (h : TblF A gt u v x y) : TblF (A * R) gt u v x y :=
  ⟨readc_left h.c0, readc_left h.c1, h.d.elim fun dv ⟨h1, ts, h2, h3, h4⟩ => ⟨dv, readc_left h1, ts, slr_left h2, h3, fun i t l e1 e2 => slr_left (h4 i t l e1 e2)⟩⟩
theorem TblF.exh {hR : Hp} {H A : HP} {gt : Nat} {u v : Value} {x y : List Int} (hh : H.on hR) (h : TblF H gt u v x y) : TblF (Exh hR * A) gt u v x y :=
  ⟨readc_exh hh h.c0, readc_exh hh h.c1, h.d.elim fun dv ⟨h1, ts, h2, h3, h4⟩ => ⟨dv, readc_exh hh h1, ts, slr_exh hh h2, h3, fun i t l e1 e2 => slr_exh hh (h4 i t l e1 e2)⟩⟩
theorem TblF.exh0 {hR : Hp} {H : HP} {gt : Nat} {u v : Value} {x y : List Int} (hh : H.on hR) (h : TblF H gt u v x y) : TblF (Exh hR) gt u v x y :=
  ⟨readc_exh0 hh h.c0, readc_exh0 hh h.c1, h.d.elim fun dv ⟨h1, ts, h2, h3, h4⟩ => ⟨dv, readc_exh0 hh h1, ts, slr_exh0 hh h2, h3, fun i t l e1 e2 => slr_exh0 hh (h4 i t l e1 e2)⟩⟩
theorem tblF_of {gt gd : Nat} {u v : Value} {x y : List Int} {ts : List SlD} {F : HP} (h : ts.length = x.length + 1) {n : Nat} : TblF (tbl gt u v (.slice (some ⟨gd, 0, none⟩) n n) * (row 33 1 slv (.slice (some ⟨gd, 0, none⟩) n n) ts * (rowsOf 21 1 runv ts (tabL x y) * F))) gt u v x y :=
  ⟨readc_here rfl, readc_here rfl, _, readc_here rfl, ts, slr_next (slr_row (fun _ => rfl)), by rw [h, tabL_len], fun i t l e1 e2 => slr_next (slr_next (slr_rowsOf (s := 1) (enc := runv) (fun _ => rfl) e1 e2))⟩
theorem sl2_at {α : Type} {H : HP} {enc : α → Array Value} {f : α → Value} {A : Option Addr} {n c i : Nat} {ls : List (List α)} {l : List α} (h : Sl2 H 1 enc (.slice A n c) ls) (hf : ∀ a, enc a = #[f a]) {w : World} (hw : Own H w) (hi : ls[i]? = some l) {j : Nat} {a : α} (hj : l[j]? = some a) :
    ∃ g o B m d g' o', A = some ⟨g, o, none⟩ ∧ i < n ∧ j < m ∧ ReadC H g (o + i) (.slice (some ⟨g', o', none⟩) m d) ∧ B = () ∧ ReadC H g' (o' + j) (f a) := by
  obtain ⟨ts, h1, h2, h3⟩ := h
  have hn := (slr_len h1 hw).1
  have hil : i < ls.length := (List.getElem?_eq_some_iff.1 hi).1
  obtain ⟨g, o, t, hA, ht, hr⟩ := slr_get h1 hw (show i < n by omega)
  have hs := h3 i t l ht hi
  have hm := (slr_len hs hw).1
  have hjl : j < l.length := (List.getElem?_eq_some_iff.1 hj).1
  obtain ⟨g', o', a', hA', ha', hr'⟩ := slr_get hs hw (show j < t.n by omega)
  have : a' = a := by rw [hj] at ha'; exact (Option.some.inj ha').symm
  subst this
  refine ⟨g, o, (), t.n, t.c, g', o', hA, by omega, by omega, ?_, rfl, ?_⟩
  · have := hr.cell (i := 0) (by omega) (slv_0 t)
    rw [hA'] at this
    rwa [Nat.mul_one] at this
  · have := hr'.cell (i := 0) (v := f a') (by omega) (by rw [hf]; rfl)
    rwa [Nat.mul_one] at this
set_option maxRecDepth 20000 in
theorem at_s (c0 : World) (F : HP) (gt : Nat) (u v : Value) (x y : List Int) (i j : Nat) : Spec Tryd.prog c0 33 #[.pointer (some ⟨gt, 0, none⟩), .int .i64 i, .int .i64 j] (pu (TblF F gt u v x y ∧ i ≤ x.length ∧ j ≤ y.length ∧ x.length ≤ 1000000 ∧ y.length ≤ 1000000) F) (fun r => pu (r = .int .i64 (dA x y i j : Nat)) F) := by
  intro w hq; obtain ⟨⟨hT, hi, hj, hx, hy⟩, hs⟩ := hq.pu; clear hq
  obtain ⟨dv, h2, hSl⟩ := hT.d
  have hd := hSl
  obtain ⟨ts, h1, _⟩ := hd
  obtain ⟨A, c, rfl⟩ := slr_form h1 hs.own
  obtain ⟨g, o, B, m, d, g', o', rfl, hin, hjm, hr1, _, hr2⟩ := sl2_at hSl (f := fun i => Value.int .i32 i) (fun _ => rfl) hs.own (tabL_get hi) (tabR_get (x := x) (i := i) hj)
  have hle := dA_le x y i j
  generalize dA x y i j = D at *
  have hle2 : (D : Int) ≤ 2000000 := by omega
  obtain ⟨_, hl2, hl3, _⟩ := slr_len h1 hs.own
  generalize ts.length = N at *
  clear hSl h1 hT hle hx hy
  go_enter Tryd.func33, Tryd.ntmps33
  go_wp2_with (first
        | ((with_reducible apply pl_load1 hs); (focus (simp only [Act.eval, za, zb, zc, zd, ze, zf]; (try with_reducible rfl); done)); (focus (simp only [go_sem])); (focus ((repeat (first | (with_reducible (first | assumption | exact hec _ | exact hec2 _ | exact hec3 _ | exact hec4 _ _)) | ((with_reducible apply readc_here); (focus (first | (simp only [zc, zd, ze, go_sem]; (try with_reducible rfl); done) | (go_simp; (try with_reducible rfl); done)))) | (with_reducible (first | (apply readc_left; assumption) | refine readc_exh (by assumption) ?_ | refine readc_exh0 (by assumption) ?_ | apply readc_next)))); done)); (focus rfl); simp only [Act.put, zg, zh, zi]))
  (go_ret; simp only [za, zb, zc, zd, ze, zf])
  exact ⟨_, rfl, hs.mono (ent_pu rfl (by ((repeat (first | (with_reducible (first | exact ent_refl | exact ent_emp)) | ((with_reducible apply ent_front); (focus with_reducible (repeat (first | exact ent_here | apply ent_next | exact ent_last)); done)) | (with_reducible (first | exact ent_keep | apply ent_trans ent_drop)))); done)))⟩
theorem at0_s (c0 : World) (F : HP) (gt : Nat) (u v : Value) (x y : List Int) : Spec Tryd.prog c0 33 #[.pointer (some ⟨gt, 0, none⟩), .int .i64 0, .int .i64 0] (pu (TblF F gt u v x y ∧ x.length ≤ 1000000 ∧ y.length ≤ 1000000) F) (fun r => pu (r = .int .i64 (dst x y : Nat)) F) := fun w hs => by
  obtain ⟨⟨h1, h2, h3⟩, hs⟩ := hs.pu
  exact at_s c0 F gt u v x y 0 0 w (hs.mono (ent_pu ⟨h1, by omega, by omega, h2, h3⟩ ent_refl))
/-- What Distance answers. -/
def DiR (a : Nat → Addr) (A B : ByteArray) (F : HP) (r : Value) : HP := match txtR A B with
  | .ok (x, y) => pu (r = .tuple #[.int .i64 (dst x y : Nat), .nilIface]) F
  | .error (p, k) => ex fun e : Value => pu (r = .tuple #[.int .i64 0, e]) (RefP a (some ([⟨dfB, ⟨#[68, 105, 115, 116, 97, 110, 99, 101]⟩, p⟩], k)) e * F)
abbrev cDi : ByteArray := ⟨#[68, 105, 115, 116, 97, 110, 99, 101]⟩
theorem txt_ok {A B : ByteArray} {x y : List Int} (h : txtR A B = .ok (x, y)) : runesL A.data.toList = some x ∧ runesL B.data.toList = some y := by
  unfold txtR at h
  split at h
  · cases h
  · cases h
  · rename_i h1 h2
    split at h
    · cases h
    · cases h
      exact ⟨h1, h2⟩
theorem textsS_s (c0 : World) (F : HP) (a : Nat → Addr) (call A B : ByteArray) (x y : List Int) (h : txtR A B = .ok (x, y)) : Spec Tryd.prog c0 31 #[.string call, .string A, .string B] (pu (ErrB F a ∧ TabF F ∧ A.size ≤ 1000000 ∧ B.size ≤ 1000000) F) (fun r => ex fun u : Value => ex fun v : Value => pu (r = .tuple #[u, v, .nilIface]) (row 21 1 runv u x * (row 21 1 runv v y * F))) := by
  have := texts_s c0 F a call A B
  unfold TxR at this
  rw [h] at this
  exact this
theorem textsN_s (c0 : World) (F : HP) (a : Nat → Addr) (call A B : ByteArray) (p : Int) (k : Nat) (h : txtR A B = .error (p, k)) : Spec Tryd.prog c0 31 #[.string call, .string A, .string B] (pu (ErrB F a ∧ TabF F ∧ A.size ≤ 1000000 ∧ B.size ≤ 1000000) F) (fun r => ex fun e : Value => pu (r = .tuple #[.slice none 0 0, .slice none 0 0, e]) (RefP a (some ([⟨dfB, call, p⟩], k)) e * F)) := by
  have := texts_s c0 F a call A B
  unfold TxR at this
  rw [h] at this
  exact this
theorem refP_iface {a : Nat → Addr} {ls : List LinkD} {k : Nat} {v : Value} {F : HP} {c w : World} (hs : Sat c (RefP a (some (ls, k)) v * F) w) : ∃ t p, v = .iface t (.pointer p) := fch_iface (refP_some hs).2
set_option maxRecDepth 20000 in
set_option maxHeartbeats 1000000 in
theorem distance_s (c0 : World) (F : HP) (a : Nat → Addr) (A B : ByteArray) : Spec Tryd.prog c0 13 #[.string A, .string B] (pu (ErrB F a ∧ TabF F ∧ A.size ≤ 1000000 ∧ B.size ≤ 1000000) F) (DiR a A B F) := by
  intro w hq; obtain ⟨⟨hE, hT, hA, hB⟩, hs⟩ := hq.pu; clear hq
  cases hR : txtR A B with
  | error pk =>
    obtain ⟨p, k⟩ := pk
    unfold DiR
    rw [hR]
    have hsp := fun F => textsN_s c0 F a cDi A B p k hR
    clear hR
    go_enter Tryd.func13, Tryd.ntmps13
    go_wp2_with (first
        | ((with_reducible apply pl_call hs (hsp _)); ((((focus (simp only [zj, zk, zl, List.append_toArray, List.nil_append, List.cons_append, Act.eval, za, zb, zc, zd, ze, zf]; (try with_reducible rfl); done)); (focus ((repeat (first | (with_reducible (first | exact ent_refl | apply ent_puR)) | ((with_reducible apply ent_front); (focus with_reducible (repeat (first | exact ent_here | apply ent_next | exact ent_last)); done)) | (with_reducible (first | exact ent_keep | apply ent_trans ent_drop)) | (focus (first | ((repeat' (first | (with_reducible assumption) | (with_reducible apply And.intro))); done))))); done)); (focus (simp only [go_sem]))))); clear hs; (try clear w); intro v w hq; (obtain ⟨e, hq1⟩ := hq.ex; obtain ⟨rfl, hs⟩ := hq1.pu; clear hq1; obtain ⟨te, pe, rfl⟩ := refP_iface hs); clear hq; (try simp only [star_assoc, star_emp, emp_star] at hs); (try simp only [Act.put, zg, zh, zi])))
    (go_ret2; simp only [za, zb, zc, zd, ze, zf])
    exact ⟨_, rfl, hs.mono (ent_ex _ (ent_pu rfl (by ((repeat (first | (with_reducible (first | exact ent_refl | exact ent_emp)) | ((with_reducible apply ent_front); (focus with_reducible (repeat (first | exact ent_here | apply ent_next | exact ent_last)); done)) | (with_reducible (first | exact ent_keep | apply ent_trans ent_drop)))); done))))⟩
  | ok xy =>
    obtain ⟨x, y⟩ := xy
    unfold DiR
    rw [hR]
    have hsp := fun F => textsS_s c0 F a cDi A B x y hR
    have hxl := runes_len (txt_ok hR).1
    have hyl := runes_len (txt_ok hR).2
    have hD : (dA x y 0 0 : Nat) = dst x y := rfl
    clear hR
    go_enter Tryd.func13, Tryd.ntmps13
    go_wp2_with (first
        | ((with_reducible apply pl_call hs (hsp _)); ((((focus (simp only [zj, zk, zl, List.append_toArray, List.nil_append, List.cons_append, Act.eval, za, zb, zc, zd, ze, zf]; (try with_reducible rfl); done)); (focus ((repeat (first | (with_reducible (first | exact ent_refl | apply ent_puR)) | ((with_reducible apply ent_front); (focus with_reducible (repeat (first | exact ent_here | apply ent_next | exact ent_last)); done)) | (with_reducible (first | exact ent_keep | apply ent_trans ent_drop)) | (focus (first | ((repeat' (first | (with_reducible assumption) | (with_reducible apply And.intro))); done))))); done)); (focus (simp only [go_sem]))))); clear hs; (try clear w); intro v w hq; (obtain ⟨u, hq1⟩ := hq.ex; obtain ⟨v, hq2⟩ := hq1.ex; obtain ⟨rfl, hs⟩ := hq2.pu; clear hq1 hq2); clear hq; (try simp only [star_assoc, star_emp, emp_star] at hs); (try simp only [Act.put, zg, zh, zi]))
        | ((with_reducible apply pl_call hs (made_s _ _ _ _ x y)); ((((focus (simp only [zj, zk, zl, List.append_toArray, List.nil_append, List.cons_append, Act.eval, za, zb, zc, zd, ze, zf]; (try with_reducible rfl); done)); (focus ((repeat (first | (with_reducible (first | exact ent_refl | apply ent_puR)) | ((with_reducible apply ent_front); (focus with_reducible (repeat (first | exact ent_here | apply ent_next | exact ent_last)); done)) | (with_reducible (first | exact ent_keep | apply ent_trans ent_drop)) | (focus (first | ((repeat' (first | (with_reducible apply And.intro) | omega | (focus (first | ((repeat (first | (with_reducible (first | assumption | exact slr_ro |  exact hsl _ | exact hsl2 _ | exact hsl3 _ _ _ | exact slr_nil | exact slr_row (fun _ => by simp only [go_sem]) | exact slr_one (fun _ => by simp only [go_sem]) | (apply slr_left; assumption))) | (with_reducible apply slr_next))); done) | ((repeat (first | (with_reducible (first | assumption | exact slr_ro |  exact hsl _ | exact hsl2 _ | exact hsl3 _ _ _ | exact slr_nil | exact slr_row (fun _ => by simp only [go_sem]) | exact slr_one (fun _ => by simp only [go_sem]) | (apply slr_left; assumption))) | (with_reducible (first | (apply slr_exh; focus assumption) | (apply slr_exh0; focus assumption) | apply slr_next)))); done))))); done))))); done)); (focus (simp only [go_sem]))))); clear hs; (try clear w); intro v w hq; (obtain ⟨gt, hq1⟩ := hq.ex; obtain ⟨gd, hq2⟩ := hq1.ex; obtain ⟨ts, hq3⟩ := hq2.ex; obtain ⟨⟨rfl, hts⟩, hs⟩ := hq3.pu; clear hq1 hq2 hq3; have hTb := tblF_of (gt := gt) (gd := gd) (u := u) (v := v) (y := y) (F := row 21 1 runv u x * (row 21 1 runv v y * F)) hts (n := x.length + 1)); clear hq; (try simp only [star_assoc, star_emp, emp_star] at hs); (try simp only [Act.put, zg, zh, zi]))
        | ((with_reducible apply pl_call hs (at0_s _ _ _ u v x y)); ((((focus (simp only [zj, zk, zl, List.append_toArray, List.nil_append, List.cons_append, Act.eval, za, zb, zc, zd, ze, zf]; (try with_reducible rfl); done)); (focus ((repeat (first | (with_reducible (first | exact ent_refl | apply ent_puR)) | ((with_reducible apply ent_front); (focus with_reducible (repeat (first | exact ent_here | apply ent_next | exact ent_last)); done)) | (with_reducible (first | exact ent_keep | apply ent_trans ent_drop)) | (focus (first | ((repeat' (first | (with_reducible assumption) | (with_reducible apply And.intro) | omega)); done))))); done)); (focus (simp only [go_sem]))))); clear hs; (try clear w); intro v w hq; (obtain ⟨rfl, hs⟩ := hq.pu); clear hq; (try simp only [star_assoc, star_emp, emp_star] at hs); (try simp only [Act.put, zg, zh, zi])))
    (go_ret2; simp only [za, zb, zc, zd, ze, zf])
    exact ⟨_, rfl, hs.mono (ent_pu rfl (by ((repeat (first | (with_reducible (first | exact ent_refl | exact ent_emp)) | ((with_reducible apply ent_front); (focus with_reducible (repeat (first | exact ent_here | apply ent_next | exact ent_last)); done)) | (with_reducible (first | exact ent_keep | apply ent_trans ent_drop)))); done)))⟩
end Go.Proofs.YtgoifgockcpnhaaDoor
