/- What items were written comes back; cut short, it is refused as short. -/
import Derived.Test.YtdniiegnaabagaaDoorVJ
import Derived.Test.YtdniiegnaabagaaDoorHY
set_option linter.unusedSimpArgs false
set_option linter.unusedVariables false
namespace Go.Proofs.YtdniiegnaabagaaDoor
open Go Go.RowKit

theorem codeNil_s (c0 : World) (F : HP) : Spec Tryd.prog c0 48 #[.nilIface] F (fun r => pu (r = .int .i64 0) F) := by
  intro w hs
  go_enter Tryd.func48, Tryd.ntmps48
  go_wp2_with (first
        | ((with_reducible apply pl_load1 hs); (focus (simp only [Act.eval, za, zb, zc, zd, ze, zf]; (try with_reducible rfl); done)); (focus (simp only [go_sem])); (focus ((repeat (first | (with_reducible (first | assumption | exact hec _ | exact hec2 _ | exact hec3 _ | exact hec4 _ _)) | ((with_reducible apply readc_here); (focus (first | (simp only [zc, zd, ze, go_sem]; (try with_reducible rfl); done) | (go_simp; (try with_reducible rfl); done)))) | (with_reducible (first | (apply readc_left; assumption) | refine readc_exh (by assumption) ?_ | refine readc_exh0 (by assumption) ?_ | apply readc_next)))); done)); (focus rfl); simp only [Act.put, zg, zh, zi])
        | ((with_reducible apply pl_alloc hs); (with_reducible (first | exact zero_3)); clear hs; (try clear w); intro g w hs; skip; simp only [Act.put, zg, zh, zi])
        | ((with_reducible apply pl_store1 hs); (focus (simp only [Act.eval, za, zb, zc, zd, ze, zf]; (try with_reducible rfl); done)); (focus (simp only [Act.eval, za, zb, zc, zd, ze, zf]; (try with_reducible rfl); done)); (focus (simp only [go_sem])); (focus with_reducible (repeat (first | exact ent_here | apply ent_next | exact ent_last)); done); (focus (first | (simp [go_sem]; done) | (simp only [go_sem]; omega) | go_size)); (focus (first | (simp only [go_sem]; done) | (simp [go_sem]; done))); clear hs; (try clear w); intro w hs; (try simp only [zg, zh, zi, itm_s0, itm_s1, itm_s2, itm_s3, cal_s0, cal_s1, cal_s2, lnk_s0, lnk_s1, lnk_s2, nov_s0, nov_s1, nov_s2, intv_set, bytv_set] at hs); simp only [Act.put, zg, zh, zi]))
  (go_ret; simp only [za, zb, zc, zd, ze, zf])
  exact ⟨_, rfl, hs.mono (ent_pu rfl (by ((repeat (first | (with_reducible (first | exact ent_refl | exact ent_emp)) | ((with_reducible apply ent_front); (focus with_reducible (repeat (first | exact ent_here | apply ent_next | exact ent_last)); done)) | (with_reducible (first | exact ent_keep | apply ent_trans ent_drop)))); done)))⟩
/-! ### a reader that has refused nothing, at a place -/
theorem rdOk {α : Type} {R : List Int} {p : Nat} {c : ByteArray} {z v : α} {p2 : Nat} {x : Except Nat (α × Nat)} (h : x = .ok (v, p2)) : (⟨R, p, none⟩ : RdS).call c z x = (v, ⟨R, p2, none⟩) := by
  unfold RdS.call; rw [h]; rfl
theorem rdNo {α : Type} {R : List Int} {p : Nat} {c : ByteArray} {z : α} {k : Nat} {x : Except Nat (α × Nat)} (h : x = .error k) : (⟨R, p, none⟩ : RdS).call c z x = (z, ⟨R, p, some (c, p, k)⟩) := by
  unfold RdS.call; rw [h]; rfl
theorem stOk {a : Nat → Addr} {g : Nat} {A : Option Addr} {n c p2 : Nat} {R : List Int} {F : HP} {c0 w : World} {r e2 v : Value} (f : Value → Value) (hv : r = f e2) (h : Sat c0 (rdr a g A n c e2 ⟨R, p2, none⟩ * F) w) : Sat c0 (pu (r = f .nilIface) (rdc g A n c (p2 : Nat) .nilIface * F)) w := by
  obtain ⟨rfl, h'⟩ := rdr_none rfl h
  exact h'.mono (ent_pu hv ent_refl)
theorem stNo {a : Nat → Addr} {g : Nat} {A : Option Addr} {n c p k : Nat} {cc : ByteArray} {R : List Int} {F : HP} {c0 w : World} {r e2 v : Value} (f : Value → Value) (hv : r = f e2) (h : Sat c0 (rdr a g A n c e2 ⟨R, p, some (cc, p, k)⟩ * F) w) :
    Sat c0 (ex fun t : TypeId => ex fun q : Option Addr => pu (r = f (.iface t (.pointer q))) (fch a [⟨wireB, cc, p⟩] k (.iface t (.pointer q)) * F)) w := by
  obtain ⟨t, q, rfl⟩ := rdr_some (x := (cc, p, k)) rfl h
  refine h.mono (ent_ex t (ent_ex q (ent_pu hv ?_)))
  unfold rdr
  rw [star_assoc]
  refine ent_trans ent_drop ?_
  simp only [RdS.ref, Option.map_some, RefP]
  rw [pu_star]
  exact ent_pu_l fun _ => ent_refl
theorem numOk (c0 : World) (F : HP) (a : Nat → Addr) (g : Nat) (A : Option Addr) (n c p p2 v : Nat) (R : List Int) (most : Int) (h : (⟨R, p, none⟩ : RdS).xNum most = .ok (v, p2)) (hI : (⟨R, p, none⟩ : RdS).In) : Spec Tryd.prog c0 15 #[.pointer (some ⟨g, 0, none⟩), .int .i64 most]
    (pu (PRd A n c R a F) (rdc g A n c p .nilIface * F)) (fun r => pu (r = .tuple #[.int .i64 (v : Nat), .nilIface]) (rdc g A n c (p2 : Nat) .nilIface * F)) := fun w hs => by
  obtain ⟨h1, hs⟩ := hs.pu
  refine (rnum_s c0 F a g A n c .nilIface ⟨R, p, none⟩ most w (hs.mono (ent_pu ⟨h1, hI⟩ (rdr_okE (s := ⟨R, p, none⟩) rfl)))).mono fun ex w' ⟨r, hx, h2⟩ => ⟨r, hx, ?_⟩
  obtain ⟨e2, h2⟩ := h2.ex
  obtain ⟨hv, h2⟩ := h2.pu
  unfold RdS.num at hv h2
  rw [rdOk h] at hv h2
  exact stOk (v := .nilIface) (fun e => .tuple #[.int .i64 (v : Nat), e]) hv h2
theorem numNo (c0 : World) (F : HP) (a : Nat → Addr) (g : Nat) (A : Option Addr) (n c p : Nat) (R : List Int) (most : Int) (h : (⟨R, p, none⟩ : RdS).xNum most = .error 7) (hI : (⟨R, p, none⟩ : RdS).In) : Spec Tryd.prog c0 15 #[.pointer (some ⟨g, 0, none⟩), .int .i64 most]
    (pu (PRd A n c R a F) (rdc g A n c p .nilIface * F)) (fun r => ex fun t : TypeId => ex fun q : Option Addr => pu (r = .tuple #[.int .i64 0, .iface t (.pointer q)]) (fch a [⟨wireB, cNumber, p⟩] 7 (.iface t (.pointer q)) * F)) := fun w hs => by
  obtain ⟨h1, hs⟩ := hs.pu
  refine (rnum_s c0 F a g A n c .nilIface ⟨R, p, none⟩ most w (hs.mono (ent_pu ⟨h1, hI⟩ (rdr_okE (s := ⟨R, p, none⟩) rfl)))).mono fun ex w' ⟨r, hx, h2⟩ => ⟨r, hx, ?_⟩
  obtain ⟨e2, h2⟩ := h2.ex
  obtain ⟨hv, h2⟩ := h2.pu
  unfold RdS.num at hv h2
  rw [rdNo h] at hv h2
  exact stNo (v := .nilIface) (fun e => .tuple #[.int .i64 0, e]) hv h2
theorem txtOk (c0 : World) (F : HP) (a : Nat → Addr) (g : Nat) (A : Option Addr) (n c p p2 : Nat) (v : List Int) (R : List Int) (most : Int) (h : (⟨R, p, none⟩ : RdS).xText most = .ok (v, p2)) (hI : (⟨R, p, none⟩ : RdS).In) : Spec Tryd.prog c0 17 #[.pointer (some ⟨g, 0, none⟩), .int .i64 most]
    (pu (PRd A n c R a F) (rdc g A n c p .nilIface * F)) (fun r => pu (r = .tuple #[.string (bts v), .nilIface]) (rdc g A n c (p2 : Nat) .nilIface * F)) := fun w hs => by
  obtain ⟨h1, hs⟩ := hs.pu
  refine (rtext_s c0 F a g A n c .nilIface ⟨R, p, none⟩ most w (hs.mono (ent_pu ⟨h1, hI⟩ (rdr_okE (s := ⟨R, p, none⟩) rfl)))).mono fun ex w' ⟨r, hx, h2⟩ => ⟨r, hx, ?_⟩
  obtain ⟨e2, h2⟩ := h2.ex
  obtain ⟨hv, h2⟩ := h2.pu
  unfold RdS.text at hv h2
  rw [rdOk h] at hv h2
  exact stOk (v := .nilIface) (fun e => .tuple #[.string (bts v), e]) hv h2
theorem txtNo (c0 : World) (F : HP) (a : Nat → Addr) (g : Nat) (A : Option Addr) (n c p : Nat) (R : List Int) (most : Int) (h : (⟨R, p, none⟩ : RdS).xText most = .error 7) (hI : (⟨R, p, none⟩ : RdS).In) : Spec Tryd.prog c0 17 #[.pointer (some ⟨g, 0, none⟩), .int .i64 most]
    (pu (PRd A n c R a F) (rdc g A n c p .nilIface * F)) (fun r => ex fun t : TypeId => ex fun q : Option Addr => pu (r = .tuple #[.string (bts []), .iface t (.pointer q)]) (fch a [⟨wireB, cText, p⟩] 7 (.iface t (.pointer q)) * F)) := fun w hs => by
  obtain ⟨h1, hs⟩ := hs.pu
  refine (rtext_s c0 F a g A n c .nilIface ⟨R, p, none⟩ most w (hs.mono (ent_pu ⟨h1, hI⟩ (rdr_okE (s := ⟨R, p, none⟩) rfl)))).mono fun ex w' ⟨r, hx, h2⟩ => ⟨r, hx, ?_⟩
  obtain ⟨e2, h2⟩ := h2.ex
  obtain ⟨hv, h2⟩ := h2.pu
  unfold RdS.text at hv h2
  rw [rdNo h] at hv h2
  exact stNo (v := .nilIface) (fun e => .tuple #[.string (bts []), e]) hv h2
theorem bytOk (c0 : World) (F : HP) (a : Nat → Addr) (g : Nat) (A : Option Addr) (n c p p2 : Nat) (v : Int) (R : List Int) (h : (⟨R, p, none⟩ : RdS).xByte = .ok (v, p2)) (hI : (⟨R, p, none⟩ : RdS).In) : Spec Tryd.prog c0 19 #[.pointer (some ⟨g, 0, none⟩)]
    (pu (PRd A n c R a F) (rdc g A n c p .nilIface * F)) (fun r => pu (r = .tuple #[.int .u8 v, .nilIface]) (rdc g A n c (p2 : Nat) .nilIface * F)) := fun w hs => by
  obtain ⟨h1, hs⟩ := hs.pu
  refine (rbyte_s c0 F a g A n c .nilIface ⟨R, p, none⟩ w (hs.mono (ent_pu ⟨h1, hI⟩ (rdr_okE (s := ⟨R, p, none⟩) rfl)))).mono fun ex w' ⟨r, hx, h2⟩ => ⟨r, hx, ?_⟩
  obtain ⟨e2, h2⟩ := h2.ex
  obtain ⟨hv, h2⟩ := h2.pu
  unfold RdS.byte at hv h2
  rw [rdOk h] at hv h2
  exact stOk (v := .nilIface) (fun e => .tuple #[.int .u8 v, e]) hv h2
theorem bytNo (c0 : World) (F : HP) (a : Nat → Addr) (g : Nat) (A : Option Addr) (n c p : Nat) (R : List Int) (h : (⟨R, p, none⟩ : RdS).xByte = .error 7) (hI : (⟨R, p, none⟩ : RdS).In) : Spec Tryd.prog c0 19 #[.pointer (some ⟨g, 0, none⟩)]
    (pu (PRd A n c R a F) (rdc g A n c p .nilIface * F)) (fun r => ex fun t : TypeId => ex fun q : Option Addr => pu (r = .tuple #[.int .u8 0, .iface t (.pointer q)]) (fch a [⟨wireB, cByte, p⟩] 7 (.iface t (.pointer q)) * F)) := fun w hs => by
  obtain ⟨h1, hs⟩ := hs.pu
  refine (rbyte_s c0 F a g A n c .nilIface ⟨R, p, none⟩ w (hs.mono (ent_pu ⟨h1, hI⟩ (rdr_okE (s := ⟨R, p, none⟩) rfl)))).mono fun ex w' ⟨r, hx, h2⟩ => ⟨r, hx, ?_⟩
  obtain ⟨e2, h2⟩ := h2.ex
  obtain ⟨hv, h2⟩ := h2.pu
  unfold RdS.byte at hv h2
  rw [rdNo h] at hv h2
  exact stNo (v := .nilIface) (fun e => .tuple #[.int .u8 0, e]) hv h2
theorem endOk (c0 : World) (F : HP) (a : Nat → Addr) (g : Nat) (A : Option Addr) (n c p : Nat) (R : List Int) (h : p = R.length) (hI : (⟨R, p, none⟩ : RdS).In) : Spec Tryd.prog c0 49 #[.pointer (some ⟨g, 0, none⟩)]
    (pu (PRd A n c R a F) (rdc g A n c p .nilIface * F)) (fun r => pu (r = .nilIface) F) := fun w hs => by
  obtain ⟨h1, hs⟩ := hs.pu
  refine (rend_s c0 F a g A n c .nilIface ⟨R, p, none⟩ w (hs.mono (ent_pu ⟨h1, hI⟩ (rdr_okE (s := ⟨R, p, none⟩) rfl)))).mono fun ex w' ⟨r, hx, h2⟩ => ⟨r, hx, ?_⟩
  obtain ⟨e2, h2⟩ := h2.ex
  obtain ⟨hv, h2⟩ := h2.pu
  have hf : (⟨R, p, none⟩ : RdS).xEnd = .ok ((), p) := by
    unfold RdS.xEnd
    rw [if_neg (by dsimp only; omega)]
  unfold RdS.fin at h2
  rw [rdOk hf] at h2
  obtain ⟨rfl, h'⟩ := rdr_none rfl h2
  exact h'.mono (ent_pu hv ent_drop)
/-! ### the plain law -/
/-- What stands at a place of a row that is cut. -/
theorem cut_at {E P T : List Int} {k : Nat} (hk : P.length ≤ k) : ((P ++ (E ++ T)).take k).drop P.length = (E ++ T).take (k - P.length) := by
  rw [List.take_append, List.take_of_length_le hk, List.drop_append, List.drop_length, List.nil_append, Nat.sub_self, List.drop_zero]
structure Fits9 (n : Int) : Prop where
  lo : 0 ≤ n
  hi : n ≤ 9223372036854775807
theorem num_full {R T : List Int} {n p : Nat} (hn : n < 9223372036854775808) (h : R.drop p = form n ++ T) : (⟨R, p, none⟩ : RdS).xNum 9223372036854775807 = .ok (n, p + (form n).length) := by
  unfold RdS.xNum
  dsimp only
  rw [h, rd0_form T hn (by omega)]
theorem num_short {R : List Int} {n p j : Nat} (hn : n < 9223372036854775808) (hj : j < (form n).length) (h : R.drop p = (form n).take j) : (⟨R, p, none⟩ : RdS).xNum 9223372036854775807 = .error 7 := by
  unfold RdS.xNum
  dsimp only
  rw [h, rd0_cut hn hj]
theorem text_full {R T : List Int} {s : ByteArray} {p : Nat} (hn : s.size < 9223372036854775808) (h : R.drop p = (form s.size ++ ofb s) ++ T) : (⟨R, p, none⟩ : RdS).xText 9223372036854775807 = .ok (ofb s, p + (form s.size ++ ofb s).length) := by
  have hl := congrArg List.length h
  simp only [List.length_drop, List.length_append, ofb_len] at hl
  have hp := form_pos s.size
  unfold RdS.xText
  rw [num_full (T := ofb s ++ T) hn (by rw [h, List.append_assoc])]
  dsimp only
  rw [if_neg (by omega), ← List.drop_drop, h, List.append_assoc, List.drop_left, List.take_append_of_le_length (by rw [ofb_len]; omega), List.take_of_length_le (by rw [ofb_len]; omega), List.length_append, ofb_len, Nat.add_assoc]
theorem text_short {R : List Int} {s : ByteArray} {p j : Nat} (hn : s.size < 9223372036854775808) (hj : j < (form s.size ++ ofb s).length) (h : R.drop p = (form s.size ++ ofb s).take j) : (⟨R, p, none⟩ : RdS).xText 9223372036854775807 = .error 7 := by
  have hl := congrArg List.length h
  simp only [List.length_drop, List.length_append, List.length_take, ofb_len] at hl hj
  unfold RdS.xText
  by_cases hf : j < (form s.size).length
  · rw [num_short (j := j) hn hf (by rw [h, List.take_append_of_le_length (by omega)])]
  · rw [num_full (T := (ofb s).take (j - (form s.size).length)) hn (by rw [h, List.take_append, List.take_of_length_le (by omega)])]
    dsimp only
    rw [if_pos (by omega)]
theorem byte_full {R T : List Int} {b : Int} {p : Nat} (h : R.drop p = [b] ++ T) : (⟨R, p, none⟩ : RdS).xByte = .ok (b, p + 1) := by
  unfold RdS.xByte
  have := (drop_at (b := b) (t := T) h).1
  dsimp only
  rw [this]
theorem byte_short {R : List Int} {p : Nat} (h : R.drop p = []) : (⟨R, p, none⟩ : RdS).xByte = .error 7 := by
  unfold RdS.xByte
  have := List.drop_eq_nil_iff.1 h
  dsimp only
  rw [List.getElem?_eq_none this]
theorem encL_at {m : List ItmD} {i : Nat} {x : ItmD} (h : m[i]? = some x) : encL m = encL (m.take i) ++ (encI x ++ encL (m.drop (i + 1))) ∧ encL (m.take (i + 1)) = encL (m.take i) ++ encI x := by
  refine ⟨?_, ?_⟩
  · have h1 : m = m.take i ++ x :: m.drop (i + 1) := by
      have h2 : m.drop i = x :: m.drop (i + 1) := by
        obtain ⟨h3, h4⟩ := List.getElem?_eq_some_iff.1 h
        rw [List.drop_eq_getElem_cons h3, h4]
      rw [← h2, List.take_append_drop]
    have h2 : encL m = encL (m.take i ++ x :: m.drop (i + 1)) := congrArg encL h1
    rw [h2]
    unfold encL
    rw [List.flatMap_append, List.flatMap_cons]
  · rw [List.take_add_one, h]
    exact encL_snoc _ _
end Go.Proofs.YtdniiegnaabagaaDoor
