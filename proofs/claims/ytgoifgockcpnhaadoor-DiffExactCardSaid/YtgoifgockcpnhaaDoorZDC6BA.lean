/- Distance: by the program, by the document. -/
import Derived.Test.YtgoifgockcpnhaaDoorZDC6AZ
set_option linter.unusedSimpArgs false
set_option linter.unusedVariables false
namespace Go.Proofs.YtgoifgockcpnhaaDoor
open Go Go.RowKit

/-- The program's table, to be read. -/
structure TblF (F : HP) (gt : Nat) (u v : Value) (x y : List Int) : Prop where
  c0 : ReadC F gt 0 u
  c1 : ReadC F gt 1 v
  d : ∃ dv, ReadC F gt 2 dv ∧ Sl2 F 1 runv dv (tabL x y)
theorem TblF.next {A R : HP} {gt : Nat} {u v : Value} {x y : List Int} (h : TblF R gt u v x y) : TblF (A * R) gt u v x y :=
  ⟨readc_next h.c0, readc_next h.c1, h.d.elim fun dv ⟨h1, ts, h2, h3, h4⟩ => ⟨dv, readc_next h1, ts, slr_next h2, h3, fun i t l e1 e2 => slr_next (h4 i t l e1 e2)⟩⟩
theorem TblF.left {A R : HP} {gt : Nat} {u v : Value} {x y : List Int} (h : TblF A gt u v x y) : TblF (A * R) gt u v x y :=
  ⟨readc_left h.c0, readc_left h.c1, h.d.elim fun dv ⟨h1, ts, h2, h3, h4⟩ => ⟨dv, readc_left h1, ts, slr_left h2, h3, fun i t l e1 e2 => slr_left (h4 i t l e1 e2)⟩⟩
theorem TblF.exh {hR : Hp} {H A : HP} {gt : Nat} {u v : Value} {x y : List Int} (hh : H.on hR) (h : TblF H gt u v x y) : TblF (Exh hR * A) gt u v x y :=
  ⟨readc_exh hh h.c0, readc_exh hh h.c1, h.d.elim fun dv ⟨h1, ts, h2, h3, h4⟩ => ⟨dv, readc_exh hh h1, ts, slr_exh hh h2, h3, fun i t l e1 e2 => slr_exh hh (h4 i t l e1 e2)⟩⟩
theorem TblF.exh0 {hR : Hp} {H : HP} {gt : Nat} {u v : Value} {x y : List Int} (hh : H.on hR) (h : TblF H gt u v x y) : TblF (Exh hR) gt u v x y :=
  ⟨readc_exh0 hh h.c0, readc_exh0 hh h.c1, h.d.elim fun dv ⟨h1, ts, h2, h3, h4⟩ => ⟨dv, readc_exh0 hh h1, ts, slr_exh0 hh h2, h3, fun i t l e1 e2 => slr_exh0 hh (h4 i t l e1 e2)⟩⟩
theorem tblF_of {gt gd : Nat} {u v : Value} {x y : List Int} {ts : List SlD} {F : HP} (h : ts.length = x.length + 1) {n : Nat} : TblF (tbl gt u v (.slice (some ⟨gd, 0, none⟩) n n) * (row 33 1 slv (.slice (some ⟨gd, 0, none⟩) n n) ts * (rowsOf 21 1 runv ts (tabL x y) * F))) gt u v x y :=
  ⟨readc_here rfl, readc_here rfl, _, readc_here rfl, ts, slr_next (slr_row (fun _ => rfl)), by rw [h, tabL_len], fun i t l e1 e2 => slr_next (slr_next (slr_rowsOf (s := 1) (enc := runv) (fun _ => rfl) e1 e2))⟩
theorem sl2_at {α : Type} {H : HP} {enc : α → Array Value} {f : α → Value} {A : Option Addr} {n c i : Nat} {ls : List (List α)} {l : List α} (h : Sl2 H 1 enc (.slice A n c) ls) (hf : ∀ a, enc a = #[f a]) {w : World} (hw : Own H w) (hi : ls[i]? = some l) {j : Nat} {a : α} (hj : l[j]? = some a) :
    ∃ g o B m d g' o', A = some ⟨g, o, none⟩ ∧ i < n ∧ j < m ∧ ReadC H g (o + i) (.slice (some ⟨g', o', none⟩) m d) ∧ B = () ∧ ReadC H g' (o' + j) (f a) := by
  obtain ⟨ts, h1, h2, h3⟩ := h
  have hn := (slr_len h1 hw).1
  have hil : i < ls.length := (List.getElem?_eq_some_iff.1 hi).1
  obtain ⟨g, o, t, hA, ht, hr⟩ := slr_get h1 hw (show i < n by omega)
  have hs := h3 i t l ht hi
  have hm := (slr_len hs hw).1
  have hjl : j < l.length := (List.getElem?_eq_some_iff.1 hj).1
  obtain ⟨g', o', a', hA', ha', hr'⟩ := slr_get hs hw (show j < t.n by omega)
  have : a' = a := by rw [hj] at ha'; exact (Option.some.inj ha').symm
  subst this
  refine ⟨g, o, (), t.n, t.c, g', o', hA, by omega, by omega, ?_, rfl, ?_⟩
  · have := hr.cell (i := 0) (by omega) (slv_0 t)
    rw [hA'] at this
    rwa [Nat.mul_one] at this
  · have := hr'.cell (i := 0) (v := f a') (by omega) (by rw [hf]; rfl)
    rwa [Nat.mul_one] at this
set_option maxRecDepth 20000 in
theorem at_s (c0 : World) (F : HP) (gt : Nat) (u v : Value) (x y : List Int) (i j : Nat) : Spec Tryd.prog c0 33 #[.pointer (some ⟨gt, 0, none⟩), .int .i64 i, .int .i64 j] (pu (TblF F gt u v x y ∧ i ≤ x.length ∧ j ≤ y.length ∧ x.length ≤ 1000000 ∧ y.length ≤ 1000000) F) (fun r => pu (r = .int .i64 (dA x y i j : Nat)) F) := by
  intro w hq; obtain ⟨⟨hT, hi, hj, hx, hy⟩, hs⟩ := hq.pu; clear hq
  obtain ⟨dv, h2, hSl⟩ := hT.d
  have hd := hSl
  obtain ⟨ts, h1, _⟩ := hd
  obtain ⟨A, c, rfl⟩ := slr_form h1 hs.own
  obtain ⟨g, o, B, m, d, g', o', rfl, hin, hjm, hr1, _, hr2⟩ := sl2_at hSl (f := fun i => Value.int .i32 i) (fun _ => rfl) hs.own (tabL_get hi) (tabR_get (x := x) (i := i) hj)
  have hle := dA_le x y i j
  generalize dA x y i j = D at *
  have hle2 : (D : Int) ≤ 2000000 := by omega
  obtain ⟨_, hl2, hl3, _⟩ := slr_len h1 hs.own
  generalize ts.length = N at *
  clear hSl h1 hT hle hx hy
  go_enter Tryd.func33, Tryd.ntmps33
  go_wp2_with (first
        | ((with_reducible apply pl_load1 hs); (focus (simp only [Act.eval, za, zb, zc, zd, ze, zf]; (try with_reducible rfl); done)); (focus (simp only [go_sem])); (focus ((repeat (first | (with_reducible (first | assumption | exact hec _ | exact hec2 _ | exact hec3 _ | exact hec4 _ _)) | ((with_reducible apply readc_here); (focus (first | (simp only [zc, zd, ze, go_sem]; (try with_reducible rfl); done) | (go_simp; (try with_reducible rfl); done)))) | (with_reducible (first | (apply readc_left; assumption) | refine readc_exh (by assumption) ?_ | refine readc_exh0 (by assumption) ?_ | apply readc_next)))); done)); (focus rfl); simp only [Act.put, zg, zh, zi]))
  (go_ret; simp only [za, zb, zc, zd, ze, zf])
  exact ⟨_, rfl, hs.mono (ent_pu rfl (by ((repeat (first | (with_reducible (first | exact ent_refl | exact ent_emp)) | ((with_reducible apply ent_front); (focus with_reducible (repeat (first | exact ent_here | apply ent_next | exact ent_last)); done)) | (with_reducible (first | exact ent_keep | apply ent_trans ent_drop)))); done)))⟩
theorem at0_s (c0 : World) (F : HP) (gt : Nat) (u v : Value) (x y : List Int) : Spec Tryd.prog c0 33 #[.pointer (some ⟨gt, 0, none⟩), .int .i64 0, .int .i64 0] (pu (TblF F gt u v x y ∧ x.length ≤ 1000000 ∧ y.length ≤ 1000000) F) (fun r => pu (r = .int .i64 (dst x y : Nat)) F) := fun w hs => by
  obtain ⟨⟨h1, h2, h3⟩, hs⟩ := hs.pu
  exact at_s c0 F gt u v x y 0 0 w (hs.mono (ent_pu ⟨h1, by omega, by omega, h2, h3⟩ ent_refl))
/-- What Distance answers. -/
def DiR (a : Nat → Addr) (A B : ByteArray) (F : HP) (r : Value) : HP := match txtR A B with
  | .ok (x, y) => pu (r = .tuple #[.int .i64 (dst x y : Nat), .nilIface]) F
  | .error (p, k) => ex fun e : Value => pu (r = .tuple #[.int .i64 0, e]) (RefP a (some ([⟨dfB, ⟨#[68, 105, 115, 116, 97, 110, 99, 101]⟩, p⟩], k)) e * F)
abbrev cDi : ByteArray := ⟨#[68, 105, 115, 116, 97, 110, 99, 101]⟩
theorem txt_ok {A B : ByteArray} {x y : List Int} (h : txtR A B = .ok (x, y)) : runesL A.data.toList = some x ∧ runesL B.data.toList = some y := by
  unfold txtR at h
  split at h
  · cases h
  · cases h
  · rename_i h1 h2
    split at h
    · cases h
    · cases h
      exact ⟨h1, h2⟩
theorem textsS_s (c0 : World) (F : HP) (a : Nat → Addr) (call A B : ByteArray) (x y : List Int) (h : txtR A B = .ok (x, y)) : Spec Tryd.prog c0 31 #[.string call, .string A, .string B] (pu (ErrB F a ∧ TabF F ∧ A.size ≤ 1000000 ∧ B.size ≤ 1000000) F) (fun r => ex fun u : Value => ex fun v : Value => pu (r = .tuple #[u, v, .nilIface]) (row 21 1 runv u x * (row 21 1 runv v y * F))) := by
  have := texts_s c0 F a call A B
  unfold TxR at this
  rw [h] at this
  exact this
theorem textsN_s (c0 : World) (F : HP) (a : Nat → Addr) (call A B : ByteArray) (p : Int) (k : Nat) (h : txtR A B = .error (p, k)) : Spec Tryd.prog c0 31 #[.string call, .string A, .string B] (pu (ErrB F a ∧ TabF F ∧ A.size ≤ 1000000 ∧ B.size ≤ 1000000) F) (fun r => ex fun e : Value => pu (r = .tuple #[.slice none 0 0, .slice none 0 0, e]) (RefP a (some ([⟨dfB, call, p⟩], k)) e * F)) := by
  have := texts_s c0 F a call A B
  unfold TxR at this
  rw [h] at this
  exact this
theorem refP_iface {a : Nat → Addr} {ls : List LinkD} {k : Nat} {v : Value} {F : HP} {c w : World} (hs : Sat c (RefP a (some (ls, k)) v * F) w) : ∃ t p, v = .iface t (.pointer p) := fch_iface (refP_some hs).2
set_option maxRecDepth 20000 in
set_option maxHeartbeats 1000000 in
theorem distance_s (c0 : World) (F : HP) (a : Nat → Addr) (A B : ByteArray) : Spec Tryd.prog c0 13 #[.string A, .string B] (pu (ErrB F a ∧ TabF F ∧ A.size ≤ 1000000 ∧ B.size ≤ 1000000) F) (DiR a A B F) := by
  intro w hq; obtain ⟨⟨hE, hT, hA, hB⟩, hs⟩ := hq.pu; clear hq
  cases hR : txtR A B with
  | error pk =>
    obtain ⟨p, k⟩ := pk
    unfold DiR
    rw [hR]
    have hsp := fun F => textsN_s c0 F a cDi A B p k hR
    clear hR
    go_enter Tryd.func13, Tryd.ntmps13
    go_wp2_with (first
        | ((with_reducible apply pl_call hs (hsp _)); ((((focus (simp only [zj, zk, zl, List.append_toArray, List.nil_append, List.cons_append, Act.eval, za, zb, zc, zd, ze, zf]; (try with_reducible rfl); done)); (focus ((repeat (first | (with_reducible (first | exact ent_refl | apply ent_puR)) | ((with_reducible apply ent_front); (focus with_reducible (repeat (first | exact ent_here | apply ent_next | exact ent_last)); done)) | (with_reducible (first | exact ent_keep | apply ent_trans ent_drop)) | (focus (first | ((repeat' (first | (with_reducible assumption) | (with_reducible apply And.intro))); done))))); done)); (focus (simp only [go_sem]))))); clear hs; (try clear w); intro v w hq; (obtain ⟨e, hq1⟩ := hq.ex; obtain ⟨rfl, hs⟩ := hq1.pu; clear hq1; obtain ⟨te, pe, rfl⟩ := refP_iface hs); clear hq; (try simp only [star_assoc, star_emp, emp_star] at hs); (try simp only [Act.put, zg, zh, zi])))
    (go_ret2; simp only [za, zb, zc, zd, ze, zf])
    exact ⟨_, rfl, hs.mono (ent_ex _ (ent_pu rfl (by ((repeat (first | (with_reducible (first | exact ent_refl | exact ent_emp)) | ((with_reducible apply ent_front); (focus with_reducible (repeat (first | exact ent_here | apply ent_next | exact ent_last)); done)) | (with_reducible (first | exact ent_keep | apply ent_trans ent_drop)))); done))))⟩
  | ok xy =>
    obtain ⟨x, y⟩ := xy
    unfold DiR
    rw [hR]
    have hsp := fun F => textsS_s c0 F a cDi A B x y hR
    have hxl := runes_len (txt_ok hR).1
    have hyl := runes_len (txt_ok hR).2
    have hD : (dA x y 0 0 : Nat) = dst x y := rfl
    clear hR
    go_enter Tryd.func13, Tryd.ntmps13
    go_wp2_with (first
        | ((with_reducible apply pl_call hs (hsp _)); ((((focus (simp only [zj, zk, zl, List.append_toArray, List.nil_append, List.cons_append, Act.eval, za, zb, zc, zd, ze, zf]; (try with_reducible rfl); done)); (focus ((repeat (first | (with_reducible (first | exact ent_refl | apply ent_puR)) | ((with_reducible apply ent_front); (focus with_reducible (repeat (first | exact ent_here | apply ent_next | exact ent_last)); done)) | (with_reducible (first | exact ent_keep | apply ent_trans ent_drop)) | (focus (first | ((repeat' (first | (with_reducible assumption) | (with_reducible apply And.intro))); done))))); done)); (focus (simp only [go_sem]))))); clear hs; (try clear w); intro v w hq; (obtain ⟨u, hq1⟩ := hq.ex; obtain ⟨v, hq2⟩ := hq1.ex; obtain ⟨rfl, hs⟩ := hq2.pu; clear hq1 hq2); clear hq; (try simp only [star_assoc, star_emp, emp_star] at hs); (try simp only [Act.put, zg, zh, zi]))
        | ((with_reducible apply pl_call hs (made_s _ _ _ _ x y)); ((((focus (simp only [zj, zk, zl, List.append_toArray, List.nil_append, List.cons_append, Act.eval, za, zb, zc, zd, ze, zf]; (try with_reducible rfl); done)); (focus ((repeat (first | (with_reducible (first | exact ent_refl | apply ent_puR)) | ((with_reducible apply ent_front); (focus with_reducible (repeat (first | exact ent_here | apply ent_next | exact ent_last)); done)) | (with_reducible (first | exact ent_keep | apply ent_trans ent_drop)) | (focus (first | ((repeat' (first | (with_reducible apply And.intro) | omega | (focus (first | ((repeat (first | (with_reducible (first | assumption | exact slr_ro |  exact hsl _ | exact hsl2 _ | exact hsl3 _ _ _ | exact slr_nil | exact slr_row (fun _ => by simp only [go_sem]) | exact slr_one (fun _ => by simp only [go_sem]) | (apply slr_left; assumption))) | (with_reducible apply slr_next))); done) | ((repeat (first | (with_reducible (first | assumption | exact slr_ro |  exact hsl _ | exact hsl2 _ | exact hsl3 _ _ _ | exact slr_nil | exact slr_row (fun _ => by simp only [go_sem]) | exact slr_one (fun _ => by simp only [go_sem]) | (apply slr_left; assumption))) | (with_reducible (first | (apply slr_exh; focus assumption) | (apply slr_exh0; focus assumption) | apply slr_next)))); done))))); done))))); done)); (focus (simp only [go_sem]))))); clear hs; (try clear w); intro v w hq; (obtain ⟨gt, hq1⟩ := hq.ex; obtain ⟨gd, hq2⟩ := hq1.ex; obtain ⟨ts, hq3⟩ := hq2.ex; obtain ⟨⟨rfl, hts⟩, hs⟩ := hq3.pu; clear hq1 hq2 hq3; have hTb := tblF_of (gt := gt) (gd := gd) (u := u) (v := v) (y := y) (F := row 21 1 runv u x * (row 21 1 runv v y * F)) hts (n := x.length + 1)); clear hq; (try simp only [star_assoc, star_emp, emp_star] at hs); (try simp only [Act.put, zg, zh, zi]))
        | ((with_reducible apply pl_call hs (at0_s _ _ _ u v x y)); ((((focus (simp only [zj, zk, zl, List.append_toArray, List.nil_append, List.cons_append, Act.eval, za, zb, zc, zd, ze, zf]; (try with_reducible rfl); done)); (focus ((repeat (first | (with_reducible (first | exact ent_refl | apply ent_puR)) | ((with_reducible apply ent_front); (focus with_reducible (repeat (first | exact ent_here | apply ent_next | exact ent_last)); done)) | (with_reducible (first | exact ent_keep | apply ent_trans ent_drop)) | (focus (first | ((repeat' (first | (with_reducible assumption) | (with_reducible apply And.intro) | omega)); done))))); done)); (focus (simp only [go_sem]))))); clear hs; (try clear w); intro v w hq; (obtain ⟨rfl, hs⟩ := hq.pu); clear hq; (try simp only [star_assoc, star_emp, emp_star] at hs); (try simp only [Act.put, zg, zh, zi])))
    (go_ret2; simp only [za, zb, zc, zd, ze, zf])
    exact ⟨_, rfl, hs.mono (ent_pu rfl (by ((repeat (first | (with_reducible (first | exact ent_refl | exact ent_emp)) | ((with_reducible apply ent_front); (focus with_reducible (repeat (first | exact ent_here | apply ent_next | exact ent_last)); done)) | (with_reducible (first | exact ent_keep | apply ent_trans ent_drop)))); done)))⟩
end Go.Proofs.YtgoifgockcpnhaaDoor
