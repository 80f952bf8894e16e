/- The program's inbox: Sweep. -/
import Derived.Test.YtnbbgcdemafcoaaDoorFL
set_option linter.unusedSimpArgs false
set_option linter.unusedVariables false
namespace Go.Proofs.YtnbbgcdemafcoaaDoor
open Go Go.RowKit

@[go_sem] theorem ent_sweep1 : entB Tryd.prog 63 = true := by kernel_rfl
@[go_sem] theorem ent_delf : entB Tryd.prog 62 = true := by kernel_rfl
/-- The function value that Sweep hands to DeleteFunc. -/
abbrev gone (gh gq : Nat) : Value := .func (.func 63) #[] #[.pointer (some ⟨gh, 0, none⟩), .pointer (some ⟨gq, 0, none⟩)]
/-- What it looks at. -/
structure SW (F : HP) (c : Nat → Int) (gh gq gi h : Nat) : Prop where
  a : Reads F gh 0 8 (clk c)
  b : ReadC F gq 0 (.pointer (some ⟨gi, 0, none⟩))
  d : ReadC F gi 2 (.map (some h))
section
variable {A F H R : HP} {c : Nat → Int} {gh gq gi h : Nat} {hR : Hp}
theorem SW.mono (x : SW F c gh gq gi h) (e : Ent A F) : SW A c gh gq gi h := ⟨fun w hw => x.a w (hw.mono e), fun w hw => x.b w (hw.mono e), fun w hw => x.d w (hw.mono e)⟩
theorem SW.next (x : SW R c gh gq gi h) : SW (A * R) c gh gq gi h := x.mono ent_drop
theorem SW.left (x : SW A c gh gq gi h) : SW (A * R) c gh gq gi h := x.mono ent_keep
theorem SW.exh (hh : H.on hR) (x : SW H c gh gq gi h) : SW (Exh hR * A) c gh gq gi h := x.mono (ent_trans ent_keep (exh_ent hh))
theorem SW.exh0 (hh : H.on hR) (x : SW H c gh gq gi h) : SW (Exh hR) c gh gq gi h := x.mono (exh_ent hh)
end
def swF (c : Nat → Int) (f : Int → Int → Bool) (a : ActD) : Int → Int → Bool := if hasB c a.rep a.num then delF f a.rep a.num else f
set_option maxRecDepth 20000 in
set_option maxHeartbeats 1000000 in
theorem scl_s (c0 : World) (F : HP) (c : Nat → Int) (a : ActD) (gh gq gi h m : Nat) (f : Int → Int → Bool) : Spec Tryd.prog c0 63 #[.agg (actv a), .pointer (some ⟨gh, 0, none⟩), .pointer (some ⟨gq, 0, none⟩)]
    (pu (SW F c gh gq gi h ∧ ClkI c ∧ ActW a) (keys h m f * F)) (fun r => pu (r = .bool (hasB c a.rep a.num)) (keys h m (swF c f a) * F)) := by
  intro w hq; obtain ⟨⟨hsw, hc, hw1, hw2⟩, hs⟩ := hq.pu; clear hq
  obtain ⟨hra, hrb, hrd⟩ := hsw
  unfold swF
  cases hh : hasB c a.rep a.num with
  | true =>
    simp only [if_true]
    go_enter Tryd.func63, Tryd.ntmps63
    go_wp2_with (first
        | ((with_reducible apply wp_region_sl (G := (keys _ _ _)) (id := 3) hs 1000); (focus with_reducible (repeat (first | exact ent_here | apply ent_next | exact ent_last)); done); (focus kernel_rfl); (focus decide +kernel); clear hs; (try clear w); intro hR w hRR hs; (try simp only [star_assoc] at hs))
        | ((with_reducible apply pl_call hs (chas_s _ _ _ _)); (go_must (((focus (simp only [zj, zk, zl, List.append_toArray, List.nil_append, List.cons_append, Act.eval, za, zb, zc, zd, ze, zf]; (try with_reducible rfl); done)); (focus ((repeat (first | (with_reducible (first | exact ent_refl | apply ent_puR)) | ((with_reducible apply ent_front); (focus with_reducible (repeat (first | exact ent_here | apply ent_next | exact ent_last)); done)) | (with_reducible (first | exact ent_keep | apply ent_trans ent_drop)) | (fail))); done)); (focus (simp only [go_sem]))))); clear hs; (try clear w); intro v w hq; (obtain ⟨hv, hs⟩ := hq.pu; rw [hh] at hv; subst hv); clear hq; (try simp only [star_assoc, star_emp, emp_star] at hs); (try simp only [Act.put, zg, zh, zi]))
        | ((with_reducible apply mx_call hs (named_s _ _ _)); (go_must (((focus (simp only [zj, zk, zl, List.append_toArray, List.nil_append, List.cons_append, Act.eval, za, zb, zc, zd, ze, zf]; (try with_reducible rfl); done)); (focus ((repeat (first | (with_reducible (first | exact ent_refl | apply ent_puR)) | ((with_reducible apply ent_front); (focus with_reducible (repeat (first | exact ent_here | apply ent_next | exact ent_last)); done)) | (with_reducible (first | exact ent_keep | apply ent_trans ent_drop)) | (fail))); done)); (focus (simp only [go_sem])); (focus (intros; with_reducible (refine in_of_sat (by assumption) ?_; repeat (first | exact ent_exh_here | exact ent_last | refine ent_pu_l (fun _ => ?_) | refine ent_ex_l (fun _ => ?_) | apply ent_exh_next)); done))))); clear hs; (try clear w); intro v w hq; (obtain ⟨rfl, hs⟩ := hq.pu); clear hq; (try simp only [star_assoc, star_emp, emp_star] at hs); (try simp only [Act.put, zg, zh, zi]))
        | ((with_reducible apply pl_loadN hs); (focus (simp only [Act.eval, za, zb, zc, zd, ze, zf]; (try with_reducible rfl); done)); (with_reducible (first | exact agg_24 | exact agg_35)); (focus ((repeat (first | (with_reducible (first | assumption | exact hel _ | exact hel2 _ | exact hel3 _)) | ((with_reducible apply reads_whole); (focus (first | (with_reducible rfl) | (simp only [go_sem]; done) | (simp; done)))) | ((with_reducible apply reads_part); (focus (first | (simp [go_sem]; done) | (simp only [go_sem]; omega) | go_size)); (focus (first | (simp only [Nat.reduceAdd, Nat.zero_add, go_sem]; (try with_reducible rfl); done) | (simp [go_sem]; (try with_reducible rfl); done)))) | (with_reducible (first | (apply reads_left; assumption) | refine reads_exh (by assumption) ?_ | refine reads_exh0 (by assumption) ?_ | apply reads_next)))); done)); (focus rfl); simp only [Act.put, zg, zh, zi])
        | ((with_reducible apply pl_box hs); (focus (simp only [Act.eval, za, zb, zc, zd, ze, zf]; (try with_reducible rfl); done)); (focus (first | (with_reducible (first | exact cells_agg _ | exact cells_int _ _ | exact cells_bool _ | exact cells_string _ | exact cells_slice _ _ _ | exact cells_pointer _ | exact cells_map _ | exact cells_iface _ _ | exact cells_nilIface | exact cells_func _ _ _)) | (exact cells_one (by assumption)))); clear hs; (try clear w); intro g w hs; skip; simp only [Act.put, zg, zh, zi])
        | ((with_reducible apply mix_end hRR hs); (focus with_reducible (repeat (first | exact ent_here | apply ent_next | exact ent_last)); done); clear hs; (try clear w); intro w hs; (try simp only [star_assoc, star_emp, emp_star] at hs); clear hRR hR)
        | ((with_reducible apply mx_loadN hRR); (focus (simp only [Act.eval, za, zb, zc, zd, ze, zf]; (try with_reducible rfl); done)); (with_reducible (first | exact agg_35)); (focus ((repeat (first | (with_reducible (first | assumption | exact hel _ | exact hel2 _ | exact hel3 _)) | ((with_reducible apply reads_whole); (focus (first | (with_reducible rfl) | (simp only [go_sem]; done) | (simp; done)))) | ((with_reducible apply reads_part); (focus (first | (simp [go_sem]; done) | (simp only [go_sem]; omega) | go_size)); (focus (first | (simp only [Nat.reduceAdd, Nat.zero_add, go_sem]; (try with_reducible rfl); done) | (simp [go_sem]; (try with_reducible rfl); done)))) | (with_reducible (first | (apply reads_left; assumption) | refine reads_exh (by assumption) ?_ | refine reads_exh0 (by assumption) ?_ | apply reads_next)))); done)); simp only [Act.put, zg, zh, zi])
        | ((with_reducible apply mx_load1 hRR); (focus (simp only [Act.eval, za, zb, zc, zd, ze, zf]; (try with_reducible rfl); done)); (focus (simp only [go_sem])); (focus ((repeat (first | (with_reducible (first | assumption | exact hec _ | exact hec2 _ | exact hec3 _ | exact hec4 _ _)) | ((with_reducible apply readc_here); (focus (first | (simp only [zc, zd, ze, go_sem]; (try with_reducible rfl); done) | (go_simp; (try with_reducible rfl); done)))) | (with_reducible (first | (apply readc_left; assumption) | refine readc_exh (by assumption) ?_ | refine readc_exh0 (by assumption) ?_ | apply readc_next)))); done)); simp only [Act.put, zg, zh, zi])
        | ((with_reducible apply mx_del hs); (focus (simp only [Act.eval, za, zb, zc, zd, ze, zf]; (try with_reducible rfl); done)); (focus with_reducible (repeat (first | exact ent_here | apply ent_next | exact ent_last)); done); (focus (simp only [Act.eval, za, zb, zc, zd, ze, zf]; (try with_reducible rfl); done)); (focus (first | (with_reducible assumption) | exact And.intro (by assumption) (by assumption))); (focus (intros; with_reducible (refine in_of_sat (by assumption) ?_; repeat (first | exact ent_exh_here | exact ent_last | refine ent_pu_l (fun _ => ?_) | refine ent_ex_l (fun _ => ?_) | apply ent_exh_next)); done)); clear hs; (try clear w); intro w hs; skip; simp only [Act.put, zg, zh, zi])
        | ((with_reducible refine mix_float ?_ ?_ ?_ (fun h hk => ?_) ?_); rotate_left 1; (focus rfl); (focus rfl); (focus (go_simp; (try (rw [if_pos (by omega)]; (try go_simp))); (try simp (disch := omega) only [IntWalk.i64_in, IntWalk.i32_in]); (try with_reducible rfl); done)); simp only [Act.put, zg, zh, zi]))
    (go_ret; simp only [za, zb, zc, zd, ze, zf])
    exact ⟨_, rfl, hs.mono (ent_pu rfl (by ((repeat (first | (with_reducible (first | exact ent_refl | exact ent_emp)) | ((with_reducible apply ent_front); (focus with_reducible (repeat (first | exact ent_here | apply ent_next | exact ent_last)); done)) | (with_reducible (first | exact ent_keep | apply ent_trans ent_drop)))); done)))⟩
  | false =>
    simp only [Bool.false_eq_true, if_false]
    go_enter Tryd.func63, Tryd.ntmps63
    go_wp2_with (first
        | ((with_reducible apply pl_call hs (chas_s _ _ _ _)); (go_must (((focus (simp only [zj, zk, zl, List.append_toArray, List.nil_append, List.cons_append, Act.eval, za, zb, zc, zd, ze, zf]; (try with_reducible rfl); done)); (focus ((repeat (first | (with_reducible (first | exact ent_refl | apply ent_puR)) | ((with_reducible apply ent_front); (focus with_reducible (repeat (first | exact ent_here | apply ent_next | exact ent_last)); done)) | (with_reducible (first | exact ent_keep | apply ent_trans ent_drop)) | (fail))); done)); (focus (simp only [go_sem]))))); clear hs; (try clear w); intro v w hq; (obtain ⟨hv, hs⟩ := hq.pu; rw [hh] at hv; subst hv); clear hq; (try simp only [star_assoc, star_emp, emp_star] at hs); (try simp only [Act.put, zg, zh, zi]))
        | ((with_reducible apply pl_loadN hs); (focus (simp only [Act.eval, za, zb, zc, zd, ze, zf]; (try with_reducible rfl); done)); (with_reducible (first | exact agg_24 | exact agg_35)); (focus ((repeat (first | (with_reducible (first | assumption | exact hel _ | exact hel2 _ | exact hel3 _)) | ((with_reducible apply reads_whole); (focus (first | (with_reducible rfl) | (simp only [go_sem]; done) | (simp; done)))) | ((with_reducible apply reads_part); (focus (first | (simp [go_sem]; done) | (simp only [go_sem]; omega) | go_size)); (focus (first | (simp only [Nat.reduceAdd, Nat.zero_add, go_sem]; (try with_reducible rfl); done) | (simp [go_sem]; (try with_reducible rfl); done)))) | (with_reducible (first | (apply reads_left; assumption) | refine reads_exh (by assumption) ?_ | refine reads_exh0 (by assumption) ?_ | apply reads_next)))); done)); (focus rfl); simp only [Act.put, zg, zh, zi])
        | ((with_reducible apply pl_box hs); (focus (simp only [Act.eval, za, zb, zc, zd, ze, zf]; (try with_reducible rfl); done)); (focus (first | (with_reducible (first | exact cells_agg _ | exact cells_int _ _ | exact cells_bool _ | exact cells_string _ | exact cells_slice _ _ _ | exact cells_pointer _ | exact cells_map _ | exact cells_iface _ _ | exact cells_nilIface | exact cells_func _ _ _)) | (exact cells_one (by assumption)))); clear hs; (try clear w); intro g w hs; skip; simp only [Act.put, zg, zh, zi]))
    (go_ret; simp only [za, zb, zc, zd, ze, zf])
    exact ⟨_, rfl, hs.mono (ent_pu rfl (by ((repeat (first | (with_reducible (first | exact ent_refl | exact ent_emp)) | ((with_reducible apply ent_front); (focus with_reducible (repeat (first | exact ent_here | apply ent_next | exact ent_last)); done)) | (with_reducible (first | exact ent_keep | apply ent_trans ent_drop)))); done)))⟩
def goneI (c : Nat → Int) (l : List ActD) : Option Nat := l.findIdx? fun a => hasB c a.rep a.num
theorem goneI_some {c : Nat → Int} {l : List ActD} {k : Nat} {a : ActD} (ha : l[k]? = some a) (hr : hasB c a.rep a.num = true) (hp : ∀ j a, j < k → l[j]? = some a → hasB c a.rep a.num = false) : goneI c l = some k := by
  unfold goneI
  rw [List.findIdx?_eq_some_iff_getElem]
  obtain ⟨hk, rfl⟩ := List.getElem?_eq_some_iff.1 ha
  exact ⟨hk, hr, fun j hj => by rw [hp j _ hj (List.getElem?_eq_getElem (by omega))]; simp⟩
theorem goneI_none {c : Nat → Int} {l : List ActD} (hp : ∀ j a, j < l.length → l[j]? = some a → hasB c a.rep a.num = false) : goneI c l = none := by
  unfold goneI
  rw [List.findIdx?_eq_none_iff]
  intro x hx
  obtain ⟨j, hj, rfl⟩ := List.getElem_of_mem hx
  exact hp j _ hj (List.getElem?_eq_getElem hj)
/-- The keys behind the first k. -/
def swK (c : Nat → Int) (f : Int → Int → Bool) (l : List ActD) : Int → Int → Bool := l.foldl (swF c) f
theorem swK_step {c : Nat → Int} {f : Int → Int → Bool} {l : List ActD} {k : Nat} {a : ActD} (h : l[k]? = some a) : swK c f (l.take (k + 1)) = swF c (swK c f (l.take k)) a := by
  rw [List.take_add_one, h]
  unfold swK
  rw [List.foldl_append]
  rfl
def idxG (o : Option Nat) : Value := .int .i64 (match o with | none => -1 | some i => (i : Int))
/-- The keys behind IndexFunc: of all, or up to the first that goes. -/
def swJ (c : Nat → Int) (f : Int → Int → Bool) (l : List ActD) : Int → Int → Bool := swK c f (l.take (match goneI c l with | none => l.length | some i => i + 1))
set_option maxRecDepth 20000 in
set_option maxHeartbeats 2000000 in
theorem indexG_s (c0 : World) (F : HP) (u : Value) (l : List ActD) (c : Nat → Int) (gh gq gi h m : Nat) (f : Int → Int → Bool) : Spec Tryd.prog c0 39 #[u, gone gh gq]
    (pu (SW F c gh gq gi h ∧ SlR F 13 actv u l ∧ l.length ≤ 1000 ∧ ClkI c ∧ AllW l) (keys h m f * F)) (fun r => pu (r = idxG (goneI c l)) (keys h m (swJ c f l) * F)) := by
  intro w hq; obtain ⟨⟨hsw, hsl, h40, hci, haw⟩, hs⟩ := hq.pu; clear hq
  obtain ⟨A, cp, rfl⟩ := slr_form hsl (hs.own.mono ent_drop)
  generalize hn : l.length = n at *
  replace hn := Lib.hid hn
  replace haw := Lib.hid haw
  go_enter Tryd.func39, Tryd.ntmps39
  go_wp2_with fail
  go_loopw [5, 8] (fun _ i wr => ∃ k : Nat, k ≤ n ∧ i = .int .i64 k ∧ Hid (∀ j a, j < k → l[j]? = some a → hasB c a.rep a.num = false) ∧ Sat c0 (keys h m (swK c f (l.take k)) * F) wr) (fun _ i _ => n - (intOf i).toNat)
  case atStart => exact ⟨0, by omega, rfl, fun j a hj => absurd hj (by omega), hs⟩
  case round =>
    clear hs
    obtain ⟨k, hk, rfl, hpre, hs⟩ := hrel
    by_cases hlt : k < n
    · obtain ⟨b, o, x, rfl, hla, hwa⟩ := slr_get hsl (hs.own.mono ent_drop) hlt
      have hxw : ActW x := haw.out x (List.mem_of_getElem? hla)
      have hst := swK_step (c := c) (f := f) hla
      unfold swF at hst
      cases hr : hasB c x.rep x.num with
      | true =>
        have hni := goneI_some hla hr hpre.out
        have hJ : swJ c f l = delF (swK c f (l.take k)) x.rep x.num := by
          unfold swJ
          rw [hni]
          show swK c f (l.take (k + 1)) = _
          rw [hst, hr, if_pos rfl]
        clear hst
        replace hla := Lib.hid hla
        clear hpre
        replace hJ := Lib.hid hJ
        replace hni := Lib.hid hni
        go_wp2_with (first
        | ((with_reducible apply pl_callv hs (scl_s _ _ c x gh gq gi h m _)); (focus (simp only [Act.eval, za, zb, zc, zd, ze, zf]; (try with_reducible rfl); done)); (go_must (((focus (simp only [zj, zk, zl, List.append_toArray, List.nil_append, List.cons_append, Act.eval, za, zb, zc, zd, ze, zf]; (try with_reducible rfl); done)); (focus ((repeat (first | (with_reducible (first | exact ent_refl | apply ent_puR)) | ((with_reducible apply ent_front); (focus with_reducible (repeat (first | exact ent_here | apply ent_next | exact ent_last)); done)) | (with_reducible (first | exact ent_keep | apply ent_trans ent_drop)) | (focus (first | ((repeat' (first | (with_reducible assumption) | (with_reducible apply And.intro))); done))))); done)); (focus (simp only [go_sem]))))); clear hs; (try clear w); intro v w hq; (obtain ⟨hv, hs⟩ := hq.pu; rw [hr] at hv; subst hv; unfold swF at hs; rw [hr] at hs; rw [if_pos rfl] at hs); clear hq; (try simp only [star_assoc, star_emp, emp_star] at hs); (try simp only [Act.put, zg, zh, zi]))
        | ((with_reducible apply pl_loadN hs); (focus (simp only [Act.eval, za, zb, zc, zd, ze, zf]; (try with_reducible rfl); done)); (with_reducible (first | exact agg_35)); (focus ((repeat (first | (with_reducible (first | assumption | exact hel _ | exact hel2 _ | exact hel3 _)) | ((with_reducible apply reads_whole); (focus (first | (with_reducible rfl) | (simp only [go_sem]; done) | (simp; done)))) | ((with_reducible apply reads_part); (focus (first | (simp [go_sem]; done) | (simp only [go_sem]; omega) | go_size)); (focus (first | (simp only [Nat.reduceAdd, Nat.zero_add, go_sem]; (try with_reducible rfl); done) | (simp [go_sem]; (try with_reducible rfl); done)))) | (with_reducible (first | (apply reads_left; assumption) | refine reads_exh (by assumption) ?_ | refine reads_exh0 (by assumption) ?_ | apply reads_next)))); done)); (focus rfl); simp only [Act.put, zg, zh, zi]))
        (go_ret; simp only [za, zb, zc, zd, ze, zf])
        exact ⟨_, rfl, hs.mono (ent_pu (by rw [hni.out]; rfl) (by rw [hJ.out]; ((repeat (first | (with_reducible (first | exact ent_refl | exact ent_emp)) | ((with_reducible apply ent_front); (focus with_reducible (repeat (first | exact ent_here | apply ent_next | exact ent_last)); done)) | (with_reducible (first | exact ent_keep | apply ent_trans ent_drop)))); done)))⟩
      | false =>
        rw [hr, if_neg (by simp)] at hst
        replace hst := Lib.hid hst
        go_wp2_with (first
        | ((with_reducible apply pl_callv hs (scl_s _ _ c x gh gq gi h m _)); (focus (simp only [Act.eval, za, zb, zc, zd, ze, zf]; (try with_reducible rfl); done)); (go_must (((focus (simp only [zj, zk, zl, List.append_toArray, List.nil_append, List.cons_append, Act.eval, za, zb, zc, zd, ze, zf]; (try with_reducible rfl); done)); (focus ((repeat (first | (with_reducible (first | exact ent_refl | apply ent_puR)) | ((with_reducible apply ent_front); (focus with_reducible (repeat (first | exact ent_here | apply ent_next | exact ent_last)); done)) | (with_reducible (first | exact ent_keep | apply ent_trans ent_drop)) | (focus (first | ((repeat' (first | (with_reducible assumption) | (with_reducible apply And.intro))); done))))); done)); (focus (simp only [go_sem]))))); clear hs; (try clear w); intro v w hq; (obtain ⟨hv, hs⟩ := hq.pu; rw [hr] at hv; subst hv; unfold swF at hs; rw [hr] at hs; rw [if_neg (by simp)] at hs); clear hq; (try simp only [star_assoc, star_emp, emp_star] at hs); (try simp only [Act.put, zg, zh, zi]))
        | ((with_reducible apply pl_loadN hs); (focus (simp only [Act.eval, za, zb, zc, zd, ze, zf]; (try with_reducible rfl); done)); (with_reducible (first | exact agg_35)); (focus ((repeat (first | (with_reducible (first | assumption | exact hel _ | exact hel2 _ | exact hel3 _)) | ((with_reducible apply reads_whole); (focus (first | (with_reducible rfl) | (simp only [go_sem]; done) | (simp; done)))) | ((with_reducible apply reads_part); (focus (first | (simp [go_sem]; done) | (simp only [go_sem]; omega) | go_size)); (focus (first | (simp only [Nat.reduceAdd, Nat.zero_add, go_sem]; (try with_reducible rfl); done) | (simp [go_sem]; (try with_reducible rfl); done)))) | (with_reducible (first | (apply reads_left; assumption) | refine reads_exh (by assumption) ?_ | refine reads_exh0 (by assumption) ?_ | apply reads_next)))); done)); (focus rfl); simp only [Act.put, zg, zh, zi]))
        go_roundw
        case rel => exact ⟨k + 1, by omega, by go_num, (fun j b hj hb => by
          rcases Nat.lt_or_eq_of_le (Nat.le_of_lt_succ hj) with h | h
          · exact hpre.out j b h hb
          · subst h; rw [hla] at hb; cases hb; exact hr), by rw [hst.out]; exact hs.mono (by ((repeat (first | (with_reducible (first | exact ent_refl | exact ent_emp)) | ((with_reducible apply ent_front); (focus with_reducible (repeat (first | exact ent_here | apply ent_next | exact ent_last)); done)) | (with_reducible (first | exact ent_keep | apply ent_trans ent_drop)))); done))⟩
        case measure => simp [intOf]; omega
    · have hnn := goneI_none (c := c) (l := l) fun j' b hj' hb => hpre.out j' b (by have := hn.out; omega) hb
      have hJ : swJ c f l = swK c f (l.take k) := by
        unfold swJ
        rw [hnn]
        show swK c f (l.take l.length) = _
        rw [List.take_of_length_le (by omega), List.take_of_length_le (by have := hn.out; omega)]
      clear hpre
      replace hJ := Lib.hid hJ
      go_wp2_with fail
      (go_ret; simp only [za, zb, zc, zd, ze, zf])
      exact ⟨_, rfl, hs.mono (ent_pu (by rw [hnn]; rfl) (by rw [hJ.out]; ((repeat (first | (with_reducible (first | exact ent_refl | exact ent_emp)) | ((with_reducible apply ent_front); (focus with_reducible (repeat (first | exact ent_here | apply ent_next | exact ent_last)); done)) | (with_reducible (first | exact ent_keep | apply ent_trans ent_drop)))); done)))⟩
theorem take_set_snoc {α : Type} {l : List α} {i : Nat} {x : α} (h : i < l.length) : (l.set i x).take (i + 1) = l.take i ++ [x] := by
  rw [List.take_add_one, List.getElem?_set, if_pos rfl, if_pos h, List.take_set_of_le (Nat.le_refl i)]
  rfl
theorem keep_none {c : Nat → Int} {l : List ActD} (h : goneI c l = none) : keepF c l = l := by
  unfold goneI at h
  rw [List.findIdx?_eq_none_iff] at h
  unfold keepF
  exact List.filter_eq_self.2 fun a ha => by simp [h a ha]
theorem keep_before {c : Nat → Int} {l : List ActD} {k : Nat} (h : goneI c l = some k) : k < l.length ∧ (∃ a, l[k]? = some a ∧ hasB c a.rep a.num = true) ∧ keepF c (l.take k) = l.take k := by
  unfold goneI at h
  rw [List.findIdx?_eq_some_iff_getElem] at h
  obtain ⟨hk, h1, h2⟩ := h
  refine ⟨hk, ⟨_, List.getElem?_eq_getElem hk, h1⟩, ?_⟩
  unfold keepF
  exact List.filter_eq_self.2 fun a ha => by
    obtain ⟨j, hj⟩ := List.getElem?_of_mem ha
    rw [List.getElem?_take] at hj
    split at hj
    · rename_i hjk
      obtain ⟨hjl, rfl⟩ := List.getElem?_eq_some_iff.1 hj
      simpa using h2 j hjk
    · cases hj
set_option maxRecDepth 20000 in
set_option maxHeartbeats 4000000 in
theorem deleteF_s (c0 : World) (F : HP) (l : List ActD) (A : Option Addr) (n cap : Nat) (c : Nat → Int) (gh gq gi h m : Nat) (f : Int → Int → Bool) : Spec Tryd.prog c0 62 #[.slice A n cap, gone gh gq]
    (pu (SW F c gh gq gi h ∧ l.length ≤ 1000 ∧ ClkI c ∧ AllW l) (row 35 13 actv (.slice A n cap) l * (keys h m f * F)))
    (fun r => pu (r = .slice A (keepF c l).length cap) (row 35 13 actv (.slice A (keepF c l).length cap) (keepF c l) * (keys h m (swK c f l) * F))) := by
  intro w hq; obtain ⟨⟨hsw, hl, hci, haw⟩, hs⟩ := hq.pu; clear hq
  obtain ⟨_, _, e1, hc1, hc2⟩ := row_slice hs.own
  obtain ⟨rfl, rfl, rfl⟩ := sl_inj e1
  unfold maxLen at hc2
  have hsl : ∀ R, SlR (row 35 13 actv (.slice A l.length cap) l * R) 13 actv (.slice A l.length cap) l := fun R => slr_row actv_size
  cases hg : goneI c l with
  | none =>
    have hk := keep_none hg
    have hJ : swJ c f l = swK c f l := by
      unfold swJ
      rw [hg]
      show swK c f (l.take l.length) = _
      rw [List.take_length]
    rw [hk]
    replace hJ := Lib.hid hJ
    replace hk := Lib.hid hk
    have hix : ∀ F, Spec Tryd.prog c0 39 #[.slice A l.length cap, gone gh gq] (pu (SW F c gh gq gi h ∧ SlR F 13 actv (.slice A l.length cap) l) (keys h m f * F)) (fun r => pu (r = .int .i64 (-1)) (keys h m (swK c f l) * F)) := fun F w hs => by
      obtain ⟨⟨h0, h1⟩, hs⟩ := hs.pu
      have := indexG_s c0 F _ l c gh gq gi h m f w (hs.mono (ent_pu ⟨h0, h1, hl, hci, haw⟩ ent_refl))
      rw [hg, hJ.out] at this
      exact this
    go_enter Tryd.func62, Tryd.ntmps62
    go_wp2_with (first
        | ((with_reducible apply pl_call hs (hix _)); (go_must (((focus (simp only [zj, zk, zl, List.append_toArray, List.nil_append, List.cons_append, Act.eval, za, zb, zc, zd, ze, zf]; (try with_reducible rfl); done)); (focus ((repeat (first | (with_reducible (first | exact ent_refl | apply ent_puR)) | ((with_reducible apply ent_front); (focus with_reducible (repeat (first | exact ent_here | apply ent_next | exact ent_last)); done)) | (with_reducible (first | exact ent_keep | apply ent_trans ent_drop)) | (focus (first | ((repeat' (first | (with_reducible apply And.intro) | (focus (first | ((repeat (first | (with_reducible (first | assumption |  exact hsl _ | exact hsl2 _ | exact hsl3 _ _ _ | exact slr_nil | exact slr_row (fun _ => by simp only [go_sem]) | (apply slr_left; assumption))) | (with_reducible apply slr_next))); done) | ((repeat (first | (with_reducible (first | assumption |  exact hsl _ | exact hsl2 _ | exact hsl3 _ _ _ | exact slr_nil | exact slr_row (fun _ => by simp only [go_sem]) | (apply slr_left; assumption))) | (with_reducible (first | (apply slr_exh; focus assumption) | (apply slr_exh0; focus assumption) | apply slr_next)))); done))) | (focus (with_reducible (repeat (first | assumption | (apply SW.left; assumption) | refine SW.exh (by assumption) ?_ | refine SW.exh0 (by assumption) ?_ | apply SW.next)); done)))); done))))); done)); (focus (simp only [go_sem]))))); clear hs; (try clear w); intro v w hq; (obtain ⟨rfl, hs⟩ := hq.pu); clear hq; (try simp only [star_assoc, star_emp, emp_star] at hs); (try simp only [Act.put, zg, zh, zi])))
    (go_ret; simp only [za, zb, zc, zd, ze, zf])
    exact ⟨_, rfl, hs.mono (ent_pu rfl (by ((repeat (first | (with_reducible (first | exact ent_refl | exact ent_emp)) | ((with_reducible apply ent_front); (focus with_reducible (repeat (first | exact ent_here | apply ent_next | exact ent_last)); done)) | (with_reducible (first | exact ent_keep | apply ent_trans ent_drop)))); done)))⟩
  | some k0 =>
    obtain ⟨hkl, ⟨a0, ha0, hh0⟩, hkb⟩ := keep_before hg
    have hJ : swJ c f l = swK c f (l.take (k0 + 1)) := by
      unfold swJ
      rw [hg]
    have hk1 : keepF c (l.take (k0 + 1)) = l.take k0 := by rw [keepF_step ha0, hh0, if_pos rfl, List.append_nil, hkb]
    replace hJ := Lib.hid hJ
    replace hk1 := Lib.hid hk1
    obtain ⟨ga, _, rfl, _, _⟩ := row_at (E := 35) (A := A) (n := l.length) (cap := cap) (i := k0) (l := l) (hs.own.mono (by (focus with_reducible (repeat (first | exact ent_here | apply ent_next | exact ent_last)); done))) actv_size hkl
    have hix : ∀ F, Spec Tryd.prog c0 39 #[.slice (some ⟨ga, 0, none⟩) l.length cap, gone gh gq] (pu (SW F c gh gq gi h ∧ SlR F 13 actv (.slice (some ⟨ga, 0, none⟩) l.length cap) l) (keys h m f * F)) (fun r => pu (r = .int .i64 k0) (keys h m (swK c f (l.take (k0 + 1))) * F)) := fun F w hs => by
      obtain ⟨⟨h0, h1⟩, hs⟩ := hs.pu
      have := indexG_s c0 F _ l c gh gq gi h m f w (hs.mono (ent_pu ⟨h0, h1, hl, hci, haw⟩ ent_refl))
      rw [hg, hJ.out] at this
      exact this
    clear ha0 hh0 hkb hg
    replace haw := Lib.hid haw
    go_enter Tryd.func62, Tryd.ntmps62
    go_wp2_with (first
        | ((with_reducible apply pl_call hs (hix _)); (go_must (((focus (simp only [zj, zk, zl, List.append_toArray, List.nil_append, List.cons_append, Act.eval, za, zb, zc, zd, ze, zf]; (try with_reducible rfl); done)); (focus ((repeat (first | (with_reducible (first | exact ent_refl | apply ent_puR)) | ((with_reducible apply ent_front); (focus with_reducible (repeat (first | exact ent_here | apply ent_next | exact ent_last)); done)) | (with_reducible (first | exact ent_keep | apply ent_trans ent_drop)) | (focus (first | ((repeat' (first | (with_reducible apply And.intro) | (focus (first | ((repeat (first | (with_reducible (first | assumption |  exact hsl _ | exact hsl2 _ | exact hsl3 _ _ _ | exact slr_nil | exact slr_row (fun _ => by simp only [go_sem]) | (apply slr_left; assumption))) | (with_reducible apply slr_next))); done) | ((repeat (first | (with_reducible (first | assumption |  exact hsl _ | exact hsl2 _ | exact hsl3 _ _ _ | exact slr_nil | exact slr_row (fun _ => by simp only [go_sem]) | (apply slr_left; assumption))) | (with_reducible (first | (apply slr_exh; focus assumption) | (apply slr_exh0; focus assumption) | apply slr_next)))); done))) | (focus (with_reducible (repeat (first | assumption | (apply SW.left; assumption) | refine SW.exh (by assumption) ?_ | refine SW.exh0 (by assumption) ?_ | apply SW.next)); done)))); done))))); done)); (focus (simp only [go_sem]))))); clear hs; (try clear w); intro v w hq; (obtain ⟨rfl, hs⟩ := hq.pu); clear hq; (try simp only [star_assoc, star_emp, emp_star] at hs); (try simp only [Act.put, zg, zh, zi])))
    go_loopw [5, 6] (fun iv jv wr => ∃ (i j : Nat) (mm : List ActD), i < j ∧ j ≤ l.length ∧ iv = .int .i64 i ∧ jv = .int .i64 j ∧ Hid (mm.length = l.length) ∧ Hid (mm.take i = keepF c (l.take j)) ∧ Hid (mm.drop j = l.drop j) ∧ Sat c0 (row 35 13 actv (.slice (some ⟨ga, 0, none⟩) l.length cap) mm * (keys h m (swK c f (l.take j)) * F)) wr) (fun _ jv _ => l.length - (intOf jv).toNat)
    case atStart => exact ⟨k0, k0 + 1, l, by omega, by omega, rfl, by go_num, Lib.hid rfl, Lib.hid hk1.out.symm, Lib.hid rfl, hs.mono (by ((repeat (first | (with_reducible (first | exact ent_refl | exact ent_emp)) | ((with_reducible apply ent_front); (focus with_reducible (repeat (first | exact ent_here | apply ent_next | exact ent_last)); done)) | (with_reducible (first | exact ent_keep | apply ent_trans ent_drop)))); done))⟩
    case round =>
      clear hs
      obtain ⟨i, j, mm, hij, hj, rfl, rfl, hml, hmt, hmd, hs⟩ := hrel
      by_cases hlt : j < l.length
      · obtain ⟨_, x, hgx, hlx, hel⟩ := row_at (E := 35) (A := some ⟨ga, 0, none⟩) (n := l.length) (cap := cap) (i := j) (l := mm) (hs.own.mono (by (focus with_reducible (repeat (first | exact ent_here | apply ent_next | exact ent_last)); done))) actv_size hlt
        obtain rfl : ga = _ := by simpa using hgx
        clear hgx
        have hlj : l[j]? = some x := by
          have h1 : (mm.drop j)[0]? = (l.drop j)[0]? := by rw [hmd.out]
          rw [List.getElem?_drop, List.getElem?_drop, Nat.add_zero, hlx] at h1
          exact h1.symm
        have hmd2 : mm.drop (j + 1) = l.drop (j + 1) := by
          have h1 : (mm.drop j).drop 1 = (l.drop j).drop 1 := by rw [hmd.out]
          rwa [List.drop_drop, List.drop_drop] at h1
        have hxw : ActW x := haw.out x (List.mem_of_getElem? hlj)
        have hst := swK_step (c := c) (f := f) hlj
        have hks := keepF_step (c := c) hlj
        unfold swF at hst
        have him : i < mm.length := by have := hml.out; omega
        clear hlj hlx
        replace hmd2 := Lib.hid hmd2
        cases hr : hasB c x.rep x.num with
        | true =>
          rw [hr, if_pos rfl] at hst
          rw [hr, if_pos rfl, List.append_nil] at hks
          replace hst := Lib.hid hst
          replace hks := Lib.hid hks
          go_wp2_with (first
        | ((with_reducible apply pl_callv hs (scl_s _ _ c x gh gq gi h m _)); (focus (simp only [Act.eval, za, zb, zc, zd, ze, zf]; (try with_reducible rfl); done)); (go_must (((focus (simp only [zj, zk, zl, List.append_toArray, List.nil_append, List.cons_append, Act.eval, za, zb, zc, zd, ze, zf]; (try with_reducible rfl); done)); (focus ((repeat (first | (with_reducible (first | exact ent_refl | apply ent_puR)) | ((with_reducible apply ent_front); (focus with_reducible (repeat (first | exact ent_here | apply ent_next | exact ent_last)); done)) | (with_reducible (first | exact ent_keep | apply ent_trans ent_drop)) | (focus (first | ((repeat' (first | (with_reducible assumption) | (with_reducible apply And.intro) | (focus (with_reducible (repeat (first | assumption | (apply SW.left; assumption) | refine SW.exh (by assumption) ?_ | refine SW.exh0 (by assumption) ?_ | apply SW.next)); done)))); done))))); done)); (focus (simp only [go_sem]))))); clear hs; (try clear w); intro v w hq; (obtain ⟨hv, hs⟩ := hq.pu; rw [hr] at hv; subst hv; unfold swF at hs; rw [hr] at hs; rw [if_pos rfl] at hs); clear hq; (try simp only [star_assoc, star_emp, emp_star] at hs); (try simp only [Act.put, zg, zh, zi]))
        | ((with_reducible apply pl_loadN hs); (focus (simp only [Act.eval, za, zb, zc, zd, ze, zf]; (try with_reducible rfl); done)); (with_reducible (first | exact agg_35)); (focus ((repeat (first | (with_reducible (first | assumption | exact hel _ | exact hel2 _ | exact hel3 _)) | ((with_reducible apply reads_whole); (focus (first | (with_reducible rfl) | (simp only [go_sem]; done) | (simp; done)))) | ((with_reducible apply reads_part); (focus (first | (simp [go_sem]; done) | (simp only [go_sem]; omega) | go_size)); (focus (first | (simp only [Nat.reduceAdd, Nat.zero_add, go_sem]; (try with_reducible rfl); done) | (simp [go_sem]; (try with_reducible rfl); done)))) | (with_reducible (first | (apply reads_left; assumption) | refine reads_exh (by assumption) ?_ | refine reads_exh0 (by assumption) ?_ | apply reads_next)))); done)); (focus rfl); simp only [Act.put, zg, zh, zi])
        | ((with_reducible apply pl_alloc hs); (with_reducible (first | exact zero_35)); clear hs; (try clear w); intro g w hs; skip; simp only [Act.put, zg, zh, zi])
        | ((with_reducible apply pl_storeN hs); (focus (simp only [Act.eval, za, zb, zc, zd, ze, zf]; (try with_reducible rfl); done)); (focus (simp only [Act.eval, za, zb, zc, zd, ze, zf]; (try with_reducible rfl); done)); (with_reducible (first | exact agg_35)); (focus with_reducible (repeat (first | exact ent_here | apply ent_next | exact ent_last)); done); (focus (first | (with_reducible rfl) | (simp only [go_sem]; done) | (simp; done))); (focus (first | (simp [go_sem]; done) | (simp only [go_sem]; omega) | go_size)); (focus (first | (simp only [go_sem]; done) | (simp [go_sem]; done))); (focus (first | ((with_reducible apply splice_whole); (focus (first | (with_reducible rfl) | (simp only [go_sem]; done) | (simp; done)))) | (simp [splice, go_sem]; done) | (simp only [go_sem]; (try with_reducible rfl); done))); clear hs; (try clear w); intro w hs; (try simp only [zg, zh, zi, clk_set, actv_set4] at hs); simp only [Act.put, zg, zh, zi]))
          exact ⟨⟨i, j + 1, mm, by omega, by omega, by simp, by simp, hml, Lib.hid (by rw [hmt.out, hks.out]), hmd2, by rw [hst.out]; exact hs.mono (by ((repeat (first | (with_reducible (first | exact ent_refl | exact ent_emp)) | ((with_reducible apply ent_front); (focus with_reducible (repeat (first | exact ent_here | apply ent_next | exact ent_last)); done)) | (with_reducible (first | exact ent_keep | apply ent_trans ent_drop)))); done))⟩, by simp [intOf]; omega⟩
        | false =>
          rw [hr, if_neg (by simp)] at hst
          rw [hr, if_neg (by simp)] at hks
          replace hst := Lib.hid hst
          replace hks := Lib.hid hks
          go_wp2_with (first
        | ((with_reducible apply pl_callv hs (scl_s _ _ c x gh gq gi h m _)); (focus (simp only [Act.eval, za, zb, zc, zd, ze, zf]; (try with_reducible rfl); done)); (go_must (((focus (simp only [zj, zk, zl, List.append_toArray, List.nil_append, List.cons_append, Act.eval, za, zb, zc, zd, ze, zf]; (try with_reducible rfl); done)); (focus ((repeat (first | (with_reducible (first | exact ent_refl | apply ent_puR)) | ((with_reducible apply ent_front); (focus with_reducible (repeat (first | exact ent_here | apply ent_next | exact ent_last)); done)) | (with_reducible (first | exact ent_keep | apply ent_trans ent_drop)) | (focus (first | ((repeat' (first | (with_reducible assumption) | (with_reducible apply And.intro) | (focus (with_reducible (repeat (first | assumption | (apply SW.left; assumption) | refine SW.exh (by assumption) ?_ | refine SW.exh0 (by assumption) ?_ | apply SW.next)); done)))); done))))); done)); (focus (simp only [go_sem]))))); clear hs; (try clear w); intro v w hq; (obtain ⟨hv, hs⟩ := hq.pu; rw [hr] at hv; subst hv; unfold swF at hs; rw [hr] at hs; rw [if_neg (by simp)] at hs); clear hq; (try simp only [star_assoc, star_emp, emp_star] at hs); (try simp only [Act.put, zg, zh, zi]))
        | ((with_reducible apply pl_loadN hs); (focus (simp only [Act.eval, za, zb, zc, zd, ze, zf]; (try with_reducible rfl); done)); (with_reducible (first | exact agg_35)); (focus ((repeat (first | (with_reducible (first | assumption | exact hel _ | exact hel2 _ | exact hel3 _)) | ((with_reducible apply reads_whole); (focus (first | (with_reducible rfl) | (simp only [go_sem]; done) | (simp; done)))) | ((with_reducible apply reads_part); (focus (first | (simp [go_sem]; done) | (simp only [go_sem]; omega) | go_size)); (focus (first | (simp only [Nat.reduceAdd, Nat.zero_add, go_sem]; (try with_reducible rfl); done) | (simp [go_sem]; (try with_reducible rfl); done)))) | (with_reducible (first | (apply reads_left; assumption) | refine reads_exh (by assumption) ?_ | refine reads_exh0 (by assumption) ?_ | apply reads_next)))); done)); (focus rfl); simp only [Act.put, zg, zh, zi])
        | ((with_reducible apply pl_alloc hs); (with_reducible (first | exact zero_35)); clear hs; (try clear w); intro g w hs; skip; simp only [Act.put, zg, zh, zi])
        | ((with_reducible apply pl_storeN hs); (focus (simp only [Act.eval, za, zb, zc, zd, ze, zf]; (try with_reducible rfl); done)); (focus (simp only [Act.eval, za, zb, zc, zd, ze, zf]; (try with_reducible rfl); done)); (with_reducible (first | exact agg_35)); (focus with_reducible (repeat (first | exact ent_here | apply ent_next | exact ent_last)); done); (focus (first | (with_reducible rfl) | (simp only [go_sem]; done) | (simp; done))); (focus (first | (simp [go_sem]; done) | (simp only [go_sem]; omega) | go_size)); (focus (first | (simp only [go_sem]; done) | (simp [go_sem]; done))); (focus (first | ((with_reducible apply splice_whole); (focus (first | (with_reducible rfl) | (simp only [go_sem]; done) | (simp; done)))) | (simp [splice, go_sem]; done) | (simp only [go_sem]; (try with_reducible rfl); done))); clear hs; (try clear w); intro w hs; (try simp only [zg, zh, zi, clk_set, actv_set4] at hs); simp only [Act.put, zg, zh, zi])
        | ((with_reducible apply pl_storeRow hs); (focus (simp only [Act.eval, za, zb, zc, zd, ze, zf]; (try with_reducible rfl); done)); (focus with_reducible (repeat (first | exact ent_here | apply ent_next | exact ent_last)); done); (focus (simp only [Act.eval, za, zb, zc, zd, ze, zf]; (try with_reducible rfl); done)); (with_reducible (first | exact agg_35)); (focus (first | (with_reducible rfl) | (simp; done))); (focus (first | omega | (simp [go_sem]; omega) | (simp only [go_sem]; omega))); (focus (intro _; simp only [go_sem])); (focus (intro _; simp only [go_sem])); clear hs; (try clear w); intro w hs; skip; simp only [Act.put, zg, zh, zi]))
          exact ⟨⟨i + 1, j + 1, mm.set i x, by omega, by omega, by simp, by simp, Lib.hid (by rw [List.length_set, hml.out]), Lib.hid (by rw [take_set_snoc him, hmt.out, hks.out]), Lib.hid (by rw [List.drop_set_of_lt (by omega)]; exact hmd2.out), by rw [hst.out]; exact hs.mono (by ((repeat (first | (with_reducible (first | exact ent_refl | exact ent_emp)) | ((with_reducible apply ent_front); (focus with_reducible (repeat (first | exact ent_here | apply ent_next | exact ent_last)); done)) | (with_reducible (first | exact ent_keep | apply ent_trans ent_drop)))); done))⟩, by simp [intOf]; omega⟩
      · obtain rfl : j = l.length := by omega
        have hke : keepF c l = mm.take i := by
          have := hmt.out
          rw [List.take_length] at this
          exact this.symm
        have hki : (keepF c l).length = i := by
          rw [hke, List.length_take]
          have := hml.out
          omega
        rw [List.take_length] at hs
        replace hs := hs.mono (ent_row_take actv_size i (by omega))
        replace hke := Lib.hid hke
        replace hki := Lib.hid hki
        have hic : i < cap := by omega
        clear hlt
        go_wp2_with (first
        | ((with_reducible apply pl_clearTail hs); (with_reducible (first | exact app_22 | exact app_51 | exact app_52)); (focus (first | (with_reducible exact clr_act))); (focus (simp only [Act.eval, za, zb, zc, zd, ze, zf]; (try with_reducible rfl); done)); (focus with_reducible (repeat (first | exact ent_here | apply ent_next | exact ent_last)); done); (focus (first | (with_reducible rfl) | (simp; done))); (focus (first | (with_reducible assumption) | omega | (simp; done) | (simp; omega))); clear hs; (try clear w); intro w hs; skip; simp only [Act.put, zg, zh, zi]))
        (go_ret; simp only [za, zb, zc, zd, ze, zf])
        exact ⟨_, rfl, hs.mono (ent_pu (by rw [hki.out]) (by rw [hki.out, hke.out]; ((repeat (first | (with_reducible (first | exact ent_refl | exact ent_emp)) | ((with_reducible apply ent_front); (focus with_reducible (repeat (first | exact ent_here | apply ent_next | exact ent_last)); done)) | (with_reducible (first | exact ent_keep | apply ent_trans ent_drop)))); done)))⟩
end Go.Proofs.YtnbbgcdemafcoaaDoor
