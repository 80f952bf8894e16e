/- The program's reader: each call, what it answers and how the reader stands behind it. -/
import Derived.Test.YtdniiegnaabagaaDoorV5
set_option linter.unusedSimpArgs false
set_option linter.unusedVariables false
namespace Go.Proofs.YtdniiegnaabagaaDoor
open Go Go.RowKit

/-! ### what is read, in parts -/
theorem RdS.xNum_er {s : RdS} {most : Int} {k : Nat} (hx : s.xNum most = .error k) : rd0 most (s.raw.drop s.pos) = .error k := by
  unfold RdS.xNum at hx
  split at hx
  · cases hx
  · rename_i e hr
    cases hx
    exact hr
theorem RdS.xNum_err {s : RdS} {most : Int} {k : Nat} (hx : s.xNum most = .error k) : 1 ≤ k ∧ k ≤ 13 := by
  have := rd0_err (RdS.xNum_er hx)
  omega
theorem RdS.xByte_err {s : RdS} {k : Nat} (hx : s.xByte = .error k) : 1 ≤ k ∧ k ≤ 13 := by
  unfold RdS.xByte at hx
  split at hx
  · cases hx
  · cases hx; omega
theorem RdS.xEnd_err {s : RdS} {k : Nat} (hx : s.xEnd = .error k) : 1 ≤ k ∧ k ≤ 13 := by
  unfold RdS.xEnd at hx
  split at hx
  · cases hx; omega
  · cases hx
theorem rd0_in {s : RdS} {most : Int} {v k : Nat} (hI : s.In) (hr : rd0 most (s.raw.drop s.pos) = .ok (v, k)) : s.pos + k ≤ s.raw.length := by
  have : s.xNum most = .ok (v, s.pos + k) := by unfold RdS.xNum; rw [hr]
  have := (RdS.xNum_ok hI this).2.1
  exact this
theorem RdS.xCount_ok {s : RdS} {least most : Int} {v p2 : Nat} (hx : s.xCount least most = .ok (v, p2)) : ∃ v0 k0, rd0 most (s.raw.drop s.pos) = .ok (v0, k0) ∧ v0 ≤ (s.raw.length - (s.pos + k0)) / (max least 1).toNat ∧ v0 = v ∧ s.pos + k0 = p2 := by
  unfold RdS.xCount RdS.xNum at hx
  cases hr : rd0 most (s.raw.drop s.pos) with
  | error e => rw [hr] at hx; cases hx
  | ok y =>
    obtain ⟨v0, k0⟩ := y
    rw [hr] at hx
    simp only at hx
    split at hx
    · cases hx
    · rename_i h
      cases hx
      exact ⟨v, k0, rfl, by omega, rfl, rfl⟩
theorem RdS.xCount_er {s : RdS} {least most : Int} {k : Nat} (hx : s.xCount least most = .error k) : rd0 most (s.raw.drop s.pos) = .error k ∨ ∃ v0 k0, rd0 most (s.raw.drop s.pos) = .ok (v0, k0) ∧ (s.raw.length - (s.pos + k0)) / (max least 1).toNat < v0 ∧ k = 7 := by
  unfold RdS.xCount RdS.xNum at hx
  cases hr : rd0 most (s.raw.drop s.pos) with
  | error e => rw [hr] at hx; cases hx; exact .inl rfl
  | ok y =>
    obtain ⟨v0, k0⟩ := y
    rw [hr] at hx
    simp only at hx
    split at hx
    · rename_i h
      cases hx
      exact .inr ⟨v0, k0, rfl, h, rfl⟩
    · cases hx
theorem RdS.xCount_err {s : RdS} {least most : Int} {k : Nat} (hx : s.xCount least most = .error k) : 1 ≤ k ∧ k ≤ 13 := by
  rcases RdS.xCount_er hx with h | ⟨_, _, _, _, rfl⟩
  · have := rd0_err h; omega
  · omega
theorem RdS.xText_ok {s : RdS} {most : Int} {v : List Int} {p2 : Nat} (hx : s.xText most = .ok (v, p2)) : ∃ v0 k0, rd0 most (s.raw.drop s.pos) = .ok (v0, k0) ∧ v0 ≤ s.raw.length - (s.pos + k0) ∧ (s.raw.drop (s.pos + k0)).take v0 = v ∧ s.pos + k0 + v0 = p2 := by
  unfold RdS.xText RdS.xNum at hx
  cases hr : rd0 most (s.raw.drop s.pos) with
  | error e => rw [hr] at hx; cases hx
  | ok y =>
    obtain ⟨v0, k0⟩ := y
    rw [hr] at hx
    simp only at hx
    split at hx
    · cases hx
    · rename_i h
      cases hx
      exact ⟨v0, k0, rfl, by omega, rfl, rfl⟩
theorem RdS.xText_er {s : RdS} {most : Int} {k : Nat} (hx : s.xText most = .error k) : rd0 most (s.raw.drop s.pos) = .error k ∨ ∃ v0 k0, rd0 most (s.raw.drop s.pos) = .ok (v0, k0) ∧ s.raw.length - (s.pos + k0) < v0 ∧ k = 7 := by
  unfold RdS.xText RdS.xNum at hx
  cases hr : rd0 most (s.raw.drop s.pos) with
  | error e => rw [hr] at hx; cases hx; exact .inl rfl
  | ok y =>
    obtain ⟨v0, k0⟩ := y
    rw [hr] at hx
    simp only at hx
    split at hx
    · rename_i h
      cases hx
      exact .inr ⟨v0, k0, rfl, h, rfl⟩
    · cases hx
theorem RdS.xText_err {s : RdS} {most : Int} {k : Nat} (hx : s.xText most = .error k) : 1 ≤ k ∧ k ≤ 13 := by
  rcases RdS.xText_er hx with h | ⟨_, _, _, _, rfl⟩
  · have := rd0_err h; omega
  · omega
/-! ### the calls -/
set_option maxRecDepth 20000 in
set_option maxHeartbeats 1000000 in
theorem rnum_s (c0 : World) (F : HP) (a : Nat → Addr) (g : Nat) (A : Option Addr) (n c : Nat) (e : Value) (s : RdS) (most : Int) : Spec Tryd.prog c0 15 #[.pointer (some ⟨g, 0, none⟩), .int .i64 most]
    (pu (PRd A n c s.raw a F ∧ s.In) (rdr a g A n c e s * F)) (fun r => ex fun e2 : Value => pu (r = .tuple #[.int .i64 ((s.num most).1 : Nat), e2]) (rdr a g A n c e2 (s.num most).2 * F)) := by
  intro w hq; obtain ⟨⟨hpr, hI⟩, hs⟩ := hq.pu; clear hq
  have hmf : ∀ (fn : Fn) (first cap : Array Value) (w : World), (Instr.makeFunc fn first cap).run Tryd.prog w = .ok (.func fn first cap) w := fun _ _ _ _ => rfl
  have hnl := (slr_len hpr.sl (hs.own.mono ent_drop)).1
  have hrd : ∀ (F : HP) (gr gm gn : Nat), Spec Tryd.prog c0 39 #[.pointer (some ⟨g, 0, none⟩), .string ⟨#[78, 117, 109, 98, 101, 114]⟩, .func (.func 40) #[] #[.pointer (some ⟨gr, 0, none⟩), .pointer (some ⟨gm, 0, none⟩), .pointer (some ⟨gn, 0, none⟩)]]
      (pu (PRd A n c s.raw a F) (rdr a g A n c e s * (vR gr g * (vJ gm most * (vI gn 0 * F))))) (fun r => rdr a g A n c r (s.num most).2 * (vR gr g * (vJ gm most * (vI gn ((s.num most).1 : Nat) * F)))) := fun F gr gm gn w hs => by
    obtain ⟨hF, hs⟩ := hs.pu
    have h := reads_s c0 F g A n c e s cNumber a 40 #[.pointer (some ⟨gr, 0, none⟩), .pointer (some ⟨gm, 0, none⟩), .pointer (some ⟨gn, 0, none⟩)] (by kernel_rfl) (fun v : Nat => numH g gr gm gn most v) 0 (s.xNum most) (PRd A n c s.raw a) (fun _ _ h => h.next) hF (fun v p2 hx c0 F => ?_) (fun k hx => ⟨?_, fun c0 F => ?_⟩) w (by (try simp only [star_assoc]); exact hs)
    · (try simp only [star_assoc] at h)
      exact h
    · unfold RdS.xNum at hx
      split at hx
      · rename_i m k hr
        cases hx
        exact fun w hs => num1_s c0 F g A n c s.pos gr gm gn 0 s.raw most a _ _ w (hs.mono (ent_pu_l fun hp => ent_pu ⟨hp, by have := hI.1; omega, hI.2, hr⟩ ent_refl))
      · cases hx
    · exact RdS.xNum_err hx
    · exact fun w hs => num1P_s c0 F g A n c s.pos gr gm gn 0 s.raw most a k w (hs.mono (ent_pu_l fun hp => ent_pu ⟨hp, by have := hI.1; omega, hI.2, RdS.xNum_er hx⟩ ent_refl))
  clear hnl
  generalize hsn : s.num most = sn at *
  go_enter Tryd.func15, Tryd.ntmps15
  go_wp2_with (first
        | ((with_reducible apply pl_call hs (hrd _ _ _ _)); (go_must (((focus (simp only [zj, zk, zl, List.append_toArray, List.nil_append, List.cons_append, Act.eval, za, zb, zc, zd, ze, zf]; (try with_reducible rfl); done)); (focus ((repeat (first | (with_reducible (first | exact ent_refl | apply ent_puR)) | ((with_reducible apply ent_front); (focus with_reducible (repeat (first | exact ent_here | apply ent_next | exact ent_last)); done)) | (with_reducible (first | exact ent_keep | apply ent_trans ent_drop)) | (focus (first | (with_reducible assumption))))); done)); (focus (simp only [go_sem]))))); clear hs; (try clear w); intro v w hq; (have hs := hq); clear hq; (try simp only [star_assoc, star_emp, emp_star] at hs); (try simp only [Act.put, zg, zh, zi]))
        | ((with_reducible apply pl_load1 hs); (focus (simp only [Act.eval, za, zb, zc, zd, ze, zf]; (try with_reducible rfl); done)); (focus (simp only [go_sem])); (focus ((repeat (first | (with_reducible (first | assumption | exact hec _ | exact hec2 _ | exact hec3 _ | exact hec4 _ _)) | ((with_reducible apply readc_here); (focus (first | (simp only [zc, zd, ze, go_sem]; (try with_reducible rfl); done) | (go_simp; (try with_reducible rfl); done)))) | (with_reducible (first | (apply readc_left; assumption) | refine readc_exh (by assumption) ?_ | refine readc_exh0 (by assumption) ?_ | apply readc_next)))); done)); (focus rfl); simp only [Act.put, zg, zh, zi])
        | ((with_reducible apply pl_alloc hs); (with_reducible (first | exact zero_3)); clear hs; (try clear w); intro g w hs; skip; simp only [Act.put, zg, zh, zi])
        | ((with_reducible apply pl_box hs); (focus (simp only [Act.eval, za, zb, zc, zd, ze, zf]; (try with_reducible rfl); done)); (focus (first | (with_reducible (first | exact cells_intv _ | exact cells_bytv _ | exact cells_agg _ | exact cells_int _ _ | exact cells_bool _ | exact cells_string _ | exact cells_slice _ _ _ | exact cells_pointer _ | exact cells_map _ | exact cells_iface _ _ | exact cells_nilIface | exact cells_func _ _ _)) | (exact cells_one (by assumption)))); clear hs; (try clear w); intro g w hs; skip; simp only [Act.put, zg, zh, zi])
        | ((with_reducible apply pl_store1 hs); (focus (simp only [Act.eval, za, zb, zc, zd, ze, zf]; (try with_reducible rfl); done)); (focus (simp only [Act.eval, za, zb, zc, zd, ze, zf]; (try with_reducible rfl); done)); (focus (simp only [go_sem])); (focus with_reducible (repeat (first | exact ent_here | apply ent_next | exact ent_last)); done); (focus (first | (simp [go_sem]; done) | (simp only [go_sem]; omega) | go_size)); (focus (first | (simp only [go_sem]; done) | (simp [go_sem]; done))); clear hs; (try clear w); intro w hs; (try simp only [zg, zh, zi, itm_s0, itm_s1, itm_s2, itm_s3, cal_s0, cal_s1, cal_s2, lnk_s0, lnk_s1, lnk_s2, nov_s0, nov_s1, nov_s2, intv_set, bytv_set] at hs); simp only [Act.put, zg, zh, zi]))
  exact ret_c1t rfl (by simp only [go_sem]) rfl ((by (focus ((repeat (first | (with_reducible (first | assumption | exact hec _ | exact hec2 _ | exact hec3 _ | exact hec4 _ _)) | ((with_reducible apply readc_here); (focus (first | (simp only [zc, zd, ze, go_sem]; (try with_reducible rfl); done) | (go_simp; (try with_reducible rfl); done)))) | (with_reducible (first | (apply readc_left; assumption) | refine readc_exh (by assumption) ?_ | refine readc_exh0 (by assumption) ?_ | apply readc_next)))); done)) : ReadC _ g 0 _) w hs.own) rfl ⟨_, rfl, hs.mono (ent_ex v (ent_pu rfl (by ((repeat (first | (with_reducible (first | exact ent_refl | exact ent_emp)) | ((with_reducible apply ent_front); (focus with_reducible (repeat (first | exact ent_here | apply ent_next | exact ent_last)); done)) | (with_reducible (first | exact ent_keep | apply ent_trans ent_drop)))); done))))⟩
set_option maxRecDepth 20000 in
set_option maxHeartbeats 1000000 in
theorem rbyte_s (c0 : World) (F : HP) (a : Nat → Addr) (g : Nat) (A : Option Addr) (n c : Nat) (e : Value) (s : RdS) : Spec Tryd.prog c0 19 #[.pointer (some ⟨g, 0, none⟩)]
    (pu (PRd A n c s.raw a F ∧ s.In) (rdr a g A n c e s * F)) (fun r => ex fun e2 : Value => pu (r = .tuple #[.int .u8 (s.byte).1, e2]) (rdr a g A n c e2 (s.byte).2 * F)) := by
  intro w hq; obtain ⟨⟨hpr, hI⟩, hs⟩ := hq.pu; clear hq
  have hmf : ∀ (fn : Fn) (first cap : Array Value) (w : World), (Instr.makeFunc fn first cap).run Tryd.prog w = .ok (.func fn first cap) w := fun _ _ _ _ => rfl
  have hnl := (slr_len hpr.sl (hs.own.mono ent_drop)).1
  have hrd : ∀ (F : HP) (gr gb : Nat), Spec Tryd.prog c0 39 #[.pointer (some ⟨g, 0, none⟩), .string ⟨#[66, 121, 116, 101]⟩, .func (.func 44) #[] #[.pointer (some ⟨gr, 0, none⟩), .pointer (some ⟨gb, 0, none⟩)]]
      (pu (PRd A n c s.raw a F) (rdr a g A n c e s * (vR gr g * (vB gb 0 * F)))) (fun r => rdr a g A n c r (s.byte).2 * (vR gr g * (vB gb (s.byte).1 * F))) := fun F gr gb w hs => by
    obtain ⟨hF, hs⟩ := hs.pu
    have h := reads_s c0 F g A n c e s cByte a 44 #[.pointer (some ⟨gr, 0, none⟩), .pointer (some ⟨gb, 0, none⟩)] (by kernel_rfl) (fun v : Int => bytH g gr gb v) 0 (s.xByte) (PRd A n c s.raw a) (fun _ _ h => h.next) hF (fun v p2 hx c0 F => ?_) (fun k hx => ⟨?_, fun c0 F => ?_⟩) w (by (try simp only [star_assoc]); exact hs)
    · (try simp only [star_assoc] at h)
      exact h
    · unfold RdS.xByte at hx
      split at hx
      · rename_i b hr
        cases hx
        exact fun w hs => byt1_s c0 F g A n c s.pos gr gb 0 s.raw a _ w (hs.mono (ent_pu_l fun hp => ent_pu ⟨hp, hr⟩ ent_refl))
      · cases hx
    · exact RdS.xByte_err hx
    · unfold RdS.xByte at hx
      split at hx
      · cases hx
      · rename_i hr
        cases hx
        have hpn : s.pos = n := by have := hI.1; rw [List.getElem?_eq_none_iff] at hr; omega
        rw [hpn]
        exact byt1P_s c0 F g A n c gr gb 0 s.raw a
  clear hnl
  generalize hsn : s.byte = sn at *
  go_enter Tryd.func19, Tryd.ntmps19
  go_wp2_with (first
        | ((with_reducible apply pl_call hs (hrd _ _ _)); (go_must (((focus (simp only [zj, zk, zl, List.append_toArray, List.nil_append, List.cons_append, Act.eval, za, zb, zc, zd, ze, zf]; (try with_reducible rfl); done)); (focus ((repeat (first | (with_reducible (first | exact ent_refl | apply ent_puR)) | ((with_reducible apply ent_front); (focus with_reducible (repeat (first | exact ent_here | apply ent_next | exact ent_last)); done)) | (with_reducible (first | exact ent_keep | apply ent_trans ent_drop)) | (focus (first | (with_reducible assumption))))); done)); (focus (simp only [go_sem]))))); clear hs; (try clear w); intro v w hq; (have hs := hq); clear hq; (try simp only [star_assoc, star_emp, emp_star] at hs); (try simp only [Act.put, zg, zh, zi]))
        | ((with_reducible apply pl_load1 hs); (focus (simp only [Act.eval, za, zb, zc, zd, ze, zf]; (try with_reducible rfl); done)); (focus (simp only [go_sem])); (focus ((repeat (first | (with_reducible (first | assumption | exact hec _ | exact hec2 _ | exact hec3 _ | exact hec4 _ _)) | ((with_reducible apply readc_here); (focus (first | (simp only [zc, zd, ze, go_sem]; (try with_reducible rfl); done) | (go_simp; (try with_reducible rfl); done)))) | (with_reducible (first | (apply readc_left; assumption) | refine readc_exh (by assumption) ?_ | refine readc_exh0 (by assumption) ?_ | apply readc_next)))); done)); (focus rfl); simp only [Act.put, zg, zh, zi])
        | ((with_reducible apply pl_alloc hs); (with_reducible (first | exact zero_5)); clear hs; (try clear w); intro g w hs; skip; simp only [Act.put, zg, zh, zi])
        | ((with_reducible apply pl_box hs); (focus (simp only [Act.eval, za, zb, zc, zd, ze, zf]; (try with_reducible rfl); done)); (focus (first | (with_reducible (first | exact cells_intv _ | exact cells_bytv _ | exact cells_agg _ | exact cells_int _ _ | exact cells_bool _ | exact cells_string _ | exact cells_slice _ _ _ | exact cells_pointer _ | exact cells_map _ | exact cells_iface _ _ | exact cells_nilIface | exact cells_func _ _ _)) | (exact cells_one (by assumption)))); clear hs; (try clear w); intro g w hs; skip; simp only [Act.put, zg, zh, zi])
        | ((with_reducible apply pl_store1 hs); (focus (simp only [Act.eval, za, zb, zc, zd, ze, zf]; (try with_reducible rfl); done)); (focus (simp only [Act.eval, za, zb, zc, zd, ze, zf]; (try with_reducible rfl); done)); (focus (simp only [go_sem])); (focus with_reducible (repeat (first | exact ent_here | apply ent_next | exact ent_last)); done); (focus (first | (simp [go_sem]; done) | (simp only [go_sem]; omega) | go_size)); (focus (first | (simp only [go_sem]; done) | (simp [go_sem]; done))); clear hs; (try clear w); intro w hs; (try simp only [zg, zh, zi, itm_s0, itm_s1, itm_s2, itm_s3, cal_s0, cal_s1, cal_s2, lnk_s0, lnk_s1, lnk_s2, nov_s0, nov_s1, nov_s2, intv_set, bytv_set] at hs); simp only [Act.put, zg, zh, zi]))
  exact ret_c1t rfl (by simp only [go_sem]) rfl ((by (focus ((repeat (first | (with_reducible (first | assumption | exact hec _ | exact hec2 _ | exact hec3 _ | exact hec4 _ _)) | ((with_reducible apply readc_here); (focus (first | (simp only [zc, zd, ze, go_sem]; (try with_reducible rfl); done) | (go_simp; (try with_reducible rfl); done)))) | (with_reducible (first | (apply readc_left; assumption) | refine readc_exh (by assumption) ?_ | refine readc_exh0 (by assumption) ?_ | apply readc_next)))); done)) : ReadC _ g 0 _) w hs.own) rfl ⟨_, rfl, hs.mono (ent_ex v (ent_pu rfl (by ((repeat (first | (with_reducible (first | exact ent_refl | exact ent_emp)) | ((with_reducible apply ent_front); (focus with_reducible (repeat (first | exact ent_here | apply ent_next | exact ent_last)); done)) | (with_reducible (first | exact ent_keep | apply ent_trans ent_drop)))); done))))⟩
set_option maxRecDepth 20000 in
set_option maxHeartbeats 1000000 in
theorem rtext_s (c0 : World) (F : HP) (a : Nat → Addr) (g : Nat) (A : Option Addr) (n c : Nat) (e : Value) (s : RdS) (most : Int) : Spec Tryd.prog c0 17 #[.pointer (some ⟨g, 0, none⟩), .int .i64 most]
    (pu (PRd A n c s.raw a F ∧ s.In) (rdr a g A n c e s * F)) (fun r => ex fun e2 : Value => pu (r = .tuple #[.string (bts (s.text most).1), e2]) (rdr a g A n c e2 (s.text most).2 * F)) := by
  intro w hq; obtain ⟨⟨hpr, hI⟩, hs⟩ := hq.pu; clear hq
  have hmf : ∀ (fn : Fn) (first cap : Array Value) (w : World), (Instr.makeFunc fn first cap).run Tryd.prog w = .ok (.func fn first cap) w := fun _ _ _ _ => rfl
  have hnl := (slr_len hpr.sl (hs.own.mono ent_drop)).1
  have hrd : ∀ (F : HP) (gr gm gs : Nat), Spec Tryd.prog c0 39 #[.pointer (some ⟨g, 0, none⟩), .string ⟨#[84, 101, 120, 116]⟩, .func (.func 43) #[] #[.pointer (some ⟨gr, 0, none⟩), .pointer (some ⟨gm, 0, none⟩), .pointer (some ⟨gs, 0, none⟩)]]
      (pu (PRd A n c s.raw a F) (rdr a g A n c e s * (vR gr g * (vJ gm most * (vS gs ⟨#[]⟩ * F))))) (fun r => rdr a g A n c r (s.text most).2 * (vR gr g * (vJ gm most * (vS gs (bts (s.text most).1) * F)))) := fun F gr gm gs w hs => by
    obtain ⟨hF, hs⟩ := hs.pu
    have h := reads_s c0 F g A n c e s cText a 43 #[.pointer (some ⟨gr, 0, none⟩), .pointer (some ⟨gm, 0, none⟩), .pointer (some ⟨gs, 0, none⟩)] (by kernel_rfl) (fun v : List Int => txtH g gr gm gs most v) [] (s.xText most) (PRd A n c s.raw a) (fun _ _ h => h.next) hF (fun v p2 hx c0 F => ?_) (fun k hx => ⟨?_, fun c0 F => ?_⟩) w (by (try simp only [star_assoc]); exact hs)
    · (try simp only [star_assoc] at h)
      exact h
    · obtain ⟨v0, k0, hr, hx⟩ := RdS.xText_ok hx
      obtain ⟨hpk, hv⟩ := hx
      obtain ⟨rfl, rfl⟩ := hv
      have hk := rd0_in hI hr
      exact fun w hs => txt1_s c0 F g A n c s.pos gr gm gs [] s.raw most a v0 k0 w (hs.mono (ent_pu_l fun hp => ent_pu ⟨hp, by have := hI.1; omega, hI.2, hr, by omega, by rw [hnl]; exact hpk⟩ ent_refl))
    · exact RdS.xText_err hx
    · rcases RdS.xText_er hx with hr | ⟨v0, k0, hr, hv, rfl⟩
      · exact fun w hs => txt1Q_s c0 F g A n c s.pos gr gm gs [] s.raw most a k w (hs.mono (ent_pu_l fun hp => ent_pu ⟨hp, by have := hI.1; omega, hI.2, hr⟩ ent_refl))
      · have hk := rd0_in hI hr
        exact fun w hs => txt1P_s c0 F g A n c s.pos gr gm gs [] s.raw most a v0 k0 w (hs.mono (ent_pu_l fun hp => ent_pu ⟨hp, by have := hI.1; omega, hI.2, hr, by omega, by rw [hnl]; exact hv⟩ ent_refl))
  clear hnl
  generalize hsn : s.text most = sn at *
  go_enter Tryd.func17, Tryd.ntmps17
  go_wp2_with (first
        | ((with_reducible apply pl_call hs (hrd _ _ _ _)); (go_must (((focus (simp only [zj, zk, zl, List.append_toArray, List.nil_append, List.cons_append, Act.eval, za, zb, zc, zd, ze, zf]; (try with_reducible rfl); done)); (focus ((repeat (first | (with_reducible (first | exact ent_refl | apply ent_puR)) | ((with_reducible apply ent_front); (focus with_reducible (repeat (first | exact ent_here | apply ent_next | exact ent_last)); done)) | (with_reducible (first | exact ent_keep | apply ent_trans ent_drop)) | (focus (first | (with_reducible assumption))))); done)); (focus (simp only [go_sem]))))); clear hs; (try clear w); intro v w hq; (have hs := hq); clear hq; (try simp only [star_assoc, star_emp, emp_star] at hs); (try simp only [Act.put, zg, zh, zi]))
        | ((with_reducible apply pl_load1 hs); (focus (simp only [Act.eval, za, zb, zc, zd, ze, zf]; (try with_reducible rfl); done)); (focus (simp only [go_sem])); (focus ((repeat (first | (with_reducible (first | assumption | exact hec _ | exact hec2 _ | exact hec3 _ | exact hec4 _ _)) | ((with_reducible apply readc_here); (focus (first | (simp only [zc, zd, ze, go_sem]; (try with_reducible rfl); done) | (go_simp; (try with_reducible rfl); done)))) | (with_reducible (first | (apply readc_left; assumption) | refine readc_exh (by assumption) ?_ | refine readc_exh0 (by assumption) ?_ | apply readc_next)))); done)); (focus rfl); simp only [Act.put, zg, zh, zi])
        | ((with_reducible apply pl_alloc hs); (with_reducible (first | exact zero_9)); clear hs; (try clear w); intro g w hs; skip; simp only [Act.put, zg, zh, zi])
        | ((with_reducible apply pl_box hs); (focus (simp only [Act.eval, za, zb, zc, zd, ze, zf]; (try with_reducible rfl); done)); (focus (first | (with_reducible (first | exact cells_intv _ | exact cells_bytv _ | exact cells_agg _ | exact cells_int _ _ | exact cells_bool _ | exact cells_string _ | exact cells_slice _ _ _ | exact cells_pointer _ | exact cells_map _ | exact cells_iface _ _ | exact cells_nilIface | exact cells_func _ _ _)) | (exact cells_one (by assumption)))); clear hs; (try clear w); intro g w hs; skip; simp only [Act.put, zg, zh, zi])
        | ((with_reducible apply pl_store1 hs); (focus (simp only [Act.eval, za, zb, zc, zd, ze, zf]; (try with_reducible rfl); done)); (focus (simp only [Act.eval, za, zb, zc, zd, ze, zf]; (try with_reducible rfl); done)); (focus (simp only [go_sem])); (focus with_reducible (repeat (first | exact ent_here | apply ent_next | exact ent_last)); done); (focus (first | (simp [go_sem]; done) | (simp only [go_sem]; omega) | go_size)); (focus (first | (simp only [go_sem]; done) | (simp [go_sem]; done))); clear hs; (try clear w); intro w hs; (try simp only [zg, zh, zi, itm_s0, itm_s1, itm_s2, itm_s3, cal_s0, cal_s1, cal_s2, lnk_s0, lnk_s1, lnk_s2, nov_s0, nov_s1, nov_s2, intv_set, bytv_set] at hs); simp only [Act.put, zg, zh, zi]))
  (go_ret2; simp only [za, zb, zc, zd, ze, zf])
  exact ⟨_, rfl, hs.mono (ent_ex _ (ent_pu rfl (by ((repeat (first | (with_reducible (first | exact ent_refl | exact ent_emp)) | ((with_reducible apply ent_front); (focus with_reducible (repeat (first | exact ent_here | apply ent_next | exact ent_last)); done)) | (with_reducible (first | exact ent_keep | apply ent_trans ent_drop)))); done))))⟩
set_option maxRecDepth 20000 in
set_option maxHeartbeats 1000000 in
theorem rcount_s (c0 : World) (F : HP) (a : Nat → Addr) (g : Nat) (A : Option Addr) (n c : Nat) (e : Value) (s : RdS) (least most : Int) : Spec Tryd.prog c0 21 #[.pointer (some ⟨g, 0, none⟩), .int .i64 least, .int .i64 most]
    (pu (PRd A n c s.raw a F ∧ s.In) (rdr a g A n c e s * F)) (fun r => ex fun e2 : Value => pu (r = .tuple #[.int .i64 ((s.count least most).1 : Nat), e2]) (rdr a g A n c e2 (s.count least most).2 * F)) := by
  intro w hq; obtain ⟨⟨hpr, hI⟩, hs⟩ := hq.pu; clear hq
  have hmf : ∀ (fn : Fn) (first cap : Array Value) (w : World), (Instr.makeFunc fn first cap).run Tryd.prog w = .ok (.func fn first cap) w := fun _ _ _ _ => rfl
  have hnl := (slr_len hpr.sl (hs.own.mono ent_drop)).1
  have hrd : ∀ (F : HP) (gr gm gq gn : Nat), Spec Tryd.prog c0 39 #[.pointer (some ⟨g, 0, none⟩), .string ⟨#[67, 111, 117, 110, 116]⟩, .func (.func 46) #[] #[.pointer (some ⟨gr, 0, none⟩), .pointer (some ⟨gm, 0, none⟩), .pointer (some ⟨gq, 0, none⟩), .pointer (some ⟨gn, 0, none⟩)]]
      (pu (PRd A n c s.raw a F) (rdr a g A n c e s * (vR gr g * (vJ gm most * (vJ gq least * (vI gn 0 * F)))))) (fun r => rdr a g A n c r (s.count least most).2 * (vR gr g * (vJ gm most * (vJ gq least * (vI gn ((s.count least most).1 : Nat) * F))))) := fun F gr gm gq gn w hs => by
    obtain ⟨hF, hs⟩ := hs.pu
    have h := reads_s c0 F g A n c e s cCount a 46 #[.pointer (some ⟨gr, 0, none⟩), .pointer (some ⟨gm, 0, none⟩), .pointer (some ⟨gq, 0, none⟩), .pointer (some ⟨gn, 0, none⟩)] (by kernel_rfl) (fun v : Nat => cntH g gr gm gq gn least most v) 0 (s.xCount least most) (PRd A n c s.raw a) (fun _ _ h => h.next) hF (fun v p2 hx c0 F => ?_) (fun k hx => ⟨?_, fun c0 F => ?_⟩) w (by (try simp only [star_assoc]); exact hs)
    · (try simp only [star_assoc] at h)
      exact h
    · obtain ⟨v0, k0, hr, hx⟩ := RdS.xCount_ok hx
      obtain ⟨hpk, hv⟩ := hx
      obtain ⟨rfl, rfl⟩ := hv
      have hk := rd0_in hI hr
      exact fun w hs => cnt1_s c0 F g A n c s.pos gr gm gq gn 0 s.raw least most a v0 k0 w (hs.mono (ent_pu_l fun hp => ent_pu ⟨hp, by have := hI.1; omega, hI.2, hr, by omega, by rw [hnl]; exact hpk⟩ ent_refl))
    · exact RdS.xCount_err hx
    · rcases RdS.xCount_er hx with hr | ⟨v0, k0, hr, hv, rfl⟩
      · exact fun w hs => cnt1Q_s c0 F g A n c s.pos gr gm gq gn 0 s.raw least most a k w (hs.mono (ent_pu_l fun hp => ent_pu ⟨hp, by have := hI.1; omega, hI.2, hr⟩ ent_refl))
      · have hk := rd0_in hI hr
        exact fun w hs => cnt1P_s c0 F g A n c s.pos gr gm gq gn 0 s.raw least most a v0 k0 w (hs.mono (ent_pu_l fun hp => ent_pu ⟨hp, by have := hI.1; omega, hI.2, hr, by omega, by rw [hnl]; exact hv⟩ ent_refl))
  clear hnl
  generalize hsn : s.count least most = sn at *
  go_enter Tryd.func21, Tryd.ntmps21
  go_wp2_with (first
        | ((with_reducible apply pl_call hs (hrd _ _ _ _ _)); (go_must (((focus (simp only [zj, zk, zl, List.append_toArray, List.nil_append, List.cons_append, Act.eval, za, zb, zc, zd, ze, zf]; (try with_reducible rfl); done)); (focus ((repeat (first | (with_reducible (first | exact ent_refl | apply ent_puR)) | ((with_reducible apply ent_front); (focus with_reducible (repeat (first | exact ent_here | apply ent_next | exact ent_last)); done)) | (with_reducible (first | exact ent_keep | apply ent_trans ent_drop)) | (focus (first | (with_reducible assumption))))); done)); (focus (simp only [go_sem]))))); clear hs; (try clear w); intro v w hq; (have hs := hq); clear hq; (try simp only [star_assoc, star_emp, emp_star] at hs); (try simp only [Act.put, zg, zh, zi]))
        | ((with_reducible apply pl_load1 hs); (focus (simp only [Act.eval, za, zb, zc, zd, ze, zf]; (try with_reducible rfl); done)); (focus (simp only [go_sem])); (focus ((repeat (first | (with_reducible (first | assumption | exact hec _ | exact hec2 _ | exact hec3 _ | exact hec4 _ _)) | ((with_reducible apply readc_here); (focus (first | (simp only [zc, zd, ze, go_sem]; (try with_reducible rfl); done) | (go_simp; (try with_reducible rfl); done)))) | (with_reducible (first | (apply readc_left; assumption) | refine readc_exh (by assumption) ?_ | refine readc_exh0 (by assumption) ?_ | apply readc_next)))); done)); (focus rfl); simp only [Act.put, zg, zh, zi])
        | ((with_reducible apply pl_alloc hs); (with_reducible (first | exact zero_3)); clear hs; (try clear w); intro g w hs; skip; simp only [Act.put, zg, zh, zi])
        | ((with_reducible apply pl_box hs); (focus (simp only [Act.eval, za, zb, zc, zd, ze, zf]; (try with_reducible rfl); done)); (focus (first | (with_reducible (first | exact cells_intv _ | exact cells_bytv _ | exact cells_agg _ | exact cells_int _ _ | exact cells_bool _ | exact cells_string _ | exact cells_slice _ _ _ | exact cells_pointer _ | exact cells_map _ | exact cells_iface _ _ | exact cells_nilIface | exact cells_func _ _ _)) | (exact cells_one (by assumption)))); clear hs; (try clear w); intro g w hs; skip; simp only [Act.put, zg, zh, zi])
        | ((with_reducible apply pl_store1 hs); (focus (simp only [Act.eval, za, zb, zc, zd, ze, zf]; (try with_reducible rfl); done)); (focus (simp only [Act.eval, za, zb, zc, zd, ze, zf]; (try with_reducible rfl); done)); (focus (simp only [go_sem])); (focus with_reducible (repeat (first | exact ent_here | apply ent_next | exact ent_last)); done); (focus (first | (simp [go_sem]; done) | (simp only [go_sem]; omega) | go_size)); (focus (first | (simp only [go_sem]; done) | (simp [go_sem]; done))); clear hs; (try clear w); intro w hs; (try simp only [zg, zh, zi, itm_s0, itm_s1, itm_s2, itm_s3, cal_s0, cal_s1, cal_s2, lnk_s0, lnk_s1, lnk_s2, nov_s0, nov_s1, nov_s2, intv_set, bytv_set] at hs); simp only [Act.put, zg, zh, zi]))
  (go_ret2; simp only [za, zb, zc, zd, ze, zf])
  exact ⟨_, rfl, hs.mono (ent_ex _ (ent_pu rfl (by ((repeat (first | (with_reducible (first | exact ent_refl | exact ent_emp)) | ((with_reducible apply ent_front); (focus with_reducible (repeat (first | exact ent_here | apply ent_next | exact ent_last)); done)) | (with_reducible (first | exact ent_keep | apply ent_trans ent_drop)))); done))))⟩
set_option maxRecDepth 20000 in
set_option maxHeartbeats 1000000 in
theorem rend_s (c0 : World) (F : HP) (a : Nat → Addr) (g : Nat) (A : Option Addr) (n c : Nat) (e : Value) (s : RdS) : Spec Tryd.prog c0 49 #[.pointer (some ⟨g, 0, none⟩)]
    (pu (PRd A n c s.raw a F ∧ s.In) (rdr a g A n c e s * F)) (fun r => ex fun e2 : Value => pu (r = e2) (rdr a g A n c e2 (s.fin).2 * F)) := by
  intro w hq; obtain ⟨⟨hpr, hI⟩, hs⟩ := hq.pu; clear hq
  have hmf : ∀ (fn : Fn) (first cap : Array Value) (w : World), (Instr.makeFunc fn first cap).run Tryd.prog w = .ok (.func fn first cap) w := fun _ _ _ _ => rfl
  have hnl := (slr_len hpr.sl (hs.own.mono ent_drop)).1
  have hrd : ∀ (F : HP) (gr : Nat), Spec Tryd.prog c0 39 #[.pointer (some ⟨g, 0, none⟩), .string ⟨#[69, 110, 100]⟩, .func (.func 64) #[] #[.pointer (some ⟨gr, 0, none⟩)]]
      (pu (PRd A n c s.raw a F) (rdr a g A n c e s * (vR gr g * F))) (fun r => rdr a g A n c r (s.fin).2 * (vR gr g * F)) := fun F gr w hs => by
    obtain ⟨hF, hs⟩ := hs.pu
    have h := reads_s c0 F g A n c e s cEnd a 64 #[.pointer (some ⟨gr, 0, none⟩)] (by kernel_rfl) (fun _ : Unit => vR gr g) () (s.xEnd) (PRd A n c s.raw a) (fun _ _ h => h.next) hF (fun v p2 hx c0 F => ?_) (fun k hx => ⟨?_, fun c0 F => ?_⟩) w (by (try simp only [star_assoc]); exact hs)
    · (try simp only [star_assoc] at h)
      exact h
    · unfold RdS.xEnd at hx
      split at hx
      · cases hx
      · rename_i hr
        cases hx
        have hpn : s.pos = n := by have := hI.1; omega
        rw [hpn]
        exact end1_s c0 F g A n c gr s.raw a
    · exact RdS.xEnd_err hx
    · unfold RdS.xEnd at hx
      split at hx
      · rename_i hr
        cases hx
        exact fun w hs => end1P_s c0 F g A n c s.pos gr s.raw a w (hs.mono (ent_pu_l fun hp => ent_pu ⟨hp, by omega⟩ ent_refl))
      · cases hx
  clear hnl
  generalize hsn : s.fin = sn at *
  go_enter Tryd.func49, Tryd.ntmps49
  go_wp2_with (first
        | ((with_reducible apply pl_call hs (hrd _ _)); (go_must (((focus (simp only [zj, zk, zl, List.append_toArray, List.nil_append, List.cons_append, Act.eval, za, zb, zc, zd, ze, zf]; (try with_reducible rfl); done)); (focus ((repeat (first | (with_reducible (first | exact ent_refl | apply ent_puR)) | ((with_reducible apply ent_front); (focus with_reducible (repeat (first | exact ent_here | apply ent_next | exact ent_last)); done)) | (with_reducible (first | exact ent_keep | apply ent_trans ent_drop)) | (focus (first | (with_reducible assumption))))); done)); (focus (simp only [go_sem]))))); clear hs; (try clear w); intro v w hq; (have hs := hq); clear hq; (try simp only [star_assoc, star_emp, emp_star] at hs); (try simp only [Act.put, zg, zh, zi]))
        | ((with_reducible apply pl_load1 hs); (focus (simp only [Act.eval, za, zb, zc, zd, ze, zf]; (try with_reducible rfl); done)); (focus (simp only [go_sem])); (focus ((repeat (first | (with_reducible (first | assumption | exact hec _ | exact hec2 _ | exact hec3 _ | exact hec4 _ _)) | ((with_reducible apply readc_here); (focus (first | (simp only [zc, zd, ze, go_sem]; (try with_reducible rfl); done) | (go_simp; (try with_reducible rfl); done)))) | (with_reducible (first | (apply readc_left; assumption) | refine readc_exh (by assumption) ?_ | refine readc_exh0 (by assumption) ?_ | apply readc_next)))); done)); (focus rfl); simp only [Act.put, zg, zh, zi])
        | ((with_reducible apply pl_box hs); (focus (simp only [Act.eval, za, zb, zc, zd, ze, zf]; (try with_reducible rfl); done)); (focus (first | (with_reducible (first | exact cells_intv _ | exact cells_bytv _ | exact cells_agg _ | exact cells_int _ _ | exact cells_bool _ | exact cells_string _ | exact cells_slice _ _ _ | exact cells_pointer _ | exact cells_map _ | exact cells_iface _ _ | exact cells_nilIface | exact cells_func _ _ _)) | (exact cells_one (by assumption)))); clear hs; (try clear w); intro g w hs; skip; simp only [Act.put, zg, zh, zi]))
  (go_ret; simp only [za, zb, zc, zd, ze, zf])
  exact ⟨_, rfl, hs.mono (ent_ex _ (ent_pu rfl (by ((repeat (first | (with_reducible (first | exact ent_refl | exact ent_emp)) | ((with_reducible apply ent_front); (focus with_reducible (repeat (first | exact ent_here | apply ent_next | exact ent_last)); done)) | (with_reducible (first | exact ent_keep | apply ent_trans ent_drop)))); done))))⟩
end Go.Proofs.YtdniiegnaabagaaDoor
