/- The program's writer; a new reader. -/
import Derived.Test.YtegebjflhhbmiaaDoorZQC6AW
set_option linter.unusedSimpArgs false
set_option linter.unusedVariables false
namespace Go.Proofs.YtegebjflhhbmiaaDoor
open Go Go.RowKit

/-! ### what is read, in parts -/
theorem RdS.xNum_er {s : RdS} {most : Int} {k : Nat} (hx : s.xNum most = .error k) : rd0 most (s.raw.drop s.pos) = .error k := by
  unfold RdS.xNum at hx
  split at hx
  · cases hx
  · rename_i e hr
    cases hx
    exact hr
theorem RdS.xNum_err {s : RdS} {most : Int} {k : Nat} (hx : s.xNum most = .error k) : 1 ≤ k ∧ k ≤ 13 := by
  have := rd0_err (RdS.xNum_er hx)
  omega
theorem RdS.xByte_err {s : RdS} {k : Nat} (hx : s.xByte = .error k) : 1 ≤ k ∧ k ≤ 13 := by
  unfold RdS.xByte at hx
  split at hx
  · cases hx
  · cases hx; omega
theorem RdS.xEnd_err {s : RdS} {k : Nat} (hx : s.xEnd = .error k) : 1 ≤ k ∧ k ≤ 13 := by
  unfold RdS.xEnd at hx
  split at hx
  · cases hx; omega
  · cases hx
theorem rd0_in {s : RdS} {most : Int} {v k : Nat} (hI : s.In) (hr : rd0 most (s.raw.drop s.pos) = .ok (v, k)) : s.pos + k ≤ s.raw.length := by
  have : s.xNum most = .ok (v, s.pos + k) := by unfold RdS.xNum; rw [hr]
  have := (RdS.xNum_ok hI this).2.1
  exact this
theorem RdS.xCount_ok {s : RdS} {least most : Int} {v p2 : Nat} (hx : s.xCount least most = .ok (v, p2)) : ∃ v0 k0, rd0 most (s.raw.drop s.pos) = .ok (v0, k0) ∧ v0 ≤ (s.raw.length - (s.pos + k0)) / (max least 1).toNat ∧ v0 = v ∧ s.pos + k0 = p2 := by
  unfold RdS.xCount RdS.xNum at hx
  cases hr : rd0 most (s.raw.drop s.pos) with
  | error e => rw [hr] at hx; cases hx
  | ok y =>
    obtain ⟨v0, k0⟩ := y
    rw [hr] at hx
    simp only at hx
    split at hx
    · cases hx
    · rename_i h
      cases hx
      exact ⟨v, k0, rfl, by omega, rfl, rfl⟩
theorem RdS.xCount_er {s : RdS} {least most : Int} {k : Nat} (hx : s.xCount least most = .error k) : rd0 most (s.raw.drop s.pos) = .error k ∨ ∃ v0 k0, rd0 most (s.raw.drop s.pos) = .ok (v0, k0) ∧ (s.raw.length - (s.pos + k0)) / (max least 1).toNat < v0 ∧ k = 7 := by
  unfold RdS.xCount RdS.xNum at hx
  cases hr : rd0 most (s.raw.drop s.pos) with
  | error e => rw [hr] at hx; cases hx; exact .inl rfl
  | ok y =>
    obtain ⟨v0, k0⟩ := y
    rw [hr] at hx
    simp only at hx
    split at hx
    · rename_i h
      cases hx
      exact .inr ⟨v0, k0, rfl, h, rfl⟩
    · cases hx
theorem RdS.xCount_err {s : RdS} {least most : Int} {k : Nat} (hx : s.xCount least most = .error k) : 1 ≤ k ∧ k ≤ 13 := by
  rcases RdS.xCount_er hx with h | ⟨_, _, _, _, rfl⟩
  · have := rd0_err h; omega
  · omega
/-! ### the calls -/
set_option maxRecDepth 20000 in
set_option maxHeartbeats 1000000 in
theorem rnum_s (c0 : World) (F : HP) (a : Nat → Addr) (g : Nat) (A : Option Addr) (n c : Nat) (e : Value) (s : RdS) (most : Int) : Spec Tryd.prog c0 89 #[.pointer (some ⟨g, 0, none⟩), .int .i64 most]
    (pu (PRd A n c s.raw a F ∧ s.In) (rdr a g A n c e s * F)) (fun r => ex fun e2 : Value => pu (r = .tuple #[.int .i64 ((s.num most).1 : Nat), e2]) (rdr a g A n c e2 (s.num most).2 * F)) := by
  intro w hq; obtain ⟨⟨hpr, hI⟩, hs⟩ := hq.pu; clear hq
  have hmf : ∀ (fn : Fn) (first cap : Array Value) (w : World), (Instr.makeFunc fn first cap).run Tryd.prog w = .ok (.func fn first cap) w := fun _ _ _ _ => rfl
  have hnl := (slr_len hpr.sl (hs.own.mono ent_drop)).1
  have hrd : ∀ (F : HP) (gr gm gn : Nat), Spec Tryd.prog c0 92 #[.pointer (some ⟨g, 0, none⟩), .string ⟨#[78, 117, 109, 98, 101, 114]⟩, .func (.func 104) #[] #[.pointer (some ⟨gr, 0, none⟩), .pointer (some ⟨gm, 0, none⟩), .pointer (some ⟨gn, 0, none⟩)]]
      (pu (PRd A n c s.raw a F) (rdr a g A n c e s * (vR gr g * (vJ gm most * (vI gn 0 * F))))) (fun r => rdr a g A n c r (s.num most).2 * (vR gr g * (vJ gm most * (vI gn ((s.num most).1 : Nat) * F)))) := fun F gr gm gn w hs => by
    obtain ⟨hF, hs⟩ := hs.pu
    have h := reads_s c0 F g A n c e s cNumber a 104 #[.pointer (some ⟨gr, 0, none⟩), .pointer (some ⟨gm, 0, none⟩), .pointer (some ⟨gn, 0, none⟩)] (by kernel_rfl) (fun v : Nat => numH g gr gm gn most v) 0 (s.xNum most) (PRd A n c s.raw a) (fun _ _ h => h.next) hF (fun v p2 hx c0 F => ?_) (fun k hx => ⟨?_, fun c0 F => ?_⟩) w (by (try simp only [star_assoc]); exact hs)
    · (try simp only [star_assoc] at h)
      exact h
    · unfold RdS.xNum at hx
      split at hx
      · rename_i m k hr
        cases hx
        exact fun w hs => num1_s c0 F g A n c s.pos gr gm gn 0 s.raw most a _ _ w (hs.mono (ent_pu_l fun hp => ent_pu ⟨hp, by have := hI.1; omega, hI.2, hr⟩ ent_refl))
      · cases hx
    · exact RdS.xNum_err hx
    · exact fun w hs => num1P_s c0 F g A n c s.pos gr gm gn 0 s.raw most a k w (hs.mono (ent_pu_l fun hp => ent_pu ⟨hp, by have := hI.1; omega, hI.2, RdS.xNum_er hx⟩ ent_refl))
  clear hnl
  generalize hsn : s.num most = sn at *
  go_enter Tryd.func89, Tryd.ntmps89
  go_wp2_with (first
        | ((with_reducible apply pl_call hs (hrd _ _ _ _)); (go_must (((focus (simp only [zj, zk, zl, List.append_toArray, List.nil_append, List.cons_append, Act.eval, za, zb, zc, zd, ze, zf]; (try with_reducible rfl); done)); (focus ((repeat (first | (with_reducible (first | exact ent_refl | apply ent_puR)) | ((with_reducible apply ent_front); (focus with_reducible (repeat (first | exact ent_here | apply ent_next | exact ent_last)); done)) | (with_reducible (first | exact ent_keep | apply ent_trans ent_drop)) | (focus (first | (with_reducible assumption))))); done)); (focus (simp only [go_sem]))))); clear hs; (try clear w); intro v w hq; (have hs := hq); clear hq; (try simp only [star_assoc, star_emp, emp_star] at hs); (try simp only [Act.put, zg, zh, zi]))
        | ((with_reducible apply pl_load1 hs); (focus (simp only [Act.eval, za, zb, zc, zd, ze, zf]; (try with_reducible rfl); done)); (focus (simp only [go_sem])); (focus ((repeat (first | (with_reducible (first | assumption | exact hec _ | exact hec2 _ | exact hec3 _ | exact hec4 _ _)) | ((with_reducible apply readc_here); (focus (first | (simp only [zc, zd, ze, go_sem]; (try with_reducible rfl); done) | (go_simp; (try with_reducible rfl); done)))) | (with_reducible (first | (apply readc_left; assumption) | refine readc_exh (by assumption) ?_ | refine readc_exh0 (by assumption) ?_ | apply readc_next)))); done)); (focus rfl); simp only [Act.put, zg, zh, zi])
        | ((with_reducible apply pl_alloc hs); (with_reducible (first | exact zero_3)); clear hs; (try clear w); intro g w hs; skip; simp only [Act.put, zg, zh, zi])
        | ((with_reducible apply pl_box hs); (focus (simp only [Act.eval, za, zb, zc, zd, ze, zf]; (try with_reducible rfl); done)); (focus (first | (with_reducible (first | exact cells_intv _ | exact cells_bytv _ | exact cells_agg _ | exact cells_int _ _ | exact cells_bool _ | exact cells_string _ | exact cells_slice _ _ _ | exact cells_pointer _ | exact cells_map _ | exact cells_iface _ _ | exact cells_nilIface | exact cells_func _ _ _)) | (exact cells_one (by assumption)))); clear hs; (try clear w); intro g w hs; skip; simp only [Act.put, zg, zh, zi])
        | ((with_reducible apply pl_store1 hs); (focus (simp only [Act.eval, za, zb, zc, zd, ze, zf]; (try with_reducible rfl); done)); (focus (simp only [Act.eval, za, zb, zc, zd, ze, zf]; (try with_reducible rfl); done)); (focus (simp only [go_sem])); (focus with_reducible (repeat (first | exact ent_here | apply ent_next | exact ent_last)); done); (focus (first | (simp [go_sem]; done) | (simp only [go_sem]; omega) | go_size)); (focus (first | (simp only [go_sem]; done) | (simp [go_sem]; done))); clear hs; (try clear w); intro w hs; (try simp only [zg, zh, zi, clk_set, opv_s0, opv_s1, opv_s2, opv_s3, actv_s0, actv_s1, actv_s2, actv_s3, actv_s4, rnd_s0, rnd_s17, lnk_s0, lnk_s1, lnk_s2, nov_s0, nov_s1, nov_s2, intv_set, bytv_set] at hs); simp only [Act.put, zg, zh, zi]))
  exact ret_c1t rfl (by simp only [go_sem]) rfl ((by (focus ((repeat (first | (with_reducible (first | assumption | exact hec _ | exact hec2 _ | exact hec3 _ | exact hec4 _ _)) | ((with_reducible apply readc_here); (focus (first | (simp only [zc, zd, ze, go_sem]; (try with_reducible rfl); done) | (go_simp; (try with_reducible rfl); done)))) | (with_reducible (first | (apply readc_left; assumption) | refine readc_exh (by assumption) ?_ | refine readc_exh0 (by assumption) ?_ | apply readc_next)))); done)) : ReadC _ g 0 _) w hs.own) rfl ⟨_, rfl, hs.mono (ent_ex v (ent_pu rfl (by ((repeat (first | (with_reducible (first | exact ent_refl | exact ent_emp)) | ((with_reducible apply ent_front); (focus with_reducible (repeat (first | exact ent_here | apply ent_next | exact ent_last)); done)) | (with_reducible (first | exact ent_keep | apply ent_trans ent_drop)))); done))))⟩
set_option maxRecDepth 20000 in
set_option maxHeartbeats 1000000 in
theorem rbyte_s (c0 : World) (F : HP) (a : Nat → Addr) (g : Nat) (A : Option Addr) (n c : Nat) (e : Value) (s : RdS) : Spec Tryd.prog c0 88 #[.pointer (some ⟨g, 0, none⟩)]
    (pu (PRd A n c s.raw a F ∧ s.In) (rdr a g A n c e s * F)) (fun r => ex fun e2 : Value => pu (r = .tuple #[.int .u8 (s.byte).1, e2]) (rdr a g A n c e2 (s.byte).2 * F)) := by
  intro w hq; obtain ⟨⟨hpr, hI⟩, hs⟩ := hq.pu; clear hq
  have hmf : ∀ (fn : Fn) (first cap : Array Value) (w : World), (Instr.makeFunc fn first cap).run Tryd.prog w = .ok (.func fn first cap) w := fun _ _ _ _ => rfl
  have hnl := (slr_len hpr.sl (hs.own.mono ent_drop)).1
  have hrd : ∀ (F : HP) (gr gb : Nat), Spec Tryd.prog c0 92 #[.pointer (some ⟨g, 0, none⟩), .string ⟨#[66, 121, 116, 101]⟩, .func (.func 102) #[] #[.pointer (some ⟨gr, 0, none⟩), .pointer (some ⟨gb, 0, none⟩)]]
      (pu (PRd A n c s.raw a F) (rdr a g A n c e s * (vR gr g * (vB gb 0 * F)))) (fun r => rdr a g A n c r (s.byte).2 * (vR gr g * (vB gb (s.byte).1 * F))) := fun F gr gb w hs => by
    obtain ⟨hF, hs⟩ := hs.pu
    have h := reads_s c0 F g A n c e s cByte a 102 #[.pointer (some ⟨gr, 0, none⟩), .pointer (some ⟨gb, 0, none⟩)] (by kernel_rfl) (fun v : Int => bytH g gr gb v) 0 (s.xByte) (PRd A n c s.raw a) (fun _ _ h => h.next) hF (fun v p2 hx c0 F => ?_) (fun k hx => ⟨?_, fun c0 F => ?_⟩) w (by (try simp only [star_assoc]); exact hs)
    · (try simp only [star_assoc] at h)
      exact h
    · unfold RdS.xByte at hx
      split at hx
      · rename_i b hr
        cases hx
        exact fun w hs => byt1_s c0 F g A n c s.pos gr gb 0 s.raw a _ w (hs.mono (ent_pu_l fun hp => ent_pu ⟨hp, hr⟩ ent_refl))
      · cases hx
    · exact RdS.xByte_err hx
    · unfold RdS.xByte at hx
      split at hx
      · cases hx
      · rename_i hr
        cases hx
        have hpn : s.pos = n := by have := hI.1; rw [List.getElem?_eq_none_iff] at hr; omega
        rw [hpn]
        exact byt1P_s c0 F g A n c gr gb 0 s.raw a
  clear hnl
  generalize hsn : s.byte = sn at *
  go_enter Tryd.func88, Tryd.ntmps88
  go_wp2_with (first
        | ((with_reducible apply pl_call hs (hrd _ _ _)); (go_must (((focus (simp only [zj, zk, zl, List.append_toArray, List.nil_append, List.cons_append, Act.eval, za, zb, zc, zd, ze, zf]; (try with_reducible rfl); done)); (focus ((repeat (first | (with_reducible (first | exact ent_refl | apply ent_puR)) | ((with_reducible apply ent_front); (focus with_reducible (repeat (first | exact ent_here | apply ent_next | exact ent_last)); done)) | (with_reducible (first | exact ent_keep | apply ent_trans ent_drop)) | (focus (first | (with_reducible assumption))))); done)); (focus (simp only [go_sem]))))); clear hs; (try clear w); intro v w hq; (have hs := hq); clear hq; (try simp only [star_assoc, star_emp, emp_star] at hs); (try simp only [Act.put, zg, zh, zi]))
        | ((with_reducible apply pl_load1 hs); (focus (simp only [Act.eval, za, zb, zc, zd, ze, zf]; (try with_reducible rfl); done)); (focus (simp only [go_sem])); (focus ((repeat (first | (with_reducible (first | assumption | exact hec _ | exact hec2 _ | exact hec3 _ | exact hec4 _ _)) | ((with_reducible apply readc_here); (focus (first | (simp only [zc, zd, ze, go_sem]; (try with_reducible rfl); done) | (go_simp; (try with_reducible rfl); done)))) | (with_reducible (first | (apply readc_left; assumption) | refine readc_exh (by assumption) ?_ | refine readc_exh0 (by assumption) ?_ | apply readc_next)))); done)); (focus rfl); simp only [Act.put, zg, zh, zi])
        | ((with_reducible apply pl_alloc hs); (with_reducible (first | exact zero_5)); clear hs; (try clear w); intro g w hs; skip; simp only [Act.put, zg, zh, zi])
        | ((with_reducible apply pl_box hs); (focus (simp only [Act.eval, za, zb, zc, zd, ze, zf]; (try with_reducible rfl); done)); (focus (first | (with_reducible (first | exact cells_intv _ | exact cells_bytv _ | exact cells_agg _ | exact cells_int _ _ | exact cells_bool _ | exact cells_string _ | exact cells_slice _ _ _ | exact cells_pointer _ | exact cells_map _ | exact cells_iface _ _ | exact cells_nilIface | exact cells_func _ _ _)) | (exact cells_one (by assumption)))); clear hs; (try clear w); intro g w hs; skip; simp only [Act.put, zg, zh, zi])
        | ((with_reducible apply pl_store1 hs); (focus (simp only [Act.eval, za, zb, zc, zd, ze, zf]; (try with_reducible rfl); done)); (focus (simp only [Act.eval, za, zb, zc, zd, ze, zf]; (try with_reducible rfl); done)); (focus (simp only [go_sem])); (focus with_reducible (repeat (first | exact ent_here | apply ent_next | exact ent_last)); done); (focus (first | (simp [go_sem]; done) | (simp only [go_sem]; omega) | go_size)); (focus (first | (simp only [go_sem]; done) | (simp [go_sem]; done))); clear hs; (try clear w); intro w hs; (try simp only [zg, zh, zi, clk_set, opv_s0, opv_s1, opv_s2, opv_s3, actv_s0, actv_s1, actv_s2, actv_s3, actv_s4, rnd_s0, rnd_s17, lnk_s0, lnk_s1, lnk_s2, nov_s0, nov_s1, nov_s2, intv_set, bytv_set] at hs); simp only [Act.put, zg, zh, zi]))
  exact ret_c1t rfl (by simp only [go_sem]) rfl ((by (focus ((repeat (first | (with_reducible (first | assumption | exact hec _ | exact hec2 _ | exact hec3 _ | exact hec4 _ _)) | ((with_reducible apply readc_here); (focus (first | (simp only [zc, zd, ze, go_sem]; (try with_reducible rfl); done) | (go_simp; (try with_reducible rfl); done)))) | (with_reducible (first | (apply readc_left; assumption) | refine readc_exh (by assumption) ?_ | refine readc_exh0 (by assumption) ?_ | apply readc_next)))); done)) : ReadC _ g 0 _) w hs.own) rfl ⟨_, rfl, hs.mono (ent_ex v (ent_pu rfl (by ((repeat (first | (with_reducible (first | exact ent_refl | exact ent_emp)) | ((with_reducible apply ent_front); (focus with_reducible (repeat (first | exact ent_here | apply ent_next | exact ent_last)); done)) | (with_reducible (first | exact ent_keep | apply ent_trans ent_drop)))); done))))⟩
set_option maxRecDepth 20000 in
set_option maxHeartbeats 1000000 in
theorem rcount_s (c0 : World) (F : HP) (a : Nat → Addr) (g : Nat) (A : Option Addr) (n c : Nat) (e : Value) (s : RdS) (least most : Int) : Spec Tryd.prog c0 90 #[.pointer (some ⟨g, 0, none⟩), .int .i64 least, .int .i64 most]
    (pu (PRd A n c s.raw a F ∧ s.In) (rdr a g A n c e s * F)) (fun r => ex fun e2 : Value => pu (r = .tuple #[.int .i64 ((s.count least most).1 : Nat), e2]) (rdr a g A n c e2 (s.count least most).2 * F)) := by
  intro w hq; obtain ⟨⟨hpr, hI⟩, hs⟩ := hq.pu; clear hq
  have hmf : ∀ (fn : Fn) (first cap : Array Value) (w : World), (Instr.makeFunc fn first cap).run Tryd.prog w = .ok (.func fn first cap) w := fun _ _ _ _ => rfl
  have hnl := (slr_len hpr.sl (hs.own.mono ent_drop)).1
  have hrd : ∀ (F : HP) (gr gm gq gn : Nat), Spec Tryd.prog c0 92 #[.pointer (some ⟨g, 0, none⟩), .string ⟨#[67, 111, 117, 110, 116]⟩, .func (.func 106) #[] #[.pointer (some ⟨gr, 0, none⟩), .pointer (some ⟨gm, 0, none⟩), .pointer (some ⟨gq, 0, none⟩), .pointer (some ⟨gn, 0, none⟩)]]
      (pu (PRd A n c s.raw a F) (rdr a g A n c e s * (vR gr g * (vJ gm most * (vJ gq least * (vI gn 0 * F)))))) (fun r => rdr a g A n c r (s.count least most).2 * (vR gr g * (vJ gm most * (vJ gq least * (vI gn ((s.count least most).1 : Nat) * F))))) := fun F gr gm gq gn w hs => by
    obtain ⟨hF, hs⟩ := hs.pu
    have h := reads_s c0 F g A n c e s cCount a 106 #[.pointer (some ⟨gr, 0, none⟩), .pointer (some ⟨gm, 0, none⟩), .pointer (some ⟨gq, 0, none⟩), .pointer (some ⟨gn, 0, none⟩)] (by kernel_rfl) (fun v : Nat => cntH g gr gm gq gn least most v) 0 (s.xCount least most) (PRd A n c s.raw a) (fun _ _ h => h.next) hF (fun v p2 hx c0 F => ?_) (fun k hx => ⟨?_, fun c0 F => ?_⟩) w (by (try simp only [star_assoc]); exact hs)
    · (try simp only [star_assoc] at h)
      exact h
    · obtain ⟨v0, k0, hr, hx⟩ := RdS.xCount_ok hx
      obtain ⟨hpk, hv⟩ := hx
      obtain ⟨rfl, rfl⟩ := hv
      have hk := rd0_in hI hr
      exact fun w hs => cnt1_s c0 F g A n c s.pos gr gm gq gn 0 s.raw least most a v0 k0 w (hs.mono (ent_pu_l fun hp => ent_pu ⟨hp, by have := hI.1; omega, hI.2, hr, by omega, by rw [hnl]; exact hpk⟩ ent_refl))
    · exact RdS.xCount_err hx
    · rcases RdS.xCount_er hx with hr | ⟨v0, k0, hr, hv, rfl⟩
      · exact fun w hs => cnt1Q_s c0 F g A n c s.pos gr gm gq gn 0 s.raw least most a k w (hs.mono (ent_pu_l fun hp => ent_pu ⟨hp, by have := hI.1; omega, hI.2, hr⟩ ent_refl))
      · have hk := rd0_in hI hr
        exact fun w hs => cnt1P_s c0 F g A n c s.pos gr gm gq gn 0 s.raw least most a v0 k0 w (hs.mono (ent_pu_l fun hp => ent_pu ⟨hp, by have := hI.1; omega, hI.2, hr, by omega, by rw [hnl]; exact hv⟩ ent_refl))
  clear hnl
  generalize hsn : s.count least most = sn at *
  go_enter Tryd.func90, Tryd.ntmps90
  go_wp2_with (first
        | ((with_reducible apply pl_call hs (hrd _ _ _ _ _)); (go_must (((focus (simp only [zj, zk, zl, List.append_toArray, List.nil_append, List.cons_append, Act.eval, za, zb, zc, zd, ze, zf]; (try with_reducible rfl); done)); (focus ((repeat (first | (with_reducible (first | exact ent_refl | apply ent_puR)) | ((with_reducible apply ent_front); (focus with_reducible (repeat (first | exact ent_here | apply ent_next | exact ent_last)); done)) | (with_reducible (first | exact ent_keep | apply ent_trans ent_drop)) | (focus (first | (with_reducible assumption))))); done)); (focus (simp only [go_sem]))))); clear hs; (try clear w); intro v w hq; (have hs := hq); clear hq; (try simp only [star_assoc, star_emp, emp_star] at hs); (try simp only [Act.put, zg, zh, zi]))
        | ((with_reducible apply pl_load1 hs); (focus (simp only [Act.eval, za, zb, zc, zd, ze, zf]; (try with_reducible rfl); done)); (focus (simp only [go_sem])); (focus ((repeat (first | (with_reducible (first | assumption | exact hec _ | exact hec2 _ | exact hec3 _ | exact hec4 _ _)) | ((with_reducible apply readc_here); (focus (first | (simp only [zc, zd, ze, go_sem]; (try with_reducible rfl); done) | (go_simp; (try with_reducible rfl); done)))) | (with_reducible (first | (apply readc_left; assumption) | refine readc_exh (by assumption) ?_ | refine readc_exh0 (by assumption) ?_ | apply readc_next)))); done)); (focus rfl); simp only [Act.put, zg, zh, zi])
        | ((with_reducible apply pl_alloc hs); (with_reducible (first | exact zero_3)); clear hs; (try clear w); intro g w hs; skip; simp only [Act.put, zg, zh, zi])
        | ((with_reducible apply pl_box hs); (focus (simp only [Act.eval, za, zb, zc, zd, ze, zf]; (try with_reducible rfl); done)); (focus (first | (with_reducible (first | exact cells_intv _ | exact cells_bytv _ | exact cells_agg _ | exact cells_int _ _ | exact cells_bool _ | exact cells_string _ | exact cells_slice _ _ _ | exact cells_pointer _ | exact cells_map _ | exact cells_iface _ _ | exact cells_nilIface | exact cells_func _ _ _)) | (exact cells_one (by assumption)))); clear hs; (try clear w); intro g w hs; skip; simp only [Act.put, zg, zh, zi])
        | ((with_reducible apply pl_store1 hs); (focus (simp only [Act.eval, za, zb, zc, zd, ze, zf]; (try with_reducible rfl); done)); (focus (simp only [Act.eval, za, zb, zc, zd, ze, zf]; (try with_reducible rfl); done)); (focus (simp only [go_sem])); (focus with_reducible (repeat (first | exact ent_here | apply ent_next | exact ent_last)); done); (focus (first | (simp [go_sem]; done) | (simp only [go_sem]; omega) | go_size)); (focus (first | (simp only [go_sem]; done) | (simp [go_sem]; done))); clear hs; (try clear w); intro w hs; (try simp only [zg, zh, zi, clk_set, opv_s0, opv_s1, opv_s2, opv_s3, actv_s0, actv_s1, actv_s2, actv_s3, actv_s4, rnd_s0, rnd_s17, lnk_s0, lnk_s1, lnk_s2, nov_s0, nov_s1, nov_s2, intv_set, bytv_set] at hs); simp only [Act.put, zg, zh, zi]))
  (go_ret2; simp only [za, zb, zc, zd, ze, zf])
  exact ⟨_, rfl, hs.mono (ent_ex _ (ent_pu rfl (by ((repeat (first | (with_reducible (first | exact ent_refl | exact ent_emp)) | ((with_reducible apply ent_front); (focus with_reducible (repeat (first | exact ent_here | apply ent_next | exact ent_last)); done)) | (with_reducible (first | exact ent_keep | apply ent_trans ent_drop)))); done))))⟩
set_option maxRecDepth 20000 in
set_option maxHeartbeats 1000000 in
theorem rend_s (c0 : World) (F : HP) (a : Nat → Addr) (g : Nat) (A : Option Addr) (n c : Nat) (e : Value) (s : RdS) : Spec Tryd.prog c0 75 #[.pointer (some ⟨g, 0, none⟩)]
    (pu (PRd A n c s.raw a F ∧ s.In) (rdr a g A n c e s * F)) (fun r => ex fun e2 : Value => pu (r = e2) (rdr a g A n c e2 (s.fin).2 * F)) := by
  intro w hq; obtain ⟨⟨hpr, hI⟩, hs⟩ := hq.pu; clear hq
  have hmf : ∀ (fn : Fn) (first cap : Array Value) (w : World), (Instr.makeFunc fn first cap).run Tryd.prog w = .ok (.func fn first cap) w := fun _ _ _ _ => rfl
  have hnl := (slr_len hpr.sl (hs.own.mono ent_drop)).1
  have hrd : ∀ (F : HP) (gr : Nat), Spec Tryd.prog c0 92 #[.pointer (some ⟨g, 0, none⟩), .string ⟨#[69, 110, 100]⟩, .func (.func 93) #[] #[.pointer (some ⟨gr, 0, none⟩)]]
      (pu (PRd A n c s.raw a F) (rdr a g A n c e s * (vR gr g * F))) (fun r => rdr a g A n c r (s.fin).2 * (vR gr g * F)) := fun F gr w hs => by
    obtain ⟨hF, hs⟩ := hs.pu
    have h := reads_s c0 F g A n c e s cEnd a 93 #[.pointer (some ⟨gr, 0, none⟩)] (by kernel_rfl) (fun _ : Unit => vR gr g) () (s.xEnd) (PRd A n c s.raw a) (fun _ _ h => h.next) hF (fun v p2 hx c0 F => ?_) (fun k hx => ⟨?_, fun c0 F => ?_⟩) w (by (try simp only [star_assoc]); exact hs)
    · (try simp only [star_assoc] at h)
      exact h
    · unfold RdS.xEnd at hx
      split at hx
      · cases hx
      · rename_i hr
        cases hx
        have hpn : s.pos = n := by have := hI.1; omega
        rw [hpn]
        exact end1_s c0 F g A n c gr s.raw a
    · exact RdS.xEnd_err hx
    · unfold RdS.xEnd at hx
      split at hx
      · rename_i hr
        cases hx
        exact fun w hs => end1P_s c0 F g A n c s.pos gr s.raw a w (hs.mono (ent_pu_l fun hp => ent_pu ⟨hp, by omega⟩ ent_refl))
      · cases hx
  clear hnl
  generalize hsn : s.fin = sn at *
  go_enter Tryd.func75, Tryd.ntmps75
  go_wp2_with (first
        | ((with_reducible apply pl_call hs (hrd _ _)); (go_must (((focus (simp only [zj, zk, zl, List.append_toArray, List.nil_append, List.cons_append, Act.eval, za, zb, zc, zd, ze, zf]; (try with_reducible rfl); done)); (focus ((repeat (first | (with_reducible (first | exact ent_refl | apply ent_puR)) | ((with_reducible apply ent_front); (focus with_reducible (repeat (first | exact ent_here | apply ent_next | exact ent_last)); done)) | (with_reducible (first | exact ent_keep | apply ent_trans ent_drop)) | (focus (first | (with_reducible assumption))))); done)); (focus (simp only [go_sem]))))); clear hs; (try clear w); intro v w hq; (have hs := hq); clear hq; (try simp only [star_assoc, star_emp, emp_star] at hs); (try simp only [Act.put, zg, zh, zi]))
        | ((with_reducible apply pl_load1 hs); (focus (simp only [Act.eval, za, zb, zc, zd, ze, zf]; (try with_reducible rfl); done)); (focus (simp only [go_sem])); (focus ((repeat (first | (with_reducible (first | assumption | exact hec _ | exact hec2 _ | exact hec3 _ | exact hec4 _ _)) | ((with_reducible apply readc_here); (focus (first | (simp only [zc, zd, ze, go_sem]; (try with_reducible rfl); done) | (go_simp; (try with_reducible rfl); done)))) | (with_reducible (first | (apply readc_left; assumption) | refine readc_exh (by assumption) ?_ | refine readc_exh0 (by assumption) ?_ | apply readc_next)))); done)); (focus rfl); simp only [Act.put, zg, zh, zi])
        | ((with_reducible apply pl_box hs); (focus (simp only [Act.eval, za, zb, zc, zd, ze, zf]; (try with_reducible rfl); done)); (focus (first | (with_reducible (first | exact cells_intv _ | exact cells_bytv _ | exact cells_agg _ | exact cells_int _ _ | exact cells_bool _ | exact cells_string _ | exact cells_slice _ _ _ | exact cells_pointer _ | exact cells_map _ | exact cells_iface _ _ | exact cells_nilIface | exact cells_func _ _ _)) | (exact cells_one (by assumption)))); clear hs; (try clear w); intro g w hs; skip; simp only [Act.put, zg, zh, zi]))
  (go_ret; simp only [za, zb, zc, zd, ze, zf])
  exact ⟨_, rfl, hs.mono (ent_ex _ (ent_pu rfl (by ((repeat (first | (with_reducible (first | exact ent_refl | exact ent_emp)) | ((with_reducible apply ent_front); (focus with_reducible (repeat (first | exact ent_here | apply ent_next | exact ent_last)); done)) | (with_reducible (first | exact ent_keep | apply ent_trans ent_drop)))); done))))⟩
end Go.Proofs.YtegebjflhhbmiaaDoor

set_option linter.unusedSimpArgs false
set_option linter.unusedVariables false
namespace Go.Proofs.YtegebjflhhbmiaaDoor
open Go Go.RowKit

set_option maxRecDepth 20000 in
theorem wcopied_s (c0 : World) (F : HP) (v : Value) (l : List Int) : Spec Tryd.prog c0 67 #[v] (pu (SlR F 1 bytv v l ∧ l.length ≤ 140737488355328) F)
    (fun r => ex fun g => pu (r = .slice (some ⟨g, 0, none⟩) l.length l.length) (row 5 1 bytv (.slice (some ⟨g, 0, none⟩) l.length l.length) l * F)) := by
  intro w hq; obtain ⟨⟨hsl, hl⟩, hs⟩ := hq.pu; clear hq
  obtain ⟨A, c, rfl⟩ := slr_form hsl hs.own
  obtain ⟨_, hn1, hn2, _⟩ := slr_len hsl hs.own
  unfold maxLen at hn2
  go_enter Tryd.func67, Tryd.ntmps67
  go_wp2_with (first
        | ((with_reducible apply pl_make hs); (first | (with_reducible exact mk_32)); (focus (simp only [Act.eval, za, zb, zc, zd, ze, zf]; (try with_reducible rfl); done)); (focus (simp only [Act.eval, za, zb, zc, zd, ze, zf]; (try with_reducible rfl); done)); (focus (first | (simp only [maxLen] at *; omega) | (simp [maxLen] at *; omega))); (focus (first | (simp only [maxLen]; omega) | omega)); clear hs; (try clear w); intro g w hs; skip; simp only [Act.put, zg, zh, zi])
        | ((with_reducible apply pl_copy1 hs); (first | (exact Tryd.underlying32)); (first | (with_reducible exact sz1_5)); (focus (simp only [Act.eval, za, zb, zc, zd, ze, zf]; (try with_reducible rfl); done)); (focus with_reducible (repeat (first | exact ent_here | apply ent_next | exact ent_last)); done); (focus (simp only [Act.eval, za, zb, zc, zd, ze, zf]; (try with_reducible rfl); done)); (focus (first | ((repeat (first | (with_reducible (first | assumption | exact slr_ro |  exact hsl _ | exact hsl2 _ | exact hsl3 _ _ _ | exact slr_nil | exact slr_row (fun _ => by simp only [go_sem]) | exact slr_one (fun _ => by simp only [go_sem]) | (apply slr_left; assumption))) | (with_reducible apply slr_next))); done) | ((repeat (first | (with_reducible (first | assumption | exact slr_ro |  exact hsl _ | exact hsl2 _ | exact hsl3 _ _ _ | exact slr_nil | exact slr_row (fun _ => by simp only [go_sem]) | exact slr_one (fun _ => by simp only [go_sem]) | (apply slr_left; assumption))) | (with_reducible (first | (apply slr_exh; focus assumption) | (apply slr_exh0; focus assumption) | apply slr_next)))); done))); (focus (intro _; simp only [go_sem])); (focus (intro _; simp only [go_sem])); (focus (first | (with_reducible assumption) | omega | (simp; done) | (simp; omega))); clear hs; (try clear w); intro w hs; skip; simp only [Act.put, zg, zh, zi]))
  (go_ret; simp only [za, zb, zc, zd, ze, zf])
  exact ⟨_, rfl, hs.mono (ent_ex _ (ent_pu rfl (by ((repeat (first | (with_reducible (first | exact ent_refl | exact ent_emp)) | ((with_reducible apply ent_front); (focus with_reducible (repeat (first | exact ent_here | apply ent_next | exact ent_last)); done)) | (with_reducible (first | exact ent_keep | apply ent_trans ent_drop)))); done))))⟩
theorem newReader_s (c0 : World) (F : HP) (a : Nat → Addr) (v : Value) (l : List Int) : Spec Tryd.prog c0 41 #[v] (pu (SlR F 1 bytv v l ∧ l.length ≤ 140737488355328) F)
    (fun r => ex fun g : Nat => ex fun gb : Nat => pu (r = .pointer (some ⟨g, 0, none⟩)) (rdr a g (some ⟨gb, 0, none⟩) l.length l.length .nilIface ⟨l, 0, none⟩ * (row 5 1 bytv (.slice (some ⟨gb, 0, none⟩) l.length l.length) l * F))) := by
  intro w hq; obtain ⟨⟨hsl, hl⟩, hs⟩ := hq.pu; clear hq
  go_enter Tryd.func41, Tryd.ntmps41
  go_wp2_with (first
        | ((with_reducible apply pl_call hs (wcopied_s _ _ _ l)); (go_must (((focus (simp only [zj, zk, zl, List.append_toArray, List.nil_append, List.cons_append, Act.eval, za, zb, zc, zd, ze, zf]; (try with_reducible rfl); done)); (focus ((repeat (first | (with_reducible (first | exact ent_refl | apply ent_puR)) | ((with_reducible apply ent_front); (focus with_reducible (repeat (first | exact ent_here | apply ent_next | exact ent_last)); done)) | (with_reducible (first | exact ent_keep | apply ent_trans ent_drop)) | (focus (first | ((repeat' (first | (with_reducible assumption) | (with_reducible apply And.intro))); done))))); done)); (focus (simp only [go_sem]))))); clear hs; (try clear w); intro v w hq; (obtain ⟨gb, hq1⟩ := hq.ex; obtain ⟨rfl, hs⟩ := hq1.pu; clear hq1); clear hq; (try simp only [star_assoc, star_emp, emp_star] at hs); (try simp only [Act.put, zg, zh, zi]))
        | ((with_reducible apply pl_build hs); (focus (simp only [zj, zk, zl, Act.eval, za, zb, zc, zd, ze, zf]; (try with_reducible rfl); done)); (first | (with_reducible exact bld_17 _ _ _)); (focus rfl); simp only [Act.put, zg, zh, zi])
        | ((with_reducible apply pl_box hs); (focus (simp only [Act.eval, za, zb, zc, zd, ze, zf]; (try with_reducible rfl); done)); (focus (first | (with_reducible (first | exact cells_intv _ | exact cells_bytv _ | exact cells_agg _ | exact cells_int _ _ | exact cells_bool _ | exact cells_string _ | exact cells_slice _ _ _ | exact cells_pointer _ | exact cells_map _ | exact cells_iface _ _ | exact cells_nilIface | exact cells_func _ _ _)) | (exact cells_one (by assumption)))); clear hs; (try clear w); intro g w hs; skip; simp only [Act.put, zg, zh, zi]))
  (go_ret; simp only [za, zb, zc, zd, ze, zf])
  exact ⟨_, rfl, hs.mono (ent_ex g (ent_ex gb (ent_pu rfl (ent_trans (B := rdc g (some ⟨gb, 0, none⟩) l.length l.length 0 .nilIface * (row 5 1 bytv (.slice (some ⟨gb, 0, none⟩) l.length l.length) l * F)) (by ((repeat (first | (with_reducible (first | exact ent_refl | exact ent_emp)) | ((with_reducible apply ent_front); (focus with_reducible (repeat (first | exact ent_here | apply ent_next | exact ent_last)); done)) | (with_reducible (first | exact ent_keep | apply ent_trans ent_drop)))); done)) (rdr_okE (s := ⟨l, 0, none⟩) rfl)))))⟩
/-- A writer in memory. -/
def wrt (g : Nat) (l : List Int) : HP := ex fun v : Value => blk g (.cells #[v] 120 (0, 0)) * row 5 1 bytv v l
theorem wrt_open {g : Nat} {l : List Int} {F : HP} {c0 w : World} (hs : Sat c0 (wrt g l * F) w) : ∃ A c, l.length ≤ c ∧ c ≤ maxLen ∧ Sat c0 (blk g (.cells #[.slice A l.length c] 120 (0, 0)) * (row 5 1 bytv (.slice A l.length c) l * F)) w := by
  unfold wrt at hs
  rw [ex_star] at hs
  obtain ⟨v, hs⟩ := hs.ex
  rw [star_assoc] at hs
  obtain ⟨A, c, rfl, h1, h2⟩ := row_slice (v := v) (l := l) (E := 5) (s := 1) (enc := bytv) (hs.own.mono ent_drop)
  exact ⟨A, c, h1, h2, hs⟩
theorem wrt_shut {g : Nat} {l : List Int} {v : Value} {F : HP} : Ent (blk g (.cells #[v] 120 (0, 0)) * (row 5 1 bytv v l * F)) (wrt g l * F) := by
  unfold wrt
  rw [ex_star]
  refine ent_ex v ?_
  rw [star_assoc]
  exact ent_refl
theorem wrt_nil {g : Nat} {F : HP} : Ent (blk g (.cells #[.slice none 0 0] 120 (0, 0)) * F) (wrt g [] * F) := ent_trans (star_mono ent_refl ent_row_nil) wrt_shut
theorem wnew_s (c0 : World) (F : HP) : Spec Tryd.prog c0 29 #[] F (fun r => ex fun g : Nat => pu (r = .pointer (some ⟨g, 0, none⟩)) (wrt g [] * F)) := by
  intro w hs
  go_enter Tryd.func29, Tryd.ntmps29
  go_wp2_with (first
        | ((with_reducible apply pl_build hs); (focus (simp only [zj, zk, zl, Act.eval, za, zb, zc, zd, ze, zf]; (try with_reducible rfl); done)); (first | (with_reducible exact bld_16)); (focus rfl); simp only [Act.put, zg, zh, zi])
        | ((with_reducible apply pl_box hs); (focus (simp only [Act.eval, za, zb, zc, zd, ze, zf]; (try with_reducible rfl); done)); (focus (first | (with_reducible (first | exact cells_intv _ | exact cells_bytv _ | exact cells_agg _ | exact cells_int _ _ | exact cells_bool _ | exact cells_string _ | exact cells_slice _ _ _ | exact cells_pointer _ | exact cells_map _ | exact cells_iface _ _ | exact cells_nilIface | exact cells_func _ _ _)) | (exact cells_one (by assumption)))); clear hs; (try clear w); intro g w hs; skip; simp only [Act.put, zg, zh, zi]))
  (go_ret; simp only [za, zb, zc, zd, ze, zf])
  exact ⟨_, rfl, hs.mono (ent_ex g (ent_pu rfl wrt_nil))⟩
theorem wbytes_s (c0 : World) (F : HP) (g : Nat) (l : List Int) : Spec Tryd.prog c0 35 #[.pointer (some ⟨g, 0, none⟩)] (pu (l.length ≤ 140737488355328) (wrt g l * F))
    (fun r => ex fun gb => pu (r = .slice (some ⟨gb, 0, none⟩) l.length l.length) (row 5 1 bytv (.slice (some ⟨gb, 0, none⟩) l.length l.length) l * (wrt g l * F))) := by
  intro w hq; obtain ⟨hl, hs⟩ := hq.pu; clear hq
  obtain ⟨A, c, h1, h2, hs⟩ := wrt_open hs
  go_enter Tryd.func35, Tryd.ntmps35
  go_wp2_with (first
        | ((with_reducible apply pl_call hs (wcopied_s _ _ _ l)); (go_must (((focus (simp only [zj, zk, zl, List.append_toArray, List.nil_append, List.cons_append, Act.eval, za, zb, zc, zd, ze, zf]; (try with_reducible rfl); done)); (focus ((repeat (first | (with_reducible (first | exact ent_refl | apply ent_puR)) | ((with_reducible apply ent_front); (focus with_reducible (repeat (first | exact ent_here | apply ent_next | exact ent_last)); done)) | (with_reducible (first | exact ent_keep | apply ent_trans ent_drop)) | (focus (first | ((repeat' (first | (with_reducible assumption) | (with_reducible apply And.intro) | (focus (first | ((repeat (first | (with_reducible (first | assumption | exact slr_ro |  exact hsl _ | exact hsl2 _ | exact hsl3 _ _ _ | exact slr_nil | exact slr_row (fun _ => by simp only [go_sem]) | exact slr_one (fun _ => by simp only [go_sem]) | (apply slr_left; assumption))) | (with_reducible apply slr_next))); done) | ((repeat (first | (with_reducible (first | assumption | exact slr_ro |  exact hsl _ | exact hsl2 _ | exact hsl3 _ _ _ | exact slr_nil | exact slr_row (fun _ => by simp only [go_sem]) | exact slr_one (fun _ => by simp only [go_sem]) | (apply slr_left; assumption))) | (with_reducible (first | (apply slr_exh; focus assumption) | (apply slr_exh0; focus assumption) | apply slr_next)))); done))))); done))))); done)); (focus (simp only [go_sem]))))); clear hs; (try clear w); intro v w hq; (obtain ⟨gb, hq1⟩ := hq.ex; obtain ⟨rfl, hs⟩ := hq1.pu; clear hq1); clear hq; (try simp only [star_assoc, star_emp, emp_star] at hs); (try simp only [Act.put, zg, zh, zi]))
        | ((with_reducible apply pl_load1 hs); (focus (simp only [Act.eval, za, zb, zc, zd, ze, zf]; (try with_reducible rfl); done)); (focus (simp only [go_sem])); (focus ((repeat (first | (with_reducible (first | assumption | exact hec _ | exact hec2 _ | exact hec3 _ | exact hec4 _ _)) | ((with_reducible apply readc_here); (focus (first | (simp only [zc, zd, ze, go_sem]; (try with_reducible rfl); done) | (go_simp; (try with_reducible rfl); done)))) | (with_reducible (first | (apply readc_left; assumption) | refine readc_exh (by assumption) ?_ | refine readc_exh0 (by assumption) ?_ | apply readc_next)))); done)); (focus rfl); simp only [Act.put, zg, zh, zi]))
  (go_ret; simp only [za, zb, zc, zd, ze, zf])
  exact ⟨_, rfl, hs.mono (ent_ex gb (ent_pu rfl (ent_trans (B := row 5 1 bytv (.slice (some ⟨gb, 0, none⟩) l.length l.length) l * (blk g (.cells #[.slice A l.length c] 120 (0, 0)) * (row 5 1 bytv (.slice A l.length c) l * F))) (by ((repeat (first | (with_reducible (first | exact ent_refl | exact ent_emp)) | ((with_reducible apply ent_front); (focus with_reducible (repeat (first | exact ent_here | apply ent_next | exact ent_last)); done)) | (with_reducible (first | exact ent_keep | apply ent_trans ent_drop)))); done)) (star_mono ent_refl wrt_shut))))⟩
theorem wbyte_s (c0 : World) (F : HP) (g : Nat) (l : List Int) (b : Int) : Spec Tryd.prog c0 30 #[.pointer (some ⟨g, 0, none⟩), .int .u8 b] (pu (l.length + 1 ≤ 140737488355328) (wrt g l * F)) (fun _ => wrt g (l ++ [b]) * F) := by
  intro w hq; obtain ⟨hl, hs⟩ := hq.pu; clear hq
  obtain ⟨A, c, h1, h2, hs⟩ := wrt_open hs
  go_enter Tryd.func30, Tryd.ntmps30
  go_wp2_with (first
        | ((with_reducible apply pl_load1 hs); (focus (simp only [Act.eval, za, zb, zc, zd, ze, zf]; (try with_reducible rfl); done)); (focus (simp only [go_sem])); (focus ((repeat (first | (with_reducible (first | assumption | exact hec _ | exact hec2 _ | exact hec3 _ | exact hec4 _ _)) | ((with_reducible apply readc_here); (focus (first | (simp only [zc, zd, ze, go_sem]; (try with_reducible rfl); done) | (go_simp; (try with_reducible rfl); done)))) | (with_reducible (first | (apply readc_left; assumption) | refine readc_exh (by assumption) ?_ | refine readc_exh0 (by assumption) ?_ | apply readc_next)))); done)); (focus rfl); simp only [Act.put, zg, zh, zi])
        | ((with_reducible apply pl_bs1 hs); (with_reducible (first | exact bst_32)); (focus (simp only [Act.eval, za, zb, zc, zd, ze, zf]; (try with_reducible rfl); done)); (focus (first | (with_reducible (first | exact cells_intv _ | exact cells_bytv _ | exact cells_agg _ | exact cells_int _ _ | exact cells_bool _ | exact cells_string _ | exact cells_slice _ _ _ | exact cells_pointer _ | exact cells_map _ | exact cells_iface _ _ | exact cells_nilIface | exact cells_func _ _ _)) | (exact cells_one (by assumption)))); (focus (first | (with_reducible rfl) | (simp only [go_sem]; done) | (simp; done))); clear hs; (try clear w); intro g w hs; skip; simp only [Act.put, zg, zh, zi])
        | ((with_reducible apply pl_store1 hs); (focus (simp only [Act.eval, za, zb, zc, zd, ze, zf]; (try with_reducible rfl); done)); (focus (simp only [Act.eval, za, zb, zc, zd, ze, zf]; (try with_reducible rfl); done)); (focus (simp only [go_sem])); (focus with_reducible (repeat (first | exact ent_here | apply ent_next | exact ent_last)); done); (focus (first | (simp [go_sem]; done) | (simp only [go_sem]; omega) | go_size)); (focus (first | (simp only [go_sem]; done) | (simp [go_sem]; done))); clear hs; (try clear w); intro w hs; (try simp only [zg, zh, zi, clk_set, opv_s0, opv_s1, opv_s2, opv_s3, actv_s0, actv_s1, actv_s2, actv_s3, actv_s4, rnd_s0, rnd_s17, lnk_s0, lnk_s1, lnk_s2, nov_s0, nov_s1, nov_s2, intv_set, bytv_set] at hs); simp only [Act.put, zg, zh, zi])
        | ((with_reducible apply pl_append1 hs); (with_reducible (first | exact app_24 | exact app_32 | exact app_45 | exact app_46 | exact app_47 | exact app_122)); (focus (simp only [Act.eval, za, zb, zc, zd, ze, zf]; (try with_reducible rfl); done)); (first | (focus with_reducible (repeat (first | exact ent_here | apply ent_next | exact ent_last)); done) | (focus (with_reducible exact ent_row_nil)) | (focus ((with_reducible apply ent_row_of_blk); (focus with_reducible (repeat (first | exact ent_here | apply ent_next | exact ent_last)); done); (focus (simp only [go_sem]))))); (focus (simp only [Act.eval, za, zb, zc, zd, ze, zf]; (try with_reducible rfl); done)); (focus ((repeat (first | (with_reducible (first | assumption | exact hel _ | exact hel2 _ | exact hel3 _)) | ((with_reducible apply reads_whole); (focus (first | (with_reducible rfl) | (simp only [go_sem]; done) | (simp; done)))) | ((with_reducible apply reads_part); (focus (first | (simp [go_sem]; done) | (simp only [go_sem]; omega) | go_size)); (focus (first | (simp only [Nat.reduceAdd, Nat.zero_add, go_sem]; (try with_reducible rfl); done) | (simp [go_sem]; (try with_reducible rfl); done)))) | (with_reducible (first | (apply reads_left; assumption) | refine reads_exh (by assumption) ?_ | refine reads_exh0 (by assumption) ?_ | apply reads_next)))); done)); (focus (first | (simp only [maxLen] at *; omega) | (simp [maxLen] at *; omega))); (focus (first | (simp only [maxLen] at *; omega) | (simp [maxLen] at *; omega))); clear hs; (try clear w); intro Ap cq w hs; skip; simp only [Act.put, zg, zh, zi]))
  refine bodyPost_end (results_none rfl _ _ _) rfl ⟨_, rfl, hs.mono (ent_trans (by ((repeat (first | (with_reducible (first | exact ent_refl | exact ent_emp)) | ((with_reducible apply ent_front); (focus with_reducible (repeat (first | exact ent_here | apply ent_next | exact ent_last)); done)) | (with_reducible (first | exact ent_keep | apply ent_trans ent_drop)))); done)) wrt_shut)⟩
set_option maxRecDepth 20000 in
set_option maxHeartbeats 1000000 in
theorem wnum_s (c0 : World) (F : HP) (g : Nat) (l : List Int) (n : Nat) : Spec Tryd.prog c0 31 #[.pointer (some ⟨g, 0, none⟩), .int .i64 n] (pu (n < 9223372036854775808 ∧ l.length + (form n).length ≤ 140737488355328) (wrt g l * F)) (fun r => pu (r = .nilIface) (wrt g (l ++ form n) * F)) := by
  intro w hq; obtain ⟨⟨hn, hl⟩, hs⟩ := hq.pu; clear hq
  have hn0 : (0 : Int) ≤ n := by omega
  go_enter Tryd.func31, Tryd.ntmps31
  go_wp2_with fail
  go_loopw [1] (fun i wr => ∃ (m : Nat) (l' : List Int), m ≤ n ∧ i = .int .i64 m ∧ Hid (l' ++ form m = l ++ form n) ∧ Sat c0 (wrt g l' * F) wr) (fun i _ => (intOf i).toNat)
  case atStart => exact ⟨n, l, by omega, rfl, rfl, hs⟩
  case round =>
    clear hs
    obtain ⟨m, l', hm, rfl, hlm, hs⟩ := hrel
    obtain ⟨A, c, h1, h2, hs⟩ := wrt_open hs
    have hll : l'.length + (form m).length = l.length + (form n).length := by have := congrArg List.length hlm.out; simpa using this
    have hfp := form_pos m
    have hl2 : l'.length + 1 ≤ 140737488355328 := by omega
    clear hll hfp hl
    rcases Nat.lt_or_ge m 128 with h | h
    · have h' : (m : Int) < 128 := by omega
      go_wp2_with (first
        | ((with_reducible apply pl_load1 hs); (focus (simp only [Act.eval, za, zb, zc, zd, ze, zf]; (try with_reducible rfl); done)); (focus (simp only [go_sem])); (focus ((repeat (first | (with_reducible (first | assumption | exact hec _ | exact hec2 _ | exact hec3 _ | exact hec4 _ _)) | ((with_reducible apply readc_here); (focus (first | (simp only [zc, zd, ze, go_sem]; (try with_reducible rfl); done) | (go_simp; (try with_reducible rfl); done)))) | (with_reducible (first | (apply readc_left; assumption) | refine readc_exh (by assumption) ?_ | refine readc_exh0 (by assumption) ?_ | apply readc_next)))); done)); (focus rfl); simp only [Act.put, zg, zh, zi])
        | ((with_reducible apply pl_bs1 hs); (with_reducible (first | exact bst_32)); (focus (simp only [Act.eval, za, zb, zc, zd, ze, zf]; (try with_reducible rfl); done)); (focus (first | (with_reducible (first | exact cells_intv _ | exact cells_bytv _ | exact cells_agg _ | exact cells_int _ _ | exact cells_bool _ | exact cells_string _ | exact cells_slice _ _ _ | exact cells_pointer _ | exact cells_map _ | exact cells_iface _ _ | exact cells_nilIface | exact cells_func _ _ _)) | (exact cells_one (by assumption)))); (focus (first | (with_reducible rfl) | (simp only [go_sem]; done) | (simp; done))); clear hs; (try clear w); intro g w hs; skip; simp only [Act.put, zg, zh, zi])
        | ((with_reducible apply pl_store1 hs); (focus (simp only [Act.eval, za, zb, zc, zd, ze, zf]; (try with_reducible rfl); done)); (focus (simp only [Act.eval, za, zb, zc, zd, ze, zf]; (try with_reducible rfl); done)); (focus (simp only [go_sem])); (focus with_reducible (repeat (first | exact ent_here | apply ent_next | exact ent_last)); done); (focus (first | (simp [go_sem]; done) | (simp only [go_sem]; omega) | go_size)); (focus (first | (simp only [go_sem]; done) | (simp [go_sem]; done))); clear hs; (try clear w); intro w hs; (try simp only [zg, zh, zi, clk_set, opv_s0, opv_s1, opv_s2, opv_s3, actv_s0, actv_s1, actv_s2, actv_s3, actv_s4, rnd_s0, rnd_s17, lnk_s0, lnk_s1, lnk_s2, nov_s0, nov_s1, nov_s2, intv_set, bytv_set] at hs); simp only [Act.put, zg, zh, zi])
        | ((with_reducible apply pl_append1 hs); (with_reducible (first | exact app_24 | exact app_32 | exact app_45 | exact app_46 | exact app_47 | exact app_122)); (focus (simp only [Act.eval, za, zb, zc, zd, ze, zf]; (try with_reducible rfl); done)); (first | (focus with_reducible (repeat (first | exact ent_here | apply ent_next | exact ent_last)); done) | (focus (with_reducible exact ent_row_nil)) | (focus ((with_reducible apply ent_row_of_blk); (focus with_reducible (repeat (first | exact ent_here | apply ent_next | exact ent_last)); done); (focus (simp only [go_sem]))))); (focus (simp only [Act.eval, za, zb, zc, zd, ze, zf]; (try with_reducible rfl); done)); (focus ((repeat (first | (with_reducible (first | assumption | exact hel _ | exact hel2 _ | exact hel3 _)) | ((with_reducible apply reads_whole); (focus (first | (with_reducible rfl) | (simp only [go_sem]; done) | (simp; done)))) | ((with_reducible apply reads_part); (focus (first | (simp [go_sem]; done) | (simp only [go_sem]; omega) | go_size)); (focus (first | (simp only [Nat.reduceAdd, Nat.zero_add, go_sem]; (try with_reducible rfl); done) | (simp [go_sem]; (try with_reducible rfl); done)))) | (with_reducible (first | (apply reads_left; assumption) | refine reads_exh (by assumption) ?_ | refine reads_exh0 (by assumption) ?_ | apply reads_next)))); done)); (focus (first | (simp only [maxLen] at *; omega) | (simp [maxLen] at *; omega))); (focus (first | (simp only [maxLen] at *; omega) | (simp [maxLen] at *; omega))); clear hs; (try clear w); intro Ap cq w hs; skip; simp only [Act.put, zg, zh, zi]))
      rw [← hlm.out, form_lo h]
      (go_ret; simp only [za, zb, zc, zd, ze, zf])
      exact ⟨_, rfl, hs.mono (ent_pu rfl (ent_trans (by ((repeat (first | (with_reducible (first | exact ent_refl | exact ent_emp)) | ((with_reducible apply ent_front); (focus with_reducible (repeat (first | exact ent_here | apply ent_next | exact ent_last)); done)) | (with_reducible (first | exact ent_keep | apply ent_trans ent_drop)))); done)) wrt_shut))⟩
    · have h' : (128 : Int) ≤ m := by omega
      go_wp2_with (first
        | ((with_reducible apply pl_load1 hs); (focus (simp only [Act.eval, za, zb, zc, zd, ze, zf]; (try with_reducible rfl); done)); (focus (simp only [go_sem])); (focus ((repeat (first | (with_reducible (first | assumption | exact hec _ | exact hec2 _ | exact hec3 _ | exact hec4 _ _)) | ((with_reducible apply readc_here); (focus (first | (simp only [zc, zd, ze, go_sem]; (try with_reducible rfl); done) | (go_simp; (try with_reducible rfl); done)))) | (with_reducible (first | (apply readc_left; assumption) | refine readc_exh (by assumption) ?_ | refine readc_exh0 (by assumption) ?_ | apply readc_next)))); done)); (focus rfl); simp only [Act.put, zg, zh, zi])
        | ((with_reducible apply pl_bs1 hs); (with_reducible (first | exact bst_32)); (focus (simp only [Act.eval, za, zb, zc, zd, ze, zf]; (try with_reducible rfl); done)); (focus (first | (with_reducible (first | exact cells_intv _ | exact cells_bytv _ | exact cells_agg _ | exact cells_int _ _ | exact cells_bool _ | exact cells_string _ | exact cells_slice _ _ _ | exact cells_pointer _ | exact cells_map _ | exact cells_iface _ _ | exact cells_nilIface | exact cells_func _ _ _)) | (exact cells_one (by assumption)))); (focus (first | (with_reducible rfl) | (simp only [go_sem]; done) | (simp; done))); clear hs; (try clear w); intro g w hs; skip; simp only [Act.put, zg, zh, zi])
        | ((with_reducible apply pl_store1 hs); (focus (simp only [Act.eval, za, zb, zc, zd, ze, zf]; (try with_reducible rfl); done)); (focus (simp only [Act.eval, za, zb, zc, zd, ze, zf]; (try with_reducible rfl); done)); (focus (simp only [go_sem])); (focus with_reducible (repeat (first | exact ent_here | apply ent_next | exact ent_last)); done); (focus (first | (simp [go_sem]; done) | (simp only [go_sem]; omega) | go_size)); (focus (first | (simp only [go_sem]; done) | (simp [go_sem]; done))); clear hs; (try clear w); intro w hs; (try simp only [zg, zh, zi, clk_set, opv_s0, opv_s1, opv_s2, opv_s3, actv_s0, actv_s1, actv_s2, actv_s3, actv_s4, rnd_s0, rnd_s17, lnk_s0, lnk_s1, lnk_s2, nov_s0, nov_s1, nov_s2, intv_set, bytv_set] at hs); simp only [Act.put, zg, zh, zi])
        | ((with_reducible apply pl_append1 hs); (with_reducible (first | exact app_24 | exact app_32 | exact app_45 | exact app_46 | exact app_47 | exact app_122)); (focus (simp only [Act.eval, za, zb, zc, zd, ze, zf]; (try with_reducible rfl); done)); (first | (focus with_reducible (repeat (first | exact ent_here | apply ent_next | exact ent_last)); done) | (focus (with_reducible exact ent_row_nil)) | (focus ((with_reducible apply ent_row_of_blk); (focus with_reducible (repeat (first | exact ent_here | apply ent_next | exact ent_last)); done); (focus (simp only [go_sem]))))); (focus (simp only [Act.eval, za, zb, zc, zd, ze, zf]; (try with_reducible rfl); done)); (focus ((repeat (first | (with_reducible (first | assumption | exact hel _ | exact hel2 _ | exact hel3 _)) | ((with_reducible apply reads_whole); (focus (first | (with_reducible rfl) | (simp only [go_sem]; done) | (simp; done)))) | ((with_reducible apply reads_part); (focus (first | (simp [go_sem]; done) | (simp only [go_sem]; omega) | go_size)); (focus (first | (simp only [Nat.reduceAdd, Nat.zero_add, go_sem]; (try with_reducible rfl); done) | (simp [go_sem]; (try with_reducible rfl); done)))) | (with_reducible (first | (apply reads_left; assumption) | refine reads_exh (by assumption) ?_ | refine reads_exh0 (by assumption) ?_ | apply reads_next)))); done)); (focus (first | (simp only [maxLen] at *; omega) | (simp [maxLen] at *; omega))); (focus (first | (simp only [maxLen] at *; omega) | (simp [maxLen] at *; omega))); clear hs; (try clear w); intro Ap cq w hs; skip; simp only [Act.put, zg, zh, zi]))
      exact ⟨⟨m / 128, l' ++ [(m : Int) % 128 + 128], by omega, by simp, (by unfold Hid; rw [← hlm.out, form_hi h, List.append_assoc, List.singleton_append, show (m : Int) % 128 + 128 = ((m % 128 + 128 : Nat) : Int) by omega]), hs.mono (ent_trans (by ((repeat (first | (with_reducible (first | exact ent_refl | exact ent_emp)) | ((with_reducible apply ent_front); (focus with_reducible (repeat (first | exact ent_here | apply ent_next | exact ent_last)); done)) | (with_reducible (first | exact ent_keep | apply ent_trans ent_drop)))); done)) wrt_shut)⟩, by simp [intOf]; omega⟩
end Go.Proofs.YtegebjflhhbmiaaDoor
