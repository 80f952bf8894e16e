/- Rows of intv: alike. -/
import Derived.Test.YtegebjflhhbmiaaDoorZQC6AP
import Derived.LaidEql
import Derived.Stop.Asserts
set_option linter.unusedSimpArgs false
set_option linter.unusedVariables false
namespace Go.Proofs.YtegebjflhhbmiaaDoor
open Go Go.RowKit

/-- The variable of a reason's number. -/
def gl : Nat → Nat
  | 1 => 1
  | 2 => 3
  | 3 => 4
  | 4 => 5
  | 5 => 6
  | 6 => 0
  | 7 => 2
  | 8 => 7
  | 9 => 8
  | 10 => 9
  | 11 => 10
  | 12 => 11
  | 13 => 12
  | _ => 0
/-- The reasons lie where the variables say, each at a place of its own. -/
structure ErrA (F : HP) (a : Nat → Addr) : Prop where
  ad : ∀ k, 1 ≤ k → k ≤ 13 → ReadC F (gl k) 0 (.iface 162 (.pointer (some (a k))))
  bk : ∀ k, 1 ≤ k → k ≤ 13 → ∀ w, Own F w → ∃ c t, w.heap[(a k).block]? = some (.cells c t (0, 0))
  inj : ∀ i j, 1 ≤ i → i ≤ 13 → 1 ≤ j → j ≤ 13 → a i = a j → i = j
theorem ErrA.next {A R : HP} {a : Nat → Addr} (h : ErrA R a) : ErrA (A * R) a := ⟨fun k h1 h2 => readc_next (h.ad k h1 h2), fun k h1 h2 w hw => h.bk k h1 h2 w (own_next hw), h.inj⟩
theorem ErrA.left {A R : HP} {a : Nat → Addr} (h : ErrA A a) : ErrA (A * R) a := ⟨fun k h1 h2 => readc_left (h.ad k h1 h2), fun k h1 h2 w hw => h.bk k h1 h2 w (hw.mono ent_keep), h.inj⟩
theorem ErrA.exh {hR : Hp} {H A : HP} {a : Nat → Addr} (hh : H.on hR) (h : ErrA H a) : ErrA (Exh hR * A) a := ⟨fun k h1 h2 => readc_exh hh (h.ad k h1 h2), fun k h1 h2 w hw => h.bk k h1 h2 w (own_exh hh hw), h.inj⟩
theorem ErrA.exh0 {hR : Hp} {H : HP} {a : Nat → Addr} (hh : H.on hR) (h : ErrA H a) : ErrA (Exh hR) a := ⟨fun k h1 h2 => readc_exh0 hh (h.ad k h1 h2), fun k h1 h2 w hw => h.bk k h1 h2 w (own_exh0 hh hw), h.inj⟩
theorem errA_of {F : HP} {w : World} (hw : Own F w) (txt : Nat → List UInt8) (hinj : ∀ i j, 1 ≤ i → i ≤ 13 → 1 ≤ j → j ≤ 13 → txt i = txt j → i = j) (h : ∀ k, 1 ≤ k → k ≤ 13 → ErrAt F (gl k) (txt k)) : ∃ a, ErrA F a := by
  have h' : ∀ k, ∃ x : Addr, 1 ≤ k → k ≤ 13 → ReadC F (gl k) 0 (.iface 162 (.pointer (some x))) ∧ ∀ w, Own F w → (∃ s, w.cell? x = some (.string s) ∧ s.data.toList = txt k) ∧ ∃ c t, w.heap[x.block]? = some (.cells c t (0, 0)) := fun k => by
    by_cases hk : 1 ≤ k ∧ k ≤ 13
    · obtain ⟨x, hx⟩ := h k hk.1 hk.2
      exact ⟨x, fun _ _ => hx⟩
    · exact ⟨⟨0, 0, none⟩, fun h1 h2 => absurd ⟨h1, h2⟩ hk⟩
  refine ⟨fun k => (h' k).choose, fun k h1 h2 => ((h' k).choose_spec h1 h2).1, fun k h1 h2 w hw => (((h' k).choose_spec h1 h2).2 w hw).2, fun i j i1 i2 j1 j2 e => hinj i j i1 i2 j1 j2 ?_⟩
  obtain ⟨s, e1, e2⟩ := (((h' i).choose_spec i1 i2).2 w hw).1
  obtain ⟨t, f1, f2⟩ := (((h' j).choose_spec j1 j2).2 w hw).1
  have e' : (h' i).choose = (h' j).choose := e
  rw [e', f1] at e1
  injection e1 with e1
  injection e1 with e1
  rw [← e2, ← f2, e1]
@[go_sem] theorem eql_FE (x y : Value) (w : World) : (binOp .eql 34 (.iface 116 x) (.iface 162 y)).run Tryd.prog w = .ok (.bool false) w :=
  run_eql_iface_types _ _ _ _ Tryd.underlying34 (by decide) w
theorem infoE : ∃ i, Tryd.prog.info? 162 = some i ∧ i.comparable = true := by
  obtain ⟨i, h1, h2⟩ := Option.map_eq_some_iff.1 (show (Tryd.prog.info? 162).map (·.comparable) = some true by kernel_rfl)
  exact ⟨i, h1, h2⟩
theorem infoS : ∃ i, Tryd.prog.info? 179 = some i ∧ i.size = 1 := by
  obtain ⟨i, h1, h2⟩ := Option.map_eq_some_iff.1 (show (Tryd.prog.info? 179).map (·.size) = some 1 by kernel_rfl)
  exact ⟨i, h1, h2⟩
@[go_sem] theorem eql_EE (x : Addr) (w : World) : (binOp .eql 34 (.iface 162 (.pointer (some x))) (.iface 162 (.pointer (some x)))).run Tryd.prog w = .ok (.bool true) w := by
  obtain ⟨i, h1, h2⟩ := infoE
  obtain ⟨j, h3, h4⟩ := infoS
  exact run_eql_iface_ptr_same w x Tryd.underlying34 Tryd.underlying162 h1 h2 h3
theorem eql_EO {F : HP} {a : Nat → Addr} (hE : ErrA F a) {w : World} (hw : Own F w) {k j : Nat} (k1 : 1 ≤ k) (k2 : k ≤ 13) (j1 : 1 ≤ j) (j2 : j ≤ 13) (hne : j ≠ k) :
    (binOp .eql 34 (.iface 162 (.pointer (some (a k)))) (.iface 162 (.pointer (some (a j))))).run Tryd.prog w = .ok (.bool false) w := by
  obtain ⟨i, h1, h2⟩ := infoE
  obtain ⟨i', h3, h4⟩ := infoS
  obtain ⟨c1, t1, e1⟩ := hE.bk k k1 k2 w hw
  obtain ⟨c2, t2, e2⟩ := hE.bk j j1 j2 w hw
  exact run_eql_iface_ptr_other w Tryd.underlying34 Tryd.underlying162 h1 h2 h3 (by omega) (fun e => hne (hE.inj _ _ k1 k2 j1 j2 e).symm) e1 e2
set_option maxRecDepth 20000 in
set_option maxHeartbeats 1000000 in
theorem named_s (c0 : World) (F : HP) (a : Nat → Addr) (k : Nat) : Spec Tryd.prog c0 97 #[.int .i64 k] (pu (ErrA F a ∧ 1 ≤ k ∧ k ≤ 13) F) (fun r => pu (r = .iface 162 (.pointer (some (a k)))) F) := by
  intro w hq; obtain ⟨⟨hE, h1, h2⟩, hs⟩ := hq.pu; clear hq
  have hec0 := hE.ad k h1 h2
  obtain rfl | rfl | rfl | rfl | rfl | rfl | rfl | rfl | rfl | rfl | rfl | rfl | rfl : k = 1 ∨ k = 2 ∨ k = 3 ∨ k = 4 ∨ k = 5 ∨ k = 6 ∨ k = 7 ∨ k = 8 ∨ k = 9 ∨ k = 10 ∨ k = 11 ∨ k = 12 ∨ k = 13 := by omega
  all_goals
    clear h1 h2
    simp only [gl] at hec0
    go_enter Tryd.func97, Tryd.ntmps97
    go_wp2_with (first
        | ((with_reducible apply pl_load1 hs); (focus (simp only [Act.eval, za, zb, zc, zd, ze, zf]; (try with_reducible rfl); done)); (focus (simp only [go_sem])); (focus ((repeat (first | (with_reducible (first | assumption | exact hec _ | exact hec2 _ | exact hec3 _ | exact hec4 _ _)) | ((with_reducible apply readc_here); (focus (first | (simp only [zc, zd, ze, go_sem]; (try with_reducible rfl); done) | (go_simp; (try with_reducible rfl); done)))) | (with_reducible (first | (apply readc_left; assumption) | refine readc_exh (by assumption) ?_ | refine readc_exh0 (by assumption) ?_ | apply readc_next)))); done)); (focus rfl); simp only [Act.put, zg, zh, zi]))
    (go_ret; simp only [za, zb, zc, zd, ze, zf])
    exact ⟨_, rfl, hs.mono (ent_pu rfl (by ((repeat (first | (with_reducible (first | exact ent_refl | exact ent_emp)) | ((with_reducible apply ent_front); (focus with_reducible (repeat (first | exact ent_here | apply ent_next | exact ent_last)); done)) | (with_reducible (first | exact ent_keep | apply ent_trans ent_drop)))); done)))⟩
set_option maxRecDepth 20000 in
set_option maxHeartbeats 1000000 in
theorem numberE_s (c0 : World) (F : HP) (a : Nat → Addr) (k : Nat) : Spec Tryd.prog c0 79 #[.iface 162 (.pointer (some (a k)))] (pu (ErrA F a ∧ 1 ≤ k ∧ k ≤ 13) F) (fun r => pu (r = .int .i64 k) F) := by
  intro w hq; obtain ⟨⟨hE, h1, h2⟩, hs⟩ := hq.pu; clear hq
  go_enter Tryd.func79, Tryd.ntmps79
  go_wp2_with fail
  go_loopw [3] (fun i wr => ∃ j : Nat, 1 ≤ j ∧ j ≤ k ∧ i = .int .i64 j ∧ Sat c0 F wr) (fun i _ => 14 - (intOf i).toNat)
  case atStart => exact ⟨1, by omega, h1, rfl, hs⟩
  case round =>
    obtain ⟨j, hj1, hj2, rfl, hs⟩ := hrel
    have hj13 : j ≤ 13 := by omega
    by_cases hjk : j = k
    · subst hjk
      go_wp2_with (first
        | ((with_reducible apply pl_call hs (named_s _ _ a j)); (go_must (((focus (simp only [zj, zk, zl, List.append_toArray, List.nil_append, List.cons_append, Act.eval, za, zb, zc, zd, ze, zf]; (try with_reducible rfl); done)); (focus ((repeat (first | (with_reducible (first | exact ent_refl | apply ent_puR)) | ((with_reducible apply ent_front); (focus with_reducible (repeat (first | exact ent_here | apply ent_next | exact ent_last)); done)) | (with_reducible (first | exact ent_keep | apply ent_trans ent_drop)) | (focus (first | ((repeat' (first | (with_reducible assumption) | (with_reducible apply And.intro))); done))))); done)); (focus (simp only [go_sem]))))); clear hs; (try clear w); intro v w hq; (obtain ⟨rfl, hs⟩ := hq.pu); clear hq; (try simp only [star_assoc, star_emp, emp_star] at hs); (try simp only [Act.put, zg, zh, zi])))
      (go_ret; simp only [za, zb, zc, zd, ze, zf])
      exact ⟨_, rfl, hs.mono (ent_pu rfl (by ((repeat (first | (with_reducible (first | exact ent_refl | exact ent_emp)) | ((with_reducible apply ent_front); (focus with_reducible (repeat (first | exact ent_here | apply ent_next | exact ent_last)); done)) | (with_reducible (first | exact ent_keep | apply ent_trans ent_drop)))); done)))⟩
    · replace hjk := Lib.hid hjk
      go_wp2_with (first
        | ((with_reducible apply pl_call hs (named_s _ _ a j)); (go_must (((focus (simp only [zj, zk, zl, List.append_toArray, List.nil_append, List.cons_append, Act.eval, za, zb, zc, zd, ze, zf]; (try with_reducible rfl); done)); (focus ((repeat (first | (with_reducible (first | exact ent_refl | apply ent_puR)) | ((with_reducible apply ent_front); (focus with_reducible (repeat (first | exact ent_here | apply ent_next | exact ent_last)); done)) | (with_reducible (first | exact ent_keep | apply ent_trans ent_drop)) | (focus (first | ((repeat' (first | (with_reducible assumption) | (with_reducible apply And.intro))); done))))); done)); (focus (simp only [go_sem]))))); clear hs; (try clear w); intro v w hq; (obtain ⟨rfl, hs⟩ := hq.pu); clear hq; (try simp only [star_assoc, star_emp, emp_star] at hs); (try simp only [Act.put, zg, zh, zi])))
      rw [eql_EO hE hs.own h1 h2 hj1 hj13 hjk.out]
      go_wp2_with fail
      go_roundw
      case rel => exact ⟨j + 1, by omega, by have := hjk.out; omega, by go_num, hs⟩
      case measure => simp [intOf]; omega
set_option maxRecDepth 20000 in
set_option maxHeartbeats 1000000 in
theorem numberF_s (c0 : World) (F : HP) (a : Nat → Addr) (p : Option Addr) : Spec Tryd.prog c0 79 #[.iface 116 (.pointer p)] (pu (ErrA F a) F) (fun r => pu (r = .int .i64 0) F) := by
  intro w hq; obtain ⟨hE, hs⟩ := hq.pu; clear hq
  go_enter Tryd.func79, Tryd.ntmps79
  go_wp2_with fail
  go_loopw [3] (fun i wr => ∃ j : Nat, 1 ≤ j ∧ j ≤ 14 ∧ i = .int .i64 j ∧ Sat c0 F wr) (fun i _ => 14 - (intOf i).toNat)
  case atStart => exact ⟨1, by omega, by omega, rfl, hs⟩
  case round =>
    obtain ⟨j, hj1, hj2, rfl, hs⟩ := hrel
    by_cases hlt : j ≤ 13
    · go_wp2_with (first
        | ((with_reducible apply pl_call hs (named_s _ _ a j)); (go_must (((focus (simp only [zj, zk, zl, List.append_toArray, List.nil_append, List.cons_append, Act.eval, za, zb, zc, zd, ze, zf]; (try with_reducible rfl); done)); (focus ((repeat (first | (with_reducible (first | exact ent_refl | apply ent_puR)) | ((with_reducible apply ent_front); (focus with_reducible (repeat (first | exact ent_here | apply ent_next | exact ent_last)); done)) | (with_reducible (first | exact ent_keep | apply ent_trans ent_drop)) | (focus (first | ((repeat' (first | (with_reducible assumption) | (with_reducible apply And.intro))); done))))); done)); (focus (simp only [go_sem]))))); clear hs; (try clear w); intro v w hq; (obtain ⟨rfl, hs⟩ := hq.pu); clear hq; (try simp only [star_assoc, star_emp, emp_star] at hs); (try simp only [Act.put, zg, zh, zi])))
      go_roundw
      case rel => exact ⟨j + 1, by omega, by omega, by go_num, hs⟩
      case measure => simp [intOf]; omega
    · obtain rfl : j = 14 := by omega
      go_wp2_with fail
      (go_ret; simp only [za, zb, zc, zd, ze, zf])
      exact ⟨_, rfl, hs.mono (ent_pu rfl (by ((repeat (first | (with_reducible (first | exact ent_refl | exact ent_emp)) | ((with_reducible apply ent_front); (focus with_reducible (repeat (first | exact ent_here | apply ent_next | exact ent_last)); done)) | (with_reducible (first | exact ent_keep | apply ent_trans ent_drop)))); done)))⟩
end Go.Proofs.YtegebjflhhbmiaaDoor

set_option linter.unusedSimpArgs false
set_option linter.unusedVariables false
namespace Go.Proofs.YtegebjflhhbmiaaDoor
open Go Go.RowKit

@[go_sem] theorem ta_FF (v : Value) (w : World) : (Instr.typeAssert (.iface 116 v) 34 116 true).run Tryd.prog w = .ok (.tuple #[v, .bool true]) w := by kernel_rfl
@[go_sem] theorem ta_FM (v : Value) (w : World) : (Instr.typeAssert (.iface 116 v) 34 150 true).run Tryd.prog w = .ok (.tuple #[.pointer none, .bool false]) w := by kernel_rfl
@[go_sem] theorem ta_EF (v : Value) (w : World) : (Instr.typeAssert (.iface 162 v) 34 116 true).run Tryd.prog w = .ok (.tuple #[.pointer none, .bool false]) w := by kernel_rfl
@[go_sem] theorem ta_EM (v : Value) (w : World) : (Instr.typeAssert (.iface 162 v) 34 150 true).run Tryd.prog w = .ok (.tuple #[.pointer none, .bool false]) w := by kernel_rfl
/-- An error as the program has it: a chain of refusals, and a reason behind them. -/
def fch (a : Nat → Addr) : List LinkD → Nat → Value → HP
  | [], k, v => pu (v = .iface 162 (.pointer (some (a k)))) emp
  | l :: ls, k, v => ex fun g : Nat => ex fun t : TypeId => ex fun p : Option Addr => pu (v = .iface 116 (.pointer (some ⟨g, 0, none⟩))) (blk g (.cells (fltv l.layer l.call l.pos t p) 118 (0, 0)) * fch a ls k (.iface t (.pointer p)))
theorem fch_nil {a : Nat → Addr} {k : Nat} {v : Value} {F : HP} {c w : World} (hs : Sat c (fch a [] k v * F) w) : v = .iface 162 (.pointer (some (a k))) ∧ Sat c F w := by
  unfold fch at hs
  rw [pu_star, emp_star] at hs
  exact hs.pu
theorem fch_cons {a : Nat → Addr} {l : LinkD} {ls : List LinkD} {k : Nat} {v : Value} {F : HP} {c w : World} (hs : Sat c (fch a (l :: ls) k v * F) w) :
    ∃ g t p, v = .iface 116 (.pointer (some ⟨g, 0, none⟩)) ∧ Sat c (blk g (.cells (fltv l.layer l.call l.pos t p) 118 (0, 0)) * (fch a ls k (.iface t (.pointer p)) * F)) w := by
  rw [fch] at hs
  rw [ex_star] at hs
  obtain ⟨g, hs⟩ := hs.ex
  rw [ex_star] at hs
  obtain ⟨t, hs⟩ := hs.ex
  rw [ex_star] at hs
  obtain ⟨p, hs⟩ := hs.ex
  rw [pu_star, star_assoc] at hs
  obtain ⟨h, hs⟩ := hs.pu
  exact ⟨g, t, p, h, hs⟩
theorem fch_one {a : Nat → Addr} {k : Nat} {F : HP} : Ent F (fch a [] k (.iface 162 (.pointer (some (a k)))) * F) := by
  unfold fch
  rw [pu_star, emp_star]
  exact ent_pu rfl ent_refl
theorem fch_more {a : Nat → Addr} {l : LinkD} {ls : List LinkD} {k g : Nat} {t : TypeId} {p : Option Addr} {F : HP} : Ent (blk g (.cells (fltv l.layer l.call l.pos t p) 118 (0, 0)) * (fch a ls k (.iface t (.pointer p)) * F)) (fch a (l :: ls) k (.iface 116 (.pointer (some ⟨g, 0, none⟩))) * F) := by
  rw [fch]
  rw [ex_star]
  refine ent_ex g ?_
  rw [ex_star]
  refine ent_ex t ?_
  rw [ex_star]
  refine ent_ex p ?_
  rw [pu_star, star_assoc]
  exact ent_pu rfl ent_refl
@[go_sem] theorem fltv_size (a b : ByteArray) (n : Int) (t : TypeId) (p : Option Addr) : (fltv a b n t p).size = 4 := rfl
@[go_sem] theorem fltv_0 (a b : ByteArray) (n : Int) (t : TypeId) (p : Option Addr) : (fltv a b n t p)[0]? = some (.string a) := rfl
@[go_sem] theorem fltv_1 (a b : ByteArray) (n : Int) (t : TypeId) (p : Option Addr) : (fltv a b n t p)[1]? = some (.string b) := rfl
@[go_sem] theorem fltv_2 (a b : ByteArray) (n : Int) (t : TypeId) (p : Option Addr) : (fltv a b n t p)[2]? = some (.int .i64 n) := rfl
@[go_sem] theorem fltv_3 (a b : ByteArray) (n : Int) (t : TypeId) (p : Option Addr) : (fltv a b n t p)[3]? = some (.iface t (.pointer p)) := rfl
theorem unwrap_s (c0 : World) (F : HP) (g : Nat) (x y : ByteArray) (n : Int) (t : TypeId) (p : Option Addr) : Spec Tryd.prog c0 95 #[.pointer (some ⟨g, 0, none⟩)] (blk g (.cells (fltv x y n t p) 118 (0, 0)) * F)
    (fun r => pu (r = .iface t (.pointer p)) (blk g (.cells (fltv x y n t p) 118 (0, 0)) * F)) := by
  intro w hs
  go_enter Tryd.func95, Tryd.ntmps95
  go_wp2_with (first
        | ((with_reducible apply pl_load1 hs); (focus (simp only [Act.eval, za, zb, zc, zd, ze, zf]; (try with_reducible rfl); done)); (focus (simp only [go_sem])); (focus ((repeat (first | (with_reducible (first | assumption | exact hec _ | exact hec2 _ | exact hec3 _ | exact hec4 _ _)) | ((with_reducible apply readc_here); (focus (first | (simp only [zc, zd, ze, go_sem]; (try with_reducible rfl); done) | (go_simp; (try with_reducible rfl); done)))) | (with_reducible (first | (apply readc_left; assumption) | refine readc_exh (by assumption) ?_ | refine readc_exh0 (by assumption) ?_ | apply readc_next)))); done)); (focus rfl); simp only [Act.put, zg, zh, zi]))
  (go_ret; simp only [za, zb, zc, zd, ze, zf])
  exact ⟨_, rfl, hs.mono (ent_pu rfl (by ((repeat (first | (with_reducible (first | exact ent_refl | exact ent_emp)) | ((with_reducible apply ent_front); (focus with_reducible (repeat (first | exact ent_here | apply ent_next | exact ent_last)); done)) | (with_reducible (first | exact ent_keep | apply ent_trans ent_drop)))); done)))⟩
theorem code1E_s (c0 : World) (F : HP) (a : Nat → Addr) (k : Nat) (gc : Nat) (x : Int) : Spec Tryd.prog c0 78 #[.iface 162 (.pointer (some (a k))), .pointer (some ⟨gc, 0, none⟩)] (pu (ErrA F a ∧ 1 ≤ k ∧ k ≤ 13) (blk gc (.cells #[.int .i64 x] 3 (0, 0)) * F))
    (fun r => pu (r = .bool false) (blk gc (.cells #[.int .i64 k] 3 (0, 0)) * F)) := by
  intro w hq; obtain ⟨⟨hE, h1, h2⟩, hs⟩ := hq.pu; clear hq
  have hz : ((k : Int) == 0) = false := by simp only [beq_eq_false_iff_ne]; omega
  have hz2 : ((k : Int) != 0) = true := by simp only [bne_iff_ne]; omega
  go_enter Tryd.func78, Tryd.ntmps78
  go_wp2_with (first
        | ((with_reducible apply pl_call hs (numberE_s _ _ a k)); (go_must (((focus (simp only [zj, zk, zl, List.append_toArray, List.nil_append, List.cons_append, Act.eval, za, zb, zc, zd, ze, zf]; (try with_reducible rfl); done)); (focus ((repeat (first | (with_reducible (first | exact ent_refl | apply ent_puR)) | ((with_reducible apply ent_front); (focus with_reducible (repeat (first | exact ent_here | apply ent_next | exact ent_last)); done)) | (with_reducible (first | exact ent_keep | apply ent_trans ent_drop)) | (focus (first | ((repeat' (first | (with_reducible assumption) | (with_reducible apply And.intro) | (focus (with_reducible (repeat (first | assumption | (apply ErrA.left; assumption) | refine ErrA.exh (by assumption) ?_ | refine ErrA.exh0 (by assumption) ?_ | apply ErrA.next | (apply ErrB.left; assumption) | refine ErrB.exh (by assumption) ?_ | refine ErrB.exh0 (by assumption) ?_ | apply ErrB.next)); done)))); done))))); done)); (focus (simp only [go_sem]))))); clear hs; (try clear w); intro v w hq; (obtain ⟨rfl, hs⟩ := hq.pu); clear hq; (try simp only [star_assoc, star_emp, emp_star] at hs); (try simp only [Act.put, zg, zh, zi]))
        | ((with_reducible apply pl_store1 hs); (focus (simp only [Act.eval, za, zb, zc, zd, ze, zf]; (try with_reducible rfl); done)); (focus (simp only [Act.eval, za, zb, zc, zd, ze, zf]; (try with_reducible rfl); done)); (focus (simp only [go_sem])); (focus with_reducible (repeat (first | exact ent_here | apply ent_next | exact ent_last)); done); (focus (first | (simp [go_sem]; done) | (simp only [go_sem]; omega) | go_size)); (focus (first | (simp only [go_sem]; done) | (simp [go_sem]; done))); clear hs; (try clear w); intro w hs; (try simp only [zg, zh, zi, clk_set, opv_s0, opv_s1, opv_s2, opv_s3, actv_s0, actv_s1, actv_s2, actv_s3, actv_s4, rnd_s0, rnd_s17, lnk_s0, lnk_s1, lnk_s2, nov_s0, nov_s1, nov_s2, intv_set, bytv_set] at hs); simp only [Act.put, zg, zh, zi]))
  (go_ret; simp only [za, zb, zc, zd, ze, zf])
  exact ⟨_, rfl, hs.mono (ent_pu rfl (by ((repeat (first | (with_reducible (first | exact ent_refl | exact ent_emp)) | ((with_reducible apply ent_front); (focus with_reducible (repeat (first | exact ent_here | apply ent_next | exact ent_last)); done)) | (with_reducible (first | exact ent_keep | apply ent_trans ent_drop)))); done)))⟩
theorem code1F_s (c0 : World) (F : HP) (a : Nat → Addr) (p : Option Addr) (gc : Nat) (x : Int) : Spec Tryd.prog c0 78 #[.iface 116 (.pointer p), .pointer (some ⟨gc, 0, none⟩)] (pu (ErrA F a) (blk gc (.cells #[.int .i64 x] 3 (0, 0)) * F))
    (fun r => pu (r = .bool true) (blk gc (.cells #[.int .i64 x] 3 (0, 0)) * F)) := by
  intro w hq; obtain ⟨hE, hs⟩ := hq.pu; clear hq
  go_enter Tryd.func78, Tryd.ntmps78
  go_wp2_with (first
        | ((with_reducible apply pl_call hs (numberF_s _ _ a _)); (go_must (((focus (simp only [zj, zk, zl, List.append_toArray, List.nil_append, List.cons_append, Act.eval, za, zb, zc, zd, ze, zf]; (try with_reducible rfl); done)); (focus ((repeat (first | (with_reducible (first | exact ent_refl | apply ent_puR)) | ((with_reducible apply ent_front); (focus with_reducible (repeat (first | exact ent_here | apply ent_next | exact ent_last)); done)) | (with_reducible (first | exact ent_keep | apply ent_trans ent_drop)) | (focus (first | (focus (with_reducible (repeat (first | assumption | (apply ErrA.left; assumption) | refine ErrA.exh (by assumption) ?_ | refine ErrA.exh0 (by assumption) ?_ | apply ErrA.next | (apply ErrB.left; assumption) | refine ErrB.exh (by assumption) ?_ | refine ErrB.exh0 (by assumption) ?_ | apply ErrB.next)); done)))))); done)); (focus (simp only [go_sem]))))); clear hs; (try clear w); intro v w hq; (obtain ⟨rfl, hs⟩ := hq.pu); clear hq; (try simp only [star_assoc, star_emp, emp_star] at hs); (try simp only [Act.put, zg, zh, zi])))
  (go_ret; simp only [za, zb, zc, zd, ze, zf])
  exact ⟨_, rfl, hs.mono (ent_pu rfl (by ((repeat (first | (with_reducible (first | exact ent_refl | exact ent_emp)) | ((with_reducible apply ent_front); (focus with_reducible (repeat (first | exact ent_here | apply ent_next | exact ent_last)); done)) | (with_reducible (first | exact ent_keep | apply ent_trans ent_drop)))); done)))⟩
set_option maxRecDepth 20000 in
set_option maxHeartbeats 1000000 in
theorem thrC_s (a : Nat → Addr) (k gc : Nat) : ∀ (ls : List LinkD) (c0 : World) (F : HP) (v : Value) (x : Int), Spec Tryd.prog c0 77 #[v, .func (.func 78) #[] #[.pointer (some ⟨gc, 0, none⟩)]] (pu (ErrA F a ∧ 1 ≤ k ∧ k ≤ 13) (fch a ls k v * (blk gc (.cells #[.int .i64 x] 3 (0, 0)) * F)))
    (fun r => pu (r = .bool false) (fch a ls k v * (blk gc (.cells #[.int .i64 k] 3 (0, 0)) * F)))
  | [], c0, F, v, x => by
    intro w hq; obtain ⟨⟨hE, h1, h2⟩, hs⟩ := hq.pu; clear hq
    obtain ⟨hv, hs2⟩ := fch_nil hs
    clear hs
    subst hv
    have hs := hs2
    clear hs2
    go_enter Tryd.func77, Tryd.ntmps77
    go_wp2_with (first
        | ((with_reducible apply pl_callv hs (code1E_s _ _ a k gc _)); (focus (simp only [Act.eval, za, zb, zc, zd, ze, zf]; (try with_reducible rfl); done)); (go_must (((focus (simp only [zj, zk, zl, List.append_toArray, List.nil_append, List.cons_append, Act.eval, za, zb, zc, zd, ze, zf]; (try with_reducible rfl); done)); (focus ((repeat (first | (with_reducible (first | exact ent_refl | apply ent_puR)) | ((with_reducible apply ent_front); (focus with_reducible (repeat (first | exact ent_here | apply ent_next | exact ent_last)); done)) | (with_reducible (first | exact ent_keep | apply ent_trans ent_drop)) | (focus (first | ((repeat' (first | (with_reducible assumption) | (with_reducible apply And.intro))); done))))); done)); (focus (simp only [go_sem]))))); clear hs; (try clear w); intro v w hq; (obtain ⟨rfl, hs⟩ := hq.pu); clear hq; (try simp only [star_assoc, star_emp, emp_star] at hs); (try simp only [Act.put, zg, zh, zi])))
    (go_ret; simp only [za, zb, zc, zd, ze, zf])
    exact ⟨_, rfl, hs.mono (ent_pu rfl fch_one)⟩
  | l :: ls, c0, F, v, x => by
    intro w hq; obtain ⟨⟨hE, h1, h2⟩, hs⟩ := hq.pu; clear hq
    obtain ⟨g, t, p, hv, hs2⟩ := fch_cons hs
    clear hs
    subst hv
    have hs := hs2
    clear hs2
    have ih := thrC_s a k gc ls
    go_enter Tryd.func77, Tryd.ntmps77
    go_wp2_with (first
        | ((with_reducible apply pl_callv hs (code1F_s _ _ a _ gc _)); (focus (simp only [Act.eval, za, zb, zc, zd, ze, zf]; (try with_reducible rfl); done)); (go_must (((focus (simp only [zj, zk, zl, List.append_toArray, List.nil_append, List.cons_append, Act.eval, za, zb, zc, zd, ze, zf]; (try with_reducible rfl); done)); (focus ((repeat (first | (with_reducible (first | exact ent_refl | apply ent_puR)) | ((with_reducible apply ent_front); (focus with_reducible (repeat (first | exact ent_here | apply ent_next | exact ent_last)); done)) | (with_reducible (first | exact ent_keep | apply ent_trans ent_drop)) | (focus (first | (focus (with_reducible (repeat (first | assumption | (apply ErrA.left; assumption) | refine ErrA.exh (by assumption) ?_ | refine ErrA.exh0 (by assumption) ?_ | apply ErrA.next | (apply ErrB.left; assumption) | refine ErrB.exh (by assumption) ?_ | refine ErrB.exh0 (by assumption) ?_ | apply ErrB.next)); done)))))); done)); (focus (simp only [go_sem]))))); clear hs; (try clear w); intro v w hq; (obtain ⟨rfl, hs⟩ := hq.pu); clear hq; (try simp only [star_assoc, star_emp, emp_star] at hs); (try simp only [Act.put, zg, zh, zi]))
        | ((with_reducible apply pl_call hs (unwrap_s _ _ _ _ _ _ _ _)); (go_must (((focus (simp only [zj, zk, zl, List.append_toArray, List.nil_append, List.cons_append, Act.eval, za, zb, zc, zd, ze, zf]; (try with_reducible rfl); done)); (focus ((repeat (first | (with_reducible (first | exact ent_refl | apply ent_puR)) | ((with_reducible apply ent_front); (focus with_reducible (repeat (first | exact ent_here | apply ent_next | exact ent_last)); done)) | (with_reducible (first | exact ent_keep | apply ent_trans ent_drop)) | (fail))); done)); (focus (simp only [go_sem]))))); clear hs; (try clear w); intro v w hq; (obtain ⟨rfl, hs⟩ := hq.pu); clear hq; (try simp only [star_assoc, star_emp, emp_star] at hs); (try simp only [Act.put, zg, zh, zi]))
        | ((with_reducible apply pl_call hs (ih _ _ _ _)); (go_must (((focus (simp only [zj, zk, zl, List.append_toArray, List.nil_append, List.cons_append, Act.eval, za, zb, zc, zd, ze, zf]; (try with_reducible rfl); done)); (focus ((repeat (first | (with_reducible (first | exact ent_refl | apply ent_puR)) | ((with_reducible apply ent_front); (focus with_reducible (repeat (first | exact ent_here | apply ent_next | exact ent_last)); done)) | (with_reducible (first | exact ent_keep | apply ent_trans ent_drop)) | (focus (first | ((repeat' (first | (with_reducible assumption) | (with_reducible apply And.intro) | (focus (with_reducible (repeat (first | assumption | (apply ErrA.left; assumption) | refine ErrA.exh (by assumption) ?_ | refine ErrA.exh0 (by assumption) ?_ | apply ErrA.next | (apply ErrB.left; assumption) | refine ErrB.exh (by assumption) ?_ | refine ErrB.exh0 (by assumption) ?_ | apply ErrB.next)); done)))); done))))); done)); (focus (simp only [go_sem]))))); clear hs; (try clear w); intro v w hq; (obtain ⟨rfl, hs⟩ := hq.pu); clear hq; (try simp only [star_assoc, star_emp, emp_star] at hs); (try simp only [Act.put, zg, zh, zi])))
    (go_ret; simp only [za, zb, zc, zd, ze, zf])
    exact ⟨_, rfl, hs.mono (ent_pu rfl (ent_trans (by ((repeat (first | (with_reducible (first | exact ent_refl | exact ent_emp)) | ((with_reducible apply ent_front); (focus with_reducible (repeat (first | exact ent_here | apply ent_next | exact ent_last)); done)) | (with_reducible (first | exact ent_keep | apply ent_trans ent_drop)))); done)) fch_more))⟩
end Go.Proofs.YtegebjflhhbmiaaDoor

set_option linter.unusedSimpArgs false
set_option linter.unusedVariables false
namespace Go.Proofs.YtegebjflhhbmiaaDoor
open Go Go.RowKit

theorem same_lnk_s (c0 : World) (F : HP) (u v : Value) (l : List LinkD) : Spec Tryd.prog c0 56 #[u, v] (pu (SlR F 3 lnk u l ∧ SlR F 3 lnk v l) F) (fun r => pu (r = .bool true) F) := by
  intro w hq; obtain ⟨⟨hu, hv⟩, hs⟩ := hq.pu; clear hq
  obtain ⟨A, c, rfl⟩ := slr_form hu hs.own
  obtain ⟨A', c', rfl⟩ := slr_form hv hs.own
  obtain ⟨_, h2, h3, _⟩ := slr_len hu hs.own
  unfold maxLen at h3
  generalize hn : l.length = n at *
  replace hn := Lib.hid hn
  go_enter Tryd.func56, Tryd.ntmps56
  go_wp2_with (first
        | ((with_reducible apply wp_region_sl (G := emp) (id := 6) hs 1000); (focus (exact ent_emp_l)); (focus kernel_rfl); (focus decide +kernel); clear hs; (try clear w); intro hR w hRR hs; (try simp only [star_assoc] at hs))
        | ((with_reducible apply pl_loadN hs); (focus (simp only [Act.eval, za, zb, zc, zd, ze, zf]; (try with_reducible rfl); done)); (with_reducible (first | exact agg_133)); (focus ((repeat (first | (with_reducible (first | assumption | exact hel _ | exact hel2 _ | exact hel3 _)) | ((with_reducible apply reads_whole); (focus (first | (with_reducible rfl) | (simp only [go_sem]; done) | (simp; done)))) | ((with_reducible apply reads_part); (focus (first | (simp [go_sem]; done) | (simp only [go_sem]; omega) | go_size)); (focus (first | (simp only [Nat.reduceAdd, Nat.zero_add, go_sem]; (try with_reducible rfl); done) | (simp [go_sem]; (try with_reducible rfl); done)))) | (with_reducible (first | (apply reads_left; assumption) | refine reads_exh (by assumption) ?_ | refine reads_exh0 (by assumption) ?_ | apply reads_next)))); done)); (focus rfl); simp only [Act.put, zg, zh, zi])
        | ((with_reducible apply mix_end hRR hs); (focus with_reducible (repeat (first | exact ent_here | apply ent_next | exact ent_last)); done); clear hs; (try clear w); intro w hs; (try simp only [star_assoc, star_emp, emp_star] at hs); clear hRR hR)
        | ((with_reducible apply mix_thaw hRR hs); (focus with_reducible (repeat (first | exact ent_here | apply ent_next | exact ent_last)); done); clear hs; (try clear w); intro w hs; (try simp only [star_assoc, star_emp, emp_star] at hs); clear hRR hR)
        | ((with_reducible apply mx_loadN hRR); (focus (simp only [Act.eval, za, zb, zc, zd, ze, zf]; (try with_reducible rfl); done)); (with_reducible (first | exact agg_133)); (focus ((repeat (first | (with_reducible (first | assumption | exact hel _ | exact hel2 _ | exact hel3 _)) | ((with_reducible apply reads_whole); (focus (first | (with_reducible rfl) | (simp only [go_sem]; done) | (simp; done)))) | ((with_reducible apply reads_part); (focus (first | (simp [go_sem]; done) | (simp only [go_sem]; omega) | go_size)); (focus (first | (simp only [Nat.reduceAdd, Nat.zero_add, go_sem]; (try with_reducible rfl); done) | (simp [go_sem]; (try with_reducible rfl); done)))) | (with_reducible (first | (apply reads_left; assumption) | refine reads_exh (by assumption) ?_ | refine reads_exh0 (by assumption) ?_ | apply reads_next)))); done)); simp only [Act.put, zg, zh, zi])
        | ((with_reducible refine mix_float ?_ ?_ ?_ (fun h hk => ?_) ?_); rotate_left 1; (focus rfl); (focus rfl); (focus (go_simp; (try (rw [if_pos (by omega)]; (try go_simp))); (try simp (disch := omega) only [IntWalk.i64_in, IntWalk.i32_in]); (try with_reducible rfl); done)); simp only [Act.put, zg, zh, zi])
        | ((with_reducible refine mix_float_skip ?_ ?_ (fun h hk => ?_) ?_); (focus rfl); (focus rfl); (focus (go_simp; done)); simp only [Act.put, zg, zh, zi]))
  go_loopw [5] (fun i wr => ∃ k : Nat, k ≤ n ∧ i = .int .i64 k ∧ Sat c0 F wr) (fun i _ => n - (intOf i).toNat)
  case atStart => exact ⟨0, by omega, rfl, hs⟩
  case round =>
    obtain ⟨k, hk, rfl, hs⟩ := hrel
    by_cases hlt : k < n
    · obtain ⟨b, o, a, rfl, hla, hwa⟩ := slr_get hu hs.own hlt
      obtain ⟨b', o', a', rfl, hla', hwa'⟩ := slr_get hv hs.own hlt
      have : a = a' := by rw [hla] at hla'; exact Option.some.inj hla'
      subst this
      have hee := lnkEq_refl a
      clear hla hla' hu hv
      go_wp2_with (first
        | ((with_reducible apply wp_region_sl (G := emp) (id := 6) hs 1000); (focus (exact ent_emp_l)); (focus kernel_rfl); (focus decide +kernel); clear hs; (try clear w); intro hR w hRR hs; (try simp only [star_assoc] at hs))
        | ((with_reducible apply pl_loadN hs); (focus (simp only [Act.eval, za, zb, zc, zd, ze, zf]; (try with_reducible rfl); done)); (with_reducible (first | exact agg_133)); (focus ((repeat (first | (with_reducible (first | assumption | exact hel _ | exact hel2 _ | exact hel3 _)) | ((with_reducible apply reads_whole); (focus (first | (with_reducible rfl) | (simp only [go_sem]; done) | (simp; done)))) | ((with_reducible apply reads_part); (focus (first | (simp [go_sem]; done) | (simp only [go_sem]; omega) | go_size)); (focus (first | (simp only [Nat.reduceAdd, Nat.zero_add, go_sem]; (try with_reducible rfl); done) | (simp [go_sem]; (try with_reducible rfl); done)))) | (with_reducible (first | (apply reads_left; assumption) | refine reads_exh (by assumption) ?_ | refine reads_exh0 (by assumption) ?_ | apply reads_next)))); done)); (focus rfl); simp only [Act.put, zg, zh, zi])
        | ((with_reducible apply mix_end hRR hs); (focus with_reducible (repeat (first | exact ent_here | apply ent_next | exact ent_last)); done); clear hs; (try clear w); intro w hs; (try simp only [star_assoc, star_emp, emp_star] at hs); clear hRR hR)
        | ((with_reducible apply mix_thaw hRR hs); (focus with_reducible (repeat (first | exact ent_here | apply ent_next | exact ent_last)); done); clear hs; (try clear w); intro w hs; (try simp only [star_assoc, star_emp, emp_star] at hs); clear hRR hR)
        | ((with_reducible apply mx_loadN hRR); (focus (simp only [Act.eval, za, zb, zc, zd, ze, zf]; (try with_reducible rfl); done)); (with_reducible (first | exact agg_133)); (focus ((repeat (first | (with_reducible (first | assumption | exact hel _ | exact hel2 _ | exact hel3 _)) | ((with_reducible apply reads_whole); (focus (first | (with_reducible rfl) | (simp only [go_sem]; done) | (simp; done)))) | ((with_reducible apply reads_part); (focus (first | (simp [go_sem]; done) | (simp only [go_sem]; omega) | go_size)); (focus (first | (simp only [Nat.reduceAdd, Nat.zero_add, go_sem]; (try with_reducible rfl); done) | (simp [go_sem]; (try with_reducible rfl); done)))) | (with_reducible (first | (apply reads_left; assumption) | refine reads_exh (by assumption) ?_ | refine reads_exh0 (by assumption) ?_ | apply reads_next)))); done)); simp only [Act.put, zg, zh, zi])
        | ((with_reducible refine mix_float ?_ ?_ ?_ (fun h hk => ?_) ?_); rotate_left 1; (focus rfl); (focus rfl); (focus (go_simp; (try (rw [if_pos (by omega)]; (try go_simp))); (try simp (disch := omega) only [IntWalk.i64_in, IntWalk.i32_in]); (try with_reducible rfl); done)); simp only [Act.put, zg, zh, zi])
        | ((with_reducible refine mix_float_skip ?_ ?_ (fun h hk => ?_) ?_); (focus rfl); (focus rfl); (focus (go_simp; done)); simp only [Act.put, zg, zh, zi]))
      go_roundw
      case rel => exact ⟨k + 1, by omega, by go_num, hs⟩
      case measure => simp [intOf]; omega
    · go_wp2_with (first
        | ((with_reducible apply wp_region_sl (G := emp) (id := 6) hs 1000); (focus (exact ent_emp_l)); (focus kernel_rfl); (focus decide +kernel); clear hs; (try clear w); intro hR w hRR hs; (try simp only [star_assoc] at hs))
        | ((with_reducible apply pl_loadN hs); (focus (simp only [Act.eval, za, zb, zc, zd, ze, zf]; (try with_reducible rfl); done)); (with_reducible (first | exact agg_133)); (focus ((repeat (first | (with_reducible (first | assumption | exact hel _ | exact hel2 _ | exact hel3 _)) | ((with_reducible apply reads_whole); (focus (first | (with_reducible rfl) | (simp only [go_sem]; done) | (simp; done)))) | ((with_reducible apply reads_part); (focus (first | (simp [go_sem]; done) | (simp only [go_sem]; omega) | go_size)); (focus (first | (simp only [Nat.reduceAdd, Nat.zero_add, go_sem]; (try with_reducible rfl); done) | (simp [go_sem]; (try with_reducible rfl); done)))) | (with_reducible (first | (apply reads_left; assumption) | refine reads_exh (by assumption) ?_ | refine reads_exh0 (by assumption) ?_ | apply reads_next)))); done)); (focus rfl); simp only [Act.put, zg, zh, zi])
        | ((with_reducible apply mix_end hRR hs); (focus with_reducible (repeat (first | exact ent_here | apply ent_next | exact ent_last)); done); clear hs; (try clear w); intro w hs; (try simp only [star_assoc, star_emp, emp_star] at hs); clear hRR hR)
        | ((with_reducible apply mix_thaw hRR hs); (focus with_reducible (repeat (first | exact ent_here | apply ent_next | exact ent_last)); done); clear hs; (try clear w); intro w hs; (try simp only [star_assoc, star_emp, emp_star] at hs); clear hRR hR)
        | ((with_reducible apply mx_loadN hRR); (focus (simp only [Act.eval, za, zb, zc, zd, ze, zf]; (try with_reducible rfl); done)); (with_reducible (first | exact agg_133)); (focus ((repeat (first | (with_reducible (first | assumption | exact hel _ | exact hel2 _ | exact hel3 _)) | ((with_reducible apply reads_whole); (focus (first | (with_reducible rfl) | (simp only [go_sem]; done) | (simp; done)))) | ((with_reducible apply reads_part); (focus (first | (simp [go_sem]; done) | (simp only [go_sem]; omega) | go_size)); (focus (first | (simp only [Nat.reduceAdd, Nat.zero_add, go_sem]; (try with_reducible rfl); done) | (simp [go_sem]; (try with_reducible rfl); done)))) | (with_reducible (first | (apply reads_left; assumption) | refine reads_exh (by assumption) ?_ | refine reads_exh0 (by assumption) ?_ | apply reads_next)))); done)); simp only [Act.put, zg, zh, zi])
        | ((with_reducible refine mix_float ?_ ?_ ?_ (fun h hk => ?_) ?_); rotate_left 1; (focus rfl); (focus rfl); (focus (go_simp; (try (rw [if_pos (by omega)]; (try go_simp))); (try simp (disch := omega) only [IntWalk.i64_in, IntWalk.i32_in]); (try with_reducible rfl); done)); simp only [Act.put, zg, zh, zi])
        | ((with_reducible refine mix_float_skip ?_ ?_ (fun h hk => ?_) ?_); (focus rfl); (focus rfl); (focus (go_simp; done)); simp only [Act.put, zg, zh, zi]))
      go_ret
      exact ⟨_, rfl, hs.mono (ent_pu rfl (by ((repeat (first | (with_reducible (first | exact ent_refl | exact ent_emp)) | ((with_reducible apply ent_front); (focus with_reducible (repeat (first | exact ent_here | apply ent_next | exact ent_last)); done)) | (with_reducible (first | exact ent_keep | apply ent_trans ent_drop)))); done)))⟩
end Go.Proofs.YtegebjflhhbmiaaDoor

set_option linter.unusedSimpArgs false
set_option linter.unusedVariables false
namespace Go.Proofs.YtegebjflhhbmiaaDoor
open Go Go.RowKit

theorem same_intv_s (c0 : World) (F : HP) (u v : Value) (l : List Int) : Spec Tryd.prog c0 58 #[u, v] (pu (SlR F 1 intv u l ∧ SlR F 1 intv v l) F) (fun r => pu (r = .bool true) F) := by
  intro w hq; obtain ⟨⟨hu, hv⟩, hs⟩ := hq.pu; clear hq
  obtain ⟨A, c, rfl⟩ := slr_form hu hs.own
  obtain ⟨A', c', rfl⟩ := slr_form hv hs.own
  obtain ⟨_, h2, h3, _⟩ := slr_len hu hs.own
  unfold maxLen at h3
  generalize hn : l.length = n at *
  replace hn := Lib.hid hn
  go_enter Tryd.func58, Tryd.ntmps58
  go_wp2_with (first
        | ((with_reducible apply wp_region_sl (G := emp) (id := 6) hs 1000); (focus (exact ent_emp_l)); (focus kernel_rfl); (focus decide +kernel); clear hs; (try clear w); intro hR w hRR hs; (try simp only [star_assoc] at hs))
        | ((with_reducible apply pl_load1 hs); (focus (simp only [Act.eval, za, zb, zc, zd, ze, zf]; (try with_reducible rfl); done)); (focus (simp only [go_sem])); (focus ((repeat (first | (with_reducible (first | assumption | exact hec _ | exact hec2 _ | exact hec3 _ | exact hec4 _ _)) | ((with_reducible apply readc_here); (focus (first | (simp only [zc, zd, ze, go_sem]; (try with_reducible rfl); done) | (go_simp; (try with_reducible rfl); done)))) | (with_reducible (first | (apply readc_left; assumption) | refine readc_exh (by assumption) ?_ | refine readc_exh0 (by assumption) ?_ | apply readc_next)))); done)); (focus rfl); simp only [Act.put, zg, zh, zi])
        | ((with_reducible apply mix_end hRR hs); (focus with_reducible (repeat (first | exact ent_here | apply ent_next | exact ent_last)); done); clear hs; (try clear w); intro w hs; (try simp only [star_assoc, star_emp, emp_star] at hs); clear hRR hR)
        | ((with_reducible apply mix_thaw hRR hs); (focus with_reducible (repeat (first | exact ent_here | apply ent_next | exact ent_last)); done); clear hs; (try clear w); intro w hs; (try simp only [star_assoc, star_emp, emp_star] at hs); clear hRR hR)
        | ((with_reducible apply mx_load1 hRR); (focus (simp only [Act.eval, za, zb, zc, zd, ze, zf]; (try with_reducible rfl); done)); (focus (simp only [go_sem])); (focus ((repeat (first | (with_reducible (first | assumption | exact hec _ | exact hec2 _ | exact hec3 _ | exact hec4 _ _)) | ((with_reducible apply readc_here); (focus (first | (simp only [zc, zd, ze, go_sem]; (try with_reducible rfl); done) | (go_simp; (try with_reducible rfl); done)))) | (with_reducible (first | (apply readc_left; assumption) | refine readc_exh (by assumption) ?_ | refine readc_exh0 (by assumption) ?_ | apply readc_next)))); done)); simp only [Act.put, zg, zh, zi])
        | ((with_reducible refine mix_float ?_ ?_ ?_ (fun h hk => ?_) ?_); rotate_left 1; (focus rfl); (focus rfl); (focus (go_simp; (try (rw [if_pos (by omega)]; (try go_simp))); (try simp (disch := omega) only [IntWalk.i64_in, IntWalk.i32_in]); (try with_reducible rfl); done)); simp only [Act.put, zg, zh, zi])
        | ((with_reducible refine mix_float_skip ?_ ?_ (fun h hk => ?_) ?_); (focus rfl); (focus rfl); (focus (go_simp; done)); simp only [Act.put, zg, zh, zi]))
  go_loopw [5] (fun i wr => ∃ k : Nat, k ≤ n ∧ i = .int .i64 k ∧ Sat c0 F wr) (fun i _ => n - (intOf i).toNat)
  case atStart => exact ⟨0, by omega, rfl, hs⟩
  case round =>
    obtain ⟨k, hk, rfl, hs⟩ := hrel
    by_cases hlt : k < n
    · obtain ⟨b, o, a, rfl, hla, hwa⟩ := slr_get hu hs.own hlt
      obtain ⟨b', o', a', rfl, hla', hwa'⟩ := slr_get hv hs.own hlt
      have : a = a' := by rw [hla] at hla'; exact Option.some.inj hla'
      subst this
      have hwc : ReadC F b (o + k) (.int .i64 a) := by have := hwa.cell (i := 0) (by omega) (intv_0 a); rwa [Nat.mul_one] at this
      have hwc2 : ReadC F b' (o' + k) (.int .i64 a) := by have := hwa'.cell (i := 0) (by omega) (intv_0 a); rwa [Nat.mul_one] at this
      clear hla hla' hu hv
      go_wp2_with (first
        | ((with_reducible apply wp_region_sl (G := emp) (id := 6) hs 1000); (focus (exact ent_emp_l)); (focus kernel_rfl); (focus decide +kernel); clear hs; (try clear w); intro hR w hRR hs; (try simp only [star_assoc] at hs))
        | ((with_reducible apply pl_load1 hs); (focus (simp only [Act.eval, za, zb, zc, zd, ze, zf]; (try with_reducible rfl); done)); (focus (simp only [go_sem])); (focus ((repeat (first | (with_reducible (first | assumption | exact hec _ | exact hec2 _ | exact hec3 _ | exact hec4 _ _)) | ((with_reducible apply readc_here); (focus (first | (simp only [zc, zd, ze, go_sem]; (try with_reducible rfl); done) | (go_simp; (try with_reducible rfl); done)))) | (with_reducible (first | (apply readc_left; assumption) | refine readc_exh (by assumption) ?_ | refine readc_exh0 (by assumption) ?_ | apply readc_next)))); done)); (focus rfl); simp only [Act.put, zg, zh, zi])
        | ((with_reducible apply mix_end hRR hs); (focus with_reducible (repeat (first | exact ent_here | apply ent_next | exact ent_last)); done); clear hs; (try clear w); intro w hs; (try simp only [star_assoc, star_emp, emp_star] at hs); clear hRR hR)
        | ((with_reducible apply mix_thaw hRR hs); (focus with_reducible (repeat (first | exact ent_here | apply ent_next | exact ent_last)); done); clear hs; (try clear w); intro w hs; (try simp only [star_assoc, star_emp, emp_star] at hs); clear hRR hR)
        | ((with_reducible apply mx_load1 hRR); (focus (simp only [Act.eval, za, zb, zc, zd, ze, zf]; (try with_reducible rfl); done)); (focus (simp only [go_sem])); (focus ((repeat (first | (with_reducible (first | assumption | exact hec _ | exact hec2 _ | exact hec3 _ | exact hec4 _ _)) | ((with_reducible apply readc_here); (focus (first | (simp only [zc, zd, ze, go_sem]; (try with_reducible rfl); done) | (go_simp; (try with_reducible rfl); done)))) | (with_reducible (first | (apply readc_left; assumption) | refine readc_exh (by assumption) ?_ | refine readc_exh0 (by assumption) ?_ | apply readc_next)))); done)); simp only [Act.put, zg, zh, zi])
        | ((with_reducible refine mix_float ?_ ?_ ?_ (fun h hk => ?_) ?_); rotate_left 1; (focus rfl); (focus rfl); (focus (go_simp; (try (rw [if_pos (by omega)]; (try go_simp))); (try simp (disch := omega) only [IntWalk.i64_in, IntWalk.i32_in]); (try with_reducible rfl); done)); simp only [Act.put, zg, zh, zi])
        | ((with_reducible refine mix_float_skip ?_ ?_ (fun h hk => ?_) ?_); (focus rfl); (focus rfl); (focus (go_simp; done)); simp only [Act.put, zg, zh, zi]))
      go_roundw
      case rel => exact ⟨k + 1, by omega, by go_num, hs⟩
      case measure => simp [intOf]; omega
    · go_wp2_with (first
        | ((with_reducible apply wp_region_sl (G := emp) (id := 6) hs 1000); (focus (exact ent_emp_l)); (focus kernel_rfl); (focus decide +kernel); clear hs; (try clear w); intro hR w hRR hs; (try simp only [star_assoc] at hs))
        | ((with_reducible apply pl_load1 hs); (focus (simp only [Act.eval, za, zb, zc, zd, ze, zf]; (try with_reducible rfl); done)); (focus (simp only [go_sem])); (focus ((repeat (first | (with_reducible (first | assumption | exact hec _ | exact hec2 _ | exact hec3 _ | exact hec4 _ _)) | ((with_reducible apply readc_here); (focus (first | (simp only [zc, zd, ze, go_sem]; (try with_reducible rfl); done) | (go_simp; (try with_reducible rfl); done)))) | (with_reducible (first | (apply readc_left; assumption) | refine readc_exh (by assumption) ?_ | refine readc_exh0 (by assumption) ?_ | apply readc_next)))); done)); (focus rfl); simp only [Act.put, zg, zh, zi])
        | ((with_reducible apply mix_end hRR hs); (focus with_reducible (repeat (first | exact ent_here | apply ent_next | exact ent_last)); done); clear hs; (try clear w); intro w hs; (try simp only [star_assoc, star_emp, emp_star] at hs); clear hRR hR)
        | ((with_reducible apply mix_thaw hRR hs); (focus with_reducible (repeat (first | exact ent_here | apply ent_next | exact ent_last)); done); clear hs; (try clear w); intro w hs; (try simp only [star_assoc, star_emp, emp_star] at hs); clear hRR hR)
        | ((with_reducible apply mx_load1 hRR); (focus (simp only [Act.eval, za, zb, zc, zd, ze, zf]; (try with_reducible rfl); done)); (focus (simp only [go_sem])); (focus ((repeat (first | (with_reducible (first | assumption | exact hec _ | exact hec2 _ | exact hec3 _ | exact hec4 _ _)) | ((with_reducible apply readc_here); (focus (first | (simp only [zc, zd, ze, go_sem]; (try with_reducible rfl); done) | (go_simp; (try with_reducible rfl); done)))) | (with_reducible (first | (apply readc_left; assumption) | refine readc_exh (by assumption) ?_ | refine readc_exh0 (by assumption) ?_ | apply readc_next)))); done)); simp only [Act.put, zg, zh, zi])
        | ((with_reducible refine mix_float ?_ ?_ ?_ (fun h hk => ?_) ?_); rotate_left 1; (focus rfl); (focus rfl); (focus (go_simp; (try (rw [if_pos (by omega)]; (try go_simp))); (try simp (disch := omega) only [IntWalk.i64_in, IntWalk.i32_in]); (try with_reducible rfl); done)); simp only [Act.put, zg, zh, zi])
        | ((with_reducible refine mix_float_skip ?_ ?_ (fun h hk => ?_) ?_); (focus rfl); (focus rfl); (focus (go_simp; done)); simp only [Act.put, zg, zh, zi]))
      go_ret
      exact ⟨_, rfl, hs.mono (ent_pu rfl (by ((repeat (first | (with_reducible (first | exact ent_refl | exact ent_emp)) | ((with_reducible apply ent_front); (focus with_reducible (repeat (first | exact ent_here | apply ent_next | exact ent_last)); done)) | (with_reducible (first | exact ent_keep | apply ent_trans ent_drop)))); done)))⟩
end Go.Proofs.YtegebjflhhbmiaaDoor
