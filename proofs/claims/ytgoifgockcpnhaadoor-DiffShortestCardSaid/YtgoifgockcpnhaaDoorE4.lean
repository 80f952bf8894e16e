/- Refusals: the way through an error; its number, its numbers, its chain. -/
import Derived.Test.YtgoifgockcpnhaaDoorE3
set_option linter.unusedSimpArgs false
set_option linter.unusedVariables false
namespace Go.Proofs.YtgoifgockcpnhaaDoor
open Go Go.RowKit

@[go_sem] theorem ta_FF (v : Value) (w : World) : (Instr.typeAssert (.iface 112 v) 29 112 true).run Tryd.prog w = .ok (.tuple #[v, .bool true]) w := by kernel_rfl
@[go_sem] theorem ta_FM (v : Value) (w : World) : (Instr.typeAssert (.iface 112 v) 29 117 true).run Tryd.prog w = .ok (.tuple #[.pointer none, .bool false]) w := by kernel_rfl
@[go_sem] theorem ta_EF (v : Value) (w : World) : (Instr.typeAssert (.iface 125 v) 29 112 true).run Tryd.prog w = .ok (.tuple #[.pointer none, .bool false]) w := by kernel_rfl
@[go_sem] theorem ta_EM (v : Value) (w : World) : (Instr.typeAssert (.iface 125 v) 29 117 true).run Tryd.prog w = .ok (.tuple #[.pointer none, .bool false]) w := by kernel_rfl
/-- An error as the program has it: a chain of refusals, and a reason behind them. -/
def fch (a : Nat → Addr) : List LinkD → Nat → Value → HP
  | [], k, v => pu (v = .iface 125 (.pointer (some (a k)))) emp
  | l :: ls, k, v => ex fun g : Nat => ex fun t : TypeId => ex fun p : Option Addr => pu (v = .iface 112 (.pointer (some ⟨g, 0, none⟩))) (blk g (.cells (fltv l.layer l.call l.pos t p) 114 (0, 0)) * fch a ls k (.iface t (.pointer p)))
theorem fch_nil {a : Nat → Addr} {k : Nat} {v : Value} {F : HP} {c w : World} (hs : Sat c (fch a [] k v * F) w) : v = .iface 125 (.pointer (some (a k))) ∧ Sat c F w := by
  unfold fch at hs
  rw [pu_star, emp_star] at hs
  exact hs.pu
theorem fch_cons {a : Nat → Addr} {l : LinkD} {ls : List LinkD} {k : Nat} {v : Value} {F : HP} {c w : World} (hs : Sat c (fch a (l :: ls) k v * F) w) :
    ∃ g t p, v = .iface 112 (.pointer (some ⟨g, 0, none⟩)) ∧ Sat c (blk g (.cells (fltv l.layer l.call l.pos t p) 114 (0, 0)) * (fch a ls k (.iface t (.pointer p)) * F)) w := by
  rw [fch] at hs
  rw [ex_star] at hs
  obtain ⟨g, hs⟩ := hs.ex
  rw [ex_star] at hs
  obtain ⟨t, hs⟩ := hs.ex
  rw [ex_star] at hs
  obtain ⟨p, hs⟩ := hs.ex
  rw [pu_star, star_assoc] at hs
  obtain ⟨h, hs⟩ := hs.pu
  exact ⟨g, t, p, h, hs⟩
theorem fch_one {a : Nat → Addr} {k : Nat} {F : HP} : Ent F (fch a [] k (.iface 125 (.pointer (some (a k)))) * F) := by
  unfold fch
  rw [pu_star, emp_star]
  exact ent_pu rfl ent_refl
theorem fch_more {a : Nat → Addr} {l : LinkD} {ls : List LinkD} {k g : Nat} {t : TypeId} {p : Option Addr} {F : HP} : Ent (blk g (.cells (fltv l.layer l.call l.pos t p) 114 (0, 0)) * (fch a ls k (.iface t (.pointer p)) * F)) (fch a (l :: ls) k (.iface 112 (.pointer (some ⟨g, 0, none⟩))) * F) := by
  rw [fch]
  rw [ex_star]
  refine ent_ex g ?_
  rw [ex_star]
  refine ent_ex t ?_
  rw [ex_star]
  refine ent_ex p ?_
  rw [pu_star, star_assoc]
  exact ent_pu rfl ent_refl
@[go_sem] theorem fltv_size (a b : ByteArray) (n : Int) (t : TypeId) (p : Option Addr) : (fltv a b n t p).size = 4 := rfl
@[go_sem] theorem fltv_0 (a b : ByteArray) (n : Int) (t : TypeId) (p : Option Addr) : (fltv a b n t p)[0]? = some (.string a) := rfl
@[go_sem] theorem fltv_1 (a b : ByteArray) (n : Int) (t : TypeId) (p : Option Addr) : (fltv a b n t p)[1]? = some (.string b) := rfl
@[go_sem] theorem fltv_2 (a b : ByteArray) (n : Int) (t : TypeId) (p : Option Addr) : (fltv a b n t p)[2]? = some (.int .i64 n) := rfl
@[go_sem] theorem fltv_3 (a b : ByteArray) (n : Int) (t : TypeId) (p : Option Addr) : (fltv a b n t p)[3]? = some (.iface t (.pointer p)) := rfl
theorem unwrap_s (c0 : World) (F : HP) (g : Nat) (x y : ByteArray) (n : Int) (t : TypeId) (p : Option Addr) : Spec Tryd.prog c0 67 #[.pointer (some ⟨g, 0, none⟩)] (blk g (.cells (fltv x y n t p) 114 (0, 0)) * F)
    (fun r => pu (r = .iface t (.pointer p)) (blk g (.cells (fltv x y n t p) 114 (0, 0)) * F)) := by
  intro w hs
  go_enter Tryd.func67, Tryd.ntmps67
  go_wp2_with (first
        | ((with_reducible apply pl_load1 hs); (focus (simp only [Act.eval, za, zb, zc, zd, ze, zf]; (try with_reducible rfl); done)); (focus (simp only [go_sem])); (focus ((repeat (first | (with_reducible (first | assumption | exact hec _ | exact hec2 _ | exact hec3 _ | exact hec4 _ _)) | ((with_reducible apply readc_here); (focus (first | (simp only [zc, zd, ze, go_sem]; (try with_reducible rfl); done) | (go_simp; (try with_reducible rfl); done)))) | (with_reducible (first | (apply readc_left; assumption) | refine readc_exh (by assumption) ?_ | refine readc_exh0 (by assumption) ?_ | apply readc_next)))); done)); (focus rfl); simp only [Act.put, zg, zh, zi]))
  (go_ret; simp only [za, zb, zc, zd, ze, zf])
  exact ⟨_, rfl, hs.mono (ent_pu rfl (by ((repeat (first | (with_reducible (first | exact ent_refl | exact ent_emp)) | ((with_reducible apply ent_front); (focus with_reducible (repeat (first | exact ent_here | apply ent_next | exact ent_last)); done)) | (with_reducible (first | exact ent_keep | apply ent_trans ent_drop)))); done)))⟩
theorem code1E_s (c0 : World) (F : HP) (a : Nat → Addr) (k : Nat) (gc : Nat) (x : Int) : Spec Tryd.prog c0 61 #[.iface 125 (.pointer (some (a k))), .pointer (some ⟨gc, 0, none⟩)] (pu (ErrA F a ∧ 1 ≤ k ∧ k ≤ 13) (blk gc (.cells #[.int .i64 x] 3 (0, 0)) * F))
    (fun r => pu (r = .bool false) (blk gc (.cells #[.int .i64 k] 3 (0, 0)) * F)) := by
  intro w hq; obtain ⟨⟨hE, h1, h2⟩, hs⟩ := hq.pu; clear hq
  have hz : ((k : Int) == 0) = false := by simp only [beq_eq_false_iff_ne]; omega
  have hz2 : ((k : Int) != 0) = true := by simp only [bne_iff_ne]; omega
  go_enter Tryd.func61, Tryd.ntmps61
  go_wp2_with (first
        | ((with_reducible apply pl_call hs (numberE_s _ _ a k)); (go_must (((focus (simp only [zj, zk, zl, List.append_toArray, List.nil_append, List.cons_append, Act.eval, za, zb, zc, zd, ze, zf]; (try with_reducible rfl); done)); (focus ((repeat (first | (with_reducible (first | exact ent_refl | apply ent_puR)) | ((with_reducible apply ent_front); (focus with_reducible (repeat (first | exact ent_here | apply ent_next | exact ent_last)); done)) | (with_reducible (first | exact ent_keep | apply ent_trans ent_drop)) | (focus (first | ((repeat' (first | (with_reducible assumption) | (with_reducible apply And.intro) | (focus (with_reducible (repeat (first | assumption | (apply ErrA.left; assumption) | refine ErrA.exh (by assumption) ?_ | refine ErrA.exh0 (by assumption) ?_ | apply ErrA.next | (apply ErrB.left; assumption) | refine ErrB.exh (by assumption) ?_ | refine ErrB.exh0 (by assumption) ?_ | apply ErrB.next)); done)))); done))))); done)); (focus (simp only [go_sem]))))); clear hs; (try clear w); intro v w hq; (obtain ⟨rfl, hs⟩ := hq.pu); clear hq; (try simp only [star_assoc, star_emp, emp_star] at hs); (try simp only [Act.put, zg, zh, zi]))
        | ((with_reducible apply pl_store1 hs); (focus (simp only [Act.eval, za, zb, zc, zd, ze, zf]; (try with_reducible rfl); done)); (focus (simp only [Act.eval, za, zb, zc, zd, ze, zf]; (try with_reducible rfl); done)); (focus (simp only [go_sem])); (focus with_reducible (repeat (first | exact ent_here | apply ent_next | exact ent_last)); done); (focus (first | (simp [go_sem]; done) | (simp only [go_sem]; omega) | go_size)); (focus (first | (simp only [go_sem]; done) | (simp [go_sem]; done))); clear hs; (try clear w); intro w hs; (try simp only [zg, zh, zi, edt_s0, edt_s1, edt_s2, txt_s0, txt_s1, txt_s2, txt_s3, lnk_s0, lnk_s1, lnk_s2, nov_s0, nov_s1, nov_s2, intv_set, bytv_set, runv_set, slv_set] at hs); simp only [Act.put, zg, zh, zi]))
  (go_ret; simp only [za, zb, zc, zd, ze, zf])
  exact ⟨_, rfl, hs.mono (ent_pu rfl (by ((repeat (first | (with_reducible (first | exact ent_refl | exact ent_emp)) | ((with_reducible apply ent_front); (focus with_reducible (repeat (first | exact ent_here | apply ent_next | exact ent_last)); done)) | (with_reducible (first | exact ent_keep | apply ent_trans ent_drop)))); done)))⟩
theorem code1F_s (c0 : World) (F : HP) (a : Nat → Addr) (p : Option Addr) (gc : Nat) (x : Int) : Spec Tryd.prog c0 61 #[.iface 112 (.pointer p), .pointer (some ⟨gc, 0, none⟩)] (pu (ErrA F a) (blk gc (.cells #[.int .i64 x] 3 (0, 0)) * F))
    (fun r => pu (r = .bool true) (blk gc (.cells #[.int .i64 x] 3 (0, 0)) * F)) := by
  intro w hq; obtain ⟨hE, hs⟩ := hq.pu; clear hq
  go_enter Tryd.func61, Tryd.ntmps61
  go_wp2_with (first
        | ((with_reducible apply pl_call hs (numberF_s _ _ a _)); (go_must (((focus (simp only [zj, zk, zl, List.append_toArray, List.nil_append, List.cons_append, Act.eval, za, zb, zc, zd, ze, zf]; (try with_reducible rfl); done)); (focus ((repeat (first | (with_reducible (first | exact ent_refl | apply ent_puR)) | ((with_reducible apply ent_front); (focus with_reducible (repeat (first | exact ent_here | apply ent_next | exact ent_last)); done)) | (with_reducible (first | exact ent_keep | apply ent_trans ent_drop)) | (focus (first | (focus (with_reducible (repeat (first | assumption | (apply ErrA.left; assumption) | refine ErrA.exh (by assumption) ?_ | refine ErrA.exh0 (by assumption) ?_ | apply ErrA.next | (apply ErrB.left; assumption) | refine ErrB.exh (by assumption) ?_ | refine ErrB.exh0 (by assumption) ?_ | apply ErrB.next)); done)))))); done)); (focus (simp only [go_sem]))))); clear hs; (try clear w); intro v w hq; (obtain ⟨rfl, hs⟩ := hq.pu); clear hq; (try simp only [star_assoc, star_emp, emp_star] at hs); (try simp only [Act.put, zg, zh, zi])))
  (go_ret; simp only [za, zb, zc, zd, ze, zf])
  exact ⟨_, rfl, hs.mono (ent_pu rfl (by ((repeat (first | (with_reducible (first | exact ent_refl | exact ent_emp)) | ((with_reducible apply ent_front); (focus with_reducible (repeat (first | exact ent_here | apply ent_next | exact ent_last)); done)) | (with_reducible (first | exact ent_keep | apply ent_trans ent_drop)))); done)))⟩
/-- The function values that go through an error. -/
def fcode (gc : Nat) : Value := .func (.func 61) #[] #[.pointer (some ⟨gc, 0, none⟩)]
set_option maxRecDepth 20000 in
set_option maxHeartbeats 1000000 in
theorem thrC_s (a : Nat → Addr) (k gc : Nat) : ∀ (ls : List LinkD) (c0 : World) (F : HP) (v : Value) (x : Int), Spec Tryd.prog c0 60 #[v, .func (.func 61) #[] #[.pointer (some ⟨gc, 0, none⟩)]] (pu (ErrA F a ∧ 1 ≤ k ∧ k ≤ 13) (fch a ls k v * (blk gc (.cells #[.int .i64 x] 3 (0, 0)) * F)))
    (fun r => pu (r = .bool false) (fch a ls k v * (blk gc (.cells #[.int .i64 k] 3 (0, 0)) * F)))
  | [], c0, F, v, x => by
    intro w hq; obtain ⟨⟨hE, h1, h2⟩, hs⟩ := hq.pu; clear hq
    obtain ⟨hv, hs2⟩ := fch_nil hs
    clear hs
    subst hv
    have hs := hs2
    clear hs2
    go_enter Tryd.func60, Tryd.ntmps60
    go_wp2_with (first
        | ((with_reducible apply pl_callv hs (code1E_s _ _ a k gc _)); (focus (simp only [Act.eval, za, zb, zc, zd, ze, zf]; (try with_reducible rfl); done)); (go_must (((focus (simp only [zj, zk, zl, List.append_toArray, List.nil_append, List.cons_append, Act.eval, za, zb, zc, zd, ze, zf]; (try with_reducible rfl); done)); (focus ((repeat (first | (with_reducible (first | exact ent_refl | apply ent_puR)) | ((with_reducible apply ent_front); (focus with_reducible (repeat (first | exact ent_here | apply ent_next | exact ent_last)); done)) | (with_reducible (first | exact ent_keep | apply ent_trans ent_drop)) | (focus (first | ((repeat' (first | (with_reducible assumption) | (with_reducible apply And.intro))); done))))); done)); (focus (simp only [go_sem]))))); clear hs; (try clear w); intro v w hq; (obtain ⟨rfl, hs⟩ := hq.pu); clear hq; (try simp only [star_assoc, star_emp, emp_star] at hs); (try simp only [Act.put, zg, zh, zi])))
    (go_ret; simp only [za, zb, zc, zd, ze, zf])
    exact ⟨_, rfl, hs.mono (ent_pu rfl fch_one)⟩
  | l :: ls, c0, F, v, x => by
    intro w hq; obtain ⟨⟨hE, h1, h2⟩, hs⟩ := hq.pu; clear hq
    obtain ⟨g, t, p, hv, hs2⟩ := fch_cons hs
    clear hs
    subst hv
    have hs := hs2
    clear hs2
    have ih := thrC_s a k gc ls
    go_enter Tryd.func60, Tryd.ntmps60
    go_wp2_with (first
        | ((with_reducible apply pl_callv hs (code1F_s _ _ a _ gc _)); (focus (simp only [Act.eval, za, zb, zc, zd, ze, zf]; (try with_reducible rfl); done)); (go_must (((focus (simp only [zj, zk, zl, List.append_toArray, List.nil_append, List.cons_append, Act.eval, za, zb, zc, zd, ze, zf]; (try with_reducible rfl); done)); (focus ((repeat (first | (with_reducible (first | exact ent_refl | apply ent_puR)) | ((with_reducible apply ent_front); (focus with_reducible (repeat (first | exact ent_here | apply ent_next | exact ent_last)); done)) | (with_reducible (first | exact ent_keep | apply ent_trans ent_drop)) | (focus (first | (focus (with_reducible (repeat (first | assumption | (apply ErrA.left; assumption) | refine ErrA.exh (by assumption) ?_ | refine ErrA.exh0 (by assumption) ?_ | apply ErrA.next | (apply ErrB.left; assumption) | refine ErrB.exh (by assumption) ?_ | refine ErrB.exh0 (by assumption) ?_ | apply ErrB.next)); done)))))); done)); (focus (simp only [go_sem]))))); clear hs; (try clear w); intro v w hq; (obtain ⟨rfl, hs⟩ := hq.pu); clear hq; (try simp only [star_assoc, star_emp, emp_star] at hs); (try simp only [Act.put, zg, zh, zi]))
        | ((with_reducible apply pl_call hs (unwrap_s _ _ _ _ _ _ _ _)); (go_must (((focus (simp only [zj, zk, zl, List.append_toArray, List.nil_append, List.cons_append, Act.eval, za, zb, zc, zd, ze, zf]; (try with_reducible rfl); done)); (focus ((repeat (first | (with_reducible (first | exact ent_refl | apply ent_puR)) | ((with_reducible apply ent_front); (focus with_reducible (repeat (first | exact ent_here | apply ent_next | exact ent_last)); done)) | (with_reducible (first | exact ent_keep | apply ent_trans ent_drop)) | (fail))); done)); (focus (simp only [go_sem]))))); clear hs; (try clear w); intro v w hq; (obtain ⟨rfl, hs⟩ := hq.pu); clear hq; (try simp only [star_assoc, star_emp, emp_star] at hs); (try simp only [Act.put, zg, zh, zi]))
        | ((with_reducible apply pl_call hs (ih _ _ _ _)); (go_must (((focus (simp only [zj, zk, zl, List.append_toArray, List.nil_append, List.cons_append, Act.eval, za, zb, zc, zd, ze, zf]; (try with_reducible rfl); done)); (focus ((repeat (first | (with_reducible (first | exact ent_refl | apply ent_puR)) | ((with_reducible apply ent_front); (focus with_reducible (repeat (first | exact ent_here | apply ent_next | exact ent_last)); done)) | (with_reducible (first | exact ent_keep | apply ent_trans ent_drop)) | (focus (first | ((repeat' (first | (with_reducible assumption) | (with_reducible apply And.intro) | (focus (with_reducible (repeat (first | assumption | (apply ErrA.left; assumption) | refine ErrA.exh (by assumption) ?_ | refine ErrA.exh0 (by assumption) ?_ | apply ErrA.next | (apply ErrB.left; assumption) | refine ErrB.exh (by assumption) ?_ | refine ErrB.exh0 (by assumption) ?_ | apply ErrB.next)); done)))); done))))); done)); (focus (simp only [go_sem]))))); clear hs; (try clear w); intro v w hq; (obtain ⟨rfl, hs⟩ := hq.pu); clear hq; (try simp only [star_assoc, star_emp, emp_star] at hs); (try simp only [Act.put, zg, zh, zi])))
    (go_ret; simp only [za, zb, zc, zd, ze, zf])
    exact ⟨_, rfl, hs.mono (ent_pu rfl (ent_trans (by ((repeat (first | (with_reducible (first | exact ent_refl | exact ent_emp)) | ((with_reducible apply ent_front); (focus with_reducible (repeat (first | exact ent_here | apply ent_next | exact ent_last)); done)) | (with_reducible (first | exact ent_keep | apply ent_trans ent_drop)))); done)) fch_more))⟩
end Go.Proofs.YtgoifgockcpnhaaDoor
