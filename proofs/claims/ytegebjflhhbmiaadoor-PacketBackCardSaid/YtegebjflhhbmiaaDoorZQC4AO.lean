/- The reasons, as they are laid when a law begins. -/
import Derived.Test.YtegebjflhhbmiaaDoorZQC4AN
import Derived.LaidEql
import Derived.Stop.Asserts
set_option linter.unusedSimpArgs false
set_option linter.unusedVariables false
namespace Go.Proofs.YtegebjflhhbmiaaDoor
open Go Go.RowKit

/-- The variable of a reason's number. -/
def gl : Nat → Nat
  | 1 => 1
  | 2 => 3
  | 3 => 4
  | 4 => 5
  | 5 => 6
  | 6 => 0
  | 7 => 2
  | 8 => 7
  | 9 => 8
  | 10 => 9
  | 11 => 10
  | 12 => 11
  | 13 => 12
  | _ => 0
/-- The reasons lie where the variables say, each at a place of its own. -/
structure ErrA (F : HP) (a : Nat → Addr) : Prop where
  ad : ∀ k, 1 ≤ k → k ≤ 13 → ReadC F (gl k) 0 (.iface 162 (.pointer (some (a k))))
  bk : ∀ k, 1 ≤ k → k ≤ 13 → ∀ w, Own F w → ∃ c t, w.heap[(a k).block]? = some (.cells c t (0, 0))
  inj : ∀ i j, 1 ≤ i → i ≤ 13 → 1 ≤ j → j ≤ 13 → a i = a j → i = j
theorem ErrA.next {A R : HP} {a : Nat → Addr} (h : ErrA R a) : ErrA (A * R) a := ⟨fun k h1 h2 => readc_next (h.ad k h1 h2), fun k h1 h2 w hw => h.bk k h1 h2 w (own_next hw), h.inj⟩
theorem ErrA.left {A R : HP} {a : Nat → Addr} (h : ErrA A a) : ErrA (A * R) a := ⟨fun k h1 h2 => readc_left (h.ad k h1 h2), fun k h1 h2 w hw => h.bk k h1 h2 w (hw.mono ent_keep), h.inj⟩
theorem ErrA.exh {hR : Hp} {H A : HP} {a : Nat → Addr} (hh : H.on hR) (h : ErrA H a) : ErrA (Exh hR * A) a := ⟨fun k h1 h2 => readc_exh hh (h.ad k h1 h2), fun k h1 h2 w hw => h.bk k h1 h2 w (own_exh hh hw), h.inj⟩
theorem ErrA.exh0 {hR : Hp} {H : HP} {a : Nat → Addr} (hh : H.on hR) (h : ErrA H a) : ErrA (Exh hR) a := ⟨fun k h1 h2 => readc_exh0 hh (h.ad k h1 h2), fun k h1 h2 w hw => h.bk k h1 h2 w (own_exh0 hh hw), h.inj⟩
@[go_sem] theorem eql_FE (x y : Value) (w : World) : (binOp .eql 34 (.iface 116 x) (.iface 162 y)).run Tryd.prog w = .ok (.bool false) w :=
  run_eql_iface_types _ _ _ _ Tryd.underlying34 (by decide) w
theorem infoE : ∃ i, Tryd.prog.info? 162 = some i ∧ i.comparable = true := by
  obtain ⟨i, h1, h2⟩ := Option.map_eq_some_iff.1 (show (Tryd.prog.info? 162).map (·.comparable) = some true by kernel_rfl)
  exact ⟨i, h1, h2⟩
theorem infoS : ∃ i, Tryd.prog.info? 179 = some i ∧ i.size = 1 := by
  obtain ⟨i, h1, h2⟩ := Option.map_eq_some_iff.1 (show (Tryd.prog.info? 179).map (·.size) = some 1 by kernel_rfl)
  exact ⟨i, h1, h2⟩
@[go_sem] theorem eql_EE (x : Addr) (w : World) : (binOp .eql 34 (.iface 162 (.pointer (some x))) (.iface 162 (.pointer (some x)))).run Tryd.prog w = .ok (.bool true) w := by
  obtain ⟨i, h1, h2⟩ := infoE
  obtain ⟨j, h3, h4⟩ := infoS
  exact run_eql_iface_ptr_same w x Tryd.underlying34 Tryd.underlying162 h1 h2 h3
end Go.Proofs.YtegebjflhhbmiaaDoor

set_option linter.unusedSimpArgs false
set_option linter.unusedVariables false
namespace Go.Proofs.YtegebjflhhbmiaaDoor
open Go Go.RowKit

@[go_sem] theorem ta_FF (v : Value) (w : World) : (Instr.typeAssert (.iface 116 v) 34 116 true).run Tryd.prog w = .ok (.tuple #[v, .bool true]) w := by kernel_rfl
@[go_sem] theorem ta_FM (v : Value) (w : World) : (Instr.typeAssert (.iface 116 v) 34 150 true).run Tryd.prog w = .ok (.tuple #[.pointer none, .bool false]) w := by kernel_rfl
@[go_sem] theorem ta_EF (v : Value) (w : World) : (Instr.typeAssert (.iface 162 v) 34 116 true).run Tryd.prog w = .ok (.tuple #[.pointer none, .bool false]) w := by kernel_rfl
@[go_sem] theorem ta_EM (v : Value) (w : World) : (Instr.typeAssert (.iface 162 v) 34 150 true).run Tryd.prog w = .ok (.tuple #[.pointer none, .bool false]) w := by kernel_rfl
/-- An error as the program has it: a chain of refusals, and a reason behind them. -/
def fch (a : Nat → Addr) : List LinkD → Nat → Value → HP
  | [], k, v => pu (v = .iface 162 (.pointer (some (a k)))) emp
  | l :: ls, k, v => ex fun g : Nat => ex fun t : TypeId => ex fun p : Option Addr => pu (v = .iface 116 (.pointer (some ⟨g, 0, none⟩))) (blk g (.cells (fltv l.layer l.call l.pos t p) 118 (0, 0)) * fch a ls k (.iface t (.pointer p)))
theorem fch_nil {a : Nat → Addr} {k : Nat} {v : Value} {F : HP} {c w : World} (hs : Sat c (fch a [] k v * F) w) : v = .iface 162 (.pointer (some (a k))) ∧ Sat c F w := by
  unfold fch at hs
  rw [pu_star, emp_star] at hs
  exact hs.pu
theorem fch_cons {a : Nat → Addr} {l : LinkD} {ls : List LinkD} {k : Nat} {v : Value} {F : HP} {c w : World} (hs : Sat c (fch a (l :: ls) k v * F) w) :
    ∃ g t p, v = .iface 116 (.pointer (some ⟨g, 0, none⟩)) ∧ Sat c (blk g (.cells (fltv l.layer l.call l.pos t p) 118 (0, 0)) * (fch a ls k (.iface t (.pointer p)) * F)) w := by
  rw [fch] at hs
  rw [ex_star] at hs
  obtain ⟨g, hs⟩ := hs.ex
  rw [ex_star] at hs
  obtain ⟨t, hs⟩ := hs.ex
  rw [ex_star] at hs
  obtain ⟨p, hs⟩ := hs.ex
  rw [pu_star, star_assoc] at hs
  obtain ⟨h, hs⟩ := hs.pu
  exact ⟨g, t, p, h, hs⟩
theorem fch_one {a : Nat → Addr} {k : Nat} {F : HP} : Ent F (fch a [] k (.iface 162 (.pointer (some (a k)))) * F) := by
  unfold fch
  rw [pu_star, emp_star]
  exact ent_pu rfl ent_refl
theorem fch_more {a : Nat → Addr} {l : LinkD} {ls : List LinkD} {k g : Nat} {t : TypeId} {p : Option Addr} {F : HP} : Ent (blk g (.cells (fltv l.layer l.call l.pos t p) 118 (0, 0)) * (fch a ls k (.iface t (.pointer p)) * F)) (fch a (l :: ls) k (.iface 116 (.pointer (some ⟨g, 0, none⟩))) * F) := by
  rw [fch]
  rw [ex_star]
  refine ent_ex g ?_
  rw [ex_star]
  refine ent_ex t ?_
  rw [ex_star]
  refine ent_ex p ?_
  rw [pu_star, star_assoc]
  exact ent_pu rfl ent_refl
@[go_sem] theorem fltv_size (a b : ByteArray) (n : Int) (t : TypeId) (p : Option Addr) : (fltv a b n t p).size = 4 := rfl
@[go_sem] theorem fltv_0 (a b : ByteArray) (n : Int) (t : TypeId) (p : Option Addr) : (fltv a b n t p)[0]? = some (.string a) := rfl
@[go_sem] theorem fltv_1 (a b : ByteArray) (n : Int) (t : TypeId) (p : Option Addr) : (fltv a b n t p)[1]? = some (.string b) := rfl
@[go_sem] theorem fltv_2 (a b : ByteArray) (n : Int) (t : TypeId) (p : Option Addr) : (fltv a b n t p)[2]? = some (.int .i64 n) := rfl
@[go_sem] theorem fltv_3 (a b : ByteArray) (n : Int) (t : TypeId) (p : Option Addr) : (fltv a b n t p)[3]? = some (.iface t (.pointer p)) := rfl
end Go.Proofs.YtegebjflhhbmiaaDoor

set_option linter.unusedSimpArgs false
set_option linter.unusedVariables false
namespace Go.Proofs.YtegebjflhhbmiaaDoor
open Go Go.RowKit

/-! ### how the document says it -/
/-! ### the two are alike -/
/-- A refusal as the program has it. -/
def RefP (a : Nat → Addr) : Option (List LinkD × Nat) → Value → HP
  | none, v => pu (v = .nilIface) emp
  | some (ls, k), v => pu (1 ≤ k ∧ k ≤ 13 ∧ ls.length ≤ 1000) (fch a ls k v)
theorem refP_some {a : Nat → Addr} {ls : List LinkD} {k : Nat} {v : Value} {F : HP} {c w : World} (hs : Sat c (RefP a (some (ls, k)) v * F) w) : (1 ≤ k ∧ k ≤ 13 ∧ ls.length ≤ 1000) ∧ Sat c (fch a ls k v * F) w := by
  unfold RefP at hs
  rw [pu_star] at hs
  exact hs.pu
theorem fch_iface {a : Nat → Addr} {ls : List LinkD} {k : Nat} {v : Value} {F : HP} {c w : World} (hs : Sat c (fch a ls k v * F) w) : ∃ t p, v = .iface t (.pointer p) := by
  cases ls with
  | nil => exact ⟨_, _, (fch_nil hs).1⟩
  | cons l ls => obtain ⟨g, t, p, h, _⟩ := fch_cons hs; exact ⟨_, _, h⟩
end Go.Proofs.YtegebjflhhbmiaaDoor

set_option linter.unusedSimpArgs false
set_option linter.unusedVariables false
namespace Go.Proofs.YtegebjflhhbmiaaDoor
open Go Go.RowKit

def nmE : Nat → String
  | 1 => "barrow/api.ErrArg"
  | 2 => "barrow/api.ErrRange"
  | 3 => "barrow/api.ErrText"
  | 4 => "barrow/api.ErrFull"
  | 5 => "barrow/api.ErrFrozen"
  | 6 => "barrow/api.ErrForm"
  | 7 => "barrow/api.ErrShort"
  | 8 => "barrow/api.ErrOrder"
  | 9 => "barrow/api.ErrTwice"
  | 10 => "barrow/api.ErrEpoch"
  | 11 => "barrow/api.ErrBusy"
  | 12 => "barrow/api.ErrNone"
  | 13 => "barrow/api.ErrRoom"
  | _ => ""
def txE : Nat → List UInt8
  | 1 => [98, 97, 100, 32, 97, 114, 103, 117, 109, 101, 110, 116]
  | 2 => [111, 117, 116, 32, 111, 102, 32, 114, 97, 110, 103, 101]
  | 3 => [98, 97, 100, 32, 116, 101, 120, 116]
  | 4 => [110, 111, 32, 99, 114, 101, 100, 105, 116, 32, 108, 101, 102, 116]
  | 5 => [102, 114, 111, 122, 101, 110]
  | 6 => [98, 97, 100, 32, 102, 111, 114, 109]
  | 7 => [99, 117, 116, 32, 115, 104, 111, 114, 116]
  | 8 => [110, 111, 116, 32, 121, 101, 116]
  | 9 => [116, 104, 101, 114, 101, 32, 97, 108, 114, 101, 97, 100, 121]
  | 10 => [97, 110, 111, 116, 104, 101, 114, 32, 101, 112, 111, 99, 104]
  | 11 => [98, 117, 115, 121]
  | 12 => [110, 111, 116, 104, 105, 110, 103, 32, 116, 104, 101, 114, 101]
  | 13 => [110, 111, 32, 114, 111, 111, 109]
  | _ => []
theorem thirteen {p : Nat → Prop} (h : p 1 ∧ p 2 ∧ p 3 ∧ p 4 ∧ p 5 ∧ p 6 ∧ p 7 ∧ p 8 ∧ p 9 ∧ p 10 ∧ p 11 ∧ p 12 ∧ p 13) (k : Nat) (h1 : 1 ≤ k) (h2 : k ≤ 13) : p k := by
  obtain ⟨e1, e2, e3, e4, e5, e6, e7, e8, e9, e10, e11, e12, e13⟩ := h
  obtain rfl | rfl | rfl | rfl | rfl | rfl | rfl | rfl | rfl | rfl | rfl | rfl | rfl : k = 1 ∨ k = 2 ∨ k = 3 ∨ k = 4 ∨ k = 5 ∨ k = 6 ∨ k = 7 ∨ k = 8 ∨ k = 9 ∨ k = 10 ∨ k = 11 ∨ k = 12 ∨ k = 13 := by omega
  all_goals assumption
theorem nmE_at : ∀ k, 1 ≤ k → k ≤ 13 → Tryd.prog.globalNamed (nmE k) = some (gl k) ∧ (Tryd.prog.globals[gl k]?).map (·.type) = some 34 :=
  thirteen ⟨⟨by kernel_rfl, by kernel_rfl⟩, ⟨by kernel_rfl, by kernel_rfl⟩, ⟨by kernel_rfl, by kernel_rfl⟩, ⟨by kernel_rfl, by kernel_rfl⟩, ⟨by kernel_rfl, by kernel_rfl⟩, ⟨by kernel_rfl, by kernel_rfl⟩, ⟨by kernel_rfl, by kernel_rfl⟩, ⟨by kernel_rfl, by kernel_rfl⟩, ⟨by kernel_rfl, by kernel_rfl⟩, ⟨by kernel_rfl, by kernel_rfl⟩, ⟨by kernel_rfl, by kernel_rfl⟩, ⟨by kernel_rfl, by kernel_rfl⟩, ⟨by kernel_rfl, by kernel_rfl⟩⟩
end Go.Proofs.YtegebjflhhbmiaaDoor
