/- DiffBack: what edits have done, Invert takes back. -/
import Derived.Test.YtgoifgockcpnhaaDoorZDC5BK
import Derived.Test.YtgoifgockcpnhaaDoorZDC5BL
import Derived.Test.YtgoifgockcpnhaaDoorZDC5BM
set_option linter.unusedSimpArgs false
set_option linter.unusedVariables false
namespace Go.Proofs.YtgoifgockcpnhaaDoor
open Go Go.RowKit

theorem applyS_s (c0 : World) (F : HP) (a : Nat → Addr) (s : ByteArray) (lv : Value) (l : List EdtD) (u : List Int) (C : List Ed) (h : apR s l = .ok (u, C)) : Spec Tryd.prog c0 18 #[.string s, lv] (pu (ApPre F a s lv l) F) (fun r => pu (r = .tuple #[.string (rts u), .nilIface]) F) := by
  have := apply_s c0 F a s lv l
  unfold ApR at this
  rw [h] at this
  exact this
theorem applyN_s (c0 : World) (F : HP) (a : Nat → Addr) (s : ByteArray) (lv : Value) (l : List EdtD) (i k : Nat) (h : apR s l = .error (i, k)) : Spec Tryd.prog c0 18 #[.string s, lv] (pu (ApPre F a s lv l) F) (fun r => ex fun e : Value => pu (r = .tuple #[.string ⟨#[]⟩, e]) (RefP a (some ([⟨dfB, cAp, atV (i : Nat)⟩], k)) e * F)) := by
  have := apply_s c0 F a s lv l
  unfold ApR at this
  rw [h] at this
  exact this
theorem invertS_s (c0 : World) (F : HP) (a : Nat → Addr) (s : ByteArray) (lv : Value) (l : List EdtD) (u : List Int) (C : List Ed) (h : apR s l = .ok (u, C)) : Spec Tryd.prog c0 20 #[.string s, lv] (pu (ApPre F a s lv l) F) (fun r => ex fun v : Value => pu (r = .tuple #[v, .nilIface]) (row 44 3 edt v (C.map encE) * F)) := by
  have := invert_s c0 F a s lv l
  unfold InR at this
  rw [h] at this
  exact this
theorem invertN_s (c0 : World) (F : HP) (a : Nat → Addr) (s : ByteArray) (lv : Value) (l : List EdtD) (i k : Nat) (h : apR s l = .error (i, k)) : Spec Tryd.prog c0 20 #[.string s, lv] (pu (ApPre F a s lv l) F) (fun r => ex fun e : Value => pu (r = .tuple #[.slice none 0 0, e]) (RefP a (some ([⟨dfB, cIn, atV (i : Nat)⟩], k)) e * F)) := by
  have := invert_s c0 F a s lv l
  unfold InR at this
  rw [h] at this
  exact this
/-- What is asked of some edits ahead of Apply or Invert, less the bounds. -/
abbrev ApQ (F : HP) (a : Nat → Addr) (lv : Value) (l : List EdtD) : Prop := ErrB F a ∧ ReadC F 2 0 (.iface 125 (.pointer (some (a 2)))) ∧ TabF F ∧ SlR F 3 edt lv l
theorem spec_q {c0 : World} {F : HP} {a : Nat → Addr} {s : ByteArray} {lv : Value} {l : List EdtD} {f : FuncId} {args : Array Value} {post : Value → HP} (h : Spec Tryd.prog c0 f args (pu (ApPre F a s lv l) F) post) (h1 : s.size ≤ 10000) (h2 : l.length ≤ 300) (h3 : outEdits l) : Spec Tryd.prog c0 f args (pu (ApQ F a lv l) F) post :=
  Spec.mono h (ent_pu_l fun ⟨e1, e2, e3, e4⟩ => ent_pu ⟨e1, e2, e3, e4, h1, h2, h3⟩ ent_refl) fun _ => ent_refl
theorem slr_end {A : Option Addr} {n c : Nat} {l : List EdtD} : SlR (row 44 3 edt (.slice A n c) l) 3 edt (.slice A n c) l := fun w hw => slr_row (R := emp) edt_size w (by rwa [star_emp])
end Go.Proofs.YtgoifgockcpnhaaDoor
