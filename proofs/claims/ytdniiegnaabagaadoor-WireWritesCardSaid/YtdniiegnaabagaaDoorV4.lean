/- The program's reader: its five calls. -/
import Derived.Test.YtdniiegnaabagaaDoorV3
set_option linter.unusedSimpArgs false
set_option linter.unusedVariables false
namespace Go.Proofs.YtdniiegnaabagaaDoor
open Go Go.RowKit

def wireB : ByteArray := ⟨#[119, 105, 114, 101]⟩
/-- What a reader refuses from now on. -/
def RdS.ref (s : RdS) : Option (List LinkD × Nat) := s.bad.map fun x => ([⟨wireB, x.1, x.2.1⟩], x.2.2)
/-- The program's reader, with the error that it answers from now on. -/
def rdr (a : Nat → Addr) (g : Nat) (A : Option Addr) (n c : Nat) (e : Value) (s : RdS) : HP := rdc g A n c s.pos e * RefP a s.ref e
structure PRd (A : Option Addr) (n c : Nat) (raw : List Int) (a : Nat → Addr) (F : HP) : Prop where
  sl : SlR F 1 bytv (.slice A n c) raw
  er : ErrB F a
theorem PRd.next {A : Option Addr} {n c : Nat} {raw : List Int} {a : Nat → Addr} {B R : HP} (h : PRd A n c raw a R) : PRd A n c raw a (B * R) := ⟨slr_next h.sl, h.er.next⟩
theorem PRd.left {A : Option Addr} {n c : Nat} {raw : List Int} {a : Nat → Addr} {B R : HP} (h : PRd A n c raw a B) : PRd A n c raw a (B * R) := ⟨slr_left h.sl, h.er.left⟩
theorem PRd.exh {A : Option Addr} {n c : Nat} {raw : List Int} {a : Nat → Addr} {hR : Hp} {H B : HP} (hh : H.on hR) (h : PRd A n c raw a H) : PRd A n c raw a (Exh hR * B) := ⟨slr_exh hh h.sl, h.er.exh hh⟩
theorem PRd.exh0 {A : Option Addr} {n c : Nat} {raw : List Int} {a : Nat → Addr} {hR : Hp} {H : HP} (hh : H.on hR) (h : PRd A n c raw a H) : PRd A n c raw a (Exh hR) := ⟨slr_exh0 hh h.sl, h.er.exh0 hh⟩
theorem rdr_none {a : Nat → Addr} {g : Nat} {A : Option Addr} {n c : Nat} {e : Value} {s : RdS} {F : HP} {c0 w : World} (hb : s.bad = none) (hs : Sat c0 (rdr a g A n c e s * F) w) : e = .nilIface ∧ Sat c0 (rdc g A n c s.pos .nilIface * F) w := by
  unfold rdr RdS.ref at hs
  rw [hb] at hs
  simp only [Option.map_none, RefP] at hs
  rw [star_assoc, pu_star, emp_star] at hs
  have h2 : Sat c0 (pu (e = .nilIface) (rdc g A n c s.pos e * F)) w := by
    refine hs.mono fun h ⟨h1, h2, d, l1, l2, x1, hp, x2⟩ => ⟨hp, h1, h2, d, l1, l2, x1, x2⟩
  obtain ⟨he, h2⟩ := h2.pu
  subst he
  exact ⟨rfl, h2⟩
theorem rdr_okE {a : Nat → Addr} {g : Nat} {A : Option Addr} {n c : Nat} {s : RdS} {F : HP} (hb : s.bad = none) : Ent (rdc g A n c s.pos .nilIface * F) (rdr a g A n c .nilIface s * F) := by
  unfold rdr RdS.ref
  rw [hb]
  simp only [Option.map_none, RefP]
  rw [star_assoc, pu_star, emp_star]
  exact fun h ⟨h1, h2, d, l1, l2, x1, x2⟩ => ⟨h1, h2, d, l1, l2, x1, trivial, x2⟩
theorem rdr_some {a : Nat → Addr} {g : Nat} {A : Option Addr} {n c : Nat} {e : Value} {s : RdS} {F : HP} {c0 w : World} {x : ByteArray × Nat × Nat} (hb : s.bad = some x) (hs : Sat c0 (rdr a g A n c e s * F) w) : ∃ t q, e = .iface t (.pointer q) := by
  unfold rdr RdS.ref at hs
  rw [hb] at hs
  simp only [Option.map_some, RefP] at hs
  have h2 : Sat c0 (fch a [⟨wireB, x.1, x.2.1⟩] x.2.2 e * (rdc g A n c s.pos e * F)) w := hs.mono (by
    rw [star_assoc]
    refine ent_trans ent_left ?_
    rw [pu_star]
    exact ent_pu_l fun _ => ent_refl)
  exact fch_iface h2
theorem rdr_noE {a : Nat → Addr} {g ge : Nat} {A : Option Addr} {n c : Nat} {s : RdS} {F : HP} {cl : ByteArray} {k : Nat} (h1 : 1 ≤ k) (h2 : k ≤ 13) :
    Ent (blk ge (.cells (fltv ⟨#[119, 105, 114, 101]⟩ cl s.pos 115 (some (a k))) 102 (0, 0)) * (rdc g A n c s.pos (.iface 100 (.pointer (some ⟨ge, 0, none⟩))) * F)) (rdr a g A n c (.iface 100 (.pointer (some ⟨ge, 0, none⟩))) (s.fail cl k) * F) := by
  unfold rdr RdS.ref RdS.fail
  simp only [Option.map_some, RefP]
  rw [star_assoc, pu_star]
  refine ent_trans ent_left (star_mono ent_refl (ent_pu ⟨h1, h2, by simp⟩ ?_))
  exact ent_trans (star_mono ent_refl fch_one) (fch_more (l := ⟨wireB, cl, s.pos⟩))
theorem reads_s (c0 : World) (F : HP) (g : Nat) (A : Option Addr) (n c : Nat) (e : Value) (s : RdS) (cl : ByteArray) (a : Nat → Addr) (D : FuncId) (cap : Array Value) (hD : entB Tryd.prog D = true) {α : Type} (H2 : α → HP) (z : α) (x : Except Nat (α × Nat)) (PR : HP → Prop) (hn : ∀ A R, PR R → PR (A * R)) (hF : PR F)
    (hok : ∀ v p2, x = .ok (v, p2) → ∀ c0 F, Spec Tryd.prog c0 D cap (pu (PR F) (rdc g A n c s.pos .nilIface * (H2 z * F))) (fun _ => rdc g A n c p2 .nilIface * (H2 v * F)))
    (hno : ∀ k, x = .error k → (1 ≤ k ∧ k ≤ 13) ∧ ∀ c0 F, SpecP Tryd.prog c0 D cap (pu (PR F) (rdc g A n c s.pos .nilIface * (H2 z * F))) (stopV a k) (ex fun p' : Nat => rdc g A n c (p' : Int) .nilIface * (H2 z * F))) :
    Spec Tryd.prog c0 39 #[.pointer (some ⟨g, 0, none⟩), .string cl, .func (.func D) #[] cap] (rdr a g A n c e s * (H2 z * F)) (fun r => rdr a g A n c r (s.call cl z x).2 * (H2 (s.call cl z x).1 * F)) := by
  intro w hs
  cases hb : s.bad with
  | some y =>
    obtain ⟨t, q, rfl⟩ := rdr_some hb hs
    have hc : s.call cl z x = (z, s) := by unfold RdS.call; rw [hb]
    rw [hc]
    have h2 : Sat c0 (rdc g A n c s.pos (.iface t (.pointer q)) * (RefP a s.ref (.iface t (.pointer q)) * (H2 z * F))) w := by unfold rdr at hs; rw [star_assoc] at hs; exact hs
    refine (reads_stay c0 _ g A n c s.pos cl t q D cap w h2).mono fun ex w' ⟨v, hx, h⟩ => ⟨v, hx, ?_⟩
    obtain ⟨hv, h2⟩ := h.pu
    clear h
    subst hv
    show Sat c0 (rdr a g A n c (.iface t (.pointer q)) s * (H2 z * F)) w'
    unfold rdr
    rw [star_assoc]
    exact h2
  | none =>
    obtain ⟨rfl, h2⟩ := rdr_none hb hs
    cases hx : x with
    | ok y =>
      obtain ⟨v, p2⟩ := y
      have hc : s.call cl z (.ok (v, p2)) = (v, s.to p2) := by unfold RdS.call; rw [hb]
      rw [hc]
      refine (reads_ok c0 F g A n c s.pos p2 cl D cap hD (H2 z) (H2 v) PR hn hF (hok v p2 hx) w h2).mono fun ex w' ⟨v, hx, h⟩ => ⟨v, hx, ?_⟩
      obtain ⟨hv, h2⟩ := h.pu
      clear h
      subst hv
      exact h2.mono (rdr_okE (s := s.to p2) hb)
    | error k =>
      obtain ⟨⟨h3, h4⟩, h5⟩ := hno k hx
      have hc : s.call cl z (.error k) = (z, s.fail cl k) := by unfold RdS.call; rw [hb]
      rw [hc]
      refine (reads_no c0 F g A n c s.pos cl a k D cap hD (H2 z) (H2 z) PR hn hF h5 w h2).mono fun ex w' ⟨v, hx, h⟩ => ⟨v, hx, ?_⟩
      obtain ⟨ge, h1⟩ := h.ex
      obtain ⟨hv, h2⟩ := h1.pu
      clear h h1
      subst hv
      exact h2.mono (rdr_noE h3 h4)
end Go.Proofs.YtdniiegnaabagaaDoor
