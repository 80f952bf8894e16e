/- The program's reader: what each call reads. -/
import Derived.Test.YtegebjflhhbmiaaDoorZQC6AV
set_option linter.unusedSimpArgs false
set_option linter.unusedVariables false
namespace Go.Proofs.YtegebjflhhbmiaaDoor
open Go Go.RowKit

def wireB : ByteArray := ⟨#[119, 105, 114, 101]⟩
/-- What a reader refuses from now on. -/
def RdS.ref (s : RdS) : Option (List LinkD × Nat) := s.bad.map fun x => ([⟨wireB, x.1, x.2.1⟩], x.2.2)
/-- The program's reader, with the error that it answers from now on. -/
def rdr (a : Nat → Addr) (g : Nat) (A : Option Addr) (n c : Nat) (e : Value) (s : RdS) : HP := rdc g A n c s.pos e * RefP a s.ref e
structure PRd (A : Option Addr) (n c : Nat) (raw : List Int) (a : Nat → Addr) (F : HP) : Prop where
  sl : SlR F 1 bytv (.slice A n c) raw
  er : ErrB F a
theorem PRd.next {A : Option Addr} {n c : Nat} {raw : List Int} {a : Nat → Addr} {B R : HP} (h : PRd A n c raw a R) : PRd A n c raw a (B * R) := ⟨slr_next h.sl, h.er.next⟩
theorem PRd.left {A : Option Addr} {n c : Nat} {raw : List Int} {a : Nat → Addr} {B R : HP} (h : PRd A n c raw a B) : PRd A n c raw a (B * R) := ⟨slr_left h.sl, h.er.left⟩
theorem PRd.exh {A : Option Addr} {n c : Nat} {raw : List Int} {a : Nat → Addr} {hR : Hp} {H B : HP} (hh : H.on hR) (h : PRd A n c raw a H) : PRd A n c raw a (Exh hR * B) := ⟨slr_exh hh h.sl, h.er.exh hh⟩
theorem PRd.exh0 {A : Option Addr} {n c : Nat} {raw : List Int} {a : Nat → Addr} {hR : Hp} {H : HP} (hh : H.on hR) (h : PRd A n c raw a H) : PRd A n c raw a (Exh hR) := ⟨slr_exh0 hh h.sl, h.er.exh0 hh⟩
theorem rdr_none {a : Nat → Addr} {g : Nat} {A : Option Addr} {n c : Nat} {e : Value} {s : RdS} {F : HP} {c0 w : World} (hb : s.bad = none) (hs : Sat c0 (rdr a g A n c e s * F) w) : e = .nilIface ∧ Sat c0 (rdc g A n c s.pos .nilIface * F) w := by
  unfold rdr RdS.ref at hs
  rw [hb] at hs
  simp only [Option.map_none, RefP] at hs
  rw [star_assoc, pu_star, emp_star] at hs
  have h2 : Sat c0 (pu (e = .nilIface) (rdc g A n c s.pos e * F)) w := by
    refine hs.mono fun h ⟨h1, h2, d, l1, l2, x1, hp, x2⟩ => ⟨hp, h1, h2, d, l1, l2, x1, x2⟩
  obtain ⟨he, h2⟩ := h2.pu
  subst he
  exact ⟨rfl, h2⟩
theorem rdr_okE {a : Nat → Addr} {g : Nat} {A : Option Addr} {n c : Nat} {s : RdS} {F : HP} (hb : s.bad = none) : Ent (rdc g A n c s.pos .nilIface * F) (rdr a g A n c .nilIface s * F) := by
  unfold rdr RdS.ref
  rw [hb]
  simp only [Option.map_none, RefP]
  rw [star_assoc, pu_star, emp_star]
  exact fun h ⟨h1, h2, d, l1, l2, x1, x2⟩ => ⟨h1, h2, d, l1, l2, x1, trivial, x2⟩
theorem rdr_some {a : Nat → Addr} {g : Nat} {A : Option Addr} {n c : Nat} {e : Value} {s : RdS} {F : HP} {c0 w : World} {x : ByteArray × Nat × Nat} (hb : s.bad = some x) (hs : Sat c0 (rdr a g A n c e s * F) w) : ∃ t q, e = .iface t (.pointer q) := by
  unfold rdr RdS.ref at hs
  rw [hb] at hs
  simp only [Option.map_some, RefP] at hs
  have h2 : Sat c0 (fch a [⟨wireB, x.1, x.2.1⟩] x.2.2 e * (rdc g A n c s.pos e * F)) w := hs.mono (by
    rw [star_assoc]
    refine ent_trans ent_left ?_
    rw [pu_star]
    exact ent_pu_l fun _ => ent_refl)
  exact fch_iface h2
theorem rdr_noE {a : Nat → Addr} {g ge : Nat} {A : Option Addr} {n c : Nat} {s : RdS} {F : HP} {cl : ByteArray} {k : Nat} (h1 : 1 ≤ k) (h2 : k ≤ 13) :
    Ent (blk ge (.cells (fltv ⟨#[119, 105, 114, 101]⟩ cl s.pos 162 (some (a k))) 118 (0, 0)) * (rdc g A n c s.pos (.iface 116 (.pointer (some ⟨ge, 0, none⟩))) * F)) (rdr a g A n c (.iface 116 (.pointer (some ⟨ge, 0, none⟩))) (s.fail cl k) * F) := by
  unfold rdr RdS.ref RdS.fail
  simp only [Option.map_some, RefP]
  rw [star_assoc, pu_star]
  refine ent_trans ent_left (star_mono ent_refl (ent_pu ⟨h1, h2, by simp⟩ ?_))
  exact ent_trans (star_mono ent_refl fch_one) (fch_more (l := ⟨wireB, cl, s.pos⟩))
theorem reads_s (c0 : World) (F : HP) (g : Nat) (A : Option Addr) (n c : Nat) (e : Value) (s : RdS) (cl : ByteArray) (a : Nat → Addr) (D : FuncId) (cap : Array Value) (hD : entB Tryd.prog D = true) {α : Type} (H2 : α → HP) (z : α) (x : Except Nat (α × Nat)) (PR : HP → Prop) (hn : ∀ A R, PR R → PR (A * R)) (hF : PR F)
    (hok : ∀ v p2, x = .ok (v, p2) → ∀ c0 F, Spec Tryd.prog c0 D cap (pu (PR F) (rdc g A n c s.pos .nilIface * (H2 z * F))) (fun _ => rdc g A n c p2 .nilIface * (H2 v * F)))
    (hno : ∀ k, x = .error k → (1 ≤ k ∧ k ≤ 13) ∧ ∀ c0 F, SpecP Tryd.prog c0 D cap (pu (PR F) (rdc g A n c s.pos .nilIface * (H2 z * F))) (stopV a k) (ex fun p' : Nat => rdc g A n c (p' : Int) .nilIface * (H2 z * F))) :
    Spec Tryd.prog c0 92 #[.pointer (some ⟨g, 0, none⟩), .string cl, .func (.func D) #[] cap] (rdr a g A n c e s * (H2 z * F)) (fun r => rdr a g A n c r (s.call cl z x).2 * (H2 (s.call cl z x).1 * F)) := by
  intro w hs
  cases hb : s.bad with
  | some y =>
    obtain ⟨t, q, rfl⟩ := rdr_some hb hs
    have hc : s.call cl z x = (z, s) := by unfold RdS.call; rw [hb]
    rw [hc]
    have h2 : Sat c0 (rdc g A n c s.pos (.iface t (.pointer q)) * (RefP a s.ref (.iface t (.pointer q)) * (H2 z * F))) w := by unfold rdr at hs; rw [star_assoc] at hs; exact hs
    refine (reads_stay c0 _ g A n c s.pos cl t q D cap w h2).mono fun ex w' ⟨v, hx, h⟩ => ⟨v, hx, ?_⟩
    obtain ⟨hv, h2⟩ := h.pu
    clear h
    subst hv
    show Sat c0 (rdr a g A n c (.iface t (.pointer q)) s * (H2 z * F)) w'
    unfold rdr
    rw [star_assoc]
    exact h2
  | none =>
    obtain ⟨rfl, h2⟩ := rdr_none hb hs
    cases hx : x with
    | ok y =>
      obtain ⟨v, p2⟩ := y
      have hc : s.call cl z (.ok (v, p2)) = (v, s.to p2) := by unfold RdS.call; rw [hb]
      rw [hc]
      refine (reads_ok c0 F g A n c s.pos p2 cl D cap hD (H2 z) (H2 v) PR hn hF (hok v p2 hx) w h2).mono fun ex w' ⟨v, hx, h⟩ => ⟨v, hx, ?_⟩
      obtain ⟨hv, h2⟩ := h.pu
      clear h
      subst hv
      exact h2.mono (rdr_okE (s := s.to p2) hb)
    | error k =>
      obtain ⟨⟨h3, h4⟩, h5⟩ := hno k hx
      have hc : s.call cl z (.error k) = (z, s.fail cl k) := by unfold RdS.call; rw [hb]
      rw [hc]
      refine (reads_no c0 F g A n c s.pos cl a k D cap hD (H2 z) (H2 z) PR hn hF h5 w h2).mono fun ex w' ⟨v, hx, h⟩ => ⟨v, hx, ?_⟩
      obtain ⟨ge, h1⟩ := h.ex
      obtain ⟨hv, h2⟩ := h1.pu
      clear h h1
      subst hv
      exact h2.mono (rdr_noE h3 h4)
end Go.Proofs.YtegebjflhhbmiaaDoor

set_option linter.unusedSimpArgs false
set_option linter.unusedVariables false
namespace Go.Proofs.YtegebjflhhbmiaaDoor
open Go Go.RowKit

abbrev vR (gr g : Nat) : HP := blk gr (.cells #[.pointer (some ⟨g, 0, none⟩)] 84 (0, 0))
abbrev vI (gi : Nat) (x : Int) : HP := blk gi (.cells #[.int .i64 x] 3 (0, 0))
abbrev vJ (gi : Nat) (x : Int) : HP := blk gi (.cells (intv x) 3 (0, 0))
abbrev vB (gi : Nat) (x : Int) : HP := blk gi (.cells #[.int .u8 x] 5 (0, 0))
/-! ### Number -/
abbrev numH (g gr gm gn : Nat) (most : Int) (v : Nat) : HP := vR gr g * (vJ gm most * vI gn (v : Int))
theorem num1_s (c0 : World) (F : HP) (g : Nat) (A : Option Addr) (n c p gr gm gn x : Nat) (raw : List Int) (most : Int) (a : Nat → Addr) (v k : Nat) : Spec Tryd.prog c0 104 #[.pointer (some ⟨gr, 0, none⟩), .pointer (some ⟨gm, 0, none⟩), .pointer (some ⟨gn, 0, none⟩)]
    (pu (PRd A n c raw a F ∧ p ≤ n ∧ (∀ b, b ∈ raw → InB b) ∧ rd0 most (raw.drop p) = .ok (v, k)) (rdc g A n c p .nilIface * (numH g gr gm gn most x * F))) (fun _ => rdc g A n c ((p + k : Nat) : Int) .nilIface * (numH g gr gm gn most v * F)) := by
  intro w hq; obtain ⟨⟨hpr, hp, hI, hr⟩, hs⟩ := hq.pu; clear hq
  have hsr := hpr.sl
  simp only [star_assoc] at hs
  go_enter Tryd.func104, Tryd.ntmps104
  go_wp2_with (first
        | ((with_reducible apply pl_call hs (number_s _ _ _ _ _ _ _ _ raw most v k)); (go_must (((focus (simp only [zj, zk, zl, List.append_toArray, List.nil_append, List.cons_append, Act.eval, za, zb, zc, zd, ze, zf]; (try with_reducible rfl); done)); (focus ((repeat (first | (with_reducible (first | exact ent_refl | apply ent_puR)) | ((with_reducible apply ent_front); (focus with_reducible (repeat (first | exact ent_here | apply ent_next | exact ent_last)); done)) | (with_reducible (first | exact ent_keep | apply ent_trans ent_drop)) | (focus (first | ((repeat' (first | (with_reducible assumption) | (with_reducible apply And.intro) | (focus (first | ((repeat (first | (with_reducible (first | assumption | exact slr_ro |  exact hsl _ | exact hsl2 _ | exact hsl3 _ _ _ | exact slr_nil | exact slr_row (fun _ => by simp only [go_sem]) | exact slr_one (fun _ => by simp only [go_sem]) | (apply slr_left; assumption))) | (with_reducible apply slr_next))); done) | ((repeat (first | (with_reducible (first | assumption | exact slr_ro |  exact hsl _ | exact hsl2 _ | exact hsl3 _ _ _ | exact slr_nil | exact slr_row (fun _ => by simp only [go_sem]) | exact slr_one (fun _ => by simp only [go_sem]) | (apply slr_left; assumption))) | (with_reducible (first | (apply slr_exh; focus assumption) | (apply slr_exh0; focus assumption) | apply slr_next)))); done))))); done))))); done)); (focus (simp only [go_sem]))))); clear hs; (try clear w); intro v w hq; (obtain ⟨rfl, hs⟩ := hq.pu); clear hq; (try simp only [star_assoc, star_emp, emp_star] at hs); (try simp only [Act.put, zg, zh, zi]))
        | ((with_reducible apply pl_load1 hs); (focus (simp only [Act.eval, za, zb, zc, zd, ze, zf]; (try with_reducible rfl); done)); (focus (simp only [go_sem])); (focus ((repeat (first | (with_reducible (first | assumption | exact hec _ | exact hec2 _ | exact hec3 _ | exact hec4 _ _)) | ((with_reducible apply readc_here); (focus (first | (simp only [zc, zd, ze, go_sem]; (try with_reducible rfl); done) | (go_simp; (try with_reducible rfl); done)))) | (with_reducible (first | (apply readc_left; assumption) | refine readc_exh (by assumption) ?_ | refine readc_exh0 (by assumption) ?_ | apply readc_next)))); done)); (focus rfl); simp only [Act.put, zg, zh, zi])
        | ((with_reducible apply pl_store1 hs); (focus (simp only [Act.eval, za, zb, zc, zd, ze, zf]; (try with_reducible rfl); done)); (focus (simp only [Act.eval, za, zb, zc, zd, ze, zf]; (try with_reducible rfl); done)); (focus (simp only [go_sem])); (focus with_reducible (repeat (first | exact ent_here | apply ent_next | exact ent_last)); done); (focus (first | (simp [go_sem]; done) | (simp only [go_sem]; omega) | go_size)); (focus (first | (simp only [go_sem]; done) | (simp [go_sem]; done))); clear hs; (try clear w); intro w hs; (try simp only [zg, zh, zi, clk_set, opv_s0, opv_s1, opv_s2, opv_s3, actv_s0, actv_s1, actv_s2, actv_s3, actv_s4, rnd_s0, rnd_s17, lnk_s0, lnk_s1, lnk_s2, nov_s0, nov_s1, nov_s2, intv_set, bytv_set] at hs); simp only [Act.put, zg, zh, zi]))
  refine bodyPost_end (results_none rfl _ _ _) rfl ⟨_, rfl, hs.mono (by simp only [star_assoc]; ((repeat (first | (with_reducible (first | exact ent_refl | exact ent_emp)) | ((with_reducible apply ent_front); (focus with_reducible (repeat (first | exact ent_here | apply ent_next | exact ent_last)); done)) | (with_reducible (first | exact ent_keep | apply ent_trans ent_drop)))); done))⟩
theorem num1P_s (c0 : World) (F : HP) (g : Nat) (A : Option Addr) (n c p gr gm gn x : Nat) (raw : List Int) (most : Int) (a : Nat → Addr) (k : Nat) : SpecP Tryd.prog c0 104 #[.pointer (some ⟨gr, 0, none⟩), .pointer (some ⟨gm, 0, none⟩), .pointer (some ⟨gn, 0, none⟩)]
    (pu (PRd A n c raw a F ∧ p ≤ n ∧ (∀ b, b ∈ raw → InB b) ∧ rd0 most (raw.drop p) = .error k) (rdc g A n c p .nilIface * (numH g gr gm gn most x * F))) (stopV a k) (ex fun p' : Nat => rdc g A n c (p' : Int) .nilIface * (numH g gr gm gn most x * F)) := by
  intro w hq; obtain ⟨⟨hpr, hp, hI, hr⟩, hs⟩ := hq.pu; clear hq
  have hsr := hpr.sl
  have hE := hpr.er
  simp only [star_assoc] at hs
  go_enter Tryd.func104, Tryd.ntmps104
  go_wp2_with (first
        | ((with_reducible apply pl_callp hs (numberP_s _ _ _ _ _ _ _ _ raw most a k)); (go_must (((focus (simp only [zj, zk, zl, List.append_toArray, List.nil_append, List.cons_append, Act.eval, za, zb, zc, zd, ze, zf]; (try with_reducible rfl); done)); (focus ((repeat (first | (with_reducible (first | exact ent_refl | apply ent_puR)) | ((with_reducible apply ent_front); (focus with_reducible (repeat (first | exact ent_here | apply ent_next | exact ent_last)); done)) | (with_reducible (first | exact ent_keep | apply ent_trans ent_drop)) | (focus (first | ((repeat' (first | (with_reducible assumption) | (with_reducible apply And.intro) | (focus (first | ((repeat (first | (with_reducible (first | assumption | exact slr_ro |  exact hsl _ | exact hsl2 _ | exact hsl3 _ _ _ | exact slr_nil | exact slr_row (fun _ => by simp only [go_sem]) | exact slr_one (fun _ => by simp only [go_sem]) | (apply slr_left; assumption))) | (with_reducible apply slr_next))); done) | ((repeat (first | (with_reducible (first | assumption | exact slr_ro |  exact hsl _ | exact hsl2 _ | exact hsl3 _ _ _ | exact slr_nil | exact slr_row (fun _ => by simp only [go_sem]) | exact slr_one (fun _ => by simp only [go_sem]) | (apply slr_left; assumption))) | (with_reducible (first | (apply slr_exh; focus assumption) | (apply slr_exh0; focus assumption) | apply slr_next)))); done))) | (focus (with_reducible (repeat (first | assumption | (apply ErrA.left; assumption) | refine ErrA.exh (by assumption) ?_ | refine ErrA.exh0 (by assumption) ?_ | apply ErrA.next | (apply ErrB.left; assumption) | refine ErrB.exh (by assumption) ?_ | refine ErrB.exh0 (by assumption) ?_ | apply ErrB.next)); done)))); done))))); done)); (focus (simp only [go_sem]))))); clear hs; (try clear w); intro w hs; (skip); (try simp only [star_assoc, star_emp, emp_star] at hs))
        | ((with_reducible apply pl_load1 hs); (focus (simp only [Act.eval, za, zb, zc, zd, ze, zf]; (try with_reducible rfl); done)); (focus (simp only [go_sem])); (focus ((repeat (first | (with_reducible (first | assumption | exact hec _ | exact hec2 _ | exact hec3 _ | exact hec4 _ _)) | ((with_reducible apply readc_here); (focus (first | (simp only [zc, zd, ze, go_sem]; (try with_reducible rfl); done) | (go_simp; (try with_reducible rfl); done)))) | (with_reducible (first | (apply readc_left; assumption) | refine readc_exh (by assumption) ?_ | refine readc_exh0 (by assumption) ?_ | apply readc_next)))); done)); (focus rfl); simp only [Act.put, zg, zh, zi]))
  obtain ⟨p', hs⟩ := hs.ex
  exact ⟨rfl, rfl, hs.mono (ent_ex p' (by simp only [star_assoc]; ((repeat (first | (with_reducible (first | exact ent_refl | exact ent_emp)) | ((with_reducible apply ent_front); (focus with_reducible (repeat (first | exact ent_here | apply ent_next | exact ent_last)); done)) | (with_reducible (first | exact ent_keep | apply ent_trans ent_drop)))); done)))⟩
/-! ### Byte -/
abbrev bytH (g gr gb : Nat) (b : Int) : HP := vR gr g * vB gb b
theorem byt1_s (c0 : World) (F : HP) (g : Nat) (A : Option Addr) (n c p gr gb : Nat) (x : Int) (raw : List Int) (a : Nat → Addr) (b : Int) : Spec Tryd.prog c0 102 #[.pointer (some ⟨gr, 0, none⟩), .pointer (some ⟨gb, 0, none⟩)]
    (pu (PRd A n c raw a F ∧ raw[p]? = some b) (rdc g A n c p .nilIface * (bytH g gr gb x * F))) (fun _ => rdc g A n c ((p + 1 : Nat) : Int) .nilIface * (bytH g gr gb b * F)) := by
  intro w hq; obtain ⟨⟨hpr, hr⟩, hs⟩ := hq.pu; clear hq
  have hsr := hpr.sl
  simp only [star_assoc] at hs
  go_enter Tryd.func102, Tryd.ntmps102
  go_wp2_with (first
        | ((with_reducible apply pl_call hs (byte_s _ _ _ _ _ _ _ _ raw b)); (go_must (((focus (simp only [zj, zk, zl, List.append_toArray, List.nil_append, List.cons_append, Act.eval, za, zb, zc, zd, ze, zf]; (try with_reducible rfl); done)); (focus ((repeat (first | (with_reducible (first | exact ent_refl | apply ent_puR)) | ((with_reducible apply ent_front); (focus with_reducible (repeat (first | exact ent_here | apply ent_next | exact ent_last)); done)) | (with_reducible (first | exact ent_keep | apply ent_trans ent_drop)) | (focus (first | ((repeat' (first | (with_reducible assumption) | (with_reducible apply And.intro) | (focus (first | ((repeat (first | (with_reducible (first | assumption | exact slr_ro |  exact hsl _ | exact hsl2 _ | exact hsl3 _ _ _ | exact slr_nil | exact slr_row (fun _ => by simp only [go_sem]) | exact slr_one (fun _ => by simp only [go_sem]) | (apply slr_left; assumption))) | (with_reducible apply slr_next))); done) | ((repeat (first | (with_reducible (first | assumption | exact slr_ro |  exact hsl _ | exact hsl2 _ | exact hsl3 _ _ _ | exact slr_nil | exact slr_row (fun _ => by simp only [go_sem]) | exact slr_one (fun _ => by simp only [go_sem]) | (apply slr_left; assumption))) | (with_reducible (first | (apply slr_exh; focus assumption) | (apply slr_exh0; focus assumption) | apply slr_next)))); done))))); done))))); done)); (focus (simp only [go_sem]))))); clear hs; (try clear w); intro v w hq; (obtain ⟨rfl, hs⟩ := hq.pu); clear hq; (try simp only [star_assoc, star_emp, emp_star] at hs); (try simp only [Act.put, zg, zh, zi]))
        | ((with_reducible apply pl_load1 hs); (focus (simp only [Act.eval, za, zb, zc, zd, ze, zf]; (try with_reducible rfl); done)); (focus (simp only [go_sem])); (focus ((repeat (first | (with_reducible (first | assumption | exact hec _ | exact hec2 _ | exact hec3 _ | exact hec4 _ _)) | ((with_reducible apply readc_here); (focus (first | (simp only [zc, zd, ze, go_sem]; (try with_reducible rfl); done) | (go_simp; (try with_reducible rfl); done)))) | (with_reducible (first | (apply readc_left; assumption) | refine readc_exh (by assumption) ?_ | refine readc_exh0 (by assumption) ?_ | apply readc_next)))); done)); (focus rfl); simp only [Act.put, zg, zh, zi])
        | ((with_reducible apply pl_store1 hs); (focus (simp only [Act.eval, za, zb, zc, zd, ze, zf]; (try with_reducible rfl); done)); (focus (simp only [Act.eval, za, zb, zc, zd, ze, zf]; (try with_reducible rfl); done)); (focus (simp only [go_sem])); (focus with_reducible (repeat (first | exact ent_here | apply ent_next | exact ent_last)); done); (focus (first | (simp [go_sem]; done) | (simp only [go_sem]; omega) | go_size)); (focus (first | (simp only [go_sem]; done) | (simp [go_sem]; done))); clear hs; (try clear w); intro w hs; (try simp only [zg, zh, zi, clk_set, opv_s0, opv_s1, opv_s2, opv_s3, actv_s0, actv_s1, actv_s2, actv_s3, actv_s4, rnd_s0, rnd_s17, lnk_s0, lnk_s1, lnk_s2, nov_s0, nov_s1, nov_s2, intv_set, bytv_set] at hs); simp only [Act.put, zg, zh, zi]))
  refine bodyPost_end (results_none rfl _ _ _) rfl ⟨_, rfl, hs.mono (by simp only [star_assoc]; rw [show ((p + 1 : Nat) : Int) = (p : Int) + 1 by omega]; ((repeat (first | (with_reducible (first | exact ent_refl | exact ent_emp)) | ((with_reducible apply ent_front); (focus with_reducible (repeat (first | exact ent_here | apply ent_next | exact ent_last)); done)) | (with_reducible (first | exact ent_keep | apply ent_trans ent_drop)))); done))⟩
theorem byt1P_s (c0 : World) (F : HP) (g : Nat) (A : Option Addr) (n c gr gb : Nat) (x : Int) (raw : List Int) (a : Nat → Addr) : SpecP Tryd.prog c0 102 #[.pointer (some ⟨gr, 0, none⟩), .pointer (some ⟨gb, 0, none⟩)]
    (pu (PRd A n c raw a F) (rdc g A n c n .nilIface * (bytH g gr gb x * F))) (stopV a 7) (ex fun p' : Nat => rdc g A n c (p' : Int) .nilIface * (bytH g gr gb x * F)) := by
  intro w hq; obtain ⟨hpr, hs⟩ := hq.pu; clear hq
  have hsr := hpr.sl
  have hE := hpr.er
  obtain ⟨_, h1, h2, _⟩ := slr_len hsr (hs.own.mono (ent_trans ent_drop ent_drop))
  have hnm : n ≤ maxLen := by omega
  clear h1 h2
  simp only [star_assoc] at hs
  go_enter Tryd.func102, Tryd.ntmps102
  go_wp2_with (first
        | ((with_reducible apply pl_callp hs (byteP_s _ _ _ _ _ _ _ a)); (go_must (((focus (simp only [zj, zk, zl, List.append_toArray, List.nil_append, List.cons_append, Act.eval, za, zb, zc, zd, ze, zf]; (try with_reducible rfl); done)); (focus ((repeat (first | (with_reducible (first | exact ent_refl | apply ent_puR)) | ((with_reducible apply ent_front); (focus with_reducible (repeat (first | exact ent_here | apply ent_next | exact ent_last)); done)) | (with_reducible (first | exact ent_keep | apply ent_trans ent_drop)) | (focus (first | ((repeat' (first | (with_reducible assumption) | (with_reducible apply And.intro) | (focus (with_reducible (repeat (first | assumption | (apply ErrA.left; assumption) | refine ErrA.exh (by assumption) ?_ | refine ErrA.exh0 (by assumption) ?_ | apply ErrA.next | (apply ErrB.left; assumption) | refine ErrB.exh (by assumption) ?_ | refine ErrB.exh0 (by assumption) ?_ | apply ErrB.next)); done)))); done))))); done)); (focus (simp only [go_sem]))))); clear hs; (try clear w); intro w hs; (skip); (try simp only [star_assoc, star_emp, emp_star] at hs))
        | ((with_reducible apply pl_load1 hs); (focus (simp only [Act.eval, za, zb, zc, zd, ze, zf]; (try with_reducible rfl); done)); (focus (simp only [go_sem])); (focus ((repeat (first | (with_reducible (first | assumption | exact hec _ | exact hec2 _ | exact hec3 _ | exact hec4 _ _)) | ((with_reducible apply readc_here); (focus (first | (simp only [zc, zd, ze, go_sem]; (try with_reducible rfl); done) | (go_simp; (try with_reducible rfl); done)))) | (with_reducible (first | (apply readc_left; assumption) | refine readc_exh (by assumption) ?_ | refine readc_exh0 (by assumption) ?_ | apply readc_next)))); done)); (focus rfl); simp only [Act.put, zg, zh, zi]))
  exact ⟨rfl, rfl, hs.mono (ent_ex n (by simp only [star_assoc]; ((repeat (first | (with_reducible (first | exact ent_refl | exact ent_emp)) | ((with_reducible apply ent_front); (focus with_reducible (repeat (first | exact ent_here | apply ent_next | exact ent_last)); done)) | (with_reducible (first | exact ent_keep | apply ent_trans ent_drop)))); done)))⟩
/-! ### End -/
theorem end1_s (c0 : World) (F : HP) (g : Nat) (A : Option Addr) (n c gr : Nat) (raw : List Int) (a : Nat → Addr) : Spec Tryd.prog c0 93 #[.pointer (some ⟨gr, 0, none⟩)]
    (pu (PRd A n c raw a F) (rdc g A n c n .nilIface * (vR gr g * F))) (fun _ => rdc g A n c n .nilIface * (vR gr g * F)) := by
  intro w hq; obtain ⟨hpr, hs⟩ := hq.pu; clear hq
  have hsr := hpr.sl
  obtain ⟨_, h1, h2, _⟩ := slr_len hsr (hs.own.mono (ent_trans ent_drop ent_drop))
  have hnm : n ≤ maxLen := by omega
  clear h1 h2
  go_enter Tryd.func93, Tryd.ntmps93
  go_wp2_with (first
        | ((with_reducible apply pl_call hs (left_s _ _ _ _ _ _ _ _)); (go_must (((focus (simp only [zj, zk, zl, List.append_toArray, List.nil_append, List.cons_append, Act.eval, za, zb, zc, zd, ze, zf]; (try with_reducible rfl); done)); (focus ((repeat (first | (with_reducible (first | exact ent_refl | apply ent_puR)) | ((with_reducible apply ent_front); (focus with_reducible (repeat (first | exact ent_here | apply ent_next | exact ent_last)); done)) | (with_reducible (first | exact ent_keep | apply ent_trans ent_drop)) | (focus (first | ((repeat' (first | (with_reducible assumption) | (with_reducible apply And.intro) | omega)); done))))); done)); (focus (simp only [go_sem]))))); clear hs; (try clear w); intro v w hq; (obtain ⟨rfl, hs⟩ := hq.pu); clear hq; (try simp only [star_assoc, star_emp, emp_star] at hs); (try simp only [Act.put, zg, zh, zi]))
        | ((with_reducible apply pl_load1 hs); (focus (simp only [Act.eval, za, zb, zc, zd, ze, zf]; (try with_reducible rfl); done)); (focus (simp only [go_sem])); (focus ((repeat (first | (with_reducible (first | assumption | exact hec _ | exact hec2 _ | exact hec3 _ | exact hec4 _ _)) | ((with_reducible apply readc_here); (focus (first | (simp only [zc, zd, ze, go_sem]; (try with_reducible rfl); done) | (go_simp; (try with_reducible rfl); done)))) | (with_reducible (first | (apply readc_left; assumption) | refine readc_exh (by assumption) ?_ | refine readc_exh0 (by assumption) ?_ | apply readc_next)))); done)); (focus rfl); simp only [Act.put, zg, zh, zi]))
  refine bodyPost_end (results_none rfl _ _ _) rfl ⟨_, rfl, hs.mono (by ((repeat (first | (with_reducible (first | exact ent_refl | exact ent_emp)) | ((with_reducible apply ent_front); (focus with_reducible (repeat (first | exact ent_here | apply ent_next | exact ent_last)); done)) | (with_reducible (first | exact ent_keep | apply ent_trans ent_drop)))); done))⟩
theorem end1P_s (c0 : World) (F : HP) (g : Nat) (A : Option Addr) (n c p gr : Nat) (raw : List Int) (a : Nat → Addr) : SpecP Tryd.prog c0 93 #[.pointer (some ⟨gr, 0, none⟩)]
    (pu (PRd A n c raw a F ∧ p < n) (rdc g A n c p .nilIface * (vR gr g * F))) (stopV a 6) (ex fun p' : Nat => rdc g A n c (p' : Int) .nilIface * (vR gr g * F)) := by
  intro w hq; obtain ⟨⟨hpr, hp⟩, hs⟩ := hq.pu; clear hq
  have hsr := hpr.sl
  have hE := hpr.er
  obtain ⟨_, h1, h2, _⟩ := slr_len hsr (hs.own.mono (ent_trans ent_drop ent_drop))
  have hnm : n ≤ maxLen := by omega
  have hec0 := hE.ad 6 (by omega) (by omega)
  simp only [gl] at hec0
  have hz : (0 : Int) < ((n - p : Nat) : Int) := by omega
  have hpn : p ≤ n := by omega
  clear h1 h2
  go_enter Tryd.func93, Tryd.ntmps93
  go_wp2_with (first
        | ((with_reducible apply pl_call hs (left_s _ _ _ _ _ _ _ _)); (go_must (((focus (simp only [zj, zk, zl, List.append_toArray, List.nil_append, List.cons_append, Act.eval, za, zb, zc, zd, ze, zf]; (try with_reducible rfl); done)); (focus ((repeat (first | (with_reducible (first | exact ent_refl | apply ent_puR)) | ((with_reducible apply ent_front); (focus with_reducible (repeat (first | exact ent_here | apply ent_next | exact ent_last)); done)) | (with_reducible (first | exact ent_keep | apply ent_trans ent_drop)) | (focus (first | ((repeat' (first | (with_reducible assumption) | (with_reducible apply And.intro))); done))))); done)); (focus (simp only [go_sem]))))); clear hs; (try clear w); intro v w hq; (obtain ⟨rfl, hs⟩ := hq.pu); clear hq; (try simp only [star_assoc, star_emp, emp_star] at hs); (try simp only [Act.put, zg, zh, zi]))
        | ((with_reducible apply pl_load1 hs); (focus (simp only [Act.eval, za, zb, zc, zd, ze, zf]; (try with_reducible rfl); done)); (focus (simp only [go_sem])); (focus ((repeat (first | (with_reducible (first | assumption | exact hec _ | exact hec2 _ | exact hec3 _ | exact hec4 _ _)) | ((with_reducible apply readc_here); (focus (first | (simp only [zc, zd, ze, go_sem]; (try with_reducible rfl); done) | (go_simp; (try with_reducible rfl); done)))) | (with_reducible (first | (apply readc_left; assumption) | refine readc_exh (by assumption) ?_ | refine readc_exh0 (by assumption) ?_ | apply readc_next)))); done)); (focus rfl); simp only [Act.put, zg, zh, zi])
        | ((with_reducible apply pl_build hs); (focus (simp only [zj, zk, zl, Act.eval, za, zb, zc, zd, ze, zf]; (try with_reducible rfl); done)); (first | (with_reducible exact bld_19 _ _)); (focus rfl); simp only [Act.put, zg, zh, zi]))
  exact ⟨rfl, rfl, hs.mono (ent_ex p (by ((repeat (first | (with_reducible (first | exact ent_refl | exact ent_emp)) | ((with_reducible apply ent_front); (focus with_reducible (repeat (first | exact ent_here | apply ent_next | exact ent_last)); done)) | (with_reducible (first | exact ent_keep | apply ent_trans ent_drop)))); done)))⟩
/-! ### Count -/
abbrev cntH (g gr gm gl gn : Nat) (least most : Int) (v : Nat) : HP := vR gr g * (vJ gm most * (vJ gl least * vI gn (v : Int)))
theorem cnt1_s (c0 : World) (F : HP) (g : Nat) (A : Option Addr) (n c p gr gm gq gn x : Nat) (raw : List Int) (least most : Int) (a : Nat → Addr) (v k : Nat) : Spec Tryd.prog c0 106 #[.pointer (some ⟨gr, 0, none⟩), .pointer (some ⟨gm, 0, none⟩), .pointer (some ⟨gq, 0, none⟩), .pointer (some ⟨gn, 0, none⟩)]
    (pu (PRd A n c raw a F ∧ p ≤ n ∧ (∀ b, b ∈ raw → InB b) ∧ rd0 most (raw.drop p) = .ok (v, k) ∧ p + k ≤ n ∧ v ≤ (n - (p + k)) / (max least 1).toNat) (rdc g A n c p .nilIface * (cntH g gr gm gq gn least most x * F))) (fun _ => rdc g A n c ((p + k : Nat) : Int) .nilIface * (cntH g gr gm gq gn least most v * F)) := by
  intro w hq; obtain ⟨⟨hpr, hp, hI, hr, hpk, hv⟩, hs⟩ := hq.pu; clear hq
  have hsr := hpr.sl
  obtain ⟨hnl, h1, h2, _⟩ := slr_len hsr (hs.own.mono (ent_trans ent_drop ent_drop))
  have hnm : n ≤ maxLen := by omega
  clear h1 h2 hnl
  simp only [star_assoc] at hs
  unfold maxLen at hnm
  have hlf : ∀ F, Spec Tryd.prog c0 94 #[.pointer (some ⟨g, 0, none⟩)] (rdc g A n c ((p + k : Nat) : Int) .nilIface * F) (fun r => pu (r = .int .i64 ((n - (p + k) : Nat) : Int)) (rdc g A n c ((p + k : Nat) : Int) .nilIface * F)) := fun F w hs => left_s c0 F g A n c (p + k) .nilIface w (hs.mono (ent_pu ⟨hpk, hnm⟩ ent_refl))
  generalize hD : n - (p + k) = D at *
  have hD1 : D ≤ n := by omega
  generalize hP : p + k = P at *
  have hnb : ∀ F, Spec Tryd.prog c0 105 #[.pointer (some ⟨g, 0, none⟩), .int .i64 most] (pu (SlR F 1 bytv (.slice A n c) raw) (rdc g A n c p .nilIface * F)) (fun r => pu (r = .int .i64 v) (rdc g A n c (P : Int) .nilIface * F)) := fun F w hs => by
    rw [← hP]
    exact number_s c0 F g A n c p .nilIface raw most v k w (hs.mono (ent_pu_l fun h => ent_pu ⟨h, hp, hI, hr⟩ ent_refl))
  clear hr hI
  replace hP := Lib.hid hP
  replace hD := Lib.hid hD
  by_cases hl : least < 1
  · rw [show (max least 1).toNat = 1 by omega, Nat.div_one] at hv
    have hw : IntKind.i64.wrap (D : Int) = D := IntWalk.i64_in _ (by omega)
    have hv2 : (v : Int) ≤ D := by omega
    go_enter Tryd.func106, Tryd.ntmps106
    go_wp2_with (first
        | ((with_reducible apply wp_region_sl (G := (blk _ (.cells #[.slice _ _ _, _, _] _ _))) (id := 1) hs 1000); (focus with_reducible (repeat (first | exact ent_here | apply ent_next | exact ent_last)); done); (focus kernel_rfl); (focus decide +kernel); clear hs; (try clear w); intro hR w hRR hs; (try simp only [star_assoc] at hs))
        | ((with_reducible apply pl_call hs (hnb _)); (go_must (((focus (simp only [zj, zk, zl, List.append_toArray, List.nil_append, List.cons_append, Act.eval, za, zb, zc, zd, ze, zf]; (try with_reducible rfl); done)); (focus ((repeat (first | (with_reducible (first | exact ent_refl | apply ent_puR)) | ((with_reducible apply ent_front); (focus with_reducible (repeat (first | exact ent_here | apply ent_next | exact ent_last)); done)) | (with_reducible (first | exact ent_keep | apply ent_trans ent_drop)) | (focus (first | (focus (first | ((repeat (first | (with_reducible (first | assumption | exact slr_ro |  exact hsl _ | exact hsl2 _ | exact hsl3 _ _ _ | exact slr_nil | exact slr_row (fun _ => by simp only [go_sem]) | exact slr_one (fun _ => by simp only [go_sem]) | (apply slr_left; assumption))) | (with_reducible apply slr_next))); done) | ((repeat (first | (with_reducible (first | assumption | exact slr_ro |  exact hsl _ | exact hsl2 _ | exact hsl3 _ _ _ | exact slr_nil | exact slr_row (fun _ => by simp only [go_sem]) | exact slr_one (fun _ => by simp only [go_sem]) | (apply slr_left; assumption))) | (with_reducible (first | (apply slr_exh; focus assumption) | (apply slr_exh0; focus assumption) | apply slr_next)))); done))))))); done)); (focus (simp only [go_sem]))))); clear hs; (try clear w); intro v w hq; (obtain ⟨rfl, hs⟩ := hq.pu); clear hq; (try simp only [star_assoc, star_emp, emp_star] at hs); (try simp only [Act.put, zg, zh, zi]))
        | ((with_reducible apply mx_call hs (hlf _)); (go_must (((focus (simp only [zj, zk, zl, List.append_toArray, List.nil_append, List.cons_append, Act.eval, za, zb, zc, zd, ze, zf]; (try with_reducible rfl); done)); (focus ((repeat (first | (with_reducible (first | exact ent_refl | apply ent_puR)) | ((with_reducible apply ent_front); (focus with_reducible (repeat (first | exact ent_here | apply ent_next | exact ent_last)); done)) | (with_reducible (first | exact ent_keep | apply ent_trans ent_drop)) | (fail))); done)); (focus (simp only [go_sem])); (focus (intros; with_reducible (refine in_of_sat (by assumption) ?_; repeat (first | exact ent_exh_here | exact ent_last | refine ent_pu_l (fun _ => ?_) | refine ent_ex_l (fun _ => ?_) | apply ent_exh_next)); done))))); clear hs; (try clear w); intro v w hq; (obtain ⟨rfl, hs⟩ := hq.pu); clear hq; (try simp only [star_assoc, star_emp, emp_star] at hs); (try simp only [Act.put, zg, zh, zi]))
        | ((with_reducible apply pl_load1 hs); (focus (simp only [Act.eval, za, zb, zc, zd, ze, zf]; (try with_reducible rfl); done)); (focus (simp only [go_sem])); (focus ((repeat (first | (with_reducible (first | assumption | exact hec _ | exact hec2 _ | exact hec3 _ | exact hec4 _ _)) | ((with_reducible apply readc_here); (focus (first | (simp only [zc, zd, ze, go_sem]; (try with_reducible rfl); done) | (go_simp; (try with_reducible rfl); done)))) | (with_reducible (first | (apply readc_left; assumption) | refine readc_exh (by assumption) ?_ | refine readc_exh0 (by assumption) ?_ | apply readc_next)))); done)); (focus rfl); simp only [Act.put, zg, zh, zi])
        | ((with_reducible apply pl_store1 hs); (focus (simp only [Act.eval, za, zb, zc, zd, ze, zf]; (try with_reducible rfl); done)); (focus (simp only [Act.eval, za, zb, zc, zd, ze, zf]; (try with_reducible rfl); done)); (focus (simp only [go_sem])); (focus with_reducible (repeat (first | exact ent_here | apply ent_next | exact ent_last)); done); (focus (first | (simp [go_sem]; done) | (simp only [go_sem]; omega) | go_size)); (focus (first | (simp only [go_sem]; done) | (simp [go_sem]; done))); clear hs; (try clear w); intro w hs; (try simp only [zg, zh, zi, clk_set, opv_s0, opv_s1, opv_s2, opv_s3, actv_s0, actv_s1, actv_s2, actv_s3, actv_s4, rnd_s0, rnd_s17, lnk_s0, lnk_s1, lnk_s2, nov_s0, nov_s1, nov_s2, intv_set, bytv_set] at hs); simp only [Act.put, zg, zh, zi])
        | ((with_reducible apply mix_end hRR hs); (focus with_reducible (repeat (first | exact ent_here | apply ent_next | exact ent_last)); done); clear hs; (try clear w); intro w hs; (try simp only [star_assoc, star_emp, emp_star] at hs); clear hRR hR)
        | ((with_reducible apply mx_load1 hRR); (focus (simp only [Act.eval, za, zb, zc, zd, ze, zf]; (try with_reducible rfl); done)); (focus (simp only [go_sem])); (focus ((repeat (first | (with_reducible (first | assumption | exact hec _ | exact hec2 _ | exact hec3 _ | exact hec4 _ _)) | ((with_reducible apply readc_here); (focus (first | (simp only [zc, zd, ze, go_sem]; (try with_reducible rfl); done) | (go_simp; (try with_reducible rfl); done)))) | (with_reducible (first | (apply readc_left; assumption) | refine readc_exh (by assumption) ?_ | refine readc_exh0 (by assumption) ?_ | apply readc_next)))); done)); simp only [Act.put, zg, zh, zi])
        | ((with_reducible refine mix_float ?_ ?_ ?_ (fun h hk => ?_) ?_); rotate_left 1; (focus rfl); (focus rfl); (focus (go_simp; (try (rw [if_pos (by omega)]; (try go_simp))); (try simp (disch := omega) only [IntWalk.i64_in, IntWalk.i32_in]); (try with_reducible rfl); done)); simp only [Act.put, zg, zh, zi]))
    refine bodyPost_end (results_none rfl _ _ _) rfl ⟨_, rfl, hs.mono (by simp only [star_assoc]; ((repeat (first | (with_reducible (first | exact ent_refl | exact ent_emp)) | ((with_reducible apply ent_front); (focus with_reducible (repeat (first | exact ent_here | apply ent_next | exact ent_last)); done)) | (with_reducible (first | exact ent_keep | apply ent_trans ent_drop)))); done))⟩
  · have hl2 : 1 ≤ least := by omega
    rw [show (max least 1).toNat = least.toNat by omega] at hv
    have hdv : Int.tdiv (D : Int) least = ((D / least.toNat : Nat) : Int) := by
      obtain ⟨L, rfl⟩ : ∃ L : Nat, least = L := ⟨least.toNat, by omega⟩
      rw [Int.toNat_natCast]
      exact (Int.ofNat_tdiv D L).symm
    have hdl : D / least.toNat ≤ D := Nat.div_le_self _ _
    generalize D / least.toNat = q at *
    have hw : IntKind.i64.wrap (q : Int) = q := IntWalk.i64_in _ (by omega)
    have hv2 : (v : Int) ≤ q := by omega
    have hl0 : least ≠ 0 := by omega
    go_enter Tryd.func106, Tryd.ntmps106
    go_wp2_with (first
        | ((with_reducible apply wp_region_sl (G := (blk _ (.cells #[.slice _ _ _, _, _] _ _))) (id := 1) hs 1000); (focus with_reducible (repeat (first | exact ent_here | apply ent_next | exact ent_last)); done); (focus kernel_rfl); (focus decide +kernel); clear hs; (try clear w); intro hR w hRR hs; (try simp only [star_assoc] at hs))
        | ((with_reducible apply pl_call hs (hnb _)); (go_must (((focus (simp only [zj, zk, zl, List.append_toArray, List.nil_append, List.cons_append, Act.eval, za, zb, zc, zd, ze, zf]; (try with_reducible rfl); done)); (focus ((repeat (first | (with_reducible (first | exact ent_refl | apply ent_puR)) | ((with_reducible apply ent_front); (focus with_reducible (repeat (first | exact ent_here | apply ent_next | exact ent_last)); done)) | (with_reducible (first | exact ent_keep | apply ent_trans ent_drop)) | (focus (first | (focus (first | ((repeat (first | (with_reducible (first | assumption | exact slr_ro |  exact hsl _ | exact hsl2 _ | exact hsl3 _ _ _ | exact slr_nil | exact slr_row (fun _ => by simp only [go_sem]) | exact slr_one (fun _ => by simp only [go_sem]) | (apply slr_left; assumption))) | (with_reducible apply slr_next))); done) | ((repeat (first | (with_reducible (first | assumption | exact slr_ro |  exact hsl _ | exact hsl2 _ | exact hsl3 _ _ _ | exact slr_nil | exact slr_row (fun _ => by simp only [go_sem]) | exact slr_one (fun _ => by simp only [go_sem]) | (apply slr_left; assumption))) | (with_reducible (first | (apply slr_exh; focus assumption) | (apply slr_exh0; focus assumption) | apply slr_next)))); done))))))); done)); (focus (simp only [go_sem]))))); clear hs; (try clear w); intro v w hq; (obtain ⟨rfl, hs⟩ := hq.pu); clear hq; (try simp only [star_assoc, star_emp, emp_star] at hs); (try simp only [Act.put, zg, zh, zi]))
        | ((with_reducible apply mx_call hs (hlf _)); (go_must (((focus (simp only [zj, zk, zl, List.append_toArray, List.nil_append, List.cons_append, Act.eval, za, zb, zc, zd, ze, zf]; (try with_reducible rfl); done)); (focus ((repeat (first | (with_reducible (first | exact ent_refl | apply ent_puR)) | ((with_reducible apply ent_front); (focus with_reducible (repeat (first | exact ent_here | apply ent_next | exact ent_last)); done)) | (with_reducible (first | exact ent_keep | apply ent_trans ent_drop)) | (fail))); done)); (focus (simp only [go_sem])); (focus (intros; with_reducible (refine in_of_sat (by assumption) ?_; repeat (first | exact ent_exh_here | exact ent_last | refine ent_pu_l (fun _ => ?_) | refine ent_ex_l (fun _ => ?_) | apply ent_exh_next)); done))))); clear hs; (try clear w); intro v w hq; (obtain ⟨rfl, hs⟩ := hq.pu); clear hq; (try simp only [star_assoc, star_emp, emp_star] at hs); (try simp only [Act.put, zg, zh, zi]))
        | ((with_reducible apply pl_load1 hs); (focus (simp only [Act.eval, za, zb, zc, zd, ze, zf]; (try with_reducible rfl); done)); (focus (simp only [go_sem])); (focus ((repeat (first | (with_reducible (first | assumption | exact hec _ | exact hec2 _ | exact hec3 _ | exact hec4 _ _)) | ((with_reducible apply readc_here); (focus (first | (simp only [zc, zd, ze, go_sem]; (try with_reducible rfl); done) | (go_simp; (try with_reducible rfl); done)))) | (with_reducible (first | (apply readc_left; assumption) | refine readc_exh (by assumption) ?_ | refine readc_exh0 (by assumption) ?_ | apply readc_next)))); done)); (focus rfl); simp only [Act.put, zg, zh, zi])
        | ((with_reducible apply pl_store1 hs); (focus (simp only [Act.eval, za, zb, zc, zd, ze, zf]; (try with_reducible rfl); done)); (focus (simp only [Act.eval, za, zb, zc, zd, ze, zf]; (try with_reducible rfl); done)); (focus (simp only [go_sem])); (focus with_reducible (repeat (first | exact ent_here | apply ent_next | exact ent_last)); done); (focus (first | (simp [go_sem]; done) | (simp only [go_sem]; omega) | go_size)); (focus (first | (simp only [go_sem]; done) | (simp [go_sem]; done))); clear hs; (try clear w); intro w hs; (try simp only [zg, zh, zi, clk_set, opv_s0, opv_s1, opv_s2, opv_s3, actv_s0, actv_s1, actv_s2, actv_s3, actv_s4, rnd_s0, rnd_s17, lnk_s0, lnk_s1, lnk_s2, nov_s0, nov_s1, nov_s2, intv_set, bytv_set] at hs); simp only [Act.put, zg, zh, zi])
        | ((with_reducible apply mix_end hRR hs); (focus with_reducible (repeat (first | exact ent_here | apply ent_next | exact ent_last)); done); clear hs; (try clear w); intro w hs; (try simp only [star_assoc, star_emp, emp_star] at hs); clear hRR hR)
        | ((with_reducible apply mx_load1 hRR); (focus (simp only [Act.eval, za, zb, zc, zd, ze, zf]; (try with_reducible rfl); done)); (focus (simp only [go_sem])); (focus ((repeat (first | (with_reducible (first | assumption | exact hec _ | exact hec2 _ | exact hec3 _ | exact hec4 _ _)) | ((with_reducible apply readc_here); (focus (first | (simp only [zc, zd, ze, go_sem]; (try with_reducible rfl); done) | (go_simp; (try with_reducible rfl); done)))) | (with_reducible (first | (apply readc_left; assumption) | refine readc_exh (by assumption) ?_ | refine readc_exh0 (by assumption) ?_ | apply readc_next)))); done)); simp only [Act.put, zg, zh, zi])
        | ((with_reducible refine mix_float ?_ ?_ ?_ (fun h hk => ?_) ?_); rotate_left 1; (focus rfl); (focus rfl); (focus (go_simp; (try (rw [if_pos (by omega)]; (try go_simp))); (try simp (disch := omega) only [IntWalk.i64_in, IntWalk.i32_in]); (try with_reducible rfl); done)); simp only [Act.put, zg, zh, zi]))
    refine bodyPost_end (results_none rfl _ _ _) rfl ⟨⟨_, rfl⟩, hs.mono (by simp only [star_assoc]; ((repeat (first | (with_reducible (first | exact ent_refl | exact ent_emp)) | ((with_reducible apply ent_front); (focus with_reducible (repeat (first | exact ent_here | apply ent_next | exact ent_last)); done)) | (with_reducible (first | exact ent_keep | apply ent_trans ent_drop)))); done))⟩
theorem cnt1P_s (c0 : World) (F : HP) (g : Nat) (A : Option Addr) (n c p gr gm gq gn x : Nat) (raw : List Int) (least most : Int) (a : Nat → Addr) (v k : Nat) : SpecP Tryd.prog c0 106 #[.pointer (some ⟨gr, 0, none⟩), .pointer (some ⟨gm, 0, none⟩), .pointer (some ⟨gq, 0, none⟩), .pointer (some ⟨gn, 0, none⟩)]
    (pu (PRd A n c raw a F ∧ p ≤ n ∧ (∀ b, b ∈ raw → InB b) ∧ rd0 most (raw.drop p) = .ok (v, k) ∧ p + k ≤ n ∧ (n - (p + k)) / (max least 1).toNat < v) (rdc g A n c p .nilIface * (cntH g gr gm gq gn least most x * F))) (stopV a 7) (ex fun p' : Nat => rdc g A n c (p' : Int) .nilIface * (cntH g gr gm gq gn least most x * F)) := by
  intro w hq; obtain ⟨⟨hpr, hp, hI, hr, hpk, hv⟩, hs⟩ := hq.pu; clear hq
  have hsr := hpr.sl
  have hE := hpr.er
  have hec0 := hE.ad 7 (by omega) (by omega)
  simp only [gl] at hec0
  obtain ⟨hnl, h1, h2, _⟩ := slr_len hsr (hs.own.mono (ent_trans ent_drop ent_drop))
  have hnm : n ≤ maxLen := by omega
  clear h1 h2 hnl
  simp only [star_assoc] at hs
  unfold maxLen at hnm
  have hlf : ∀ F, Spec Tryd.prog c0 94 #[.pointer (some ⟨g, 0, none⟩)] (rdc g A n c ((p + k : Nat) : Int) .nilIface * F) (fun r => pu (r = .int .i64 ((n - (p + k) : Nat) : Int)) (rdc g A n c ((p + k : Nat) : Int) .nilIface * F)) := fun F w hs => left_s c0 F g A n c (p + k) .nilIface w (hs.mono (ent_pu ⟨hpk, hnm⟩ ent_refl))
  generalize hD : n - (p + k) = D at *
  have hD1 : D ≤ n := by omega
  generalize hP : p + k = P at *
  have hnb : ∀ F, Spec Tryd.prog c0 105 #[.pointer (some ⟨g, 0, none⟩), .int .i64 most] (pu (SlR F 1 bytv (.slice A n c) raw) (rdc g A n c p .nilIface * F)) (fun r => pu (r = .int .i64 v) (rdc g A n c (P : Int) .nilIface * F)) := fun F w hs => by
    rw [← hP]
    exact number_s c0 F g A n c p .nilIface raw most v k w (hs.mono (ent_pu_l fun h => ent_pu ⟨h, hp, hI, hr⟩ ent_refl))
  clear hr hI
  replace hP := Lib.hid hP
  replace hD := Lib.hid hD
  by_cases hl : least < 1
  · rw [show (max least 1).toNat = 1 by omega, Nat.div_one] at hv
    have hw : IntKind.i64.wrap (D : Int) = D := IntWalk.i64_in _ (by omega)
    have hv2 : (D : Int) < v := by omega
    go_enter Tryd.func106, Tryd.ntmps106
    go_wp2_with (first
        | ((with_reducible apply wp_region_sl (G := (blk _ (.cells #[.slice _ _ _, _, _] _ _))) (id := 1) hs 1000); (focus with_reducible (repeat (first | exact ent_here | apply ent_next | exact ent_last)); done); (focus kernel_rfl); (focus decide +kernel); clear hs; (try clear w); intro hR w hRR hs; (try simp only [star_assoc] at hs))
        | ((with_reducible apply pl_call hs (hnb _)); (go_must (((focus (simp only [zj, zk, zl, List.append_toArray, List.nil_append, List.cons_append, Act.eval, za, zb, zc, zd, ze, zf]; (try with_reducible rfl); done)); (focus ((repeat (first | (with_reducible (first | exact ent_refl | apply ent_puR)) | ((with_reducible apply ent_front); (focus with_reducible (repeat (first | exact ent_here | apply ent_next | exact ent_last)); done)) | (with_reducible (first | exact ent_keep | apply ent_trans ent_drop)) | (focus (first | (focus (first | ((repeat (first | (with_reducible (first | assumption | exact slr_ro |  exact hsl _ | exact hsl2 _ | exact hsl3 _ _ _ | exact slr_nil | exact slr_row (fun _ => by simp only [go_sem]) | exact slr_one (fun _ => by simp only [go_sem]) | (apply slr_left; assumption))) | (with_reducible apply slr_next))); done) | ((repeat (first | (with_reducible (first | assumption | exact slr_ro |  exact hsl _ | exact hsl2 _ | exact hsl3 _ _ _ | exact slr_nil | exact slr_row (fun _ => by simp only [go_sem]) | exact slr_one (fun _ => by simp only [go_sem]) | (apply slr_left; assumption))) | (with_reducible (first | (apply slr_exh; focus assumption) | (apply slr_exh0; focus assumption) | apply slr_next)))); done))))))); done)); (focus (simp only [go_sem]))))); clear hs; (try clear w); intro v w hq; (obtain ⟨rfl, hs⟩ := hq.pu); clear hq; (try simp only [star_assoc, star_emp, emp_star] at hs); (try simp only [Act.put, zg, zh, zi]))
        | ((with_reducible apply mx_call hs (hlf _)); (go_must (((focus (simp only [zj, zk, zl, List.append_toArray, List.nil_append, List.cons_append, Act.eval, za, zb, zc, zd, ze, zf]; (try with_reducible rfl); done)); (focus ((repeat (first | (with_reducible (first | exact ent_refl | apply ent_puR)) | ((with_reducible apply ent_front); (focus with_reducible (repeat (first | exact ent_here | apply ent_next | exact ent_last)); done)) | (with_reducible (first | exact ent_keep | apply ent_trans ent_drop)) | (fail))); done)); (focus (simp only [go_sem])); (focus (intros; with_reducible (refine in_of_sat (by assumption) ?_; repeat (first | exact ent_exh_here | exact ent_last | refine ent_pu_l (fun _ => ?_) | refine ent_ex_l (fun _ => ?_) | apply ent_exh_next)); done))))); clear hs; (try clear w); intro v w hq; (obtain ⟨rfl, hs⟩ := hq.pu); clear hq; (try simp only [star_assoc, star_emp, emp_star] at hs); (try simp only [Act.put, zg, zh, zi]))
        | ((with_reducible apply pl_load1 hs); (focus (simp only [Act.eval, za, zb, zc, zd, ze, zf]; (try with_reducible rfl); done)); (focus (simp only [go_sem])); (focus ((repeat (first | (with_reducible (first | assumption | exact hec _ | exact hec2 _ | exact hec3 _ | exact hec4 _ _)) | ((with_reducible apply readc_here); (focus (first | (simp only [zc, zd, ze, go_sem]; (try with_reducible rfl); done) | (go_simp; (try with_reducible rfl); done)))) | (with_reducible (first | (apply readc_left; assumption) | refine readc_exh (by assumption) ?_ | refine readc_exh0 (by assumption) ?_ | apply readc_next)))); done)); (focus rfl); simp only [Act.put, zg, zh, zi])
        | ((with_reducible apply pl_build hs); (focus (simp only [zj, zk, zl, Act.eval, za, zb, zc, zd, ze, zf]; (try with_reducible rfl); done)); (first | (with_reducible exact bld_19 _ _)); (focus rfl); simp only [Act.put, zg, zh, zi])
        | ((with_reducible apply mix_end hRR hs); (focus with_reducible (repeat (first | exact ent_here | apply ent_next | exact ent_last)); done); clear hs; (try clear w); intro w hs; (try simp only [star_assoc, star_emp, emp_star] at hs); clear hRR hR)
        | ((with_reducible apply mx_load1 hRR); (focus (simp only [Act.eval, za, zb, zc, zd, ze, zf]; (try with_reducible rfl); done)); (focus (simp only [go_sem])); (focus ((repeat (first | (with_reducible (first | assumption | exact hec _ | exact hec2 _ | exact hec3 _ | exact hec4 _ _)) | ((with_reducible apply readc_here); (focus (first | (simp only [zc, zd, ze, go_sem]; (try with_reducible rfl); done) | (go_simp; (try with_reducible rfl); done)))) | (with_reducible (first | (apply readc_left; assumption) | refine readc_exh (by assumption) ?_ | refine readc_exh0 (by assumption) ?_ | apply readc_next)))); done)); simp only [Act.put, zg, zh, zi])
        | ((with_reducible refine mix_float ?_ ?_ ?_ (fun h hk => ?_) ?_); rotate_left 1; (focus rfl); (focus rfl); (focus (go_simp; (try (rw [if_pos (by omega)]; (try go_simp))); (try simp (disch := omega) only [IntWalk.i64_in, IntWalk.i32_in]); (try with_reducible rfl); done)); simp only [Act.put, zg, zh, zi]))
    exact ⟨rfl, rfl, hs.mono (ent_ex P (by simp only [star_assoc]; ((repeat (first | (with_reducible (first | exact ent_refl | exact ent_emp)) | ((with_reducible apply ent_front); (focus with_reducible (repeat (first | exact ent_here | apply ent_next | exact ent_last)); done)) | (with_reducible (first | exact ent_keep | apply ent_trans ent_drop)))); done)))⟩
  · have hl2 : 1 ≤ least := by omega
    rw [show (max least 1).toNat = least.toNat by omega] at hv
    have hdv : Int.tdiv (D : Int) least = ((D / least.toNat : Nat) : Int) := by
      obtain ⟨L, rfl⟩ : ∃ L : Nat, least = L := ⟨least.toNat, by omega⟩
      rw [Int.toNat_natCast]
      exact (Int.ofNat_tdiv D L).symm
    have hdl : D / least.toNat ≤ D := Nat.div_le_self _ _
    generalize D / least.toNat = q at *
    have hw : IntKind.i64.wrap (q : Int) = q := IntWalk.i64_in _ (by omega)
    have hv2 : (q : Int) < v := by omega
    have hl0 : least ≠ 0 := by omega
    go_enter Tryd.func106, Tryd.ntmps106
    go_wp2_with (first
        | ((with_reducible apply wp_region_sl (G := (blk _ (.cells #[.slice _ _ _, _, _] _ _))) (id := 1) hs 1000); (focus with_reducible (repeat (first | exact ent_here | apply ent_next | exact ent_last)); done); (focus kernel_rfl); (focus decide +kernel); clear hs; (try clear w); intro hR w hRR hs; (try simp only [star_assoc] at hs))
        | ((with_reducible apply pl_call hs (hnb _)); (go_must (((focus (simp only [zj, zk, zl, List.append_toArray, List.nil_append, List.cons_append, Act.eval, za, zb, zc, zd, ze, zf]; (try with_reducible rfl); done)); (focus ((repeat (first | (with_reducible (first | exact ent_refl | apply ent_puR)) | ((with_reducible apply ent_front); (focus with_reducible (repeat (first | exact ent_here | apply ent_next | exact ent_last)); done)) | (with_reducible (first | exact ent_keep | apply ent_trans ent_drop)) | (focus (first | (focus (first | ((repeat (first | (with_reducible (first | assumption | exact slr_ro |  exact hsl _ | exact hsl2 _ | exact hsl3 _ _ _ | exact slr_nil | exact slr_row (fun _ => by simp only [go_sem]) | exact slr_one (fun _ => by simp only [go_sem]) | (apply slr_left; assumption))) | (with_reducible apply slr_next))); done) | ((repeat (first | (with_reducible (first | assumption | exact slr_ro |  exact hsl _ | exact hsl2 _ | exact hsl3 _ _ _ | exact slr_nil | exact slr_row (fun _ => by simp only [go_sem]) | exact slr_one (fun _ => by simp only [go_sem]) | (apply slr_left; assumption))) | (with_reducible (first | (apply slr_exh; focus assumption) | (apply slr_exh0; focus assumption) | apply slr_next)))); done))))))); done)); (focus (simp only [go_sem]))))); clear hs; (try clear w); intro v w hq; (obtain ⟨rfl, hs⟩ := hq.pu); clear hq; (try simp only [star_assoc, star_emp, emp_star] at hs); (try simp only [Act.put, zg, zh, zi]))
        | ((with_reducible apply mx_call hs (hlf _)); (go_must (((focus (simp only [zj, zk, zl, List.append_toArray, List.nil_append, List.cons_append, Act.eval, za, zb, zc, zd, ze, zf]; (try with_reducible rfl); done)); (focus ((repeat (first | (with_reducible (first | exact ent_refl | apply ent_puR)) | ((with_reducible apply ent_front); (focus with_reducible (repeat (first | exact ent_here | apply ent_next | exact ent_last)); done)) | (with_reducible (first | exact ent_keep | apply ent_trans ent_drop)) | (fail))); done)); (focus (simp only [go_sem])); (focus (intros; with_reducible (refine in_of_sat (by assumption) ?_; repeat (first | exact ent_exh_here | exact ent_last | refine ent_pu_l (fun _ => ?_) | refine ent_ex_l (fun _ => ?_) | apply ent_exh_next)); done))))); clear hs; (try clear w); intro v w hq; (obtain ⟨rfl, hs⟩ := hq.pu); clear hq; (try simp only [star_assoc, star_emp, emp_star] at hs); (try simp only [Act.put, zg, zh, zi]))
        | ((with_reducible apply pl_load1 hs); (focus (simp only [Act.eval, za, zb, zc, zd, ze, zf]; (try with_reducible rfl); done)); (focus (simp only [go_sem])); (focus ((repeat (first | (with_reducible (first | assumption | exact hec _ | exact hec2 _ | exact hec3 _ | exact hec4 _ _)) | ((with_reducible apply readc_here); (focus (first | (simp only [zc, zd, ze, go_sem]; (try with_reducible rfl); done) | (go_simp; (try with_reducible rfl); done)))) | (with_reducible (first | (apply readc_left; assumption) | refine readc_exh (by assumption) ?_ | refine readc_exh0 (by assumption) ?_ | apply readc_next)))); done)); (focus rfl); simp only [Act.put, zg, zh, zi])
        | ((with_reducible apply pl_build hs); (focus (simp only [zj, zk, zl, Act.eval, za, zb, zc, zd, ze, zf]; (try with_reducible rfl); done)); (first | (with_reducible exact bld_19 _ _)); (focus rfl); simp only [Act.put, zg, zh, zi])
        | ((with_reducible apply mix_end hRR hs); (focus with_reducible (repeat (first | exact ent_here | apply ent_next | exact ent_last)); done); clear hs; (try clear w); intro w hs; (try simp only [star_assoc, star_emp, emp_star] at hs); clear hRR hR)
        | ((with_reducible apply mx_load1 hRR); (focus (simp only [Act.eval, za, zb, zc, zd, ze, zf]; (try with_reducible rfl); done)); (focus (simp only [go_sem])); (focus ((repeat (first | (with_reducible (first | assumption | exact hec _ | exact hec2 _ | exact hec3 _ | exact hec4 _ _)) | ((with_reducible apply readc_here); (focus (first | (simp only [zc, zd, ze, go_sem]; (try with_reducible rfl); done) | (go_simp; (try with_reducible rfl); done)))) | (with_reducible (first | (apply readc_left; assumption) | refine readc_exh (by assumption) ?_ | refine readc_exh0 (by assumption) ?_ | apply readc_next)))); done)); simp only [Act.put, zg, zh, zi])
        | ((with_reducible refine mix_float ?_ ?_ ?_ (fun h hk => ?_) ?_); rotate_left 1; (focus rfl); (focus rfl); (focus (go_simp; (try (rw [if_pos (by omega)]; (try go_simp))); (try simp (disch := omega) only [IntWalk.i64_in, IntWalk.i32_in]); (try with_reducible rfl); done)); simp only [Act.put, zg, zh, zi]))
    exact ⟨rfl, rfl, hs.mono (ent_ex P (by simp only [star_assoc]; ((repeat (first | (with_reducible (first | exact ent_refl | exact ent_emp)) | ((with_reducible apply ent_front); (focus with_reducible (repeat (first | exact ent_here | apply ent_next | exact ent_last)); done)) | (with_reducible (first | exact ent_keep | apply ent_trans ent_drop)))); done)))⟩
theorem cnt1Q_s (c0 : World) (F : HP) (g : Nat) (A : Option Addr) (n c p gr gm gq gn x : Nat) (raw : List Int) (least most : Int) (a : Nat → Addr) (k : Nat) : SpecP Tryd.prog c0 106 #[.pointer (some ⟨gr, 0, none⟩), .pointer (some ⟨gm, 0, none⟩), .pointer (some ⟨gq, 0, none⟩), .pointer (some ⟨gn, 0, none⟩)]
    (pu (PRd A n c raw a F ∧ p ≤ n ∧ (∀ b, b ∈ raw → InB b) ∧ rd0 most (raw.drop p) = .error k) (rdc g A n c p .nilIface * (cntH g gr gm gq gn least most x * F))) (stopV a k) (ex fun p' : Nat => rdc g A n c (p' : Int) .nilIface * (cntH g gr gm gq gn least most x * F)) := by
  intro w hq; obtain ⟨⟨hpr, hp, hI, hr⟩, hs⟩ := hq.pu; clear hq
  have hsr := hpr.sl
  have hE := hpr.er
  simp only [star_assoc] at hs
  go_enter Tryd.func106, Tryd.ntmps106
  go_wp2_with (first
        | ((with_reducible apply pl_callp hs (numberP_s _ _ _ _ _ _ _ _ raw most a k)); (go_must (((focus (simp only [zj, zk, zl, List.append_toArray, List.nil_append, List.cons_append, Act.eval, za, zb, zc, zd, ze, zf]; (try with_reducible rfl); done)); (focus ((repeat (first | (with_reducible (first | exact ent_refl | apply ent_puR)) | ((with_reducible apply ent_front); (focus with_reducible (repeat (first | exact ent_here | apply ent_next | exact ent_last)); done)) | (with_reducible (first | exact ent_keep | apply ent_trans ent_drop)) | (focus (first | ((repeat' (first | (with_reducible assumption) | (with_reducible apply And.intro) | (focus (first | ((repeat (first | (with_reducible (first | assumption | exact slr_ro |  exact hsl _ | exact hsl2 _ | exact hsl3 _ _ _ | exact slr_nil | exact slr_row (fun _ => by simp only [go_sem]) | exact slr_one (fun _ => by simp only [go_sem]) | (apply slr_left; assumption))) | (with_reducible apply slr_next))); done) | ((repeat (first | (with_reducible (first | assumption | exact slr_ro |  exact hsl _ | exact hsl2 _ | exact hsl3 _ _ _ | exact slr_nil | exact slr_row (fun _ => by simp only [go_sem]) | exact slr_one (fun _ => by simp only [go_sem]) | (apply slr_left; assumption))) | (with_reducible (first | (apply slr_exh; focus assumption) | (apply slr_exh0; focus assumption) | apply slr_next)))); done))) | (focus (with_reducible (repeat (first | assumption | (apply ErrA.left; assumption) | refine ErrA.exh (by assumption) ?_ | refine ErrA.exh0 (by assumption) ?_ | apply ErrA.next | (apply ErrB.left; assumption) | refine ErrB.exh (by assumption) ?_ | refine ErrB.exh0 (by assumption) ?_ | apply ErrB.next)); done)))); done))))); done)); (focus (simp only [go_sem]))))); clear hs; (try clear w); intro w hs; (skip); (try simp only [star_assoc, star_emp, emp_star] at hs))
        | ((with_reducible apply pl_load1 hs); (focus (simp only [Act.eval, za, zb, zc, zd, ze, zf]; (try with_reducible rfl); done)); (focus (simp only [go_sem])); (focus ((repeat (first | (with_reducible (first | assumption | exact hec _ | exact hec2 _ | exact hec3 _ | exact hec4 _ _)) | ((with_reducible apply readc_here); (focus (first | (simp only [zc, zd, ze, go_sem]; (try with_reducible rfl); done) | (go_simp; (try with_reducible rfl); done)))) | (with_reducible (first | (apply readc_left; assumption) | refine readc_exh (by assumption) ?_ | refine readc_exh0 (by assumption) ?_ | apply readc_next)))); done)); (focus rfl); simp only [Act.put, zg, zh, zi]))
  obtain ⟨p', hs⟩ := hs.ex
  exact ⟨rfl, rfl, hs.mono (ent_ex p' (by simp only [star_assoc]; ((repeat (first | (with_reducible (first | exact ent_refl | exact ent_emp)) | ((with_reducible apply ent_front); (focus with_reducible (repeat (first | exact ent_here | apply ent_next | exact ent_last)); done)) | (with_reducible (first | exact ent_keep | apply ent_trans ent_drop)))); done)))⟩
/-! ### Text -/
end Go.Proofs.YtegebjflhhbmiaaDoor
