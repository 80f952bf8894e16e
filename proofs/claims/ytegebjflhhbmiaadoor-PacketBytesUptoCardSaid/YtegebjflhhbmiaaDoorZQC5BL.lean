/- The law Back. -/
import Derived.Test.YtegebjflhhbmiaaDoorZQC5BK
set_option linter.unusedSimpArgs false
set_option linter.unusedVariables false
namespace Go.Proofs.YtegebjflhhbmiaaDoor
open Go Go.RowKit

theorem encMsg_le {d : MsgD} {l : List ActD} (h : okM d l = true) (hI : MsgI d l) (hl : l.length ≤ 1000000) : (encMsg (mpOf d l)).length ≤ 1500 + 110 * l.length := by
  obtain ⟨⟨k1, k2⟩, ⟨f1, f2⟩, e1, _, _, _, hA, hD, hC⟩ := okM_iff h
  have hmst : mst = 9223372036854775807 := rfl
  have i3 := hI.ep
  unfold InI at i3
  have g1 := form9 (c := d.frm) (by omega)
  have g2 := form9 (c := d.ep) (by omega)
  have g3 : (encActs l).length ≤ 9 + l.length * 110 := by
    unfold encActs
    have h1 := acts_le fun a ha => ⟨hA a ha, hI.a a ha⟩
    have h3 := form9 (c := (l.length : Int)) (by omega)
    rw [Int.toNat_natCast] at h3
    rw [List.length_append]
    omega
  have g4 := encRow_len (c := d.c) fun i hi => by have := hI.c i hi; unfold InI at this; omega
  have g5 := encRounds_len fun i hi => ⟨hD i hi, hI.r i hi⟩
  have hb : (encBody d.kind (d.c, l, d.r)).length ≤ 1370 + 110 * l.length := by
    unfold encBody
    dsimp only
    split
    · omega
    · split
      · omega
      · split
        · rw [List.length_append]; omega
        · omega
  show ([d.kind] ++ (form d.frm.toNat ++ (form d.ep.toNat ++ encBody d.kind (d.c, l, d.r)))).length ≤ _
  rw [List.length_append, List.length_append, List.length_append]
  simp only [List.length_cons, List.length_nil]
  omega
end Go.Proofs.YtegebjflhhbmiaaDoor
