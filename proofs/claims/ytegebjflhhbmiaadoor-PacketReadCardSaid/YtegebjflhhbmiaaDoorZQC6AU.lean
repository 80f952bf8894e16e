/- One more operation of a walk: a slice built of several elements. -/
import Derived.Test.YtegebjflhhbmiaaDoorZQC6AI
import Derived.Test.YtegebjflhhbmiaaDoorZQC6AG
set_option linter.unusedSimpArgs false
set_option linter.unusedVariables false
namespace Go.Proofs.YtegebjflhhbmiaaDoor
open Go Go.RowKit

section
variable {P : Program} {c : World} {H : HP} {w : World} {ops : Array Oper} {Q : Exit → Act → World → Prop} {a : Act} {dst : Option Tmp} {ty : TypeId} {pos : String} {aft : Array Edge} {gd : Option (Nat × Bool)} {K : Act → World → Prop} {α : Type} {t E : TypeId} {ps : Array (Nat × Operand)} {n s : Nat} {enc : α → Array Value} {cs : Array Value} {rest : List Oper} {N : Nat} {hR : Hp}
theorem ow_bsL (l : List α) (hs : Sat c H w) (hr : ∀ w, (execOp a.eval ⟨dst, .buildSlice t n ps, ty, pos, aft, gd⟩).run P w = .ok (.value (.slice (some ⟨w.heap.size, 0, none⟩) n n)) (w.alloc (.cells cs E))) (hc : cs.toList = flatL enc l) (hl : l.length = n) (hz : (flatL enc l).length = n * s) (hn : n ≤ maxLen)
    (hK : ∀ (g : Nat) (w' : World), Sat c (row E s enc (.slice (some ⟨g, 0, none⟩) n n) l * H) w' → K (a.put dst (.slice (some ⟨g, 0, none⟩) n n)) w') : Oper.wp P ⟨dst, .buildSlice t n ps, ty, pos, aft, gd⟩ a w K Q := by
  unfold Oper.wp
  rw [hr w]
  refine hK _ _ ((hs.alloc _).mono (star_mono (fun h x => ?_) ent_refl))
  have hcz : cs.size = n * s := by rw [← hz, ← hc, Array.length_toList]
  refine ⟨by rw [hl, hz], .inr ⟨_, n, cs, by rw [hl], x, by omega, hn, hcz, ?_⟩⟩
  rw [hl, ← hc, List.take_of_length_le (by rw [Array.length_toList]; omega)]
theorem pl_bsL (l : List α) (hs : Sat c H w) (hr : ∀ w, (execOp a.eval ⟨dst, .buildSlice t n ps, ty, pos, aft, none⟩).run P w = .ok (.value (.slice (some ⟨w.heap.size, 0, none⟩) n n)) (w.alloc (.cells cs E))) (hc : cs.toList = flatL enc l) (hl : l.length = n) (hz : (flatL enc l).length = n * s) (hn : n ≤ maxLen)
    (hK : ∀ (g : Nat) (w' : World), Sat c (row E s enc (.slice (some ⟨g, 0, none⟩) n n) l * H) w' → wpList P ops Q rest (a.put dst (.slice (some ⟨g, 0, none⟩) n n)) w') : wpList P ops Q (⟨dst, .buildSlice t n ps, ty, pos, aft, none⟩ :: rest) a w :=
  wpList_plain rfl fun K hk => ow_bsL l hs hr hc hl hz hn (fun g w' h => hk _ _ (hK g w' h))
end
end Go.Proofs.YtegebjflhhbmiaaDoor
