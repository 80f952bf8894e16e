/- A refusal made: what fault.New answers. -/
import Derived.Test.YtflibhphpnajeaaDoorZUC6AW
import Derived.Test.YtflibhphpnajeaaDoorZUC6AT
set_option linter.unusedSimpArgs false
set_option linter.unusedVariables false
namespace Go.Proofs.YtflibhphpnajeaaDoor
open Go Go.RowKit

theorem fnewR_s (c0 : World) (F : HP) (a : Nat → Addr) (x y : ByteArray) (n : Int) (k : Nat) : Spec Tryd.prog c0 49 #[.string x, .string y, .int .i64 n, .iface 112 (.pointer (some (a k)))]
    (pu (1 ≤ k ∧ k ≤ 13) F) (fun r => RefP a (some ([⟨x, y, atV n⟩], k)) r * F) := fun w hs => by
  obtain ⟨⟨h1, h2⟩, hs⟩ := hs.pu
  refine (fnew_s c0 F x y n _ (some (a k)) w hs).mono fun e w' ⟨v, he, h⟩ => ⟨v, he, ?_⟩
  obtain ⟨g, h⟩ := h.ex
  obtain ⟨hv, h3⟩ := h.pu
  subst hv
  refine h3.mono ?_
  dsimp only [RefP]
  rw [pu_star]
  refine ent_pu ⟨h1, h2, by simp⟩ ?_
  exact ent_trans (star_mono ent_refl fch_one) (fch_more (l := ⟨x, y, atV n⟩))
end Go.Proofs.YtflibhphpnajeaaDoor
