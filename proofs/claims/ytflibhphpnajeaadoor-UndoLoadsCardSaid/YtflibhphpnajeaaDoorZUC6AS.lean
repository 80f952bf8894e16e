/- UndoCounts: its walk. -/
import Derived.Test.YtflibhphpnajeaaDoorZUC6AN
import Derived.Test.YtflibhphpnajeaaDoorZUC6AR
set_option linter.unusedSimpArgs false
set_option linter.unusedVariables false
namespace Go.Proofs.YtflibhphpnajeaaDoor
open Go Go.RowKit

theorem undoR_s (c0 : World) (F : HP) (gs : Nat) (un : List (List ChgD)) (a : Nat → Addr) : Spec Tryd.prog c0 20 #[.pointer (some ⟨gs, 0, none⟩)]
    (pu (ErrA F a) (stk gs [] un * F)) (fun r => ex fun e => pu (r = .tuple #[.slice none 0 0, e]) (RefP a (some ([⟨⟨#[117, 110, 100, 111]⟩, ⟨#[85, 110, 100, 111]⟩, -1⟩], 12)) e * (stk gs [] un * F))) := fun w hs => by
  obtain ⟨hE, hs⟩ := hs.pu
  refine (undo0_s c0 F gs un (a 12) w (hs.mono (ent_pu (hE.ad 12 (by decide) (by decide)) ent_refl))).mono fun e w' ⟨v, he, h⟩ => ⟨v, he, ?_⟩
  obtain ⟨g, h⟩ := h.ex
  obtain ⟨hv, h2⟩ := h.pu
  subst hv
  refine h2.mono (ent_ex _ (ent_pu rfl ?_))
  unfold RefP
  rw [pu_star]
  refine ent_pu ⟨by decide, by decide, by decide⟩ ?_
  exact ent_trans (star_mono ent_refl fch_one) (fch_more (l := ⟨⟨#[117, 110, 100, 111]⟩, ⟨#[85, 110, 100, 111]⟩, -1⟩))
end Go.Proofs.YtflibhphpnajeaaDoor
