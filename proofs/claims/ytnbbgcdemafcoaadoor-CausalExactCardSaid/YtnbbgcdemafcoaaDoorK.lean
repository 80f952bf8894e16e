/- A set of keys that is one's own. -/
import Derived.Test.YtnbbgcdemafcoaaDoorM2
set_option linter.unusedSimpArgs false
set_option linter.unusedVariables false
namespace Go.Proofs.YtnbbgcdemafcoaaDoor
open Go Go.RowKit Go.Maps

def keys (h n : Nat) (f : Int → Int → Bool) : HP := ⟨fun hp => ∃ o, hp h = some o ∧ ∀ w : World, w.heap[h]? = some o → SetIs w h n f, fun l ⟨o, a, b⟩ => ⟨o, l _ _ a, b⟩⟩
def KeysR (H : HP) (h n : Nat) (f : Int → Int → Bool) : Prop := ∀ w, Own H w → SetIs w h n f
section
variable {h n : Nat} {f : Int → Int → Bool} {R A H : HP} {w w' c : World}
theorem keys_here : KeysR (keys h n f * R) h n f := fun w hw => by
  obtain ⟨x, ⟨h1, h2, _, l1, _, ⟨o, x1, x2⟩, _⟩, i⟩ := hw
  exact x2 w (i h o (l1 h o x1))
theorem keys_next (k : KeysR R h n f) : KeysR (A * R) h n f := fun w hw => k w (own_next hw)
theorem keys_left (k : KeysR A h n f) : KeysR (A * R) h n f := fun w hw => k w (hw.mono ent_keep)
theorem Sat.keysTurn (hs : Sat c (keys h n f * R) w) {n' : Nat} {f' : Int → Int → Bool} (hk : SetIs w' h n' f') (ht : w.mapTurned w' h) : Sat c (keys h n' f' * R) w' := by
  obtain ⟨x, ⟨h1, h2, d, l1, l2, ⟨o, x1, x2⟩, y⟩, i⟩ := hs.own
  obtain ⟨hsz, hb⟩ := turned_block ht
  obtain ⟨o', ho'⟩ : ∃ o', w'.heap[h]? = some o' := by
    obtain ⟨D, ⟨es, c, h1, _⟩, _⟩ := hk
    exact ⟨_, h1⟩
  have hh : ∃ es c es' c', w.heap[h]? = some (.map es c) ∧ w' = ChangeMaps.setBlock w h (.map es' c') := ht
  obtain ⟨es, cl, es', cl', _, hw'⟩ := hh
  refine Sat.turn (w := w) (h1 := one h o) (h1' := one h o') (by rw [hw']; rfl) (by rw [hw']; rfl) (by rw [hw']; rfl) ⟨hs.os, hs.tape, hs.output⟩ (dj_le d (fun b u e => ?_) (le_refl' _)) (i.le l2) y (fun b e _ => hb b (fun hh => by subst hh; simp [one] at e)) ⟨o', by simp [one], fun w2 h2 => hk.keep (h2.trans ho'.symm)⟩ (one_in ho') (fun b e => .inl ?_)
  · unfold one at e
    split at e
    · rename_i hb; subst hb; cases e; exact x1
    · cases e
  · have := one_ne e; subst this; simp [one]
theorem ent_keys_new : Ent (blk h (.map #[] 0) * R) (keys h 0 (fun _ _ => false) * R) := star_mono (fun hp x => ⟨_, x, fun w hw => by
  obtain ⟨D, ⟨es, c, h1, h2⟩, h3⟩ := SetIs.made w
  rw [heap_alloc_new w (.map #[] 0)] at h1
  cases h1
  exact ⟨D, ⟨_, _, hw, h2⟩, h3⟩⟩) ent_refl
theorem Ent.keysMore {m : Nat} (hm : n ≤ m) : Ent (keys h n f * R) (keys h m f * R) := star_mono (fun hp ⟨o, a, b⟩ => ⟨o, a, fun w hw => (b w hw).more hm⟩) ent_refl
theorem Ent.keysEq {f' : Int → Int → Bool} (hf : ∀ r k, WfI r → WfI k → f r k = f' r k) : Ent (keys h n f * R) (keys h n f' * R) := star_mono (fun hp ⟨o, a, b⟩ => ⟨o, a, fun w hw => by
  obtain ⟨D, h1, h2⟩ := b w hw
  exact ⟨D, h1, fun r k hr hk => (h2 r k hr hk).trans (hf r k hr hk)⟩⟩) ent_refl
end
section
variable {H : HP} {w : World} {a : Act} {dst : Option Tmp} {ty' : TypeId} {pos : String} {aft : Array Edge} {gd : Option (Nat × Bool)} {m x : Operand} {h n : Nat} {f : Int → Int → Bool} {r k : Int}
theorem run_look (hw : Own H w) (hm : a.eval m = .map (some h)) (hkr : KeysR H h n f) (hx : a.eval x = .agg (keyv r k)) (hr : WfI r ∧ WfI k) : (execOp a.eval ⟨dst, .lookup 68 m x true, ty', pos, aft, gd⟩).run Tryd.prog w = .ok (.value (.tuple #[.agg #[], .bool (f r k)])) w := by
  have := (hkr w hw).look hr.1 hr.2
  simp [execOp, hm, hx, this]
end
theorem pl_look {c : World} {H : HP} {w : World} {ops : Array Oper} {Q : Exit → Act → World → Prop} {a : Act} {dst : Option Tmp} {ty : TypeId} {pos : String} {aft : Array Edge} {rest : List Oper} {gd : Option (Nat × Bool)} {m x : Operand} {h n : Nat} {f : Int → Int → Bool} {r k : Int} (hs : Sat c H w) (hm : a.eval m = .map (some h)) (hkr : KeysR H h n f) (hx : a.eval x = .agg (keyv r k)) (hr : WfI r ∧ WfI k) (hg : gd = none) (hK : wpList Tryd.prog ops Q rest (a.put dst (.tuple #[.agg #[], .bool (f r k)])) w) : wpList Tryd.prog ops Q (⟨dst, .lookup 68 m x true, ty, pos, aft, gd⟩ :: rest) a w := by
  subst hg
  refine wpList_plain rfl fun K hk => ?_
  unfold Oper.wp
  rw [run_look hs.own hm hkr hx hr]
  exact hk _ _ hK
theorem mx_look {w : World} {ops : Array Oper} {Q : Exit → Act → World → Prop} {a : Act} {dst : Option Tmp} {ty : TypeId} {pos : String} {aft : Array Edge} {rest : List Oper} {N : Nat} {R : HP} {hR : Hp} {m x : Operand} {h n : Nat} {f : Int → Int → Bool} {r k : Int} (hRR : R.on hR) (hm : a.eval m = .map (some h)) (hkr : KeysR R h n f) (hx : a.eval x = .agg (keyv r k)) (hr : WfI r ∧ WfI k) (hK : wpMix Tryd.prog ops (In hR) Q N rest (a.put dst (.tuple #[.agg #[], .bool (f r k)])) w) : wpMix Tryd.prog ops (In hR) Q (N + 1) (⟨dst, .lookup 68 m x true, ty, pos, aft, none⟩ :: rest) a w :=
  mix_float _ rfl rfl (fun h hk => run_look (H := R) ⟨hR, hRR, hk⟩ hm hkr hx hr) hK
set_option maxRecDepth 20000 in
theorem ow_put {c : World} {H : HP} {w : World} {Q : Exit → Act → World → Prop} {a : Act} {dst : Option Tmp} {ty : TypeId} {pos : String} {aft : Array Edge} {gd : Option (Nat × Bool)} {K : Act → World → Prop} {m x y : Operand} {h n : Nat} {f : Int → Int → Bool} {r k : Int} {R : HP} (hs : Sat c H w) (hm : a.eval m = .map (some h)) (he : Ent H (keys h n f * R)) (hx : a.eval x = .agg (keyv r k)) (hy : a.eval y = .agg #[]) (hr : WfI r ∧ WfI k) (hn : n < maxLen) (hK : ∀ w' : World, Sat c (keys h (n + 1) (addF f r k) * R) w' → K (a.put dst undef) w') : Oper.wp Tryd.prog ⟨dst, .mapUpdate 68 m x y, ty, pos, aft, gd⟩ a w K Q := by
  have hs' := hs.mono he
  obtain ⟨w', hrun, h1, h2⟩ := (keys_here w hs'.own).store hn hr.1 hr.2
  unfold Oper.wp
  simp [execOp, hm, hx, hy, hrun, Result.andThen]
  exact hK _ (hs'.keysTurn h1 h2)
set_option maxRecDepth 20000 in
theorem pl_put {c : World} {H : HP} {w : World} {ops : Array Oper} {Q : Exit → Act → World → Prop} {a : Act} {dst : Option Tmp} {ty : TypeId} {pos : String} {aft : Array Edge} {rest : List Oper} {m x y : Operand} {h n : Nat} {f : Int → Int → Bool} {r k : Int} {R : HP} (hs : Sat c H w) (hm : a.eval m = .map (some h)) (he : Ent H (keys h n f * R)) (hx : a.eval x = .agg (keyv r k)) (hy : a.eval y = .agg #[]) (hr : WfI r ∧ WfI k) (hn : n < maxLen) (hK : ∀ w' : World, Sat c (keys h (n + 1) (addF f r k) * R) w' → wpList Tryd.prog ops Q rest (a.put dst undef) w') : wpList Tryd.prog ops Q (⟨dst, .mapUpdate 68 m x y, ty, pos, aft, none⟩ :: rest) a w :=
  wpList_plain rfl fun K hk => ow_put hs hm he hx hy hr hn (fun  w' h => hk _ _ (hK  w' h))
set_option maxRecDepth 20000 in
theorem mx_put {c : World} {H : HP} {w : World} {ops : Array Oper} {Q : Exit → Act → World → Prop} {a : Act} {dst : Option Tmp} {ty : TypeId} {pos : String} {aft : Array Edge} {rest : List Oper} {N : Nat} {hR : Hp} {m x y : Operand} {h n : Nat} {f : Int → Int → Bool} {r k : Int} {R : HP} (hs : Sat c H w) (hm : a.eval m = .map (some h)) (he : Ent H (keys h n f * R)) (hx : a.eval x = .agg (keyv r k)) (hy : a.eval y = .agg #[]) (hr : WfI r ∧ WfI k) (hn : n < maxLen) (hq : ∀ w' : World, Sat c (keys h (n + 1) (addF f r k) * R) w' → In hR w') (hK : ∀ w' : World, Sat c (keys h (n + 1) (addF f r k) * R) w' → wpMix Tryd.prog ops (In hR) Q N rest (a.put dst undef) w') : wpMix Tryd.prog ops (In hR) Q (N + 1) (⟨dst, .mapUpdate 68 m x y, ty, pos, aft, none⟩ :: rest) a w :=
  mix_chain rfl rfl fun K hk => ow_put hs hm he hx hy hr hn (fun  w' h => hk _ _ ⟨hq  w' h, hK  w' h⟩)
set_option maxRecDepth 20000 in
theorem ow_del {c : World} {H : HP} {w : World} {Q : Exit → Act → World → Prop} {a : Act} {dst : Option Tmp} {ty : TypeId} {pos : String} {aft : Array Edge} {gd : Option (Nat × Bool)} {K : Act → World → Prop} {m x : Operand} {h n : Nat} {f : Int → Int → Bool} {r k : Int} {R : HP} (hs : Sat c H w) (hm : a.eval m = .map (some h)) (he : Ent H (keys h n f * R)) (hx : a.eval x = .agg (keyv r k)) (hr : WfI r ∧ WfI k) (hK : ∀ w' : World, Sat c (keys h n (delF f r k) * R) w' → K (a.put dst (.tuple #[])) w') : Oper.wp Tryd.prog ⟨dst, .call ⟨.builtin .delete, #[m, x], #[68, 74]⟩, ty, pos, aft, gd⟩ a w K Q := by
  have hs' := hs.mono he
  obtain ⟨w', hrun, h1, h2⟩ := (keys_here w hs'.own).drop hr.1 hr.2 ty
  unfold Oper.wp
  simp [execOp, resolve, invoke, builtin, hm, hx, hrun, Result.andThen]
  exact hK _ (hs'.keysTurn h1 h2)
theorem pl_del {c : World} {H : HP} {w : World} {ops : Array Oper} {Q : Exit → Act → World → Prop} {a : Act} {dst : Option Tmp} {ty : TypeId} {pos : String} {aft : Array Edge} {rest : List Oper} {m x : Operand} {h n : Nat} {f : Int → Int → Bool} {r k : Int} {R : HP} (hs : Sat c H w) (hm : a.eval m = .map (some h)) (he : Ent H (keys h n f * R)) (hx : a.eval x = .agg (keyv r k)) (hr : WfI r ∧ WfI k) (hK : ∀ w' : World, Sat c (keys h n (delF f r k) * R) w' → wpList Tryd.prog ops Q rest (a.put dst (.tuple #[])) w') : wpList Tryd.prog ops Q (⟨dst, .call ⟨.builtin .delete, #[m, x], #[68, 74]⟩, ty, pos, aft, none⟩ :: rest) a w :=
  wpList_plain rfl fun K hk => ow_del hs hm he hx hr (fun  w' h => hk _ _ (hK  w' h))
theorem mx_del {c : World} {H : HP} {w : World} {ops : Array Oper} {Q : Exit → Act → World → Prop} {a : Act} {dst : Option Tmp} {ty : TypeId} {pos : String} {aft : Array Edge} {rest : List Oper} {N : Nat} {hR : Hp} {m x : Operand} {h n : Nat} {f : Int → Int → Bool} {r k : Int} {R : HP} (hs : Sat c H w) (hm : a.eval m = .map (some h)) (he : Ent H (keys h n f * R)) (hx : a.eval x = .agg (keyv r k)) (hr : WfI r ∧ WfI k) (hq : ∀ w' : World, Sat c (keys h n (delF f r k) * R) w' → In hR w') (hK : ∀ w' : World, Sat c (keys h n (delF f r k) * R) w' → wpMix Tryd.prog ops (In hR) Q N rest (a.put dst (.tuple #[])) w') : wpMix Tryd.prog ops (In hR) Q (N + 1) (⟨dst, .call ⟨.builtin .delete, #[m, x], #[68, 74]⟩, ty, pos, aft, none⟩ :: rest) a w :=
  mix_chain rfl rfl fun K hk => ow_del hs hm he hx hr (fun  w' h => hk _ _ ⟨hq  w' h, hK  w' h⟩)
end Go.Proofs.YtnbbgcdemafcoaaDoor
