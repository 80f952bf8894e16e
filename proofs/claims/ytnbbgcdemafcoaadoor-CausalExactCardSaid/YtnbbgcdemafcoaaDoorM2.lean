/- Sets of keys, and rows from which one is struck. -/
import Derived.Test.YtnbbgcdemafcoaaDoorT0
import Derived.Maps.OwnSet
import Derived.DeepKeys4
set_option linter.unusedSimpArgs false
set_option linter.unusedVariables false
namespace Go.Proofs.YtnbbgcdemafcoaaDoor
open Go Go.RowKit Go.Maps

theorem laidOut : laidOutB Tryd.prog = true := by kernel_rfl
theorem rowKey : (74 : TypeId) < Tryd.prog.types.size := of_decide_eq_true (by kernel_rfl)
theorem wideKey : (match Tryd.prog.underlying 74 with | some (.array _ _) | some (.struct _) => true | _ => false) = true := by kernel_rfl
set_option maxRecDepth 100000 in
theorem lawKey : Keyed Tryd.prog 74 := Keyed.of_law (deep_law_laid laidOut (m := 2) (by omega) rowKey (by kernel_rfl) wideKey)
def keyv (r n : Int) : Array Value := #[.int .i64 r, .int .i64 n]
def kl (r n : Int) : Lit := .string (keyBytes [.int .i64 r, .int .i64 n])
def WfI (r : Int) : Prop := (Lit.int .i64 r).wf = true
theorem keyOf_kl {r n : Int} (hr : WfI r) (hn : WfI n) : keyOf Tryd.prog 74 (.agg (keyv r n)) = some (kl r n) := by
  have h1 : Tryd.prog.keyType 74 = true := by kernel_rfl
  have h2 : (Value.agg (keyv r n)).formed Tryd.prog 74 = true := by
    have hc : Tryd.prog.cellsOf 74 = 2 := by kernel_rfl
    have hu := Tryd.underlying74
    simp [Value.formed, hu, hc, keyv]
  have hsz : ∃ m, Tryd.prog.types.size + 1 = m + 2 := ⟨Tryd.prog.types.size - 1, by have : 0 < Tryd.prog.types.size := Nat.lt_of_le_of_lt (Nat.zero_le _) rowKey; omega⟩
  obtain ⟨m, hm⟩ := hsz
  have hc : Tryd.prog.cellsOf 74 = 2 := by kernel_rfl
  have hci : Tryd.prog.cellsOf 3 = 1 := by kernel_rfl
  have hu := Tryd.underlying74
  have hi := Tryd.underlying3
  unfold WfI at hr hn
  unfold keyOf
  rw [hu]
  simp only [h1, h2, Bool.and_self, if_true, hm]
  simp [Program.keyLits, hu, hi, hc, hci, keyv, Value.cells, hr, hn, kl]
theorem kl_inj {r n r' n' : Int} (hr : WfI r) (hn : WfI n) (hr' : WfI r') (hn' : WfI n') (h : kl r n = kl r' n') : r = r' ∧ n = n' := by
  have h1 := keyOf_kl hr hn
  have h2 := keyOf_kl hr' hn'
  rw [← h] at h2
  have := lawKey.inj h1 h2
  simpa [keyv] using this
theorem kl_key {r n : Int} (hr : WfI r) (hn : WfI n) : WideAt.IsKeyLit (kl r n) := lawKey.key (keyOf_kl hr hn)

/-- Block h is a set of at most n keys: (r, k) is in it just if f says so. -/
def SetIs (w : World) (h n : Nat) (f : Int → Int → Bool) : Prop :=
  ∃ D : DataW Unit, w.ownsMap Tryd.prog 74 unitElem h n D ∧ ∀ r k, WfI r → WfI k → Maps.has D (kl r k) = f r k
section
variable {w w' : World} {h n : Nat} {f : Int → Int → Bool}
theorem SetIs.keep (hs : SetIs w h n f) (hb : w'.heap[h]? = w.heap[h]?) : SetIs w' h n f := by
  obtain ⟨D, ⟨es, c, h1, h2⟩, h3⟩ := hs
  exact ⟨D, ⟨es, c, hb.trans h1, h2⟩, h3⟩
theorem SetIs.lt (hs : SetIs w h n f) : h < w.heap.size := by obtain ⟨D, h1, _⟩ := hs; exact h1.lt
theorem SetIs.more (hs : SetIs w h n f) {m : Nat} (hm : n ≤ m) : SetIs w h m f := by obtain ⟨D, h1, h2⟩ := hs; exact ⟨D, h1.mono hm, h2⟩
theorem SetIs.made (w : World) : SetIs (w.alloc (.map #[] 0)) w.heap.size 0 (fun _ _ => false) := ⟨_, World.ownsMap_made _ _ _ _, fun _ _ _ _ => rfl⟩
theorem SetIs.noCells (hs : SetIs w h n f) {c : Array Value} {t : TypeId} {z : Nat × Nat} : w.heap[h]? ≠ some (.cells c t z) := by
  obtain ⟨D, ⟨es, c, h1, _⟩, _⟩ := hs
  rw [h1]; simp
theorem zeroUnit (w : World) : (zeroValue 71).run Tryd.prog w = .ok (.agg #[]) w := by kernel_rfl
theorem SetIs.look (hs : SetIs w h n f) {r k : Int} (hr : WfI r) (hk : WfI k) :
    (Instr.lookup 68 (.map (some h)) (.agg (keyv r k)) true).run Tryd.prog w = .ok (.tuple #[.agg #[], .bool (f r k)]) w := by
  obtain ⟨D, h1, h2⟩ := hs
  obtain ⟨v, ps, hrun, hv⟩ := h1.look_ok lawKey Tryd.underlying68 (zeroUnit w) (unitElem_mk) (keyOf_kl hr hk)
  obtain ⟨rfl, _⟩ := unitElem_inv hv
  rw [hrun, h2 r k hr hk]
def addF (f : Int → Int → Bool) (r k : Int) : Int → Int → Bool := fun r' k' => (r' == r && k' == k) || f r' k'
def delF (f : Int → Int → Bool) (r k : Int) : Int → Int → Bool := fun r' k' => !(r' == r && k' == k) && f r' k'
theorem SetIs.store (hs : SetIs w h n f) (hn : n < maxLen) {r k : Int} (hr : WfI r) (hk : WfI k) :
    ∃ w', (Instr.mapUpdate 68 (.map (some h)) (.agg (keyv r k)) (.agg #[])).run Tryd.prog w = .ok () w' ∧ SetIs w' h (n + 1) (addF f r k) ∧ w.mapTurned w' h := by
  obtain ⟨D, h1, h2⟩ := hs
  obtain ⟨w', hrun, h3, h4⟩ := h1.store lawKey Tryd.underlying68 hn (keyOf_kl hr hk) (unitElem_mk)
  refine ⟨w', hrun, ⟨_, h3, fun r' k' hr' hk' => ?_⟩, h4⟩
  unfold addF
  by_cases he : r' = r ∧ k' = k
  · obtain ⟨rfl, rfl⟩ := he
    rw [has_put_same h1.isMap (kl_key hr hk)]
    simp
  · rw [has_put_other (fun hh => he (kl_inj hr' hk' hr hk hh)), h2 r' k' hr' hk']
    have : (r' == r && k' == k) = false := by simpa using he
    simp [this]
theorem SetIs.drop (hs : SetIs w h n f) {r k : Int} (hr : WfI r) (hk : WfI k) (ty : TypeId) :
    ∃ w', (Builtin.delete_ #[68, 74] ty #[.map (some h), .agg (keyv r k)]).run Tryd.prog w = .ok (.tuple #[]) w' ∧ SetIs w' h n (delF f r k) ∧ w.mapTurned w' h := by
  obtain ⟨D, h1, h2⟩ := hs
  obtain ⟨w', hrun, h3, h4⟩ := h1.drop lawKey Tryd.underlying68 (keyOf_kl hr hk) ty
  refine ⟨w', hrun, ⟨_, h3, fun r' k' hr' hk' => ?_⟩, h4⟩
  unfold delF
  by_cases he : r' = r ∧ k' = k
  · obtain ⟨rfl, rfl⟩ := he
    rw [has_del_same]
    simp
  · rw [has_del_other (fun hh => he (kl_inj hr' hk' hr hk hh)), h2 r' k' hr' hk']
    have : (r' == r && k' == k) = false := by simpa using he
    simp [this]
theorem turned_block (h4 : w.mapTurned w' h) : w'.heap.size = w.heap.size ∧ ∀ b, b ≠ h → w'.heap[b]? = w.heap[b]? := by
  have hg := h4.grown
  obtain ⟨es, c, es', c', h1, rfl⟩ := h4
  refine ⟨by simp [ChangeMaps.setBlock], fun b hb => ?_⟩
  simp [ChangeMaps.setBlock, Array.getElem?_set, Array.getElem?_setIfInBounds, Ne.symm hb]
theorem turned_below (h4 : w.mapTurned w' h) {B : Nat} (hB : B ≤ h) : Below B w w' := by
  obtain ⟨es, c, es', c', h1, rfl⟩ := h4
  refine ⟨rfl, rfl, rfl, by simp [ChangeMaps.setBlock], fun b hb => ?_⟩
  simp [ChangeMaps.setBlock, Array.getElem?_set, Array.getElem?_setIfInBounds, show h ≠ b by omega]
end
end Go.Proofs.YtnbbgcdemafcoaaDoor
