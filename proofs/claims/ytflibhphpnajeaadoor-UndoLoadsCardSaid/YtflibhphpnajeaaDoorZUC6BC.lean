/- More operations of a walk: a row of zeros behind nil, as slices.Grow makes it. -/
import Derived.Test.YtflibhphpnajeaaDoorZUC6AT
set_option linter.unusedSimpArgs false
set_option linter.unusedVariables false
namespace Go.Proofs.YtflibhphpnajeaaDoor
open Go Go.RowKit

def IntT (P : Program) (u : TypeId) : Prop := ∃ k, P.underlying u = some (.int k)
theorem run_append_zeros {P : Program} {w : World} (t u ty e : TypeId) (i : TypeInfo) (z : Value) (ht : P.underlying t = some (.slice e)) (hu : IntT P u) (hi : P.info? e = some i) (hz : i.zero = some z) (hsz : 0 < i.size)
    (n : Nat) (h0 : 0 < n) (hn : n ≤ 9223372036854775807) (h48 : n * i.bytes ≤ 140737488355328) :
    (Builtin.append_ #[t, u] ty #[.slice none 0 0, .int .i64 (n : Int)]).run P w =
      .ok (.slice (some ⟨w.heap.size, 0, none⟩) n (grownCap w n 0 e)) (w.drew.alloc (.cells (Builtin.zeroCells z.cells n ++ Builtin.zeroCells z.cells (grownCap w n 0 e - n)) e)) := by
  obtain ⟨k, hu⟩ := hu
  have hn' : n ≠ 0 := by omega
  have hw : IntKind.i64.wrap (n : Int) = n := IntWalk.i64_in _ (by constructor <;> omega)
  have hneg : ¬ ((n : Int) < 0) := by omega
  have h63' : ¬ (9223372036854775807 < (n : Int)) := by omega
  have h48' : ¬ (281474976710656 < Builtin.nextslicecap n 0 * i.bytes) := by rw [nextslicecap_zero h0]; omega
  have h48'' : ¬ (281474976710656 < (n : Int) * (i.bytes : Int)) := by
    have : ((n * i.bytes : Nat) : Int) ≤ 140737488355328 := by omega
    rw [Int.natCast_mul] at this
    omega
  have hns : ¬ (i.size = 0) := by omega
  have hnm : ¬ (n * i.size = 0) := fun h => by rcases Nat.mul_eq_zero.1 h with h | h <;> omega
  simp [Builtin.append_, run_underlying ht, run_underlying hu, sizeOf, typeInfo, zeroValue, hi, hz, asInt, asIntOf, hw, hneg, hn', hns, hnm, h63', h48', h48'', Question.forced, run_firstCells_none, newRow, grownCap]

theorem ow_app0 {P : Program} {c : World} {H : HP} {w : World} {Q : Exit → Act → World → Prop} {a : Act} {dst : Option Tmp} {ty : TypeId} {pos : String} {aft : Array Edge} {gd : Option (Nat × Bool)} {K : Act → World → Prop} {α : Type} {sl x : Operand} {t u E : TypeId} {s by_ n : Nat} {enc : α → Array Value} {z0 : α} (hs : Sat c H w) (hT : MakeT P t E s by_ enc z0) (hU : IntT P u) (hv : a.eval sl = .slice none 0 0) (hx : a.eval x = .int .i64 (n : Int)) (h0 : 0 < n) (hby : n * by_ ≤ 140737488355328) (hm : n ≤ maxLen) (hK : ∀ (g cq : Nat) (w' : World), Sat c (row E s enc (.slice (some ⟨g, 0, none⟩) n cq) (List.replicate n z0) * H) w' → K (a.put dst (.slice (some ⟨g, 0, none⟩) n cq)) w') : Oper.wp P ⟨dst, .call ⟨.builtin .append, #[sl, x], #[t, u]⟩, ty, pos, aft, gd⟩ a w K Q := by
  obtain ⟨hu, ⟨z, hi, hz⟩, hs0, hsz⟩ := hT
  obtain ⟨i, hq, he⟩ := Option.map_eq_some_iff.1 hi
  simp only [Prod.mk.injEq] at he
  obtain ⟨h1, h2, h3⟩ := he
  have hrun := run_append_zeros (P := P) (w := w) t u ty E i z hu hU hq h2 (by omega) n h0 (by unfold maxLen at hm; omega) (by rw [h3]; exact hby)
  unfold Oper.wp execOp
  simp only [resolve, invoke, builtin, Sem.run_bind, Sem.run_pure, Result.andThen_ok, List.map_toArray, List.map_cons, List.map_nil, hv, hx, hrun]
  have hge := grownCap_ge w n 0 E
  have hcm := grownCap_le_maxLen w n 0 E hm
  generalize grownCap w n 0 E = cp at *
  have ha : Sat c (blk w.heap.size (.cells (Builtin.zeroCells z.cells n ++ Builtin.zeroCells z.cells (cp - n)) E (0, 0)) * H) (w.drew.alloc (.cells (Builtin.zeroCells z.cells n ++ Builtin.zeroCells z.cells (cp - n)) E)) := hs.drew.alloc _
  have hzs : z.cells.size = s := by rw [hz]; exact hsz z0
  have hfl : (flatL enc (List.replicate n z0)).length = n * s := by rw [flatL_length hsz, List.length_replicate]
  refine hK w.heap.size cp _ (ha.mono (star_mono (fun h x => ⟨by rw [hfl, List.length_replicate], .inr ⟨_, cp, _, by rw [List.length_replicate], x, by rw [List.length_replicate]; exact hge, hcm, ?_, ?_⟩⟩) ent_refl))
  · rw [Array.size_append, size_zeroCells, size_zeroCells, hzs, ← Nat.add_mul]
    congr 1
    omega
  · rw [List.length_replicate, Array.toList_append, List.take_append_of_le_length (by rw [Array.length_toList, size_zeroCells, hzs]; exact Nat.le_refl _), List.take_of_length_le (by rw [Array.length_toList, size_zeroCells, hzs]; exact Nat.le_refl _), ← madeCells_rep (hsz z0) hs0 n, ← hz]
    congr 1
    unfold Builtin.zeroCells madeCells
    rw [hzs]
theorem pl_app0 {P : Program} {c : World} {H : HP} {w : World} {ops : Array Oper} {Q : Exit → Act → World → Prop} {a : Act} {dst : Option Tmp} {ty : TypeId} {pos : String} {aft : Array Edge} {rest : List Oper} {α : Type} {sl x : Operand} {t u E : TypeId} {s by_ n : Nat} {enc : α → Array Value} {z0 : α} (hs : Sat c H w) (hT : MakeT P t E s by_ enc z0) (hU : IntT P u) (hv : a.eval sl = .slice none 0 0) (hx : a.eval x = .int .i64 (n : Int)) (h0 : 0 < n) (hby : n * by_ ≤ 140737488355328) (hm : n ≤ maxLen) (hK : ∀ (g cq : Nat) (w' : World), Sat c (row E s enc (.slice (some ⟨g, 0, none⟩) n cq) (List.replicate n z0) * H) w' → wpList P ops Q rest (a.put dst (.slice (some ⟨g, 0, none⟩) n cq)) w') : wpList P ops Q (⟨dst, .call ⟨.builtin .append, #[sl, x], #[t, u]⟩, ty, pos, aft, none⟩ :: rest) a w :=
  wpList_plain rfl fun K hk => ow_app0 hs hT hU hv hx h0 hby hm (fun g cq w' h => hk _ _ (hK g cq w' h))
end Go.Proofs.YtflibhphpnajeaaDoor
