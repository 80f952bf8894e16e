/- More operations of a walk: a text put behind bytes; a row of zeros. -/
import Derived.Test.YtgoifgockcpnhaaDoorH8
import Derived.Lib.AppendStr
set_option linter.unusedSimpArgs false
set_option linter.unusedVariables false
namespace Go.Proofs.YtgoifgockcpnhaaDoor
open Go Go.RowKit

theorem strCells_ofb (s : ByteArray) : Lib.strCells s = flatL bytv (ofb s) := by
  have h : flatL bytv (ofb s) = (ofb s).map (Value.int .u8) := flat_map1 (Value.int .u8) (ofb s)
  rw [h]
  unfold Lib.strCells ofb
  rw [List.map_map]
  rfl
theorem flat1 (l : List Int) : (flatL bytv l).length = l.length * 1 := flatL_length bytv_size l
def BytE (P : Program) (t u E : TypeId) : Prop := P.underlying t = some (.slice E) ∧ P.underlying u = some .string ∧ (P.info? E).map (fun i => (i.size, i.zero, i.bytes)) = some (1, some (.int .u8 0), 1)

theorem ow_appS {P : Program} {c : World} {H : HP} {w : World} {Q : Exit → Act → World → Prop} {a : Act} {dst : Option Tmp} {ty : TypeId} {pos : String} {aft : Array Edge} {gd : Option (Nat × Bool)} {K : Act → World → Prop} {sl x : Operand} {t u E : TypeId} {v : Value} {l : List Int} {s : ByteArray} {R : HP} (hs : Sat c H w) (hT : BytE P t u E) (hv : a.eval sl = v) (he : Ent H (row E 1 bytv v l * R)) (hx : a.eval x = .string s) (hm : l.length + s.size ≤ 140737488355328) (hK : ∀ (A : Option Addr) (cq : Nat) (w' : World), Sat c (row E 1 bytv (.slice A (l.length + s.size) cq) (l ++ ofb s) * R) w' → K (a.put dst (.slice A (l.length + s.size) cq)) w') : Oper.wp P ⟨dst, .call ⟨.builtin .append, #[sl, x], #[t, u]⟩, ty, pos, aft, gd⟩ a w K Q := by
  obtain ⟨hT, hU, hI⟩ := hT
  obtain ⟨i, hq, he2⟩ := Option.map_eq_some_iff.1 hI
  simp only [Prod.mk.injEq] at he2
  obtain ⟨h1, h2, h3⟩ := he2
  have hs' := hs.mono he
  have hown := hs'.own.row
  have hm63 : l.length + s.size ≤ maxLen := by unfold maxLen; omega
  have hfl2 : (flatL bytv (l ++ ofb s)).length = (l ++ ofb s).length * 1 := flat1 _
  have hlen : (l ++ ofb s).length = l.length + s.size := by rw [List.length_append, ofb_len]
  have hcat : flatL bytv (l ++ ofb s) = flatL bytv l ++ Lib.strCells s := by rw [flatL_append, strCells_ofb]
  have fin : ∀ v' w', (Builtin.append_ #[t, u] ty #[v, .string s]).run P w = .ok v' w' → OwnIs w' 0 E 1 bytv v' (l ++ ofb s) → w.grownBy w' v.ownBlock → (∀ k, v'.ownBlock = some k → v.ownBlock = some k ∨ w.heap.size ≤ k) → Oper.wp P ⟨dst, .call ⟨.builtin .append, #[sl, x], #[t, u]⟩, ty, pos, aft, gd⟩ a w K Q := fun v' w' hrun ho hgr hat => by
    unfold Oper.wp execOp
    simp only [resolve, invoke, builtin, Sem.run_bind, Sem.run_pure, Result.andThen_ok, List.map_toArray, List.map_cons, List.map_nil, hv, hx, hrun]
    have hs2 := hs'.rowTurn ho hgr hat
    obtain ⟨A, cq, rfl, _, _⟩ := row_slice hs2.own
    rw [hlen] at hs2 ⊢
    exact hK A cq w' hs2
  rcases hown.2 with ⟨rfl, hl0⟩ | ⟨g, cap, cur, rfl, _, hg, hnc, hcm, hcs, htk⟩
  · obtain rfl : l = [] := List.eq_nil_of_length_eq_zero hl0
    obtain ⟨v', w', hrun, ho, hgr, _⟩ := Lib.run_append_own_string (P := P) w w.heap.size t u ty E i hT hU hq h2 h1 h3 (.slice none 0 0) 0 [] (World.ownsRow_nil w _ E 1) s (by simpa using hm63) (by simpa using hm) (Nat.le_refl _)
    refine fin v' w' hrun ?_ hgr ?_
    · refine ⟨hfl2, ?_⟩
      rcases ho.2 with ⟨e, hz⟩ | ⟨g, cap, cur, e, hb, hg, r1, r2, r3, r4⟩
      · exact .inl ⟨e, by rw [hlen]; exact hz⟩
      · refine .inr ⟨g, cap, cur, by rw [hlen]; exact e, Nat.zero_le _, hg, by rw [hlen]; exact r1, r2, r3, ?_⟩
        rw [hcat, hlen]
        exact r4
    · intro k hk
      rcases ho.2 with ⟨e, _⟩ | ⟨g, cap, cur, e, hb, _⟩
      · rw [e] at hk; cases hk
      · rw [e] at hk
        simp [Value.ownBlock] at hk
        subst hk
        exact .inr hb
  · have hxl : (flatL bytv l).length = l.length := by have := flat1 l; omega
    by_cases hroom : l.length + s.size ≤ cap
    · have hrun := Lib.run_append_room_string (P := P) w t u ty E i hT hU hq h1 g l.length cap cur hg s hroom (by rw [hcs]; omega)
      refine fin _ _ hrun ⟨hfl2, .inr ⟨g, cap, _, by rw [hlen], Nat.zero_le _, setRow_heap w g cur _ E _ hg, by rw [hlen]; exact hroom, hcm, ?_, ?_⟩⟩ ⟨rfl, rfl, rfl, by simp [World.setRow], fun k _ hk => setRow_other w g k _ (fun e => hk (by simp [Value.ownBlock, e]))⟩ (fun k hk => .inl hk)
      · simp only [List.size_toArray, List.length_append, List.length_take, List.length_drop, Array.length_toList, Lib.strCells_length]
        omega
      · have h5 : cur.toList.take l.length = flatL bytv l := by simpa using htk
        simp only
        rw [h5, hcat, hlen, Nat.mul_one]
        have h6 : (flatL bytv l ++ Lib.strCells s).length = l.length + s.size := by rw [List.length_append, hxl, Lib.strCells_length]
        rw [← h6]
        exact List.take_left
    · have hcell : ∀ j v, (flatL bytv l)[j]? = some v → w.cell? ((⟨g, 0, none⟩ : Addr).add j) = some v := hown.cells (g := g) rfl
      have hrun := Lib.run_append_grow_string (P := P) w t u ty E i (.int .u8 0) hT hU hq h2 ⟨g, 0, none⟩ l.length cap (flatL bytv l) (by rw [h1]; exact flat1 l) hcell s (by omega) (by omega) (by rw [h3]; exact growslice_fits (by omega) (by omega))
      have hge := grownCap_ge w (l.length + s.size) cap E
      have hcm2 := grownCap_le_maxLen w (l.length + s.size) cap E hm63
      generalize grownCap w (l.length + s.size) cap E = cq at *
      refine fin _ _ hrun ⟨hfl2, .inr ⟨w.heap.size, cq, _, by rw [hlen], Nat.zero_le _, heap_alloc_new w.drew _, by rw [hlen]; exact hge, hcm2, ?_, ?_⟩⟩ ⟨rfl, rfl, rfl, by simp, fun k hk _ => heap_alloc_old w.drew _ hk⟩ (fun k hk => by simp [Value.ownBlock] at hk; exact .inr (by omega))
      · have hz1 : (Value.int IntKind.u8 0).cells.size = 1 := rfl
        simp only [Array.size_append, List.size_toArray, size_zeroCells, hz1, hxl, Lib.strCells_length]
        omega
      · simp only [Array.toList_append, List.append_assoc]
        rw [hcat, hlen, ← List.append_assoc, Nat.mul_one]
        have h6 : (flatL bytv l ++ Lib.strCells s).length = l.length + s.size := by rw [List.length_append, hxl, Lib.strCells_length]
        rw [← h6]
        exact List.take_left
theorem pl_appS {P : Program} {c : World} {H : HP} {w : World} {ops : Array Oper} {Q : Exit → Act → World → Prop} {a : Act} {dst : Option Tmp} {ty : TypeId} {pos : String} {aft : Array Edge} {rest : List Oper} {sl x : Operand} {t u E : TypeId} {v : Value} {l : List Int} {s : ByteArray} {R : HP} (hs : Sat c H w) (hT : BytE P t u E) (hv : a.eval sl = v) (he : Ent H (row E 1 bytv v l * R)) (hx : a.eval x = .string s) (hm : l.length + s.size ≤ 140737488355328) (hK : ∀ (A : Option Addr) (cq : Nat) (w' : World), Sat c (row E 1 bytv (.slice A (l.length + s.size) cq) (l ++ ofb s) * R) w' → wpList P ops Q rest (a.put dst (.slice A (l.length + s.size) cq)) w') : wpList P ops Q (⟨dst, .call ⟨.builtin .append, #[sl, x], #[t, u]⟩, ty, pos, aft, none⟩ :: rest) a w :=
  wpList_plain rfl fun K hk => ow_appS hs hT hv he hx hm (fun A cq w' h => hk _ _ (hK A cq w' h))
theorem mx_appS {P : Program} {c : World} {H : HP} {w : World} {ops : Array Oper} {Q : Exit → Act → World → Prop} {a : Act} {dst : Option Tmp} {ty : TypeId} {pos : String} {aft : Array Edge} {rest : List Oper} {N : Nat} {hR : Hp} {sl x : Operand} {t u E : TypeId} {v : Value} {l : List Int} {s : ByteArray} {R : HP} (hs : Sat c H w) (hT : BytE P t u E) (hv : a.eval sl = v) (he : Ent H (row E 1 bytv v l * R)) (hx : a.eval x = .string s) (hm : l.length + s.size ≤ 140737488355328) (hq : ∀ (A : Option Addr) (cq : Nat) (w' : World), Sat c (row E 1 bytv (.slice A (l.length + s.size) cq) (l ++ ofb s) * R) w' → In hR w') (hK : ∀ (A : Option Addr) (cq : Nat) (w' : World), Sat c (row E 1 bytv (.slice A (l.length + s.size) cq) (l ++ ofb s) * R) w' → wpMix P ops (In hR) Q N rest (a.put dst (.slice A (l.length + s.size) cq)) w') : wpMix P ops (In hR) Q (N + 1) (⟨dst, .call ⟨.builtin .append, #[sl, x], #[t, u]⟩, ty, pos, aft, none⟩ :: rest) a w :=
  mix_chain rfl rfl fun K hk => ow_appS hs hT hv he hx hm (fun A cq w' h => hk _ _ ⟨hq A cq w' h, hK A cq w' h⟩)
end Go.Proofs.YtgoifgockcpnhaaDoor
