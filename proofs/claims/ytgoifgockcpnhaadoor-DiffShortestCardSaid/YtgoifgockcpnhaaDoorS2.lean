/- Slices whose elements are structs: read as lists, owned, appended to. -/
import Derived.Test.YtgoifgockcpnhaaDoorH3
import Derived.Maps.AppendAt
set_option linter.unusedSimpArgs false
set_option linter.unusedVariables false
namespace Go.Proofs.YtgoifgockcpnhaaDoor
open Go Go.RowKit

/-- Slice value v, lying below block B, reads as the list l. -/
def SlIs {α : Type} (w : World) (B s : Nat) (enc : α → Array Value) (v : Value) (l : List α) : Prop :=
  ∃ A c, v = .slice A l.length c ∧ l.length ≤ c ∧ c ≤ maxLen ∧ (A = none → c = 0) ∧
    (0 < l.length → ∃ b o, A = some ⟨b, o, none⟩ ∧ b < B ∧ ∀ i a, l[i]? = some a → win w b (o + i * s) s = some (enc a))

section
variable {α : Type} {w w' : World} {B B' s : Nat} {enc : α → Array Value} {v : Value} {l : List α}
theorem SlIs.keep (h : SlIs w B s enc v l) (hk : ∀ b, b < B → w'.heap[b]? = w.heap[b]?) : SlIs w' B s enc v l := by
  obtain ⟨A, c, h1, h2, h3, h3', h4⟩ := h
  refine ⟨A, c, h1, h2, h3, h3', fun hn => ?_⟩
  obtain ⟨b, o, h5, h6, h7⟩ := h4 hn
  exact ⟨b, o, h5, h6, fun i a ha => (win_of_block (hk b h6)).trans (h7 i a ha)⟩
theorem SlIs.more (h : SlIs w B s enc v l) (hB : B ≤ B') : SlIs w B' s enc v l := by
  obtain ⟨A, c, h1, h2, h3, h3', h4⟩ := h
  refine ⟨A, c, h1, h2, h3, h3', fun hn => ?_⟩
  obtain ⟨b, o, h5, h6, h7⟩ := h4 hn
  exact ⟨b, o, h5, by omega, h7⟩
theorem SlIs.below (h : SlIs w B s enc v l) (hb : Below B w w') : SlIs w' B s enc v l := h.keep hb.block
theorem SlIs.below' (h : SlIs w B s enc v l) {C : Nat} (hb : Below C w w') (hB : B ≤ C) : SlIs w' B s enc v l := h.keep fun b hlt => hb.block b (by omega)
theorem SlIs.nil : SlIs w B s enc (.slice none 0 0) ([] : List α) := ⟨none, 0, rfl, Nat.zero_le _, by decide, fun _ => rfl, fun h => absurd h (by simp)⟩
/-- A cut at the front of the row. -/
theorem SlIs.take {A : Option Addr} {n c : Nat} (h : SlIs w B s enc (.slice A n c) l) (k : Nat) (hk : k ≤ n) : SlIs w B s enc (.slice A k c) (l.take k) := by
  obtain ⟨A', c', h1, h2, h3, h3', h4⟩ := h
  injection h1 with e1 e2 e3
  subst e1; subst e2; subst e3
  have hl : (l.take k).length = k := by simp; omega
  refine ⟨A, c, by rw [hl], by omega, h3, h3', fun hn => ?_⟩
  obtain ⟨b, o, h5, h6, h7⟩ := h4 (by omega)
  exact ⟨b, o, h5, h6, fun i a ha => h7 i a (by
    rw [List.getElem?_take] at ha
    split at ha
    · exact ha
    · cases ha)⟩
/-- The element at i: where it lies. -/
theorem SlIs.get {A : Option Addr} {n c : Nat} (h : SlIs w B s enc (.slice A n c) l) {i : Nat} (hi : i < n) :
    ∃ b o a, A = some ⟨b, o, none⟩ ∧ b < B ∧ l[i]? = some a ∧ win w b (o + i * s) s = some (enc a) := by
  obtain ⟨A', c', h1, h2, h3, h3', h4⟩ := h
  injection h1 with e1 e2 e3
  subst e1; subst e2; subst e3
  obtain ⟨b, o, h5, h6, h7⟩ := h4 (by omega)
  exact ⟨b, o, l[i], h5, h6, List.getElem?_eq_getElem hi, h7 i _ (List.getElem?_eq_getElem hi)⟩
theorem SlIs.len {A : Option Addr} {n c : Nat} (h : SlIs w B s enc (.slice A n c) l) : n = l.length ∧ n ≤ c ∧ c ≤ maxLen ∧ (A = none → c = 0) := by
  obtain ⟨A', c', h1, h2, h3, h3', h4⟩ := h
  injection h1 with e1 e2 e3
  subst e1; subst e2; subst e3
  exact ⟨rfl, h2, h3, h3'⟩

/-- A row of the call's own. -/
def flatL (enc : α → Array Value) (l : List α) : List Value := l.flatMap fun a => (enc a).toList
def OwnIs (w : World) (base : Nat) (E : TypeId) (s : Nat) (enc : α → Array Value) (v : Value) (l : List α) : Prop := w.ownsRow base E s v l.length (flatL enc l)

variable {base : Nat} {E : TypeId}
theorem OwnIs.nil (w : World) (base : Nat) (E : TypeId) (s : Nat) (enc : α → Array Value) : OwnIs w base E s enc (.slice none 0 0) ([] : List α) := World.ownsRow_nil w base E s
theorem flatL_length (hs : ∀ a, (enc a).size = s) : ∀ l : List α, (flatL enc l).length = l.length * s
  | [] => by simp [flatL]
  | a :: l => by
    have := flatL_length hs l
    simp only [flatL, List.flatMap_cons, List.length_append, List.length_cons] at this ⊢
    rw [this, Nat.add_mul]
    simp [hs a]
    omega
theorem flatL_at (hs : ∀ a, (enc a).size = s) : ∀ (l : List α) (i : Nat) (a : α), l[i]? = some a → ∀ j, j < s → (flatL enc l)[i * s + j]? = (enc a)[j]?
  | [], i, a, h => by simp at h
  | b :: l, 0, a, h => by
    intro j hj
    simp at h
    subst h
    simp only [flatL, List.flatMap_cons, Nat.zero_mul, Nat.zero_add]
    rw [List.getElem?_append_left (by simp [hs]; exact hj)]
    simp
  | b :: l, i + 1, a, h => by
    intro j hj
    have := flatL_at hs l i a (by simpa using h) j hj
    simp only [flatL, List.flatMap_cons] at this ⊢
    rw [List.getElem?_append_right (by simp [hs, Nat.add_mul]; omega), ← this]
    congr 1
    simp [hs, Nat.add_mul]
    omega
theorem flatL_append (l m : List α) : flatL enc (l ++ m) = flatL enc l ++ flatL enc m := by simp [flatL]
theorem OwnIs.lt (h : OwnIs w base E s enc v l) : ∀ k, v.ownBlock = some k → base ≤ k ∧ k < w.heap.size := World.ownsRow.lt h
theorem OwnIs.kept {row : Option Nat} (h : OwnIs w base E s enc v l) (hg : w.grownBy w' row) (hne : v.ownBlock = none ∨ v.ownBlock ≠ row) : OwnIs w' base E s enc v l := World.ownsRow.kept h hg hne
theorem OwnIs.keep (h : OwnIs w base E s enc v l) (hk : ∀ k, v.ownBlock = some k → w'.heap[k]? = w.heap[k]?) : OwnIs w' base E s enc v l := by
  refine ⟨h.1, ?_⟩
  rcases h.2 with hn | ⟨g, cap, cur, rfl, hb, hgg, rest⟩
  · exact .inl hn
  · exact .inr ⟨g, cap, cur, rfl, hb, (hk g rfl).trans hgg, rest⟩
theorem OwnIs.below {C : Nat} (h : OwnIs w base E s enc v l) (hb : Below C w w') (hC : w.heap.size ≤ C) : OwnIs w' base E s enc v l := h.keep fun k hk => hb.block k (by have := (h.lt k hk).2; omega)
theorem OwnIs.reads (hs : ∀ a, (enc a).size = s) (h : OwnIs w base E s enc v l) : SlIs w w.heap.size s enc v l := by
  rcases h.2 with ⟨rfl, hn⟩ | ⟨g, cap, cur, rfl, hb, hgg, hnc, hcm, hsz, htake⟩
  · have : l = [] := List.eq_nil_of_length_eq_zero hn
    subst this
    exact SlIs.nil
  · refine ⟨_, cap, rfl, hnc, hcm, (fun h => by cases h), fun hn => ⟨g, 0, rfl, (Array.getElem?_eq_some_iff.1 hgg).1, fun i a ha => ?_⟩⟩
    have hi : i < l.length := (List.getElem?_eq_some_iff.1 ha).1
    have hle : i * s + s ≤ cur.size := by
      rw [hsz, ← Nat.succ_mul]
      exact Nat.mul_le_mul_right s (by omega)
    unfold win
    rw [hgg]
    simp only [Nat.zero_add]
    rw [if_pos hle]
    congr 1
    apply Array.ext_getElem?
    intro j
    by_cases hj : j < s
    · rw [Array.getElem?_extract, if_pos (by omega), ← flatL_at hs l i a ha j hj, ← htake, List.getElem?_take, if_pos ?_]
      · simp
      · have : i * s + s ≤ l.length * s := by rw [← Nat.succ_mul]; exact Nat.mul_le_mul_right s (by omega)
        omega
    · rw [Array.getElem?_eq_none (by simp; omega), Array.getElem?_eq_none (by rw [hs]; omega)]
/-- Where the row lies: below what number of blocks, from which on. -/
theorem OwnIs.form (h : OwnIs w base E s enc v l) : (v = .slice none 0 0 ∧ l = []) ∨ ∃ g cap, v = .slice (some ⟨g, 0, none⟩) l.length cap ∧ base ≤ g ∧ g < w.heap.size ∧ l.length ≤ cap ∧ cap ≤ maxLen ∧ okw w g 0 (cap * s) = true := by
  rcases h.2 with ⟨rfl, hn⟩ | ⟨g, cap, cur, rfl, hb, hgg, hnc, hcm, hsz, htake⟩
  · exact .inl ⟨rfl, List.eq_nil_of_length_eq_zero hn⟩
  · refine .inr ⟨g, cap, rfl, hb, (Array.getElem?_eq_some_iff.1 hgg).1, hnc, hcm, ?_⟩
    unfold okw
    rw [hgg]
    simp [hsz]
end

section
variable {α : Type} {w w' : World} {s : Nat} {enc : α → Array Value} {v : Value} {l : List α} {base : Nat} {E : TypeId}
theorem OwnIs.alloc (h : OwnIs w base E s enc v l) (o : Obj) : OwnIs (w.alloc o) base E s enc v l := World.ownsRow.alloc h o
theorem OwnIs.drew (h : OwnIs w base E s enc v l) : OwnIs w.drew base E s enc v l := h
theorem OwnIs.drewN (h : OwnIs w base E s enc v l) (n : Nat) : OwnIs (w.drewN n) base E s enc v l := h
theorem OwnIs.call (hb : Below w.heap.size w w') (h : OwnIs w base E s enc v l) : OwnIs w' base E s enc v l := h.below hb (Nat.le_refl _)
theorem SlIs.alloc {B : Nat} (h : SlIs w B s enc v l) (hB : B ≤ w.heap.size) (o : Obj) : SlIs (w.alloc o) B s enc v l := h.keep fun b hb => Below.heap_alloc w o b (by omega)
theorem SlIs.drew {B : Nat} (h : SlIs w B s enc v l) : SlIs w.drew B s enc v l := h.keep fun _ _ => rfl
theorem SlIs.drewN {B : Nat} (h : SlIs w B s enc v l) (n : Nat) : SlIs (w.drewN n) B s enc v l := h.keep fun _ _ => rfl
theorem SlIs.call {B C : Nat} (hb : Below C w w') (h : SlIs w B s enc v l) (hB : B ≤ C) : SlIs w' B s enc v l := h.below' hb hB
end

/-! ### a literal slice of one struct ('append(l, x)') -/
@[irreducible] def bsS (t : TypeId) (n : Nat) (parts : Array (Nat × Value)) : Sem Value := Instr.buildSlice t n parts
theorem bsS_eq (t : TypeId) (n : Nat) (parts : Array (Nat × Value)) : bsS t n parts = Instr.buildSlice t n parts := by unfold bsS; rfl
theorem fold_set (cs : Array Value) : ∀ (l : List Value) (k : Nat) (acc : Array Value), acc.size = cs.size → (∀ j, l[j]? = cs[k + j]?) → k + l.length = cs.size → (∀ j, j < k → acc[j]? = cs[j]?) →
    (l.zipIdx k).foldl (fun (x : Array Value) (y : Value × Nat) => x.setIfInBounds (0 + y.2) y.1) acc = cs
  | [], k, acc, hz, _, hk, ha => by
    apply Array.ext_getElem?
    intro j
    by_cases hj : j < k
    · simpa using ha j hj
    · simp only [List.zipIdx_nil, List.foldl_nil]
      rw [Array.getElem?_eq_none (by simp at hk; omega), Array.getElem?_eq_none (by simp at hk; omega)]
  | v :: l, k, acc, hz, hl, hk, ha => by
    simp only [List.zipIdx_cons, List.foldl_cons]
    refine fold_set cs l (k + 1) _ (by simpa using hz) (fun j => ?_) (by simp at hk; omega) (fun j hj => ?_)
    · have := hl (j + 1)
      simpa [Nat.add_assoc, Nat.add_comm 1 j] using this
    · by_cases h : k = j
      · subst h
        rw [Nat.zero_add, Array.getElem?_setIfInBounds_self_of_lt (by simp at hk; omega)]
        have := hl 0
        simpa using this
      · rw [Nat.zero_add, Array.getElem?_setIfInBounds_ne h]
        exact ha j (by omega)
@[go_sem] def bsOne (P : Program) (t E : TypeId) (s : Nat) (cs : Array Value) (w : World) : Result Value :=
  if cs.size = s then .ok (.slice (some ⟨w.heap.size, 0, none⟩) 1 1) (w.alloc (.cells cs E)) else .halt (.stuck "") w
theorem run_bsS (P : Program) (t E : TypeId) (s : Nat) (z : Value) (hu : P.underlying t = some (.slice E)) (hi : (P.info? E).map (fun i => (i.size, i.zero)) = some (s, some z)) (hz : z.cells.size = s) (h0 : 0 < s) (hs : s ≤ 16777216)
    (cs : Array Value) (hc : cs.size = s) (w : World) : (bsS t 1 #[(0, .agg cs)]).run P w = bsOne P t E s cs w := by
  rw [bsS_eq]
  unfold bsOne
  rw [if_pos hc]
  obtain ⟨i, hq, he⟩ := Option.map_eq_some_iff.1 hi
  simp only [Prod.mk.injEq] at he
  obtain ⟨h1, h2⟩ := he
  have hfill : ∀ zero : Array Value, zero.size = s → Instr.fill (fun i => some (i * s, s)) zero [(0, .agg cs)] = some cs := by
    intro zero hzs
    have hfold : (cs.zipIdx.foldl (fun (x : Array Value) (y : Value × Nat) => x.setIfInBounds (0 + y.2) y.1) zero) = cs := by
      rw [← Array.foldl_toList, Array.toList_zipIdx]
      exact fold_set cs cs.toList 0 _ (by simp [hc, hzs]) (by simp) (by simp) (fun j hj => absurd hj (by omega))
    simp only [Instr.fill, Value.cells, hc, Nat.zero_mul, hzs]
    rw [if_neg (by simp)]
    exact congrArg some hfold
  have hrange : ((Array.range (1 * s)).map (z.cells[· % z.cells.size]!)).size = s := by simp
  have h3 : ¬ (1 * s > 2 ^ 24) := by omega
  have h4 : ¬ (1 * s = 0) := by omega
  unfold Instr.buildSlice
  simp only [Sem.run_bind, run_underlying hu, Result.andThen_ok, sizeOf, typeInfo, program]
  simp only [Sem.run, Result.andThen_ok, hq, Sem.run_pure, h1, if_neg h3, if_neg h4, Sem.run_bind, zeroValue, typeInfo, program, h2, hfill _ hrange, newRow, newObj]
  rfl

/-- 'append' of one struct onto a row of the call's own: at the operation itself. -/
theorem wp_append1 {P : Program} {α : Type} {w : World} {a : Act} {K : Act → World → Prop} {Q : Exit → Act → World → Prop} {dst : Option Tmp} {sl x : Operand} {t ty : TypeId} {pos : String} {aft : Array Edge} {gd : Option (Nat × Bool)}
    (base : Nat) (E : TypeId) (s bytes : Nat) (enc : α → Array Value) (v : Value) (l : List α) (e : α) (g c : Nat) (z : Value)
    (ht : P.underlying t = some (.slice E)) (hi : (P.info? E).map (fun i => (i.size, i.zero, i.bytes)) = some (s, some z, bytes)) (hz : z.cells.size = s) (h0 : 0 < s) (hs : ∀ a, (enc a).size = s) (hf : ∀ a, flat (enc a) = true)
    (hv : a.eval sl = v) (hown : OwnIs w base E s enc v l) (hx : a.eval x = .slice (some ⟨g, 0, none⟩) 1 c) (hw : win w g 0 s = some (enc e)) (h63 : l.length + 1 ≤ maxLen) (hb : (l.length + 1) * bytes ≤ 140737488355328) (hbase : base ≤ w.heap.size)
    (h : ∀ v' w', OwnIs w' base E s enc v' (l ++ [e]) → Below base w w' → w.grownBy w' v.ownBlock → (v'.ownBlock = v.ownBlock ∨ v'.ownBlock = some w.heap.size) → K (a.put dst v') w') :
    Oper.wp P ⟨dst, .call ⟨.builtin .append, #[sl, x], #[t, t]⟩, ty, pos, aft, gd⟩ a w K Q := by
  obtain ⟨i, hq, he⟩ := Option.map_eq_some_iff.1 hi
  simp only [Prod.mk.injEq] at he
  obtain ⟨h1, h2, h3⟩ := he
  obtain ⟨v', w', hrun, ho, hg, _, hat⟩ := run_append_own_at (P := P) w base t ty E i z s bytes ht hq h2 h1 h3 hz h0 v l.length (flatL enc l) hown ⟨g, 0, none⟩ 1 c (enc e).toList (by simp [hs])
    (fun j u hu => by
      have hadd : (⟨g, 0, none⟩ : Addr).add j = ⟨g, 0 + j, none⟩ := by unfold Addr.add; split <;> simp_all
      have hj : j < s := by have := (List.getElem?_eq_some_iff.1 hu).1; simpa [hs] using this
      rw [hadd, win_cell hw j hj]
      simpa using hu)
    (fun u hu => Array.all_eq_true_iff_forall_mem.1 (hf e) u (by simpa using hu)) h63 hb hbase
  unfold Oper.wp execOp
  simp only [resolve, invoke, builtin, Sem.run_bind, Sem.run_pure, Result.andThen_ok, List.map_toArray, List.map_cons, List.map_nil, hv, hx, hrun]
  refine h v' w' ?_ ((Below.refl _ _).grown hg hbase (fun k hk => (hown.lt k hk).1)) hg hat
  unfold OwnIs
  rw [flatL_append, List.length_append]
  simpa [flatL] using ho

theorem run_append_of_nil {P : Program} (w : World) (base : Nat) (t ty e : TypeId) (i : TypeInfo) (size : Nat) (ht : P.underlying t = some (.slice e)) (hi : P.info? e = some i)
    (v : Value) (n : Nat) (xs : List Value) (hown : w.ownsRow base e size v n xs) (c : Nat) : (Builtin.append_ #[t, t] ty #[v, .slice none 0 c]).run P w = .ok v w := by
  rcases hown.2 with ⟨rfl, rfl⟩ | ⟨g, cap, cur, rfl, _, _, hnc, _⟩
  · simp [Builtin.append_, run_underlying ht, sizeOf, typeInfo, hi, Builtin.lenOf, Builtin.firstCells]
  · simp [Builtin.append_, run_underlying ht, sizeOf, typeInfo, hi, Builtin.lenOf, Builtin.firstCells, hnc, storeCells]

/-- 'append(l, m...)', l a row of the call's own, m any slice. -/
theorem wp_appendN {P : Program} {α : Type} {w : World} {a : Act} {K : Act → World → Prop} {Q : Exit → Act → World → Prop} {dst : Option Tmp} {sl x : Operand} {t ty : TypeId} {pos : String} {aft : Array Edge} {gd : Option (Nat × Bool)}
    (base : Nat) (E : TypeId) (s bytes : Nat) (enc : α → Array Value) (v : Value) (l m : List α) (u : Value) (B : Nat) (z : Value)
    (ht : P.underlying t = some (.slice E)) (hi : (P.info? E).map (fun i => (i.size, i.zero, i.bytes)) = some (s, some z, bytes)) (hz : z.cells.size = s) (h0 : 0 < s) (hs : ∀ a, (enc a).size = s) (hf : ∀ a, flat (enc a) = true)
    (hv : a.eval sl = v) (hown : OwnIs w base E s enc v l) (hx : a.eval x = u) (hr : SlIs w B s enc u m) (h63 : l.length + m.length ≤ maxLen) (hb : (l.length + m.length) * bytes ≤ 140737488355328) (hbase : base ≤ w.heap.size)
    (h : ∀ v' w', OwnIs w' base E s enc v' (l ++ m) → Below base w w' → w.grownBy w' v.ownBlock → (v'.ownBlock = v.ownBlock ∨ v'.ownBlock = some w.heap.size) → K (a.put dst v') w') :
    Oper.wp P ⟨dst, .call ⟨.builtin .append, #[sl, x], #[t, t]⟩, ty, pos, aft, gd⟩ a w K Q := by
  obtain ⟨i, hq, he⟩ := Option.map_eq_some_iff.1 hi
  simp only [Prod.mk.injEq] at he
  obtain ⟨h1, h2, h3⟩ := he
  obtain ⟨A, c, rfl, hlc, hcm, hnone, hcells⟩ := hr
  cases A with
  | none =>
    obtain rfl := hnone rfl
    have hm : m = [] := List.eq_nil_of_length_eq_zero (by omega)
    subst hm
    have hrun := run_append_of_nil (P := P) w base t ty E i s ht hq v l.length (flatL enc l) hown 0
    unfold Oper.wp execOp
    simp only [resolve, invoke, builtin, Sem.run_bind, Sem.run_pure, Result.andThen_ok, List.map_toArray, List.map_cons, List.map_nil, hv, hx, List.length_nil, hrun]
    exact h v w (by simpa using hown) (Below.refl _ _) (World.grownBy.refl w _) (.inl rfl)
  | some ad =>
    have hcell : ∀ j u, (flatL enc m)[j]? = some u → w.cell? (ad.add j) = some u := by
      intro j u hu
      have hj : j < m.length * s := by have := (List.getElem?_eq_some_iff.1 hu).1; rwa [flatL_length hs] at this
      have hn : 0 < m.length := by
        rcases Nat.eq_zero_or_pos m.length with h | h
        · rw [h, Nat.zero_mul] at hj; omega
        · exact h
      obtain ⟨b, o, hA, _, hw⟩ := hcells hn
      injection hA with hA
      subst hA
      have hdiv : j / s < m.length := (Nat.div_lt_iff_lt_mul h0).2 hj
      have hmod : j % s < s := Nat.mod_lt _ h0
      have hje : j / s * s + j % s = j := by rw [Nat.mul_comm]; exact Nat.div_add_mod j s
      have hat := flatL_at hs m (j / s) _ (List.getElem?_eq_getElem hdiv) (j % s) hmod
      rw [hje] at hat
      have hadd : (⟨b, o, none⟩ : Addr).add j = ⟨b, (o + j / s * s) + j % s, none⟩ := by
        have : (⟨b, o, none⟩ : Addr).add j = ⟨b, o + j, none⟩ := by unfold Addr.add; split <;> simp_all
        rw [this]
        congr 1
        omega
      rw [hadd, win_cell (hw _ _ (List.getElem?_eq_getElem hdiv)) (j % s) hmod, ← hat, hu]
    obtain ⟨v', w', hrun, ho, hg, _, hat⟩ := run_append_own_at (P := P) w base t ty E i z s bytes ht hq h2 h1 h3 hz h0 v l.length (flatL enc l) hown ad m.length c (flatL enc m) (flatL_length hs m) hcell
      (fun u hu => by
        obtain ⟨e, _, hu⟩ := List.mem_flatMap.1 hu
        exact Array.all_eq_true_iff_forall_mem.1 (hf e) u (by simpa using hu)) h63 hb hbase
    unfold Oper.wp execOp
    simp only [resolve, invoke, builtin, Sem.run_bind, Sem.run_pure, Result.andThen_ok, List.map_toArray, List.map_cons, List.map_nil, hv, hx, hrun]
    refine h v' w' ?_ ((Below.refl _ _).grown hg hbase (fun k hk => (hown.lt k hk).1)) hg hat
    unfold OwnIs
    rw [flatL_append, List.length_append]
    exact ho
theorem wpList_append1 {P : Program} {α : Type} {w : World} {a : Act} {ops : Array Oper} {rest : List Oper} {Q : Exit → Act → World → Prop} {dst : Option Tmp} {sl x : Operand} {t ty : TypeId} {pos : String} {aft : Array Edge}
    (base : Nat) (E : TypeId) (s bytes : Nat) (enc : α → Array Value) (v : Value) (l : List α) (e : α) (g c : Nat) (z : Value)
    (ht : P.underlying t = some (.slice E)) (hi : (P.info? E).map (fun i => (i.size, i.zero, i.bytes)) = some (s, some z, bytes)) (hz : z.cells.size = s) (h0 : 0 < s) (hs : ∀ a, (enc a).size = s) (hf : ∀ a, flat (enc a) = true)
    (hv : a.eval sl = v) (hown : OwnIs w base E s enc v l) (hx : a.eval x = .slice (some ⟨g, 0, none⟩) 1 c) (hw : win w g 0 s = some (enc e)) (h63 : l.length + 1 ≤ maxLen) (hb : (l.length + 1) * bytes ≤ 140737488355328) (hbase : base ≤ w.heap.size)
    (h : ∀ v' w', OwnIs w' base E s enc v' (l ++ [e]) → Below base w w' → w.grownBy w' v.ownBlock → (v'.ownBlock = v.ownBlock ∨ v'.ownBlock = some w.heap.size) → wpList P ops Q rest (a.put dst v') w') :
    wpList P ops Q (⟨dst, .call ⟨.builtin .append, #[sl, x], #[t, t]⟩, ty, pos, aft, none⟩ :: rest) a w :=
  wpList_plain rfl fun _ hK => wp_append1 base E s bytes enc v l e g c z ht hi hz h0 hs hf hv hown hx hw h63 hb hbase fun v' w' h1 h2 h3 h4 => hK _ _ (h v' w' h1 h2 h3 h4)
theorem wpList_appendN {P : Program} {α : Type} {w : World} {a : Act} {ops : Array Oper} {rest : List Oper} {Q : Exit → Act → World → Prop} {dst : Option Tmp} {sl x : Operand} {t ty : TypeId} {pos : String} {aft : Array Edge}
    (base : Nat) (E : TypeId) (s bytes : Nat) (enc : α → Array Value) (v : Value) (l m : List α) (u : Value) (B : Nat) (z : Value)
    (ht : P.underlying t = some (.slice E)) (hi : (P.info? E).map (fun i => (i.size, i.zero, i.bytes)) = some (s, some z, bytes)) (hz : z.cells.size = s) (h0 : 0 < s) (hs : ∀ a, (enc a).size = s) (hf : ∀ a, flat (enc a) = true)
    (hv : a.eval sl = v) (hown : OwnIs w base E s enc v l) (hx : a.eval x = u) (hr : SlIs w B s enc u m) (h63 : l.length + m.length ≤ maxLen) (hb : (l.length + m.length) * bytes ≤ 140737488355328) (hbase : base ≤ w.heap.size)
    (h : ∀ v' w', OwnIs w' base E s enc v' (l ++ m) → Below base w w' → w.grownBy w' v.ownBlock → (v'.ownBlock = v.ownBlock ∨ v'.ownBlock = some w.heap.size) → wpList P ops Q rest (a.put dst v') w') :
    wpList P ops Q (⟨dst, .call ⟨.builtin .append, #[sl, x], #[t, t]⟩, ty, pos, aft, none⟩ :: rest) a w :=
  wpList_plain rfl fun _ hK => wp_appendN base E s bytes enc v l m u B z ht hi hz h0 hs hf hv hown hx hr h63 hb hbase fun v' w' h1 h2 h3 h4 => hK _ _ (h v' w' h1 h2 h3 h4)
end Go.Proofs.YtgoifgockcpnhaaDoor
