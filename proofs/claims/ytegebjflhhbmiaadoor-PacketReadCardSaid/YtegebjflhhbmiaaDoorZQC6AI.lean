/- More operations of a walk: make, copy, an append that grows, bytes to strings and back; rows that are only read from now on. -/
import Derived.Test.YtegebjflhhbmiaaDoorZQC6AH
import Derived.ArgAppend
import Derived.Laws.IdiomStrings
import Derived.Laws.BytesString
import Derived.Laws.CopyRow
import Derived.OwnWalk
set_option linter.unusedSimpArgs false
set_option linter.unusedVariables false
namespace Go.Proofs.YtegebjflhhbmiaaDoor
open Go Go.RowKit

def bytv (i : Int) : Array Value := #[.int .u8 i]
@[go_sem] theorem bytv_size (i : Int) : (bytv i).size = 1 := rfl
@[go_sem] theorem bytv_flat (i : Int) : flat (bytv i) = true := by simp [flat, bytv, Value.oneCell']
@[go_sem] theorem bytv_0 (i : Int) : (bytv i)[0]? = some (.int .u8 i) := rfl
@[go_sem] theorem bytv_set (i j : Int) : (bytv i).setIfInBounds 0 (.int .u8 j) = bytv j := rfl
theorem cells_bytv (i : Int) : (Value.int .u8 i).cells = bytv i := rfl
/-- Bytes as a text. -/
def bts (l : List Int) : ByteArray := ⟨(l.map fun n => UInt8.ofNat n.toNat).toArray⟩
theorem bts_size (l : List Int) : (bts l).size = l.length := by simp [bts, ByteArray.size]
theorem bts_fold : ∀ (l : List Int) (s : ByteArray), l.foldl (fun r n => r.push (UInt8.ofNat n.toNat)) s = ⟨s.data ++ (bts l).data⟩
  | [], s => by simp [bts]
  | n :: l, s => by
    rw [List.foldl_cons, bts_fold l]
    simp [bts, ByteArray.push]
theorem bts_append (l m : List Int) : bts (l ++ m) = bts l ++ bts m := by
  unfold bts
  rw [List.map_append]
  apply ByteArray.ext
  simp

/-! ### what is only read from now on -/
def ro {α : Type} (s : Nat) (enc : α → Array Value) (v : Value) (l : List α) : HP := ex fun k : Hp => pu (SlR (Exh k) s enc v l) (Exh k)
section
variable {α : Type} {s : Nat} {enc : α → Array Value} {v : Value} {l : List α} {R H : HP}
theorem slr_ro : SlR (ro s enc v l * R) s enc v l := fun w hw => by
  unfold ro at hw
  rw [ex_star] at hw
  obtain ⟨x, ⟨k, hx⟩, i⟩ := hw
  have h2 : (pu (SlR (Exh k) s enc v l) (Exh k * R)).on x := by rw [← pu_star]; exact hx
  obtain ⟨h, h3⟩ := h2
  exact h w (Own.mono (A := Exh k * R) ⟨x, h3, i⟩ ent_keep)
end
def MakeT {α : Type} (P : Program) (t E : TypeId) (s by_ : Nat) (enc : α → Array Value) (z0 : α) : Prop := P.underlying t = some (.slice E) ∧ (∃ z : Value, (P.info? E).map (fun i => (i.size, i.zero, i.bytes)) = some (s, some z, by_) ∧ z.cells = enc z0) ∧ 0 < s ∧ ∀ a, (enc a).size = s
theorem madeCells_rep {α : Type} {s : Nat} {enc : α → Array Value} {z0 : α} (hs : (enc z0).size = s) (h0 : 0 < s) : ∀ n, (madeCells (enc z0) (n * s)).toList = flatL enc (List.replicate n z0) := fun n => by
  apply List.ext_getElem?
  intro j
  have hl : (flatL enc (List.replicate n z0)).length = n * s := by
    induction n with
    | zero => simp [flatL]
    | succ n ih =>
      rw [List.replicate_succ]
      simp only [flatL, List.flatMap_cons, List.length_append] at ih ⊢
      rw [ih]
      simp [hs]
      rw [Nat.add_mul]
      omega
  by_cases hj : j < n * s
  · have h1 : ∀ n j, j < n * s → (flatL enc (List.replicate n z0))[j]? = (enc z0)[j % s]? := fun n => by
      induction n with
      | zero => intro j h; omega
      | succ n ih =>
        intro j h
        rw [List.replicate_succ]
        show ((enc z0).toList ++ flatL enc (List.replicate n z0))[j]? = _
        by_cases hjs : j < s
        · rw [List.getElem?_append_left (by simpa [hs] using hjs), Nat.mod_eq_of_lt hjs, Array.getElem?_toList]
        · rw [List.getElem?_append_right (by simp [hs]; omega), show (enc z0).toList.length = s by simp [hs], ih (j - s) (by have := Nat.add_mul n 1 s; omega), Nat.mod_eq_sub_mod (a := j) (b := s) (by omega)]
    rw [h1 n j hj]
    have hm : j % s < (enc z0).size := by rw [hs]; exact Nat.mod_lt _ h0
    simp [madeCells, hj, hs]
    rw [Array.getElem?_eq_getElem hm, getElem!_pos (enc z0) (j % s) hm]
  · rw [List.getElem?_eq_none (by simp [madeCells]; omega), List.getElem?_eq_none (by omega)]
theorem row_of_owns {α : Type} {E : TypeId} {s g n : Nat} {enc : α → Array Value} {l : List α} {H : HP} {c w w' : World} (h : Sat c H w) (ho : w'.ownsRow w.heap.size E s (.slice (some ⟨g, 0, none⟩) l.length n) l.length (flatL enc l)) (hg : w.grownBy w' none) : Sat c (row E s enc (.slice (some ⟨g, 0, none⟩) l.length n) l * H) w' := by
  have h0 : Sat c (row E s enc (.slice none 0 0) ([] : List α) * H) w := h.mono ent_row_nil
  have ho' : OwnIs w' 0 E s enc (.slice (some ⟨g, 0, none⟩) l.length n) l := by
    obtain ⟨h1, h2⟩ := ho
    refine ⟨h1, ?_⟩
    rcases h2 with h2 | ⟨g', cap, cur, e, _, r⟩
    · exact .inl h2
    · exact .inr ⟨g', cap, cur, e, Nat.zero_le _, r⟩
  have hgb : w.heap.size ≤ g := by
    rcases ho.2 with ⟨h2, _⟩ | ⟨g', cap, cur, e, hb, _⟩
    · cases h2
    · injection e with e; injection e with e; injection e with e; subst e; exact hb
  exact h0.rowTurn ho' ⟨hg.os, hg.tape, hg.output, hg.size, fun k hk _ => hg.block k hk (by simp)⟩ (fun k hk => by
    simp [Value.ownBlock] at hk
    subst hk
    exact .inr hgb)
def BytesT (P : Program) (t t2 : TypeId) : Prop := ∃ E, P.underlying t = some (.slice E) ∧ P.underlying E = some (.int .u8) ∧ P.underlying t2 = some .string
theorem flat_map1 {α β : Type} (f : α → β) : ∀ l : List α, l.flatMap (fun a => [f a]) = l.map f
  | [] => rfl
  | a :: l => by rw [List.flatMap_cons, flat_map1 f l]; rfl
theorem slIs_cells1 {α : Type} {w : World} {B : Nat} {enc : α → Array Value} {ad : Addr} {n c : Nat} {l : List α} {f : α → Value} (hf : ∀ a, enc a = #[f a]) (h : SlIs w B 1 enc (.slice (some ad) n c) l) : ∀ j u, (l.map f)[j]? = some u → w.cell? (ad.add j) = some u := by
  intro j u hu
  refine h.cells (by omega) (fun a => by rw [hf]; rfl) j u ?_
  rw [← hu]
  congr 1
  unfold flatL
  rw [show (fun a => (enc a).toList) = fun a => [f a] from funext fun a => by rw [hf]]
  exact flat_map1 f l
theorem run_cvBS {P : Program} {H : HP} {w : World} {a : Act} {dst : Option Tmp} {t t2 ty : TypeId} {pos : String} {aft : Array Edge} {gd : Option (Nat × Bool)} {x : Operand} {v : Value} {l : List Int} (hw : Own H w) (hx : a.eval x = v) (hT : BytesT P t t2) (hr : SlR H 1 bytv v l) : (execOp a.eval ⟨dst, .convert t t2 x, ty, pos, aft, gd⟩).run P w = .ok (.value (.string (bts l))) w := by
  obtain ⟨E, h1, h2, h3⟩ := hT
  have hs := hr w hw
  have hs' := hs
  obtain ⟨A, c, rfl, hlc, hcm, hnone, _⟩ := hs
  have hrun : (Conv.bytesToString (.slice A l.length c)).run P w = .ok (.string (bts l)) w := by
    cases A with
    | none =>
      obtain rfl := hnone rfl
      obtain rfl : l = [] := List.eq_nil_of_length_eq_zero (by omega)
      simp [Conv.bytesToString, bts, Sem.run_pure]
      try rfl
    | some ad =>
      have hl : (loadCells ad l.length).run P w = .ok (l.map (Value.int .u8)).toArray w := by
        have := run_loadCells_list (P := P) w ad (l.map (Value.int .u8)) (slIs_cells1 (fun _ => rfl) hs')
        simpa using this
      rw [run_bytesToString w ad l.length c l hl, bts_fold]
      simp
  simp [execOp, hx, run_convert_bytes_string w t t2 E A l.length c h1 h2 h3, hrun]
theorem row_blk {α : Type} {E : TypeId} {s g n cap : Nat} {enc : α → Array Value} {l : List α} {R : HP} {c w : World} (hs : Sat c (row E s enc (.slice (some ⟨g, 0, none⟩) n cap) l * R) w) :
    ∃ cur, ((flatL enc l).length = l.length * s ∧ n = l.length ∧ l.length ≤ cap ∧ cap ≤ maxLen ∧ cur.size = cap * s ∧ cur.toList.take (l.length * s) = flatL enc l) ∧ Sat c (blk g (.cells cur E (0, 0)) * R) w := by
  obtain ⟨x, ⟨h1, h2, d, l1, l2, ⟨hf, x1⟩, x2⟩, i⟩ := hs.own
  rcases x1 with ⟨e, _⟩ | ⟨g', cap', cur, e, hg, r1, r2, r3, r4⟩
  · cases e
  · injection e with e1 e2 e3
    injection e1 with e1
    injection e1 with e1
    subst e1
    subst e3
    exact ⟨cur, ⟨hf, e2, r1, r2, r3, r4⟩, hs.os, hs.tape, hs.output, x, ⟨h1, h2, d, l1, l2, hg, x2⟩, i⟩
def ptv (a : Option Addr) : Array Value := #[.pointer a]
@[go_sem] theorem ptv_size (a : Option Addr) : (ptv a).size = 1 := rfl
@[go_sem] theorem ptv_flat (a : Option Addr) : flat (ptv a) = true := by simp [flat, ptv, Value.oneCell']
@[go_sem] theorem ptv_0 (a : Option Addr) : (ptv a)[0]? = some (.pointer a) := rfl
theorem pl_cvBS {P : Program} {c : World} {H : HP} {w : World} {ops : Array Oper} {Q : Exit → Act → World → Prop} {a : Act} {dst : Option Tmp} {ty : TypeId} {pos : String} {aft : Array Edge} {rest : List Oper} {gd : Option (Nat × Bool)} {t t2 : TypeId} {x : Operand} {v : Value} {l : List Int} (hs : Sat c H w) (hx : a.eval x = v) (hT : BytesT P t t2) (hw : SlR H 1 bytv v l) (hg : gd = none) (hK : wpList P ops Q rest (a.put dst (.string (bts l))) w) : wpList P ops Q (⟨dst, .convert t t2 x, ty, pos, aft, gd⟩ :: rest) a w := by
  subst hg
  refine wpList_plain rfl fun K hk => ?_
  unfold Oper.wp
  rw [run_cvBS hs.own hx hT hw]
  exact hk _ _ hK
theorem ow_make {P : Program} {c : World} {H : HP} {w : World} {Q : Exit → Act → World → Prop} {a : Act} {dst : Option Tmp} {ty : TypeId} {pos : String} {aft : Array Edge} {gd : Option (Nat × Bool)} {K : Act → World → Prop} {α : Type} {t E : TypeId} {x y : Operand} {n s by_ : Nat} {enc : α → Array Value} {z0 : α} (hs : Sat c H w) (hT : MakeT P t E s by_ enc z0) (hx : a.eval x = .int .i64 (n : Int)) (hy : a.eval y = .int .i64 (n : Int)) (hby : n * by_ ≤ 140737488355328) (hm : n ≤ maxLen) (hK : ∀ (g : Nat) (w' : World), Sat c (row E s enc (.slice (some ⟨g, 0, none⟩) n n) (List.replicate n z0) * H) w' → K (a.put dst (.slice (some ⟨g, 0, none⟩) n n)) w') : Oper.wp P ⟨dst, .makeSlice t x y, ty, pos, aft, gd⟩ a w K Q := by
  obtain ⟨hu, ⟨z, hi, hz⟩, h0, hsz⟩ := hT
  obtain ⟨i, hq, he⟩ := Option.map_eq_some_iff.1 hi
  simp only [Prod.mk.injEq] at he
  obtain ⟨h1, h2, h3⟩ := he
  obtain ⟨w', hrun, r1, r2⟩ := run_make_full (P := P) w w.heap.size t E i z s hu hq h2 h1 .i64 .i64 n (by rw [h3, Nat.mul_comm]; omega) hm (Nat.le_refl _)
  have hrun' : (execOp a.eval ⟨dst, .makeSlice t x y, ty, pos, aft, gd⟩).run P w = .ok (.value (.slice (some ⟨w.heap.size, 0, none⟩) n n)) w' := by
    simp [execOp, hx, hy, hrun]
  unfold Oper.wp
  rw [hrun']
  refine hK _ _ ?_
  have hl : (List.replicate n z0).length = n := List.length_replicate
  have r1' : w'.ownsRow w.heap.size E s (.slice (some ⟨w.heap.size, 0, none⟩) (List.replicate n z0).length n) (List.replicate n z0).length (flatL enc (List.replicate n z0)) := by
    rw [hl, ← madeCells_rep (hsz z0) h0 n, ← hz]
    exact r1
  have := row_of_owns hs r1' r2
  rwa [hl] at this
theorem pl_make {P : Program} {c : World} {H : HP} {w : World} {ops : Array Oper} {Q : Exit → Act → World → Prop} {a : Act} {dst : Option Tmp} {ty : TypeId} {pos : String} {aft : Array Edge} {rest : List Oper} {α : Type} {t E : TypeId} {x y : Operand} {n s by_ : Nat} {enc : α → Array Value} {z0 : α} (hs : Sat c H w) (hT : MakeT P t E s by_ enc z0) (hx : a.eval x = .int .i64 (n : Int)) (hy : a.eval y = .int .i64 (n : Int)) (hby : n * by_ ≤ 140737488355328) (hm : n ≤ maxLen) (hK : ∀ (g : Nat) (w' : World), Sat c (row E s enc (.slice (some ⟨g, 0, none⟩) n n) (List.replicate n z0) * H) w' → wpList P ops Q rest (a.put dst (.slice (some ⟨g, 0, none⟩) n n)) w') : wpList P ops Q (⟨dst, .makeSlice t x y, ty, pos, aft, none⟩ :: rest) a w :=
  wpList_plain rfl fun K hk => ow_make hs hT hx hy hby hm (fun g w' h => hk _ _ (hK g w' h))
theorem ow_copy1 {P : Program} {c : World} {H : HP} {w : World} {Q : Exit → Act → World → Prop} {a : Act} {dst : Option Tmp} {ty : TypeId} {pos : String} {aft : Array Edge} {gd : Option (Nat × Bool)} {K : Act → World → Prop} {α : Type} {d x : Operand} {dT sT E : TypeId} {g n cap : Nat} {enc : α → Array Value} {u : Value} {l m : List α} {R : HP} (hs : Sat c H w) (hT : P.underlying dT = some (.slice E)) (hs1 : (P.info? E).map (·.size) = some 1) (hv : a.eval d = .slice (some ⟨g, 0, none⟩) n cap) (he : Ent H (row E 1 enc (.slice (some ⟨g, 0, none⟩) n cap) l * R)) (hx : a.eval x = u) (hw : SlR H 1 enc u m) (hf : ∀ a, flat (enc a) = true) (hsz : ∀ a, (enc a).size = 1) (hl : m.length = n) (hK : ∀ w' : World, Sat c (row E 1 enc (.slice (some ⟨g, 0, none⟩) n cap) m * R) w' → K (a.put dst (goInt n)) w') : Oper.wp P ⟨dst, .call ⟨.builtin .copy, #[d, x], #[dT, sT]⟩, ty, pos, aft, gd⟩ a w K Q := by
  have hs' := hs.mono he
  have hown := hs'.own.row
  have hsrc := hw w hs.own
  have hsrc' := hsrc
  obtain ⟨A, c2, rfl, hlc, hcm, hnone, _⟩ := hsrc
  obtain ⟨hn, _, _⟩ := row_len hs'.own
  have hfl : (flatL enc m).length = m.length := by have := flatL_length hsz m; omega
  rcases hown.2 with ⟨h, _⟩ | ⟨g', cap', cur, e, _, hg, h1, h2, h3, h4⟩
  · cases h
  injection e with e1 e2 e3
  injection e1 with e1
  injection e1 with e1
  subst e1
  subst e3
  cases A with
  | none =>
    obtain rfl := hnone rfl
    have hm : m = [] := List.eq_nil_of_length_eq_zero (by omega)
    subst hm
    obtain rfl : l = [] := List.eq_nil_of_length_eq_zero (by simp at hl; omega)
    obtain rfl : n = 0 := by simpa using hl.symm
    have hrun := run_copy_nil (P := P) w dT sT ty E ⟨g, 0, none⟩ 0 cap hT (by rw [hs1]; rfl)
    unfold Oper.wp execOp
    simp only [resolve, invoke, builtin, Sem.run_bind, Sem.run_pure, Result.andThen_ok, List.map_toArray, List.map_cons, List.map_nil, hv, hx, List.length_nil, hrun]
    exact hK w hs'
  | some ad =>
    have hlt : l.length = n := hn.symm
    have hcs : (flatL enc m).length = Nat.min m.length n := by rw [hfl, hl]; exact (Nat.min_self n).symm
    have hcell : ∀ j v, (flatL enc m)[j]? = some v → w.cell? (ad.add j) = some v := hsrc'.cells (by omega) hsz
    have hfit : 0 + (flatL enc m).length ≤ cur.size := by rw [h3, hfl, hl]; omega
    have hrun := run_copy_row (P := P) w dT sT ty E g 0 n cap ad m.length c2 cur E (flatL enc m) hT hs1 hg hcs hcell hfit (flatL_one hf)
    unfold Oper.wp execOp
    simp only [resolve, invoke, builtin, Sem.run_bind, Sem.run_pure, Result.andThen_ok, List.map_toArray, List.map_cons, List.map_nil, hv, hx, hrun]
    rw [show goInt (flatL enc m).length = goInt n by rw [hfl, hl]]
    refine hK _ ?_
    have hnew : (w.setRow g (cur.toList.take 0 ++ flatL enc m ++ cur.toList.drop (0 + (flatL enc m).length)).toArray).heap[g]? = some (.cells (cur.toList.take 0 ++ flatL enc m ++ cur.toList.drop (0 + (flatL enc m).length)).toArray E (0, 0)) := setRow_heap w g cur _ E (0, 0) hg
    refine hs'.rowTurn ⟨by rw [hfl, Nat.mul_one], .inr ⟨g, cap, _, by rw [hl], Nat.zero_le _, hnew, by omega, h2, ?_, ?_⟩⟩ ⟨rfl, rfl, rfl, by simp [World.setRow], fun k _ hk => setRow_other w g k _ (fun h => hk (by rw [h]; rfl))⟩ (fun k hk => .inl hk)
    · simp [hfl, h3, hl]; omega
    · rw [Nat.mul_one]
      simp only [List.take_zero, List.nil_append]
      rw [← hfl]
      exact List.take_left
theorem pl_copy1 {P : Program} {c : World} {H : HP} {w : World} {ops : Array Oper} {Q : Exit → Act → World → Prop} {a : Act} {dst : Option Tmp} {ty : TypeId} {pos : String} {aft : Array Edge} {rest : List Oper} {α : Type} {d x : Operand} {dT sT E : TypeId} {g n cap : Nat} {enc : α → Array Value} {u : Value} {l m : List α} {R : HP} (hs : Sat c H w) (hT : P.underlying dT = some (.slice E)) (hs1 : (P.info? E).map (·.size) = some 1) (hv : a.eval d = .slice (some ⟨g, 0, none⟩) n cap) (he : Ent H (row E 1 enc (.slice (some ⟨g, 0, none⟩) n cap) l * R)) (hx : a.eval x = u) (hw : SlR H 1 enc u m) (hf : ∀ a, flat (enc a) = true) (hsz : ∀ a, (enc a).size = 1) (hl : m.length = n) (hK : ∀ w' : World, Sat c (row E 1 enc (.slice (some ⟨g, 0, none⟩) n cap) m * R) w' → wpList P ops Q rest (a.put dst (goInt n)) w') : wpList P ops Q (⟨dst, .call ⟨.builtin .copy, #[d, x], #[dT, sT]⟩, ty, pos, aft, none⟩ :: rest) a w :=
  wpList_plain rfl fun K hk => ow_copy1 hs hT hs1 hv he hx hw hf hsz hl (fun  w' h => hk _ _ (hK  w' h))
theorem ow_storeIn {P : Program} {c : World} {H : HP} {w : World} {Q : Exit → Act → World → Prop} {a : Act} {dst : Option Tmp} {ty : TypeId} {pos : String} {aft : Array Edge} {gd : Option (Nat × Bool)} {K : Act → World → Prop} {α : Type} {t E : TypeId} {x y : Operand} {g o i j n cap s : Nat} {enc : α → Array Value} {l : List α} {e e2 : α} {v : Value} {R : HP} (hs : Sat c H w) (hx : a.eval x = .pointer (some ⟨g, o, none⟩)) (he : Ent H (row E s enc (.slice (some ⟨g, 0, none⟩) n cap) l * R)) (hy : a.eval y = v) (ht : ScT P t) (h1 : v.oneCell' = true) (ho : o = i * s + j) (hj : j < s) (hi : l[i]? = some e) (hse : (enc e).setIfInBounds j v = enc e2) (hsz : ∀ a, (enc a).size = s) (hK : ∀ w' : World, Sat c (row E s enc (.slice (some ⟨g, 0, none⟩) n cap) (l.set i e2) * R) w' → K (a.put dst undef) w') : Oper.wp P ⟨dst, .store t x y, ty, pos, aft, gd⟩ a w K Q := by
  subst ho
  obtain ⟨cur, hfc, hs'⟩ := row_blk (hs.mono he)
  obtain ⟨hfl, hn, hnc, hcm, hcs, htk⟩ := hfc
  have hil : i < l.length := (List.getElem?_eq_some_iff.1 hi).1
  have hlt : i * s + j < l.length * s := by
    have : (i + 1) * s ≤ l.length * s := Nat.mul_le_mul_right s hil
    rw [Nat.add_mul] at this
    omega
  have hcap : l.length * s ≤ cap * s := Nat.mul_le_mul_right s hnc
  have hb := hs'.own.blk
  have hoc : i * s + j < cur.size := by rw [hcs]; omega
  have hrun : (execOp a.eval ⟨dst, .store t x y, ty, pos, aft, gd⟩).run P w = .ok .skip (w.setCell ⟨g, i * s + j, none⟩ v) := by
    simp [execOp, hx, hy, run_store1 ht h1 hb hoc]
  unfold Oper.wp
  rw [hrun]
  have hs2 : Sat c (blk g (.cells (cur.setIfInBounds (i * s + j) v) E (0, 0)) * R) (w.setCell ⟨g, i * s + j, none⟩ v) := by
    refine hs'.upd (w' := w.setCell ⟨g, i * s + j, none⟩ v) rfl rfl rfl ?_ (fun b hb' _ => heap_setCell_other w _ b v hb')
    unfold World.setCell
    simp only [Array.getElem?_modify]
    rw [hb]
    simp
  refine hK _ (hs2.mono (star_mono (fun h x => ⟨by rw [flatL_length hsz], .inr ⟨g, cap, _, by rw [hn, List.length_set], x, by rw [List.length_set]; exact hnc, hcm, by rw [Array.size_setIfInBounds]; exact hcs, ?_⟩⟩) ent_refl))
  rw [List.length_set]
  apply List.ext_getElem?
  intro q
  by_cases hq : q < l.length * s
  · have h0 : 0 < s := by omega
    have hqd : q / s < l.length := (Nat.div_lt_iff_lt_mul h0).2 hq
    have hqm : q % s < s := Nat.mod_lt _ h0
    have hqe : q / s * s + q % s = q := by rw [Nat.mul_comm]; exact Nat.div_add_mod q s
    have hold := flatL_at hsz l (q / s) _ (List.getElem?_eq_getElem hqd) (q % s) hqm
    rw [hqe, ← htk, List.getElem?_take, if_pos hq, Array.getElem?_toList] at hold
    rw [List.getElem?_take, if_pos hq, Array.getElem?_toList]
    by_cases hqi : q / s = i
    · have hnew := flatL_at hsz (l.set i e2) (q / s) e2 (by rw [hqi, List.getElem?_set, if_pos rfl, if_pos hil]) (q % s) hqm
      rw [hqe] at hnew
      rw [hnew, ← hse]
      have hle : l[q / s] = e := by
        have h8 := List.getElem?_eq_getElem hqd
        have h9 : l[q / s]? = some e := by rw [hqi]; exact hi
        exact Option.some.inj (h8.symm.trans h9)
      rw [hle] at hold
      by_cases hqj : q % s = j
      · have : i * s + j = q := by rw [← hqi, ← hqj]; exact hqe
        rw [this, hqj, Array.getElem?_setIfInBounds_self_of_lt (by omega), Array.getElem?_setIfInBounds_self_of_lt (by rw [hsz]; exact hj)]
      · have : i * s + j ≠ q := fun h => hqj (by rw [← hqe, hqi] at h; omega)
        rw [Array.getElem?_setIfInBounds_ne this, Array.getElem?_setIfInBounds_ne (fun h => hqj h.symm), hold]
    · have hnew := flatL_at hsz (l.set i e2) (q / s) l[q / s] (by rw [List.getElem?_set, if_neg (fun h => hqi h.symm), List.getElem?_eq_getElem hqd]) (q % s) hqm
      rw [hqe] at hnew
      have : i * s + j ≠ q := fun h => hqi (by
        rw [← h, Nat.add_comm, Nat.add_mul_div_right _ _ h0, Nat.div_eq_of_lt hj, Nat.zero_add])
      rw [Array.getElem?_setIfInBounds_ne this, hnew, hold]
  · rw [List.getElem?_eq_none (by rw [List.length_take]; omega), List.getElem?_eq_none (by rw [flatL_length hsz, List.length_set]; omega)]
theorem pl_storeIn {P : Program} {c : World} {H : HP} {w : World} {ops : Array Oper} {Q : Exit → Act → World → Prop} {a : Act} {dst : Option Tmp} {ty : TypeId} {pos : String} {aft : Array Edge} {rest : List Oper} {α : Type} {t E : TypeId} {x y : Operand} {g o i j n cap s : Nat} {enc : α → Array Value} {l : List α} {e e2 : α} {v : Value} {R : HP} (hs : Sat c H w) (hx : a.eval x = .pointer (some ⟨g, o, none⟩)) (he : Ent H (row E s enc (.slice (some ⟨g, 0, none⟩) n cap) l * R)) (hy : a.eval y = v) (ht : ScT P t) (h1 : v.oneCell' = true) (ho : o = i * s + j) (hj : j < s) (hi : l[i]? = some e) (hse : (enc e).setIfInBounds j v = enc e2) (hsz : ∀ a, (enc a).size = s) (hK : ∀ w' : World, Sat c (row E s enc (.slice (some ⟨g, 0, none⟩) n cap) (l.set i e2) * R) w' → wpList P ops Q rest (a.put dst undef) w') : wpList P ops Q (⟨dst, .store t x y, ty, pos, aft, none⟩ :: rest) a w :=
  wpList_plain rfl fun K hk => ow_storeIn hs hx he hy ht h1 ho hj hi hse hsz (fun  w' h => hk _ _ (hK  w' h))
/-- .. whose results are a plain value and a struct; and two structs. -/
theorem ret_tmp_cell {P : Program} {fn : Func} {R : Ending → World → Prop} {a : Act} {w : World} {p u : Tmp} {ty : TypeId} {n : Nat} {d : TypeDesc} (hr : fn.results = #[.tmp u, .cell p ty]) (hu : P.underlying ty = some d) (hd : isAggD d = true) (hi : (P.info? ty).map (·.size) = some n)
    (g : Nat) (hp : a.tmps.getD p undef = .pointer (some ⟨g, 0, none⟩)) (cs : Array Value) (hw : win w g 0 n = some cs) (hdf : a.defers = []) (h : R (.returned (.tuple #[a.tmps.getD u undef, .agg cs])) w) : bodyPost P fn R .ret a w := by
  refine bodyPost_ret ?_ hdf h
  have hp' : a.tmps[p]?.getD undef = .pointer (some ⟨g, 0, none⟩) := by simpa using hp
  simp [results, hr, hp', asAddr, run_loadVar_win hu hd hi hw]
theorem ret_cell_cell {P : Program} {fn : Func} {R : Ending → World → Prop} {a : Act} {w : World} {p q : Tmp} {ty tz : TypeId} {n m : Nat} {d e : TypeDesc} (hr : fn.results = #[.cell p ty, .cell q tz]) (hu : P.underlying ty = some d) (hd : isAggD d = true) (hi : (P.info? ty).map (·.size) = some n) (hu2 : P.underlying tz = some e) (hd2 : isAggD e = true) (hi2 : (P.info? tz).map (·.size) = some m)
    (g : Nat) (hp : a.tmps.getD p undef = .pointer (some ⟨g, 0, none⟩)) (k : Nat) (hq : a.tmps.getD q undef = .pointer (some ⟨k, 0, none⟩)) (cs : Array Value) (hw : win w g 0 n = some cs) (ds : Array Value) (hw2 : win w k 0 m = some ds) (hdf : a.defers = []) (h : R (.returned (.tuple #[.agg cs, .agg ds])) w) : bodyPost P fn R .ret a w := by
  refine bodyPost_ret ?_ hdf h
  have hp' : a.tmps[p]?.getD undef = .pointer (some ⟨g, 0, none⟩) := by simpa using hp
  have hq' : a.tmps[q]?.getD undef = .pointer (some ⟨k, 0, none⟩) := by simpa using hq
  simp [results, hr, hp', hq', asAddr, run_loadVar_win hu hd hi hw, run_loadVar_win hu2 hd2 hi2 hw2]
end Go.Proofs.YtegebjflhhbmiaaDoor
