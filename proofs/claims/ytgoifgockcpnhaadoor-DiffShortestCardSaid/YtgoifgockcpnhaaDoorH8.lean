/- More operations of a walk: make, copy, an append that grows, bytes to strings and back; rows that are only read from now on. -/
import Derived.Test.YtgoifgockcpnhaaDoorR2
import Derived.ArgAppend
import Derived.Laws.IdiomStrings
import Derived.Laws.BytesString
import Derived.Laws.CopyRow
import Derived.OwnWalk
set_option linter.unusedSimpArgs false
set_option linter.unusedVariables false
namespace Go.Proofs.YtgoifgockcpnhaaDoor
open Go Go.RowKit

def bytv (i : Int) : Array Value := #[.int .u8 i]
@[go_sem] theorem bytv_size (i : Int) : (bytv i).size = 1 := rfl
@[go_sem] theorem bytv_flat (i : Int) : flat (bytv i) = true := by simp [flat, bytv, Value.oneCell']
@[go_sem] theorem bytv_0 (i : Int) : (bytv i)[0]? = some (.int .u8 i) := rfl
@[go_sem] theorem bytv_set (i j : Int) : (bytv i).setIfInBounds 0 (.int .u8 j) = bytv j := rfl
theorem cells_bytv (i : Int) : (Value.int .u8 i).cells = bytv i := rfl
/-- Bytes as a text. -/
def bts (l : List Int) : ByteArray := ⟨(l.map fun n => UInt8.ofNat n.toNat).toArray⟩
theorem bts_size (l : List Int) : (bts l).size = l.length := by simp [bts, ByteArray.size]
theorem bts_fold : ∀ (l : List Int) (s : ByteArray), l.foldl (fun r n => r.push (UInt8.ofNat n.toNat)) s = ⟨s.data ++ (bts l).data⟩
  | [], s => by simp [bts]
  | n :: l, s => by
    rw [List.foldl_cons, bts_fold l]
    simp [bts, ByteArray.push]
theorem bts_list (l : List Int) : (bts l).toList = l.map fun n => UInt8.ofNat n.toNat := by rw [ByteArray.toList_eq]; rfl
/-- The numbers of a text's bytes. -/
def ofb (s : ByteArray) : List Int := s.data.toList.map fun b => (b.toNat : Int)
theorem bts_ofb (s : ByteArray) : bts (ofb s) = s := by
  unfold bts ofb
  rw [List.map_map]
  have : ((fun n : Int => UInt8.ofNat n.toNat) ∘ fun b : UInt8 => (b.toNat : Int)) = id := by
    funext b
    show UInt8.ofNat ((b.toNat : Int)).toNat = b
    rw [Int.toNat_natCast]
    exact UInt8.ofNat_toNat
  rw [this, List.map_id]
theorem ofb_bts {l : List Int} (h : ∀ n, n ∈ l → InB n) : ofb (bts l) = l := by
  unfold bts ofb
  rw [List.map_map]
  refine (List.map_congr_left fun n hn => ?_).trans (List.map_id l)
  have := h n hn
  unfold InB at this
  show ((UInt8.ofNat n.toNat).toNat : Int) = n
  rw [UInt8.toNat_ofNat']
  omega
theorem ofb_in (s : ByteArray) : ∀ n, n ∈ ofb s → InB n := fun n hn => by
  obtain ⟨b, _, rfl⟩ := List.mem_map.1 hn
  have := b.toNat_lt
  unfold InB
  omega
theorem ofb_len (s : ByteArray) : (ofb s).length = s.size := by unfold ofb; rw [List.length_map, Array.length_toList]; rfl
theorem bts_inj {l m : List Int} (h1 : ∀ n, n ∈ l → InB n) (h2 : ∀ n, n ∈ m → InB n) (h : bts l = bts m) : l = m := by rw [← ofb_bts h1, h, ofb_bts h2]
theorem bts_append (l m : List Int) : bts (l ++ m) = bts l ++ bts m := by
  unfold bts
  rw [List.map_append]
  apply ByteArray.ext
  simp

/-! ### what is only read from now on -/
def ro {α : Type} (s : Nat) (enc : α → Array Value) (v : Value) (l : List α) : HP := ex fun k : Hp => pu (SlR (Exh k) s enc v l) (Exh k)
section
variable {α : Type} {s : Nat} {enc : α → Array Value} {v : Value} {l : List α} {R H : HP}
theorem slr_ro : SlR (ro s enc v l * R) s enc v l := fun w hw => by
  unfold ro at hw
  rw [ex_star] at hw
  obtain ⟨x, ⟨k, hx⟩, i⟩ := hw
  have h2 : (pu (SlR (Exh k) s enc v l) (Exh k * R)).on x := by rw [← pu_star]; exact hx
  obtain ⟨h, h3⟩ := h2
  exact h w (Own.mono (A := Exh k * R) ⟨x, h3, i⟩ ent_keep)
theorem slr_ro1 : SlR (ro s enc v l) s enc v l := fun w hw => slr_ro (R := emp) w (hw.mono ent_last)
theorem SlR.ofOn {A : HP} (h : SlR A s enc v l) {k : Hp} (hk : A.on k) : SlR (Exh k) s enc v l := fun w hw => h w (own_exh0 hk hw)
/-- Whatever is held, and reads so, may be kept as it is. -/
theorem ent_ro {A : HP} (h : SlR A s enc v l) : Ent A (ro s enc v l) := fun x a => ⟨x, h.ofOn a, fun _ _ e => e⟩
theorem row_ro {E : TypeId} (hs : ∀ a, (enc a).size = s) : Ent (row E s enc v l * R) (ro s enc v l * R) := star_mono (ent_ro fun w hw => slr_row (R := emp) hs w (hw.mono ent_last)) ent_refl
theorem slr_ent {A B : HP} (h : SlR B s enc v l) (e : Ent A B) : SlR A s enc v l := h.mono e
end
def MakeT {α : Type} (P : Program) (t E : TypeId) (s by_ : Nat) (enc : α → Array Value) (z0 : α) : Prop := P.underlying t = some (.slice E) ∧ (∃ z : Value, (P.info? E).map (fun i => (i.size, i.zero, i.bytes)) = some (s, some z, by_) ∧ z.cells = enc z0) ∧ 0 < s ∧ ∀ a, (enc a).size = s
theorem madeCells_rep {α : Type} {s : Nat} {enc : α → Array Value} {z0 : α} (hs : (enc z0).size = s) (h0 : 0 < s) : ∀ n, (madeCells (enc z0) (n * s)).toList = flatL enc (List.replicate n z0) := fun n => by
  apply List.ext_getElem?
  intro j
  have hl : (flatL enc (List.replicate n z0)).length = n * s := by
    induction n with
    | zero => simp [flatL]
    | succ n ih =>
      rw [List.replicate_succ]
      simp only [flatL, List.flatMap_cons, List.length_append] at ih ⊢
      rw [ih]
      simp [hs]
      rw [Nat.add_mul]
      omega
  by_cases hj : j < n * s
  · have h1 : ∀ n j, j < n * s → (flatL enc (List.replicate n z0))[j]? = (enc z0)[j % s]? := fun n => by
      induction n with
      | zero => intro j h; omega
      | succ n ih =>
        intro j h
        rw [List.replicate_succ]
        show ((enc z0).toList ++ flatL enc (List.replicate n z0))[j]? = _
        by_cases hjs : j < s
        · rw [List.getElem?_append_left (by simpa [hs] using hjs), Nat.mod_eq_of_lt hjs, Array.getElem?_toList]
        · rw [List.getElem?_append_right (by simp [hs]; omega), show (enc z0).toList.length = s by simp [hs], ih (j - s) (by have := Nat.add_mul n 1 s; omega), Nat.mod_eq_sub_mod (a := j) (b := s) (by omega)]
    rw [h1 n j hj]
    have hm : j % s < (enc z0).size := by rw [hs]; exact Nat.mod_lt _ h0
    simp [madeCells, hj, hs]
    rw [Array.getElem?_eq_getElem hm, getElem!_pos (enc z0) (j % s) hm]
  · rw [List.getElem?_eq_none (by simp [madeCells]; omega), List.getElem?_eq_none (by omega)]
theorem row_of_owns {α : Type} {E : TypeId} {s g n : Nat} {enc : α → Array Value} {l : List α} {H : HP} {c w w' : World} (h : Sat c H w) (ho : w'.ownsRow w.heap.size E s (.slice (some ⟨g, 0, none⟩) l.length n) l.length (flatL enc l)) (hg : w.grownBy w' none) : Sat c (row E s enc (.slice (some ⟨g, 0, none⟩) l.length n) l * H) w' := by
  have h0 : Sat c (row E s enc (.slice none 0 0) ([] : List α) * H) w := h.mono ent_row_nil
  have ho' : OwnIs w' 0 E s enc (.slice (some ⟨g, 0, none⟩) l.length n) l := by
    obtain ⟨h1, h2⟩ := ho
    refine ⟨h1, ?_⟩
    rcases h2 with h2 | ⟨g', cap, cur, e, _, r⟩
    · exact .inl h2
    · exact .inr ⟨g', cap, cur, e, Nat.zero_le _, r⟩
  have hgb : w.heap.size ≤ g := by
    rcases ho.2 with ⟨h2, _⟩ | ⟨g', cap, cur, e, hb, _⟩
    · cases h2
    · injection e with e; injection e with e; injection e with e; subst e; exact hb
  exact h0.rowTurn ho' ⟨hg.os, hg.tape, hg.output, hg.size, fun k hk _ => hg.block k hk (by simp)⟩ (fun k hk => by
    simp [Value.ownBlock] at hk
    subst hk
    exact .inr hgb)
def BytesT (P : Program) (t t2 : TypeId) : Prop := ∃ E, P.underlying t = some (.slice E) ∧ P.underlying E = some (.int .u8) ∧ P.underlying t2 = some .string
theorem flat_map1 {α β : Type} (f : α → β) : ∀ l : List α, l.flatMap (fun a => [f a]) = l.map f
  | [] => rfl
  | a :: l => by rw [List.flatMap_cons, flat_map1 f l]; rfl
theorem slIs_cells1 {α : Type} {w : World} {B : Nat} {enc : α → Array Value} {ad : Addr} {n c : Nat} {l : List α} {f : α → Value} (hf : ∀ a, enc a = #[f a]) (h : SlIs w B 1 enc (.slice (some ad) n c) l) : ∀ j u, (l.map f)[j]? = some u → w.cell? (ad.add j) = some u := by
  intro j u hu
  refine h.cells (by omega) (fun a => by rw [hf]; rfl) j u ?_
  rw [← hu]
  congr 1
  unfold flatL
  rw [show (fun a => (enc a).toList) = fun a => [f a] from funext fun a => by rw [hf]]
  exact flat_map1 f l
theorem run_cvBS {P : Program} {H : HP} {w : World} {a : Act} {dst : Option Tmp} {t t2 ty : TypeId} {pos : String} {aft : Array Edge} {gd : Option (Nat × Bool)} {x : Operand} {v : Value} {l : List Int} (hw : Own H w) (hx : a.eval x = v) (hT : BytesT P t t2) (hr : SlR H 1 bytv v l) : (execOp a.eval ⟨dst, .convert t t2 x, ty, pos, aft, gd⟩).run P w = .ok (.value (.string (bts l))) w := by
  obtain ⟨E, h1, h2, h3⟩ := hT
  have hs := hr w hw
  have hs' := hs
  obtain ⟨A, c, rfl, hlc, hcm, hnone, _⟩ := hs
  have hrun : (Conv.bytesToString (.slice A l.length c)).run P w = .ok (.string (bts l)) w := by
    cases A with
    | none =>
      obtain rfl := hnone rfl
      obtain rfl : l = [] := List.eq_nil_of_length_eq_zero (by omega)
      simp [Conv.bytesToString, bts, Sem.run_pure]
      try rfl
    | some ad =>
      have hl : (loadCells ad l.length).run P w = .ok (l.map (Value.int .u8)).toArray w := by
        have := run_loadCells_list (P := P) w ad (l.map (Value.int .u8)) (slIs_cells1 (fun _ => rfl) hs')
        simpa using this
      rw [run_bytesToString w ad l.length c l hl, bts_fold]
      simp
  simp [execOp, hx, run_convert_bytes_string w t t2 E A l.length c h1 h2 h3, hrun]
theorem sat_setCells_nil {c : World} {H : HP} {w : World} (hs : Sat c H w) {b o : Nat} : Sat c H (w.setCells b o []) := by
  have : w.setCells b o [] = w := by simp [World.setCells]
  rw [this]; exact hs
theorem row_blk {α : Type} {E : TypeId} {s g n cap : Nat} {enc : α → Array Value} {l : List α} {R : HP} {c w : World} (hs : Sat c (row E s enc (.slice (some ⟨g, 0, none⟩) n cap) l * R) w) :
    ∃ cur, ((flatL enc l).length = l.length * s ∧ n = l.length ∧ l.length ≤ cap ∧ cap ≤ maxLen ∧ cur.size = cap * s ∧ cur.toList.take (l.length * s) = flatL enc l) ∧ Sat c (blk g (.cells cur E (0, 0)) * R) w := by
  obtain ⟨x, ⟨h1, h2, d, l1, l2, ⟨hf, x1⟩, x2⟩, i⟩ := hs.own
  rcases x1 with ⟨e, _⟩ | ⟨g', cap', cur, e, hg, r1, r2, r3, r4⟩
  · cases e
  · injection e with e1 e2 e3
    injection e1 with e1
    injection e1 with e1
    subst e1
    subst e3
    exact ⟨cur, ⟨hf, e2, r1, r2, r3, r4⟩, hs.os, hs.tape, hs.output, x, ⟨h1, h2, d, l1, l2, hg, x2⟩, i⟩
def ptv (a : Option Addr) : Array Value := #[.pointer a]
@[go_sem] theorem ptv_size (a : Option Addr) : (ptv a).size = 1 := rfl
@[go_sem] theorem ptv_flat (a : Option Addr) : flat (ptv a) = true := by simp [flat, ptv, Value.oneCell']
@[go_sem] theorem ptv_0 (a : Option Addr) : (ptv a)[0]? = some (.pointer a) := rfl
theorem cells_ptv (a : Option Addr) : (Value.pointer a).cells = ptv a := rfl

theorem pl_cvBS {P : Program} {c : World} {H : HP} {w : World} {ops : Array Oper} {Q : Exit → Act → World → Prop} {a : Act} {dst : Option Tmp} {ty : TypeId} {pos : String} {aft : Array Edge} {rest : List Oper} {gd : Option (Nat × Bool)} {t t2 : TypeId} {x : Operand} {v : Value} {l : List Int} (hs : Sat c H w) (hx : a.eval x = v) (hT : BytesT P t t2) (hw : SlR H 1 bytv v l) (hg : gd = none) (hK : wpList P ops Q rest (a.put dst (.string (bts l))) w) : wpList P ops Q (⟨dst, .convert t t2 x, ty, pos, aft, gd⟩ :: rest) a w := by
  subst hg
  refine wpList_plain rfl fun K hk => ?_
  unfold Oper.wp
  rw [run_cvBS hs.own hx hT hw]
  exact hk _ _ hK
theorem mx_cvBS {P : Program} {w : World} {ops : Array Oper} {Q : Exit → Act → World → Prop} {a : Act} {dst : Option Tmp} {ty : TypeId} {pos : String} {aft : Array Edge} {rest : List Oper} {N : Nat} {R : HP} {hR : Hp} {t t2 : TypeId} {x : Operand} {v : Value} {l : List Int} (hRR : R.on hR) (hx : a.eval x = v) (hT : BytesT P t t2) (hw : SlR R 1 bytv v l) (hcv : cvC t2 = false) (hK : wpMix P ops (In hR) Q N rest (a.put dst (.string (bts l))) w) : wpMix P ops (In hR) Q (N + 1) (⟨dst, .convert t t2 x, ty, pos, aft, none⟩ :: rest) a w :=
  mix_float _ rfl hcv (fun h hk => run_cvBS (H := R) ⟨hR, hRR, hk⟩ hx hT hw) hK
theorem ow_make {P : Program} {c : World} {H : HP} {w : World} {Q : Exit → Act → World → Prop} {a : Act} {dst : Option Tmp} {ty : TypeId} {pos : String} {aft : Array Edge} {gd : Option (Nat × Bool)} {K : Act → World → Prop} {α : Type} {t E : TypeId} {x y : Operand} {n s by_ : Nat} {enc : α → Array Value} {z0 : α} (hs : Sat c H w) (hT : MakeT P t E s by_ enc z0) (hx : a.eval x = .int .i64 (n : Int)) (hy : a.eval y = .int .i64 (n : Int)) (hby : n * by_ ≤ 140737488355328) (hm : n ≤ maxLen) (hK : ∀ (g : Nat) (w' : World), Sat c (row E s enc (.slice (some ⟨g, 0, none⟩) n n) (List.replicate n z0) * H) w' → K (a.put dst (.slice (some ⟨g, 0, none⟩) n n)) w') : Oper.wp P ⟨dst, .makeSlice t x y, ty, pos, aft, gd⟩ a w K Q := by
  obtain ⟨hu, ⟨z, hi, hz⟩, h0, hsz⟩ := hT
  obtain ⟨i, hq, he⟩ := Option.map_eq_some_iff.1 hi
  simp only [Prod.mk.injEq] at he
  obtain ⟨h1, h2, h3⟩ := he
  obtain ⟨w', hrun, r1, r2⟩ := run_make_full (P := P) w w.heap.size t E i z s hu hq h2 h1 .i64 .i64 n (by rw [h3, Nat.mul_comm]; omega) hm (Nat.le_refl _)
  have hrun' : (execOp a.eval ⟨dst, .makeSlice t x y, ty, pos, aft, gd⟩).run P w = .ok (.value (.slice (some ⟨w.heap.size, 0, none⟩) n n)) w' := by
    simp [execOp, hx, hy, hrun]
  unfold Oper.wp
  rw [hrun']
  refine hK _ _ ?_
  have hl : (List.replicate n z0).length = n := List.length_replicate
  have r1' : w'.ownsRow w.heap.size E s (.slice (some ⟨w.heap.size, 0, none⟩) (List.replicate n z0).length n) (List.replicate n z0).length (flatL enc (List.replicate n z0)) := by
    rw [hl, ← madeCells_rep (hsz z0) h0 n, ← hz]
    exact r1
  have := row_of_owns hs r1' r2
  rwa [hl] at this
theorem pl_make {P : Program} {c : World} {H : HP} {w : World} {ops : Array Oper} {Q : Exit → Act → World → Prop} {a : Act} {dst : Option Tmp} {ty : TypeId} {pos : String} {aft : Array Edge} {rest : List Oper} {α : Type} {t E : TypeId} {x y : Operand} {n s by_ : Nat} {enc : α → Array Value} {z0 : α} (hs : Sat c H w) (hT : MakeT P t E s by_ enc z0) (hx : a.eval x = .int .i64 (n : Int)) (hy : a.eval y = .int .i64 (n : Int)) (hby : n * by_ ≤ 140737488355328) (hm : n ≤ maxLen) (hK : ∀ (g : Nat) (w' : World), Sat c (row E s enc (.slice (some ⟨g, 0, none⟩) n n) (List.replicate n z0) * H) w' → wpList P ops Q rest (a.put dst (.slice (some ⟨g, 0, none⟩) n n)) w') : wpList P ops Q (⟨dst, .makeSlice t x y, ty, pos, aft, none⟩ :: rest) a w :=
  wpList_plain rfl fun K hk => ow_make hs hT hx hy hby hm (fun g w' h => hk _ _ (hK g w' h))
theorem mx_make {P : Program} {c : World} {H : HP} {w : World} {ops : Array Oper} {Q : Exit → Act → World → Prop} {a : Act} {dst : Option Tmp} {ty : TypeId} {pos : String} {aft : Array Edge} {rest : List Oper} {N : Nat} {hR : Hp} {α : Type} {t E : TypeId} {x y : Operand} {n s by_ : Nat} {enc : α → Array Value} {z0 : α} (hs : Sat c H w) (hT : MakeT P t E s by_ enc z0) (hx : a.eval x = .int .i64 (n : Int)) (hy : a.eval y = .int .i64 (n : Int)) (hby : n * by_ ≤ 140737488355328) (hm : n ≤ maxLen) (hq : ∀ (g : Nat) (w' : World), Sat c (row E s enc (.slice (some ⟨g, 0, none⟩) n n) (List.replicate n z0) * H) w' → In hR w') (hK : ∀ (g : Nat) (w' : World), Sat c (row E s enc (.slice (some ⟨g, 0, none⟩) n n) (List.replicate n z0) * H) w' → wpMix P ops (In hR) Q N rest (a.put dst (.slice (some ⟨g, 0, none⟩) n n)) w') : wpMix P ops (In hR) Q (N + 1) (⟨dst, .makeSlice t x y, ty, pos, aft, none⟩ :: rest) a w :=
  mix_chain rfl rfl fun K hk => ow_make hs hT hx hy hby hm (fun g w' h => hk _ _ ⟨hq g w' h, hK g w' h⟩)
theorem ow_copy1 {P : Program} {c : World} {H : HP} {w : World} {Q : Exit → Act → World → Prop} {a : Act} {dst : Option Tmp} {ty : TypeId} {pos : String} {aft : Array Edge} {gd : Option (Nat × Bool)} {K : Act → World → Prop} {α : Type} {d x : Operand} {dT sT E : TypeId} {g n cap : Nat} {enc : α → Array Value} {u : Value} {l m : List α} {R : HP} (hs : Sat c H w) (hT : P.underlying dT = some (.slice E)) (hs1 : (P.info? E).map (·.size) = some 1) (hv : a.eval d = .slice (some ⟨g, 0, none⟩) n cap) (he : Ent H (row E 1 enc (.slice (some ⟨g, 0, none⟩) n cap) l * R)) (hx : a.eval x = u) (hw : SlR H 1 enc u m) (hf : ∀ a, flat (enc a) = true) (hsz : ∀ a, (enc a).size = 1) (hl : m.length = n) (hK : ∀ w' : World, Sat c (row E 1 enc (.slice (some ⟨g, 0, none⟩) n cap) m * R) w' → K (a.put dst (goInt n)) w') : Oper.wp P ⟨dst, .call ⟨.builtin .copy, #[d, x], #[dT, sT]⟩, ty, pos, aft, gd⟩ a w K Q := by
  have hs' := hs.mono he
  have hown := hs'.own.row
  have hsrc := hw w hs.own
  have hsrc' := hsrc
  obtain ⟨A, c2, rfl, hlc, hcm, hnone, _⟩ := hsrc
  obtain ⟨hn, _, _⟩ := row_len hs'.own
  have hfl : (flatL enc m).length = m.length := by have := flatL_length hsz m; omega
  rcases hown.2 with ⟨h, _⟩ | ⟨g', cap', cur, e, _, hg, h1, h2, h3, h4⟩
  · cases h
  injection e with e1 e2 e3
  injection e1 with e1
  injection e1 with e1
  subst e1
  subst e3
  cases A with
  | none =>
    obtain rfl := hnone rfl
    have hm : m = [] := List.eq_nil_of_length_eq_zero (by omega)
    subst hm
    obtain rfl : l = [] := List.eq_nil_of_length_eq_zero (by simp at hl; omega)
    obtain rfl : n = 0 := by simpa using hl.symm
    have hrun := run_copy_nil (P := P) w dT sT ty E ⟨g, 0, none⟩ 0 cap hT (by rw [hs1]; rfl)
    unfold Oper.wp execOp
    simp only [resolve, invoke, builtin, Sem.run_bind, Sem.run_pure, Result.andThen_ok, List.map_toArray, List.map_cons, List.map_nil, hv, hx, List.length_nil, hrun]
    exact hK w hs'
  | some ad =>
    have hlt : l.length = n := hn.symm
    have hcs : (flatL enc m).length = Nat.min m.length n := by rw [hfl, hl]; exact (Nat.min_self n).symm
    have hcell : ∀ j v, (flatL enc m)[j]? = some v → w.cell? (ad.add j) = some v := hsrc'.cells (by omega) hsz
    have hfit : 0 + (flatL enc m).length ≤ cur.size := by rw [h3, hfl, hl]; omega
    have hrun := run_copy_row (P := P) w dT sT ty E g 0 n cap ad m.length c2 cur E (flatL enc m) hT hs1 hg hcs hcell hfit (flatL_one hf)
    unfold Oper.wp execOp
    simp only [resolve, invoke, builtin, Sem.run_bind, Sem.run_pure, Result.andThen_ok, List.map_toArray, List.map_cons, List.map_nil, hv, hx, hrun]
    rw [show goInt (flatL enc m).length = goInt n by rw [hfl, hl]]
    refine hK _ ?_
    have hnew : (w.setRow g (cur.toList.take 0 ++ flatL enc m ++ cur.toList.drop (0 + (flatL enc m).length)).toArray).heap[g]? = some (.cells (cur.toList.take 0 ++ flatL enc m ++ cur.toList.drop (0 + (flatL enc m).length)).toArray E (0, 0)) := setRow_heap w g cur _ E (0, 0) hg
    refine hs'.rowTurn ⟨by rw [hfl, Nat.mul_one], .inr ⟨g, cap, _, by rw [hl], Nat.zero_le _, hnew, by omega, h2, ?_, ?_⟩⟩ ⟨rfl, rfl, rfl, by simp [World.setRow], fun k _ hk => setRow_other w g k _ (fun h => hk (by rw [h]; rfl))⟩ (fun k hk => .inl hk)
    · simp [hfl, h3, hl]; omega
    · rw [Nat.mul_one]
      simp only [List.take_zero, List.nil_append]
      rw [← hfl]
      exact List.take_left
theorem pl_copy1 {P : Program} {c : World} {H : HP} {w : World} {ops : Array Oper} {Q : Exit → Act → World → Prop} {a : Act} {dst : Option Tmp} {ty : TypeId} {pos : String} {aft : Array Edge} {rest : List Oper} {α : Type} {d x : Operand} {dT sT E : TypeId} {g n cap : Nat} {enc : α → Array Value} {u : Value} {l m : List α} {R : HP} (hs : Sat c H w) (hT : P.underlying dT = some (.slice E)) (hs1 : (P.info? E).map (·.size) = some 1) (hv : a.eval d = .slice (some ⟨g, 0, none⟩) n cap) (he : Ent H (row E 1 enc (.slice (some ⟨g, 0, none⟩) n cap) l * R)) (hx : a.eval x = u) (hw : SlR H 1 enc u m) (hf : ∀ a, flat (enc a) = true) (hsz : ∀ a, (enc a).size = 1) (hl : m.length = n) (hK : ∀ w' : World, Sat c (row E 1 enc (.slice (some ⟨g, 0, none⟩) n cap) m * R) w' → wpList P ops Q rest (a.put dst (goInt n)) w') : wpList P ops Q (⟨dst, .call ⟨.builtin .copy, #[d, x], #[dT, sT]⟩, ty, pos, aft, none⟩ :: rest) a w :=
  wpList_plain rfl fun K hk => ow_copy1 hs hT hs1 hv he hx hw hf hsz hl (fun  w' h => hk _ _ (hK  w' h))
theorem mx_copy1 {P : Program} {c : World} {H : HP} {w : World} {ops : Array Oper} {Q : Exit → Act → World → Prop} {a : Act} {dst : Option Tmp} {ty : TypeId} {pos : String} {aft : Array Edge} {rest : List Oper} {N : Nat} {hR : Hp} {α : Type} {d x : Operand} {dT sT E : TypeId} {g n cap : Nat} {enc : α → Array Value} {u : Value} {l m : List α} {R : HP} (hs : Sat c H w) (hT : P.underlying dT = some (.slice E)) (hs1 : (P.info? E).map (·.size) = some 1) (hv : a.eval d = .slice (some ⟨g, 0, none⟩) n cap) (he : Ent H (row E 1 enc (.slice (some ⟨g, 0, none⟩) n cap) l * R)) (hx : a.eval x = u) (hw : SlR H 1 enc u m) (hf : ∀ a, flat (enc a) = true) (hsz : ∀ a, (enc a).size = 1) (hl : m.length = n) (hq : ∀ w' : World, Sat c (row E 1 enc (.slice (some ⟨g, 0, none⟩) n cap) m * R) w' → In hR w') (hK : ∀ w' : World, Sat c (row E 1 enc (.slice (some ⟨g, 0, none⟩) n cap) m * R) w' → wpMix P ops (In hR) Q N rest (a.put dst (goInt n)) w') : wpMix P ops (In hR) Q (N + 1) (⟨dst, .call ⟨.builtin .copy, #[d, x], #[dT, sT]⟩, ty, pos, aft, none⟩ :: rest) a w :=
  mix_chain rfl rfl fun K hk => ow_copy1 hs hT hs1 hv he hx hw hf hsz hl (fun  w' h => hk _ _ ⟨hq  w' h, hK  w' h⟩)
theorem ow_appG {P : Program} {c : World} {H : HP} {w : World} {Q : Exit → Act → World → Prop} {a : Act} {dst : Option Tmp} {ty : TypeId} {pos : String} {aft : Array Edge} {gd : Option (Nat × Bool)} {K : Act → World → Prop} {α : Type} {sl x : Operand} {t E : TypeId} {s by_ n cp : Nat} {enc : α → Array Value} {ad : Addr} {u : Value} {l m : List α} (hs : Sat c H w) (hT : AppT P t E s by_ enc) (hv : a.eval sl = .slice (some ad) n cp) (hr : SlR H s enc (.slice (some ad) n cp) l) (hx : a.eval x = u) (hw : SlR H s enc u m) (hg : cp < l.length + m.length) (h63 : l.length + m.length ≤ maxLen) (hby : (l.length + m.length) * by_ ≤ 140737488355328) (hK : ∀ (A : Option Addr) (cq : Nat) (w' : World), Sat c (row E s enc (.slice A (l.length + m.length) cq) (l ++ m) * H) w' → K (a.put dst (.slice A (l.length + m.length) cq)) w') : Oper.wp P ⟨dst, .call ⟨.builtin .append, #[sl, x], #[t, t]⟩, ty, pos, aft, gd⟩ a w K Q := by
  obtain ⟨hT, ⟨z, hinf, hz⟩, h0, hsz, hf⟩ := hT
  obtain ⟨i, hq, he⟩ := Option.map_eq_some_iff.1 hinf
  simp only [Prod.mk.injEq] at he
  obtain ⟨h1, h2, h3⟩ := he
  have hl := hr w hs.own
  have hm := hw w hs.own
  obtain ⟨hn, hnc, _, _⟩ := hl.len
  have hm' := hm
  obtain ⟨A, c2, rfl, hlc, hcm, hnone, _⟩ := hm
  cases A with
  | none =>
    obtain rfl := hnone rfl
    omega
  | some ad2 =>
    obtain ⟨v', w', hrun, ho, hgr⟩ := run_append_arg_grows (P := P) w t ty E i z s by_ hT hq h2 h1 h3 hz h0 ad n cp (flatL enc l) (by rw [flatL_length hsz, hn]) (hl.cells h0 hsz) ad2 m.length c2 (flatL enc m) (flatL_length hsz m) (hm'.cells h0 hsz) (by omega) (by omega) (by rw [hn]; exact hby)
    unfold Oper.wp execOp
    simp only [resolve, invoke, builtin, Sem.run_bind, Sem.run_pure, Result.andThen_ok, List.map_toArray, List.map_cons, List.map_nil, hv, hx, hrun]
    have ho' : w'.ownsRow w.heap.size E s v' (l ++ m).length (flatL enc (l ++ m)) := by
      rw [flatL_append, List.length_append, ← hn]; exact ho
    rcases ho'.2 with ⟨hv', hz'⟩ | ⟨g, cap, cur, rfl, r⟩
    · exfalso; rw [List.length_append] at hz'; omega
    · have := row_of_owns hs ho' hgr
      rw [List.length_append] at this
      rw [List.length_append]
      exact hK (some ⟨g, 0, none⟩) cap w' this
theorem pl_appG {P : Program} {c : World} {H : HP} {w : World} {ops : Array Oper} {Q : Exit → Act → World → Prop} {a : Act} {dst : Option Tmp} {ty : TypeId} {pos : String} {aft : Array Edge} {rest : List Oper} {α : Type} {sl x : Operand} {t E : TypeId} {s by_ n cp : Nat} {enc : α → Array Value} {ad : Addr} {u : Value} {l m : List α} (hs : Sat c H w) (hT : AppT P t E s by_ enc) (hv : a.eval sl = .slice (some ad) n cp) (hr : SlR H s enc (.slice (some ad) n cp) l) (hx : a.eval x = u) (hw : SlR H s enc u m) (hg : cp < l.length + m.length) (h63 : l.length + m.length ≤ maxLen) (hby : (l.length + m.length) * by_ ≤ 140737488355328) (hK : ∀ (A : Option Addr) (cq : Nat) (w' : World), Sat c (row E s enc (.slice A (l.length + m.length) cq) (l ++ m) * H) w' → wpList P ops Q rest (a.put dst (.slice A (l.length + m.length) cq)) w') : wpList P ops Q (⟨dst, .call ⟨.builtin .append, #[sl, x], #[t, t]⟩, ty, pos, aft, none⟩ :: rest) a w :=
  wpList_plain rfl fun K hk => ow_appG hs hT hv hr hx hw hg h63 hby (fun A cq w' h => hk _ _ (hK A cq w' h))
theorem mx_appG {P : Program} {c : World} {H : HP} {w : World} {ops : Array Oper} {Q : Exit → Act → World → Prop} {a : Act} {dst : Option Tmp} {ty : TypeId} {pos : String} {aft : Array Edge} {rest : List Oper} {N : Nat} {hR : Hp} {α : Type} {sl x : Operand} {t E : TypeId} {s by_ n cp : Nat} {enc : α → Array Value} {ad : Addr} {u : Value} {l m : List α} (hs : Sat c H w) (hT : AppT P t E s by_ enc) (hv : a.eval sl = .slice (some ad) n cp) (hr : SlR H s enc (.slice (some ad) n cp) l) (hx : a.eval x = u) (hw : SlR H s enc u m) (hg : cp < l.length + m.length) (h63 : l.length + m.length ≤ maxLen) (hby : (l.length + m.length) * by_ ≤ 140737488355328) (hq : ∀ (A : Option Addr) (cq : Nat) (w' : World), Sat c (row E s enc (.slice A (l.length + m.length) cq) (l ++ m) * H) w' → In hR w') (hK : ∀ (A : Option Addr) (cq : Nat) (w' : World), Sat c (row E s enc (.slice A (l.length + m.length) cq) (l ++ m) * H) w' → wpMix P ops (In hR) Q N rest (a.put dst (.slice A (l.length + m.length) cq)) w') : wpMix P ops (In hR) Q (N + 1) (⟨dst, .call ⟨.builtin .append, #[sl, x], #[t, t]⟩, ty, pos, aft, none⟩ :: rest) a w :=
  mix_chain rfl rfl fun K hk => ow_appG hs hT hv hr hx hw hg h63 hby (fun A cq w' h => hk _ _ ⟨hq A cq w' h, hK A cq w' h⟩)
theorem ow_appNil {P : Program} {c : World} {H : HP} {w : World} {Q : Exit → Act → World → Prop} {a : Act} {dst : Option Tmp} {ty : TypeId} {pos : String} {aft : Array Edge} {gd : Option (Nat × Bool)} {K : Act → World → Prop} {sl x : Operand} {t E : TypeId} {s by_ n cp c2 b off : Nat} {α : Type} {enc : α → Array Value} {ad : Addr} (hs : Sat c H w) (hT : AppT P t E s by_ enc) (hv : a.eval sl = .slice (some ⟨b, off, none⟩) n cp) (hx : a.eval x = .slice (some ad) 0 c2) (hr : n ≤ cp) (hK : ∀ w' : World, Sat c (H) w' → K (a.put dst (.slice (some ⟨b, off, none⟩) n cp)) w') : Oper.wp P ⟨dst, .call ⟨.builtin .append, #[sl, x], #[t, t]⟩, ty, pos, aft, gd⟩ a w K Q := by
  obtain ⟨hT, ⟨z, hinf, hz⟩, h0, hsz, hf⟩ := hT
  obtain ⟨i, hq, he⟩ := Option.map_eq_some_iff.1 hinf
  have hrun := run_append_room_cells (P := P) w t ty E i hT hq b off n cp ad 0 c2 [] (by simp) (by simp) (by simp) (by omega) (by simp) (by simp)
  unfold Oper.wp execOp
  simp only [resolve, invoke, builtin, Sem.run_bind, Sem.run_pure, Result.andThen_ok, List.map_toArray, List.map_cons, List.map_nil, hv, hx, hrun]
  exact hK _ (sat_setCells_nil hs)
theorem pl_appNil {P : Program} {c : World} {H : HP} {w : World} {ops : Array Oper} {Q : Exit → Act → World → Prop} {a : Act} {dst : Option Tmp} {ty : TypeId} {pos : String} {aft : Array Edge} {rest : List Oper} {sl x : Operand} {t E : TypeId} {s by_ n cp c2 b off : Nat} {α : Type} {enc : α → Array Value} {ad : Addr} (hs : Sat c H w) (hT : AppT P t E s by_ enc) (hv : a.eval sl = .slice (some ⟨b, off, none⟩) n cp) (hx : a.eval x = .slice (some ad) 0 c2) (hr : n ≤ cp) (hK : ∀ w' : World, Sat c (H) w' → wpList P ops Q rest (a.put dst (.slice (some ⟨b, off, none⟩) n cp)) w') : wpList P ops Q (⟨dst, .call ⟨.builtin .append, #[sl, x], #[t, t]⟩, ty, pos, aft, none⟩ :: rest) a w :=
  wpList_plain rfl fun K hk => ow_appNil hs hT hv hx hr (fun  w' h => hk _ _ (hK  w' h))
theorem mx_appNil {P : Program} {c : World} {H : HP} {w : World} {ops : Array Oper} {Q : Exit → Act → World → Prop} {a : Act} {dst : Option Tmp} {ty : TypeId} {pos : String} {aft : Array Edge} {rest : List Oper} {N : Nat} {hR : Hp} {sl x : Operand} {t E : TypeId} {s by_ n cp c2 b off : Nat} {α : Type} {enc : α → Array Value} {ad : Addr} (hs : Sat c H w) (hT : AppT P t E s by_ enc) (hv : a.eval sl = .slice (some ⟨b, off, none⟩) n cp) (hx : a.eval x = .slice (some ad) 0 c2) (hr : n ≤ cp) (hq : ∀ w' : World, Sat c (H) w' → In hR w') (hK : ∀ w' : World, Sat c (H) w' → wpMix P ops (In hR) Q N rest (a.put dst (.slice (some ⟨b, off, none⟩) n cp)) w') : wpMix P ops (In hR) Q (N + 1) (⟨dst, .call ⟨.builtin .append, #[sl, x], #[t, t]⟩, ty, pos, aft, none⟩ :: rest) a w :=
  mix_chain rfl rfl fun K hk => ow_appNil hs hT hv hx hr (fun  w' h => hk _ _ ⟨hq  w' h, hK  w' h⟩)
theorem ow_cvSB {P : Program} {c : World} {H : HP} {w : World} {Q : Exit → Act → World → Prop} {a : Act} {dst : Option Tmp} {ty : TypeId} {pos : String} {aft : Array Edge} {gd : Option (Nat × Bool)} {K : Act → World → Prop} {t t2 : TypeId} {x : Operand} {s : ByteArray} (hs : Sat c H w) (hT : BytesT P t t2) (hx : a.eval x = .string s) (hm : s.size ≤ maxLen) (hK : ∀ (A : Option Addr) (cq : Nat) (w' : World), Sat c (ro 1 bytv (.slice A s.size cq) (ofb s) * H) w' → K (a.put dst (.slice A s.size cq)) w') : Oper.wp P ⟨dst, .convert t2 t x, ty, pos, aft, gd⟩ a w K Q := by
  obtain ⟨E, h1, h2, h3⟩ := hT
  have hrun := run_bytes_of_string (P := P) w t2 t E s h3 h1 h2
  unfold Oper.wp
  simp only [execOp, hx, Sem.run_bind, hrun, Result.andThen_ok, Sem.run_pure]
  have hge := grownCap_ge w s.size 0 E
  have hcm := grownCap_le_maxLen w s.size 0 E hm
  generalize grownCap w s.size 0 E = cp at *
  refine hK (some ⟨w.heap.size, 0, none⟩) cp _ ?_
  generalize hC : bytesRow s cp = C
  have ha : Sat c (blk w.heap.size (.cells C E (C.size, C.size + 1)) * H) (w.drew.alloc (.cells C E (C.size, C.size + 1))) := hs.drew.alloc _
  refine ha.mono (star_mono (ent_ro fun w' hw' => ?_) ent_refl)
  have hb : w'.heap[w.heap.size]? = some (.cells C E (C.size, C.size + 1)) := (hw'.mono ent_last : Own (_ * emp) w').blk
  refine ⟨some ⟨w.heap.size, 0, none⟩, cp, by rw [ofb_len], by rw [ofb_len]; exact hge, hcm, (fun h => nomatch h), fun _ => ⟨w.heap.size, 0, rfl, (Array.getElem?_eq_some_iff.1 hb).1, fun i b hi => ?_⟩⟩
  have hlt : i < s.size := by have := (List.getElem?_eq_some_iff.1 hi).1; rwa [ofb_len] at this
  have hsz : C.size = s.size + (cp - s.size) := by rw [← hC]; unfold bytesRow; rw [Array.size_append, Array.size_map, Array.size_replicate]; rfl
  unfold win
  rw [hb]
  simp only [Nat.zero_add, Nat.mul_one]
  rw [if_pos (by omega)]
  congr 1
  apply Array.ext_getElem?
  intro j
  rcases Nat.eq_zero_or_pos j with rfl | hj
  · rw [Array.getElem?_extract, if_pos (by omega), Nat.add_zero, ← hC]
    unfold bytesRow
    rw [Array.getElem?_append_left (by rw [Array.size_map]; exact hlt), Array.getElem?_map]
    unfold ofb at hi
    rw [List.getElem?_map, Array.getElem?_toList] at hi
    obtain ⟨x, hx1, hx2⟩ := Option.map_eq_some_iff.1 hi
    rw [hx1, ← hx2]
    rfl
  · rw [Array.getElem?_eq_none (by simp; omega), Array.getElem?_eq_none (by simp [bytv]; omega)]
theorem pl_cvSB {P : Program} {c : World} {H : HP} {w : World} {ops : Array Oper} {Q : Exit → Act → World → Prop} {a : Act} {dst : Option Tmp} {ty : TypeId} {pos : String} {aft : Array Edge} {rest : List Oper} {t t2 : TypeId} {x : Operand} {s : ByteArray} (hs : Sat c H w) (hT : BytesT P t t2) (hx : a.eval x = .string s) (hm : s.size ≤ maxLen) (hK : ∀ (A : Option Addr) (cq : Nat) (w' : World), Sat c (ro 1 bytv (.slice A s.size cq) (ofb s) * H) w' → wpList P ops Q rest (a.put dst (.slice A s.size cq)) w') : wpList P ops Q (⟨dst, .convert t2 t x, ty, pos, aft, none⟩ :: rest) a w :=
  wpList_plain rfl fun K hk => ow_cvSB hs hT hx hm (fun A cq w' h => hk _ _ (hK A cq w' h))
theorem ow_storeIn {P : Program} {c : World} {H : HP} {w : World} {Q : Exit → Act → World → Prop} {a : Act} {dst : Option Tmp} {ty : TypeId} {pos : String} {aft : Array Edge} {gd : Option (Nat × Bool)} {K : Act → World → Prop} {α : Type} {t E : TypeId} {x y : Operand} {g o i j n cap s : Nat} {enc : α → Array Value} {l : List α} {e e2 : α} {v : Value} {R : HP} (hs : Sat c H w) (hx : a.eval x = .pointer (some ⟨g, o, none⟩)) (he : Ent H (row E s enc (.slice (some ⟨g, 0, none⟩) n cap) l * R)) (hy : a.eval y = v) (ht : ScT P t) (h1 : v.oneCell' = true) (ho : o = i * s + j) (hj : j < s) (hi : l[i]? = some e) (hse : (enc e).setIfInBounds j v = enc e2) (hsz : ∀ a, (enc a).size = s) (hK : ∀ w' : World, Sat c (row E s enc (.slice (some ⟨g, 0, none⟩) n cap) (l.set i e2) * R) w' → K (a.put dst undef) w') : Oper.wp P ⟨dst, .store t x y, ty, pos, aft, gd⟩ a w K Q := by
  subst ho
  obtain ⟨cur, hfc, hs'⟩ := row_blk (hs.mono he)
  obtain ⟨hfl, hn, hnc, hcm, hcs, htk⟩ := hfc
  have hil : i < l.length := (List.getElem?_eq_some_iff.1 hi).1
  have hlt : i * s + j < l.length * s := by
    have : (i + 1) * s ≤ l.length * s := Nat.mul_le_mul_right s hil
    rw [Nat.add_mul] at this
    omega
  have hcap : l.length * s ≤ cap * s := Nat.mul_le_mul_right s hnc
  have hb := hs'.own.blk
  have hoc : i * s + j < cur.size := by rw [hcs]; omega
  have hrun : (execOp a.eval ⟨dst, .store t x y, ty, pos, aft, gd⟩).run P w = .ok .skip (w.setCell ⟨g, i * s + j, none⟩ v) := by
    simp [execOp, hx, hy, run_store1 ht h1 hb hoc]
  unfold Oper.wp
  rw [hrun]
  have hs2 : Sat c (blk g (.cells (cur.setIfInBounds (i * s + j) v) E (0, 0)) * R) (w.setCell ⟨g, i * s + j, none⟩ v) := by
    refine hs'.upd (w' := w.setCell ⟨g, i * s + j, none⟩ v) rfl rfl rfl ?_ (fun b hb' _ => heap_setCell_other w _ b v hb')
    unfold World.setCell
    simp only [Array.getElem?_modify]
    rw [hb]
    simp
  refine hK _ (hs2.mono (star_mono (fun h x => ⟨by rw [flatL_length hsz], .inr ⟨g, cap, _, by rw [hn, List.length_set], x, by rw [List.length_set]; exact hnc, hcm, by rw [Array.size_setIfInBounds]; exact hcs, ?_⟩⟩) ent_refl))
  rw [List.length_set]
  apply List.ext_getElem?
  intro q
  by_cases hq : q < l.length * s
  · have h0 : 0 < s := by omega
    have hqd : q / s < l.length := (Nat.div_lt_iff_lt_mul h0).2 hq
    have hqm : q % s < s := Nat.mod_lt _ h0
    have hqe : q / s * s + q % s = q := by rw [Nat.mul_comm]; exact Nat.div_add_mod q s
    have hold := flatL_at hsz l (q / s) _ (List.getElem?_eq_getElem hqd) (q % s) hqm
    rw [hqe, ← htk, List.getElem?_take, if_pos hq, Array.getElem?_toList] at hold
    rw [List.getElem?_take, if_pos hq, Array.getElem?_toList]
    by_cases hqi : q / s = i
    · have hnew := flatL_at hsz (l.set i e2) (q / s) e2 (by rw [hqi, List.getElem?_set, if_pos rfl, if_pos hil]) (q % s) hqm
      rw [hqe] at hnew
      rw [hnew, ← hse]
      have hle : l[q / s] = e := by
        have h8 := List.getElem?_eq_getElem hqd
        have h9 : l[q / s]? = some e := by rw [hqi]; exact hi
        exact Option.some.inj (h8.symm.trans h9)
      rw [hle] at hold
      by_cases hqj : q % s = j
      · have : i * s + j = q := by rw [← hqi, ← hqj]; exact hqe
        rw [this, hqj, Array.getElem?_setIfInBounds_self_of_lt (by omega), Array.getElem?_setIfInBounds_self_of_lt (by rw [hsz]; exact hj)]
      · have : i * s + j ≠ q := fun h => hqj (by rw [← hqe, hqi] at h; omega)
        rw [Array.getElem?_setIfInBounds_ne this, Array.getElem?_setIfInBounds_ne (fun h => hqj h.symm), hold]
    · have hnew := flatL_at hsz (l.set i e2) (q / s) l[q / s] (by rw [List.getElem?_set, if_neg (fun h => hqi h.symm), List.getElem?_eq_getElem hqd]) (q % s) hqm
      rw [hqe] at hnew
      have : i * s + j ≠ q := fun h => hqi (by
        rw [← h, Nat.add_comm, Nat.add_mul_div_right _ _ h0, Nat.div_eq_of_lt hj, Nat.zero_add])
      rw [Array.getElem?_setIfInBounds_ne this, hnew, hold]
  · rw [List.getElem?_eq_none (by rw [List.length_take]; omega), List.getElem?_eq_none (by rw [flatL_length hsz, List.length_set]; omega)]
theorem pl_storeIn {P : Program} {c : World} {H : HP} {w : World} {ops : Array Oper} {Q : Exit → Act → World → Prop} {a : Act} {dst : Option Tmp} {ty : TypeId} {pos : String} {aft : Array Edge} {rest : List Oper} {α : Type} {t E : TypeId} {x y : Operand} {g o i j n cap s : Nat} {enc : α → Array Value} {l : List α} {e e2 : α} {v : Value} {R : HP} (hs : Sat c H w) (hx : a.eval x = .pointer (some ⟨g, o, none⟩)) (he : Ent H (row E s enc (.slice (some ⟨g, 0, none⟩) n cap) l * R)) (hy : a.eval y = v) (ht : ScT P t) (h1 : v.oneCell' = true) (ho : o = i * s + j) (hj : j < s) (hi : l[i]? = some e) (hse : (enc e).setIfInBounds j v = enc e2) (hsz : ∀ a, (enc a).size = s) (hK : ∀ w' : World, Sat c (row E s enc (.slice (some ⟨g, 0, none⟩) n cap) (l.set i e2) * R) w' → wpList P ops Q rest (a.put dst undef) w') : wpList P ops Q (⟨dst, .store t x y, ty, pos, aft, none⟩ :: rest) a w :=
  wpList_plain rfl fun K hk => ow_storeIn hs hx he hy ht h1 ho hj hi hse hsz (fun  w' h => hk _ _ (hK  w' h))
theorem mx_storeIn {P : Program} {c : World} {H : HP} {w : World} {ops : Array Oper} {Q : Exit → Act → World → Prop} {a : Act} {dst : Option Tmp} {ty : TypeId} {pos : String} {aft : Array Edge} {rest : List Oper} {N : Nat} {hR : Hp} {α : Type} {t E : TypeId} {x y : Operand} {g o i j n cap s : Nat} {enc : α → Array Value} {l : List α} {e e2 : α} {v : Value} {R : HP} (hs : Sat c H w) (hx : a.eval x = .pointer (some ⟨g, o, none⟩)) (he : Ent H (row E s enc (.slice (some ⟨g, 0, none⟩) n cap) l * R)) (hy : a.eval y = v) (ht : ScT P t) (h1 : v.oneCell' = true) (ho : o = i * s + j) (hj : j < s) (hi : l[i]? = some e) (hse : (enc e).setIfInBounds j v = enc e2) (hsz : ∀ a, (enc a).size = s) (hq : ∀ w' : World, Sat c (row E s enc (.slice (some ⟨g, 0, none⟩) n cap) (l.set i e2) * R) w' → In hR w') (hK : ∀ w' : World, Sat c (row E s enc (.slice (some ⟨g, 0, none⟩) n cap) (l.set i e2) * R) w' → wpMix P ops (In hR) Q N rest (a.put dst undef) w') : wpMix P ops (In hR) Q (N + 1) (⟨dst, .store t x y, ty, pos, aft, none⟩ :: rest) a w :=
  mix_chain rfl rfl fun K hk => ow_storeIn hs hx he hy ht h1 ho hj hi hse hsz (fun  w' h => hk _ _ ⟨hq  w' h, hK  w' h⟩)
theorem ow_cvBB {P : Program} {c : World} {H : HP} {w : World} {Q : Exit → Act → World → Prop} {a : Act} {dst : Option Tmp} {ty : TypeId} {pos : String} {aft : Array Edge} {gd : Option (Nat × Bool)} {K : Act → World → Prop} {t E : TypeId} {x : Operand} {g n cp : Nat} {l : List Int} {R : HP} (hs : Sat c H w) (hU : P.underlying t = some (.slice E)) (hE : P.underlying E = some (.int .u8)) (hx : a.eval x = .slice (some ⟨g, 0, none⟩) n cp) (he : Ent H (row E 1 bytv (.slice (some ⟨g, 0, none⟩) n cp) l * R)) (hK : ∀ w' : World, Sat c (ro 1 bytv (.slice (some ⟨g, 0, none⟩) n cp) l * R) w' → K (a.put dst (.slice (some ⟨g, 0, none⟩) n cp)) w') : Oper.wp P ⟨dst, .convert t t x, ty, pos, aft, gd⟩ a w K Q := by
  obtain ⟨cur, hf, hs'⟩ := row_blk (hs.mono he)
  obtain ⟨hfl, hn, hnc, hcm, hsz, htk⟩ := hf
  have hb := hs'.own.blk
  have hsh : w.shape? g = some (E, cur.size) := by unfold World.shape?; rw [hb]
  have hrun : (execOp a.eval ⟨dst, .convert t t x, ty, pos, aft, gd⟩).run P w = .ok (.value (.slice (some ⟨g, 0, none⟩) n cp)) (w.freeze ⟨g, cur.size, none⟩ 1) := by
    simp [execOp, hx, convert, run_underlying hU, run_underlying hE, markStringish, hsh]
  unfold Oper.wp
  rw [hrun]
  have hfz : (w.freeze ⟨g, cur.size, none⟩ 1).heap[g]? = some (.cells cur E (cur.size, cur.size + 1)) := by
    unfold World.freeze
    rw [if_neg (by decide)]
    simp only [Array.getElem?_modify]
    rw [hb]
    simp
  have h2 : Sat c (blk g (.cells cur E (cur.size, cur.size + 1)) * R) (w.freeze ⟨g, cur.size, none⟩ 1) := hs'.upd (by unfold World.freeze; rw [if_neg (by decide)]) (by unfold World.freeze; rw [if_neg (by decide)]) (by unfold World.freeze; rw [if_neg (by decide)]) hfz (fun b hb' _ => by
    unfold World.freeze
    rw [if_neg (by decide)]
    simp only [Array.getElem?_modify]
    rw [if_neg (fun h => hb' h.symm)])
  refine hK _ (h2.mono (star_mono (ent_ro fun w' hw' => ?_) ent_refl))
  have hb2 : w'.heap[g]? = some (.cells cur E (cur.size, cur.size + 1)) := (hw'.mono ent_last : Own (_ * emp) w').blk
  refine ⟨some ⟨g, 0, none⟩, cp, by rw [hn], by omega, hcm, (fun h => nomatch h), fun _ => ⟨g, 0, rfl, (Array.getElem?_eq_some_iff.1 hb2).1, fun i b hi => ?_⟩⟩
  have hlt : i < l.length := (List.getElem?_eq_some_iff.1 hi).1
  have hci : cur[i]? = some (.int .u8 b) := by
    have h3 : (cur.toList.take (l.length * 1))[i]? = (flatL bytv l)[i]? := by rw [htk]
    rw [List.getElem?_take, if_pos (by omega), Array.getElem?_toList] at h3
    rw [h3]
    have : flatL bytv l = l.map (Value.int .u8) := flat_map1 _ l
    rw [this, List.getElem?_map, hi]
    rfl
  unfold win
  rw [hb2]
  simp only [Nat.zero_add, Nat.mul_one]
  rw [if_pos (by omega)]
  congr 1
  apply Array.ext_getElem?
  intro j
  rcases Nat.eq_zero_or_pos j with rfl | hj
  · rw [Array.getElem?_extract, if_pos (by omega), Nat.add_zero, hci]
    rfl
  · rw [Array.getElem?_eq_none (by simp; omega), Array.getElem?_eq_none (by simp [bytv]; omega)]
theorem pl_cvBB {P : Program} {c : World} {H : HP} {w : World} {ops : Array Oper} {Q : Exit → Act → World → Prop} {a : Act} {dst : Option Tmp} {ty : TypeId} {pos : String} {aft : Array Edge} {rest : List Oper} {t E : TypeId} {x : Operand} {g n cp : Nat} {l : List Int} {R : HP} (hs : Sat c H w) (hU : P.underlying t = some (.slice E)) (hE : P.underlying E = some (.int .u8)) (hx : a.eval x = .slice (some ⟨g, 0, none⟩) n cp) (he : Ent H (row E 1 bytv (.slice (some ⟨g, 0, none⟩) n cp) l * R)) (hK : ∀ w' : World, Sat c (ro 1 bytv (.slice (some ⟨g, 0, none⟩) n cp) l * R) w' → wpList P ops Q rest (a.put dst (.slice (some ⟨g, 0, none⟩) n cp)) w') : wpList P ops Q (⟨dst, .convert t t x, ty, pos, aft, none⟩ :: rest) a w :=
  wpList_plain rfl fun K hk => ow_cvBB hs hU hE hx he (fun  w' h => hk _ _ (hK  w' h))
/-- .. whose results are a plain value and a struct; and two structs. -/
theorem ret_tmp_cell {P : Program} {fn : Func} {R : Ending → World → Prop} {a : Act} {w : World} {p u : Tmp} {ty : TypeId} {n : Nat} {d : TypeDesc} (hr : fn.results = #[.tmp u, .cell p ty]) (hu : P.underlying ty = some d) (hd : isAggD d = true) (hi : (P.info? ty).map (·.size) = some n)
    (g : Nat) (hp : a.tmps.getD p undef = .pointer (some ⟨g, 0, none⟩)) (cs : Array Value) (hw : win w g 0 n = some cs) (hdf : a.defers = []) (h : R (.returned (.tuple #[a.tmps.getD u undef, .agg cs])) w) : bodyPost P fn R .ret a w := by
  refine bodyPost_ret ?_ hdf h
  have hp' : a.tmps[p]?.getD undef = .pointer (some ⟨g, 0, none⟩) := by simpa using hp
  simp [results, hr, hp', asAddr, run_loadVar_win hu hd hi hw]
theorem ret_cell_cell {P : Program} {fn : Func} {R : Ending → World → Prop} {a : Act} {w : World} {p q : Tmp} {ty tz : TypeId} {n m : Nat} {d e : TypeDesc} (hr : fn.results = #[.cell p ty, .cell q tz]) (hu : P.underlying ty = some d) (hd : isAggD d = true) (hi : (P.info? ty).map (·.size) = some n) (hu2 : P.underlying tz = some e) (hd2 : isAggD e = true) (hi2 : (P.info? tz).map (·.size) = some m)
    (g : Nat) (hp : a.tmps.getD p undef = .pointer (some ⟨g, 0, none⟩)) (k : Nat) (hq : a.tmps.getD q undef = .pointer (some ⟨k, 0, none⟩)) (cs : Array Value) (hw : win w g 0 n = some cs) (ds : Array Value) (hw2 : win w k 0 m = some ds) (hdf : a.defers = []) (h : R (.returned (.tuple #[.agg cs, .agg ds])) w) : bodyPost P fn R .ret a w := by
  refine bodyPost_ret ?_ hdf h
  have hp' : a.tmps[p]?.getD undef = .pointer (some ⟨g, 0, none⟩) := by simpa using hp
  have hq' : a.tmps[q]?.getD undef = .pointer (some ⟨k, 0, none⟩) := by simpa using hq
  simp [results, hr, hp', hq', asAddr, run_loadVar_win hu hd hi hw, run_loadVar_win hu2 hd2 hi2 hw2]
end Go.Proofs.YtgoifgockcpnhaaDoor
