/- Texts and their characters: []rune(s), string(l), string(c). -/
import Derived.Test.YtgoifgockcpnhaaDoorZDC7AI
import Derived.Test.YtgoifgockcpnhaaDoorZDC7AJ
import Derived.Laws.Cover4
import Derived.Lib.TrimUEq
set_option linter.unusedSimpArgs false
set_option linter.unusedVariables false
namespace Go.Proofs.YtgoifgockcpnhaaDoor
open Go Go.RowKit

def runv (i : Int) : Array Value := #[.int .i32 i]
@[go_sem] theorem runv_size (i : Int) : (runv i).size = 1 := rfl
@[go_sem] theorem runv_flat (i : Int) : flat (runv i) = true := by simp [flat, runv, Value.oneCell']
@[go_sem] theorem runv_0 (i : Int) : (runv i)[0]? = some (.int .i32 i) := rfl
@[go_sem] theorem runv_set (i j : Int) : (runv i).setIfInBounds 0 (.int .i32 j) = runv j := rfl
theorem cells_runv (i : Int) : (Value.int .i32 i).cells = runv i := rfl
/-- Characters as a text. -/
def rts (l : List Int) : ByteArray := ⟨(encs l).toArray⟩
theorem foldl_rts : ∀ (l : List Int) (s : ByteArray), l.foldl (fun r n => r ++ Utf8.encode n) s = ⟨s.data ++ (encs l).toArray⟩
  | [], s => by simp [encs]
  | c :: l, s => by
    rw [List.foldl_cons, foldl_rts l]
    have : encs (c :: l) = encR c ++ encs l := by unfold encs; rw [List.flatMap_cons]
    rw [this]
    unfold encR
    congr 1
    rw [ByteArray.data_append]
    apply Array.toList_inj.1
    simp
theorem runesBytes_rts (l : List Int) : runesBytes l = rts l := by
  unfold runesBytes rts
  rw [foldl_rts]
  congr 1
  apply Array.toList_inj.1
  simp
theorem runes_rts {l : List Int} (h : ∀ c, c ∈ l → RuneI c) : runesL (rts l).data.toList = some l := by
  unfold rts
  exact runes_encs l h
/-- The types of a conversion between a text and its characters. -/
def RunesT (P : Program) (t t2 E : TypeId) : Prop := P.underlying t = some (.slice E) ∧ P.underlying E = some (.int .i32) ∧ P.underlying t2 = some .string
theorem run_cvRS {P : Program} {H : HP} {w : World} {a : Act} {dst : Option Tmp} {t t2 ty E : TypeId} {pos : String} {aft : Array Edge} {gd : Option (Nat × Bool)} {x : Operand} {v : Value} {l : List Int} (hw : Own H w) (hx : a.eval x = v) (hT : RunesT P t t2 E) (hr : SlR H 1 runv v l) : (execOp a.eval ⟨dst, .convert t t2 x, ty, pos, aft, gd⟩).run P w = .ok (.value (.string (rts l))) w := by
  obtain ⟨h1, h2, h3⟩ := hT
  have hs := hr w hw
  have hs' := hs
  obtain ⟨A, c, rfl, hlc, hcm, hnone, _⟩ := hs
  have hrun : (Conv.runesToString (.slice A l.length c)).run P w = .ok (.string (rts l)) w := by
    cases A with
    | none =>
      obtain rfl := hnone rfl
      obtain rfl : l = [] := List.eq_nil_of_length_eq_zero (by omega)
      simp [Conv.runesToString, rts, encs, Sem.run_pure]
      try rfl
    | some ad =>
      have hl : (loadCells ad l.length).run P w = .ok (l.map (Value.int .i32)).toArray w := by
        have := run_loadCells_list (P := P) w ad (l.map (Value.int .i32)) (slIs_cells1 (fun _ => rfl) hs')
        simpa using this
      rw [run_runesToString w ad l.length c l hl, runesBytes_rts]
  simp [execOp, hx, run_convert_runes_string w t t2 E A l.length c h1 h2 h3, hrun]
theorem pl_cvRS {P : Program} {c : World} {H : HP} {w : World} {ops : Array Oper} {Q : Exit → Act → World → Prop} {a : Act} {dst : Option Tmp} {ty E : TypeId} {pos : String} {aft : Array Edge} {rest : List Oper} {gd : Option (Nat × Bool)} {t t2 : TypeId} {x : Operand} {v : Value} {l : List Int} (hs : Sat c H w) (hx : a.eval x = v) (hT : RunesT P t t2 E) (hw : SlR H 1 runv v l) (hg : gd = none) (hK : wpList P ops Q rest (a.put dst (.string (rts l))) w) : wpList P ops Q (⟨dst, .convert t t2 x, ty, pos, aft, gd⟩ :: rest) a w := by
  subst hg
  refine wpList_plain rfl fun K hk => ?_
  unfold Oper.wp
  rw [run_cvRS hs.own hx hT hw]
  exact hk _ _ hK
theorem runesFrom_eq (s : ByteArray) : ∀ (n i : Nat) (acc : Array Value) (l : List Int), s.size - i ≤ n → runesL (s.data.toList.drop i) = some l → Conv.runesFrom s n i acc = acc ++ (l.map (Value.int .i32)).toArray
  | 0, i, acc, l, hn, h => by
    have : s.data.toList.drop i = [] := List.drop_eq_nil_iff.2 (by show s.data.toList.length ≤ i; rw [Array.length_toList]; show s.size ≤ i; omega)
    rw [this, runesL_nil] at h
    cases h
    simp [Conv.runesFrom]
  | n + 1, i, acc, l, hn, h => by
    unfold Conv.runesFrom
    by_cases hi : i < s.size
    · rw [if_pos hi]
      have hlen : (s.data.toList.drop i).length = s.size - i := by rw [List.length_drop, Array.length_toList]; rfl
      have hne : s.data.toList.drop i ≠ [] := fun h0 => by rw [h0] at hlen; simp at hlen; omega
      have hw := Lib.decodeL_width (s.data.toList.drop i)
      rw [runesL_step _ hne, Lib.decodeL_drop] at h
      rw [Lib.decodeL_drop] at hw
      split at h
      · cases h
      · cases hm : runesL ((s.data.toList.drop i).drop (Utf8.decode s i).2) with
        | none => rw [hm] at h; cases h
        | some m =>
          rw [hm] at h
          cases h
          rw [List.drop_drop] at hm
          have := runesFrom_eq s n (i + (Utf8.decode s i).2) (acc.push (.int .i32 (Int.ofNat (Utf8.decode s i).1))) m (by omega) hm
          simp only
          rw [this]
          apply Array.toList_inj.1
          simp
    · rw [if_neg hi]
      have : s.data.toList.drop i = [] := List.drop_eq_nil_iff.2 (by show s.data.toList.length ≤ i; rw [Array.length_toList]; show s.size ≤ i; omega)
      rw [this, runesL_nil] at h
      cases h
      simp
theorem run_runes_of_string {P : Program} (w : World) (src dst e : TypeId) (s : ByteArray) (l : List Int) (hs : P.underlying src = some .string) (hd : P.underlying dst = some (.slice e)) (he : P.underlying e = some (.int .i32)) (hl : runesL s.data.toList = some l) :
    (convert src dst (.string s)).run P w = .ok (.slice (some ⟨w.heap.size, 0, none⟩) l.length (grownCap w l.length 0 e))
      (w.drew.alloc (.cells ((l.map (Value.int .i32)).toArray ++ Array.replicate (grownCap w l.length 0 e - l.length) (.int .i32 0)) e)) := by
  have h1 := runesFrom_eq s s.size 0 #[] l (by omega) (by simpa using hl)
  simp [convert, run_underlying hs, run_underlying hd, run_underlying he, Conv.stringToRunes, h1, Question.forced, newRow, grownCap]
theorem flat_runv : ∀ l : List Int, flatL runv l = l.map (Value.int .i32) := fun l => flat_map1 _ l
theorem ow_cvSR {P : Program} {c : World} {H : HP} {w : World} {Q : Exit → Act → World → Prop} {a : Act} {dst : Option Tmp} {ty : TypeId} {pos : String} {aft : Array Edge} {gd : Option (Nat × Bool)} {K : Act → World → Prop} {t t2 E : TypeId} {x : Operand} {s : ByteArray} {l : List Int} (hs : Sat c H w) (hT : RunesT P t t2 E) (hx : a.eval x = .string s) (hl : runesL s.data.toList = some l) (hm : l.length ≤ maxLen) (hK : ∀ (g cq : Nat) (w' : World), Sat c (row E 1 runv (.slice (some ⟨g, 0, none⟩) l.length cq) l * H) w' → K (a.put dst (.slice (some ⟨g, 0, none⟩) l.length cq)) w') : Oper.wp P ⟨dst, .convert t2 t x, ty, pos, aft, gd⟩ a w K Q := by
  obtain ⟨h1, h2, h3⟩ := hT
  have hrun := run_runes_of_string (P := P) w t2 t E s l h3 h1 h2 hl
  unfold Oper.wp
  simp only [execOp, hx, Sem.run_bind, hrun, Result.andThen_ok, Sem.run_pure]
  have hge := grownCap_ge w l.length 0 E
  have hcm := grownCap_le_maxLen w l.length 0 E hm
  generalize grownCap w l.length 0 E = cp at *
  refine hK w.heap.size cp _ ?_
  have ha := hs.drew.alloc (.cells ((l.map (Value.int .i32)).toArray ++ Array.replicate (cp - l.length) (.int .i32 0)) E)
  refine ha.mono (star_mono (fun h x => ⟨by rw [flat_runv, List.length_map, Nat.mul_one], .inr ⟨_, cp, _, rfl, x, hge, hcm, ?_, ?_⟩⟩) ent_refl)
  · simp; omega
  · rw [flat_runv]
    simp
theorem pl_cvSR {P : Program} {c : World} {H : HP} {w : World} {ops : Array Oper} {Q : Exit → Act → World → Prop} {a : Act} {dst : Option Tmp} {ty : TypeId} {pos : String} {aft : Array Edge} {rest : List Oper} {t t2 E : TypeId} {x : Operand} {s : ByteArray} {l : List Int} (hs : Sat c H w) (hT : RunesT P t t2 E) (hx : a.eval x = .string s) (hl : runesL s.data.toList = some l) (hm : l.length ≤ maxLen) (hK : ∀ (g cq : Nat) (w' : World), Sat c (row E 1 runv (.slice (some ⟨g, 0, none⟩) l.length cq) l * H) w' → wpList P ops Q rest (a.put dst (.slice (some ⟨g, 0, none⟩) l.length cq)) w') : wpList P ops Q (⟨dst, .convert t2 t x, ty, pos, aft, none⟩ :: rest) a w :=
  wpList_plain rfl fun K hk => ow_cvSR hs hT hx hl hm (fun g cq w' h => hk _ _ (hK g cq w' h))
end Go.Proofs.YtgoifgockcpnhaaDoor
