/- An argument as data: what a reading says of the cells, for any type whose parts are known; a law's end: true, and what was there as it was. -/
import Derived.Test.YtegebjflhhbmiaaDoorZQC6AE
import Derived.Test.YtegebjflhhbmiaaDoorZQC6AF
import Derived.Deep.Slices
import Derived.OpenShut
import Derived.LaidMore
import Derived.ChangeSame
import Derived.WideKeyArgs
set_option linter.unusedSimpArgs false
set_option linter.unusedVariables false
namespace Go.Proofs.YtegebjflhhbmiaaDoor
open Go Go.RowKit Go.ChangeShapes Go.WideShapes Go.ChangeAt

/-! ### what is frozen for a while -/
theorem own_exh {hR : Hp} {H A : HP} {w : World} (hh : H.on hR) (h : Own (Exh hR * A) w) : Own H w := by
  obtain ⟨x, ⟨h1, h2, _, l1, _, e, _⟩, i⟩ := h
  exact ⟨hR, hh, fun b o ho => i b o (l1 b o (e b o ho))⟩
theorem slr_exh {hR : Hp} {H A : HP} {α : Type} {s : Nat} {enc : α → Array Value} {v : Value} {l : List α} (hh : H.on hR) (h : SlR H s enc v l) : SlR (Exh hR * A) s enc v l := fun w hw => h w (own_exh hh hw)
theorem reads_exh {hR : Hp} {H A : HP} {g o n : Nat} {cs : Array Value} (hh : H.on hR) (h : Reads H g o n cs) : Reads (Exh hR * A) g o n cs := fun w hw => h w (own_exh hh hw)
theorem readc_exh {hR : Hp} {H A : HP} {g o : Nat} {v : Value} (hh : H.on hR) (h : ReadC H g o v) : ReadC (Exh hR * A) g o v := fun w hw => h w (own_exh hh hw)
theorem own_exh0 {hR : Hp} {H : HP} {w : World} (hh : H.on hR) (h : Own (Exh hR) w) : Own H w := by
  obtain ⟨x, e, i⟩ := h
  exact ⟨hR, hh, fun b o ho => i b o (e b o ho)⟩
theorem slr_exh0 {hR : Hp} {H : HP} {α : Type} {s : Nat} {enc : α → Array Value} {v : Value} {l : List α} (hh : H.on hR) (h : SlR H s enc v l) : SlR (Exh hR) s enc v l := fun w hw => h w (own_exh0 hh hw)
theorem reads_exh0 {hR : Hp} {H : HP} {g o n : Nat} {cs : Array Value} (hh : H.on hR) (h : Reads H g o n cs) : Reads (Exh hR) g o n cs := fun w hw => h w (own_exh0 hh hw)
theorem readc_exh0 {hR : Hp} {H : HP} {g o : Nat} {v : Value} (hh : H.on hR) (h : ReadC H g o v) : ReadC (Exh hR) g o v := fun w hw => h w (own_exh0 hh hw)
/-- Of whatever reads as a t the cells are some a's. -/
structure Opens (P : Program) (t : TypeId) (n : Nat) {α : Type} (e : α → Array Value) (ok : α → Prop) : Prop where
  cells : P.cellsOf t = n
  size : ∀ a, (e a).size = n
  some : ∀ {H : Type} (enc : TypeId × Value → H) (w : World) (base : Nat) (sp : Nat → Bool) (held : Bool) (fuel : Nat) (cs : List Value) (x : DataW H × List MemPlace), DataW.trod enc P w base sp held fuel t cs = some x → ∃ a, cs = (e a).toList ∧ ok a
theorem trod_cut {P : Program} {t : TypeId} {n off : Nat} {H : Type} {enc : TypeId × Value → H} {w : World} {base : Nat} {sp : Nat → Bool} {held : Bool} {fuel : Nat} {cs : List Value} {x : Option (DataW H × List MemPlace)} (hc : P.cellsOf t = n) (h : DataW.trod enc P w base sp held fuel t ((cs.drop off).take (P.cellsOf t)) = x) : DataW.trod enc P w base sp held fuel t ((cs.drop off).take n) = x := by rw [← hc]; exact h
theorem Opens.cut {P : Program} {t : TypeId} {n off : Nat} {α : Type} {e : α → Array Value} {ok : α → Prop} (o : Opens P t n e ok) {H : Type} {enc : TypeId × Value → H} {w : World} {base : Nat} {sp : Nat → Bool} {held : Bool} {fuel : Nat} {cs : List Value} {x : DataW H × List MemPlace} (h : DataW.trod enc P w base sp held fuel t ((cs.drop off).take (P.cellsOf t)) = .some x) : ∃ a, (cs.drop off).take n = (e a).toList ∧ ok a := o.some _ _ _ _ _ _ _ _ (trod_cut o.cells h)
def InI (x : Int) : Prop := -9223372036854775808 ≤ x ∧ x ≤ 9223372036854775807
def In32 (x : Int) : Prop := -2147483648 ≤ x ∧ x ≤ 2147483647
def InB (x : Int) : Prop := 0 ≤ x ∧ x ≤ 255
section
variable {P : Program} {t : TypeId}
theorem opens_u8 (ht : P.underlying t = some (.int .u8)) (hc : P.cellsOf t = 1) : Opens P t 1 (fun i : Int => #[.int .u8 i]) InB :=
  ⟨hc, fun _ => rfl, fun enc w base sp held fuel cs x h => by
    obtain ⟨n, rfl, _, hw⟩ := DataW.trod_int ht h
    exact ⟨n, rfl, bounds_u8 hw⟩⟩
theorem win_of_cells {w : World} {base n : Nat} {b o : Nat} {cs : List Value} (h : w.cells? base ⟨b, o, none⟩ n = some cs) (hn : 0 < n) : win w b o n = some cs.toArray := by
  obtain ⟨_, hl, hc⟩ := World.cells?_some h
  have h0 : ∀ i, i < n → w.cell? ⟨b, o + i, none⟩ = cs[i]? := fun i hi => by rw [← add_plain]; exact hc i hi
  have hb : ∃ c t f, w.heap[b]? = some (.cells c t f) := by
    have := h0 0 hn
    rw [List.getElem?_eq_getElem (by omega)] at this
    unfold World.cell? at this
    simp only at this
    split at this
    · exact ⟨_, _, _, by assumption⟩
    · cases this
  obtain ⟨c, t, f, hb⟩ := hb
  have h1 : ∀ i, i < n → c[o + i]? = cs[i]? := fun i hi => by rw [← h0 i hi, cell_of_row w b (o + i) c t f hb]
  have hsz : o + n ≤ c.size := by
    have := h1 (n - 1) (by omega)
    rw [List.getElem?_eq_getElem (by omega)] at this
    have := Array.getElem?_eq_some_iff.1 this
    obtain ⟨h, _⟩ := this
    omega
  unfold win
  rw [hb]
  simp only
  rw [if_pos hsz]
  congr 1
  apply Array.ext_getElem?
  intro i
  by_cases hi : i < n
  · rw [Array.getElem?_extract, if_pos (by omega), h1 i hi]
    simp
  · rw [Array.getElem?_eq_none (by simp; omega), Array.getElem?_eq_none (by simp; omega)]
theorem slr_start {α : Type} {W : World} {s : Nat} {e : α → Array Value} {v : Value} {l : List α} (h : SlIs W W.heap.size s e v l) : SlR (Exh (fun b => W.heap[b]?)) s e v l := fun w hw => by
  obtain ⟨x, hx, hi⟩ := hw
  have hk : ∀ b, b < W.heap.size → w.heap[b]? = W.heap[b]? := fun b hb => by
    obtain ⟨o, ho⟩ : ∃ o, W.heap[b]? = some o := ⟨_, Array.getElem?_eq_getElem hb⟩
    rw [ho]
    exact hi b o (hx b o ho)
  refine (h.keep hk).more ?_
  rcases Nat.lt_or_ge w.heap.size W.heap.size with hlt | hge
  · have := hk w.heap.size hlt
    rw [Array.getElem?_eq_none (Nat.le_refl _), Array.getElem?_eq_getElem hlt] at this
    cases this
  · exact hge
theorem trodAll_below {H : Type} {enc : TypeId × Value → H} (hl : laidOutB P = true) {W W' : World} (hb : Below W.heap.size W W') {sp : Nat → Bool} : ∀ {ts : List TypeId} {vs : List Value} {ds : List (DataW H)} {ps : List MemPlace}, (∀ t, t ∈ ts → P.readableRec t = true ∧ t < P.types.size) →
    DataW.TrodAll enc P W 0 (fun _ => true) true ts vs ds ps → (∀ x ∈ ps, x.block < W.heap.size) → (∀ x ∈ ps, sp x.block = true) → DataW.TrodAll enc P W' 0 sp true ts vs ds ps
  | [], [], [], _, _, h, _, _ => h
  | t :: ts, v :: vs, d :: ds, ps, hr, ⟨p, q, h1, h2, he⟩, hlt, hsp => by
    subst he
    refine ⟨p, q, WideElems.Trod_stays hl (hr t (List.mem_cons_self ..)).1 (hr t (List.mem_cons_self ..)).2 h1 (fun x hx => hb.same (hlt x (List.mem_append_left _ hx))) (fun x hx => hsp x (List.mem_append_left _ hx)), ?_, rfl⟩
    exact trodAll_below hl hb (fun t ht => hr t (List.mem_cons_of_mem _ ht)) h2 (fun x hx => hlt x (List.mem_append_right _ hx)) (fun x hx => hsp x (List.mem_append_right _ hx))
end

section
variable {H : Type} {enc : TypeId × Value → H} {P : Program}
/-- The row's last step where all that was there is as it was. -/
theorem post_of_below {f : Func} {s : ChangeSpec} {apart fresh handsOn again : Bool} {W W' : World} {args : Array Value} {v : Value} {ds gs : List (DataW H)} {before pa pv : List MemPlace}
    (hW : DataW.Whole enc P f.params.toList s.vars apart W args.toList ds gs before)
    (hres : ∀ (b : Nat) (sp : Nat → Bool) (hd : Bool), DataW.TrodAll enc P W' b sp hd f.resultTypes.toList (v.resultList f.resultTypes.size) (s.fn H (ds ++ gs)).results [])
    (hargs : ∀ sp : Nat → Bool, (∀ p ∈ before, sp p.block = true) → DataW.TrodAll enc P W' 0 sp true f.params.toList args.toList (s.fn H (ds ++ gs)).args pa)
    (hvars : ∀ sp : Nat → Bool, (∀ p ∈ before, sp p.block = true) → DataW.TrodVars enc P W' sp s.vars (s.fn H (ds ++ gs)).vars pv)
    (hps : before = pa ++ pv) (hb : Below W.heap.size W W')
    (hok : ∀ (j : Nat) (t : TypeId) (r : Value), f.resultTypes[j]? = some t → (v.resultList f.resultTypes.size)[j]? = some r → Value.okWide P W' .any 0 t r) :
    s.post enc P f apart fresh handsOn again W args v W' := by
  have hlt : ∀ p ∈ before, p.block < W.heap.size := fun p hp => hW.lt p hp
  have hold : ∀ p ∈ before, (fun b => decide (b < W.heap.size)) p.block = true := fun p hp => by simpa using hlt p hp
  refine ⟨ds, gs, before, [], pa, pv, hW, hres _ _ _, hargs _ hold, hvars _ hold, World.keptBut_mono (fun p hp => ⟨hp, ?_⟩) (hb.frame (· ∈ before)), fun _ => ?_⟩
  · rw [hps, List.mem_append] at hp
    exact Or.inr hp
  · obtain ⟨_, _, _, _, _, hz, hn⟩ := hW
    refine ⟨hok, _, _, ([] ++ pa) ++ pv, ⟨[] ++ pa, pv, trodAll_append (hargs _ (fun _ _ => rfl)) (hres _ _ _), hvars _ (fun _ _ => rfl), rfl, ?_, ?_⟩, ?_⟩
    · intro b off hp
      have hin : MemPlace.cell b off ∈ before := by rw [hps]; simpa using hp
      rw [hb.frozen (hlt _ hin)]
      exact hz b off hin
    · intro ha
      have := hn ha
      rw [hps] at this
      simpa using this
    · intro p hp _
      rw [hps]
      simpa using hp
/-- What a law's walk comes to: true, and all that was there as it was. -/
theorem law_of_spec {f : FuncId} {args : Array Value} {W : World} (h : ∀ c0 F, F = Exh (fun b => W.heap[b]?) → Own F W → Spec P c0 f args F (fun r => pu (r = .bool true) F)) : Calls P f args W fun e w' => e = .returned (.bool true) ∧ Below W.heap.size W w' :=
  (h W _ rfl ⟨_, fun _ _ e => e, fun _ _ e => e⟩ W (Sat.start W)).mono fun e w' ⟨v, he, hs⟩ => by
    obtain ⟨rfl, hs2⟩ := hs.pu
    exact ⟨he, hs2.below⟩
/-- A law's contract: from its walk. -/
theorem law_contract {f : FuncId} {fn : Func} {s : ChangeSpec} {args : Array Value} {W : World} {ds gs : List (DataW H)} {before : List MemPlace} {tb : TypeId} (hv : s.vars = []) (hres : fn.resultTypes = #[tb]) (hb : P.underlying tb = some .bool)
    (hfn : (s.fn H (ds ++ gs)).results = [.lit (.bool true)] ∧ (s.fn H (ds ++ gs)).args = ds ∧ (s.fn H (ds ++ gs)).vars = [])
    (hl : laidOutB P = true) (hr : fn.params.toList.all (fun t => P.readableRec t && decide (t < P.types.size)) = true)
    (hW : DataW.Whole enc P fn.params.toList s.vars false W args.toList ds gs before)
    (h : Calls P f args W fun e w' => e = .returned (.bool true) ∧ Below W.heap.size W w') :
    Calls P f args W fun e W' => ∃ v, e = .returned v ∧ s.post enc P fn false true false false W args v W' := by
  have hW' := hW
  obtain ⟨p, q, hA, hV, rfl, hfz, hnd⟩ := hW
  rw [hv] at hV
  obtain ⟨rfl, rfl⟩ := trodVars_none hV
  have hr' : ∀ t, t ∈ fn.params.toList → P.readableRec t = true ∧ t < P.types.size := fun t ht => by
    have := List.all_eq_true.1 hr t ht
    simpa using this
  refine h.mono fun e W' ⟨he, hbl⟩ => ?_
  subst he
  have hlt : ∀ x ∈ p, x.block < W.heap.size := fun x hx => hW'.lt x (List.mem_append_left _ hx)
  refine ⟨_, rfl, post_of_below (pa := p) (pv := []) hW' (fun _ _ _ => ?_) (fun sp hsp => ?_) (fun _ _ => ?_) rfl hbl ?_⟩
  · rw [hfn.1, hres]
    exact trodAll_mk1 (shut_bool hb _)
  · rw [hfn.2.1]
    exact trodAll_below hl hbl hr' hA hlt (fun x hx => hsp x (List.mem_append_left _ hx))
  · rw [hfn.2.2, hv]
    rfl
  · exact ok_one hres rfl (okWide_bool_mk hb _)
end
end Go.Proofs.YtegebjflhhbmiaaDoor
