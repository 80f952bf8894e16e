/- A region that draws and whose calls may give up: the reads first, then the rest in the one order that is left. -/
import Derived.Test.YtegebjflhhbmiaaDoorZQC6AL
import Derived.OrdersHeld
set_option linter.unusedSimpArgs false
set_option linter.unusedVariables false
namespace Go.Proofs.YtegebjflhhbmiaaDoor
open Go Go.RowKit

/-- A call gives up by a panic; by which value, the post says. -/
def SpecE (P : Program) (c : World) (f : FuncId) (args : Array Value) (H : HP) (post : Value → HP) : Prop :=
  ∀ w, Sat c H w → Calls P f args w (fun e w' => ∃ pv, e = .panicked [{ v := pv, recovered := false }] ∧ Sat c (post pv) w')
theorem SpecE.mono {P : Program} {c : World} {f : FuncId} {args : Array Value} {H H' : HP} {post post' : Value → HP} (h : SpecE P c f args H post) (e : Ent H' H) (e' : ∀ v, Ent (post v) (post' v)) : SpecE P c f args H' post' := fun w hs =>
  (h w (hs.mono e)).mono fun _ _ ⟨v, he, hb⟩ => ⟨v, he, hb.mono (e' v)⟩
/-- A call returns or gives up. -/
def SpecX (P : Program) (c : World) (f : FuncId) (args : Array Value) (H : HP) (ok no : Value → HP) : Prop :=
  ∀ w, Sat c H w → Calls P f args w (fun e w' => (∃ v, e = .returned v ∧ Sat c (ok v) w') ∨ (∃ pv, e = .panicked [{ v := pv, recovered := false }] ∧ Sat c (no pv) w'))
theorem SpecX.ok {P : Program} {c : World} {f : FuncId} {args : Array Value} {H : HP} {post no : Value → HP} (h : Spec P c f args H post) : SpecX P c f args H post no := fun w hs => (h w hs).mono fun _ _ ⟨v, he, hb⟩ => .inl ⟨v, he, hb⟩
theorem SpecX.no {P : Program} {c : World} {f : FuncId} {args : Array Value} {H : HP} {ok post : Value → HP} (h : SpecE P c f args H post) : SpecX P c f args H ok post := fun w hs => (h w hs).mono fun _ _ ⟨v, he, hb⟩ => .inr ⟨v, he, hb⟩
theorem SpecX.mono {P : Program} {c : World} {f : FuncId} {args : Array Value} {H H' : HP} {ok ok' no no' : Value → HP} (h : SpecX P c f args H ok no) (e : Ent H' H) (e1 : ∀ v, Ent (ok v) (ok' v)) (e2 : ∀ v, Ent (no v) (no' v)) : SpecX P c f args H' ok' no' := fun w hs =>
  (h w (hs.mono e)).mono fun _ _ h => h.imp (fun ⟨v, he, hb⟩ => ⟨v, he, hb.mono (e1 v)⟩) (fun ⟨v, he, hb⟩ => ⟨v, he, hb.mono (e2 v)⟩)
section
variable {P : Program} {c : World} {H : HP} {w : World} {ops : Array Oper} {Q : Exit → Act → World → Prop} {a : Act} {dst : Option Tmp} {ty : TypeId} {pos : String} {aft : Array Edge} {rest : List Oper} {f : FuncId} {xs : Array Operand} {ats : Array TypeId} {av : Array Value} {H1 : HP} {post : Value → HP}
theorem ow_calle {gd : Option (Nat × Bool)} {K : Act → World → Prop} (hs : Sat c H w) (hsp : SpecE P c f av H1 post) (ha : xs.map a.eval = av) (he : Ent H H1) (hb : entB P f = true) (hK : ∀ (pv : Value) (w' : World), Sat c (post pv) w' → Q (.panic [{ v := pv, recovered := false }]) a w') : Oper.wp P ⟨dst, .call ⟨.value (.func f), xs, ats⟩, ty, pos, aft, gd⟩ a w K Q := by
  have hrun : (execOp a.eval ⟨dst, .call ⟨.value (.func f), xs, ats⟩, ty, pos, aft, gd⟩).run P w = .ok (.enter f av) w := by
    rw [execOp_call_go, run_enter hb, ha]
    simp
  unfold Oper.wp
  rw [hrun]
  refine (hsp w (hs.mono he)).mono ?_
  rintro e w' ⟨pv, rfl, hs'⟩
  exact hK pv w' hs'
theorem pl_calle (hs : Sat c H w) (hsp : SpecE P c f av H1 post) (ha : xs.map a.eval = av) (he : Ent H H1) (hb : entB P f = true) (hK : ∀ (pv : Value) (w' : World), Sat c (post pv) w' → Q (.panic [{ v := pv, recovered := false }]) a w') : wpList P ops Q (⟨dst, .call ⟨.value (.func f), xs, ats⟩, ty, pos, aft, none⟩ :: rest) a w :=
  wpList_plain rfl fun K hk => ow_calle hs hsp ha he hb hK
theorem ow_callx {ok no : Value → HP} {gd : Option (Nat × Bool)} {K : Act → World → Prop} (hs : Sat c H w) (hsp : SpecX P c f av H1 ok no) (ha : xs.map a.eval = av) (he : Ent H H1) (hb : entB P f = true) (hK : ∀ (v : Value) (w' : World), Sat c (ok v) w' → K (a.put dst v) w') (hN : ∀ (pv : Value) (w' : World), Sat c (no pv) w' → Q (.panic [{ v := pv, recovered := false }]) a w') : Oper.wp P ⟨dst, .call ⟨.value (.func f), xs, ats⟩, ty, pos, aft, gd⟩ a w K Q := by
  have hrun : (execOp a.eval ⟨dst, .call ⟨.value (.func f), xs, ats⟩, ty, pos, aft, gd⟩).run P w = .ok (.enter f av) w := by
    rw [execOp_call_go, run_enter hb, ha]
    simp
  unfold Oper.wp
  rw [hrun]
  refine (hsp w (hs.mono he)).mono ?_
  rintro e w' (⟨v, rfl, hs'⟩ | ⟨pv, rfl, hs'⟩)
  · exact hK v w' hs'
  · exact hN pv w' hs'
theorem pl_callx {ok no : Value → HP} (hs : Sat c H w) (hsp : SpecX P c f av H1 ok no) (ha : xs.map a.eval = av) (he : Ent H H1) (hb : entB P f = true) (hK : ∀ (v : Value) (w' : World), Sat c (ok v) w' → wpList P ops Q rest (a.put dst v) w') (hN : ∀ (pv : Value) (w' : World), Sat c (no pv) w' → Q (.panic [{ v := pv, recovered := false }]) a w') : wpList P ops Q (⟨dst, .call ⟨.value (.func f), xs, ats⟩, ty, pos, aft, none⟩ :: rest) a w :=
  wpList_plain rfl fun K hk => ow_callx hs hsp ha he hb (fun v w' h => hk _ _ (hK v w' h)) hN
/-! ### the one order that is left -/
def wpQ (P : Program) (ops : Array Oper) (J : World → Prop) (Q : Exit → Act → World → Prop) : List Oper → Act → World → Prop
  | [], a, w => Q .normal a w
  | o :: rest, a, w => o.guard = none ∧ o.wp P a w (fun a' w' => J w' ∧ wpQ P ops J Q rest a' w') Q
theorem mq_chain {J : World → Prop} {o : Oper} (hg : o.guard = none) (h : ∀ K : Act → World → Prop, (∀ a' w', (J w' ∧ wpQ P ops J Q rest a' w') → K a' w') → o.wp P a w K Q) : wpQ P ops J Q (o :: rest) a w := ⟨hg, h _ fun _ _ h => h⟩
variable {hR : Hp} {R G : HP}
theorem mq_end (hRR : R.on hR) (hs : Sat c H w) (he : Ent H (Exh hR * G)) (h : ∀ w', Sat c (G * R) w' → Q .normal a w') : wpQ P ops (In hR) Q [] a w :=
  h w (hs.mono (ent_trans (ent_turn he (exh_ent hRR)) ent_comm))
theorem mq_call (hs : Sat c H w) (hsp : Spec P c f av H1 post) (ha : xs.map a.eval = av) (he : Ent H H1) (hb : entB P f = true) (hq : ∀ (v : Value) (w' : World), Sat c (post v) w' → In hR w') (hK : ∀ (v : Value) (w' : World), Sat c (post v) w' → wpQ P ops (In hR) Q rest (a.put dst v) w') : wpQ P ops (In hR) Q (⟨dst, .call ⟨.value (.func f), xs, ats⟩, ty, pos, aft, none⟩ :: rest) a w :=
  mq_chain rfl fun K hk => ow_call hs hsp ha he hb (fun v w' h => hk _ _ ⟨hq v w' h, hK v w' h⟩)
theorem mq_pure {J : World → Prop} {o : Oper} (v : Value) (hg : o.guard = none) (h : (execOp a.eval o).run P w = .ok (.value v) w) (hJ : J w) (hK : wpQ P ops J Q rest (a.put o.dst v) w) : wpQ P ops J Q (o :: rest) a w :=
  mq_chain hg fun K hk => by
    unfold Oper.wp
    rw [h]
    exact hk _ _ ⟨hJ, hK⟩
theorem mq_callx {ok no : Value → HP} {G : Value → HP} (hRR : R.on hR) (hs : Sat c H w) (hsp : SpecX P c f av H1 ok no) (ha : xs.map a.eval = av) (he : Ent H H1) (hb : entB P f = true) (hq : ∀ (v : Value) (w' : World), Sat c (ok v) w' → In hR w') (ht : ∀ pv, Ent (no pv) (Exh hR * G pv)) (hK : ∀ (v : Value) (w' : World), Sat c (ok v) w' → wpQ P ops (In hR) Q rest (a.put dst v) w') (hN : ∀ (pv : Value) (w' : World), Sat c (G pv * R) w' → Q (.panic [{ v := pv, recovered := false }]) a w') : wpQ P ops (In hR) Q (⟨dst, .call ⟨.value (.func f), xs, ats⟩, ty, pos, aft, none⟩ :: rest) a w :=
  mq_chain rfl fun K hk => ow_callx hs hsp ha he hb (fun v w' h => hk _ _ ⟨hq v w' h, hK v w' h⟩) fun pv w' h => hN pv w' (h.mono (ent_trans (ent_turn (ht pv) (exh_ent hRR)) ent_comm))
theorem mq_store1 {t t2 : TypeId} {x y : Operand} {g o : Nat} {v : Value} {cs : Array Value} {R : HP} (hs : Sat c H w) (hx : a.eval x = .pointer (some ⟨g, o, none⟩)) (hy : a.eval y = v) (ht : ScT P t) (he : Ent H (blk g (.cells cs t2 (0, 0)) * R)) (ho : o < cs.size) (h1 : v.oneCell' = true) (hq : ∀ w' : World, Sat c (blk g (.cells (cs.setIfInBounds o v) t2 (0, 0)) * R) w' → In hR w') (hK : ∀ w' : World, Sat c (blk g (.cells (cs.setIfInBounds o v) t2 (0, 0)) * R) w' → wpQ P ops (In hR) Q rest (a.put dst undef) w') : wpQ P ops (In hR) Q (⟨dst, .store t x y, ty, pos, aft, none⟩ :: rest) a w :=
  mq_chain rfl fun K hk => ow_store1 hs hx hy ht he ho h1 (fun w' h => hk _ _ ⟨hq w' h, hK w' h⟩)
end
theorem mix_nilq {P : Program} {ops : Array Oper} {J : World → Prop} {Q : Exit → Act → World → Prop} {tail : List Oper} {n : Nat} {a : Act} {w : World} (h : wpQ P ops J Q tail a w) : wpMix P ops J (fun _ a w => wpQ P ops J Q tail a w) (n + 1) [] a w := mix_nil h
/-! ### the reads first -/
/-- Operations that only read and that always yield a value. -/
def fvB (o : Oper) : Bool :=
  match o.op with
  | .move _ | .assign _ | .load .. | .nilCheck _ | .fieldAddr .. | .indexAddr .. | .slice .. | .extract .. => o.guard.isNone
  | _ => false
theorem skip_v (s : Sem Value) (P : Program) (w h : World) : (do pure (.value (← s)) : Sem Next).run P w ≠ .ok .skip h := by
  simp only [Sem.run_bind]
  cases s.run P w with
  | ok v w' => simp
  | halt x w' => simp
theorem skip_bind {α : Type} {s : Sem α} {k : α → Sem Next} {P : Program} {w h : World} (hk : ∀ a w, (k a).run P w ≠ .ok .skip h) : (s >>= k).run P w ≠ .ok .skip h := by
  rw [Sem.run_bind]
  cases s.run P w with
  | ok v w' => exact hk v w'
  | halt x w' => simp
theorem fv_skip {o : Oper} (h : fvB o = true) (ρ : Operand → Value) (P : Program) (w h' : World) : (execOp ρ o).run P w ≠ .ok .skip h' := by
  unfold fvB at h
  unfold execOp
  split at h
  case h_9 => cases h
  all_goals
    rename_i heq
    simp only [heq]
    first
      | exact skip_v _ _ _ _
      | (simp; done)
      | (split
         all_goals first
           | (simp [runtimePanic, Sem.run_bind]; done)
           | (intro hh; simp [runtimePanic, Sem.run_bind] at hh; done)
           | (split
              all_goals first
                | (simp [runtimePanic, Sem.run_bind]; done)
                | (intro hh; simp [runtimePanic, Sem.run_bind] at hh; done)
                | (refine skip_bind fun _ _ => skip_bind fun _ _ => ?_; split; exact skip_bind (fun _ _ => by simp); simp; done)
                | skip))
def pqF (ops : Array Oper) : List Nat → Array Bool → Option (Array Bool)
  | [], b => some b
  | i :: r, b => match ops[i]? with
    | none => none
    | some o => if (fvB o && (Region.free .any ops b i && (Region.ready .any ops b).contains i)) then pqF ops r (b.setIfInBounds i true) else none
def pqT (ops : Array Oper) : List Nat → Array Bool → Bool
  | [], b => Region.ready .any ops b == []
  | i :: r, b => (Region.ready .any ops b == [i]) && pqT ops r (b.setIfInBounds i true)
def pqOk (ops : Array Oper) (pf pt : List Nat) : Bool := Region.noSelect ops && (decide (pf.length + pt.length = ops.size) && match pqF ops pf (Array.replicate ops.size false) with
  | some b => pqT ops pt b && (pf.all (fun i => decide (i < ops.size)) && pt.all (fun i => decide (i < ops.size)))
  | none => false)
section
variable {P : Program} {ops : Array Oper} {Q : Exit → Act → World → Prop} {J : World → Prop}
/-- What gives up does not look at a register. -/
def PanS (Q : Exit → Act → World → Prop) : Prop := ∀ c a (d : Option Tmp) v w, Q (.panic c) (a.put d v) w → Q (.panic c) a w
theorem tail_held : ∀ (pt : List Nat) (listed : Array Bool) (a : Act) (w : World) (fuel : Nat), fuel = pt.length → (∀ i, i ∈ pt → i < ops.size) → pqT ops pt listed = true → wpQ P ops J Q (pt.filterMap fun i => ops[i]?) a w → wpAnyH P .any ops Q J fuel listed a w
  | [], listed, a, w, fuel, _, _, hB, h => wpAnyH_done (by unfold pqT at hB; simpa using hB) h fuel
  | i :: r, listed, a, w, _, rfl, hl, hB, h => by
    unfold pqT at hB
    rw [Bool.and_eq_true] at hB
    obtain ⟨h1, h2⟩ := hB
    have hi := hl i (List.mem_cons_self ..)
    have hoi : ops[i]? = some ops[i] := Array.getElem?_eq_getElem hi
    rw [List.filterMap_cons, hoi] at h
    obtain ⟨hg, h⟩ := h
    refine wpAnyH_all (rs := [i]) (by simpa using h1) (by simp) fun j hj => ?_
    rw [List.mem_singleton] at hj
    subst hj
    unfold wpOp
    simp only [hoi]
    rw [if_pos (by simp [Region.wanted, hg])]
    exact .inl (Oper.wp_mono (fun a' w' hx => ⟨hx.1, tail_held r _ a' w' _ rfl (fun k hk => hl k (List.mem_cons_of_mem _ hk)) h2 hx.2⟩) h)
theorem float_held {pt : List Nat} (hs : Region.noSelect ops = true) (hQ : PanS Q) (hpt : ∀ i, i ∈ pt → i < ops.size) : ∀ (pf : List Nat) (listed : Array Bool) (a : Act) (w : World) (fuel : Nat), fuel = pf.length + pt.length → J w → (∀ i, i ∈ pf → i < ops.size) →
    (∃ b, pqF ops pf listed = some b ∧ pqT ops pt b = true) → wpMix P ops J (fun _ a w => wpQ P ops J Q (pt.filterMap fun i => ops[i]?) a w) (pf.length + 1) (pf.filterMap fun i => ops[i]?) a w → wpAnyH P .any ops Q J fuel listed a w
  | [], listed, a, w, fuel, hf, hJ, _, ⟨b, h1, h2⟩, h => by
    unfold pqF at h1
    cases h1
    exact tail_held pt listed a w fuel (by simpa using hf) hpt h2 (by simpa [wpMix] using h)
  | i :: r, listed, a, w, _, rfl, hJ, hl, ⟨b, h1, h2⟩, h => by
    have hi := hl i (List.mem_cons_self ..)
    have hoi : ops[i]? = some ops[i] := Array.getElem?_eq_getElem hi
    unfold pqF at h1
    simp only [hoi] at h1
    split at h1
    · rename_i hc
      rw [Bool.and_eq_true, Bool.and_eq_true] at hc
      obtain ⟨c1, c2, c3⟩ := hc
      have hcb : chainB ops[i] = false := by
        unfold fvB at c1
        unfold chainB
        split at c1
        case h_9 => cases c1
        all_goals (rename_i heq; simp only [heq])
      have hg : (ops[i]).guard = none := by
        unfold fvB at c1
        split at c1
        case h_9 => cases c1
        all_goals simpa using c1
      rw [List.filterMap_cons, hoi, List.length_cons, wpMix, if_pos (by simp [Region.wanted, hg]), if_neg (by simp [hcb])] at h
      obtain ⟨v, hv, hm⟩ := h
      rw [show (i :: r).length + pt.length = (r.length + pt.length) + 1 by simp; omega]
      refine wpAnyH_take (v := v) hoi hs c2 c3 (fun c a w => hQ c a _ v w) (.inl ⟨by simp [Region.wanted, hg], fun w' hw' => ?_⟩) hJ (float_held hs hQ hpt r _ _ w _ rfl hJ (fun k hk => hl k (List.mem_cons_of_mem _ hk)) ⟨b, h1, h2⟩ hm)
      rcases hv w' hw' with h3 | ⟨h3, _⟩
      · exact h3
      · exact absurd h3 (fv_skip c1 _ _ _ _)
    · cases h1
theorem wp_region_pq {c w : World} {a : Act} {H G R : HP} {id : Nat} {l : List Oper} (hs : Sat c H w) (pf pt : List Nat) (he : Ent H (G * R)) (hm : P.follows .mixedOrders = true) (hB : pqOk l.toArray pf pt = true) (hQ : PanS Q)
    (h : ∀ (hR : Hp) (w' : World), R.on hR → Sat c (Exh hR * (G * emp)) w' → wpMix P l.toArray (In hR) (fun _ a w => wpQ P l.toArray (In hR) Q (pt.filterMap fun i => l[i]?) a w) (pf.length + 1) (pf.filterMap fun i => l[i]?) a w') : (Code.region id l.toArray true).wp P Q a w := by
  obtain ⟨x, ⟨h1, h2, d, l1, l2, x1, x2⟩, i⟩ := (hs.mono he).own
  have h3 := h h2 w.drew x2 ⟨hs.os, hs.tape, hs.output, x, ⟨h2, h1, dj_comm d, l2, l1, le_refl' _, (by rw [star_emp]; exact x1)⟩, i⟩
  unfold pqOk at hB
  rw [Bool.and_eq_true, Bool.and_eq_true] at hB
  obtain ⟨hns, hlen, hB⟩ := hB
  split at hB
  · rename_i b hb
    rw [Bool.and_eq_true, Bool.and_eq_true] at hB
    obtain ⟨hb1, hb2, hb3⟩ := hB
    simp only [List.all_eq_true, decide_eq_true_eq] at hb2 hb3
    refine wp_region_held (S := In h2) hm (float_held hns hQ hb3 pf _ _ _ _ (by simpa using (of_decide_eq_true hlen).symm) (i.le l2) hb2 ⟨b, hb, hb1⟩ ?_)
    simpa using h3
  · cases hB
end
end Go.Proofs.YtegebjflhhbmiaaDoor
