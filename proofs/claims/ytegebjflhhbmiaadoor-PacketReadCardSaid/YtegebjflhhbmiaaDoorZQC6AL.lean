/- Calls that give up by a panic, and deferred calls that take it. -/
import Derived.Test.YtegebjflhhbmiaaDoorZQC6AH
import Derived.Recover
import Derived.WalkLawsBesides
set_option linter.unusedSimpArgs false
set_option linter.unusedVariables false
namespace Go.Proofs.YtegebjflhhbmiaaDoor
open Go Go.RowKit

/-- A call gives up by a panic. -/
def SpecP (P : Program) (c : World) (f : FuncId) (args : Array Value) (H : HP) (pv : Value) (post : HP) : Prop :=
  ∀ w, Sat c H w → Calls P f args w (fun e w' => e = .panicked [{ v := pv, recovered := false }] ∧ Sat c post w')
theorem SpecP.mono {P : Program} {c : World} {f : FuncId} {args : Array Value} {H H' : HP} {pv : Value} {post post' : HP} (h : SpecP P c f args H pv post) (e : Ent H' H) (e' : Ent post post') : SpecP P c f args H' pv post' := fun w hs =>
  (h w (hs.mono e)).mono fun _ _ ⟨he, hb⟩ => ⟨he, hb.mono e'⟩
/-- A deferred call: how the frame below stands behind it. -/
def SpecD (P : Program) (c : World) (f : FuncId) (args : Array Value) (u : FrameMode) (H : HP) (u' : FrameMode) (post : HP) : Prop :=
  ∀ w, Sat c H w → CallsD P f args u w (fun e u2 w' => (∃ v, e = .returned v) ∧ u2 = u' ∧ Sat c post w')
section
variable {P : Program} {c : World} {H : HP} {w : World} {ops : Array Oper} {Q : Exit → Act → World → Prop} {a : Act} {dst : Option Tmp} {ty : TypeId} {pos : String} {aft : Array Edge} {rest : List Oper} {f : FuncId} {xs : Array Operand} {ats : Array TypeId} {av : Array Value} {H1 post : HP} {pv : Value}
theorem ow_callp {gd : Option (Nat × Bool)} {K : Act → World → Prop} (hs : Sat c H w) (hsp : SpecP P c f av H1 pv post) (ha : xs.map a.eval = av) (he : Ent H H1) (hb : entB P f = true) (hK : ∀ w' : World, Sat c post w' → Q (.panic [{ v := pv, recovered := false }]) a w') : Oper.wp P ⟨dst, .call ⟨.value (.func f), xs, ats⟩, ty, pos, aft, gd⟩ a w K Q := by
  have hrun : (execOp a.eval ⟨dst, .call ⟨.value (.func f), xs, ats⟩, ty, pos, aft, gd⟩).run P w = .ok (.enter f av) w := by
    rw [execOp_call_go, run_enter hb, ha]
    simp
  unfold Oper.wp
  rw [hrun]
  refine (hsp w (hs.mono he)).mono ?_
  rintro e w' ⟨rfl, hs'⟩
  exact hK w' hs'
theorem pl_callp (hs : Sat c H w) (hsp : SpecP P c f av H1 pv post) (ha : xs.map a.eval = av) (he : Ent H H1) (hb : entB P f = true) (hK : ∀ w' : World, Sat c post w' → Q (.panic [{ v := pv, recovered := false }]) a w') : wpList P ops Q (⟨dst, .call ⟨.value (.func f), xs, ats⟩, ty, pos, aft, none⟩ :: rest) a w :=
  wpList_plain rfl fun K hk => ow_callp hs hsp ha he hb hK
theorem pl_callvp {x : Operand} {fst cap : Array Value} (hs : Sat c H w) (hsp : SpecP P c f av H1 pv post) (hx : a.eval x = .func (.func f) fst cap) (ha : fst ++ xs.map a.eval ++ cap = av) (he : Ent H H1) (hb : entB P f = true) (hK : ∀ w' : World, Sat c post w' → Q (.panic [{ v := pv, recovered := false }]) a w') : wpList P ops Q (⟨dst, .call ⟨.value x, xs, ats⟩, ty, pos, aft, none⟩ :: rest) a w :=
  wpList_plain rfl fun K hk => by
    have hrun : (execOp a.eval ⟨dst, .call ⟨.value x, xs, ats⟩, ty, pos, aft, none⟩).run P w = .ok (.enter f av) w := by
      subst ha
      simp [execOp, resolve, hx, Deferred.ofValue, invoke, run_enter hb]
    unfold Oper.wp
    rw [hrun]
    refine (hsp w (hs.mono he)).mono ?_
    rintro e w' ⟨rfl, hs'⟩
    exact hK w' hs'
end
section
variable {P : Program} {w : World} {ty : TypeId} {g : Nat} {v : Value}
theorem run_loadVar1 (ht : ScT P ty) (hc : w.cell? ⟨g, 0, none⟩ = some v) : (loadVar ty ⟨g, 0, none⟩).run P w = .ok v w := by
  obtain ⟨⟨d, h1, h2⟩, _⟩ := ht
  simp [loadVar, run_isAgg h1, h2, load, Sem.run, hc]
/-- The results: one plain cell; a plain cell and a register. -/
theorem results_c1 {fn : Func} {tmps : Array Value} {p : Tmp} (hr : fn.results = #[.cell p ty]) (ht : ScT P ty) (hp : tmps.getD p undef = .pointer (some ⟨g, 0, none⟩)) (hc : w.cell? ⟨g, 0, none⟩ = some v) : (results fn tmps).run P w = .ok v w := by
  have hp' : tmps[p]?.getD undef = .pointer (some ⟨g, 0, none⟩) := by simpa using hp
  simp [results, hr, hp', asAddr, run_loadVar1 ht hc]
theorem results_c1t {fn : Func} {tmps : Array Value} {p u : Tmp} (hr : fn.results = #[.cell p ty, .tmp u]) (ht : ScT P ty) (hp : tmps.getD p undef = .pointer (some ⟨g, 0, none⟩)) (hc : w.cell? ⟨g, 0, none⟩ = some v) : (results fn tmps).run P w = .ok (.tuple #[v, tmps.getD u undef]) w := by
  have hp' : tmps[p]?.getD undef = .pointer (some ⟨g, 0, none⟩) := by simpa using hp
  simp [results, hr, hp', asAddr, run_loadVar1 ht hc]
theorem ret_c1t {fn : Func} {R : Ending → World → Prop} {a : Act} {p u : Tmp} (hr : fn.results = #[.cell p ty, .tmp u]) (ht : ScT P ty) (hp : a.tmps.getD p undef = .pointer (some ⟨g, 0, none⟩)) (hc : w.cell? ⟨g, 0, none⟩ = some v) (hdf : a.defers = []) (h : R (.returned (.tuple #[v, a.tmps.getD u undef])) w) : bodyPost P fn R .ret a w :=
  bodyPost_ret (results_c1t hr ht hp hc) hdf h
theorem leaves_c1 {fn : Func} {tmps : Array Value} {R : Ending → World → Prop} {p : Tmp} (hr : fn.results = #[.cell p ty]) (ht : ScT P ty) (hp : tmps.getD p undef = .pointer (some ⟨g, 0, none⟩)) (hc : w.cell? ⟨g, 0, none⟩ = some v) (h : R (.returned v) w) : Leaves P fn tmps R [] .returning w :=
  ⟨v, results_c1 hr ht hp hc, h⟩
end
end Go.Proofs.YtegebjflhhbmiaaDoor
