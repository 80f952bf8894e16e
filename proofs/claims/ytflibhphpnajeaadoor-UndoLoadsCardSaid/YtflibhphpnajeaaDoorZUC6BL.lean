/- UndoLoads: the law's card, from its walk. -/
import Derived.Test.YtflibhphpnajeaaDoorZUC6BA
import Derived.Test.YtflibhphpnajeaaDoorZUC6BK
import Derived.Test.YtflibhphpnajeaaDoorCards
import Derived.Test.YtflibhphpnajeaaDoorTie
import Derived.ProofKit
import Derived.Deep.DeepHandedRow
import Derived.Deep.DeepWitnessRowRef
set_option linter.unusedSimpArgs false
set_option linter.unusedVariables false
set_option linter.unusedSimpArgs false
set_option linter.unusedVariables false
namespace Go.Proofs.YtflibhphpnajeaaDoor.undoLoadsLaw
open Go Go.RowKit Go.ChangeShapes Go.WideShapes Go.ChangeAt
theorem own : ownKnob Tryd.prog.godebug = none := by kernel_rfl
set_option maxRecDepth 100000 in
theorem contract (H : Type) (enc : TypeId × Value → H) (W : World) (base : Nat) (args : Array Value) (ds gs : List (DataW H)) (before : List MemPlace)
    (hval : ∀ (j : Nat) t v, Tryd.f8.params[j]? = some t → args[j]? = some v → Value.okWide Tryd.prog W .any base t v)
    (hW : DataW.Whole enc Tryd.prog Tryd.f8.params.toList Rows.undoLoadsSpec.vars false W args.toList ds gs before) (hL : laidMetH Tryd.prog Rows.undoLoadsRow.laid W) (X : List TypeId) (hz : (DataW.weightsEach Tryd.prog (Tryd.f8.params.toList ++ X) (ds ++ gs)).all (· ≤ reachBytes) = true) :
    Calls Tryd.prog 8 args W fun e W' => ∃ v, e = .returned v ∧ Rows.undoLoadsSpec.post enc Tryd.prog Tryd.f8 false true false false W args v W' := by
  have hW' := hW
  obtain ⟨p, q, hA0, hV, rfl, hfz, hnd⟩ := hW
  have hA : DataW.TrodAll enc Tryd.prog W 0 (fun _ => true) true Tryd.f8.params.toList args.toList ds p := hA0
  rw [Tryd.params8] at hA hval hz
  obtain ⟨rfl, rfl⟩ := trodVars_none hV
  obtain ⟨v0, vs0, d0, ds0, p0, q0, ha0, rfl, rfl, t0, r0⟩ := trodAll_cons hA
  obtain ⟨v1, vs1, d1, ds1, p1, q1, ha1, rfl, rfl, t1, r1⟩ := trodAll_cons r0
  obtain ⟨v2, vs2, d2, ds2, p2, q2, ha2, rfl, rfl, t2, r2⟩ := trodAll_cons r1
  obtain ⟨rfl, rfl, rfl⟩ := trodAll_nil r2
  obtain rfl : args = #[v0, v1, v2] := by
    apply Array.toList_inj.1
    simp [ha0, ha1, ha2]
  obtain ⟨a0, h0, i0, z0⟩ := arg_slZ Tryd.underlying50 (opens_chl W) (by decide) (hval 0 _ _ rfl rfl) t0 (fits_arg (j := 0) hz rfl rfl)
  obtain ⟨a1, h1, i1, z1⟩ := arg_slZ Tryd.underlying50 (opens_chl W) (by decide) (hval 1 _ _ rfl rfl) t1 (fits_arg (j := 1) hz rfl rfl)
  obtain ⟨a2, h2, i2⟩ := arg_slA Tryd.underlying47 (opens_uop W) (by decide) (hval 2 _ _ rfl rfl) t2
  refine law_contract (tb := 4) rfl rfl Tryd.underlying4 ⟨rfl, rfl, rfl⟩ (by kernel_rfl) (by kernel_rfl) hW' (law_of_spec fun c0 F hF hO => ?_)
  subst hF
  exact (by
    obtain ⟨a, ha⟩ := errA_laid (l := Rows.undoLoadsRow.laid) hL (by kernel_rfl) (thirteen (by refine ⟨?_, ?_, ?_, ?_, ?_, ?_, ?_, ?_, ?_, ?_, ?_, ?_, ?_⟩ <;> (repeat (first | exact List.Mem.head _ | apply List.Mem.tail)))) hO
    obtain ⟨D0, e0, p0, l0⟩ := ps_of i0
    obtain ⟨D1, e1, p1, l1⟩ := ps_of i1
    refine fun w hs => ?_
    obtain ⟨U, cu, rfl⟩ := slr_form h0 hs.own
    obtain ⟨V, cv, rfl⟩ := slr_form h1 hs.own
    exact loads_s _ _ a U V _ cu _ cv v2 a0 a1 D0 D1 a2 w (hs.mono (ent_pu ⟨h0, h1, p0, p1, e0, e1, l0, l1, h2, opsI_of i2, ha⟩ ent_refl)))
theorem laid_met (os : Os) : laidMetH Tryd.prog Rows.undoLoadsRow.laid ((World.doorLaid Tryd.prog 400 os).forCall (fun _ _ => 0) ⟨#[], (#[.slice none 0 0, .slice none 0 0, .slice none 0 0] : Array Value), []⟩).memory :=
  laidMetH_of_parts3 (fuel := 8) (laidMet_of_run' 8 (by kernel_rfl) (by kernel_rfl)) (by kernel_rfl) (by kernel_rfl)
theorem reads (os : Os) {H : Type} (enc : TypeId × Value → H) : ∃ places, DataW.whole enc Tryd.prog ((World.doorLaid Tryd.prog 400 os).forCall (fun _ _ => 0) ⟨#[], (#[.slice none 0 0, .slice none 0 0, .slice none 0 0] : Array Value), []⟩).memory Tryd.f8.params.toList Rows.undoLoadsSpec.vars false (#[.slice none 0 0, .slice none 0 0, .slice none 0 0] : Array Value).toList 8 = some ([.nil, .nil, .nil], [], places) :=
  ⟨[], by kernel_rfl⟩
set_option maxRecDepth 100000 in
theorem lifted (os : Os) (started : os.Started) (H : Type) (enc : TypeId × Value → H) (F : Stop.Interp) :
    ReturnsInHanded {} Tryd.checked os 8 .any ((OpenSpec.ofChange Rows.undoLoadsSpec).preRow enc Tryd.prog Tryd.f8 Rows.undoLoadsRow.domain false Rows.undoLoadsRow.laid) (((OpenSpec.ofChange Rows.undoLoadsSpec).at F).post enc Tryd.prog Tryd.f8 false true false false) := by
  obtain ⟨places, hx⟩ := reads os enc
  refine returnsInHanded_of_row (C := Tryd.checked) (s := OpenSpec.ofChange Rows.undoLoadsSpec) own started (by kernel_rfl) Tryd.func8
    (witness_row_atRef (enc := enc) (C := Tryd.checked) false (World.doorLaid Tryd.prog 400 os) (#[.slice none 0 0, .slice none 0 0, .slice none 0 0] : Array Value) rfl (by kernel_rfl) (by kernel_rfl) (by kernel_rfl)
      (OpenSpec.preRow_of_cond 8 hx (by kernel_rfl) (fun k hk => by cases hk) (by kernel_rfl) (laid_met os))) ?_
  intro W base args ds gs before hval hW _ _ hz hL _ _
  exact contract H enc W base args ds gs before hval hW hL _ hz
theorem said : Rows.UndoLoadsSaid :=
  OpenClaim.holds_of_cond 8 Tryd.f8 rfl rfl rfl rfl rfl rfl rfl ⟨rfl, rfl, rfl, rfl, rfl⟩ rfl rfl rfl rfl rfl (by kernel_rfl) Tryd.func8 (by kernel_rfl)
    (of_decide_eq_true (by kernel_rfl)) (by unfold Func.isWrapper; first | (rw [if_pos (by decide +kernel)]; kernel_rfl) | (rw [if_neg (by decide +kernel)]; exact ⟨rfl, rfl⟩))
    (fun os started H enc _ F => by rw [OpenClaim.pre_eq_preRow]; exact lifted os started H enc F)
theorem plain (f : FuncId) (fn : Func) (hf : Tryd.pinned.checked.prog.funcNamed "barrow/barrowlaw14.UndoLoads" = some f) (hfn : Tryd.pinned.checked.prog.funcs[f]? = some fn) :
    true = Tryd.pinned.checked.prog.looks [] ∧ ∀ (j : Nat) t, fn.params[j]? = some t → Tryd.pinned.checked.prog.wantsStandIn t = false := by
  obtain rfl : f = 8 := Option.some.inj ((show Tryd.prog.funcNamed "barrow/barrowlaw14.UndoLoads" = some 8 by kernel_rfl).symm.trans hf) |>.symm
  obtain rfl : fn = Tryd.f8 := (Option.some.inj (Tryd.func8.symm.trans hfn)).symm
  refine ⟨by kernel_rfl, fun j t ht => ?_⟩
  rw [Tryd.params8] at ht
  have hall : (Tryd.f8.params.toList.all fun t => !Tryd.pinned.checked.prog.wantsStandIn t) = true := by kernel_rfl
  rw [Tryd.params8] at hall
  have := List.all_eq_true.1 hall t (List.mem_of_getElem? (by simpa using ht))
  simpa using this
end Go.Proofs.YtflibhphpnajeaaDoor.undoLoadsLaw
namespace Go.Proofs.YtflibhphpnajeaaDoor
open Go
theorem undoLoads_holds : Rows.UndoLoadsCardSaid :=
  Claim7.holds_tied_plain_at .later [] _ _ _ _ undoLoadsLaw.said (fun _ h => by cases h) (by kernel_rfl) (fun _ h => by cases h) undoLoads_row_tie rfl ⟨rfl, rfl⟩ (by kernel_rfl) rfl undoLoadsLaw.plain (by kernel_rfl)
end Go.Proofs.YtflibhphpnajeaaDoor
