/- DiffRoom: the law's card, from its walk. -/
import Derived.Test.YtgoifgockcpnhaaDoorZDC7BC
import Derived.Test.YtgoifgockcpnhaaDoorZDC7BD
import Derived.Test.YtgoifgockcpnhaaDoorCards
import Derived.Test.YtgoifgockcpnhaaDoorTie
import Derived.ProofKit
import Derived.Deep.DeepHandedRow
import Derived.Deep.DeepWitnessRowRef
set_option linter.unusedSimpArgs false
set_option linter.unusedVariables false
set_option linter.unusedSimpArgs false
set_option linter.unusedVariables false
namespace Go.Proofs.YtgoifgockcpnhaaDoor.diffRoomLaw
open Go Go.RowKit Go.ChangeShapes Go.WideShapes Go.ChangeAt
theorem own : ownKnob Tryd.prog.godebug = none := by kernel_rfl
set_option maxRecDepth 100000 in
theorem contract (H : Type) (enc : TypeId × Value → H) (W : World) (base : Nat) (args : Array Value) (ds gs : List (DataW H)) (before : List MemPlace)
    (hval : ∀ (j : Nat) t v, Tryd.f8.params[j]? = some t → args[j]? = some v → Value.okWide Tryd.prog W .any base t v)
    (hW : DataW.Whole enc Tryd.prog Tryd.f8.params.toList Rows.diffRoomSpec.vars false W args.toList ds gs before) (hL : laidMetH Tryd.prog Rows.diffRoomRow.laid W) :
    Calls Tryd.prog 8 args W fun e W' => ∃ v, e = .returned v ∧ Rows.diffRoomSpec.post enc Tryd.prog Tryd.f8 false true false false W args v W' := by
  have hW' := hW
  obtain ⟨p, q, hA0, hV, rfl, hfz, hnd⟩ := hW
  have hA : DataW.TrodAll enc Tryd.prog W 0 (fun _ => true) true Tryd.f8.params.toList args.toList ds p := hA0
  rw [Tryd.params8] at hA hval
  obtain ⟨rfl, rfl⟩ := trodVars_none hV
  obtain ⟨v0, vs0, d0, ds0, p0, q0, ha0, rfl, rfl, t0, r0⟩ := trodAll_cons hA
  obtain ⟨v1, vs1, d1, ds1, p1, q1, ha1, rfl, rfl, t1, r1⟩ := trodAll_cons r0
  obtain ⟨rfl, rfl, rfl⟩ := trodAll_nil r1
  obtain rfl : args = #[v0, v1] := by
    apply Array.toList_inj.1
    simp [ha0, ha1]
  obtain ⟨a0, rfl, i0⟩ := arg_i64 Tryd.underlying3 (hval 0 _ _ rfl rfl) t0
  obtain ⟨a1, rfl, i1⟩ := arg_i64 Tryd.underlying3 (hval 1 _ _ rfl rfl) t1
  refine law_contract (tb := 4) rfl rfl Tryd.underlying4 ⟨rfl, rfl, rfl⟩ (by kernel_rfl) (by kernel_rfl) hW' (law_of_spec fun c0 F hF hO => ?_)
  subst hF
  exact by
    obtain ⟨ad, hE⟩ := errA_laid (l := Rows.diffRoomRow.laid) hL (by kernel_rfl) (thirteen (by refine ⟨?_, ?_, ?_, ?_, ?_, ?_, ?_, ?_, ?_, ?_, ?_, ?_, ?_⟩ <;> (repeat (first | exact List.Mem.head _ | apply List.Mem.tail)))) hO
    have hT := tabF_laid (l := Rows.diffRoomRow.laid) hL (by kernel_rfl) (d3 := Rows.laid_unicode_utf8_first) (d4 := Rows.laid_unicode_utf8_acceptRanges) (by kernel_rfl) (by kernel_rfl) (by repeat (first | exact List.Mem.head _ | apply List.Mem.tail)) (by repeat (first | exact List.Mem.head _ | apply List.Mem.tail))
    exact fun w hs => lawRoom_s c0 _ ad a0 a1 w (hs.mono (ent_pu ⟨hE, hT, i0, i1⟩ ent_refl))
theorem laid_met (os : Os) : laidMetH Tryd.prog Rows.diffRoomRow.laid ((tabWorld os).forCall (fun _ _ => 0) ⟨#[], (#[.int .i64 0, .int .i64 0] : Array Value), []⟩).memory :=
  laidMetH_of_parts3 (fuel := 8) (laidMet_of_run' 8 (by kernel_rfl) (by kernel_rfl)) (by kernel_rfl) (by kernel_rfl)
theorem reads (os : Os) {H : Type} (enc : TypeId × Value → H) : ∃ places, DataW.whole enc Tryd.prog ((tabWorld os).forCall (fun _ _ => 0) ⟨#[], (#[.int .i64 0, .int .i64 0] : Array Value), []⟩).memory Tryd.f8.params.toList Rows.diffRoomSpec.vars false (#[.int .i64 0, .int .i64 0] : Array Value).toList 8 = some ([.lit (.int .i64 0), .lit (.int .i64 0)], [], places) :=
  ⟨[], by kernel_rfl⟩
set_option maxRecDepth 100000 in
theorem lifted (os : Os) (started : os.Started) (H : Type) (enc : TypeId × Value → H) (F : Stop.Interp) :
    ReturnsInHanded {} Tryd.checked os 8 .any ((OpenSpec.ofChange Rows.diffRoomSpec).preRow enc Tryd.prog Tryd.f8 Rows.diffRoomRow.domain false Rows.diffRoomRow.laid) (((OpenSpec.ofChange Rows.diffRoomSpec).at F).post enc Tryd.prog Tryd.f8 false true false false) := by
  obtain ⟨places, hx⟩ := reads os enc
  refine returnsInHanded_of_row (C := Tryd.checked) (s := OpenSpec.ofChange Rows.diffRoomSpec) own started (by kernel_rfl) Tryd.func8
    (witness_row_atRef (enc := enc) (C := Tryd.checked) false (tabWorld os) (#[.int .i64 0, .int .i64 0] : Array Value) rfl (by kernel_rfl) (by kernel_rfl) (by kernel_rfl)
      (OpenSpec.preRow_of_cond 8 hx (by kernel_rfl) (fun k hk => by cases hk) (by kernel_rfl) (laid_met os))) ?_
  intro W base args ds gs before hval hW _ _ _ hL _ _
  exact contract H enc W base args ds gs before hval hW hL
theorem said : Rows.DiffRoomSaid :=
  OpenClaim.holds_of_cond 8 Tryd.f8 rfl rfl rfl rfl rfl rfl rfl ⟨rfl, rfl, rfl, rfl, rfl⟩ rfl rfl rfl rfl rfl (by kernel_rfl) Tryd.func8 (by kernel_rfl)
    (of_decide_eq_true (by kernel_rfl)) (by unfold Func.isWrapper; first | (rw [if_pos (by decide +kernel)]; kernel_rfl) | (rw [if_neg (by decide +kernel)]; exact ⟨rfl, rfl⟩))
    (fun os started H enc _ F => by rw [OpenClaim.pre_eq_preRow]; exact lifted os started H enc F)
theorem plain (f : FuncId) (fn : Func) (hf : Tryd.pinned.checked.prog.funcNamed "barrow/barrowlaw15.DiffRoom" = some f) (hfn : Tryd.pinned.checked.prog.funcs[f]? = some fn) :
    true = Tryd.pinned.checked.prog.looks [] ∧ ∀ (j : Nat) t, fn.params[j]? = some t → Tryd.pinned.checked.prog.wantsStandIn t = false := by
  obtain rfl : f = 8 := Option.some.inj ((show Tryd.prog.funcNamed "barrow/barrowlaw15.DiffRoom" = some 8 by kernel_rfl).symm.trans hf) |>.symm
  obtain rfl : fn = Tryd.f8 := (Option.some.inj (Tryd.func8.symm.trans hfn)).symm
  refine ⟨by kernel_rfl, fun j t ht => ?_⟩
  rw [Tryd.params8] at ht
  have hall : (Tryd.f8.params.toList.all fun t => !Tryd.pinned.checked.prog.wantsStandIn t) = true := by kernel_rfl
  rw [Tryd.params8] at hall
  have := List.all_eq_true.1 hall t (List.mem_of_getElem? (by simpa using ht))
  simpa using this
end Go.Proofs.YtgoifgockcpnhaaDoor.diffRoomLaw
namespace Go.Proofs.YtgoifgockcpnhaaDoor
open Go
theorem diffRoom_holds : Rows.DiffRoomCardSaid :=
  Claim7.holds_tied_plain_at .later [] _ _ _ _ diffRoomLaw.said (fun _ h => by cases h) (by kernel_rfl) (fun _ h => by cases h) diffRoom_row_tie rfl ⟨rfl, rfl⟩ (by kernel_rfl) rfl diffRoomLaw.plain (by kernel_rfl)
end Go.Proofs.YtgoifgockcpnhaaDoor
