/- The types of this seat: records as data, and what the walk does with them. -/
import Derived.Test.YtlgjippijbepkaaDoorR2
import Derived.Test.YtlgjippijbepkaaDoorH8
import Derived.Test.YtlgjippijbepkaaDoorProg
import Derived.ChangeKeysEq
set_option linter.unusedSimpArgs false
set_option linter.unusedVariables false
namespace Go.Proofs.YtlgjippijbepkaaDoor
open Go Go.RowKit

/-- A list cut into pieces. -/
def catCut (cs : List Value) : Nat → List Nat → List Value
  | o, [] => cs.drop o
  | o, n :: ns => (cs.drop o).take n ++ catCut cs (o + n) ns
theorem catCut_eq (cs : List Value) : ∀ (ns : List Nat) (o : Nat), catCut cs o ns = cs.drop o
  | [], _ => rfl
  | n :: ns, o => by
    unfold catCut
    rw [catCut_eq cs ns, ← List.drop_drop]
    exact List.take_append_drop n (cs.drop o)

theorem opens_int : Opens Tryd.prog 3 1 (fun i : Int => #[.int .i64 i]) InI := opens_i64 Tryd.underlying3 (by kernel_rfl)
theorem ba_iff {a b : ByteArray} : a.toList = b.toList ↔ a = b := ⟨fun h => by rw [ByteArray.toList_eq, ByteArray.toList_eq] at h; exact ByteArray.ext (Array.toList_inj.1 h), fun h => by rw [h]⟩
/-! ### barrow/api.Parcel -/
structure PclD where
  serial : Int
  src : Int
  dst : Int
  rawp : Option Addr
  rawn : Nat
  rawc : Nat
def pcl (a : PclD) : Array Value := #[.int .i64 a.serial, .int .i64 a.src, .int .i64 a.dst, .slice a.rawp a.rawn a.rawc]
def pcl0 : PclD := ⟨0, 0, 0, none, 0, 0⟩
@[go_sem] theorem pcl_size (a : PclD) : (pcl a).size = 4 := by unfold pcl; simp
@[go_sem] theorem pcl_flat (a : PclD) : flat (pcl a) = true := by simp [flat, pcl, Value.oneCell']
@[go_sem] theorem pcl_0 (a : PclD) : (pcl a)[0]? = some (.int .i64 a.serial) := by unfold pcl; simp
@[go_sem] theorem pcl_e0 (a : PclD) (h : 0 < (pcl a).size) : (pcl a)[0] = .int .i64 a.serial := by unfold pcl; simp
@[go_sem] theorem pcl_1 (a : PclD) : (pcl a)[1]? = some (.int .i64 a.src) := by unfold pcl; simp
@[go_sem] theorem pcl_e1 (a : PclD) (h : 1 < (pcl a).size) : (pcl a)[1] = .int .i64 a.src := by unfold pcl; simp
@[go_sem] theorem pcl_2 (a : PclD) : (pcl a)[2]? = some (.int .i64 a.dst) := by unfold pcl; simp
@[go_sem] theorem pcl_e2 (a : PclD) (h : 2 < (pcl a).size) : (pcl a)[2] = .int .i64 a.dst := by unfold pcl; simp
@[go_sem] theorem pcl_3 (a : PclD) : (pcl a)[3]? = some (.slice a.rawp a.rawn a.rawc) := by unfold pcl; simp
@[go_sem] theorem pcl_e3 (a : PclD) (h : 3 < (pcl a).size) : (pcl a)[3] = .slice a.rawp a.rawn a.rawc := by unfold pcl; simp
@[go_sem] theorem pcl_s0 (a : PclD) (v : Int) : (pcl a).setIfInBounds 0 (.int .i64 v) = pcl { a with serial := v } := by unfold pcl; simp
@[go_sem] theorem pcl_s1 (a : PclD) (v : Int) : (pcl a).setIfInBounds 1 (.int .i64 v) = pcl { a with src := v } := by unfold pcl; simp
@[go_sem] theorem pcl_s2 (a : PclD) (v : Int) : (pcl a).setIfInBounds 2 (.int .i64 v) = pcl { a with dst := v } := by unfold pcl; simp
@[go_sem] theorem pcl_s3 (a : PclD) (p : Option Addr) (n c : Nat) : (pcl a).setIfInBounds 3 (.slice p n c) = pcl { a with rawp := p, rawn := n, rawc := c } := by unfold pcl; simp
@[go_sem ↓] theorem field_pcl (x : Value) (f : Nat) : Instr.field 37 x f = fldS 37 x f := (fldS_eq 37 x f).symm
@[go_sem] theorem fld_pcl0 (cs : Array Value) (w : World) : (fldS 37 (.agg cs) 0).run Tryd.prog w = fldOne Tryd.prog 37 0 0 cs w :=
  run_fldS Tryd.prog 37 0 _ _ _ Tryd.underlying37 rfl Tryd.underlying3 rfl cs w
@[go_sem] theorem fld_pcl1 (cs : Array Value) (w : World) : (fldS 37 (.agg cs) 1).run Tryd.prog w = fldOne Tryd.prog 37 1 1 cs w :=
  run_fldS Tryd.prog 37 1 _ _ _ Tryd.underlying37 rfl Tryd.underlying3 rfl cs w
@[go_sem] theorem fld_pcl2 (cs : Array Value) (w : World) : (fldS 37 (.agg cs) 2).run Tryd.prog w = fldOne Tryd.prog 37 2 2 cs w :=
  run_fldS Tryd.prog 37 2 _ _ _ Tryd.underlying37 rfl Tryd.underlying3 rfl cs w
@[go_sem] theorem fld_pcl3 (cs : Array Value) (w : World) : (fldS 37 (.agg cs) 3).run Tryd.prog w = fldOne Tryd.prog 37 3 3 cs w :=
  run_fldS Tryd.prog 37 3 _ _ _ Tryd.underlying37 rfl Tryd.underlying31 rfl cs w
instance : Inhabited PclD := ⟨pcl0⟩

/-! ### barrow/barrowlaw10.Op -/
structure OpgD where
  what : Int
  i : Int
  j : Int
  rawp : Option Addr
  rawn : Nat
  rawc : Nat
def opg (a : OpgD) : Array Value := #[.int .i64 a.what, .int .i64 a.i, .int .i64 a.j, .slice a.rawp a.rawn a.rawc]
def opg0 : OpgD := ⟨0, 0, 0, none, 0, 0⟩
@[go_sem] theorem opg_size (a : OpgD) : (opg a).size = 4 := by unfold opg; simp
@[go_sem] theorem opg_flat (a : OpgD) : flat (opg a) = true := by simp [flat, opg, Value.oneCell']
@[go_sem] theorem opg_0 (a : OpgD) : (opg a)[0]? = some (.int .i64 a.what) := by unfold opg; simp
@[go_sem] theorem opg_e0 (a : OpgD) (h : 0 < (opg a).size) : (opg a)[0] = .int .i64 a.what := by unfold opg; simp
@[go_sem] theorem opg_1 (a : OpgD) : (opg a)[1]? = some (.int .i64 a.i) := by unfold opg; simp
@[go_sem] theorem opg_e1 (a : OpgD) (h : 1 < (opg a).size) : (opg a)[1] = .int .i64 a.i := by unfold opg; simp
@[go_sem] theorem opg_2 (a : OpgD) : (opg a)[2]? = some (.int .i64 a.j) := by unfold opg; simp
@[go_sem] theorem opg_e2 (a : OpgD) (h : 2 < (opg a).size) : (opg a)[2] = .int .i64 a.j := by unfold opg; simp
@[go_sem] theorem opg_3 (a : OpgD) : (opg a)[3]? = some (.slice a.rawp a.rawn a.rawc) := by unfold opg; simp
@[go_sem] theorem opg_e3 (a : OpgD) (h : 3 < (opg a).size) : (opg a)[3] = .slice a.rawp a.rawn a.rawc := by unfold opg; simp
@[go_sem] theorem opg_s0 (a : OpgD) (v : Int) : (opg a).setIfInBounds 0 (.int .i64 v) = opg { a with what := v } := by unfold opg; simp
@[go_sem] theorem opg_s1 (a : OpgD) (v : Int) : (opg a).setIfInBounds 1 (.int .i64 v) = opg { a with i := v } := by unfold opg; simp
@[go_sem] theorem opg_s2 (a : OpgD) (v : Int) : (opg a).setIfInBounds 2 (.int .i64 v) = opg { a with j := v } := by unfold opg; simp
@[go_sem] theorem opg_s3 (a : OpgD) (p : Option Addr) (n c : Nat) : (opg a).setIfInBounds 3 (.slice p n c) = opg { a with rawp := p, rawn := n, rawc := c } := by unfold opg; simp
@[go_sem ↓] theorem field_opg (x : Value) (f : Nat) : Instr.field 33 x f = fldS 33 x f := (fldS_eq 33 x f).symm
@[go_sem] theorem fld_opg0 (cs : Array Value) (w : World) : (fldS 33 (.agg cs) 0).run Tryd.prog w = fldOne Tryd.prog 33 0 0 cs w :=
  run_fldS Tryd.prog 33 0 _ _ _ Tryd.underlying33 rfl Tryd.underlying3 rfl cs w
@[go_sem] theorem fld_opg1 (cs : Array Value) (w : World) : (fldS 33 (.agg cs) 1).run Tryd.prog w = fldOne Tryd.prog 33 1 1 cs w :=
  run_fldS Tryd.prog 33 1 _ _ _ Tryd.underlying33 rfl Tryd.underlying3 rfl cs w
@[go_sem] theorem fld_opg2 (cs : Array Value) (w : World) : (fldS 33 (.agg cs) 2).run Tryd.prog w = fldOne Tryd.prog 33 2 2 cs w :=
  run_fldS Tryd.prog 33 2 _ _ _ Tryd.underlying33 rfl Tryd.underlying3 rfl cs w
@[go_sem] theorem fld_opg3 (cs : Array Value) (w : World) : (fldS 33 (.agg cs) 3).run Tryd.prog w = fldOne Tryd.prog 33 3 3 cs w :=
  run_fldS Tryd.prog 33 3 _ _ _ Tryd.underlying33 rfl Tryd.underlying31 rfl cs w
instance : Inhabited OpgD := ⟨opg0⟩

/-! ### barrow/bag.Bag -/
structure BagD where
  most : Int
  serial : Int
  rowp : Option Addr
  rown : Nat
  rowc : Nat
  sent : Int
  arrived : Int
  dropped : Int
  doubled : Int
def bgv (a : BagD) : Array Value := #[.int .i64 a.most, .int .i64 a.serial, .slice a.rowp a.rown a.rowc, .int .i64 a.sent, .int .i64 a.arrived, .int .i64 a.dropped, .int .i64 a.doubled]
def bgv0 : BagD := ⟨0, 0, none, 0, 0, 0, 0, 0, 0⟩
@[go_sem] theorem bgv_size (a : BagD) : (bgv a).size = 7 := by unfold bgv; simp
@[go_sem] theorem bgv_flat (a : BagD) : flat (bgv a) = true := by simp [flat, bgv, Value.oneCell']
@[go_sem] theorem bgv_0 (a : BagD) : (bgv a)[0]? = some (.int .i64 a.most) := by unfold bgv; simp
@[go_sem] theorem bgv_e0 (a : BagD) (h : 0 < (bgv a).size) : (bgv a)[0] = .int .i64 a.most := by unfold bgv; simp
@[go_sem] theorem bgv_1 (a : BagD) : (bgv a)[1]? = some (.int .i64 a.serial) := by unfold bgv; simp
@[go_sem] theorem bgv_e1 (a : BagD) (h : 1 < (bgv a).size) : (bgv a)[1] = .int .i64 a.serial := by unfold bgv; simp
@[go_sem] theorem bgv_2 (a : BagD) : (bgv a)[2]? = some (.slice a.rowp a.rown a.rowc) := by unfold bgv; simp
@[go_sem] theorem bgv_e2 (a : BagD) (h : 2 < (bgv a).size) : (bgv a)[2] = .slice a.rowp a.rown a.rowc := by unfold bgv; simp
@[go_sem] theorem bgv_3 (a : BagD) : (bgv a)[3]? = some (.int .i64 a.sent) := by unfold bgv; simp
@[go_sem] theorem bgv_e3 (a : BagD) (h : 3 < (bgv a).size) : (bgv a)[3] = .int .i64 a.sent := by unfold bgv; simp
@[go_sem] theorem bgv_4 (a : BagD) : (bgv a)[4]? = some (.int .i64 a.arrived) := by unfold bgv; simp
@[go_sem] theorem bgv_e4 (a : BagD) (h : 4 < (bgv a).size) : (bgv a)[4] = .int .i64 a.arrived := by unfold bgv; simp
@[go_sem] theorem bgv_5 (a : BagD) : (bgv a)[5]? = some (.int .i64 a.dropped) := by unfold bgv; simp
@[go_sem] theorem bgv_e5 (a : BagD) (h : 5 < (bgv a).size) : (bgv a)[5] = .int .i64 a.dropped := by unfold bgv; simp
@[go_sem] theorem bgv_6 (a : BagD) : (bgv a)[6]? = some (.int .i64 a.doubled) := by unfold bgv; simp
@[go_sem] theorem bgv_e6 (a : BagD) (h : 6 < (bgv a).size) : (bgv a)[6] = .int .i64 a.doubled := by unfold bgv; simp
@[go_sem] theorem bgv_s0 (a : BagD) (v : Int) : (bgv a).setIfInBounds 0 (.int .i64 v) = bgv { a with most := v } := by unfold bgv; simp
@[go_sem] theorem bgv_s1 (a : BagD) (v : Int) : (bgv a).setIfInBounds 1 (.int .i64 v) = bgv { a with serial := v } := by unfold bgv; simp
@[go_sem] theorem bgv_s2 (a : BagD) (p : Option Addr) (n c : Nat) : (bgv a).setIfInBounds 2 (.slice p n c) = bgv { a with rowp := p, rown := n, rowc := c } := by unfold bgv; simp
@[go_sem] theorem bgv_s3 (a : BagD) (v : Int) : (bgv a).setIfInBounds 3 (.int .i64 v) = bgv { a with sent := v } := by unfold bgv; simp
@[go_sem] theorem bgv_s4 (a : BagD) (v : Int) : (bgv a).setIfInBounds 4 (.int .i64 v) = bgv { a with arrived := v } := by unfold bgv; simp
@[go_sem] theorem bgv_s5 (a : BagD) (v : Int) : (bgv a).setIfInBounds 5 (.int .i64 v) = bgv { a with dropped := v } := by unfold bgv; simp
@[go_sem] theorem bgv_s6 (a : BagD) (v : Int) : (bgv a).setIfInBounds 6 (.int .i64 v) = bgv { a with doubled := v } := by unfold bgv; simp
@[go_sem ↓] theorem field_bgv (x : Value) (f : Nat) : Instr.field 70 x f = fldS 70 x f := (fldS_eq 70 x f).symm
@[go_sem] theorem fld_bgv0 (cs : Array Value) (w : World) : (fldS 70 (.agg cs) 0).run Tryd.prog w = fldOne Tryd.prog 70 0 0 cs w :=
  run_fldS Tryd.prog 70 0 _ _ _ Tryd.underlying70 rfl Tryd.underlying3 rfl cs w
@[go_sem] theorem fld_bgv1 (cs : Array Value) (w : World) : (fldS 70 (.agg cs) 1).run Tryd.prog w = fldOne Tryd.prog 70 1 1 cs w :=
  run_fldS Tryd.prog 70 1 _ _ _ Tryd.underlying70 rfl Tryd.underlying3 rfl cs w
@[go_sem] theorem fld_bgv2 (cs : Array Value) (w : World) : (fldS 70 (.agg cs) 2).run Tryd.prog w = fldOne Tryd.prog 70 2 2 cs w :=
  run_fldS Tryd.prog 70 2 _ _ _ Tryd.underlying70 rfl Tryd.underlying29 rfl cs w
@[go_sem] theorem fld_bgv3 (cs : Array Value) (w : World) : (fldS 70 (.agg cs) 3).run Tryd.prog w = fldOne Tryd.prog 70 3 3 cs w :=
  run_fldS Tryd.prog 70 3 _ _ _ Tryd.underlying70 rfl Tryd.underlying3 rfl cs w
@[go_sem] theorem fld_bgv4 (cs : Array Value) (w : World) : (fldS 70 (.agg cs) 4).run Tryd.prog w = fldOne Tryd.prog 70 4 4 cs w :=
  run_fldS Tryd.prog 70 4 _ _ _ Tryd.underlying70 rfl Tryd.underlying3 rfl cs w
@[go_sem] theorem fld_bgv5 (cs : Array Value) (w : World) : (fldS 70 (.agg cs) 5).run Tryd.prog w = fldOne Tryd.prog 70 5 5 cs w :=
  run_fldS Tryd.prog 70 5 _ _ _ Tryd.underlying70 rfl Tryd.underlying3 rfl cs w
@[go_sem] theorem fld_bgv6 (cs : Array Value) (w : World) : (fldS 70 (.agg cs) 6).run Tryd.prog w = fldOne Tryd.prog 70 6 6 cs w :=
  run_fldS Tryd.prog 70 6 _ _ _ Tryd.underlying70 rfl Tryd.underlying3 rfl cs w
instance : Inhabited BagD := ⟨bgv0⟩

/-! ### barrow/barrowref10.Bag -/
structure RbgD where
  most : Int
  next : Int
  rowp : Option Addr
  rown : Nat
  rowc : Nat
  sent : Int
  arrived : Int
  dropped : Int
  doubled : Int
def rbg (a : RbgD) : Array Value := #[.int .i64 a.most, .int .i64 a.next, .slice a.rowp a.rown a.rowc, .int .i64 a.sent, .int .i64 a.arrived, .int .i64 a.dropped, .int .i64 a.doubled]
def rbg0 : RbgD := ⟨0, 0, none, 0, 0, 0, 0, 0, 0⟩
@[go_sem] theorem rbg_size (a : RbgD) : (rbg a).size = 7 := by unfold rbg; simp
@[go_sem] theorem rbg_flat (a : RbgD) : flat (rbg a) = true := by simp [flat, rbg, Value.oneCell']
@[go_sem] theorem rbg_0 (a : RbgD) : (rbg a)[0]? = some (.int .i64 a.most) := by unfold rbg; simp
@[go_sem] theorem rbg_e0 (a : RbgD) (h : 0 < (rbg a).size) : (rbg a)[0] = .int .i64 a.most := by unfold rbg; simp
@[go_sem] theorem rbg_1 (a : RbgD) : (rbg a)[1]? = some (.int .i64 a.next) := by unfold rbg; simp
@[go_sem] theorem rbg_e1 (a : RbgD) (h : 1 < (rbg a).size) : (rbg a)[1] = .int .i64 a.next := by unfold rbg; simp
@[go_sem] theorem rbg_2 (a : RbgD) : (rbg a)[2]? = some (.slice a.rowp a.rown a.rowc) := by unfold rbg; simp
@[go_sem] theorem rbg_e2 (a : RbgD) (h : 2 < (rbg a).size) : (rbg a)[2] = .slice a.rowp a.rown a.rowc := by unfold rbg; simp
@[go_sem] theorem rbg_3 (a : RbgD) : (rbg a)[3]? = some (.int .i64 a.sent) := by unfold rbg; simp
@[go_sem] theorem rbg_e3 (a : RbgD) (h : 3 < (rbg a).size) : (rbg a)[3] = .int .i64 a.sent := by unfold rbg; simp
@[go_sem] theorem rbg_4 (a : RbgD) : (rbg a)[4]? = some (.int .i64 a.arrived) := by unfold rbg; simp
@[go_sem] theorem rbg_e4 (a : RbgD) (h : 4 < (rbg a).size) : (rbg a)[4] = .int .i64 a.arrived := by unfold rbg; simp
@[go_sem] theorem rbg_5 (a : RbgD) : (rbg a)[5]? = some (.int .i64 a.dropped) := by unfold rbg; simp
@[go_sem] theorem rbg_e5 (a : RbgD) (h : 5 < (rbg a).size) : (rbg a)[5] = .int .i64 a.dropped := by unfold rbg; simp
@[go_sem] theorem rbg_6 (a : RbgD) : (rbg a)[6]? = some (.int .i64 a.doubled) := by unfold rbg; simp
@[go_sem] theorem rbg_e6 (a : RbgD) (h : 6 < (rbg a).size) : (rbg a)[6] = .int .i64 a.doubled := by unfold rbg; simp
@[go_sem] theorem rbg_s0 (a : RbgD) (v : Int) : (rbg a).setIfInBounds 0 (.int .i64 v) = rbg { a with most := v } := by unfold rbg; simp
@[go_sem] theorem rbg_s1 (a : RbgD) (v : Int) : (rbg a).setIfInBounds 1 (.int .i64 v) = rbg { a with next := v } := by unfold rbg; simp
@[go_sem] theorem rbg_s2 (a : RbgD) (p : Option Addr) (n c : Nat) : (rbg a).setIfInBounds 2 (.slice p n c) = rbg { a with rowp := p, rown := n, rowc := c } := by unfold rbg; simp
@[go_sem] theorem rbg_s3 (a : RbgD) (v : Int) : (rbg a).setIfInBounds 3 (.int .i64 v) = rbg { a with sent := v } := by unfold rbg; simp
@[go_sem] theorem rbg_s4 (a : RbgD) (v : Int) : (rbg a).setIfInBounds 4 (.int .i64 v) = rbg { a with arrived := v } := by unfold rbg; simp
@[go_sem] theorem rbg_s5 (a : RbgD) (v : Int) : (rbg a).setIfInBounds 5 (.int .i64 v) = rbg { a with dropped := v } := by unfold rbg; simp
@[go_sem] theorem rbg_s6 (a : RbgD) (v : Int) : (rbg a).setIfInBounds 6 (.int .i64 v) = rbg { a with doubled := v } := by unfold rbg; simp
@[go_sem ↓] theorem field_rbg (x : Value) (f : Nat) : Instr.field 66 x f = fldS 66 x f := (fldS_eq 66 x f).symm
@[go_sem] theorem fld_rbg0 (cs : Array Value) (w : World) : (fldS 66 (.agg cs) 0).run Tryd.prog w = fldOne Tryd.prog 66 0 0 cs w :=
  run_fldS Tryd.prog 66 0 _ _ _ Tryd.underlying66 rfl Tryd.underlying3 rfl cs w
@[go_sem] theorem fld_rbg1 (cs : Array Value) (w : World) : (fldS 66 (.agg cs) 1).run Tryd.prog w = fldOne Tryd.prog 66 1 1 cs w :=
  run_fldS Tryd.prog 66 1 _ _ _ Tryd.underlying66 rfl Tryd.underlying3 rfl cs w
@[go_sem] theorem fld_rbg2 (cs : Array Value) (w : World) : (fldS 66 (.agg cs) 2).run Tryd.prog w = fldOne Tryd.prog 66 2 2 cs w :=
  run_fldS Tryd.prog 66 2 _ _ _ Tryd.underlying66 rfl Tryd.underlying29 rfl cs w
@[go_sem] theorem fld_rbg3 (cs : Array Value) (w : World) : (fldS 66 (.agg cs) 3).run Tryd.prog w = fldOne Tryd.prog 66 3 3 cs w :=
  run_fldS Tryd.prog 66 3 _ _ _ Tryd.underlying66 rfl Tryd.underlying3 rfl cs w
@[go_sem] theorem fld_rbg4 (cs : Array Value) (w : World) : (fldS 66 (.agg cs) 4).run Tryd.prog w = fldOne Tryd.prog 66 4 4 cs w :=
  run_fldS Tryd.prog 66 4 _ _ _ Tryd.underlying66 rfl Tryd.underlying3 rfl cs w
@[go_sem] theorem fld_rbg5 (cs : Array Value) (w : World) : (fldS 66 (.agg cs) 5).run Tryd.prog w = fldOne Tryd.prog 66 5 5 cs w :=
  run_fldS Tryd.prog 66 5 _ _ _ Tryd.underlying66 rfl Tryd.underlying3 rfl cs w
@[go_sem] theorem fld_rbg6 (cs : Array Value) (w : World) : (fldS 66 (.agg cs) 6).run Tryd.prog w = fldOne Tryd.prog 66 6 6 cs w :=
  run_fldS Tryd.prog 66 6 _ _ _ Tryd.underlying66 rfl Tryd.underlying3 rfl cs w
instance : Inhabited RbgD := ⟨rbg0⟩

/-! ### barrow/barrowlaw10.pair -/
structure PairD where
  b : Option Addr
  r : Option Addr
def prv (a : PairD) : Array Value := #[.pointer a.b, .pointer a.r]
def prv0 : PairD := ⟨none, none⟩
@[go_sem] theorem prv_size (a : PairD) : (prv a).size = 2 := by unfold prv; simp
@[go_sem] theorem prv_flat (a : PairD) : flat (prv a) = true := by simp [flat, prv, Value.oneCell']
@[go_sem] theorem prv_0 (a : PairD) : (prv a)[0]? = some (.pointer a.b) := by unfold prv; simp
@[go_sem] theorem prv_e0 (a : PairD) (h : 0 < (prv a).size) : (prv a)[0] = .pointer a.b := by unfold prv; simp
@[go_sem] theorem prv_1 (a : PairD) : (prv a)[1]? = some (.pointer a.r) := by unfold prv; simp
@[go_sem] theorem prv_e1 (a : PairD) (h : 1 < (prv a).size) : (prv a)[1] = .pointer a.r := by unfold prv; simp
@[go_sem] theorem prv_s0 (a : PairD) (v : Option Addr) : (prv a).setIfInBounds 0 (.pointer v) = prv { a with b := v } := by unfold prv; simp
@[go_sem] theorem prv_s1 (a : PairD) (v : Option Addr) : (prv a).setIfInBounds 1 (.pointer v) = prv { a with r := v } := by unfold prv; simp
@[go_sem ↓] theorem field_prv (x : Value) (f : Nat) : Instr.field 63 x f = fldS 63 x f := (fldS_eq 63 x f).symm
@[go_sem] theorem fld_prv0 (cs : Array Value) (w : World) : (fldS 63 (.agg cs) 0).run Tryd.prog w = fldOne Tryd.prog 63 0 0 cs w :=
  run_fldS Tryd.prog 63 0 _ _ _ Tryd.underlying63 rfl Tryd.underlying23 rfl cs w
@[go_sem] theorem fld_prv1 (cs : Array Value) (w : World) : (fldS 63 (.agg cs) 1).run Tryd.prog w = fldOne Tryd.prog 63 1 1 cs w :=
  run_fldS Tryd.prog 63 1 _ _ _ Tryd.underlying63 rfl Tryd.underlying54 rfl cs w
instance : Inhabited PairD := ⟨prv0⟩

/-! ### barrow/api.Link -/
structure LinkD where
  layer : ByteArray
  call : ByteArray
  pos : Int
def lnk (a : LinkD) : Array Value := #[.string a.layer, .string a.call, .int .i64 a.pos]
def lnk0 : LinkD := ⟨.empty, .empty, 0⟩
@[go_sem] theorem lnk_size (a : LinkD) : (lnk a).size = 3 := by unfold lnk; simp
@[go_sem] theorem lnk_flat (a : LinkD) : flat (lnk a) = true := by simp [flat, lnk, Value.oneCell']
@[go_sem] theorem lnk_0 (a : LinkD) : (lnk a)[0]? = some (.string a.layer) := by unfold lnk; simp
@[go_sem] theorem lnk_e0 (a : LinkD) (h : 0 < (lnk a).size) : (lnk a)[0] = .string a.layer := by unfold lnk; simp
@[go_sem] theorem lnk_1 (a : LinkD) : (lnk a)[1]? = some (.string a.call) := by unfold lnk; simp
@[go_sem] theorem lnk_e1 (a : LinkD) (h : 1 < (lnk a).size) : (lnk a)[1] = .string a.call := by unfold lnk; simp
@[go_sem] theorem lnk_2 (a : LinkD) : (lnk a)[2]? = some (.int .i64 a.pos) := by unfold lnk; simp
@[go_sem] theorem lnk_e2 (a : LinkD) (h : 2 < (lnk a).size) : (lnk a)[2] = .int .i64 a.pos := by unfold lnk; simp
@[go_sem] theorem lnk_s0 (a : LinkD) (v : ByteArray) : (lnk a).setIfInBounds 0 (.string v) = lnk { a with layer := v } := by unfold lnk; simp
@[go_sem] theorem lnk_s1 (a : LinkD) (v : ByteArray) : (lnk a).setIfInBounds 1 (.string v) = lnk { a with call := v } := by unfold lnk; simp
@[go_sem] theorem lnk_s2 (a : LinkD) (v : Int) : (lnk a).setIfInBounds 2 (.int .i64 v) = lnk { a with pos := v } := by unfold lnk; simp
@[go_sem ↓] theorem field_lnk (x : Value) (f : Nat) : Instr.field 98 x f = fldS 98 x f := (fldS_eq 98 x f).symm
@[go_sem] theorem fld_lnk0 (cs : Array Value) (w : World) : (fldS 98 (.agg cs) 0).run Tryd.prog w = fldOne Tryd.prog 98 0 0 cs w :=
  run_fldS Tryd.prog 98 0 _ _ _ Tryd.underlying98 rfl Tryd.underlying9 rfl cs w
@[go_sem] theorem fld_lnk1 (cs : Array Value) (w : World) : (fldS 98 (.agg cs) 1).run Tryd.prog w = fldOne Tryd.prog 98 1 1 cs w :=
  run_fldS Tryd.prog 98 1 _ _ _ Tryd.underlying98 rfl Tryd.underlying9 rfl cs w
@[go_sem] theorem fld_lnk2 (cs : Array Value) (w : World) : (fldS 98 (.agg cs) 2).run Tryd.prog w = fldOne Tryd.prog 98 2 2 cs w :=
  run_fldS Tryd.prog 98 2 _ _ _ Tryd.underlying98 rfl Tryd.underlying3 rfl cs w
def lnkEq (a b : LinkD) : Bool := (a.layer.toList == b.layer.toList) && ((a.call.toList == b.call.toList) && (a.pos == b.pos))
@[go_sem high] theorem neq_lnk (a b : LinkD) (w : World) : (binOp .neq 98 (.agg (lnk a)) (.agg (lnk b))).run Tryd.prog w = .ok (.bool (!lnkEq a b)) w := by
  unfold lnk lnkEq
  go_simp
  (repeat' split) <;> simp_all
@[go_sem high] theorem eql_lnk (a b : LinkD) (w : World) : (binOp .eql 98 (.agg (lnk a)) (.agg (lnk b))).run Tryd.prog w = .ok (.bool (lnkEq a b)) w := by
  unfold lnk lnkEq
  go_simp
  (repeat' split) <;> simp_all
theorem lnkEq_iff {a b : LinkD} : lnkEq a b = true ↔ a = b := by
  obtain ⟨a0, a1, a2⟩ := a
  obtain ⟨b0, b1, b2⟩ := b
  simp [lnkEq, ba_iff]
theorem lnkEq_refl (a : LinkD) : lnkEq a a = true := lnkEq_iff.2 rfl
instance : Inhabited LinkD := ⟨lnk0⟩

/-! ### barrow/barrowref01.No -/
structure NoD where
  code : Int
  chainp : Option Addr
  chainn : Nat
  chainc : Nat
  codesp : Option Addr
  codesn : Nat
  codesc : Nat
def nov (a : NoD) : Array Value := #[.int .i64 a.code, .slice a.chainp a.chainn a.chainc, .slice a.codesp a.codesn a.codesc]
def nov0 : NoD := ⟨0, none, 0, 0, none, 0, 0⟩
@[go_sem] theorem nov_size (a : NoD) : (nov a).size = 3 := by unfold nov; simp
@[go_sem] theorem nov_flat (a : NoD) : flat (nov a) = true := by simp [flat, nov, Value.oneCell']
@[go_sem] theorem nov_0 (a : NoD) : (nov a)[0]? = some (.int .i64 a.code) := by unfold nov; simp
@[go_sem] theorem nov_e0 (a : NoD) (h : 0 < (nov a).size) : (nov a)[0] = .int .i64 a.code := by unfold nov; simp
@[go_sem] theorem nov_1 (a : NoD) : (nov a)[1]? = some (.slice a.chainp a.chainn a.chainc) := by unfold nov; simp
@[go_sem] theorem nov_e1 (a : NoD) (h : 1 < (nov a).size) : (nov a)[1] = .slice a.chainp a.chainn a.chainc := by unfold nov; simp
@[go_sem] theorem nov_2 (a : NoD) : (nov a)[2]? = some (.slice a.codesp a.codesn a.codesc) := by unfold nov; simp
@[go_sem] theorem nov_e2 (a : NoD) (h : 2 < (nov a).size) : (nov a)[2] = .slice a.codesp a.codesn a.codesc := by unfold nov; simp
@[go_sem] theorem nov_s0 (a : NoD) (v : Int) : (nov a).setIfInBounds 0 (.int .i64 v) = nov { a with code := v } := by unfold nov; simp
@[go_sem] theorem nov_s1 (a : NoD) (p : Option Addr) (n c : Nat) : (nov a).setIfInBounds 1 (.slice p n c) = nov { a with chainp := p, chainn := n, chainc := c } := by unfold nov; simp
@[go_sem] theorem nov_s2 (a : NoD) (p : Option Addr) (n c : Nat) : (nov a).setIfInBounds 2 (.slice p n c) = nov { a with codesp := p, codesn := n, codesc := c } := by unfold nov; simp
@[go_sem ↓] theorem field_nov (x : Value) (f : Nat) : Instr.field 51 x f = fldS 51 x f := (fldS_eq 51 x f).symm
@[go_sem] theorem fld_nov0 (cs : Array Value) (w : World) : (fldS 51 (.agg cs) 0).run Tryd.prog w = fldOne Tryd.prog 51 0 0 cs w :=
  run_fldS Tryd.prog 51 0 _ _ _ Tryd.underlying51 rfl Tryd.underlying3 rfl cs w
@[go_sem] theorem fld_nov1 (cs : Array Value) (w : World) : (fldS 51 (.agg cs) 1).run Tryd.prog w = fldOne Tryd.prog 51 1 1 cs w :=
  run_fldS Tryd.prog 51 1 _ _ _ Tryd.underlying51 rfl Tryd.underlying49 rfl cs w
@[go_sem] theorem fld_nov2 (cs : Array Value) (w : World) : (fldS 51 (.agg cs) 2).run Tryd.prog w = fldOne Tryd.prog 51 2 2 cs w :=
  run_fldS Tryd.prog 51 2 _ _ _ Tryd.underlying51 rfl Tryd.underlying30 rfl cs w
instance : Inhabited NoD := ⟨nov0⟩

end Go.Proofs.YtlgjippijbepkaaDoor
