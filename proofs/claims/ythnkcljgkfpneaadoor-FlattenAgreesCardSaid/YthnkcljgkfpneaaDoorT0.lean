/- Facts of the types and the functions of this seat. -/
import Derived.Test.YthnkcljgkfpneaaDoorRD
set_option linter.unusedSimpArgs false
set_option linter.unusedVariables false
set_option maxRecDepth 4000
namespace Go.Proofs.YthnkcljgkfpneaaDoor
open Go Go.RowKit

@[go_sem] theorem sc_1 : ScT Tryd.prog 1 := ⟨⟨_, Tryd.underlying1, rfl⟩, by kernel_rfl⟩
@[go_sem] theorem sc_2 : ScT Tryd.prog 2 := ⟨⟨_, Tryd.underlying2, rfl⟩, by kernel_rfl⟩
theorem zero_2 : ZeroT Tryd.prog 2 #[.int .i64 0] := ⟨.int .i64 0, by kernel_rfl, rfl⟩
@[go_sem] theorem sc_3 : ScT Tryd.prog 3 := ⟨⟨_, Tryd.underlying3, rfl⟩, by kernel_rfl⟩
theorem zero_3 : ZeroT Tryd.prog 3 #[.int .i64 0] := ⟨.int .i64 0, by kernel_rfl, rfl⟩
@[go_sem] theorem sc_4 : ScT Tryd.prog 4 := ⟨⟨_, Tryd.underlying4, rfl⟩, by kernel_rfl⟩
theorem zero_4 : ZeroT Tryd.prog 4 #[.bool false] := ⟨.bool false, by kernel_rfl, rfl⟩
@[go_sem] theorem sc_5 : ScT Tryd.prog 5 := ⟨⟨_, Tryd.underlying5, rfl⟩, by kernel_rfl⟩
theorem zero_5 : ZeroT Tryd.prog 5 #[.int .u8 0] := ⟨.int .u8 0, by kernel_rfl, rfl⟩
@[go_sem] theorem sc_6 : ScT Tryd.prog 6 := ⟨⟨_, Tryd.underlying6, rfl⟩, by kernel_rfl⟩
theorem zero_6 : ZeroT Tryd.prog 6 #[.int .u8 0] := ⟨.int .u8 0, by kernel_rfl, rfl⟩
theorem agg_7 : AggT Tryd.prog 7 4 := ⟨_, Tryd.underlying7, rfl, by kernel_rfl⟩
theorem zero_7 : ZeroT Tryd.prog 7 #[.int .i64 0, .int .i64 0, .bool false, .int .u8 0] := ⟨.agg #[.int .i64 0, .int .i64 0, .bool false, .int .u8 0], by kernel_rfl, rfl⟩
theorem agg_8 : AggT Tryd.prog 8 4 := ⟨_, Tryd.underlying8, rfl, by kernel_rfl⟩
theorem zero_8 : ZeroT Tryd.prog 8 #[.int .i64 0, .int .i64 0, .bool false, .int .u8 0] := ⟨.agg #[.int .i64 0, .int .i64 0, .bool false, .int .u8 0], by kernel_rfl, rfl⟩
@[go_sem] theorem sc_9 : ScT Tryd.prog 9 := ⟨⟨_, Tryd.underlying9, rfl⟩, by kernel_rfl⟩
theorem zero_9 : ZeroT Tryd.prog 9 #[.string .empty] := ⟨.string .empty, by kernel_rfl, rfl⟩
@[go_sem] theorem sc_10 : ScT Tryd.prog 10 := ⟨⟨_, Tryd.underlying10, rfl⟩, by kernel_rfl⟩
theorem zero_10 : ZeroT Tryd.prog 10 #[.string .empty] := ⟨.string .empty, by kernel_rfl, rfl⟩
@[go_sem] theorem sc_11 : ScT Tryd.prog 11 := ⟨⟨_, Tryd.underlying11, rfl⟩, by kernel_rfl⟩
theorem zero_11 : ZeroT Tryd.prog 11 #[.string .empty] := ⟨.string .empty, by kernel_rfl, rfl⟩
@[go_sem] theorem sc_12 : ScT Tryd.prog 12 := ⟨⟨_, Tryd.underlying12, rfl⟩, by kernel_rfl⟩
theorem zero_12 : ZeroT Tryd.prog 12 #[.int .u64 0] := ⟨.int .u64 0, by kernel_rfl, rfl⟩
theorem agg_13 : AggT Tryd.prog 13 2 := ⟨_, Tryd.underlying13, rfl, by kernel_rfl⟩
theorem zero_13 : ZeroT Tryd.prog 13 #[.string .empty, .int .u64 0] := ⟨.agg #[.string .empty, .int .u64 0], by kernel_rfl, rfl⟩
theorem agg_14 : AggT Tryd.prog 14 2 := ⟨_, Tryd.underlying14, rfl, by kernel_rfl⟩
theorem zero_14 : ZeroT Tryd.prog 14 #[.string .empty, .int .u64 0] := ⟨.agg #[.string .empty, .int .u64 0], by kernel_rfl, rfl⟩
@[go_sem] theorem sc_15 : ScT Tryd.prog 15 := ⟨⟨_, Tryd.underlying15, rfl⟩, by kernel_rfl⟩
theorem zero_15 : ZeroT Tryd.prog 15 #[.pointer none] := ⟨.pointer none, by kernel_rfl, rfl⟩
@[go_sem] theorem sc_16 : ScT Tryd.prog 16 := ⟨⟨_, Tryd.underlying16, rfl⟩, by kernel_rfl⟩
theorem zero_16 : ZeroT Tryd.prog 16 #[.pointer none] := ⟨.pointer none, by kernel_rfl, rfl⟩
@[go_sem] theorem sc_17 : ScT Tryd.prog 17 := ⟨⟨_, Tryd.underlying17, rfl⟩, by kernel_rfl⟩
theorem zero_17 : ZeroT Tryd.prog 17 #[.pointer none] := ⟨.pointer none, by kernel_rfl, rfl⟩
theorem agg_18 : AggT Tryd.prog 18 1 := ⟨_, Tryd.underlying18, rfl, by kernel_rfl⟩
theorem zero_18 : ZeroT Tryd.prog 18 #[.pointer none] := ⟨.agg #[.pointer none], by kernel_rfl, rfl⟩
theorem agg_19 : AggT Tryd.prog 19 1 := ⟨_, Tryd.underlying19, rfl, by kernel_rfl⟩
theorem zero_19 : ZeroT Tryd.prog 19 #[.pointer none] := ⟨.agg #[.pointer none], by kernel_rfl, rfl⟩
@[go_sem] theorem sc_20 : ScT Tryd.prog 20 := ⟨⟨_, Tryd.underlying20, rfl⟩, by kernel_rfl⟩
theorem zero_20 : ZeroT Tryd.prog 20 #[.nilIface] := ⟨.nilIface, by kernel_rfl, rfl⟩
@[go_sem] theorem sc_21 : ScT Tryd.prog 21 := ⟨⟨_, Tryd.underlying21, rfl⟩, by kernel_rfl⟩
theorem zero_21 : ZeroT Tryd.prog 21 #[.int .i32 0] := ⟨.int .i32 0, by kernel_rfl, rfl⟩
theorem agg_22 : AggT Tryd.prog 22 8 := ⟨_, Tryd.underlying22, rfl, by kernel_rfl⟩
theorem zero_22 : ZeroT Tryd.prog 22 (clk clk0) := ⟨.agg (clk clk0), by kernel_rfl, rfl⟩
theorem agg_23 : AggT Tryd.prog 23 8 := ⟨_, Tryd.underlying23, rfl, by kernel_rfl⟩
theorem zero_23 : ZeroT Tryd.prog 23 (clk clk0) := ⟨.agg (clk clk0), by kernel_rfl, rfl⟩
theorem agg_24 : AggT Tryd.prog 24 18 := ⟨_, Tryd.underlying24, rfl, by kernel_rfl⟩
theorem zero_24 : ZeroT Tryd.prog 24 #[.int .i64 0, .int .i64 0, .int .i64 0, .int .i64 0, .int .i64 0, .int .i64 0, .int .i64 0, .int .i64 0, .int .i64 0, .int .i64 0, .int .i64 0, .int .i64 0, .int .i64 0, .int .i64 0, .int .i64 0, .int .i64 0, .int .i64 0, .int .i64 0] := ⟨.agg #[.int .i64 0, .int .i64 0, .int .i64 0, .int .i64 0, .int .i64 0, .int .i64 0, .int .i64 0, .int .i64 0, .int .i64 0, .int .i64 0, .int .i64 0, .int .i64 0, .int .i64 0, .int .i64 0, .int .i64 0, .int .i64 0, .int .i64 0, .int .i64 0], by kernel_rfl, rfl⟩
theorem agg_25 : AggT Tryd.prog 25 18 := ⟨_, Tryd.underlying25, rfl, by kernel_rfl⟩
theorem zero_25 : ZeroT Tryd.prog 25 (rnd rnd0) := ⟨.agg (rnd rnd0), by kernel_rfl, rfl⟩
theorem agg_26 : AggT Tryd.prog 26 35 := ⟨_, Tryd.underlying26, rfl, by kernel_rfl⟩
theorem zero_26 : ZeroT Tryd.prog 26 #[.int .i64 0, .int .i64 0, .int .i64 0, .int .i64 0, .int .i64 0, .int .i64 0, .int .i64 0, .int .i64 0, .int .i64 0, .int .i64 0, .int .i64 0, .int .i64 0, .int .i64 0, .int .i64 0, .int .i64 0, .int .i64 0, .int .i64 0, .int .i64 0, .int .i64 0, .int .i64 0, .int .i64 0, .int .i64 0, .int .i64 0, .int .i64 0, .int .i64 0, .int .i64 0, .int .i64 0, .int .i64 0, .int .i64 0, .int .i64 0, .int .i64 0, .int .i64 0, .int .i64 0, .int .i64 0, .int .i64 0] := ⟨.agg #[.int .i64 0, .int .i64 0, .int .i64 0, .int .i64 0, .int .i64 0, .int .i64 0, .int .i64 0, .int .i64 0, .int .i64 0, .int .i64 0, .int .i64 0, .int .i64 0, .int .i64 0, .int .i64 0, .int .i64 0, .int .i64 0, .int .i64 0, .int .i64 0, .int .i64 0, .int .i64 0, .int .i64 0, .int .i64 0, .int .i64 0, .int .i64 0, .int .i64 0, .int .i64 0, .int .i64 0, .int .i64 0, .int .i64 0, .int .i64 0, .int .i64 0, .int .i64 0, .int .i64 0, .int .i64 0, .int .i64 0], by kernel_rfl, rfl⟩
theorem agg_27 : AggT Tryd.prog 27 35 := ⟨_, Tryd.underlying27, rfl, by kernel_rfl⟩
theorem zero_27 : ZeroT Tryd.prog 27 (vtd vtd0) := ⟨.agg (vtd vtd0), by kernel_rfl, rfl⟩
@[go_sem] theorem sc_28 : ScT Tryd.prog 28 := ⟨⟨_, Tryd.underlying28, rfl⟩, by kernel_rfl⟩
@[go_sem] theorem sc_29 : ScT Tryd.prog 29 := ⟨⟨_, Tryd.underlying29, rfl⟩, by kernel_rfl⟩
@[go_sem] theorem sc_30 : ScT Tryd.prog 30 := ⟨⟨_, Tryd.underlying30, rfl⟩, by kernel_rfl⟩
@[go_sem] theorem sc_31 : ScT Tryd.prog 31 := ⟨⟨_, Tryd.underlying31, rfl⟩, by kernel_rfl⟩
@[go_sem] theorem sc_32 : ScT Tryd.prog 32 := ⟨⟨_, Tryd.underlying32, rfl⟩, by kernel_rfl⟩
theorem zero_32 : ZeroT Tryd.prog 32 #[.slice none 0 0] := ⟨.slice none 0 0, by kernel_rfl, rfl⟩
theorem agg_33 : AggT Tryd.prog 33 38 := ⟨_, Tryd.underlying33, rfl, by kernel_rfl⟩
theorem zero_33 : ZeroT Tryd.prog 33 #[.int .i64 0, .int .i64 0, .int .i64 0, .int .i64 0, .int .i64 0, .int .i64 0, .int .i64 0, .int .i64 0, .int .i64 0, .int .i64 0, .int .i64 0, .int .i64 0, .int .i64 0, .int .i64 0, .int .i64 0, .int .i64 0, .int .i64 0, .int .i64 0, .int .i64 0, .int .i64 0, .int .i64 0, .int .i64 0, .int .i64 0, .int .i64 0, .int .i64 0, .int .i64 0, .int .i64 0, .int .i64 0, .int .i64 0, .int .i64 0, .int .i64 0, .int .i64 0, .int .i64 0, .int .i64 0, .int .i64 0, .int .i64 0, .int .i64 0, .int .i64 0] := ⟨.agg #[.int .i64 0, .int .i64 0, .int .i64 0, .int .i64 0, .int .i64 0, .int .i64 0, .int .i64 0, .int .i64 0, .int .i64 0, .int .i64 0, .int .i64 0, .int .i64 0, .int .i64 0, .int .i64 0, .int .i64 0, .int .i64 0, .int .i64 0, .int .i64 0, .int .i64 0, .int .i64 0, .int .i64 0, .int .i64 0, .int .i64 0, .int .i64 0, .int .i64 0, .int .i64 0, .int .i64 0, .int .i64 0, .int .i64 0, .int .i64 0, .int .i64 0, .int .i64 0, .int .i64 0, .int .i64 0, .int .i64 0, .int .i64 0, .int .i64 0, .int .i64 0], by kernel_rfl, rfl⟩
theorem agg_34 : AggT Tryd.prog 34 38 := ⟨_, Tryd.underlying34, rfl, by kernel_rfl⟩
theorem zero_34 : ZeroT Tryd.prog 34 (asd asd0) := ⟨.agg (asd asd0), by kernel_rfl, rfl⟩
@[go_sem] theorem sc_35 : ScT Tryd.prog 35 := ⟨⟨_, Tryd.underlying35, rfl⟩, by kernel_rfl⟩
@[go_sem] theorem sc_36 : ScT Tryd.prog 36 := ⟨⟨_, Tryd.underlying36, rfl⟩, by kernel_rfl⟩
theorem agg_37 : AggT Tryd.prog 37 144 := ⟨_, Tryd.underlying37, rfl, by kernel_rfl⟩
theorem zero_37 : ZeroT Tryd.prog 37 #[.int .i64 0, .int .i64 0, .int .i64 0, .int .i64 0, .int .i64 0, .int .i64 0, .int .i64 0, .int .i64 0, .int .i64 0, .int .i64 0, .int .i64 0, .int .i64 0, .int .i64 0, .int .i64 0, .int .i64 0, .int .i64 0, .int .i64 0, .int .i64 0, .int .i64 0, .int .i64 0, .int .i64 0, .int .i64 0, .int .i64 0, .int .i64 0, .int .i64 0, .int .i64 0, .int .i64 0, .int .i64 0, .int .i64 0, .int .i64 0, .int .i64 0, .int .i64 0, .int .i64 0, .int .i64 0, .int .i64 0, .int .i64 0, .int .i64 0, .int .i64 0, .int .i64 0, .int .i64 0, .int .i64 0, .int .i64 0, .int .i64 0, .int .i64 0, .int .i64 0, .int .i64 0, .int .i64 0, .int .i64 0, .int .i64 0, .int .i64 0, .int .i64 0, .int .i64 0, .int .i64 0, .int .i64 0, .int .i64 0, .int .i64 0, .int .i64 0, .int .i64 0, .int .i64 0, .int .i64 0, .int .i64 0, .int .i64 0, .int .i64 0, .int .i64 0, .int .i64 0, .int .i64 0, .int .i64 0, .int .i64 0, .int .i64 0, .int .i64 0, .int .i64 0, .int .i64 0, .int .i64 0, .int .i64 0, .int .i64 0, .int .i64 0, .int .i64 0, .int .i64 0, .int .i64 0, .int .i64 0, .int .i64 0, .int .i64 0, .int .i64 0, .int .i64 0, .int .i64 0, .int .i64 0, .int .i64 0, .int .i64 0, .int .i64 0, .int .i64 0, .int .i64 0, .int .i64 0, .int .i64 0, .int .i64 0, .int .i64 0, .int .i64 0, .int .i64 0, .int .i64 0, .int .i64 0, .int .i64 0, .int .i64 0, .int .i64 0, .int .i64 0, .int .i64 0, .int .i64 0, .int .i64 0, .int .i64 0, .int .i64 0, .int .i64 0, .int .i64 0, .int .i64 0, .int .i64 0, .int .i64 0, .int .i64 0, .int .i64 0, .int .i64 0, .int .i64 0, .int .i64 0, .int .i64 0, .int .i64 0, .int .i64 0, .int .i64 0, .int .i64 0, .int .i64 0, .int .i64 0, .int .i64 0, .int .i64 0, .int .i64 0, .int .i64 0, .int .i64 0, .int .i64 0, .int .i64 0, .int .i64 0, .int .i64 0, .int .i64 0, .int .i64 0, .int .i64 0, .int .i64 0, .int .i64 0, .int .i64 0, .int .i64 0, .int .i64 0, .int .i64 0, .int .i64 0] := ⟨.agg #[.int .i64 0, .int .i64 0, .int .i64 0, .int .i64 0, .int .i64 0, .int .i64 0, .int .i64 0, .int .i64 0, .int .i64 0, .int .i64 0, .int .i64 0, .int .i64 0, .int .i64 0, .int .i64 0, .int .i64 0, .int .i64 0, .int .i64 0, .int .i64 0, .int .i64 0, .int .i64 0, .int .i64 0, .int .i64 0, .int .i64 0, .int .i64 0, .int .i64 0, .int .i64 0, .int .i64 0, .int .i64 0, .int .i64 0, .int .i64 0, .int .i64 0, .int .i64 0, .int .i64 0, .int .i64 0, .int .i64 0, .int .i64 0, .int .i64 0, .int .i64 0, .int .i64 0, .int .i64 0, .int .i64 0, .int .i64 0, .int .i64 0, .int .i64 0, .int .i64 0, .int .i64 0, .int .i64 0, .int .i64 0, .int .i64 0, .int .i64 0, .int .i64 0, .int .i64 0, .int .i64 0, .int .i64 0, .int .i64 0, .int .i64 0, .int .i64 0, .int .i64 0, .int .i64 0, .int .i64 0, .int .i64 0, .int .i64 0, .int .i64 0, .int .i64 0, .int .i64 0, .int .i64 0, .int .i64 0, .int .i64 0, .int .i64 0, .int .i64 0, .int .i64 0, .int .i64 0, .int .i64 0, .int .i64 0, .int .i64 0, .int .i64 0, .int .i64 0, .int .i64 0, .int .i64 0, .int .i64 0, .int .i64 0, .int .i64 0, .int .i64 0, .int .i64 0, .int .i64 0, .int .i64 0, .int .i64 0, .int .i64 0, .int .i64 0, .int .i64 0, .int .i64 0, .int .i64 0, .int .i64 0, .int .i64 0, .int .i64 0, .int .i64 0, .int .i64 0, .int .i64 0, .int .i64 0, .int .i64 0, .int .i64 0, .int .i64 0, .int .i64 0, .int .i64 0, .int .i64 0, .int .i64 0, .int .i64 0, .int .i64 0, .int .i64 0, .int .i64 0, .int .i64 0, .int .i64 0, .int .i64 0, .int .i64 0, .int .i64 0, .int .i64 0, .int .i64 0, .int .i64 0, .int .i64 0, .int .i64 0, .int .i64 0, .int .i64 0, .int .i64 0, .int .i64 0, .int .i64 0, .int .i64 0, .int .i64 0, .int .i64 0, .int .i64 0, .int .i64 0, .int .i64 0, .int .i64 0, .int .i64 0, .int .i64 0, .int .i64 0, .int .i64 0, .int .i64 0, .int .i64 0, .int .i64 0, .int .i64 0, .int .i64 0, .int .i64 0, .int .i64 0, .int .i64 0], by kernel_rfl, rfl⟩
theorem agg_38 : AggT Tryd.prog 38 144 := ⟨_, Tryd.underlying38, rfl, by kernel_rfl⟩
theorem zero_38 : ZeroT Tryd.prog 38 (rnds rnds0) := ⟨.agg (rnds rnds0), by kernel_rfl, rfl⟩
@[go_sem] theorem sc_39 : ScT Tryd.prog 39 := ⟨⟨_, Tryd.underlying39, rfl⟩, by kernel_rfl⟩
@[go_sem] theorem sc_40 : ScT Tryd.prog 40 := ⟨⟨_, Tryd.underlying40, rfl⟩, by kernel_rfl⟩
@[go_sem] theorem sc_41 : ScT Tryd.prog 41 := ⟨⟨_, Tryd.underlying41, rfl⟩, by kernel_rfl⟩
theorem zero_41 : ZeroT Tryd.prog 41 #[.slice none 0 0] := ⟨.slice none 0 0, by kernel_rfl, rfl⟩
@[go_sem] theorem sc_42 : ScT Tryd.prog 42 := ⟨⟨_, Tryd.underlying42, rfl⟩, by kernel_rfl⟩
@[go_sem] theorem sc_43 : ScT Tryd.prog 43 := ⟨⟨_, Tryd.underlying43, rfl⟩, by kernel_rfl⟩
theorem zero_43 : ZeroT Tryd.prog 43 #[.pointer none] := ⟨.pointer none, by kernel_rfl, rfl⟩
@[go_sem] theorem sc_44 : ScT Tryd.prog 44 := ⟨⟨_, Tryd.underlying44, rfl⟩, by kernel_rfl⟩
@[go_sem] theorem sc_45 : ScT Tryd.prog 45 := ⟨⟨_, Tryd.underlying45, rfl⟩, by kernel_rfl⟩
theorem zero_45 : ZeroT Tryd.prog 45 #[.slice none 0 0] := ⟨.slice none 0 0, by kernel_rfl, rfl⟩
@[go_sem] theorem sc_46 : ScT Tryd.prog 46 := ⟨⟨_, Tryd.underlying46, rfl⟩, by kernel_rfl⟩
theorem zero_46 : ZeroT Tryd.prog 46 #[.slice none 0 0] := ⟨.slice none 0 0, by kernel_rfl, rfl⟩
@[go_sem] theorem sc_47 : ScT Tryd.prog 47 := ⟨⟨_, Tryd.underlying47, rfl⟩, by kernel_rfl⟩
theorem zero_47 : ZeroT Tryd.prog 47 #[.slice none 0 0] := ⟨.slice none 0 0, by kernel_rfl, rfl⟩
theorem agg_48 : AggT Tryd.prog 48 3 := ⟨_, Tryd.underlying48, rfl, by kernel_rfl⟩
theorem zero_48 : ZeroT Tryd.prog 48 #[.slice none 0 0, .slice none 0 0, .slice none 0 0] := ⟨.agg #[.slice none 0 0, .slice none 0 0, .slice none 0 0], by kernel_rfl, rfl⟩
theorem agg_49 : AggT Tryd.prog 49 3 := ⟨_, Tryd.underlying49, rfl, by kernel_rfl⟩
theorem zero_49 : ZeroT Tryd.prog 49 (wrl wrl0) := ⟨.agg (wrl wrl0), by kernel_rfl, rfl⟩
@[go_sem] theorem sc_50 : ScT Tryd.prog 50 := ⟨⟨_, Tryd.underlying50, rfl⟩, by kernel_rfl⟩
@[go_sem] theorem sc_51 : ScT Tryd.prog 51 := ⟨⟨_, Tryd.underlying51, rfl⟩, by kernel_rfl⟩
theorem zero_51 : ZeroT Tryd.prog 51 #[.pointer none] := ⟨.pointer none, by kernel_rfl, rfl⟩
@[go_sem] theorem sc_52 : ScT Tryd.prog 52 := ⟨⟨_, Tryd.underlying52, rfl⟩, by kernel_rfl⟩
@[go_sem] theorem sc_53 : ScT Tryd.prog 53 := ⟨⟨_, Tryd.underlying53, rfl⟩, by kernel_rfl⟩
theorem zero_53 : ZeroT Tryd.prog 53 #[.nilIface] := ⟨.nilIface, by kernel_rfl, rfl⟩
@[go_sem] theorem sc_54 : ScT Tryd.prog 54 := ⟨⟨_, Tryd.underlying54, rfl⟩, by kernel_rfl⟩
theorem zero_54 : ZeroT Tryd.prog 54 #[.nilIface] := ⟨.nilIface, by kernel_rfl, rfl⟩
@[go_sem] theorem sc_56 : ScT Tryd.prog 56 := ⟨⟨_, Tryd.underlying56, rfl⟩, by kernel_rfl⟩
@[go_sem] theorem sc_57 : ScT Tryd.prog 57 := ⟨⟨_, Tryd.underlying57, rfl⟩, by kernel_rfl⟩
@[go_sem] theorem sc_58 : ScT Tryd.prog 58 := ⟨⟨_, Tryd.underlying58, rfl⟩, by kernel_rfl⟩
theorem zero_58 : ZeroT Tryd.prog 58 #[.slice none 0 0] := ⟨.slice none 0 0, by kernel_rfl, rfl⟩
@[go_sem] theorem sc_59 : ScT Tryd.prog 59 := ⟨⟨_, Tryd.underlying59, rfl⟩, by kernel_rfl⟩
theorem zero_59 : ZeroT Tryd.prog 59 #[.slice none 0 0] := ⟨.slice none 0 0, by kernel_rfl, rfl⟩
theorem agg_60 : AggT Tryd.prog 60 3 := ⟨_, Tryd.underlying60, rfl, by kernel_rfl⟩
theorem zero_60 : ZeroT Tryd.prog 60 #[.int .i64 0, .slice none 0 0, .slice none 0 0] := ⟨.agg #[.int .i64 0, .slice none 0 0, .slice none 0 0], by kernel_rfl, rfl⟩
theorem agg_61 : AggT Tryd.prog 61 3 := ⟨_, Tryd.underlying61, rfl, by kernel_rfl⟩
theorem zero_61 : ZeroT Tryd.prog 61 (nov nov0) := ⟨.agg (nov nov0), by kernel_rfl, rfl⟩
@[go_sem] theorem sc_62 : ScT Tryd.prog 62 := ⟨⟨_, Tryd.underlying62, rfl⟩, by kernel_rfl⟩
@[go_sem] theorem sc_63 : ScT Tryd.prog 63 := ⟨⟨_, Tryd.underlying63, rfl⟩, by kernel_rfl⟩
theorem zero_63 : ZeroT Tryd.prog 63 #[.slice none 0 0] := ⟨.slice none 0 0, by kernel_rfl, rfl⟩
@[go_sem] theorem sc_64 : ScT Tryd.prog 64 := ⟨⟨_, Tryd.underlying64, rfl⟩, by kernel_rfl⟩
theorem zero_64 : ZeroT Tryd.prog 64 #[.pointer none] := ⟨.pointer none, by kernel_rfl, rfl⟩
@[go_sem] theorem sc_66 : ScT Tryd.prog 66 := ⟨⟨_, Tryd.underlying66, rfl⟩, by kernel_rfl⟩
@[go_sem] theorem sc_67 : ScT Tryd.prog 67 := ⟨⟨_, Tryd.underlying67, rfl⟩, by kernel_rfl⟩
theorem zero_67 : ZeroT Tryd.prog 67 #[.pointer none] := ⟨.pointer none, by kernel_rfl, rfl⟩
theorem agg_68 : AggT Tryd.prog 68 2 := ⟨_, Tryd.underlying68, rfl, by kernel_rfl⟩
theorem zero_68 : ZeroT Tryd.prog 68 #[.pointer none, .pointer none] := ⟨.agg #[.pointer none, .pointer none], by kernel_rfl, rfl⟩
theorem agg_69 : AggT Tryd.prog 69 2 := ⟨_, Tryd.underlying69, rfl, by kernel_rfl⟩
theorem zero_69 : ZeroT Tryd.prog 69 (prv prv0) := ⟨.agg (prv prv0), by kernel_rfl, rfl⟩
@[go_sem] theorem sc_70 : ScT Tryd.prog 70 := ⟨⟨_, Tryd.underlying70, rfl⟩, by kernel_rfl⟩
theorem agg_71 : AggT Tryd.prog 71 153 := ⟨_, Tryd.underlying71, rfl, by kernel_rfl⟩
theorem zero_71 : ZeroT Tryd.prog 71 #[.int .i64 0, .int .i64 0, .int .i64 0, .int .i64 0, .int .i64 0, .int .i64 0, .int .i64 0, .int .i64 0, .int .i64 0, .int .i64 0, .int .i64 0, .int .i64 0, .int .i64 0, .int .i64 0, .int .i64 0, .int .i64 0, .int .i64 0, .int .i64 0, .int .i64 0, .int .i64 0, .int .i64 0, .int .i64 0, .int .i64 0, .int .i64 0, .int .i64 0, .int .i64 0, .int .i64 0, .int .i64 0, .int .i64 0, .int .i64 0, .int .i64 0, .int .i64 0, .int .i64 0, .int .i64 0, .int .i64 0, .int .i64 0, .int .i64 0, .int .i64 0, .int .i64 0, .int .i64 0, .int .i64 0, .int .i64 0, .int .i64 0, .int .i64 0, .int .i64 0, .int .i64 0, .int .i64 0, .int .i64 0, .int .i64 0, .int .i64 0, .int .i64 0, .int .i64 0, .int .i64 0, .int .i64 0, .int .i64 0, .int .i64 0, .int .i64 0, .int .i64 0, .int .i64 0, .int .i64 0, .int .i64 0, .int .i64 0, .int .i64 0, .int .i64 0, .int .i64 0, .int .i64 0, .int .i64 0, .int .i64 0, .int .i64 0, .int .i64 0, .int .i64 0, .int .i64 0, .int .i64 0, .int .i64 0, .int .i64 0, .int .i64 0, .int .i64 0, .int .i64 0, .int .i64 0, .int .i64 0, .int .i64 0, .int .i64 0, .int .i64 0, .int .i64 0, .int .i64 0, .int .i64 0, .int .i64 0, .int .i64 0, .int .i64 0, .int .i64 0, .int .i64 0, .int .i64 0, .int .i64 0, .int .i64 0, .int .i64 0, .int .i64 0, .int .i64 0, .int .i64 0, .int .i64 0, .int .i64 0, .int .i64 0, .int .i64 0, .int .i64 0, .int .i64 0, .int .i64 0, .int .i64 0, .int .i64 0, .int .i64 0, .int .i64 0, .int .i64 0, .int .i64 0, .int .i64 0, .int .i64 0, .int .i64 0, .int .i64 0, .int .i64 0, .int .i64 0, .int .i64 0, .int .i64 0, .int .i64 0, .int .i64 0, .int .i64 0, .int .i64 0, .int .i64 0, .int .i64 0, .int .i64 0, .int .i64 0, .int .i64 0, .int .i64 0, .int .i64 0, .int .i64 0, .int .i64 0, .int .i64 0, .int .i64 0, .int .i64 0, .int .i64 0, .int .i64 0, .int .i64 0, .int .i64 0, .int .i64 0, .int .i64 0, .int .i64 0, .int .i64 0, .int .i64 0, .int .i64 0, .int .i64 0, .int .i64 0, .int .i64 0, .int .i64 0, .int .i64 0, .int .i64 0, .int .i64 0, .int .i64 0] := ⟨.agg #[.int .i64 0, .int .i64 0, .int .i64 0, .int .i64 0, .int .i64 0, .int .i64 0, .int .i64 0, .int .i64 0, .int .i64 0, .int .i64 0, .int .i64 0, .int .i64 0, .int .i64 0, .int .i64 0, .int .i64 0, .int .i64 0, .int .i64 0, .int .i64 0, .int .i64 0, .int .i64 0, .int .i64 0, .int .i64 0, .int .i64 0, .int .i64 0, .int .i64 0, .int .i64 0, .int .i64 0, .int .i64 0, .int .i64 0, .int .i64 0, .int .i64 0, .int .i64 0, .int .i64 0, .int .i64 0, .int .i64 0, .int .i64 0, .int .i64 0, .int .i64 0, .int .i64 0, .int .i64 0, .int .i64 0, .int .i64 0, .int .i64 0, .int .i64 0, .int .i64 0, .int .i64 0, .int .i64 0, .int .i64 0, .int .i64 0, .int .i64 0, .int .i64 0, .int .i64 0, .int .i64 0, .int .i64 0, .int .i64 0, .int .i64 0, .int .i64 0, .int .i64 0, .int .i64 0, .int .i64 0, .int .i64 0, .int .i64 0, .int .i64 0, .int .i64 0, .int .i64 0, .int .i64 0, .int .i64 0, .int .i64 0, .int .i64 0, .int .i64 0, .int .i64 0, .int .i64 0, .int .i64 0, .int .i64 0, .int .i64 0, .int .i64 0, .int .i64 0, .int .i64 0, .int .i64 0, .int .i64 0, .int .i64 0, .int .i64 0, .int .i64 0, .int .i64 0, .int .i64 0, .int .i64 0, .int .i64 0, .int .i64 0, .int .i64 0, .int .i64 0, .int .i64 0, .int .i64 0, .int .i64 0, .int .i64 0, .int .i64 0, .int .i64 0, .int .i64 0, .int .i64 0, .int .i64 0, .int .i64 0, .int .i64 0, .int .i64 0, .int .i64 0, .int .i64 0, .int .i64 0, .int .i64 0, .int .i64 0, .int .i64 0, .int .i64 0, .int .i64 0, .int .i64 0, .int .i64 0, .int .i64 0, .int .i64 0, .int .i64 0, .int .i64 0, .int .i64 0, .int .i64 0, .int .i64 0, .int .i64 0, .int .i64 0, .int .i64 0, .int .i64 0, .int .i64 0, .int .i64 0, .int .i64 0, .int .i64 0, .int .i64 0, .int .i64 0, .int .i64 0, .int .i64 0, .int .i64 0, .int .i64 0, .int .i64 0, .int .i64 0, .int .i64 0, .int .i64 0, .int .i64 0, .int .i64 0, .int .i64 0, .int .i64 0, .int .i64 0, .int .i64 0, .int .i64 0, .int .i64 0, .int .i64 0, .int .i64 0, .int .i64 0, .int .i64 0, .int .i64 0, .int .i64 0, .int .i64 0, .int .i64 0], by kernel_rfl, rfl⟩
theorem agg_72 : AggT Tryd.prog 72 153 := ⟨_, Tryd.underlying72, rfl, by kernel_rfl⟩
theorem zero_72 : ZeroT Tryd.prog 72 (opf opf0) := ⟨.agg (opf opf0), by kernel_rfl, rfl⟩
@[go_sem] theorem sc_73 : ScT Tryd.prog 73 := ⟨⟨_, Tryd.underlying73, rfl⟩, by kernel_rfl⟩
@[go_sem] theorem sc_74 : ScT Tryd.prog 74 := ⟨⟨_, Tryd.underlying74, rfl⟩, by kernel_rfl⟩
@[go_sem] theorem sc_75 : ScT Tryd.prog 75 := ⟨⟨_, Tryd.underlying75, rfl⟩, by kernel_rfl⟩
@[go_sem] theorem sc_76 : ScT Tryd.prog 76 := ⟨⟨_, Tryd.underlying76, rfl⟩, by kernel_rfl⟩
@[go_sem] theorem sc_77 : ScT Tryd.prog 77 := ⟨⟨_, Tryd.underlying77, rfl⟩, by kernel_rfl⟩
@[go_sem] theorem sc_78 : ScT Tryd.prog 78 := ⟨⟨_, Tryd.underlying78, rfl⟩, by kernel_rfl⟩
theorem agg_79 : AggT Tryd.prog 79 4 := ⟨_, Tryd.underlying79, rfl, by kernel_rfl⟩
theorem zero_79 : ZeroT Tryd.prog 79 #[.int .i64 0, .int .i64 0, .int .i64 0, .int .i64 0] := ⟨.agg #[.int .i64 0, .int .i64 0, .int .i64 0, .int .i64 0], by kernel_rfl, rfl⟩
theorem agg_80 : AggT Tryd.prog 80 4 := ⟨_, Tryd.underlying80, rfl, by kernel_rfl⟩
theorem zero_80 : ZeroT Tryd.prog 80 (mvd mvd0) := ⟨.agg (mvd mvd0), by kernel_rfl, rfl⟩
@[go_sem] theorem sc_81 : ScT Tryd.prog 81 := ⟨⟨_, Tryd.underlying81, rfl⟩, by kernel_rfl⟩
theorem agg_82 : AggT Tryd.prog 82 146 := ⟨_, Tryd.underlying82, rfl, by kernel_rfl⟩
theorem zero_82 : ZeroT Tryd.prog 82 #[.int .i64 0, .int .i64 0, .int .i64 0, .int .i64 0, .int .i64 0, .int .i64 0, .int .i64 0, .int .i64 0, .int .i64 0, .int .i64 0, .int .i64 0, .int .i64 0, .int .i64 0, .int .i64 0, .int .i64 0, .int .i64 0, .int .i64 0, .int .i64 0, .int .i64 0, .int .i64 0, .int .i64 0, .int .i64 0, .int .i64 0, .int .i64 0, .int .i64 0, .int .i64 0, .int .i64 0, .int .i64 0, .int .i64 0, .int .i64 0, .int .i64 0, .int .i64 0, .int .i64 0, .int .i64 0, .int .i64 0, .int .i64 0, .int .i64 0, .int .i64 0, .int .i64 0, .int .i64 0, .int .i64 0, .int .i64 0, .int .i64 0, .int .i64 0, .int .i64 0, .int .i64 0, .int .i64 0, .int .i64 0, .int .i64 0, .int .i64 0, .int .i64 0, .int .i64 0, .int .i64 0, .int .i64 0, .int .i64 0, .int .i64 0, .int .i64 0, .int .i64 0, .int .i64 0, .int .i64 0, .int .i64 0, .int .i64 0, .int .i64 0, .int .i64 0, .int .i64 0, .int .i64 0, .int .i64 0, .int .i64 0, .int .i64 0, .int .i64 0, .int .i64 0, .int .i64 0, .int .i64 0, .int .i64 0, .int .i64 0, .int .i64 0, .int .i64 0, .int .i64 0, .int .i64 0, .int .i64 0, .int .i64 0, .int .i64 0, .int .i64 0, .int .i64 0, .int .i64 0, .int .i64 0, .int .i64 0, .int .i64 0, .int .i64 0, .int .i64 0, .int .i64 0, .int .i64 0, .int .i64 0, .int .i64 0, .int .i64 0, .int .i64 0, .int .i64 0, .int .i64 0, .int .i64 0, .int .i64 0, .int .i64 0, .int .i64 0, .int .i64 0, .int .i64 0, .int .i64 0, .int .i64 0, .int .i64 0, .int .i64 0, .int .i64 0, .int .i64 0, .int .i64 0, .int .i64 0, .int .i64 0, .int .i64 0, .int .i64 0, .int .i64 0, .int .i64 0, .int .i64 0, .int .i64 0, .int .i64 0, .int .i64 0, .int .i64 0, .int .i64 0, .int .i64 0, .int .i64 0, .int .i64 0, .int .i64 0, .int .i64 0, .int .i64 0, .int .i64 0, .int .i64 0, .int .i64 0, .int .i64 0, .int .i64 0, .int .i64 0, .int .i64 0, .int .i64 0, .int .i64 0, .int .i64 0, .int .i64 0, .int .i64 0, .int .i64 0, .int .i64 0, .int .i64 0, .int .i64 0, .int .i64 0] := ⟨.agg #[.int .i64 0, .int .i64 0, .int .i64 0, .int .i64 0, .int .i64 0, .int .i64 0, .int .i64 0, .int .i64 0, .int .i64 0, .int .i64 0, .int .i64 0, .int .i64 0, .int .i64 0, .int .i64 0, .int .i64 0, .int .i64 0, .int .i64 0, .int .i64 0, .int .i64 0, .int .i64 0, .int .i64 0, .int .i64 0, .int .i64 0, .int .i64 0, .int .i64 0, .int .i64 0, .int .i64 0, .int .i64 0, .int .i64 0, .int .i64 0, .int .i64 0, .int .i64 0, .int .i64 0, .int .i64 0, .int .i64 0, .int .i64 0, .int .i64 0, .int .i64 0, .int .i64 0, .int .i64 0, .int .i64 0, .int .i64 0, .int .i64 0, .int .i64 0, .int .i64 0, .int .i64 0, .int .i64 0, .int .i64 0, .int .i64 0, .int .i64 0, .int .i64 0, .int .i64 0, .int .i64 0, .int .i64 0, .int .i64 0, .int .i64 0, .int .i64 0, .int .i64 0, .int .i64 0, .int .i64 0, .int .i64 0, .int .i64 0, .int .i64 0, .int .i64 0, .int .i64 0, .int .i64 0, .int .i64 0, .int .i64 0, .int .i64 0, .int .i64 0, .int .i64 0, .int .i64 0, .int .i64 0, .int .i64 0, .int .i64 0, .int .i64 0, .int .i64 0, .int .i64 0, .int .i64 0, .int .i64 0, .int .i64 0, .int .i64 0, .int .i64 0, .int .i64 0, .int .i64 0, .int .i64 0, .int .i64 0, .int .i64 0, .int .i64 0, .int .i64 0, .int .i64 0, .int .i64 0, .int .i64 0, .int .i64 0, .int .i64 0, .int .i64 0, .int .i64 0, .int .i64 0, .int .i64 0, .int .i64 0, .int .i64 0, .int .i64 0, .int .i64 0, .int .i64 0, .int .i64 0, .int .i64 0, .int .i64 0, .int .i64 0, .int .i64 0, .int .i64 0, .int .i64 0, .int .i64 0, .int .i64 0, .int .i64 0, .int .i64 0, .int .i64 0, .int .i64 0, .int .i64 0, .int .i64 0, .int .i64 0, .int .i64 0, .int .i64 0, .int .i64 0, .int .i64 0, .int .i64 0, .int .i64 0, .int .i64 0, .int .i64 0, .int .i64 0, .int .i64 0, .int .i64 0, .int .i64 0, .int .i64 0, .int .i64 0, .int .i64 0, .int .i64 0, .int .i64 0, .int .i64 0, .int .i64 0, .int .i64 0, .int .i64 0, .int .i64 0, .int .i64 0, .int .i64 0, .int .i64 0, .int .i64 0], by kernel_rfl, rfl⟩
theorem agg_83 : AggT Tryd.prog 83 146 := ⟨_, Tryd.underlying83, rfl, by kernel_rfl⟩
theorem zero_83 : ZeroT Tryd.prog 83 (dsk dsk0) := ⟨.agg (dsk dsk0), by kernel_rfl, rfl⟩
@[go_sem] theorem sc_84 : ScT Tryd.prog 84 := ⟨⟨_, Tryd.underlying84, rfl⟩, by kernel_rfl⟩
@[go_sem] theorem sc_85 : ScT Tryd.prog 85 := ⟨⟨_, Tryd.underlying85, rfl⟩, by kernel_rfl⟩
@[go_sem] theorem sc_86 : ScT Tryd.prog 86 := ⟨⟨_, Tryd.underlying86, rfl⟩, by kernel_rfl⟩
@[go_sem] theorem sc_87 : ScT Tryd.prog 87 := ⟨⟨_, Tryd.underlying87, rfl⟩, by kernel_rfl⟩
@[go_sem] theorem sc_88 : ScT Tryd.prog 88 := ⟨⟨_, Tryd.underlying88, rfl⟩, by kernel_rfl⟩
@[go_sem] theorem sc_89 : ScT Tryd.prog 89 := ⟨⟨_, Tryd.underlying89, rfl⟩, by kernel_rfl⟩
@[go_sem] theorem sc_90 : ScT Tryd.prog 90 := ⟨⟨_, Tryd.underlying90, rfl⟩, by kernel_rfl⟩
@[go_sem] theorem sc_91 : ScT Tryd.prog 91 := ⟨⟨_, Tryd.underlying91, rfl⟩, by kernel_rfl⟩
theorem agg_92 : AggT Tryd.prog 92 146 := ⟨_, Tryd.underlying92, rfl, by kernel_rfl⟩
theorem zero_92 : ZeroT Tryd.prog 92 #[.int .i64 0, .int .i64 0, .int .i64 0, .int .i64 0, .int .i64 0, .int .i64 0, .int .i64 0, .int .i64 0, .int .i64 0, .int .i64 0, .int .i64 0, .int .i64 0, .int .i64 0, .int .i64 0, .int .i64 0, .int .i64 0, .int .i64 0, .int .i64 0, .int .i64 0, .int .i64 0, .int .i64 0, .int .i64 0, .int .i64 0, .int .i64 0, .int .i64 0, .int .i64 0, .int .i64 0, .int .i64 0, .int .i64 0, .int .i64 0, .int .i64 0, .int .i64 0, .int .i64 0, .int .i64 0, .int .i64 0, .int .i64 0, .int .i64 0, .int .i64 0, .int .i64 0, .int .i64 0, .int .i64 0, .int .i64 0, .int .i64 0, .int .i64 0, .int .i64 0, .int .i64 0, .int .i64 0, .int .i64 0, .int .i64 0, .int .i64 0, .int .i64 0, .int .i64 0, .int .i64 0, .int .i64 0, .int .i64 0, .int .i64 0, .int .i64 0, .int .i64 0, .int .i64 0, .int .i64 0, .int .i64 0, .int .i64 0, .int .i64 0, .int .i64 0, .int .i64 0, .int .i64 0, .int .i64 0, .int .i64 0, .int .i64 0, .int .i64 0, .int .i64 0, .int .i64 0, .int .i64 0, .int .i64 0, .int .i64 0, .int .i64 0, .int .i64 0, .int .i64 0, .int .i64 0, .int .i64 0, .int .i64 0, .int .i64 0, .int .i64 0, .int .i64 0, .int .i64 0, .int .i64 0, .int .i64 0, .int .i64 0, .int .i64 0, .int .i64 0, .int .i64 0, .int .i64 0, .int .i64 0, .int .i64 0, .int .i64 0, .int .i64 0, .int .i64 0, .int .i64 0, .int .i64 0, .int .i64 0, .int .i64 0, .int .i64 0, .int .i64 0, .int .i64 0, .int .i64 0, .int .i64 0, .int .i64 0, .int .i64 0, .int .i64 0, .int .i64 0, .int .i64 0, .int .i64 0, .int .i64 0, .int .i64 0, .int .i64 0, .int .i64 0, .int .i64 0, .int .i64 0, .int .i64 0, .int .i64 0, .int .i64 0, .int .i64 0, .int .i64 0, .int .i64 0, .int .i64 0, .int .i64 0, .int .i64 0, .int .i64 0, .int .i64 0, .int .i64 0, .int .i64 0, .int .i64 0, .int .i64 0, .int .i64 0, .int .i64 0, .int .i64 0, .int .i64 0, .int .i64 0, .int .i64 0, .int .i64 0, .int .i64 0, .int .i64 0, .int .i64 0, .int .i64 0, .int .i64 0, .int .i64 0] := ⟨.agg #[.int .i64 0, .int .i64 0, .int .i64 0, .int .i64 0, .int .i64 0, .int .i64 0, .int .i64 0, .int .i64 0, .int .i64 0, .int .i64 0, .int .i64 0, .int .i64 0, .int .i64 0, .int .i64 0, .int .i64 0, .int .i64 0, .int .i64 0, .int .i64 0, .int .i64 0, .int .i64 0, .int .i64 0, .int .i64 0, .int .i64 0, .int .i64 0, .int .i64 0, .int .i64 0, .int .i64 0, .int .i64 0, .int .i64 0, .int .i64 0, .int .i64 0, .int .i64 0, .int .i64 0, .int .i64 0, .int .i64 0, .int .i64 0, .int .i64 0, .int .i64 0, .int .i64 0, .int .i64 0, .int .i64 0, .int .i64 0, .int .i64 0, .int .i64 0, .int .i64 0, .int .i64 0, .int .i64 0, .int .i64 0, .int .i64 0, .int .i64 0, .int .i64 0, .int .i64 0, .int .i64 0, .int .i64 0, .int .i64 0, .int .i64 0, .int .i64 0, .int .i64 0, .int .i64 0, .int .i64 0, .int .i64 0, .int .i64 0, .int .i64 0, .int .i64 0, .int .i64 0, .int .i64 0, .int .i64 0, .int .i64 0, .int .i64 0, .int .i64 0, .int .i64 0, .int .i64 0, .int .i64 0, .int .i64 0, .int .i64 0, .int .i64 0, .int .i64 0, .int .i64 0, .int .i64 0, .int .i64 0, .int .i64 0, .int .i64 0, .int .i64 0, .int .i64 0, .int .i64 0, .int .i64 0, .int .i64 0, .int .i64 0, .int .i64 0, .int .i64 0, .int .i64 0, .int .i64 0, .int .i64 0, .int .i64 0, .int .i64 0, .int .i64 0, .int .i64 0, .int .i64 0, .int .i64 0, .int .i64 0, .int .i64 0, .int .i64 0, .int .i64 0, .int .i64 0, .int .i64 0, .int .i64 0, .int .i64 0, .int .i64 0, .int .i64 0, .int .i64 0, .int .i64 0, .int .i64 0, .int .i64 0, .int .i64 0, .int .i64 0, .int .i64 0, .int .i64 0, .int .i64 0, .int .i64 0, .int .i64 0, .int .i64 0, .int .i64 0, .int .i64 0, .int .i64 0, .int .i64 0, .int .i64 0, .int .i64 0, .int .i64 0, .int .i64 0, .int .i64 0, .int .i64 0, .int .i64 0, .int .i64 0, .int .i64 0, .int .i64 0, .int .i64 0, .int .i64 0, .int .i64 0, .int .i64 0, .int .i64 0, .int .i64 0, .int .i64 0, .int .i64 0, .int .i64 0, .int .i64 0, .int .i64 0], by kernel_rfl, rfl⟩
theorem agg_93 : AggT Tryd.prog 93 146 := ⟨_, Tryd.underlying93, rfl, by kernel_rfl⟩
theorem zero_93 : ZeroT Tryd.prog 93 (dsk dsk0) := ⟨.agg (dsk dsk0), by kernel_rfl, rfl⟩
@[go_sem] theorem sc_94 : ScT Tryd.prog 94 := ⟨⟨_, Tryd.underlying94, rfl⟩, by kernel_rfl⟩
@[go_sem] theorem sc_95 : ScT Tryd.prog 95 := ⟨⟨_, Tryd.underlying95, rfl⟩, by kernel_rfl⟩
@[go_sem] theorem sc_96 : ScT Tryd.prog 96 := ⟨⟨_, Tryd.underlying96, rfl⟩, by kernel_rfl⟩
@[go_sem] theorem sc_97 : ScT Tryd.prog 97 := ⟨⟨_, Tryd.underlying97, rfl⟩, by kernel_rfl⟩
theorem zero_97 : ZeroT Tryd.prog 97 #[.pointer none] := ⟨.pointer none, by kernel_rfl, rfl⟩
@[go_sem] theorem sc_98 : ScT Tryd.prog 98 := ⟨⟨_, Tryd.underlying98, rfl⟩, by kernel_rfl⟩
@[go_sem] theorem sc_99 : ScT Tryd.prog 99 := ⟨⟨_, Tryd.underlying99, rfl⟩, by kernel_rfl⟩
theorem zero_99 : ZeroT Tryd.prog 99 #[.pointer none] := ⟨.pointer none, by kernel_rfl, rfl⟩
theorem agg_100 : AggT Tryd.prog 100 4 := ⟨_, Tryd.underlying100, rfl, by kernel_rfl⟩
theorem zero_100 : ZeroT Tryd.prog 100 #[.string .empty, .string .empty, .int .i64 0, .nilIface] := ⟨.agg #[.string .empty, .string .empty, .int .i64 0, .nilIface], by kernel_rfl, rfl⟩
theorem agg_101 : AggT Tryd.prog 101 4 := ⟨_, Tryd.underlying101, rfl, by kernel_rfl⟩
theorem zero_101 : ZeroT Tryd.prog 101 #[.string .empty, .string .empty, .int .i64 0, .nilIface] := ⟨.agg #[.string .empty, .string .empty, .int .i64 0, .nilIface], by kernel_rfl, rfl⟩
@[go_sem] theorem sc_102 : ScT Tryd.prog 102 := ⟨⟨_, Tryd.underlying102, rfl⟩, by kernel_rfl⟩
@[go_sem] theorem sc_103 : ScT Tryd.prog 103 := ⟨⟨_, Tryd.underlying103, rfl⟩, by kernel_rfl⟩
theorem agg_104 : AggT Tryd.prog 104 3 := ⟨_, Tryd.underlying104, rfl, by kernel_rfl⟩
theorem zero_104 : ZeroT Tryd.prog 104 #[.string .empty, .string .empty, .int .i64 0] := ⟨.agg #[.string .empty, .string .empty, .int .i64 0], by kernel_rfl, rfl⟩
theorem agg_105 : AggT Tryd.prog 105 3 := ⟨_, Tryd.underlying105, rfl, by kernel_rfl⟩
theorem zero_105 : ZeroT Tryd.prog 105 (lnk lnk0) := ⟨.agg (lnk lnk0), by kernel_rfl, rfl⟩
@[go_sem] theorem sc_106 : ScT Tryd.prog 106 := ⟨⟨_, Tryd.underlying106, rfl⟩, by kernel_rfl⟩
@[go_sem] theorem sc_107 : ScT Tryd.prog 107 := ⟨⟨_, Tryd.underlying107, rfl⟩, by kernel_rfl⟩
@[go_sem] theorem sc_108 : ScT Tryd.prog 108 := ⟨⟨_, Tryd.underlying108, rfl⟩, by kernel_rfl⟩
theorem zero_108 : ZeroT Tryd.prog 108 #[.pointer none] := ⟨.pointer none, by kernel_rfl, rfl⟩
@[go_sem] theorem sc_109 : ScT Tryd.prog 109 := ⟨⟨_, Tryd.underlying109, rfl⟩, by kernel_rfl⟩
theorem zero_109 : ZeroT Tryd.prog 109 #[.slice none 0 0] := ⟨.slice none 0 0, by kernel_rfl, rfl⟩
@[go_sem] theorem sc_110 : ScT Tryd.prog 110 := ⟨⟨_, Tryd.underlying110, rfl⟩, by kernel_rfl⟩
@[go_sem] theorem sc_111 : ScT Tryd.prog 111 := ⟨⟨_, Tryd.underlying111, rfl⟩, by kernel_rfl⟩
@[go_sem] theorem sc_112 : ScT Tryd.prog 112 := ⟨⟨_, Tryd.underlying112, rfl⟩, by kernel_rfl⟩
theorem agg_113 : AggT Tryd.prog 113 1 := ⟨_, Tryd.underlying113, rfl, by kernel_rfl⟩
theorem zero_113 : ZeroT Tryd.prog 113 #[.slice none 0 0] := ⟨.agg #[.slice none 0 0], by kernel_rfl, rfl⟩
theorem agg_114 : AggT Tryd.prog 114 1 := ⟨_, Tryd.underlying114, rfl, by kernel_rfl⟩
theorem zero_114 : ZeroT Tryd.prog 114 #[.slice none 0 0] := ⟨.agg #[.slice none 0 0], by kernel_rfl, rfl⟩
@[go_sem] theorem sc_115 : ScT Tryd.prog 115 := ⟨⟨_, Tryd.underlying115, rfl⟩, by kernel_rfl⟩
theorem zero_115 : ZeroT Tryd.prog 115 #[.pointer none] := ⟨.pointer none, by kernel_rfl, rfl⟩
@[go_sem] theorem sc_116 : ScT Tryd.prog 116 := ⟨⟨_, Tryd.underlying116, rfl⟩, by kernel_rfl⟩
theorem agg_117 : AggT Tryd.prog 117 4 := ⟨_, Tryd.underlying117, rfl, by kernel_rfl⟩
theorem zero_117 : ZeroT Tryd.prog 117 #[.pointer none, .pointer none, .pointer none, .string .empty] := ⟨.agg #[.pointer none, .pointer none, .pointer none, .string .empty], by kernel_rfl, rfl⟩
theorem agg_118 : AggT Tryd.prog 118 4 := ⟨_, Tryd.underlying118, rfl, by kernel_rfl⟩
theorem zero_118 : ZeroT Tryd.prog 118 #[.pointer none, .pointer none, .pointer none, .string .empty] := ⟨.agg #[.pointer none, .pointer none, .pointer none, .string .empty], by kernel_rfl, rfl⟩
theorem agg_119 : AggT Tryd.prog 119 0 := ⟨_, Tryd.underlying119, rfl, by kernel_rfl⟩
theorem zero_119 : ZeroT Tryd.prog 119 #[] := ⟨.agg #[], by kernel_rfl, rfl⟩
theorem agg_120 : AggT Tryd.prog 120 0 := ⟨_, Tryd.underlying120, rfl, by kernel_rfl⟩
theorem zero_120 : ZeroT Tryd.prog 120 #[] := ⟨.agg #[], by kernel_rfl, rfl⟩
theorem agg_121 : AggT Tryd.prog 121 0 := ⟨_, Tryd.underlying121, rfl, by kernel_rfl⟩
theorem zero_121 : ZeroT Tryd.prog 121 #[] := ⟨.agg #[], by kernel_rfl, rfl⟩
@[go_sem] theorem sc_122 : ScT Tryd.prog 122 := ⟨⟨_, Tryd.underlying122, rfl⟩, by kernel_rfl⟩
@[go_sem] theorem sc_123 : ScT Tryd.prog 123 := ⟨⟨_, Tryd.underlying123, rfl⟩, by kernel_rfl⟩
theorem zero_123 : ZeroT Tryd.prog 123 #[.int .u32 0] := ⟨.int .u32 0, by kernel_rfl, rfl⟩
@[go_sem] theorem sc_124 : ScT Tryd.prog 124 := ⟨⟨_, Tryd.underlying124, rfl⟩, by kernel_rfl⟩
theorem zero_124 : ZeroT Tryd.prog 124 #[.int .u8 0] := ⟨.int .u8 0, by kernel_rfl, rfl⟩
@[go_sem] theorem sc_125 : ScT Tryd.prog 125 := ⟨⟨_, Tryd.underlying125, rfl⟩, by kernel_rfl⟩
theorem zero_125 : ZeroT Tryd.prog 125 #[.int .u8 0] := ⟨.int .u8 0, by kernel_rfl, rfl⟩
@[go_sem] theorem sc_126 : ScT Tryd.prog 126 := ⟨⟨_, Tryd.underlying126, rfl⟩, by kernel_rfl⟩
@[go_sem] theorem sc_127 : ScT Tryd.prog 127 := ⟨⟨_, Tryd.underlying127, rfl⟩, by kernel_rfl⟩
theorem zero_127 : ZeroT Tryd.prog 127 #[.pointer none] := ⟨.pointer none, by kernel_rfl, rfl⟩
@[go_sem] theorem sc_128 : ScT Tryd.prog 128 := ⟨⟨_, Tryd.underlying128, rfl⟩, by kernel_rfl⟩
theorem zero_128 : ZeroT Tryd.prog 128 #[.int .i32 0] := ⟨.int .i32 0, by kernel_rfl, rfl⟩
@[go_sem] theorem sc_129 : ScT Tryd.prog 129 := ⟨⟨_, Tryd.underlying129, rfl⟩, by kernel_rfl⟩
theorem zero_129 : ZeroT Tryd.prog 129 #[.int .i32 0] := ⟨.int .i32 0, by kernel_rfl, rfl⟩
theorem agg_130 : AggT Tryd.prog 130 11 := ⟨_, Tryd.underlying130, rfl, by kernel_rfl⟩
theorem zero_130 : ZeroT Tryd.prog 130 #[.int .u64 0, .int .u64 0, .int .u32 0, .int .u8 0, .int .u8 0, .int .u8 0, .int .u8 0, .nilFunc, .pointer none, .int .i32 0, .int .i32 0] := ⟨.agg #[.int .u64 0, .int .u64 0, .int .u32 0, .int .u8 0, .int .u8 0, .int .u8 0, .int .u8 0, .nilFunc, .pointer none, .int .i32 0, .int .i32 0], by kernel_rfl, rfl⟩
theorem agg_131 : AggT Tryd.prog 131 11 := ⟨_, Tryd.underlying131, rfl, by kernel_rfl⟩
theorem zero_131 : ZeroT Tryd.prog 131 #[.int .u64 0, .int .u64 0, .int .u32 0, .int .u8 0, .int .u8 0, .int .u8 0, .int .u8 0, .nilFunc, .pointer none, .int .i32 0, .int .i32 0] := ⟨.agg #[.int .u64 0, .int .u64 0, .int .u32 0, .int .u8 0, .int .u8 0, .int .u8 0, .int .u8 0, .nilFunc, .pointer none, .int .i32 0, .int .i32 0], by kernel_rfl, rfl⟩
theorem agg_132 : AggT Tryd.prog 132 1 := ⟨_, Tryd.underlying132, rfl, by kernel_rfl⟩
theorem zero_132 : ZeroT Tryd.prog 132 #[.string .empty] := ⟨.agg #[.string .empty], by kernel_rfl, rfl⟩
theorem agg_133 : AggT Tryd.prog 133 1 := ⟨_, Tryd.underlying133, rfl, by kernel_rfl⟩
theorem zero_133 : ZeroT Tryd.prog 133 #[.string .empty] := ⟨.agg #[.string .empty], by kernel_rfl, rfl⟩
@[go_sem] theorem sc_135 : ScT Tryd.prog 135 := ⟨⟨_, Tryd.underlying135, rfl⟩, by kernel_rfl⟩
theorem app_32 : AppT Tryd.prog 32 34 38 304 asd := ⟨Tryd.underlying32, ⟨.agg (asd asd0), by kernel_rfl, (by first | rfl | (simp only [Value.cells, go_sem]))⟩, by decide, fun a => by simp only [go_sem], fun a => by simp only [go_sem]⟩
theorem app_41 : AppT Tryd.prog 41 80 4 32 mvd := ⟨Tryd.underlying41, ⟨.agg (mvd mvd0), by kernel_rfl, (by first | rfl | (simp only [Value.cells, go_sem]))⟩, by decide, fun a => by simp only [go_sem], fun a => by simp only [go_sem]⟩
theorem app_45 : AppT Tryd.prog 45 51 1 8 ptv := ⟨Tryd.underlying45, ⟨.pointer none, by kernel_rfl, (by first | rfl | (simp only [Value.cells, go_sem]))⟩, by decide, fun a => by simp only [go_sem], fun a => by simp only [go_sem]⟩
theorem app_46 : AppT Tryd.prog 46 23 8 64 clk := ⟨Tryd.underlying46, ⟨.agg (clk clk0), by kernel_rfl, (by first | rfl | (simp only [Value.cells, go_sem]))⟩, by decide, fun a => by simp only [go_sem], fun a => by simp only [go_sem]⟩
theorem app_47 : AppT Tryd.prog 47 38 144 1152 rnds := ⟨Tryd.underlying47, ⟨.agg (rnds rnds0), by kernel_rfl, (by first | rfl | (simp only [Value.cells, go_sem]))⟩, by decide, fun a => by simp only [go_sem], fun a => by simp only [go_sem]⟩
theorem app_58 : AppT Tryd.prog 58 105 3 40 lnk := ⟨Tryd.underlying58, ⟨.agg (lnk lnk0), by kernel_rfl, (by first | rfl | (simp only [Value.cells, go_sem]))⟩, by decide, fun a => by simp only [go_sem], fun a => by simp only [go_sem]⟩
theorem app_59 : AppT Tryd.prog 59 3 1 8 intv := ⟨Tryd.underlying59, ⟨.int .i64 0, by kernel_rfl, (by first | rfl | (simp only [Value.cells, go_sem]))⟩, by decide, fun a => by simp only [go_sem], fun a => by simp only [go_sem]⟩
theorem app_63 : AppT Tryd.prog 63 72 153 1224 opf := ⟨Tryd.underlying63, ⟨.agg (opf opf0), by kernel_rfl, (by first | rfl | (simp only [Value.cells, go_sem]))⟩, by decide, fun a => by simp only [go_sem], fun a => by simp only [go_sem]⟩
theorem bst_32 : BsT Tryd.prog 32 34 38 := ⟨Tryd.underlying32, .agg (asd asd0), by kernel_rfl, (by first | rfl | (simp only [Value.cells, go_sem])), by decide, by decide⟩
theorem bst_41 : BsT Tryd.prog 41 80 4 := ⟨Tryd.underlying41, .agg (mvd mvd0), by kernel_rfl, (by first | rfl | (simp only [Value.cells, go_sem])), by decide, by decide⟩
theorem bst_45 : BsT Tryd.prog 45 51 1 := ⟨Tryd.underlying45, .pointer none, by kernel_rfl, (by first | rfl | (simp only [Value.cells, go_sem])), by decide, by decide⟩
theorem bst_46 : BsT Tryd.prog 46 23 8 := ⟨Tryd.underlying46, .agg (clk clk0), by kernel_rfl, (by first | rfl | (simp only [Value.cells, go_sem])), by decide, by decide⟩
theorem bst_47 : BsT Tryd.prog 47 38 144 := ⟨Tryd.underlying47, .agg (rnds rnds0), by kernel_rfl, (by first | rfl | (simp only [Value.cells, go_sem])), by decide, by decide⟩
theorem bst_58 : BsT Tryd.prog 58 105 3 := ⟨Tryd.underlying58, .agg (lnk lnk0), by kernel_rfl, (by first | rfl | (simp only [Value.cells, go_sem])), by decide, by decide⟩
theorem bst_59 : BsT Tryd.prog 59 3 1 := ⟨Tryd.underlying59, .int .i64 0, by kernel_rfl, (by first | rfl | (simp only [Value.cells, go_sem])), by decide, by decide⟩
theorem bst_63 : BsT Tryd.prog 63 72 153 := ⟨Tryd.underlying63, .agg (opf opf0), by kernel_rfl, (by first | rfl | (simp only [Value.cells, go_sem])), by decide, by decide⟩
theorem bst_109 : BsT Tryd.prog 109 54 1 := ⟨Tryd.underlying109, .nilIface, by kernel_rfl, (by first | rfl | (simp only [Value.cells, go_sem])), by decide, by decide⟩
theorem bld_0  : BuildT Tryd.prog 23 #[] (.agg (clk clk0)) := fun w => by kernel_rfl
theorem bld_1 (n0 : Int) : BuildT Tryd.prog 23 #[(0, .int .i64 n0)] (.agg (clk (setAt clk0 0 n0))) := fun w => by kernel_rfl
theorem bld_2 (x0_0 : Int) (x1_0 : Nat → Int) : BuildT Tryd.prog 25 #[(0, .int .i64 x0_0), (1, .agg (clk x1_0))] (.agg (rnd ⟨x0_0, x1_0, clk0, 0⟩)) := fun w => by kernel_rfl
theorem bld_3 : BuildT Tryd.prog 38 #[] (.agg (rnds rnds0)) := fun w => by kernel_rfl
theorem bld_4  : BuildT Tryd.prog 49 #[] (.agg (wrl ⟨none, 0, 0, none, 0, 0, none, 0, 0⟩)) := fun w => by kernel_rfl
theorem bld_5  : BuildT Tryd.prog 61 #[] (.agg (nov ⟨0, none, 0, 0, none, 0, 0⟩)) := fun w => by kernel_rfl
theorem bld_6 (x0_0 : Int) (x1_0_1 : Option Addr) (x1_0_2 x1_0_3 : Nat) (x2_0_1 : Option Addr) (x2_0_2 x2_0_3 : Nat) : BuildT Tryd.prog 61 #[(0, .int .i64 x0_0), (1, .slice x1_0_1 x1_0_2 x1_0_3), (2, .slice x2_0_1 x2_0_2 x2_0_3)] (.agg (nov ⟨x0_0, x1_0_1, x1_0_2, x1_0_3, x2_0_1, x2_0_2, x2_0_3⟩)) := fun w => by kernel_rfl
theorem bld_7 (x0_0 : Int) (x2_0_1 : Option Addr) (x2_0_2 x2_0_3 : Nat) : BuildT Tryd.prog 61 #[(0, .int .i64 x0_0), (2, .slice x2_0_1 x2_0_2 x2_0_3)] (.agg (nov ⟨x0_0, none, 0, 0, x2_0_1, x2_0_2, x2_0_3⟩)) := fun w => by kernel_rfl
theorem bld_8 (x0_0 : Option Addr) (x1_0 : Option Addr) : BuildT Tryd.prog 69 #[(0, .pointer x0_0), (1, .pointer x1_0)] (.agg (prv ⟨x0_0, x1_0⟩)) := fun w => by kernel_rfl
theorem bld_9 (x0_0 : Int) (x1_0 : Int) : BuildT Tryd.prog 83 #[(0, .int .i64 x0_0), (1, .int .i64 x1_0)] (.agg (dsk ⟨x0_0, x1_0, rnds0⟩)) := fun w => by kernel_rfl
theorem bld_10 (x0_0 : Int) (x1_0 : Int) : BuildT Tryd.prog 93 #[(0, .int .i64 x0_0), (1, .int .i64 x1_0)] (.agg (dsk ⟨x0_0, x1_0, rnds0⟩)) := fun w => by kernel_rfl
theorem bld_11 (x0_0 : ByteArray) (x1_0 : ByteArray) (x2_0 : Int) (x3_0t : TypeId) (x3_0p : Option Addr) : BuildT Tryd.prog 101 #[(0, .string x0_0), (1, .string x1_0), (2, .int .i64 x2_0), (3, (.iface x3_0t (.pointer x3_0p)))] (.agg #[.string x0_0, .string x1_0, .int .i64 x2_0, (.iface x3_0t (.pointer x3_0p))]) := fun w => by kernel_rfl
theorem bld_12 (x0_0 : ByteArray) (x1_0 : ByteArray) (x2_0 : Int) : BuildT Tryd.prog 105 #[(0, .string x0_0), (1, .string x1_0), (2, .int .i64 x2_0)] (.agg (lnk ⟨x0_0, x1_0, x2_0⟩)) := fun w => by kernel_rfl
theorem bld_13 (x0_0 : ByteArray) : BuildT Tryd.prog 133 #[(0, .string x0_0)] (.agg #[.string x0_0]) := fun w => by kernel_rfl
@[go_sem] theorem enter_3 : entB Tryd.prog 3 = true := by kernel_rfl
@[go_sem] theorem enter_4 : entB Tryd.prog 4 = true := by kernel_rfl
@[go_sem] theorem enter_5 : entB Tryd.prog 5 = true := by kernel_rfl
@[go_sem] theorem enter_6 : entB Tryd.prog 6 = true := by kernel_rfl
@[go_sem] theorem enter_7 : entB Tryd.prog 7 = true := by kernel_rfl
@[go_sem] theorem enter_8 : entB Tryd.prog 8 = true := by kernel_rfl
@[go_sem] theorem enter_9 : entB Tryd.prog 9 = true := by kernel_rfl
@[go_sem] theorem enter_10 : entB Tryd.prog 10 = true := by kernel_rfl
@[go_sem] theorem enter_11 : entB Tryd.prog 11 = true := by kernel_rfl
@[go_sem] theorem enter_12 : entB Tryd.prog 12 = true := by kernel_rfl
@[go_sem] theorem enter_13 : entB Tryd.prog 13 = true := by kernel_rfl
@[go_sem] theorem enter_14 : entB Tryd.prog 14 = true := by kernel_rfl
@[go_sem] theorem enter_15 : entB Tryd.prog 15 = true := by kernel_rfl
@[go_sem] theorem enter_16 : entB Tryd.prog 16 = true := by kernel_rfl
@[go_sem] theorem enter_17 : entB Tryd.prog 17 = true := by kernel_rfl
@[go_sem] theorem enter_18 : entB Tryd.prog 18 = true := by kernel_rfl
@[go_sem] theorem enter_19 : entB Tryd.prog 19 = true := by kernel_rfl
@[go_sem] theorem enter_20 : entB Tryd.prog 20 = true := by kernel_rfl
@[go_sem] theorem enter_21 : entB Tryd.prog 21 = true := by kernel_rfl
@[go_sem] theorem enter_22 : entB Tryd.prog 22 = true := by kernel_rfl
@[go_sem] theorem enter_23 : entB Tryd.prog 23 = true := by kernel_rfl
@[go_sem] theorem enter_24 : entB Tryd.prog 24 = true := by kernel_rfl
@[go_sem] theorem enter_25 : entB Tryd.prog 25 = true := by kernel_rfl
@[go_sem] theorem enter_26 : entB Tryd.prog 26 = true := by kernel_rfl
@[go_sem] theorem enter_27 : entB Tryd.prog 27 = true := by kernel_rfl
@[go_sem] theorem enter_28 : entB Tryd.prog 28 = true := by kernel_rfl
@[go_sem] theorem enter_29 : entB Tryd.prog 29 = true := by kernel_rfl
@[go_sem] theorem enter_30 : entB Tryd.prog 30 = true := by kernel_rfl
@[go_sem] theorem enter_31 : entB Tryd.prog 31 = true := by kernel_rfl
@[go_sem] theorem enter_32 : entB Tryd.prog 32 = true := by kernel_rfl
@[go_sem] theorem enter_33 : entB Tryd.prog 33 = true := by kernel_rfl
@[go_sem] theorem enter_34 : entB Tryd.prog 34 = true := by kernel_rfl
@[go_sem] theorem enter_35 : entB Tryd.prog 35 = true := by kernel_rfl
@[go_sem] theorem enter_36 : entB Tryd.prog 36 = true := by kernel_rfl
@[go_sem] theorem enter_37 : entB Tryd.prog 37 = true := by kernel_rfl
@[go_sem] theorem enter_38 : entB Tryd.prog 38 = true := by kernel_rfl
@[go_sem] theorem enter_39 : entB Tryd.prog 39 = true := by kernel_rfl
@[go_sem] theorem enter_40 : entB Tryd.prog 40 = true := by kernel_rfl
@[go_sem] theorem enter_41 : entB Tryd.prog 41 = true := by kernel_rfl
@[go_sem] theorem enter_42 : entB Tryd.prog 42 = true := by kernel_rfl
@[go_sem] theorem enter_43 : entB Tryd.prog 43 = true := by kernel_rfl
@[go_sem] theorem enter_44 : entB Tryd.prog 44 = true := by kernel_rfl
@[go_sem] theorem enter_45 : entB Tryd.prog 45 = true := by kernel_rfl
@[go_sem] theorem enter_46 : entB Tryd.prog 46 = true := by kernel_rfl
@[go_sem] theorem enter_47 : entB Tryd.prog 47 = true := by kernel_rfl
@[go_sem] theorem enter_48 : entB Tryd.prog 48 = true := by kernel_rfl
@[go_sem] theorem enter_49 : entB Tryd.prog 49 = true := by kernel_rfl
@[go_sem] theorem enter_50 : entB Tryd.prog 50 = true := by kernel_rfl
@[go_sem] theorem enter_51 : entB Tryd.prog 51 = true := by kernel_rfl
@[go_sem] theorem enter_52 : entB Tryd.prog 52 = true := by kernel_rfl
@[go_sem] theorem enter_53 : entB Tryd.prog 53 = true := by kernel_rfl
@[go_sem] theorem enter_54 : entB Tryd.prog 54 = true := by kernel_rfl
@[go_sem] theorem enter_55 : entB Tryd.prog 55 = true := by kernel_rfl
@[go_sem] theorem enter_56 : entB Tryd.prog 56 = true := by kernel_rfl
@[go_sem] theorem enter_57 : entB Tryd.prog 57 = true := by kernel_rfl
@[go_sem] theorem enter_58 : entB Tryd.prog 58 = true := by kernel_rfl
@[go_sem] theorem enter_59 : entB Tryd.prog 59 = true := by kernel_rfl
@[go_sem] theorem enter_60 : entB Tryd.prog 60 = true := by kernel_rfl
@[go_sem] theorem enter_61 : entB Tryd.prog 61 = true := by kernel_rfl
@[go_sem] theorem enter_62 : entB Tryd.prog 62 = true := by kernel_rfl
@[go_sem] theorem enter_63 : entB Tryd.prog 63 = true := by kernel_rfl
@[go_sem] theorem enter_64 : entB Tryd.prog 64 = true := by kernel_rfl
@[go_sem] theorem enter_65 : entB Tryd.prog 65 = true := by kernel_rfl
@[go_sem] theorem enter_85 : entB Tryd.prog 85 = true := by kernel_rfl
end Go.Proofs.YthnkcljgkfpneaaDoor
