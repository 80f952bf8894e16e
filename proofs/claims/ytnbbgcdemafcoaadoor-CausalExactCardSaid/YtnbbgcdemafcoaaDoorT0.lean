/- Facts of the types and the functions of this seat. -/
import Derived.Test.YtnbbgcdemafcoaaDoorT2
import Derived.Test.YtnbbgcdemafcoaaDoorT3
set_option linter.unusedSimpArgs false
set_option linter.unusedVariables false
set_option maxRecDepth 4000
namespace Go.Proofs.YtnbbgcdemafcoaaDoor
open Go Go.RowKit

@[go_sem] theorem sc_1 : ScT Tryd.prog 1 := ⟨⟨_, Tryd.underlying1, rfl⟩, by kernel_rfl⟩
@[go_sem] theorem sc_2 : ScT Tryd.prog 2 := ⟨⟨_, Tryd.underlying2, rfl⟩, by kernel_rfl⟩
theorem zero_2 : ZeroT Tryd.prog 2 #[.int .i64 0] := ⟨.int .i64 0, by kernel_rfl, rfl⟩
@[go_sem] theorem sc_3 : ScT Tryd.prog 3 := ⟨⟨_, Tryd.underlying3, rfl⟩, by kernel_rfl⟩
theorem zero_3 : ZeroT Tryd.prog 3 #[.int .i64 0] := ⟨.int .i64 0, by kernel_rfl, rfl⟩
@[go_sem] theorem sc_4 : ScT Tryd.prog 4 := ⟨⟨_, Tryd.underlying4, rfl⟩, by kernel_rfl⟩
theorem zero_4 : ZeroT Tryd.prog 4 #[.bool false] := ⟨.bool false, by kernel_rfl, rfl⟩
@[go_sem] theorem sc_5 : ScT Tryd.prog 5 := ⟨⟨_, Tryd.underlying5, rfl⟩, by kernel_rfl⟩
theorem zero_5 : ZeroT Tryd.prog 5 #[.int .u8 0] := ⟨.int .u8 0, by kernel_rfl, rfl⟩
@[go_sem] theorem sc_6 : ScT Tryd.prog 6 := ⟨⟨_, Tryd.underlying6, rfl⟩, by kernel_rfl⟩
theorem zero_6 : ZeroT Tryd.prog 6 #[.int .u8 0] := ⟨.int .u8 0, by kernel_rfl, rfl⟩
theorem agg_7 : AggT Tryd.prog 7 4 := ⟨_, Tryd.underlying7, rfl, by kernel_rfl⟩
theorem zero_7 : ZeroT Tryd.prog 7 #[.int .i64 0, .int .i64 0, .bool false, .int .u8 0] := ⟨.agg #[.int .i64 0, .int .i64 0, .bool false, .int .u8 0], by kernel_rfl, rfl⟩
theorem agg_8 : AggT Tryd.prog 8 4 := ⟨_, Tryd.underlying8, rfl, by kernel_rfl⟩
theorem zero_8 : ZeroT Tryd.prog 8 #[.int .i64 0, .int .i64 0, .bool false, .int .u8 0] := ⟨.agg #[.int .i64 0, .int .i64 0, .bool false, .int .u8 0], by kernel_rfl, rfl⟩
@[go_sem] theorem sc_9 : ScT Tryd.prog 9 := ⟨⟨_, Tryd.underlying9, rfl⟩, by kernel_rfl⟩
theorem zero_9 : ZeroT Tryd.prog 9 #[.string .empty] := ⟨.string .empty, by kernel_rfl, rfl⟩
@[go_sem] theorem sc_10 : ScT Tryd.prog 10 := ⟨⟨_, Tryd.underlying10, rfl⟩, by kernel_rfl⟩
theorem zero_10 : ZeroT Tryd.prog 10 #[.string .empty] := ⟨.string .empty, by kernel_rfl, rfl⟩
@[go_sem] theorem sc_11 : ScT Tryd.prog 11 := ⟨⟨_, Tryd.underlying11, rfl⟩, by kernel_rfl⟩
theorem zero_11 : ZeroT Tryd.prog 11 #[.string .empty] := ⟨.string .empty, by kernel_rfl, rfl⟩
@[go_sem] theorem sc_12 : ScT Tryd.prog 12 := ⟨⟨_, Tryd.underlying12, rfl⟩, by kernel_rfl⟩
theorem zero_12 : ZeroT Tryd.prog 12 #[.int .u64 0] := ⟨.int .u64 0, by kernel_rfl, rfl⟩
theorem agg_13 : AggT Tryd.prog 13 2 := ⟨_, Tryd.underlying13, rfl, by kernel_rfl⟩
theorem zero_13 : ZeroT Tryd.prog 13 #[.string .empty, .int .u64 0] := ⟨.agg #[.string .empty, .int .u64 0], by kernel_rfl, rfl⟩
theorem agg_14 : AggT Tryd.prog 14 2 := ⟨_, Tryd.underlying14, rfl, by kernel_rfl⟩
theorem zero_14 : ZeroT Tryd.prog 14 #[.string .empty, .int .u64 0] := ⟨.agg #[.string .empty, .int .u64 0], by kernel_rfl, rfl⟩
@[go_sem] theorem sc_15 : ScT Tryd.prog 15 := ⟨⟨_, Tryd.underlying15, rfl⟩, by kernel_rfl⟩
theorem zero_15 : ZeroT Tryd.prog 15 #[.pointer none] := ⟨.pointer none, by kernel_rfl, rfl⟩
@[go_sem] theorem sc_16 : ScT Tryd.prog 16 := ⟨⟨_, Tryd.underlying16, rfl⟩, by kernel_rfl⟩
theorem zero_16 : ZeroT Tryd.prog 16 #[.pointer none] := ⟨.pointer none, by kernel_rfl, rfl⟩
@[go_sem] theorem sc_17 : ScT Tryd.prog 17 := ⟨⟨_, Tryd.underlying17, rfl⟩, by kernel_rfl⟩
theorem zero_17 : ZeroT Tryd.prog 17 #[.pointer none] := ⟨.pointer none, by kernel_rfl, rfl⟩
theorem agg_18 : AggT Tryd.prog 18 1 := ⟨_, Tryd.underlying18, rfl, by kernel_rfl⟩
theorem zero_18 : ZeroT Tryd.prog 18 #[.pointer none] := ⟨.agg #[.pointer none], by kernel_rfl, rfl⟩
theorem agg_19 : AggT Tryd.prog 19 1 := ⟨_, Tryd.underlying19, rfl, by kernel_rfl⟩
theorem zero_19 : ZeroT Tryd.prog 19 #[.pointer none] := ⟨.agg #[.pointer none], by kernel_rfl, rfl⟩
@[go_sem] theorem sc_20 : ScT Tryd.prog 20 := ⟨⟨_, Tryd.underlying20, rfl⟩, by kernel_rfl⟩
theorem zero_20 : ZeroT Tryd.prog 20 #[.nilIface] := ⟨.nilIface, by kernel_rfl, rfl⟩
@[go_sem] theorem sc_21 : ScT Tryd.prog 21 := ⟨⟨_, Tryd.underlying21, rfl⟩, by kernel_rfl⟩
theorem zero_21 : ZeroT Tryd.prog 21 #[.int .i32 0] := ⟨.int .i32 0, by kernel_rfl, rfl⟩
@[go_sem] theorem sc_22 : ScT Tryd.prog 22 := ⟨⟨_, Tryd.underlying22, rfl⟩, by kernel_rfl⟩
theorem zero_22 : ZeroT Tryd.prog 22 #[.slice none 0 0] := ⟨.slice none 0 0, by kernel_rfl, rfl⟩
theorem agg_23 : AggT Tryd.prog 23 8 := ⟨_, Tryd.underlying23, rfl, by kernel_rfl⟩
theorem zero_23 : ZeroT Tryd.prog 23 #[.int .i64 0, .int .i64 0, .int .i64 0, .int .i64 0, .int .i64 0, .int .i64 0, .int .i64 0, .int .i64 0] := ⟨.agg #[.int .i64 0, .int .i64 0, .int .i64 0, .int .i64 0, .int .i64 0, .int .i64 0, .int .i64 0, .int .i64 0], by kernel_rfl, rfl⟩
theorem agg_24 : AggT Tryd.prog 24 8 := ⟨_, Tryd.underlying24, rfl, by kernel_rfl⟩
theorem zero_24 : ZeroT Tryd.prog 24 (clk clk0) := ⟨.agg (clk clk0), by kernel_rfl, rfl⟩
@[go_sem] theorem sc_25 : ScT Tryd.prog 25 := ⟨⟨_, Tryd.underlying25, rfl⟩, by kernel_rfl⟩
@[go_sem] theorem sc_26 : ScT Tryd.prog 26 := ⟨⟨_, Tryd.underlying26, rfl⟩, by kernel_rfl⟩
theorem zero_26 : ZeroT Tryd.prog 26 #[.pointer none] := ⟨.pointer none, by kernel_rfl, rfl⟩
@[go_sem] theorem sc_27 : ScT Tryd.prog 27 := ⟨⟨_, Tryd.underlying27, rfl⟩, by kernel_rfl⟩
theorem zero_27 : ZeroT Tryd.prog 27 #[.nilIface] := ⟨.nilIface, by kernel_rfl, rfl⟩
@[go_sem] theorem sc_28 : ScT Tryd.prog 28 := ⟨⟨_, Tryd.underlying28, rfl⟩, by kernel_rfl⟩
theorem zero_28 : ZeroT Tryd.prog 28 #[.nilIface] := ⟨.nilIface, by kernel_rfl, rfl⟩
@[go_sem] theorem sc_30 : ScT Tryd.prog 30 := ⟨⟨_, Tryd.underlying30, rfl⟩, by kernel_rfl⟩
@[go_sem] theorem sc_31 : ScT Tryd.prog 31 := ⟨⟨_, Tryd.underlying31, rfl⟩, by kernel_rfl⟩
theorem agg_32 : AggT Tryd.prog 32 4 := ⟨_, Tryd.underlying32, rfl, by kernel_rfl⟩
theorem zero_32 : ZeroT Tryd.prog 32 #[.int .i64 0, .int .i64 0, .int .i32 0, .int .i64 0] := ⟨.agg #[.int .i64 0, .int .i64 0, .int .i32 0, .int .i64 0], by kernel_rfl, rfl⟩
theorem agg_33 : AggT Tryd.prog 33 4 := ⟨_, Tryd.underlying33, rfl, by kernel_rfl⟩
theorem zero_33 : ZeroT Tryd.prog 33 #[.int .i64 0, .int .i64 0, .int .i32 0, .int .i64 0] := ⟨.agg #[.int .i64 0, .int .i64 0, .int .i32 0, .int .i64 0], by kernel_rfl, rfl⟩
theorem agg_34 : AggT Tryd.prog 34 13 := ⟨_, Tryd.underlying34, rfl, by kernel_rfl⟩
theorem zero_34 : ZeroT Tryd.prog 34 #[.int .i64 0, .int .i64 0, .int .i32 0, .int .i64 0, .int .i64 0, .int .i64 0, .int .i64 0, .int .i64 0, .int .i64 0, .int .i64 0, .int .i64 0, .int .i64 0, .int .i64 0] := ⟨.agg #[.int .i64 0, .int .i64 0, .int .i32 0, .int .i64 0, .int .i64 0, .int .i64 0, .int .i64 0, .int .i64 0, .int .i64 0, .int .i64 0, .int .i64 0, .int .i64 0, .int .i64 0], by kernel_rfl, rfl⟩
theorem agg_35 : AggT Tryd.prog 35 13 := ⟨_, Tryd.underlying35, rfl, by kernel_rfl⟩
theorem zero_35 : ZeroT Tryd.prog 35 (actv act0) := ⟨.agg (actv act0), by kernel_rfl, rfl⟩
@[go_sem] theorem sc_36 : ScT Tryd.prog 36 := ⟨⟨_, Tryd.underlying36, rfl⟩, by kernel_rfl⟩
@[go_sem] theorem sc_37 : ScT Tryd.prog 37 := ⟨⟨_, Tryd.underlying37, rfl⟩, by kernel_rfl⟩
@[go_sem] theorem sc_39 : ScT Tryd.prog 39 := ⟨⟨_, Tryd.underlying39, rfl⟩, by kernel_rfl⟩
@[go_sem] theorem sc_41 : ScT Tryd.prog 41 := ⟨⟨_, Tryd.underlying41, rfl⟩, by kernel_rfl⟩
@[go_sem] theorem sc_42 : ScT Tryd.prog 42 := ⟨⟨_, Tryd.underlying42, rfl⟩, by kernel_rfl⟩
@[go_sem] theorem sc_43 : ScT Tryd.prog 43 := ⟨⟨_, Tryd.underlying43, rfl⟩, by kernel_rfl⟩
@[go_sem] theorem sc_44 : ScT Tryd.prog 44 := ⟨⟨_, Tryd.underlying44, rfl⟩, by kernel_rfl⟩
@[go_sem] theorem sc_45 : ScT Tryd.prog 45 := ⟨⟨_, Tryd.underlying45, rfl⟩, by kernel_rfl⟩
@[go_sem] theorem sc_46 : ScT Tryd.prog 46 := ⟨⟨_, Tryd.underlying46, rfl⟩, by kernel_rfl⟩
@[go_sem] theorem sc_47 : ScT Tryd.prog 47 := ⟨⟨_, Tryd.underlying47, rfl⟩, by kernel_rfl⟩
@[go_sem] theorem sc_48 : ScT Tryd.prog 48 := ⟨⟨_, Tryd.underlying48, rfl⟩, by kernel_rfl⟩
@[go_sem] theorem sc_49 : ScT Tryd.prog 49 := ⟨⟨_, Tryd.underlying49, rfl⟩, by kernel_rfl⟩
theorem zero_49 : ZeroT Tryd.prog 49 #[.slice none 0 0] := ⟨.slice none 0 0, by kernel_rfl, rfl⟩
@[go_sem] theorem sc_50 : ScT Tryd.prog 50 := ⟨⟨_, Tryd.underlying50, rfl⟩, by kernel_rfl⟩
@[go_sem] theorem sc_51 : ScT Tryd.prog 51 := ⟨⟨_, Tryd.underlying51, rfl⟩, by kernel_rfl⟩
theorem zero_51 : ZeroT Tryd.prog 51 #[.slice none 0 0] := ⟨.slice none 0 0, by kernel_rfl, rfl⟩
@[go_sem] theorem sc_52 : ScT Tryd.prog 52 := ⟨⟨_, Tryd.underlying52, rfl⟩, by kernel_rfl⟩
theorem zero_52 : ZeroT Tryd.prog 52 #[.slice none 0 0] := ⟨.slice none 0 0, by kernel_rfl, rfl⟩
theorem agg_53 : AggT Tryd.prog 53 3 := ⟨_, Tryd.underlying53, rfl, by kernel_rfl⟩
theorem zero_53 : ZeroT Tryd.prog 53 #[.int .i64 0, .slice none 0 0, .slice none 0 0] := ⟨.agg #[.int .i64 0, .slice none 0 0, .slice none 0 0], by kernel_rfl, rfl⟩
theorem agg_54 : AggT Tryd.prog 54 3 := ⟨_, Tryd.underlying54, rfl, by kernel_rfl⟩
theorem zero_54 : ZeroT Tryd.prog 54 (nov nov0) := ⟨.agg (nov nov0), by kernel_rfl, rfl⟩
@[go_sem] theorem sc_55 : ScT Tryd.prog 55 := ⟨⟨_, Tryd.underlying55, rfl⟩, by kernel_rfl⟩
@[go_sem] theorem sc_56 : ScT Tryd.prog 56 := ⟨⟨_, Tryd.underlying56, rfl⟩, by kernel_rfl⟩
theorem zero_56 : ZeroT Tryd.prog 56 #[.pointer none] := ⟨.pointer none, by kernel_rfl, rfl⟩
@[go_sem] theorem sc_57 : ScT Tryd.prog 57 := ⟨⟨_, Tryd.underlying57, rfl⟩, by kernel_rfl⟩
theorem zero_57 : ZeroT Tryd.prog 57 #[.pointer none] := ⟨.pointer none, by kernel_rfl, rfl⟩
theorem agg_58 : AggT Tryd.prog 58 2 := ⟨_, Tryd.underlying58, rfl, by kernel_rfl⟩
theorem zero_58 : ZeroT Tryd.prog 58 #[.int .i64 0, .slice none 0 0] := ⟨.agg #[.int .i64 0, .slice none 0 0], by kernel_rfl, rfl⟩
theorem agg_59 : AggT Tryd.prog 59 2 := ⟨_, Tryd.underlying59, rfl, by kernel_rfl⟩
theorem zero_59 : ZeroT Tryd.prog 59 #[.int .i64 0, .slice none 0 0] := ⟨.agg #[.int .i64 0, .slice none 0 0], by kernel_rfl, rfl⟩
theorem agg_60 : AggT Tryd.prog 60 2 := ⟨_, Tryd.underlying60, rfl, by kernel_rfl⟩
theorem zero_60 : ZeroT Tryd.prog 60 #[.pointer none, .pointer none] := ⟨.agg #[.pointer none, .pointer none], by kernel_rfl, rfl⟩
theorem agg_61 : AggT Tryd.prog 61 2 := ⟨_, Tryd.underlying61, rfl, by kernel_rfl⟩
theorem zero_61 : ZeroT Tryd.prog 61 #[.pointer none, .pointer none] := ⟨.agg #[.pointer none, .pointer none], by kernel_rfl, rfl⟩
@[go_sem] theorem sc_62 : ScT Tryd.prog 62 := ⟨⟨_, Tryd.underlying62, rfl⟩, by kernel_rfl⟩
theorem agg_63 : AggT Tryd.prog 63 22 := ⟨_, Tryd.underlying63, rfl, by kernel_rfl⟩
theorem zero_63 : ZeroT Tryd.prog 63 #[.int .i64 0, .int .i64 0, .int .i64 0, .int .i64 0, .int .i64 0, .int .i64 0, .int .i64 0, .int .i64 0, .int .i64 0, .int .i64 0, .int .i64 0, .int .i32 0, .int .i64 0, .int .i64 0, .int .i64 0, .int .i64 0, .int .i64 0, .int .i64 0, .int .i64 0, .int .i64 0, .int .i64 0, .int .i64 0] := ⟨.agg #[.int .i64 0, .int .i64 0, .int .i64 0, .int .i64 0, .int .i64 0, .int .i64 0, .int .i64 0, .int .i64 0, .int .i64 0, .int .i64 0, .int .i64 0, .int .i32 0, .int .i64 0, .int .i64 0, .int .i64 0, .int .i64 0, .int .i64 0, .int .i64 0, .int .i64 0, .int .i64 0, .int .i64 0, .int .i64 0], by kernel_rfl, rfl⟩
theorem agg_64 : AggT Tryd.prog 64 22 := ⟨_, Tryd.underlying64, rfl, by kernel_rfl⟩
theorem zero_64 : ZeroT Tryd.prog 64 #[.int .i64 0, .int .i64 0, .int .i64 0, .int .i64 0, .int .i64 0, .int .i64 0, .int .i64 0, .int .i64 0, .int .i64 0, .int .i64 0, .int .i64 0, .int .i32 0, .int .i64 0, .int .i64 0, .int .i64 0, .int .i64 0, .int .i64 0, .int .i64 0, .int .i64 0, .int .i64 0, .int .i64 0, .int .i64 0] := ⟨.agg #[.int .i64 0, .int .i64 0, .int .i64 0, .int .i64 0, .int .i64 0, .int .i64 0, .int .i64 0, .int .i64 0, .int .i64 0, .int .i64 0, .int .i64 0, .int .i32 0, .int .i64 0, .int .i64 0, .int .i64 0, .int .i64 0, .int .i64 0, .int .i64 0, .int .i64 0, .int .i64 0, .int .i64 0, .int .i64 0], by kernel_rfl, rfl⟩
@[go_sem] theorem sc_65 : ScT Tryd.prog 65 := ⟨⟨_, Tryd.underlying65, rfl⟩, by kernel_rfl⟩
@[go_sem] theorem sc_66 : ScT Tryd.prog 66 := ⟨⟨_, Tryd.underlying66, rfl⟩, by kernel_rfl⟩
@[go_sem] theorem sc_67 : ScT Tryd.prog 67 := ⟨⟨_, Tryd.underlying67, rfl⟩, by kernel_rfl⟩
@[go_sem] theorem sc_68 : ScT Tryd.prog 68 := ⟨⟨_, Tryd.underlying68, rfl⟩, by kernel_rfl⟩
theorem zero_68 : ZeroT Tryd.prog 68 #[.map none] := ⟨.map none, by kernel_rfl, rfl⟩
theorem agg_69 : AggT Tryd.prog 69 3 := ⟨_, Tryd.underlying69, rfl, by kernel_rfl⟩
theorem zero_69 : ZeroT Tryd.prog 69 #[.int .i64 0, .slice none 0 0, .map none] := ⟨.agg #[.int .i64 0, .slice none 0 0, .map none], by kernel_rfl, rfl⟩
theorem agg_70 : AggT Tryd.prog 70 3 := ⟨_, Tryd.underlying70, rfl, by kernel_rfl⟩
theorem zero_70 : ZeroT Tryd.prog 70 #[.int .i64 0, .slice none 0 0, .map none] := ⟨.agg #[.int .i64 0, .slice none 0 0, .map none], by kernel_rfl, rfl⟩
theorem agg_71 : AggT Tryd.prog 71 0 := ⟨_, Tryd.underlying71, rfl, by kernel_rfl⟩
theorem zero_71 : ZeroT Tryd.prog 71 #[] := ⟨.agg #[], by kernel_rfl, rfl⟩
theorem agg_73 : AggT Tryd.prog 73 2 := ⟨_, Tryd.underlying73, rfl, by kernel_rfl⟩
theorem zero_73 : ZeroT Tryd.prog 73 #[.int .i64 0, .int .i64 0] := ⟨.agg #[.int .i64 0, .int .i64 0], by kernel_rfl, rfl⟩
theorem agg_74 : AggT Tryd.prog 74 2 := ⟨_, Tryd.underlying74, rfl, by kernel_rfl⟩
theorem zero_74 : ZeroT Tryd.prog 74 #[.int .i64 0, .int .i64 0] := ⟨.agg #[.int .i64 0, .int .i64 0], by kernel_rfl, rfl⟩
@[go_sem] theorem sc_75 : ScT Tryd.prog 75 := ⟨⟨_, Tryd.underlying75, rfl⟩, by kernel_rfl⟩
@[go_sem] theorem sc_76 : ScT Tryd.prog 76 := ⟨⟨_, Tryd.underlying76, rfl⟩, by kernel_rfl⟩
@[go_sem] theorem sc_77 : ScT Tryd.prog 77 := ⟨⟨_, Tryd.underlying77, rfl⟩, by kernel_rfl⟩
@[go_sem] theorem sc_78 : ScT Tryd.prog 78 := ⟨⟨_, Tryd.underlying78, rfl⟩, by kernel_rfl⟩
@[go_sem] theorem sc_79 : ScT Tryd.prog 79 := ⟨⟨_, Tryd.underlying79, rfl⟩, by kernel_rfl⟩
@[go_sem] theorem sc_80 : ScT Tryd.prog 80 := ⟨⟨_, Tryd.underlying80, rfl⟩, by kernel_rfl⟩
@[go_sem] theorem sc_81 : ScT Tryd.prog 81 := ⟨⟨_, Tryd.underlying81, rfl⟩, by kernel_rfl⟩
@[go_sem] theorem sc_82 : ScT Tryd.prog 82 := ⟨⟨_, Tryd.underlying82, rfl⟩, by kernel_rfl⟩
@[go_sem] theorem sc_83 : ScT Tryd.prog 83 := ⟨⟨_, Tryd.underlying83, rfl⟩, by kernel_rfl⟩
@[go_sem] theorem sc_84 : ScT Tryd.prog 84 := ⟨⟨_, Tryd.underlying84, rfl⟩, by kernel_rfl⟩
@[go_sem] theorem sc_85 : ScT Tryd.prog 85 := ⟨⟨_, Tryd.underlying85, rfl⟩, by kernel_rfl⟩
@[go_sem] theorem sc_86 : ScT Tryd.prog 86 := ⟨⟨_, Tryd.underlying86, rfl⟩, by kernel_rfl⟩
@[go_sem] theorem sc_87 : ScT Tryd.prog 87 := ⟨⟨_, Tryd.underlying87, rfl⟩, by kernel_rfl⟩
@[go_sem] theorem sc_88 : ScT Tryd.prog 88 := ⟨⟨_, Tryd.underlying88, rfl⟩, by kernel_rfl⟩
@[go_sem] theorem sc_89 : ScT Tryd.prog 89 := ⟨⟨_, Tryd.underlying89, rfl⟩, by kernel_rfl⟩
@[go_sem] theorem sc_90 : ScT Tryd.prog 90 := ⟨⟨_, Tryd.underlying90, rfl⟩, by kernel_rfl⟩
@[go_sem] theorem sc_91 : ScT Tryd.prog 91 := ⟨⟨_, Tryd.underlying91, rfl⟩, by kernel_rfl⟩
theorem zero_91 : ZeroT Tryd.prog 91 #[.pointer none] := ⟨.pointer none, by kernel_rfl, rfl⟩
theorem agg_92 : AggT Tryd.prog 92 4 := ⟨_, Tryd.underlying92, rfl, by kernel_rfl⟩
theorem zero_92 : ZeroT Tryd.prog 92 #[.string .empty, .string .empty, .int .i64 0, .nilIface] := ⟨.agg #[.string .empty, .string .empty, .int .i64 0, .nilIface], by kernel_rfl, rfl⟩
theorem agg_93 : AggT Tryd.prog 93 4 := ⟨_, Tryd.underlying93, rfl, by kernel_rfl⟩
theorem zero_93 : ZeroT Tryd.prog 93 #[.string .empty, .string .empty, .int .i64 0, .nilIface] := ⟨.agg #[.string .empty, .string .empty, .int .i64 0, .nilIface], by kernel_rfl, rfl⟩
@[go_sem] theorem sc_94 : ScT Tryd.prog 94 := ⟨⟨_, Tryd.underlying94, rfl⟩, by kernel_rfl⟩
@[go_sem] theorem sc_95 : ScT Tryd.prog 95 := ⟨⟨_, Tryd.underlying95, rfl⟩, by kernel_rfl⟩
@[go_sem] theorem sc_96 : ScT Tryd.prog 96 := ⟨⟨_, Tryd.underlying96, rfl⟩, by kernel_rfl⟩
theorem agg_97 : AggT Tryd.prog 97 3 := ⟨_, Tryd.underlying97, rfl, by kernel_rfl⟩
theorem zero_97 : ZeroT Tryd.prog 97 #[.string .empty, .string .empty, .int .i64 0] := ⟨.agg #[.string .empty, .string .empty, .int .i64 0], by kernel_rfl, rfl⟩
theorem agg_98 : AggT Tryd.prog 98 3 := ⟨_, Tryd.underlying98, rfl, by kernel_rfl⟩
theorem zero_98 : ZeroT Tryd.prog 98 (lnk lnk0) := ⟨.agg (lnk lnk0), by kernel_rfl, rfl⟩
@[go_sem] theorem sc_99 : ScT Tryd.prog 99 := ⟨⟨_, Tryd.underlying99, rfl⟩, by kernel_rfl⟩
@[go_sem] theorem sc_100 : ScT Tryd.prog 100 := ⟨⟨_, Tryd.underlying100, rfl⟩, by kernel_rfl⟩
@[go_sem] theorem sc_101 : ScT Tryd.prog 101 := ⟨⟨_, Tryd.underlying101, rfl⟩, by kernel_rfl⟩
@[go_sem] theorem sc_102 : ScT Tryd.prog 102 := ⟨⟨_, Tryd.underlying102, rfl⟩, by kernel_rfl⟩
theorem zero_102 : ZeroT Tryd.prog 102 #[.pointer none] := ⟨.pointer none, by kernel_rfl, rfl⟩
@[go_sem] theorem sc_103 : ScT Tryd.prog 103 := ⟨⟨_, Tryd.underlying103, rfl⟩, by kernel_rfl⟩
theorem zero_103 : ZeroT Tryd.prog 103 #[.slice none 0 0] := ⟨.slice none 0 0, by kernel_rfl, rfl⟩
@[go_sem] theorem sc_104 : ScT Tryd.prog 104 := ⟨⟨_, Tryd.underlying104, rfl⟩, by kernel_rfl⟩
@[go_sem] theorem sc_105 : ScT Tryd.prog 105 := ⟨⟨_, Tryd.underlying105, rfl⟩, by kernel_rfl⟩
@[go_sem] theorem sc_106 : ScT Tryd.prog 106 := ⟨⟨_, Tryd.underlying106, rfl⟩, by kernel_rfl⟩
theorem agg_107 : AggT Tryd.prog 107 1 := ⟨_, Tryd.underlying107, rfl, by kernel_rfl⟩
theorem zero_107 : ZeroT Tryd.prog 107 #[.slice none 0 0] := ⟨.agg #[.slice none 0 0], by kernel_rfl, rfl⟩
theorem agg_108 : AggT Tryd.prog 108 1 := ⟨_, Tryd.underlying108, rfl, by kernel_rfl⟩
theorem zero_108 : ZeroT Tryd.prog 108 #[.slice none 0 0] := ⟨.agg #[.slice none 0 0], by kernel_rfl, rfl⟩
@[go_sem] theorem sc_109 : ScT Tryd.prog 109 := ⟨⟨_, Tryd.underlying109, rfl⟩, by kernel_rfl⟩
theorem zero_109 : ZeroT Tryd.prog 109 #[.pointer none] := ⟨.pointer none, by kernel_rfl, rfl⟩
@[go_sem] theorem sc_110 : ScT Tryd.prog 110 := ⟨⟨_, Tryd.underlying110, rfl⟩, by kernel_rfl⟩
theorem agg_111 : AggT Tryd.prog 111 4 := ⟨_, Tryd.underlying111, rfl, by kernel_rfl⟩
theorem zero_111 : ZeroT Tryd.prog 111 #[.pointer none, .pointer none, .pointer none, .string .empty] := ⟨.agg #[.pointer none, .pointer none, .pointer none, .string .empty], by kernel_rfl, rfl⟩
theorem agg_112 : AggT Tryd.prog 112 4 := ⟨_, Tryd.underlying112, rfl, by kernel_rfl⟩
theorem zero_112 : ZeroT Tryd.prog 112 #[.pointer none, .pointer none, .pointer none, .string .empty] := ⟨.agg #[.pointer none, .pointer none, .pointer none, .string .empty], by kernel_rfl, rfl⟩
theorem agg_113 : AggT Tryd.prog 113 0 := ⟨_, Tryd.underlying113, rfl, by kernel_rfl⟩
theorem zero_113 : ZeroT Tryd.prog 113 #[] := ⟨.agg #[], by kernel_rfl, rfl⟩
theorem agg_114 : AggT Tryd.prog 114 0 := ⟨_, Tryd.underlying114, rfl, by kernel_rfl⟩
theorem zero_114 : ZeroT Tryd.prog 114 #[] := ⟨.agg #[], by kernel_rfl, rfl⟩
theorem agg_115 : AggT Tryd.prog 115 0 := ⟨_, Tryd.underlying115, rfl, by kernel_rfl⟩
theorem zero_115 : ZeroT Tryd.prog 115 #[] := ⟨.agg #[], by kernel_rfl, rfl⟩
@[go_sem] theorem sc_116 : ScT Tryd.prog 116 := ⟨⟨_, Tryd.underlying116, rfl⟩, by kernel_rfl⟩
theorem zero_116 : ZeroT Tryd.prog 116 #[.int .u32 0] := ⟨.int .u32 0, by kernel_rfl, rfl⟩
@[go_sem] theorem sc_117 : ScT Tryd.prog 117 := ⟨⟨_, Tryd.underlying117, rfl⟩, by kernel_rfl⟩
theorem zero_117 : ZeroT Tryd.prog 117 #[.int .u8 0] := ⟨.int .u8 0, by kernel_rfl, rfl⟩
@[go_sem] theorem sc_118 : ScT Tryd.prog 118 := ⟨⟨_, Tryd.underlying118, rfl⟩, by kernel_rfl⟩
theorem zero_118 : ZeroT Tryd.prog 118 #[.int .u8 0] := ⟨.int .u8 0, by kernel_rfl, rfl⟩
@[go_sem] theorem sc_119 : ScT Tryd.prog 119 := ⟨⟨_, Tryd.underlying119, rfl⟩, by kernel_rfl⟩
@[go_sem] theorem sc_120 : ScT Tryd.prog 120 := ⟨⟨_, Tryd.underlying120, rfl⟩, by kernel_rfl⟩
theorem zero_120 : ZeroT Tryd.prog 120 #[.pointer none] := ⟨.pointer none, by kernel_rfl, rfl⟩
@[go_sem] theorem sc_121 : ScT Tryd.prog 121 := ⟨⟨_, Tryd.underlying121, rfl⟩, by kernel_rfl⟩
theorem zero_121 : ZeroT Tryd.prog 121 #[.int .i32 0] := ⟨.int .i32 0, by kernel_rfl, rfl⟩
@[go_sem] theorem sc_122 : ScT Tryd.prog 122 := ⟨⟨_, Tryd.underlying122, rfl⟩, by kernel_rfl⟩
theorem zero_122 : ZeroT Tryd.prog 122 #[.int .i32 0] := ⟨.int .i32 0, by kernel_rfl, rfl⟩
theorem agg_123 : AggT Tryd.prog 123 11 := ⟨_, Tryd.underlying123, rfl, by kernel_rfl⟩
theorem zero_123 : ZeroT Tryd.prog 123 #[.int .u64 0, .int .u64 0, .int .u32 0, .int .u8 0, .int .u8 0, .int .u8 0, .int .u8 0, .nilFunc, .pointer none, .int .i32 0, .int .i32 0] := ⟨.agg #[.int .u64 0, .int .u64 0, .int .u32 0, .int .u8 0, .int .u8 0, .int .u8 0, .int .u8 0, .nilFunc, .pointer none, .int .i32 0, .int .i32 0], by kernel_rfl, rfl⟩
theorem agg_124 : AggT Tryd.prog 124 11 := ⟨_, Tryd.underlying124, rfl, by kernel_rfl⟩
theorem zero_124 : ZeroT Tryd.prog 124 #[.int .u64 0, .int .u64 0, .int .u32 0, .int .u8 0, .int .u8 0, .int .u8 0, .int .u8 0, .nilFunc, .pointer none, .int .i32 0, .int .i32 0] := ⟨.agg #[.int .u64 0, .int .u64 0, .int .u32 0, .int .u8 0, .int .u8 0, .int .u8 0, .int .u8 0, .nilFunc, .pointer none, .int .i32 0, .int .i32 0], by kernel_rfl, rfl⟩
theorem agg_125 : AggT Tryd.prog 125 1 := ⟨_, Tryd.underlying125, rfl, by kernel_rfl⟩
theorem zero_125 : ZeroT Tryd.prog 125 #[.string .empty] := ⟨.agg #[.string .empty], by kernel_rfl, rfl⟩
theorem agg_126 : AggT Tryd.prog 126 1 := ⟨_, Tryd.underlying126, rfl, by kernel_rfl⟩
theorem zero_126 : ZeroT Tryd.prog 126 #[.string .empty] := ⟨.agg #[.string .empty], by kernel_rfl, rfl⟩
@[go_sem] theorem sc_128 : ScT Tryd.prog 128 := ⟨⟨_, Tryd.underlying128, rfl⟩, by kernel_rfl⟩
theorem app_22 : AppT Tryd.prog 22 35 13 104 actv := ⟨Tryd.underlying22, ⟨.agg (actv act0), by kernel_rfl, (by first | rfl | (simp only [Value.cells, go_sem]))⟩, by decide, fun a => by simp only [go_sem], fun a => by simp only [go_sem]⟩
theorem app_51 : AppT Tryd.prog 51 98 3 40 lnk := ⟨Tryd.underlying51, ⟨.agg (lnk lnk0), by kernel_rfl, (by first | rfl | (simp only [Value.cells, go_sem]))⟩, by decide, fun a => by simp only [go_sem], fun a => by simp only [go_sem]⟩
theorem app_52 : AppT Tryd.prog 52 3 1 8 intv := ⟨Tryd.underlying52, ⟨.int .i64 0, by kernel_rfl, (by first | rfl | (simp only [Value.cells, go_sem]))⟩, by decide, fun a => by simp only [go_sem], fun a => by simp only [go_sem]⟩
theorem bst_22 : BsT Tryd.prog 22 35 13 := ⟨Tryd.underlying22, .agg (actv act0), by kernel_rfl, (by first | rfl | (simp only [Value.cells, go_sem])), by decide, by decide⟩
theorem bst_49 : BsT Tryd.prog 49 64 22 := ⟨Tryd.underlying49, .agg #[.int .i64 0, .int .i64 0, .int .i64 0, .int .i64 0, .int .i64 0, .int .i64 0, .int .i64 0, .int .i64 0, .int .i64 0, .int .i64 0, .int .i64 0, .int .i32 0, .int .i64 0, .int .i64 0, .int .i64 0, .int .i64 0, .int .i64 0, .int .i64 0, .int .i64 0, .int .i64 0, .int .i64 0, .int .i64 0], by kernel_rfl, (by first | rfl | (simp only [Value.cells, go_sem])), by decide, by decide⟩
theorem bst_51 : BsT Tryd.prog 51 98 3 := ⟨Tryd.underlying51, .agg (lnk lnk0), by kernel_rfl, (by first | rfl | (simp only [Value.cells, go_sem])), by decide, by decide⟩
theorem bst_52 : BsT Tryd.prog 52 3 1 := ⟨Tryd.underlying52, .int .i64 0, by kernel_rfl, (by first | rfl | (simp only [Value.cells, go_sem])), by decide, by decide⟩
theorem bst_103 : BsT Tryd.prog 103 28 1 := ⟨Tryd.underlying103, .nilIface, by kernel_rfl, (by first | rfl | (simp only [Value.cells, go_sem])), by decide, by decide⟩
theorem bld_0  : BuildT Tryd.prog 24 #[] (.agg (clk clk0)) := fun w => by kernel_rfl
theorem bld_1 (n0 : Int) : BuildT Tryd.prog 24 #[(0, .int .i64 n0)] (.agg (clk (setAt clk0 0 n0))) := fun w => by kernel_rfl
theorem bld_2  : BuildT Tryd.prog 35 #[] (.agg (actv ⟨0, 0, 0, 0, 0, clk0⟩)) := fun w => by kernel_rfl
theorem bld_3 (x1_0 : Int) : BuildT Tryd.prog 35 #[(1, .int .i64 x1_0)] (.agg (actv ⟨0, 0, 0, 0, x1_0, clk0⟩)) := fun w => by kernel_rfl
theorem bld_4 (x1_0 : Int) (x2_0 : Nat → Int) : BuildT Tryd.prog 35 #[(1, .int .i64 x1_0), (2, .agg (clk x2_0))] (.agg (actv ⟨0, 0, 0, 0, x1_0, x2_0⟩)) := fun w => by kernel_rfl
theorem bld_5 (x0_0 : Int) (x1_0_1 : Option Addr) (x1_0_2 x1_0_3 : Nat) (x2_0_1 : Option Addr) (x2_0_2 x2_0_3 : Nat) : BuildT Tryd.prog 54 #[(0, .int .i64 x0_0), (1, .slice x1_0_1 x1_0_2 x1_0_3), (2, .slice x2_0_1 x2_0_2 x2_0_3)] (.agg (nov ⟨x0_0, x1_0_1, x1_0_2, x1_0_3, x2_0_1, x2_0_2, x2_0_3⟩)) := fun w => by kernel_rfl
theorem bld_6 (x0_0 : Int) (x2_0_1 : Option Addr) (x2_0_2 x2_0_3 : Nat) : BuildT Tryd.prog 54 #[(0, .int .i64 x0_0), (2, .slice x2_0_1 x2_0_2 x2_0_3)] (.agg (nov ⟨x0_0, none, 0, 0, x2_0_1, x2_0_2, x2_0_3⟩)) := fun w => by kernel_rfl
theorem bld_7 (x0_0 : Int) : BuildT Tryd.prog 59 #[(0, .int .i64 x0_0)] (.agg #[.int .i64 x0_0, .slice none 0 0]) := fun w => by kernel_rfl
theorem bld_8 (x0_0 : Option Addr) (x1_0 : Option Addr) : BuildT Tryd.prog 61 #[(0, .pointer x0_0), (1, .pointer x1_0)] (.agg #[.pointer x0_0, .pointer x1_0]) := fun w => by kernel_rfl
theorem bld_9 (x0_0 : Int) (x2_0 : Option Nat) : BuildT Tryd.prog 70 #[(0, .int .i64 x0_0), (2, .map x2_0)] (.agg #[.int .i64 x0_0, .slice none 0 0, .map x2_0]) := fun w => by kernel_rfl
theorem bld_10  : BuildT Tryd.prog 71 #[] (.agg #[]) := fun w => by kernel_rfl
theorem bld_11 (x0_0 : Int) (x1_0 : Int) : BuildT Tryd.prog 74 #[(0, .int .i64 x0_0), (1, .int .i64 x1_0)] (.agg #[.int .i64 x0_0, .int .i64 x1_0]) := fun w => by kernel_rfl
theorem bld_12 (x0_0 : ByteArray) (x1_0 : ByteArray) (x2_0 : Int) (x3_0t : TypeId) (x3_0p : Option Addr) : BuildT Tryd.prog 93 #[(0, .string x0_0), (1, .string x1_0), (2, .int .i64 x2_0), (3, (.iface x3_0t (.pointer x3_0p)))] (.agg #[.string x0_0, .string x1_0, .int .i64 x2_0, (.iface x3_0t (.pointer x3_0p))]) := fun w => by kernel_rfl
theorem bld_13 (x0_0 : ByteArray) (x1_0 : ByteArray) (x2_0 : Int) : BuildT Tryd.prog 98 #[(0, .string x0_0), (1, .string x1_0), (2, .int .i64 x2_0)] (.agg (lnk ⟨x0_0, x1_0, x2_0⟩)) := fun w => by kernel_rfl
theorem bld_14 (x0_0 : ByteArray) : BuildT Tryd.prog 126 #[(0, .string x0_0)] (.agg #[.string x0_0]) := fun w => by kernel_rfl
@[go_sem] theorem enter_3 : entB Tryd.prog 3 = true := by kernel_rfl
@[go_sem] theorem enter_4 : entB Tryd.prog 4 = true := by kernel_rfl
@[go_sem] theorem enter_5 : entB Tryd.prog 5 = true := by kernel_rfl
@[go_sem] theorem enter_6 : entB Tryd.prog 6 = true := by kernel_rfl
@[go_sem] theorem enter_7 : entB Tryd.prog 7 = true := by kernel_rfl
@[go_sem] theorem enter_8 : entB Tryd.prog 8 = true := by kernel_rfl
@[go_sem] theorem enter_9 : entB Tryd.prog 9 = true := by kernel_rfl
@[go_sem] theorem enter_10 : entB Tryd.prog 10 = true := by kernel_rfl
@[go_sem] theorem enter_11 : entB Tryd.prog 11 = true := by kernel_rfl
@[go_sem] theorem enter_12 : entB Tryd.prog 12 = true := by kernel_rfl
@[go_sem] theorem enter_13 : entB Tryd.prog 13 = true := by kernel_rfl
@[go_sem] theorem enter_14 : entB Tryd.prog 14 = true := by kernel_rfl
@[go_sem] theorem enter_15 : entB Tryd.prog 15 = true := by kernel_rfl
@[go_sem] theorem enter_16 : entB Tryd.prog 16 = true := by kernel_rfl
@[go_sem] theorem enter_17 : entB Tryd.prog 17 = true := by kernel_rfl
@[go_sem] theorem enter_18 : entB Tryd.prog 18 = true := by kernel_rfl
@[go_sem] theorem enter_19 : entB Tryd.prog 19 = true := by kernel_rfl
@[go_sem] theorem enter_20 : entB Tryd.prog 20 = true := by kernel_rfl
@[go_sem] theorem enter_21 : entB Tryd.prog 21 = true := by kernel_rfl
@[go_sem] theorem enter_22 : entB Tryd.prog 22 = true := by kernel_rfl
@[go_sem] theorem enter_23 : entB Tryd.prog 23 = true := by kernel_rfl
@[go_sem] theorem enter_24 : entB Tryd.prog 24 = true := by kernel_rfl
@[go_sem] theorem enter_25 : entB Tryd.prog 25 = true := by kernel_rfl
@[go_sem] theorem enter_26 : entB Tryd.prog 26 = true := by kernel_rfl
@[go_sem] theorem enter_27 : entB Tryd.prog 27 = true := by kernel_rfl
@[go_sem] theorem enter_28 : entB Tryd.prog 28 = true := by kernel_rfl
@[go_sem] theorem enter_29 : entB Tryd.prog 29 = true := by kernel_rfl
@[go_sem] theorem enter_30 : entB Tryd.prog 30 = true := by kernel_rfl
@[go_sem] theorem enter_31 : entB Tryd.prog 31 = true := by kernel_rfl
@[go_sem] theorem enter_32 : entB Tryd.prog 32 = true := by kernel_rfl
@[go_sem] theorem enter_33 : entB Tryd.prog 33 = true := by kernel_rfl
@[go_sem] theorem enter_34 : entB Tryd.prog 34 = true := by kernel_rfl
@[go_sem] theorem enter_35 : entB Tryd.prog 35 = true := by kernel_rfl
@[go_sem] theorem enter_36 : entB Tryd.prog 36 = true := by kernel_rfl
@[go_sem] theorem enter_37 : entB Tryd.prog 37 = true := by kernel_rfl
@[go_sem] theorem enter_38 : entB Tryd.prog 38 = true := by kernel_rfl
@[go_sem] theorem enter_39 : entB Tryd.prog 39 = true := by kernel_rfl
@[go_sem] theorem enter_40 : entB Tryd.prog 40 = true := by kernel_rfl
@[go_sem] theorem enter_41 : entB Tryd.prog 41 = true := by kernel_rfl
@[go_sem] theorem enter_42 : entB Tryd.prog 42 = true := by kernel_rfl
@[go_sem] theorem enter_43 : entB Tryd.prog 43 = true := by kernel_rfl
@[go_sem] theorem enter_44 : entB Tryd.prog 44 = true := by kernel_rfl
@[go_sem] theorem enter_45 : entB Tryd.prog 45 = true := by kernel_rfl
@[go_sem] theorem enter_46 : entB Tryd.prog 46 = true := by kernel_rfl
@[go_sem] theorem enter_47 : entB Tryd.prog 47 = true := by kernel_rfl
@[go_sem] theorem enter_48 : entB Tryd.prog 48 = true := by kernel_rfl
@[go_sem] theorem enter_49 : entB Tryd.prog 49 = true := by kernel_rfl
@[go_sem] theorem enter_50 : entB Tryd.prog 50 = true := by kernel_rfl
@[go_sem] theorem enter_51 : entB Tryd.prog 51 = true := by kernel_rfl
@[go_sem] theorem enter_52 : entB Tryd.prog 52 = true := by kernel_rfl
@[go_sem] theorem enter_53 : entB Tryd.prog 53 = true := by kernel_rfl
@[go_sem] theorem enter_54 : entB Tryd.prog 54 = true := by kernel_rfl
@[go_sem] theorem enter_55 : entB Tryd.prog 55 = true := by kernel_rfl
@[go_sem] theorem enter_56 : entB Tryd.prog 56 = true := by kernel_rfl
@[go_sem] theorem enter_57 : entB Tryd.prog 57 = true := by kernel_rfl
@[go_sem] theorem enter_58 : entB Tryd.prog 58 = true := by kernel_rfl
@[go_sem] theorem enter_59 : entB Tryd.prog 59 = true := by kernel_rfl
@[go_sem] theorem enter_60 : entB Tryd.prog 60 = true := by kernel_rfl
@[go_sem] theorem enter_61 : entB Tryd.prog 61 = true := by kernel_rfl
@[go_sem] theorem enter_62 : entB Tryd.prog 62 = true := by kernel_rfl
@[go_sem] theorem enter_63 : entB Tryd.prog 63 = true := by kernel_rfl
@[go_sem] theorem enter_64 : entB Tryd.prog 64 = true := by kernel_rfl
@[go_sem] theorem enter_65 : entB Tryd.prog 65 = true := by kernel_rfl
@[go_sem] theorem enter_66 : entB Tryd.prog 66 = true := by kernel_rfl
@[go_sem] theorem enter_67 : entB Tryd.prog 67 = true := by kernel_rfl
@[go_sem] theorem enter_87 : entB Tryd.prog 87 = true := by kernel_rfl
end Go.Proofs.YtnbbgcdemafcoaaDoor
