/- Facts of the types and the functions of this seat. -/
import Derived.Test.YtdniiegnaabagaaDoorT2
import Derived.Test.YtdniiegnaabagaaDoorHP
set_option linter.unusedSimpArgs false
set_option linter.unusedVariables false
set_option maxRecDepth 4000
namespace Go.Proofs.YtdniiegnaabagaaDoor
open Go Go.RowKit

@[go_sem] theorem sc_1 : ScT Tryd.prog 1 := ⟨⟨_, Tryd.underlying1, rfl⟩, by kernel_rfl⟩
@[go_sem] theorem sc_2 : ScT Tryd.prog 2 := ⟨⟨_, Tryd.underlying2, rfl⟩, by kernel_rfl⟩
theorem zero_2 : ZeroT Tryd.prog 2 #[.int .i64 0] := ⟨.int .i64 0, by kernel_rfl, rfl⟩
@[go_sem] theorem sc_3 : ScT Tryd.prog 3 := ⟨⟨_, Tryd.underlying3, rfl⟩, by kernel_rfl⟩
theorem zero_3 : ZeroT Tryd.prog 3 #[.int .i64 0] := ⟨.int .i64 0, by kernel_rfl, rfl⟩
@[go_sem] theorem sc_4 : ScT Tryd.prog 4 := ⟨⟨_, Tryd.underlying4, rfl⟩, by kernel_rfl⟩
theorem zero_4 : ZeroT Tryd.prog 4 #[.bool false] := ⟨.bool false, by kernel_rfl, rfl⟩
@[go_sem] theorem sc_5 : ScT Tryd.prog 5 := ⟨⟨_, Tryd.underlying5, rfl⟩, by kernel_rfl⟩
theorem zero_5 : ZeroT Tryd.prog 5 #[.int .u8 0] := ⟨.int .u8 0, by kernel_rfl, rfl⟩
@[go_sem] theorem sc_6 : ScT Tryd.prog 6 := ⟨⟨_, Tryd.underlying6, rfl⟩, by kernel_rfl⟩
theorem zero_6 : ZeroT Tryd.prog 6 #[.int .u8 0] := ⟨.int .u8 0, by kernel_rfl, rfl⟩
theorem agg_7 : AggT Tryd.prog 7 4 := ⟨_, Tryd.underlying7, rfl, by kernel_rfl⟩
theorem zero_7 : ZeroT Tryd.prog 7 #[.int .i64 0, .int .i64 0, .bool false, .int .u8 0] := ⟨.agg #[.int .i64 0, .int .i64 0, .bool false, .int .u8 0], by kernel_rfl, rfl⟩
theorem agg_8 : AggT Tryd.prog 8 4 := ⟨_, Tryd.underlying8, rfl, by kernel_rfl⟩
theorem zero_8 : ZeroT Tryd.prog 8 #[.int .i64 0, .int .i64 0, .bool false, .int .u8 0] := ⟨.agg #[.int .i64 0, .int .i64 0, .bool false, .int .u8 0], by kernel_rfl, rfl⟩
@[go_sem] theorem sc_9 : ScT Tryd.prog 9 := ⟨⟨_, Tryd.underlying9, rfl⟩, by kernel_rfl⟩
theorem zero_9 : ZeroT Tryd.prog 9 #[.string .empty] := ⟨.string .empty, by kernel_rfl, rfl⟩
@[go_sem] theorem sc_10 : ScT Tryd.prog 10 := ⟨⟨_, Tryd.underlying10, rfl⟩, by kernel_rfl⟩
theorem zero_10 : ZeroT Tryd.prog 10 #[.string .empty] := ⟨.string .empty, by kernel_rfl, rfl⟩
@[go_sem] theorem sc_11 : ScT Tryd.prog 11 := ⟨⟨_, Tryd.underlying11, rfl⟩, by kernel_rfl⟩
theorem zero_11 : ZeroT Tryd.prog 11 #[.string .empty] := ⟨.string .empty, by kernel_rfl, rfl⟩
@[go_sem] theorem sc_12 : ScT Tryd.prog 12 := ⟨⟨_, Tryd.underlying12, rfl⟩, by kernel_rfl⟩
theorem zero_12 : ZeroT Tryd.prog 12 #[.int .u64 0] := ⟨.int .u64 0, by kernel_rfl, rfl⟩
theorem agg_13 : AggT Tryd.prog 13 2 := ⟨_, Tryd.underlying13, rfl, by kernel_rfl⟩
theorem zero_13 : ZeroT Tryd.prog 13 #[.string .empty, .int .u64 0] := ⟨.agg #[.string .empty, .int .u64 0], by kernel_rfl, rfl⟩
theorem agg_14 : AggT Tryd.prog 14 2 := ⟨_, Tryd.underlying14, rfl, by kernel_rfl⟩
theorem zero_14 : ZeroT Tryd.prog 14 #[.string .empty, .int .u64 0] := ⟨.agg #[.string .empty, .int .u64 0], by kernel_rfl, rfl⟩
@[go_sem] theorem sc_15 : ScT Tryd.prog 15 := ⟨⟨_, Tryd.underlying15, rfl⟩, by kernel_rfl⟩
theorem zero_15 : ZeroT Tryd.prog 15 #[.pointer none] := ⟨.pointer none, by kernel_rfl, rfl⟩
@[go_sem] theorem sc_16 : ScT Tryd.prog 16 := ⟨⟨_, Tryd.underlying16, rfl⟩, by kernel_rfl⟩
theorem zero_16 : ZeroT Tryd.prog 16 #[.pointer none] := ⟨.pointer none, by kernel_rfl, rfl⟩
@[go_sem] theorem sc_17 : ScT Tryd.prog 17 := ⟨⟨_, Tryd.underlying17, rfl⟩, by kernel_rfl⟩
theorem zero_17 : ZeroT Tryd.prog 17 #[.pointer none] := ⟨.pointer none, by kernel_rfl, rfl⟩
theorem agg_18 : AggT Tryd.prog 18 1 := ⟨_, Tryd.underlying18, rfl, by kernel_rfl⟩
theorem zero_18 : ZeroT Tryd.prog 18 #[.pointer none] := ⟨.agg #[.pointer none], by kernel_rfl, rfl⟩
theorem agg_19 : AggT Tryd.prog 19 1 := ⟨_, Tryd.underlying19, rfl, by kernel_rfl⟩
theorem zero_19 : ZeroT Tryd.prog 19 #[.pointer none] := ⟨.agg #[.pointer none], by kernel_rfl, rfl⟩
@[go_sem] theorem sc_20 : ScT Tryd.prog 20 := ⟨⟨_, Tryd.underlying20, rfl⟩, by kernel_rfl⟩
theorem zero_20 : ZeroT Tryd.prog 20 #[.nilIface] := ⟨.nilIface, by kernel_rfl, rfl⟩
@[go_sem] theorem sc_21 : ScT Tryd.prog 21 := ⟨⟨_, Tryd.underlying21, rfl⟩, by kernel_rfl⟩
theorem zero_21 : ZeroT Tryd.prog 21 #[.int .i32 0] := ⟨.int .i32 0, by kernel_rfl, rfl⟩
@[go_sem] theorem sc_22 : ScT Tryd.prog 22 := ⟨⟨_, Tryd.underlying22, rfl⟩, by kernel_rfl⟩
theorem zero_22 : ZeroT Tryd.prog 22 #[.slice none 0 0] := ⟨.slice none 0 0, by kernel_rfl, rfl⟩
theorem agg_23 : AggT Tryd.prog 23 4 := ⟨_, Tryd.underlying23, rfl, by kernel_rfl⟩
theorem zero_23 : ZeroT Tryd.prog 23 #[.int .i64 0, .int .i64 0, .string .empty, .int .u8 0] := ⟨.agg #[.int .i64 0, .int .i64 0, .string .empty, .int .u8 0], by kernel_rfl, rfl⟩
theorem agg_24 : AggT Tryd.prog 24 4 := ⟨_, Tryd.underlying24, rfl, by kernel_rfl⟩
theorem zero_24 : ZeroT Tryd.prog 24 (itm itm0) := ⟨.agg (itm itm0), by kernel_rfl, rfl⟩
@[go_sem] theorem sc_25 : ScT Tryd.prog 25 := ⟨⟨_, Tryd.underlying25, rfl⟩, by kernel_rfl⟩
theorem zero_25 : ZeroT Tryd.prog 25 #[.slice none 0 0] := ⟨.slice none 0 0, by kernel_rfl, rfl⟩
@[go_sem] theorem sc_27 : ScT Tryd.prog 27 := ⟨⟨_, Tryd.underlying27, rfl⟩, by kernel_rfl⟩
@[go_sem] theorem sc_28 : ScT Tryd.prog 28 := ⟨⟨_, Tryd.underlying28, rfl⟩, by kernel_rfl⟩
@[go_sem] theorem sc_29 : ScT Tryd.prog 29 := ⟨⟨_, Tryd.underlying29, rfl⟩, by kernel_rfl⟩
@[go_sem] theorem sc_30 : ScT Tryd.prog 30 := ⟨⟨_, Tryd.underlying30, rfl⟩, by kernel_rfl⟩
@[go_sem] theorem sc_31 : ScT Tryd.prog 31 := ⟨⟨_, Tryd.underlying31, rfl⟩, by kernel_rfl⟩
theorem zero_31 : ZeroT Tryd.prog 31 #[.slice none 0 0] := ⟨.slice none 0 0, by kernel_rfl, rfl⟩
@[go_sem] theorem sc_32 : ScT Tryd.prog 32 := ⟨⟨_, Tryd.underlying32, rfl⟩, by kernel_rfl⟩
@[go_sem] theorem sc_33 : ScT Tryd.prog 33 := ⟨⟨_, Tryd.underlying33, rfl⟩, by kernel_rfl⟩
theorem zero_33 : ZeroT Tryd.prog 33 #[.pointer none] := ⟨.pointer none, by kernel_rfl, rfl⟩
@[go_sem] theorem sc_34 : ScT Tryd.prog 34 := ⟨⟨_, Tryd.underlying34, rfl⟩, by kernel_rfl⟩
@[go_sem] theorem sc_35 : ScT Tryd.prog 35 := ⟨⟨_, Tryd.underlying35, rfl⟩, by kernel_rfl⟩
theorem zero_35 : ZeroT Tryd.prog 35 #[.pointer none] := ⟨.pointer none, by kernel_rfl, rfl⟩
@[go_sem] theorem sc_36 : ScT Tryd.prog 36 := ⟨⟨_, Tryd.underlying36, rfl⟩, by kernel_rfl⟩
theorem agg_37 : AggT Tryd.prog 37 3 := ⟨_, Tryd.underlying37, rfl, by kernel_rfl⟩
theorem zero_37 : ZeroT Tryd.prog 37 #[.int .i64 0, .int .i64 0, .int .i64 0] := ⟨.agg #[.int .i64 0, .int .i64 0, .int .i64 0], by kernel_rfl, rfl⟩
theorem agg_38 : AggT Tryd.prog 38 3 := ⟨_, Tryd.underlying38, rfl, by kernel_rfl⟩
theorem zero_38 : ZeroT Tryd.prog 38 (cal cal0) := ⟨.agg (cal cal0), by kernel_rfl, rfl⟩
@[go_sem] theorem sc_39 : ScT Tryd.prog 39 := ⟨⟨_, Tryd.underlying39, rfl⟩, by kernel_rfl⟩
theorem zero_39 : ZeroT Tryd.prog 39 #[.nilIface] := ⟨.nilIface, by kernel_rfl, rfl⟩
@[go_sem] theorem sc_40 : ScT Tryd.prog 40 := ⟨⟨_, Tryd.underlying40, rfl⟩, by kernel_rfl⟩
theorem zero_40 : ZeroT Tryd.prog 40 #[.nilIface] := ⟨.nilIface, by kernel_rfl, rfl⟩
@[go_sem] theorem sc_42 : ScT Tryd.prog 42 := ⟨⟨_, Tryd.underlying42, rfl⟩, by kernel_rfl⟩
@[go_sem] theorem sc_43 : ScT Tryd.prog 43 := ⟨⟨_, Tryd.underlying43, rfl⟩, by kernel_rfl⟩
@[go_sem] theorem sc_45 : ScT Tryd.prog 45 := ⟨⟨_, Tryd.underlying45, rfl⟩, by kernel_rfl⟩
@[go_sem] theorem sc_46 : ScT Tryd.prog 46 := ⟨⟨_, Tryd.underlying46, rfl⟩, by kernel_rfl⟩
@[go_sem] theorem sc_48 : ScT Tryd.prog 48 := ⟨⟨_, Tryd.underlying48, rfl⟩, by kernel_rfl⟩
@[go_sem] theorem sc_49 : ScT Tryd.prog 49 := ⟨⟨_, Tryd.underlying49, rfl⟩, by kernel_rfl⟩
@[go_sem] theorem sc_50 : ScT Tryd.prog 50 := ⟨⟨_, Tryd.underlying50, rfl⟩, by kernel_rfl⟩
@[go_sem] theorem sc_51 : ScT Tryd.prog 51 := ⟨⟨_, Tryd.underlying51, rfl⟩, by kernel_rfl⟩
@[go_sem] theorem sc_52 : ScT Tryd.prog 52 := ⟨⟨_, Tryd.underlying52, rfl⟩, by kernel_rfl⟩
@[go_sem] theorem sc_53 : ScT Tryd.prog 53 := ⟨⟨_, Tryd.underlying53, rfl⟩, by kernel_rfl⟩
@[go_sem] theorem sc_54 : ScT Tryd.prog 54 := ⟨⟨_, Tryd.underlying54, rfl⟩, by kernel_rfl⟩
@[go_sem] theorem sc_55 : ScT Tryd.prog 55 := ⟨⟨_, Tryd.underlying55, rfl⟩, by kernel_rfl⟩
theorem zero_55 : ZeroT Tryd.prog 55 #[.slice none 0 0] := ⟨.slice none 0 0, by kernel_rfl, rfl⟩
@[go_sem] theorem sc_56 : ScT Tryd.prog 56 := ⟨⟨_, Tryd.underlying56, rfl⟩, by kernel_rfl⟩
theorem agg_57 : AggT Tryd.prog 57 3 := ⟨_, Tryd.underlying57, rfl, by kernel_rfl⟩
theorem zero_57 : ZeroT Tryd.prog 57 #[.string .empty, .string .empty, .int .i64 0] := ⟨.agg #[.string .empty, .string .empty, .int .i64 0], by kernel_rfl, rfl⟩
theorem agg_58 : AggT Tryd.prog 58 3 := ⟨_, Tryd.underlying58, rfl, by kernel_rfl⟩
theorem zero_58 : ZeroT Tryd.prog 58 (lnk lnk0) := ⟨.agg (lnk lnk0), by kernel_rfl, rfl⟩
@[go_sem] theorem sc_59 : ScT Tryd.prog 59 := ⟨⟨_, Tryd.underlying59, rfl⟩, by kernel_rfl⟩
@[go_sem] theorem sc_61 : ScT Tryd.prog 61 := ⟨⟨_, Tryd.underlying61, rfl⟩, by kernel_rfl⟩
@[go_sem] theorem sc_62 : ScT Tryd.prog 62 := ⟨⟨_, Tryd.underlying62, rfl⟩, by kernel_rfl⟩
theorem agg_63 : AggT Tryd.prog 63 1 := ⟨_, Tryd.underlying63, rfl, by kernel_rfl⟩
theorem zero_63 : ZeroT Tryd.prog 63 #[.slice none 0 0] := ⟨.agg #[.slice none 0 0], by kernel_rfl, rfl⟩
theorem agg_64 : AggT Tryd.prog 64 1 := ⟨_, Tryd.underlying64, rfl, by kernel_rfl⟩
theorem zero_64 : ZeroT Tryd.prog 64 #[.slice none 0 0] := ⟨.agg #[.slice none 0 0], by kernel_rfl, rfl⟩
@[go_sem] theorem sc_65 : ScT Tryd.prog 65 := ⟨⟨_, Tryd.underlying65, rfl⟩, by kernel_rfl⟩
theorem zero_65 : ZeroT Tryd.prog 65 #[.slice none 0 0] := ⟨.slice none 0 0, by kernel_rfl, rfl⟩
theorem agg_66 : AggT Tryd.prog 66 3 := ⟨_, Tryd.underlying66, rfl, by kernel_rfl⟩
theorem zero_66 : ZeroT Tryd.prog 66 #[.int .i64 0, .slice none 0 0, .slice none 0 0] := ⟨.agg #[.int .i64 0, .slice none 0 0, .slice none 0 0], by kernel_rfl, rfl⟩
theorem agg_67 : AggT Tryd.prog 67 3 := ⟨_, Tryd.underlying67, rfl, by kernel_rfl⟩
theorem zero_67 : ZeroT Tryd.prog 67 (nov nov0) := ⟨.agg (nov nov0), by kernel_rfl, rfl⟩
@[go_sem] theorem sc_68 : ScT Tryd.prog 68 := ⟨⟨_, Tryd.underlying68, rfl⟩, by kernel_rfl⟩
@[go_sem] theorem sc_69 : ScT Tryd.prog 69 := ⟨⟨_, Tryd.underlying69, rfl⟩, by kernel_rfl⟩
@[go_sem] theorem sc_70 : ScT Tryd.prog 70 := ⟨⟨_, Tryd.underlying70, rfl⟩, by kernel_rfl⟩
@[go_sem] theorem sc_71 : ScT Tryd.prog 71 := ⟨⟨_, Tryd.underlying71, rfl⟩, by kernel_rfl⟩
@[go_sem] theorem sc_72 : ScT Tryd.prog 72 := ⟨⟨_, Tryd.underlying72, rfl⟩, by kernel_rfl⟩
@[go_sem] theorem sc_73 : ScT Tryd.prog 73 := ⟨⟨_, Tryd.underlying73, rfl⟩, by kernel_rfl⟩
@[go_sem] theorem sc_74 : ScT Tryd.prog 74 := ⟨⟨_, Tryd.underlying74, rfl⟩, by kernel_rfl⟩
theorem zero_74 : ZeroT Tryd.prog 74 #[.pointer none] := ⟨.pointer none, by kernel_rfl, rfl⟩
theorem agg_75 : AggT Tryd.prog 75 5 := ⟨_, Tryd.underlying75, rfl, by kernel_rfl⟩
theorem zero_75 : ZeroT Tryd.prog 75 #[.slice none 0 0, .int .i64 0, .int .i64 0, .slice none 0 0, .slice none 0 0] := ⟨.agg #[.slice none 0 0, .int .i64 0, .int .i64 0, .slice none 0 0, .slice none 0 0], by kernel_rfl, rfl⟩
theorem agg_76 : AggT Tryd.prog 76 5 := ⟨_, Tryd.underlying76, rfl, by kernel_rfl⟩
theorem zero_76 : ZeroT Tryd.prog 76 #[.slice none 0 0, .int .i64 0, .int .i64 0, .slice none 0 0, .slice none 0 0] := ⟨.agg #[.slice none 0 0, .int .i64 0, .int .i64 0, .slice none 0 0, .slice none 0 0], by kernel_rfl, rfl⟩
@[go_sem] theorem sc_77 : ScT Tryd.prog 77 := ⟨⟨_, Tryd.underlying77, rfl⟩, by kernel_rfl⟩
theorem agg_78 : AggT Tryd.prog 78 3 := ⟨_, Tryd.underlying78, rfl, by kernel_rfl⟩
theorem zero_78 : ZeroT Tryd.prog 78 #[.slice none 0 0, .int .i64 0, .nilIface] := ⟨.agg #[.slice none 0 0, .int .i64 0, .nilIface], by kernel_rfl, rfl⟩
theorem agg_79 : AggT Tryd.prog 79 3 := ⟨_, Tryd.underlying79, rfl, by kernel_rfl⟩
theorem zero_79 : ZeroT Tryd.prog 79 #[.slice none 0 0, .int .i64 0, .nilIface] := ⟨.agg #[.slice none 0 0, .int .i64 0, .nilIface], by kernel_rfl, rfl⟩
@[go_sem] theorem sc_80 : ScT Tryd.prog 80 := ⟨⟨_, Tryd.underlying80, rfl⟩, by kernel_rfl⟩
@[go_sem] theorem sc_81 : ScT Tryd.prog 81 := ⟨⟨_, Tryd.underlying81, rfl⟩, by kernel_rfl⟩
@[go_sem] theorem sc_82 : ScT Tryd.prog 82 := ⟨⟨_, Tryd.underlying82, rfl⟩, by kernel_rfl⟩
theorem agg_83 : AggT Tryd.prog 83 1 := ⟨_, Tryd.underlying83, rfl, by kernel_rfl⟩
theorem zero_83 : ZeroT Tryd.prog 83 #[.nilIface] := ⟨.agg #[.nilIface], by kernel_rfl, rfl⟩
theorem agg_84 : AggT Tryd.prog 84 1 := ⟨_, Tryd.underlying84, rfl, by kernel_rfl⟩
theorem zero_84 : ZeroT Tryd.prog 84 #[.nilIface] := ⟨.agg #[.nilIface], by kernel_rfl, rfl⟩
@[go_sem] theorem sc_85 : ScT Tryd.prog 85 := ⟨⟨_, Tryd.underlying85, rfl⟩, by kernel_rfl⟩
@[go_sem] theorem sc_86 : ScT Tryd.prog 86 := ⟨⟨_, Tryd.underlying86, rfl⟩, by kernel_rfl⟩
@[go_sem] theorem sc_87 : ScT Tryd.prog 87 := ⟨⟨_, Tryd.underlying87, rfl⟩, by kernel_rfl⟩
@[go_sem] theorem sc_88 : ScT Tryd.prog 88 := ⟨⟨_, Tryd.underlying88, rfl⟩, by kernel_rfl⟩
@[go_sem] theorem sc_89 : ScT Tryd.prog 89 := ⟨⟨_, Tryd.underlying89, rfl⟩, by kernel_rfl⟩
@[go_sem] theorem sc_90 : ScT Tryd.prog 90 := ⟨⟨_, Tryd.underlying90, rfl⟩, by kernel_rfl⟩
@[go_sem] theorem sc_91 : ScT Tryd.prog 91 := ⟨⟨_, Tryd.underlying91, rfl⟩, by kernel_rfl⟩
@[go_sem] theorem sc_93 : ScT Tryd.prog 93 := ⟨⟨_, Tryd.underlying93, rfl⟩, by kernel_rfl⟩
@[go_sem] theorem sc_95 : ScT Tryd.prog 95 := ⟨⟨_, Tryd.underlying95, rfl⟩, by kernel_rfl⟩
@[go_sem] theorem sc_97 : ScT Tryd.prog 97 := ⟨⟨_, Tryd.underlying97, rfl⟩, by kernel_rfl⟩
@[go_sem] theorem sc_98 : ScT Tryd.prog 98 := ⟨⟨_, Tryd.underlying98, rfl⟩, by kernel_rfl⟩
@[go_sem] theorem sc_99 : ScT Tryd.prog 99 := ⟨⟨_, Tryd.underlying99, rfl⟩, by kernel_rfl⟩
@[go_sem] theorem sc_100 : ScT Tryd.prog 100 := ⟨⟨_, Tryd.underlying100, rfl⟩, by kernel_rfl⟩
theorem zero_100 : ZeroT Tryd.prog 100 #[.pointer none] := ⟨.pointer none, by kernel_rfl, rfl⟩
theorem agg_101 : AggT Tryd.prog 101 4 := ⟨_, Tryd.underlying101, rfl, by kernel_rfl⟩
theorem zero_101 : ZeroT Tryd.prog 101 #[.string .empty, .string .empty, .int .i64 0, .nilIface] := ⟨.agg #[.string .empty, .string .empty, .int .i64 0, .nilIface], by kernel_rfl, rfl⟩
theorem agg_102 : AggT Tryd.prog 102 4 := ⟨_, Tryd.underlying102, rfl, by kernel_rfl⟩
theorem zero_102 : ZeroT Tryd.prog 102 #[.string .empty, .string .empty, .int .i64 0, .nilIface] := ⟨.agg #[.string .empty, .string .empty, .int .i64 0, .nilIface], by kernel_rfl, rfl⟩
@[go_sem] theorem sc_103 : ScT Tryd.prog 103 := ⟨⟨_, Tryd.underlying103, rfl⟩, by kernel_rfl⟩
@[go_sem] theorem sc_104 : ScT Tryd.prog 104 := ⟨⟨_, Tryd.underlying104, rfl⟩, by kernel_rfl⟩
theorem zero_104 : ZeroT Tryd.prog 104 #[.pointer none] := ⟨.pointer none, by kernel_rfl, rfl⟩
@[go_sem] theorem sc_105 : ScT Tryd.prog 105 := ⟨⟨_, Tryd.underlying105, rfl⟩, by kernel_rfl⟩
theorem zero_105 : ZeroT Tryd.prog 105 #[.slice none 0 0] := ⟨.slice none 0 0, by kernel_rfl, rfl⟩
@[go_sem] theorem sc_106 : ScT Tryd.prog 106 := ⟨⟨_, Tryd.underlying106, rfl⟩, by kernel_rfl⟩
@[go_sem] theorem sc_107 : ScT Tryd.prog 107 := ⟨⟨_, Tryd.underlying107, rfl⟩, by kernel_rfl⟩
@[go_sem] theorem sc_108 : ScT Tryd.prog 108 := ⟨⟨_, Tryd.underlying108, rfl⟩, by kernel_rfl⟩
@[go_sem] theorem sc_110 : ScT Tryd.prog 110 := ⟨⟨_, Tryd.underlying110, rfl⟩, by kernel_rfl⟩
@[go_sem] theorem sc_111 : ScT Tryd.prog 111 := ⟨⟨_, Tryd.underlying111, rfl⟩, by kernel_rfl⟩
theorem agg_112 : AggT Tryd.prog 112 1 := ⟨_, Tryd.underlying112, rfl, by kernel_rfl⟩
theorem zero_112 : ZeroT Tryd.prog 112 #[.slice none 0 0] := ⟨.agg #[.slice none 0 0], by kernel_rfl, rfl⟩
theorem agg_113 : AggT Tryd.prog 113 1 := ⟨_, Tryd.underlying113, rfl, by kernel_rfl⟩
theorem zero_113 : ZeroT Tryd.prog 113 #[.slice none 0 0] := ⟨.agg #[.slice none 0 0], by kernel_rfl, rfl⟩
@[go_sem] theorem sc_114 : ScT Tryd.prog 114 := ⟨⟨_, Tryd.underlying114, rfl⟩, by kernel_rfl⟩
theorem zero_114 : ZeroT Tryd.prog 114 #[.int .u64 0] := ⟨.int .u64 0, by kernel_rfl, rfl⟩
@[go_sem] theorem sc_115 : ScT Tryd.prog 115 := ⟨⟨_, Tryd.underlying115, rfl⟩, by kernel_rfl⟩
theorem zero_115 : ZeroT Tryd.prog 115 #[.pointer none] := ⟨.pointer none, by kernel_rfl, rfl⟩
@[go_sem] theorem sc_116 : ScT Tryd.prog 116 := ⟨⟨_, Tryd.underlying116, rfl⟩, by kernel_rfl⟩
theorem agg_117 : AggT Tryd.prog 117 4 := ⟨_, Tryd.underlying117, rfl, by kernel_rfl⟩
theorem zero_117 : ZeroT Tryd.prog 117 #[.pointer none, .pointer none, .pointer none, .string .empty] := ⟨.agg #[.pointer none, .pointer none, .pointer none, .string .empty], by kernel_rfl, rfl⟩
theorem agg_118 : AggT Tryd.prog 118 4 := ⟨_, Tryd.underlying118, rfl, by kernel_rfl⟩
theorem zero_118 : ZeroT Tryd.prog 118 #[.pointer none, .pointer none, .pointer none, .string .empty] := ⟨.agg #[.pointer none, .pointer none, .pointer none, .string .empty], by kernel_rfl, rfl⟩
theorem agg_119 : AggT Tryd.prog 119 0 := ⟨_, Tryd.underlying119, rfl, by kernel_rfl⟩
theorem zero_119 : ZeroT Tryd.prog 119 #[] := ⟨.agg #[], by kernel_rfl, rfl⟩
theorem agg_120 : AggT Tryd.prog 120 0 := ⟨_, Tryd.underlying120, rfl, by kernel_rfl⟩
theorem zero_120 : ZeroT Tryd.prog 120 #[] := ⟨.agg #[], by kernel_rfl, rfl⟩
theorem agg_121 : AggT Tryd.prog 121 0 := ⟨_, Tryd.underlying121, rfl, by kernel_rfl⟩
theorem zero_121 : ZeroT Tryd.prog 121 #[] := ⟨.agg #[], by kernel_rfl, rfl⟩
@[go_sem] theorem sc_122 : ScT Tryd.prog 122 := ⟨⟨_, Tryd.underlying122, rfl⟩, by kernel_rfl⟩
theorem zero_122 : ZeroT Tryd.prog 122 #[.int .u32 0] := ⟨.int .u32 0, by kernel_rfl, rfl⟩
@[go_sem] theorem sc_123 : ScT Tryd.prog 123 := ⟨⟨_, Tryd.underlying123, rfl⟩, by kernel_rfl⟩
theorem zero_123 : ZeroT Tryd.prog 123 #[.int .u8 0] := ⟨.int .u8 0, by kernel_rfl, rfl⟩
@[go_sem] theorem sc_124 : ScT Tryd.prog 124 := ⟨⟨_, Tryd.underlying124, rfl⟩, by kernel_rfl⟩
theorem zero_124 : ZeroT Tryd.prog 124 #[.int .u8 0] := ⟨.int .u8 0, by kernel_rfl, rfl⟩
@[go_sem] theorem sc_125 : ScT Tryd.prog 125 := ⟨⟨_, Tryd.underlying125, rfl⟩, by kernel_rfl⟩
@[go_sem] theorem sc_126 : ScT Tryd.prog 126 := ⟨⟨_, Tryd.underlying126, rfl⟩, by kernel_rfl⟩
theorem zero_126 : ZeroT Tryd.prog 126 #[.pointer none] := ⟨.pointer none, by kernel_rfl, rfl⟩
@[go_sem] theorem sc_127 : ScT Tryd.prog 127 := ⟨⟨_, Tryd.underlying127, rfl⟩, by kernel_rfl⟩
theorem zero_127 : ZeroT Tryd.prog 127 #[.int .i32 0] := ⟨.int .i32 0, by kernel_rfl, rfl⟩
@[go_sem] theorem sc_128 : ScT Tryd.prog 128 := ⟨⟨_, Tryd.underlying128, rfl⟩, by kernel_rfl⟩
theorem zero_128 : ZeroT Tryd.prog 128 #[.int .i32 0] := ⟨.int .i32 0, by kernel_rfl, rfl⟩
theorem agg_129 : AggT Tryd.prog 129 11 := ⟨_, Tryd.underlying129, rfl, by kernel_rfl⟩
theorem zero_129 : ZeroT Tryd.prog 129 #[.int .u64 0, .int .u64 0, .int .u32 0, .int .u8 0, .int .u8 0, .int .u8 0, .int .u8 0, .nilFunc, .pointer none, .int .i32 0, .int .i32 0] := ⟨.agg #[.int .u64 0, .int .u64 0, .int .u32 0, .int .u8 0, .int .u8 0, .int .u8 0, .int .u8 0, .nilFunc, .pointer none, .int .i32 0, .int .i32 0], by kernel_rfl, rfl⟩
theorem agg_130 : AggT Tryd.prog 130 11 := ⟨_, Tryd.underlying130, rfl, by kernel_rfl⟩
theorem zero_130 : ZeroT Tryd.prog 130 #[.int .u64 0, .int .u64 0, .int .u32 0, .int .u8 0, .int .u8 0, .int .u8 0, .int .u8 0, .nilFunc, .pointer none, .int .i32 0, .int .i32 0] := ⟨.agg #[.int .u64 0, .int .u64 0, .int .u32 0, .int .u8 0, .int .u8 0, .int .u8 0, .int .u8 0, .nilFunc, .pointer none, .int .i32 0, .int .i32 0], by kernel_rfl, rfl⟩
theorem agg_131 : AggT Tryd.prog 131 1 := ⟨_, Tryd.underlying131, rfl, by kernel_rfl⟩
theorem zero_131 : ZeroT Tryd.prog 131 #[.string .empty] := ⟨.agg #[.string .empty], by kernel_rfl, rfl⟩
theorem agg_132 : AggT Tryd.prog 132 1 := ⟨_, Tryd.underlying132, rfl, by kernel_rfl⟩
theorem zero_132 : ZeroT Tryd.prog 132 #[.string .empty] := ⟨.agg #[.string .empty], by kernel_rfl, rfl⟩
theorem app_22 : AppT Tryd.prog 22 24 4 40 itm := ⟨Tryd.underlying22, ⟨.agg (itm itm0), by kernel_rfl, (by first | rfl | (simp only [Value.cells, go_sem]))⟩, by decide, fun a => by simp only [go_sem], fun a => by simp only [go_sem]⟩
theorem app_25 : AppT Tryd.prog 25 5 1 1 bytv := ⟨Tryd.underlying25, ⟨.int .u8 0, by kernel_rfl, (by first | rfl | (simp only [Value.cells, go_sem]))⟩, by decide, fun a => by simp only [go_sem], fun a => by simp only [go_sem]⟩
theorem app_31 : AppT Tryd.prog 31 38 3 24 cal := ⟨Tryd.underlying31, ⟨.agg (cal cal0), by kernel_rfl, (by first | rfl | (simp only [Value.cells, go_sem]))⟩, by decide, fun a => by simp only [go_sem], fun a => by simp only [go_sem]⟩
theorem app_55 : AppT Tryd.prog 55 58 3 40 lnk := ⟨Tryd.underlying55, ⟨.agg (lnk lnk0), by kernel_rfl, (by first | rfl | (simp only [Value.cells, go_sem]))⟩, by decide, fun a => by simp only [go_sem], fun a => by simp only [go_sem]⟩
theorem app_65 : AppT Tryd.prog 65 3 1 8 intv := ⟨Tryd.underlying65, ⟨.int .i64 0, by kernel_rfl, (by first | rfl | (simp only [Value.cells, go_sem]))⟩, by decide, fun a => by simp only [go_sem], fun a => by simp only [go_sem]⟩
theorem mk_25 : MakeT Tryd.prog 25 5 1 1 bytv (0) := ⟨Tryd.underlying25, ⟨.int .u8 0, by kernel_rfl, (by first | rfl | (simp only [Value.cells, go_sem]))⟩, by decide, fun a => by simp only [go_sem]⟩
theorem byt_25_9 : BytesT Tryd.prog 25 9 := ⟨_, Tryd.underlying25, Tryd.underlying5, Tryd.underlying9⟩
theorem byE_25_9 : BytE Tryd.prog 25 9 5 := ⟨Tryd.underlying25, Tryd.underlying9, by kernel_rfl⟩
theorem sz1_5 : (Tryd.prog.info? 5).map (·.size) = some 1 := by kernel_rfl
theorem bst_22 : BsT Tryd.prog 22 24 4 := ⟨Tryd.underlying22, .agg (itm itm0), by kernel_rfl, (by first | rfl | (simp only [Value.cells, go_sem])), by decide, by decide⟩
theorem bst_25 : BsT Tryd.prog 25 5 1 := ⟨Tryd.underlying25, .int .u8 0, by kernel_rfl, (by first | rfl | (simp only [Value.cells, go_sem])), by decide, by decide⟩
theorem bst_31 : BsT Tryd.prog 31 38 3 := ⟨Tryd.underlying31, .agg (cal cal0), by kernel_rfl, (by first | rfl | (simp only [Value.cells, go_sem])), by decide, by decide⟩
theorem bst_55 : BsT Tryd.prog 55 58 3 := ⟨Tryd.underlying55, .agg (lnk lnk0), by kernel_rfl, (by first | rfl | (simp only [Value.cells, go_sem])), by decide, by decide⟩
theorem bst_65 : BsT Tryd.prog 65 3 1 := ⟨Tryd.underlying65, .int .i64 0, by kernel_rfl, (by first | rfl | (simp only [Value.cells, go_sem])), by decide, by decide⟩
theorem bst_105 : BsT Tryd.prog 105 40 1 := ⟨Tryd.underlying105, .nilIface, by kernel_rfl, (by first | rfl | (simp only [Value.cells, go_sem])), by decide, by decide⟩
theorem bld_0 (x0_0 : ByteArray) (x1_0 : ByteArray) (x2_0 : Int) : BuildT Tryd.prog 58 #[(0, .string x0_0), (1, .string x1_0), (2, .int .i64 x2_0)] (.agg (lnk ⟨x0_0, x1_0, x2_0⟩)) := fun w => by kernel_rfl
theorem bld_1  : BuildT Tryd.prog 64 #[] (.agg #[.slice none 0 0]) := fun w => by kernel_rfl
theorem bld_2  : BuildT Tryd.prog 67 #[] (.agg (nov ⟨0, none, 0, 0, none, 0, 0⟩)) := fun w => by kernel_rfl
theorem bld_3 (x0_0 : Int) (x1_0_1 : Option Addr) (x1_0_2 x1_0_3 : Nat) (x2_0_1 : Option Addr) (x2_0_2 x2_0_3 : Nat) : BuildT Tryd.prog 67 #[(0, .int .i64 x0_0), (1, .slice x1_0_1 x1_0_2 x1_0_3), (2, .slice x2_0_1 x2_0_2 x2_0_3)] (.agg (nov ⟨x0_0, x1_0_1, x1_0_2, x1_0_3, x2_0_1, x2_0_2, x2_0_3⟩)) := fun w => by kernel_rfl
theorem bld_4 (x0_0 : Int) (x2_0_1 : Option Addr) (x2_0_2 x2_0_3 : Nat) : BuildT Tryd.prog 67 #[(0, .int .i64 x0_0), (2, .slice x2_0_1 x2_0_2 x2_0_3)] (.agg (nov ⟨x0_0, none, 0, 0, x2_0_1, x2_0_2, x2_0_3⟩)) := fun w => by kernel_rfl
theorem bld_6 (x0_0_1 : Option Addr) (x0_0_2 x0_0_3 : Nat) : BuildT Tryd.prog 79 #[(0, .slice x0_0_1 x0_0_2 x0_0_3)] (.agg #[.slice x0_0_1 x0_0_2 x0_0_3, .int .i64 0, .nilIface]) := fun w => by kernel_rfl
theorem bld_7 (x0_0t : TypeId) (x0_0p : Option Addr) : BuildT Tryd.prog 84 #[(0, (.iface x0_0t (.pointer x0_0p)))] (.agg #[(.iface x0_0t (.pointer x0_0p))]) := fun w => by kernel_rfl
theorem bld_8 (x0_0 : ByteArray) (x1_0 : ByteArray) (x2_0 : Int) (x3_0t : TypeId) (x3_0p : Option Addr) : BuildT Tryd.prog 102 #[(0, .string x0_0), (1, .string x1_0), (2, .int .i64 x2_0), (3, (.iface x3_0t (.pointer x3_0p)))] (.agg #[.string x0_0, .string x1_0, .int .i64 x2_0, (.iface x3_0t (.pointer x3_0p))]) := fun w => by kernel_rfl
@[go_sem] theorem enter_3 : entB Tryd.prog 3 = true := by kernel_rfl
@[go_sem] theorem enter_4 : entB Tryd.prog 4 = true := by kernel_rfl
@[go_sem] theorem enter_5 : entB Tryd.prog 5 = true := by kernel_rfl
@[go_sem] theorem enter_6 : entB Tryd.prog 6 = true := by kernel_rfl
@[go_sem] theorem enter_7 : entB Tryd.prog 7 = true := by kernel_rfl
@[go_sem] theorem enter_8 : entB Tryd.prog 8 = true := by kernel_rfl
@[go_sem] theorem enter_9 : entB Tryd.prog 9 = true := by kernel_rfl
@[go_sem] theorem enter_10 : entB Tryd.prog 10 = true := by kernel_rfl
@[go_sem] theorem enter_11 : entB Tryd.prog 11 = true := by kernel_rfl
@[go_sem] theorem enter_12 : entB Tryd.prog 12 = true := by kernel_rfl
@[go_sem] theorem enter_13 : entB Tryd.prog 13 = true := by kernel_rfl
@[go_sem] theorem enter_14 : entB Tryd.prog 14 = true := by kernel_rfl
@[go_sem] theorem enter_15 : entB Tryd.prog 15 = true := by kernel_rfl
@[go_sem] theorem enter_16 : entB Tryd.prog 16 = true := by kernel_rfl
@[go_sem] theorem enter_17 : entB Tryd.prog 17 = true := by kernel_rfl
@[go_sem] theorem enter_18 : entB Tryd.prog 18 = true := by kernel_rfl
@[go_sem] theorem enter_19 : entB Tryd.prog 19 = true := by kernel_rfl
@[go_sem] theorem enter_20 : entB Tryd.prog 20 = true := by kernel_rfl
@[go_sem] theorem enter_21 : entB Tryd.prog 21 = true := by kernel_rfl
@[go_sem] theorem enter_22 : entB Tryd.prog 22 = true := by kernel_rfl
@[go_sem] theorem enter_23 : entB Tryd.prog 23 = true := by kernel_rfl
@[go_sem] theorem enter_24 : entB Tryd.prog 24 = true := by kernel_rfl
@[go_sem] theorem enter_25 : entB Tryd.prog 25 = true := by kernel_rfl
@[go_sem] theorem enter_26 : entB Tryd.prog 26 = true := by kernel_rfl
@[go_sem] theorem enter_27 : entB Tryd.prog 27 = true := by kernel_rfl
@[go_sem] theorem enter_28 : entB Tryd.prog 28 = true := by kernel_rfl
@[go_sem] theorem enter_29 : entB Tryd.prog 29 = true := by kernel_rfl
@[go_sem] theorem enter_30 : entB Tryd.prog 30 = true := by kernel_rfl
@[go_sem] theorem enter_31 : entB Tryd.prog 31 = true := by kernel_rfl
@[go_sem] theorem enter_32 : entB Tryd.prog 32 = true := by kernel_rfl
@[go_sem] theorem enter_33 : entB Tryd.prog 33 = true := by kernel_rfl
@[go_sem] theorem enter_34 : entB Tryd.prog 34 = true := by kernel_rfl
@[go_sem] theorem enter_35 : entB Tryd.prog 35 = true := by kernel_rfl
@[go_sem] theorem enter_36 : entB Tryd.prog 36 = true := by kernel_rfl
@[go_sem] theorem enter_37 : entB Tryd.prog 37 = true := by kernel_rfl
@[go_sem] theorem enter_38 : entB Tryd.prog 38 = true := by kernel_rfl
@[go_sem] theorem enter_39 : entB Tryd.prog 39 = true := by kernel_rfl
@[go_sem] theorem enter_40 : entB Tryd.prog 40 = true := by kernel_rfl
@[go_sem] theorem enter_41 : entB Tryd.prog 41 = true := by kernel_rfl
@[go_sem] theorem enter_42 : entB Tryd.prog 42 = true := by kernel_rfl
@[go_sem] theorem enter_43 : entB Tryd.prog 43 = true := by kernel_rfl
@[go_sem] theorem enter_44 : entB Tryd.prog 44 = true := by kernel_rfl
@[go_sem] theorem enter_45 : entB Tryd.prog 45 = true := by kernel_rfl
@[go_sem] theorem enter_46 : entB Tryd.prog 46 = true := by kernel_rfl
@[go_sem] theorem enter_47 : entB Tryd.prog 47 = true := by kernel_rfl
@[go_sem] theorem enter_48 : entB Tryd.prog 48 = true := by kernel_rfl
@[go_sem] theorem enter_49 : entB Tryd.prog 49 = true := by kernel_rfl
@[go_sem] theorem enter_50 : entB Tryd.prog 50 = true := by kernel_rfl
@[go_sem] theorem enter_51 : entB Tryd.prog 51 = true := by kernel_rfl
@[go_sem] theorem enter_52 : entB Tryd.prog 52 = true := by kernel_rfl
@[go_sem] theorem enter_53 : entB Tryd.prog 53 = true := by kernel_rfl
@[go_sem] theorem enter_54 : entB Tryd.prog 54 = true := by kernel_rfl
@[go_sem] theorem enter_55 : entB Tryd.prog 55 = true := by kernel_rfl
@[go_sem] theorem enter_56 : entB Tryd.prog 56 = true := by kernel_rfl
@[go_sem] theorem enter_57 : entB Tryd.prog 57 = true := by kernel_rfl
@[go_sem] theorem enter_58 : entB Tryd.prog 58 = true := by kernel_rfl
@[go_sem] theorem enter_59 : entB Tryd.prog 59 = true := by kernel_rfl
@[go_sem] theorem enter_60 : entB Tryd.prog 60 = true := by kernel_rfl
@[go_sem] theorem enter_61 : entB Tryd.prog 61 = true := by kernel_rfl
@[go_sem] theorem enter_62 : entB Tryd.prog 62 = true := by kernel_rfl
@[go_sem] theorem enter_63 : entB Tryd.prog 63 = true := by kernel_rfl
@[go_sem] theorem enter_64 : entB Tryd.prog 64 = true := by kernel_rfl
@[go_sem] theorem enter_65 : entB Tryd.prog 65 = true := by kernel_rfl
@[go_sem] theorem enter_66 : entB Tryd.prog 66 = true := by kernel_rfl
@[go_sem] theorem enter_67 : entB Tryd.prog 67 = true := by kernel_rfl
@[go_sem] theorem enter_68 : entB Tryd.prog 68 = true := by kernel_rfl
@[go_sem] theorem enter_69 : entB Tryd.prog 69 = true := by kernel_rfl
end Go.Proofs.YtdniiegnaabagaaDoor
