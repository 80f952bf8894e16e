/- Facts of the types and the functions of this seat. -/
import Derived.Test.YtgoifgockcpnhaaDoorT2
import Derived.Test.YtgoifgockcpnhaaDoorHU
set_option linter.unusedSimpArgs false
set_option linter.unusedVariables false
set_option maxRecDepth 4000
namespace Go.Proofs.YtgoifgockcpnhaaDoor
open Go Go.RowKit

@[go_sem] theorem sc_1 : ScT Tryd.prog 1 := ⟨⟨_, Tryd.underlying1, rfl⟩, by kernel_rfl⟩
@[go_sem] theorem sc_2 : ScT Tryd.prog 2 := ⟨⟨_, Tryd.underlying2, rfl⟩, by kernel_rfl⟩
theorem zero_2 : ZeroT Tryd.prog 2 #[.int .i64 0] := ⟨.int .i64 0, by kernel_rfl, rfl⟩
@[go_sem] theorem sc_3 : ScT Tryd.prog 3 := ⟨⟨_, Tryd.underlying3, rfl⟩, by kernel_rfl⟩
theorem zero_3 : ZeroT Tryd.prog 3 #[.int .i64 0] := ⟨.int .i64 0, by kernel_rfl, rfl⟩
@[go_sem] theorem sc_4 : ScT Tryd.prog 4 := ⟨⟨_, Tryd.underlying4, rfl⟩, by kernel_rfl⟩
theorem zero_4 : ZeroT Tryd.prog 4 #[.bool false] := ⟨.bool false, by kernel_rfl, rfl⟩
@[go_sem] theorem sc_5 : ScT Tryd.prog 5 := ⟨⟨_, Tryd.underlying5, rfl⟩, by kernel_rfl⟩
theorem zero_5 : ZeroT Tryd.prog 5 #[.int .u8 0] := ⟨.int .u8 0, by kernel_rfl, rfl⟩
@[go_sem] theorem sc_6 : ScT Tryd.prog 6 := ⟨⟨_, Tryd.underlying6, rfl⟩, by kernel_rfl⟩
theorem zero_6 : ZeroT Tryd.prog 6 #[.int .u8 0] := ⟨.int .u8 0, by kernel_rfl, rfl⟩
theorem agg_7 : AggT Tryd.prog 7 4 := ⟨_, Tryd.underlying7, rfl, by kernel_rfl⟩
theorem zero_7 : ZeroT Tryd.prog 7 #[.int .i64 0, .int .i64 0, .bool false, .int .u8 0] := ⟨.agg #[.int .i64 0, .int .i64 0, .bool false, .int .u8 0], by kernel_rfl, rfl⟩
theorem agg_8 : AggT Tryd.prog 8 4 := ⟨_, Tryd.underlying8, rfl, by kernel_rfl⟩
theorem zero_8 : ZeroT Tryd.prog 8 #[.int .i64 0, .int .i64 0, .bool false, .int .u8 0] := ⟨.agg #[.int .i64 0, .int .i64 0, .bool false, .int .u8 0], by kernel_rfl, rfl⟩
@[go_sem] theorem sc_9 : ScT Tryd.prog 9 := ⟨⟨_, Tryd.underlying9, rfl⟩, by kernel_rfl⟩
theorem zero_9 : ZeroT Tryd.prog 9 #[.string .empty] := ⟨.string .empty, by kernel_rfl, rfl⟩
@[go_sem] theorem sc_10 : ScT Tryd.prog 10 := ⟨⟨_, Tryd.underlying10, rfl⟩, by kernel_rfl⟩
theorem zero_10 : ZeroT Tryd.prog 10 #[.string .empty] := ⟨.string .empty, by kernel_rfl, rfl⟩
@[go_sem] theorem sc_11 : ScT Tryd.prog 11 := ⟨⟨_, Tryd.underlying11, rfl⟩, by kernel_rfl⟩
theorem zero_11 : ZeroT Tryd.prog 11 #[.string .empty] := ⟨.string .empty, by kernel_rfl, rfl⟩
@[go_sem] theorem sc_12 : ScT Tryd.prog 12 := ⟨⟨_, Tryd.underlying12, rfl⟩, by kernel_rfl⟩
theorem zero_12 : ZeroT Tryd.prog 12 #[.int .u64 0] := ⟨.int .u64 0, by kernel_rfl, rfl⟩
theorem agg_13 : AggT Tryd.prog 13 2 := ⟨_, Tryd.underlying13, rfl, by kernel_rfl⟩
theorem zero_13 : ZeroT Tryd.prog 13 #[.string .empty, .int .u64 0] := ⟨.agg #[.string .empty, .int .u64 0], by kernel_rfl, rfl⟩
theorem agg_14 : AggT Tryd.prog 14 2 := ⟨_, Tryd.underlying14, rfl, by kernel_rfl⟩
theorem zero_14 : ZeroT Tryd.prog 14 #[.string .empty, .int .u64 0] := ⟨.agg #[.string .empty, .int .u64 0], by kernel_rfl, rfl⟩
@[go_sem] theorem sc_15 : ScT Tryd.prog 15 := ⟨⟨_, Tryd.underlying15, rfl⟩, by kernel_rfl⟩
theorem zero_15 : ZeroT Tryd.prog 15 #[.pointer none] := ⟨.pointer none, by kernel_rfl, rfl⟩
@[go_sem] theorem sc_16 : ScT Tryd.prog 16 := ⟨⟨_, Tryd.underlying16, rfl⟩, by kernel_rfl⟩
theorem zero_16 : ZeroT Tryd.prog 16 #[.pointer none] := ⟨.pointer none, by kernel_rfl, rfl⟩
@[go_sem] theorem sc_17 : ScT Tryd.prog 17 := ⟨⟨_, Tryd.underlying17, rfl⟩, by kernel_rfl⟩
theorem zero_17 : ZeroT Tryd.prog 17 #[.pointer none] := ⟨.pointer none, by kernel_rfl, rfl⟩
theorem agg_18 : AggT Tryd.prog 18 1 := ⟨_, Tryd.underlying18, rfl, by kernel_rfl⟩
theorem zero_18 : ZeroT Tryd.prog 18 #[.pointer none] := ⟨.agg #[.pointer none], by kernel_rfl, rfl⟩
theorem agg_19 : AggT Tryd.prog 19 1 := ⟨_, Tryd.underlying19, rfl, by kernel_rfl⟩
theorem zero_19 : ZeroT Tryd.prog 19 #[.pointer none] := ⟨.agg #[.pointer none], by kernel_rfl, rfl⟩
@[go_sem] theorem sc_20 : ScT Tryd.prog 20 := ⟨⟨_, Tryd.underlying20, rfl⟩, by kernel_rfl⟩
theorem zero_20 : ZeroT Tryd.prog 20 #[.nilIface] := ⟨.nilIface, by kernel_rfl, rfl⟩
@[go_sem] theorem sc_21 : ScT Tryd.prog 21 := ⟨⟨_, Tryd.underlying21, rfl⟩, by kernel_rfl⟩
theorem zero_21 : ZeroT Tryd.prog 21 #[.int .i32 0] := ⟨.int .i32 0, by kernel_rfl, rfl⟩
@[go_sem] theorem sc_22 : ScT Tryd.prog 22 := ⟨⟨_, Tryd.underlying22, rfl⟩, by kernel_rfl⟩
theorem zero_22 : ZeroT Tryd.prog 22 #[.slice none 0 0] := ⟨.slice none 0 0, by kernel_rfl, rfl⟩
theorem agg_23 : AggT Tryd.prog 23 4 := ⟨_, Tryd.underlying23, rfl, by kernel_rfl⟩
theorem zero_23 : ZeroT Tryd.prog 23 #[.string .empty, .string .empty, .string .empty, .slice none 0 0] := ⟨.agg #[.string .empty, .string .empty, .string .empty, .slice none 0 0], by kernel_rfl, rfl⟩
theorem agg_24 : AggT Tryd.prog 24 4 := ⟨_, Tryd.underlying24, rfl, by kernel_rfl⟩
theorem zero_24 : ZeroT Tryd.prog 24 (txt txt0) := ⟨.agg (txt txt0), by kernel_rfl, rfl⟩
@[go_sem] theorem sc_25 : ScT Tryd.prog 25 := ⟨⟨_, Tryd.underlying25, rfl⟩, by kernel_rfl⟩
@[go_sem] theorem sc_26 : ScT Tryd.prog 26 := ⟨⟨_, Tryd.underlying26, rfl⟩, by kernel_rfl⟩
@[go_sem] theorem sc_27 : ScT Tryd.prog 27 := ⟨⟨_, Tryd.underlying27, rfl⟩, by kernel_rfl⟩
@[go_sem] theorem sc_28 : ScT Tryd.prog 28 := ⟨⟨_, Tryd.underlying28, rfl⟩, by kernel_rfl⟩
theorem zero_28 : ZeroT Tryd.prog 28 #[.nilIface] := ⟨.nilIface, by kernel_rfl, rfl⟩
@[go_sem] theorem sc_29 : ScT Tryd.prog 29 := ⟨⟨_, Tryd.underlying29, rfl⟩, by kernel_rfl⟩
theorem zero_29 : ZeroT Tryd.prog 29 #[.nilIface] := ⟨.nilIface, by kernel_rfl, rfl⟩
@[go_sem] theorem sc_31 : ScT Tryd.prog 31 := ⟨⟨_, Tryd.underlying31, rfl⟩, by kernel_rfl⟩
@[go_sem] theorem sc_32 : ScT Tryd.prog 32 := ⟨⟨_, Tryd.underlying32, rfl⟩, by kernel_rfl⟩
@[go_sem] theorem sc_33 : ScT Tryd.prog 33 := ⟨⟨_, Tryd.underlying33, rfl⟩, by kernel_rfl⟩
theorem zero_33 : ZeroT Tryd.prog 33 #[.slice none 0 0] := ⟨.slice none 0 0, by kernel_rfl, rfl⟩
@[go_sem] theorem sc_35 : ScT Tryd.prog 35 := ⟨⟨_, Tryd.underlying35, rfl⟩, by kernel_rfl⟩
@[go_sem] theorem sc_37 : ScT Tryd.prog 37 := ⟨⟨_, Tryd.underlying37, rfl⟩, by kernel_rfl⟩
@[go_sem] theorem sc_38 : ScT Tryd.prog 38 := ⟨⟨_, Tryd.underlying38, rfl⟩, by kernel_rfl⟩
@[go_sem] theorem sc_39 : ScT Tryd.prog 39 := ⟨⟨_, Tryd.underlying39, rfl⟩, by kernel_rfl⟩
@[go_sem] theorem sc_41 : ScT Tryd.prog 41 := ⟨⟨_, Tryd.underlying41, rfl⟩, by kernel_rfl⟩
@[go_sem] theorem sc_42 : ScT Tryd.prog 42 := ⟨⟨_, Tryd.underlying42, rfl⟩, by kernel_rfl⟩
theorem agg_43 : AggT Tryd.prog 43 3 := ⟨_, Tryd.underlying43, rfl, by kernel_rfl⟩
theorem zero_43 : ZeroT Tryd.prog 43 #[.int .i64 0, .int .i64 0, .string .empty] := ⟨.agg #[.int .i64 0, .int .i64 0, .string .empty], by kernel_rfl, rfl⟩
theorem agg_44 : AggT Tryd.prog 44 3 := ⟨_, Tryd.underlying44, rfl, by kernel_rfl⟩
theorem zero_44 : ZeroT Tryd.prog 44 (edt edt0) := ⟨.agg (edt edt0), by kernel_rfl, rfl⟩
@[go_sem] theorem sc_45 : ScT Tryd.prog 45 := ⟨⟨_, Tryd.underlying45, rfl⟩, by kernel_rfl⟩
@[go_sem] theorem sc_46 : ScT Tryd.prog 46 := ⟨⟨_, Tryd.underlying46, rfl⟩, by kernel_rfl⟩
@[go_sem] theorem sc_47 : ScT Tryd.prog 47 := ⟨⟨_, Tryd.underlying47, rfl⟩, by kernel_rfl⟩
theorem zero_47 : ZeroT Tryd.prog 47 #[.slice none 0 0] := ⟨.slice none 0 0, by kernel_rfl, rfl⟩
@[go_sem] theorem sc_48 : ScT Tryd.prog 48 := ⟨⟨_, Tryd.underlying48, rfl⟩, by kernel_rfl⟩
theorem zero_48 : ZeroT Tryd.prog 48 #[.slice none 0 0] := ⟨.slice none 0 0, by kernel_rfl, rfl⟩
theorem agg_49 : AggT Tryd.prog 49 3 := ⟨_, Tryd.underlying49, rfl, by kernel_rfl⟩
theorem zero_49 : ZeroT Tryd.prog 49 #[.int .i64 0, .slice none 0 0, .slice none 0 0] := ⟨.agg #[.int .i64 0, .slice none 0 0, .slice none 0 0], by kernel_rfl, rfl⟩
theorem agg_50 : AggT Tryd.prog 50 3 := ⟨_, Tryd.underlying50, rfl, by kernel_rfl⟩
theorem zero_50 : ZeroT Tryd.prog 50 (nov nov0) := ⟨.agg (nov nov0), by kernel_rfl, rfl⟩
@[go_sem] theorem sc_52 : ScT Tryd.prog 52 := ⟨⟨_, Tryd.underlying52, rfl⟩, by kernel_rfl⟩
@[go_sem] theorem sc_53 : ScT Tryd.prog 53 := ⟨⟨_, Tryd.underlying53, rfl⟩, by kernel_rfl⟩
@[go_sem] theorem sc_55 : ScT Tryd.prog 55 := ⟨⟨_, Tryd.underlying55, rfl⟩, by kernel_rfl⟩
@[go_sem] theorem sc_56 : ScT Tryd.prog 56 := ⟨⟨_, Tryd.underlying56, rfl⟩, by kernel_rfl⟩
@[go_sem] theorem sc_58 : ScT Tryd.prog 58 := ⟨⟨_, Tryd.underlying58, rfl⟩, by kernel_rfl⟩
@[go_sem] theorem sc_59 : ScT Tryd.prog 59 := ⟨⟨_, Tryd.underlying59, rfl⟩, by kernel_rfl⟩
@[go_sem] theorem sc_60 : ScT Tryd.prog 60 := ⟨⟨_, Tryd.underlying60, rfl⟩, by kernel_rfl⟩
@[go_sem] theorem sc_61 : ScT Tryd.prog 61 := ⟨⟨_, Tryd.underlying61, rfl⟩, by kernel_rfl⟩
@[go_sem] theorem sc_62 : ScT Tryd.prog 62 := ⟨⟨_, Tryd.underlying62, rfl⟩, by kernel_rfl⟩
@[go_sem] theorem sc_63 : ScT Tryd.prog 63 := ⟨⟨_, Tryd.underlying63, rfl⟩, by kernel_rfl⟩
@[go_sem] theorem sc_64 : ScT Tryd.prog 64 := ⟨⟨_, Tryd.underlying64, rfl⟩, by kernel_rfl⟩
@[go_sem] theorem sc_66 : ScT Tryd.prog 66 := ⟨⟨_, Tryd.underlying66, rfl⟩, by kernel_rfl⟩
@[go_sem] theorem sc_67 : ScT Tryd.prog 67 := ⟨⟨_, Tryd.underlying67, rfl⟩, by kernel_rfl⟩
theorem zero_67 : ZeroT Tryd.prog 67 #[.pointer none] := ⟨.pointer none, by kernel_rfl, rfl⟩
@[go_sem] theorem sc_68 : ScT Tryd.prog 68 := ⟨⟨_, Tryd.underlying68, rfl⟩, by kernel_rfl⟩
theorem agg_69 : AggT Tryd.prog 69 5 := ⟨_, Tryd.underlying69, rfl, by kernel_rfl⟩
theorem zero_69 : ZeroT Tryd.prog 69 #[.int .i64 0, .int .i64 0, .int .i64 0, .int .i64 0, .int .i64 0] := ⟨.agg #[.int .i64 0, .int .i64 0, .int .i64 0, .int .i64 0, .int .i64 0], by kernel_rfl, rfl⟩
@[go_sem] theorem sc_70 : ScT Tryd.prog 70 := ⟨⟨_, Tryd.underlying70, rfl⟩, by kernel_rfl⟩
@[go_sem] theorem sc_71 : ScT Tryd.prog 71 := ⟨⟨_, Tryd.underlying71, rfl⟩, by kernel_rfl⟩
@[go_sem] theorem sc_72 : ScT Tryd.prog 72 := ⟨⟨_, Tryd.underlying72, rfl⟩, by kernel_rfl⟩
theorem zero_72 : ZeroT Tryd.prog 72 #[.pointer none] := ⟨.pointer none, by kernel_rfl, rfl⟩
@[go_sem] theorem sc_73 : ScT Tryd.prog 73 := ⟨⟨_, Tryd.underlying73, rfl⟩, by kernel_rfl⟩
@[go_sem] theorem sc_75 : ScT Tryd.prog 75 := ⟨⟨_, Tryd.underlying75, rfl⟩, by kernel_rfl⟩
@[go_sem] theorem sc_76 : ScT Tryd.prog 76 := ⟨⟨_, Tryd.underlying76, rfl⟩, by kernel_rfl⟩
@[go_sem] theorem sc_77 : ScT Tryd.prog 77 := ⟨⟨_, Tryd.underlying77, rfl⟩, by kernel_rfl⟩
@[go_sem] theorem sc_79 : ScT Tryd.prog 79 := ⟨⟨_, Tryd.underlying79, rfl⟩, by kernel_rfl⟩
@[go_sem] theorem sc_80 : ScT Tryd.prog 80 := ⟨⟨_, Tryd.underlying80, rfl⟩, by kernel_rfl⟩
theorem zero_80 : ZeroT Tryd.prog 80 #[.slice none 0 0] := ⟨.slice none 0 0, by kernel_rfl, rfl⟩
@[go_sem] theorem sc_81 : ScT Tryd.prog 81 := ⟨⟨_, Tryd.underlying81, rfl⟩, by kernel_rfl⟩
@[go_sem] theorem sc_82 : ScT Tryd.prog 82 := ⟨⟨_, Tryd.underlying82, rfl⟩, by kernel_rfl⟩
@[go_sem] theorem sc_83 : ScT Tryd.prog 83 := ⟨⟨_, Tryd.underlying83, rfl⟩, by kernel_rfl⟩
@[go_sem] theorem sc_84 : ScT Tryd.prog 84 := ⟨⟨_, Tryd.underlying84, rfl⟩, by kernel_rfl⟩
@[go_sem] theorem sc_85 : ScT Tryd.prog 85 := ⟨⟨_, Tryd.underlying85, rfl⟩, by kernel_rfl⟩
@[go_sem] theorem sc_86 : ScT Tryd.prog 86 := ⟨⟨_, Tryd.underlying86, rfl⟩, by kernel_rfl⟩
@[go_sem] theorem sc_88 : ScT Tryd.prog 88 := ⟨⟨_, Tryd.underlying88, rfl⟩, by kernel_rfl⟩
@[go_sem] theorem sc_89 : ScT Tryd.prog 89 := ⟨⟨_, Tryd.underlying89, rfl⟩, by kernel_rfl⟩
@[go_sem] theorem sc_90 : ScT Tryd.prog 90 := ⟨⟨_, Tryd.underlying90, rfl⟩, by kernel_rfl⟩
theorem zero_90 : ZeroT Tryd.prog 90 #[.slice none 0 0] := ⟨.slice none 0 0, by kernel_rfl, rfl⟩
@[go_sem] theorem sc_91 : ScT Tryd.prog 91 := ⟨⟨_, Tryd.underlying91, rfl⟩, by kernel_rfl⟩
@[go_sem] theorem sc_93 : ScT Tryd.prog 93 := ⟨⟨_, Tryd.underlying93, rfl⟩, by kernel_rfl⟩
theorem agg_94 : AggT Tryd.prog 94 2 := ⟨_, Tryd.underlying94, rfl, by kernel_rfl⟩
theorem zero_94 : ZeroT Tryd.prog 94 #[.string .empty, .string .empty] := ⟨.agg #[.string .empty, .string .empty], by kernel_rfl, rfl⟩
@[go_sem] theorem sc_95 : ScT Tryd.prog 95 := ⟨⟨_, Tryd.underlying95, rfl⟩, by kernel_rfl⟩
@[go_sem] theorem sc_96 : ScT Tryd.prog 96 := ⟨⟨_, Tryd.underlying96, rfl⟩, by kernel_rfl⟩
@[go_sem] theorem sc_97 : ScT Tryd.prog 97 := ⟨⟨_, Tryd.underlying97, rfl⟩, by kernel_rfl⟩
theorem zero_97 : ZeroT Tryd.prog 97 #[.slice none 0 0] := ⟨.slice none 0 0, by kernel_rfl, rfl⟩
theorem agg_98 : AggT Tryd.prog 98 3 := ⟨_, Tryd.underlying98, rfl, by kernel_rfl⟩
theorem zero_98 : ZeroT Tryd.prog 98 #[.slice none 0 0, .slice none 0 0, .slice none 0 0] := ⟨.agg #[.slice none 0 0, .slice none 0 0, .slice none 0 0], by kernel_rfl, rfl⟩
theorem agg_99 : AggT Tryd.prog 99 3 := ⟨_, Tryd.underlying99, rfl, by kernel_rfl⟩
theorem zero_99 : ZeroT Tryd.prog 99 #[.slice none 0 0, .slice none 0 0, .slice none 0 0] := ⟨.agg #[.slice none 0 0, .slice none 0 0, .slice none 0 0], by kernel_rfl, rfl⟩
@[go_sem] theorem sc_100 : ScT Tryd.prog 100 := ⟨⟨_, Tryd.underlying100, rfl⟩, by kernel_rfl⟩
@[go_sem] theorem sc_101 : ScT Tryd.prog 101 := ⟨⟨_, Tryd.underlying101, rfl⟩, by kernel_rfl⟩
@[go_sem] theorem sc_102 : ScT Tryd.prog 102 := ⟨⟨_, Tryd.underlying102, rfl⟩, by kernel_rfl⟩
theorem agg_103 : AggT Tryd.prog 103 3 := ⟨_, Tryd.underlying103, rfl, by kernel_rfl⟩
theorem zero_103 : ZeroT Tryd.prog 103 #[.string .empty, .string .empty, .int .i64 0] := ⟨.agg #[.string .empty, .string .empty, .int .i64 0], by kernel_rfl, rfl⟩
theorem agg_104 : AggT Tryd.prog 104 3 := ⟨_, Tryd.underlying104, rfl, by kernel_rfl⟩
theorem zero_104 : ZeroT Tryd.prog 104 (lnk lnk0) := ⟨.agg (lnk lnk0), by kernel_rfl, rfl⟩
@[go_sem] theorem sc_105 : ScT Tryd.prog 105 := ⟨⟨_, Tryd.underlying105, rfl⟩, by kernel_rfl⟩
@[go_sem] theorem sc_106 : ScT Tryd.prog 106 := ⟨⟨_, Tryd.underlying106, rfl⟩, by kernel_rfl⟩
theorem agg_108 : AggT Tryd.prog 108 2 := ⟨_, Tryd.underlying108, rfl, by kernel_rfl⟩
theorem zero_108 : ZeroT Tryd.prog 108 #[.int .u8 0, .int .u8 0] := ⟨.agg #[.int .u8 0, .int .u8 0], by kernel_rfl, rfl⟩
theorem agg_109 : AggT Tryd.prog 109 2 := ⟨_, Tryd.underlying109, rfl, by kernel_rfl⟩
theorem zero_109 : ZeroT Tryd.prog 109 #[.int .u8 0, .int .u8 0] := ⟨.agg #[.int .u8 0, .int .u8 0], by kernel_rfl, rfl⟩
theorem agg_110 : AggT Tryd.prog 110 32 := ⟨_, Tryd.underlying110, rfl, by kernel_rfl⟩
theorem zero_110 : ZeroT Tryd.prog 110 #[.int .u8 0, .int .u8 0, .int .u8 0, .int .u8 0, .int .u8 0, .int .u8 0, .int .u8 0, .int .u8 0, .int .u8 0, .int .u8 0, .int .u8 0, .int .u8 0, .int .u8 0, .int .u8 0, .int .u8 0, .int .u8 0, .int .u8 0, .int .u8 0, .int .u8 0, .int .u8 0, .int .u8 0, .int .u8 0, .int .u8 0, .int .u8 0, .int .u8 0, .int .u8 0, .int .u8 0, .int .u8 0, .int .u8 0, .int .u8 0, .int .u8 0, .int .u8 0] := ⟨.agg #[.int .u8 0, .int .u8 0, .int .u8 0, .int .u8 0, .int .u8 0, .int .u8 0, .int .u8 0, .int .u8 0, .int .u8 0, .int .u8 0, .int .u8 0, .int .u8 0, .int .u8 0, .int .u8 0, .int .u8 0, .int .u8 0, .int .u8 0, .int .u8 0, .int .u8 0, .int .u8 0, .int .u8 0, .int .u8 0, .int .u8 0, .int .u8 0, .int .u8 0, .int .u8 0, .int .u8 0, .int .u8 0, .int .u8 0, .int .u8 0, .int .u8 0, .int .u8 0], by kernel_rfl, rfl⟩
@[go_sem] theorem sc_111 : ScT Tryd.prog 111 := ⟨⟨_, Tryd.underlying111, rfl⟩, by kernel_rfl⟩
theorem zero_111 : ZeroT Tryd.prog 111 #[.int .u64 0] := ⟨.int .u64 0, by kernel_rfl, rfl⟩
@[go_sem] theorem sc_112 : ScT Tryd.prog 112 := ⟨⟨_, Tryd.underlying112, rfl⟩, by kernel_rfl⟩
theorem zero_112 : ZeroT Tryd.prog 112 #[.pointer none] := ⟨.pointer none, by kernel_rfl, rfl⟩
theorem agg_113 : AggT Tryd.prog 113 4 := ⟨_, Tryd.underlying113, rfl, by kernel_rfl⟩
theorem zero_113 : ZeroT Tryd.prog 113 #[.string .empty, .string .empty, .int .i64 0, .nilIface] := ⟨.agg #[.string .empty, .string .empty, .int .i64 0, .nilIface], by kernel_rfl, rfl⟩
theorem agg_114 : AggT Tryd.prog 114 4 := ⟨_, Tryd.underlying114, rfl, by kernel_rfl⟩
theorem zero_114 : ZeroT Tryd.prog 114 #[.string .empty, .string .empty, .int .i64 0, .nilIface] := ⟨.agg #[.string .empty, .string .empty, .int .i64 0, .nilIface], by kernel_rfl, rfl⟩
@[go_sem] theorem sc_115 : ScT Tryd.prog 115 := ⟨⟨_, Tryd.underlying115, rfl⟩, by kernel_rfl⟩
@[go_sem] theorem sc_116 : ScT Tryd.prog 116 := ⟨⟨_, Tryd.underlying116, rfl⟩, by kernel_rfl⟩
@[go_sem] theorem sc_117 : ScT Tryd.prog 117 := ⟨⟨_, Tryd.underlying117, rfl⟩, by kernel_rfl⟩
theorem zero_117 : ZeroT Tryd.prog 117 #[.pointer none] := ⟨.pointer none, by kernel_rfl, rfl⟩
@[go_sem] theorem sc_118 : ScT Tryd.prog 118 := ⟨⟨_, Tryd.underlying118, rfl⟩, by kernel_rfl⟩
theorem zero_118 : ZeroT Tryd.prog 118 #[.slice none 0 0] := ⟨.slice none 0 0, by kernel_rfl, rfl⟩
@[go_sem] theorem sc_119 : ScT Tryd.prog 119 := ⟨⟨_, Tryd.underlying119, rfl⟩, by kernel_rfl⟩
@[go_sem] theorem sc_120 : ScT Tryd.prog 120 := ⟨⟨_, Tryd.underlying120, rfl⟩, by kernel_rfl⟩
@[go_sem] theorem sc_121 : ScT Tryd.prog 121 := ⟨⟨_, Tryd.underlying121, rfl⟩, by kernel_rfl⟩
@[go_sem] theorem sc_122 : ScT Tryd.prog 122 := ⟨⟨_, Tryd.underlying122, rfl⟩, by kernel_rfl⟩
theorem zero_122 : ZeroT Tryd.prog 122 #[.int .u64 0] := ⟨.int .u64 0, by kernel_rfl, rfl⟩
theorem agg_123 : AggT Tryd.prog 123 1 := ⟨_, Tryd.underlying123, rfl, by kernel_rfl⟩
theorem zero_123 : ZeroT Tryd.prog 123 #[.slice none 0 0] := ⟨.agg #[.slice none 0 0], by kernel_rfl, rfl⟩
theorem agg_124 : AggT Tryd.prog 124 1 := ⟨_, Tryd.underlying124, rfl, by kernel_rfl⟩
theorem zero_124 : ZeroT Tryd.prog 124 #[.slice none 0 0] := ⟨.agg #[.slice none 0 0], by kernel_rfl, rfl⟩
@[go_sem] theorem sc_125 : ScT Tryd.prog 125 := ⟨⟨_, Tryd.underlying125, rfl⟩, by kernel_rfl⟩
theorem zero_125 : ZeroT Tryd.prog 125 #[.pointer none] := ⟨.pointer none, by kernel_rfl, rfl⟩
@[go_sem] theorem sc_126 : ScT Tryd.prog 126 := ⟨⟨_, Tryd.underlying126, rfl⟩, by kernel_rfl⟩
theorem agg_127 : AggT Tryd.prog 127 4 := ⟨_, Tryd.underlying127, rfl, by kernel_rfl⟩
theorem zero_127 : ZeroT Tryd.prog 127 #[.pointer none, .pointer none, .pointer none, .string .empty] := ⟨.agg #[.pointer none, .pointer none, .pointer none, .string .empty], by kernel_rfl, rfl⟩
theorem agg_128 : AggT Tryd.prog 128 4 := ⟨_, Tryd.underlying128, rfl, by kernel_rfl⟩
theorem zero_128 : ZeroT Tryd.prog 128 #[.pointer none, .pointer none, .pointer none, .string .empty] := ⟨.agg #[.pointer none, .pointer none, .pointer none, .string .empty], by kernel_rfl, rfl⟩
theorem agg_129 : AggT Tryd.prog 129 0 := ⟨_, Tryd.underlying129, rfl, by kernel_rfl⟩
theorem zero_129 : ZeroT Tryd.prog 129 #[] := ⟨.agg #[], by kernel_rfl, rfl⟩
theorem agg_130 : AggT Tryd.prog 130 0 := ⟨_, Tryd.underlying130, rfl, by kernel_rfl⟩
theorem zero_130 : ZeroT Tryd.prog 130 #[] := ⟨.agg #[], by kernel_rfl, rfl⟩
theorem agg_131 : AggT Tryd.prog 131 0 := ⟨_, Tryd.underlying131, rfl, by kernel_rfl⟩
theorem zero_131 : ZeroT Tryd.prog 131 #[] := ⟨.agg #[], by kernel_rfl, rfl⟩
@[go_sem] theorem sc_132 : ScT Tryd.prog 132 := ⟨⟨_, Tryd.underlying132, rfl⟩, by kernel_rfl⟩
@[go_sem] theorem sc_133 : ScT Tryd.prog 133 := ⟨⟨_, Tryd.underlying133, rfl⟩, by kernel_rfl⟩
theorem zero_133 : ZeroT Tryd.prog 133 #[.int .u32 0] := ⟨.int .u32 0, by kernel_rfl, rfl⟩
@[go_sem] theorem sc_134 : ScT Tryd.prog 134 := ⟨⟨_, Tryd.underlying134, rfl⟩, by kernel_rfl⟩
theorem zero_134 : ZeroT Tryd.prog 134 #[.int .u8 0] := ⟨.int .u8 0, by kernel_rfl, rfl⟩
@[go_sem] theorem sc_135 : ScT Tryd.prog 135 := ⟨⟨_, Tryd.underlying135, rfl⟩, by kernel_rfl⟩
theorem zero_135 : ZeroT Tryd.prog 135 #[.int .u8 0] := ⟨.int .u8 0, by kernel_rfl, rfl⟩
@[go_sem] theorem sc_136 : ScT Tryd.prog 136 := ⟨⟨_, Tryd.underlying136, rfl⟩, by kernel_rfl⟩
@[go_sem] theorem sc_137 : ScT Tryd.prog 137 := ⟨⟨_, Tryd.underlying137, rfl⟩, by kernel_rfl⟩
theorem zero_137 : ZeroT Tryd.prog 137 #[.pointer none] := ⟨.pointer none, by kernel_rfl, rfl⟩
@[go_sem] theorem sc_138 : ScT Tryd.prog 138 := ⟨⟨_, Tryd.underlying138, rfl⟩, by kernel_rfl⟩
theorem zero_138 : ZeroT Tryd.prog 138 #[.int .i32 0] := ⟨.int .i32 0, by kernel_rfl, rfl⟩
@[go_sem] theorem sc_139 : ScT Tryd.prog 139 := ⟨⟨_, Tryd.underlying139, rfl⟩, by kernel_rfl⟩
theorem zero_139 : ZeroT Tryd.prog 139 #[.int .i32 0] := ⟨.int .i32 0, by kernel_rfl, rfl⟩
theorem agg_140 : AggT Tryd.prog 140 11 := ⟨_, Tryd.underlying140, rfl, by kernel_rfl⟩
theorem zero_140 : ZeroT Tryd.prog 140 #[.int .u64 0, .int .u64 0, .int .u32 0, .int .u8 0, .int .u8 0, .int .u8 0, .int .u8 0, .nilFunc, .pointer none, .int .i32 0, .int .i32 0] := ⟨.agg #[.int .u64 0, .int .u64 0, .int .u32 0, .int .u8 0, .int .u8 0, .int .u8 0, .int .u8 0, .nilFunc, .pointer none, .int .i32 0, .int .i32 0], by kernel_rfl, rfl⟩
theorem agg_141 : AggT Tryd.prog 141 11 := ⟨_, Tryd.underlying141, rfl, by kernel_rfl⟩
theorem zero_141 : ZeroT Tryd.prog 141 #[.int .u64 0, .int .u64 0, .int .u32 0, .int .u8 0, .int .u8 0, .int .u8 0, .int .u8 0, .nilFunc, .pointer none, .int .i32 0, .int .i32 0] := ⟨.agg #[.int .u64 0, .int .u64 0, .int .u32 0, .int .u8 0, .int .u8 0, .int .u8 0, .int .u8 0, .nilFunc, .pointer none, .int .i32 0, .int .i32 0], by kernel_rfl, rfl⟩
theorem agg_142 : AggT Tryd.prog 142 1 := ⟨_, Tryd.underlying142, rfl, by kernel_rfl⟩
theorem zero_142 : ZeroT Tryd.prog 142 #[.string .empty] := ⟨.agg #[.string .empty], by kernel_rfl, rfl⟩
theorem agg_143 : AggT Tryd.prog 143 1 := ⟨_, Tryd.underlying143, rfl, by kernel_rfl⟩
theorem zero_143 : ZeroT Tryd.prog 143 #[.string .empty] := ⟨.agg #[.string .empty], by kernel_rfl, rfl⟩
@[go_sem] theorem sc_145 : ScT Tryd.prog 145 := ⟨⟨_, Tryd.underlying145, rfl⟩, by kernel_rfl⟩
theorem app_22 : AppT Tryd.prog 22 44 3 32 edt := ⟨Tryd.underlying22, ⟨.agg (edt edt0), by kernel_rfl, (by first | rfl | (simp only [Value.cells, go_sem]))⟩, by decide, fun a => by simp only [go_sem], fun a => by simp only [go_sem]⟩
theorem app_33 : AppT Tryd.prog 33 21 1 4 runv := ⟨Tryd.underlying33, ⟨.int .i32 0, by kernel_rfl, (by first | rfl | (simp only [Value.cells, go_sem]))⟩, by decide, fun a => by simp only [go_sem], fun a => by simp only [go_sem]⟩
theorem app_47 : AppT Tryd.prog 47 104 3 40 lnk := ⟨Tryd.underlying47, ⟨.agg (lnk lnk0), by kernel_rfl, (by first | rfl | (simp only [Value.cells, go_sem]))⟩, by decide, fun a => by simp only [go_sem], fun a => by simp only [go_sem]⟩
theorem app_48 : AppT Tryd.prog 48 3 1 8 intv := ⟨Tryd.underlying48, ⟨.int .i64 0, by kernel_rfl, (by first | rfl | (simp only [Value.cells, go_sem]))⟩, by decide, fun a => by simp only [go_sem], fun a => by simp only [go_sem]⟩
theorem app_80 : AppT Tryd.prog 80 48 1 24 slv := ⟨Tryd.underlying80, ⟨.slice none 0 0, by kernel_rfl, (by first | rfl | (simp only [Value.cells, go_sem]))⟩, by decide, fun a => by simp only [go_sem], fun a => by simp only [go_sem]⟩
theorem app_90 : AppT Tryd.prog 90 5 1 1 bytv := ⟨Tryd.underlying90, ⟨.int .u8 0, by kernel_rfl, (by first | rfl | (simp only [Value.cells, go_sem]))⟩, by decide, fun a => by simp only [go_sem], fun a => by simp only [go_sem]⟩
theorem app_97 : AppT Tryd.prog 97 33 1 24 slv := ⟨Tryd.underlying97, ⟨.slice none 0 0, by kernel_rfl, (by first | rfl | (simp only [Value.cells, go_sem]))⟩, by decide, fun a => by simp only [go_sem], fun a => by simp only [go_sem]⟩
theorem mk_33 : MakeT Tryd.prog 33 21 1 4 runv (0) := ⟨Tryd.underlying33, ⟨.int .i32 0, by kernel_rfl, (by first | rfl | (simp only [Value.cells, go_sem]))⟩, by decide, fun a => by simp only [go_sem]⟩
theorem mk_48 : MakeT Tryd.prog 48 3 1 8 intv (0) := ⟨Tryd.underlying48, ⟨.int .i64 0, by kernel_rfl, (by first | rfl | (simp only [Value.cells, go_sem]))⟩, by decide, fun a => by simp only [go_sem]⟩
theorem mk_80 : MakeT Tryd.prog 80 48 1 24 slv (sl0) := ⟨Tryd.underlying80, ⟨.slice none 0 0, by kernel_rfl, (by first | rfl | (simp only [Value.cells, go_sem]))⟩, by decide, fun a => by simp only [go_sem]⟩
theorem mk_90 : MakeT Tryd.prog 90 5 1 1 bytv (0) := ⟨Tryd.underlying90, ⟨.int .u8 0, by kernel_rfl, (by first | rfl | (simp only [Value.cells, go_sem]))⟩, by decide, fun a => by simp only [go_sem]⟩
theorem mk_97 : MakeT Tryd.prog 97 33 1 24 slv (sl0) := ⟨Tryd.underlying97, ⟨.slice none 0 0, by kernel_rfl, (by first | rfl | (simp only [Value.cells, go_sem]))⟩, by decide, fun a => by simp only [go_sem]⟩
theorem byt_90_9 : BytesT Tryd.prog 90 9 := ⟨_, Tryd.underlying90, Tryd.underlying5, Tryd.underlying9⟩
theorem rut_33_9 : RunesT Tryd.prog 33 9 21 := ⟨Tryd.underlying33, Tryd.underlying21, Tryd.underlying9⟩
theorem bst_22 : BsT Tryd.prog 22 44 3 := ⟨Tryd.underlying22, .agg (edt edt0), by kernel_rfl, (by first | rfl | (simp only [Value.cells, go_sem])), by decide, by decide⟩
theorem bst_33 : BsT Tryd.prog 33 21 1 := ⟨Tryd.underlying33, .int .i32 0, by kernel_rfl, (by first | rfl | (simp only [Value.cells, go_sem])), by decide, by decide⟩
theorem bst_47 : BsT Tryd.prog 47 104 3 := ⟨Tryd.underlying47, .agg (lnk lnk0), by kernel_rfl, (by first | rfl | (simp only [Value.cells, go_sem])), by decide, by decide⟩
theorem bst_48 : BsT Tryd.prog 48 3 1 := ⟨Tryd.underlying48, .int .i64 0, by kernel_rfl, (by first | rfl | (simp only [Value.cells, go_sem])), by decide, by decide⟩
theorem bst_80 : BsT Tryd.prog 80 48 1 := ⟨Tryd.underlying80, .slice none 0 0, by kernel_rfl, (by first | rfl | (simp only [Value.cells, go_sem])), by decide, by decide⟩
theorem bst_90 : BsT Tryd.prog 90 5 1 := ⟨Tryd.underlying90, .int .u8 0, by kernel_rfl, (by first | rfl | (simp only [Value.cells, go_sem])), by decide, by decide⟩
theorem bst_97 : BsT Tryd.prog 97 33 1 := ⟨Tryd.underlying97, .slice none 0 0, by kernel_rfl, (by first | rfl | (simp only [Value.cells, go_sem])), by decide, by decide⟩
theorem bst_118 : BsT Tryd.prog 118 29 1 := ⟨Tryd.underlying118, .nilIface, by kernel_rfl, (by first | rfl | (simp only [Value.cells, go_sem])), by decide, by decide⟩
theorem bld_0 (x0_0 : Int) : BuildT Tryd.prog 44 #[(0, .int .i64 x0_0)] (.agg (edt ⟨x0_0, 0, .empty⟩)) := fun w => by kernel_rfl
theorem bld_1 (x0_0 : Int) (x1_0 : Int) (x2_0 : ByteArray) : BuildT Tryd.prog 44 #[(0, .int .i64 x0_0), (1, .int .i64 x1_0), (2, .string x2_0)] (.agg (edt ⟨x0_0, x1_0, x2_0⟩)) := fun w => by kernel_rfl
theorem bld_2  : BuildT Tryd.prog 50 #[] (.agg (nov ⟨0, none, 0, 0, none, 0, 0⟩)) := fun w => by kernel_rfl
theorem bld_3 (x0_0 : Int) (x1_0_1 : Option Addr) (x1_0_2 x1_0_3 : Nat) (x2_0_1 : Option Addr) (x2_0_2 x2_0_3 : Nat) : BuildT Tryd.prog 50 #[(0, .int .i64 x0_0), (1, .slice x1_0_1 x1_0_2 x1_0_3), (2, .slice x2_0_1 x2_0_2 x2_0_3)] (.agg (nov ⟨x0_0, x1_0_1, x1_0_2, x1_0_3, x2_0_1, x2_0_2, x2_0_3⟩)) := fun w => by kernel_rfl
theorem bld_4 (x0_0 : Int) (x2_0_1 : Option Addr) (x2_0_2 x2_0_3 : Nat) : BuildT Tryd.prog 50 #[(0, .int .i64 x0_0), (2, .slice x2_0_1 x2_0_2 x2_0_3)] (.agg (nov ⟨x0_0, none, 0, 0, x2_0_1, x2_0_2, x2_0_3⟩)) := fun w => by kernel_rfl
theorem bld_5 (x0_0 : Int) (x1_0 : Int) (x2_0 : Int) (x3_0 : Int) (x4_0 : Int) : BuildT Tryd.prog 69 #[(0, .int .i64 x0_0), (1, .int .i64 x1_0), (2, .int .i64 x2_0), (3, .int .i64 x3_0), (4, .int .i64 x4_0)] (.agg #[.int .i64 x0_0, .int .i64 x1_0, .int .i64 x2_0, .int .i64 x3_0, .int .i64 x4_0]) := fun w => by kernel_rfl
theorem bld_6 (x0_0 : ByteArray) (x1_0 : ByteArray) : BuildT Tryd.prog 94 #[(0, .string x0_0), (1, .string x1_0)] (.agg #[.string x0_0, .string x1_0]) := fun w => by kernel_rfl
theorem bld_7 (x0_0_1 : Option Addr) (x0_0_2 x0_0_3 : Nat) (x1_0_1 : Option Addr) (x1_0_2 x1_0_3 : Nat) (x2_0_1 : Option Addr) (x2_0_2 x2_0_3 : Nat) : BuildT Tryd.prog 99 #[(0, .slice x0_0_1 x0_0_2 x0_0_3), (1, .slice x1_0_1 x1_0_2 x1_0_3), (2, .slice x2_0_1 x2_0_2 x2_0_3)] (.agg #[.slice x0_0_1 x0_0_2 x0_0_3, .slice x1_0_1 x1_0_2 x1_0_3, .slice x2_0_1 x2_0_2 x2_0_3]) := fun w => by kernel_rfl
theorem bld_8 (x0_0 : ByteArray) (x1_0 : ByteArray) (x2_0 : Int) : BuildT Tryd.prog 104 #[(0, .string x0_0), (1, .string x1_0), (2, .int .i64 x2_0)] (.agg (lnk ⟨x0_0, x1_0, x2_0⟩)) := fun w => by kernel_rfl
theorem bld_9 (x0_0 : ByteArray) (x1_0 : ByteArray) (x2_0 : Int) (x3_0t : TypeId) (x3_0p : Option Addr) : BuildT Tryd.prog 114 #[(0, .string x0_0), (1, .string x1_0), (2, .int .i64 x2_0), (3, (.iface x3_0t (.pointer x3_0p)))] (.agg #[.string x0_0, .string x1_0, .int .i64 x2_0, (.iface x3_0t (.pointer x3_0p))]) := fun w => by kernel_rfl
theorem bld_10 (x0_0 : ByteArray) : BuildT Tryd.prog 143 #[(0, .string x0_0)] (.agg #[.string x0_0]) := fun w => by kernel_rfl
@[go_sem] theorem enter_3 : entB Tryd.prog 3 = true := by kernel_rfl
@[go_sem] theorem enter_4 : entB Tryd.prog 4 = true := by kernel_rfl
@[go_sem] theorem enter_5 : entB Tryd.prog 5 = true := by kernel_rfl
@[go_sem] theorem enter_6 : entB Tryd.prog 6 = true := by kernel_rfl
@[go_sem] theorem enter_7 : entB Tryd.prog 7 = true := by kernel_rfl
@[go_sem] theorem enter_8 : entB Tryd.prog 8 = true := by kernel_rfl
@[go_sem] theorem enter_9 : entB Tryd.prog 9 = true := by kernel_rfl
@[go_sem] theorem enter_10 : entB Tryd.prog 10 = true := by kernel_rfl
@[go_sem] theorem enter_11 : entB Tryd.prog 11 = true := by kernel_rfl
@[go_sem] theorem enter_12 : entB Tryd.prog 12 = true := by kernel_rfl
@[go_sem] theorem enter_13 : entB Tryd.prog 13 = true := by kernel_rfl
@[go_sem] theorem enter_14 : entB Tryd.prog 14 = true := by kernel_rfl
@[go_sem] theorem enter_15 : entB Tryd.prog 15 = true := by kernel_rfl
@[go_sem] theorem enter_16 : entB Tryd.prog 16 = true := by kernel_rfl
@[go_sem] theorem enter_17 : entB Tryd.prog 17 = true := by kernel_rfl
@[go_sem] theorem enter_18 : entB Tryd.prog 18 = true := by kernel_rfl
@[go_sem] theorem enter_19 : entB Tryd.prog 19 = true := by kernel_rfl
@[go_sem] theorem enter_20 : entB Tryd.prog 20 = true := by kernel_rfl
@[go_sem] theorem enter_21 : entB Tryd.prog 21 = true := by kernel_rfl
@[go_sem] theorem enter_22 : entB Tryd.prog 22 = true := by kernel_rfl
@[go_sem] theorem enter_23 : entB Tryd.prog 23 = true := by kernel_rfl
@[go_sem] theorem enter_24 : entB Tryd.prog 24 = true := by kernel_rfl
@[go_sem] theorem enter_25 : entB Tryd.prog 25 = true := by kernel_rfl
@[go_sem] theorem enter_26 : entB Tryd.prog 26 = true := by kernel_rfl
@[go_sem] theorem enter_27 : entB Tryd.prog 27 = true := by kernel_rfl
@[go_sem] theorem enter_28 : entB Tryd.prog 28 = true := by kernel_rfl
@[go_sem] theorem enter_29 : entB Tryd.prog 29 = true := by kernel_rfl
@[go_sem] theorem enter_30 : entB Tryd.prog 30 = true := by kernel_rfl
@[go_sem] theorem enter_31 : entB Tryd.prog 31 = true := by kernel_rfl
@[go_sem] theorem enter_32 : entB Tryd.prog 32 = true := by kernel_rfl
@[go_sem] theorem enter_33 : entB Tryd.prog 33 = true := by kernel_rfl
@[go_sem] theorem enter_35 : entB Tryd.prog 35 = true := by kernel_rfl
@[go_sem] theorem enter_36 : entB Tryd.prog 36 = true := by kernel_rfl
@[go_sem] theorem enter_37 : entB Tryd.prog 37 = true := by kernel_rfl
@[go_sem] theorem enter_38 : entB Tryd.prog 38 = true := by kernel_rfl
@[go_sem] theorem enter_39 : entB Tryd.prog 39 = true := by kernel_rfl
@[go_sem] theorem enter_40 : entB Tryd.prog 40 = true := by kernel_rfl
@[go_sem] theorem enter_41 : entB Tryd.prog 41 = true := by kernel_rfl
@[go_sem] theorem enter_42 : entB Tryd.prog 42 = true := by kernel_rfl
@[go_sem] theorem enter_43 : entB Tryd.prog 43 = true := by kernel_rfl
@[go_sem] theorem enter_44 : entB Tryd.prog 44 = true := by kernel_rfl
@[go_sem] theorem enter_45 : entB Tryd.prog 45 = true := by kernel_rfl
@[go_sem] theorem enter_46 : entB Tryd.prog 46 = true := by kernel_rfl
@[go_sem] theorem enter_47 : entB Tryd.prog 47 = true := by kernel_rfl
@[go_sem] theorem enter_48 : entB Tryd.prog 48 = true := by kernel_rfl
@[go_sem] theorem enter_49 : entB Tryd.prog 49 = true := by kernel_rfl
@[go_sem] theorem enter_50 : entB Tryd.prog 50 = true := by kernel_rfl
@[go_sem] theorem enter_51 : entB Tryd.prog 51 = true := by kernel_rfl
@[go_sem] theorem enter_52 : entB Tryd.prog 52 = true := by kernel_rfl
@[go_sem] theorem enter_53 : entB Tryd.prog 53 = true := by kernel_rfl
@[go_sem] theorem enter_54 : entB Tryd.prog 54 = true := by kernel_rfl
@[go_sem] theorem enter_55 : entB Tryd.prog 55 = true := by kernel_rfl
@[go_sem] theorem enter_56 : entB Tryd.prog 56 = true := by kernel_rfl
@[go_sem] theorem enter_57 : entB Tryd.prog 57 = true := by kernel_rfl
@[go_sem] theorem enter_58 : entB Tryd.prog 58 = true := by kernel_rfl
@[go_sem] theorem enter_59 : entB Tryd.prog 59 = true := by kernel_rfl
@[go_sem] theorem enter_60 : entB Tryd.prog 60 = true := by kernel_rfl
@[go_sem] theorem enter_61 : entB Tryd.prog 61 = true := by kernel_rfl
@[go_sem] theorem enter_62 : entB Tryd.prog 62 = true := by kernel_rfl
@[go_sem] theorem enter_63 : entB Tryd.prog 63 = true := by kernel_rfl
@[go_sem] theorem enter_64 : entB Tryd.prog 64 = true := by kernel_rfl
@[go_sem] theorem enter_65 : entB Tryd.prog 65 = true := by kernel_rfl
@[go_sem] theorem enter_66 : entB Tryd.prog 66 = true := by kernel_rfl
@[go_sem] theorem enter_67 : entB Tryd.prog 67 = true := by kernel_rfl
@[go_sem] theorem enter_68 : entB Tryd.prog 68 = true := by kernel_rfl
@[go_sem] theorem enter_69 : entB Tryd.prog 69 = true := by kernel_rfl
@[go_sem] theorem enter_70 : entB Tryd.prog 70 = true := by kernel_rfl
@[go_sem] theorem enter_90 : entB Tryd.prog 90 = true := by kernel_rfl
end Go.Proofs.YtgoifgockcpnhaaDoor
