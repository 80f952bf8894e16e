/- Facts of the types and the functions of this seat. -/
import Derived.Test.YtegebjflhhbmiaaDoorZQC6AK
import Derived.Test.YtegebjflhhbmiaaDoorZQC6AL
set_option linter.unusedSimpArgs false
set_option linter.unusedVariables false
set_option maxRecDepth 4000
namespace Go.Proofs.YtegebjflhhbmiaaDoor
open Go Go.RowKit

@[go_sem] theorem sc_1 : ScT Tryd.prog 1 := ⟨⟨_, Tryd.underlying1, rfl⟩, by kernel_rfl⟩
@[go_sem] theorem sc_2 : ScT Tryd.prog 2 := ⟨⟨_, Tryd.underlying2, rfl⟩, by kernel_rfl⟩
@[go_sem] theorem sc_3 : ScT Tryd.prog 3 := ⟨⟨_, Tryd.underlying3, rfl⟩, by kernel_rfl⟩
theorem zero_3 : ZeroT Tryd.prog 3 #[.int .i64 0] := ⟨.int .i64 0, by kernel_rfl, rfl⟩
@[go_sem] theorem sc_4 : ScT Tryd.prog 4 := ⟨⟨_, Tryd.underlying4, rfl⟩, by kernel_rfl⟩
@[go_sem] theorem sc_5 : ScT Tryd.prog 5 := ⟨⟨_, Tryd.underlying5, rfl⟩, by kernel_rfl⟩
theorem zero_5 : ZeroT Tryd.prog 5 #[.int .u8 0] := ⟨.int .u8 0, by kernel_rfl, rfl⟩
@[go_sem] theorem sc_6 : ScT Tryd.prog 6 := ⟨⟨_, Tryd.underlying6, rfl⟩, by kernel_rfl⟩
@[go_sem] theorem sc_9 : ScT Tryd.prog 9 := ⟨⟨_, Tryd.underlying9, rfl⟩, by kernel_rfl⟩
@[go_sem] theorem sc_10 : ScT Tryd.prog 10 := ⟨⟨_, Tryd.underlying10, rfl⟩, by kernel_rfl⟩
@[go_sem] theorem sc_11 : ScT Tryd.prog 11 := ⟨⟨_, Tryd.underlying11, rfl⟩, by kernel_rfl⟩
@[go_sem] theorem sc_12 : ScT Tryd.prog 12 := ⟨⟨_, Tryd.underlying12, rfl⟩, by kernel_rfl⟩
@[go_sem] theorem sc_15 : ScT Tryd.prog 15 := ⟨⟨_, Tryd.underlying15, rfl⟩, by kernel_rfl⟩
@[go_sem] theorem sc_16 : ScT Tryd.prog 16 := ⟨⟨_, Tryd.underlying16, rfl⟩, by kernel_rfl⟩
@[go_sem] theorem sc_17 : ScT Tryd.prog 17 := ⟨⟨_, Tryd.underlying17, rfl⟩, by kernel_rfl⟩
@[go_sem] theorem sc_20 : ScT Tryd.prog 20 := ⟨⟨_, Tryd.underlying20, rfl⟩, by kernel_rfl⟩
@[go_sem] theorem sc_21 : ScT Tryd.prog 21 := ⟨⟨_, Tryd.underlying21, rfl⟩, by kernel_rfl⟩
theorem agg_22 : AggT Tryd.prog 22 8 := ⟨_, Tryd.underlying22, rfl, by kernel_rfl⟩
theorem agg_23 : AggT Tryd.prog 23 8 := ⟨_, Tryd.underlying23, rfl, by kernel_rfl⟩
theorem zero_23 : ZeroT Tryd.prog 23 (clk clk0) := ⟨.agg (clk clk0), by kernel_rfl, rfl⟩
@[go_sem] theorem sc_24 : ScT Tryd.prog 24 := ⟨⟨_, Tryd.underlying24, rfl⟩, by kernel_rfl⟩
theorem agg_26 : AggT Tryd.prog 26 18 := ⟨_, Tryd.underlying26, rfl, by kernel_rfl⟩
theorem zero_26 : ZeroT Tryd.prog 26 (rnd rnd0) := ⟨.agg (rnd rnd0), by kernel_rfl, rfl⟩
theorem agg_28 : AggT Tryd.prog 28 144 := ⟨_, Tryd.underlying28, rfl, by kernel_rfl⟩
theorem zero_28 : ZeroT Tryd.prog 28 (rnds rnds0) := ⟨.agg (rnds rnds0), by kernel_rfl, rfl⟩
theorem agg_30 : AggT Tryd.prog 30 156 := ⟨_, Tryd.underlying30, rfl, by kernel_rfl⟩
theorem zero_30 : ZeroT Tryd.prog 30 (msg msg0) := ⟨.agg (msg msg0), by kernel_rfl, rfl⟩
@[go_sem] theorem sc_31 : ScT Tryd.prog 31 := ⟨⟨_, Tryd.underlying31, rfl⟩, by kernel_rfl⟩
@[go_sem] theorem sc_32 : ScT Tryd.prog 32 := ⟨⟨_, Tryd.underlying32, rfl⟩, by kernel_rfl⟩
@[go_sem] theorem sc_33 : ScT Tryd.prog 33 := ⟨⟨_, Tryd.underlying33, rfl⟩, by kernel_rfl⟩
@[go_sem] theorem sc_34 : ScT Tryd.prog 34 := ⟨⟨_, Tryd.underlying34, rfl⟩, by kernel_rfl⟩
theorem zero_34 : ZeroT Tryd.prog 34 #[.nilIface] := ⟨.nilIface, by kernel_rfl, rfl⟩
@[go_sem] theorem sc_36 : ScT Tryd.prog 36 := ⟨⟨_, Tryd.underlying36, rfl⟩, by kernel_rfl⟩
@[go_sem] theorem sc_37 : ScT Tryd.prog 37 := ⟨⟨_, Tryd.underlying37, rfl⟩, by kernel_rfl⟩
@[go_sem] theorem sc_38 : ScT Tryd.prog 38 := ⟨⟨_, Tryd.underlying38, rfl⟩, by kernel_rfl⟩
@[go_sem] theorem sc_40 : ScT Tryd.prog 40 := ⟨⟨_, Tryd.underlying40, rfl⟩, by kernel_rfl⟩
@[go_sem] theorem sc_41 : ScT Tryd.prog 41 := ⟨⟨_, Tryd.underlying41, rfl⟩, by kernel_rfl⟩
@[go_sem] theorem sc_42 : ScT Tryd.prog 42 := ⟨⟨_, Tryd.underlying42, rfl⟩, by kernel_rfl⟩
@[go_sem] theorem sc_43 : ScT Tryd.prog 43 := ⟨⟨_, Tryd.underlying43, rfl⟩, by kernel_rfl⟩
@[go_sem] theorem sc_44 : ScT Tryd.prog 44 := ⟨⟨_, Tryd.underlying44, rfl⟩, by kernel_rfl⟩
@[go_sem] theorem sc_45 : ScT Tryd.prog 45 := ⟨⟨_, Tryd.underlying45, rfl⟩, by kernel_rfl⟩
@[go_sem] theorem sc_46 : ScT Tryd.prog 46 := ⟨⟨_, Tryd.underlying46, rfl⟩, by kernel_rfl⟩
@[go_sem] theorem sc_47 : ScT Tryd.prog 47 := ⟨⟨_, Tryd.underlying47, rfl⟩, by kernel_rfl⟩
theorem zero_47 : ZeroT Tryd.prog 47 #[.slice none 0 0] := ⟨.slice none 0 0, by kernel_rfl, rfl⟩
theorem agg_49 : AggT Tryd.prog 49 3 := ⟨_, Tryd.underlying49, rfl, by kernel_rfl⟩
theorem zero_49 : ZeroT Tryd.prog 49 (nov nov0) := ⟨.agg (nov nov0), by kernel_rfl, rfl⟩
@[go_sem] theorem sc_51 : ScT Tryd.prog 51 := ⟨⟨_, Tryd.underlying51, rfl⟩, by kernel_rfl⟩
@[go_sem] theorem sc_52 : ScT Tryd.prog 52 := ⟨⟨_, Tryd.underlying52, rfl⟩, by kernel_rfl⟩
@[go_sem] theorem sc_53 : ScT Tryd.prog 53 := ⟨⟨_, Tryd.underlying53, rfl⟩, by kernel_rfl⟩
@[go_sem] theorem sc_54 : ScT Tryd.prog 54 := ⟨⟨_, Tryd.underlying54, rfl⟩, by kernel_rfl⟩
@[go_sem] theorem sc_55 : ScT Tryd.prog 55 := ⟨⟨_, Tryd.underlying55, rfl⟩, by kernel_rfl⟩
@[go_sem] theorem sc_56 : ScT Tryd.prog 56 := ⟨⟨_, Tryd.underlying56, rfl⟩, by kernel_rfl⟩
@[go_sem] theorem sc_57 : ScT Tryd.prog 57 := ⟨⟨_, Tryd.underlying57, rfl⟩, by kernel_rfl⟩
@[go_sem] theorem sc_59 : ScT Tryd.prog 59 := ⟨⟨_, Tryd.underlying59, rfl⟩, by kernel_rfl⟩
@[go_sem] theorem sc_60 : ScT Tryd.prog 60 := ⟨⟨_, Tryd.underlying60, rfl⟩, by kernel_rfl⟩
@[go_sem] theorem sc_61 : ScT Tryd.prog 61 := ⟨⟨_, Tryd.underlying61, rfl⟩, by kernel_rfl⟩
@[go_sem] theorem sc_62 : ScT Tryd.prog 62 := ⟨⟨_, Tryd.underlying62, rfl⟩, by kernel_rfl⟩
@[go_sem] theorem sc_63 : ScT Tryd.prog 63 := ⟨⟨_, Tryd.underlying63, rfl⟩, by kernel_rfl⟩
@[go_sem] theorem sc_64 : ScT Tryd.prog 64 := ⟨⟨_, Tryd.underlying64, rfl⟩, by kernel_rfl⟩
@[go_sem] theorem sc_65 : ScT Tryd.prog 65 := ⟨⟨_, Tryd.underlying65, rfl⟩, by kernel_rfl⟩
theorem agg_67 : AggT Tryd.prog 67 1 := ⟨_, Tryd.underlying67, rfl, by kernel_rfl⟩
theorem zero_67 : ZeroT Tryd.prog 67 #[.pointer none] := ⟨.agg #[.pointer none], by kernel_rfl, rfl⟩
@[go_sem] theorem sc_68 : ScT Tryd.prog 68 := ⟨⟨_, Tryd.underlying68, rfl⟩, by kernel_rfl⟩
@[go_sem] theorem sc_69 : ScT Tryd.prog 69 := ⟨⟨_, Tryd.underlying69, rfl⟩, by kernel_rfl⟩
@[go_sem] theorem sc_70 : ScT Tryd.prog 70 := ⟨⟨_, Tryd.underlying70, rfl⟩, by kernel_rfl⟩
@[go_sem] theorem sc_71 : ScT Tryd.prog 71 := ⟨⟨_, Tryd.underlying71, rfl⟩, by kernel_rfl⟩
@[go_sem] theorem sc_72 : ScT Tryd.prog 72 := ⟨⟨_, Tryd.underlying72, rfl⟩, by kernel_rfl⟩
@[go_sem] theorem sc_74 : ScT Tryd.prog 74 := ⟨⟨_, Tryd.underlying74, rfl⟩, by kernel_rfl⟩
theorem agg_76 : AggT Tryd.prog 76 4 := ⟨_, Tryd.underlying76, rfl, by kernel_rfl⟩
theorem agg_78 : AggT Tryd.prog 78 13 := ⟨_, Tryd.underlying78, rfl, by kernel_rfl⟩
theorem zero_78 : ZeroT Tryd.prog 78 (actv act0) := ⟨.agg (actv act0), by kernel_rfl, rfl⟩
@[go_sem] theorem sc_79 : ScT Tryd.prog 79 := ⟨⟨_, Tryd.underlying79, rfl⟩, by kernel_rfl⟩
@[go_sem] theorem sc_80 : ScT Tryd.prog 80 := ⟨⟨_, Tryd.underlying80, rfl⟩, by kernel_rfl⟩
@[go_sem] theorem sc_81 : ScT Tryd.prog 81 := ⟨⟨_, Tryd.underlying81, rfl⟩, by kernel_rfl⟩
theorem agg_83 : AggT Tryd.prog 83 2 := ⟨_, Tryd.underlying83, rfl, by kernel_rfl⟩
theorem zero_83 : ZeroT Tryd.prog 83 #[.int .i64 0, .nilIface] := ⟨.agg #[.int .i64 0, .nilIface], by kernel_rfl, rfl⟩
@[go_sem] theorem sc_84 : ScT Tryd.prog 84 := ⟨⟨_, Tryd.underlying84, rfl⟩, by kernel_rfl⟩
@[go_sem] theorem sc_85 : ScT Tryd.prog 85 := ⟨⟨_, Tryd.underlying85, rfl⟩, by kernel_rfl⟩
theorem agg_87 : AggT Tryd.prog 87 1 := ⟨_, Tryd.underlying87, rfl, by kernel_rfl⟩
@[go_sem] theorem sc_88 : ScT Tryd.prog 88 := ⟨⟨_, Tryd.underlying88, rfl⟩, by kernel_rfl⟩
@[go_sem] theorem sc_89 : ScT Tryd.prog 89 := ⟨⟨_, Tryd.underlying89, rfl⟩, by kernel_rfl⟩
@[go_sem] theorem sc_90 : ScT Tryd.prog 90 := ⟨⟨_, Tryd.underlying90, rfl⟩, by kernel_rfl⟩
@[go_sem] theorem sc_91 : ScT Tryd.prog 91 := ⟨⟨_, Tryd.underlying91, rfl⟩, by kernel_rfl⟩
@[go_sem] theorem sc_92 : ScT Tryd.prog 92 := ⟨⟨_, Tryd.underlying92, rfl⟩, by kernel_rfl⟩
@[go_sem] theorem sc_93 : ScT Tryd.prog 93 := ⟨⟨_, Tryd.underlying93, rfl⟩, by kernel_rfl⟩
@[go_sem] theorem sc_94 : ScT Tryd.prog 94 := ⟨⟨_, Tryd.underlying94, rfl⟩, by kernel_rfl⟩
@[go_sem] theorem sc_95 : ScT Tryd.prog 95 := ⟨⟨_, Tryd.underlying95, rfl⟩, by kernel_rfl⟩
@[go_sem] theorem sc_96 : ScT Tryd.prog 96 := ⟨⟨_, Tryd.underlying96, rfl⟩, by kernel_rfl⟩
@[go_sem] theorem sc_97 : ScT Tryd.prog 97 := ⟨⟨_, Tryd.underlying97, rfl⟩, by kernel_rfl⟩
@[go_sem] theorem sc_98 : ScT Tryd.prog 98 := ⟨⟨_, Tryd.underlying98, rfl⟩, by kernel_rfl⟩
@[go_sem] theorem sc_99 : ScT Tryd.prog 99 := ⟨⟨_, Tryd.underlying99, rfl⟩, by kernel_rfl⟩
@[go_sem] theorem sc_100 : ScT Tryd.prog 100 := ⟨⟨_, Tryd.underlying100, rfl⟩, by kernel_rfl⟩
@[go_sem] theorem sc_101 : ScT Tryd.prog 101 := ⟨⟨_, Tryd.underlying101, rfl⟩, by kernel_rfl⟩
@[go_sem] theorem sc_102 : ScT Tryd.prog 102 := ⟨⟨_, Tryd.underlying102, rfl⟩, by kernel_rfl⟩
@[go_sem] theorem sc_103 : ScT Tryd.prog 103 := ⟨⟨_, Tryd.underlying103, rfl⟩, by kernel_rfl⟩
@[go_sem] theorem sc_104 : ScT Tryd.prog 104 := ⟨⟨_, Tryd.underlying104, rfl⟩, by kernel_rfl⟩
@[go_sem] theorem sc_105 : ScT Tryd.prog 105 := ⟨⟨_, Tryd.underlying105, rfl⟩, by kernel_rfl⟩
@[go_sem] theorem sc_110 : ScT Tryd.prog 110 := ⟨⟨_, Tryd.underlying110, rfl⟩, by kernel_rfl⟩
@[go_sem] theorem sc_111 : ScT Tryd.prog 111 := ⟨⟨_, Tryd.underlying111, rfl⟩, by kernel_rfl⟩
@[go_sem] theorem sc_112 : ScT Tryd.prog 112 := ⟨⟨_, Tryd.underlying112, rfl⟩, by kernel_rfl⟩
@[go_sem] theorem sc_113 : ScT Tryd.prog 113 := ⟨⟨_, Tryd.underlying113, rfl⟩, by kernel_rfl⟩
@[go_sem] theorem sc_114 : ScT Tryd.prog 114 := ⟨⟨_, Tryd.underlying114, rfl⟩, by kernel_rfl⟩
@[go_sem] theorem sc_115 : ScT Tryd.prog 115 := ⟨⟨_, Tryd.underlying115, rfl⟩, by kernel_rfl⟩
@[go_sem] theorem sc_116 : ScT Tryd.prog 116 := ⟨⟨_, Tryd.underlying116, rfl⟩, by kernel_rfl⟩
@[go_sem] theorem sc_121 : ScT Tryd.prog 121 := ⟨⟨_, Tryd.underlying121, rfl⟩, by kernel_rfl⟩
@[go_sem] theorem sc_122 : ScT Tryd.prog 122 := ⟨⟨_, Tryd.underlying122, rfl⟩, by kernel_rfl⟩
@[go_sem] theorem sc_125 : ScT Tryd.prog 125 := ⟨⟨_, Tryd.underlying125, rfl⟩, by kernel_rfl⟩
@[go_sem] theorem sc_126 : ScT Tryd.prog 126 := ⟨⟨_, Tryd.underlying126, rfl⟩, by kernel_rfl⟩
@[go_sem] theorem sc_127 : ScT Tryd.prog 127 := ⟨⟨_, Tryd.underlying127, rfl⟩, by kernel_rfl⟩
@[go_sem] theorem sc_128 : ScT Tryd.prog 128 := ⟨⟨_, Tryd.underlying128, rfl⟩, by kernel_rfl⟩
@[go_sem] theorem sc_129 : ScT Tryd.prog 129 := ⟨⟨_, Tryd.underlying129, rfl⟩, by kernel_rfl⟩
@[go_sem] theorem sc_130 : ScT Tryd.prog 130 := ⟨⟨_, Tryd.underlying130, rfl⟩, by kernel_rfl⟩
@[go_sem] theorem sc_131 : ScT Tryd.prog 131 := ⟨⟨_, Tryd.underlying131, rfl⟩, by kernel_rfl⟩
theorem agg_133 : AggT Tryd.prog 133 3 := ⟨_, Tryd.underlying133, rfl, by kernel_rfl⟩
theorem zero_133 : ZeroT Tryd.prog 133 (lnk lnk0) := ⟨.agg (lnk lnk0), by kernel_rfl, rfl⟩
@[go_sem] theorem sc_134 : ScT Tryd.prog 134 := ⟨⟨_, Tryd.underlying134, rfl⟩, by kernel_rfl⟩
@[go_sem] theorem sc_136 : ScT Tryd.prog 136 := ⟨⟨_, Tryd.underlying136, rfl⟩, by kernel_rfl⟩
@[go_sem] theorem sc_137 : ScT Tryd.prog 137 := ⟨⟨_, Tryd.underlying137, rfl⟩, by kernel_rfl⟩
@[go_sem] theorem sc_139 : ScT Tryd.prog 139 := ⟨⟨_, Tryd.underlying139, rfl⟩, by kernel_rfl⟩
@[go_sem] theorem sc_140 : ScT Tryd.prog 140 := ⟨⟨_, Tryd.underlying140, rfl⟩, by kernel_rfl⟩
@[go_sem] theorem sc_142 : ScT Tryd.prog 142 := ⟨⟨_, Tryd.underlying142, rfl⟩, by kernel_rfl⟩
@[go_sem] theorem sc_144 : ScT Tryd.prog 144 := ⟨⟨_, Tryd.underlying144, rfl⟩, by kernel_rfl⟩
@[go_sem] theorem sc_145 : ScT Tryd.prog 145 := ⟨⟨_, Tryd.underlying145, rfl⟩, by kernel_rfl⟩
@[go_sem] theorem sc_146 : ScT Tryd.prog 146 := ⟨⟨_, Tryd.underlying146, rfl⟩, by kernel_rfl⟩
@[go_sem] theorem sc_147 : ScT Tryd.prog 147 := ⟨⟨_, Tryd.underlying147, rfl⟩, by kernel_rfl⟩
theorem agg_149 : AggT Tryd.prog 149 1 := ⟨_, Tryd.underlying149, rfl, by kernel_rfl⟩
theorem zero_149 : ZeroT Tryd.prog 149 #[.nilIface] := ⟨.agg #[.nilIface], by kernel_rfl, rfl⟩
@[go_sem] theorem sc_150 : ScT Tryd.prog 150 := ⟨⟨_, Tryd.underlying150, rfl⟩, by kernel_rfl⟩
@[go_sem] theorem sc_151 : ScT Tryd.prog 151 := ⟨⟨_, Tryd.underlying151, rfl⟩, by kernel_rfl⟩
@[go_sem] theorem sc_152 : ScT Tryd.prog 152 := ⟨⟨_, Tryd.underlying152, rfl⟩, by kernel_rfl⟩
@[go_sem] theorem sc_153 : ScT Tryd.prog 153 := ⟨⟨_, Tryd.underlying153, rfl⟩, by kernel_rfl⟩
@[go_sem] theorem sc_154 : ScT Tryd.prog 154 := ⟨⟨_, Tryd.underlying154, rfl⟩, by kernel_rfl⟩
@[go_sem] theorem sc_156 : ScT Tryd.prog 156 := ⟨⟨_, Tryd.underlying156, rfl⟩, by kernel_rfl⟩
@[go_sem] theorem sc_157 : ScT Tryd.prog 157 := ⟨⟨_, Tryd.underlying157, rfl⟩, by kernel_rfl⟩
@[go_sem] theorem sc_158 : ScT Tryd.prog 158 := ⟨⟨_, Tryd.underlying158, rfl⟩, by kernel_rfl⟩
@[go_sem] theorem sc_161 : ScT Tryd.prog 161 := ⟨⟨_, Tryd.underlying161, rfl⟩, by kernel_rfl⟩
@[go_sem] theorem sc_162 : ScT Tryd.prog 162 := ⟨⟨_, Tryd.underlying162, rfl⟩, by kernel_rfl⟩
@[go_sem] theorem sc_163 : ScT Tryd.prog 163 := ⟨⟨_, Tryd.underlying163, rfl⟩, by kernel_rfl⟩
@[go_sem] theorem sc_169 : ScT Tryd.prog 169 := ⟨⟨_, Tryd.underlying169, rfl⟩, by kernel_rfl⟩
@[go_sem] theorem sc_170 : ScT Tryd.prog 170 := ⟨⟨_, Tryd.underlying170, rfl⟩, by kernel_rfl⟩
@[go_sem] theorem sc_171 : ScT Tryd.prog 171 := ⟨⟨_, Tryd.underlying171, rfl⟩, by kernel_rfl⟩
@[go_sem] theorem sc_172 : ScT Tryd.prog 172 := ⟨⟨_, Tryd.underlying172, rfl⟩, by kernel_rfl⟩
@[go_sem] theorem sc_173 : ScT Tryd.prog 173 := ⟨⟨_, Tryd.underlying173, rfl⟩, by kernel_rfl⟩
@[go_sem] theorem sc_174 : ScT Tryd.prog 174 := ⟨⟨_, Tryd.underlying174, rfl⟩, by kernel_rfl⟩
@[go_sem] theorem sc_175 : ScT Tryd.prog 175 := ⟨⟨_, Tryd.underlying175, rfl⟩, by kernel_rfl⟩
@[go_sem] theorem sc_181 : ScT Tryd.prog 181 := ⟨⟨_, Tryd.underlying181, rfl⟩, by kernel_rfl⟩
theorem app_24 : AppT Tryd.prog 24 78 13 104 actv := ⟨Tryd.underlying24, ⟨.agg (actv act0), by kernel_rfl, (by first | rfl | (simp only [Value.cells, go_sem]))⟩, by decide, fun a => by simp only [go_sem], fun a => by simp only [go_sem]⟩
theorem app_32 : AppT Tryd.prog 32 5 1 1 bytv := ⟨Tryd.underlying32, ⟨.int .u8 0, by kernel_rfl, (by first | rfl | (simp only [Value.cells, go_sem]))⟩, by decide, fun a => by simp only [go_sem], fun a => by simp only [go_sem]⟩
theorem app_45 : AppT Tryd.prog 45 30 156 1264 msg := ⟨Tryd.underlying45, ⟨.agg (msg msg0), by kernel_rfl, (by first | (simp only [Value.cells, go_sem]; done) | rfl)⟩, by decide, fun a => by simp only [go_sem], fun a => by simp only [go_sem]⟩
theorem app_46 : AppT Tryd.prog 46 133 3 40 lnk := ⟨Tryd.underlying46, ⟨.agg (lnk lnk0), by kernel_rfl, (by first | rfl | (simp only [Value.cells, go_sem]))⟩, by decide, fun a => by simp only [go_sem], fun a => by simp only [go_sem]⟩
theorem app_47 : AppT Tryd.prog 47 3 1 8 intv := ⟨Tryd.underlying47, ⟨.int .i64 0, by kernel_rfl, (by first | rfl | (simp only [Value.cells, go_sem]))⟩, by decide, fun a => by simp only [go_sem], fun a => by simp only [go_sem]⟩
theorem app_122 : AppT Tryd.prog 122 26 18 144 rnd := ⟨Tryd.underlying122, ⟨.agg (rnd rnd0), by kernel_rfl, (by first | rfl | (simp only [Value.cells, go_sem]))⟩, by decide, fun a => by simp only [go_sem], fun a => by simp only [go_sem]⟩
theorem mk_32 : MakeT Tryd.prog 32 5 1 1 bytv (0) := ⟨Tryd.underlying32, ⟨.int .u8 0, by kernel_rfl, (by first | rfl | (simp only [Value.cells, go_sem]))⟩, by decide, fun a => by simp only [go_sem]⟩
theorem byt_32_9 : BytesT Tryd.prog 32 9 := ⟨_, Tryd.underlying32, Tryd.underlying5, Tryd.underlying9⟩
theorem sz1_5 : (Tryd.prog.info? 5).map (·.size) = some 1 := by kernel_rfl
theorem bst_24 : BsT Tryd.prog 24 78 13 := ⟨Tryd.underlying24, .agg (actv act0), by kernel_rfl, (by first | rfl | (simp only [Value.cells, go_sem])), by decide, by decide⟩
theorem bst_32 : BsT Tryd.prog 32 5 1 := ⟨Tryd.underlying32, .int .u8 0, by kernel_rfl, (by first | rfl | (simp only [Value.cells, go_sem])), by decide, by decide⟩
theorem bst_46 : BsT Tryd.prog 46 133 3 := ⟨Tryd.underlying46, .agg (lnk lnk0), by kernel_rfl, (by first | rfl | (simp only [Value.cells, go_sem])), by decide, by decide⟩
theorem bst_47 : BsT Tryd.prog 47 3 1 := ⟨Tryd.underlying47, .int .i64 0, by kernel_rfl, (by first | rfl | (simp only [Value.cells, go_sem])), by decide, by decide⟩
theorem bld_0  : BuildT Tryd.prog 23 #[] (.agg (clk clk0)) := fun w => by kernel_rfl
theorem bld_1 (n0 : Int) (n1 : Int) (n2 : Int) : BuildT Tryd.prog 23 #[(0, .int .i64 n0), (1, .int .i64 n1), (2, .int .i64 n2)] (.agg (clk (setAt (setAt (setAt clk0 0 n0) 1 n1) 2 n2))) := fun w => by kernel_rfl
theorem bld_2  : BuildT Tryd.prog 26 #[] (.agg (rnd ⟨0, clk0, clk0, 0⟩)) := fun w => by kernel_rfl
theorem bld_3 : BuildT Tryd.prog 28 #[] (.agg (rnds rnds0)) := fun w => by kernel_rfl
theorem bld_4  : BuildT Tryd.prog 30 #[] (.agg (msg ⟨0, 0, 0, clk0, none, 0, 0, rnds0⟩)) := fun w => by kernel_rfl
theorem bld_5 (x0_0 : Int) (x1_0 : Int) (x3_0 : Nat → Int) : BuildT Tryd.prog 30 #[(0, .int .i64 x0_0), (1, .int .i64 x1_0), (3, .agg (clk x3_0))] (.agg (msg ⟨x0_0, x1_0, 0, x3_0, none, 0, 0, rnds0⟩)) := fun w => by kernel_rfl
theorem bld_6  : BuildT Tryd.prog 49 #[] (.agg (nov ⟨0, none, 0, 0, none, 0, 0⟩)) := fun w => by kernel_rfl
theorem bld_7 (x0_0 : Int) (x1_0_1 : Option Addr) (x1_0_2 x1_0_3 : Nat) (x2_0_1 : Option Addr) (x2_0_2 x2_0_3 : Nat) : BuildT Tryd.prog 49 #[(0, .int .i64 x0_0), (1, .slice x1_0_1 x1_0_2 x1_0_3), (2, .slice x2_0_1 x2_0_2 x2_0_3)] (.agg (nov ⟨x0_0, x1_0_1, x1_0_2, x1_0_3, x2_0_1, x2_0_2, x2_0_3⟩)) := fun w => by kernel_rfl
theorem bld_8 (x0_0 : Int) (x2_0_1 : Option Addr) (x2_0_2 x2_0_3 : Nat) : BuildT Tryd.prog 49 #[(0, .int .i64 x0_0), (2, .slice x2_0_1 x2_0_2 x2_0_3)] (.agg (nov ⟨x0_0, none, 0, 0, x2_0_1, x2_0_2, x2_0_3⟩)) := fun w => by kernel_rfl
theorem bld_9 (x0_0 : Option Addr) : BuildT Tryd.prog 67 #[(0, .pointer x0_0)] (.agg #[.pointer x0_0]) := fun w => by kernel_rfl
theorem bld_10 (x1_0 : Int) : BuildT Tryd.prog 78 #[(1, .int .i64 x1_0)] (.agg (actv ⟨op0, x1_0, clk0⟩)) := fun w => by kernel_rfl
theorem bld_11 (x0_0 : Int) (x1_0t : TypeId) (x1_0p : Option Addr) : BuildT Tryd.prog 83 #[(0, .int .i64 x0_0), (1, (.iface x1_0t (.pointer x1_0p)))] (.agg #[.int .i64 x0_0, (.iface x1_0t (.pointer x1_0p))]) := fun w => by kernel_rfl
theorem bld_12 (x0_0 : Option Addr) : BuildT Tryd.prog 87 #[(0, .pointer x0_0)] (.agg #[.pointer x0_0]) := fun w => by kernel_rfl
theorem bld_14 (x0_0 : Option Addr) : BuildT Tryd.prog 109 #[(0, .pointer x0_0)] (.agg #[.pointer x0_0, .bool false, .int .i64 0]) := fun w => by kernel_rfl
theorem bld_15 (x0_0 : ByteArray) (x1_0 : ByteArray) (x2_0 : Int) (x3_0t : TypeId) (x3_0p : Option Addr) : BuildT Tryd.prog 118 #[(0, .string x0_0), (1, .string x1_0), (2, .int .i64 x2_0), (3, (.iface x3_0t (.pointer x3_0p)))] (.agg #[.string x0_0, .string x1_0, .int .i64 x2_0, (.iface x3_0t (.pointer x3_0p))]) := fun w => by kernel_rfl
theorem bld_16  : BuildT Tryd.prog 120 #[] (.agg #[.slice none 0 0]) := fun w => by kernel_rfl
theorem bld_17 (x0_0_1 : Option Addr) (x0_0_2 x0_0_3 : Nat) : BuildT Tryd.prog 124 #[(0, .slice x0_0_1 x0_0_2 x0_0_3)] (.agg #[.slice x0_0_1 x0_0_2 x0_0_3, .int .i64 0, .nilIface]) := fun w => by kernel_rfl
theorem bld_18 (x0_0 : ByteArray) (x1_0 : ByteArray) (x2_0 : Int) : BuildT Tryd.prog 133 #[(0, .string x0_0), (1, .string x1_0), (2, .int .i64 x2_0)] (.agg (lnk ⟨x0_0, x1_0, x2_0⟩)) := fun w => by kernel_rfl
theorem bld_19 (x0_0t : TypeId) (x0_0p : Option Addr) : BuildT Tryd.prog 149 #[(0, (.iface x0_0t (.pointer x0_0p)))] (.agg #[(.iface x0_0t (.pointer x0_0p))]) := fun w => by kernel_rfl
@[go_sem] theorem enter_3 : entB Tryd.prog 3 = true := by kernel_rfl
@[go_sem] theorem enter_4 : entB Tryd.prog 4 = true := by kernel_rfl
@[go_sem] theorem enter_5 : entB Tryd.prog 5 = true := by kernel_rfl
@[go_sem] theorem enter_6 : entB Tryd.prog 6 = true := by kernel_rfl
@[go_sem] theorem enter_7 : entB Tryd.prog 7 = true := by kernel_rfl
@[go_sem] theorem enter_8 : entB Tryd.prog 8 = true := by kernel_rfl
@[go_sem] theorem enter_9 : entB Tryd.prog 9 = true := by kernel_rfl
@[go_sem] theorem enter_10 : entB Tryd.prog 10 = true := by kernel_rfl
@[go_sem] theorem enter_11 : entB Tryd.prog 11 = true := by kernel_rfl
@[go_sem] theorem enter_12 : entB Tryd.prog 12 = true := by kernel_rfl
@[go_sem] theorem enter_13 : entB Tryd.prog 13 = true := by kernel_rfl
@[go_sem] theorem enter_14 : entB Tryd.prog 14 = true := by kernel_rfl
@[go_sem] theorem enter_15 : entB Tryd.prog 15 = true := by kernel_rfl
@[go_sem] theorem enter_16 : entB Tryd.prog 16 = true := by kernel_rfl
@[go_sem] theorem enter_17 : entB Tryd.prog 17 = true := by kernel_rfl
@[go_sem] theorem enter_18 : entB Tryd.prog 18 = true := by kernel_rfl
@[go_sem] theorem enter_19 : entB Tryd.prog 19 = true := by kernel_rfl
@[go_sem] theorem enter_20 : entB Tryd.prog 20 = true := by kernel_rfl
@[go_sem] theorem enter_21 : entB Tryd.prog 21 = true := by kernel_rfl
@[go_sem] theorem enter_22 : entB Tryd.prog 22 = true := by kernel_rfl
@[go_sem] theorem enter_23 : entB Tryd.prog 23 = true := by kernel_rfl
@[go_sem] theorem enter_24 : entB Tryd.prog 24 = true := by kernel_rfl
@[go_sem] theorem enter_25 : entB Tryd.prog 25 = true := by kernel_rfl
@[go_sem] theorem enter_26 : entB Tryd.prog 26 = true := by kernel_rfl
@[go_sem] theorem enter_27 : entB Tryd.prog 27 = true := by kernel_rfl
@[go_sem] theorem enter_28 : entB Tryd.prog 28 = true := by kernel_rfl
@[go_sem] theorem enter_29 : entB Tryd.prog 29 = true := by kernel_rfl
@[go_sem] theorem enter_30 : entB Tryd.prog 30 = true := by kernel_rfl
@[go_sem] theorem enter_31 : entB Tryd.prog 31 = true := by kernel_rfl
@[go_sem] theorem enter_32 : entB Tryd.prog 32 = true := by kernel_rfl
@[go_sem] theorem enter_33 : entB Tryd.prog 33 = true := by kernel_rfl
@[go_sem] theorem enter_34 : entB Tryd.prog 34 = true := by kernel_rfl
@[go_sem] theorem enter_35 : entB Tryd.prog 35 = true := by kernel_rfl
@[go_sem] theorem enter_36 : entB Tryd.prog 36 = true := by kernel_rfl
@[go_sem] theorem enter_37 : entB Tryd.prog 37 = true := by kernel_rfl
@[go_sem] theorem enter_38 : entB Tryd.prog 38 = true := by kernel_rfl
@[go_sem] theorem enter_39 : entB Tryd.prog 39 = true := by kernel_rfl
@[go_sem] theorem enter_40 : entB Tryd.prog 40 = true := by kernel_rfl
@[go_sem] theorem enter_41 : entB Tryd.prog 41 = true := by kernel_rfl
@[go_sem] theorem enter_42 : entB Tryd.prog 42 = true := by kernel_rfl
@[go_sem] theorem enter_43 : entB Tryd.prog 43 = true := by kernel_rfl
@[go_sem] theorem enter_44 : entB Tryd.prog 44 = true := by kernel_rfl
@[go_sem] theorem enter_45 : entB Tryd.prog 45 = true := by kernel_rfl
@[go_sem] theorem enter_46 : entB Tryd.prog 46 = true := by kernel_rfl
@[go_sem] theorem enter_47 : entB Tryd.prog 47 = true := by kernel_rfl
@[go_sem] theorem enter_48 : entB Tryd.prog 48 = true := by kernel_rfl
@[go_sem] theorem enter_49 : entB Tryd.prog 49 = true := by kernel_rfl
@[go_sem] theorem enter_50 : entB Tryd.prog 50 = true := by kernel_rfl
@[go_sem] theorem enter_51 : entB Tryd.prog 51 = true := by kernel_rfl
@[go_sem] theorem enter_52 : entB Tryd.prog 52 = true := by kernel_rfl
@[go_sem] theorem enter_53 : entB Tryd.prog 53 = true := by kernel_rfl
@[go_sem] theorem enter_54 : entB Tryd.prog 54 = true := by kernel_rfl
@[go_sem] theorem enter_55 : entB Tryd.prog 55 = true := by kernel_rfl
@[go_sem] theorem enter_56 : entB Tryd.prog 56 = true := by kernel_rfl
@[go_sem] theorem enter_57 : entB Tryd.prog 57 = true := by kernel_rfl
@[go_sem] theorem enter_58 : entB Tryd.prog 58 = true := by kernel_rfl
@[go_sem] theorem enter_59 : entB Tryd.prog 59 = true := by kernel_rfl
@[go_sem] theorem enter_60 : entB Tryd.prog 60 = true := by kernel_rfl
@[go_sem] theorem enter_61 : entB Tryd.prog 61 = true := by kernel_rfl
@[go_sem] theorem enter_62 : entB Tryd.prog 62 = true := by kernel_rfl
@[go_sem] theorem enter_63 : entB Tryd.prog 63 = true := by kernel_rfl
@[go_sem] theorem enter_64 : entB Tryd.prog 64 = true := by kernel_rfl
@[go_sem] theorem enter_65 : entB Tryd.prog 65 = true := by kernel_rfl
@[go_sem] theorem enter_66 : entB Tryd.prog 66 = true := by kernel_rfl
@[go_sem] theorem enter_67 : entB Tryd.prog 67 = true := by kernel_rfl
@[go_sem] theorem enter_68 : entB Tryd.prog 68 = true := by kernel_rfl
@[go_sem] theorem enter_69 : entB Tryd.prog 69 = true := by kernel_rfl
@[go_sem] theorem enter_70 : entB Tryd.prog 70 = true := by kernel_rfl
@[go_sem] theorem enter_71 : entB Tryd.prog 71 = true := by kernel_rfl
@[go_sem] theorem enter_72 : entB Tryd.prog 72 = true := by kernel_rfl
@[go_sem] theorem enter_73 : entB Tryd.prog 73 = true := by kernel_rfl
@[go_sem] theorem enter_74 : entB Tryd.prog 74 = true := by kernel_rfl
@[go_sem] theorem enter_75 : entB Tryd.prog 75 = true := by kernel_rfl
@[go_sem] theorem enter_76 : entB Tryd.prog 76 = true := by kernel_rfl
@[go_sem] theorem enter_77 : entB Tryd.prog 77 = true := by kernel_rfl
@[go_sem] theorem enter_78 : entB Tryd.prog 78 = true := by kernel_rfl
@[go_sem] theorem enter_79 : entB Tryd.prog 79 = true := by kernel_rfl
@[go_sem] theorem enter_80 : entB Tryd.prog 80 = true := by kernel_rfl
@[go_sem] theorem enter_81 : entB Tryd.prog 81 = true := by kernel_rfl
@[go_sem] theorem enter_82 : entB Tryd.prog 82 = true := by kernel_rfl
@[go_sem] theorem enter_83 : entB Tryd.prog 83 = true := by kernel_rfl
@[go_sem] theorem enter_84 : entB Tryd.prog 84 = true := by kernel_rfl
@[go_sem] theorem enter_85 : entB Tryd.prog 85 = true := by kernel_rfl
@[go_sem] theorem enter_86 : entB Tryd.prog 86 = true := by kernel_rfl
@[go_sem] theorem enter_87 : entB Tryd.prog 87 = true := by kernel_rfl
@[go_sem] theorem enter_88 : entB Tryd.prog 88 = true := by kernel_rfl
@[go_sem] theorem enter_89 : entB Tryd.prog 89 = true := by kernel_rfl
@[go_sem] theorem enter_90 : entB Tryd.prog 90 = true := by kernel_rfl
@[go_sem] theorem enter_91 : entB Tryd.prog 91 = true := by kernel_rfl
@[go_sem] theorem enter_92 : entB Tryd.prog 92 = true := by kernel_rfl
@[go_sem] theorem enter_93 : entB Tryd.prog 93 = true := by kernel_rfl
@[go_sem] theorem enter_94 : entB Tryd.prog 94 = true := by kernel_rfl
@[go_sem] theorem enter_95 : entB Tryd.prog 95 = true := by kernel_rfl
@[go_sem] theorem enter_96 : entB Tryd.prog 96 = true := by kernel_rfl
@[go_sem] theorem enter_97 : entB Tryd.prog 97 = true := by kernel_rfl
@[go_sem] theorem enter_98 : entB Tryd.prog 98 = true := by kernel_rfl
@[go_sem] theorem enter_99 : entB Tryd.prog 99 = true := by kernel_rfl
@[go_sem] theorem enter_100 : entB Tryd.prog 100 = true := by kernel_rfl
@[go_sem] theorem enter_101 : entB Tryd.prog 101 = true := by kernel_rfl
@[go_sem] theorem enter_102 : entB Tryd.prog 102 = true := by kernel_rfl
@[go_sem] theorem enter_103 : entB Tryd.prog 103 = true := by kernel_rfl
@[go_sem] theorem enter_104 : entB Tryd.prog 104 = true := by kernel_rfl
@[go_sem] theorem enter_105 : entB Tryd.prog 105 = true := by kernel_rfl
@[go_sem] theorem enter_106 : entB Tryd.prog 106 = true := by kernel_rfl
@[go_sem] theorem enter_107 : entB Tryd.prog 107 = true := by kernel_rfl
@[go_sem] theorem enter_128 : entB Tryd.prog 128 = true := by kernel_rfl
end Go.Proofs.YtegebjflhhbmiaaDoor
