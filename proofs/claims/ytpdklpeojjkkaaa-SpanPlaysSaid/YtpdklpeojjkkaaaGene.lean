/- By program (gen.py): this seat's regions and tables, as the engine wants them. -/
import Derived.Test.YtpdklpeojjkkaaaE9
import Derived.Test.YtpdklpeojjkkaaaProg
import Derived.KernelRfl
namespace Go.Proofs.Ytpdklpeojjkkaaa
open Go
set_option linter.unusedVariables false
set_option maxRecDepth 100000
@[go_sem] theorem tagg_113 : tagg Try.prog 113 = some false := by kernel_rfl
@[go_sem] theorem tagg_115 : tagg Try.prog 115 = some false := by kernel_rfl
@[go_sem] theorem tagg_117 : tagg Try.prog 117 = some false := by kernel_rfl
@[go_sem] theorem tagg_119 : tagg Try.prog 119 = some false := by kernel_rfl
@[go_sem] theorem tagg_121 : tagg Try.prog 121 = some false := by kernel_rfl
@[go_sem] theorem tagg_124 : tagg Try.prog 124 = some true := by kernel_rfl
@[go_sem] theorem tagg_2 : tagg Try.prog 2 = some false := by kernel_rfl
@[go_sem] theorem tagg_20 : tagg Try.prog 20 = some false := by kernel_rfl
@[go_sem] theorem tagg_29 : tagg Try.prog 29 = some false := by kernel_rfl
@[go_sem] theorem tagg_3 : tagg Try.prog 3 = some false := by kernel_rfl
@[go_sem] theorem tagg_31 : tagg Try.prog 31 = some true := by kernel_rfl
@[go_sem] theorem tagg_34 : tagg Try.prog 34 = some true := by kernel_rfl
@[go_sem] theorem tagg_36 : tagg Try.prog 36 = some false := by kernel_rfl
@[go_sem] theorem tagg_4 : tagg Try.prog 4 = some false := by kernel_rfl
@[go_sem] theorem tagg_40 : tagg Try.prog 40 = some false := by kernel_rfl
@[go_sem] theorem tagg_41 : tagg Try.prog 41 = some false := by kernel_rfl
@[go_sem] theorem tagg_49 : tagg Try.prog 49 = some false := by kernel_rfl
@[go_sem] theorem tagg_5 : tagg Try.prog 5 = some false := by kernel_rfl
@[go_sem] theorem tagg_62 : tagg Try.prog 62 = some true := by kernel_rfl
@[go_sem] theorem tagg_81 : tagg Try.prog 81 = some false := by kernel_rfl
@[go_sem] theorem tagg_85 : tagg Try.prog 85 = some true := by kernel_rfl
@[go_sem] theorem tagg_9 : tagg Try.prog 9 = some false := by kernel_rfl
@[go_sem] theorem tagg_91 : tagg Try.prog 91 = some false := by kernel_rfl
@[go_sem] theorem tagg_96 : tagg Try.prog 96 = some true := by kernel_rfl
@[go_sem] theorem tbyte_40 : tbyte Try.prog 40 = true := by kernel_rfl
@[go_sem] theorem tcall_12 : tcall Try.prog 12 = true := by kernel_rfl
@[go_sem] theorem tcall_13 : tcall Try.prog 13 = true := by kernel_rfl
@[go_sem] theorem tcall_14 : tcall Try.prog 14 = true := by kernel_rfl
@[go_sem] theorem tcall_15 : tcall Try.prog 15 = true := by kernel_rfl
@[go_sem] theorem tcall_16 : tcall Try.prog 16 = true := by kernel_rfl
@[go_sem] theorem tcall_17 : tcall Try.prog 17 = true := by kernel_rfl
@[go_sem] theorem tcall_18 : tcall Try.prog 18 = true := by kernel_rfl
@[go_sem] theorem tcall_19 : tcall Try.prog 19 = true := by kernel_rfl
@[go_sem] theorem tcall_20 : tcall Try.prog 20 = true := by kernel_rfl
@[go_sem] theorem tcall_21 : tcall Try.prog 21 = true := by kernel_rfl
@[go_sem] theorem tcall_22 : tcall Try.prog 22 = true := by kernel_rfl
@[go_sem] theorem tcall_23 : tcall Try.prog 23 = true := by kernel_rfl
@[go_sem] theorem tcall_24 : tcall Try.prog 24 = true := by kernel_rfl
@[go_sem] theorem tcall_25 : tcall Try.prog 25 = true := by kernel_rfl
@[go_sem] theorem tcall_26 : tcall Try.prog 26 = true := by kernel_rfl
@[go_sem] theorem tcall_27 : tcall Try.prog 27 = true := by kernel_rfl
@[go_sem] theorem tcall_28 : tcall Try.prog 28 = true := by kernel_rfl
@[go_sem] theorem tcall_29 : tcall Try.prog 29 = true := by kernel_rfl
@[go_sem] theorem tcall_30 : tcall Try.prog 30 = true := by kernel_rfl
@[go_sem] theorem tcall_31 : tcall Try.prog 31 = true := by kernel_rfl
@[go_sem] theorem tcall_32 : tcall Try.prog 32 = true := by kernel_rfl
@[go_sem] theorem tcall_33 : tcall Try.prog 33 = true := by kernel_rfl
@[go_sem] theorem tcall_34 : tcall Try.prog 34 = true := by kernel_rfl
@[go_sem] theorem tcall_35 : tcall Try.prog 35 = true := by kernel_rfl
@[go_sem] theorem tcall_36 : tcall Try.prog 36 = true := by kernel_rfl
@[go_sem] theorem tcall_37 : tcall Try.prog 37 = true := by kernel_rfl
@[go_sem] theorem tcall_38 : tcall Try.prog 38 = true := by kernel_rfl
@[go_sem] theorem tcall_39 : tcall Try.prog 39 = true := by kernel_rfl
@[go_sem] theorem tcall_40 : tcall Try.prog 40 = true := by kernel_rfl
@[go_sem] theorem tcall_41 : tcall Try.prog 41 = true := by kernel_rfl
@[go_sem] theorem tcall_42 : tcall Try.prog 42 = true := by kernel_rfl
@[go_sem] theorem tcall_43 : tcall Try.prog 43 = true := by kernel_rfl
@[go_sem] theorem tcall_44 : tcall Try.prog 44 = true := by kernel_rfl
@[go_sem] theorem tcall_45 : tcall Try.prog 45 = true := by kernel_rfl
@[go_sem] theorem tcall_46 : tcall Try.prog 46 = true := by kernel_rfl
@[go_sem] theorem tcall_47 : tcall Try.prog 47 = true := by kernel_rfl
@[go_sem] theorem tcall_48 : tcall Try.prog 48 = true := by kernel_rfl
@[go_sem] theorem tcall_49 : tcall Try.prog 49 = true := by kernel_rfl
@[go_sem] theorem tcall_50 : tcall Try.prog 50 = true := by kernel_rfl
@[go_sem] theorem tcall_51 : tcall Try.prog 51 = true := by kernel_rfl
@[go_sem] theorem tcall_52 : tcall Try.prog 52 = true := by kernel_rfl
@[go_sem] theorem tcall_53 : tcall Try.prog 53 = true := by kernel_rfl
@[go_sem] theorem tcall_54 : tcall Try.prog 54 = true := by kernel_rfl
@[go_sem] theorem tcall_55 : tcall Try.prog 55 = true := by kernel_rfl
@[go_sem] theorem tcall_56 : tcall Try.prog 56 = true := by kernel_rfl
@[go_sem] theorem tcall_57 : tcall Try.prog 57 = true := by kernel_rfl
@[go_sem] theorem tcall_58 : tcall Try.prog 58 = true := by kernel_rfl
@[go_sem] theorem tcall_59 : tcall Try.prog 59 = true := by kernel_rfl
@[go_sem] theorem tcall_60 : tcall Try.prog 60 = true := by kernel_rfl
@[go_sem] theorem tcall_61 : tcall Try.prog 61 = true := by kernel_rfl
@[go_sem] theorem tcall_62 : tcall Try.prog 62 = false := by kernel_rfl
@[go_sem] theorem tcall_63 : tcall Try.prog 63 = true := by kernel_rfl
@[go_sem] theorem tcall_64 : tcall Try.prog 64 = true := by kernel_rfl
@[go_sem] theorem tcall_65 : tcall Try.prog 65 = true := by kernel_rfl
@[go_sem] theorem tcall_66 : tcall Try.prog 66 = true := by kernel_rfl
@[go_sem] theorem tcall_67 : tcall Try.prog 67 = true := by kernel_rfl
@[go_sem] theorem tcall_68 : tcall Try.prog 68 = true := by kernel_rfl
@[go_sem] theorem tcall_69 : tcall Try.prog 69 = true := by kernel_rfl
@[go_sem] theorem tcall_70 : tcall Try.prog 70 = true := by kernel_rfl
@[go_sem] theorem tconc_127 : tconc Try.prog 127 = true := by kernel_rfl
@[go_sem] theorem tconc_130 : tconc Try.prog 130 = true := by kernel_rfl
@[go_sem] theorem tconc_133 : tconc Try.prog 133 = true := by kernel_rfl
@[go_sem] theorem tconc_136 : tconc Try.prog 136 = true := by kernel_rfl
@[go_sem] theorem tconc_139 : tconc Try.prog 139 = true := by kernel_rfl
@[go_sem] theorem tconc_142 : tconc Try.prog 142 = true := by kernel_rfl
@[go_sem] theorem tconc_145 : tconc Try.prog 145 = true := by kernel_rfl
@[go_sem] theorem tconc_148 : tconc Try.prog 148 = true := by kernel_rfl
@[go_sem] theorem tconc_151 : tconc Try.prog 151 = true := by kernel_rfl
@[go_sem] theorem tconc_154 : tconc Try.prog 154 = true := by kernel_rfl
@[go_sem] theorem tconc_157 : tconc Try.prog 157 = true := by kernel_rfl
@[go_sem] theorem tconc_160 : tconc Try.prog 160 = true := by kernel_rfl
@[go_sem] theorem tconc_163 : tconc Try.prog 163 = true := by kernel_rfl
@[go_sem] theorem tconc_166 : tconc Try.prog 166 = true := by kernel_rfl
@[go_sem] theorem tconc_169 : tconc Try.prog 169 = true := by kernel_rfl
@[go_sem] theorem tconc_172 : tconc Try.prog 172 = true := by kernel_rfl
@[go_sem] theorem tconc_40 : tconc Try.prog 40 = true := by kernel_rfl
@[go_sem] theorem tconc_77 : tconc Try.prog 77 = true := by kernel_rfl
@[go_sem] theorem tconc_9 : tconc Try.prog 9 = true := by kernel_rfl
@[go_sem] theorem tconc_98 : tconc Try.prog 98 = true := by kernel_rfl
@[go_sem] theorem tint_125 : tint Try.prog 125 = some IntKind.u64 := by kernel_rfl
@[go_sem] theorem tint_3 : tint Try.prog 3 = some IntKind.i64 := by kernel_rfl
@[go_sem] theorem tint_5 : tint Try.prog 5 = some IntKind.u8 := by kernel_rfl
@[go_sem] theorem toff_124_0 : toff Try.prog 124 0 = some (0, 1) := by kernel_rfl
@[go_sem] theorem toff_124_1 : toff Try.prog 124 1 = some (1, 1) := by kernel_rfl
@[go_sem] theorem toff_124_2 : toff Try.prog 124 2 = some (2, 1) := by kernel_rfl
@[go_sem] theorem toff_124_3 : toff Try.prog 124 3 = some (3, 1) := by kernel_rfl
@[go_sem] theorem toff_124_4 : toff Try.prog 124 4 = some (4, 1) := by kernel_rfl
@[go_sem] theorem toff_31_0 : toff Try.prog 31 0 = some (0, 1) := by kernel_rfl
@[go_sem] theorem toff_31_1 : toff Try.prog 31 1 = some (1, 1) := by kernel_rfl
@[go_sem] theorem toff_31_2 : toff Try.prog 31 2 = some (2, 1) := by kernel_rfl
@[go_sem] theorem toff_34_0 : toff Try.prog 34 0 = some (0, 1) := by kernel_rfl
@[go_sem] theorem toff_34_1 : toff Try.prog 34 1 = some (1, 1) := by kernel_rfl
@[go_sem] theorem toff_62_0 : toff Try.prog 62 0 = some (0, 1) := by kernel_rfl
@[go_sem] theorem toff_62_1 : toff Try.prog 62 1 = some (1, 1) := by kernel_rfl
@[go_sem] theorem toff_62_2 : toff Try.prog 62 2 = some (2, 1) := by kernel_rfl
@[go_sem] theorem toff_62_3 : toff Try.prog 62 3 = some (3, 1) := by kernel_rfl
@[go_sem] theorem toff_74_0 : toff Try.prog 74 0 = some (0, 1) := by kernel_rfl
@[go_sem] theorem toff_74_1 : toff Try.prog 74 1 = some (1, 1) := by kernel_rfl
@[go_sem] theorem toff_76_0 : toff Try.prog 76 0 = some (0, 1) := by kernel_rfl
@[go_sem] theorem toff_83_0 : toff Try.prog 83 0 = some (0, 1) := by kernel_rfl
@[go_sem] theorem toff_83_1 : toff Try.prog 83 1 = some (1, 1) := by kernel_rfl
@[go_sem] theorem toff_85_0 : toff Try.prog 85 0 = some (0, 1) := by kernel_rfl
@[go_sem] theorem toff_85_1 : toff Try.prog 85 1 = some (1, 1) := by kernel_rfl
@[go_sem] theorem toff_93_0 : toff Try.prog 93 0 = some (0, 1) := by kernel_rfl
@[go_sem] theorem toff_93_1 : toff Try.prog 93 1 = some (1, 1) := by kernel_rfl
@[go_sem] theorem toff_96_0 : toff Try.prog 96 0 = some (0, 1) := by kernel_rfl
@[go_sem] theorem toff_96_1 : toff Try.prog 96 1 = some (1, 1) := by kernel_rfl
@[go_sem] theorem tplaces_100 : tplaces Try.prog 100 = some [(0, 1)] := by kernel_rfl
@[go_sem] theorem tplaces_124 : tplaces Try.prog 124 = some [(0, 1), (1, 1), (2, 1), (3, 1), (4, 1), (5, 1)] := by kernel_rfl
@[go_sem] theorem tplaces_129 : tplaces Try.prog 129 = some [(0, 1), (1, 1)] := by kernel_rfl
@[go_sem] theorem tplaces_132 : tplaces Try.prog 132 = some [(0, 1), (1, 1)] := by kernel_rfl
@[go_sem] theorem tplaces_135 : tplaces Try.prog 135 = some [(0, 1), (1, 1), (2, 1)] := by kernel_rfl
@[go_sem] theorem tplaces_138 : tplaces Try.prog 138 = some [(0, 1), (1, 1)] := by kernel_rfl
@[go_sem] theorem tplaces_141 : tplaces Try.prog 141 = some [(0, 1), (1, 1), (2, 1)] := by kernel_rfl
@[go_sem] theorem tplaces_144 : tplaces Try.prog 144 = some [(0, 1), (1, 1), (2, 1)] := by kernel_rfl
@[go_sem] theorem tplaces_147 : tplaces Try.prog 147 = some [(0, 1), (1, 1), (2, 1), (3, 1)] := by kernel_rfl
@[go_sem] theorem tplaces_150 : tplaces Try.prog 150 = some [(0, 1), (1, 1)] := by kernel_rfl
@[go_sem] theorem tplaces_153 : tplaces Try.prog 153 = some [(0, 1), (1, 1), (2, 1)] := by kernel_rfl
@[go_sem] theorem tplaces_156 : tplaces Try.prog 156 = some [(0, 1), (1, 1), (2, 1)] := by kernel_rfl
@[go_sem] theorem tplaces_159 : tplaces Try.prog 159 = some [(0, 1), (1, 1), (2, 1), (3, 1)] := by kernel_rfl
@[go_sem] theorem tplaces_162 : tplaces Try.prog 162 = some [(0, 1), (1, 1), (2, 1)] := by kernel_rfl
@[go_sem] theorem tplaces_165 : tplaces Try.prog 165 = some [(0, 1), (1, 1), (2, 1), (3, 1)] := by kernel_rfl
@[go_sem] theorem tplaces_168 : tplaces Try.prog 168 = some [(0, 1), (1, 1), (2, 1), (3, 1)] := by kernel_rfl
@[go_sem] theorem tplaces_171 : tplaces Try.prog 171 = some [(0, 1), (1, 1), (2, 1), (3, 1), (4, 1)] := by kernel_rfl
@[go_sem] theorem tplaces_174 : tplaces Try.prog 174 = some [(0, 1)] := by kernel_rfl
@[go_sem] theorem tplaces_31 : tplaces Try.prog 31 = some [(0, 1), (1, 1), (2, 1)] := by kernel_rfl
@[go_sem] theorem tplaces_74 : tplaces Try.prog 74 = some [(0, 1), (1, 1)] := by kernel_rfl
@[go_sem] theorem tplaces_76 : tplaces Try.prog 76 = some [(0, 1)] := by kernel_rfl
@[go_sem] theorem tplaces_79 : tplaces Try.prog 79 = some [(0, 1)] := by kernel_rfl
@[go_sem] theorem tplaces_83 : tplaces Try.prog 83 = some [(0, 1), (1, 1)] := by kernel_rfl
@[go_sem] theorem tplaces_85 : tplaces Try.prog 85 = some [(0, 1), (1, 1)] := by kernel_rfl
@[go_sem] theorem tplaces_93 : tplaces Try.prog 93 = some [(0, 1), (1, 1)] := by kernel_rfl
@[go_sem] theorem tplaces_96 : tplaces Try.prog 96 = some [(0, 1), (1, 1)] := by kernel_rfl
@[go_sem] theorem tsl_25 : tsl Try.prog 25 = some (1, [Value.pointer none], 8) := by kernel_rfl
@[go_sem] theorem tsl_26 : tsl Try.prog 26 = some (3, [Value.int IntKind.i64 0, Value.int IntKind.i64 0, Value.string { data := { toList := [] } }], 32) := by kernel_rfl
@[go_sem] theorem tsl_27 : tsl Try.prog 27 = some (1, [Value.pointer none], 8) := by kernel_rfl
@[go_sem] theorem tsl_28 : tsl Try.prog 28 = some (1, [Value.pointer none], 8) := by kernel_rfl
@[go_sem] theorem tsl_40 : tsl Try.prog 40 = some (1, [Value.int IntKind.u8 0], 1) := by kernel_rfl
@[go_sem] theorem tsl_81 : tsl Try.prog 81 = some (2, [Value.int IntKind.i64 0, Value.slice none 0 0], 32) := by kernel_rfl
@[go_sem] theorem tsl_91 : tsl Try.prog 91 = some (2, [Value.int IntKind.i64 0, Value.slice none 0 0], 32) := by kernel_rfl
@[go_sem] theorem tsl_22 : tsl Try.prog 22 = some (2, [Value.int IntKind.i64 0, Value.string { data := { toList := [] } }], 24) := by kernel_rfl
@[go_sem] theorem tsl_56 : tsl Try.prog 56 = some (4, [Value.int IntKind.i64 0, Value.int IntKind.i64 0, Value.int IntKind.i64 0, Value.slice none 0 0], 48) := by kernel_rfl
@[go_sem] theorem tsz_113 : tsz Try.prog 113 = some 1 := by kernel_rfl
@[go_sem] theorem tsz_115 : tsz Try.prog 115 = some 1 := by kernel_rfl
@[go_sem] theorem tsz_117 : tsz Try.prog 117 = some 1 := by kernel_rfl
@[go_sem] theorem tsz_119 : tsz Try.prog 119 = some 1 := by kernel_rfl
@[go_sem] theorem tsz_121 : tsz Try.prog 121 = some 1 := by kernel_rfl
@[go_sem] theorem tsz_124 : tsz Try.prog 124 = some 6 := by kernel_rfl
@[go_sem] theorem tsz_2 : tsz Try.prog 2 = some 1 := by kernel_rfl
@[go_sem] theorem tsz_20 : tsz Try.prog 20 = some 1 := by kernel_rfl
@[go_sem] theorem tsz_29 : tsz Try.prog 29 = some 1 := by kernel_rfl
@[go_sem] theorem tsz_3 : tsz Try.prog 3 = some 1 := by kernel_rfl
@[go_sem] theorem tsz_31 : tsz Try.prog 31 = some 3 := by kernel_rfl
@[go_sem] theorem tsz_34 : tsz Try.prog 34 = some 2 := by kernel_rfl
@[go_sem] theorem tsz_36 : tsz Try.prog 36 = some 1 := by kernel_rfl
@[go_sem] theorem tsz_4 : tsz Try.prog 4 = some 1 := by kernel_rfl
@[go_sem] theorem tsz_40 : tsz Try.prog 40 = some 1 := by kernel_rfl
@[go_sem] theorem tsz_41 : tsz Try.prog 41 = some 1 := by kernel_rfl
@[go_sem] theorem tsz_49 : tsz Try.prog 49 = some 1 := by kernel_rfl
@[go_sem] theorem tsz_5 : tsz Try.prog 5 = some 1 := by kernel_rfl
@[go_sem] theorem tsz_62 : tsz Try.prog 62 = some 4 := by kernel_rfl
@[go_sem] theorem tsz_81 : tsz Try.prog 81 = some 1 := by kernel_rfl
@[go_sem] theorem tsz_85 : tsz Try.prog 85 = some 2 := by kernel_rfl
@[go_sem] theorem tsz_9 : tsz Try.prog 9 = some 1 := by kernel_rfl
@[go_sem] theorem tsz_91 : tsz Try.prog 91 = some 1 := by kernel_rfl
@[go_sem] theorem tsz_96 : tsz Try.prog 96 = some 2 := by kernel_rfl
@[go_sem] theorem tzero_100 : tzero Try.prog 100 = some [Value.pointer none] := by kernel_rfl
@[go_sem] theorem tzero_124 : tzero Try.prog 124 = some [Value.nilIface, Value.nilIface, Value.nilIface, Value.nilIface, Value.nilIface, Value.nilIface] := by kernel_rfl
@[go_sem] theorem tzero_129 : tzero Try.prog 129 = some [Value.nilIface, Value.nilIface] := by kernel_rfl
@[go_sem] theorem tzero_132 : tzero Try.prog 132 = some [Value.nilIface, Value.nilIface] := by kernel_rfl
@[go_sem] theorem tzero_135 : tzero Try.prog 135 = some [Value.nilIface, Value.nilIface, Value.nilIface] := by kernel_rfl
@[go_sem] theorem tzero_138 : tzero Try.prog 138 = some [Value.nilIface, Value.nilIface] := by kernel_rfl
@[go_sem] theorem tzero_141 : tzero Try.prog 141 = some [Value.nilIface, Value.nilIface, Value.nilIface] := by kernel_rfl
@[go_sem] theorem tzero_144 : tzero Try.prog 144 = some [Value.nilIface, Value.nilIface, Value.nilIface] := by kernel_rfl
@[go_sem] theorem tzero_147 : tzero Try.prog 147 = some [Value.nilIface, Value.nilIface, Value.nilIface, Value.nilIface] := by kernel_rfl
@[go_sem] theorem tzero_150 : tzero Try.prog 150 = some [Value.nilIface, Value.nilIface] := by kernel_rfl
@[go_sem] theorem tzero_153 : tzero Try.prog 153 = some [Value.nilIface, Value.nilIface, Value.nilIface] := by kernel_rfl
@[go_sem] theorem tzero_156 : tzero Try.prog 156 = some [Value.nilIface, Value.nilIface, Value.nilIface] := by kernel_rfl
@[go_sem] theorem tzero_159 : tzero Try.prog 159 = some [Value.nilIface, Value.nilIface, Value.nilIface, Value.nilIface] := by kernel_rfl
@[go_sem] theorem tzero_162 : tzero Try.prog 162 = some [Value.nilIface, Value.nilIface, Value.nilIface] := by kernel_rfl
@[go_sem] theorem tzero_165 : tzero Try.prog 165 = some [Value.nilIface, Value.nilIface, Value.nilIface, Value.nilIface] := by kernel_rfl
@[go_sem] theorem tzero_168 : tzero Try.prog 168 = some [Value.nilIface, Value.nilIface, Value.nilIface, Value.nilIface] := by kernel_rfl
@[go_sem] theorem tzero_171 : tzero Try.prog 171 = some [Value.nilIface, Value.nilIface, Value.nilIface, Value.nilIface, Value.nilIface] := by kernel_rfl
@[go_sem] theorem tzero_174 : tzero Try.prog 174 = some [Value.nilIface] := by kernel_rfl
@[go_sem] theorem tzero_31 : tzero Try.prog 31 = some [Value.int IntKind.i64 0, Value.int IntKind.i64 0, Value.string { data := { toList := [] } }] := by kernel_rfl
@[go_sem] theorem tzero_4 : tzero Try.prog 4 = some [Value.bool false] := by kernel_rfl
@[go_sem] theorem tzero_74 : tzero Try.prog 74 = some [Value.pointer none, Value.pointer none] := by kernel_rfl
@[go_sem] theorem tzero_76 : tzero Try.prog 76 = some [Value.nilIface] := by kernel_rfl
@[go_sem] theorem tzero_79 : tzero Try.prog 79 = some [Value.string { data := { toList := [] } }] := by kernel_rfl
@[go_sem] theorem tzero_83 : tzero Try.prog 83 = some [Value.slice none 0 0, Value.int IntKind.i64 0] := by kernel_rfl
@[go_sem] theorem tzero_85 : tzero Try.prog 85 = some [Value.int IntKind.i64 0, Value.slice none 0 0] := by kernel_rfl
@[go_sem] theorem tzero_93 : tzero Try.prog 93 = some [Value.slice none 0 0, Value.int IntKind.i64 0] := by kernel_rfl
@[go_sem] theorem tzero_96 : tzero Try.prog 96 = some [Value.int IntKind.i64 0, Value.slice none 0 0] := by kernel_rfl
end Go.Proofs.Ytpdklpeojjkkaaa
