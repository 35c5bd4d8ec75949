/- By program (gen.py): this seat's regions and tables, as the engine wants them. -/
import Derived.Test.YtlffbjchcknmfaaE10
import Derived.Test.YtlffbjchcknmfaaProg
import Derived.KernelRfl
namespace Go.Proofs.Ytlffbjchcknmfaa
open Go
set_option linter.unusedVariables false
set_option maxRecDepth 100000
@[go_sem] theorem tagg_127 : tagg Try.prog 127 = some false := by kernel_rfl
@[go_sem] theorem tagg_130 : tagg Try.prog 130 = some false := by kernel_rfl
@[go_sem] theorem tagg_133 : tagg Try.prog 133 = some false := by kernel_rfl
@[go_sem] theorem tagg_136 : tagg Try.prog 136 = some false := by kernel_rfl
@[go_sem] theorem tagg_139 : tagg Try.prog 139 = some false := by kernel_rfl
@[go_sem] theorem tagg_147 : tagg Try.prog 147 = some true := by kernel_rfl
@[go_sem] theorem tagg_156 : tagg Try.prog 156 = some false := by kernel_rfl
@[go_sem] theorem tagg_160 : tagg Try.prog 160 = some true := by kernel_rfl
@[go_sem] theorem tagg_2 : tagg Try.prog 2 = some false := by kernel_rfl
@[go_sem] theorem tagg_22 : tagg Try.prog 22 = some false := by kernel_rfl
@[go_sem] theorem tagg_3 : tagg Try.prog 3 = some false := by kernel_rfl
@[go_sem] theorem tagg_30 : tagg Try.prog 30 = some false := by kernel_rfl
@[go_sem] theorem tagg_38 : tagg Try.prog 38 = some true := by kernel_rfl
@[go_sem] theorem tagg_41 : tagg Try.prog 41 = some false := by kernel_rfl
@[go_sem] theorem tagg_50 : tagg Try.prog 50 = some false := by kernel_rfl
@[go_sem] theorem tbyte_22 : tbyte Try.prog 22 = true := by kernel_rfl
@[go_sem] theorem tcall_127 : tcall Try.prog 127 = true := by kernel_rfl
@[go_sem] theorem tcall_128 : tcall Try.prog 128 = true := by kernel_rfl
@[go_sem] theorem tcall_129 : tcall Try.prog 129 = true := by kernel_rfl
@[go_sem] theorem tcall_130 : tcall Try.prog 130 = true := by kernel_rfl
@[go_sem] theorem tcall_137 : tcall Try.prog 137 = true := by kernel_rfl
@[go_sem] theorem tcall_139 : tcall Try.prog 139 = true := by kernel_rfl
@[go_sem] theorem tcall_24 : tcall Try.prog 24 = true := by kernel_rfl
@[go_sem] theorem tcall_25 : tcall Try.prog 25 = true := by kernel_rfl
@[go_sem] theorem tcall_31 : tcall Try.prog 31 = true := by kernel_rfl
@[go_sem] theorem tcall_33 : tcall Try.prog 33 = true := by kernel_rfl
@[go_sem] theorem tcall_34 : tcall Try.prog 34 = true := by kernel_rfl
@[go_sem] theorem tcall_43 : tcall Try.prog 43 = true := by kernel_rfl
@[go_sem] theorem tcall_64 : tcall Try.prog 64 = true := by kernel_rfl
@[go_sem] theorem tcall_74 : tcall Try.prog 74 = true := by kernel_rfl
@[go_sem] theorem tcall_76 : tcall Try.prog 76 = true := by kernel_rfl
@[go_sem] theorem tcall_83 : tcall Try.prog 83 = true := by kernel_rfl
@[go_sem] theorem tcall_84 : tcall Try.prog 84 = true := by kernel_rfl
@[go_sem] theorem tcall_85 : tcall Try.prog 85 = true := by kernel_rfl
@[go_sem] theorem tcall_86 : tcall Try.prog 86 = true := by kernel_rfl
@[go_sem] theorem tcall_90 : tcall Try.prog 90 = true := by kernel_rfl
@[go_sem] theorem tcall_91 : tcall Try.prog 91 = true := by kernel_rfl
@[go_sem] theorem tcall_92 : tcall Try.prog 92 = true := by kernel_rfl
@[go_sem] theorem tcall_93 : tcall Try.prog 93 = true := by kernel_rfl
@[go_sem] theorem tcall_94 : tcall Try.prog 94 = true := by kernel_rfl
@[go_sem] theorem tconc_150 : tconc Try.prog 150 = true := by kernel_rfl
@[go_sem] theorem tconc_210 : tconc Try.prog 210 = true := by kernel_rfl
@[go_sem] theorem tconc_213 : tconc Try.prog 213 = true := by kernel_rfl
@[go_sem] theorem tconc_216 : tconc Try.prog 216 = true := by kernel_rfl
@[go_sem] theorem tconc_219 : tconc Try.prog 219 = true := by kernel_rfl
@[go_sem] theorem tconc_222 : tconc Try.prog 222 = true := by kernel_rfl
@[go_sem] theorem tconc_225 : tconc Try.prog 225 = true := by kernel_rfl
@[go_sem] theorem tconc_228 : tconc Try.prog 228 = true := by kernel_rfl
@[go_sem] theorem tconc_231 : tconc Try.prog 231 = true := by kernel_rfl
@[go_sem] theorem tconc_234 : tconc Try.prog 234 = true := by kernel_rfl
@[go_sem] theorem tconc_237 : tconc Try.prog 237 = true := by kernel_rfl
@[go_sem] theorem tconc_240 : tconc Try.prog 240 = true := by kernel_rfl
@[go_sem] theorem tconc_243 : tconc Try.prog 243 = true := by kernel_rfl
@[go_sem] theorem tconc_246 : tconc Try.prog 246 = true := by kernel_rfl
@[go_sem] theorem tconc_249 : tconc Try.prog 249 = true := by kernel_rfl
@[go_sem] theorem tconc_252 : tconc Try.prog 252 = true := by kernel_rfl
@[go_sem] theorem tconc_255 : tconc Try.prog 255 = true := by kernel_rfl
@[go_sem] theorem tint_258 : tint Try.prog 258 = some IntKind.u64 := by kernel_rfl
@[go_sem] theorem tint_3 : tint Try.prog 3 = some IntKind.i64 := by kernel_rfl
@[go_sem] theorem toff_147_0 : toff Try.prog 147 0 = some (0, 1) := by kernel_rfl
@[go_sem] theorem toff_147_1 : toff Try.prog 147 1 = some (1, 1) := by kernel_rfl
@[go_sem] theorem toff_147_2 : toff Try.prog 147 2 = some (2, 1) := by kernel_rfl
@[go_sem] theorem toff_147_3 : toff Try.prog 147 3 = some (3, 1) := by kernel_rfl
@[go_sem] theorem toff_147_4 : toff Try.prog 147 4 = some (4, 1) := by kernel_rfl
@[go_sem] theorem toff_147_5 : toff Try.prog 147 5 = some (5, 1) := by kernel_rfl
@[go_sem] theorem toff_152_0 : toff Try.prog 152 0 = some (0, 1) := by kernel_rfl
@[go_sem] theorem toff_158_0 : toff Try.prog 158 0 = some (0, 1) := by kernel_rfl
@[go_sem] theorem toff_158_1 : toff Try.prog 158 1 = some (1, 1) := by kernel_rfl
@[go_sem] theorem toff_160_0 : toff Try.prog 160 0 = some (0, 1) := by kernel_rfl
@[go_sem] theorem toff_160_1 : toff Try.prog 160 1 = some (1, 1) := by kernel_rfl
@[go_sem] theorem toff_38_0 : toff Try.prog 38 0 = some (0, 1) := by kernel_rfl
@[go_sem] theorem toff_38_1 : toff Try.prog 38 1 = some (1, 1) := by kernel_rfl
@[go_sem] theorem toff_38_2 : toff Try.prog 38 2 = some (2, 1) := by kernel_rfl
@[go_sem] theorem toff_38_3 : toff Try.prog 38 3 = some (3, 1) := by kernel_rfl
@[go_sem] theorem toff_43_0 : toff Try.prog 43 0 = some (0, 1) := by kernel_rfl
@[go_sem] theorem toff_43_1 : toff Try.prog 43 1 = some (1, 1) := by kernel_rfl
@[go_sem] theorem toff_43_2 : toff Try.prog 43 2 = some (2, 1) := by kernel_rfl
@[go_sem] theorem toff_43_3 : toff Try.prog 43 3 = some (3, 1) := by kernel_rfl
@[go_sem] theorem tplaces_147 : tplaces Try.prog 147 = some [(0, 1), (1, 1), (2, 1), (3, 1), (4, 1), (5, 1)] := by kernel_rfl
@[go_sem] theorem tplaces_152 : tplaces Try.prog 152 = some [(0, 1)] := by kernel_rfl
@[go_sem] theorem tplaces_158 : tplaces Try.prog 158 = some [(0, 1), (1, 1)] := by kernel_rfl
@[go_sem] theorem tplaces_160 : tplaces Try.prog 160 = some [(0, 1), (1, 1)] := by kernel_rfl
@[go_sem] theorem tplaces_212 : tplaces Try.prog 212 = some [(0, 1), (1, 1)] := by kernel_rfl
@[go_sem] theorem tplaces_215 : tplaces Try.prog 215 = some [(0, 1), (1, 1)] := by kernel_rfl
@[go_sem] theorem tplaces_218 : tplaces Try.prog 218 = some [(0, 1), (1, 1), (2, 1)] := by kernel_rfl
@[go_sem] theorem tplaces_221 : tplaces Try.prog 221 = some [(0, 1), (1, 1)] := by kernel_rfl
@[go_sem] theorem tplaces_224 : tplaces Try.prog 224 = some [(0, 1), (1, 1), (2, 1)] := by kernel_rfl
@[go_sem] theorem tplaces_227 : tplaces Try.prog 227 = some [(0, 1), (1, 1), (2, 1)] := by kernel_rfl
@[go_sem] theorem tplaces_230 : tplaces Try.prog 230 = some [(0, 1), (1, 1), (2, 1), (3, 1)] := by kernel_rfl
@[go_sem] theorem tplaces_233 : tplaces Try.prog 233 = some [(0, 1), (1, 1)] := by kernel_rfl
@[go_sem] theorem tplaces_236 : tplaces Try.prog 236 = some [(0, 1), (1, 1), (2, 1)] := by kernel_rfl
@[go_sem] theorem tplaces_239 : tplaces Try.prog 239 = some [(0, 1), (1, 1), (2, 1)] := by kernel_rfl
@[go_sem] theorem tplaces_242 : tplaces Try.prog 242 = some [(0, 1), (1, 1), (2, 1), (3, 1)] := by kernel_rfl
@[go_sem] theorem tplaces_245 : tplaces Try.prog 245 = some [(0, 1), (1, 1), (2, 1)] := by kernel_rfl
@[go_sem] theorem tplaces_248 : tplaces Try.prog 248 = some [(0, 1), (1, 1), (2, 1), (3, 1)] := by kernel_rfl
@[go_sem] theorem tplaces_251 : tplaces Try.prog 251 = some [(0, 1), (1, 1), (2, 1), (3, 1)] := by kernel_rfl
@[go_sem] theorem tplaces_254 : tplaces Try.prog 254 = some [(0, 1), (1, 1), (2, 1), (3, 1), (4, 1)] := by kernel_rfl
@[go_sem] theorem tplaces_257 : tplaces Try.prog 257 = some [(0, 1)] := by kernel_rfl
@[go_sem] theorem tplaces_38 : tplaces Try.prog 38 = some [(0, 1), (1, 1), (2, 1), (3, 1)] := by kernel_rfl
@[go_sem] theorem tplaces_43 : tplaces Try.prog 43 = some [(0, 1), (1, 1), (2, 1), (3, 1)] := by kernel_rfl
@[go_sem] theorem tsl_156 : tsl Try.prog 156 = some (2, [Value.int IntKind.i64 0, Value.slice none 0 0], 32) := by kernel_rfl
@[go_sem] theorem tsl_22 : tsl Try.prog 22 = some (1, [Value.int IntKind.u8 0], 1) := by kernel_rfl
@[go_sem] theorem tsz_127 : tsz Try.prog 127 = some 1 := by kernel_rfl
@[go_sem] theorem tsz_130 : tsz Try.prog 130 = some 1 := by kernel_rfl
@[go_sem] theorem tsz_133 : tsz Try.prog 133 = some 1 := by kernel_rfl
@[go_sem] theorem tsz_136 : tsz Try.prog 136 = some 1 := by kernel_rfl
@[go_sem] theorem tsz_139 : tsz Try.prog 139 = some 1 := by kernel_rfl
@[go_sem] theorem tsz_147 : tsz Try.prog 147 = some 6 := by kernel_rfl
@[go_sem] theorem tsz_156 : tsz Try.prog 156 = some 1 := by kernel_rfl
@[go_sem] theorem tsz_160 : tsz Try.prog 160 = some 2 := by kernel_rfl
@[go_sem] theorem tsz_2 : tsz Try.prog 2 = some 1 := by kernel_rfl
@[go_sem] theorem tsz_22 : tsz Try.prog 22 = some 1 := by kernel_rfl
@[go_sem] theorem tsz_3 : tsz Try.prog 3 = some 1 := by kernel_rfl
@[go_sem] theorem tsz_30 : tsz Try.prog 30 = some 1 := by kernel_rfl
@[go_sem] theorem tsz_38 : tsz Try.prog 38 = some 4 := by kernel_rfl
@[go_sem] theorem tsz_41 : tsz Try.prog 41 = some 1 := by kernel_rfl
@[go_sem] theorem tsz_50 : tsz Try.prog 50 = some 1 := by kernel_rfl
@[go_sem] theorem tzero_147 : tzero Try.prog 147 = some [Value.nilIface, Value.nilIface, Value.nilIface, Value.nilIface, Value.nilIface, Value.nilIface] := by kernel_rfl
@[go_sem] theorem tzero_152 : tzero Try.prog 152 = some [Value.pointer none] := by kernel_rfl
@[go_sem] theorem tzero_158 : tzero Try.prog 158 = some [Value.slice none 0 0, Value.int IntKind.i64 0] := by kernel_rfl
@[go_sem] theorem tzero_160 : tzero Try.prog 160 = some [Value.int IntKind.i64 0, Value.slice none 0 0] := by kernel_rfl
@[go_sem] theorem tzero_212 : tzero Try.prog 212 = some [Value.nilIface, Value.nilIface] := by kernel_rfl
@[go_sem] theorem tzero_215 : tzero Try.prog 215 = some [Value.nilIface, Value.nilIface] := by kernel_rfl
@[go_sem] theorem tzero_218 : tzero Try.prog 218 = some [Value.nilIface, Value.nilIface, Value.nilIface] := by kernel_rfl
@[go_sem] theorem tzero_221 : tzero Try.prog 221 = some [Value.nilIface, Value.nilIface] := by kernel_rfl
@[go_sem] theorem tzero_224 : tzero Try.prog 224 = some [Value.nilIface, Value.nilIface, Value.nilIface] := by kernel_rfl
@[go_sem] theorem tzero_227 : tzero Try.prog 227 = some [Value.nilIface, Value.nilIface, Value.nilIface] := by kernel_rfl
@[go_sem] theorem tzero_230 : tzero Try.prog 230 = some [Value.nilIface, Value.nilIface, Value.nilIface, Value.nilIface] := by kernel_rfl
@[go_sem] theorem tzero_233 : tzero Try.prog 233 = some [Value.nilIface, Value.nilIface] := by kernel_rfl
@[go_sem] theorem tzero_236 : tzero Try.prog 236 = some [Value.nilIface, Value.nilIface, Value.nilIface] := by kernel_rfl
@[go_sem] theorem tzero_239 : tzero Try.prog 239 = some [Value.nilIface, Value.nilIface, Value.nilIface] := by kernel_rfl
@[go_sem] theorem tzero_242 : tzero Try.prog 242 = some [Value.nilIface, Value.nilIface, Value.nilIface, Value.nilIface] := by kernel_rfl
@[go_sem] theorem tzero_245 : tzero Try.prog 245 = some [Value.nilIface, Value.nilIface, Value.nilIface] := by kernel_rfl
@[go_sem] theorem tzero_248 : tzero Try.prog 248 = some [Value.nilIface, Value.nilIface, Value.nilIface, Value.nilIface] := by kernel_rfl
@[go_sem] theorem tzero_251 : tzero Try.prog 251 = some [Value.nilIface, Value.nilIface, Value.nilIface, Value.nilIface] := by kernel_rfl
@[go_sem] theorem tzero_254 : tzero Try.prog 254 = some [Value.nilIface, Value.nilIface, Value.nilIface, Value.nilIface, Value.nilIface] := by kernel_rfl
@[go_sem] theorem tzero_257 : tzero Try.prog 257 = some [Value.nilIface] := by kernel_rfl
@[go_sem] theorem tzero_38 : tzero Try.prog 38 = some [Value.int IntKind.i64 0, Value.int IntKind.i64 0, Value.int IntKind.i64 0, Value.slice none 0 0] := by kernel_rfl
@[go_sem] theorem tzero_43 : tzero Try.prog 43 = some [Value.int IntKind.i8 0, Value.int IntKind.i64 0, Value.int IntKind.i64 0, Value.slice none 0 0] := by kernel_rfl
end Go.Proofs.Ytlffbjchcknmfaa
