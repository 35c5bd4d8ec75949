/- By program (gen.py): this seat's regions and tables, as the engine wants them. -/
import Derived.Test.YtpdklpeojjkkaaaE9
import Derived.Test.YtpdklpeojjkkaaaProg
import Derived.KernelRfl
namespace Go.Proofs.Ytpdklpeojjkkaaa
open Go
set_option linter.unusedVariables false
set_option maxRecDepth 100000
abbrev k3 : List Nat := [0, 2, 3, 4, 5, 6, 7, 8, 9, 10, 11, 12, 13, 14, 15, 16, 17, 19, 24, 48, 58, 78, 84, 146]
def s3_0 : List Slim := [⟨some 2, (.assign (.const (.bool false))), none⟩]
def s3_1 : List Slim := [⟨some 18, (.move (.tmp (0 : Nat))), none⟩,
  ⟨some 19, (.call { callee := (.value (.func 12)), args := #[(.tmp (18 : Nat))], argTypes := #[22] }), none⟩]
def s3_2 : List Slim := [⟨some 20, (.call { callee := (.value (.func 13)), args := #[], argTypes := #[] }), none⟩,
  ⟨some 2, (.assign (.tmp (20 : Nat))), none⟩]
def s3_3 : List Slim := [⟨some 3, (.assign (.const (.slice none 0 0))), none⟩]
def s3_4 : List Slim := [⟨some 4, (.assign (.const (.slice none 0 0))), none⟩]
def s3_5 : List Slim := [⟨some 5, (.assign (.const (.slice none 0 0))), none⟩]
def s3_6 : List Slim := [⟨some 6, (.assign (.const (.slice none 0 0))), none⟩]
def s3_7 : List Slim := [⟨some 7, (.assign (.const (.int .i64 0))), none⟩]
def s3_8 : List Slim := [⟨some 21, (.move (.tmp (7 : Nat))), none⟩,
  ⟨some 22, (.move (.tmp (0 : Nat))), none⟩,
  ⟨some 23, (.call { callee := (.builtin .len), args := #[(.tmp (22 : Nat))], argTypes := #[22] }), none⟩,
  ⟨some 24, (.binOp .lss 3 (.tmp (21 : Nat)) (.tmp (23 : Nat)) 3), none⟩]
def s3_10_1 : List Slim := [⟨some 27, (.move (.tmp (33 : Nat))), none⟩,
  ⟨some 34, (.extract (.tmp (27 : Nat)) 0), none⟩,
  ⟨some 35, (.extract (.tmp (27 : Nat)) 1), none⟩,
  ⟨some 9, (.alloc 31), none⟩,
  ⟨some 8, (.assign (.tmp (34 : Nat))), none⟩,
  ⟨none, (.store 31 (.tmp (9 : Nat)) (.tmp (35 : Nat))), none⟩]
def s3_10 : List Slim := (⟨some 28, (.move (.tmp (0 : Nat))), none⟩ : Slim) ::
  (⟨some 29, (.move (.tmp (7 : Nat))), none⟩ : Slim) ::
  (⟨some 30, (.indexAddr 22 (.tmp (28 : Nat)) (.tmp (29 : Nat))), none⟩ : Slim) ::
  (⟨some 31, (.load 34 (.tmp (30 : Nat))), none⟩ : Slim) ::
  (⟨some 32, (.move (.tmp (7 : Nat))), none⟩ : Slim) ::
  (⟨some 33, (.call { callee := (.value (.func 14)), args := #[(.tmp (31 : Nat)), (.tmp (32 : Nat))], argTypes := #[34, 3] }), none⟩ : Slim) ::
  s3_10_1
def s3_11 : List Slim := [⟨some 37, (.move (.tmp (7 : Nat))), none⟩,
  ⟨some 38, (.convert 3 5 (.tmp (37 : Nat))), none⟩,
  ⟨some 39, (.buildSlice 40 1 #[(0, (.tmp (38 : Nat)))]), none⟩,
  ⟨some 40, (.call { callee := (.value (.func 15)), args := #[(.tmp (39 : Nat)), (.const (.int .u8 0))], argTypes := #[40, 5] }), none⟩,
  ⟨some 36, (.move (.tmp (40 : Nat))), none⟩,
  ⟨some 41, (.extract (.tmp (36 : Nat)) 0), none⟩,
  ⟨some 42, (.extract (.tmp (36 : Nat)) 1), none⟩,
  ⟨some 10, (.assign (.tmp (41 : Nat))), none⟩,
  ⟨some 11, (.assign (.tmp (42 : Nat))), none⟩]
def s3_12 : List Slim := [⟨some 43, (.move (.tmp (8 : Nat))), none⟩,
  ⟨some 44, (.binOp .eql 29 (.tmp (43 : Nat)) (.const (.pointer none)) 29), none⟩,
  ⟨some 45, (.move (.tmp (44 : Nat))), none⟩,
  ⟨some 46, (.move (.tmp (11 : Nat))), some (45, false)⟩,
  ⟨some 47, (.binOp .neq 37 (.tmp (46 : Nat)) (.const (.int .i64 0)) 37), some (45, false)⟩,
  ⟨some 48, (.pick (.tmp (45 : Nat)) (.const (.bool true)) (.tmp (47 : Nat))), none⟩]
def s3_13 : List Slim := [⟨some 2, (.assign (.const (.bool false))), none⟩]
def s3_14 : List Slim := [⟨some 49, (.move (.tmp (8 : Nat))), none⟩,
  ⟨some 50, (.move (.tmp (10 : Nat))), none⟩,
  ⟨some 51, (.call { callee := (.value (.func 16)), args := #[(.tmp (49 : Nat)), (.tmp (50 : Nat))], argTypes := #[29, 36] }), none⟩,
  ⟨some 12, (.assign (.tmp (51 : Nat))), none⟩]
def s3_15_1 : List Slim := [⟨some 57, (.binOp .neq 41 (.tmp (56 : Nat)) (.const (.pointer none)) 41), some (54, false)⟩,
  ⟨some 58, (.pick (.tmp (54 : Nat)) (.const (.bool true)) (.tmp (57 : Nat))), none⟩]
def s3_15 : List Slim := (⟨some 52, (.move (.tmp (12 : Nat))), none⟩ : Slim) ::
  (⟨some 53, (.binOp .eql 41 (.tmp (52 : Nat)) (.const (.pointer none)) 41), none⟩ : Slim) ::
  (⟨some 54, (.move (.tmp (53 : Nat))), none⟩ : Slim) ::
  (⟨some 55, (.move (.tmp (8 : Nat))), some (54, false)⟩ : Slim) ::
  (⟨some 56, (.call { callee := (.value (.func 16)), args := #[(.tmp (55 : Nat)), (.const (.pointer none))], argTypes := #[29, 36] }), some (54, false)⟩ : Slim) ::
  s3_15_1
def s3_16 : List Slim := [⟨some 2, (.assign (.const (.bool false))), none⟩]
def s3_17 : List Slim := [⟨some 59, (.move (.tmp (3 : Nat))), none⟩,
  ⟨some 60, (.move (.tmp (8 : Nat))), none⟩,
  ⟨some 61, (.buildSlice 25 1 #[(0, (.tmp (60 : Nat)))]), none⟩,
  ⟨some 62, (.call { callee := (.builtin .append), args := #[(.tmp (59 : Nat)), (.tmp (61 : Nat))], argTypes := #[25, 25] }), none⟩,
  ⟨some 3, (.assign (.tmp (62 : Nat))), none⟩]
def s3_18 : List Slim := [⟨some 63, (.move (.tmp (4 : Nat))), none⟩,
  ⟨some 64, (.load 31 (.tmp (9 : Nat))), none⟩,
  ⟨some 65, (.buildSlice 26 1 #[(0, (.tmp (64 : Nat)))]), none⟩,
  ⟨some 66, (.call { callee := (.builtin .append), args := #[(.tmp (63 : Nat)), (.tmp (65 : Nat))], argTypes := #[26, 26] }), none⟩,
  ⟨some 4, (.assign (.tmp (66 : Nat))), none⟩]
def s3_19 : List Slim := [⟨some 67, (.move (.tmp (5 : Nat))), none⟩,
  ⟨some 68, (.move (.tmp (12 : Nat))), none⟩,
  ⟨some 69, (.buildSlice 27 1 #[(0, (.tmp (68 : Nat)))]), none⟩,
  ⟨some 70, (.call { callee := (.builtin .append), args := #[(.tmp (67 : Nat)), (.tmp (69 : Nat))], argTypes := #[27, 27] }), none⟩,
  ⟨some 5, (.assign (.tmp (70 : Nat))), none⟩]
def s3_20 : List Slim := [⟨some 71, (.move (.tmp (6 : Nat))), none⟩,
  ⟨some 72, (.move (.tmp (10 : Nat))), none⟩,
  ⟨some 73, (.buildSlice 28 1 #[(0, (.tmp (72 : Nat)))]), none⟩,
  ⟨some 74, (.call { callee := (.builtin .append), args := #[(.tmp (71 : Nat)), (.tmp (73 : Nat))], argTypes := #[28, 28] }), none⟩,
  ⟨some 6, (.assign (.tmp (74 : Nat))), none⟩]
def s3_9 : List Slim := [⟨some 25, (.move (.tmp (7 : Nat))), none⟩,
  ⟨some 26, (.binOp .add 3 (.tmp (25 : Nat)) (.const (.int .i64 1)) 3), none⟩,
  ⟨some 7, (.assign (.tmp (26 : Nat))), none⟩]
def s3_21 : List Slim := [⟨some 13, (.assign (.const (.int .i64 0))), none⟩]
def s3_22 : List Slim := [⟨some 75, (.move (.tmp (13 : Nat))), none⟩,
  ⟨some 76, (.move (.tmp (3 : Nat))), none⟩,
  ⟨some 77, (.call { callee := (.builtin .len), args := #[(.tmp (76 : Nat))], argTypes := #[25] }), none⟩,
  ⟨some 78, (.binOp .lss 3 (.tmp (75 : Nat)) (.tmp (77 : Nat)) 3), none⟩]
def s3_24 : List Slim := [⟨some 14, (.assign (.const (.int .i64 0))), none⟩]
def s3_25 : List Slim := [⟨some 81, (.move (.tmp (14 : Nat))), none⟩,
  ⟨some 82, (.move (.tmp (3 : Nat))), none⟩,
  ⟨some 83, (.call { callee := (.builtin .len), args := #[(.tmp (82 : Nat))], argTypes := #[25] }), none⟩,
  ⟨some 84, (.binOp .lss 3 (.tmp (81 : Nat)) (.tmp (83 : Nat)) 3), none⟩]
def s3_27 : List Slim := [⟨some 87, (.move (.tmp (4 : Nat))), none⟩,
  ⟨some 88, (.move (.tmp (13 : Nat))), none⟩,
  ⟨some 89, (.indexAddr 26 (.tmp (87 : Nat)) (.tmp (88 : Nat))), none⟩,
  ⟨some 90, (.load 31 (.tmp (89 : Nat))), none⟩,
  ⟨some 91, (.move (.tmp (4 : Nat))), none⟩,
  ⟨some 92, (.move (.tmp (14 : Nat))), none⟩,
  ⟨some 93, (.indexAddr 26 (.tmp (91 : Nat)) (.tmp (92 : Nat))), none⟩,
  ⟨some 94, (.load 31 (.tmp (93 : Nat))), none⟩,
  ⟨some 95, (.call { callee := (.value (.func 17)), args := #[(.tmp (90 : Nat)), (.tmp (94 : Nat))], argTypes := #[31, 31] }), none⟩,
  ⟨some 15, (.assign (.tmp (95 : Nat))), none⟩]
def p3_27 : Plan := (Plan.take 0 (Plan.take 1 (Plan.take 2 (Plan.take 3 (Plan.take 4 (Plan.take 5 (Plan.take 6 (Plan.take 7 (Plan.eff 8 false (Plan.take 9 Plan.nil))))))))))
def s3_28 : List Slim := [⟨some 97, (.move (.tmp (3 : Nat))), none⟩,
  ⟨some 98, (.move (.tmp (13 : Nat))), none⟩,
  ⟨some 99, (.indexAddr 25 (.tmp (97 : Nat)) (.tmp (98 : Nat))), none⟩,
  ⟨some 100, (.load 29 (.tmp (99 : Nat))), none⟩,
  ⟨some 101, (.move (.tmp (5 : Nat))), none⟩,
  ⟨some 102, (.move (.tmp (14 : Nat))), none⟩,
  ⟨some 103, (.indexAddr 27 (.tmp (101 : Nat)) (.tmp (102 : Nat))), none⟩,
  ⟨some 104, (.load 41 (.tmp (103 : Nat))), none⟩,
  ⟨some 105, (.call { callee := (.value (.func 18)), args := #[(.tmp (100 : Nat)), (.tmp (104 : Nat))], argTypes := #[29, 41] }), none⟩,
  ⟨some 96, (.move (.tmp (105 : Nat))), none⟩,
  ⟨some 106, (.extract (.tmp (96 : Nat)) 0), none⟩,
  ⟨some 107, (.extract (.tmp (96 : Nat)) 1), none⟩,
  ⟨some 16, (.assign (.tmp (106 : Nat))), none⟩,
  ⟨some 17, (.assign (.tmp (107 : Nat))), none⟩]
def p3_28 : Plan := (Plan.take 0 (Plan.take 1 (Plan.take 2 (Plan.take 3 (Plan.take 4 (Plan.take 5 (Plan.take 6 (Plan.take 7 (Plan.eff 8 false (Plan.take 9 (Plan.take 10 (Plan.take 11 (Plan.take 12 (Plan.take 13 Plan.nil))))))))))))))
def s3_29 : List Slim := [⟨some 108, (.move (.tmp (3 : Nat))), none⟩,
  ⟨some 109, (.move (.tmp (13 : Nat))), none⟩,
  ⟨some 110, (.indexAddr 25 (.tmp (108 : Nat)) (.tmp (109 : Nat))), none⟩,
  ⟨some 111, (.load 29 (.tmp (110 : Nat))), none⟩,
  ⟨some 112, (.move (.tmp (3 : Nat))), none⟩,
  ⟨some 113, (.move (.tmp (14 : Nat))), none⟩,
  ⟨some 114, (.indexAddr 25 (.tmp (112 : Nat)) (.tmp (113 : Nat))), none⟩,
  ⟨some 115, (.load 29 (.tmp (114 : Nat))), none⟩,
  ⟨some 116, (.call { callee := (.value (.func 19)), args := #[(.tmp (111 : Nat)), (.tmp (115 : Nat))], argTypes := #[29, 29] }), none⟩,
  ⟨some 117, (.move (.tmp (15 : Nat))), none⟩,
  ⟨some 118, (.binOp .neq 4 (.tmp (116 : Nat)) (.tmp (117 : Nat)) 4), none⟩,
  ⟨some 119, (.move (.tmp (118 : Nat))), none⟩,
  ⟨some 120, (.move (.tmp (15 : Nat))), some (119, false)⟩,
  ⟨some 121, (.move (.tmp (17 : Nat))), some (119, false)⟩,
  ⟨some 122, (.binOp .eql 37 (.tmp (121 : Nat)) (.const (.int .i64 0)) 37), some (119, false)⟩,
  ⟨some 123, (.binOp .neq 4 (.tmp (120 : Nat)) (.tmp (122 : Nat)) 4), some (119, false)⟩,
  ⟨some 124, (.pick (.tmp (119 : Nat)) (.const (.bool true)) (.tmp (123 : Nat))), none⟩,
  ⟨some 125, (.move (.tmp (124 : Nat))), none⟩,
  ⟨some 126, (.move (.tmp (15 : Nat))), some (125, false)⟩,
  ⟨some 127, (.move (.tmp (16 : Nat))), some (125, false)⟩,
  ⟨some 128, (.move (.tmp (6 : Nat))), some (125, false)⟩,
  ⟨some 129, (.move (.tmp (14 : Nat))), some (125, false)⟩,
  ⟨some 130, (.indexAddr 28 (.tmp (128 : Nat)) (.tmp (129 : Nat))), some (125, false)⟩,
  ⟨some 131, (.load 36 (.tmp (130 : Nat))), some (125, false)⟩,
  ⟨some 132, (.binOp .eql 36 (.tmp (127 : Nat)) (.tmp (131 : Nat)) 36), some (125, false)⟩,
  ⟨some 133, (.binOp .neq 4 (.tmp (126 : Nat)) (.tmp (132 : Nat)) 4), some (125, false)⟩,
  ⟨some 134, (.pick (.tmp (125 : Nat)) (.const (.bool true)) (.tmp (133 : Nat))), none⟩,
  ⟨some 135, (.move (.tmp (134 : Nat))), none⟩,
  ⟨some 136, (.move (.tmp (15 : Nat))), some (135, false)⟩,
  ⟨some 137, (.unOp .not 4 (.tmp (136 : Nat))), some (135, false)⟩,
  ⟨some 138, (.move (.tmp (137 : Nat))), some (135, false)⟩,
  ⟨some 139, (.move (.tmp (17 : Nat))), some (138, true)⟩,
  ⟨some 140, (.binOp .neq 37 (.tmp (139 : Nat)) (.const (.int .i64 160)) 37), some (138, true)⟩,
  ⟨some 141, (.move (.tmp (140 : Nat))), some (138, true)⟩,
  ⟨some 142, (.move (.tmp (16 : Nat))), some (141, false)⟩,
  ⟨some 143, (.binOp .neq 36 (.tmp (142 : Nat)) (.const (.pointer none)) 36), some (141, false)⟩,
  ⟨some 144, (.pick (.tmp (141 : Nat)) (.const (.bool true)) (.tmp (143 : Nat))), some (138, true)⟩,
  ⟨some 145, (.pick (.tmp (138 : Nat)) (.tmp (144 : Nat)) (.const (.bool false))), some (135, false)⟩,
  ⟨some 146, (.pick (.tmp (135 : Nat)) (.const (.bool true)) (.tmp (145 : Nat))), none⟩]
def p3_29_1 : Plan := (Plan.take 10 (Plan.take 11 (Plan.take 12 (Plan.take 13 (Plan.take 14 (Plan.take 15 (Plan.take 16 (Plan.take 17 (Plan.take 18 (Plan.take 19 (Plan.take 20 (Plan.take 21 (Plan.take 22 (Plan.eff 23 false (Plan.eff 24 false (Plan.take 25 (Plan.take 26 (Plan.take 27 (Plan.take 28 (Plan.take 29 (Plan.take 30 (Plan.take 31 (Plan.take 32 (Plan.take 33 (Plan.take 34 (Plan.take 35 (Plan.take 36 (Plan.take 37 (Plan.take 38 Plan.nil)))))))))))))))))))))))))))))
def p3_29 : Plan := (Plan.take 0 (Plan.take 1 (Plan.take 2 (Plan.take 3 (Plan.take 4 (Plan.take 5 (Plan.take 6 (Plan.take 7 (Plan.take 9 (Plan.eff 8 false p3_29_1))))))))))
def s3_30 : List Slim := [⟨some 2, (.assign (.const (.bool false))), none⟩]
def s3_26 : List Slim := [⟨some 85, (.move (.tmp (14 : Nat))), none⟩,
  ⟨some 86, (.binOp .add 3 (.tmp (85 : Nat)) (.const (.int .i64 1)) 3), none⟩,
  ⟨some 14, (.assign (.tmp (86 : Nat))), none⟩]
def s3_23 : List Slim := [⟨some 79, (.move (.tmp (13 : Nat))), none⟩,
  ⟨some 80, (.binOp .add 3 (.tmp (79 : Nat)) (.const (.int .i64 1)) 3), none⟩,
  ⟨some 13, (.assign (.tmp (80 : Nat))), none⟩]
def s3_31 : List Slim := [⟨some 147, (.call { callee := (.value (.func 13)), args := #[], argTypes := #[] }), none⟩,
  ⟨some 2, (.assign (.tmp (147 : Nat))), none⟩]
abbrev k4 : List Nat := [0, 1, 2, 3, 5, 6, 8, 9, 10, 11, 12, 16]
def s4_0 : List Slim := [⟨some 1, (.box 34 (.tmp (0 : Nat))), none⟩,
  ⟨some 2, (.assign (.const (.bool false))), none⟩]
def s4_1 : List Slim := [⟨some 13, (.fieldAddr 34 (.tmp (1 : Nat)) 1), none⟩,
  ⟨some 14, (.load 9 (.tmp (13 : Nat))), none⟩,
  ⟨some 15, (.call { callee := (.builtin .len), args := #[(.tmp (14 : Nat))], argTypes := #[9] }), none⟩,
  ⟨some 16, (.binOp .gtr 3 (.tmp (15 : Nat)) (.const (.int .i64 16384)) 3), none⟩]
def s4_2 : List Slim := [⟨some 17, (.call { callee := (.value (.func 13)), args := #[], argTypes := #[] }), none⟩,
  ⟨some 2, (.assign (.tmp (17 : Nat))), none⟩]
def s4_3_1 : List Slim := [⟨some 18, (.move (.tmp (20 : Nat))), none⟩,
  ⟨some 21, (.extract (.tmp (18 : Nat)) 0), none⟩,
  ⟨some 22, (.extract (.tmp (18 : Nat)) 1), none⟩,
  ⟨some 4, (.alloc 31), none⟩,
  ⟨some 3, (.assign (.tmp (21 : Nat))), none⟩,
  ⟨none, (.store 31 (.tmp (4 : Nat)) (.tmp (22 : Nat))), none⟩]
def s4_3 : List Slim := (⟨some 19, (.load 34 (.tmp (1 : Nat))), none⟩ : Slim) ::
  (⟨some 20, (.call { callee := (.value (.func 14)), args := #[(.tmp (19 : Nat)), (.const (.int .i64 0))], argTypes := #[34, 3] }), none⟩ : Slim) ::
  s4_3_1
def s4_4 : List Slim := [⟨some 5, (.assign (.const (.pointer none))), none⟩]
def s4_5 : List Slim := [⟨some 24, (.call { callee := (.value (.func 15)), args := #[(.const (.slice none 0 0)), (.const (.int .u8 0))], argTypes := #[40, 5] }), none⟩,
  ⟨some 23, (.move (.tmp (24 : Nat))), none⟩,
  ⟨some 25, (.extract (.tmp (23 : Nat)) 0), none⟩,
  ⟨some 26, (.extract (.tmp (23 : Nat)) 1), none⟩,
  ⟨some 6, (.assign (.tmp (25 : Nat))), none⟩,
  ⟨some 7, (.assign (.tmp (26 : Nat))), none⟩]
def s4_6 : List Slim := [⟨some 27, (.move (.tmp (5 : Nat))), none⟩,
  ⟨some 28, (.move (.tmp (6 : Nat))), none⟩,
  ⟨some 29, (.call { callee := (.value (.func 16)), args := #[(.tmp (27 : Nat)), (.tmp (28 : Nat))], argTypes := #[29, 36] }), none⟩,
  ⟨some 8, (.assign (.tmp (29 : Nat))), none⟩]
def s4_7_1 : List Slim := [⟨some 35, (.call { callee := (.value (.func 18)), args := #[(.tmp (31 : Nat)), (.tmp (34 : Nat))], argTypes := #[29, 41] }), none⟩,
  ⟨some 30, (.move (.tmp (35 : Nat))), none⟩,
  ⟨some 36, (.extract (.tmp (30 : Nat)) 0), none⟩,
  ⟨some 37, (.extract (.tmp (30 : Nat)) 1), none⟩,
  ⟨some 9, (.assign (.tmp (36 : Nat))), none⟩,
  ⟨some 10, (.assign (.tmp (37 : Nat))), none⟩]
def s4_7 : List Slim := (⟨some 31, (.move (.tmp (5 : Nat))), none⟩ : Slim) ::
  (⟨some 32, (.move (.tmp (3 : Nat))), none⟩ : Slim) ::
  (⟨some 33, (.move (.tmp (6 : Nat))), none⟩ : Slim) ::
  (⟨some 34, (.call { callee := (.value (.func 16)), args := #[(.tmp (32 : Nat)), (.tmp (33 : Nat))], argTypes := #[29, 36] }), none⟩ : Slim) ::
  s4_7_1
def s4_8 : List Slim := [⟨some 39, (.move (.tmp (3 : Nat))), none⟩,
  ⟨some 40, (.call { callee := (.value (.func 18)), args := #[(.tmp (39 : Nat)), (.const (.pointer none))], argTypes := #[29, 41] }), none⟩,
  ⟨some 38, (.move (.tmp (40 : Nat))), none⟩,
  ⟨some 41, (.extract (.tmp (38 : Nat)) 0), none⟩,
  ⟨some 42, (.extract (.tmp (38 : Nat)) 1), none⟩,
  ⟨some 11, (.assign (.tmp (41 : Nat))), none⟩,
  ⟨some 12, (.assign (.tmp (42 : Nat))), none⟩]
def s4_9_4 : List Slim := [⟨some 81, (.pick (.tmp (79 : Nat)) (.tmp (80 : Nat)) (.const (.bool false))), none⟩,
  ⟨some 2, (.assign (.tmp (81 : Nat))), none⟩]
def s4_9_3 : List Slim := (⟨some 77, (.unOp .not 4 (.tmp (76 : Nat))), some (73, true)⟩ : Slim) ::
  (⟨some 78, (.pick (.tmp (73 : Nat)) (.tmp (77 : Nat)) (.const (.bool false))), none⟩ : Slim) ::
  (⟨some 79, (.move (.tmp (78 : Nat))), none⟩ : Slim) ::
  (⟨some 80, (.call { callee := (.value (.func 13)), args := #[], argTypes := #[] }), some (79, true)⟩ : Slim) ::
  s4_9_4
def s4_9_2 : List Slim := (⟨some 71, (.unOp .not 4 (.tmp (70 : Nat))), some (67, true)⟩ : Slim) ::
  (⟨some 72, (.pick (.tmp (67 : Nat)) (.tmp (71 : Nat)) (.const (.bool false))), none⟩ : Slim) ::
  (⟨some 73, (.move (.tmp (72 : Nat))), none⟩ : Slim) ::
  (⟨some 74, (.move (.tmp (5 : Nat))), some (73, true)⟩ : Slim) ::
  (⟨some 75, (.move (.tmp (5 : Nat))), some (73, true)⟩ : Slim) ::
  (⟨some 76, (.call { callee := (.value (.func 19)), args := #[(.tmp (74 : Nat)), (.tmp (75 : Nat))], argTypes := #[29, 29] }), some (73, true)⟩ : Slim) ::
  s4_9_3
def s4_9_1 : List Slim := (⟨some 65, (.unOp .not 4 (.tmp (64 : Nat))), some (61, true)⟩ : Slim) ::
  (⟨some 66, (.pick (.tmp (61 : Nat)) (.tmp (65 : Nat)) (.const (.bool false))), none⟩ : Slim) ::
  (⟨some 67, (.move (.tmp (66 : Nat))), none⟩ : Slim) ::
  (⟨some 68, (.move (.tmp (3 : Nat))), some (67, true)⟩ : Slim) ::
  (⟨some 69, (.move (.tmp (5 : Nat))), some (67, true)⟩ : Slim) ::
  (⟨some 70, (.call { callee := (.value (.func 19)), args := #[(.tmp (68 : Nat)), (.tmp (69 : Nat))], argTypes := #[29, 29] }), some (67, true)⟩ : Slim) ::
  s4_9_2
def s4_9 : List Slim := (⟨some 43, (.move (.tmp (8 : Nat))), none⟩ : Slim) ::
  (⟨some 44, (.binOp .eql 41 (.tmp (43 : Nat)) (.const (.pointer none)) 41), none⟩ : Slim) ::
  (⟨some 45, (.move (.tmp (44 : Nat))), none⟩ : Slim) ::
  (⟨some 46, (.move (.tmp (9 : Nat))), some (45, true)⟩ : Slim) ::
  (⟨some 47, (.binOp .eql 36 (.tmp (46 : Nat)) (.const (.pointer none)) 36), some (45, true)⟩ : Slim) ::
  (⟨some 48, (.pick (.tmp (45 : Nat)) (.tmp (47 : Nat)) (.const (.bool false))), none⟩ : Slim) ::
  (⟨some 49, (.move (.tmp (48 : Nat))), none⟩ : Slim) ::
  (⟨some 50, (.move (.tmp (10 : Nat))), some (49, true)⟩ : Slim) ::
  (⟨some 51, (.binOp .eql 37 (.tmp (50 : Nat)) (.const (.int .i64 1)) 37), some (49, true)⟩ : Slim) ::
  (⟨some 52, (.pick (.tmp (49 : Nat)) (.tmp (51 : Nat)) (.const (.bool false))), none⟩ : Slim) ::
  (⟨some 53, (.move (.tmp (52 : Nat))), none⟩ : Slim) ::
  (⟨some 54, (.move (.tmp (11 : Nat))), some (53, true)⟩ : Slim) ::
  (⟨some 55, (.binOp .eql 36 (.tmp (54 : Nat)) (.const (.pointer none)) 36), some (53, true)⟩ : Slim) ::
  (⟨some 56, (.pick (.tmp (53 : Nat)) (.tmp (55 : Nat)) (.const (.bool false))), none⟩ : Slim) ::
  (⟨some 57, (.move (.tmp (56 : Nat))), none⟩ : Slim) ::
  (⟨some 58, (.move (.tmp (12 : Nat))), some (57, true)⟩ : Slim) ::
  (⟨some 59, (.binOp .eql 37 (.tmp (58 : Nat)) (.const (.int .i64 1)) 37), some (57, true)⟩ : Slim) ::
  (⟨some 60, (.pick (.tmp (57 : Nat)) (.tmp (59 : Nat)) (.const (.bool false))), none⟩ : Slim) ::
  (⟨some 61, (.move (.tmp (60 : Nat))), none⟩ : Slim) ::
  (⟨some 62, (.move (.tmp (5 : Nat))), some (61, true)⟩ : Slim) ::
  (⟨some 63, (.move (.tmp (3 : Nat))), some (61, true)⟩ : Slim) ::
  (⟨some 64, (.call { callee := (.value (.func 19)), args := #[(.tmp (62 : Nat)), (.tmp (63 : Nat))], argTypes := #[29, 29] }), some (61, true)⟩ : Slim) ::
  s4_9_1
abbrev k5 : List Nat := [0, 1, 2, 6, 7, 8, 9, 10, 11, 13, 14, 15, 16, 17, 18, 19, 20, 21, 22, 30, 59, 85]
def s5_0 : List Slim := [⟨some 6, (.assign (.const (.bool false))), none⟩]
def s5_1 : List Slim := [⟨some 23, (.move (.tmp (0 : Nat))), none⟩,
  ⟨some 24, (.call { callee := (.builtin .len), args := #[(.tmp (23 : Nat))], argTypes := #[9] }), none⟩,
  ⟨some 25, (.binOp .gtr 3 (.tmp (24 : Nat)) (.const (.int .i64 16384)) 3), none⟩,
  ⟨some 26, (.move (.tmp (25 : Nat))), none⟩,
  ⟨some 27, (.move (.tmp (1 : Nat))), some (26, false)⟩,
  ⟨some 28, (.call { callee := (.builtin .len), args := #[(.tmp (27 : Nat))], argTypes := #[9] }), some (26, false)⟩,
  ⟨some 29, (.binOp .gtr 3 (.tmp (28 : Nat)) (.const (.int .i64 16384)) 3), some (26, false)⟩,
  ⟨some 30, (.pick (.tmp (26 : Nat)) (.const (.bool true)) (.tmp (29 : Nat))), none⟩]
def s5_2 : List Slim := [⟨some 31, (.call { callee := (.value (.func 13)), args := #[], argTypes := #[] }), none⟩,
  ⟨some 6, (.assign (.tmp (31 : Nat))), none⟩]
def s5_3 : List Slim := [⟨some 32, (.move (.tmp (2 : Nat))), none⟩,
  ⟨some 33, (.binOp .rem 3 (.tmp (32 : Nat)) (.const (.int .i64 9)) 3), none⟩,
  ⟨some 34, (.binOp .add 3 (.tmp (33 : Nat)) (.const (.int .i64 9)) 3), none⟩,
  ⟨some 35, (.binOp .rem 3 (.tmp (34 : Nat)) (.const (.int .i64 9)) 3), none⟩,
  ⟨some 2, (.assign (.tmp (35 : Nat))), none⟩]
def s5_4 : List Slim := [⟨some 36, (.move (.tmp (0 : Nat))), none⟩,
  ⟨some 37, (.call { callee := (.value (.func 20)), args := #[(.tmp (36 : Nat))], argTypes := #[9] }), none⟩,
  ⟨some 7, (.assign (.tmp (37 : Nat))), none⟩]
def s5_5 : List Slim := [⟨some 38, (.move (.tmp (0 : Nat))), none⟩,
  ⟨some 39, (.call { callee := (.value (.func 21)), args := #[(.tmp (38 : Nat))], argTypes := #[9] }), none⟩,
  ⟨some 8, (.assign (.tmp (39 : Nat))), none⟩]
def s5_6 : List Slim := [⟨some 40, (.move (.tmp (1 : Nat))), none⟩,
  ⟨some 41, (.call { callee := (.value (.func 21)), args := #[(.tmp (40 : Nat))], argTypes := #[9] }), none⟩,
  ⟨some 9, (.assign (.tmp (41 : Nat))), none⟩]
def s5_7 : List Slim := [⟨some 42, (.move (.tmp (0 : Nat))), none⟩,
  ⟨some 43, (.call { callee := (.value (.func 22)), args := #[(.tmp (42 : Nat))], argTypes := #[9] }), none⟩,
  ⟨some 10, (.assign (.tmp (43 : Nat))), none⟩]
def s5_8 : List Slim := [⟨some 45, (.move (.tmp (0 : Nat))), none⟩,
  ⟨some 46, (.move (.tmp (0 : Nat))), none⟩,
  ⟨some 47, (.call { callee := (.builtin .len), args := #[(.tmp (46 : Nat))], argTypes := #[9] }), none⟩,
  ⟨some 48, (.call { callee := (.builtin .min), args := #[(.tmp (47 : Nat)), (.const (.int .i64 99))], argTypes := #[3, 3] }), none⟩,
  ⟨some 49, (.slice 9 (.tmp (45 : Nat)) none (some (.tmp (48 : Nat))) none), none⟩,
  ⟨some 50, (.convert 9 40 (.tmp (49 : Nat))), none⟩,
  ⟨some 51, (.call { callee := (.value (.func 15)), args := #[(.tmp (50 : Nat)), (.const (.int .u8 15))], argTypes := #[40, 5] }), none⟩,
  ⟨some 44, (.move (.tmp (51 : Nat))), none⟩,
  ⟨some 52, (.extract (.tmp (44 : Nat)) 0), none⟩,
  ⟨some 53, (.extract (.tmp (44 : Nat)) 1), none⟩,
  ⟨some 11, (.assign (.tmp (52 : Nat))), none⟩,
  ⟨some 12, (.assign (.tmp (53 : Nat))), none⟩]
def s5_9 : List Slim := [⟨some 54, (.move (.tmp (7 : Nat))), none⟩,
  ⟨some 55, (.move (.tmp (11 : Nat))), none⟩,
  ⟨some 56, (.call { callee := (.value (.func 16)), args := #[(.tmp (54 : Nat)), (.tmp (55 : Nat))], argTypes := #[29, 36] }), none⟩,
  ⟨some 13, (.assign (.tmp (56 : Nat))), none⟩]
def s5_10 : List Slim := [⟨some 14, (.assign (.const (.int .i64 0))), none⟩]
def s5_11 : List Slim := [⟨some 57, (.move (.tmp (14 : Nat))), none⟩,
  ⟨some 58, (.move (.tmp (2 : Nat))), none⟩,
  ⟨some 59, (.binOp .lss 3 (.tmp (57 : Nat)) (.tmp (58 : Nat)) 3), none⟩]
def s5_13 : List Slim := [⟨some 62, (.move (.tmp (0 : Nat))), none⟩,
  ⟨some 63, (.call { callee := (.value (.func 20)), args := #[(.tmp (62 : Nat))], argTypes := #[9] }), none⟩,
  ⟨some 15, (.assign (.tmp (63 : Nat))), none⟩]
def s5_14 : List Slim := [⟨some 65, (.move (.tmp (15 : Nat))), none⟩,
  ⟨some 66, (.move (.tmp (13 : Nat))), none⟩,
  ⟨some 67, (.call { callee := (.value (.func 18)), args := #[(.tmp (65 : Nat)), (.tmp (66 : Nat))], argTypes := #[29, 41] }), none⟩,
  ⟨some 64, (.move (.tmp (67 : Nat))), none⟩,
  ⟨some 68, (.extract (.tmp (64 : Nat)) 0), none⟩,
  ⟨some 69, (.extract (.tmp (64 : Nat)) 1), none⟩,
  ⟨some 16, (.assign (.tmp (68 : Nat))), none⟩,
  ⟨some 17, (.assign (.tmp (69 : Nat))), none⟩]
def s5_15_2 : List Slim := [⟨some 77, (.pick (.tmp (73 : Nat)) (.const (.bool true)) (.tmp (76 : Nat))), none⟩,
  ⟨some 78, (.move (.tmp (77 : Nat))), none⟩,
  ⟨some 79, (.move (.tmp (16 : Nat))), some (78, false)⟩,
  ⟨some 80, (.binOp .neq 36 (.tmp (79 : Nat)) (.const (.pointer none)) 36), some (78, false)⟩,
  ⟨some 81, (.pick (.tmp (78 : Nat)) (.const (.bool true)) (.tmp (80 : Nat))), none⟩,
  ⟨some 82, (.move (.tmp (81 : Nat))), none⟩,
  ⟨some 83, (.move (.tmp (17 : Nat))), some (82, false)⟩,
  ⟨some 84, (.binOp .neq 37 (.tmp (83 : Nat)) (.const (.int .i64 160)) 37), some (82, false)⟩,
  ⟨some 85, (.pick (.tmp (82 : Nat)) (.const (.bool true)) (.tmp (84 : Nat))), none⟩]
def s5_15_1 : List Slim := (⟨some 73, (.move (.tmp (72 : Nat))), none⟩ : Slim) ::
  (⟨some 74, (.move (.tmp (15 : Nat))), some (73, false)⟩ : Slim) ::
  (⟨some 75, (.move (.tmp (7 : Nat))), some (73, false)⟩ : Slim) ::
  (⟨some 76, (.call { callee := (.value (.func 19)), args := #[(.tmp (74 : Nat)), (.tmp (75 : Nat))], argTypes := #[29, 29] }), some (73, false)⟩ : Slim) ::
  s5_15_2
def s5_15 : List Slim := (⟨some 70, (.move (.tmp (7 : Nat))), none⟩ : Slim) ::
  (⟨some 71, (.move (.tmp (15 : Nat))), none⟩ : Slim) ::
  (⟨some 72, (.call { callee := (.value (.func 19)), args := #[(.tmp (70 : Nat)), (.tmp (71 : Nat))], argTypes := #[29, 29] }), none⟩ : Slim) ::
  s5_15_1
def s5_16 : List Slim := [⟨some 6, (.assign (.const (.bool false))), none⟩]
def s5_12 : List Slim := [⟨some 60, (.move (.tmp (14 : Nat))), none⟩,
  ⟨some 61, (.binOp .add 3 (.tmp (60 : Nat)) (.const (.int .i64 1)) 3), none⟩,
  ⟨some 14, (.assign (.tmp (61 : Nat))), none⟩]
def s5_17 : List Slim := [⟨some 87, (.move (.tmp (7 : Nat))), none⟩,
  ⟨some 88, (.move (.tmp (13 : Nat))), none⟩,
  ⟨some 89, (.call { callee := (.value (.func 18)), args := #[(.tmp (87 : Nat)), (.tmp (88 : Nat))], argTypes := #[29, 41] }), none⟩,
  ⟨some 86, (.move (.tmp (89 : Nat))), none⟩,
  ⟨some 90, (.extract (.tmp (86 : Nat)) 0), none⟩,
  ⟨some 91, (.extract (.tmp (86 : Nat)) 1), none⟩,
  ⟨some 18, (.assign (.tmp (90 : Nat))), none⟩,
  ⟨some 19, (.assign (.tmp (91 : Nat))), none⟩]
def s5_18_1 : List Slim := [⟨some 97, (.call { callee := (.value (.func 18)), args := #[(.tmp (93 : Nat)), (.tmp (96 : Nat))], argTypes := #[29, 41] }), none⟩,
  ⟨some 92, (.move (.tmp (97 : Nat))), none⟩,
  ⟨some 98, (.extract (.tmp (92 : Nat)) 0), none⟩,
  ⟨some 99, (.extract (.tmp (92 : Nat)) 1), none⟩,
  ⟨some 20, (.assign (.tmp (98 : Nat))), none⟩,
  ⟨some 21, (.assign (.tmp (99 : Nat))), none⟩]
def s5_18 : List Slim := (⟨some 93, (.move (.tmp (9 : Nat))), none⟩ : Slim) ::
  (⟨some 94, (.move (.tmp (8 : Nat))), none⟩ : Slim) ::
  (⟨some 95, (.move (.tmp (11 : Nat))), none⟩ : Slim) ::
  (⟨some 96, (.call { callee := (.value (.func 16)), args := #[(.tmp (94 : Nat)), (.tmp (95 : Nat))], argTypes := #[29, 36] }), none⟩ : Slim) ::
  s5_18_1
def s5_19_2 : List Slim := [⟨some 111, (.move (.tmp (0 : Nat))), some (107, true)⟩,
  ⟨some 112, (.move (.tmp (1 : Nat))), some (107, true)⟩,
  ⟨some 113, (.binOp .eql 9 (.tmp (111 : Nat)) (.tmp (112 : Nat)) 9), some (107, true)⟩,
  ⟨some 114, (.binOp .eql 4 (.tmp (110 : Nat)) (.tmp (113 : Nat)) 4), some (107, true)⟩,
  ⟨some 115, (.pick (.tmp (107 : Nat)) (.tmp (114 : Nat)) (.const (.bool false))), none⟩,
  ⟨some 116, (.move (.tmp (115 : Nat))), none⟩,
  ⟨some 117, (.move (.tmp (21 : Nat))), some (116, true)⟩,
  ⟨some 118, (.binOp .eql 37 (.tmp (117 : Nat)) (.const (.int .i64 0)) 37), some (116, true)⟩,
  ⟨some 119, (.move (.tmp (0 : Nat))), some (116, true)⟩,
  ⟨some 120, (.move (.tmp (1 : Nat))), some (116, true)⟩,
  ⟨some 121, (.binOp .eql 9 (.tmp (119 : Nat)) (.tmp (120 : Nat)) 9), some (116, true)⟩,
  ⟨some 122, (.binOp .eql 4 (.tmp (118 : Nat)) (.tmp (121 : Nat)) 4), some (116, true)⟩,
  ⟨some 123, (.pick (.tmp (116 : Nat)) (.tmp (122 : Nat)) (.const (.bool false))), none⟩,
  ⟨some 124, (.move (.tmp (123 : Nat))), none⟩,
  ⟨some 125, (.move (.tmp (0 : Nat))), some (124, true)⟩,
  ⟨some 126, (.move (.tmp (1 : Nat))), some (124, true)⟩,
  ⟨some 127, (.binOp .neq 9 (.tmp (125 : Nat)) (.tmp (126 : Nat)) 9), some (124, true)⟩,
  ⟨some 128, (.move (.tmp (127 : Nat))), some (124, true)⟩,
  ⟨some 129, (.move (.tmp (20 : Nat))), some (128, false)⟩,
  ⟨some 130, (.move (.tmp (11 : Nat))), some (128, false)⟩,
  ⟨some 131, (.binOp .eql 36 (.tmp (129 : Nat)) (.tmp (130 : Nat)) 36), some (128, false)⟩,
  ⟨some 132, (.pick (.tmp (128 : Nat)) (.const (.bool true)) (.tmp (131 : Nat))), some (124, true)⟩,
  ⟨some 133, (.pick (.tmp (124 : Nat)) (.tmp (132 : Nat)) (.const (.bool false))), none⟩,
  ⟨some 22, (.assign (.tmp (133 : Nat))), none⟩]
def s5_19_1 : List Slim := (⟨some 103, (.move (.tmp (0 : Nat))), none⟩ : Slim) ::
  (⟨some 104, (.move (.tmp (1 : Nat))), none⟩ : Slim) ::
  (⟨some 105, (.binOp .eql 9 (.tmp (103 : Nat)) (.tmp (104 : Nat)) 9), none⟩ : Slim) ::
  (⟨some 106, (.binOp .eql 4 (.tmp (102 : Nat)) (.tmp (105 : Nat)) 4), none⟩ : Slim) ::
  (⟨some 107, (.move (.tmp (106 : Nat))), none⟩ : Slim) ::
  (⟨some 108, (.move (.tmp (9 : Nat))), some (107, true)⟩ : Slim) ::
  (⟨some 109, (.move (.tmp (8 : Nat))), some (107, true)⟩ : Slim) ::
  (⟨some 110, (.call { callee := (.value (.func 19)), args := #[(.tmp (108 : Nat)), (.tmp (109 : Nat))], argTypes := #[29, 29] }), some (107, true)⟩ : Slim) ::
  s5_19_2
def s5_19 : List Slim := (⟨some 100, (.move (.tmp (8 : Nat))), none⟩ : Slim) ::
  (⟨some 101, (.move (.tmp (9 : Nat))), none⟩ : Slim) ::
  (⟨some 102, (.call { callee := (.value (.func 19)), args := #[(.tmp (100 : Nat)), (.tmp (101 : Nat))], argTypes := #[29, 29] }), none⟩ : Slim) ::
  s5_19_1
def s5_20_7 : List Slim := [⟨some 177, (.pick (.tmp (175 : Nat)) (.tmp (176 : Nat)) (.const (.bool false))), none⟩,
  ⟨some 6, (.assign (.tmp (177 : Nat))), none⟩]
def s5_20_6 : List Slim := (⟨some 173, (.unOp .not 4 (.tmp (172 : Nat))), some (169, true)⟩ : Slim) ::
  (⟨some 174, (.pick (.tmp (169 : Nat)) (.tmp (173 : Nat)) (.const (.bool false))), none⟩ : Slim) ::
  (⟨some 175, (.move (.tmp (174 : Nat))), none⟩ : Slim) ::
  (⟨some 176, (.call { callee := (.value (.func 13)), args := #[], argTypes := #[] }), some (175, true)⟩ : Slim) ::
  s5_20_7
def s5_20_5 : List Slim := (⟨some 167, (.unOp .not 4 (.tmp (166 : Nat))), some (163, true)⟩ : Slim) ::
  (⟨some 168, (.pick (.tmp (163 : Nat)) (.tmp (167 : Nat)) (.const (.bool false))), none⟩ : Slim) ::
  (⟨some 169, (.move (.tmp (168 : Nat))), none⟩ : Slim) ::
  (⟨some 170, (.move (.tmp (8 : Nat))), some (169, true)⟩ : Slim) ::
  (⟨some 171, (.move (.tmp (7 : Nat))), some (169, true)⟩ : Slim) ::
  (⟨some 172, (.call { callee := (.value (.func 19)), args := #[(.tmp (170 : Nat)), (.tmp (171 : Nat))], argTypes := #[29, 29] }), some (169, true)⟩ : Slim) ::
  s5_20_6
def s5_20_4 : List Slim := (⟨some 161, (.unOp .not 4 (.tmp (160 : Nat))), some (157, true)⟩ : Slim) ::
  (⟨some 162, (.pick (.tmp (157 : Nat)) (.tmp (161 : Nat)) (.const (.bool false))), none⟩ : Slim) ::
  (⟨some 163, (.move (.tmp (162 : Nat))), none⟩ : Slim) ::
  (⟨some 164, (.move (.tmp (7 : Nat))), some (163, true)⟩ : Slim) ::
  (⟨some 165, (.move (.tmp (8 : Nat))), some (163, true)⟩ : Slim) ::
  (⟨some 166, (.call { callee := (.value (.func 19)), args := #[(.tmp (164 : Nat)), (.tmp (165 : Nat))], argTypes := #[29, 29] }), some (163, true)⟩ : Slim) ::
  s5_20_5
def s5_20_3 : List Slim := (⟨some 155, (.unOp .not 4 (.tmp (154 : Nat))), some (150, true)⟩ : Slim) ::
  (⟨some 156, (.pick (.tmp (150 : Nat)) (.tmp (155 : Nat)) (.const (.bool false))), none⟩ : Slim) ::
  (⟨some 157, (.move (.tmp (156 : Nat))), none⟩ : Slim) ::
  (⟨some 158, (.move (.tmp (10 : Nat))), some (157, true)⟩ : Slim) ::
  (⟨some 159, (.move (.tmp (8 : Nat))), some (157, true)⟩ : Slim) ::
  (⟨some 160, (.call { callee := (.value (.func 19)), args := #[(.tmp (158 : Nat)), (.tmp (159 : Nat))], argTypes := #[29, 29] }), some (157, true)⟩ : Slim) ::
  s5_20_4
def s5_20_2 : List Slim := (⟨some 154, (.call { callee := (.value (.func 19)), args := #[(.tmp (151 : Nat)), (.tmp (153 : Nat))], argTypes := #[29, 29] }), some (150, true)⟩ : Slim) ::
  s5_20_3
def s5_20_1 : List Slim := (⟨some 148, (.unOp .not 4 (.tmp (147 : Nat))), some (144, true)⟩ : Slim) ::
  (⟨some 149, (.pick (.tmp (144 : Nat)) (.tmp (148 : Nat)) (.const (.bool false))), none⟩ : Slim) ::
  (⟨some 150, (.move (.tmp (149 : Nat))), none⟩ : Slim) ::
  (⟨some 151, (.move (.tmp (10 : Nat))), some (150, true)⟩ : Slim) ::
  (⟨some 152, (.move (.tmp (0 : Nat))), some (150, true)⟩ : Slim) ::
  (⟨some 153, (.call { callee := (.value (.func 22)), args := #[(.tmp (152 : Nat))], argTypes := #[9] }), some (150, true)⟩ : Slim) ::
  s5_20_2
def s5_20 : List Slim := (⟨some 134, (.move (.tmp (18 : Nat))), none⟩ : Slim) ::
  (⟨some 135, (.move (.tmp (11 : Nat))), none⟩ : Slim) ::
  (⟨some 136, (.binOp .eql 36 (.tmp (134 : Nat)) (.tmp (135 : Nat)) 36), none⟩ : Slim) ::
  (⟨some 137, (.move (.tmp (136 : Nat))), none⟩ : Slim) ::
  (⟨some 138, (.move (.tmp (19 : Nat))), some (137, true)⟩ : Slim) ::
  (⟨some 139, (.binOp .eql 37 (.tmp (138 : Nat)) (.const (.int .i64 0)) 37), some (137, true)⟩ : Slim) ::
  (⟨some 140, (.pick (.tmp (137 : Nat)) (.tmp (139 : Nat)) (.const (.bool false))), none⟩ : Slim) ::
  (⟨some 141, (.move (.tmp (140 : Nat))), none⟩ : Slim) ::
  (⟨some 142, (.move (.tmp (22 : Nat))), some (141, true)⟩ : Slim) ::
  (⟨some 143, (.pick (.tmp (141 : Nat)) (.tmp (142 : Nat)) (.const (.bool false))), none⟩ : Slim) ::
  (⟨some 144, (.move (.tmp (143 : Nat))), none⟩ : Slim) ::
  (⟨some 145, (.move (.tmp (10 : Nat))), some (144, true)⟩ : Slim) ::
  (⟨some 146, (.move (.tmp (10 : Nat))), some (144, true)⟩ : Slim) ::
  (⟨some 147, (.call { callee := (.value (.func 19)), args := #[(.tmp (145 : Nat)), (.tmp (146 : Nat))], argTypes := #[29, 29] }), some (144, true)⟩ : Slim) ::
  s5_20_1
abbrev k6 : List Nat := [0, 1, 2, 24, 50]
def s6_0 : List Slim := [⟨some 0, (.assign (.const (.bool false))), none⟩]
def s6_1 : List Slim := [⟨some 3, (.makeSlice 40 (.const (.int .i64 4194305)) (.const (.int .i64 4194305))), none⟩,
  ⟨some 4, (.call { callee := (.value (.func 23)), args := #[(.tmp (3 : Nat))], argTypes := #[40] }), none⟩,
  ⟨some 1, (.assign (.tmp (4 : Nat))), none⟩]
def s6_2_4 : List Slim := [⟨some 23, (.binOp .neq 37 (.tmp (22 : Nat)) (.const (.int .i64 0)) 37), some (19, false)⟩,
  ⟨some 24, (.pick (.tmp (19 : Nat)) (.const (.bool true)) (.tmp (23 : Nat))), none⟩]
def s6_2_3 : List Slim := (⟨some 17, (.binOp .neq 37 (.tmp (16 : Nat)) (.const (.int .i64 3)) 37), some (13, false)⟩ : Slim) ::
  (⟨some 18, (.pick (.tmp (13 : Nat)) (.const (.bool true)) (.tmp (17 : Nat))), none⟩ : Slim) ::
  (⟨some 19, (.move (.tmp (18 : Nat))), none⟩ : Slim) ::
  (⟨some 20, (.move (.tmp (1 : Nat))), some (19, false)⟩ : Slim) ::
  (⟨some 21, (.buildSlice 40 1 #[(0, (.const (.int .u8 1)))]), some (19, false)⟩ : Slim) ::
  (⟨some 22, (.call { callee := (.value (.func 26)), args := #[(.tmp (20 : Nat)), (.const (.int .i64 5)), (.tmp (21 : Nat))], argTypes := #[49, 2, 40] }), some (19, false)⟩ : Slim) ::
  s6_2_4
def s6_2_2 : List Slim := (⟨some 11, (.binOp .neq 2 (.tmp (10 : Nat)) (.const (.int .i64 4194304)) 2), some (8, false)⟩ : Slim) ::
  (⟨some 12, (.pick (.tmp (8 : Nat)) (.const (.bool true)) (.tmp (11 : Nat))), none⟩ : Slim) ::
  (⟨some 13, (.move (.tmp (12 : Nat))), none⟩ : Slim) ::
  (⟨some 14, (.move (.tmp (1 : Nat))), some (13, false)⟩ : Slim) ::
  (⟨some 15, (.buildSlice 40 1 #[(0, (.const (.int .u8 1)))]), some (13, false)⟩ : Slim) ::
  (⟨some 16, (.call { callee := (.value (.func 26)), args := #[(.tmp (14 : Nat)), (.const (.int .i64 4194304)), (.tmp (15 : Nat))], argTypes := #[49, 2, 40] }), some (13, false)⟩ : Slim) ::
  s6_2_3
def s6_2_1 : List Slim := (⟨some 7, (.binOp .neq 2 (.tmp (6 : Nat)) (.const (.int .i64 4194304)) 2), none⟩ : Slim) ::
  (⟨some 8, (.move (.tmp (7 : Nat))), none⟩ : Slim) ::
  (⟨some 9, (.move (.tmp (1 : Nat))), some (8, false)⟩ : Slim) ::
  (⟨some 10, (.call { callee := (.value (.func 25)), args := #[(.tmp (9 : Nat))], argTypes := #[49] }), some (8, false)⟩ : Slim) ::
  s6_2_2
def s6_2 : List Slim := (⟨some 5, (.move (.tmp (1 : Nat))), none⟩ : Slim) ::
  (⟨some 6, (.call { callee := (.value (.func 24)), args := #[(.tmp (5 : Nat))], argTypes := #[49] }), none⟩ : Slim) ::
  s6_2_1
def s6_3 : List Slim := [⟨some 0, (.assign (.const (.bool false))), none⟩]
def s6_4_5 : List Slim := [⟨some 49, (.binOp .neq 37 (.tmp (48 : Nat)) (.const (.int .i64 3)) 37), some (45, false)⟩,
  ⟨some 50, (.pick (.tmp (45 : Nat)) (.const (.bool true)) (.tmp (49 : Nat))), none⟩]
def s6_4_4 : List Slim := (⟨some 43, (.binOp .neq 37 (.tmp (42 : Nat)) (.const (.int .i64 3)) 37), some (39, false)⟩ : Slim) ::
  (⟨some 44, (.pick (.tmp (39 : Nat)) (.const (.bool true)) (.tmp (43 : Nat))), none⟩ : Slim) ::
  (⟨some 45, (.move (.tmp (44 : Nat))), none⟩ : Slim) ::
  (⟨some 46, (.move (.tmp (1 : Nat))), some (45, false)⟩ : Slim) ::
  (⟨some 47, (.buildSlice 40 1 #[(0, (.const (.int .u8 1)))]), some (45, false)⟩ : Slim) ::
  (⟨some 48, (.call { callee := (.value (.func 26)), args := #[(.tmp (46 : Nat)), (.const (.int .i64 7)), (.tmp (47 : Nat))], argTypes := #[49, 2, 40] }), some (45, false)⟩ : Slim) ::
  s6_4_5
def s6_4_3 : List Slim := (⟨some 37, (.binOp .neq 2 (.tmp (36 : Nat)) (.const (.int .i64 1073741824)) 2), some (34, false)⟩ : Slim) ::
  (⟨some 38, (.pick (.tmp (34 : Nat)) (.const (.bool true)) (.tmp (37 : Nat))), none⟩ : Slim) ::
  (⟨some 39, (.move (.tmp (38 : Nat))), none⟩ : Slim) ::
  (⟨some 40, (.move (.tmp (1 : Nat))), some (39, false)⟩ : Slim) ::
  (⟨some 41, (.buildSlice 40 1 #[(0, (.const (.int .u8 1)))]), some (39, false)⟩ : Slim) ::
  (⟨some 42, (.call { callee := (.value (.func 26)), args := #[(.tmp (40 : Nat)), (.const (.int .i64 1073741824)), (.tmp (41 : Nat))], argTypes := #[49, 2, 40] }), some (39, false)⟩ : Slim) ::
  s6_4_4
def s6_4_2 : List Slim := (⟨some 32, (.binOp .neq 37 (.tmp (31 : Nat)) (.const (.int .i64 0)) 37), some (28, false)⟩ : Slim) ::
  (⟨some 33, (.pick (.tmp (28 : Nat)) (.const (.bool true)) (.tmp (32 : Nat))), none⟩ : Slim) ::
  (⟨some 34, (.move (.tmp (33 : Nat))), none⟩ : Slim) ::
  (⟨some 35, (.move (.tmp (1 : Nat))), some (34, false)⟩ : Slim) ::
  (⟨some 36, (.call { callee := (.value (.func 24)), args := #[(.tmp (35 : Nat))], argTypes := #[49] }), some (34, false)⟩ : Slim) ::
  s6_4_3
def s6_4_1 : List Slim := (⟨some 27, (.binOp .neq 37 (.tmp (26 : Nat)) (.const (.int .i64 0)) 37), none⟩ : Slim) ::
  (⟨some 28, (.move (.tmp (27 : Nat))), none⟩ : Slim) ::
  (⟨some 29, (.move (.tmp (1 : Nat))), some (28, false)⟩ : Slim) ::
  (⟨some 30, (.buildSlice 40 1 #[(0, (.const (.int .u8 9)))]), some (28, false)⟩ : Slim) ::
  (⟨some 31, (.call { callee := (.value (.func 26)), args := #[(.tmp (29 : Nat)), (.const (.int .i64 1073741823)), (.tmp (30 : Nat))], argTypes := #[49, 2, 40] }), some (28, false)⟩ : Slim) ::
  s6_4_2
def s6_4 : List Slim := (⟨some 25, (.move (.tmp (1 : Nat))), none⟩ : Slim) ::
  (⟨some 26, (.call { callee := (.value (.func 27)), args := #[(.tmp (25 : Nat)), (.const (.int .i64 7)), (.const (.int .i64 1))], argTypes := #[49, 2, 2] }), none⟩ : Slim) ::
  s6_4_1
def s6_5 : List Slim := [⟨some 0, (.assign (.const (.bool false))), none⟩]
def s6_6 : List Slim := [⟨some 51, (.move (.tmp (1 : Nat))), none⟩,
  ⟨some 52, (.call { callee := (.value (.func 28)), args := #[(.tmp (51 : Nat)), (.const (.int .i64 1073741822)), (.const (.int .i64 9))], argTypes := #[49, 2, 3] }), none⟩,
  ⟨some 2, (.assign (.tmp (52 : Nat))), none⟩]
def s6_7_4 : List Slim := [⟨some 86, (.pick (.tmp (84 : Nat)) (.tmp (85 : Nat)) (.const (.bool false))), none⟩,
  ⟨some 0, (.assign (.tmp (86 : Nat))), none⟩]
def s6_7_3 : List Slim := (⟨some 82, (.binOp .eql 37 (.tmp (81 : Nat)) (.const (.int .i64 3)) 37), some (79, true)⟩ : Slim) ::
  (⟨some 83, (.pick (.tmp (79 : Nat)) (.tmp (82 : Nat)) (.const (.bool false))), none⟩ : Slim) ::
  (⟨some 84, (.move (.tmp (83 : Nat))), none⟩ : Slim) ::
  (⟨some 85, (.call { callee := (.value (.func 30)), args := #[], argTypes := #[] }), some (84, true)⟩ : Slim) ::
  s6_7_4
def s6_7_2 : List Slim := (⟨some 76, (.call { callee := (.builtin .len), args := #[(.tmp (75 : Nat))], argTypes := #[40] }), some (73, true)⟩ : Slim) ::
  (⟨some 77, (.binOp .eql 3 (.tmp (76 : Nat)) (.const (.int .i64 65536)) 3), some (73, true)⟩ : Slim) ::
  (⟨some 78, (.pick (.tmp (73 : Nat)) (.tmp (77 : Nat)) (.const (.bool false))), none⟩ : Slim) ::
  (⟨some 79, (.move (.tmp (78 : Nat))), none⟩ : Slim) ::
  (⟨some 80, (.move (.tmp (1 : Nat))), some (79, true)⟩ : Slim) ::
  (⟨some 81, (.call { callee := (.value (.func 29)), args := #[(.tmp (80 : Nat)), (.const (.int .i64 1073741825))], argTypes := #[49, 2] }), some (79, true)⟩ : Slim) ::
  s6_7_3
def s6_7_1 : List Slim := (⟨some 71, (.binOp .eql 2 (.tmp (70 : Nat)) (.const (.int .i64 4194304)) 2), some (68, true)⟩ : Slim) ::
  (⟨some 72, (.pick (.tmp (68 : Nat)) (.tmp (71 : Nat)) (.const (.bool false))), none⟩ : Slim) ::
  (⟨some 73, (.move (.tmp (72 : Nat))), none⟩ : Slim) ::
  (⟨some 74, (.move (.tmp (1 : Nat))), some (73, true)⟩ : Slim) ::
  (⟨some 75, (.call { callee := (.value (.func 28)), args := #[(.tmp (74 : Nat)), (.const (.int .i64 0)), (.const (.int .i64 65537))], argTypes := #[49, 2, 3] }), some (73, true)⟩ : Slim) ::
  s6_7_2
def s6_7 : List Slim := (⟨some 53, (.move (.tmp (2 : Nat))), none⟩ : Slim) ::
  (⟨some 54, (.call { callee := (.builtin .len), args := #[(.tmp (53 : Nat))], argTypes := #[40] }), none⟩ : Slim) ::
  (⟨some 55, (.binOp .eql 3 (.tmp (54 : Nat)) (.const (.int .i64 2)) 3), none⟩ : Slim) ::
  (⟨some 56, (.move (.tmp (55 : Nat))), none⟩ : Slim) ::
  (⟨some 57, (.move (.tmp (2 : Nat))), some (56, true)⟩ : Slim) ::
  (⟨some 58, (.indexAddr 40 (.tmp (57 : Nat)) (.const (.int .i64 0))), some (56, true)⟩ : Slim) ::
  (⟨some 59, (.load 5 (.tmp (58 : Nat))), some (56, true)⟩ : Slim) ::
  (⟨some 60, (.binOp .eql 5 (.tmp (59 : Nat)) (.const (.int .u8 0)) 5), some (56, true)⟩ : Slim) ::
  (⟨some 61, (.pick (.tmp (56 : Nat)) (.tmp (60 : Nat)) (.const (.bool false))), none⟩ : Slim) ::
  (⟨some 62, (.move (.tmp (61 : Nat))), none⟩ : Slim) ::
  (⟨some 63, (.move (.tmp (2 : Nat))), some (62, true)⟩ : Slim) ::
  (⟨some 64, (.indexAddr 40 (.tmp (63 : Nat)) (.const (.int .i64 1))), some (62, true)⟩ : Slim) ::
  (⟨some 65, (.load 5 (.tmp (64 : Nat))), some (62, true)⟩ : Slim) ::
  (⟨some 66, (.binOp .eql 5 (.tmp (65 : Nat)) (.const (.int .u8 9)) 5), some (62, true)⟩ : Slim) ::
  (⟨some 67, (.pick (.tmp (62 : Nat)) (.tmp (66 : Nat)) (.const (.bool false))), none⟩ : Slim) ::
  (⟨some 68, (.move (.tmp (67 : Nat))), none⟩ : Slim) ::
  (⟨some 69, (.move (.tmp (1 : Nat))), some (68, true)⟩ : Slim) ::
  (⟨some 70, (.call { callee := (.value (.func 25)), args := #[(.tmp (69 : Nat))], argTypes := #[49] }), some (68, true)⟩ : Slim) ::
  s6_7_1
abbrev k7 : List Nat := [0, 1, 4, 5, 6, 7, 8, 9, 10, 11, 12, 13, 14, 15, 18, 28, 46, 53, 60, 81, 95, 102]
def s7_0 : List Slim := [⟨some 4, (.assign (.const (.bool false))), none⟩]
def s7_1 : List Slim := [⟨some 16, (.move (.tmp (0 : Nat))), none⟩,
  ⟨some 17, (.move (.tmp (1 : Nat))), none⟩,
  ⟨some 18, (.call { callee := (.value (.func 31)), args := #[(.tmp (16 : Nat)), (.tmp (17 : Nat))], argTypes := #[40, 56] }), none⟩]
def s7_2 : List Slim := [⟨some 19, (.call { callee := (.value (.func 30)), args := #[], argTypes := #[] }), none⟩,
  ⟨some 4, (.assign (.tmp (19 : Nat))), none⟩]
def s7_3 : List Slim := [⟨some 20, (.move (.tmp (0 : Nat))), none⟩,
  ⟨some 21, (.move (.tmp (1 : Nat))), none⟩,
  ⟨some 22, (.call { callee := (.value (.func 32)), args := #[(.tmp (20 : Nat)), (.tmp (21 : Nat))], argTypes := #[40, 56] }), none⟩,
  ⟨some 5, (.assign (.tmp (22 : Nat))), none⟩]
def s7_4 : List Slim := [⟨some 6, (.assign (.const (.int .i64 0))), none⟩]
def s7_5 : List Slim := [⟨some 7, (.assign (.const (.int .i64 (-1)))), none⟩]
def s7_6 : List Slim := [⟨some 8, (.assign (.const (.int .i64 0))), none⟩]
def s7_7 : List Slim := [⟨some 9, (.assign (.const (.int .i64 0))), none⟩]
def s7_8 : List Slim := [⟨some 23, (.move (.tmp (9 : Nat))), none⟩,
  ⟨some 24, (.move (.tmp (1 : Nat))), none⟩,
  ⟨some 25, (.call { callee := (.builtin .len), args := #[(.tmp (24 : Nat))], argTypes := #[56] }), none⟩,
  ⟨some 26, (.binOp .mul 3 (.const (.int .i64 2)) (.tmp (25 : Nat)) 3), none⟩,
  ⟨some 27, (.binOp .add 3 (.tmp (26 : Nat)) (.const (.int .i64 2)) 3), none⟩,
  ⟨some 28, (.binOp .leq 3 (.tmp (23 : Nat)) (.tmp (27 : Nat)) 3), none⟩]
def s7_10 : List Slim := [⟨some 32, (.move (.tmp (5 : Nat))), none⟩,
  ⟨some 33, (.move (.tmp (6 : Nat))), none⟩,
  ⟨some 34, (.call { callee := (.value (.func 33)), args := #[(.tmp (32 : Nat)), (.tmp (33 : Nat))], argTypes := #[49, 2] }), none⟩,
  ⟨some 31, (.move (.tmp (34 : Nat))), none⟩,
  ⟨some 35, (.extract (.tmp (31 : Nat)) 0), none⟩,
  ⟨some 36, (.extract (.tmp (31 : Nat)) 1), none⟩,
  ⟨some 10, (.assign (.tmp (35 : Nat))), none⟩,
  ⟨some 11, (.assign (.tmp (36 : Nat))), none⟩]
def s7_11_2 : List Slim := [⟨some 45, (.binOp .eql 2 (.tmp (42 : Nat)) (.tmp (44 : Nat)) 2), some (41, true)⟩,
  ⟨some 46, (.pick (.tmp (41 : Nat)) (.tmp (45 : Nat)) (.const (.bool false))), none⟩]
def s7_11_1 : List Slim := (⟨some 40, (.binOp .eql 2 (.tmp (37 : Nat)) (.tmp (39 : Nat)) 2), none⟩ : Slim) ::
  (⟨some 41, (.move (.tmp (40 : Nat))), none⟩ : Slim) ::
  (⟨some 42, (.move (.tmp (11 : Nat))), some (41, true)⟩ : Slim) ::
  (⟨some 43, (.move (.tmp (5 : Nat))), some (41, true)⟩ : Slim) ::
  (⟨some 44, (.call { callee := (.value (.func 24)), args := #[(.tmp (43 : Nat))], argTypes := #[49] }), some (41, true)⟩ : Slim) ::
  s7_11_2
def s7_11 : List Slim := (⟨some 37, (.move (.tmp (10 : Nat))), none⟩ : Slim) ::
  (⟨some 38, (.move (.tmp (5 : Nat))), none⟩ : Slim) ::
  (⟨some 39, (.call { callee := (.value (.func 24)), args := #[(.tmp (38 : Nat))], argTypes := #[49] }), none⟩ : Slim) ::
  s7_11_1
def s7_12 : List Slim := [⟨some 47, (.move (.tmp (5 : Nat))), none⟩,
  ⟨some 48, (.move (.tmp (6 : Nat))), none⟩,
  ⟨some 49, (.call { callee := (.value (.func 28)), args := #[(.tmp (47 : Nat)), (.tmp (48 : Nat)), (.const (.int .i64 40))], argTypes := #[49, 2, 3] }), none⟩,
  ⟨some 12, (.assign (.tmp (49 : Nat))), none⟩]
def s7_13 : List Slim := [⟨some 13, (.assign (.const (.int .i64 0))), none⟩]
def s7_14 : List Slim := [⟨some 50, (.move (.tmp (13 : Nat))), none⟩,
  ⟨some 51, (.move (.tmp (12 : Nat))), none⟩,
  ⟨some 52, (.call { callee := (.builtin .len), args := #[(.tmp (51 : Nat))], argTypes := #[40] }), none⟩,
  ⟨some 53, (.binOp .lss 3 (.tmp (50 : Nat)) (.tmp (52 : Nat)) 3), none⟩]
def s7_16 : List Slim := [⟨some 56, (.move (.tmp (12 : Nat))), none⟩,
  ⟨some 57, (.move (.tmp (13 : Nat))), none⟩,
  ⟨some 58, (.indexAddr 40 (.tmp (56 : Nat)) (.tmp (57 : Nat))), none⟩,
  ⟨some 59, (.load 5 (.tmp (58 : Nat))), none⟩,
  ⟨some 60, (.binOp .neq 5 (.tmp (59 : Nat)) (.const (.int .u8 0)) 5), none⟩]
def s7_17 : List Slim := [⟨some 4, (.assign (.const (.bool false))), none⟩]
def s7_15 : List Slim := [⟨some 54, (.move (.tmp (13 : Nat))), none⟩,
  ⟨some 55, (.binOp .add 3 (.tmp (54 : Nat)) (.const (.int .i64 1)) 3), none⟩,
  ⟨some 13, (.assign (.tmp (55 : Nat))), none⟩]
def s7_18_2 : List Slim := [⟨some 67, (.pick (.tmp (65 : Nat)) (.tmp (66 : Nat)) (.const (.bool false))), none⟩,
  ⟨some 4, (.assign (.tmp (67 : Nat))), none⟩]
def s7_18_1 : List Slim := (⟨some 64, (.binOp .eql 2 (.tmp (61 : Nat)) (.tmp (63 : Nat)) 2), none⟩ : Slim) ::
  (⟨some 65, (.move (.tmp (64 : Nat))), none⟩ : Slim) ::
  (⟨some 66, (.call { callee := (.value (.func 30)), args := #[], argTypes := #[] }), some (65, true)⟩ : Slim) ::
  s7_18_2
def s7_18 : List Slim := (⟨some 61, (.move (.tmp (8 : Nat))), none⟩ : Slim) ::
  (⟨some 62, (.move (.tmp (5 : Nat))), none⟩ : Slim) ::
  (⟨some 63, (.call { callee := (.value (.func 25)), args := #[(.tmp (62 : Nat))], argTypes := #[49] }), none⟩ : Slim) ::
  s7_18_1
def s7_19_1 : List Slim := [⟨some 80, (.binOp .gtr 2 (.tmp (77 : Nat)) (.tmp (79 : Nat)) 2), some (76, false)⟩,
  ⟨some 81, (.pick (.tmp (76 : Nat)) (.const (.bool true)) (.tmp (80 : Nat))), none⟩]
def s7_19 : List Slim := (⟨some 68, (.move (.tmp (10 : Nat))), none⟩ : Slim) ::
  (⟨some 69, (.move (.tmp (11 : Nat))), none⟩ : Slim) ::
  (⟨some 70, (.binOp .geq 2 (.tmp (68 : Nat)) (.tmp (69 : Nat)) 2), none⟩ : Slim) ::
  (⟨some 71, (.move (.tmp (70 : Nat))), none⟩ : Slim) ::
  (⟨some 72, (.move (.tmp (10 : Nat))), some (71, false)⟩ : Slim) ::
  (⟨some 73, (.move (.tmp (7 : Nat))), some (71, false)⟩ : Slim) ::
  (⟨some 74, (.binOp .leq 2 (.tmp (72 : Nat)) (.tmp (73 : Nat)) 2), some (71, false)⟩ : Slim) ::
  (⟨some 75, (.pick (.tmp (71 : Nat)) (.const (.bool true)) (.tmp (74 : Nat))), none⟩ : Slim) ::
  (⟨some 76, (.move (.tmp (75 : Nat))), none⟩ : Slim) ::
  (⟨some 77, (.move (.tmp (11 : Nat))), some (76, false)⟩ : Slim) ::
  (⟨some 78, (.move (.tmp (5 : Nat))), some (76, false)⟩ : Slim) ::
  (⟨some 79, (.call { callee := (.value (.func 24)), args := #[(.tmp (78 : Nat))], argTypes := #[49] }), some (76, false)⟩ : Slim) ::
  s7_19_1
def s7_20 : List Slim := [⟨some 4, (.assign (.const (.bool false))), none⟩]
def s7_21 : List Slim := [⟨some 82, (.move (.tmp (5 : Nat))), none⟩,
  ⟨some 83, (.move (.tmp (6 : Nat))), none⟩,
  ⟨some 84, (.move (.tmp (10 : Nat))), none⟩,
  ⟨some 85, (.binOp .sub 2 (.tmp (84 : Nat)) (.const (.int .i64 40)) 2), none⟩,
  ⟨some 86, (.call { callee := (.builtin .max), args := #[(.tmp (83 : Nat)), (.tmp (85 : Nat))], argTypes := #[2, 2] }), none⟩,
  ⟨some 87, (.move (.tmp (10 : Nat))), none⟩,
  ⟨some 88, (.move (.tmp (6 : Nat))), none⟩,
  ⟨some 89, (.binOp .sub 2 (.tmp (87 : Nat)) (.tmp (88 : Nat)) 2), none⟩,
  ⟨some 90, (.call { callee := (.builtin .min), args := #[(.const (.int .i64 40)), (.tmp (89 : Nat))], argTypes := #[2, 2] }), none⟩,
  ⟨some 91, (.call { callee := (.value (.func 28)), args := #[(.tmp (82 : Nat)), (.tmp (86 : Nat)), (.tmp (90 : Nat))], argTypes := #[49, 2, 3] }), none⟩,
  ⟨some 14, (.assign (.tmp (91 : Nat))), none⟩]
def s7_22 : List Slim := [⟨some 15, (.assign (.const (.int .i64 0))), none⟩]
def s7_23 : List Slim := [⟨some 92, (.move (.tmp (15 : Nat))), none⟩,
  ⟨some 93, (.move (.tmp (14 : Nat))), none⟩,
  ⟨some 94, (.call { callee := (.builtin .len), args := #[(.tmp (93 : Nat))], argTypes := #[40] }), none⟩,
  ⟨some 95, (.binOp .lss 3 (.tmp (92 : Nat)) (.tmp (94 : Nat)) 3), none⟩]
def s7_25 : List Slim := [⟨some 98, (.move (.tmp (14 : Nat))), none⟩,
  ⟨some 99, (.move (.tmp (15 : Nat))), none⟩,
  ⟨some 100, (.indexAddr 40 (.tmp (98 : Nat)) (.tmp (99 : Nat))), none⟩,
  ⟨some 101, (.load 5 (.tmp (100 : Nat))), none⟩,
  ⟨some 102, (.binOp .neq 5 (.tmp (101 : Nat)) (.const (.int .u8 0)) 5), none⟩]
def s7_26 : List Slim := [⟨some 4, (.assign (.const (.bool false))), none⟩]
def s7_24 : List Slim := [⟨some 96, (.move (.tmp (15 : Nat))), none⟩,
  ⟨some 97, (.binOp .add 3 (.tmp (96 : Nat)) (.const (.int .i64 1)) 3), none⟩,
  ⟨some 15, (.assign (.tmp (97 : Nat))), none⟩]
def s7_27 : List Slim := [⟨some 103, (.move (.tmp (8 : Nat))), none⟩,
  ⟨some 104, (.move (.tmp (11 : Nat))), none⟩,
  ⟨some 105, (.binOp .add 2 (.tmp (103 : Nat)) (.tmp (104 : Nat)) 2), none⟩,
  ⟨some 106, (.move (.tmp (10 : Nat))), none⟩,
  ⟨some 107, (.binOp .sub 2 (.tmp (105 : Nat)) (.tmp (106 : Nat)) 2), none⟩,
  ⟨some 8, (.assign (.tmp (107 : Nat))), none⟩]
def s7_28 : List Slim := [⟨some 108, (.move (.tmp (11 : Nat))), none⟩,
  ⟨some 7, (.assign (.tmp (108 : Nat))), none⟩]
def s7_29 : List Slim := [⟨some 109, (.move (.tmp (11 : Nat))), none⟩,
  ⟨some 6, (.assign (.tmp (109 : Nat))), none⟩]
def s7_9 : List Slim := [⟨some 29, (.move (.tmp (9 : Nat))), none⟩,
  ⟨some 30, (.binOp .add 3 (.tmp (29 : Nat)) (.const (.int .i64 1)) 3), none⟩,
  ⟨some 9, (.assign (.tmp (30 : Nat))), none⟩]
def s7_30 : List Slim := [⟨some 4, (.assign (.const (.bool false))), none⟩]
abbrev k8 : List Nat := [0, 1, 2, 3, 6, 7, 8, 9, 10, 11, 12, 13, 14, 15, 16, 17, 18, 19, 20, 21, 36, 63, 88, 92, 98, 124, 135, 167]
def s8_0 : List Slim := [⟨some 6, (.box 62 (.tmp (2 : Nat))), none⟩,
  ⟨some 7, (.box 62 (.tmp (3 : Nat))), none⟩,
  ⟨some 8, (.assign (.const (.bool false))), none⟩]
def s8_1_1 : List Slim := [⟨some 25, (.move (.tmp (24 : Nat))), none⟩,
  ⟨some 26, (.fieldAddr 62 (.tmp (6 : Nat)) 3), some (25, false)⟩,
  ⟨some 27, (.load 40 (.tmp (26 : Nat))), some (25, false)⟩,
  ⟨some 28, (.call { callee := (.builtin .len), args := #[(.tmp (27 : Nat))], argTypes := #[40] }), some (25, false)⟩,
  ⟨some 29, (.binOp .gtr 3 (.tmp (28 : Nat)) (.const (.int .i64 1000)) 3), some (25, false)⟩,
  ⟨some 30, (.pick (.tmp (25 : Nat)) (.const (.bool true)) (.tmp (29 : Nat))), none⟩,
  ⟨some 31, (.move (.tmp (30 : Nat))), none⟩,
  ⟨some 32, (.fieldAddr 62 (.tmp (7 : Nat)) 3), some (31, false)⟩,
  ⟨some 33, (.load 40 (.tmp (32 : Nat))), some (31, false)⟩,
  ⟨some 34, (.call { callee := (.builtin .len), args := #[(.tmp (33 : Nat))], argTypes := #[40] }), some (31, false)⟩,
  ⟨some 35, (.binOp .gtr 3 (.tmp (34 : Nat)) (.const (.int .i64 1000)) 3), some (31, false)⟩,
  ⟨some 36, (.pick (.tmp (31 : Nat)) (.const (.bool true)) (.tmp (35 : Nat))), none⟩]
def s8_1 : List Slim := (⟨some 22, (.move (.tmp (0 : Nat))), none⟩ : Slim) ::
  (⟨some 23, (.move (.tmp (1 : Nat))), none⟩ : Slim) ::
  (⟨some 24, (.call { callee := (.value (.func 31)), args := #[(.tmp (22 : Nat)), (.tmp (23 : Nat))], argTypes := #[40, 56] }), none⟩ : Slim) ::
  s8_1_1
def s8_2 : List Slim := [⟨some 37, (.call { callee := (.value (.func 30)), args := #[], argTypes := #[] }), none⟩,
  ⟨some 8, (.assign (.tmp (37 : Nat))), none⟩]
def s8_3 : List Slim := [⟨some 38, (.move (.tmp (0 : Nat))), none⟩,
  ⟨some 39, (.move (.tmp (1 : Nat))), none⟩,
  ⟨some 40, (.call { callee := (.value (.func 32)), args := #[(.tmp (38 : Nat)), (.tmp (39 : Nat))], argTypes := #[40, 56] }), none⟩,
  ⟨some 9, (.assign (.tmp (40 : Nat))), none⟩]
def s8_4 : List Slim := [⟨some 41, (.move (.tmp (0 : Nat))), none⟩,
  ⟨some 42, (.move (.tmp (1 : Nat))), none⟩,
  ⟨some 43, (.call { callee := (.value (.func 32)), args := #[(.tmp (41 : Nat)), (.tmp (42 : Nat))], argTypes := #[40, 56] }), none⟩,
  ⟨some 10, (.assign (.tmp (43 : Nat))), none⟩]
def s8_5 : List Slim := [⟨some 44, (.move (.tmp (9 : Nat))), none⟩,
  ⟨some 45, (.call { callee := (.value (.func 28)), args := #[(.tmp (44 : Nat)), (.const (.int .i64 0)), (.const (.int .i64 2000))], argTypes := #[49, 2, 3] }), none⟩,
  ⟨some 11, (.assign (.tmp (45 : Nat))), none⟩]
def s8_6 : List Slim := [⟨some 46, (.move (.tmp (9 : Nat))), none⟩,
  ⟨some 47, (.call { callee := (.value (.func 24)), args := #[(.tmp (46 : Nat))], argTypes := #[49] }), none⟩,
  ⟨some 12, (.assign (.tmp (47 : Nat))), none⟩]
def s8_7 : List Slim := [⟨some 48, (.move (.tmp (9 : Nat))), none⟩,
  ⟨some 49, (.fieldAddr 62 (.tmp (6 : Nat)) 1), none⟩,
  ⟨some 50, (.load 2 (.tmp (49 : Nat))), none⟩,
  ⟨some 51, (.fieldAddr 62 (.tmp (6 : Nat)) 3), none⟩,
  ⟨some 52, (.load 40 (.tmp (51 : Nat))), none⟩,
  ⟨some 53, (.call { callee := (.value (.func 26)), args := #[(.tmp (48 : Nat)), (.tmp (50 : Nat)), (.tmp (52 : Nat))], argTypes := #[49, 2, 40] }), none⟩,
  ⟨some 13, (.assign (.tmp (53 : Nat))), none⟩]
def s8_8 : List Slim := [⟨some 54, (.move (.tmp (9 : Nat))), none⟩,
  ⟨some 55, (.call { callee := (.value (.func 28)), args := #[(.tmp (54 : Nat)), (.const (.int .i64 0)), (.const (.int .i64 2000))], argTypes := #[49, 2, 3] }), none⟩,
  ⟨some 14, (.assign (.tmp (55 : Nat))), none⟩]
def s8_9 : List Slim := [⟨some 56, (.move (.tmp (13 : Nat))), none⟩,
  ⟨some 57, (.binOp .eql 37 (.tmp (56 : Nat)) (.const (.int .i64 0)) 37), none⟩,
  ⟨some 58, (.move (.tmp (57 : Nat))), none⟩,
  ⟨some 59, (.fieldAddr 62 (.tmp (6 : Nat)) 3), some (58, true)⟩,
  ⟨some 60, (.load 40 (.tmp (59 : Nat))), some (58, true)⟩,
  ⟨some 61, (.call { callee := (.builtin .len), args := #[(.tmp (60 : Nat))], argTypes := #[40] }), some (58, true)⟩,
  ⟨some 62, (.binOp .gtr 3 (.tmp (61 : Nat)) (.const (.int .i64 0)) 3), some (58, true)⟩,
  ⟨some 63, (.pick (.tmp (58 : Nat)) (.tmp (62 : Nat)) (.const (.bool false))), none⟩]
def s8_10 : List Slim := [⟨some 64, (.move (.tmp (9 : Nat))), none⟩,
  ⟨some 65, (.fieldAddr 62 (.tmp (6 : Nat)) 1), none⟩,
  ⟨some 66, (.load 2 (.tmp (65 : Nat))), none⟩,
  ⟨some 67, (.fieldAddr 62 (.tmp (6 : Nat)) 3), none⟩,
  ⟨some 68, (.load 40 (.tmp (67 : Nat))), none⟩,
  ⟨some 69, (.call { callee := (.builtin .len), args := #[(.tmp (68 : Nat))], argTypes := #[40] }), none⟩,
  ⟨some 70, (.call { callee := (.value (.func 28)), args := #[(.tmp (64 : Nat)), (.tmp (66 : Nat)), (.tmp (69 : Nat))], argTypes := #[49, 2, 3] }), none⟩,
  ⟨some 71, (.convert 40 9 (.tmp (70 : Nat))), none⟩,
  ⟨some 72, (.fieldAddr 62 (.tmp (6 : Nat)) 3), none⟩,
  ⟨some 73, (.load 40 (.tmp (72 : Nat))), none⟩,
  ⟨some 74, (.convert 40 9 (.tmp (73 : Nat))), none⟩,
  ⟨some 75, (.binOp .neq 9 (.tmp (71 : Nat)) (.tmp (74 : Nat)) 9), none⟩,
  ⟨some 76, (.move (.tmp (75 : Nat))), none⟩,
  ⟨some 77, (.move (.tmp (9 : Nat))), some (76, false)⟩,
  ⟨some 78, (.call { callee := (.value (.func 24)), args := #[(.tmp (77 : Nat))], argTypes := #[49] }), some (76, false)⟩,
  ⟨some 79, (.move (.tmp (12 : Nat))), some (76, false)⟩,
  ⟨some 80, (.fieldAddr 62 (.tmp (6 : Nat)) 1), some (76, false)⟩,
  ⟨some 81, (.load 2 (.tmp (80 : Nat))), some (76, false)⟩,
  ⟨some 82, (.fieldAddr 62 (.tmp (6 : Nat)) 3), some (76, false)⟩,
  ⟨some 83, (.load 40 (.tmp (82 : Nat))), some (76, false)⟩,
  ⟨some 84, (.call { callee := (.builtin .len), args := #[(.tmp (83 : Nat))], argTypes := #[40] }), some (76, false)⟩,
  ⟨some 85, (.binOp .add 2 (.tmp (81 : Nat)) (.tmp (84 : Nat)) 2), some (76, false)⟩,
  ⟨some 86, (.call { callee := (.builtin .max), args := #[(.tmp (79 : Nat)), (.tmp (85 : Nat))], argTypes := #[2, 2] }), some (76, false)⟩,
  ⟨some 87, (.binOp .neq 2 (.tmp (78 : Nat)) (.tmp (86 : Nat)) 2), some (76, false)⟩,
  ⟨some 88, (.pick (.tmp (76 : Nat)) (.const (.bool true)) (.tmp (87 : Nat))), none⟩]
def p8_10_j1 : Plan := (Plan.eff 19 false (Plan.take 20 (Plan.take 21 (Plan.take 22 (Plan.take 23 (Plan.take 24 Plan.nil))))))
def p8_10_j2 : Plan := (Plan.eff 17 false (Plan.take 21 (Plan.take 22 (Plan.take 23 (Plan.take 24 Plan.nil)))))
def p8_10_1 : Plan := (Plan.both (Plan.eff 17 false p8_10_j1) (Plan.eff 19 false (Plan.take 20 p8_10_j2)))
def p8_10_2 : Plan := (Plan.take 23 (Plan.take 24 Plan.nil))
def p8_10_j3 : Plan := (Plan.take 21 (Plan.take 22 (Plan.eff 14 false p8_10_2)))
def p8_10_j4 : Plan := (Plan.take 11 (Plan.take 12 (Plan.take 13 (Plan.take 15 (Plan.take 16 (Plan.take 18 (Plan.both (Plan.eff 14 false p8_10_1) (Plan.both (Plan.eff 17 false (Plan.both (Plan.eff 14 false p8_10_j1) (Plan.eff 19 false (Plan.take 20 p8_10_j3)))) (Plan.eff 19 false (Plan.take 20 (Plan.both (Plan.eff 14 false p8_10_j2) (Plan.eff 17 false p8_10_j3))))))))))))
def p8_10_j5 : Plan := (Plan.eff 7 true p8_10_j4)
def p8_10_3 : Plan := (Plan.both (Plan.eff 7 true (Plan.eff 10 true p8_10_j4)) (Plan.eff 10 true p8_10_j5))
def p8_10 : Plan := (Plan.take 0 (Plan.take 1 (Plan.take 2 (Plan.take 3 (Plan.take 4 (Plan.take 5 (Plan.take 8 (Plan.take 9 (Plan.both (Plan.eff 6 true p8_10_3) (Plan.eff 10 true (Plan.eff 6 true p8_10_j5)))))))))))
def qt8_10 : List Nat := [0, 1, 2, 3, 4, 5, 8, 9, 11, 12, 13, 15, 16, 18, 20, 21, 22, 23, 24]
def fl8_10 : List Nat := [6, 7, 10]
def h8_10_0 : PlanH := (.eff 19 false (.take 20 (.take 21 (.take 22 (.take 23 (.take 24 .nil))))))
def h8_10_1 : PlanH := (.eff 17 false (.take 21 (.take 22 (.take 23 (.take 24 .nil)))))
def h8_10_2 : PlanH := (.take 21 (.take 22 (.eff 14 false (.take 23 (.take 24 .nil)))))
def h8_10_3 : PlanH := (.take 11 (.take 12 (.take 13 (.take 15 (.take 16 (.take 18 (.both (.eff 14 false (.both (.eff 17 false (.hole 0)) (.eff 19 false (.take 20 (.hole 1))))) (.both (.eff 17 false (.both (.eff 14 false (.hole 0)) (.eff 19 false (.take 20 (.hole 2))))) (.eff 19 false (.take 20 (.both (.eff 14 false (.hole 1)) (.eff 17 false (.hole 2)))))))))))))
def h8_10_4 : PlanH := (.eff 7 true (.hole 3))
def h8_10_5 : PlanH := (.take 0 (.take 1 (.take 2 (.take 3 (.take 4 (.take 5 (.take 8 (.take 9 (.both (.eff 6 true (.both (.eff 7 true (.eff 10 true (.hole 3))) (.eff 10 true (.hole 4)))) (.eff 10 true (.eff 6 true (.hole 4))))))))))))
def nd8_10 : List Node := [([true, true, true, true, true, true, true, true, true, true, true, true, true, true, true, true, true, true, true, false, false, false, false, false, false], h8_10_0, p8_10_j1), ([true, true, true, true, true, true, true, true, true, true, true, true, true, true, true, true, true, false, true, true, true, false, false, false, false], h8_10_1, p8_10_j2), ([true, true, true, true, true, true, true, true, true, true, true, true, true, true, false, true, true, true, true, true, true, false, false, false, false], h8_10_2, p8_10_j3), ([true, true, true, true, true, true, true, true, true, true, true, false, false, false, false, false, false, false, false, false, false, false, false, false, false], h8_10_3, p8_10_j4), ([true, true, true, true, true, true, true, false, true, true, true, false, false, false, false, false, false, false, false, false, false, false, false, false, false], h8_10_4, p8_10_j5), ([false, false, false, false, false, false, false, false, false, false, false, false, false, false, false, false, false, false, false, false, false, false, false, false, false], h8_10_5, p8_10)]
theorem gs8_10_0 : getS s8_10 0 = some ⟨some 64, (.move (.tmp (9 : Nat))), none⟩ := (rfl)
theorem gs8_10_1 : getS s8_10 1 = some ⟨some 65, (.fieldAddr 62 (.tmp (6 : Nat)) 1), none⟩ := (rfl)
theorem gs8_10_2 : getS s8_10 2 = some ⟨some 66, (.load 2 (.tmp (65 : Nat))), none⟩ := (rfl)
theorem gs8_10_3 : getS s8_10 3 = some ⟨some 67, (.fieldAddr 62 (.tmp (6 : Nat)) 3), none⟩ := (rfl)
theorem gs8_10_4 : getS s8_10 4 = some ⟨some 68, (.load 40 (.tmp (67 : Nat))), none⟩ := (rfl)
theorem gs8_10_5 : getS s8_10 5 = some ⟨some 69, (.call { callee := (.builtin .len), args := #[(.tmp (68 : Nat))], argTypes := #[40] }), none⟩ := (rfl)
theorem gs8_10_6 : getS s8_10 6 = some ⟨some 70, (.call { callee := (.value (.func 28)), args := #[(.tmp (64 : Nat)), (.tmp (66 : Nat)), (.tmp (69 : Nat))], argTypes := #[49, 2, 3] }), none⟩ := (rfl)
theorem gs8_10_7 : getS s8_10 7 = some ⟨some 71, (.convert 40 9 (.tmp (70 : Nat))), none⟩ := (rfl)
theorem gs8_10_8 : getS s8_10 8 = some ⟨some 72, (.fieldAddr 62 (.tmp (6 : Nat)) 3), none⟩ := (rfl)
theorem gs8_10_9 : getS s8_10 9 = some ⟨some 73, (.load 40 (.tmp (72 : Nat))), none⟩ := (rfl)
theorem gs8_10_10 : getS s8_10 10 = some ⟨some 74, (.convert 40 9 (.tmp (73 : Nat))), none⟩ := (rfl)
theorem gs8_10_11 : getS s8_10 11 = some ⟨some 75, (.binOp .neq 9 (.tmp (71 : Nat)) (.tmp (74 : Nat)) 9), none⟩ := (rfl)
theorem gs8_10_12 : getS s8_10 12 = some ⟨some 76, (.move (.tmp (75 : Nat))), none⟩ := (rfl)
theorem gs8_10_13 : getS s8_10 13 = some ⟨some 77, (.move (.tmp (9 : Nat))), some (76, false)⟩ := (rfl)
theorem gs8_10_14 : getS s8_10 14 = some ⟨some 78, (.call { callee := (.value (.func 24)), args := #[(.tmp (77 : Nat))], argTypes := #[49] }), some (76, false)⟩ := (rfl)
theorem gs8_10_15 : getS s8_10 15 = some ⟨some 79, (.move (.tmp (12 : Nat))), some (76, false)⟩ := (rfl)
theorem gs8_10_16 : getS s8_10 16 = some ⟨some 80, (.fieldAddr 62 (.tmp (6 : Nat)) 1), some (76, false)⟩ := (rfl)
theorem gs8_10_17 : getS s8_10 17 = some ⟨some 81, (.load 2 (.tmp (80 : Nat))), some (76, false)⟩ := (rfl)
theorem gs8_10_18 : getS s8_10 18 = some ⟨some 82, (.fieldAddr 62 (.tmp (6 : Nat)) 3), some (76, false)⟩ := (rfl)
theorem gs8_10_19 : getS s8_10 19 = some ⟨some 83, (.load 40 (.tmp (82 : Nat))), some (76, false)⟩ := (rfl)
theorem gs8_10_20 : getS s8_10 20 = some ⟨some 84, (.call { callee := (.builtin .len), args := #[(.tmp (83 : Nat))], argTypes := #[40] }), some (76, false)⟩ := (rfl)
theorem gs8_10_21 : getS s8_10 21 = some ⟨some 85, (.binOp .add 2 (.tmp (81 : Nat)) (.tmp (84 : Nat)) 2), some (76, false)⟩ := (rfl)
theorem gs8_10_22 : getS s8_10 22 = some ⟨some 86, (.call { callee := (.builtin .max), args := #[(.tmp (79 : Nat)), (.tmp (85 : Nat))], argTypes := #[2, 2] }), some (76, false)⟩ := (rfl)
theorem gs8_10_23 : getS s8_10 23 = some ⟨some 87, (.binOp .neq 2 (.tmp (78 : Nat)) (.tmp (86 : Nat)) 2), some (76, false)⟩ := (rfl)
theorem gs8_10_24 : getS s8_10 24 = some ⟨some 88, (.pick (.tmp (76 : Nat)) (.const (.bool true)) (.tmp (87 : Nat))), none⟩ := (rfl)
abbrev ndlast8_10 : Nat := 5
abbrev hlast8_10 : PlanH := h8_10_5
def s8_11 : List Slim := [⟨some 8, (.assign (.const (.bool false))), none⟩]
def s8_12 : List Slim := [⟨some 15, (.assign (.const (.int .i64 0))), none⟩]
def s8_13 : List Slim := [⟨some 89, (.move (.tmp (15 : Nat))), none⟩,
  ⟨some 90, (.move (.tmp (14 : Nat))), none⟩,
  ⟨some 91, (.call { callee := (.builtin .len), args := #[(.tmp (90 : Nat))], argTypes := #[40] }), none⟩,
  ⟨some 92, (.binOp .lss 3 (.tmp (89 : Nat)) (.tmp (91 : Nat)) 3), none⟩]
def s8_15 : List Slim := [⟨some 16, (.assign (.const (.int .u8 0))), none⟩]
def s8_16 : List Slim := [⟨some 95, (.move (.tmp (15 : Nat))), none⟩,
  ⟨some 96, (.move (.tmp (11 : Nat))), none⟩,
  ⟨some 97, (.call { callee := (.builtin .len), args := #[(.tmp (96 : Nat))], argTypes := #[40] }), none⟩,
  ⟨some 98, (.binOp .lss 3 (.tmp (95 : Nat)) (.tmp (97 : Nat)) 3), none⟩]
def s8_17 : List Slim := [⟨some 99, (.move (.tmp (11 : Nat))), none⟩,
  ⟨some 100, (.move (.tmp (15 : Nat))), none⟩,
  ⟨some 101, (.indexAddr 40 (.tmp (99 : Nat)) (.tmp (100 : Nat))), none⟩,
  ⟨some 102, (.load 5 (.tmp (101 : Nat))), none⟩,
  ⟨some 16, (.assign (.tmp (102 : Nat))), none⟩]
def s8_18 : List Slim := [⟨some 103, (.move (.tmp (15 : Nat))), none⟩,
  ⟨some 104, (.fieldAddr 62 (.tmp (6 : Nat)) 1), none⟩,
  ⟨some 105, (.load 2 (.tmp (104 : Nat))), none⟩,
  ⟨some 106, (.binOp .lss 2 (.tmp (103 : Nat)) (.tmp (105 : Nat)) 2), none⟩,
  ⟨some 107, (.move (.tmp (106 : Nat))), none⟩,
  ⟨some 108, (.move (.tmp (15 : Nat))), some (107, false)⟩,
  ⟨some 109, (.fieldAddr 62 (.tmp (6 : Nat)) 1), some (107, false)⟩,
  ⟨some 110, (.load 2 (.tmp (109 : Nat))), some (107, false)⟩,
  ⟨some 111, (.fieldAddr 62 (.tmp (6 : Nat)) 3), some (107, false)⟩,
  ⟨some 112, (.load 40 (.tmp (111 : Nat))), some (107, false)⟩,
  ⟨some 113, (.call { callee := (.builtin .len), args := #[(.tmp (112 : Nat))], argTypes := #[40] }), some (107, false)⟩,
  ⟨some 114, (.binOp .add 2 (.tmp (110 : Nat)) (.tmp (113 : Nat)) 2), some (107, false)⟩,
  ⟨some 115, (.binOp .geq 2 (.tmp (108 : Nat)) (.tmp (114 : Nat)) 2), some (107, false)⟩,
  ⟨some 116, (.pick (.tmp (107 : Nat)) (.const (.bool true)) (.tmp (115 : Nat))), none⟩,
  ⟨some 117, (.move (.tmp (116 : Nat))), none⟩,
  ⟨some 118, (.move (.tmp (14 : Nat))), some (117, true)⟩,
  ⟨some 119, (.move (.tmp (15 : Nat))), some (117, true)⟩,
  ⟨some 120, (.indexAddr 40 (.tmp (118 : Nat)) (.tmp (119 : Nat))), some (117, true)⟩,
  ⟨some 121, (.load 5 (.tmp (120 : Nat))), some (117, true)⟩,
  ⟨some 122, (.move (.tmp (16 : Nat))), some (117, true)⟩,
  ⟨some 123, (.binOp .neq 5 (.tmp (121 : Nat)) (.tmp (122 : Nat)) 5), some (117, true)⟩,
  ⟨some 124, (.pick (.tmp (117 : Nat)) (.tmp (123 : Nat)) (.const (.bool false))), none⟩]
def s8_19 : List Slim := [⟨some 8, (.assign (.const (.bool false))), none⟩]
def s8_14 : List Slim := [⟨some 93, (.move (.tmp (15 : Nat))), none⟩,
  ⟨some 94, (.binOp .add 3 (.tmp (93 : Nat)) (.const (.int .i64 1)) 3), none⟩,
  ⟨some 15, (.assign (.tmp (94 : Nat))), none⟩]
def s8_20_1 : List Slim := [⟨some 133, (.move (.tmp (12 : Nat))), some (130, false)⟩,
  ⟨some 134, (.binOp .neq 2 (.tmp (132 : Nat)) (.tmp (133 : Nat)) 2), some (130, false)⟩,
  ⟨some 135, (.pick (.tmp (130 : Nat)) (.const (.bool true)) (.tmp (134 : Nat))), none⟩]
def s8_20 : List Slim := (⟨some 125, (.move (.tmp (14 : Nat))), none⟩ : Slim) ::
  (⟨some 126, (.convert 40 9 (.tmp (125 : Nat))), none⟩ : Slim) ::
  (⟨some 127, (.move (.tmp (11 : Nat))), none⟩ : Slim) ::
  (⟨some 128, (.convert 40 9 (.tmp (127 : Nat))), none⟩ : Slim) ::
  (⟨some 129, (.binOp .neq 9 (.tmp (126 : Nat)) (.tmp (128 : Nat)) 9), none⟩ : Slim) ::
  (⟨some 130, (.move (.tmp (129 : Nat))), none⟩ : Slim) ::
  (⟨some 131, (.move (.tmp (9 : Nat))), some (130, false)⟩ : Slim) ::
  (⟨some 132, (.call { callee := (.value (.func 24)), args := #[(.tmp (131 : Nat))], argTypes := #[49] }), some (130, false)⟩ : Slim) ::
  s8_20_1
def s8_21 : List Slim := [⟨some 8, (.assign (.const (.bool false))), none⟩]
def s8_22 : List Slim := [⟨some 136, (.move (.tmp (9 : Nat))), none⟩,
  ⟨some 137, (.fieldAddr 62 (.tmp (7 : Nat)) 1), none⟩,
  ⟨some 138, (.load 2 (.tmp (137 : Nat))), none⟩,
  ⟨some 139, (.fieldAddr 62 (.tmp (7 : Nat)) 3), none⟩,
  ⟨some 140, (.load 40 (.tmp (139 : Nat))), none⟩,
  ⟨some 141, (.call { callee := (.value (.func 26)), args := #[(.tmp (136 : Nat)), (.tmp (138 : Nat)), (.tmp (140 : Nat))], argTypes := #[49, 2, 40] }), none⟩,
  ⟨some 17, (.assign (.tmp (141 : Nat))), none⟩]
def s8_23 : List Slim := [⟨some 142, (.move (.tmp (10 : Nat))), none⟩,
  ⟨some 143, (.fieldAddr 62 (.tmp (7 : Nat)) 1), none⟩,
  ⟨some 144, (.load 2 (.tmp (143 : Nat))), none⟩,
  ⟨some 145, (.fieldAddr 62 (.tmp (7 : Nat)) 3), none⟩,
  ⟨some 146, (.load 40 (.tmp (145 : Nat))), none⟩,
  ⟨some 147, (.call { callee := (.value (.func 26)), args := #[(.tmp (142 : Nat)), (.tmp (144 : Nat)), (.tmp (146 : Nat))], argTypes := #[49, 2, 40] }), none⟩,
  ⟨some 18, (.assign (.tmp (147 : Nat))), none⟩]
def s8_24 : List Slim := [⟨some 148, (.move (.tmp (10 : Nat))), none⟩,
  ⟨some 149, (.fieldAddr 62 (.tmp (6 : Nat)) 1), none⟩,
  ⟨some 150, (.load 2 (.tmp (149 : Nat))), none⟩,
  ⟨some 151, (.fieldAddr 62 (.tmp (6 : Nat)) 3), none⟩,
  ⟨some 152, (.load 40 (.tmp (151 : Nat))), none⟩,
  ⟨some 153, (.call { callee := (.value (.func 26)), args := #[(.tmp (148 : Nat)), (.tmp (150 : Nat)), (.tmp (152 : Nat))], argTypes := #[49, 2, 40] }), none⟩,
  ⟨some 19, (.assign (.tmp (153 : Nat))), none⟩]
def s8_25 : List Slim := [⟨some 154, (.move (.tmp (13 : Nat))), none⟩,
  ⟨some 155, (.binOp .neq 37 (.tmp (154 : Nat)) (.const (.int .i64 0)) 37), none⟩,
  ⟨some 156, (.move (.tmp (155 : Nat))), none⟩,
  ⟨some 157, (.move (.tmp (17 : Nat))), some (156, false)⟩,
  ⟨some 158, (.binOp .neq 37 (.tmp (157 : Nat)) (.const (.int .i64 0)) 37), some (156, false)⟩,
  ⟨some 159, (.pick (.tmp (156 : Nat)) (.const (.bool true)) (.tmp (158 : Nat))), none⟩,
  ⟨some 160, (.move (.tmp (159 : Nat))), none⟩,
  ⟨some 161, (.move (.tmp (18 : Nat))), some (160, false)⟩,
  ⟨some 162, (.binOp .neq 37 (.tmp (161 : Nat)) (.const (.int .i64 0)) 37), some (160, false)⟩,
  ⟨some 163, (.pick (.tmp (160 : Nat)) (.const (.bool true)) (.tmp (162 : Nat))), none⟩,
  ⟨some 164, (.move (.tmp (163 : Nat))), none⟩,
  ⟨some 165, (.move (.tmp (19 : Nat))), some (164, false)⟩,
  ⟨some 166, (.binOp .neq 37 (.tmp (165 : Nat)) (.const (.int .i64 0)) 37), some (164, false)⟩,
  ⟨some 167, (.pick (.tmp (164 : Nat)) (.const (.bool true)) (.tmp (166 : Nat))), none⟩]
def s8_26 : List Slim := [⟨some 168, (.call { callee := (.value (.func 30)), args := #[], argTypes := #[] }), none⟩,
  ⟨some 8, (.assign (.tmp (168 : Nat))), none⟩]
def s8_27 : List Slim := [⟨some 169, (.fieldAddr 62 (.tmp (6 : Nat)) 1), none⟩,
  ⟨some 170, (.load 2 (.tmp (169 : Nat))), none⟩,
  ⟨some 171, (.fieldAddr 62 (.tmp (6 : Nat)) 3), none⟩,
  ⟨some 172, (.load 40 (.tmp (171 : Nat))), none⟩,
  ⟨some 173, (.call { callee := (.builtin .len), args := #[(.tmp (172 : Nat))], argTypes := #[40] }), none⟩,
  ⟨some 174, (.binOp .add 2 (.tmp (170 : Nat)) (.tmp (173 : Nat)) 2), none⟩,
  ⟨some 175, (.fieldAddr 62 (.tmp (7 : Nat)) 1), none⟩,
  ⟨some 176, (.load 2 (.tmp (175 : Nat))), none⟩,
  ⟨some 177, (.binOp .leq 2 (.tmp (174 : Nat)) (.tmp (176 : Nat)) 2), none⟩,
  ⟨some 178, (.move (.tmp (177 : Nat))), none⟩,
  ⟨some 179, (.fieldAddr 62 (.tmp (7 : Nat)) 1), some (178, false)⟩,
  ⟨some 180, (.load 2 (.tmp (179 : Nat))), some (178, false)⟩,
  ⟨some 181, (.fieldAddr 62 (.tmp (7 : Nat)) 3), some (178, false)⟩,
  ⟨some 182, (.load 40 (.tmp (181 : Nat))), some (178, false)⟩,
  ⟨some 183, (.call { callee := (.builtin .len), args := #[(.tmp (182 : Nat))], argTypes := #[40] }), some (178, false)⟩,
  ⟨some 184, (.binOp .add 2 (.tmp (180 : Nat)) (.tmp (183 : Nat)) 2), some (178, false)⟩,
  ⟨some 185, (.fieldAddr 62 (.tmp (6 : Nat)) 1), some (178, false)⟩,
  ⟨some 186, (.load 2 (.tmp (185 : Nat))), some (178, false)⟩,
  ⟨some 187, (.binOp .leq 2 (.tmp (184 : Nat)) (.tmp (186 : Nat)) 2), some (178, false)⟩,
  ⟨some 188, (.pick (.tmp (178 : Nat)) (.const (.bool true)) (.tmp (187 : Nat))), none⟩,
  ⟨some 189, (.move (.tmp (188 : Nat))), none⟩,
  ⟨some 190, (.fieldAddr 62 (.tmp (6 : Nat)) 3), some (189, false)⟩,
  ⟨some 191, (.load 40 (.tmp (190 : Nat))), some (189, false)⟩,
  ⟨some 192, (.call { callee := (.builtin .len), args := #[(.tmp (191 : Nat))], argTypes := #[40] }), some (189, false)⟩,
  ⟨some 193, (.binOp .eql 3 (.tmp (192 : Nat)) (.const (.int .i64 0)) 3), some (189, false)⟩,
  ⟨some 194, (.pick (.tmp (189 : Nat)) (.const (.bool true)) (.tmp (193 : Nat))), none⟩,
  ⟨some 195, (.move (.tmp (194 : Nat))), none⟩,
  ⟨some 196, (.fieldAddr 62 (.tmp (7 : Nat)) 3), some (195, false)⟩,
  ⟨some 197, (.load 40 (.tmp (196 : Nat))), some (195, false)⟩,
  ⟨some 198, (.call { callee := (.builtin .len), args := #[(.tmp (197 : Nat))], argTypes := #[40] }), some (195, false)⟩,
  ⟨some 199, (.binOp .eql 3 (.tmp (198 : Nat)) (.const (.int .i64 0)) 3), some (195, false)⟩,
  ⟨some 200, (.pick (.tmp (195 : Nat)) (.const (.bool true)) (.tmp (199 : Nat))), none⟩,
  ⟨some 20, (.assign (.tmp (200 : Nat))), none⟩]
def s8_28 : List Slim := [⟨some 201, (.move (.tmp (9 : Nat))), none⟩,
  ⟨some 202, (.call { callee := (.value (.func 24)), args := #[(.tmp (201 : Nat))], argTypes := #[49] }), none⟩,
  ⟨some 203, (.move (.tmp (10 : Nat))), none⟩,
  ⟨some 204, (.call { callee := (.value (.func 24)), args := #[(.tmp (203 : Nat))], argTypes := #[49] }), none⟩,
  ⟨some 205, (.binOp .eql 2 (.tmp (202 : Nat)) (.tmp (204 : Nat)) 2), none⟩,
  ⟨some 206, (.move (.tmp (205 : Nat))), none⟩,
  ⟨some 207, (.move (.tmp (9 : Nat))), some (206, true)⟩,
  ⟨some 208, (.call { callee := (.value (.func 25)), args := #[(.tmp (207 : Nat))], argTypes := #[49] }), some (206, true)⟩,
  ⟨some 209, (.move (.tmp (10 : Nat))), some (206, true)⟩,
  ⟨some 210, (.call { callee := (.value (.func 25)), args := #[(.tmp (209 : Nat))], argTypes := #[49] }), some (206, true)⟩,
  ⟨some 211, (.binOp .eql 2 (.tmp (208 : Nat)) (.tmp (210 : Nat)) 2), some (206, true)⟩,
  ⟨some 212, (.pick (.tmp (206 : Nat)) (.tmp (211 : Nat)) (.const (.bool false))), none⟩,
  ⟨some 213, (.move (.tmp (212 : Nat))), none⟩,
  ⟨some 214, (.move (.tmp (9 : Nat))), some (213, true)⟩,
  ⟨some 215, (.call { callee := (.value (.func 28)), args := #[(.tmp (214 : Nat)), (.const (.int .i64 0)), (.const (.int .i64 4000))], argTypes := #[49, 2, 3] }), some (213, true)⟩,
  ⟨some 216, (.convert 40 9 (.tmp (215 : Nat))), some (213, true)⟩,
  ⟨some 217, (.move (.tmp (10 : Nat))), some (213, true)⟩,
  ⟨some 218, (.call { callee := (.value (.func 28)), args := #[(.tmp (217 : Nat)), (.const (.int .i64 0)), (.const (.int .i64 4000))], argTypes := #[49, 2, 3] }), some (213, true)⟩,
  ⟨some 219, (.convert 40 9 (.tmp (218 : Nat))), some (213, true)⟩,
  ⟨some 220, (.binOp .eql 9 (.tmp (216 : Nat)) (.tmp (219 : Nat)) 9), some (213, true)⟩,
  ⟨some 221, (.pick (.tmp (213 : Nat)) (.tmp (220 : Nat)) (.const (.bool false))), none⟩,
  ⟨some 222, (.move (.tmp (221 : Nat))), none⟩,
  ⟨some 223, (.move (.tmp (9 : Nat))), some (222, true)⟩,
  ⟨some 224, (.fieldAddr 62 (.tmp (6 : Nat)) 1), some (222, true)⟩,
  ⟨some 225, (.load 2 (.tmp (224 : Nat))), some (222, true)⟩,
  ⟨some 226, (.call { callee := (.value (.func 28)), args := #[(.tmp (223 : Nat)), (.tmp (225 : Nat)), (.const (.int .i64 1000))], argTypes := #[49, 2, 3] }), some (222, true)⟩,
  ⟨some 227, (.convert 40 9 (.tmp (226 : Nat))), some (222, true)⟩,
  ⟨some 228, (.move (.tmp (10 : Nat))), some (222, true)⟩,
  ⟨some 229, (.fieldAddr 62 (.tmp (6 : Nat)) 1), some (222, true)⟩,
  ⟨some 230, (.load 2 (.tmp (229 : Nat))), some (222, true)⟩,
  ⟨some 231, (.call { callee := (.value (.func 28)), args := #[(.tmp (228 : Nat)), (.tmp (230 : Nat)), (.const (.int .i64 1000))], argTypes := #[49, 2, 3] }), some (222, true)⟩,
  ⟨some 232, (.convert 40 9 (.tmp (231 : Nat))), some (222, true)⟩,
  ⟨some 233, (.binOp .eql 9 (.tmp (227 : Nat)) (.tmp (232 : Nat)) 9), some (222, true)⟩,
  ⟨some 234, (.pick (.tmp (222 : Nat)) (.tmp (233 : Nat)) (.const (.bool false))), none⟩,
  ⟨some 235, (.move (.tmp (234 : Nat))), none⟩,
  ⟨some 236, (.move (.tmp (9 : Nat))), some (235, true)⟩,
  ⟨some 237, (.fieldAddr 62 (.tmp (7 : Nat)) 1), some (235, true)⟩,
  ⟨some 238, (.load 2 (.tmp (237 : Nat))), some (235, true)⟩,
  ⟨some 239, (.call { callee := (.value (.func 28)), args := #[(.tmp (236 : Nat)), (.tmp (238 : Nat)), (.const (.int .i64 1000))], argTypes := #[49, 2, 3] }), some (235, true)⟩,
  ⟨some 240, (.convert 40 9 (.tmp (239 : Nat))), some (235, true)⟩,
  ⟨some 241, (.move (.tmp (10 : Nat))), some (235, true)⟩,
  ⟨some 242, (.fieldAddr 62 (.tmp (7 : Nat)) 1), some (235, true)⟩,
  ⟨some 243, (.load 2 (.tmp (242 : Nat))), some (235, true)⟩,
  ⟨some 244, (.call { callee := (.value (.func 28)), args := #[(.tmp (241 : Nat)), (.tmp (243 : Nat)), (.const (.int .i64 1000))], argTypes := #[49, 2, 3] }), some (235, true)⟩,
  ⟨some 245, (.convert 40 9 (.tmp (244 : Nat))), some (235, true)⟩,
  ⟨some 246, (.binOp .eql 9 (.tmp (240 : Nat)) (.tmp (245 : Nat)) 9), some (235, true)⟩,
  ⟨some 247, (.pick (.tmp (235 : Nat)) (.tmp (246 : Nat)) (.const (.bool false))), none⟩,
  ⟨some 21, (.assign (.tmp (247 : Nat))), none⟩]
def p8_28_j1 : Plan := (Plan.eff 44 false (Plan.take 45 (Plan.take 46 (Plan.take 47 Plan.nil))))
def p8_28_j2 : Plan := (Plan.eff 43 false p8_28_j1)
def p8_28_1 : Plan := (Plan.both (Plan.eff 39 false p8_28_j1) (Plan.eff 44 false (Plan.eff 39 false (Plan.take 45 (Plan.take 46 (Plan.take 47 Plan.nil))))))
def p8_28_j3 : Plan := (Plan.both (Plan.eff 39 false p8_28_j2) (Plan.eff 43 false p8_28_1))
def p8_28_2 : Plan := (Plan.both (Plan.eff 39 false (Plan.eff 42 false p8_28_j2)) (Plan.eff 42 false p8_28_j3))
def p8_28_j4 : Plan := (Plan.eff 38 false p8_28_j3)
def p8_28_j5 : Plan := (Plan.take 32 (Plan.take 33 (Plan.take 34 (Plan.take 35 (Plan.take 36 (Plan.take 40 (Plan.take 41 (Plan.both (Plan.eff 37 false (Plan.both (Plan.eff 38 false p8_28_2) (Plan.eff 42 false p8_28_j4))) (Plan.eff 42 false (Plan.eff 37 false p8_28_j4))))))))))
def p8_28_j6 : Plan := (Plan.eff 31 false p8_28_j5)
def p8_28_j7 : Plan := (Plan.eff 30 false p8_28_j6)
def p8_28_3 : Plan := (Plan.both (Plan.eff 26 false p8_28_j6) (Plan.eff 31 false (Plan.eff 26 false p8_28_j5)))
def p8_28_j8 : Plan := (Plan.both (Plan.eff 26 false p8_28_j7) (Plan.eff 30 false p8_28_3))
def p8_28_4 : Plan := (Plan.both (Plan.eff 26 false (Plan.eff 29 false p8_28_j7)) (Plan.eff 29 false p8_28_j8))
def p8_28_j9 : Plan := (Plan.eff 25 false p8_28_j8)
def p8_28_j10 : Plan := (Plan.take 19 (Plan.take 20 (Plan.take 21 (Plan.take 22 (Plan.take 23 (Plan.take 27 (Plan.take 28 (Plan.both (Plan.eff 24 false (Plan.both (Plan.eff 25 false p8_28_4) (Plan.eff 29 false p8_28_j9))) (Plan.eff 29 false (Plan.eff 24 false p8_28_j9))))))))))
def p8_28_j11 : Plan := (Plan.eff 18 false p8_28_j10)
def p8_28_5 : Plan := (Plan.both (Plan.eff 15 false p8_28_j11) (Plan.eff 18 false (Plan.eff 15 false p8_28_j10)))
def p8_28_6 : Plan := (Plan.both (Plan.eff 15 false (Plan.eff 17 false p8_28_j11)) (Plan.eff 17 false p8_28_5))
def p8_28_7 : Plan := (Plan.take 10 (Plan.take 11 (Plan.take 12 (Plan.take 13 (Plan.take 16 (Plan.eff 14 false p8_28_6))))))
def p8_28_8 : Plan := (Plan.eff 9 false p8_28_7)
def p8_28_9 : Plan := (Plan.take 4 (Plan.take 5 (Plan.take 6 (Plan.take 8 (Plan.eff 7 false p8_28_8)))))
def p8_28_10 : Plan := (Plan.eff 3 false p8_28_9)
def p8_28 : Plan := (Plan.take 0 (Plan.take 2 (Plan.eff 1 false p8_28_10)))
def qt8_28 : List Nat := [0, 2, 4, 5, 6, 8, 10, 11, 12, 13, 16, 19, 20, 21, 22, 23, 27, 28, 32, 33, 34, 35, 36, 40, 41, 45, 46, 47]
def fl8_28 : List Nat := []
def h8_28_0 : PlanH := (.eff 44 false (.take 45 (.take 46 (.take 47 .nil))))
def h8_28_1 : PlanH := (.eff 43 false (.hole 0))
def h8_28_2 : PlanH := (.both (.eff 39 false (.hole 1)) (.eff 43 false (.both (.eff 39 false (.hole 0)) (.eff 44 false (.eff 39 false (.take 45 (.take 46 (.take 47 .nil))))))))
def h8_28_3 : PlanH := (.eff 38 false (.hole 2))
def h8_28_4 : PlanH := (.take 32 (.take 33 (.take 34 (.take 35 (.take 36 (.take 40 (.take 41 (.both (.eff 37 false (.both (.eff 38 false (.both (.eff 39 false (.eff 42 false (.hole 1))) (.eff 42 false (.hole 2)))) (.eff 42 false (.hole 3)))) (.eff 42 false (.eff 37 false (.hole 3)))))))))))
def h8_28_5 : PlanH := (.eff 31 false (.hole 4))
def h8_28_6 : PlanH := (.eff 30 false (.hole 5))
def h8_28_7 : PlanH := (.both (.eff 26 false (.hole 6)) (.eff 30 false (.both (.eff 26 false (.hole 5)) (.eff 31 false (.eff 26 false (.hole 4))))))
def h8_28_8 : PlanH := (.eff 25 false (.hole 7))
def h8_28_9 : PlanH := (.take 19 (.take 20 (.take 21 (.take 22 (.take 23 (.take 27 (.take 28 (.both (.eff 24 false (.both (.eff 25 false (.both (.eff 26 false (.eff 29 false (.hole 6))) (.eff 29 false (.hole 7)))) (.eff 29 false (.hole 8)))) (.eff 29 false (.eff 24 false (.hole 8)))))))))))
def h8_28_10 : PlanH := (.eff 18 false (.hole 9))
def h8_28_11 : PlanH := (.take 0 (.take 2 (.eff 1 false (.eff 3 false (.take 4 (.take 5 (.take 6 (.take 8 (.eff 7 false (.eff 9 false (.take 10 (.take 11 (.take 12 (.take 13 (.take 16 (.eff 14 false (.both (.eff 15 false (.eff 17 false (.hole 10))) (.eff 17 false (.both (.eff 15 false (.hole 10)) (.eff 18 false (.eff 15 false (.hole 9))))))))))))))))))))))
def nd8_28 : List Node := [([true, true, true, true, true, true, true, true, true, true, true, true, true, true, true, true, true, true, true, true, true, true, true, true, true, true, true, true, true, true, true, true, true, true, true, true, true, true, true, true, true, true, true, true, false, false, false, false], h8_28_0, p8_28_j1), ([true, true, true, true, true, true, true, true, true, true, true, true, true, true, true, true, true, true, true, true, true, true, true, true, true, true, true, true, true, true, true, true, true, true, true, true, true, true, true, true, true, true, true, false, false, false, false, false], h8_28_1, p8_28_j2), ([true, true, true, true, true, true, true, true, true, true, true, true, true, true, true, true, true, true, true, true, true, true, true, true, true, true, true, true, true, true, true, true, true, true, true, true, true, true, true, false, true, true, true, false, false, false, false, false], h8_28_2, p8_28_j3), ([true, true, true, true, true, true, true, true, true, true, true, true, true, true, true, true, true, true, true, true, true, true, true, true, true, true, true, true, true, true, true, true, true, true, true, true, true, true, false, false, true, true, true, false, false, false, false, false], h8_28_3, p8_28_j4), ([true, true, true, true, true, true, true, true, true, true, true, true, true, true, true, true, true, true, true, true, true, true, true, true, true, true, true, true, true, true, true, true, false, false, false, false, false, false, false, false, false, false, false, false, false, false, false, false], h8_28_4, p8_28_j5), ([true, true, true, true, true, true, true, true, true, true, true, true, true, true, true, true, true, true, true, true, true, true, true, true, true, true, true, true, true, true, true, false, false, false, false, false, false, false, false, false, false, false, false, false, false, false, false, false], h8_28_5, p8_28_j6), ([true, true, true, true, true, true, true, true, true, true, true, true, true, true, true, true, true, true, true, true, true, true, true, true, true, true, true, true, true, true, false, false, false, false, false, false, false, false, false, false, false, false, false, false, false, false, false, false], h8_28_6, p8_28_j7), ([true, true, true, true, true, true, true, true, true, true, true, true, true, true, true, true, true, true, true, true, true, true, true, true, true, true, false, true, true, true, false, false, false, false, false, false, false, false, false, false, false, false, false, false, false, false, false, false], h8_28_7, p8_28_j8), ([true, true, true, true, true, true, true, true, true, true, true, true, true, true, true, true, true, true, true, true, true, true, true, true, true, false, false, true, true, true, false, false, false, false, false, false, false, false, false, false, false, false, false, false, false, false, false, false], h8_28_8, p8_28_j9), ([true, true, true, true, true, true, true, true, true, true, true, true, true, true, true, true, true, true, true, false, false, false, false, false, false, false, false, false, false, false, false, false, false, false, false, false, false, false, false, false, false, false, false, false, false, false, false, false], h8_28_9, p8_28_j10), ([true, true, true, true, true, true, true, true, true, true, true, true, true, true, true, true, true, true, false, false, false, false, false, false, false, false, false, false, false, false, false, false, false, false, false, false, false, false, false, false, false, false, false, false, false, false, false, false], h8_28_10, p8_28_j11), ([false, false, false, false, false, false, false, false, false, false, false, false, false, false, false, false, false, false, false, false, false, false, false, false, false, false, false, false, false, false, false, false, false, false, false, false, false, false, false, false, false, false, false, false, false, false, false, false], h8_28_11, p8_28)]
theorem gs8_28_0 : getS s8_28 0 = some ⟨some 201, (.move (.tmp (9 : Nat))), none⟩ := (rfl)
theorem gs8_28_1 : getS s8_28 1 = some ⟨some 202, (.call { callee := (.value (.func 24)), args := #[(.tmp (201 : Nat))], argTypes := #[49] }), none⟩ := (rfl)
theorem gs8_28_2 : getS s8_28 2 = some ⟨some 203, (.move (.tmp (10 : Nat))), none⟩ := (rfl)
theorem gs8_28_3 : getS s8_28 3 = some ⟨some 204, (.call { callee := (.value (.func 24)), args := #[(.tmp (203 : Nat))], argTypes := #[49] }), none⟩ := (rfl)
theorem gs8_28_4 : getS s8_28 4 = some ⟨some 205, (.binOp .eql 2 (.tmp (202 : Nat)) (.tmp (204 : Nat)) 2), none⟩ := (rfl)
theorem gs8_28_5 : getS s8_28 5 = some ⟨some 206, (.move (.tmp (205 : Nat))), none⟩ := (rfl)
theorem gs8_28_6 : getS s8_28 6 = some ⟨some 207, (.move (.tmp (9 : Nat))), some (206, true)⟩ := (rfl)
theorem gs8_28_7 : getS s8_28 7 = some ⟨some 208, (.call { callee := (.value (.func 25)), args := #[(.tmp (207 : Nat))], argTypes := #[49] }), some (206, true)⟩ := (rfl)
theorem gs8_28_8 : getS s8_28 8 = some ⟨some 209, (.move (.tmp (10 : Nat))), some (206, true)⟩ := (rfl)
theorem gs8_28_9 : getS s8_28 9 = some ⟨some 210, (.call { callee := (.value (.func 25)), args := #[(.tmp (209 : Nat))], argTypes := #[49] }), some (206, true)⟩ := (rfl)
theorem gs8_28_10 : getS s8_28 10 = some ⟨some 211, (.binOp .eql 2 (.tmp (208 : Nat)) (.tmp (210 : Nat)) 2), some (206, true)⟩ := (rfl)
theorem gs8_28_11 : getS s8_28 11 = some ⟨some 212, (.pick (.tmp (206 : Nat)) (.tmp (211 : Nat)) (.const (.bool false))), none⟩ := (rfl)
theorem gs8_28_12 : getS s8_28 12 = some ⟨some 213, (.move (.tmp (212 : Nat))), none⟩ := (rfl)
theorem gs8_28_13 : getS s8_28 13 = some ⟨some 214, (.move (.tmp (9 : Nat))), some (213, true)⟩ := (rfl)
theorem gs8_28_14 : getS s8_28 14 = some ⟨some 215, (.call { callee := (.value (.func 28)), args := #[(.tmp (214 : Nat)), (.const (.int .i64 0)), (.const (.int .i64 4000))], argTypes := #[49, 2, 3] }), some (213, true)⟩ := (rfl)
theorem gs8_28_15 : getS s8_28 15 = some ⟨some 216, (.convert 40 9 (.tmp (215 : Nat))), some (213, true)⟩ := (rfl)
theorem gs8_28_16 : getS s8_28 16 = some ⟨some 217, (.move (.tmp (10 : Nat))), some (213, true)⟩ := (rfl)
theorem gs8_28_17 : getS s8_28 17 = some ⟨some 218, (.call { callee := (.value (.func 28)), args := #[(.tmp (217 : Nat)), (.const (.int .i64 0)), (.const (.int .i64 4000))], argTypes := #[49, 2, 3] }), some (213, true)⟩ := (rfl)
theorem gs8_28_18 : getS s8_28 18 = some ⟨some 219, (.convert 40 9 (.tmp (218 : Nat))), some (213, true)⟩ := (rfl)
theorem gs8_28_19 : getS s8_28 19 = some ⟨some 220, (.binOp .eql 9 (.tmp (216 : Nat)) (.tmp (219 : Nat)) 9), some (213, true)⟩ := (rfl)
theorem gs8_28_20 : getS s8_28 20 = some ⟨some 221, (.pick (.tmp (213 : Nat)) (.tmp (220 : Nat)) (.const (.bool false))), none⟩ := (rfl)
theorem gs8_28_21 : getS s8_28 21 = some ⟨some 222, (.move (.tmp (221 : Nat))), none⟩ := (rfl)
theorem gs8_28_22 : getS s8_28 22 = some ⟨some 223, (.move (.tmp (9 : Nat))), some (222, true)⟩ := (rfl)
theorem gs8_28_23 : getS s8_28 23 = some ⟨some 224, (.fieldAddr 62 (.tmp (6 : Nat)) 1), some (222, true)⟩ := (rfl)
theorem gs8_28_24 : getS s8_28 24 = some ⟨some 225, (.load 2 (.tmp (224 : Nat))), some (222, true)⟩ := (rfl)
theorem gs8_28_25 : getS s8_28 25 = some ⟨some 226, (.call { callee := (.value (.func 28)), args := #[(.tmp (223 : Nat)), (.tmp (225 : Nat)), (.const (.int .i64 1000))], argTypes := #[49, 2, 3] }), some (222, true)⟩ := (rfl)
theorem gs8_28_26 : getS s8_28 26 = some ⟨some 227, (.convert 40 9 (.tmp (226 : Nat))), some (222, true)⟩ := (rfl)
theorem gs8_28_27 : getS s8_28 27 = some ⟨some 228, (.move (.tmp (10 : Nat))), some (222, true)⟩ := (rfl)
theorem gs8_28_28 : getS s8_28 28 = some ⟨some 229, (.fieldAddr 62 (.tmp (6 : Nat)) 1), some (222, true)⟩ := (rfl)
theorem gs8_28_29 : getS s8_28 29 = some ⟨some 230, (.load 2 (.tmp (229 : Nat))), some (222, true)⟩ := (rfl)
theorem gs8_28_30 : getS s8_28 30 = some ⟨some 231, (.call { callee := (.value (.func 28)), args := #[(.tmp (228 : Nat)), (.tmp (230 : Nat)), (.const (.int .i64 1000))], argTypes := #[49, 2, 3] }), some (222, true)⟩ := (rfl)
theorem gs8_28_31 : getS s8_28 31 = some ⟨some 232, (.convert 40 9 (.tmp (231 : Nat))), some (222, true)⟩ := (rfl)
theorem gs8_28_32 : getS s8_28 32 = some ⟨some 233, (.binOp .eql 9 (.tmp (227 : Nat)) (.tmp (232 : Nat)) 9), some (222, true)⟩ := (rfl)
theorem gs8_28_33 : getS s8_28 33 = some ⟨some 234, (.pick (.tmp (222 : Nat)) (.tmp (233 : Nat)) (.const (.bool false))), none⟩ := (rfl)
theorem gs8_28_34 : getS s8_28 34 = some ⟨some 235, (.move (.tmp (234 : Nat))), none⟩ := (rfl)
theorem gs8_28_35 : getS s8_28 35 = some ⟨some 236, (.move (.tmp (9 : Nat))), some (235, true)⟩ := (rfl)
theorem gs8_28_36 : getS s8_28 36 = some ⟨some 237, (.fieldAddr 62 (.tmp (7 : Nat)) 1), some (235, true)⟩ := (rfl)
theorem gs8_28_37 : getS s8_28 37 = some ⟨some 238, (.load 2 (.tmp (237 : Nat))), some (235, true)⟩ := (rfl)
theorem gs8_28_38 : getS s8_28 38 = some ⟨some 239, (.call { callee := (.value (.func 28)), args := #[(.tmp (236 : Nat)), (.tmp (238 : Nat)), (.const (.int .i64 1000))], argTypes := #[49, 2, 3] }), some (235, true)⟩ := (rfl)
theorem gs8_28_39 : getS s8_28 39 = some ⟨some 240, (.convert 40 9 (.tmp (239 : Nat))), some (235, true)⟩ := (rfl)
theorem gs8_28_40 : getS s8_28 40 = some ⟨some 241, (.move (.tmp (10 : Nat))), some (235, true)⟩ := (rfl)
theorem gs8_28_41 : getS s8_28 41 = some ⟨some 242, (.fieldAddr 62 (.tmp (7 : Nat)) 1), some (235, true)⟩ := (rfl)
theorem gs8_28_42 : getS s8_28 42 = some ⟨some 243, (.load 2 (.tmp (242 : Nat))), some (235, true)⟩ := (rfl)
theorem gs8_28_43 : getS s8_28 43 = some ⟨some 244, (.call { callee := (.value (.func 28)), args := #[(.tmp (241 : Nat)), (.tmp (243 : Nat)), (.const (.int .i64 1000))], argTypes := #[49, 2, 3] }), some (235, true)⟩ := (rfl)
theorem gs8_28_44 : getS s8_28 44 = some ⟨some 245, (.convert 40 9 (.tmp (244 : Nat))), some (235, true)⟩ := (rfl)
theorem gs8_28_45 : getS s8_28 45 = some ⟨some 246, (.binOp .eql 9 (.tmp (240 : Nat)) (.tmp (245 : Nat)) 9), some (235, true)⟩ := (rfl)
theorem gs8_28_46 : getS s8_28 46 = some ⟨some 247, (.pick (.tmp (235 : Nat)) (.tmp (246 : Nat)) (.const (.bool false))), none⟩ := (rfl)
theorem gs8_28_47 : getS s8_28 47 = some ⟨some 21, (.assign (.tmp (247 : Nat))), none⟩ := (rfl)
abbrev ndlast8_28 : Nat := 11
abbrev hlast8_28 : PlanH := h8_28_11
def s8_29_1 : List Slim := [⟨some 255, (.pick (.tmp (253 : Nat)) (.tmp (254 : Nat)) (.const (.bool false))), none⟩,
  ⟨some 8, (.assign (.tmp (255 : Nat))), none⟩]
def s8_29 : List Slim := (⟨some 248, (.move (.tmp (20 : Nat))), none⟩ : Slim) ::
  (⟨some 249, (.unOp .not 4 (.tmp (248 : Nat))), none⟩ : Slim) ::
  (⟨some 250, (.move (.tmp (249 : Nat))), none⟩ : Slim) ::
  (⟨some 251, (.move (.tmp (21 : Nat))), some (250, false)⟩ : Slim) ::
  (⟨some 252, (.pick (.tmp (250 : Nat)) (.const (.bool true)) (.tmp (251 : Nat))), none⟩ : Slim) ::
  (⟨some 253, (.move (.tmp (252 : Nat))), none⟩ : Slim) ::
  (⟨some 254, (.call { callee := (.value (.func 30)), args := #[], argTypes := #[] }), some (253, true)⟩ : Slim) ::
  s8_29_1
end Go.Proofs.Ytpdklpeojjkkaaa
