/- By program (gen.py): this seat's regions and tables, as the engine wants them. -/
import Derived.Test.YtpdklpeojjkkaaaE9
import Derived.Test.YtpdklpeojjkkaaaProg
import Derived.KernelRfl
namespace Go.Proofs.Ytpdklpeojjkkaaa
open Go
set_option linter.unusedVariables false
set_option maxRecDepth 100000
abbrev k9 : List Nat := [0, 1, 4, 5, 6, 7, 8, 9, 10, 11, 14, 39, 43, 58, 62, 84, 90, 97]
def s9_0 : List Slim := [⟨some 4, (.assign (.const (.bool false))), none⟩]
def s9_1 : List Slim := [⟨some 12, (.move (.tmp (0 : Nat))), none⟩,
  ⟨some 13, (.move (.tmp (1 : Nat))), none⟩,
  ⟨some 14, (.call { callee := (.value (.func 31)), args := #[(.tmp (12 : Nat)), (.tmp (13 : Nat))], argTypes := #[40, 56] }), none⟩]
def s9_2 : List Slim := [⟨some 15, (.call { callee := (.value (.func 30)), args := #[], argTypes := #[] }), none⟩,
  ⟨some 4, (.assign (.tmp (15 : Nat))), none⟩]
def s9_3 : List Slim := [⟨some 16, (.buildSlice 40 0 #[]), none⟩,
  ⟨some 17, (.move (.tmp (0 : Nat))), none⟩,
  ⟨some 18, (.call { callee := (.builtin .append), args := #[(.tmp (16 : Nat)), (.tmp (17 : Nat))], argTypes := #[40, 40] }), none⟩,
  ⟨some 19, (.buildSlice 40 1 #[(0, (.const (.int .u8 165)))]), none⟩,
  ⟨some 20, (.call { callee := (.builtin .append), args := #[(.tmp (18 : Nat)), (.tmp (19 : Nat))], argTypes := #[40, 40] }), none⟩,
  ⟨some 21, (.move (.tmp (0 : Nat))), none⟩,
  ⟨some 22, (.call { callee := (.builtin .len), args := #[(.tmp (21 : Nat))], argTypes := #[40] }), none⟩,
  ⟨some 23, (.slice 40 (.tmp (20 : Nat)) none (some (.tmp (22 : Nat))) none), none⟩,
  ⟨some 5, (.assign (.tmp (23 : Nat))), none⟩]
def s9_4 : List Slim := [⟨some 24, (.move (.tmp (5 : Nat))), none⟩,
  ⟨some 25, (.call { callee := (.value (.func 23)), args := #[(.tmp (24 : Nat))], argTypes := #[40] }), none⟩,
  ⟨some 6, (.assign (.tmp (25 : Nat))), none⟩]
def s9_5 : List Slim := [⟨some 26, (.move (.tmp (6 : Nat))), none⟩,
  ⟨some 27, (.binOp .eql 49 (.tmp (26 : Nat)) (.const (.pointer none)) 49), none⟩,
  ⟨some 28, (.move (.tmp (27 : Nat))), none⟩,
  ⟨some 29, (.move (.tmp (5 : Nat))), some (28, false)⟩,
  ⟨some 30, (.move (.tmp (0 : Nat))), some (28, false)⟩,
  ⟨some 31, (.call { callee := (.builtin .len), args := #[(.tmp (30 : Nat))], argTypes := #[40] }), some (28, false)⟩,
  ⟨some 32, (.binOp .add 3 (.tmp (31 : Nat)) (.const (.int .i64 1)) 3), some (28, false)⟩,
  ⟨some 33, (.slice 40 (.tmp (29 : Nat)) none (some (.tmp (32 : Nat))) none), some (28, false)⟩,
  ⟨some 34, (.move (.tmp (0 : Nat))), some (28, false)⟩,
  ⟨some 35, (.call { callee := (.builtin .len), args := #[(.tmp (34 : Nat))], argTypes := #[40] }), some (28, false)⟩,
  ⟨some 36, (.indexAddr 40 (.tmp (33 : Nat)) (.tmp (35 : Nat))), some (28, false)⟩,
  ⟨some 37, (.load 5 (.tmp (36 : Nat))), some (28, false)⟩,
  ⟨some 38, (.binOp .neq 5 (.tmp (37 : Nat)) (.const (.int .u8 165)) 5), some (28, false)⟩,
  ⟨some 39, (.pick (.tmp (28 : Nat)) (.const (.bool true)) (.tmp (38 : Nat))), none⟩]
def s9_6 : List Slim := [⟨some 4, (.assign (.const (.bool false))), none⟩]
def s9_7 : List Slim := [⟨some 7, (.assign (.const (.int .i64 0))), none⟩]
def s9_8 : List Slim := [⟨some 40, (.move (.tmp (7 : Nat))), none⟩,
  ⟨some 41, (.move (.tmp (5 : Nat))), none⟩,
  ⟨some 42, (.call { callee := (.builtin .len), args := #[(.tmp (41 : Nat))], argTypes := #[40] }), none⟩,
  ⟨some 43, (.binOp .lss 3 (.tmp (40 : Nat)) (.tmp (42 : Nat)) 3), none⟩]
def s9_10 : List Slim := [⟨some 46, (.move (.tmp (5 : Nat))), none⟩,
  ⟨some 47, (.move (.tmp (7 : Nat))), none⟩,
  ⟨some 48, (.indexAddr 40 (.tmp (46 : Nat)) (.tmp (47 : Nat))), none⟩,
  ⟨none, (.store 5 (.tmp (48 : Nat)) (.const (.int .u8 124))), none⟩]
def s9_9 : List Slim := [⟨some 44, (.move (.tmp (7 : Nat))), none⟩,
  ⟨some 45, (.binOp .add 3 (.tmp (44 : Nat)) (.const (.int .i64 1)) 3), none⟩,
  ⟨some 7, (.assign (.tmp (45 : Nat))), none⟩]
def s9_11 : List Slim := [⟨some 49, (.buildSlice 40 0 #[]), none⟩,
  ⟨some 50, (.move (.tmp (0 : Nat))), none⟩,
  ⟨some 51, (.call { callee := (.builtin .append), args := #[(.tmp (49 : Nat)), (.tmp (50 : Nat))], argTypes := #[40, 40] }), none⟩,
  ⟨some 52, (.call { callee := (.value (.func 34)), args := #[(.tmp (51 : Nat))], argTypes := #[40] }), none⟩,
  ⟨some 8, (.assign (.tmp (52 : Nat))), none⟩]
def s9_12 : List Slim := [⟨some 53, (.move (.tmp (6 : Nat))), none⟩,
  ⟨some 54, (.call { callee := (.value (.func 35)), args := #[(.tmp (53 : Nat))], argTypes := #[49] }), none⟩,
  ⟨some 9, (.assign (.tmp (54 : Nat))), none⟩]
def s9_13 : List Slim := [⟨some 55, (.move (.tmp (8 : Nat))), none⟩,
  ⟨some 56, (.call { callee := (.value (.func 36)), args := #[(.tmp (55 : Nat))], argTypes := #[64] }), none⟩,
  ⟨some 10, (.assign (.tmp (56 : Nat))), none⟩]
def s9_14 : List Slim := [⟨some 57, (.move (.tmp (9 : Nat))), none⟩,
  ⟨some 58, (.binOp .eql 49 (.tmp (57 : Nat)) (.const (.pointer none)) 49), none⟩]
def s9_15 : List Slim := [⟨some 4, (.assign (.const (.bool false))), none⟩]
def s9_16 : List Slim := [⟨some 11, (.assign (.const (.int .i64 0))), none⟩]
def s9_17 : List Slim := [⟨some 59, (.move (.tmp (11 : Nat))), none⟩,
  ⟨some 60, (.move (.tmp (1 : Nat))), none⟩,
  ⟨some 61, (.call { callee := (.builtin .len), args := #[(.tmp (60 : Nat))], argTypes := #[56] }), none⟩,
  ⟨some 62, (.binOp .lss 3 (.tmp (59 : Nat)) (.tmp (61 : Nat)) 3), none⟩]
def s9_19_3 : List Slim := [⟨some 83, (.unOp .not 4 (.tmp (82 : Nat))), some (79, false)⟩,
  ⟨some 84, (.pick (.tmp (79 : Nat)) (.const (.bool true)) (.tmp (83 : Nat))), none⟩]
def s9_19_2 : List Slim := (⟨some 77, (.unOp .not 4 (.tmp (76 : Nat))), some (73, false)⟩ : Slim) ::
  (⟨some 78, (.pick (.tmp (73 : Nat)) (.const (.bool true)) (.tmp (77 : Nat))), none⟩ : Slim) ::
  (⟨some 79, (.move (.tmp (78 : Nat))), none⟩ : Slim) ::
  (⟨some 80, (.move (.tmp (9 : Nat))), some (79, false)⟩ : Slim) ::
  (⟨some 81, (.move (.tmp (10 : Nat))), some (79, false)⟩ : Slim) ::
  (⟨some 82, (.call { callee := (.value (.func 38)), args := #[(.tmp (80 : Nat)), (.tmp (81 : Nat))], argTypes := #[49, 64] }), some (79, false)⟩ : Slim) ::
  s9_19_3
def s9_19_1 : List Slim := (⟨some 72, (.unOp .not 4 (.tmp (71 : Nat))), none⟩ : Slim) ::
  (⟨some 73, (.move (.tmp (72 : Nat))), none⟩ : Slim) ::
  (⟨some 74, (.move (.tmp (6 : Nat))), some (73, false)⟩ : Slim) ::
  (⟨some 75, (.move (.tmp (8 : Nat))), some (73, false)⟩ : Slim) ::
  (⟨some 76, (.call { callee := (.value (.func 38)), args := #[(.tmp (74 : Nat)), (.tmp (75 : Nat))], argTypes := #[49, 64] }), some (73, false)⟩ : Slim) ::
  s9_19_2
def s9_19 : List Slim := (⟨some 65, (.move (.tmp (6 : Nat))), none⟩ : Slim) ::
  (⟨some 66, (.move (.tmp (8 : Nat))), none⟩ : Slim) ::
  (⟨some 67, (.move (.tmp (1 : Nat))), none⟩ : Slim) ::
  (⟨some 68, (.move (.tmp (11 : Nat))), none⟩ : Slim) ::
  (⟨some 69, (.indexAddr 56 (.tmp (67 : Nat)) (.tmp (68 : Nat))), none⟩ : Slim) ::
  (⟨some 70, (.load 62 (.tmp (69 : Nat))), none⟩ : Slim) ::
  (⟨some 71, (.call { callee := (.value (.func 37)), args := #[(.tmp (65 : Nat)), (.tmp (66 : Nat)), (.tmp (70 : Nat))], argTypes := #[49, 64, 62] }), none⟩ : Slim) ::
  s9_19_1
def s9_20 : List Slim := [⟨some 4, (.assign (.const (.bool false))), none⟩]
def s9_21 : List Slim := [⟨some 85, (.move (.tmp (1 : Nat))), none⟩,
  ⟨some 86, (.move (.tmp (11 : Nat))), none⟩,
  ⟨some 87, (.indexAddr 56 (.tmp (85 : Nat)) (.tmp (86 : Nat))), none⟩,
  ⟨some 88, (.fieldAddr 62 (.tmp (87 : Nat)) 0), none⟩,
  ⟨some 89, (.load 3 (.tmp (88 : Nat))), none⟩,
  ⟨some 90, (.binOp .eql 3 (.tmp (89 : Nat)) (.const (.int .i64 5)) 3), none⟩]
def s9_22 : List Slim := [⟨some 91, (.move (.tmp (9 : Nat))), none⟩,
  ⟨some 92, (.move (.tmp (6 : Nat))), none⟩,
  ⟨some 6, (.assign (.tmp (91 : Nat))), none⟩,
  ⟨some 9, (.assign (.tmp (92 : Nat))), none⟩]
def s9_23 : List Slim := [⟨some 93, (.move (.tmp (10 : Nat))), none⟩,
  ⟨some 94, (.move (.tmp (8 : Nat))), none⟩,
  ⟨some 8, (.assign (.tmp (93 : Nat))), none⟩,
  ⟨some 10, (.assign (.tmp (94 : Nat))), none⟩]
def s9_24 : List Slim := [⟨some 95, (.move (.tmp (11 : Nat))), none⟩,
  ⟨some 96, (.binOp .rem 3 (.tmp (95 : Nat)) (.const (.int .i64 2)) 3), none⟩,
  ⟨some 97, (.binOp .eql 3 (.tmp (96 : Nat)) (.const (.int .i64 0)) 3), none⟩]
def s9_25 : List Slim := [⟨some 98, (.move (.tmp (6 : Nat))), none⟩,
  ⟨some 99, (.call { callee := (.value (.func 35)), args := #[(.tmp (98 : Nat))], argTypes := #[49] }), none⟩,
  ⟨some 9, (.assign (.tmp (99 : Nat))), none⟩]
def s9_26 : List Slim := [⟨some 100, (.move (.tmp (8 : Nat))), none⟩,
  ⟨some 101, (.call { callee := (.value (.func 36)), args := #[(.tmp (100 : Nat))], argTypes := #[64] }), none⟩,
  ⟨some 10, (.assign (.tmp (101 : Nat))), none⟩]
def s9_18 : List Slim := [⟨some 63, (.move (.tmp (11 : Nat))), none⟩,
  ⟨some 64, (.binOp .add 3 (.tmp (63 : Nat)) (.const (.int .i64 1)) 3), none⟩,
  ⟨some 11, (.assign (.tmp (64 : Nat))), none⟩]
def s9_27_3 : List Slim := [⟨some 112, (.pick (.tmp (110 : Nat)) (.tmp (111 : Nat)) (.const (.bool false))), none⟩,
  ⟨some 4, (.assign (.tmp (112 : Nat))), none⟩]
def s9_27_2 : List Slim := (⟨some 109, (.pick (.tmp (105 : Nat)) (.tmp (108 : Nat)) (.const (.bool false))), none⟩ : Slim) ::
  (⟨some 110, (.move (.tmp (109 : Nat))), none⟩ : Slim) ::
  (⟨some 111, (.call { callee := (.value (.func 30)), args := #[], argTypes := #[] }), some (110, true)⟩ : Slim) ::
  s9_27_3
def s9_27_1 : List Slim := (⟨some 105, (.move (.tmp (104 : Nat))), none⟩ : Slim) ::
  (⟨some 106, (.move (.tmp (9 : Nat))), some (105, true)⟩ : Slim) ::
  (⟨some 107, (.move (.tmp (10 : Nat))), some (105, true)⟩ : Slim) ::
  (⟨some 108, (.call { callee := (.value (.func 38)), args := #[(.tmp (106 : Nat)), (.tmp (107 : Nat))], argTypes := #[49, 64] }), some (105, true)⟩ : Slim) ::
  s9_27_2
def s9_27 : List Slim := (⟨some 102, (.move (.tmp (6 : Nat))), none⟩ : Slim) ::
  (⟨some 103, (.move (.tmp (8 : Nat))), none⟩ : Slim) ::
  (⟨some 104, (.call { callee := (.value (.func 38)), args := #[(.tmp (102 : Nat)), (.tmp (103 : Nat))], argTypes := #[49, 64] }), none⟩ : Slim) ::
  s9_27_1
abbrev k10 : List Nat := [0, 1, 2, 3, 4, 5]
def s10_0 : List Slim := [⟨some 1, (.box 62 (.tmp (0 : Nat))), none⟩,
  ⟨some 2, (.assign (.const (.bool false))), none⟩]
def s10_1 : List Slim := [⟨some 3, (.assign (.const (.pointer none))), none⟩]
def s10_2 : List Slim := [⟨some 7, (.move (.tmp (3 : Nat))), none⟩,
  ⟨some 8, (.fieldAddr 62 (.tmp (1 : Nat)) 1), none⟩,
  ⟨some 9, (.load 2 (.tmp (8 : Nat))), none⟩,
  ⟨some 10, (.call { callee := (.value (.func 33)), args := #[(.tmp (7 : Nat)), (.tmp (9 : Nat))], argTypes := #[49, 2] }), none⟩,
  ⟨some 6, (.move (.tmp (10 : Nat))), none⟩,
  ⟨some 11, (.extract (.tmp (6 : Nat)) 0), none⟩,
  ⟨some 12, (.extract (.tmp (6 : Nat)) 1), none⟩,
  ⟨some 4, (.assign (.tmp (11 : Nat))), none⟩,
  ⟨some 5, (.assign (.tmp (12 : Nat))), none⟩]
def s10_3_8 : List Slim := [⟨some 69, (.pick (.tmp (67 : Nat)) (.tmp (68 : Nat)) (.const (.bool false))), none⟩,
  ⟨some 2, (.assign (.tmp (69 : Nat))), none⟩]
def s10_3_7 : List Slim := (⟨some 65, (.binOp .eql 49 (.tmp (64 : Nat)) (.const (.pointer none)) 49), some (62, true)⟩ : Slim) ::
  (⟨some 66, (.pick (.tmp (62 : Nat)) (.tmp (65 : Nat)) (.const (.bool false))), none⟩ : Slim) ::
  (⟨some 67, (.move (.tmp (66 : Nat))), none⟩ : Slim) ::
  (⟨some 68, (.call { callee := (.value (.func 30)), args := #[], argTypes := #[] }), some (67, true)⟩ : Slim) ::
  s10_3_8
def s10_3_6 : List Slim := (⟨some 52, (.binOp .eql 2 (.tmp (51 : Nat)) (.const (.int .i64 0)) 2), some (49, true)⟩ : Slim) ::
  (⟨some 53, (.pick (.tmp (49 : Nat)) (.tmp (52 : Nat)) (.const (.bool false))), none⟩ : Slim) ::
  (⟨some 54, (.move (.tmp (53 : Nat))), none⟩ : Slim) ::
  (⟨some 55, (.move (.tmp (4 : Nat))), some (54, true)⟩ : Slim) ::
  (⟨some 56, (.binOp .eql 2 (.tmp (55 : Nat)) (.const (.int .i64 0)) 2), some (54, true)⟩ : Slim) ::
  (⟨some 57, (.pick (.tmp (54 : Nat)) (.tmp (56 : Nat)) (.const (.bool false))), none⟩ : Slim) ::
  (⟨some 58, (.move (.tmp (57 : Nat))), none⟩ : Slim) ::
  (⟨some 59, (.move (.tmp (5 : Nat))), some (58, true)⟩ : Slim) ::
  (⟨some 60, (.binOp .eql 2 (.tmp (59 : Nat)) (.const (.int .i64 0)) 2), some (58, true)⟩ : Slim) ::
  (⟨some 61, (.pick (.tmp (58 : Nat)) (.tmp (60 : Nat)) (.const (.bool false))), none⟩ : Slim) ::
  (⟨some 62, (.move (.tmp (61 : Nat))), none⟩ : Slim) ::
  (⟨some 63, (.move (.tmp (3 : Nat))), some (62, true)⟩ : Slim) ::
  (⟨some 64, (.call { callee := (.value (.func 35)), args := #[(.tmp (63 : Nat))], argTypes := #[49] }), some (62, true)⟩ : Slim) ::
  s10_3_7
def s10_3_5 : List Slim := (⟨some 47, (.binOp .eql 2 (.tmp (46 : Nat)) (.const (.int .i64 0)) 2), some (44, true)⟩ : Slim) ::
  (⟨some 48, (.pick (.tmp (44 : Nat)) (.tmp (47 : Nat)) (.const (.bool false))), none⟩ : Slim) ::
  (⟨some 49, (.move (.tmp (48 : Nat))), none⟩ : Slim) ::
  (⟨some 50, (.move (.tmp (3 : Nat))), some (49, true)⟩ : Slim) ::
  (⟨some 51, (.call { callee := (.value (.func 25)), args := #[(.tmp (50 : Nat))], argTypes := #[49] }), some (49, true)⟩ : Slim) ::
  s10_3_6
def s10_3_4 : List Slim := (⟨some 41, (.call { callee := (.builtin .len), args := #[(.tmp (40 : Nat))], argTypes := #[40] }), some (36, true)⟩ : Slim) ::
  (⟨some 42, (.binOp .eql 3 (.tmp (41 : Nat)) (.const (.int .i64 0)) 3), some (36, true)⟩ : Slim) ::
  (⟨some 43, (.pick (.tmp (36 : Nat)) (.tmp (42 : Nat)) (.const (.bool false))), none⟩ : Slim) ::
  (⟨some 44, (.move (.tmp (43 : Nat))), none⟩ : Slim) ::
  (⟨some 45, (.move (.tmp (3 : Nat))), some (44, true)⟩ : Slim) ::
  (⟨some 46, (.call { callee := (.value (.func 24)), args := #[(.tmp (45 : Nat))], argTypes := #[49] }), some (44, true)⟩ : Slim) ::
  s10_3_5
def s10_3_3 : List Slim := (⟨some 34, (.binOp .eql 37 (.tmp (33 : Nat)) (.const (.int .i64 1)) 37), some (27, true)⟩ : Slim) ::
  (⟨some 35, (.pick (.tmp (27 : Nat)) (.tmp (34 : Nat)) (.const (.bool false))), none⟩ : Slim) ::
  (⟨some 36, (.move (.tmp (35 : Nat))), none⟩ : Slim) ::
  (⟨some 37, (.move (.tmp (3 : Nat))), some (36, true)⟩ : Slim) ::
  (⟨some 38, (.fieldAddr 62 (.tmp (1 : Nat)) 1), some (36, true)⟩ : Slim) ::
  (⟨some 39, (.load 2 (.tmp (38 : Nat))), some (36, true)⟩ : Slim) ::
  (⟨some 40, (.call { callee := (.value (.func 28)), args := #[(.tmp (37 : Nat)), (.tmp (39 : Nat)), (.const (.int .i64 5))], argTypes := #[49, 2, 3] }), some (36, true)⟩ : Slim) ::
  s10_3_4
def s10_3_2 : List Slim := (⟨some 25, (.binOp .eql 37 (.tmp (24 : Nat)) (.const (.int .i64 1)) 37), some (20, true)⟩ : Slim) ::
  (⟨some 26, (.pick (.tmp (20 : Nat)) (.tmp (25 : Nat)) (.const (.bool false))), none⟩ : Slim) ::
  (⟨some 27, (.move (.tmp (26 : Nat))), none⟩ : Slim) ::
  (⟨some 28, (.move (.tmp (3 : Nat))), some (27, true)⟩ : Slim) ::
  (⟨some 29, (.fieldAddr 62 (.tmp (1 : Nat)) 1), some (27, true)⟩ : Slim) ::
  (⟨some 30, (.load 2 (.tmp (29 : Nat))), some (27, true)⟩ : Slim) ::
  (⟨some 31, (.fieldAddr 62 (.tmp (1 : Nat)) 2), some (27, true)⟩ : Slim) ::
  (⟨some 32, (.load 2 (.tmp (31 : Nat))), some (27, true)⟩ : Slim) ::
  (⟨some 33, (.call { callee := (.value (.func 27)), args := #[(.tmp (28 : Nat)), (.tmp (30 : Nat)), (.tmp (32 : Nat))], argTypes := #[49, 2, 2] }), some (27, true)⟩ : Slim) ::
  s10_3_3
def s10_3_1 : List Slim := (⟨some 19, (.binOp .eql 37 (.tmp (18 : Nat)) (.const (.int .i64 1)) 37), none⟩ : Slim) ::
  (⟨some 20, (.move (.tmp (19 : Nat))), none⟩ : Slim) ::
  (⟨some 21, (.move (.tmp (3 : Nat))), some (20, true)⟩ : Slim) ::
  (⟨some 22, (.fieldAddr 62 (.tmp (1 : Nat)) 1), some (20, true)⟩ : Slim) ::
  (⟨some 23, (.load 2 (.tmp (22 : Nat))), some (20, true)⟩ : Slim) ::
  (⟨some 24, (.call { callee := (.value (.func 29)), args := #[(.tmp (21 : Nat)), (.tmp (23 : Nat))], argTypes := #[49, 2] }), some (20, true)⟩ : Slim) ::
  s10_3_2
def s10_3 : List Slim := (⟨some 13, (.move (.tmp (3 : Nat))), none⟩ : Slim) ::
  (⟨some 14, (.fieldAddr 62 (.tmp (1 : Nat)) 1), none⟩ : Slim) ::
  (⟨some 15, (.load 2 (.tmp (14 : Nat))), none⟩ : Slim) ::
  (⟨some 16, (.fieldAddr 62 (.tmp (1 : Nat)) 3), none⟩ : Slim) ::
  (⟨some 17, (.load 40 (.tmp (16 : Nat))), none⟩ : Slim) ::
  (⟨some 18, (.call { callee := (.value (.func 26)), args := #[(.tmp (13 : Nat)), (.tmp (15 : Nat)), (.tmp (17 : Nat))], argTypes := #[49, 2, 40] }), none⟩ : Slim) ::
  s10_3_1
abbrev k11 : List Nat := [0, 1, 2, 6, 7, 8, 9, 10, 11, 12, 13, 14, 17, 40, 50, 57]
def s11_0 : List Slim := [⟨some 6, (.assign (.const (.bool false))), none⟩]
def s11_1 : List Slim := [⟨some 15, (.move (.tmp (0 : Nat))), none⟩,
  ⟨some 16, (.move (.tmp (1 : Nat))), none⟩,
  ⟨some 17, (.call { callee := (.value (.func 31)), args := #[(.tmp (15 : Nat)), (.tmp (16 : Nat))], argTypes := #[40, 56] }), none⟩]
def s11_2 : List Slim := [⟨some 18, (.call { callee := (.value (.func 30)), args := #[], argTypes := #[] }), none⟩,
  ⟨some 6, (.assign (.tmp (18 : Nat))), none⟩]
def s11_3 : List Slim := [⟨some 19, (.move (.tmp (0 : Nat))), none⟩,
  ⟨some 20, (.move (.tmp (1 : Nat))), none⟩,
  ⟨some 21, (.call { callee := (.value (.func 32)), args := #[(.tmp (19 : Nat)), (.tmp (20 : Nat))], argTypes := #[40, 56] }), none⟩,
  ⟨some 7, (.assign (.tmp (21 : Nat))), none⟩]
def s11_4 : List Slim := [⟨some 22, (.move (.tmp (7 : Nat))), none⟩,
  ⟨some 23, (.call { callee := (.value (.func 35)), args := #[(.tmp (22 : Nat))], argTypes := #[49] }), none⟩,
  ⟨some 8, (.assign (.tmp (23 : Nat))), none⟩]
def s11_5 : List Slim := [⟨some 24, (.move (.tmp (7 : Nat))), none⟩,
  ⟨some 25, (.call { callee := (.value (.func 24)), args := #[(.tmp (24 : Nat))], argTypes := #[49] }), none⟩,
  ⟨some 9, (.assign (.tmp (25 : Nat))), none⟩]
def s11_6_3 : List Slim := [⟨some 39, (.binOp .neq 37 (.tmp (38 : Nat)) (.const (.int .i64 0)) 37), some (35, false)⟩,
  ⟨some 40, (.pick (.tmp (35 : Nat)) (.const (.bool true)) (.tmp (39 : Nat))), none⟩]
def s11_6_2 : List Slim := (⟨some 33, (.binOp .neq 37 (.tmp (32 : Nat)) (.const (.int .i64 0)) 37), some (30, false)⟩ : Slim) ::
  (⟨some 34, (.pick (.tmp (30 : Nat)) (.const (.bool true)) (.tmp (33 : Nat))), none⟩ : Slim) ::
  (⟨some 35, (.move (.tmp (34 : Nat))), none⟩ : Slim) ::
  (⟨some 36, (.move (.tmp (8 : Nat))), some (35, false)⟩ : Slim) ::
  (⟨some 37, (.move (.tmp (9 : Nat))), some (35, false)⟩ : Slim) ::
  (⟨some 38, (.call { callee := (.value (.func 29)), args := #[(.tmp (36 : Nat)), (.tmp (37 : Nat))], argTypes := #[49, 2] }), some (35, false)⟩ : Slim) ::
  s11_6_3
def s11_6_1 : List Slim := (⟨some 29, (.binOp .neq 37 (.tmp (28 : Nat)) (.const (.int .i64 0)) 37), none⟩ : Slim) ::
  (⟨some 30, (.move (.tmp (29 : Nat))), none⟩ : Slim) ::
  (⟨some 31, (.move (.tmp (8 : Nat))), some (30, false)⟩ : Slim) ::
  (⟨some 32, (.call { callee := (.value (.func 29)), args := #[(.tmp (31 : Nat)), (.const (.int .i64 0))], argTypes := #[49, 2] }), some (30, false)⟩ : Slim) ::
  s11_6_2
def s11_6 : List Slim := (⟨some 26, (.move (.tmp (7 : Nat))), none⟩ : Slim) ::
  (⟨some 27, (.move (.tmp (9 : Nat))), none⟩ : Slim) ::
  (⟨some 28, (.call { callee := (.value (.func 27)), args := #[(.tmp (26 : Nat)), (.const (.int .i64 0)), (.tmp (27 : Nat))], argTypes := #[49, 2, 2] }), none⟩ : Slim) ::
  s11_6_1
def s11_7 : List Slim := [⟨some 6, (.assign (.const (.bool false))), none⟩]
def s11_8 : List Slim := [⟨some 41, (.move (.tmp (7 : Nat))), none⟩,
  ⟨some 42, (.move (.tmp (2 : Nat))), none⟩,
  ⟨some 43, (.call { callee := (.value (.func 28)), args := #[(.tmp (41 : Nat)), (.tmp (42 : Nat)), (.const (.int .i64 50))], argTypes := #[49, 2, 3] }), none⟩,
  ⟨some 10, (.assign (.tmp (43 : Nat))), none⟩]
def s11_9 : List Slim := [⟨some 44, (.move (.tmp (8 : Nat))), none⟩,
  ⟨some 45, (.move (.tmp (2 : Nat))), none⟩,
  ⟨some 46, (.call { callee := (.value (.func 28)), args := #[(.tmp (44 : Nat)), (.tmp (45 : Nat)), (.const (.int .i64 50))], argTypes := #[49, 2, 3] }), none⟩,
  ⟨some 11, (.assign (.tmp (46 : Nat))), none⟩]
def s11_10 : List Slim := [⟨some 12, (.assign (.const (.int .i64 0))), none⟩]
def s11_11 : List Slim := [⟨some 47, (.move (.tmp (12 : Nat))), none⟩,
  ⟨some 48, (.move (.tmp (10 : Nat))), none⟩,
  ⟨some 49, (.call { callee := (.builtin .len), args := #[(.tmp (48 : Nat))], argTypes := #[40] }), none⟩,
  ⟨some 50, (.binOp .lss 3 (.tmp (47 : Nat)) (.tmp (49 : Nat)) 3), none⟩]
def s11_13 : List Slim := [⟨some 53, (.move (.tmp (10 : Nat))), none⟩,
  ⟨some 54, (.move (.tmp (12 : Nat))), none⟩,
  ⟨some 55, (.indexAddr 40 (.tmp (53 : Nat)) (.tmp (54 : Nat))), none⟩,
  ⟨some 56, (.load 5 (.tmp (55 : Nat))), none⟩,
  ⟨some 57, (.binOp .neq 5 (.tmp (56 : Nat)) (.const (.int .u8 0)) 5), none⟩]
def s11_14 : List Slim := [⟨some 6, (.assign (.const (.bool false))), none⟩]
def s11_12 : List Slim := [⟨some 51, (.move (.tmp (12 : Nat))), none⟩,
  ⟨some 52, (.binOp .add 3 (.tmp (51 : Nat)) (.const (.int .i64 1)) 3), none⟩,
  ⟨some 12, (.assign (.tmp (52 : Nat))), none⟩]
def s11_15 : List Slim := [⟨some 59, (.move (.tmp (7 : Nat))), none⟩,
  ⟨some 60, (.call { callee := (.value (.func 33)), args := #[(.tmp (59 : Nat)), (.const (.int .i64 0))], argTypes := #[49, 2] }), none⟩,
  ⟨some 58, (.move (.tmp (60 : Nat))), none⟩,
  ⟨some 61, (.extract (.tmp (58 : Nat)) 0), none⟩,
  ⟨some 62, (.extract (.tmp (58 : Nat)) 1), none⟩,
  ⟨some 13, (.assign (.tmp (61 : Nat))), none⟩,
  ⟨some 14, (.assign (.tmp (62 : Nat))), none⟩]
def s11_16_5 : List Slim := [⟨some 102, (.pick (.tmp (100 : Nat)) (.tmp (101 : Nat)) (.const (.bool false))), none⟩,
  ⟨some 6, (.assign (.tmp (102 : Nat))), none⟩]
def s11_16_4 : List Slim := (⟨some 88, (.binOp .eql 2 (.tmp (87 : Nat)) (.const (.int .i64 0)) 2), some (85, true)⟩ : Slim) ::
  (⟨some 89, (.pick (.tmp (85 : Nat)) (.tmp (88 : Nat)) (.const (.bool false))), none⟩ : Slim) ::
  (⟨some 90, (.move (.tmp (89 : Nat))), none⟩ : Slim) ::
  (⟨some 91, (.move (.tmp (13 : Nat))), some (90, true)⟩ : Slim) ::
  (⟨some 92, (.move (.tmp (9 : Nat))), some (90, true)⟩ : Slim) ::
  (⟨some 93, (.binOp .eql 2 (.tmp (91 : Nat)) (.tmp (92 : Nat)) 2), some (90, true)⟩ : Slim) ::
  (⟨some 94, (.pick (.tmp (90 : Nat)) (.tmp (93 : Nat)) (.const (.bool false))), none⟩ : Slim) ::
  (⟨some 95, (.move (.tmp (94 : Nat))), none⟩ : Slim) ::
  (⟨some 96, (.move (.tmp (14 : Nat))), some (95, true)⟩ : Slim) ::
  (⟨some 97, (.move (.tmp (9 : Nat))), some (95, true)⟩ : Slim) ::
  (⟨some 98, (.binOp .eql 2 (.tmp (96 : Nat)) (.tmp (97 : Nat)) 2), some (95, true)⟩ : Slim) ::
  (⟨some 99, (.pick (.tmp (95 : Nat)) (.tmp (98 : Nat)) (.const (.bool false))), none⟩ : Slim) ::
  (⟨some 100, (.move (.tmp (99 : Nat))), none⟩ : Slim) ::
  (⟨some 101, (.call { callee := (.value (.func 30)), args := #[], argTypes := #[] }), some (100, true)⟩ : Slim) ::
  s11_16_5
def s11_16_3 : List Slim := (⟨some 83, (.binOp .eql 2 (.tmp (82 : Nat)) (.const (.int .i64 0)) 2), some (80, true)⟩ : Slim) ::
  (⟨some 84, (.pick (.tmp (80 : Nat)) (.tmp (83 : Nat)) (.const (.bool false))), none⟩ : Slim) ::
  (⟨some 85, (.move (.tmp (84 : Nat))), none⟩ : Slim) ::
  (⟨some 86, (.move (.tmp (8 : Nat))), some (85, true)⟩ : Slim) ::
  (⟨some 87, (.call { callee := (.value (.func 25)), args := #[(.tmp (86 : Nat))], argTypes := #[49] }), some (85, true)⟩ : Slim) ::
  s11_16_4
def s11_16_2 : List Slim := (⟨some 77, (.move (.tmp (9 : Nat))), some (74, true)⟩ : Slim) ::
  (⟨some 78, (.binOp .eql 2 (.tmp (76 : Nat)) (.tmp (77 : Nat)) 2), some (74, true)⟩ : Slim) ::
  (⟨some 79, (.pick (.tmp (74 : Nat)) (.tmp (78 : Nat)) (.const (.bool false))), none⟩ : Slim) ::
  (⟨some 80, (.move (.tmp (79 : Nat))), none⟩ : Slim) ::
  (⟨some 81, (.move (.tmp (7 : Nat))), some (80, true)⟩ : Slim) ::
  (⟨some 82, (.call { callee := (.value (.func 25)), args := #[(.tmp (81 : Nat))], argTypes := #[49] }), some (80, true)⟩ : Slim) ::
  s11_16_3
def s11_16_1 : List Slim := (⟨some 71, (.move (.tmp (9 : Nat))), some (68, true)⟩ : Slim) ::
  (⟨some 72, (.binOp .eql 2 (.tmp (70 : Nat)) (.tmp (71 : Nat)) 2), some (68, true)⟩ : Slim) ::
  (⟨some 73, (.pick (.tmp (68 : Nat)) (.tmp (72 : Nat)) (.const (.bool false))), none⟩ : Slim) ::
  (⟨some 74, (.move (.tmp (73 : Nat))), none⟩ : Slim) ::
  (⟨some 75, (.move (.tmp (8 : Nat))), some (74, true)⟩ : Slim) ::
  (⟨some 76, (.call { callee := (.value (.func 24)), args := #[(.tmp (75 : Nat))], argTypes := #[49] }), some (74, true)⟩ : Slim) ::
  s11_16_2
def s11_16 : List Slim := (⟨some 63, (.move (.tmp (10 : Nat))), none⟩ : Slim) ::
  (⟨some 64, (.convert 40 9 (.tmp (63 : Nat))), none⟩ : Slim) ::
  (⟨some 65, (.move (.tmp (11 : Nat))), none⟩ : Slim) ::
  (⟨some 66, (.convert 40 9 (.tmp (65 : Nat))), none⟩ : Slim) ::
  (⟨some 67, (.binOp .eql 9 (.tmp (64 : Nat)) (.tmp (66 : Nat)) 9), none⟩ : Slim) ::
  (⟨some 68, (.move (.tmp (67 : Nat))), none⟩ : Slim) ::
  (⟨some 69, (.move (.tmp (7 : Nat))), some (68, true)⟩ : Slim) ::
  (⟨some 70, (.call { callee := (.value (.func 24)), args := #[(.tmp (69 : Nat))], argTypes := #[49] }), some (68, true)⟩ : Slim) ::
  s11_16_1
abbrev k12 : List Nat := [0, 2, 3, 4, 16]
def s12_0 : List Slim := [⟨some 2, (.assign (.const (.bool false))), none⟩]
def s12_1 : List Slim := [⟨some 3, (.assign (.const (.int .i64 0))), none⟩]
def s12_2 : List Slim := [⟨some 4, (.assign (.const (.int .i64 0))), none⟩]
def s12_3 : List Slim := [⟨some 5, (.move (.tmp (4 : Nat))), none⟩,
  ⟨some 6, (.move (.tmp (0 : Nat))), none⟩,
  ⟨some 7, (.call { callee := (.builtin .len), args := #[(.tmp (6 : Nat))], argTypes := #[22] }), none⟩,
  ⟨some 8, (.binOp .lss 3 (.tmp (5 : Nat)) (.tmp (7 : Nat)) 3), none⟩,
  ⟨some 9, (.move (.tmp (8 : Nat))), none⟩,
  ⟨some 10, (.move (.tmp (4 : Nat))), some (9, true)⟩,
  ⟨some 11, (.binOp .leq 3 (.tmp (10 : Nat)) (.const (.int .i64 40)) 3), some (9, true)⟩,
  ⟨some 12, (.pick (.tmp (9 : Nat)) (.tmp (11 : Nat)) (.const (.bool false))), none⟩,
  ⟨some 13, (.move (.tmp (12 : Nat))), none⟩,
  ⟨some 14, (.move (.tmp (3 : Nat))), some (13, true)⟩,
  ⟨some 15, (.binOp .leq 3 (.tmp (14 : Nat)) (.const (.int .i64 16384)) 3), some (13, true)⟩,
  ⟨some 16, (.pick (.tmp (13 : Nat)) (.tmp (15 : Nat)) (.const (.bool false))), none⟩]
def s12_5 : List Slim := [⟨some 19, (.move (.tmp (3 : Nat))), none⟩,
  ⟨some 20, (.move (.tmp (0 : Nat))), none⟩,
  ⟨some 21, (.move (.tmp (4 : Nat))), none⟩,
  ⟨some 22, (.indexAddr 22 (.tmp (20 : Nat)) (.tmp (21 : Nat))), none⟩,
  ⟨some 23, (.fieldAddr 34 (.tmp (22 : Nat)) 1), none⟩,
  ⟨some 24, (.load 9 (.tmp (23 : Nat))), none⟩,
  ⟨some 25, (.call { callee := (.builtin .len), args := #[(.tmp (24 : Nat))], argTypes := #[9] }), none⟩,
  ⟨some 26, (.binOp .add 3 (.tmp (19 : Nat)) (.tmp (25 : Nat)) 3), none⟩,
  ⟨some 3, (.assign (.tmp (26 : Nat))), none⟩]
def s12_4 : List Slim := [⟨some 17, (.move (.tmp (4 : Nat))), none⟩,
  ⟨some 18, (.binOp .add 3 (.tmp (17 : Nat)) (.const (.int .i64 1)) 3), none⟩,
  ⟨some 4, (.assign (.tmp (18 : Nat))), none⟩]
def s12_6 : List Slim := [⟨some 27, (.move (.tmp (0 : Nat))), none⟩,
  ⟨some 28, (.call { callee := (.builtin .len), args := #[(.tmp (27 : Nat))], argTypes := #[22] }), none⟩,
  ⟨some 29, (.binOp .gtr 3 (.tmp (28 : Nat)) (.const (.int .i64 40)) 3), none⟩,
  ⟨some 30, (.move (.tmp (29 : Nat))), none⟩,
  ⟨some 31, (.move (.tmp (3 : Nat))), some (30, false)⟩,
  ⟨some 32, (.binOp .gtr 3 (.tmp (31 : Nat)) (.const (.int .i64 16384)) 3), some (30, false)⟩,
  ⟨some 33, (.pick (.tmp (30 : Nat)) (.const (.bool true)) (.tmp (32 : Nat))), none⟩,
  ⟨some 2, (.assign (.tmp (33 : Nat))), none⟩]
abbrev k13 : List Nat := [0, 1, 2, 3, 4, 6, 7, 9, 11, 34]
def s13_0 : List Slim := [⟨some 0, (.assign (.const (.bool false))), none⟩]
def s13_1 : List Slim := [⟨some 12, (.call { callee := (.value (.func 20)), args := #[(.const (.string { data := #[97] }))], argTypes := #[9] }), none⟩,
  ⟨some 1, (.assign (.tmp (12 : Nat))), none⟩]
def s13_2 : List Slim := [⟨some 13, (.call { callee := (.value (.func 21)), args := #[(.const (.string { data := #[97] }))], argTypes := #[9] }), none⟩,
  ⟨some 2, (.assign (.tmp (13 : Nat))), none⟩]
def s13_3 : List Slim := [⟨some 14, (.call { callee := (.value (.func 22)), args := #[(.const (.string { data := #[97] }))], argTypes := #[9] }), none⟩,
  ⟨some 3, (.assign (.tmp (14 : Nat))), none⟩]
def s13_4 : List Slim := [⟨some 16, (.buildSlice 40 1 #[(0, (.const (.int .u8 120)))]), none⟩,
  ⟨some 17, (.convert 40 40 (.tmp (16 : Nat))), none⟩,
  ⟨some 18, (.call { callee := (.value (.func 15)), args := #[(.tmp (17 : Nat)), (.const (.int .u8 0))], argTypes := #[40, 5] }), none⟩,
  ⟨some 15, (.move (.tmp (18 : Nat))), none⟩,
  ⟨some 19, (.extract (.tmp (15 : Nat)) 0), none⟩,
  ⟨some 20, (.extract (.tmp (15 : Nat)) 1), none⟩,
  ⟨some 4, (.assign (.tmp (19 : Nat))), none⟩,
  ⟨some 5, (.assign (.tmp (20 : Nat))), none⟩]
def s13_5 : List Slim := [⟨some 21, (.move (.tmp (1 : Nat))), none⟩,
  ⟨some 22, (.binOp .eql 29 (.tmp (21 : Nat)) (.const (.pointer none)) 29), none⟩,
  ⟨some 23, (.move (.tmp (22 : Nat))), none⟩,
  ⟨some 24, (.move (.tmp (2 : Nat))), some (23, false)⟩,
  ⟨some 25, (.binOp .eql 29 (.tmp (24 : Nat)) (.const (.pointer none)) 29), some (23, false)⟩,
  ⟨some 26, (.pick (.tmp (23 : Nat)) (.const (.bool true)) (.tmp (25 : Nat))), none⟩,
  ⟨some 27, (.move (.tmp (26 : Nat))), none⟩,
  ⟨some 28, (.move (.tmp (3 : Nat))), some (27, false)⟩,
  ⟨some 29, (.binOp .eql 29 (.tmp (28 : Nat)) (.const (.pointer none)) 29), some (27, false)⟩,
  ⟨some 30, (.pick (.tmp (27 : Nat)) (.const (.bool true)) (.tmp (29 : Nat))), none⟩,
  ⟨some 31, (.move (.tmp (30 : Nat))), none⟩,
  ⟨some 32, (.move (.tmp (4 : Nat))), some (31, false)⟩,
  ⟨some 33, (.binOp .eql 36 (.tmp (32 : Nat)) (.const (.pointer none)) 36), some (31, false)⟩,
  ⟨some 34, (.pick (.tmp (31 : Nat)) (.const (.bool true)) (.tmp (33 : Nat))), none⟩]
def s13_6 : List Slim := [⟨some 0, (.assign (.const (.bool false))), none⟩]
def s13_7_2 : List Slim := [⟨some 40, (.call { callee := (.value (.func 18)), args := #[(.tmp (36 : Nat)), (.tmp (39 : Nat))], argTypes := #[29, 41] }), none⟩,
  ⟨some 35, (.move (.tmp (40 : Nat))), none⟩,
  ⟨some 41, (.extract (.tmp (35 : Nat)) 0), none⟩,
  ⟨some 42, (.extract (.tmp (35 : Nat)) 1), none⟩,
  ⟨some 6, (.assign (.tmp (41 : Nat))), none⟩,
  ⟨some 7, (.assign (.tmp (42 : Nat))), none⟩]
def s13_7_1 : List Slim := (⟨some 37, (.move (.tmp (2 : Nat))), none⟩ : Slim) ::
  (⟨some 38, (.move (.tmp (4 : Nat))), none⟩ : Slim) ::
  (⟨some 39, (.call { callee := (.value (.func 16)), args := #[(.tmp (37 : Nat)), (.tmp (38 : Nat))], argTypes := #[29, 36] }), none⟩ : Slim) ::
  s13_7_2
def s13_7 : List Slim := (⟨some 36, (.call { callee := (.value (.func 21)), args := #[(.const (.string { data := #[97] }))], argTypes := #[9] }), none⟩ : Slim) ::
  s13_7_1
def s13_8_1 : List Slim := [⟨some 48, (.call { callee := (.value (.func 18)), args := #[(.tmp (44 : Nat)), (.tmp (47 : Nat))], argTypes := #[29, 41] }), none⟩,
  ⟨some 43, (.move (.tmp (48 : Nat))), none⟩,
  ⟨some 49, (.extract (.tmp (43 : Nat)) 0), none⟩,
  ⟨some 50, (.extract (.tmp (43 : Nat)) 1), none⟩,
  ⟨some 8, (.assign (.tmp (49 : Nat))), none⟩,
  ⟨some 9, (.assign (.tmp (50 : Nat))), none⟩]
def s13_8 : List Slim := (⟨some 44, (.move (.tmp (3 : Nat))), none⟩ : Slim) ::
  (⟨some 45, (.move (.tmp (3 : Nat))), none⟩ : Slim) ::
  (⟨some 46, (.move (.tmp (4 : Nat))), none⟩ : Slim) ::
  (⟨some 47, (.call { callee := (.value (.func 16)), args := #[(.tmp (45 : Nat)), (.tmp (46 : Nat))], argTypes := #[29, 36] }), none⟩ : Slim) ::
  s13_8_1
def s13_9_1 : List Slim := [⟨some 56, (.call { callee := (.value (.func 18)), args := #[(.tmp (52 : Nat)), (.tmp (55 : Nat))], argTypes := #[29, 41] }), none⟩,
  ⟨some 51, (.move (.tmp (56 : Nat))), none⟩,
  ⟨some 57, (.extract (.tmp (51 : Nat)) 0), none⟩,
  ⟨some 58, (.extract (.tmp (51 : Nat)) 1), none⟩,
  ⟨some 10, (.assign (.tmp (57 : Nat))), none⟩,
  ⟨some 11, (.assign (.tmp (58 : Nat))), none⟩]
def s13_9 : List Slim := (⟨some 52, (.move (.tmp (1 : Nat))), none⟩ : Slim) ::
  (⟨some 53, (.move (.tmp (2 : Nat))), none⟩ : Slim) ::
  (⟨some 54, (.move (.tmp (4 : Nat))), none⟩ : Slim) ::
  (⟨some 55, (.call { callee := (.value (.func 16)), args := #[(.tmp (53 : Nat)), (.tmp (54 : Nat))], argTypes := #[29, 36] }), none⟩ : Slim) ::
  s13_9_1
def s13_10_6 : List Slim := [⟨some 78, (.unOp .not 4 (.tmp (77 : Nat))), some (74, true)⟩,
  ⟨some 79, (.pick (.tmp (74 : Nat)) (.tmp (78 : Nat)) (.const (.bool false))), none⟩,
  ⟨some 80, (.move (.tmp (79 : Nat))), none⟩,
  ⟨some 81, (.move (.tmp (7 : Nat))), some (80, true)⟩,
  ⟨some 82, (.binOp .eql 37 (.tmp (81 : Nat)) (.const (.int .i64 0)) 37), some (80, true)⟩,
  ⟨some 83, (.pick (.tmp (80 : Nat)) (.tmp (82 : Nat)) (.const (.bool false))), none⟩,
  ⟨some 84, (.move (.tmp (83 : Nat))), none⟩,
  ⟨some 85, (.move (.tmp (6 : Nat))), some (84, true)⟩,
  ⟨some 86, (.move (.tmp (4 : Nat))), some (84, true)⟩,
  ⟨some 87, (.binOp .eql 36 (.tmp (85 : Nat)) (.tmp (86 : Nat)) 36), some (84, true)⟩,
  ⟨some 88, (.pick (.tmp (84 : Nat)) (.tmp (87 : Nat)) (.const (.bool false))), none⟩,
  ⟨some 89, (.move (.tmp (88 : Nat))), none⟩,
  ⟨some 90, (.move (.tmp (9 : Nat))), some (89, true)⟩,
  ⟨some 91, (.binOp .eql 37 (.tmp (90 : Nat)) (.const (.int .i64 160)) 37), some (89, true)⟩,
  ⟨some 92, (.pick (.tmp (89 : Nat)) (.tmp (91 : Nat)) (.const (.bool false))), none⟩,
  ⟨some 93, (.move (.tmp (92 : Nat))), none⟩,
  ⟨some 94, (.move (.tmp (11 : Nat))), some (93, true)⟩,
  ⟨some 95, (.binOp .eql 37 (.tmp (94 : Nat)) (.const (.int .i64 160)) 37), some (93, true)⟩,
  ⟨some 96, (.pick (.tmp (93 : Nat)) (.tmp (95 : Nat)) (.const (.bool false))), none⟩,
  ⟨some 0, (.assign (.tmp (96 : Nat))), none⟩]
def s13_10_5 : List Slim := (⟨some 72, (.unOp .not 4 (.tmp (71 : Nat))), some (68, true)⟩ : Slim) ::
  (⟨some 73, (.pick (.tmp (68 : Nat)) (.tmp (72 : Nat)) (.const (.bool false))), none⟩ : Slim) ::
  (⟨some 74, (.move (.tmp (73 : Nat))), none⟩ : Slim) ::
  (⟨some 75, (.move (.tmp (3 : Nat))), some (74, true)⟩ : Slim) ::
  (⟨some 76, (.move (.tmp (3 : Nat))), some (74, true)⟩ : Slim) ::
  (⟨some 77, (.call { callee := (.value (.func 19)), args := #[(.tmp (75 : Nat)), (.tmp (76 : Nat))], argTypes := #[29, 29] }), some (74, true)⟩ : Slim) ::
  s13_10_6
def s13_10_4 : List Slim := (⟨some 71, (.call { callee := (.value (.func 19)), args := #[(.tmp (69 : Nat)), (.tmp (70 : Nat))], argTypes := #[29, 29] }), some (68, true)⟩ : Slim) ::
  s13_10_5
def s13_10_3 : List Slim := (⟨some 66, (.unOp .not 4 (.tmp (65 : Nat))), some (62, true)⟩ : Slim) ::
  (⟨some 67, (.pick (.tmp (62 : Nat)) (.tmp (66 : Nat)) (.const (.bool false))), none⟩ : Slim) ::
  (⟨some 68, (.move (.tmp (67 : Nat))), none⟩ : Slim) ::
  (⟨some 69, (.move (.tmp (2 : Nat))), some (68, true)⟩ : Slim) ::
  (⟨some 70, (.call { callee := (.value (.func 21)), args := #[(.const (.string { data := #[98] }))], argTypes := #[9] }), some (68, true)⟩ : Slim) ::
  s13_10_4
def s13_10_2 : List Slim := (⟨some 65, (.call { callee := (.value (.func 19)), args := #[(.tmp (63 : Nat)), (.tmp (64 : Nat))], argTypes := #[29, 29] }), some (62, true)⟩ : Slim) ::
  s13_10_3
def s13_10_1 : List Slim := (⟨some 62, (.move (.tmp (61 : Nat))), none⟩ : Slim) ::
  (⟨some 63, (.move (.tmp (1 : Nat))), some (62, true)⟩ : Slim) ::
  (⟨some 64, (.call { callee := (.value (.func 20)), args := #[(.const (.string { data := #[97] }))], argTypes := #[9] }), some (62, true)⟩ : Slim) ::
  s13_10_2
def s13_10 : List Slim := (⟨some 59, (.move (.tmp (1 : Nat))), none⟩ : Slim) ::
  (⟨some 60, (.move (.tmp (1 : Nat))), none⟩ : Slim) ::
  (⟨some 61, (.call { callee := (.value (.func 19)), args := #[(.tmp (59 : Nat)), (.tmp (60 : Nat))], argTypes := #[29, 29] }), none⟩ : Slim) ::
  s13_10_1
abbrev k14 : List Nat := [0, 1, 2, 4, 5, 7, 8, 17]
def s14_0 : List Slim := [⟨some 2, (.box 34 (.tmp (0 : Nat))), none⟩,
  ⟨some 4, (.assign (.const (.pointer none))), none⟩,
  ⟨some 5, (.alloc 31), none⟩]
def s14_1 : List Slim := [⟨some 6, (.fieldAddr 34 (.tmp (2 : Nat)) 0), none⟩,
  ⟨some 7, (.load 3 (.tmp (6 : Nat))), none⟩]
def s14_2 : List Slim := [⟨some 9, (.binOp .eql 3 (.tmp (7 : Nat)) (.const (.int .i64 0)) 3), none⟩,
  ⟨some 8, (.assign (.tmp (9 : Nat))), none⟩]
def s14_3 : List Slim := [⟨some 10, (.fieldAddr 34 (.tmp (2 : Nat)) 1), none⟩,
  ⟨some 11, (.load 9 (.tmp (10 : Nat))), none⟩,
  ⟨some 12, (.call { callee := (.value (.func 20)), args := #[(.tmp (11 : Nat))], argTypes := #[9] }), none⟩,
  ⟨some 13, (.move (.tmp (1 : Nat))), none⟩,
  ⟨some 14, (.fieldAddr 34 (.tmp (2 : Nat)) 1), none⟩,
  ⟨some 15, (.load 9 (.tmp (14 : Nat))), none⟩,
  ⟨some 16, (.build 31 #[(0, (.const (.int .i64 0))), (1, (.tmp (13 : Nat))), (2, (.tmp (15 : Nat)))]), none⟩,
  ⟨some 4, (.assign (.tmp (12 : Nat))), none⟩,
  ⟨none, (.store 31 (.tmp (5 : Nat)) (.tmp (16 : Nat))), none⟩]
def p14_3_1 : Plan := (Plan.take 7 (Plan.eff 8 false Plan.nil))
def p14_3 : Plan := (Plan.take 0 (Plan.take 1 (Plan.take 3 (Plan.take 4 (Plan.take 5 (Plan.take 6 (Plan.eff 2 true p14_3_1)))))))
def s14_4 : List Slim := [⟨some 18, (.binOp .eql 3 (.tmp (7 : Nat)) (.const (.int .i64 1)) 3), none⟩,
  ⟨some 17, (.assign (.tmp (18 : Nat))), none⟩]
def s14_5 : List Slim := [⟨some 19, (.fieldAddr 34 (.tmp (2 : Nat)) 1), none⟩,
  ⟨some 20, (.load 9 (.tmp (19 : Nat))), none⟩,
  ⟨some 21, (.call { callee := (.value (.func 21)), args := #[(.tmp (20 : Nat))], argTypes := #[9] }), none⟩,
  ⟨some 22, (.move (.tmp (1 : Nat))), none⟩,
  ⟨some 23, (.fieldAddr 34 (.tmp (2 : Nat)) 1), none⟩,
  ⟨some 24, (.load 9 (.tmp (23 : Nat))), none⟩,
  ⟨some 25, (.build 31 #[(0, (.const (.int .i64 1))), (1, (.tmp (22 : Nat))), (2, (.tmp (24 : Nat)))]), none⟩,
  ⟨some 4, (.assign (.tmp (21 : Nat))), none⟩,
  ⟨none, (.store 31 (.tmp (5 : Nat)) (.tmp (25 : Nat))), none⟩]
def p14_5_1 : Plan := (Plan.take 7 (Plan.eff 8 false Plan.nil))
def p14_5 : Plan := (Plan.take 0 (Plan.take 1 (Plan.take 3 (Plan.take 4 (Plan.take 5 (Plan.take 6 (Plan.eff 2 true p14_5_1)))))))
def s14_6 : List Slim := [⟨some 26, (.fieldAddr 34 (.tmp (2 : Nat)) 1), none⟩,
  ⟨some 27, (.load 9 (.tmp (26 : Nat))), none⟩,
  ⟨some 28, (.call { callee := (.value (.func 22)), args := #[(.tmp (27 : Nat))], argTypes := #[9] }), none⟩,
  ⟨some 29, (.move (.tmp (1 : Nat))), none⟩,
  ⟨some 30, (.fieldAddr 34 (.tmp (2 : Nat)) 1), none⟩,
  ⟨some 31, (.load 9 (.tmp (30 : Nat))), none⟩,
  ⟨some 32, (.build 31 #[(0, (.const (.int .i64 2))), (1, (.tmp (29 : Nat))), (2, (.tmp (31 : Nat)))]), none⟩,
  ⟨some 4, (.assign (.tmp (28 : Nat))), none⟩,
  ⟨none, (.store 31 (.tmp (5 : Nat)) (.tmp (32 : Nat))), none⟩]
def p14_6_1 : Plan := (Plan.take 7 (Plan.eff 8 false Plan.nil))
def p14_6 : Plan := (Plan.take 0 (Plan.take 1 (Plan.take 3 (Plan.take 4 (Plan.take 5 (Plan.take 6 (Plan.eff 2 true p14_6_1)))))))
abbrev k15 : List Nat := [0, 1, 4, 5, 6, 9]
def s15_0 : List Slim := [⟨some 4, (.assign (.const (.pointer none))), none⟩,
  ⟨some 5, (.assign (.const (.int .i64 0))), none⟩]
def s15_1 : List Slim := [⟨some 7, (.move (.tmp (1 : Nat))), none⟩,
  ⟨some 8, (.binOp .gtr 5 (.tmp (7 : Nat)) (.const (.int .u8 15)) 5), none⟩,
  ⟨some 6, (.assign (.tmp (8 : Nat))), none⟩]
def s15_2 : List Slim := [⟨some 4, (.assign (.const (.pointer none))), none⟩,
  ⟨some 5, (.assign (.const (.int .i64 2))), none⟩]
def s15_3 : List Slim := [⟨some 10, (.move (.tmp (0 : Nat))), none⟩,
  ⟨some 11, (.call { callee := (.builtin .len), args := #[(.tmp (10 : Nat))], argTypes := #[40] }), none⟩,
  ⟨some 12, (.binOp .gtr 3 (.tmp (11 : Nat)) (.const (.int .i64 4194304)) 3), none⟩,
  ⟨some 9, (.assign (.tmp (12 : Nat))), none⟩]
def s15_4 : List Slim := [⟨some 4, (.assign (.const (.pointer none))), none⟩,
  ⟨some 5, (.assign (.const (.int .i64 3))), none⟩]
def s15_5_1 : List Slim := [⟨some 15, (.move (.tmp (1 : Nat))), none⟩,
  ⟨some 16, (.call { callee := (.value (.func 39)), args := #[(.tmp (14 : Nat)), (.tmp (15 : Nat))], argTypes := #[49, 5] }), none⟩,
  ⟨some 17, (.extract (.tmp (16 : Nat)) 0), none⟩,
  ⟨some 18, (.extract (.tmp (16 : Nat)) 1), none⟩,
  ⟨some 4, (.assign (.tmp (17 : Nat))), none⟩,
  ⟨some 5, (.assign (.tmp (18 : Nat))), none⟩]
def s15_5 : List Slim := (⟨some 13, (.move (.tmp (0 : Nat))), none⟩ : Slim) ::
  (⟨some 14, (.call { callee := (.value (.func 23)), args := #[(.tmp (13 : Nat))], argTypes := #[40] }), none⟩ : Slim) ::
  s15_5_1
abbrev k16 : List Nat := [0, 1, 4, 10]
def s16_0 : List Slim := [⟨some 4, (.assign (.const (.pointer none))), none⟩]
def s16_1 : List Slim := [⟨some 5, (.move (.tmp (0 : Nat))), none⟩,
  ⟨some 6, (.binOp .eql 29 (.tmp (5 : Nat)) (.const (.pointer none)) 29), none⟩,
  ⟨some 7, (.move (.tmp (6 : Nat))), none⟩,
  ⟨some 8, (.move (.tmp (1 : Nat))), some (7, false)⟩,
  ⟨some 9, (.binOp .eql 36 (.tmp (8 : Nat)) (.const (.pointer none)) 36), some (7, false)⟩,
  ⟨some 10, (.pick (.tmp (7 : Nat)) (.const (.bool true)) (.tmp (9 : Nat))), none⟩]
def s16_2 : List Slim := [⟨some 4, (.assign (.const (.pointer none))), none⟩]
def s16_3 : List Slim := [⟨some 11, (.move (.tmp (0 : Nat))), none⟩,
  ⟨some 12, (.move (.tmp (1 : Nat))), none⟩,
  ⟨some 13, (.build 74 #[(0, (.tmp (11 : Nat))), (1, (.tmp (12 : Nat)))]), none⟩,
  ⟨some 14, (.box 74 (.tmp (13 : Nat))), none⟩,
  ⟨some 4, (.assign (.tmp (14 : Nat))), none⟩]
abbrev k17 : List Nat := [0, 1, 2, 3, 4, 9, 12]
def s17_0 : List Slim := [⟨some 2, (.box 31 (.tmp (0 : Nat))), none⟩,
  ⟨some 3, (.box 31 (.tmp (1 : Nat))), none⟩,
  ⟨some 4, (.assign (.const (.bool false))), none⟩]
def s17_1 : List Slim := [⟨some 5, (.fieldAddr 31 (.tmp (2 : Nat)) 0), none⟩,
  ⟨some 6, (.load 3 (.tmp (5 : Nat))), none⟩,
  ⟨some 7, (.fieldAddr 31 (.tmp (3 : Nat)) 0), none⟩,
  ⟨some 8, (.load 3 (.tmp (7 : Nat))), none⟩,
  ⟨some 9, (.binOp .neq 3 (.tmp (6 : Nat)) (.tmp (8 : Nat)) 3), none⟩]
def s17_2 : List Slim := [⟨some 4, (.assign (.const (.bool false))), none⟩]
def s17_3 : List Slim := [⟨some 10, (.fieldAddr 31 (.tmp (2 : Nat)) 0), none⟩,
  ⟨some 11, (.load 3 (.tmp (10 : Nat))), none⟩,
  ⟨some 12, (.binOp .eql 3 (.tmp (11 : Nat)) (.const (.int .i64 0)) 3), none⟩]
def s17_4 : List Slim := [⟨some 13, (.fieldAddr 31 (.tmp (2 : Nat)) 1), none⟩,
  ⟨some 14, (.load 3 (.tmp (13 : Nat))), none⟩,
  ⟨some 15, (.fieldAddr 31 (.tmp (3 : Nat)) 1), none⟩,
  ⟨some 16, (.load 3 (.tmp (15 : Nat))), none⟩,
  ⟨some 17, (.binOp .eql 3 (.tmp (14 : Nat)) (.tmp (16 : Nat)) 3), none⟩,
  ⟨some 4, (.assign (.tmp (17 : Nat))), none⟩]
def s17_5 : List Slim := [⟨some 18, (.fieldAddr 31 (.tmp (2 : Nat)) 0), none⟩,
  ⟨some 19, (.load 3 (.tmp (18 : Nat))), none⟩,
  ⟨some 20, (.binOp .eql 3 (.tmp (19 : Nat)) (.const (.int .i64 1)) 3), none⟩,
  ⟨some 21, (.move (.tmp (20 : Nat))), none⟩,
  ⟨some 22, (.fieldAddr 31 (.tmp (2 : Nat)) 2), some (21, true)⟩,
  ⟨some 23, (.load 9 (.tmp (22 : Nat))), some (21, true)⟩,
  ⟨some 24, (.fieldAddr 31 (.tmp (3 : Nat)) 2), some (21, true)⟩,
  ⟨some 25, (.load 9 (.tmp (24 : Nat))), some (21, true)⟩,
  ⟨some 26, (.binOp .eql 9 (.tmp (23 : Nat)) (.tmp (25 : Nat)) 9), some (21, true)⟩,
  ⟨some 27, (.pick (.tmp (21 : Nat)) (.tmp (26 : Nat)) (.const (.bool false))), none⟩,
  ⟨some 4, (.assign (.tmp (27 : Nat))), none⟩]
abbrev k18 : List Nat := [0, 1, 4, 5, 6, 13]
def s18_0 : List Slim := [⟨some 4, (.assign (.const (.pointer none))), none⟩,
  ⟨some 5, (.assign (.const (.int .i64 0))), none⟩]
def s18_1 : List Slim := [⟨some 7, (.move (.tmp (0 : Nat))), none⟩,
  ⟨some 8, (.binOp .eql 29 (.tmp (7 : Nat)) (.const (.pointer none)) 29), none⟩,
  ⟨some 9, (.move (.tmp (8 : Nat))), none⟩,
  ⟨some 10, (.move (.tmp (1 : Nat))), some (9, false)⟩,
  ⟨some 11, (.binOp .eql 41 (.tmp (10 : Nat)) (.const (.pointer none)) 41), some (9, false)⟩,
  ⟨some 12, (.pick (.tmp (9 : Nat)) (.const (.bool true)) (.tmp (11 : Nat))), none⟩,
  ⟨some 6, (.assign (.tmp (12 : Nat))), none⟩]
def s18_2 : List Slim := [⟨some 4, (.assign (.const (.pointer none))), none⟩,
  ⟨some 5, (.assign (.const (.int .i64 1))), none⟩]
def s18_3_1 : List Slim := [⟨some 20, (.unOp .not 4 (.tmp (19 : Nat))), none⟩,
  ⟨some 13, (.assign (.tmp (20 : Nat))), none⟩]
def s18_3 : List Slim := (⟨some 14, (.move (.tmp (0 : Nat))), none⟩ : Slim) ::
  (⟨some 15, (.move (.tmp (1 : Nat))), none⟩ : Slim) ::
  (⟨some 16, (.nilCheck (.tmp (15 : Nat))), none⟩ : Slim) ::
  (⟨some 17, (.fieldAddr 74 (.tmp (16 : Nat)) 0), none⟩ : Slim) ::
  (⟨some 18, (.load 29 (.tmp (17 : Nat))), none⟩ : Slim) ::
  (⟨some 19, (.call { callee := (.value (.func 19)), args := #[(.tmp (14 : Nat)), (.tmp (18 : Nat))], argTypes := #[29, 29] }), none⟩ : Slim) ::
  s18_3_1
def s18_4 : List Slim := [⟨some 4, (.assign (.const (.pointer none))), none⟩,
  ⟨some 5, (.assign (.const (.int .i64 160))), none⟩]
def s18_5 : List Slim := [⟨some 21, (.move (.tmp (1 : Nat))), none⟩,
  ⟨some 22, (.nilCheck (.tmp (21 : Nat))), none⟩,
  ⟨some 23, (.fieldAddr 74 (.tmp (22 : Nat)) 1), none⟩,
  ⟨some 24, (.load 36 (.tmp (23 : Nat))), none⟩,
  ⟨some 4, (.assign (.tmp (24 : Nat))), none⟩,
  ⟨some 5, (.assign (.const (.int .i64 0))), none⟩]
abbrev k19 : List Nat := [0, 1, 4, 10]
def s19_0 : List Slim := [⟨some 4, (.alloc 4), none⟩]
def s19_1 : List Slim := [⟨some 5, (.move (.tmp (0 : Nat))), none⟩,
  ⟨some 6, (.binOp .eql 29 (.tmp (5 : Nat)) (.const (.pointer none)) 29), none⟩,
  ⟨some 7, (.move (.tmp (6 : Nat))), none⟩,
  ⟨some 8, (.move (.tmp (1 : Nat))), some (7, false)⟩,
  ⟨some 9, (.binOp .eql 29 (.tmp (8 : Nat)) (.const (.pointer none)) 29), some (7, false)⟩,
  ⟨some 10, (.pick (.tmp (7 : Nat)) (.const (.bool true)) (.tmp (9 : Nat))), none⟩]
def s19_2 : List Slim := [⟨none, (.store 4 (.tmp (4 : Nat)) (.const (.bool false))), none⟩]
def s19_3 : List Slim := [⟨some 11, (.makeFunc (.func 40) #[] #[(.tmp (4 : Nat))]), none⟩,
  ⟨none, (.defer { callee := (.value (.tmp (11 : Nat))), args := #[], argTypes := #[] }), none⟩]
def s19_4 : List Slim := [⟨some 12, (.move (.tmp (0 : Nat))), none⟩,
  ⟨some 13, (.nilCheck (.tmp (12 : Nat))), none⟩,
  ⟨some 14, (.fieldAddr 76 (.tmp (13 : Nat)) 0), none⟩,
  ⟨some 15, (.load 20 (.tmp (14 : Nat))), none⟩,
  ⟨some 16, (.move (.tmp (1 : Nat))), none⟩,
  ⟨some 17, (.nilCheck (.tmp (16 : Nat))), none⟩,
  ⟨some 18, (.fieldAddr 76 (.tmp (17 : Nat)) 0), none⟩,
  ⟨some 19, (.load 20 (.tmp (18 : Nat))), none⟩,
  ⟨some 20, (.binOp .eql 20 (.tmp (15 : Nat)) (.tmp (19 : Nat)) 20), none⟩,
  ⟨none, (.store 4 (.tmp (4 : Nat)) (.tmp (20 : Nat))), none⟩]
def p19_4 : Plan := (Plan.take 0 (Plan.take 1 (Plan.take 2 (Plan.take 3 (Plan.take 4 (Plan.take 5 (Plan.take 6 (Plan.take 7 (Plan.take 8 (Plan.eff 9 false Plan.nil))))))))))
abbrev k20 : List Nat := [0, 2]
def s20_0 : List Slim := [⟨some 2, (.assign (.const (.pointer none))), none⟩]
def s20_1 : List Slim := [⟨some 3, (.move (.tmp (0 : Nat))), none⟩,
  ⟨some 4, (.build 79 #[(0, (.tmp (3 : Nat)))]), none⟩,
  ⟨some 5, (.box 79 (.tmp (4 : Nat))), none⟩,
  ⟨some 6, (.makeInterface 77 (.tmp (5 : Nat))), none⟩,
  ⟨some 7, (.build 76 #[(0, (.tmp (6 : Nat)))]), none⟩,
  ⟨some 8, (.box 76 (.tmp (7 : Nat))), none⟩,
  ⟨some 2, (.assign (.tmp (8 : Nat))), none⟩]
abbrev k21 : List Nat := [0, 2]
def s21_0 : List Slim := [⟨some 2, (.assign (.const (.pointer none))), none⟩]
def s21_1 : List Slim := [⟨some 3, (.move (.tmp (0 : Nat))), none⟩,
  ⟨some 4, (.makeInterface 9 (.tmp (3 : Nat))), none⟩,
  ⟨some 5, (.build 76 #[(0, (.tmp (4 : Nat)))]), none⟩,
  ⟨some 6, (.box 76 (.tmp (5 : Nat))), none⟩,
  ⟨some 2, (.assign (.tmp (6 : Nat))), none⟩]
abbrev k22 : List Nat := [0, 2]
def s22_0 : List Slim := [⟨some 2, (.assign (.const (.pointer none))), none⟩]
def s22_1 : List Slim := [⟨some 3, (.move (.tmp (0 : Nat))), none⟩,
  ⟨some 4, (.convert 9 40 (.tmp (3 : Nat))), none⟩,
  ⟨some 5, (.makeInterface 40 (.tmp (4 : Nat))), none⟩,
  ⟨some 6, (.build 76 #[(0, (.tmp (5 : Nat)))]), none⟩,
  ⟨some 7, (.box 76 (.tmp (6 : Nat))), none⟩,
  ⟨some 2, (.assign (.tmp (7 : Nat))), none⟩]
abbrev k23 : List Nat := [0, 2, 3, 16]
def s23_0 : List Slim := [⟨some 2, (.assign (.const (.pointer none))), none⟩]
def s23_1 : List Slim := [⟨some 4, (.move (.tmp (0 : Nat))), none⟩,
  ⟨some 5, (.move (.tmp (0 : Nat))), none⟩,
  ⟨some 6, (.call { callee := (.builtin .len), args := #[(.tmp (5 : Nat))], argTypes := #[40] }), none⟩,
  ⟨some 7, (.call { callee := (.builtin .min), args := #[(.tmp (6 : Nat)), (.const (.int .i64 4194304))], argTypes := #[3, 3] }), none⟩,
  ⟨some 8, (.slice 40 (.tmp (4 : Nat)) none (some (.tmp (7 : Nat))) none), none⟩,
  ⟨some 9, (.call { callee := (.value (.func 41)), args := #[(.tmp (8 : Nat))], argTypes := #[40] }), none⟩,
  ⟨some 0, (.assign (.tmp (9 : Nat))), none⟩]
def s23_2 : List Slim := [⟨some 10, (.move (.tmp (0 : Nat))), none⟩,
  ⟨some 11, (.call { callee := (.builtin .len), args := #[(.tmp (10 : Nat))], argTypes := #[40] }), none⟩,
  ⟨some 12, (.build 83 #[(1, (.tmp (11 : Nat)))]), none⟩,
  ⟨some 13, (.box 83 (.tmp (12 : Nat))), none⟩,
  ⟨some 3, (.assign (.tmp (13 : Nat))), none⟩]
def s23_3 : List Slim := [⟨some 14, (.move (.tmp (0 : Nat))), none⟩,
  ⟨some 15, (.call { callee := (.builtin .len), args := #[(.tmp (14 : Nat))], argTypes := #[40] }), none⟩,
  ⟨some 16, (.binOp .gtr 3 (.tmp (15 : Nat)) (.const (.int .i64 0)) 3), none⟩]
def s23_4 : List Slim := [⟨some 17, (.move (.tmp (3 : Nat))), none⟩,
  ⟨some 18, (.move (.tmp (0 : Nat))), none⟩,
  ⟨some 19, (.build 85 #[(0, (.const (.int .i64 0))), (1, (.tmp (18 : Nat)))]), none⟩,
  ⟨some 20, (.buildSlice 81 1 #[(0, (.tmp (19 : Nat)))]), none⟩,
  ⟨some 21, (.nilCheck (.tmp (17 : Nat))), none⟩,
  ⟨some 22, (.fieldAddr 83 (.tmp (21 : Nat)) 0), none⟩,
  ⟨none, (.store 81 (.tmp (22 : Nat)) (.tmp (20 : Nat))), none⟩]
def s23_5 : List Slim := [⟨some 23, (.move (.tmp (3 : Nat))), none⟩,
  ⟨some 2, (.assign (.tmp (23 : Nat))), none⟩]
abbrev k24 : List Nat := [0, 2, 4]
def s24_0 : List Slim := [⟨some 2, (.assign (.const (.int .i64 0))), none⟩]
def s24_1 : List Slim := [⟨some 3, (.move (.tmp (0 : Nat))), none⟩,
  ⟨some 4, (.binOp .eql 49 (.tmp (3 : Nat)) (.const (.pointer none)) 49), none⟩]
def s24_2 : List Slim := [⟨some 2, (.assign (.const (.int .i64 0))), none⟩]
def s24_3 : List Slim := [⟨some 5, (.move (.tmp (0 : Nat))), none⟩,
  ⟨some 6, (.nilCheck (.tmp (5 : Nat))), none⟩,
  ⟨some 7, (.fieldAddr 83 (.tmp (6 : Nat)) 1), none⟩,
  ⟨some 8, (.load 2 (.tmp (7 : Nat))), none⟩,
  ⟨some 2, (.assign (.tmp (8 : Nat))), none⟩]
abbrev k25 : List Nat := [0, 2, 4]
def s25_0 : List Slim := [⟨some 2, (.assign (.const (.int .i64 0))), none⟩]
def s25_1 : List Slim := [⟨some 3, (.move (.tmp (0 : Nat))), none⟩,
  ⟨some 4, (.binOp .eql 49 (.tmp (3 : Nat)) (.const (.pointer none)) 49), none⟩]
def s25_2 : List Slim := [⟨some 2, (.assign (.const (.int .i64 0))), none⟩]
def s25_3 : List Slim := [⟨some 5, (.move (.tmp (0 : Nat))), none⟩,
  ⟨some 6, (.nilCheck (.tmp (5 : Nat))), none⟩,
  ⟨some 7, (.fieldAddr 83 (.tmp (6 : Nat)) 0), none⟩,
  ⟨some 8, (.load 81 (.tmp (7 : Nat))), none⟩,
  ⟨some 9, (.call { callee := (.value (.func 42)), args := #[(.tmp (8 : Nat))], argTypes := #[81] }), none⟩,
  ⟨some 2, (.assign (.tmp (9 : Nat))), none⟩]
abbrev k26 : List Nat := [0, 1, 2, 6, 7, 8, 9, 10, 11, 12, 13, 16, 19, 23, 66, 100, 115, 147]
def s26_0 : List Slim := [⟨some 6, (.assign (.const (.int .i64 0))), none⟩]
def s26_1 : List Slim := [⟨some 14, (.move (.tmp (0 : Nat))), none⟩,
  ⟨some 15, (.binOp .eql 49 (.tmp (14 : Nat)) (.const (.pointer none)) 49), none⟩,
  ⟨some 13, (.assign (.tmp (15 : Nat))), none⟩]
def s26_2 : List Slim := [⟨some 6, (.assign (.const (.int .i64 1))), none⟩]
def s26_3 : List Slim := [⟨some 17, (.move (.tmp (1 : Nat))), none⟩,
  ⟨some 18, (.binOp .lss 2 (.tmp (17 : Nat)) (.const (.int .i64 0)) 2), none⟩,
  ⟨some 16, (.assign (.tmp (18 : Nat))), none⟩]
def s26_4 : List Slim := [⟨some 6, (.assign (.const (.int .i64 2))), none⟩]
def s26_5 : List Slim := [⟨some 20, (.move (.tmp (2 : Nat))), none⟩,
  ⟨some 21, (.call { callee := (.builtin .len), args := #[(.tmp (20 : Nat))], argTypes := #[40] }), none⟩,
  ⟨some 22, (.binOp .eql 3 (.tmp (21 : Nat)) (.const (.int .i64 0)) 3), none⟩,
  ⟨some 19, (.assign (.tmp (22 : Nat))), none⟩]
def s26_6 : List Slim := [⟨some 6, (.assign (.const (.int .i64 0))), none⟩]
def s26_7 : List Slim := [⟨some 24, (.move (.tmp (1 : Nat))), none⟩,
  ⟨some 25, (.move (.tmp (2 : Nat))), none⟩,
  ⟨some 26, (.call { callee := (.builtin .len), args := #[(.tmp (25 : Nat))], argTypes := #[40] }), none⟩,
  ⟨some 27, (.binOp .sub 2 (.const (.int .i64 1073741824)) (.tmp (26 : Nat)) 2), none⟩,
  ⟨some 28, (.binOp .gtr 2 (.tmp (24 : Nat)) (.tmp (27 : Nat)) 2), none⟩,
  ⟨some 23, (.assign (.tmp (28 : Nat))), none⟩]
def s26_8 : List Slim := [⟨some 6, (.assign (.const (.int .i64 3))), none⟩]
def s26_9 : List Slim := [⟨some 29, (.move (.tmp (1 : Nat))), none⟩,
  ⟨some 30, (.move (.tmp (2 : Nat))), none⟩,
  ⟨some 31, (.call { callee := (.builtin .len), args := #[(.tmp (30 : Nat))], argTypes := #[40] }), none⟩,
  ⟨some 32, (.binOp .add 2 (.tmp (29 : Nat)) (.tmp (31 : Nat)) 2), none⟩,
  ⟨some 7, (.assign (.tmp (32 : Nat))), none⟩]
def s26_10 : List Slim := [⟨some 33, (.move (.tmp (0 : Nat))), none⟩,
  ⟨some 34, (.move (.tmp (1 : Nat))), none⟩,
  ⟨some 35, (.call { callee := (.value (.func 43)), args := #[(.tmp (33 : Nat)), (.tmp (34 : Nat))], argTypes := #[49, 2] }), none⟩,
  ⟨some 8, (.assign (.tmp (35 : Nat))), none⟩]
def s26_11_1 : List Slim := [⟨some 64, (.move (.tmp (7 : Nat))), some (55, true)⟩,
  ⟨some 65, (.binOp .geq 2 (.tmp (63 : Nat)) (.tmp (64 : Nat)) 2), some (55, true)⟩,
  ⟨some 66, (.pick (.tmp (55 : Nat)) (.tmp (65 : Nat)) (.const (.bool false))), none⟩]
def s26_11 : List Slim := (⟨some 36, (.move (.tmp (8 : Nat))), none⟩ : Slim) ::
  (⟨some 37, (.move (.tmp (0 : Nat))), none⟩ : Slim) ::
  (⟨some 38, (.nilCheck (.tmp (37 : Nat))), none⟩ : Slim) ::
  (⟨some 39, (.fieldAddr 83 (.tmp (38 : Nat)) 0), none⟩ : Slim) ::
  (⟨some 40, (.load 81 (.tmp (39 : Nat))), none⟩ : Slim) ::
  (⟨some 41, (.call { callee := (.builtin .len), args := #[(.tmp (40 : Nat))], argTypes := #[81] }), none⟩ : Slim) ::
  (⟨some 42, (.binOp .lss 3 (.tmp (36 : Nat)) (.tmp (41 : Nat)) 3), none⟩ : Slim) ::
  (⟨some 43, (.move (.tmp (42 : Nat))), none⟩ : Slim) ::
  (⟨some 44, (.move (.tmp (0 : Nat))), some (43, true)⟩ : Slim) ::
  (⟨some 45, (.nilCheck (.tmp (44 : Nat))), some (43, true)⟩ : Slim) ::
  (⟨some 46, (.fieldAddr 83 (.tmp (45 : Nat)) 0), some (43, true)⟩ : Slim) ::
  (⟨some 47, (.load 81 (.tmp (46 : Nat))), some (43, true)⟩ : Slim) ::
  (⟨some 48, (.move (.tmp (8 : Nat))), some (43, true)⟩ : Slim) ::
  (⟨some 49, (.indexAddr 81 (.tmp (47 : Nat)) (.tmp (48 : Nat))), some (43, true)⟩ : Slim) ::
  (⟨some 50, (.fieldAddr 85 (.tmp (49 : Nat)) 0), some (43, true)⟩ : Slim) ::
  (⟨some 51, (.load 2 (.tmp (50 : Nat))), some (43, true)⟩ : Slim) ::
  (⟨some 52, (.move (.tmp (1 : Nat))), some (43, true)⟩ : Slim) ::
  (⟨some 53, (.binOp .leq 2 (.tmp (51 : Nat)) (.tmp (52 : Nat)) 2), some (43, true)⟩ : Slim) ::
  (⟨some 54, (.pick (.tmp (43 : Nat)) (.tmp (53 : Nat)) (.const (.bool false))), none⟩ : Slim) ::
  (⟨some 55, (.move (.tmp (54 : Nat))), none⟩ : Slim) ::
  (⟨some 56, (.move (.tmp (0 : Nat))), some (55, true)⟩ : Slim) ::
  (⟨some 57, (.nilCheck (.tmp (56 : Nat))), some (55, true)⟩ : Slim) ::
  (⟨some 58, (.fieldAddr 83 (.tmp (57 : Nat)) 0), some (55, true)⟩ : Slim) ::
  (⟨some 59, (.load 81 (.tmp (58 : Nat))), some (55, true)⟩ : Slim) ::
  (⟨some 60, (.move (.tmp (8 : Nat))), some (55, true)⟩ : Slim) ::
  (⟨some 61, (.indexAddr 81 (.tmp (59 : Nat)) (.tmp (60 : Nat))), some (55, true)⟩ : Slim) ::
  (⟨some 62, (.load 85 (.tmp (61 : Nat))), some (55, true)⟩ : Slim) ::
  (⟨some 63, (.call { callee := (.value (.func 44)), args := #[(.tmp (62 : Nat))], argTypes := #[85] }), some (55, true)⟩ : Slim) ::
  s26_11_1
def s26_12 : List Slim := [⟨some 67, (.move (.tmp (0 : Nat))), none⟩,
  ⟨some 68, (.nilCheck (.tmp (67 : Nat))), none⟩,
  ⟨some 69, (.fieldAddr 83 (.tmp (68 : Nat)) 0), none⟩,
  ⟨some 70, (.load 81 (.tmp (69 : Nat))), none⟩,
  ⟨some 71, (.move (.tmp (8 : Nat))), none⟩,
  ⟨some 72, (.indexAddr 81 (.tmp (70 : Nat)) (.tmp (71 : Nat))), none⟩,
  ⟨some 73, (.fieldAddr 85 (.tmp (72 : Nat)) 1), none⟩,
  ⟨some 74, (.load 40 (.tmp (73 : Nat))), none⟩,
  ⟨some 75, (.move (.tmp (1 : Nat))), none⟩,
  ⟨some 76, (.move (.tmp (0 : Nat))), none⟩,
  ⟨some 77, (.nilCheck (.tmp (76 : Nat))), none⟩,
  ⟨some 78, (.fieldAddr 83 (.tmp (77 : Nat)) 0), none⟩,
  ⟨some 79, (.load 81 (.tmp (78 : Nat))), none⟩,
  ⟨some 80, (.move (.tmp (8 : Nat))), none⟩,
  ⟨some 81, (.indexAddr 81 (.tmp (79 : Nat)) (.tmp (80 : Nat))), none⟩,
  ⟨some 82, (.fieldAddr 85 (.tmp (81 : Nat)) 0), none⟩,
  ⟨some 83, (.load 2 (.tmp (82 : Nat))), none⟩,
  ⟨some 84, (.binOp .sub 2 (.tmp (75 : Nat)) (.tmp (83 : Nat)) 2), none⟩,
  ⟨some 85, (.slice 40 (.tmp (74 : Nat)) (some (.tmp (84 : Nat))) none none), none⟩,
  ⟨some 86, (.move (.tmp (2 : Nat))), none⟩,
  ⟨some 87, (.call { callee := (.builtin .copy), args := #[(.tmp (85 : Nat)), (.tmp (86 : Nat))], argTypes := #[40, 40] }), none⟩]
def p26_12 : Plan := (Plan.take 0 (Plan.take 1 (Plan.take 2 (Plan.take 3 (Plan.take 4 (Plan.take 5 (Plan.take 6 (Plan.take 7 (Plan.take 8 (Plan.take 9 (Plan.take 10 (Plan.take 11 (Plan.take 12 (Plan.take 13 (Plan.take 14 (Plan.take 15 (Plan.take 16 (Plan.take 17 (Plan.take 18 (Plan.take 19 (Plan.eff 20 false Plan.nil)))))))))))))))))))))
def s26_13 : List Slim := [⟨some 6, (.assign (.const (.int .i64 0))), none⟩]
def s26_14 : List Slim := [⟨some 89, (.move (.tmp (0 : Nat))), none⟩,
  ⟨some 90, (.move (.tmp (1 : Nat))), none⟩,
  ⟨some 91, (.move (.tmp (7 : Nat))), none⟩,
  ⟨some 92, (.call { callee := (.value (.func 45)), args := #[(.tmp (89 : Nat)), (.tmp (90 : Nat)), (.tmp (91 : Nat))], argTypes := #[49, 2, 2] }), none⟩,
  ⟨some 88, (.move (.tmp (92 : Nat))), none⟩,
  ⟨some 93, (.extract (.tmp (88 : Nat)) 0), none⟩,
  ⟨some 94, (.extract (.tmp (88 : Nat)) 1), none⟩,
  ⟨some 9, (.assign (.tmp (93 : Nat))), none⟩,
  ⟨some 10, (.assign (.tmp (94 : Nat))), none⟩]
def s26_15_1 : List Slim := [⟨some 97, (.move (.tmp (2 : Nat))), none⟩,
  ⟨some 98, (.call { callee := (.builtin .len), args := #[(.tmp (97 : Nat))], argTypes := #[40] }), none⟩,
  ⟨some 99, (.binOp .add 2 (.tmp (96 : Nat)) (.tmp (98 : Nat)) 2), none⟩,
  ⟨some 100, (.binOp .gtr 2 (.tmp (99 : Nat)) (.const (.int .i64 4194304)) 2), none⟩]
def s26_15 : List Slim := (⟨some 95, (.move (.tmp (9 : Nat))), none⟩ : Slim) ::
  (⟨some 96, (.call { callee := (.value (.func 42)), args := #[(.tmp (95 : Nat))], argTypes := #[81] }), none⟩ : Slim) ::
  s26_15_1
def s26_16 : List Slim := [⟨some 6, (.assign (.const (.int .i64 3))), none⟩]
def s26_17 : List Slim := [⟨some 101, (.move (.tmp (1 : Nat))), none⟩,
  ⟨some 102, (.build 85 #[(0, (.tmp (101 : Nat))), (1, (.const (.slice none 0 0)))]), none⟩,
  ⟨some 103, (.move (.tmp (10 : Nat))), none⟩,
  ⟨some 11, (.alloc 85), none⟩,
  ⟨none, (.store 85 (.tmp (11 : Nat)) (.tmp (102 : Nat))), none⟩,
  ⟨some 12, (.assign (.tmp (103 : Nat))), none⟩]
def s26_18_1 : List Slim := [⟨some 113, (.move (.tmp (1 : Nat))), some (106, true)⟩,
  ⟨some 114, (.binOp .eql 2 (.tmp (112 : Nat)) (.tmp (113 : Nat)) 2), some (106, true)⟩,
  ⟨some 115, (.pick (.tmp (106 : Nat)) (.tmp (114 : Nat)) (.const (.bool false))), none⟩]
def s26_18 : List Slim := (⟨some 104, (.move (.tmp (10 : Nat))), none⟩ : Slim) ::
  (⟨some 105, (.binOp .gtr 3 (.tmp (104 : Nat)) (.const (.int .i64 0)) 3), none⟩ : Slim) ::
  (⟨some 106, (.move (.tmp (105 : Nat))), none⟩ : Slim) ::
  (⟨some 107, (.move (.tmp (9 : Nat))), some (106, true)⟩ : Slim) ::
  (⟨some 108, (.move (.tmp (10 : Nat))), some (106, true)⟩ : Slim) ::
  (⟨some 109, (.binOp .sub 3 (.tmp (108 : Nat)) (.const (.int .i64 1)) 3), some (106, true)⟩ : Slim) ::
  (⟨some 110, (.indexAddr 81 (.tmp (107 : Nat)) (.tmp (109 : Nat))), some (106, true)⟩ : Slim) ::
  (⟨some 111, (.load 85 (.tmp (110 : Nat))), some (106, true)⟩ : Slim) ::
  (⟨some 112, (.call { callee := (.value (.func 44)), args := #[(.tmp (111 : Nat))], argTypes := #[85] }), some (106, true)⟩ : Slim) ::
  s26_18_1
def s26_19 : List Slim := [⟨some 116, (.move (.tmp (10 : Nat))), none⟩,
  ⟨some 117, (.binOp .sub 3 (.tmp (116 : Nat)) (.const (.int .i64 1)) 3), none⟩,
  ⟨some 10, (.assign (.tmp (117 : Nat))), none⟩]
def s26_20 : List Slim := [⟨some 118, (.move (.tmp (9 : Nat))), none⟩,
  ⟨some 119, (.move (.tmp (10 : Nat))), none⟩,
  ⟨some 120, (.indexAddr 81 (.tmp (118 : Nat)) (.tmp (119 : Nat))), none⟩,
  ⟨some 121, (.fieldAddr 85 (.tmp (120 : Nat)) 0), none⟩,
  ⟨some 122, (.load 2 (.tmp (121 : Nat))), none⟩,
  ⟨some 123, (.move (.tmp (9 : Nat))), none⟩,
  ⟨some 124, (.move (.tmp (10 : Nat))), none⟩,
  ⟨some 125, (.indexAddr 81 (.tmp (123 : Nat)) (.tmp (124 : Nat))), none⟩,
  ⟨some 126, (.fieldAddr 85 (.tmp (125 : Nat)) 1), none⟩,
  ⟨some 127, (.load 40 (.tmp (126 : Nat))), none⟩,
  ⟨some 128, (.call { callee := (.value (.func 41)), args := #[(.tmp (127 : Nat))], argTypes := #[40] }), none⟩,
  ⟨some 129, (.build 85 #[(0, (.tmp (122 : Nat))), (1, (.tmp (128 : Nat)))]), none⟩,
  ⟨none, (.store 85 (.tmp (11 : Nat)) (.tmp (129 : Nat))), none⟩]
def p26_20_1 : Plan := (Plan.take 11 (Plan.eff 12 false Plan.nil))
def p26_20 : Plan := (Plan.take 0 (Plan.take 1 (Plan.take 2 (Plan.take 3 (Plan.take 4 (Plan.take 5 (Plan.take 6 (Plan.take 7 (Plan.take 8 (Plan.take 9 (Plan.eff 10 true p26_20_1)))))))))))
def s26_21 : List Slim := [⟨some 130, (.fieldAddr 85 (.tmp (11 : Nat)) 1), none⟩,
  ⟨some 131, (.load 40 (.tmp (130 : Nat))), none⟩,
  ⟨some 132, (.move (.tmp (2 : Nat))), none⟩,
  ⟨some 133, (.call { callee := (.builtin .append), args := #[(.tmp (131 : Nat)), (.tmp (132 : Nat))], argTypes := #[40, 40] }), none⟩,
  ⟨some 134, (.fieldAddr 85 (.tmp (11 : Nat)) 1), none⟩,
  ⟨none, (.store 40 (.tmp (134 : Nat)) (.tmp (133 : Nat))), none⟩]
def s26_22 : List Slim := [⟨some 135, (.move (.tmp (12 : Nat))), none⟩,
  ⟨some 136, (.move (.tmp (9 : Nat))), none⟩,
  ⟨some 137, (.call { callee := (.builtin .len), args := #[(.tmp (136 : Nat))], argTypes := #[81] }), none⟩,
  ⟨some 138, (.binOp .lss 3 (.tmp (135 : Nat)) (.tmp (137 : Nat)) 3), none⟩,
  ⟨some 139, (.move (.tmp (138 : Nat))), none⟩,
  ⟨some 140, (.move (.tmp (9 : Nat))), some (139, true)⟩,
  ⟨some 141, (.move (.tmp (12 : Nat))), some (139, true)⟩,
  ⟨some 142, (.indexAddr 81 (.tmp (140 : Nat)) (.tmp (141 : Nat))), some (139, true)⟩,
  ⟨some 143, (.fieldAddr 85 (.tmp (142 : Nat)) 0), some (139, true)⟩,
  ⟨some 144, (.load 2 (.tmp (143 : Nat))), some (139, true)⟩,
  ⟨some 145, (.move (.tmp (7 : Nat))), some (139, true)⟩,
  ⟨some 146, (.binOp .eql 2 (.tmp (144 : Nat)) (.tmp (145 : Nat)) 2), some (139, true)⟩,
  ⟨some 147, (.pick (.tmp (139 : Nat)) (.tmp (146 : Nat)) (.const (.bool false))), none⟩]
def s26_23 : List Slim := [⟨some 148, (.fieldAddr 85 (.tmp (11 : Nat)) 1), none⟩,
  ⟨some 149, (.load 40 (.tmp (148 : Nat))), none⟩,
  ⟨some 150, (.move (.tmp (9 : Nat))), none⟩,
  ⟨some 151, (.move (.tmp (12 : Nat))), none⟩,
  ⟨some 152, (.indexAddr 81 (.tmp (150 : Nat)) (.tmp (151 : Nat))), none⟩,
  ⟨some 153, (.fieldAddr 85 (.tmp (152 : Nat)) 1), none⟩,
  ⟨some 154, (.load 40 (.tmp (153 : Nat))), none⟩,
  ⟨some 155, (.call { callee := (.builtin .append), args := #[(.tmp (149 : Nat)), (.tmp (154 : Nat))], argTypes := #[40, 40] }), none⟩,
  ⟨some 156, (.fieldAddr 85 (.tmp (11 : Nat)) 1), none⟩,
  ⟨none, (.store 40 (.tmp (156 : Nat)) (.tmp (155 : Nat))), none⟩]
def p26_23 : Plan := (Plan.take 0 (Plan.take 1 (Plan.take 2 (Plan.take 3 (Plan.take 4 (Plan.take 5 (Plan.take 6 (Plan.eff 7 false (Plan.take 8 (Plan.eff 9 false Plan.nil))))))))))
def s26_24 : List Slim := [⟨some 157, (.move (.tmp (12 : Nat))), none⟩,
  ⟨some 158, (.binOp .add 3 (.tmp (157 : Nat)) (.const (.int .i64 1)) 3), none⟩,
  ⟨some 12, (.assign (.tmp (158 : Nat))), none⟩]
def s26_25_1 : List Slim := [⟨some 166, (.nilCheck (.tmp (159 : Nat))), none⟩,
  ⟨some 167, (.fieldAddr 83 (.tmp (166 : Nat)) 0), none⟩,
  ⟨none, (.store 81 (.tmp (167 : Nat)) (.tmp (165 : Nat))), none⟩]
def s26_25 : List Slim := (⟨some 159, (.move (.tmp (0 : Nat))), none⟩ : Slim) ::
  (⟨some 160, (.move (.tmp (9 : Nat))), none⟩ : Slim) ::
  (⟨some 161, (.move (.tmp (10 : Nat))), none⟩ : Slim) ::
  (⟨some 162, (.move (.tmp (12 : Nat))), none⟩ : Slim) ::
  (⟨some 163, (.load 85 (.tmp (11 : Nat))), none⟩ : Slim) ::
  (⟨some 164, (.buildSlice 81 1 #[(0, (.tmp (163 : Nat)))]), none⟩ : Slim) ::
  (⟨some 165, (.call { callee := (.value (.func 46)), args := #[(.tmp (160 : Nat)), (.tmp (161 : Nat)), (.tmp (162 : Nat)), (.tmp (164 : Nat))], argTypes := #[81, 3, 3, 81] }), none⟩ : Slim) ::
  s26_25_1
def s26_26 : List Slim := [⟨some 168, (.move (.tmp (0 : Nat))), none⟩,
  ⟨some 169, (.move (.tmp (0 : Nat))), none⟩,
  ⟨some 170, (.nilCheck (.tmp (169 : Nat))), none⟩,
  ⟨some 171, (.fieldAddr 83 (.tmp (170 : Nat)) 1), none⟩,
  ⟨some 172, (.load 2 (.tmp (171 : Nat))), none⟩,
  ⟨some 173, (.move (.tmp (7 : Nat))), none⟩,
  ⟨some 174, (.call { callee := (.builtin .max), args := #[(.tmp (172 : Nat)), (.tmp (173 : Nat))], argTypes := #[2, 2] }), none⟩,
  ⟨some 175, (.nilCheck (.tmp (168 : Nat))), none⟩,
  ⟨some 176, (.fieldAddr 83 (.tmp (175 : Nat)) 1), none⟩,
  ⟨none, (.store 2 (.tmp (176 : Nat)) (.tmp (174 : Nat))), none⟩]
def s26_27 : List Slim := [⟨some 6, (.assign (.const (.int .i64 0))), none⟩]
abbrev k27 : List Nat := [0, 1, 2, 6, 7, 10, 26]
def s27_0 : List Slim := [⟨some 6, (.assign (.const (.int .i64 0))), none⟩]
def s27_1 : List Slim := [⟨some 8, (.move (.tmp (0 : Nat))), none⟩,
  ⟨some 9, (.binOp .eql 49 (.tmp (8 : Nat)) (.const (.pointer none)) 49), none⟩,
  ⟨some 7, (.assign (.tmp (9 : Nat))), none⟩]
def s27_2 : List Slim := [⟨some 6, (.assign (.const (.int .i64 1))), none⟩]
def s27_3 : List Slim := [⟨some 11, (.move (.tmp (1 : Nat))), none⟩,
  ⟨some 12, (.binOp .lss 2 (.tmp (11 : Nat)) (.const (.int .i64 0)) 2), none⟩,
  ⟨some 13, (.move (.tmp (12 : Nat))), none⟩,
  ⟨some 14, (.move (.tmp (2 : Nat))), some (13, false)⟩,
  ⟨some 15, (.binOp .lss 2 (.tmp (14 : Nat)) (.const (.int .i64 0)) 2), some (13, false)⟩,
  ⟨some 16, (.pick (.tmp (13 : Nat)) (.const (.bool true)) (.tmp (15 : Nat))), none⟩,
  ⟨some 10, (.assign (.tmp (16 : Nat))), none⟩]
def s27_4 : List Slim := [⟨some 6, (.assign (.const (.int .i64 2))), none⟩]
def s27_5 : List Slim := [⟨some 17, (.move (.tmp (1 : Nat))), none⟩,
  ⟨some 18, (.move (.tmp (0 : Nat))), none⟩,
  ⟨some 19, (.nilCheck (.tmp (18 : Nat))), none⟩,
  ⟨some 20, (.fieldAddr 83 (.tmp (19 : Nat)) 1), none⟩,
  ⟨some 21, (.load 2 (.tmp (20 : Nat))), none⟩,
  ⟨some 22, (.binOp .lss 2 (.tmp (17 : Nat)) (.tmp (21 : Nat)) 2), none⟩,
  ⟨some 23, (.move (.tmp (22 : Nat))), none⟩,
  ⟨some 24, (.move (.tmp (2 : Nat))), some (23, true)⟩,
  ⟨some 25, (.binOp .gtr 2 (.tmp (24 : Nat)) (.const (.int .i64 0)) 2), some (23, true)⟩,
  ⟨some 26, (.pick (.tmp (23 : Nat)) (.tmp (25 : Nat)) (.const (.bool false))), none⟩]
def s27_6_1 : List Slim := [⟨some 27, (.move (.tmp (41 : Nat))), none⟩,
  ⟨some 42, (.extract (.tmp (27 : Nat)) 0), none⟩,
  ⟨some 43, (.extract (.tmp (27 : Nat)) 1), none⟩,
  ⟨some 44, (.nilCheck (.tmp (28 : Nat))), none⟩,
  ⟨some 45, (.fieldAddr 83 (.tmp (44 : Nat)) 0), none⟩,
  ⟨none, (.store 81 (.tmp (45 : Nat)) (.tmp (42 : Nat))), none⟩]
def s27_6 : List Slim := (⟨some 28, (.move (.tmp (0 : Nat))), none⟩ : Slim) ::
  (⟨some 29, (.move (.tmp (0 : Nat))), none⟩ : Slim) ::
  (⟨some 30, (.move (.tmp (1 : Nat))), none⟩ : Slim) ::
  (⟨some 31, (.move (.tmp (1 : Nat))), none⟩ : Slim) ::
  (⟨some 32, (.move (.tmp (2 : Nat))), none⟩ : Slim) ::
  (⟨some 33, (.move (.tmp (0 : Nat))), none⟩ : Slim) ::
  (⟨some 34, (.nilCheck (.tmp (33 : Nat))), none⟩ : Slim) ::
  (⟨some 35, (.fieldAddr 83 (.tmp (34 : Nat)) 1), none⟩ : Slim) ::
  (⟨some 36, (.load 2 (.tmp (35 : Nat))), none⟩ : Slim) ::
  (⟨some 37, (.move (.tmp (1 : Nat))), none⟩ : Slim) ::
  (⟨some 38, (.binOp .sub 2 (.tmp (36 : Nat)) (.tmp (37 : Nat)) 2), none⟩ : Slim) ::
  (⟨some 39, (.call { callee := (.builtin .min), args := #[(.tmp (32 : Nat)), (.tmp (38 : Nat))], argTypes := #[2, 2] }), none⟩ : Slim) ::
  (⟨some 40, (.binOp .add 2 (.tmp (31 : Nat)) (.tmp (39 : Nat)) 2), none⟩ : Slim) ::
  (⟨some 41, (.call { callee := (.value (.func 45)), args := #[(.tmp (29 : Nat)), (.tmp (30 : Nat)), (.tmp (40 : Nat))], argTypes := #[49, 2, 2] }), none⟩ : Slim) ::
  s27_6_1
def s27_7 : List Slim := [⟨some 6, (.assign (.const (.int .i64 0))), none⟩]
abbrev k28 : List Nat := [0, 1, 2, 6, 7, 9, 27, 46, 47, 48, 49, 61, 69]
def s28_0 : List Slim := [⟨some 6, (.assign (.const (.slice none 0 0))), none⟩]
def s28_1 : List Slim := [⟨some 10, (.move (.tmp (0 : Nat))), none⟩,
  ⟨some 11, (.binOp .eql 49 (.tmp (10 : Nat)) (.const (.pointer none)) 49), none⟩,
  ⟨some 12, (.move (.tmp (11 : Nat))), none⟩,
  ⟨some 13, (.move (.tmp (1 : Nat))), some (12, false)⟩,
  ⟨some 14, (.binOp .lss 2 (.tmp (13 : Nat)) (.const (.int .i64 0)) 2), some (12, false)⟩,
  ⟨some 15, (.pick (.tmp (12 : Nat)) (.const (.bool true)) (.tmp (14 : Nat))), none⟩,
  ⟨some 16, (.move (.tmp (15 : Nat))), none⟩,
  ⟨some 17, (.move (.tmp (2 : Nat))), some (16, false)⟩,
  ⟨some 18, (.binOp .lss 3 (.tmp (17 : Nat)) (.const (.int .i64 0)) 3), some (16, false)⟩,
  ⟨some 19, (.pick (.tmp (16 : Nat)) (.const (.bool true)) (.tmp (18 : Nat))), none⟩,
  ⟨some 20, (.move (.tmp (19 : Nat))), none⟩,
  ⟨some 21, (.move (.tmp (1 : Nat))), some (20, false)⟩,
  ⟨some 22, (.move (.tmp (0 : Nat))), some (20, false)⟩,
  ⟨some 23, (.nilCheck (.tmp (22 : Nat))), some (20, false)⟩,
  ⟨some 24, (.fieldAddr 83 (.tmp (23 : Nat)) 1), some (20, false)⟩,
  ⟨some 25, (.load 2 (.tmp (24 : Nat))), some (20, false)⟩,
  ⟨some 26, (.binOp .geq 2 (.tmp (21 : Nat)) (.tmp (25 : Nat)) 2), some (20, false)⟩,
  ⟨some 27, (.pick (.tmp (20 : Nat)) (.const (.bool true)) (.tmp (26 : Nat))), none⟩]
def s28_2 : List Slim := [⟨some 6, (.assign (.const (.slice none 0 0))), none⟩]
def s28_3 : List Slim := [⟨some 28, (.move (.tmp (2 : Nat))), none⟩,
  ⟨some 29, (.call { callee := (.builtin .min), args := #[(.tmp (28 : Nat)), (.const (.int .i64 65536))], argTypes := #[3, 3] }), none⟩,
  ⟨some 30, (.move (.tmp (0 : Nat))), none⟩,
  ⟨some 31, (.nilCheck (.tmp (30 : Nat))), none⟩,
  ⟨some 32, (.fieldAddr 83 (.tmp (31 : Nat)) 1), none⟩,
  ⟨some 33, (.load 2 (.tmp (32 : Nat))), none⟩,
  ⟨some 34, (.move (.tmp (1 : Nat))), none⟩,
  ⟨some 35, (.binOp .sub 2 (.tmp (33 : Nat)) (.tmp (34 : Nat)) 2), none⟩,
  ⟨some 36, (.call { callee := (.builtin .min), args := #[(.tmp (29 : Nat)), (.tmp (35 : Nat))], argTypes := #[2, 2] }), none⟩,
  ⟨some 2, (.assign (.tmp (36 : Nat))), none⟩]
def s28_4 : List Slim := [⟨some 37, (.move (.tmp (2 : Nat))), none⟩,
  ⟨some 38, (.makeSlice 40 (.tmp (37 : Nat)) (.tmp (37 : Nat))), none⟩,
  ⟨some 7, (.assign (.tmp (38 : Nat))), none⟩]
def s28_5 : List Slim := [⟨some 39, (.move (.tmp (0 : Nat))), none⟩,
  ⟨some 40, (.nilCheck (.tmp (39 : Nat))), none⟩,
  ⟨some 41, (.fieldAddr 83 (.tmp (40 : Nat)) 0), none⟩,
  ⟨some 42, (.load 81 (.tmp (41 : Nat))), none⟩,
  ⟨some 43, (.move (.tmp (0 : Nat))), none⟩,
  ⟨some 44, (.move (.tmp (1 : Nat))), none⟩,
  ⟨some 45, (.call { callee := (.value (.func 43)), args := #[(.tmp (43 : Nat)), (.tmp (44 : Nat))], argTypes := #[49, 2] }), none⟩,
  ⟨some 46, (.slice 81 (.tmp (42 : Nat)) (some (.tmp (45 : Nat))) none none), none⟩,
  ⟨some 47, (.call { callee := (.builtin .len), args := #[(.tmp (46 : Nat))], argTypes := #[81] }), none⟩,
  ⟨some 48, (.move (.const (.int .i64 0))), none⟩]
def p28_5_1 : Plan := (Plan.take 7 (Plan.take 8 Plan.nil))
def p28_5 : Plan := (Plan.take 0 (Plan.take 1 (Plan.take 2 (Plan.take 3 (Plan.take 4 (Plan.take 5 (Plan.take 9 (Plan.eff 6 true p28_5_1))))))))
def s28_6 : List Slim := [⟨some 49, (.binOp .lss 3 (.tmp (48 : Nat)) (.tmp (47 : Nat)) 3), none⟩]
def s28_7 : List Slim := [⟨some 50, (.indexAddr 81 (.tmp (46 : Nat)) (.tmp (48 : Nat))), none⟩,
  ⟨some 51, (.load 85 (.tmp (50 : Nat))), none⟩,
  ⟨some 9, (.alloc 85), none⟩,
  ⟨none, (.store 85 (.tmp (9 : Nat)) (.tmp (51 : Nat))), none⟩]
def s28_9 : List Slim := [⟨some 62, (.fieldAddr 85 (.tmp (9 : Nat)) 0), none⟩,
  ⟨some 63, (.load 2 (.tmp (62 : Nat))), none⟩,
  ⟨some 64, (.move (.tmp (1 : Nat))), none⟩,
  ⟨some 65, (.move (.tmp (2 : Nat))), none⟩,
  ⟨some 66, (.binOp .add 2 (.tmp (64 : Nat)) (.tmp (65 : Nat)) 2), none⟩,
  ⟨some 67, (.binOp .geq 2 (.tmp (63 : Nat)) (.tmp (66 : Nat)) 2), none⟩,
  ⟨some 61, (.assign (.tmp (67 : Nat))), none⟩]
def s28_10 : List Slim := [⟨some 68, (.move (.tmp (7 : Nat))), none⟩,
  ⟨some 6, (.assign (.tmp (68 : Nat))), none⟩]
def s28_11 : List Slim := [⟨some 70, (.fieldAddr 85 (.tmp (9 : Nat)) 0), none⟩,
  ⟨some 71, (.load 2 (.tmp (70 : Nat))), none⟩,
  ⟨some 72, (.move (.tmp (1 : Nat))), none⟩,
  ⟨some 73, (.binOp .geq 2 (.tmp (71 : Nat)) (.tmp (72 : Nat)) 2), none⟩,
  ⟨some 69, (.assign (.tmp (73 : Nat))), none⟩]
def s28_12 : List Slim := [⟨some 74, (.move (.tmp (7 : Nat))), none⟩,
  ⟨some 75, (.fieldAddr 85 (.tmp (9 : Nat)) 0), none⟩,
  ⟨some 76, (.load 2 (.tmp (75 : Nat))), none⟩,
  ⟨some 77, (.move (.tmp (1 : Nat))), none⟩,
  ⟨some 78, (.binOp .sub 2 (.tmp (76 : Nat)) (.tmp (77 : Nat)) 2), none⟩,
  ⟨some 79, (.slice 40 (.tmp (74 : Nat)) (some (.tmp (78 : Nat))) none none), none⟩,
  ⟨some 80, (.fieldAddr 85 (.tmp (9 : Nat)) 1), none⟩,
  ⟨some 81, (.load 40 (.tmp (80 : Nat))), none⟩,
  ⟨some 82, (.call { callee := (.builtin .copy), args := #[(.tmp (79 : Nat)), (.tmp (81 : Nat))], argTypes := #[40, 40] }), none⟩]
def p28_12 : Plan := (Plan.take 0 (Plan.take 1 (Plan.take 2 (Plan.take 3 (Plan.take 4 (Plan.take 5 (Plan.take 6 (Plan.take 7 (Plan.eff 8 false Plan.nil)))))))))
def s28_8 : List Slim := [⟨some 52, (.move (.tmp (7 : Nat))), none⟩,
  ⟨some 53, (.fieldAddr 85 (.tmp (9 : Nat)) 1), none⟩,
  ⟨some 54, (.load 40 (.tmp (53 : Nat))), none⟩,
  ⟨some 55, (.move (.tmp (1 : Nat))), none⟩,
  ⟨some 56, (.fieldAddr 85 (.tmp (9 : Nat)) 0), none⟩,
  ⟨some 57, (.load 2 (.tmp (56 : Nat))), none⟩,
  ⟨some 58, (.binOp .sub 2 (.tmp (55 : Nat)) (.tmp (57 : Nat)) 2), none⟩,
  ⟨some 59, (.slice 40 (.tmp (54 : Nat)) (some (.tmp (58 : Nat))) none none), none⟩,
  ⟨some 60, (.call { callee := (.builtin .copy), args := #[(.tmp (52 : Nat)), (.tmp (59 : Nat))], argTypes := #[40, 40] }), none⟩]
def s28_13 : List Slim := [⟨some 83, (.binOp .add 3 (.tmp (48 : Nat)) (.const (.int .i64 1)) 3), none⟩,
  ⟨some 48, (.move (.tmp (83 : Nat))), none⟩]
def s28_14 : List Slim := [⟨some 84, (.move (.tmp (7 : Nat))), none⟩,
  ⟨some 6, (.assign (.tmp (84 : Nat))), none⟩]
abbrev k29 : List Nat := [0, 1, 4, 5, 8, 11, 19]
def s29_0 : List Slim := [⟨some 4, (.assign (.const (.int .i64 0))), none⟩]
def s29_1 : List Slim := [⟨some 6, (.move (.tmp (0 : Nat))), none⟩,
  ⟨some 7, (.binOp .eql 49 (.tmp (6 : Nat)) (.const (.pointer none)) 49), none⟩,
  ⟨some 5, (.assign (.tmp (7 : Nat))), none⟩]
def s29_2 : List Slim := [⟨some 4, (.assign (.const (.int .i64 1))), none⟩]
def s29_3 : List Slim := [⟨some 9, (.move (.tmp (1 : Nat))), none⟩,
  ⟨some 10, (.binOp .lss 2 (.tmp (9 : Nat)) (.const (.int .i64 0)) 2), none⟩,
  ⟨some 8, (.assign (.tmp (10 : Nat))), none⟩]
def s29_4 : List Slim := [⟨some 4, (.assign (.const (.int .i64 2))), none⟩]
def s29_5 : List Slim := [⟨some 12, (.move (.tmp (1 : Nat))), none⟩,
  ⟨some 13, (.binOp .gtr 2 (.tmp (12 : Nat)) (.const (.int .i64 1073741824)) 2), none⟩,
  ⟨some 11, (.assign (.tmp (13 : Nat))), none⟩]
def s29_6 : List Slim := [⟨some 4, (.assign (.const (.int .i64 3))), none⟩]
def s29_7 : List Slim := [⟨some 14, (.move (.tmp (1 : Nat))), none⟩,
  ⟨some 15, (.move (.tmp (0 : Nat))), none⟩,
  ⟨some 16, (.nilCheck (.tmp (15 : Nat))), none⟩,
  ⟨some 17, (.fieldAddr 83 (.tmp (16 : Nat)) 1), none⟩,
  ⟨some 18, (.load 2 (.tmp (17 : Nat))), none⟩,
  ⟨some 19, (.binOp .lss 2 (.tmp (14 : Nat)) (.tmp (18 : Nat)) 2), none⟩]
def s29_8_1 : List Slim := [⟨some 20, (.move (.tmp (28 : Nat))), none⟩,
  ⟨some 29, (.extract (.tmp (20 : Nat)) 0), none⟩,
  ⟨some 30, (.extract (.tmp (20 : Nat)) 1), none⟩,
  ⟨some 31, (.nilCheck (.tmp (21 : Nat))), none⟩,
  ⟨some 32, (.fieldAddr 83 (.tmp (31 : Nat)) 0), none⟩,
  ⟨none, (.store 81 (.tmp (32 : Nat)) (.tmp (29 : Nat))), none⟩]
def s29_8 : List Slim := (⟨some 21, (.move (.tmp (0 : Nat))), none⟩ : Slim) ::
  (⟨some 22, (.move (.tmp (0 : Nat))), none⟩ : Slim) ::
  (⟨some 23, (.move (.tmp (1 : Nat))), none⟩ : Slim) ::
  (⟨some 24, (.move (.tmp (0 : Nat))), none⟩ : Slim) ::
  (⟨some 25, (.nilCheck (.tmp (24 : Nat))), none⟩ : Slim) ::
  (⟨some 26, (.fieldAddr 83 (.tmp (25 : Nat)) 1), none⟩ : Slim) ::
  (⟨some 27, (.load 2 (.tmp (26 : Nat))), none⟩ : Slim) ::
  (⟨some 28, (.call { callee := (.value (.func 45)), args := #[(.tmp (22 : Nat)), (.tmp (23 : Nat)), (.tmp (27 : Nat))], argTypes := #[49, 2, 2] }), none⟩ : Slim) ::
  s29_8_1
def s29_9 : List Slim := [⟨some 33, (.move (.tmp (0 : Nat))), none⟩,
  ⟨some 34, (.move (.tmp (1 : Nat))), none⟩,
  ⟨some 35, (.nilCheck (.tmp (33 : Nat))), none⟩,
  ⟨some 36, (.fieldAddr 83 (.tmp (35 : Nat)) 1), none⟩,
  ⟨none, (.store 2 (.tmp (36 : Nat)) (.tmp (34 : Nat))), none⟩]
def s29_10 : List Slim := [⟨some 4, (.assign (.const (.int .i64 0))), none⟩]
abbrev k30 : List Nat := [0, 1, 2, 3, 4, 5, 6, 7, 19]
def s30_0 : List Slim := [⟨some 0, (.assign (.const (.bool false))), none⟩]
def s30_1 : List Slim := [⟨some 8, (.buildSlice 40 3 #[(0, (.const (.int .u8 97))), (1, (.const (.int .u8 98))), (2, (.const (.int .u8 99)))]), none⟩,
  ⟨some 9, (.convert 40 40 (.tmp (8 : Nat))), none⟩,
  ⟨some 10, (.call { callee := (.value (.func 23)), args := #[(.tmp (9 : Nat))], argTypes := #[40] }), none⟩,
  ⟨some 1, (.assign (.tmp (10 : Nat))), none⟩]
def s30_2_1 : List Slim := [⟨some 18, (.binOp .neq 37 (.tmp (17 : Nat)) (.const (.int .i64 0)) 37), some (13, false)⟩,
  ⟨some 19, (.pick (.tmp (13 : Nat)) (.const (.bool true)) (.tmp (18 : Nat))), none⟩]
def s30_2 : List Slim := (⟨some 11, (.move (.tmp (1 : Nat))), none⟩ : Slim) ::
  (⟨some 12, (.binOp .eql 49 (.tmp (11 : Nat)) (.const (.pointer none)) 49), none⟩ : Slim) ::
  (⟨some 13, (.move (.tmp (12 : Nat))), none⟩ : Slim) ::
  (⟨some 14, (.move (.tmp (1 : Nat))), some (13, false)⟩ : Slim) ::
  (⟨some 15, (.buildSlice 40 2 #[(0, (.const (.int .u8 120))), (1, (.const (.int .u8 121)))]), some (13, false)⟩ : Slim) ::
  (⟨some 16, (.convert 40 40 (.tmp (15 : Nat))), some (13, false)⟩ : Slim) ::
  (⟨some 17, (.call { callee := (.value (.func 26)), args := #[(.tmp (14 : Nat)), (.const (.int .i64 5)), (.tmp (16 : Nat))], argTypes := #[49, 2, 40] }), some (13, false)⟩ : Slim) ::
  s30_2_1
def s30_3 : List Slim := [⟨some 0, (.assign (.const (.bool false))), none⟩]
def s30_4 : List Slim := [⟨some 21, (.move (.tmp (1 : Nat))), none⟩,
  ⟨some 22, (.call { callee := (.value (.func 33)), args := #[(.tmp (21 : Nat)), (.const (.int .i64 1))], argTypes := #[49, 2] }), none⟩,
  ⟨some 20, (.move (.tmp (22 : Nat))), none⟩,
  ⟨some 23, (.extract (.tmp (20 : Nat)) 0), none⟩,
  ⟨some 24, (.extract (.tmp (20 : Nat)) 1), none⟩,
  ⟨some 2, (.assign (.tmp (23 : Nat))), none⟩,
  ⟨some 3, (.assign (.tmp (24 : Nat))), none⟩]
def s30_5 : List Slim := [⟨some 26, (.move (.tmp (1 : Nat))), none⟩,
  ⟨some 27, (.call { callee := (.value (.func 33)), args := #[(.tmp (26 : Nat)), (.const (.int .i64 3))], argTypes := #[49, 2] }), none⟩,
  ⟨some 25, (.move (.tmp (27 : Nat))), none⟩,
  ⟨some 28, (.extract (.tmp (25 : Nat)) 0), none⟩,
  ⟨some 29, (.extract (.tmp (25 : Nat)) 1), none⟩,
  ⟨some 4, (.assign (.tmp (28 : Nat))), none⟩,
  ⟨some 5, (.assign (.tmp (29 : Nat))), none⟩]
def s30_6 : List Slim := [⟨some 31, (.move (.tmp (1 : Nat))), none⟩,
  ⟨some 32, (.call { callee := (.value (.func 33)), args := #[(.tmp (31 : Nat)), (.const (.int .i64 7))], argTypes := #[49, 2] }), none⟩,
  ⟨some 30, (.move (.tmp (32 : Nat))), none⟩,
  ⟨some 33, (.extract (.tmp (30 : Nat)) 0), none⟩,
  ⟨some 34, (.extract (.tmp (30 : Nat)) 1), none⟩,
  ⟨some 6, (.assign (.tmp (33 : Nat))), none⟩,
  ⟨some 7, (.assign (.tmp (34 : Nat))), none⟩]
def s30_7_4 : List Slim := [⟨some 76, (.binOp .eql 37 (.tmp (75 : Nat)) (.const (.int .i64 2)) 37), some (73, true)⟩,
  ⟨some 77, (.pick (.tmp (73 : Nat)) (.tmp (76 : Nat)) (.const (.bool false))), none⟩,
  ⟨some 0, (.assign (.tmp (77 : Nat))), none⟩]
def s30_7_3 : List Slim := (⟨some 46, (.convert 40 9 (.tmp (45 : Nat))), some (43, true)⟩ : Slim) ::
  (⟨some 47, (.binOp .eql 9 (.tmp (46 : Nat)) (.const (.string { data := #[98, 99, 0, 0, 120] })) 9), some (43, true)⟩ : Slim) ::
  (⟨some 48, (.pick (.tmp (43 : Nat)) (.tmp (47 : Nat)) (.const (.bool false))), none⟩ : Slim) ::
  (⟨some 49, (.move (.tmp (48 : Nat))), none⟩ : Slim) ::
  (⟨some 50, (.move (.tmp (2 : Nat))), some (49, true)⟩ : Slim) ::
  (⟨some 51, (.binOp .eql 2 (.tmp (50 : Nat)) (.const (.int .i64 1)) 2), some (49, true)⟩ : Slim) ::
  (⟨some 52, (.pick (.tmp (49 : Nat)) (.tmp (51 : Nat)) (.const (.bool false))), none⟩ : Slim) ::
  (⟨some 53, (.move (.tmp (52 : Nat))), none⟩ : Slim) ::
  (⟨some 54, (.move (.tmp (3 : Nat))), some (53, true)⟩ : Slim) ::
  (⟨some 55, (.binOp .eql 2 (.tmp (54 : Nat)) (.const (.int .i64 3)) 2), some (53, true)⟩ : Slim) ::
  (⟨some 56, (.pick (.tmp (53 : Nat)) (.tmp (55 : Nat)) (.const (.bool false))), none⟩ : Slim) ::
  (⟨some 57, (.move (.tmp (56 : Nat))), none⟩ : Slim) ::
  (⟨some 58, (.move (.tmp (4 : Nat))), some (57, true)⟩ : Slim) ::
  (⟨some 59, (.binOp .eql 2 (.tmp (58 : Nat)) (.const (.int .i64 5)) 2), some (57, true)⟩ : Slim) ::
  (⟨some 60, (.pick (.tmp (57 : Nat)) (.tmp (59 : Nat)) (.const (.bool false))), none⟩ : Slim) ::
  (⟨some 61, (.move (.tmp (60 : Nat))), none⟩ : Slim) ::
  (⟨some 62, (.move (.tmp (5 : Nat))), some (61, true)⟩ : Slim) ::
  (⟨some 63, (.binOp .eql 2 (.tmp (62 : Nat)) (.const (.int .i64 7)) 2), some (61, true)⟩ : Slim) ::
  (⟨some 64, (.pick (.tmp (61 : Nat)) (.tmp (63 : Nat)) (.const (.bool false))), none⟩ : Slim) ::
  (⟨some 65, (.move (.tmp (64 : Nat))), none⟩ : Slim) ::
  (⟨some 66, (.move (.tmp (6 : Nat))), some (65, true)⟩ : Slim) ::
  (⟨some 67, (.binOp .eql 2 (.tmp (66 : Nat)) (.const (.int .i64 7)) 2), some (65, true)⟩ : Slim) ::
  (⟨some 68, (.pick (.tmp (65 : Nat)) (.tmp (67 : Nat)) (.const (.bool false))), none⟩ : Slim) ::
  (⟨some 69, (.move (.tmp (68 : Nat))), none⟩ : Slim) ::
  (⟨some 70, (.move (.tmp (7 : Nat))), some (69, true)⟩ : Slim) ::
  (⟨some 71, (.binOp .eql 2 (.tmp (70 : Nat)) (.const (.int .i64 7)) 2), some (69, true)⟩ : Slim) ::
  (⟨some 72, (.pick (.tmp (69 : Nat)) (.tmp (71 : Nat)) (.const (.bool false))), none⟩ : Slim) ::
  (⟨some 73, (.move (.tmp (72 : Nat))), none⟩ : Slim) ::
  (⟨some 74, (.move (.tmp (1 : Nat))), some (73, true)⟩ : Slim) ::
  (⟨some 75, (.call { callee := (.value (.func 26)), args := #[(.tmp (74 : Nat)), (.const (.int .i64 (-1))), (.const (.slice none 0 0))], argTypes := #[49, 2, 40] }), some (73, true)⟩ : Slim) ::
  s30_7_4
def s30_7_2 : List Slim := (⟨some 41, (.binOp .eql 2 (.tmp (40 : Nat)) (.const (.int .i64 5)) 2), some (38, true)⟩ : Slim) ::
  (⟨some 42, (.pick (.tmp (38 : Nat)) (.tmp (41 : Nat)) (.const (.bool false))), none⟩ : Slim) ::
  (⟨some 43, (.move (.tmp (42 : Nat))), none⟩ : Slim) ::
  (⟨some 44, (.move (.tmp (1 : Nat))), some (43, true)⟩ : Slim) ::
  (⟨some 45, (.call { callee := (.value (.func 28)), args := #[(.tmp (44 : Nat)), (.const (.int .i64 1)), (.const (.int .i64 5))], argTypes := #[49, 2, 3] }), some (43, true)⟩ : Slim) ::
  s30_7_3
def s30_7_1 : List Slim := (⟨some 37, (.binOp .eql 2 (.tmp (36 : Nat)) (.const (.int .i64 7)) 2), none⟩ : Slim) ::
  (⟨some 38, (.move (.tmp (37 : Nat))), none⟩ : Slim) ::
  (⟨some 39, (.move (.tmp (1 : Nat))), some (38, true)⟩ : Slim) ::
  (⟨some 40, (.call { callee := (.value (.func 25)), args := #[(.tmp (39 : Nat))], argTypes := #[49] }), some (38, true)⟩ : Slim) ::
  s30_7_2
def s30_7 : List Slim := (⟨some 35, (.move (.tmp (1 : Nat))), none⟩ : Slim) ::
  (⟨some 36, (.call { callee := (.value (.func 24)), args := #[(.tmp (35 : Nat))], argTypes := #[49] }), none⟩ : Slim) ::
  s30_7_1
abbrev k31 : List Nat := [0, 1, 4, 5, 6, 20]
def s31_0 : List Slim := [⟨some 4, (.assign (.const (.bool false))), none⟩]
def s31_1 : List Slim := [⟨some 7, (.move (.tmp (0 : Nat))), none⟩,
  ⟨some 8, (.call { callee := (.builtin .len), args := #[(.tmp (7 : Nat))], argTypes := #[40] }), none⟩,
  ⟨some 5, (.assign (.tmp (8 : Nat))), none⟩]
def s31_2 : List Slim := [⟨some 6, (.assign (.const (.int .i64 0))), none⟩]
def s31_3 : List Slim := [⟨some 9, (.move (.tmp (6 : Nat))), none⟩,
  ⟨some 10, (.move (.tmp (1 : Nat))), none⟩,
  ⟨some 11, (.call { callee := (.builtin .len), args := #[(.tmp (10 : Nat))], argTypes := #[56] }), none⟩,
  ⟨some 12, (.binOp .lss 3 (.tmp (9 : Nat)) (.tmp (11 : Nat)) 3), none⟩,
  ⟨some 13, (.move (.tmp (12 : Nat))), none⟩,
  ⟨some 14, (.move (.tmp (6 : Nat))), some (13, true)⟩,
  ⟨some 15, (.binOp .leq 3 (.tmp (14 : Nat)) (.const (.int .i64 300)) 3), some (13, true)⟩,
  ⟨some 16, (.pick (.tmp (13 : Nat)) (.tmp (15 : Nat)) (.const (.bool false))), none⟩,
  ⟨some 17, (.move (.tmp (16 : Nat))), none⟩,
  ⟨some 18, (.move (.tmp (5 : Nat))), some (17, true)⟩,
  ⟨some 19, (.binOp .leq 3 (.tmp (18 : Nat)) (.const (.int .i64 131072)) 3), some (17, true)⟩,
  ⟨some 20, (.pick (.tmp (17 : Nat)) (.tmp (19 : Nat)) (.const (.bool false))), none⟩]
def s31_5 : List Slim := [⟨some 23, (.move (.tmp (5 : Nat))), none⟩,
  ⟨some 24, (.move (.tmp (1 : Nat))), none⟩,
  ⟨some 25, (.move (.tmp (6 : Nat))), none⟩,
  ⟨some 26, (.indexAddr 56 (.tmp (24 : Nat)) (.tmp (25 : Nat))), none⟩,
  ⟨some 27, (.fieldAddr 62 (.tmp (26 : Nat)) 3), none⟩,
  ⟨some 28, (.load 40 (.tmp (27 : Nat))), none⟩,
  ⟨some 29, (.call { callee := (.builtin .len), args := #[(.tmp (28 : Nat))], argTypes := #[40] }), none⟩,
  ⟨some 30, (.binOp .add 3 (.tmp (23 : Nat)) (.tmp (29 : Nat)) 3), none⟩,
  ⟨some 5, (.assign (.tmp (30 : Nat))), none⟩]
def s31_4 : List Slim := [⟨some 21, (.move (.tmp (6 : Nat))), none⟩,
  ⟨some 22, (.binOp .add 3 (.tmp (21 : Nat)) (.const (.int .i64 1)) 3), none⟩,
  ⟨some 6, (.assign (.tmp (22 : Nat))), none⟩]
def s31_6 : List Slim := [⟨some 31, (.move (.tmp (5 : Nat))), none⟩,
  ⟨some 32, (.binOp .gtr 3 (.tmp (31 : Nat)) (.const (.int .i64 131072)) 3), none⟩,
  ⟨some 33, (.move (.tmp (32 : Nat))), none⟩,
  ⟨some 34, (.move (.tmp (1 : Nat))), some (33, false)⟩,
  ⟨some 35, (.call { callee := (.builtin .len), args := #[(.tmp (34 : Nat))], argTypes := #[56] }), some (33, false)⟩,
  ⟨some 36, (.binOp .gtr 3 (.tmp (35 : Nat)) (.const (.int .i64 300)) 3), some (33, false)⟩,
  ⟨some 37, (.pick (.tmp (33 : Nat)) (.const (.bool true)) (.tmp (36 : Nat))), none⟩,
  ⟨some 4, (.assign (.tmp (37 : Nat))), none⟩]
abbrev k32 : List Nat := [0, 1, 4, 5, 6, 12, 19, 20, 34, 43]
def s32_0 : List Slim := [⟨some 4, (.assign (.const (.pointer none))), none⟩]
def s32_1 : List Slim := [⟨some 7, (.move (.tmp (0 : Nat))), none⟩,
  ⟨some 8, (.call { callee := (.value (.func 23)), args := #[(.tmp (7 : Nat))], argTypes := #[40] }), none⟩,
  ⟨some 5, (.assign (.tmp (8 : Nat))), none⟩]
def s32_2 : List Slim := [⟨some 6, (.assign (.const (.int .i64 0))), none⟩]
def s32_3 : List Slim := [⟨some 9, (.move (.tmp (6 : Nat))), none⟩,
  ⟨some 10, (.move (.tmp (1 : Nat))), none⟩,
  ⟨some 11, (.call { callee := (.builtin .len), args := #[(.tmp (10 : Nat))], argTypes := #[56] }), none⟩,
  ⟨some 12, (.binOp .lss 3 (.tmp (9 : Nat)) (.tmp (11 : Nat)) 3), none⟩]
def s32_5 : List Slim := [⟨some 15, (.move (.tmp (1 : Nat))), none⟩,
  ⟨some 16, (.move (.tmp (6 : Nat))), none⟩,
  ⟨some 17, (.indexAddr 56 (.tmp (15 : Nat)) (.tmp (16 : Nat))), none⟩,
  ⟨some 18, (.fieldAddr 62 (.tmp (17 : Nat)) 0), none⟩,
  ⟨some 19, (.load 3 (.tmp (18 : Nat))), none⟩]
def s32_6 : List Slim := [⟨some 21, (.binOp .eql 3 (.tmp (19 : Nat)) (.const (.int .i64 0)) 3), none⟩,
  ⟨some 20, (.assign (.tmp (21 : Nat))), none⟩]
def s32_7 : List Slim := [⟨some 22, (.move (.tmp (5 : Nat))), none⟩,
  ⟨some 23, (.move (.tmp (1 : Nat))), none⟩,
  ⟨some 24, (.move (.tmp (6 : Nat))), none⟩,
  ⟨some 25, (.indexAddr 56 (.tmp (23 : Nat)) (.tmp (24 : Nat))), none⟩,
  ⟨some 26, (.fieldAddr 62 (.tmp (25 : Nat)) 1), none⟩,
  ⟨some 27, (.load 2 (.tmp (26 : Nat))), none⟩,
  ⟨some 28, (.move (.tmp (1 : Nat))), none⟩,
  ⟨some 29, (.move (.tmp (6 : Nat))), none⟩,
  ⟨some 30, (.indexAddr 56 (.tmp (28 : Nat)) (.tmp (29 : Nat))), none⟩,
  ⟨some 31, (.fieldAddr 62 (.tmp (30 : Nat)) 3), none⟩,
  ⟨some 32, (.load 40 (.tmp (31 : Nat))), none⟩,
  ⟨some 33, (.call { callee := (.value (.func 26)), args := #[(.tmp (22 : Nat)), (.tmp (27 : Nat)), (.tmp (32 : Nat))], argTypes := #[49, 2, 40] }), none⟩]
def p32_7 : Plan := (Plan.take 0 (Plan.take 1 (Plan.take 2 (Plan.take 3 (Plan.take 4 (Plan.take 5 (Plan.take 6 (Plan.take 7 (Plan.take 8 (Plan.take 9 (Plan.take 10 (Plan.eff 11 false Plan.nil))))))))))))
def s32_8 : List Slim := [⟨some 35, (.binOp .eql 3 (.tmp (19 : Nat)) (.const (.int .i64 1)) 3), none⟩,
  ⟨some 34, (.assign (.tmp (35 : Nat))), none⟩]
def s32_9 : List Slim := [⟨some 36, (.move (.tmp (5 : Nat))), none⟩,
  ⟨some 37, (.move (.tmp (1 : Nat))), none⟩,
  ⟨some 38, (.move (.tmp (6 : Nat))), none⟩,
  ⟨some 39, (.indexAddr 56 (.tmp (37 : Nat)) (.tmp (38 : Nat))), none⟩,
  ⟨some 40, (.fieldAddr 62 (.tmp (39 : Nat)) 1), none⟩,
  ⟨some 41, (.load 2 (.tmp (40 : Nat))), none⟩,
  ⟨some 42, (.call { callee := (.value (.func 29)), args := #[(.tmp (36 : Nat)), (.tmp (41 : Nat))], argTypes := #[49, 2] }), none⟩]
def s32_10 : List Slim := [⟨some 44, (.binOp .eql 3 (.tmp (19 : Nat)) (.const (.int .i64 2)) 3), none⟩,
  ⟨some 43, (.assign (.tmp (44 : Nat))), none⟩]
def s32_11 : List Slim := [⟨some 45, (.move (.tmp (5 : Nat))), none⟩,
  ⟨some 46, (.move (.tmp (1 : Nat))), none⟩,
  ⟨some 47, (.move (.tmp (6 : Nat))), none⟩,
  ⟨some 48, (.indexAddr 56 (.tmp (46 : Nat)) (.tmp (47 : Nat))), none⟩,
  ⟨some 49, (.fieldAddr 62 (.tmp (48 : Nat)) 1), none⟩,
  ⟨some 50, (.load 2 (.tmp (49 : Nat))), none⟩,
  ⟨some 51, (.move (.tmp (1 : Nat))), none⟩,
  ⟨some 52, (.move (.tmp (6 : Nat))), none⟩,
  ⟨some 53, (.indexAddr 56 (.tmp (51 : Nat)) (.tmp (52 : Nat))), none⟩,
  ⟨some 54, (.fieldAddr 62 (.tmp (53 : Nat)) 2), none⟩,
  ⟨some 55, (.load 2 (.tmp (54 : Nat))), none⟩,
  ⟨some 56, (.call { callee := (.value (.func 27)), args := #[(.tmp (45 : Nat)), (.tmp (50 : Nat)), (.tmp (55 : Nat))], argTypes := #[49, 2, 2] }), none⟩]
def p32_11 : Plan := (Plan.take 0 (Plan.take 1 (Plan.take 2 (Plan.take 3 (Plan.take 4 (Plan.take 5 (Plan.take 6 (Plan.take 7 (Plan.take 8 (Plan.take 9 (Plan.take 10 (Plan.eff 11 false Plan.nil))))))))))))
def s32_4 : List Slim := [⟨some 13, (.move (.tmp (6 : Nat))), none⟩,
  ⟨some 14, (.binOp .add 3 (.tmp (13 : Nat)) (.const (.int .i64 1)) 3), none⟩,
  ⟨some 6, (.assign (.tmp (14 : Nat))), none⟩]
def s32_12 : List Slim := [⟨some 57, (.move (.tmp (5 : Nat))), none⟩,
  ⟨some 4, (.assign (.tmp (57 : Nat))), none⟩]
abbrev k33 : List Nat := [0, 1, 4, 5, 6, 8, 20]
def s33_0 : List Slim := [⟨some 4, (.assign (.const (.int .i64 0))), none⟩,
  ⟨some 5, (.assign (.const (.int .i64 0))), none⟩]
def s33_1 : List Slim := [⟨some 7, (.move (.tmp (0 : Nat))), none⟩,
  ⟨some 8, (.binOp .eql 49 (.tmp (7 : Nat)) (.const (.pointer none)) 49), none⟩]
def s33_2 : List Slim := [⟨some 4, (.assign (.const (.int .i64 0))), none⟩,
  ⟨some 5, (.assign (.const (.int .i64 0))), none⟩]
def s33_3 : List Slim := [⟨some 9, (.move (.tmp (1 : Nat))), none⟩,
  ⟨some 10, (.call { callee := (.builtin .max), args := #[(.tmp (9 : Nat)), (.const (.int .i64 0))], argTypes := #[2, 2] }), none⟩,
  ⟨some 1, (.assign (.tmp (10 : Nat))), none⟩]
def s33_4 : List Slim := [⟨some 11, (.move (.tmp (0 : Nat))), none⟩,
  ⟨some 12, (.move (.tmp (1 : Nat))), none⟩,
  ⟨some 13, (.call { callee := (.value (.func 43)), args := #[(.tmp (11 : Nat)), (.tmp (12 : Nat))], argTypes := #[49, 2] }), none⟩,
  ⟨some 6, (.assign (.tmp (13 : Nat))), none⟩]
def s33_5 : List Slim := [⟨some 14, (.move (.tmp (6 : Nat))), none⟩,
  ⟨some 15, (.move (.tmp (0 : Nat))), none⟩,
  ⟨some 16, (.nilCheck (.tmp (15 : Nat))), none⟩,
  ⟨some 17, (.fieldAddr 83 (.tmp (16 : Nat)) 0), none⟩,
  ⟨some 18, (.load 81 (.tmp (17 : Nat))), none⟩,
  ⟨some 19, (.call { callee := (.builtin .len), args := #[(.tmp (18 : Nat))], argTypes := #[81] }), none⟩,
  ⟨some 20, (.binOp .lss 3 (.tmp (14 : Nat)) (.tmp (19 : Nat)) 3), none⟩]
def s33_6 : List Slim := [⟨some 21, (.move (.tmp (1 : Nat))), none⟩,
  ⟨some 22, (.move (.tmp (0 : Nat))), none⟩,
  ⟨some 23, (.nilCheck (.tmp (22 : Nat))), none⟩,
  ⟨some 24, (.fieldAddr 83 (.tmp (23 : Nat)) 0), none⟩,
  ⟨some 25, (.load 81 (.tmp (24 : Nat))), none⟩,
  ⟨some 26, (.move (.tmp (6 : Nat))), none⟩,
  ⟨some 27, (.indexAddr 81 (.tmp (25 : Nat)) (.tmp (26 : Nat))), none⟩,
  ⟨some 28, (.fieldAddr 85 (.tmp (27 : Nat)) 0), none⟩,
  ⟨some 29, (.load 2 (.tmp (28 : Nat))), none⟩,
  ⟨some 30, (.call { callee := (.builtin .max), args := #[(.tmp (21 : Nat)), (.tmp (29 : Nat))], argTypes := #[2, 2] }), none⟩,
  ⟨some 31, (.move (.tmp (0 : Nat))), none⟩,
  ⟨some 32, (.nilCheck (.tmp (31 : Nat))), none⟩,
  ⟨some 33, (.fieldAddr 83 (.tmp (32 : Nat)) 0), none⟩,
  ⟨some 34, (.load 81 (.tmp (33 : Nat))), none⟩,
  ⟨some 35, (.move (.tmp (6 : Nat))), none⟩,
  ⟨some 36, (.indexAddr 81 (.tmp (34 : Nat)) (.tmp (35 : Nat))), none⟩,
  ⟨some 37, (.load 85 (.tmp (36 : Nat))), none⟩,
  ⟨some 38, (.call { callee := (.value (.func 44)), args := #[(.tmp (37 : Nat))], argTypes := #[85] }), none⟩,
  ⟨some 4, (.assign (.tmp (30 : Nat))), none⟩,
  ⟨some 5, (.assign (.tmp (38 : Nat))), none⟩]
def p33_6 : Plan := (Plan.take 0 (Plan.take 1 (Plan.take 2 (Plan.take 3 (Plan.take 4 (Plan.take 5 (Plan.take 6 (Plan.take 7 (Plan.take 8 (Plan.take 9 (Plan.take 10 (Plan.take 11 (Plan.take 12 (Plan.take 13 (Plan.take 14 (Plan.take 15 (Plan.take 16 (Plan.eff 17 true (Plan.take 18 (Plan.take 19 Plan.nil))))))))))))))))))))
def s33_7 : List Slim := [⟨some 39, (.move (.tmp (0 : Nat))), none⟩,
  ⟨some 40, (.nilCheck (.tmp (39 : Nat))), none⟩,
  ⟨some 41, (.fieldAddr 83 (.tmp (40 : Nat)) 1), none⟩,
  ⟨some 42, (.load 2 (.tmp (41 : Nat))), none⟩,
  ⟨some 43, (.move (.tmp (0 : Nat))), none⟩,
  ⟨some 44, (.nilCheck (.tmp (43 : Nat))), none⟩,
  ⟨some 45, (.fieldAddr 83 (.tmp (44 : Nat)) 1), none⟩,
  ⟨some 46, (.load 2 (.tmp (45 : Nat))), none⟩,
  ⟨some 4, (.assign (.tmp (42 : Nat))), none⟩,
  ⟨some 5, (.assign (.tmp (46 : Nat))), none⟩]
def p33_7 : Plan := (Plan.take 0 (Plan.take 1 (Plan.take 2 (Plan.take 3 (Plan.take 4 (Plan.take 5 (Plan.take 6 (Plan.take 7 (Plan.take 8 (Plan.take 9 Plan.nil))))))))))
end Go.Proofs.Ytpdklpeojjkkaaa
