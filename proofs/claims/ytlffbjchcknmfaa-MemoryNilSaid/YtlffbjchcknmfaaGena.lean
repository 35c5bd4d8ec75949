/- By program (gen.py): this seat's regions and tables, as the engine wants them. -/
import Derived.Test.YtlffbjchcknmfaaE10
import Derived.Test.YtlffbjchcknmfaaProg
import Derived.KernelRfl
namespace Go.Proofs.Ytlffbjchcknmfaa
open Go
set_option linter.unusedVariables false
set_option maxRecDepth 100000
abbrev k5 : List Nat := [0, 2, 3, 4, 5, 6, 7, 8]
def s5_0 : List Slim := [⟨some 2, (.assign (.const (.bool false))), none⟩]
def s5_1 : List Slim := [⟨some 3, (.assign (.const (.pointer none))), none⟩]
def s5_2 : List Slim := [⟨some 4, (.assign (.const (.pointer none))), none⟩]
def s5_3 : List Slim := [⟨some 10, (.move (.tmp (3 : Nat))), none⟩,
  ⟨some 11, (.move (.tmp (0 : Nat))), none⟩,
  ⟨some 12, (.call { callee := (.value (.func 34)), args := #[(.tmp (10 : Nat)), (.tmp (11 : Nat))], argTypes := #[50, 5] }), none⟩,
  ⟨some 9, (.move (.tmp (12 : Nat))), none⟩,
  ⟨some 13, (.extract (.tmp (9 : Nat)) 0), none⟩,
  ⟨some 14, (.extract (.tmp (9 : Nat)) 1), none⟩,
  ⟨some 5, (.assign (.tmp (13 : Nat))), none⟩,
  ⟨some 6, (.assign (.tmp (14 : Nat))), none⟩]
def s5_4 : List Slim := [⟨some 16, (.move (.tmp (4 : Nat))), none⟩,
  ⟨some 17, (.call { callee := (.value (.func 31)), args := #[(.tmp (16 : Nat))], argTypes := #[29] }), none⟩,
  ⟨some 15, (.move (.tmp (17 : Nat))), none⟩,
  ⟨some 18, (.extract (.tmp (15 : Nat)) 0), none⟩,
  ⟨some 19, (.extract (.tmp (15 : Nat)) 1), none⟩,
  ⟨some 7, (.assign (.tmp (18 : Nat))), none⟩,
  ⟨some 8, (.assign (.tmp (19 : Nat))), none⟩]
def s5_5_1 : List Slim := [⟨some 37, (.pick (.tmp (35 : Nat)) (.tmp (36 : Nat)) (.const (.bool false))), none⟩,
  ⟨some 2, (.assign (.tmp (37 : Nat))), none⟩]
def s5_5 : List Slim := (⟨some 20, (.move (.tmp (5 : Nat))), none⟩ : Slim) ::
  (⟨some 21, (.binOp .eql 29 (.tmp (20 : Nat)) (.const (.pointer none)) 29), none⟩ : Slim) ::
  (⟨some 22, (.move (.tmp (21 : Nat))), none⟩ : Slim) ::
  (⟨some 23, (.move (.tmp (6 : Nat))), some (22, true)⟩ : Slim) ::
  (⟨some 24, (.binOp .eql 30 (.tmp (23 : Nat)) (.const (.int .i64 1)) 30), some (22, true)⟩ : Slim) ::
  (⟨some 25, (.pick (.tmp (22 : Nat)) (.tmp (24 : Nat)) (.const (.bool false))), none⟩ : Slim) ::
  (⟨some 26, (.move (.tmp (25 : Nat))), none⟩ : Slim) ::
  (⟨some 27, (.move (.tmp (7 : Nat))), some (26, true)⟩ : Slim) ::
  (⟨some 28, (.call { callee := (.builtin .len), args := #[(.tmp (27 : Nat))], argTypes := #[22] }), some (26, true)⟩ : Slim) ::
  (⟨some 29, (.binOp .eql 3 (.tmp (28 : Nat)) (.const (.int .i64 0)) 3), some (26, true)⟩ : Slim) ::
  (⟨some 30, (.pick (.tmp (26 : Nat)) (.tmp (29 : Nat)) (.const (.bool false))), none⟩ : Slim) ::
  (⟨some 31, (.move (.tmp (30 : Nat))), none⟩ : Slim) ::
  (⟨some 32, (.move (.tmp (8 : Nat))), some (31, true)⟩ : Slim) ::
  (⟨some 33, (.binOp .eql 30 (.tmp (32 : Nat)) (.const (.int .i64 1)) 30), some (31, true)⟩ : Slim) ::
  (⟨some 34, (.pick (.tmp (31 : Nat)) (.tmp (33 : Nat)) (.const (.bool false))), none⟩ : Slim) ::
  (⟨some 35, (.move (.tmp (34 : Nat))), none⟩ : Slim) ::
  (⟨some 36, (.call { callee := (.value (.func 24)), args := #[], argTypes := #[] }), some (35, true)⟩ : Slim) ::
  s5_5_1
abbrev k24 : List Nat := [0, 1, 2, 3, 4, 5, 6, 7, 8, 9, 35]
def s24_0 : List Slim := [⟨some 0, (.assign (.const (.bool false))), none⟩]
def s24_1 : List Slim := [⟨some 11, (.buildSlice 22 3 #[(0, (.const (.int .u8 97))), (1, (.const (.int .u8 98))), (2, (.const (.int .u8 99)))]), none⟩,
  ⟨some 12, (.convert 22 22 (.tmp (11 : Nat))), none⟩,
  ⟨some 13, (.call { callee := (.value (.func 25)), args := #[(.tmp (12 : Nat)), (.const (.int .u8 0))], argTypes := #[22, 5] }), none⟩,
  ⟨some 10, (.move (.tmp (13 : Nat))), none⟩,
  ⟨some 14, (.extract (.tmp (10 : Nat)) 0), none⟩,
  ⟨some 15, (.extract (.tmp (10 : Nat)) 1), none⟩,
  ⟨some 1, (.assign (.tmp (14 : Nat))), none⟩,
  ⟨some 2, (.assign (.tmp (15 : Nat))), none⟩]
def s24_2 : List Slim := [⟨some 17, (.buildSlice 22 3 #[(0, (.const (.int .u8 97))), (1, (.const (.int .u8 98))), (2, (.const (.int .u8 99)))]), none⟩,
  ⟨some 18, (.convert 22 22 (.tmp (17 : Nat))), none⟩,
  ⟨some 19, (.call { callee := (.value (.func 25)), args := #[(.tmp (18 : Nat)), (.const (.int .u8 15))], argTypes := #[22, 5] }), none⟩,
  ⟨some 16, (.move (.tmp (19 : Nat))), none⟩,
  ⟨some 20, (.extract (.tmp (16 : Nat)) 0), none⟩,
  ⟨some 21, (.extract (.tmp (16 : Nat)) 1), none⟩,
  ⟨some 3, (.assign (.tmp (20 : Nat))), none⟩,
  ⟨some 4, (.assign (.tmp (21 : Nat))), none⟩]
def s24_3 : List Slim := [⟨some 22, (.move (.tmp (2 : Nat))), none⟩,
  ⟨some 23, (.binOp .neq 30 (.tmp (22 : Nat)) (.const (.int .i64 0)) 30), none⟩,
  ⟨some 24, (.move (.tmp (23 : Nat))), none⟩,
  ⟨some 25, (.move (.tmp (4 : Nat))), some (24, false)⟩,
  ⟨some 26, (.binOp .neq 30 (.tmp (25 : Nat)) (.const (.int .i64 0)) 30), some (24, false)⟩,
  ⟨some 27, (.pick (.tmp (24 : Nat)) (.const (.bool true)) (.tmp (26 : Nat))), none⟩,
  ⟨some 28, (.move (.tmp (27 : Nat))), none⟩,
  ⟨some 29, (.move (.tmp (1 : Nat))), some (28, false)⟩,
  ⟨some 30, (.binOp .eql 29 (.tmp (29 : Nat)) (.const (.pointer none)) 29), some (28, false)⟩,
  ⟨some 31, (.pick (.tmp (28 : Nat)) (.const (.bool true)) (.tmp (30 : Nat))), none⟩,
  ⟨some 32, (.move (.tmp (31 : Nat))), none⟩,
  ⟨some 33, (.move (.tmp (3 : Nat))), some (32, false)⟩,
  ⟨some 34, (.binOp .eql 29 (.tmp (33 : Nat)) (.const (.pointer none)) 29), some (32, false)⟩,
  ⟨some 35, (.pick (.tmp (32 : Nat)) (.const (.bool true)) (.tmp (34 : Nat))), none⟩]
def s24_4 : List Slim := [⟨some 0, (.assign (.const (.bool false))), none⟩]
def s24_5_1 : List Slim := [⟨some 5, (.alloc 38), none⟩,
  ⟨none, (.store 38 (.tmp (5 : Nat)) (.tmp (38 : Nat))), none⟩]
def s24_5 : List Slim := (⟨some 36, (.move (.tmp (1 : Nat))), none⟩ : Slim) ::
  (⟨some 37, (.build 43 #[(0, (.const (.int .i8 1))), (1, (.const (.int .i64 1))), (2, (.const (.int .i64 9)))]), none⟩ : Slim) ::
  (⟨some 38, (.call { callee := (.value (.func 33)), args := #[(.tmp (36 : Nat)), (.tmp (37 : Nat))], argTypes := #[29, 43] }), none⟩ : Slim) ::
  s24_5_1
def s24_6_1 : List Slim := [⟨some 6, (.alloc 38), none⟩,
  ⟨none, (.store 38 (.tmp (6 : Nat)) (.tmp (43 : Nat))), none⟩]
def s24_6 : List Slim := (⟨some 39, (.move (.tmp (1 : Nat))), none⟩ : Slim) ::
  (⟨some 40, (.buildSlice 22 1 #[(0, (.const (.int .u8 120)))]), none⟩ : Slim) ::
  (⟨some 41, (.convert 22 22 (.tmp (40 : Nat))), none⟩ : Slim) ::
  (⟨some 42, (.build 43 #[(0, (.const (.int .i8 2))), (3, (.tmp (41 : Nat)))]), none⟩ : Slim) ::
  (⟨some 43, (.call { callee := (.value (.func 33)), args := #[(.tmp (39 : Nat)), (.tmp (42 : Nat))], argTypes := #[29, 43] }), none⟩ : Slim) ::
  s24_6_1
def s24_7_1 : List Slim := [⟨some 7, (.alloc 38), none⟩,
  ⟨none, (.store 38 (.tmp (7 : Nat)) (.tmp (46 : Nat))), none⟩]
def s24_7 : List Slim := (⟨some 44, (.move (.tmp (3 : Nat))), none⟩ : Slim) ::
  (⟨some 45, (.build 43 #[(0, (.const (.int .i8 3))), (1, (.const (.int .i64 5)))]), none⟩ : Slim) ::
  (⟨some 46, (.call { callee := (.value (.func 33)), args := #[(.tmp (44 : Nat)), (.tmp (45 : Nat))], argTypes := #[29, 43] }), none⟩ : Slim) ::
  s24_7_1
def s24_8 : List Slim := [⟨some 48, (.move (.tmp (3 : Nat))), none⟩,
  ⟨some 49, (.call { callee := (.value (.func 31)), args := #[(.tmp (48 : Nat))], argTypes := #[29] }), none⟩,
  ⟨some 47, (.move (.tmp (49 : Nat))), none⟩,
  ⟨some 50, (.extract (.tmp (47 : Nat)) 0), none⟩,
  ⟨some 51, (.extract (.tmp (47 : Nat)) 1), none⟩,
  ⟨some 8, (.assign (.tmp (50 : Nat))), none⟩,
  ⟨some 9, (.assign (.tmp (51 : Nat))), none⟩]
def s24_9_2 : List Slim := [⟨some 83, (.binOp .eql 5 (.tmp (82 : Nat)) (.const (.int .u8 15)) 5), some (80, true)⟩,
  ⟨some 84, (.pick (.tmp (80 : Nat)) (.tmp (83 : Nat)) (.const (.bool false))), none⟩,
  ⟨some 0, (.assign (.tmp (84 : Nat))), none⟩]
def s24_9_1 : List Slim := (⟨some 78, (.binOp .eql 5 (.tmp (77 : Nat)) (.const (.int .u8 0)) 5), some (75, true)⟩ : Slim) ::
  (⟨some 79, (.pick (.tmp (75 : Nat)) (.tmp (78 : Nat)) (.const (.bool false))), none⟩ : Slim) ::
  (⟨some 80, (.move (.tmp (79 : Nat))), none⟩ : Slim) ::
  (⟨some 81, (.move (.tmp (3 : Nat))), some (80, true)⟩ : Slim) ::
  (⟨some 82, (.call { callee := (.value (.func 43)), args := #[(.tmp (81 : Nat))], argTypes := #[29] }), some (80, true)⟩ : Slim) ::
  s24_9_2
def s24_9 : List Slim := (⟨some 52, (.fieldAddr 38 (.tmp (5 : Nat)) 3), none⟩ : Slim) ::
  (⟨some 53, (.load 22 (.tmp (52 : Nat))), none⟩ : Slim) ::
  (⟨some 54, (.convert 22 9 (.tmp (53 : Nat))), none⟩ : Slim) ::
  (⟨some 55, (.binOp .eql 9 (.tmp (54 : Nat)) (.const (.string { data := #[98, 99] })) 9), none⟩ : Slim) ::
  (⟨some 56, (.move (.tmp (55 : Nat))), none⟩ : Slim) ::
  (⟨some 57, (.fieldAddr 38 (.tmp (6 : Nat)) 0), some (56, true)⟩ : Slim) ::
  (⟨some 58, (.load 30 (.tmp (57 : Nat))), some (56, true)⟩ : Slim) ::
  (⟨some 59, (.binOp .eql 30 (.tmp (58 : Nat)) (.const (.int .i64 5)) 30), some (56, true)⟩ : Slim) ::
  (⟨some 60, (.pick (.tmp (56 : Nat)) (.tmp (59 : Nat)) (.const (.bool false))), none⟩ : Slim) ::
  (⟨some 61, (.move (.tmp (60 : Nat))), none⟩ : Slim) ::
  (⟨some 62, (.fieldAddr 38 (.tmp (7 : Nat)) 0), some (61, true)⟩ : Slim) ::
  (⟨some 63, (.load 30 (.tmp (62 : Nat))), some (61, true)⟩ : Slim) ::
  (⟨some 64, (.binOp .eql 30 (.tmp (63 : Nat)) (.const (.int .i64 0)) 30), some (61, true)⟩ : Slim) ::
  (⟨some 65, (.pick (.tmp (61 : Nat)) (.tmp (64 : Nat)) (.const (.bool false))), none⟩ : Slim) ::
  (⟨some 66, (.move (.tmp (65 : Nat))), none⟩ : Slim) ::
  (⟨some 67, (.move (.tmp (9 : Nat))), some (66, true)⟩ : Slim) ::
  (⟨some 68, (.binOp .eql 30 (.tmp (67 : Nat)) (.const (.int .i64 0)) 30), some (66, true)⟩ : Slim) ::
  (⟨some 69, (.pick (.tmp (66 : Nat)) (.tmp (68 : Nat)) (.const (.bool false))), none⟩ : Slim) ::
  (⟨some 70, (.move (.tmp (69 : Nat))), none⟩ : Slim) ::
  (⟨some 71, (.move (.tmp (8 : Nat))), some (70, true)⟩ : Slim) ::
  (⟨some 72, (.convert 22 9 (.tmp (71 : Nat))), some (70, true)⟩ : Slim) ::
  (⟨some 73, (.binOp .eql 9 (.tmp (72 : Nat)) (.const (.string { data := #[97, 98, 99, 0, 0] })) 9), some (70, true)⟩ : Slim) ::
  (⟨some 74, (.pick (.tmp (70 : Nat)) (.tmp (73 : Nat)) (.const (.bool false))), none⟩ : Slim) ::
  (⟨some 75, (.move (.tmp (74 : Nat))), none⟩ : Slim) ::
  (⟨some 76, (.move (.tmp (1 : Nat))), some (75, true)⟩ : Slim) ::
  (⟨some 77, (.call { callee := (.value (.func 43)), args := #[(.tmp (76 : Nat))], argTypes := #[29] }), some (75, true)⟩ : Slim) ::
  s24_9_1
abbrev k25 : List Nat := [0, 1, 4, 5, 6, 9]
def s25_0 : List Slim := [⟨some 4, (.assign (.const (.pointer none))), none⟩,
  ⟨some 5, (.assign (.const (.int .i64 0))), none⟩]
def s25_1 : List Slim := [⟨some 7, (.move (.tmp (1 : Nat))), none⟩,
  ⟨some 8, (.binOp .gtr 5 (.tmp (7 : Nat)) (.const (.int .u8 15)) 5), none⟩,
  ⟨some 6, (.assign (.tmp (8 : Nat))), none⟩]
def s25_2 : List Slim := [⟨some 4, (.assign (.const (.pointer none))), none⟩,
  ⟨some 5, (.assign (.const (.int .i64 2))), none⟩]
def s25_3 : List Slim := [⟨some 10, (.move (.tmp (0 : Nat))), none⟩,
  ⟨some 11, (.call { callee := (.builtin .len), args := #[(.tmp (10 : Nat))], argTypes := #[22] }), none⟩,
  ⟨some 12, (.binOp .gtr 3 (.tmp (11 : Nat)) (.const (.int .i64 4194304)) 3), none⟩,
  ⟨some 9, (.assign (.tmp (12 : Nat))), none⟩]
def s25_4 : List Slim := [⟨some 4, (.assign (.const (.pointer none))), none⟩,
  ⟨some 5, (.assign (.const (.int .i64 3))), none⟩]
def s25_5_1 : List Slim := [⟨some 15, (.move (.tmp (1 : Nat))), none⟩,
  ⟨some 16, (.call { callee := (.value (.func 34)), args := #[(.tmp (14 : Nat)), (.tmp (15 : Nat))], argTypes := #[50, 5] }), none⟩,
  ⟨some 17, (.extract (.tmp (16 : Nat)) 0), none⟩,
  ⟨some 18, (.extract (.tmp (16 : Nat)) 1), none⟩,
  ⟨some 4, (.assign (.tmp (17 : Nat))), none⟩,
  ⟨some 5, (.assign (.tmp (18 : Nat))), none⟩]
def s25_5 : List Slim := (⟨some 13, (.move (.tmp (0 : Nat))), none⟩ : Slim) ::
  (⟨some 14, (.call { callee := (.value (.func 74)), args := #[(.tmp (13 : Nat))], argTypes := #[22] }), none⟩ : Slim) ::
  s25_5_1
abbrev k31 : List Nat := [0, 2, 3, 4, 5, 6, 7, 8, 9, 10, 12, 18, 23, 39, 47]
def s31_0 : List Slim := [⟨some 2, (.assign (.const (.slice none 0 0))), none⟩,
  ⟨some 3, (.assign (.const (.int .i64 0))), none⟩]
def s31_1 : List Slim := [⟨some 11, (.move (.tmp (0 : Nat))), none⟩,
  ⟨some 12, (.binOp .eql 29 (.tmp (11 : Nat)) (.const (.pointer none)) 29), none⟩]
def s31_2 : List Slim := [⟨some 2, (.assign (.const (.slice none 0 0))), none⟩,
  ⟨some 3, (.assign (.const (.int .i64 1))), none⟩]
def s31_3 : List Slim := [⟨some 13, (.move (.tmp (0 : Nat))), none⟩,
  ⟨some 14, (.call { callee := (.value (.func 76)), args := #[(.tmp (13 : Nat))], argTypes := #[29] }), none⟩,
  ⟨some 4, (.assign (.tmp (14 : Nat))), none⟩]
def s31_4 : List Slim := [⟨some 15, (.move (.tmp (4 : Nat))), none⟩,
  ⟨some 16, (.call { callee := (.invoke (.tmp (15 : Nat)) "Size"), args := #[], argTypes := #[] }), none⟩,
  ⟨some 5, (.assign (.tmp (16 : Nat))), none⟩]
def s31_5 : List Slim := [⟨some 17, (.move (.tmp (5 : Nat))), none⟩,
  ⟨some 18, (.binOp .gtr 2 (.tmp (17 : Nat)) (.const (.int .i64 4194304)) 2), none⟩]
def s31_6 : List Slim := [⟨some 2, (.assign (.const (.slice none 0 0))), none⟩,
  ⟨some 3, (.assign (.const (.int .i64 3))), none⟩]
def s31_7 : List Slim := [⟨some 19, (.move (.tmp (5 : Nat))), none⟩,
  ⟨some 20, (.makeSlice 22 (.const (.int .i64 0)) (.tmp (19 : Nat))), none⟩,
  ⟨some 6, (.assign (.tmp (20 : Nat))), none⟩]
def s31_8 : List Slim := [⟨some 21, (.move (.tmp (5 : Nat))), none⟩,
  ⟨some 7, (.assign (.tmp (21 : Nat))), none⟩]
def s31_9 : List Slim := [⟨some 22, (.move (.tmp (7 : Nat))), none⟩,
  ⟨some 23, (.binOp .gtr 2 (.tmp (22 : Nat)) (.const (.int .i64 0)) 2), none⟩]
def s31_11 : List Slim := [⟨some 28, (.move (.tmp (7 : Nat))), none⟩,
  ⟨some 29, (.call { callee := (.builtin .min), args := #[(.tmp (28 : Nat)), (.const (.int .i64 65536))], argTypes := #[2, 2] }), none⟩,
  ⟨some 8, (.assign (.tmp (29 : Nat))), none⟩]
def s31_12 : List Slim := [⟨some 31, (.move (.tmp (4 : Nat))), none⟩,
  ⟨some 32, (.move (.tmp (6 : Nat))), none⟩,
  ⟨some 33, (.call { callee := (.builtin .len), args := #[(.tmp (32 : Nat))], argTypes := #[22] }), none⟩,
  ⟨some 34, (.move (.tmp (8 : Nat))), none⟩,
  ⟨some 35, (.call { callee := (.invoke (.tmp (31 : Nat)) "ReadAt"), args := #[(.tmp (33 : Nat)), (.tmp (34 : Nat))], argTypes := #[2, 3] }), none⟩,
  ⟨some 30, (.move (.tmp (35 : Nat))), none⟩,
  ⟨some 36, (.extract (.tmp (30 : Nat)) 0), none⟩,
  ⟨some 37, (.extract (.tmp (30 : Nat)) 1), none⟩,
  ⟨some 9, (.assign (.tmp (36 : Nat))), none⟩,
  ⟨some 10, (.assign (.tmp (37 : Nat))), none⟩]
def s31_13 : List Slim := [⟨some 38, (.move (.tmp (10 : Nat))), none⟩,
  ⟨some 39, (.binOp .neq 30 (.tmp (38 : Nat)) (.const (.int .i64 0)) 30), none⟩]
def s31_14 : List Slim := [⟨some 40, (.move (.tmp (10 : Nat))), none⟩,
  ⟨some 2, (.assign (.const (.slice none 0 0))), none⟩,
  ⟨some 3, (.assign (.tmp (40 : Nat))), none⟩]
def s31_15 : List Slim := [⟨some 41, (.move (.tmp (6 : Nat))), none⟩,
  ⟨some 42, (.move (.tmp (9 : Nat))), none⟩,
  ⟨some 43, (.call { callee := (.builtin .append), args := #[(.tmp (41 : Nat)), (.tmp (42 : Nat))], argTypes := #[22, 22] }), none⟩,
  ⟨some 6, (.assign (.tmp (43 : Nat))), none⟩]
def s31_16 : List Slim := [⟨some 44, (.move (.tmp (9 : Nat))), none⟩,
  ⟨some 45, (.call { callee := (.builtin .len), args := #[(.tmp (44 : Nat))], argTypes := #[22] }), none⟩,
  ⟨some 46, (.move (.tmp (8 : Nat))), none⟩,
  ⟨some 47, (.binOp .lss 3 (.tmp (45 : Nat)) (.tmp (46 : Nat)) 3), none⟩]
def s31_10 : List Slim := [⟨some 24, (.move (.tmp (5 : Nat))), none⟩,
  ⟨some 25, (.move (.tmp (6 : Nat))), none⟩,
  ⟨some 26, (.call { callee := (.builtin .len), args := #[(.tmp (25 : Nat))], argTypes := #[22] }), none⟩,
  ⟨some 27, (.binOp .sub 2 (.tmp (24 : Nat)) (.tmp (26 : Nat)) 2), none⟩,
  ⟨some 7, (.assign (.tmp (27 : Nat))), none⟩]
def s31_17 : List Slim := [⟨some 48, (.move (.tmp (6 : Nat))), none⟩,
  ⟨some 2, (.assign (.tmp (48 : Nat))), none⟩,
  ⟨some 3, (.assign (.const (.int .i64 0))), none⟩]
abbrev k33 : List Nat := [0, 1, 3, 4, 5, 6, 7, 8, 9, 10, 11, 12, 13, 14, 15, 17, 21, 23, 31, 49, 59, 71, 81, 87, 97, 108, 118]
def s33_0 : List Slim := [⟨some 3, (.box 43 (.tmp (1 : Nat))), none⟩,
  ⟨some 4, (.alloc 38), none⟩]
def s33_1 : List Slim := [⟨some 16, (.move (.tmp (0 : Nat))), none⟩,
  ⟨some 17, (.binOp .eql 29 (.tmp (16 : Nat)) (.const (.pointer none)) 29), none⟩]
def s33_2 : List Slim := [⟨some 18, (.build 38 #[(0, (.const (.int .i64 1)))]), none⟩,
  ⟨none, (.store 38 (.tmp (4 : Nat)) (.tmp (18 : Nat))), none⟩]
def s33_3 : List Slim := [⟨some 19, (.build 38 #[(0, (.const (.int .i64 5)))]), none⟩,
  ⟨some 5, (.alloc 38), none⟩,
  ⟨none, (.store 38 (.tmp (5 : Nat)) (.tmp (19 : Nat))), none⟩]
def s33_4 : List Slim := [⟨some 20, (.fieldAddr 43 (.tmp (3 : Nat)) 0), none⟩,
  ⟨some 21, (.load 41 (.tmp (20 : Nat))), none⟩]
def s33_6 : List Slim := [⟨some 24, (.binOp .eql 41 (.tmp (21 : Nat)) (.const (.int .i8 0)) 41), none⟩,
  ⟨some 23, (.assign (.tmp (24 : Nat))), none⟩]
def s33_7_1 : List Slim := [⟨some 30, (.build 38 #[(1, (.tmp (29 : Nat)))]), none⟩,
  ⟨none, (.store 38 (.tmp (4 : Nat)) (.tmp (30 : Nat))), none⟩]
def s33_7 : List Slim := (⟨some 25, (.move (.tmp (0 : Nat))), none⟩ : Slim) ::
  (⟨some 26, (.nilCheck (.tmp (25 : Nat))), none⟩ : Slim) ::
  (⟨some 27, (.fieldAddr 147 (.tmp (26 : Nat)) 5), none⟩ : Slim) ::
  (⟨some 28, (.load 127 (.tmp (27 : Nat))), none⟩ : Slim) ::
  (⟨some 29, (.call { callee := (.invoke (.tmp (28 : Nat)) "Size"), args := #[], argTypes := #[] }), none⟩ : Slim) ::
  s33_7_1
def s33_8 : List Slim := [⟨some 32, (.binOp .eql 41 (.tmp (21 : Nat)) (.const (.int .i8 1)) 41), none⟩,
  ⟨some 31, (.assign (.tmp (32 : Nat))), none⟩]
def s33_9 : List Slim := [⟨some 34, (.move (.tmp (0 : Nat))), none⟩,
  ⟨some 35, (.nilCheck (.tmp (34 : Nat))), none⟩,
  ⟨some 36, (.fieldAddr 147 (.tmp (35 : Nat)) 5), none⟩,
  ⟨some 37, (.load 127 (.tmp (36 : Nat))), none⟩,
  ⟨some 38, (.fieldAddr 43 (.tmp (3 : Nat)) 1), none⟩,
  ⟨some 39, (.load 2 (.tmp (38 : Nat))), none⟩,
  ⟨some 40, (.fieldAddr 43 (.tmp (3 : Nat)) 2), none⟩,
  ⟨some 41, (.load 3 (.tmp (40 : Nat))), none⟩,
  ⟨some 42, (.call { callee := (.invoke (.tmp (37 : Nat)) "ReadAt"), args := #[(.tmp (39 : Nat)), (.tmp (41 : Nat))], argTypes := #[2, 3] }), none⟩,
  ⟨some 33, (.move (.tmp (42 : Nat))), none⟩,
  ⟨some 43, (.extract (.tmp (33 : Nat)) 0), none⟩,
  ⟨some 44, (.extract (.tmp (33 : Nat)) 1), none⟩,
  ⟨some 6, (.assign (.tmp (43 : Nat))), none⟩,
  ⟨some 7, (.assign (.tmp (44 : Nat))), none⟩]
def p33_9 : Plan := (Plan.take 0 (Plan.take 1 (Plan.take 2 (Plan.take 3 (Plan.take 4 (Plan.take 5 (Plan.take 6 (Plan.take 7 (Plan.eff 8 false (Plan.take 9 (Plan.take 10 (Plan.take 11 (Plan.take 12 (Plan.take 13 Plan.nil))))))))))))))
def s33_10_1 : List Slim := [⟨some 48, (.build 38 #[(0, (.tmp (45 : Nat))), (3, (.tmp (47 : Nat)))]), none⟩,
  ⟨none, (.store 38 (.tmp (4 : Nat)) (.tmp (48 : Nat))), none⟩]
def s33_10 : List Slim := (⟨some 45, (.move (.tmp (7 : Nat))), none⟩ : Slim) ::
  (⟨some 46, (.move (.tmp (6 : Nat))), none⟩ : Slim) ::
  (⟨some 47, (.call { callee := (.value (.func 83)), args := #[(.tmp (46 : Nat))], argTypes := #[22] }), none⟩ : Slim) ::
  s33_10_1
def s33_11 : List Slim := [⟨some 50, (.binOp .eql 41 (.tmp (21 : Nat)) (.const (.int .i8 2)) 41), none⟩,
  ⟨some 49, (.assign (.tmp (50 : Nat))), none⟩]
def s33_12 : List Slim := [⟨some 52, (.move (.tmp (0 : Nat))), none⟩,
  ⟨some 53, (.nilCheck (.tmp (52 : Nat))), none⟩,
  ⟨some 54, (.fieldAddr 147 (.tmp (53 : Nat)) 5), none⟩,
  ⟨some 55, (.load 127 (.tmp (54 : Nat))), none⟩,
  ⟨some 56, (.typeAssert (.tmp (55 : Nat)) 127 130 true), none⟩,
  ⟨some 51, (.move (.tmp (56 : Nat))), none⟩,
  ⟨some 57, (.extract (.tmp (51 : Nat)) 0), none⟩,
  ⟨some 58, (.extract (.tmp (51 : Nat)) 1), none⟩,
  ⟨some 8, (.assign (.tmp (57 : Nat))), none⟩,
  ⟨some 9, (.assign (.tmp (58 : Nat))), none⟩]
def s33_13 : List Slim := [⟨some 59, (.move (.tmp (9 : Nat))), none⟩]
def s33_14 : List Slim := [⟨some 60, (.move (.tmp (8 : Nat))), none⟩,
  ⟨some 61, (.fieldAddr 43 (.tmp (3 : Nat)) 1), none⟩,
  ⟨some 62, (.load 2 (.tmp (61 : Nat))), none⟩,
  ⟨some 63, (.fieldAddr 43 (.tmp (3 : Nat)) 3), none⟩,
  ⟨some 64, (.load 22 (.tmp (63 : Nat))), none⟩,
  ⟨some 65, (.call { callee := (.value (.func 83)), args := #[(.tmp (64 : Nat))], argTypes := #[22] }), none⟩,
  ⟨some 66, (.makeFunc (.method "WriteAt") #[(.tmp (60 : Nat))] #[]), none⟩,
  ⟨some 67, (.nilCheck (.tmp (66 : Nat))), none⟩,
  ⟨some 68, (.move (.tmp (60 : Nat))), none⟩,
  ⟨some 69, (.call { callee := (.invoke (.tmp (68 : Nat)) "WriteAt"), args := #[(.tmp (62 : Nat)), (.tmp (65 : Nat))], argTypes := #[2, 22] }), none⟩,
  ⟨some 70, (.fieldAddr 38 (.tmp (5 : Nat)) 0), none⟩,
  ⟨none, (.store 30 (.tmp (70 : Nat)) (.tmp (69 : Nat))), none⟩]
def p33_14_1 : Plan := (Plan.take 10 (Plan.eff 11 false Plan.nil))
def p33_14_2 : Plan := (Plan.eff 9 false p33_14_1)
def p33_14 : Plan := (Plan.take 0 (Plan.take 1 (Plan.take 2 (Plan.take 3 (Plan.take 4 (Plan.take 6 (Plan.take 7 (Plan.take 8 (Plan.eff 5 true p33_14_2)))))))))
def s33_15 : List Slim := [⟨some 72, (.binOp .eql 41 (.tmp (21 : Nat)) (.const (.int .i8 3)) 41), none⟩,
  ⟨some 71, (.assign (.tmp (72 : Nat))), none⟩]
def s33_16 : List Slim := [⟨some 74, (.move (.tmp (0 : Nat))), none⟩,
  ⟨some 75, (.nilCheck (.tmp (74 : Nat))), none⟩,
  ⟨some 76, (.fieldAddr 147 (.tmp (75 : Nat)) 5), none⟩,
  ⟨some 77, (.load 127 (.tmp (76 : Nat))), none⟩,
  ⟨some 78, (.typeAssert (.tmp (77 : Nat)) 127 133 true), none⟩,
  ⟨some 73, (.move (.tmp (78 : Nat))), none⟩,
  ⟨some 79, (.extract (.tmp (73 : Nat)) 0), none⟩,
  ⟨some 80, (.extract (.tmp (73 : Nat)) 1), none⟩,
  ⟨some 10, (.assign (.tmp (79 : Nat))), none⟩,
  ⟨some 11, (.assign (.tmp (80 : Nat))), none⟩]
def s33_17 : List Slim := [⟨some 81, (.move (.tmp (11 : Nat))), none⟩]
def s33_18_1 : List Slim := [⟨some 86, (.fieldAddr 38 (.tmp (5 : Nat)) 0), none⟩,
  ⟨none, (.store 30 (.tmp (86 : Nat)) (.tmp (85 : Nat))), none⟩]
def s33_18 : List Slim := (⟨some 82, (.move (.tmp (10 : Nat))), none⟩ : Slim) ::
  (⟨some 83, (.fieldAddr 43 (.tmp (3 : Nat)) 1), none⟩ : Slim) ::
  (⟨some 84, (.load 2 (.tmp (83 : Nat))), none⟩ : Slim) ::
  (⟨some 85, (.call { callee := (.invoke (.tmp (82 : Nat)) "Cut"), args := #[(.tmp (84 : Nat))], argTypes := #[2] }), none⟩ : Slim) ::
  s33_18_1
def s33_19 : List Slim := [⟨some 88, (.binOp .eql 41 (.tmp (21 : Nat)) (.const (.int .i8 4)) 41), none⟩,
  ⟨some 87, (.assign (.tmp (88 : Nat))), none⟩]
def s33_20 : List Slim := [⟨some 90, (.move (.tmp (0 : Nat))), none⟩,
  ⟨some 91, (.nilCheck (.tmp (90 : Nat))), none⟩,
  ⟨some 92, (.fieldAddr 147 (.tmp (91 : Nat)) 5), none⟩,
  ⟨some 93, (.load 127 (.tmp (92 : Nat))), none⟩,
  ⟨some 94, (.typeAssert (.tmp (93 : Nat)) 127 136 true), none⟩,
  ⟨some 89, (.move (.tmp (94 : Nat))), none⟩,
  ⟨some 95, (.extract (.tmp (89 : Nat)) 0), none⟩,
  ⟨some 96, (.extract (.tmp (89 : Nat)) 1), none⟩,
  ⟨some 12, (.assign (.tmp (95 : Nat))), none⟩,
  ⟨some 13, (.assign (.tmp (96 : Nat))), none⟩]
def s33_21 : List Slim := [⟨some 97, (.move (.tmp (13 : Nat))), none⟩]
def s33_22 : List Slim := [⟨some 98, (.fieldAddr 38 (.tmp (5 : Nat)) 0), none⟩,
  ⟨none, (.store 30 (.tmp (98 : Nat)) (.const (.int .i64 0))), none⟩]
def s33_23_1 : List Slim := [⟨some 99, (.move (.tmp (103 : Nat))), none⟩,
  ⟨some 104, (.extract (.tmp (99 : Nat)) 0), none⟩,
  ⟨some 105, (.extract (.tmp (99 : Nat)) 1), none⟩,
  ⟨some 106, (.fieldAddr 38 (.tmp (5 : Nat)) 1), none⟩,
  ⟨none, (.store 2 (.tmp (106 : Nat)) (.tmp (104 : Nat))), none⟩,
  ⟨some 107, (.fieldAddr 38 (.tmp (5 : Nat)) 2), none⟩,
  ⟨none, (.store 2 (.tmp (107 : Nat)) (.tmp (105 : Nat))), none⟩]
def s33_23 : List Slim := (⟨some 100, (.move (.tmp (12 : Nat))), none⟩ : Slim) ::
  (⟨some 101, (.fieldAddr 43 (.tmp (3 : Nat)) 1), none⟩ : Slim) ::
  (⟨some 102, (.load 2 (.tmp (101 : Nat))), none⟩ : Slim) ::
  (⟨some 103, (.call { callee := (.invoke (.tmp (100 : Nat)) "Next"), args := #[(.tmp (102 : Nat))], argTypes := #[2] }), none⟩ : Slim) ::
  s33_23_1
def s33_24 : List Slim := [⟨some 109, (.binOp .eql 41 (.tmp (21 : Nat)) (.const (.int .i8 5)) 41), none⟩,
  ⟨some 108, (.assign (.tmp (109 : Nat))), none⟩]
def s33_25 : List Slim := [⟨some 111, (.move (.tmp (0 : Nat))), none⟩,
  ⟨some 112, (.nilCheck (.tmp (111 : Nat))), none⟩,
  ⟨some 113, (.fieldAddr 147 (.tmp (112 : Nat)) 5), none⟩,
  ⟨some 114, (.load 127 (.tmp (113 : Nat))), none⟩,
  ⟨some 115, (.typeAssert (.tmp (114 : Nat)) 127 139 true), none⟩,
  ⟨some 110, (.move (.tmp (115 : Nat))), none⟩,
  ⟨some 116, (.extract (.tmp (110 : Nat)) 0), none⟩,
  ⟨some 117, (.extract (.tmp (110 : Nat)) 1), none⟩,
  ⟨some 14, (.assign (.tmp (116 : Nat))), none⟩,
  ⟨some 15, (.assign (.tmp (117 : Nat))), none⟩]
def s33_26 : List Slim := [⟨some 118, (.move (.tmp (15 : Nat))), none⟩]
def s33_27_1 : List Slim := [⟨some 121, (.fieldAddr 38 (.tmp (5 : Nat)) 0), none⟩,
  ⟨none, (.store 30 (.tmp (121 : Nat)) (.tmp (120 : Nat))), none⟩]
def s33_27 : List Slim := (⟨some 119, (.move (.tmp (14 : Nat))), none⟩ : Slim) ::
  (⟨some 120, (.call { callee := (.invoke (.tmp (119 : Nat)) "Sync"), args := #[], argTypes := #[] }), none⟩ : Slim) ::
  s33_27_1
def s33_5 : List Slim := [⟨some 22, (.fieldAddr 38 (.tmp (5 : Nat)) 0), none⟩,
  ⟨none, (.store 30 (.tmp (22 : Nat)) (.const (.int .i64 2))), none⟩]
def s33_28 : List Slim := [⟨some 122, (.load 38 (.tmp (5 : Nat))), none⟩,
  ⟨none, (.store 38 (.tmp (4 : Nat)) (.tmp (122 : Nat))), none⟩]
abbrev k34 : List Nat := [0, 1, 4, 5, 6, 7, 10]
def s34_0 : List Slim := [⟨some 4, (.assign (.const (.pointer none))), none⟩,
  ⟨some 5, (.assign (.const (.int .i64 0))), none⟩]
def s34_1 : List Slim := [⟨some 8, (.move (.tmp (0 : Nat))), none⟩,
  ⟨some 9, (.binOp .eql 50 (.tmp (8 : Nat)) (.const (.pointer none)) 50), none⟩,
  ⟨some 7, (.assign (.tmp (9 : Nat))), none⟩]
def s34_2 : List Slim := [⟨some 4, (.assign (.const (.pointer none))), none⟩,
  ⟨some 5, (.assign (.const (.int .i64 1))), none⟩]
def s34_3 : List Slim := [⟨some 11, (.move (.tmp (1 : Nat))), none⟩,
  ⟨some 12, (.binOp .gtr 5 (.tmp (11 : Nat)) (.const (.int .u8 15)) 5), none⟩,
  ⟨some 10, (.assign (.tmp (12 : Nat))), none⟩]
def s34_4 : List Slim := [⟨some 4, (.assign (.const (.pointer none))), none⟩,
  ⟨some 5, (.assign (.const (.int .i64 2))), none⟩]
def s34_5 : List Slim := [⟨some 13, (.move (.tmp (0 : Nat))), none⟩,
  ⟨some 14, (.build 152 #[(0, (.tmp (13 : Nat)))]), none⟩,
  ⟨some 15, (.box 152 (.tmp (14 : Nat))), none⟩,
  ⟨some 6, (.assign (.tmp (15 : Nat))), none⟩]
def s34_6_1 : List Slim := [⟨some 27, (.move (.tmp (1 : Nat))), none⟩,
  ⟨some 28, (.call { callee := (.value (.func 85)), args := #[(.tmp (26 : Nat)), (.tmp (27 : Nat))], argTypes := #[29, 5] }), none⟩,
  ⟨some 4, (.assign (.tmp (28 : Nat))), none⟩,
  ⟨some 5, (.assign (.const (.int .i64 0))), none⟩]
def s34_6 : List Slim := (⟨some 16, (.move (.tmp (6 : Nat))), none⟩ : Slim) ::
  (⟨some 17, (.makeInterface 150 (.tmp (16 : Nat))), none⟩ : Slim) ::
  (⟨some 18, (.move (.tmp (6 : Nat))), none⟩ : Slim) ::
  (⟨some 19, (.makeInterface 150 (.tmp (18 : Nat))), none⟩ : Slim) ::
  (⟨some 20, (.move (.tmp (6 : Nat))), none⟩ : Slim) ::
  (⟨some 21, (.makeInterface 150 (.tmp (20 : Nat))), none⟩ : Slim) ::
  (⟨some 22, (.move (.tmp (6 : Nat))), none⟩ : Slim) ::
  (⟨some 23, (.makeInterface 150 (.tmp (22 : Nat))), none⟩ : Slim) ::
  (⟨some 24, (.move (.tmp (6 : Nat))), none⟩ : Slim) ::
  (⟨some 25, (.makeInterface 150 (.tmp (24 : Nat))), none⟩ : Slim) ::
  (⟨some 26, (.call { callee := (.value (.func 84)), args := #[(.tmp (17 : Nat)), (.tmp (19 : Nat)), (.tmp (21 : Nat)), (.tmp (23 : Nat)), (.tmp (25 : Nat))], argTypes := #[127, 130, 133, 136, 139] }), none⟩ : Slim) ::
  s34_6_1
abbrev k43 : List Nat := [0, 2, 3, 4, 6, 8, 10, 12, 20, 28, 36, 44]
def s43_0 : List Slim := [⟨some 2, (.assign (.const (.int .u8 0))), none⟩]
def s43_1 : List Slim := [⟨some 3, (.assign (.const (.int .u8 0))), none⟩]
def s43_2 : List Slim := [⟨some 13, (.move (.tmp (0 : Nat))), none⟩,
  ⟨some 14, (.call { callee := (.value (.func 76)), args := #[(.tmp (13 : Nat))], argTypes := #[29] }), none⟩,
  ⟨some 4, (.assign (.tmp (14 : Nat))), none⟩]
def s43_3 : List Slim := [⟨some 16, (.move (.tmp (4 : Nat))), none⟩,
  ⟨some 17, (.typeAssert (.tmp (16 : Nat)) 127 130 true), none⟩,
  ⟨some 15, (.move (.tmp (17 : Nat))), none⟩,
  ⟨some 18, (.extract (.tmp (15 : Nat)) 0), none⟩,
  ⟨some 19, (.extract (.tmp (15 : Nat)) 1), none⟩,
  ⟨some 5, (.assign (.tmp (18 : Nat))), none⟩,
  ⟨some 6, (.assign (.tmp (19 : Nat))), none⟩]
def s43_4 : List Slim := [⟨some 20, (.move (.tmp (6 : Nat))), none⟩]
def s43_5 : List Slim := [⟨some 21, (.move (.tmp (3 : Nat))), none⟩,
  ⟨some 22, (.binOp .or 5 (.tmp (21 : Nat)) (.const (.int .u8 1)) 5), none⟩,
  ⟨some 3, (.assign (.tmp (22 : Nat))), none⟩]
def s43_6 : List Slim := [⟨some 24, (.move (.tmp (4 : Nat))), none⟩,
  ⟨some 25, (.typeAssert (.tmp (24 : Nat)) 127 133 true), none⟩,
  ⟨some 23, (.move (.tmp (25 : Nat))), none⟩,
  ⟨some 26, (.extract (.tmp (23 : Nat)) 0), none⟩,
  ⟨some 27, (.extract (.tmp (23 : Nat)) 1), none⟩,
  ⟨some 7, (.assign (.tmp (26 : Nat))), none⟩,
  ⟨some 8, (.assign (.tmp (27 : Nat))), none⟩]
def s43_7 : List Slim := [⟨some 28, (.move (.tmp (8 : Nat))), none⟩]
def s43_8 : List Slim := [⟨some 29, (.move (.tmp (3 : Nat))), none⟩,
  ⟨some 30, (.binOp .or 5 (.tmp (29 : Nat)) (.const (.int .u8 2)) 5), none⟩,
  ⟨some 3, (.assign (.tmp (30 : Nat))), none⟩]
def s43_9 : List Slim := [⟨some 32, (.move (.tmp (4 : Nat))), none⟩,
  ⟨some 33, (.typeAssert (.tmp (32 : Nat)) 127 136 true), none⟩,
  ⟨some 31, (.move (.tmp (33 : Nat))), none⟩,
  ⟨some 34, (.extract (.tmp (31 : Nat)) 0), none⟩,
  ⟨some 35, (.extract (.tmp (31 : Nat)) 1), none⟩,
  ⟨some 9, (.assign (.tmp (34 : Nat))), none⟩,
  ⟨some 10, (.assign (.tmp (35 : Nat))), none⟩]
def s43_10 : List Slim := [⟨some 36, (.move (.tmp (10 : Nat))), none⟩]
def s43_11 : List Slim := [⟨some 37, (.move (.tmp (3 : Nat))), none⟩,
  ⟨some 38, (.binOp .or 5 (.tmp (37 : Nat)) (.const (.int .u8 4)) 5), none⟩,
  ⟨some 3, (.assign (.tmp (38 : Nat))), none⟩]
def s43_12 : List Slim := [⟨some 40, (.move (.tmp (4 : Nat))), none⟩,
  ⟨some 41, (.typeAssert (.tmp (40 : Nat)) 127 139 true), none⟩,
  ⟨some 39, (.move (.tmp (41 : Nat))), none⟩,
  ⟨some 42, (.extract (.tmp (39 : Nat)) 0), none⟩,
  ⟨some 43, (.extract (.tmp (39 : Nat)) 1), none⟩,
  ⟨some 11, (.assign (.tmp (42 : Nat))), none⟩,
  ⟨some 12, (.assign (.tmp (43 : Nat))), none⟩]
def s43_13 : List Slim := [⟨some 44, (.move (.tmp (12 : Nat))), none⟩]
def s43_14 : List Slim := [⟨some 45, (.move (.tmp (3 : Nat))), none⟩,
  ⟨some 46, (.binOp .or 5 (.tmp (45 : Nat)) (.const (.int .u8 8)) 5), none⟩,
  ⟨some 3, (.assign (.tmp (46 : Nat))), none⟩]
def s43_15 : List Slim := [⟨some 47, (.move (.tmp (3 : Nat))), none⟩,
  ⟨some 2, (.assign (.tmp (47 : Nat))), none⟩]
abbrev k63 : List Nat := [0, 2, 4]
def s63_0 : List Slim := [⟨some 2, (.assign (.const (.int .i64 0))), none⟩]
def s63_1 : List Slim := [⟨some 3, (.move (.tmp (0 : Nat))), none⟩,
  ⟨some 4, (.binOp .eql 50 (.tmp (3 : Nat)) (.const (.pointer none)) 50), none⟩]
def s63_2 : List Slim := [⟨some 2, (.assign (.const (.int .i64 0))), none⟩]
def s63_3 : List Slim := [⟨some 5, (.move (.tmp (0 : Nat))), none⟩,
  ⟨some 6, (.nilCheck (.tmp (5 : Nat))), none⟩,
  ⟨some 7, (.fieldAddr 158 (.tmp (6 : Nat)) 0), none⟩,
  ⟨some 8, (.load 156 (.tmp (7 : Nat))), none⟩,
  ⟨some 9, (.call { callee := (.value (.func 93)), args := #[(.tmp (8 : Nat))], argTypes := #[156] }), none⟩,
  ⟨some 2, (.assign (.tmp (9 : Nat))), none⟩]
abbrev k64 : List Nat := [0, 2, 4]
def s64_0 : List Slim := [⟨some 2, (.assign (.const (.int .i64 0))), none⟩]
def s64_1 : List Slim := [⟨some 3, (.move (.tmp (0 : Nat))), none⟩,
  ⟨some 4, (.binOp .eql 50 (.tmp (3 : Nat)) (.const (.pointer none)) 50), none⟩]
def s64_2 : List Slim := [⟨some 2, (.assign (.const (.int .i64 0))), none⟩]
def s64_3 : List Slim := [⟨some 5, (.move (.tmp (0 : Nat))), none⟩,
  ⟨some 6, (.nilCheck (.tmp (5 : Nat))), none⟩,
  ⟨some 7, (.fieldAddr 158 (.tmp (6 : Nat)) 1), none⟩,
  ⟨some 8, (.load 2 (.tmp (7 : Nat))), none⟩,
  ⟨some 2, (.assign (.tmp (8 : Nat))), none⟩]
abbrev k74 : List Nat := [0, 2, 3, 16]
def s74_0 : List Slim := [⟨some 2, (.assign (.const (.pointer none))), none⟩]
def s74_1 : List Slim := [⟨some 4, (.move (.tmp (0 : Nat))), none⟩,
  ⟨some 5, (.move (.tmp (0 : Nat))), none⟩,
  ⟨some 6, (.call { callee := (.builtin .len), args := #[(.tmp (5 : Nat))], argTypes := #[22] }), none⟩,
  ⟨some 7, (.call { callee := (.builtin .min), args := #[(.tmp (6 : Nat)), (.const (.int .i64 4194304))], argTypes := #[3, 3] }), none⟩,
  ⟨some 8, (.slice 22 (.tmp (4 : Nat)) none (some (.tmp (7 : Nat))) none), none⟩,
  ⟨some 9, (.call { callee := (.value (.func 94)), args := #[(.tmp (8 : Nat))], argTypes := #[22] }), none⟩,
  ⟨some 0, (.assign (.tmp (9 : Nat))), none⟩]
def s74_2 : List Slim := [⟨some 10, (.move (.tmp (0 : Nat))), none⟩,
  ⟨some 11, (.call { callee := (.builtin .len), args := #[(.tmp (10 : Nat))], argTypes := #[22] }), none⟩,
  ⟨some 12, (.build 158 #[(1, (.tmp (11 : Nat)))]), none⟩,
  ⟨some 13, (.box 158 (.tmp (12 : Nat))), none⟩,
  ⟨some 3, (.assign (.tmp (13 : Nat))), none⟩]
def s74_3 : List Slim := [⟨some 14, (.move (.tmp (0 : Nat))), none⟩,
  ⟨some 15, (.call { callee := (.builtin .len), args := #[(.tmp (14 : Nat))], argTypes := #[22] }), none⟩,
  ⟨some 16, (.binOp .gtr 3 (.tmp (15 : Nat)) (.const (.int .i64 0)) 3), none⟩]
def s74_4 : List Slim := [⟨some 17, (.move (.tmp (3 : Nat))), none⟩,
  ⟨some 18, (.move (.tmp (0 : Nat))), none⟩,
  ⟨some 19, (.build 160 #[(0, (.const (.int .i64 0))), (1, (.tmp (18 : Nat)))]), none⟩,
  ⟨some 20, (.buildSlice 156 1 #[(0, (.tmp (19 : Nat)))]), none⟩,
  ⟨some 21, (.nilCheck (.tmp (17 : Nat))), none⟩,
  ⟨some 22, (.fieldAddr 158 (.tmp (21 : Nat)) 0), none⟩,
  ⟨none, (.store 156 (.tmp (22 : Nat)) (.tmp (20 : Nat))), none⟩]
def s74_5 : List Slim := [⟨some 23, (.move (.tmp (3 : Nat))), none⟩,
  ⟨some 2, (.assign (.tmp (23 : Nat))), none⟩]
abbrev k76 : List Nat := [0, 2, 4]
def s76_0 : List Slim := [⟨some 2, (.assign (.const .nilIface)), none⟩]
def s76_1 : List Slim := [⟨some 3, (.move (.tmp (0 : Nat))), none⟩,
  ⟨some 4, (.binOp .eql 29 (.tmp (3 : Nat)) (.const (.pointer none)) 29), none⟩]
def s76_2 : List Slim := [⟨some 2, (.assign (.const .nilIface)), none⟩]
def s76_3 : List Slim := [⟨some 5, (.move (.tmp (0 : Nat))), none⟩,
  ⟨some 6, (.nilCheck (.tmp (5 : Nat))), none⟩,
  ⟨some 7, (.fieldAddr 147 (.tmp (6 : Nat)) 5), none⟩,
  ⟨some 8, (.load 127 (.tmp (7 : Nat))), none⟩,
  ⟨some 2, (.assign (.tmp (8 : Nat))), none⟩]
abbrev k83 : List Nat := [0, 2]
def s83_0 : List Slim := [⟨some 2, (.assign (.const (.slice none 0 0))), none⟩]
def s83_1 : List Slim := [⟨some 3, (.move (.tmp (0 : Nat))), none⟩,
  ⟨some 4, (.call { callee := (.builtin .append), args := #[(.const (.slice none 0 0)), (.tmp (3 : Nat))], argTypes := #[22, 22] }), none⟩,
  ⟨some 2, (.assign (.tmp (4 : Nat))), none⟩]
abbrev k84 : List Nat := [0, 1, 2, 3, 4, 10, 12]
def s84_0 : List Slim := [⟨some 10, (.assign (.const (.pointer none))), none⟩]
def s84_1 : List Slim := [⟨some 11, (.move (.tmp (0 : Nat))), none⟩,
  ⟨some 12, (.binOp .eql 127 (.tmp (11 : Nat)) (.const .nilIface) 127), none⟩]
def s84_2 : List Slim := [⟨some 10, (.assign (.const (.pointer none))), none⟩]
def s84_3_1 : List Slim := [⟨some 24, (.build 147 #[(0, (.tmp (13 : Nat))), (1, (.tmp (14 : Nat))), (2, (.tmp (15 : Nat))), (3, (.tmp (16 : Nat))), (4, (.tmp (17 : Nat))), (5, (.tmp (23 : Nat)))]), none⟩,
  ⟨some 25, (.box 147 (.tmp (24 : Nat))), none⟩,
  ⟨some 10, (.assign (.tmp (25 : Nat))), none⟩]
def s84_3 : List Slim := (⟨some 13, (.move (.tmp (0 : Nat))), none⟩ : Slim) ::
  (⟨some 14, (.move (.tmp (1 : Nat))), none⟩ : Slim) ::
  (⟨some 15, (.move (.tmp (2 : Nat))), none⟩ : Slim) ::
  (⟨some 16, (.move (.tmp (3 : Nat))), none⟩ : Slim) ::
  (⟨some 17, (.move (.tmp (4 : Nat))), none⟩ : Slim) ::
  (⟨some 18, (.move (.tmp (0 : Nat))), none⟩ : Slim) ::
  (⟨some 19, (.move (.tmp (1 : Nat))), none⟩ : Slim) ::
  (⟨some 20, (.move (.tmp (2 : Nat))), none⟩ : Slim) ::
  (⟨some 21, (.move (.tmp (3 : Nat))), none⟩ : Slim) ::
  (⟨some 22, (.move (.tmp (4 : Nat))), none⟩ : Slim) ::
  (⟨some 23, (.call { callee := (.value (.func 127)), args := #[(.tmp (18 : Nat)), (.tmp (19 : Nat)), (.tmp (20 : Nat)), (.tmp (21 : Nat)), (.tmp (22 : Nat))], argTypes := #[127, 130, 133, 136, 139] }), none⟩ : Slim) ::
  s84_3_1
abbrev k85 : List Nat := [0, 1, 4, 5, 7, 13, 17, 21, 25]
def s85_0 : List Slim := [⟨some 4, (.assign (.const (.pointer none))), none⟩]
def s85_1 : List Slim := [⟨some 6, (.move (.tmp (0 : Nat))), none⟩,
  ⟨some 7, (.binOp .eql 29 (.tmp (6 : Nat)) (.const (.pointer none)) 29), none⟩]
def s85_2 : List Slim := [⟨some 4, (.assign (.const (.pointer none))), none⟩]
def s85_3 : List Slim := [⟨some 8, (.move (.tmp (0 : Nat))), none⟩,
  ⟨some 9, (.nilCheck (.tmp (8 : Nat))), none⟩,
  ⟨some 10, (.load 147 (.tmp (9 : Nat))), none⟩,
  ⟨some 5, (.alloc 147), none⟩,
  ⟨none, (.store 147 (.tmp (5 : Nat)) (.tmp (10 : Nat))), none⟩]
def s85_4 : List Slim := [⟨some 11, (.move (.tmp (1 : Nat))), none⟩,
  ⟨some 12, (.binOp .and 5 (.tmp (11 : Nat)) (.const (.int .u8 1)) 5), none⟩,
  ⟨some 13, (.binOp .eql 5 (.tmp (12 : Nat)) (.const (.int .u8 0)) 5), none⟩]
def s85_5 : List Slim := [⟨some 14, (.fieldAddr 147 (.tmp (5 : Nat)) 1), none⟩,
  ⟨none, (.store 130 (.tmp (14 : Nat)) (.const .nilIface)), none⟩]
def s85_6 : List Slim := [⟨some 15, (.move (.tmp (1 : Nat))), none⟩,
  ⟨some 16, (.binOp .and 5 (.tmp (15 : Nat)) (.const (.int .u8 2)) 5), none⟩,
  ⟨some 17, (.binOp .eql 5 (.tmp (16 : Nat)) (.const (.int .u8 0)) 5), none⟩]
def s85_7 : List Slim := [⟨some 18, (.fieldAddr 147 (.tmp (5 : Nat)) 2), none⟩,
  ⟨none, (.store 133 (.tmp (18 : Nat)) (.const .nilIface)), none⟩]
def s85_8 : List Slim := [⟨some 19, (.move (.tmp (1 : Nat))), none⟩,
  ⟨some 20, (.binOp .and 5 (.tmp (19 : Nat)) (.const (.int .u8 4)) 5), none⟩,
  ⟨some 21, (.binOp .eql 5 (.tmp (20 : Nat)) (.const (.int .u8 0)) 5), none⟩]
def s85_9 : List Slim := [⟨some 22, (.fieldAddr 147 (.tmp (5 : Nat)) 3), none⟩,
  ⟨none, (.store 136 (.tmp (22 : Nat)) (.const .nilIface)), none⟩]
def s85_10 : List Slim := [⟨some 23, (.move (.tmp (1 : Nat))), none⟩,
  ⟨some 24, (.binOp .and 5 (.tmp (23 : Nat)) (.const (.int .u8 8)) 5), none⟩,
  ⟨some 25, (.binOp .eql 5 (.tmp (24 : Nat)) (.const (.int .u8 0)) 5), none⟩]
def s85_11 : List Slim := [⟨some 26, (.fieldAddr 147 (.tmp (5 : Nat)) 4), none⟩,
  ⟨none, (.store 139 (.tmp (26 : Nat)) (.const .nilIface)), none⟩]
def s85_12 : List Slim := [⟨some 27, (.fieldAddr 147 (.tmp (5 : Nat)) 0), none⟩,
  ⟨some 28, (.load 127 (.tmp (27 : Nat))), none⟩,
  ⟨some 29, (.fieldAddr 147 (.tmp (5 : Nat)) 1), none⟩,
  ⟨some 30, (.load 130 (.tmp (29 : Nat))), none⟩,
  ⟨some 31, (.fieldAddr 147 (.tmp (5 : Nat)) 2), none⟩,
  ⟨some 32, (.load 133 (.tmp (31 : Nat))), none⟩,
  ⟨some 33, (.fieldAddr 147 (.tmp (5 : Nat)) 3), none⟩,
  ⟨some 34, (.load 136 (.tmp (33 : Nat))), none⟩,
  ⟨some 35, (.fieldAddr 147 (.tmp (5 : Nat)) 4), none⟩,
  ⟨some 36, (.load 139 (.tmp (35 : Nat))), none⟩,
  ⟨some 37, (.call { callee := (.value (.func 84)), args := #[(.tmp (28 : Nat)), (.tmp (30 : Nat)), (.tmp (32 : Nat)), (.tmp (34 : Nat)), (.tmp (36 : Nat))], argTypes := #[127, 130, 133, 136, 139] }), none⟩,
  ⟨some 4, (.assign (.tmp (37 : Nat))), none⟩]
abbrev k86 : List Nat := [0, 1, 4, 5, 8, 11, 19]
def s86_0 : List Slim := [⟨some 4, (.assign (.const (.int .i64 0))), none⟩]
def s86_1 : List Slim := [⟨some 6, (.move (.tmp (0 : Nat))), none⟩,
  ⟨some 7, (.binOp .eql 50 (.tmp (6 : Nat)) (.const (.pointer none)) 50), none⟩,
  ⟨some 5, (.assign (.tmp (7 : Nat))), none⟩]
def s86_2 : List Slim := [⟨some 4, (.assign (.const (.int .i64 1))), none⟩]
def s86_3 : List Slim := [⟨some 9, (.move (.tmp (1 : Nat))), none⟩,
  ⟨some 10, (.binOp .lss 2 (.tmp (9 : Nat)) (.const (.int .i64 0)) 2), none⟩,
  ⟨some 8, (.assign (.tmp (10 : Nat))), none⟩]
def s86_4 : List Slim := [⟨some 4, (.assign (.const (.int .i64 2))), none⟩]
def s86_5 : List Slim := [⟨some 12, (.move (.tmp (1 : Nat))), none⟩,
  ⟨some 13, (.binOp .gtr 2 (.tmp (12 : Nat)) (.const (.int .i64 1073741824)) 2), none⟩,
  ⟨some 11, (.assign (.tmp (13 : Nat))), none⟩]
def s86_6 : List Slim := [⟨some 4, (.assign (.const (.int .i64 3))), none⟩]
def s86_7 : List Slim := [⟨some 14, (.move (.tmp (1 : Nat))), none⟩,
  ⟨some 15, (.move (.tmp (0 : Nat))), none⟩,
  ⟨some 16, (.nilCheck (.tmp (15 : Nat))), none⟩,
  ⟨some 17, (.fieldAddr 158 (.tmp (16 : Nat)) 1), none⟩,
  ⟨some 18, (.load 2 (.tmp (17 : Nat))), none⟩,
  ⟨some 19, (.binOp .lss 2 (.tmp (14 : Nat)) (.tmp (18 : Nat)) 2), none⟩]
def s86_8_1 : List Slim := [⟨some 20, (.move (.tmp (28 : Nat))), none⟩,
  ⟨some 29, (.extract (.tmp (20 : Nat)) 0), none⟩,
  ⟨some 30, (.extract (.tmp (20 : Nat)) 1), none⟩,
  ⟨some 31, (.nilCheck (.tmp (21 : Nat))), none⟩,
  ⟨some 32, (.fieldAddr 158 (.tmp (31 : Nat)) 0), none⟩,
  ⟨none, (.store 156 (.tmp (32 : Nat)) (.tmp (29 : Nat))), none⟩]
def s86_8 : List Slim := (⟨some 21, (.move (.tmp (0 : Nat))), none⟩ : Slim) ::
  (⟨some 22, (.move (.tmp (0 : Nat))), none⟩ : Slim) ::
  (⟨some 23, (.move (.tmp (1 : Nat))), none⟩ : Slim) ::
  (⟨some 24, (.move (.tmp (0 : Nat))), none⟩ : Slim) ::
  (⟨some 25, (.nilCheck (.tmp (24 : Nat))), none⟩ : Slim) ::
  (⟨some 26, (.fieldAddr 158 (.tmp (25 : Nat)) 1), none⟩ : Slim) ::
  (⟨some 27, (.load 2 (.tmp (26 : Nat))), none⟩ : Slim) ::
  (⟨some 28, (.call { callee := (.value (.func 92)), args := #[(.tmp (22 : Nat)), (.tmp (23 : Nat)), (.tmp (27 : Nat))], argTypes := #[50, 2, 2] }), none⟩ : Slim) ::
  s86_8_1
def s86_9 : List Slim := [⟨some 33, (.move (.tmp (0 : Nat))), none⟩,
  ⟨some 34, (.move (.tmp (1 : Nat))), none⟩,
  ⟨some 35, (.nilCheck (.tmp (33 : Nat))), none⟩,
  ⟨some 36, (.fieldAddr 158 (.tmp (35 : Nat)) 1), none⟩,
  ⟨none, (.store 2 (.tmp (36 : Nat)) (.tmp (34 : Nat))), none⟩]
def s86_10 : List Slim := [⟨some 4, (.assign (.const (.int .i64 0))), none⟩]
abbrev k88 : List Nat := [0, 1, 2, 6, 7, 10, 26]
def s88_0 : List Slim := [⟨some 6, (.assign (.const (.int .i64 0))), none⟩]
def s88_1 : List Slim := [⟨some 8, (.move (.tmp (0 : Nat))), none⟩,
  ⟨some 9, (.binOp .eql 50 (.tmp (8 : Nat)) (.const (.pointer none)) 50), none⟩,
  ⟨some 7, (.assign (.tmp (9 : Nat))), none⟩]
def s88_2 : List Slim := [⟨some 6, (.assign (.const (.int .i64 1))), none⟩]
def s88_3 : List Slim := [⟨some 11, (.move (.tmp (1 : Nat))), none⟩,
  ⟨some 12, (.binOp .lss 2 (.tmp (11 : Nat)) (.const (.int .i64 0)) 2), none⟩,
  ⟨some 13, (.move (.tmp (12 : Nat))), none⟩,
  ⟨some 14, (.move (.tmp (2 : Nat))), some (13, false)⟩,
  ⟨some 15, (.binOp .lss 2 (.tmp (14 : Nat)) (.const (.int .i64 0)) 2), some (13, false)⟩,
  ⟨some 16, (.pick (.tmp (13 : Nat)) (.const (.bool true)) (.tmp (15 : Nat))), none⟩,
  ⟨some 10, (.assign (.tmp (16 : Nat))), none⟩]
def s88_4 : List Slim := [⟨some 6, (.assign (.const (.int .i64 2))), none⟩]
def s88_5 : List Slim := [⟨some 17, (.move (.tmp (1 : Nat))), none⟩,
  ⟨some 18, (.move (.tmp (0 : Nat))), none⟩,
  ⟨some 19, (.nilCheck (.tmp (18 : Nat))), none⟩,
  ⟨some 20, (.fieldAddr 158 (.tmp (19 : Nat)) 1), none⟩,
  ⟨some 21, (.load 2 (.tmp (20 : Nat))), none⟩,
  ⟨some 22, (.binOp .lss 2 (.tmp (17 : Nat)) (.tmp (21 : Nat)) 2), none⟩,
  ⟨some 23, (.move (.tmp (22 : Nat))), none⟩,
  ⟨some 24, (.move (.tmp (2 : Nat))), some (23, true)⟩,
  ⟨some 25, (.binOp .gtr 2 (.tmp (24 : Nat)) (.const (.int .i64 0)) 2), some (23, true)⟩,
  ⟨some 26, (.pick (.tmp (23 : Nat)) (.tmp (25 : Nat)) (.const (.bool false))), none⟩]
def s88_6_1 : List Slim := [⟨some 27, (.move (.tmp (41 : Nat))), none⟩,
  ⟨some 42, (.extract (.tmp (27 : Nat)) 0), none⟩,
  ⟨some 43, (.extract (.tmp (27 : Nat)) 1), none⟩,
  ⟨some 44, (.nilCheck (.tmp (28 : Nat))), none⟩,
  ⟨some 45, (.fieldAddr 158 (.tmp (44 : Nat)) 0), none⟩,
  ⟨none, (.store 156 (.tmp (45 : Nat)) (.tmp (42 : Nat))), none⟩]
def s88_6 : List Slim := (⟨some 28, (.move (.tmp (0 : Nat))), none⟩ : Slim) ::
  (⟨some 29, (.move (.tmp (0 : Nat))), none⟩ : Slim) ::
  (⟨some 30, (.move (.tmp (1 : Nat))), none⟩ : Slim) ::
  (⟨some 31, (.move (.tmp (1 : Nat))), none⟩ : Slim) ::
  (⟨some 32, (.move (.tmp (2 : Nat))), none⟩ : Slim) ::
  (⟨some 33, (.move (.tmp (0 : Nat))), none⟩ : Slim) ::
  (⟨some 34, (.nilCheck (.tmp (33 : Nat))), none⟩ : Slim) ::
  (⟨some 35, (.fieldAddr 158 (.tmp (34 : Nat)) 1), none⟩ : Slim) ::
  (⟨some 36, (.load 2 (.tmp (35 : Nat))), none⟩ : Slim) ::
  (⟨some 37, (.move (.tmp (1 : Nat))), none⟩ : Slim) ::
  (⟨some 38, (.binOp .sub 2 (.tmp (36 : Nat)) (.tmp (37 : Nat)) 2), none⟩ : Slim) ::
  (⟨some 39, (.call { callee := (.builtin .min), args := #[(.tmp (32 : Nat)), (.tmp (38 : Nat))], argTypes := #[2, 2] }), none⟩ : Slim) ::
  (⟨some 40, (.binOp .add 2 (.tmp (31 : Nat)) (.tmp (39 : Nat)) 2), none⟩ : Slim) ::
  (⟨some 41, (.call { callee := (.value (.func 92)), args := #[(.tmp (29 : Nat)), (.tmp (30 : Nat)), (.tmp (40 : Nat))], argTypes := #[50, 2, 2] }), none⟩ : Slim) ::
  s88_6_1
def s88_7 : List Slim := [⟨some 6, (.assign (.const (.int .i64 0))), none⟩]
abbrev k90 : List Nat := [0, 1, 2, 3, 4]
def s90_0 : List Slim := [⟨some 2, (.box 50 (.tmp (0 : Nat))), none⟩,
  ⟨some 3, (.box 2 (.tmp (1 : Nat))), none⟩,
  ⟨some 4, (.assign (.const (.int .i64 0))), none⟩]
def s90_1 : List Slim := [⟨some 5, (.load 50 (.tmp (2 : Nat))), none⟩,
  ⟨some 6, (.nilCheck (.tmp (5 : Nat))), none⟩,
  ⟨some 7, (.fieldAddr 158 (.tmp (6 : Nat)) 0), none⟩,
  ⟨some 8, (.load 156 (.tmp (7 : Nat))), none⟩,
  ⟨some 9, (.call { callee := (.builtin .len), args := #[(.tmp (8 : Nat))], argTypes := #[156] }), none⟩,
  ⟨some 10, (.makeFunc (.func 129) #[] #[(.tmp (2 : Nat)), (.tmp (3 : Nat))]), none⟩,
  ⟨some 11, (.call { callee := (.value (.func 128)), args := #[(.tmp (9 : Nat)), (.tmp (10 : Nat))], argTypes := #[3, 201] }), none⟩,
  ⟨some 4, (.assign (.tmp (11 : Nat))), none⟩]
abbrev k91 : List Nat := [0, 1, 2]
def s91_0 : List Slim := [⟨some 1, (.box 160 (.tmp (0 : Nat))), none⟩,
  ⟨some 2, (.assign (.const (.int .i64 0))), none⟩]
def s91_1 : List Slim := [⟨some 3, (.fieldAddr 160 (.tmp (1 : Nat)) 0), none⟩,
  ⟨some 4, (.load 2 (.tmp (3 : Nat))), none⟩,
  ⟨some 5, (.fieldAddr 160 (.tmp (1 : Nat)) 1), none⟩,
  ⟨some 6, (.load 22 (.tmp (5 : Nat))), none⟩,
  ⟨some 7, (.call { callee := (.builtin .len), args := #[(.tmp (6 : Nat))], argTypes := #[22] }), none⟩,
  ⟨some 8, (.binOp .add 2 (.tmp (4 : Nat)) (.tmp (7 : Nat)) 2), none⟩,
  ⟨some 2, (.assign (.tmp (8 : Nat))), none⟩]
abbrev k92 : List Nat := [0, 1, 2, 6, 7, 8, 9, 10, 12, 29, 30, 31, 32, 38, 57]
def s92_0 : List Slim := [⟨some 6, (.assign (.const (.slice none 0 0))), none⟩,
  ⟨some 7, (.assign (.const (.int .i64 0))), none⟩]
def s92_1 : List Slim := [⟨some 13, (.move (.tmp (0 : Nat))), none⟩,
  ⟨some 14, (.move (.tmp (1 : Nat))), none⟩,
  ⟨some 15, (.call { callee := (.value (.func 90)), args := #[(.tmp (13 : Nat)), (.tmp (14 : Nat))], argTypes := #[50, 2] }), none⟩,
  ⟨some 8, (.assign (.tmp (15 : Nat))), none⟩]
def s92_2 : List Slim := [⟨some 16, (.move (.tmp (0 : Nat))), none⟩,
  ⟨some 17, (.nilCheck (.tmp (16 : Nat))), none⟩,
  ⟨some 18, (.fieldAddr 158 (.tmp (17 : Nat)) 0), none⟩,
  ⟨some 19, (.load 156 (.tmp (18 : Nat))), none⟩,
  ⟨some 20, (.move (.tmp (8 : Nat))), none⟩,
  ⟨some 21, (.slice 156 (.tmp (19 : Nat)) none (some (.tmp (20 : Nat))) none), none⟩,
  ⟨some 22, (.call { callee := (.value (.func 130)), args := #[(.tmp (21 : Nat))], argTypes := #[156] }), none⟩,
  ⟨some 9, (.assign (.tmp (22 : Nat))), none⟩]
def s92_3 : List Slim := [⟨some 23, (.move (.tmp (8 : Nat))), none⟩,
  ⟨some 10, (.assign (.tmp (23 : Nat))), none⟩]
def s92_4 : List Slim := [⟨some 24, (.move (.tmp (0 : Nat))), none⟩,
  ⟨some 25, (.nilCheck (.tmp (24 : Nat))), none⟩,
  ⟨some 26, (.fieldAddr 158 (.tmp (25 : Nat)) 0), none⟩,
  ⟨some 27, (.load 156 (.tmp (26 : Nat))), none⟩,
  ⟨some 28, (.move (.tmp (8 : Nat))), none⟩,
  ⟨some 29, (.slice 156 (.tmp (27 : Nat)) (some (.tmp (28 : Nat))) none none), none⟩,
  ⟨some 30, (.call { callee := (.builtin .len), args := #[(.tmp (29 : Nat))], argTypes := #[156] }), none⟩,
  ⟨some 31, (.move (.const (.int .i64 0))), none⟩]
def s92_5 : List Slim := [⟨some 32, (.binOp .lss 3 (.tmp (31 : Nat)) (.tmp (30 : Nat)) 3), none⟩]
def s92_6 : List Slim := [⟨some 33, (.indexAddr 156 (.tmp (29 : Nat)) (.tmp (31 : Nat))), none⟩,
  ⟨some 34, (.load 160 (.tmp (33 : Nat))), none⟩,
  ⟨some 12, (.alloc 160), none⟩,
  ⟨none, (.store 160 (.tmp (12 : Nat)) (.tmp (34 : Nat))), none⟩]
def s92_7 : List Slim := [⟨some 35, (.fieldAddr 160 (.tmp (12 : Nat)) 0), none⟩,
  ⟨some 36, (.load 2 (.tmp (35 : Nat))), none⟩,
  ⟨some 37, (.move (.tmp (1 : Nat))), none⟩,
  ⟨some 38, (.binOp .lss 2 (.tmp (36 : Nat)) (.tmp (37 : Nat)) 2), none⟩]
def s92_8 : List Slim := [⟨some 39, (.move (.tmp (9 : Nat))), none⟩,
  ⟨some 40, (.fieldAddr 160 (.tmp (12 : Nat)) 0), none⟩,
  ⟨some 41, (.load 2 (.tmp (40 : Nat))), none⟩,
  ⟨some 42, (.fieldAddr 160 (.tmp (12 : Nat)) 1), none⟩,
  ⟨some 43, (.load 22 (.tmp (42 : Nat))), none⟩,
  ⟨some 44, (.move (.tmp (1 : Nat))), none⟩,
  ⟨some 45, (.fieldAddr 160 (.tmp (12 : Nat)) 0), none⟩,
  ⟨some 46, (.load 2 (.tmp (45 : Nat))), none⟩,
  ⟨some 47, (.binOp .sub 2 (.tmp (44 : Nat)) (.tmp (46 : Nat)) 2), none⟩,
  ⟨some 48, (.slice 22 (.tmp (43 : Nat)) none (some (.tmp (47 : Nat))) none), none⟩,
  ⟨some 49, (.build 160 #[(0, (.tmp (41 : Nat))), (1, (.tmp (48 : Nat)))]), none⟩,
  ⟨some 50, (.buildSlice 156 1 #[(0, (.tmp (49 : Nat)))]), none⟩,
  ⟨some 51, (.call { callee := (.builtin .append), args := #[(.tmp (39 : Nat)), (.tmp (50 : Nat))], argTypes := #[156, 156] }), none⟩,
  ⟨some 9, (.assign (.tmp (51 : Nat))), none⟩]
def p92_8 : Plan := (Plan.take 0 (Plan.take 1 (Plan.take 2 (Plan.take 3 (Plan.take 4 (Plan.take 5 (Plan.take 6 (Plan.take 7 (Plan.take 8 (Plan.take 9 (Plan.take 10 (Plan.eff 11 false (Plan.eff 12 false (Plan.take 13 Plan.nil))))))))))))))
def s92_9 : List Slim := [⟨some 52, (.move (.tmp (10 : Nat))), none⟩,
  ⟨some 53, (.binOp .add 3 (.tmp (52 : Nat)) (.const (.int .i64 1)) 3), none⟩,
  ⟨some 10, (.assign (.tmp (53 : Nat))), none⟩]
def s92_10_1 : List Slim := [⟨some 56, (.move (.tmp (2 : Nat))), none⟩,
  ⟨some 57, (.binOp .gtr 2 (.tmp (55 : Nat)) (.tmp (56 : Nat)) 2), none⟩]
def s92_10 : List Slim := (⟨some 54, (.load 160 (.tmp (12 : Nat))), none⟩ : Slim) ::
  (⟨some 55, (.call { callee := (.value (.func 91)), args := #[(.tmp (54 : Nat))], argTypes := #[160] }), none⟩ : Slim) ::
  s92_10_1
def s92_11 : List Slim := [⟨some 58, (.move (.tmp (9 : Nat))), none⟩,
  ⟨some 59, (.fieldAddr 160 (.tmp (12 : Nat)) 0), none⟩,
  ⟨some 60, (.load 2 (.tmp (59 : Nat))), none⟩,
  ⟨some 61, (.move (.tmp (2 : Nat))), none⟩,
  ⟨some 62, (.call { callee := (.builtin .max), args := #[(.tmp (60 : Nat)), (.tmp (61 : Nat))], argTypes := #[2, 2] }), none⟩,
  ⟨some 63, (.fieldAddr 160 (.tmp (12 : Nat)) 1), none⟩,
  ⟨some 64, (.load 22 (.tmp (63 : Nat))), none⟩,
  ⟨some 65, (.move (.tmp (2 : Nat))), none⟩,
  ⟨some 66, (.fieldAddr 160 (.tmp (12 : Nat)) 0), none⟩,
  ⟨some 67, (.load 2 (.tmp (66 : Nat))), none⟩,
  ⟨some 68, (.binOp .sub 2 (.tmp (65 : Nat)) (.tmp (67 : Nat)) 2), none⟩,
  ⟨some 69, (.call { callee := (.builtin .max), args := #[(.const (.int .i64 0)), (.tmp (68 : Nat))], argTypes := #[2, 2] }), none⟩,
  ⟨some 70, (.slice 22 (.tmp (64 : Nat)) (some (.tmp (69 : Nat))) none none), none⟩,
  ⟨some 71, (.build 160 #[(0, (.tmp (62 : Nat))), (1, (.tmp (70 : Nat)))]), none⟩,
  ⟨some 72, (.buildSlice 156 1 #[(0, (.tmp (71 : Nat)))]), none⟩,
  ⟨some 73, (.call { callee := (.builtin .append), args := #[(.tmp (58 : Nat)), (.tmp (72 : Nat))], argTypes := #[156, 156] }), none⟩,
  ⟨some 9, (.assign (.tmp (73 : Nat))), none⟩]
def p92_11 : Plan := (Plan.take 0 (Plan.take 1 (Plan.take 2 (Plan.take 3 (Plan.take 4 (Plan.take 5 (Plan.take 6 (Plan.take 7 (Plan.take 8 (Plan.take 9 (Plan.take 10 (Plan.take 11 (Plan.take 12 (Plan.take 13 (Plan.eff 14 false (Plan.eff 15 false (Plan.take 16 Plan.nil)))))))))))))))))
def s92_12 : List Slim := [⟨some 74, (.binOp .add 3 (.tmp (31 : Nat)) (.const (.int .i64 1)) 3), none⟩,
  ⟨some 31, (.move (.tmp (74 : Nat))), none⟩]
def s92_13 : List Slim := [⟨some 75, (.move (.tmp (9 : Nat))), none⟩,
  ⟨some 76, (.move (.tmp (10 : Nat))), none⟩,
  ⟨some 6, (.assign (.tmp (75 : Nat))), none⟩,
  ⟨some 7, (.assign (.tmp (76 : Nat))), none⟩]
abbrev k93 : List Nat := [0, 2, 3, 5, 6, 7, 8, 9]
def s93_0 : List Slim := [⟨some 2, (.assign (.const (.int .i64 0))), none⟩]
def s93_1 : List Slim := [⟨some 3, (.assign (.const (.int .i64 0))), none⟩]
def s93_2 : List Slim := [⟨some 6, (.move (.tmp (0 : Nat))), none⟩,
  ⟨some 7, (.call { callee := (.builtin .len), args := #[(.tmp (6 : Nat))], argTypes := #[156] }), none⟩,
  ⟨some 8, (.move (.const (.int .i64 0))), none⟩]
def s93_3 : List Slim := [⟨some 9, (.binOp .lss 3 (.tmp (8 : Nat)) (.tmp (7 : Nat)) 3), none⟩]
def s93_4 : List Slim := [⟨some 10, (.indexAddr 156 (.tmp (6 : Nat)) (.tmp (8 : Nat))), none⟩,
  ⟨some 11, (.load 160 (.tmp (10 : Nat))), none⟩,
  ⟨some 5, (.alloc 160), none⟩,
  ⟨none, (.store 160 (.tmp (5 : Nat)) (.tmp (11 : Nat))), none⟩]
def s93_5 : List Slim := [⟨some 12, (.move (.tmp (3 : Nat))), none⟩,
  ⟨some 13, (.fieldAddr 160 (.tmp (5 : Nat)) 1), none⟩,
  ⟨some 14, (.load 22 (.tmp (13 : Nat))), none⟩,
  ⟨some 15, (.call { callee := (.builtin .len), args := #[(.tmp (14 : Nat))], argTypes := #[22] }), none⟩,
  ⟨some 16, (.binOp .add 2 (.tmp (12 : Nat)) (.tmp (15 : Nat)) 2), none⟩,
  ⟨some 3, (.assign (.tmp (16 : Nat))), none⟩]
def s93_6 : List Slim := [⟨some 17, (.binOp .add 3 (.tmp (8 : Nat)) (.const (.int .i64 1)) 3), none⟩,
  ⟨some 8, (.move (.tmp (17 : Nat))), none⟩]
def s93_7 : List Slim := [⟨some 18, (.move (.tmp (3 : Nat))), none⟩,
  ⟨some 2, (.assign (.tmp (18 : Nat))), none⟩]
abbrev k94 : List Nat := [0, 2, 4]
def s94_0 : List Slim := [⟨some 2, (.assign (.const (.slice none 0 0))), none⟩]
def s94_1 : List Slim := [⟨some 3, (.move (.tmp (0 : Nat))), none⟩,
  ⟨some 4, (.binOp .eql 22 (.tmp (3 : Nat)) (.const (.slice none 0 0)) 22), none⟩]
def s94_2 : List Slim := [⟨some 2, (.assign (.const (.slice none 0 0))), none⟩]
def s94_3 : List Slim := [⟨some 5, (.buildSlice 22 0 #[]), none⟩,
  ⟨some 6, (.move (.tmp (0 : Nat))), none⟩,
  ⟨some 7, (.call { callee := (.builtin .append), args := #[(.tmp (5 : Nat)), (.tmp (6 : Nat))], argTypes := #[22, 22] }), none⟩,
  ⟨some 2, (.assign (.tmp (7 : Nat))), none⟩]
abbrev k127 : List Nat := [0, 1, 2, 3, 4, 10, 11, 13, 17, 21, 25, 28, 29, 36, 43, 51, 58, 66, 74, 83, 90, 98, 106, 115, 123, 132, 141]
def s127_0 : List Slim := [⟨some 10, (.assign (.const .nilIface)), none⟩]
def s127_1 : List Slim := [⟨some 11, (.assign (.const (.int .i64 0))), none⟩]
def s127_2 : List Slim := [⟨some 12, (.move (.tmp (1 : Nat))), none⟩,
  ⟨some 13, (.binOp .neq 130 (.tmp (12 : Nat)) (.const .nilIface) 130), none⟩]
def s127_3 : List Slim := [⟨some 14, (.move (.tmp (11 : Nat))), none⟩,
  ⟨some 15, (.binOp .or 3 (.tmp (14 : Nat)) (.const (.int .i64 1)) 3), none⟩,
  ⟨some 11, (.assign (.tmp (15 : Nat))), none⟩]
def s127_4 : List Slim := [⟨some 16, (.move (.tmp (2 : Nat))), none⟩,
  ⟨some 17, (.binOp .neq 133 (.tmp (16 : Nat)) (.const .nilIface) 133), none⟩]
def s127_5 : List Slim := [⟨some 18, (.move (.tmp (11 : Nat))), none⟩,
  ⟨some 19, (.binOp .or 3 (.tmp (18 : Nat)) (.const (.int .i64 2)) 3), none⟩,
  ⟨some 11, (.assign (.tmp (19 : Nat))), none⟩]
def s127_6 : List Slim := [⟨some 20, (.move (.tmp (3 : Nat))), none⟩,
  ⟨some 21, (.binOp .neq 136 (.tmp (20 : Nat)) (.const .nilIface) 136), none⟩]
def s127_7 : List Slim := [⟨some 22, (.move (.tmp (11 : Nat))), none⟩,
  ⟨some 23, (.binOp .or 3 (.tmp (22 : Nat)) (.const (.int .i64 4)) 3), none⟩,
  ⟨some 11, (.assign (.tmp (23 : Nat))), none⟩]
def s127_8 : List Slim := [⟨some 24, (.move (.tmp (4 : Nat))), none⟩,
  ⟨some 25, (.binOp .neq 139 (.tmp (24 : Nat)) (.const .nilIface) 139), none⟩]
def s127_9 : List Slim := [⟨some 26, (.move (.tmp (11 : Nat))), none⟩,
  ⟨some 27, (.binOp .or 3 (.tmp (26 : Nat)) (.const (.int .i64 8)) 3), none⟩,
  ⟨some 11, (.assign (.tmp (27 : Nat))), none⟩]
def s127_10 : List Slim := [⟨some 28, (.move (.tmp (11 : Nat))), none⟩]
def s127_11 : List Slim := [⟨some 30, (.binOp .eql 3 (.tmp (28 : Nat)) (.const (.int .i64 1)) 3), none⟩,
  ⟨some 29, (.assign (.tmp (30 : Nat))), none⟩]
def s127_12 : List Slim := [⟨some 31, (.move (.tmp (0 : Nat))), none⟩,
  ⟨some 32, (.move (.tmp (1 : Nat))), none⟩,
  ⟨some 33, (.build 212 #[(0, (.tmp (31 : Nat))), (1, (.tmp (32 : Nat)))]), none⟩,
  ⟨some 34, (.box 212 (.tmp (33 : Nat))), none⟩,
  ⟨some 35, (.makeInterface 210 (.tmp (34 : Nat))), none⟩,
  ⟨some 10, (.assign (.tmp (35 : Nat))), none⟩]
def s127_13 : List Slim := [⟨some 37, (.binOp .eql 3 (.tmp (28 : Nat)) (.const (.int .i64 2)) 3), none⟩,
  ⟨some 36, (.assign (.tmp (37 : Nat))), none⟩]
def s127_14 : List Slim := [⟨some 38, (.move (.tmp (0 : Nat))), none⟩,
  ⟨some 39, (.move (.tmp (2 : Nat))), none⟩,
  ⟨some 40, (.build 215 #[(0, (.tmp (38 : Nat))), (1, (.tmp (39 : Nat)))]), none⟩,
  ⟨some 41, (.box 215 (.tmp (40 : Nat))), none⟩,
  ⟨some 42, (.makeInterface 213 (.tmp (41 : Nat))), none⟩,
  ⟨some 10, (.assign (.tmp (42 : Nat))), none⟩]
def s127_15 : List Slim := [⟨some 44, (.binOp .eql 3 (.tmp (28 : Nat)) (.const (.int .i64 3)) 3), none⟩,
  ⟨some 43, (.assign (.tmp (44 : Nat))), none⟩]
def s127_16 : List Slim := [⟨some 45, (.move (.tmp (0 : Nat))), none⟩,
  ⟨some 46, (.move (.tmp (1 : Nat))), none⟩,
  ⟨some 47, (.move (.tmp (2 : Nat))), none⟩,
  ⟨some 48, (.build 218 #[(0, (.tmp (45 : Nat))), (1, (.tmp (46 : Nat))), (2, (.tmp (47 : Nat)))]), none⟩,
  ⟨some 49, (.box 218 (.tmp (48 : Nat))), none⟩,
  ⟨some 50, (.makeInterface 216 (.tmp (49 : Nat))), none⟩,
  ⟨some 10, (.assign (.tmp (50 : Nat))), none⟩]
def s127_17 : List Slim := [⟨some 52, (.binOp .eql 3 (.tmp (28 : Nat)) (.const (.int .i64 4)) 3), none⟩,
  ⟨some 51, (.assign (.tmp (52 : Nat))), none⟩]
def s127_18 : List Slim := [⟨some 53, (.move (.tmp (0 : Nat))), none⟩,
  ⟨some 54, (.move (.tmp (3 : Nat))), none⟩,
  ⟨some 55, (.build 221 #[(0, (.tmp (53 : Nat))), (1, (.tmp (54 : Nat)))]), none⟩,
  ⟨some 56, (.box 221 (.tmp (55 : Nat))), none⟩,
  ⟨some 57, (.makeInterface 219 (.tmp (56 : Nat))), none⟩,
  ⟨some 10, (.assign (.tmp (57 : Nat))), none⟩]
def s127_19 : List Slim := [⟨some 59, (.binOp .eql 3 (.tmp (28 : Nat)) (.const (.int .i64 5)) 3), none⟩,
  ⟨some 58, (.assign (.tmp (59 : Nat))), none⟩]
def s127_20 : List Slim := [⟨some 60, (.move (.tmp (0 : Nat))), none⟩,
  ⟨some 61, (.move (.tmp (1 : Nat))), none⟩,
  ⟨some 62, (.move (.tmp (3 : Nat))), none⟩,
  ⟨some 63, (.build 224 #[(0, (.tmp (60 : Nat))), (1, (.tmp (61 : Nat))), (2, (.tmp (62 : Nat)))]), none⟩,
  ⟨some 64, (.box 224 (.tmp (63 : Nat))), none⟩,
  ⟨some 65, (.makeInterface 222 (.tmp (64 : Nat))), none⟩,
  ⟨some 10, (.assign (.tmp (65 : Nat))), none⟩]
def s127_21 : List Slim := [⟨some 67, (.binOp .eql 3 (.tmp (28 : Nat)) (.const (.int .i64 6)) 3), none⟩,
  ⟨some 66, (.assign (.tmp (67 : Nat))), none⟩]
def s127_22 : List Slim := [⟨some 68, (.move (.tmp (0 : Nat))), none⟩,
  ⟨some 69, (.move (.tmp (2 : Nat))), none⟩,
  ⟨some 70, (.move (.tmp (3 : Nat))), none⟩,
  ⟨some 71, (.build 227 #[(0, (.tmp (68 : Nat))), (1, (.tmp (69 : Nat))), (2, (.tmp (70 : Nat)))]), none⟩,
  ⟨some 72, (.box 227 (.tmp (71 : Nat))), none⟩,
  ⟨some 73, (.makeInterface 225 (.tmp (72 : Nat))), none⟩,
  ⟨some 10, (.assign (.tmp (73 : Nat))), none⟩]
def s127_23 : List Slim := [⟨some 75, (.binOp .eql 3 (.tmp (28 : Nat)) (.const (.int .i64 7)) 3), none⟩,
  ⟨some 74, (.assign (.tmp (75 : Nat))), none⟩]
def s127_24 : List Slim := [⟨some 76, (.move (.tmp (0 : Nat))), none⟩,
  ⟨some 77, (.move (.tmp (1 : Nat))), none⟩,
  ⟨some 78, (.move (.tmp (2 : Nat))), none⟩,
  ⟨some 79, (.move (.tmp (3 : Nat))), none⟩,
  ⟨some 80, (.build 230 #[(0, (.tmp (76 : Nat))), (1, (.tmp (77 : Nat))), (2, (.tmp (78 : Nat))), (3, (.tmp (79 : Nat)))]), none⟩,
  ⟨some 81, (.box 230 (.tmp (80 : Nat))), none⟩,
  ⟨some 82, (.makeInterface 228 (.tmp (81 : Nat))), none⟩,
  ⟨some 10, (.assign (.tmp (82 : Nat))), none⟩]
def s127_25 : List Slim := [⟨some 84, (.binOp .eql 3 (.tmp (28 : Nat)) (.const (.int .i64 8)) 3), none⟩,
  ⟨some 83, (.assign (.tmp (84 : Nat))), none⟩]
def s127_26 : List Slim := [⟨some 85, (.move (.tmp (0 : Nat))), none⟩,
  ⟨some 86, (.move (.tmp (4 : Nat))), none⟩,
  ⟨some 87, (.build 233 #[(0, (.tmp (85 : Nat))), (1, (.tmp (86 : Nat)))]), none⟩,
  ⟨some 88, (.box 233 (.tmp (87 : Nat))), none⟩,
  ⟨some 89, (.makeInterface 231 (.tmp (88 : Nat))), none⟩,
  ⟨some 10, (.assign (.tmp (89 : Nat))), none⟩]
def s127_27 : List Slim := [⟨some 91, (.binOp .eql 3 (.tmp (28 : Nat)) (.const (.int .i64 9)) 3), none⟩,
  ⟨some 90, (.assign (.tmp (91 : Nat))), none⟩]
def s127_28 : List Slim := [⟨some 92, (.move (.tmp (0 : Nat))), none⟩,
  ⟨some 93, (.move (.tmp (1 : Nat))), none⟩,
  ⟨some 94, (.move (.tmp (4 : Nat))), none⟩,
  ⟨some 95, (.build 236 #[(0, (.tmp (92 : Nat))), (1, (.tmp (93 : Nat))), (2, (.tmp (94 : Nat)))]), none⟩,
  ⟨some 96, (.box 236 (.tmp (95 : Nat))), none⟩,
  ⟨some 97, (.makeInterface 234 (.tmp (96 : Nat))), none⟩,
  ⟨some 10, (.assign (.tmp (97 : Nat))), none⟩]
def s127_29 : List Slim := [⟨some 99, (.binOp .eql 3 (.tmp (28 : Nat)) (.const (.int .i64 10)) 3), none⟩,
  ⟨some 98, (.assign (.tmp (99 : Nat))), none⟩]
def s127_30 : List Slim := [⟨some 100, (.move (.tmp (0 : Nat))), none⟩,
  ⟨some 101, (.move (.tmp (2 : Nat))), none⟩,
  ⟨some 102, (.move (.tmp (4 : Nat))), none⟩,
  ⟨some 103, (.build 239 #[(0, (.tmp (100 : Nat))), (1, (.tmp (101 : Nat))), (2, (.tmp (102 : Nat)))]), none⟩,
  ⟨some 104, (.box 239 (.tmp (103 : Nat))), none⟩,
  ⟨some 105, (.makeInterface 237 (.tmp (104 : Nat))), none⟩,
  ⟨some 10, (.assign (.tmp (105 : Nat))), none⟩]
def s127_31 : List Slim := [⟨some 107, (.binOp .eql 3 (.tmp (28 : Nat)) (.const (.int .i64 11)) 3), none⟩,
  ⟨some 106, (.assign (.tmp (107 : Nat))), none⟩]
def s127_32 : List Slim := [⟨some 108, (.move (.tmp (0 : Nat))), none⟩,
  ⟨some 109, (.move (.tmp (1 : Nat))), none⟩,
  ⟨some 110, (.move (.tmp (2 : Nat))), none⟩,
  ⟨some 111, (.move (.tmp (4 : Nat))), none⟩,
  ⟨some 112, (.build 242 #[(0, (.tmp (108 : Nat))), (1, (.tmp (109 : Nat))), (2, (.tmp (110 : Nat))), (3, (.tmp (111 : Nat)))]), none⟩,
  ⟨some 113, (.box 242 (.tmp (112 : Nat))), none⟩,
  ⟨some 114, (.makeInterface 240 (.tmp (113 : Nat))), none⟩,
  ⟨some 10, (.assign (.tmp (114 : Nat))), none⟩]
def s127_33 : List Slim := [⟨some 116, (.binOp .eql 3 (.tmp (28 : Nat)) (.const (.int .i64 12)) 3), none⟩,
  ⟨some 115, (.assign (.tmp (116 : Nat))), none⟩]
def s127_34 : List Slim := [⟨some 117, (.move (.tmp (0 : Nat))), none⟩,
  ⟨some 118, (.move (.tmp (3 : Nat))), none⟩,
  ⟨some 119, (.move (.tmp (4 : Nat))), none⟩,
  ⟨some 120, (.build 245 #[(0, (.tmp (117 : Nat))), (1, (.tmp (118 : Nat))), (2, (.tmp (119 : Nat)))]), none⟩,
  ⟨some 121, (.box 245 (.tmp (120 : Nat))), none⟩,
  ⟨some 122, (.makeInterface 243 (.tmp (121 : Nat))), none⟩,
  ⟨some 10, (.assign (.tmp (122 : Nat))), none⟩]
def s127_35 : List Slim := [⟨some 124, (.binOp .eql 3 (.tmp (28 : Nat)) (.const (.int .i64 13)) 3), none⟩,
  ⟨some 123, (.assign (.tmp (124 : Nat))), none⟩]
def s127_36 : List Slim := [⟨some 125, (.move (.tmp (0 : Nat))), none⟩,
  ⟨some 126, (.move (.tmp (1 : Nat))), none⟩,
  ⟨some 127, (.move (.tmp (3 : Nat))), none⟩,
  ⟨some 128, (.move (.tmp (4 : Nat))), none⟩,
  ⟨some 129, (.build 248 #[(0, (.tmp (125 : Nat))), (1, (.tmp (126 : Nat))), (2, (.tmp (127 : Nat))), (3, (.tmp (128 : Nat)))]), none⟩,
  ⟨some 130, (.box 248 (.tmp (129 : Nat))), none⟩,
  ⟨some 131, (.makeInterface 246 (.tmp (130 : Nat))), none⟩,
  ⟨some 10, (.assign (.tmp (131 : Nat))), none⟩]
def s127_37 : List Slim := [⟨some 133, (.binOp .eql 3 (.tmp (28 : Nat)) (.const (.int .i64 14)) 3), none⟩,
  ⟨some 132, (.assign (.tmp (133 : Nat))), none⟩]
def s127_38 : List Slim := [⟨some 134, (.move (.tmp (0 : Nat))), none⟩,
  ⟨some 135, (.move (.tmp (2 : Nat))), none⟩,
  ⟨some 136, (.move (.tmp (3 : Nat))), none⟩,
  ⟨some 137, (.move (.tmp (4 : Nat))), none⟩,
  ⟨some 138, (.build 251 #[(0, (.tmp (134 : Nat))), (1, (.tmp (135 : Nat))), (2, (.tmp (136 : Nat))), (3, (.tmp (137 : Nat)))]), none⟩,
  ⟨some 139, (.box 251 (.tmp (138 : Nat))), none⟩,
  ⟨some 140, (.makeInterface 249 (.tmp (139 : Nat))), none⟩,
  ⟨some 10, (.assign (.tmp (140 : Nat))), none⟩]
def s127_39 : List Slim := [⟨some 142, (.binOp .eql 3 (.tmp (28 : Nat)) (.const (.int .i64 15)) 3), none⟩,
  ⟨some 141, (.assign (.tmp (142 : Nat))), none⟩]
def s127_40 : List Slim := [⟨some 143, (.move (.tmp (0 : Nat))), none⟩,
  ⟨some 144, (.move (.tmp (1 : Nat))), none⟩,
  ⟨some 145, (.move (.tmp (2 : Nat))), none⟩,
  ⟨some 146, (.move (.tmp (3 : Nat))), none⟩,
  ⟨some 147, (.move (.tmp (4 : Nat))), none⟩,
  ⟨some 148, (.build 254 #[(0, (.tmp (143 : Nat))), (1, (.tmp (144 : Nat))), (2, (.tmp (145 : Nat))), (3, (.tmp (146 : Nat))), (4, (.tmp (147 : Nat)))]), none⟩,
  ⟨some 149, (.box 254 (.tmp (148 : Nat))), none⟩,
  ⟨some 150, (.makeInterface 252 (.tmp (149 : Nat))), none⟩,
  ⟨some 10, (.assign (.tmp (150 : Nat))), none⟩]
def s127_41 : List Slim := [⟨some 151, (.move (.tmp (0 : Nat))), none⟩,
  ⟨some 152, (.build 257 #[(0, (.tmp (151 : Nat)))]), none⟩,
  ⟨some 153, (.box 257 (.tmp (152 : Nat))), none⟩,
  ⟨some 154, (.makeInterface 255 (.tmp (153 : Nat))), none⟩,
  ⟨some 10, (.assign (.tmp (154 : Nat))), none⟩]
abbrev k128 : List Nat := [0, 1, 4, 5, 6, 7, 11, 21]
def s128_0 : List Slim := [⟨some 4, (.assign (.const (.int .i64 0))), none⟩]
def s128_1 : List Slim := [⟨some 8, (.move (.tmp (0 : Nat))), none⟩,
  ⟨some 5, (.assign (.const (.int .i64 0))), none⟩,
  ⟨some 6, (.assign (.tmp (8 : Nat))), none⟩]
def s128_2 : List Slim := [⟨some 9, (.move (.tmp (5 : Nat))), none⟩,
  ⟨some 10, (.move (.tmp (6 : Nat))), none⟩,
  ⟨some 11, (.binOp .lss 3 (.tmp (9 : Nat)) (.tmp (10 : Nat)) 3), none⟩]
def s128_3 : List Slim := [⟨some 12, (.move (.tmp (5 : Nat))), none⟩,
  ⟨some 13, (.move (.tmp (6 : Nat))), none⟩,
  ⟨some 14, (.binOp .add 3 (.tmp (12 : Nat)) (.tmp (13 : Nat)) 3), none⟩,
  ⟨some 15, (.convert 3 258 (.tmp (14 : Nat))), none⟩,
  ⟨some 16, (.binOp .shr 258 (.tmp (15 : Nat)) (.const (.int .u64 1)) 258), none⟩,
  ⟨some 17, (.convert 258 3 (.tmp (16 : Nat))), none⟩,
  ⟨some 7, (.assign (.tmp (17 : Nat))), none⟩]
def s128_4_1 : List Slim := [⟨some 21, (.unOp .not 4 (.tmp (20 : Nat))), none⟩]
def s128_4 : List Slim := (⟨some 18, (.move (.tmp (1 : Nat))), none⟩ : Slim) ::
  (⟨some 19, (.move (.tmp (7 : Nat))), none⟩ : Slim) ::
  (⟨some 20, (.call { callee := (.value (.tmp (18 : Nat))), args := #[(.tmp (19 : Nat))], argTypes := #[3] }), none⟩ : Slim) ::
  s128_4_1
def s128_5 : List Slim := [⟨some 22, (.move (.tmp (7 : Nat))), none⟩,
  ⟨some 23, (.binOp .add 3 (.tmp (22 : Nat)) (.const (.int .i64 1)) 3), none⟩,
  ⟨some 5, (.assign (.tmp (23 : Nat))), none⟩]
def s128_6 : List Slim := [⟨some 24, (.move (.tmp (7 : Nat))), none⟩,
  ⟨some 6, (.assign (.tmp (24 : Nat))), none⟩]
def s128_7 : List Slim := [⟨some 25, (.move (.tmp (5 : Nat))), none⟩,
  ⟨some 4, (.assign (.tmp (25 : Nat))), none⟩]
abbrev k129 : List Nat := [0, 1, 2, 4]
def s129_0 : List Slim := [⟨some 4, (.assign (.const (.bool false))), none⟩]
def s129_1 : List Slim := [⟨some 5, (.load 50 (.tmp (1 : Nat))), none⟩,
  ⟨some 6, (.nilCheck (.tmp (5 : Nat))), none⟩,
  ⟨some 7, (.fieldAddr 158 (.tmp (6 : Nat)) 0), none⟩,
  ⟨some 8, (.load 156 (.tmp (7 : Nat))), none⟩,
  ⟨some 9, (.move (.tmp (0 : Nat))), none⟩,
  ⟨some 10, (.indexAddr 156 (.tmp (8 : Nat)) (.tmp (9 : Nat))), none⟩,
  ⟨some 11, (.load 160 (.tmp (10 : Nat))), none⟩,
  ⟨some 12, (.call { callee := (.value (.func 91)), args := #[(.tmp (11 : Nat))], argTypes := #[160] }), none⟩,
  ⟨some 13, (.load 2 (.tmp (2 : Nat))), none⟩,
  ⟨some 14, (.binOp .gtr 2 (.tmp (12 : Nat)) (.tmp (13 : Nat)) 2), none⟩,
  ⟨some 4, (.assign (.tmp (14 : Nat))), none⟩]
def p129_1_1 : Plan := (Plan.take 9 (Plan.take 10 Plan.nil))
def p129_1 : Plan := (Plan.take 0 (Plan.take 1 (Plan.take 2 (Plan.take 3 (Plan.take 4 (Plan.take 5 (Plan.take 6 (Plan.take 8 (Plan.eff 7 true p129_1_1)))))))))
abbrev k130 : List Nat := [0, 2, 4]
def s130_0 : List Slim := [⟨some 2, (.assign (.const (.slice none 0 0))), none⟩]
def s130_1 : List Slim := [⟨some 3, (.move (.tmp (0 : Nat))), none⟩,
  ⟨some 4, (.binOp .eql 156 (.tmp (3 : Nat)) (.const (.slice none 0 0)) 156), none⟩]
def s130_2 : List Slim := [⟨some 2, (.assign (.const (.slice none 0 0))), none⟩]
def s130_3 : List Slim := [⟨some 5, (.buildSlice 156 0 #[]), none⟩,
  ⟨some 6, (.move (.tmp (0 : Nat))), none⟩,
  ⟨some 7, (.call { callee := (.builtin .append), args := #[(.tmp (5 : Nat)), (.tmp (6 : Nat))], argTypes := #[156, 156] }), none⟩,
  ⟨some 2, (.assign (.tmp (7 : Nat))), none⟩]
abbrev k137 : List Nat := [0, 1, 4, 5, 6, 8, 20]
def s137_0 : List Slim := [⟨some 4, (.assign (.const (.int .i64 0))), none⟩,
  ⟨some 5, (.assign (.const (.int .i64 0))), none⟩]
def s137_1 : List Slim := [⟨some 7, (.move (.tmp (0 : Nat))), none⟩,
  ⟨some 8, (.binOp .eql 50 (.tmp (7 : Nat)) (.const (.pointer none)) 50), none⟩]
def s137_2 : List Slim := [⟨some 4, (.assign (.const (.int .i64 0))), none⟩,
  ⟨some 5, (.assign (.const (.int .i64 0))), none⟩]
def s137_3 : List Slim := [⟨some 9, (.move (.tmp (1 : Nat))), none⟩,
  ⟨some 10, (.call { callee := (.builtin .max), args := #[(.tmp (9 : Nat)), (.const (.int .i64 0))], argTypes := #[2, 2] }), none⟩,
  ⟨some 1, (.assign (.tmp (10 : Nat))), none⟩]
def s137_4 : List Slim := [⟨some 11, (.move (.tmp (0 : Nat))), none⟩,
  ⟨some 12, (.move (.tmp (1 : Nat))), none⟩,
  ⟨some 13, (.call { callee := (.value (.func 90)), args := #[(.tmp (11 : Nat)), (.tmp (12 : Nat))], argTypes := #[50, 2] }), none⟩,
  ⟨some 6, (.assign (.tmp (13 : Nat))), none⟩]
def s137_5 : List Slim := [⟨some 14, (.move (.tmp (6 : Nat))), none⟩,
  ⟨some 15, (.move (.tmp (0 : Nat))), none⟩,
  ⟨some 16, (.nilCheck (.tmp (15 : Nat))), none⟩,
  ⟨some 17, (.fieldAddr 158 (.tmp (16 : Nat)) 0), none⟩,
  ⟨some 18, (.load 156 (.tmp (17 : Nat))), none⟩,
  ⟨some 19, (.call { callee := (.builtin .len), args := #[(.tmp (18 : Nat))], argTypes := #[156] }), none⟩,
  ⟨some 20, (.binOp .lss 3 (.tmp (14 : Nat)) (.tmp (19 : Nat)) 3), none⟩]
def s137_6 : List Slim := [⟨some 21, (.move (.tmp (1 : Nat))), none⟩,
  ⟨some 22, (.move (.tmp (0 : Nat))), none⟩,
  ⟨some 23, (.nilCheck (.tmp (22 : Nat))), none⟩,
  ⟨some 24, (.fieldAddr 158 (.tmp (23 : Nat)) 0), none⟩,
  ⟨some 25, (.load 156 (.tmp (24 : Nat))), none⟩,
  ⟨some 26, (.move (.tmp (6 : Nat))), none⟩,
  ⟨some 27, (.indexAddr 156 (.tmp (25 : Nat)) (.tmp (26 : Nat))), none⟩,
  ⟨some 28, (.fieldAddr 160 (.tmp (27 : Nat)) 0), none⟩,
  ⟨some 29, (.load 2 (.tmp (28 : Nat))), none⟩,
  ⟨some 30, (.call { callee := (.builtin .max), args := #[(.tmp (21 : Nat)), (.tmp (29 : Nat))], argTypes := #[2, 2] }), none⟩,
  ⟨some 31, (.move (.tmp (0 : Nat))), none⟩,
  ⟨some 32, (.nilCheck (.tmp (31 : Nat))), none⟩,
  ⟨some 33, (.fieldAddr 158 (.tmp (32 : Nat)) 0), none⟩,
  ⟨some 34, (.load 156 (.tmp (33 : Nat))), none⟩,
  ⟨some 35, (.move (.tmp (6 : Nat))), none⟩,
  ⟨some 36, (.indexAddr 156 (.tmp (34 : Nat)) (.tmp (35 : Nat))), none⟩,
  ⟨some 37, (.load 160 (.tmp (36 : Nat))), none⟩,
  ⟨some 38, (.call { callee := (.value (.func 91)), args := #[(.tmp (37 : Nat))], argTypes := #[160] }), none⟩,
  ⟨some 4, (.assign (.tmp (30 : Nat))), none⟩,
  ⟨some 5, (.assign (.tmp (38 : Nat))), none⟩]
def p137_6 : Plan := (Plan.take 0 (Plan.take 1 (Plan.take 2 (Plan.take 3 (Plan.take 4 (Plan.take 5 (Plan.take 6 (Plan.take 7 (Plan.take 8 (Plan.take 9 (Plan.take 10 (Plan.take 11 (Plan.take 12 (Plan.take 13 (Plan.take 14 (Plan.take 15 (Plan.take 16 (Plan.eff 17 true (Plan.take 18 (Plan.take 19 Plan.nil))))))))))))))))))))
def s137_7 : List Slim := [⟨some 39, (.move (.tmp (0 : Nat))), none⟩,
  ⟨some 40, (.nilCheck (.tmp (39 : Nat))), none⟩,
  ⟨some 41, (.fieldAddr 158 (.tmp (40 : Nat)) 1), none⟩,
  ⟨some 42, (.load 2 (.tmp (41 : Nat))), none⟩,
  ⟨some 43, (.move (.tmp (0 : Nat))), none⟩,
  ⟨some 44, (.nilCheck (.tmp (43 : Nat))), none⟩,
  ⟨some 45, (.fieldAddr 158 (.tmp (44 : Nat)) 1), none⟩,
  ⟨some 46, (.load 2 (.tmp (45 : Nat))), none⟩,
  ⟨some 4, (.assign (.tmp (42 : Nat))), none⟩,
  ⟨some 5, (.assign (.tmp (46 : Nat))), none⟩]
def p137_7 : Plan := (Plan.take 0 (Plan.take 1 (Plan.take 2 (Plan.take 3 (Plan.take 4 (Plan.take 5 (Plan.take 6 (Plan.take 7 (Plan.take 8 (Plan.take 9 Plan.nil))))))))))
abbrev k139 : List Nat := [0, 1, 2, 6, 7, 9, 27, 46, 47, 48, 49, 61, 69]
def s139_0 : List Slim := [⟨some 6, (.assign (.const (.slice none 0 0))), none⟩]
def s139_1 : List Slim := [⟨some 10, (.move (.tmp (0 : Nat))), none⟩,
  ⟨some 11, (.binOp .eql 50 (.tmp (10 : Nat)) (.const (.pointer none)) 50), none⟩,
  ⟨some 12, (.move (.tmp (11 : Nat))), none⟩,
  ⟨some 13, (.move (.tmp (1 : Nat))), some (12, false)⟩,
  ⟨some 14, (.binOp .lss 2 (.tmp (13 : Nat)) (.const (.int .i64 0)) 2), some (12, false)⟩,
  ⟨some 15, (.pick (.tmp (12 : Nat)) (.const (.bool true)) (.tmp (14 : Nat))), none⟩,
  ⟨some 16, (.move (.tmp (15 : Nat))), none⟩,
  ⟨some 17, (.move (.tmp (2 : Nat))), some (16, false)⟩,
  ⟨some 18, (.binOp .lss 3 (.tmp (17 : Nat)) (.const (.int .i64 0)) 3), some (16, false)⟩,
  ⟨some 19, (.pick (.tmp (16 : Nat)) (.const (.bool true)) (.tmp (18 : Nat))), none⟩,
  ⟨some 20, (.move (.tmp (19 : Nat))), none⟩,
  ⟨some 21, (.move (.tmp (1 : Nat))), some (20, false)⟩,
  ⟨some 22, (.move (.tmp (0 : Nat))), some (20, false)⟩,
  ⟨some 23, (.nilCheck (.tmp (22 : Nat))), some (20, false)⟩,
  ⟨some 24, (.fieldAddr 158 (.tmp (23 : Nat)) 1), some (20, false)⟩,
  ⟨some 25, (.load 2 (.tmp (24 : Nat))), some (20, false)⟩,
  ⟨some 26, (.binOp .geq 2 (.tmp (21 : Nat)) (.tmp (25 : Nat)) 2), some (20, false)⟩,
  ⟨some 27, (.pick (.tmp (20 : Nat)) (.const (.bool true)) (.tmp (26 : Nat))), none⟩]
def s139_2 : List Slim := [⟨some 6, (.assign (.const (.slice none 0 0))), none⟩]
def s139_3 : List Slim := [⟨some 28, (.move (.tmp (2 : Nat))), none⟩,
  ⟨some 29, (.call { callee := (.builtin .min), args := #[(.tmp (28 : Nat)), (.const (.int .i64 65536))], argTypes := #[3, 3] }), none⟩,
  ⟨some 30, (.move (.tmp (0 : Nat))), none⟩,
  ⟨some 31, (.nilCheck (.tmp (30 : Nat))), none⟩,
  ⟨some 32, (.fieldAddr 158 (.tmp (31 : Nat)) 1), none⟩,
  ⟨some 33, (.load 2 (.tmp (32 : Nat))), none⟩,
  ⟨some 34, (.move (.tmp (1 : Nat))), none⟩,
  ⟨some 35, (.binOp .sub 2 (.tmp (33 : Nat)) (.tmp (34 : Nat)) 2), none⟩,
  ⟨some 36, (.call { callee := (.builtin .min), args := #[(.tmp (29 : Nat)), (.tmp (35 : Nat))], argTypes := #[2, 2] }), none⟩,
  ⟨some 2, (.assign (.tmp (36 : Nat))), none⟩]
def s139_4 : List Slim := [⟨some 37, (.move (.tmp (2 : Nat))), none⟩,
  ⟨some 38, (.makeSlice 22 (.tmp (37 : Nat)) (.tmp (37 : Nat))), none⟩,
  ⟨some 7, (.assign (.tmp (38 : Nat))), none⟩]
def s139_5 : List Slim := [⟨some 39, (.move (.tmp (0 : Nat))), none⟩,
  ⟨some 40, (.nilCheck (.tmp (39 : Nat))), none⟩,
  ⟨some 41, (.fieldAddr 158 (.tmp (40 : Nat)) 0), none⟩,
  ⟨some 42, (.load 156 (.tmp (41 : Nat))), none⟩,
  ⟨some 43, (.move (.tmp (0 : Nat))), none⟩,
  ⟨some 44, (.move (.tmp (1 : Nat))), none⟩,
  ⟨some 45, (.call { callee := (.value (.func 90)), args := #[(.tmp (43 : Nat)), (.tmp (44 : Nat))], argTypes := #[50, 2] }), none⟩,
  ⟨some 46, (.slice 156 (.tmp (42 : Nat)) (some (.tmp (45 : Nat))) none none), none⟩,
  ⟨some 47, (.call { callee := (.builtin .len), args := #[(.tmp (46 : Nat))], argTypes := #[156] }), none⟩,
  ⟨some 48, (.move (.const (.int .i64 0))), none⟩]
def p139_5_1 : Plan := (Plan.take 7 (Plan.take 8 Plan.nil))
def p139_5 : Plan := (Plan.take 0 (Plan.take 1 (Plan.take 2 (Plan.take 3 (Plan.take 4 (Plan.take 5 (Plan.take 9 (Plan.eff 6 true p139_5_1))))))))
def s139_6 : List Slim := [⟨some 49, (.binOp .lss 3 (.tmp (48 : Nat)) (.tmp (47 : Nat)) 3), none⟩]
def s139_7 : List Slim := [⟨some 50, (.indexAddr 156 (.tmp (46 : Nat)) (.tmp (48 : Nat))), none⟩,
  ⟨some 51, (.load 160 (.tmp (50 : Nat))), none⟩,
  ⟨some 9, (.alloc 160), none⟩,
  ⟨none, (.store 160 (.tmp (9 : Nat)) (.tmp (51 : Nat))), none⟩]
def s139_9 : List Slim := [⟨some 62, (.fieldAddr 160 (.tmp (9 : Nat)) 0), none⟩,
  ⟨some 63, (.load 2 (.tmp (62 : Nat))), none⟩,
  ⟨some 64, (.move (.tmp (1 : Nat))), none⟩,
  ⟨some 65, (.move (.tmp (2 : Nat))), none⟩,
  ⟨some 66, (.binOp .add 2 (.tmp (64 : Nat)) (.tmp (65 : Nat)) 2), none⟩,
  ⟨some 67, (.binOp .geq 2 (.tmp (63 : Nat)) (.tmp (66 : Nat)) 2), none⟩,
  ⟨some 61, (.assign (.tmp (67 : Nat))), none⟩]
def s139_10 : List Slim := [⟨some 68, (.move (.tmp (7 : Nat))), none⟩,
  ⟨some 6, (.assign (.tmp (68 : Nat))), none⟩]
def s139_11 : List Slim := [⟨some 70, (.fieldAddr 160 (.tmp (9 : Nat)) 0), none⟩,
  ⟨some 71, (.load 2 (.tmp (70 : Nat))), none⟩,
  ⟨some 72, (.move (.tmp (1 : Nat))), none⟩,
  ⟨some 73, (.binOp .geq 2 (.tmp (71 : Nat)) (.tmp (72 : Nat)) 2), none⟩,
  ⟨some 69, (.assign (.tmp (73 : Nat))), none⟩]
def s139_12 : List Slim := [⟨some 74, (.move (.tmp (7 : Nat))), none⟩,
  ⟨some 75, (.fieldAddr 160 (.tmp (9 : Nat)) 0), none⟩,
  ⟨some 76, (.load 2 (.tmp (75 : Nat))), none⟩,
  ⟨some 77, (.move (.tmp (1 : Nat))), none⟩,
  ⟨some 78, (.binOp .sub 2 (.tmp (76 : Nat)) (.tmp (77 : Nat)) 2), none⟩,
  ⟨some 79, (.slice 22 (.tmp (74 : Nat)) (some (.tmp (78 : Nat))) none none), none⟩,
  ⟨some 80, (.fieldAddr 160 (.tmp (9 : Nat)) 1), none⟩,
  ⟨some 81, (.load 22 (.tmp (80 : Nat))), none⟩,
  ⟨some 82, (.call { callee := (.builtin .copy), args := #[(.tmp (79 : Nat)), (.tmp (81 : Nat))], argTypes := #[22, 22] }), none⟩]
def p139_12 : Plan := (Plan.take 0 (Plan.take 1 (Plan.take 2 (Plan.take 3 (Plan.take 4 (Plan.take 5 (Plan.take 6 (Plan.take 7 (Plan.eff 8 false Plan.nil)))))))))
def s139_8 : List Slim := [⟨some 52, (.move (.tmp (7 : Nat))), none⟩,
  ⟨some 53, (.fieldAddr 160 (.tmp (9 : Nat)) 1), none⟩,
  ⟨some 54, (.load 22 (.tmp (53 : Nat))), none⟩,
  ⟨some 55, (.move (.tmp (1 : Nat))), none⟩,
  ⟨some 56, (.fieldAddr 160 (.tmp (9 : Nat)) 0), none⟩,
  ⟨some 57, (.load 2 (.tmp (56 : Nat))), none⟩,
  ⟨some 58, (.binOp .sub 2 (.tmp (55 : Nat)) (.tmp (57 : Nat)) 2), none⟩,
  ⟨some 59, (.slice 22 (.tmp (54 : Nat)) (some (.tmp (58 : Nat))) none none), none⟩,
  ⟨some 60, (.call { callee := (.builtin .copy), args := #[(.tmp (52 : Nat)), (.tmp (59 : Nat))], argTypes := #[22, 22] }), none⟩]
def s139_13 : List Slim := [⟨some 83, (.binOp .add 3 (.tmp (48 : Nat)) (.const (.int .i64 1)) 3), none⟩,
  ⟨some 48, (.move (.tmp (83 : Nat))), none⟩]
def s139_14 : List Slim := [⟨some 84, (.move (.tmp (7 : Nat))), none⟩,
  ⟨some 6, (.assign (.tmp (84 : Nat))), none⟩]
abbrev k174 : List Nat := [0, 1, 4]
def s174_0 : List Slim := [⟨some 4, (.assign (.const (.int .i64 0))), none⟩]
def s174_1 : List Slim := [⟨some 5, (.move (.tmp (0 : Nat))), none⟩,
  ⟨some 6, (.nilCheck (.tmp (5 : Nat))), none⟩,
  ⟨some 7, (.fieldAddr 152 (.tmp (6 : Nat)) 0), none⟩,
  ⟨some 8, (.load 50 (.tmp (7 : Nat))), none⟩,
  ⟨some 9, (.move (.tmp (1 : Nat))), none⟩,
  ⟨some 10, (.call { callee := (.value (.func 86)), args := #[(.tmp (8 : Nat)), (.tmp (9 : Nat))], argTypes := #[50, 2] }), none⟩,
  ⟨some 4, (.assign (.tmp (10 : Nat))), none⟩]
abbrev k175 : List Nat := [0, 1, 4, 5]
def s175_0 : List Slim := [⟨some 4, (.assign (.const (.int .i64 0))), none⟩,
  ⟨some 5, (.assign (.const (.int .i64 0))), none⟩]
def s175_1 : List Slim := [⟨some 6, (.move (.tmp (0 : Nat))), none⟩,
  ⟨some 7, (.nilCheck (.tmp (6 : Nat))), none⟩,
  ⟨some 8, (.fieldAddr 152 (.tmp (7 : Nat)) 0), none⟩,
  ⟨some 9, (.load 50 (.tmp (8 : Nat))), none⟩,
  ⟨some 10, (.move (.tmp (1 : Nat))), none⟩,
  ⟨some 11, (.call { callee := (.value (.func 137)), args := #[(.tmp (9 : Nat)), (.tmp (10 : Nat))], argTypes := #[50, 2] }), none⟩,
  ⟨some 12, (.extract (.tmp (11 : Nat)) 0), none⟩,
  ⟨some 13, (.extract (.tmp (11 : Nat)) 1), none⟩,
  ⟨some 4, (.assign (.tmp (12 : Nat))), none⟩,
  ⟨some 5, (.assign (.tmp (13 : Nat))), none⟩]
abbrev k176 : List Nat := [0, 1, 2, 6, 7, 8, 15]
def s176_0 : List Slim := [⟨some 6, (.assign (.const (.slice none 0 0))), none⟩,
  ⟨some 7, (.assign (.const (.int .i64 0))), none⟩]
def s176_1 : List Slim := [⟨some 9, (.move (.tmp (1 : Nat))), none⟩,
  ⟨some 10, (.binOp .lss 2 (.tmp (9 : Nat)) (.const (.int .i64 0)) 2), none⟩,
  ⟨some 11, (.move (.tmp (10 : Nat))), none⟩,
  ⟨some 12, (.move (.tmp (2 : Nat))), some (11, false)⟩,
  ⟨some 13, (.binOp .lss 3 (.tmp (12 : Nat)) (.const (.int .i64 0)) 3), some (11, false)⟩,
  ⟨some 14, (.pick (.tmp (11 : Nat)) (.const (.bool true)) (.tmp (13 : Nat))), none⟩,
  ⟨some 8, (.assign (.tmp (14 : Nat))), none⟩]
def s176_2 : List Slim := [⟨some 6, (.assign (.const (.slice none 0 0))), none⟩,
  ⟨some 7, (.assign (.const (.int .i64 2))), none⟩]
def s176_3 : List Slim := [⟨some 16, (.move (.tmp (2 : Nat))), none⟩,
  ⟨some 17, (.binOp .gtr 3 (.tmp (16 : Nat)) (.const (.int .i64 65536)) 3), none⟩,
  ⟨some 15, (.assign (.tmp (17 : Nat))), none⟩]
def s176_4 : List Slim := [⟨some 6, (.assign (.const (.slice none 0 0))), none⟩,
  ⟨some 7, (.assign (.const (.int .i64 3))), none⟩]
def s176_5 : List Slim := [⟨some 18, (.move (.tmp (0 : Nat))), none⟩,
  ⟨some 19, (.nilCheck (.tmp (18 : Nat))), none⟩,
  ⟨some 20, (.fieldAddr 152 (.tmp (19 : Nat)) 0), none⟩,
  ⟨some 21, (.load 50 (.tmp (20 : Nat))), none⟩,
  ⟨some 22, (.move (.tmp (1 : Nat))), none⟩,
  ⟨some 23, (.move (.tmp (2 : Nat))), none⟩,
  ⟨some 24, (.call { callee := (.value (.func 139)), args := #[(.tmp (21 : Nat)), (.tmp (22 : Nat)), (.tmp (23 : Nat))], argTypes := #[50, 2, 3] }), none⟩,
  ⟨some 6, (.assign (.tmp (24 : Nat))), none⟩,
  ⟨some 7, (.assign (.const (.int .i64 0))), none⟩]
abbrev k177 : List Nat := [0, 2]
def s177_0 : List Slim := [⟨some 2, (.assign (.const (.int .i64 0))), none⟩]
def s177_1 : List Slim := [⟨some 3, (.move (.tmp (0 : Nat))), none⟩,
  ⟨some 4, (.nilCheck (.tmp (3 : Nat))), none⟩,
  ⟨some 5, (.fieldAddr 152 (.tmp (4 : Nat)) 0), none⟩,
  ⟨some 6, (.load 50 (.tmp (5 : Nat))), none⟩,
  ⟨some 7, (.call { callee := (.value (.func 64)), args := #[(.tmp (6 : Nat))], argTypes := #[50] }), none⟩,
  ⟨some 2, (.assign (.tmp (7 : Nat))), none⟩]
abbrev k178 : List Nat := [2]
def s178_0 : List Slim := [⟨some 2, (.assign (.const (.int .i64 0))), none⟩]
def s178_1 : List Slim := [⟨some 2, (.assign (.const (.int .i64 0))), none⟩]
end Go.Proofs.Ytlffbjchcknmfaa
