/- By program (gen.py): this seat's regions and tables, as the engine wants them. -/
import Derived.Test.YtpdklpeojjkkaaaE9
import Derived.Test.YtpdklpeojjkkaaaProg
import Derived.KernelRfl
namespace Go.Proofs.Ytpdklpeojjkkaaa
open Go
set_option linter.unusedVariables false
set_option maxRecDepth 100000
abbrev k55 : List Nat := [0, 2]
def s55_0 : List Slim := [⟨some 2, (.assign (.const (.int .i64 0))), none⟩]
def s55_1 : List Slim := [⟨some 3, (.move (.tmp (0 : Nat))), none⟩,
  ⟨some 4, (.nilCheck (.tmp (3 : Nat))), none⟩,
  ⟨some 5, (.fieldAddr 93 (.tmp (4 : Nat)) 0), none⟩,
  ⟨some 6, (.load 91 (.tmp (5 : Nat))), none⟩,
  ⟨some 7, (.call { callee := (.value (.func 67)), args := #[(.tmp (6 : Nat))], argTypes := #[91] }), none⟩,
  ⟨some 2, (.assign (.tmp (7 : Nat))), none⟩]
abbrev k56 : List Nat := [0, 1, 2, 3, 4, 10, 12]
def s56_0 : List Slim := [⟨some 10, (.assign (.const (.pointer none))), none⟩]
def s56_1 : List Slim := [⟨some 11, (.move (.tmp (0 : Nat))), none⟩,
  ⟨some 12, (.binOp .eql 113 (.tmp (11 : Nat)) (.const .nilIface) 113), none⟩]
def s56_2 : List Slim := [⟨some 10, (.assign (.const (.pointer none))), none⟩]
def s56_3_1 : List Slim := [⟨some 24, (.build 124 #[(0, (.tmp (13 : Nat))), (1, (.tmp (14 : Nat))), (2, (.tmp (15 : Nat))), (3, (.tmp (16 : Nat))), (4, (.tmp (17 : Nat))), (5, (.tmp (23 : Nat)))]), none⟩,
  ⟨some 25, (.box 124 (.tmp (24 : Nat))), none⟩,
  ⟨some 10, (.assign (.tmp (25 : Nat))), none⟩]
def s56_3 : List Slim := (⟨some 13, (.move (.tmp (0 : Nat))), none⟩ : Slim) ::
  (⟨some 14, (.move (.tmp (1 : Nat))), none⟩ : Slim) ::
  (⟨some 15, (.move (.tmp (2 : Nat))), none⟩ : Slim) ::
  (⟨some 16, (.move (.tmp (3 : Nat))), none⟩ : Slim) ::
  (⟨some 17, (.move (.tmp (4 : Nat))), none⟩ : Slim) ::
  (⟨some 18, (.move (.tmp (0 : Nat))), none⟩ : Slim) ::
  (⟨some 19, (.move (.tmp (1 : Nat))), none⟩ : Slim) ::
  (⟨some 20, (.move (.tmp (2 : Nat))), none⟩ : Slim) ::
  (⟨some 21, (.move (.tmp (3 : Nat))), none⟩ : Slim) ::
  (⟨some 22, (.move (.tmp (4 : Nat))), none⟩ : Slim) ::
  (⟨some 23, (.call { callee := (.value (.func 68)), args := #[(.tmp (18 : Nat)), (.tmp (19 : Nat)), (.tmp (20 : Nat)), (.tmp (21 : Nat)), (.tmp (22 : Nat))], argTypes := #[113, 115, 117, 119, 121] }), none⟩ : Slim) ::
  s56_3_1
abbrev k57 : List Nat := [0, 1, 4, 5, 7, 13, 17, 21, 25]
def s57_0 : List Slim := [⟨some 4, (.assign (.const (.pointer none))), none⟩]
def s57_1 : List Slim := [⟨some 6, (.move (.tmp (0 : Nat))), none⟩,
  ⟨some 7, (.binOp .eql 36 (.tmp (6 : Nat)) (.const (.pointer none)) 36), none⟩]
def s57_2 : List Slim := [⟨some 4, (.assign (.const (.pointer none))), none⟩]
def s57_3 : List Slim := [⟨some 8, (.move (.tmp (0 : Nat))), none⟩,
  ⟨some 9, (.nilCheck (.tmp (8 : Nat))), none⟩,
  ⟨some 10, (.load 124 (.tmp (9 : Nat))), none⟩,
  ⟨some 5, (.alloc 124), none⟩,
  ⟨none, (.store 124 (.tmp (5 : Nat)) (.tmp (10 : Nat))), none⟩]
def s57_4 : List Slim := [⟨some 11, (.move (.tmp (1 : Nat))), none⟩,
  ⟨some 12, (.binOp .and 5 (.tmp (11 : Nat)) (.const (.int .u8 1)) 5), none⟩,
  ⟨some 13, (.binOp .eql 5 (.tmp (12 : Nat)) (.const (.int .u8 0)) 5), none⟩]
def s57_5 : List Slim := [⟨some 14, (.fieldAddr 124 (.tmp (5 : Nat)) 1), none⟩,
  ⟨none, (.store 115 (.tmp (14 : Nat)) (.const .nilIface)), none⟩]
def s57_6 : List Slim := [⟨some 15, (.move (.tmp (1 : Nat))), none⟩,
  ⟨some 16, (.binOp .and 5 (.tmp (15 : Nat)) (.const (.int .u8 2)) 5), none⟩,
  ⟨some 17, (.binOp .eql 5 (.tmp (16 : Nat)) (.const (.int .u8 0)) 5), none⟩]
def s57_7 : List Slim := [⟨some 18, (.fieldAddr 124 (.tmp (5 : Nat)) 2), none⟩,
  ⟨none, (.store 117 (.tmp (18 : Nat)) (.const .nilIface)), none⟩]
def s57_8 : List Slim := [⟨some 19, (.move (.tmp (1 : Nat))), none⟩,
  ⟨some 20, (.binOp .and 5 (.tmp (19 : Nat)) (.const (.int .u8 4)) 5), none⟩,
  ⟨some 21, (.binOp .eql 5 (.tmp (20 : Nat)) (.const (.int .u8 0)) 5), none⟩]
def s57_9 : List Slim := [⟨some 22, (.fieldAddr 124 (.tmp (5 : Nat)) 3), none⟩,
  ⟨none, (.store 119 (.tmp (22 : Nat)) (.const .nilIface)), none⟩]
def s57_10 : List Slim := [⟨some 23, (.move (.tmp (1 : Nat))), none⟩,
  ⟨some 24, (.binOp .and 5 (.tmp (23 : Nat)) (.const (.int .u8 8)) 5), none⟩,
  ⟨some 25, (.binOp .eql 5 (.tmp (24 : Nat)) (.const (.int .u8 0)) 5), none⟩]
def s57_11 : List Slim := [⟨some 26, (.fieldAddr 124 (.tmp (5 : Nat)) 4), none⟩,
  ⟨none, (.store 121 (.tmp (26 : Nat)) (.const .nilIface)), none⟩]
def s57_12 : List Slim := [⟨some 27, (.fieldAddr 124 (.tmp (5 : Nat)) 0), none⟩,
  ⟨some 28, (.load 113 (.tmp (27 : Nat))), none⟩,
  ⟨some 29, (.fieldAddr 124 (.tmp (5 : Nat)) 1), none⟩,
  ⟨some 30, (.load 115 (.tmp (29 : Nat))), none⟩,
  ⟨some 31, (.fieldAddr 124 (.tmp (5 : Nat)) 2), none⟩,
  ⟨some 32, (.load 117 (.tmp (31 : Nat))), none⟩,
  ⟨some 33, (.fieldAddr 124 (.tmp (5 : Nat)) 3), none⟩,
  ⟨some 34, (.load 119 (.tmp (33 : Nat))), none⟩,
  ⟨some 35, (.fieldAddr 124 (.tmp (5 : Nat)) 4), none⟩,
  ⟨some 36, (.load 121 (.tmp (35 : Nat))), none⟩,
  ⟨some 37, (.call { callee := (.value (.func 56)), args := #[(.tmp (28 : Nat)), (.tmp (30 : Nat)), (.tmp (32 : Nat)), (.tmp (34 : Nat)), (.tmp (36 : Nat))], argTypes := #[113, 115, 117, 119, 121] }), none⟩,
  ⟨some 4, (.assign (.tmp (37 : Nat))), none⟩]
abbrev k58 : List Nat := [0, 1, 4, 5, 6, 7, 11, 21]
def s58_0 : List Slim := [⟨some 4, (.assign (.const (.int .i64 0))), none⟩]
def s58_1 : List Slim := [⟨some 8, (.move (.tmp (0 : Nat))), none⟩,
  ⟨some 5, (.assign (.const (.int .i64 0))), none⟩,
  ⟨some 6, (.assign (.tmp (8 : Nat))), none⟩]
def s58_2 : List Slim := [⟨some 9, (.move (.tmp (5 : Nat))), none⟩,
  ⟨some 10, (.move (.tmp (6 : Nat))), none⟩,
  ⟨some 11, (.binOp .lss 3 (.tmp (9 : Nat)) (.tmp (10 : Nat)) 3), none⟩]
def s58_3 : List Slim := [⟨some 12, (.move (.tmp (5 : Nat))), none⟩,
  ⟨some 13, (.move (.tmp (6 : Nat))), none⟩,
  ⟨some 14, (.binOp .add 3 (.tmp (12 : Nat)) (.tmp (13 : Nat)) 3), none⟩,
  ⟨some 15, (.convert 3 125 (.tmp (14 : Nat))), none⟩,
  ⟨some 16, (.binOp .shr 125 (.tmp (15 : Nat)) (.const (.int .u64 1)) 125), none⟩,
  ⟨some 17, (.convert 125 3 (.tmp (16 : Nat))), none⟩,
  ⟨some 7, (.assign (.tmp (17 : Nat))), none⟩]
def s58_4_1 : List Slim := [⟨some 21, (.unOp .not 4 (.tmp (20 : Nat))), none⟩]
def s58_4 : List Slim := (⟨some 18, (.move (.tmp (1 : Nat))), none⟩ : Slim) ::
  (⟨some 19, (.move (.tmp (7 : Nat))), none⟩ : Slim) ::
  (⟨some 20, (.call { callee := (.value (.tmp (18 : Nat))), args := #[(.tmp (19 : Nat))], argTypes := #[3] }), none⟩ : Slim) ::
  s58_4_1
def s58_5 : List Slim := [⟨some 22, (.move (.tmp (7 : Nat))), none⟩,
  ⟨some 23, (.binOp .add 3 (.tmp (22 : Nat)) (.const (.int .i64 1)) 3), none⟩,
  ⟨some 5, (.assign (.tmp (23 : Nat))), none⟩]
def s58_6 : List Slim := [⟨some 24, (.move (.tmp (7 : Nat))), none⟩,
  ⟨some 6, (.assign (.tmp (24 : Nat))), none⟩]
def s58_7 : List Slim := [⟨some 25, (.move (.tmp (5 : Nat))), none⟩,
  ⟨some 4, (.assign (.tmp (25 : Nat))), none⟩]
abbrev k59 : List Nat := [0, 1, 2, 4]
def s59_0 : List Slim := [⟨some 4, (.assign (.const (.bool false))), none⟩]
def s59_1 : List Slim := [⟨some 5, (.load 49 (.tmp (1 : Nat))), none⟩,
  ⟨some 6, (.nilCheck (.tmp (5 : Nat))), none⟩,
  ⟨some 7, (.fieldAddr 83 (.tmp (6 : Nat)) 0), none⟩,
  ⟨some 8, (.load 81 (.tmp (7 : Nat))), none⟩,
  ⟨some 9, (.move (.tmp (0 : Nat))), none⟩,
  ⟨some 10, (.indexAddr 81 (.tmp (8 : Nat)) (.tmp (9 : Nat))), none⟩,
  ⟨some 11, (.load 85 (.tmp (10 : Nat))), none⟩,
  ⟨some 12, (.call { callee := (.value (.func 44)), args := #[(.tmp (11 : Nat))], argTypes := #[85] }), none⟩,
  ⟨some 13, (.load 2 (.tmp (2 : Nat))), none⟩,
  ⟨some 14, (.binOp .gtr 2 (.tmp (12 : Nat)) (.tmp (13 : Nat)) 2), none⟩,
  ⟨some 4, (.assign (.tmp (14 : Nat))), none⟩]
def p59_1_1 : Plan := (Plan.take 9 (Plan.take 10 Plan.nil))
def p59_1 : Plan := (Plan.take 0 (Plan.take 1 (Plan.take 2 (Plan.take 3 (Plan.take 4 (Plan.take 5 (Plan.take 6 (Plan.take 8 (Plan.eff 7 true p59_1_1)))))))))
abbrev k60 : List Nat := [0, 2, 4]
def s60_0 : List Slim := [⟨some 2, (.assign (.const (.slice none 0 0))), none⟩]
def s60_1 : List Slim := [⟨some 3, (.move (.tmp (0 : Nat))), none⟩,
  ⟨some 4, (.binOp .eql 81 (.tmp (3 : Nat)) (.const (.slice none 0 0)) 81), none⟩]
def s60_2 : List Slim := [⟨some 2, (.assign (.const (.slice none 0 0))), none⟩]
def s60_3 : List Slim := [⟨some 5, (.buildSlice 81 0 #[]), none⟩,
  ⟨some 6, (.move (.tmp (0 : Nat))), none⟩,
  ⟨some 7, (.call { callee := (.builtin .append), args := #[(.tmp (5 : Nat)), (.tmp (6 : Nat))], argTypes := #[81, 81] }), none⟩,
  ⟨some 2, (.assign (.tmp (7 : Nat))), none⟩]
abbrev k61 : List Nat := [0, 1, 2, 6, 7, 8, 9, 16, 22, 31, 68]
def s61_0 : List Slim := [⟨some 6, (.assign (.const (.slice none 0 0))), none⟩]
def s61_1 : List Slim := [⟨some 10, (.move (.tmp (0 : Nat))), none⟩,
  ⟨some 11, (.move (.tmp (1 : Nat))), none⟩,
  ⟨some 12, (.slice 81 (.tmp (10 : Nat)) (some (.tmp (11 : Nat))) none none), none⟩]
def s61_2 : List Slim := [⟨some 13, (.move (.tmp (2 : Nat))), none⟩,
  ⟨some 14, (.call { callee := (.builtin .len), args := #[(.tmp (13 : Nat))], argTypes := #[81] }), none⟩,
  ⟨some 7, (.assign (.tmp (14 : Nat))), none⟩]
def s61_3 : List Slim := [⟨some 15, (.move (.tmp (7 : Nat))), none⟩,
  ⟨some 16, (.binOp .eql 3 (.tmp (15 : Nat)) (.const (.int .i64 0)) 3), none⟩]
def s61_4 : List Slim := [⟨some 17, (.move (.tmp (0 : Nat))), none⟩,
  ⟨some 6, (.assign (.tmp (17 : Nat))), none⟩]
def s61_5 : List Slim := [⟨some 18, (.move (.tmp (0 : Nat))), none⟩,
  ⟨some 19, (.call { callee := (.builtin .len), args := #[(.tmp (18 : Nat))], argTypes := #[81] }), none⟩,
  ⟨some 8, (.assign (.tmp (19 : Nat))), none⟩]
def s61_6 : List Slim := [⟨some 20, (.move (.tmp (1 : Nat))), none⟩,
  ⟨some 21, (.move (.tmp (8 : Nat))), none⟩,
  ⟨some 22, (.binOp .eql 3 (.tmp (20 : Nat)) (.tmp (21 : Nat)) 3), none⟩]
def s61_7 : List Slim := [⟨some 23, (.move (.tmp (0 : Nat))), none⟩,
  ⟨some 24, (.move (.tmp (2 : Nat))), none⟩,
  ⟨some 25, (.call { callee := (.builtin .append), args := #[(.tmp (23 : Nat)), (.tmp (24 : Nat))], argTypes := #[81, 81] }), none⟩,
  ⟨some 6, (.assign (.tmp (25 : Nat))), none⟩]
def s61_8 : List Slim := [⟨some 26, (.move (.tmp (8 : Nat))), none⟩,
  ⟨some 27, (.move (.tmp (7 : Nat))), none⟩,
  ⟨some 28, (.binOp .add 3 (.tmp (26 : Nat)) (.tmp (27 : Nat)) 3), none⟩,
  ⟨some 29, (.move (.tmp (0 : Nat))), none⟩,
  ⟨some 30, (.call { callee := (.builtin .cap), args := #[(.tmp (29 : Nat))], argTypes := #[81] }), none⟩,
  ⟨some 31, (.binOp .gtr 3 (.tmp (28 : Nat)) (.tmp (30 : Nat)) 3), none⟩]
def s61_9 : List Slim := [⟨some 32, (.move (.tmp (0 : Nat))), none⟩,
  ⟨some 33, (.move (.tmp (1 : Nat))), none⟩,
  ⟨some 34, (.slice 81 (.tmp (32 : Nat)) none (some (.tmp (33 : Nat))) none), none⟩,
  ⟨some 35, (.move (.tmp (8 : Nat))), none⟩,
  ⟨some 36, (.move (.tmp (7 : Nat))), none⟩,
  ⟨some 37, (.binOp .add 3 (.tmp (35 : Nat)) (.tmp (36 : Nat)) 3), none⟩,
  ⟨some 38, (.move (.tmp (1 : Nat))), none⟩,
  ⟨some 39, (.binOp .sub 3 (.tmp (37 : Nat)) (.tmp (38 : Nat)) 3), none⟩,
  ⟨some 40, (.call { callee := (.builtin .append), args := #[(.tmp (34 : Nat)), (.tmp (39 : Nat))], argTypes := #[81, 3] }), none⟩,
  ⟨some 9, (.assign (.tmp (40 : Nat))), none⟩]
def s61_10 : List Slim := [⟨some 41, (.move (.tmp (9 : Nat))), none⟩,
  ⟨some 42, (.move (.tmp (1 : Nat))), none⟩,
  ⟨some 43, (.slice 81 (.tmp (41 : Nat)) (some (.tmp (42 : Nat))) none none), none⟩,
  ⟨some 44, (.move (.tmp (2 : Nat))), none⟩,
  ⟨some 45, (.call { callee := (.builtin .copy), args := #[(.tmp (43 : Nat)), (.tmp (44 : Nat))], argTypes := #[81, 81] }), none⟩]
def s61_11 : List Slim := [⟨some 46, (.move (.tmp (9 : Nat))), none⟩,
  ⟨some 47, (.move (.tmp (1 : Nat))), none⟩,
  ⟨some 48, (.move (.tmp (7 : Nat))), none⟩,
  ⟨some 49, (.binOp .add 3 (.tmp (47 : Nat)) (.tmp (48 : Nat)) 3), none⟩,
  ⟨some 50, (.slice 81 (.tmp (46 : Nat)) (some (.tmp (49 : Nat))) none none), none⟩,
  ⟨some 51, (.move (.tmp (0 : Nat))), none⟩,
  ⟨some 52, (.move (.tmp (1 : Nat))), none⟩,
  ⟨some 53, (.slice 81 (.tmp (51 : Nat)) (some (.tmp (52 : Nat))) none none), none⟩,
  ⟨some 54, (.call { callee := (.builtin .copy), args := #[(.tmp (50 : Nat)), (.tmp (53 : Nat))], argTypes := #[81, 81] }), none⟩]
def p61_11 : Plan := (Plan.take 0 (Plan.take 1 (Plan.take 2 (Plan.take 3 (Plan.take 4 (Plan.take 5 (Plan.take 6 (Plan.take 7 (Plan.eff 8 false Plan.nil)))))))))
def s61_12 : List Slim := [⟨some 55, (.move (.tmp (9 : Nat))), none⟩,
  ⟨some 6, (.assign (.tmp (55 : Nat))), none⟩]
def s61_13 : List Slim := [⟨some 56, (.move (.tmp (0 : Nat))), none⟩,
  ⟨some 57, (.move (.tmp (8 : Nat))), none⟩,
  ⟨some 58, (.move (.tmp (7 : Nat))), none⟩,
  ⟨some 59, (.binOp .add 3 (.tmp (57 : Nat)) (.tmp (58 : Nat)) 3), none⟩,
  ⟨some 60, (.slice 81 (.tmp (56 : Nat)) none (some (.tmp (59 : Nat))) none), none⟩,
  ⟨some 0, (.assign (.tmp (60 : Nat))), none⟩]
def s61_14_1 : List Slim := [⟨some 68, (.unOp .not 4 (.tmp (67 : Nat))), none⟩]
def s61_14 : List Slim := (⟨some 61, (.move (.tmp (2 : Nat))), none⟩ : Slim) ::
  (⟨some 62, (.move (.tmp (0 : Nat))), none⟩ : Slim) ::
  (⟨some 63, (.move (.tmp (1 : Nat))), none⟩ : Slim) ::
  (⟨some 64, (.move (.tmp (7 : Nat))), none⟩ : Slim) ::
  (⟨some 65, (.binOp .add 3 (.tmp (63 : Nat)) (.tmp (64 : Nat)) 3), none⟩ : Slim) ::
  (⟨some 66, (.slice 81 (.tmp (62 : Nat)) (some (.tmp (65 : Nat))) none none), none⟩ : Slim) ::
  (⟨some 67, (.call { callee := (.value (.func 62)), args := #[(.tmp (61 : Nat)), (.tmp (66 : Nat))], argTypes := #[81, 81] }), none⟩ : Slim) ::
  s61_14_1
def s61_15 : List Slim := [⟨some 69, (.move (.tmp (0 : Nat))), none⟩,
  ⟨some 70, (.move (.tmp (1 : Nat))), none⟩,
  ⟨some 71, (.move (.tmp (7 : Nat))), none⟩,
  ⟨some 72, (.binOp .add 3 (.tmp (70 : Nat)) (.tmp (71 : Nat)) 3), none⟩,
  ⟨some 73, (.slice 81 (.tmp (69 : Nat)) (some (.tmp (72 : Nat))) none none), none⟩,
  ⟨some 74, (.move (.tmp (0 : Nat))), none⟩,
  ⟨some 75, (.move (.tmp (1 : Nat))), none⟩,
  ⟨some 76, (.slice 81 (.tmp (74 : Nat)) (some (.tmp (75 : Nat))) none none), none⟩,
  ⟨some 77, (.call { callee := (.builtin .copy), args := #[(.tmp (73 : Nat)), (.tmp (76 : Nat))], argTypes := #[81, 81] }), none⟩]
def p61_15 : Plan := (Plan.take 0 (Plan.take 1 (Plan.take 2 (Plan.take 3 (Plan.take 4 (Plan.take 5 (Plan.take 6 (Plan.take 7 (Plan.eff 8 false Plan.nil)))))))))
def s61_16 : List Slim := [⟨some 78, (.move (.tmp (0 : Nat))), none⟩,
  ⟨some 79, (.move (.tmp (1 : Nat))), none⟩,
  ⟨some 80, (.slice 81 (.tmp (78 : Nat)) (some (.tmp (79 : Nat))) none none), none⟩,
  ⟨some 81, (.move (.tmp (2 : Nat))), none⟩,
  ⟨some 82, (.call { callee := (.builtin .copy), args := #[(.tmp (80 : Nat)), (.tmp (81 : Nat))], argTypes := #[81, 81] }), none⟩]
def s61_17 : List Slim := [⟨some 83, (.move (.tmp (0 : Nat))), none⟩,
  ⟨some 6, (.assign (.tmp (83 : Nat))), none⟩]
def s61_18 : List Slim := [⟨some 84, (.move (.tmp (0 : Nat))), none⟩,
  ⟨some 85, (.move (.tmp (8 : Nat))), none⟩,
  ⟨some 86, (.slice 81 (.tmp (84 : Nat)) (some (.tmp (85 : Nat))) none none), none⟩,
  ⟨some 87, (.move (.tmp (2 : Nat))), none⟩,
  ⟨some 88, (.call { callee := (.builtin .copy), args := #[(.tmp (86 : Nat)), (.tmp (87 : Nat))], argTypes := #[81, 81] }), none⟩]
def s61_19 : List Slim := [⟨some 89, (.move (.tmp (0 : Nat))), none⟩,
  ⟨some 90, (.move (.tmp (1 : Nat))), none⟩,
  ⟨some 91, (.slice 81 (.tmp (89 : Nat)) (some (.tmp (90 : Nat))) none none), none⟩,
  ⟨some 92, (.move (.tmp (7 : Nat))), none⟩,
  ⟨some 93, (.call { callee := (.value (.func 63)), args := #[(.tmp (91 : Nat)), (.tmp (92 : Nat))], argTypes := #[81, 3] }), none⟩]
def s61_20 : List Slim := [⟨some 94, (.move (.tmp (0 : Nat))), none⟩,
  ⟨some 6, (.assign (.tmp (94 : Nat))), none⟩]
abbrev k63 : List Nat := [0, 1]
def s63_0 : List Slim := [⟨some 4, (.move (.tmp (0 : Nat))), none⟩,
  ⟨some 5, (.move (.tmp (0 : Nat))), none⟩,
  ⟨some 6, (.call { callee := (.builtin .len), args := #[(.tmp (5 : Nat))], argTypes := #[81] }), none⟩,
  ⟨some 7, (.move (.tmp (1 : Nat))), none⟩,
  ⟨some 8, (.binOp .sub 3 (.tmp (6 : Nat)) (.tmp (7 : Nat)) 3), none⟩,
  ⟨some 9, (.call { callee := (.value (.func 69)), args := #[(.tmp (4 : Nat)), (.tmp (8 : Nat))], argTypes := #[81, 3] }), none⟩]
abbrev k64 : List Nat := [0, 1, 4, 5, 6, 10, 11, 12, 18]
def s64_0 : List Slim := [⟨some 4, (.assign (.const (.int .i64 0))), none⟩]
def s64_1 : List Slim := [⟨some 7, (.move (.tmp (1 : Nat))), none⟩,
  ⟨some 8, (.indexAddr 81 (.tmp (7 : Nat)) (.const (.int .i64 0))), none⟩,
  ⟨some 5, (.assign (.tmp (8 : Nat))), none⟩]
def s64_2 : List Slim := [⟨some 9, (.move (.tmp (0 : Nat))), none⟩,
  ⟨some 10, (.call { callee := (.builtin .len), args := #[(.tmp (9 : Nat))], argTypes := #[81] }), none⟩,
  ⟨some 11, (.move (.const (.int .i64 0))), none⟩]
def s64_3 : List Slim := [⟨some 12, (.binOp .lss 3 (.tmp (11 : Nat)) (.tmp (10 : Nat)) 3), none⟩]
def s64_4 : List Slim := [⟨some 13, (.move (.tmp (11 : Nat))), none⟩,
  ⟨some 6, (.assign (.tmp (13 : Nat))), none⟩]
def s64_5 : List Slim := [⟨some 14, (.move (.tmp (5 : Nat))), none⟩,
  ⟨some 15, (.move (.tmp (0 : Nat))), none⟩,
  ⟨some 16, (.move (.tmp (6 : Nat))), none⟩,
  ⟨some 17, (.indexAddr 81 (.tmp (15 : Nat)) (.tmp (16 : Nat))), none⟩,
  ⟨some 18, (.binOp .eql 126 (.tmp (14 : Nat)) (.tmp (17 : Nat)) 126), none⟩]
def s64_6 : List Slim := [⟨some 19, (.move (.tmp (6 : Nat))), none⟩,
  ⟨some 4, (.assign (.tmp (19 : Nat))), none⟩]
def s64_7 : List Slim := [⟨some 20, (.binOp .add 3 (.tmp (11 : Nat)) (.const (.int .i64 1)) 3), none⟩,
  ⟨some 11, (.move (.tmp (20 : Nat))), none⟩]
def s64_8 : List Slim := [⟨some 21, (.makeInterface 9 (.const (.string { data := #[110, 101, 101, 100, 108, 101, 32, 110, 111, 116, 32, 102, 111, 117, 110, 100] }))), none⟩,
  ⟨none, (.panic (.tmp (21 : Nat))), none⟩]
abbrev k65 : List Nat := [0, 1, 2, 6, 7, 8, 9, 16, 35, 43, 60]
def s65_0 : List Slim := [⟨some 6, (.assign (.const (.slice none 0 0))), none⟩]
def s65_1 : List Slim := [⟨some 7, (.assign (.const (.slice none 0 0))), none⟩]
def s65_2 : List Slim := [⟨some 8, (.assign (.const (.int .i64 0))), none⟩]
def s65_3 : List Slim := [⟨some 10, (.move (.tmp (8 : Nat))), none⟩,
  ⟨some 11, (.move (.tmp (0 : Nat))), none⟩,
  ⟨some 12, (.nilCheck (.tmp (11 : Nat))), none⟩,
  ⟨some 13, (.fieldAddr 93 (.tmp (12 : Nat)) 0), none⟩,
  ⟨some 14, (.load 91 (.tmp (13 : Nat))), none⟩,
  ⟨some 15, (.call { callee := (.builtin .len), args := #[(.tmp (14 : Nat))], argTypes := #[91] }), none⟩,
  ⟨some 16, (.binOp .lss 3 (.tmp (10 : Nat)) (.tmp (15 : Nat)) 3), none⟩]
def s65_5 : List Slim := [⟨some 19, (.move (.tmp (0 : Nat))), none⟩,
  ⟨some 20, (.nilCheck (.tmp (19 : Nat))), none⟩,
  ⟨some 21, (.fieldAddr 93 (.tmp (20 : Nat)) 0), none⟩,
  ⟨some 22, (.load 91 (.tmp (21 : Nat))), none⟩,
  ⟨some 23, (.move (.tmp (8 : Nat))), none⟩,
  ⟨some 24, (.indexAddr 91 (.tmp (22 : Nat)) (.tmp (23 : Nat))), none⟩,
  ⟨some 25, (.load 96 (.tmp (24 : Nat))), none⟩,
  ⟨some 9, (.alloc 96), none⟩,
  ⟨none, (.store 96 (.tmp (9 : Nat)) (.tmp (25 : Nat))), none⟩]
def s65_6_1 : List Slim := [⟨some 28, (.move (.tmp (1 : Nat))), none⟩,
  ⟨some 29, (.binOp .leq 2 (.tmp (27 : Nat)) (.tmp (28 : Nat)) 2), none⟩,
  ⟨some 30, (.move (.tmp (29 : Nat))), none⟩,
  ⟨some 31, (.fieldAddr 96 (.tmp (9 : Nat)) 0), some (30, false)⟩,
  ⟨some 32, (.load 2 (.tmp (31 : Nat))), some (30, false)⟩,
  ⟨some 33, (.move (.tmp (2 : Nat))), some (30, false)⟩,
  ⟨some 34, (.binOp .geq 2 (.tmp (32 : Nat)) (.tmp (33 : Nat)) 2), some (30, false)⟩,
  ⟨some 35, (.pick (.tmp (30 : Nat)) (.const (.bool true)) (.tmp (34 : Nat))), none⟩]
def s65_6 : List Slim := (⟨some 26, (.load 96 (.tmp (9 : Nat))), none⟩ : Slim) ::
  (⟨some 27, (.call { callee := (.value (.func 66)), args := #[(.tmp (26 : Nat))], argTypes := #[96] }), none⟩ : Slim) ::
  s65_6_1
def s65_7 : List Slim := [⟨some 36, (.move (.tmp (7 : Nat))), none⟩,
  ⟨some 37, (.load 96 (.tmp (9 : Nat))), none⟩,
  ⟨some 38, (.buildSlice 91 1 #[(0, (.tmp (37 : Nat)))]), none⟩,
  ⟨some 39, (.call { callee := (.builtin .append), args := #[(.tmp (36 : Nat)), (.tmp (38 : Nat))], argTypes := #[91, 91] }), none⟩,
  ⟨some 7, (.assign (.tmp (39 : Nat))), none⟩]
def s65_8 : List Slim := [⟨some 40, (.fieldAddr 96 (.tmp (9 : Nat)) 0), none⟩,
  ⟨some 41, (.load 2 (.tmp (40 : Nat))), none⟩,
  ⟨some 42, (.move (.tmp (1 : Nat))), none⟩,
  ⟨some 43, (.binOp .lss 2 (.tmp (41 : Nat)) (.tmp (42 : Nat)) 2), none⟩]
def s65_9 : List Slim := [⟨some 44, (.move (.tmp (7 : Nat))), none⟩,
  ⟨some 45, (.fieldAddr 96 (.tmp (9 : Nat)) 0), none⟩,
  ⟨some 46, (.load 2 (.tmp (45 : Nat))), none⟩,
  ⟨some 47, (.fieldAddr 96 (.tmp (9 : Nat)) 1), none⟩,
  ⟨some 48, (.load 40 (.tmp (47 : Nat))), none⟩,
  ⟨some 49, (.move (.tmp (1 : Nat))), none⟩,
  ⟨some 50, (.fieldAddr 96 (.tmp (9 : Nat)) 0), none⟩,
  ⟨some 51, (.load 2 (.tmp (50 : Nat))), none⟩,
  ⟨some 52, (.binOp .sub 2 (.tmp (49 : Nat)) (.tmp (51 : Nat)) 2), none⟩,
  ⟨some 53, (.slice 40 (.tmp (48 : Nat)) none (some (.tmp (52 : Nat))) none), none⟩,
  ⟨some 54, (.build 96 #[(0, (.tmp (46 : Nat))), (1, (.tmp (53 : Nat)))]), none⟩,
  ⟨some 55, (.buildSlice 91 1 #[(0, (.tmp (54 : Nat)))]), none⟩,
  ⟨some 56, (.call { callee := (.builtin .append), args := #[(.tmp (44 : Nat)), (.tmp (55 : Nat))], argTypes := #[91, 91] }), none⟩,
  ⟨some 7, (.assign (.tmp (56 : Nat))), none⟩]
def p65_9 : Plan := (Plan.take 0 (Plan.take 1 (Plan.take 2 (Plan.take 3 (Plan.take 4 (Plan.take 5 (Plan.take 6 (Plan.take 7 (Plan.take 8 (Plan.take 9 (Plan.take 10 (Plan.eff 11 false (Plan.eff 12 false (Plan.take 13 Plan.nil))))))))))))))
def s65_10_1 : List Slim := [⟨some 59, (.move (.tmp (2 : Nat))), none⟩,
  ⟨some 60, (.binOp .gtr 2 (.tmp (58 : Nat)) (.tmp (59 : Nat)) 2), none⟩]
def s65_10 : List Slim := (⟨some 57, (.load 96 (.tmp (9 : Nat))), none⟩ : Slim) ::
  (⟨some 58, (.call { callee := (.value (.func 66)), args := #[(.tmp (57 : Nat))], argTypes := #[96] }), none⟩ : Slim) ::
  s65_10_1
def s65_11 : List Slim := [⟨some 61, (.move (.tmp (7 : Nat))), none⟩,
  ⟨some 62, (.move (.tmp (2 : Nat))), none⟩,
  ⟨some 63, (.fieldAddr 96 (.tmp (9 : Nat)) 1), none⟩,
  ⟨some 64, (.load 40 (.tmp (63 : Nat))), none⟩,
  ⟨some 65, (.move (.tmp (2 : Nat))), none⟩,
  ⟨some 66, (.fieldAddr 96 (.tmp (9 : Nat)) 0), none⟩,
  ⟨some 67, (.load 2 (.tmp (66 : Nat))), none⟩,
  ⟨some 68, (.binOp .sub 2 (.tmp (65 : Nat)) (.tmp (67 : Nat)) 2), none⟩,
  ⟨some 69, (.slice 40 (.tmp (64 : Nat)) (some (.tmp (68 : Nat))) none none), none⟩,
  ⟨some 70, (.build 96 #[(0, (.tmp (62 : Nat))), (1, (.tmp (69 : Nat)))]), none⟩,
  ⟨some 71, (.buildSlice 91 1 #[(0, (.tmp (70 : Nat)))]), none⟩,
  ⟨some 72, (.call { callee := (.builtin .append), args := #[(.tmp (61 : Nat)), (.tmp (71 : Nat))], argTypes := #[91, 91] }), none⟩,
  ⟨some 7, (.assign (.tmp (72 : Nat))), none⟩]
def s65_4 : List Slim := [⟨some 17, (.move (.tmp (8 : Nat))), none⟩,
  ⟨some 18, (.binOp .add 3 (.tmp (17 : Nat)) (.const (.int .i64 1)) 3), none⟩,
  ⟨some 8, (.assign (.tmp (18 : Nat))), none⟩]
def s65_12 : List Slim := [⟨some 73, (.move (.tmp (7 : Nat))), none⟩,
  ⟨some 6, (.assign (.tmp (73 : Nat))), none⟩]
abbrev k66 : List Nat := [0, 1, 2]
def s66_0 : List Slim := [⟨some 1, (.box 96 (.tmp (0 : Nat))), none⟩,
  ⟨some 2, (.assign (.const (.int .i64 0))), none⟩]
def s66_1 : List Slim := [⟨some 3, (.fieldAddr 96 (.tmp (1 : Nat)) 0), none⟩,
  ⟨some 4, (.load 2 (.tmp (3 : Nat))), none⟩,
  ⟨some 5, (.fieldAddr 96 (.tmp (1 : Nat)) 1), none⟩,
  ⟨some 6, (.load 40 (.tmp (5 : Nat))), none⟩,
  ⟨some 7, (.call { callee := (.builtin .len), args := #[(.tmp (6 : Nat))], argTypes := #[40] }), none⟩,
  ⟨some 8, (.binOp .add 2 (.tmp (4 : Nat)) (.tmp (7 : Nat)) 2), none⟩,
  ⟨some 2, (.assign (.tmp (8 : Nat))), none⟩]
abbrev k67 : List Nat := [0, 2, 3, 4, 8]
def s67_0 : List Slim := [⟨some 2, (.assign (.const (.int .i64 0))), none⟩]
def s67_1 : List Slim := [⟨some 3, (.assign (.const (.int .i64 0))), none⟩]
def s67_2 : List Slim := [⟨some 4, (.assign (.const (.int .i64 0))), none⟩]
def s67_3 : List Slim := [⟨some 5, (.move (.tmp (4 : Nat))), none⟩,
  ⟨some 6, (.move (.tmp (0 : Nat))), none⟩,
  ⟨some 7, (.call { callee := (.builtin .len), args := #[(.tmp (6 : Nat))], argTypes := #[91] }), none⟩,
  ⟨some 8, (.binOp .lss 3 (.tmp (5 : Nat)) (.tmp (7 : Nat)) 3), none⟩]
def s67_5 : List Slim := [⟨some 11, (.move (.tmp (3 : Nat))), none⟩,
  ⟨some 12, (.move (.tmp (0 : Nat))), none⟩,
  ⟨some 13, (.move (.tmp (4 : Nat))), none⟩,
  ⟨some 14, (.indexAddr 91 (.tmp (12 : Nat)) (.tmp (13 : Nat))), none⟩,
  ⟨some 15, (.fieldAddr 96 (.tmp (14 : Nat)) 1), none⟩,
  ⟨some 16, (.load 40 (.tmp (15 : Nat))), none⟩,
  ⟨some 17, (.call { callee := (.builtin .len), args := #[(.tmp (16 : Nat))], argTypes := #[40] }), none⟩,
  ⟨some 18, (.binOp .add 2 (.tmp (11 : Nat)) (.tmp (17 : Nat)) 2), none⟩,
  ⟨some 3, (.assign (.tmp (18 : Nat))), none⟩]
def s67_4 : List Slim := [⟨some 9, (.move (.tmp (4 : Nat))), none⟩,
  ⟨some 10, (.binOp .add 3 (.tmp (9 : Nat)) (.const (.int .i64 1)) 3), none⟩,
  ⟨some 4, (.assign (.tmp (10 : Nat))), none⟩]
def s67_6 : List Slim := [⟨some 19, (.move (.tmp (3 : Nat))), none⟩,
  ⟨some 2, (.assign (.tmp (19 : Nat))), none⟩]
abbrev k68 : List Nat := [0, 1, 2, 3, 4, 10, 11, 13, 17, 21, 25, 28, 29, 36, 43, 51, 58, 66, 74, 83, 90, 98, 106, 115, 123, 132, 141]
def s68_0 : List Slim := [⟨some 10, (.assign (.const .nilIface)), none⟩]
def s68_1 : List Slim := [⟨some 11, (.assign (.const (.int .i64 0))), none⟩]
def s68_2 : List Slim := [⟨some 12, (.move (.tmp (1 : Nat))), none⟩,
  ⟨some 13, (.binOp .neq 115 (.tmp (12 : Nat)) (.const .nilIface) 115), none⟩]
def s68_3 : List Slim := [⟨some 14, (.move (.tmp (11 : Nat))), none⟩,
  ⟨some 15, (.binOp .or 3 (.tmp (14 : Nat)) (.const (.int .i64 1)) 3), none⟩,
  ⟨some 11, (.assign (.tmp (15 : Nat))), none⟩]
def s68_4 : List Slim := [⟨some 16, (.move (.tmp (2 : Nat))), none⟩,
  ⟨some 17, (.binOp .neq 117 (.tmp (16 : Nat)) (.const .nilIface) 117), none⟩]
def s68_5 : List Slim := [⟨some 18, (.move (.tmp (11 : Nat))), none⟩,
  ⟨some 19, (.binOp .or 3 (.tmp (18 : Nat)) (.const (.int .i64 2)) 3), none⟩,
  ⟨some 11, (.assign (.tmp (19 : Nat))), none⟩]
def s68_6 : List Slim := [⟨some 20, (.move (.tmp (3 : Nat))), none⟩,
  ⟨some 21, (.binOp .neq 119 (.tmp (20 : Nat)) (.const .nilIface) 119), none⟩]
def s68_7 : List Slim := [⟨some 22, (.move (.tmp (11 : Nat))), none⟩,
  ⟨some 23, (.binOp .or 3 (.tmp (22 : Nat)) (.const (.int .i64 4)) 3), none⟩,
  ⟨some 11, (.assign (.tmp (23 : Nat))), none⟩]
def s68_8 : List Slim := [⟨some 24, (.move (.tmp (4 : Nat))), none⟩,
  ⟨some 25, (.binOp .neq 121 (.tmp (24 : Nat)) (.const .nilIface) 121), none⟩]
def s68_9 : List Slim := [⟨some 26, (.move (.tmp (11 : Nat))), none⟩,
  ⟨some 27, (.binOp .or 3 (.tmp (26 : Nat)) (.const (.int .i64 8)) 3), none⟩,
  ⟨some 11, (.assign (.tmp (27 : Nat))), none⟩]
def s68_10 : List Slim := [⟨some 28, (.move (.tmp (11 : Nat))), none⟩]
def s68_11 : List Slim := [⟨some 30, (.binOp .eql 3 (.tmp (28 : Nat)) (.const (.int .i64 1)) 3), none⟩,
  ⟨some 29, (.assign (.tmp (30 : Nat))), none⟩]
def s68_12 : List Slim := [⟨some 31, (.move (.tmp (0 : Nat))), none⟩,
  ⟨some 32, (.move (.tmp (1 : Nat))), none⟩,
  ⟨some 33, (.build 129 #[(0, (.tmp (31 : Nat))), (1, (.tmp (32 : Nat)))]), none⟩,
  ⟨some 34, (.box 129 (.tmp (33 : Nat))), none⟩,
  ⟨some 35, (.makeInterface 127 (.tmp (34 : Nat))), none⟩,
  ⟨some 10, (.assign (.tmp (35 : Nat))), none⟩]
def s68_13 : List Slim := [⟨some 37, (.binOp .eql 3 (.tmp (28 : Nat)) (.const (.int .i64 2)) 3), none⟩,
  ⟨some 36, (.assign (.tmp (37 : Nat))), none⟩]
def s68_14 : List Slim := [⟨some 38, (.move (.tmp (0 : Nat))), none⟩,
  ⟨some 39, (.move (.tmp (2 : Nat))), none⟩,
  ⟨some 40, (.build 132 #[(0, (.tmp (38 : Nat))), (1, (.tmp (39 : Nat)))]), none⟩,
  ⟨some 41, (.box 132 (.tmp (40 : Nat))), none⟩,
  ⟨some 42, (.makeInterface 130 (.tmp (41 : Nat))), none⟩,
  ⟨some 10, (.assign (.tmp (42 : Nat))), none⟩]
def s68_15 : List Slim := [⟨some 44, (.binOp .eql 3 (.tmp (28 : Nat)) (.const (.int .i64 3)) 3), none⟩,
  ⟨some 43, (.assign (.tmp (44 : Nat))), none⟩]
def s68_16 : List Slim := [⟨some 45, (.move (.tmp (0 : Nat))), none⟩,
  ⟨some 46, (.move (.tmp (1 : Nat))), none⟩,
  ⟨some 47, (.move (.tmp (2 : Nat))), none⟩,
  ⟨some 48, (.build 135 #[(0, (.tmp (45 : Nat))), (1, (.tmp (46 : Nat))), (2, (.tmp (47 : Nat)))]), none⟩,
  ⟨some 49, (.box 135 (.tmp (48 : Nat))), none⟩,
  ⟨some 50, (.makeInterface 133 (.tmp (49 : Nat))), none⟩,
  ⟨some 10, (.assign (.tmp (50 : Nat))), none⟩]
def s68_17 : List Slim := [⟨some 52, (.binOp .eql 3 (.tmp (28 : Nat)) (.const (.int .i64 4)) 3), none⟩,
  ⟨some 51, (.assign (.tmp (52 : Nat))), none⟩]
def s68_18 : List Slim := [⟨some 53, (.move (.tmp (0 : Nat))), none⟩,
  ⟨some 54, (.move (.tmp (3 : Nat))), none⟩,
  ⟨some 55, (.build 138 #[(0, (.tmp (53 : Nat))), (1, (.tmp (54 : Nat)))]), none⟩,
  ⟨some 56, (.box 138 (.tmp (55 : Nat))), none⟩,
  ⟨some 57, (.makeInterface 136 (.tmp (56 : Nat))), none⟩,
  ⟨some 10, (.assign (.tmp (57 : Nat))), none⟩]
def s68_19 : List Slim := [⟨some 59, (.binOp .eql 3 (.tmp (28 : Nat)) (.const (.int .i64 5)) 3), none⟩,
  ⟨some 58, (.assign (.tmp (59 : Nat))), none⟩]
def s68_20 : List Slim := [⟨some 60, (.move (.tmp (0 : Nat))), none⟩,
  ⟨some 61, (.move (.tmp (1 : Nat))), none⟩,
  ⟨some 62, (.move (.tmp (3 : Nat))), none⟩,
  ⟨some 63, (.build 141 #[(0, (.tmp (60 : Nat))), (1, (.tmp (61 : Nat))), (2, (.tmp (62 : Nat)))]), none⟩,
  ⟨some 64, (.box 141 (.tmp (63 : Nat))), none⟩,
  ⟨some 65, (.makeInterface 139 (.tmp (64 : Nat))), none⟩,
  ⟨some 10, (.assign (.tmp (65 : Nat))), none⟩]
def s68_21 : List Slim := [⟨some 67, (.binOp .eql 3 (.tmp (28 : Nat)) (.const (.int .i64 6)) 3), none⟩,
  ⟨some 66, (.assign (.tmp (67 : Nat))), none⟩]
def s68_22 : List Slim := [⟨some 68, (.move (.tmp (0 : Nat))), none⟩,
  ⟨some 69, (.move (.tmp (2 : Nat))), none⟩,
  ⟨some 70, (.move (.tmp (3 : Nat))), none⟩,
  ⟨some 71, (.build 144 #[(0, (.tmp (68 : Nat))), (1, (.tmp (69 : Nat))), (2, (.tmp (70 : Nat)))]), none⟩,
  ⟨some 72, (.box 144 (.tmp (71 : Nat))), none⟩,
  ⟨some 73, (.makeInterface 142 (.tmp (72 : Nat))), none⟩,
  ⟨some 10, (.assign (.tmp (73 : Nat))), none⟩]
def s68_23 : List Slim := [⟨some 75, (.binOp .eql 3 (.tmp (28 : Nat)) (.const (.int .i64 7)) 3), none⟩,
  ⟨some 74, (.assign (.tmp (75 : Nat))), none⟩]
def s68_24 : List Slim := [⟨some 76, (.move (.tmp (0 : Nat))), none⟩,
  ⟨some 77, (.move (.tmp (1 : Nat))), none⟩,
  ⟨some 78, (.move (.tmp (2 : Nat))), none⟩,
  ⟨some 79, (.move (.tmp (3 : Nat))), none⟩,
  ⟨some 80, (.build 147 #[(0, (.tmp (76 : Nat))), (1, (.tmp (77 : Nat))), (2, (.tmp (78 : Nat))), (3, (.tmp (79 : Nat)))]), none⟩,
  ⟨some 81, (.box 147 (.tmp (80 : Nat))), none⟩,
  ⟨some 82, (.makeInterface 145 (.tmp (81 : Nat))), none⟩,
  ⟨some 10, (.assign (.tmp (82 : Nat))), none⟩]
def s68_25 : List Slim := [⟨some 84, (.binOp .eql 3 (.tmp (28 : Nat)) (.const (.int .i64 8)) 3), none⟩,
  ⟨some 83, (.assign (.tmp (84 : Nat))), none⟩]
def s68_26 : List Slim := [⟨some 85, (.move (.tmp (0 : Nat))), none⟩,
  ⟨some 86, (.move (.tmp (4 : Nat))), none⟩,
  ⟨some 87, (.build 150 #[(0, (.tmp (85 : Nat))), (1, (.tmp (86 : Nat)))]), none⟩,
  ⟨some 88, (.box 150 (.tmp (87 : Nat))), none⟩,
  ⟨some 89, (.makeInterface 148 (.tmp (88 : Nat))), none⟩,
  ⟨some 10, (.assign (.tmp (89 : Nat))), none⟩]
def s68_27 : List Slim := [⟨some 91, (.binOp .eql 3 (.tmp (28 : Nat)) (.const (.int .i64 9)) 3), none⟩,
  ⟨some 90, (.assign (.tmp (91 : Nat))), none⟩]
def s68_28 : List Slim := [⟨some 92, (.move (.tmp (0 : Nat))), none⟩,
  ⟨some 93, (.move (.tmp (1 : Nat))), none⟩,
  ⟨some 94, (.move (.tmp (4 : Nat))), none⟩,
  ⟨some 95, (.build 153 #[(0, (.tmp (92 : Nat))), (1, (.tmp (93 : Nat))), (2, (.tmp (94 : Nat)))]), none⟩,
  ⟨some 96, (.box 153 (.tmp (95 : Nat))), none⟩,
  ⟨some 97, (.makeInterface 151 (.tmp (96 : Nat))), none⟩,
  ⟨some 10, (.assign (.tmp (97 : Nat))), none⟩]
def s68_29 : List Slim := [⟨some 99, (.binOp .eql 3 (.tmp (28 : Nat)) (.const (.int .i64 10)) 3), none⟩,
  ⟨some 98, (.assign (.tmp (99 : Nat))), none⟩]
def s68_30 : List Slim := [⟨some 100, (.move (.tmp (0 : Nat))), none⟩,
  ⟨some 101, (.move (.tmp (2 : Nat))), none⟩,
  ⟨some 102, (.move (.tmp (4 : Nat))), none⟩,
  ⟨some 103, (.build 156 #[(0, (.tmp (100 : Nat))), (1, (.tmp (101 : Nat))), (2, (.tmp (102 : Nat)))]), none⟩,
  ⟨some 104, (.box 156 (.tmp (103 : Nat))), none⟩,
  ⟨some 105, (.makeInterface 154 (.tmp (104 : Nat))), none⟩,
  ⟨some 10, (.assign (.tmp (105 : Nat))), none⟩]
def s68_31 : List Slim := [⟨some 107, (.binOp .eql 3 (.tmp (28 : Nat)) (.const (.int .i64 11)) 3), none⟩,
  ⟨some 106, (.assign (.tmp (107 : Nat))), none⟩]
def s68_32 : List Slim := [⟨some 108, (.move (.tmp (0 : Nat))), none⟩,
  ⟨some 109, (.move (.tmp (1 : Nat))), none⟩,
  ⟨some 110, (.move (.tmp (2 : Nat))), none⟩,
  ⟨some 111, (.move (.tmp (4 : Nat))), none⟩,
  ⟨some 112, (.build 159 #[(0, (.tmp (108 : Nat))), (1, (.tmp (109 : Nat))), (2, (.tmp (110 : Nat))), (3, (.tmp (111 : Nat)))]), none⟩,
  ⟨some 113, (.box 159 (.tmp (112 : Nat))), none⟩,
  ⟨some 114, (.makeInterface 157 (.tmp (113 : Nat))), none⟩,
  ⟨some 10, (.assign (.tmp (114 : Nat))), none⟩]
def s68_33 : List Slim := [⟨some 116, (.binOp .eql 3 (.tmp (28 : Nat)) (.const (.int .i64 12)) 3), none⟩,
  ⟨some 115, (.assign (.tmp (116 : Nat))), none⟩]
def s68_34 : List Slim := [⟨some 117, (.move (.tmp (0 : Nat))), none⟩,
  ⟨some 118, (.move (.tmp (3 : Nat))), none⟩,
  ⟨some 119, (.move (.tmp (4 : Nat))), none⟩,
  ⟨some 120, (.build 162 #[(0, (.tmp (117 : Nat))), (1, (.tmp (118 : Nat))), (2, (.tmp (119 : Nat)))]), none⟩,
  ⟨some 121, (.box 162 (.tmp (120 : Nat))), none⟩,
  ⟨some 122, (.makeInterface 160 (.tmp (121 : Nat))), none⟩,
  ⟨some 10, (.assign (.tmp (122 : Nat))), none⟩]
def s68_35 : List Slim := [⟨some 124, (.binOp .eql 3 (.tmp (28 : Nat)) (.const (.int .i64 13)) 3), none⟩,
  ⟨some 123, (.assign (.tmp (124 : Nat))), none⟩]
def s68_36 : List Slim := [⟨some 125, (.move (.tmp (0 : Nat))), none⟩,
  ⟨some 126, (.move (.tmp (1 : Nat))), none⟩,
  ⟨some 127, (.move (.tmp (3 : Nat))), none⟩,
  ⟨some 128, (.move (.tmp (4 : Nat))), none⟩,
  ⟨some 129, (.build 165 #[(0, (.tmp (125 : Nat))), (1, (.tmp (126 : Nat))), (2, (.tmp (127 : Nat))), (3, (.tmp (128 : Nat)))]), none⟩,
  ⟨some 130, (.box 165 (.tmp (129 : Nat))), none⟩,
  ⟨some 131, (.makeInterface 163 (.tmp (130 : Nat))), none⟩,
  ⟨some 10, (.assign (.tmp (131 : Nat))), none⟩]
def s68_37 : List Slim := [⟨some 133, (.binOp .eql 3 (.tmp (28 : Nat)) (.const (.int .i64 14)) 3), none⟩,
  ⟨some 132, (.assign (.tmp (133 : Nat))), none⟩]
def s68_38 : List Slim := [⟨some 134, (.move (.tmp (0 : Nat))), none⟩,
  ⟨some 135, (.move (.tmp (2 : Nat))), none⟩,
  ⟨some 136, (.move (.tmp (3 : Nat))), none⟩,
  ⟨some 137, (.move (.tmp (4 : Nat))), none⟩,
  ⟨some 138, (.build 168 #[(0, (.tmp (134 : Nat))), (1, (.tmp (135 : Nat))), (2, (.tmp (136 : Nat))), (3, (.tmp (137 : Nat)))]), none⟩,
  ⟨some 139, (.box 168 (.tmp (138 : Nat))), none⟩,
  ⟨some 140, (.makeInterface 166 (.tmp (139 : Nat))), none⟩,
  ⟨some 10, (.assign (.tmp (140 : Nat))), none⟩]
def s68_39 : List Slim := [⟨some 142, (.binOp .eql 3 (.tmp (28 : Nat)) (.const (.int .i64 15)) 3), none⟩,
  ⟨some 141, (.assign (.tmp (142 : Nat))), none⟩]
def s68_40 : List Slim := [⟨some 143, (.move (.tmp (0 : Nat))), none⟩,
  ⟨some 144, (.move (.tmp (1 : Nat))), none⟩,
  ⟨some 145, (.move (.tmp (2 : Nat))), none⟩,
  ⟨some 146, (.move (.tmp (3 : Nat))), none⟩,
  ⟨some 147, (.move (.tmp (4 : Nat))), none⟩,
  ⟨some 148, (.build 171 #[(0, (.tmp (143 : Nat))), (1, (.tmp (144 : Nat))), (2, (.tmp (145 : Nat))), (3, (.tmp (146 : Nat))), (4, (.tmp (147 : Nat)))]), none⟩,
  ⟨some 149, (.box 171 (.tmp (148 : Nat))), none⟩,
  ⟨some 150, (.makeInterface 169 (.tmp (149 : Nat))), none⟩,
  ⟨some 10, (.assign (.tmp (150 : Nat))), none⟩]
def s68_41 : List Slim := [⟨some 151, (.move (.tmp (0 : Nat))), none⟩,
  ⟨some 152, (.build 174 #[(0, (.tmp (151 : Nat)))]), none⟩,
  ⟨some 153, (.box 174 (.tmp (152 : Nat))), none⟩,
  ⟨some 154, (.makeInterface 172 (.tmp (153 : Nat))), none⟩,
  ⟨some 10, (.assign (.tmp (154 : Nat))), none⟩]
abbrev k69 : List Nat := [0, 1]
def s69_0 : List Slim := [⟨some 4, (.move (.tmp (0 : Nat))), none⟩,
  ⟨some 5, (.move (.tmp (1 : Nat))), none⟩,
  ⟨some 6, (.slice 81 (.tmp (4 : Nat)) none (some (.tmp (5 : Nat))) none), none⟩,
  ⟨some 7, (.call { callee := (.value (.func 70)), args := #[(.tmp (6 : Nat))], argTypes := #[81] }), none⟩]
def s69_1 : List Slim := [⟨some 8, (.move (.tmp (0 : Nat))), none⟩,
  ⟨some 9, (.move (.tmp (1 : Nat))), none⟩,
  ⟨some 10, (.slice 81 (.tmp (8 : Nat)) (some (.tmp (9 : Nat))) none none), none⟩,
  ⟨some 11, (.call { callee := (.value (.func 70)), args := #[(.tmp (10 : Nat))], argTypes := #[81] }), none⟩]
def s69_2 : List Slim := [⟨some 12, (.move (.tmp (0 : Nat))), none⟩,
  ⟨some 13, (.call { callee := (.value (.func 70)), args := #[(.tmp (12 : Nat))], argTypes := #[81] }), none⟩]
abbrev k70 : List Nat := [0, 2, 3, 9]
def s70_0 : List Slim := [⟨some 4, (.move (.tmp (0 : Nat))), none⟩,
  ⟨some 5, (.call { callee := (.builtin .len), args := #[(.tmp (4 : Nat))], argTypes := #[81] }), none⟩,
  ⟨some 6, (.binOp .sub 3 (.tmp (5 : Nat)) (.const (.int .i64 1)) 3), none⟩,
  ⟨some 2, (.assign (.const (.int .i64 0))), none⟩,
  ⟨some 3, (.assign (.tmp (6 : Nat))), none⟩]
def s70_1 : List Slim := [⟨some 7, (.move (.tmp (2 : Nat))), none⟩,
  ⟨some 8, (.move (.tmp (3 : Nat))), none⟩,
  ⟨some 9, (.binOp .lss 3 (.tmp (7 : Nat)) (.tmp (8 : Nat)) 3), none⟩]
def s70_3 : List Slim := [⟨some 14, (.move (.tmp (0 : Nat))), none⟩,
  ⟨some 15, (.move (.tmp (2 : Nat))), none⟩,
  ⟨some 16, (.move (.tmp (0 : Nat))), none⟩,
  ⟨some 17, (.move (.tmp (3 : Nat))), none⟩,
  ⟨some 18, (.move (.tmp (0 : Nat))), none⟩,
  ⟨some 19, (.move (.tmp (3 : Nat))), none⟩,
  ⟨some 20, (.indexAddr 81 (.tmp (18 : Nat)) (.tmp (19 : Nat))), none⟩,
  ⟨some 21, (.load 85 (.tmp (20 : Nat))), none⟩,
  ⟨some 22, (.move (.tmp (0 : Nat))), none⟩,
  ⟨some 23, (.move (.tmp (2 : Nat))), none⟩,
  ⟨some 24, (.indexAddr 81 (.tmp (22 : Nat)) (.tmp (23 : Nat))), none⟩,
  ⟨some 25, (.load 85 (.tmp (24 : Nat))), none⟩,
  ⟨some 26, (.indexAddr 81 (.tmp (14 : Nat)) (.tmp (15 : Nat))), none⟩,
  ⟨none, (.store 85 (.tmp (26 : Nat)) (.tmp (21 : Nat))), none⟩,
  ⟨some 27, (.indexAddr 81 (.tmp (16 : Nat)) (.tmp (17 : Nat))), none⟩,
  ⟨none, (.store 85 (.tmp (27 : Nat)) (.tmp (25 : Nat))), none⟩]
def p70_3 : Plan := (Plan.take 0 (Plan.take 1 (Plan.take 2 (Plan.take 3 (Plan.take 4 (Plan.take 5 (Plan.take 6 (Plan.take 7 (Plan.take 8 (Plan.take 9 (Plan.take 10 (Plan.take 11 (Plan.take 12 (Plan.eff 13 false (Plan.take 14 (Plan.eff 15 false Plan.nil))))))))))))))))
def s70_2 : List Slim := [⟨some 10, (.move (.tmp (2 : Nat))), none⟩,
  ⟨some 11, (.binOp .add 3 (.tmp (10 : Nat)) (.const (.int .i64 1)) 3), none⟩,
  ⟨some 12, (.move (.tmp (3 : Nat))), none⟩,
  ⟨some 13, (.binOp .sub 3 (.tmp (12 : Nat)) (.const (.int .i64 1)) 3), none⟩,
  ⟨some 2, (.assign (.tmp (11 : Nat))), none⟩,
  ⟨some 3, (.assign (.tmp (13 : Nat))), none⟩]
end Go.Proofs.Ytpdklpeojjkkaaa
