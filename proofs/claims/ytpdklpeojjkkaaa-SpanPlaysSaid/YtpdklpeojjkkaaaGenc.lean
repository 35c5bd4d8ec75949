/- By program (gen.py): this seat's regions and tables, as the engine wants them. -/
import Derived.Test.YtpdklpeojjkkaaaE9
import Derived.Test.YtpdklpeojjkkaaaProg
import Derived.KernelRfl
namespace Go.Proofs.Ytpdklpeojjkkaaa
open Go
set_option linter.unusedVariables false
set_option maxRecDepth 100000
abbrev k34 : List Nat := [0, 2, 3, 8]
def s34_0 : List Slim := [⟨some 2, (.assign (.const (.pointer none))), none⟩]
def s34_1 : List Slim := [⟨some 4, (.build 93 #[]), none⟩,
  ⟨some 5, (.box 93 (.tmp (4 : Nat))), none⟩,
  ⟨some 3, (.assign (.tmp (5 : Nat))), none⟩]
def s34_2 : List Slim := [⟨some 6, (.move (.tmp (0 : Nat))), none⟩,
  ⟨some 7, (.call { callee := (.builtin .len), args := #[(.tmp (6 : Nat))], argTypes := #[40] }), none⟩,
  ⟨some 8, (.binOp .gtr 3 (.tmp (7 : Nat)) (.const (.int .i64 4194304)) 3), none⟩]
def s34_3 : List Slim := [⟨some 9, (.move (.tmp (0 : Nat))), none⟩,
  ⟨some 10, (.slice 40 (.tmp (9 : Nat)) none (some (.const (.int .i64 4194304))) none), none⟩,
  ⟨some 0, (.assign (.tmp (10 : Nat))), none⟩]
def s34_4 : List Slim := [⟨some 11, (.move (.tmp (3 : Nat))), none⟩,
  ⟨some 12, (.move (.tmp (0 : Nat))), none⟩,
  ⟨some 13, (.call { callee := (.builtin .len), args := #[(.tmp (12 : Nat))], argTypes := #[40] }), none⟩,
  ⟨some 14, (.nilCheck (.tmp (11 : Nat))), none⟩,
  ⟨some 15, (.fieldAddr 93 (.tmp (14 : Nat)) 1), none⟩,
  ⟨none, (.store 2 (.tmp (15 : Nat)) (.tmp (13 : Nat))), none⟩]
def s34_5 : List Slim := [⟨some 16, (.move (.tmp (3 : Nat))), none⟩,
  ⟨some 17, (.move (.tmp (0 : Nat))), none⟩,
  ⟨some 18, (.call { callee := (.value (.func 47)), args := #[(.tmp (16 : Nat)), (.const (.int .i64 0)), (.tmp (17 : Nat))], argTypes := #[64, 2, 40] }), none⟩]
def s34_6 : List Slim := [⟨some 19, (.move (.tmp (3 : Nat))), none⟩,
  ⟨some 2, (.assign (.tmp (19 : Nat))), none⟩]
abbrev k35 : List Nat := [0, 2, 3, 5, 7, 17, 18, 19, 20]
def s35_0 : List Slim := [⟨some 2, (.assign (.const (.pointer none))), none⟩]
def s35_1 : List Slim := [⟨some 6, (.move (.tmp (0 : Nat))), none⟩,
  ⟨some 7, (.binOp .eql 49 (.tmp (6 : Nat)) (.const (.pointer none)) 49), none⟩]
def s35_2 : List Slim := [⟨some 2, (.assign (.const (.pointer none))), none⟩]
def s35_3 : List Slim := [⟨some 8, (.move (.tmp (0 : Nat))), none⟩,
  ⟨some 9, (.nilCheck (.tmp (8 : Nat))), none⟩,
  ⟨some 10, (.fieldAddr 83 (.tmp (9 : Nat)) 1), none⟩,
  ⟨some 11, (.load 2 (.tmp (10 : Nat))), none⟩,
  ⟨some 12, (.build 83 #[(1, (.tmp (11 : Nat)))]), none⟩,
  ⟨some 13, (.box 83 (.tmp (12 : Nat))), none⟩,
  ⟨some 3, (.assign (.tmp (13 : Nat))), none⟩]
def s35_4 : List Slim := [⟨some 14, (.move (.tmp (0 : Nat))), none⟩,
  ⟨some 15, (.nilCheck (.tmp (14 : Nat))), none⟩,
  ⟨some 16, (.fieldAddr 83 (.tmp (15 : Nat)) 0), none⟩,
  ⟨some 17, (.load 81 (.tmp (16 : Nat))), none⟩,
  ⟨some 18, (.call { callee := (.builtin .len), args := #[(.tmp (17 : Nat))], argTypes := #[81] }), none⟩,
  ⟨some 19, (.move (.const (.int .i64 0))), none⟩]
def s35_5 : List Slim := [⟨some 20, (.binOp .lss 3 (.tmp (19 : Nat)) (.tmp (18 : Nat)) 3), none⟩]
def s35_6 : List Slim := [⟨some 21, (.indexAddr 81 (.tmp (17 : Nat)) (.tmp (19 : Nat))), none⟩,
  ⟨some 22, (.load 85 (.tmp (21 : Nat))), none⟩,
  ⟨some 5, (.alloc 85), none⟩,
  ⟨none, (.store 85 (.tmp (5 : Nat)) (.tmp (22 : Nat))), none⟩]
def s35_7 : List Slim := [⟨some 23, (.move (.tmp (3 : Nat))), none⟩,
  ⟨some 24, (.move (.tmp (3 : Nat))), none⟩,
  ⟨some 25, (.nilCheck (.tmp (24 : Nat))), none⟩,
  ⟨some 26, (.fieldAddr 83 (.tmp (25 : Nat)) 0), none⟩,
  ⟨some 27, (.load 81 (.tmp (26 : Nat))), none⟩,
  ⟨some 28, (.fieldAddr 85 (.tmp (5 : Nat)) 0), none⟩,
  ⟨some 29, (.load 2 (.tmp (28 : Nat))), none⟩,
  ⟨some 30, (.fieldAddr 85 (.tmp (5 : Nat)) 1), none⟩,
  ⟨some 31, (.load 40 (.tmp (30 : Nat))), none⟩,
  ⟨some 32, (.call { callee := (.value (.func 41)), args := #[(.tmp (31 : Nat))], argTypes := #[40] }), none⟩,
  ⟨some 33, (.build 85 #[(0, (.tmp (29 : Nat))), (1, (.tmp (32 : Nat)))]), none⟩,
  ⟨some 34, (.buildSlice 81 1 #[(0, (.tmp (33 : Nat)))]), none⟩,
  ⟨some 35, (.call { callee := (.builtin .append), args := #[(.tmp (27 : Nat)), (.tmp (34 : Nat))], argTypes := #[81, 81] }), none⟩,
  ⟨some 36, (.nilCheck (.tmp (23 : Nat))), none⟩,
  ⟨some 37, (.fieldAddr 83 (.tmp (36 : Nat)) 0), none⟩,
  ⟨none, (.store 81 (.tmp (37 : Nat)) (.tmp (35 : Nat))), none⟩]
def p35_7_1 : Plan := (Plan.take 10 (Plan.eff 11 true (Plan.eff 12 false (Plan.take 13 (Plan.take 14 (Plan.eff 15 false Plan.nil))))))
def p35_7 : Plan := (Plan.take 0 (Plan.take 1 (Plan.take 2 (Plan.take 3 (Plan.take 4 (Plan.take 5 (Plan.take 6 (Plan.take 7 (Plan.take 8 (Plan.eff 9 true p35_7_1))))))))))
def s35_8 : List Slim := [⟨some 38, (.binOp .add 3 (.tmp (19 : Nat)) (.const (.int .i64 1)) 3), none⟩,
  ⟨some 19, (.move (.tmp (38 : Nat))), none⟩]
def s35_9 : List Slim := [⟨some 39, (.move (.tmp (3 : Nat))), none⟩,
  ⟨some 2, (.assign (.tmp (39 : Nat))), none⟩]
abbrev k36 : List Nat := [0, 2, 3, 4, 5, 18]
def s36_0 : List Slim := [⟨some 2, (.assign (.const (.pointer none))), none⟩]
def s36_1 : List Slim := [⟨some 6, (.move (.tmp (0 : Nat))), none⟩,
  ⟨some 7, (.nilCheck (.tmp (6 : Nat))), none⟩,
  ⟨some 8, (.fieldAddr 93 (.tmp (7 : Nat)) 1), none⟩,
  ⟨some 9, (.load 2 (.tmp (8 : Nat))), none⟩,
  ⟨some 10, (.build 93 #[(1, (.tmp (9 : Nat)))]), none⟩,
  ⟨some 11, (.box 93 (.tmp (10 : Nat))), none⟩,
  ⟨some 3, (.assign (.tmp (11 : Nat))), none⟩]
def s36_2 : List Slim := [⟨some 4, (.assign (.const (.int .i64 0))), none⟩]
def s36_3 : List Slim := [⟨some 12, (.move (.tmp (4 : Nat))), none⟩,
  ⟨some 13, (.move (.tmp (0 : Nat))), none⟩,
  ⟨some 14, (.nilCheck (.tmp (13 : Nat))), none⟩,
  ⟨some 15, (.fieldAddr 93 (.tmp (14 : Nat)) 0), none⟩,
  ⟨some 16, (.load 91 (.tmp (15 : Nat))), none⟩,
  ⟨some 17, (.call { callee := (.builtin .len), args := #[(.tmp (16 : Nat))], argTypes := #[91] }), none⟩,
  ⟨some 18, (.binOp .lss 3 (.tmp (12 : Nat)) (.tmp (17 : Nat)) 3), none⟩]
def s36_5 : List Slim := [⟨some 5, (.assign (.const (.slice none 0 0))), none⟩]
def s36_6 : List Slim := [⟨some 21, (.move (.tmp (5 : Nat))), none⟩,
  ⟨some 22, (.move (.tmp (0 : Nat))), none⟩,
  ⟨some 23, (.nilCheck (.tmp (22 : Nat))), none⟩,
  ⟨some 24, (.fieldAddr 93 (.tmp (23 : Nat)) 0), none⟩,
  ⟨some 25, (.load 91 (.tmp (24 : Nat))), none⟩,
  ⟨some 26, (.move (.tmp (4 : Nat))), none⟩,
  ⟨some 27, (.indexAddr 91 (.tmp (25 : Nat)) (.tmp (26 : Nat))), none⟩,
  ⟨some 28, (.fieldAddr 96 (.tmp (27 : Nat)) 1), none⟩,
  ⟨some 29, (.load 40 (.tmp (28 : Nat))), none⟩,
  ⟨some 30, (.call { callee := (.builtin .append), args := #[(.tmp (21 : Nat)), (.tmp (29 : Nat))], argTypes := #[40, 40] }), none⟩,
  ⟨some 5, (.assign (.tmp (30 : Nat))), none⟩]
def s36_7 : List Slim := [⟨some 31, (.move (.tmp (3 : Nat))), none⟩,
  ⟨some 32, (.move (.tmp (3 : Nat))), none⟩,
  ⟨some 33, (.nilCheck (.tmp (32 : Nat))), none⟩,
  ⟨some 34, (.fieldAddr 93 (.tmp (33 : Nat)) 0), none⟩,
  ⟨some 35, (.load 91 (.tmp (34 : Nat))), none⟩,
  ⟨some 36, (.move (.tmp (0 : Nat))), none⟩,
  ⟨some 37, (.nilCheck (.tmp (36 : Nat))), none⟩,
  ⟨some 38, (.fieldAddr 93 (.tmp (37 : Nat)) 0), none⟩,
  ⟨some 39, (.load 91 (.tmp (38 : Nat))), none⟩,
  ⟨some 40, (.move (.tmp (4 : Nat))), none⟩,
  ⟨some 41, (.indexAddr 91 (.tmp (39 : Nat)) (.tmp (40 : Nat))), none⟩,
  ⟨some 42, (.fieldAddr 96 (.tmp (41 : Nat)) 0), none⟩,
  ⟨some 43, (.load 2 (.tmp (42 : Nat))), none⟩,
  ⟨some 44, (.move (.tmp (5 : Nat))), none⟩,
  ⟨some 45, (.build 96 #[(0, (.tmp (43 : Nat))), (1, (.tmp (44 : Nat)))]), none⟩,
  ⟨some 46, (.buildSlice 91 1 #[(0, (.tmp (45 : Nat)))]), none⟩,
  ⟨some 47, (.call { callee := (.builtin .append), args := #[(.tmp (35 : Nat)), (.tmp (46 : Nat))], argTypes := #[91, 91] }), none⟩,
  ⟨some 48, (.nilCheck (.tmp (31 : Nat))), none⟩,
  ⟨some 49, (.fieldAddr 93 (.tmp (48 : Nat)) 0), none⟩,
  ⟨none, (.store 91 (.tmp (49 : Nat)) (.tmp (47 : Nat))), none⟩]
def p36_7 : Plan := (Plan.take 0 (Plan.take 1 (Plan.take 2 (Plan.take 3 (Plan.take 4 (Plan.take 5 (Plan.take 6 (Plan.take 7 (Plan.take 8 (Plan.take 9 (Plan.take 10 (Plan.take 11 (Plan.take 12 (Plan.take 13 (Plan.take 14 (Plan.eff 15 true (Plan.eff 16 false (Plan.take 17 (Plan.take 18 (Plan.eff 19 false Plan.nil))))))))))))))))))))
def s36_4 : List Slim := [⟨some 19, (.move (.tmp (4 : Nat))), none⟩,
  ⟨some 20, (.binOp .add 3 (.tmp (19 : Nat)) (.const (.int .i64 1)) 3), none⟩,
  ⟨some 4, (.assign (.tmp (20 : Nat))), none⟩]
def s36_8 : List Slim := [⟨some 50, (.move (.tmp (3 : Nat))), none⟩,
  ⟨some 2, (.assign (.tmp (50 : Nat))), none⟩]
abbrev k37 : List Nat := [0, 1, 2, 5, 6, 7, 8, 9, 10, 11, 12, 13, 14, 15, 16, 17, 18, 20, 21, 67, 79, 90, 105, 126, 133]
def s37_0 : List Slim := [⟨some 5, (.box 62 (.tmp (2 : Nat))), none⟩,
  ⟨some 6, (.assign (.const (.bool false))), none⟩]
def s37_1 : List Slim := [⟨some 19, (.fieldAddr 62 (.tmp (5 : Nat)) 0), none⟩,
  ⟨some 20, (.load 3 (.tmp (19 : Nat))), none⟩]
def s37_2 : List Slim := [⟨some 22, (.binOp .eql 3 (.tmp (20 : Nat)) (.const (.int .i64 0)) 3), none⟩,
  ⟨some 21, (.assign (.tmp (22 : Nat))), none⟩]
def s37_3 : List Slim := [⟨some 23, (.buildSlice 40 0 #[]), none⟩,
  ⟨some 24, (.fieldAddr 62 (.tmp (5 : Nat)) 3), none⟩,
  ⟨some 25, (.load 40 (.tmp (24 : Nat))), none⟩,
  ⟨some 26, (.call { callee := (.builtin .append), args := #[(.tmp (23 : Nat)), (.tmp (25 : Nat))], argTypes := #[40, 40] }), none⟩,
  ⟨some 27, (.buildSlice 40 1 #[(0, (.const (.int .u8 165)))]), none⟩,
  ⟨some 28, (.call { callee := (.builtin .append), args := #[(.tmp (26 : Nat)), (.tmp (27 : Nat))], argTypes := #[40, 40] }), none⟩,
  ⟨some 29, (.fieldAddr 62 (.tmp (5 : Nat)) 3), none⟩,
  ⟨some 30, (.load 40 (.tmp (29 : Nat))), none⟩,
  ⟨some 31, (.call { callee := (.builtin .len), args := #[(.tmp (30 : Nat))], argTypes := #[40] }), none⟩,
  ⟨some 32, (.slice 40 (.tmp (28 : Nat)) none (some (.tmp (31 : Nat))) none), none⟩,
  ⟨some 7, (.assign (.tmp (32 : Nat))), none⟩]
def p37_3_j1 : Plan := (Plan.eff 5 true (Plan.take 9 (Plan.take 10 Plan.nil)))
def p37_3_j2 : Plan := (Plan.eff 3 true p37_3_j1)
def p37_3 : Plan := (Plan.take 1 (Plan.take 2 (Plan.take 6 (Plan.take 7 (Plan.take 8 (Plan.both (Plan.eff 0 true (Plan.both (Plan.eff 3 true (Plan.eff 4 true p37_3_j1)) (Plan.eff 4 true p37_3_j2))) (Plan.eff 4 true (Plan.eff 0 true p37_3_j2))))))))
def qt37_3 : List Nat := [1, 2, 6, 7, 8, 9, 10]
def fl37_3 : List Nat := [0, 3, 4, 5]
def h37_3_0 : PlanH := (.eff 5 true (.take 9 (.take 10 .nil)))
def h37_3_1 : PlanH := (.eff 3 true (.hole 0))
def h37_3_2 : PlanH := (.take 1 (.take 2 (.take 6 (.take 7 (.take 8 (.both (.eff 0 true (.both (.eff 3 true (.eff 4 true (.hole 0))) (.eff 4 true (.hole 1)))) (.eff 4 true (.eff 0 true (.hole 1)))))))))
def nd37_3 : List Node := [([true, true, true, true, true, false, true, true, true, false, false], h37_3_0, p37_3_j1), ([true, true, true, false, true, false, true, true, true, false, false], h37_3_1, p37_3_j2), ([false, false, false, false, false, false, false, false, false, false, false], h37_3_2, p37_3)]
theorem gs37_3_0 : getS s37_3 0 = some ⟨some 23, (.buildSlice 40 0 #[]), none⟩ := (rfl)
theorem gs37_3_1 : getS s37_3 1 = some ⟨some 24, (.fieldAddr 62 (.tmp (5 : Nat)) 3), none⟩ := (rfl)
theorem gs37_3_2 : getS s37_3 2 = some ⟨some 25, (.load 40 (.tmp (24 : Nat))), none⟩ := (rfl)
theorem gs37_3_3 : getS s37_3 3 = some ⟨some 26, (.call { callee := (.builtin .append), args := #[(.tmp (23 : Nat)), (.tmp (25 : Nat))], argTypes := #[40, 40] }), none⟩ := (rfl)
theorem gs37_3_4 : getS s37_3 4 = some ⟨some 27, (.buildSlice 40 1 #[(0, (.const (.int .u8 165)))]), none⟩ := (rfl)
theorem gs37_3_5 : getS s37_3 5 = some ⟨some 28, (.call { callee := (.builtin .append), args := #[(.tmp (26 : Nat)), (.tmp (27 : Nat))], argTypes := #[40, 40] }), none⟩ := (rfl)
theorem gs37_3_6 : getS s37_3 6 = some ⟨some 29, (.fieldAddr 62 (.tmp (5 : Nat)) 3), none⟩ := (rfl)
theorem gs37_3_7 : getS s37_3 7 = some ⟨some 30, (.load 40 (.tmp (29 : Nat))), none⟩ := (rfl)
theorem gs37_3_8 : getS s37_3 8 = some ⟨some 31, (.call { callee := (.builtin .len), args := #[(.tmp (30 : Nat))], argTypes := #[40] }), none⟩ := (rfl)
theorem gs37_3_9 : getS s37_3 9 = some ⟨some 32, (.slice 40 (.tmp (28 : Nat)) none (some (.tmp (31 : Nat))) none), none⟩ := (rfl)
theorem gs37_3_10 : getS s37_3 10 = some ⟨some 7, (.assign (.tmp (32 : Nat))), none⟩ := (rfl)
abbrev ndlast37_3 : Nat := 2
abbrev hlast37_3 : PlanH := h37_3_2
def s37_4 : List Slim := [⟨some 33, (.move (.tmp (1 : Nat))), none⟩,
  ⟨some 34, (.fieldAddr 62 (.tmp (5 : Nat)) 1), none⟩,
  ⟨some 35, (.load 2 (.tmp (34 : Nat))), none⟩,
  ⟨some 36, (.buildSlice 40 0 #[]), none⟩,
  ⟨some 37, (.fieldAddr 62 (.tmp (5 : Nat)) 3), none⟩,
  ⟨some 38, (.load 40 (.tmp (37 : Nat))), none⟩,
  ⟨some 39, (.call { callee := (.builtin .append), args := #[(.tmp (36 : Nat)), (.tmp (38 : Nat))], argTypes := #[40, 40] }), none⟩,
  ⟨some 40, (.call { callee := (.value (.func 48)), args := #[(.tmp (33 : Nat)), (.tmp (35 : Nat)), (.tmp (39 : Nat))], argTypes := #[64, 2, 40] }), none⟩,
  ⟨some 8, (.assign (.tmp (40 : Nat))), none⟩]
def p37_4 : Plan := (Plan.take 0 (Plan.take 1 (Plan.take 2 (Plan.take 4 (Plan.take 5 (Plan.eff 3 true (Plan.eff 6 true (Plan.eff 7 false (Plan.take 8 Plan.nil)))))))))
def s37_5 : List Slim := [⟨some 41, (.move (.tmp (0 : Nat))), none⟩,
  ⟨some 42, (.fieldAddr 62 (.tmp (5 : Nat)) 1), none⟩,
  ⟨some 43, (.load 2 (.tmp (42 : Nat))), none⟩,
  ⟨some 44, (.move (.tmp (7 : Nat))), none⟩,
  ⟨some 45, (.call { callee := (.value (.func 26)), args := #[(.tmp (41 : Nat)), (.tmp (43 : Nat)), (.tmp (44 : Nat))], argTypes := #[49, 2, 40] }), none⟩,
  ⟨some 9, (.assign (.tmp (45 : Nat))), none⟩]
def s37_6 : List Slim := [⟨some 46, (.move (.tmp (7 : Nat))), none⟩,
  ⟨some 47, (.fieldAddr 62 (.tmp (5 : Nat)) 3), none⟩,
  ⟨some 48, (.load 40 (.tmp (47 : Nat))), none⟩,
  ⟨some 49, (.call { callee := (.value (.func 49)), args := #[(.tmp (46 : Nat)), (.tmp (48 : Nat))], argTypes := #[40, 40] }), none⟩,
  ⟨some 50, (.move (.tmp (49 : Nat))), none⟩,
  ⟨some 51, (.move (.tmp (7 : Nat))), some (50, true)⟩,
  ⟨some 52, (.fieldAddr 62 (.tmp (5 : Nat)) 3), some (50, true)⟩,
  ⟨some 53, (.load 40 (.tmp (52 : Nat))), some (50, true)⟩,
  ⟨some 54, (.call { callee := (.builtin .len), args := #[(.tmp (53 : Nat))], argTypes := #[40] }), some (50, true)⟩,
  ⟨some 55, (.binOp .add 3 (.tmp (54 : Nat)) (.const (.int .i64 1)) 3), some (50, true)⟩,
  ⟨some 56, (.slice 40 (.tmp (51 : Nat)) none (some (.tmp (55 : Nat))) none), some (50, true)⟩,
  ⟨some 57, (.fieldAddr 62 (.tmp (5 : Nat)) 3), some (50, true)⟩,
  ⟨some 58, (.load 40 (.tmp (57 : Nat))), some (50, true)⟩,
  ⟨some 59, (.call { callee := (.builtin .len), args := #[(.tmp (58 : Nat))], argTypes := #[40] }), some (50, true)⟩,
  ⟨some 60, (.indexAddr 40 (.tmp (56 : Nat)) (.tmp (59 : Nat))), some (50, true)⟩,
  ⟨some 61, (.load 5 (.tmp (60 : Nat))), some (50, true)⟩,
  ⟨some 62, (.binOp .eql 5 (.tmp (61 : Nat)) (.const (.int .u8 165)) 5), some (50, true)⟩,
  ⟨some 63, (.pick (.tmp (50 : Nat)) (.tmp (62 : Nat)) (.const (.bool false))), none⟩,
  ⟨some 10, (.assign (.tmp (63 : Nat))), none⟩]
def p37_6_j1 : Plan := (Plan.take 14 (Plan.eff 15 false (Plan.take 16 (Plan.take 17 (Plan.take 18 Plan.nil)))))
def p37_6_1 : Plan := (Plan.take 4 (Plan.take 5 (Plan.take 6 (Plan.take 11 (Plan.both (Plan.eff 7 false (Plan.take 8 (Plan.take 9 (Plan.take 10 (Plan.eff 12 false (Plan.take 13 p37_6_j1)))))) (Plan.eff 12 false (Plan.take 13 (Plan.eff 7 false (Plan.take 8 (Plan.take 9 (Plan.take 10 p37_6_j1)))))))))))
def p37_6 : Plan := (Plan.take 0 (Plan.take 1 (Plan.take 2 (Plan.eff 3 false p37_6_1))))
def qt37_6 : List Nat := [0, 1, 2, 4, 5, 6, 8, 9, 10, 11, 13, 14, 16, 17, 18]
def fl37_6 : List Nat := []
def h37_6_0 : PlanH := (.take 14 (.eff 15 false (.take 16 (.take 17 (.take 18 .nil)))))
def h37_6_1 : PlanH := (.take 0 (.take 1 (.take 2 (.eff 3 false (.take 4 (.take 5 (.take 6 (.take 11 (.both (.eff 7 false (.take 8 (.take 9 (.take 10 (.eff 12 false (.take 13 (.hole 0))))))) (.eff 12 false (.take 13 (.eff 7 false (.take 8 (.take 9 (.take 10 (.hole 0))))))))))))))))
def nd37_6 : List Node := [([true, true, true, true, true, true, true, true, true, true, true, true, true, true, false, false, false, false, false], h37_6_0, p37_6_j1), ([false, false, false, false, false, false, false, false, false, false, false, false, false, false, false, false, false, false, false], h37_6_1, p37_6)]
theorem gs37_6_0 : getS s37_6 0 = some ⟨some 46, (.move (.tmp (7 : Nat))), none⟩ := (rfl)
theorem gs37_6_1 : getS s37_6 1 = some ⟨some 47, (.fieldAddr 62 (.tmp (5 : Nat)) 3), none⟩ := (rfl)
theorem gs37_6_2 : getS s37_6 2 = some ⟨some 48, (.load 40 (.tmp (47 : Nat))), none⟩ := (rfl)
theorem gs37_6_3 : getS s37_6 3 = some ⟨some 49, (.call { callee := (.value (.func 49)), args := #[(.tmp (46 : Nat)), (.tmp (48 : Nat))], argTypes := #[40, 40] }), none⟩ := (rfl)
theorem gs37_6_4 : getS s37_6 4 = some ⟨some 50, (.move (.tmp (49 : Nat))), none⟩ := (rfl)
theorem gs37_6_5 : getS s37_6 5 = some ⟨some 51, (.move (.tmp (7 : Nat))), some (50, true)⟩ := (rfl)
theorem gs37_6_6 : getS s37_6 6 = some ⟨some 52, (.fieldAddr 62 (.tmp (5 : Nat)) 3), some (50, true)⟩ := (rfl)
theorem gs37_6_7 : getS s37_6 7 = some ⟨some 53, (.load 40 (.tmp (52 : Nat))), some (50, true)⟩ := (rfl)
theorem gs37_6_8 : getS s37_6 8 = some ⟨some 54, (.call { callee := (.builtin .len), args := #[(.tmp (53 : Nat))], argTypes := #[40] }), some (50, true)⟩ := (rfl)
theorem gs37_6_9 : getS s37_6 9 = some ⟨some 55, (.binOp .add 3 (.tmp (54 : Nat)) (.const (.int .i64 1)) 3), some (50, true)⟩ := (rfl)
theorem gs37_6_10 : getS s37_6 10 = some ⟨some 56, (.slice 40 (.tmp (51 : Nat)) none (some (.tmp (55 : Nat))) none), some (50, true)⟩ := (rfl)
theorem gs37_6_11 : getS s37_6 11 = some ⟨some 57, (.fieldAddr 62 (.tmp (5 : Nat)) 3), some (50, true)⟩ := (rfl)
theorem gs37_6_12 : getS s37_6 12 = some ⟨some 58, (.load 40 (.tmp (57 : Nat))), some (50, true)⟩ := (rfl)
theorem gs37_6_13 : getS s37_6 13 = some ⟨some 59, (.call { callee := (.builtin .len), args := #[(.tmp (58 : Nat))], argTypes := #[40] }), some (50, true)⟩ := (rfl)
theorem gs37_6_14 : getS s37_6 14 = some ⟨some 60, (.indexAddr 40 (.tmp (56 : Nat)) (.tmp (59 : Nat))), some (50, true)⟩ := (rfl)
theorem gs37_6_15 : getS s37_6 15 = some ⟨some 61, (.load 5 (.tmp (60 : Nat))), some (50, true)⟩ := (rfl)
theorem gs37_6_16 : getS s37_6 16 = some ⟨some 62, (.binOp .eql 5 (.tmp (61 : Nat)) (.const (.int .u8 165)) 5), some (50, true)⟩ := (rfl)
theorem gs37_6_17 : getS s37_6 17 = some ⟨some 63, (.pick (.tmp (50 : Nat)) (.tmp (62 : Nat)) (.const (.bool false))), none⟩ := (rfl)
theorem gs37_6_18 : getS s37_6 18 = some ⟨some 10, (.assign (.tmp (63 : Nat))), none⟩ := (rfl)
abbrev ndlast37_6 : Nat := 1
abbrev hlast37_6 : PlanH := h37_6_1
def s37_7 : List Slim := [⟨some 11, (.assign (.const (.int .i64 0))), none⟩]
def s37_8 : List Slim := [⟨some 64, (.move (.tmp (11 : Nat))), none⟩,
  ⟨some 65, (.move (.tmp (7 : Nat))), none⟩,
  ⟨some 66, (.call { callee := (.builtin .len), args := #[(.tmp (65 : Nat))], argTypes := #[40] }), none⟩,
  ⟨some 67, (.binOp .lss 3 (.tmp (64 : Nat)) (.tmp (66 : Nat)) 3), none⟩]
def s37_10 : List Slim := [⟨some 70, (.move (.tmp (7 : Nat))), none⟩,
  ⟨some 71, (.move (.tmp (11 : Nat))), none⟩,
  ⟨some 72, (.indexAddr 40 (.tmp (70 : Nat)) (.tmp (71 : Nat))), none⟩,
  ⟨none, (.store 5 (.tmp (72 : Nat)) (.const (.int .u8 122))), none⟩]
def s37_9 : List Slim := [⟨some 68, (.move (.tmp (11 : Nat))), none⟩,
  ⟨some 69, (.binOp .add 3 (.tmp (68 : Nat)) (.const (.int .i64 1)) 3), none⟩,
  ⟨some 11, (.assign (.tmp (69 : Nat))), none⟩]
def s37_11 : List Slim := [⟨some 73, (.move (.tmp (9 : Nat))), none⟩,
  ⟨some 74, (.move (.tmp (8 : Nat))), none⟩,
  ⟨some 75, (.binOp .eql 37 (.tmp (73 : Nat)) (.tmp (74 : Nat)) 37), none⟩,
  ⟨some 76, (.move (.tmp (75 : Nat))), none⟩,
  ⟨some 77, (.move (.tmp (10 : Nat))), some (76, true)⟩,
  ⟨some 78, (.pick (.tmp (76 : Nat)) (.tmp (77 : Nat)) (.const (.bool false))), none⟩,
  ⟨some 6, (.assign (.tmp (78 : Nat))), none⟩]
def s37_12 : List Slim := [⟨some 80, (.binOp .eql 3 (.tmp (20 : Nat)) (.const (.int .i64 1)) 3), none⟩,
  ⟨some 79, (.assign (.tmp (80 : Nat))), none⟩]
def s37_13 : List Slim := [⟨some 81, (.move (.tmp (0 : Nat))), none⟩,
  ⟨some 82, (.fieldAddr 62 (.tmp (5 : Nat)) 1), none⟩,
  ⟨some 83, (.load 2 (.tmp (82 : Nat))), none⟩,
  ⟨some 84, (.call { callee := (.value (.func 29)), args := #[(.tmp (81 : Nat)), (.tmp (83 : Nat))], argTypes := #[49, 2] }), none⟩,
  ⟨some 85, (.move (.tmp (1 : Nat))), none⟩,
  ⟨some 86, (.fieldAddr 62 (.tmp (5 : Nat)) 1), none⟩,
  ⟨some 87, (.load 2 (.tmp (86 : Nat))), none⟩,
  ⟨some 88, (.call { callee := (.value (.func 50)), args := #[(.tmp (85 : Nat)), (.tmp (87 : Nat))], argTypes := #[64, 2] }), none⟩,
  ⟨some 89, (.binOp .eql 37 (.tmp (84 : Nat)) (.tmp (88 : Nat)) 37), none⟩,
  ⟨some 6, (.assign (.tmp (89 : Nat))), none⟩]
def p37_13_1 : Plan := (Plan.take 8 (Plan.take 9 Plan.nil))
def p37_13_2 : Plan := (Plan.eff 7 false p37_13_1)
def p37_13 : Plan := (Plan.take 0 (Plan.take 1 (Plan.take 2 (Plan.take 4 (Plan.take 5 (Plan.take 6 (Plan.eff 3 true p37_13_2)))))))
def s37_14 : List Slim := [⟨some 91, (.binOp .eql 3 (.tmp (20 : Nat)) (.const (.int .i64 2)) 3), none⟩,
  ⟨some 90, (.assign (.tmp (91 : Nat))), none⟩]
def s37_15 : List Slim := [⟨some 92, (.move (.tmp (0 : Nat))), none⟩,
  ⟨some 93, (.fieldAddr 62 (.tmp (5 : Nat)) 1), none⟩,
  ⟨some 94, (.load 2 (.tmp (93 : Nat))), none⟩,
  ⟨some 95, (.fieldAddr 62 (.tmp (5 : Nat)) 2), none⟩,
  ⟨some 96, (.load 2 (.tmp (95 : Nat))), none⟩,
  ⟨some 97, (.call { callee := (.value (.func 27)), args := #[(.tmp (92 : Nat)), (.tmp (94 : Nat)), (.tmp (96 : Nat))], argTypes := #[49, 2, 2] }), none⟩,
  ⟨some 98, (.move (.tmp (1 : Nat))), none⟩,
  ⟨some 99, (.fieldAddr 62 (.tmp (5 : Nat)) 1), none⟩,
  ⟨some 100, (.load 2 (.tmp (99 : Nat))), none⟩,
  ⟨some 101, (.fieldAddr 62 (.tmp (5 : Nat)) 2), none⟩,
  ⟨some 102, (.load 2 (.tmp (101 : Nat))), none⟩,
  ⟨some 103, (.call { callee := (.value (.func 51)), args := #[(.tmp (98 : Nat)), (.tmp (100 : Nat)), (.tmp (102 : Nat))], argTypes := #[64, 2, 2] }), none⟩,
  ⟨some 104, (.binOp .eql 37 (.tmp (97 : Nat)) (.tmp (103 : Nat)) 37), none⟩,
  ⟨some 6, (.assign (.tmp (104 : Nat))), none⟩]
def p37_15_1 : Plan := (Plan.take 12 (Plan.take 13 Plan.nil))
def p37_15_2 : Plan := (Plan.eff 11 false p37_15_1)
def p37_15 : Plan := (Plan.take 0 (Plan.take 1 (Plan.take 2 (Plan.take 3 (Plan.take 4 (Plan.take 6 (Plan.take 7 (Plan.take 8 (Plan.take 9 (Plan.take 10 (Plan.eff 5 true p37_15_2)))))))))))
def s37_16 : List Slim := [⟨some 106, (.binOp .eql 3 (.tmp (20 : Nat)) (.const (.int .i64 3)) 3), none⟩,
  ⟨some 105, (.assign (.tmp (106 : Nat))), none⟩]
def s37_17 : List Slim := [⟨some 107, (.move (.tmp (0 : Nat))), none⟩,
  ⟨some 108, (.fieldAddr 62 (.tmp (5 : Nat)) 1), none⟩,
  ⟨some 109, (.load 2 (.tmp (108 : Nat))), none⟩,
  ⟨some 110, (.fieldAddr 62 (.tmp (5 : Nat)) 2), none⟩,
  ⟨some 111, (.load 2 (.tmp (110 : Nat))), none⟩,
  ⟨some 112, (.call { callee := (.value (.func 52)), args := #[(.tmp (111 : Nat))], argTypes := #[2] }), none⟩,
  ⟨some 113, (.call { callee := (.value (.func 28)), args := #[(.tmp (107 : Nat)), (.tmp (109 : Nat)), (.tmp (112 : Nat))], argTypes := #[49, 2, 3] }), none⟩,
  ⟨some 12, (.assign (.tmp (113 : Nat))), none⟩]
def p37_17_1 : Plan := (Plan.eff 6 false (Plan.take 7 Plan.nil))
def p37_17 : Plan := (Plan.take 0 (Plan.take 1 (Plan.take 2 (Plan.take 3 (Plan.take 4 (Plan.eff 5 true p37_17_1))))))
def s37_18 : List Slim := [⟨some 114, (.move (.tmp (12 : Nat))), none⟩,
  ⟨some 115, (.move (.tmp (1 : Nat))), none⟩,
  ⟨some 116, (.fieldAddr 62 (.tmp (5 : Nat)) 1), none⟩,
  ⟨some 117, (.load 2 (.tmp (116 : Nat))), none⟩,
  ⟨some 118, (.fieldAddr 62 (.tmp (5 : Nat)) 2), none⟩,
  ⟨some 119, (.load 2 (.tmp (118 : Nat))), none⟩,
  ⟨some 120, (.call { callee := (.value (.func 52)), args := #[(.tmp (119 : Nat))], argTypes := #[2] }), none⟩,
  ⟨some 121, (.call { callee := (.value (.func 53)), args := #[(.tmp (115 : Nat)), (.tmp (117 : Nat)), (.tmp (120 : Nat))], argTypes := #[64, 2, 3] }), none⟩,
  ⟨some 122, (.call { callee := (.value (.func 49)), args := #[(.tmp (114 : Nat)), (.tmp (121 : Nat))], argTypes := #[40, 40] }), none⟩,
  ⟨some 13, (.assign (.tmp (122 : Nat))), none⟩]
def p37_18_1 : Plan := (Plan.eff 8 false (Plan.take 9 Plan.nil))
def p37_18_2 : Plan := (Plan.eff 7 false p37_18_1)
def p37_18 : Plan := (Plan.take 0 (Plan.take 1 (Plan.take 2 (Plan.take 3 (Plan.take 4 (Plan.take 5 (Plan.eff 6 true p37_18_2)))))))
def s37_19 : List Slim := [⟨some 14, (.assign (.const (.int .i64 0))), none⟩]
def s37_20 : List Slim := [⟨some 123, (.move (.tmp (14 : Nat))), none⟩,
  ⟨some 124, (.move (.tmp (12 : Nat))), none⟩,
  ⟨some 125, (.call { callee := (.builtin .len), args := #[(.tmp (124 : Nat))], argTypes := #[40] }), none⟩,
  ⟨some 126, (.binOp .lss 3 (.tmp (123 : Nat)) (.tmp (125 : Nat)) 3), none⟩]
def s37_22 : List Slim := [⟨some 129, (.move (.tmp (12 : Nat))), none⟩,
  ⟨some 130, (.move (.tmp (14 : Nat))), none⟩,
  ⟨some 131, (.indexAddr 40 (.tmp (129 : Nat)) (.tmp (130 : Nat))), none⟩,
  ⟨none, (.store 5 (.tmp (131 : Nat)) (.const (.int .u8 123))), none⟩]
def s37_21 : List Slim := [⟨some 127, (.move (.tmp (14 : Nat))), none⟩,
  ⟨some 128, (.binOp .add 3 (.tmp (127 : Nat)) (.const (.int .i64 1)) 3), none⟩,
  ⟨some 14, (.assign (.tmp (128 : Nat))), none⟩]
def s37_23 : List Slim := [⟨some 132, (.move (.tmp (13 : Nat))), none⟩,
  ⟨some 6, (.assign (.tmp (132 : Nat))), none⟩]
def s37_24 : List Slim := [⟨some 134, (.binOp .eql 3 (.tmp (20 : Nat)) (.const (.int .i64 4)) 3), none⟩,
  ⟨some 133, (.assign (.tmp (134 : Nat))), none⟩]
def s37_25 : List Slim := [⟨some 136, (.move (.tmp (0 : Nat))), none⟩,
  ⟨some 137, (.fieldAddr 62 (.tmp (5 : Nat)) 1), none⟩,
  ⟨some 138, (.load 2 (.tmp (137 : Nat))), none⟩,
  ⟨some 139, (.call { callee := (.value (.func 33)), args := #[(.tmp (136 : Nat)), (.tmp (138 : Nat))], argTypes := #[49, 2] }), none⟩,
  ⟨some 135, (.move (.tmp (139 : Nat))), none⟩,
  ⟨some 140, (.extract (.tmp (135 : Nat)) 0), none⟩,
  ⟨some 141, (.extract (.tmp (135 : Nat)) 1), none⟩,
  ⟨some 15, (.assign (.tmp (140 : Nat))), none⟩,
  ⟨some 16, (.assign (.tmp (141 : Nat))), none⟩]
def s37_26 : List Slim := [⟨some 143, (.move (.tmp (1 : Nat))), none⟩,
  ⟨some 144, (.fieldAddr 62 (.tmp (5 : Nat)) 1), none⟩,
  ⟨some 145, (.load 2 (.tmp (144 : Nat))), none⟩,
  ⟨some 146, (.call { callee := (.value (.func 54)), args := #[(.tmp (143 : Nat)), (.tmp (145 : Nat))], argTypes := #[64, 2] }), none⟩,
  ⟨some 142, (.move (.tmp (146 : Nat))), none⟩,
  ⟨some 147, (.extract (.tmp (142 : Nat)) 0), none⟩,
  ⟨some 148, (.extract (.tmp (142 : Nat)) 1), none⟩,
  ⟨some 17, (.assign (.tmp (147 : Nat))), none⟩,
  ⟨some 18, (.assign (.tmp (148 : Nat))), none⟩]
def s37_27 : List Slim := [⟨some 149, (.move (.tmp (15 : Nat))), none⟩,
  ⟨some 150, (.move (.tmp (17 : Nat))), none⟩,
  ⟨some 151, (.binOp .eql 2 (.tmp (149 : Nat)) (.tmp (150 : Nat)) 2), none⟩,
  ⟨some 152, (.move (.tmp (151 : Nat))), none⟩,
  ⟨some 153, (.move (.tmp (16 : Nat))), some (152, true)⟩,
  ⟨some 154, (.move (.tmp (18 : Nat))), some (152, true)⟩,
  ⟨some 155, (.binOp .eql 2 (.tmp (153 : Nat)) (.tmp (154 : Nat)) 2), some (152, true)⟩,
  ⟨some 156, (.pick (.tmp (152 : Nat)) (.tmp (155 : Nat)) (.const (.bool false))), none⟩,
  ⟨some 6, (.assign (.tmp (156 : Nat))), none⟩]
def s37_28 : List Slim := [⟨some 6, (.assign (.const (.bool true))), none⟩]
abbrev k38 : List Nat := [0, 1, 4, 5, 6, 7, 8, 9, 10, 11, 12, 26, 33, 55, 59, 75]
def s38_0 : List Slim := [⟨some 4, (.assign (.const (.bool false))), none⟩]
def s38_1 : List Slim := [⟨some 13, (.move (.tmp (0 : Nat))), none⟩,
  ⟨some 14, (.call { callee := (.value (.func 24)), args := #[(.tmp (13 : Nat))], argTypes := #[49] }), none⟩,
  ⟨some 15, (.move (.tmp (1 : Nat))), none⟩,
  ⟨some 16, (.nilCheck (.tmp (15 : Nat))), none⟩,
  ⟨some 17, (.fieldAddr 93 (.tmp (16 : Nat)) 1), none⟩,
  ⟨some 18, (.load 2 (.tmp (17 : Nat))), none⟩,
  ⟨some 19, (.binOp .neq 2 (.tmp (14 : Nat)) (.tmp (18 : Nat)) 2), none⟩,
  ⟨some 20, (.move (.tmp (19 : Nat))), none⟩,
  ⟨some 21, (.move (.tmp (0 : Nat))), some (20, false)⟩,
  ⟨some 22, (.call { callee := (.value (.func 25)), args := #[(.tmp (21 : Nat))], argTypes := #[49] }), some (20, false)⟩,
  ⟨some 23, (.move (.tmp (1 : Nat))), some (20, false)⟩,
  ⟨some 24, (.call { callee := (.value (.func 55)), args := #[(.tmp (23 : Nat))], argTypes := #[64] }), some (20, false)⟩,
  ⟨some 25, (.binOp .neq 2 (.tmp (22 : Nat)) (.tmp (24 : Nat)) 2), some (20, false)⟩,
  ⟨some 26, (.pick (.tmp (20 : Nat)) (.const (.bool true)) (.tmp (25 : Nat))), none⟩]
def p38_1_1 : Plan := (Plan.take 12 (Plan.take 13 Plan.nil))
def p38_1_2 : Plan := (Plan.eff 11 false p38_1_1)
def p38_1_3 : Plan := (Plan.take 6 (Plan.take 7 (Plan.take 8 (Plan.take 10 (Plan.eff 9 false p38_1_2)))))
def p38_1 : Plan := (Plan.take 0 (Plan.take 2 (Plan.take 3 (Plan.take 4 (Plan.take 5 (Plan.eff 1 true p38_1_3))))))
def s38_2 : List Slim := [⟨some 4, (.assign (.const (.bool false))), none⟩]
def s38_3 : List Slim := [⟨some 5, (.assign (.const (.int .i64 0))), none⟩]
def s38_4 : List Slim := [⟨some 6, (.assign (.const (.int .i64 0))), none⟩]
def s38_5 : List Slim := [⟨some 27, (.move (.tmp (6 : Nat))), none⟩,
  ⟨some 28, (.move (.tmp (1 : Nat))), none⟩,
  ⟨some 29, (.nilCheck (.tmp (28 : Nat))), none⟩,
  ⟨some 30, (.fieldAddr 93 (.tmp (29 : Nat)) 0), none⟩,
  ⟨some 31, (.load 91 (.tmp (30 : Nat))), none⟩,
  ⟨some 32, (.call { callee := (.builtin .len), args := #[(.tmp (31 : Nat))], argTypes := #[91] }), none⟩,
  ⟨some 33, (.binOp .leq 3 (.tmp (27 : Nat)) (.tmp (32 : Nat)) 3), none⟩]
def s38_7 : List Slim := [⟨some 37, (.move (.tmp (0 : Nat))), none⟩,
  ⟨some 38, (.move (.tmp (5 : Nat))), none⟩,
  ⟨some 39, (.call { callee := (.value (.func 33)), args := #[(.tmp (37 : Nat)), (.tmp (38 : Nat))], argTypes := #[49, 2] }), none⟩,
  ⟨some 36, (.move (.tmp (39 : Nat))), none⟩,
  ⟨some 40, (.extract (.tmp (36 : Nat)) 0), none⟩,
  ⟨some 41, (.extract (.tmp (36 : Nat)) 1), none⟩,
  ⟨some 7, (.assign (.tmp (40 : Nat))), none⟩,
  ⟨some 8, (.assign (.tmp (41 : Nat))), none⟩]
def s38_8 : List Slim := [⟨some 43, (.move (.tmp (1 : Nat))), none⟩,
  ⟨some 44, (.move (.tmp (5 : Nat))), none⟩,
  ⟨some 45, (.call { callee := (.value (.func 54)), args := #[(.tmp (43 : Nat)), (.tmp (44 : Nat))], argTypes := #[64, 2] }), none⟩,
  ⟨some 42, (.move (.tmp (45 : Nat))), none⟩,
  ⟨some 46, (.extract (.tmp (42 : Nat)) 0), none⟩,
  ⟨some 47, (.extract (.tmp (42 : Nat)) 1), none⟩,
  ⟨some 9, (.assign (.tmp (46 : Nat))), none⟩,
  ⟨some 10, (.assign (.tmp (47 : Nat))), none⟩]
def s38_9 : List Slim := [⟨some 48, (.move (.tmp (7 : Nat))), none⟩,
  ⟨some 49, (.move (.tmp (9 : Nat))), none⟩,
  ⟨some 50, (.binOp .neq 2 (.tmp (48 : Nat)) (.tmp (49 : Nat)) 2), none⟩,
  ⟨some 51, (.move (.tmp (50 : Nat))), none⟩,
  ⟨some 52, (.move (.tmp (8 : Nat))), some (51, false)⟩,
  ⟨some 53, (.move (.tmp (10 : Nat))), some (51, false)⟩,
  ⟨some 54, (.binOp .neq 2 (.tmp (52 : Nat)) (.tmp (53 : Nat)) 2), some (51, false)⟩,
  ⟨some 55, (.pick (.tmp (51 : Nat)) (.const (.bool true)) (.tmp (54 : Nat))), none⟩]
def s38_10 : List Slim := [⟨some 4, (.assign (.const (.bool false))), none⟩]
def s38_11 : List Slim := [⟨some 56, (.move (.tmp (7 : Nat))), none⟩,
  ⟨some 11, (.assign (.tmp (56 : Nat))), none⟩]
def s38_12 : List Slim := [⟨some 57, (.move (.tmp (11 : Nat))), none⟩,
  ⟨some 58, (.move (.tmp (8 : Nat))), none⟩,
  ⟨some 59, (.binOp .lss 2 (.tmp (57 : Nat)) (.tmp (58 : Nat)) 2), none⟩]
def s38_14 : List Slim := [⟨some 62, (.move (.tmp (8 : Nat))), none⟩,
  ⟨some 63, (.move (.tmp (11 : Nat))), none⟩,
  ⟨some 64, (.binOp .sub 2 (.tmp (62 : Nat)) (.tmp (63 : Nat)) 2), none⟩,
  ⟨some 65, (.call { callee := (.builtin .min), args := #[(.const (.int .i64 65536)), (.tmp (64 : Nat))], argTypes := #[2, 2] }), none⟩,
  ⟨some 12, (.assign (.tmp (65 : Nat))), none⟩]
def s38_15_3 : List Slim := [⟨some 75, (.unOp .not 4 (.tmp (74 : Nat))), none⟩]
def s38_15_2 : List Slim := (⟨some 74, (.call { callee := (.value (.func 49)), args := #[(.tmp (69 : Nat)), (.tmp (73 : Nat))], argTypes := #[40, 40] }), none⟩ : Slim) ::
  s38_15_3
def s38_15_1 : List Slim := (⟨some 70, (.move (.tmp (1 : Nat))), none⟩ : Slim) ::
  (⟨some 71, (.move (.tmp (11 : Nat))), none⟩ : Slim) ::
  (⟨some 72, (.move (.tmp (12 : Nat))), none⟩ : Slim) ::
  (⟨some 73, (.call { callee := (.value (.func 53)), args := #[(.tmp (70 : Nat)), (.tmp (71 : Nat)), (.tmp (72 : Nat))], argTypes := #[64, 2, 3] }), none⟩ : Slim) ::
  s38_15_2
def s38_15 : List Slim := (⟨some 66, (.move (.tmp (0 : Nat))), none⟩ : Slim) ::
  (⟨some 67, (.move (.tmp (11 : Nat))), none⟩ : Slim) ::
  (⟨some 68, (.move (.tmp (12 : Nat))), none⟩ : Slim) ::
  (⟨some 69, (.call { callee := (.value (.func 28)), args := #[(.tmp (66 : Nat)), (.tmp (67 : Nat)), (.tmp (68 : Nat))], argTypes := #[49, 2, 3] }), none⟩ : Slim) ::
  s38_15_1
def s38_16 : List Slim := [⟨some 4, (.assign (.const (.bool false))), none⟩]
def s38_13 : List Slim := [⟨some 60, (.move (.tmp (11 : Nat))), none⟩,
  ⟨some 61, (.binOp .add 2 (.tmp (60 : Nat)) (.const (.int .i64 65536)) 2), none⟩,
  ⟨some 11, (.assign (.tmp (61 : Nat))), none⟩]
def s38_17 : List Slim := [⟨some 76, (.move (.tmp (8 : Nat))), none⟩,
  ⟨some 5, (.assign (.tmp (76 : Nat))), none⟩]
def s38_6 : List Slim := [⟨some 34, (.move (.tmp (6 : Nat))), none⟩,
  ⟨some 35, (.binOp .add 3 (.tmp (34 : Nat)) (.const (.int .i64 1)) 3), none⟩,
  ⟨some 6, (.assign (.tmp (35 : Nat))), none⟩]
def s38_18 : List Slim := [⟨some 4, (.assign (.const (.bool true))), none⟩]
abbrev k39 : List Nat := [0, 1, 4, 5, 6, 7, 10]
def s39_0 : List Slim := [⟨some 4, (.assign (.const (.pointer none))), none⟩,
  ⟨some 5, (.assign (.const (.int .i64 0))), none⟩]
def s39_1 : List Slim := [⟨some 8, (.move (.tmp (0 : Nat))), none⟩,
  ⟨some 9, (.binOp .eql 49 (.tmp (8 : Nat)) (.const (.pointer none)) 49), none⟩,
  ⟨some 7, (.assign (.tmp (9 : Nat))), none⟩]
def s39_2 : List Slim := [⟨some 4, (.assign (.const (.pointer none))), none⟩,
  ⟨some 5, (.assign (.const (.int .i64 1))), none⟩]
def s39_3 : List Slim := [⟨some 11, (.move (.tmp (1 : Nat))), none⟩,
  ⟨some 12, (.binOp .gtr 5 (.tmp (11 : Nat)) (.const (.int .u8 15)) 5), none⟩,
  ⟨some 10, (.assign (.tmp (12 : Nat))), none⟩]
def s39_4 : List Slim := [⟨some 4, (.assign (.const (.pointer none))), none⟩,
  ⟨some 5, (.assign (.const (.int .i64 2))), none⟩]
def s39_5 : List Slim := [⟨some 13, (.move (.tmp (0 : Nat))), none⟩,
  ⟨some 14, (.build 100 #[(0, (.tmp (13 : Nat)))]), none⟩,
  ⟨some 15, (.box 100 (.tmp (14 : Nat))), none⟩,
  ⟨some 6, (.assign (.tmp (15 : Nat))), none⟩]
def s39_6_1 : List Slim := [⟨some 27, (.move (.tmp (1 : Nat))), none⟩,
  ⟨some 28, (.call { callee := (.value (.func 57)), args := #[(.tmp (26 : Nat)), (.tmp (27 : Nat))], argTypes := #[36, 5] }), none⟩,
  ⟨some 4, (.assign (.tmp (28 : Nat))), none⟩,
  ⟨some 5, (.assign (.const (.int .i64 0))), none⟩]
def s39_6 : List Slim := (⟨some 16, (.move (.tmp (6 : Nat))), none⟩ : Slim) ::
  (⟨some 17, (.makeInterface 98 (.tmp (16 : Nat))), none⟩ : Slim) ::
  (⟨some 18, (.move (.tmp (6 : Nat))), none⟩ : Slim) ::
  (⟨some 19, (.makeInterface 98 (.tmp (18 : Nat))), none⟩ : Slim) ::
  (⟨some 20, (.move (.tmp (6 : Nat))), none⟩ : Slim) ::
  (⟨some 21, (.makeInterface 98 (.tmp (20 : Nat))), none⟩ : Slim) ::
  (⟨some 22, (.move (.tmp (6 : Nat))), none⟩ : Slim) ::
  (⟨some 23, (.makeInterface 98 (.tmp (22 : Nat))), none⟩ : Slim) ::
  (⟨some 24, (.move (.tmp (6 : Nat))), none⟩ : Slim) ::
  (⟨some 25, (.makeInterface 98 (.tmp (24 : Nat))), none⟩ : Slim) ::
  (⟨some 26, (.call { callee := (.value (.func 56)), args := #[(.tmp (17 : Nat)), (.tmp (19 : Nat)), (.tmp (21 : Nat)), (.tmp (23 : Nat)), (.tmp (25 : Nat))], argTypes := #[113, 115, 117, 119, 121] }), none⟩ : Slim) ::
  s39_6_1
abbrev k40 : List Nat := [0, 2]
def s40_0 : List Slim := [⟨some 1, (.call { callee := (.builtin .recover), args := #[], argTypes := #[] }), none⟩,
  ⟨some 2, (.binOp .neq 20 (.tmp (1 : Nat)) (.const .nilIface) 20), none⟩]
def s40_1 : List Slim := [⟨none, (.store 4 (.tmp (0 : Nat)) (.const (.bool false))), none⟩]
abbrev k41 : List Nat := [0, 2, 4]
def s41_0 : List Slim := [⟨some 2, (.assign (.const (.slice none 0 0))), none⟩]
def s41_1 : List Slim := [⟨some 3, (.move (.tmp (0 : Nat))), none⟩,
  ⟨some 4, (.binOp .eql 40 (.tmp (3 : Nat)) (.const (.slice none 0 0)) 40), none⟩]
def s41_2 : List Slim := [⟨some 2, (.assign (.const (.slice none 0 0))), none⟩]
def s41_3 : List Slim := [⟨some 5, (.buildSlice 40 0 #[]), none⟩,
  ⟨some 6, (.move (.tmp (0 : Nat))), none⟩,
  ⟨some 7, (.call { callee := (.builtin .append), args := #[(.tmp (5 : Nat)), (.tmp (6 : Nat))], argTypes := #[40, 40] }), none⟩,
  ⟨some 2, (.assign (.tmp (7 : Nat))), none⟩]
abbrev k42 : List Nat := [0, 2, 3, 5, 6, 7, 8, 9]
def s42_0 : List Slim := [⟨some 2, (.assign (.const (.int .i64 0))), none⟩]
def s42_1 : List Slim := [⟨some 3, (.assign (.const (.int .i64 0))), none⟩]
def s42_2 : List Slim := [⟨some 6, (.move (.tmp (0 : Nat))), none⟩,
  ⟨some 7, (.call { callee := (.builtin .len), args := #[(.tmp (6 : Nat))], argTypes := #[81] }), none⟩,
  ⟨some 8, (.move (.const (.int .i64 0))), none⟩]
def s42_3 : List Slim := [⟨some 9, (.binOp .lss 3 (.tmp (8 : Nat)) (.tmp (7 : Nat)) 3), none⟩]
def s42_4 : List Slim := [⟨some 10, (.indexAddr 81 (.tmp (6 : Nat)) (.tmp (8 : Nat))), none⟩,
  ⟨some 11, (.load 85 (.tmp (10 : Nat))), none⟩,
  ⟨some 5, (.alloc 85), none⟩,
  ⟨none, (.store 85 (.tmp (5 : Nat)) (.tmp (11 : Nat))), none⟩]
def s42_5 : List Slim := [⟨some 12, (.move (.tmp (3 : Nat))), none⟩,
  ⟨some 13, (.fieldAddr 85 (.tmp (5 : Nat)) 1), none⟩,
  ⟨some 14, (.load 40 (.tmp (13 : Nat))), none⟩,
  ⟨some 15, (.call { callee := (.builtin .len), args := #[(.tmp (14 : Nat))], argTypes := #[40] }), none⟩,
  ⟨some 16, (.binOp .add 2 (.tmp (12 : Nat)) (.tmp (15 : Nat)) 2), none⟩,
  ⟨some 3, (.assign (.tmp (16 : Nat))), none⟩]
def s42_6 : List Slim := [⟨some 17, (.binOp .add 3 (.tmp (8 : Nat)) (.const (.int .i64 1)) 3), none⟩,
  ⟨some 8, (.move (.tmp (17 : Nat))), none⟩]
def s42_7 : List Slim := [⟨some 18, (.move (.tmp (3 : Nat))), none⟩,
  ⟨some 2, (.assign (.tmp (18 : Nat))), none⟩]
abbrev k43 : List Nat := [0, 1, 2, 3, 4]
def s43_0 : List Slim := [⟨some 2, (.box 49 (.tmp (0 : Nat))), none⟩,
  ⟨some 3, (.box 2 (.tmp (1 : Nat))), none⟩,
  ⟨some 4, (.assign (.const (.int .i64 0))), none⟩]
def s43_1 : List Slim := [⟨some 5, (.load 49 (.tmp (2 : Nat))), none⟩,
  ⟨some 6, (.nilCheck (.tmp (5 : Nat))), none⟩,
  ⟨some 7, (.fieldAddr 83 (.tmp (6 : Nat)) 0), none⟩,
  ⟨some 8, (.load 81 (.tmp (7 : Nat))), none⟩,
  ⟨some 9, (.call { callee := (.builtin .len), args := #[(.tmp (8 : Nat))], argTypes := #[81] }), none⟩,
  ⟨some 10, (.makeFunc (.func 59) #[] #[(.tmp (2 : Nat)), (.tmp (3 : Nat))]), none⟩,
  ⟨some 11, (.call { callee := (.value (.func 58)), args := #[(.tmp (9 : Nat)), (.tmp (10 : Nat))], argTypes := #[3, 104] }), none⟩,
  ⟨some 4, (.assign (.tmp (11 : Nat))), none⟩]
abbrev k44 : List Nat := [0, 1, 2]
def s44_0 : List Slim := [⟨some 1, (.box 85 (.tmp (0 : Nat))), none⟩,
  ⟨some 2, (.assign (.const (.int .i64 0))), none⟩]
def s44_1 : List Slim := [⟨some 3, (.fieldAddr 85 (.tmp (1 : Nat)) 0), none⟩,
  ⟨some 4, (.load 2 (.tmp (3 : Nat))), none⟩,
  ⟨some 5, (.fieldAddr 85 (.tmp (1 : Nat)) 1), none⟩,
  ⟨some 6, (.load 40 (.tmp (5 : Nat))), none⟩,
  ⟨some 7, (.call { callee := (.builtin .len), args := #[(.tmp (6 : Nat))], argTypes := #[40] }), none⟩,
  ⟨some 8, (.binOp .add 2 (.tmp (4 : Nat)) (.tmp (7 : Nat)) 2), none⟩,
  ⟨some 2, (.assign (.tmp (8 : Nat))), none⟩]
abbrev k45 : List Nat := [0, 1, 2, 6, 7, 8, 9, 10, 12, 29, 30, 31, 32, 38, 57]
def s45_0 : List Slim := [⟨some 6, (.assign (.const (.slice none 0 0))), none⟩,
  ⟨some 7, (.assign (.const (.int .i64 0))), none⟩]
def s45_1 : List Slim := [⟨some 13, (.move (.tmp (0 : Nat))), none⟩,
  ⟨some 14, (.move (.tmp (1 : Nat))), none⟩,
  ⟨some 15, (.call { callee := (.value (.func 43)), args := #[(.tmp (13 : Nat)), (.tmp (14 : Nat))], argTypes := #[49, 2] }), none⟩,
  ⟨some 8, (.assign (.tmp (15 : Nat))), none⟩]
def s45_2 : List Slim := [⟨some 16, (.move (.tmp (0 : Nat))), none⟩,
  ⟨some 17, (.nilCheck (.tmp (16 : Nat))), none⟩,
  ⟨some 18, (.fieldAddr 83 (.tmp (17 : Nat)) 0), none⟩,
  ⟨some 19, (.load 81 (.tmp (18 : Nat))), none⟩,
  ⟨some 20, (.move (.tmp (8 : Nat))), none⟩,
  ⟨some 21, (.slice 81 (.tmp (19 : Nat)) none (some (.tmp (20 : Nat))) none), none⟩,
  ⟨some 22, (.call { callee := (.value (.func 60)), args := #[(.tmp (21 : Nat))], argTypes := #[81] }), none⟩,
  ⟨some 9, (.assign (.tmp (22 : Nat))), none⟩]
def s45_3 : List Slim := [⟨some 23, (.move (.tmp (8 : Nat))), none⟩,
  ⟨some 10, (.assign (.tmp (23 : Nat))), none⟩]
def s45_4 : List Slim := [⟨some 24, (.move (.tmp (0 : Nat))), none⟩,
  ⟨some 25, (.nilCheck (.tmp (24 : Nat))), none⟩,
  ⟨some 26, (.fieldAddr 83 (.tmp (25 : Nat)) 0), none⟩,
  ⟨some 27, (.load 81 (.tmp (26 : Nat))), none⟩,
  ⟨some 28, (.move (.tmp (8 : Nat))), none⟩,
  ⟨some 29, (.slice 81 (.tmp (27 : Nat)) (some (.tmp (28 : Nat))) none none), none⟩,
  ⟨some 30, (.call { callee := (.builtin .len), args := #[(.tmp (29 : Nat))], argTypes := #[81] }), none⟩,
  ⟨some 31, (.move (.const (.int .i64 0))), none⟩]
def s45_5 : List Slim := [⟨some 32, (.binOp .lss 3 (.tmp (31 : Nat)) (.tmp (30 : Nat)) 3), none⟩]
def s45_6 : List Slim := [⟨some 33, (.indexAddr 81 (.tmp (29 : Nat)) (.tmp (31 : Nat))), none⟩,
  ⟨some 34, (.load 85 (.tmp (33 : Nat))), none⟩,
  ⟨some 12, (.alloc 85), none⟩,
  ⟨none, (.store 85 (.tmp (12 : Nat)) (.tmp (34 : Nat))), none⟩]
def s45_7 : List Slim := [⟨some 35, (.fieldAddr 85 (.tmp (12 : Nat)) 0), none⟩,
  ⟨some 36, (.load 2 (.tmp (35 : Nat))), none⟩,
  ⟨some 37, (.move (.tmp (1 : Nat))), none⟩,
  ⟨some 38, (.binOp .lss 2 (.tmp (36 : Nat)) (.tmp (37 : Nat)) 2), none⟩]
def s45_8 : List Slim := [⟨some 39, (.move (.tmp (9 : Nat))), none⟩,
  ⟨some 40, (.fieldAddr 85 (.tmp (12 : Nat)) 0), none⟩,
  ⟨some 41, (.load 2 (.tmp (40 : Nat))), none⟩,
  ⟨some 42, (.fieldAddr 85 (.tmp (12 : Nat)) 1), none⟩,
  ⟨some 43, (.load 40 (.tmp (42 : Nat))), none⟩,
  ⟨some 44, (.move (.tmp (1 : Nat))), none⟩,
  ⟨some 45, (.fieldAddr 85 (.tmp (12 : Nat)) 0), none⟩,
  ⟨some 46, (.load 2 (.tmp (45 : Nat))), none⟩,
  ⟨some 47, (.binOp .sub 2 (.tmp (44 : Nat)) (.tmp (46 : Nat)) 2), none⟩,
  ⟨some 48, (.slice 40 (.tmp (43 : Nat)) none (some (.tmp (47 : Nat))) none), none⟩,
  ⟨some 49, (.build 85 #[(0, (.tmp (41 : Nat))), (1, (.tmp (48 : Nat)))]), none⟩,
  ⟨some 50, (.buildSlice 81 1 #[(0, (.tmp (49 : Nat)))]), none⟩,
  ⟨some 51, (.call { callee := (.builtin .append), args := #[(.tmp (39 : Nat)), (.tmp (50 : Nat))], argTypes := #[81, 81] }), none⟩,
  ⟨some 9, (.assign (.tmp (51 : Nat))), none⟩]
def p45_8 : Plan := (Plan.take 0 (Plan.take 1 (Plan.take 2 (Plan.take 3 (Plan.take 4 (Plan.take 5 (Plan.take 6 (Plan.take 7 (Plan.take 8 (Plan.take 9 (Plan.take 10 (Plan.eff 11 false (Plan.eff 12 false (Plan.take 13 Plan.nil))))))))))))))
def s45_9 : List Slim := [⟨some 52, (.move (.tmp (10 : Nat))), none⟩,
  ⟨some 53, (.binOp .add 3 (.tmp (52 : Nat)) (.const (.int .i64 1)) 3), none⟩,
  ⟨some 10, (.assign (.tmp (53 : Nat))), none⟩]
def s45_10_1 : List Slim := [⟨some 56, (.move (.tmp (2 : Nat))), none⟩,
  ⟨some 57, (.binOp .gtr 2 (.tmp (55 : Nat)) (.tmp (56 : Nat)) 2), none⟩]
def s45_10 : List Slim := (⟨some 54, (.load 85 (.tmp (12 : Nat))), none⟩ : Slim) ::
  (⟨some 55, (.call { callee := (.value (.func 44)), args := #[(.tmp (54 : Nat))], argTypes := #[85] }), none⟩ : Slim) ::
  s45_10_1
def s45_11 : List Slim := [⟨some 58, (.move (.tmp (9 : Nat))), none⟩,
  ⟨some 59, (.fieldAddr 85 (.tmp (12 : Nat)) 0), none⟩,
  ⟨some 60, (.load 2 (.tmp (59 : Nat))), none⟩,
  ⟨some 61, (.move (.tmp (2 : Nat))), none⟩,
  ⟨some 62, (.call { callee := (.builtin .max), args := #[(.tmp (60 : Nat)), (.tmp (61 : Nat))], argTypes := #[2, 2] }), none⟩,
  ⟨some 63, (.fieldAddr 85 (.tmp (12 : Nat)) 1), none⟩,
  ⟨some 64, (.load 40 (.tmp (63 : Nat))), none⟩,
  ⟨some 65, (.move (.tmp (2 : Nat))), none⟩,
  ⟨some 66, (.fieldAddr 85 (.tmp (12 : Nat)) 0), none⟩,
  ⟨some 67, (.load 2 (.tmp (66 : Nat))), none⟩,
  ⟨some 68, (.binOp .sub 2 (.tmp (65 : Nat)) (.tmp (67 : Nat)) 2), none⟩,
  ⟨some 69, (.call { callee := (.builtin .max), args := #[(.const (.int .i64 0)), (.tmp (68 : Nat))], argTypes := #[2, 2] }), none⟩,
  ⟨some 70, (.slice 40 (.tmp (64 : Nat)) (some (.tmp (69 : Nat))) none none), none⟩,
  ⟨some 71, (.build 85 #[(0, (.tmp (62 : Nat))), (1, (.tmp (70 : Nat)))]), none⟩,
  ⟨some 72, (.buildSlice 81 1 #[(0, (.tmp (71 : Nat)))]), none⟩,
  ⟨some 73, (.call { callee := (.builtin .append), args := #[(.tmp (58 : Nat)), (.tmp (72 : Nat))], argTypes := #[81, 81] }), none⟩,
  ⟨some 9, (.assign (.tmp (73 : Nat))), none⟩]
def p45_11 : Plan := (Plan.take 0 (Plan.take 1 (Plan.take 2 (Plan.take 3 (Plan.take 4 (Plan.take 5 (Plan.take 6 (Plan.take 7 (Plan.take 8 (Plan.take 9 (Plan.take 10 (Plan.take 11 (Plan.take 12 (Plan.take 13 (Plan.eff 14 false (Plan.eff 15 false (Plan.take 16 Plan.nil)))))))))))))))))
def s45_12 : List Slim := [⟨some 74, (.binOp .add 3 (.tmp (31 : Nat)) (.const (.int .i64 1)) 3), none⟩,
  ⟨some 31, (.move (.tmp (74 : Nat))), none⟩]
def s45_13 : List Slim := [⟨some 75, (.move (.tmp (9 : Nat))), none⟩,
  ⟨some 76, (.move (.tmp (10 : Nat))), none⟩,
  ⟨some 6, (.assign (.tmp (75 : Nat))), none⟩,
  ⟨some 7, (.assign (.tmp (76 : Nat))), none⟩]
abbrev k46 : List Nat := [0, 1, 2, 3, 8, 9, 10, 11, 12, 13, 14, 21, 29, 39, 60, 92, 120, 149, 178]
def s46_0 : List Slim := [⟨some 8, (.assign (.const (.slice none 0 0))), none⟩]
def s46_1 : List Slim := [⟨some 15, (.move (.tmp (0 : Nat))), none⟩,
  ⟨some 16, (.move (.tmp (1 : Nat))), none⟩,
  ⟨some 17, (.move (.tmp (2 : Nat))), none⟩,
  ⟨some 18, (.slice 81 (.tmp (15 : Nat)) (some (.tmp (16 : Nat))) (some (.tmp (17 : Nat))) none), none⟩]
def s46_2 : List Slim := [⟨some 19, (.move (.tmp (1 : Nat))), none⟩,
  ⟨some 20, (.move (.tmp (2 : Nat))), none⟩,
  ⟨some 21, (.binOp .eql 3 (.tmp (19 : Nat)) (.tmp (20 : Nat)) 3), none⟩]
def s46_3 : List Slim := [⟨some 22, (.move (.tmp (0 : Nat))), none⟩,
  ⟨some 23, (.move (.tmp (1 : Nat))), none⟩,
  ⟨some 24, (.move (.tmp (3 : Nat))), none⟩,
  ⟨some 25, (.call { callee := (.value (.func 61)), args := #[(.tmp (22 : Nat)), (.tmp (23 : Nat)), (.tmp (24 : Nat))], argTypes := #[81, 3, 81] }), none⟩,
  ⟨some 8, (.assign (.tmp (25 : Nat))), none⟩]
def s46_4 : List Slim := [⟨some 26, (.move (.tmp (2 : Nat))), none⟩,
  ⟨some 27, (.move (.tmp (0 : Nat))), none⟩,
  ⟨some 28, (.call { callee := (.builtin .len), args := #[(.tmp (27 : Nat))], argTypes := #[81] }), none⟩,
  ⟨some 29, (.binOp .eql 3 (.tmp (26 : Nat)) (.tmp (28 : Nat)) 3), none⟩]
def s46_5 : List Slim := [⟨some 30, (.move (.tmp (0 : Nat))), none⟩,
  ⟨some 31, (.move (.tmp (1 : Nat))), none⟩,
  ⟨some 32, (.slice 81 (.tmp (30 : Nat)) none (some (.tmp (31 : Nat))) none), none⟩,
  ⟨some 33, (.move (.tmp (3 : Nat))), none⟩,
  ⟨some 34, (.call { callee := (.builtin .append), args := #[(.tmp (32 : Nat)), (.tmp (33 : Nat))], argTypes := #[81, 81] }), none⟩,
  ⟨some 9, (.assign (.tmp (34 : Nat))), none⟩]
def s46_6 : List Slim := [⟨some 35, (.move (.tmp (9 : Nat))), none⟩,
  ⟨some 36, (.call { callee := (.builtin .len), args := #[(.tmp (35 : Nat))], argTypes := #[81] }), none⟩,
  ⟨some 37, (.move (.tmp (0 : Nat))), none⟩,
  ⟨some 38, (.call { callee := (.builtin .len), args := #[(.tmp (37 : Nat))], argTypes := #[81] }), none⟩,
  ⟨some 39, (.binOp .lss 3 (.tmp (36 : Nat)) (.tmp (38 : Nat)) 3), none⟩]
def s46_7 : List Slim := [⟨some 40, (.move (.tmp (0 : Nat))), none⟩,
  ⟨some 41, (.move (.tmp (9 : Nat))), none⟩,
  ⟨some 42, (.call { callee := (.builtin .len), args := #[(.tmp (41 : Nat))], argTypes := #[81] }), none⟩,
  ⟨some 43, (.slice 81 (.tmp (40 : Nat)) (some (.tmp (42 : Nat))) none none), none⟩,
  ⟨none, (.call { callee := (.builtin .clear), args := #[(.tmp (43 : Nat))], argTypes := #[81] }), none⟩]
def s46_8 : List Slim := [⟨some 44, (.move (.tmp (9 : Nat))), none⟩,
  ⟨some 8, (.assign (.tmp (44 : Nat))), none⟩]
def s46_9 : List Slim := [⟨some 45, (.move (.tmp (0 : Nat))), none⟩,
  ⟨some 46, (.move (.tmp (1 : Nat))), none⟩,
  ⟨some 47, (.slice 81 (.tmp (45 : Nat)) none (some (.tmp (46 : Nat))) none), none⟩,
  ⟨some 48, (.call { callee := (.builtin .len), args := #[(.tmp (47 : Nat))], argTypes := #[81] }), none⟩,
  ⟨some 49, (.move (.tmp (3 : Nat))), none⟩,
  ⟨some 50, (.call { callee := (.builtin .len), args := #[(.tmp (49 : Nat))], argTypes := #[81] }), none⟩,
  ⟨some 51, (.binOp .add 3 (.tmp (48 : Nat)) (.tmp (50 : Nat)) 3), none⟩,
  ⟨some 52, (.move (.tmp (0 : Nat))), none⟩,
  ⟨some 53, (.move (.tmp (2 : Nat))), none⟩,
  ⟨some 54, (.slice 81 (.tmp (52 : Nat)) (some (.tmp (53 : Nat))) none none), none⟩,
  ⟨some 55, (.call { callee := (.builtin .len), args := #[(.tmp (54 : Nat))], argTypes := #[81] }), none⟩,
  ⟨some 56, (.binOp .add 3 (.tmp (51 : Nat)) (.tmp (55 : Nat)) 3), none⟩,
  ⟨some 10, (.assign (.tmp (56 : Nat))), none⟩]
def p46_9 : Plan := (Plan.take 0 (Plan.take 1 (Plan.take 2 (Plan.take 3 (Plan.take 4 (Plan.take 5 (Plan.take 6 (Plan.take 7 (Plan.take 8 (Plan.take 9 (Plan.take 10 (Plan.take 11 (Plan.take 12 Plan.nil)))))))))))))
def s46_10 : List Slim := [⟨some 57, (.move (.tmp (10 : Nat))), none⟩,
  ⟨some 58, (.move (.tmp (0 : Nat))), none⟩,
  ⟨some 59, (.call { callee := (.builtin .cap), args := #[(.tmp (58 : Nat))], argTypes := #[81] }), none⟩,
  ⟨some 60, (.binOp .gtr 3 (.tmp (57 : Nat)) (.tmp (59 : Nat)) 3), none⟩]
def s46_11 : List Slim := [⟨some 61, (.move (.tmp (0 : Nat))), none⟩,
  ⟨some 62, (.move (.tmp (1 : Nat))), none⟩,
  ⟨some 63, (.slice 81 (.tmp (61 : Nat)) none (some (.tmp (62 : Nat))) none), none⟩,
  ⟨some 64, (.move (.tmp (10 : Nat))), none⟩,
  ⟨some 65, (.move (.tmp (1 : Nat))), none⟩,
  ⟨some 66, (.binOp .sub 3 (.tmp (64 : Nat)) (.tmp (65 : Nat)) 3), none⟩,
  ⟨some 67, (.call { callee := (.builtin .append), args := #[(.tmp (63 : Nat)), (.tmp (66 : Nat))], argTypes := #[81, 3] }), none⟩,
  ⟨some 11, (.assign (.tmp (67 : Nat))), none⟩]
def s46_12 : List Slim := [⟨some 68, (.move (.tmp (11 : Nat))), none⟩,
  ⟨some 69, (.move (.tmp (1 : Nat))), none⟩,
  ⟨some 70, (.slice 81 (.tmp (68 : Nat)) (some (.tmp (69 : Nat))) none none), none⟩,
  ⟨some 71, (.move (.tmp (3 : Nat))), none⟩,
  ⟨some 72, (.call { callee := (.builtin .copy), args := #[(.tmp (70 : Nat)), (.tmp (71 : Nat))], argTypes := #[81, 81] }), none⟩]
def s46_13 : List Slim := [⟨some 73, (.move (.tmp (11 : Nat))), none⟩,
  ⟨some 74, (.move (.tmp (1 : Nat))), none⟩,
  ⟨some 75, (.move (.tmp (3 : Nat))), none⟩,
  ⟨some 76, (.call { callee := (.builtin .len), args := #[(.tmp (75 : Nat))], argTypes := #[81] }), none⟩,
  ⟨some 77, (.binOp .add 3 (.tmp (74 : Nat)) (.tmp (76 : Nat)) 3), none⟩,
  ⟨some 78, (.slice 81 (.tmp (73 : Nat)) (some (.tmp (77 : Nat))) none none), none⟩,
  ⟨some 79, (.move (.tmp (0 : Nat))), none⟩,
  ⟨some 80, (.move (.tmp (2 : Nat))), none⟩,
  ⟨some 81, (.slice 81 (.tmp (79 : Nat)) (some (.tmp (80 : Nat))) none none), none⟩,
  ⟨some 82, (.call { callee := (.builtin .copy), args := #[(.tmp (78 : Nat)), (.tmp (81 : Nat))], argTypes := #[81, 81] }), none⟩]
def p46_13 : Plan := (Plan.take 0 (Plan.take 1 (Plan.take 2 (Plan.take 3 (Plan.take 4 (Plan.take 5 (Plan.take 6 (Plan.take 7 (Plan.take 8 (Plan.eff 9 false Plan.nil))))))))))
def s46_14 : List Slim := [⟨some 83, (.move (.tmp (11 : Nat))), none⟩,
  ⟨some 8, (.assign (.tmp (83 : Nat))), none⟩]
def s46_15 : List Slim := [⟨some 84, (.move (.tmp (0 : Nat))), none⟩,
  ⟨some 85, (.move (.tmp (10 : Nat))), none⟩,
  ⟨some 86, (.slice 81 (.tmp (84 : Nat)) none (some (.tmp (85 : Nat))) none), none⟩,
  ⟨some 12, (.assign (.tmp (86 : Nat))), none⟩]
def s46_16 : List Slim := [⟨some 87, (.move (.tmp (1 : Nat))), none⟩,
  ⟨some 88, (.move (.tmp (3 : Nat))), none⟩,
  ⟨some 89, (.call { callee := (.builtin .len), args := #[(.tmp (88 : Nat))], argTypes := #[81] }), none⟩,
  ⟨some 90, (.binOp .add 3 (.tmp (87 : Nat)) (.tmp (89 : Nat)) 3), none⟩,
  ⟨some 91, (.move (.tmp (2 : Nat))), none⟩,
  ⟨some 92, (.binOp .leq 3 (.tmp (90 : Nat)) (.tmp (91 : Nat)) 3), none⟩]
def s46_17 : List Slim := [⟨some 93, (.move (.tmp (12 : Nat))), none⟩,
  ⟨some 94, (.move (.tmp (1 : Nat))), none⟩,
  ⟨some 95, (.slice 81 (.tmp (93 : Nat)) (some (.tmp (94 : Nat))) none none), none⟩,
  ⟨some 96, (.move (.tmp (3 : Nat))), none⟩,
  ⟨some 97, (.call { callee := (.builtin .copy), args := #[(.tmp (95 : Nat)), (.tmp (96 : Nat))], argTypes := #[81, 81] }), none⟩]
def s46_18 : List Slim := [⟨some 98, (.move (.tmp (12 : Nat))), none⟩,
  ⟨some 99, (.move (.tmp (1 : Nat))), none⟩,
  ⟨some 100, (.move (.tmp (3 : Nat))), none⟩,
  ⟨some 101, (.call { callee := (.builtin .len), args := #[(.tmp (100 : Nat))], argTypes := #[81] }), none⟩,
  ⟨some 102, (.binOp .add 3 (.tmp (99 : Nat)) (.tmp (101 : Nat)) 3), none⟩,
  ⟨some 103, (.slice 81 (.tmp (98 : Nat)) (some (.tmp (102 : Nat))) none none), none⟩,
  ⟨some 104, (.move (.tmp (0 : Nat))), none⟩,
  ⟨some 105, (.move (.tmp (2 : Nat))), none⟩,
  ⟨some 106, (.slice 81 (.tmp (104 : Nat)) (some (.tmp (105 : Nat))) none none), none⟩,
  ⟨some 107, (.call { callee := (.builtin .copy), args := #[(.tmp (103 : Nat)), (.tmp (106 : Nat))], argTypes := #[81, 81] }), none⟩]
def p46_18 : Plan := (Plan.take 0 (Plan.take 1 (Plan.take 2 (Plan.take 3 (Plan.take 4 (Plan.take 5 (Plan.take 6 (Plan.take 7 (Plan.take 8 (Plan.eff 9 false Plan.nil))))))))))
def s46_19 : List Slim := [⟨some 108, (.move (.tmp (0 : Nat))), none⟩,
  ⟨some 109, (.move (.tmp (10 : Nat))), none⟩,
  ⟨some 110, (.slice 81 (.tmp (108 : Nat)) (some (.tmp (109 : Nat))) none none), none⟩,
  ⟨none, (.call { callee := (.builtin .clear), args := #[(.tmp (110 : Nat))], argTypes := #[81] }), none⟩]
def s46_20 : List Slim := [⟨some 111, (.move (.tmp (12 : Nat))), none⟩,
  ⟨some 8, (.assign (.tmp (111 : Nat))), none⟩]
def s46_21_1 : List Slim := [⟨some 120, (.unOp .not 4 (.tmp (119 : Nat))), none⟩]
def s46_21 : List Slim := (⟨some 112, (.move (.tmp (12 : Nat))), none⟩ : Slim) ::
  (⟨some 113, (.move (.tmp (1 : Nat))), none⟩ : Slim) ::
  (⟨some 114, (.move (.tmp (3 : Nat))), none⟩ : Slim) ::
  (⟨some 115, (.call { callee := (.builtin .len), args := #[(.tmp (114 : Nat))], argTypes := #[81] }), none⟩ : Slim) ::
  (⟨some 116, (.binOp .add 3 (.tmp (113 : Nat)) (.tmp (115 : Nat)) 3), none⟩ : Slim) ::
  (⟨some 117, (.slice 81 (.tmp (112 : Nat)) (some (.tmp (116 : Nat))) none none), none⟩ : Slim) ::
  (⟨some 118, (.move (.tmp (3 : Nat))), none⟩ : Slim) ::
  (⟨some 119, (.call { callee := (.value (.func 62)), args := #[(.tmp (117 : Nat)), (.tmp (118 : Nat))], argTypes := #[81, 81] }), none⟩ : Slim) ::
  s46_21_1
def s46_22 : List Slim := [⟨some 121, (.move (.tmp (12 : Nat))), none⟩,
  ⟨some 122, (.move (.tmp (1 : Nat))), none⟩,
  ⟨some 123, (.move (.tmp (3 : Nat))), none⟩,
  ⟨some 124, (.call { callee := (.builtin .len), args := #[(.tmp (123 : Nat))], argTypes := #[81] }), none⟩,
  ⟨some 125, (.binOp .add 3 (.tmp (122 : Nat)) (.tmp (124 : Nat)) 3), none⟩,
  ⟨some 126, (.slice 81 (.tmp (121 : Nat)) (some (.tmp (125 : Nat))) none none), none⟩,
  ⟨some 127, (.move (.tmp (0 : Nat))), none⟩,
  ⟨some 128, (.move (.tmp (2 : Nat))), none⟩,
  ⟨some 129, (.slice 81 (.tmp (127 : Nat)) (some (.tmp (128 : Nat))) none none), none⟩,
  ⟨some 130, (.call { callee := (.builtin .copy), args := #[(.tmp (126 : Nat)), (.tmp (129 : Nat))], argTypes := #[81, 81] }), none⟩]
def p46_22 : Plan := (Plan.take 0 (Plan.take 1 (Plan.take 2 (Plan.take 3 (Plan.take 4 (Plan.take 5 (Plan.take 6 (Plan.take 7 (Plan.take 8 (Plan.eff 9 false Plan.nil))))))))))
def s46_23 : List Slim := [⟨some 131, (.move (.tmp (12 : Nat))), none⟩,
  ⟨some 132, (.move (.tmp (1 : Nat))), none⟩,
  ⟨some 133, (.slice 81 (.tmp (131 : Nat)) (some (.tmp (132 : Nat))) none none), none⟩,
  ⟨some 134, (.move (.tmp (3 : Nat))), none⟩,
  ⟨some 135, (.call { callee := (.builtin .copy), args := #[(.tmp (133 : Nat)), (.tmp (134 : Nat))], argTypes := #[81, 81] }), none⟩]
def s46_24 : List Slim := [⟨some 136, (.move (.tmp (12 : Nat))), none⟩,
  ⟨some 8, (.assign (.tmp (136 : Nat))), none⟩]
def s46_25 : List Slim := [⟨some 137, (.move (.tmp (3 : Nat))), none⟩,
  ⟨some 138, (.call { callee := (.builtin .len), args := #[(.tmp (137 : Nat))], argTypes := #[81] }), none⟩,
  ⟨some 139, (.move (.tmp (2 : Nat))), none⟩,
  ⟨some 140, (.move (.tmp (1 : Nat))), none⟩,
  ⟨some 141, (.binOp .sub 3 (.tmp (139 : Nat)) (.tmp (140 : Nat)) 3), none⟩,
  ⟨some 142, (.binOp .sub 3 (.tmp (138 : Nat)) (.tmp (141 : Nat)) 3), none⟩,
  ⟨some 13, (.assign (.tmp (142 : Nat))), none⟩]
def s46_26_1 : List Slim := [⟨some 149, (.unOp .not 4 (.tmp (148 : Nat))), none⟩]
def s46_26 : List Slim := (⟨some 143, (.move (.tmp (12 : Nat))), none⟩ : Slim) ::
  (⟨some 144, (.move (.tmp (1 : Nat))), none⟩ : Slim) ::
  (⟨some 145, (.move (.tmp (2 : Nat))), none⟩ : Slim) ::
  (⟨some 146, (.slice 81 (.tmp (143 : Nat)) (some (.tmp (144 : Nat))) (some (.tmp (145 : Nat))) none), none⟩ : Slim) ::
  (⟨some 147, (.move (.tmp (3 : Nat))), none⟩ : Slim) ::
  (⟨some 148, (.call { callee := (.value (.func 62)), args := #[(.tmp (146 : Nat)), (.tmp (147 : Nat))], argTypes := #[81, 81] }), none⟩ : Slim) ::
  s46_26_1
def s46_27 : List Slim := [⟨some 150, (.move (.tmp (12 : Nat))), none⟩,
  ⟨some 151, (.move (.tmp (1 : Nat))), none⟩,
  ⟨some 152, (.move (.tmp (2 : Nat))), none⟩,
  ⟨some 153, (.slice 81 (.tmp (150 : Nat)) (some (.tmp (151 : Nat))) (some (.tmp (152 : Nat))) none), none⟩,
  ⟨some 154, (.move (.tmp (3 : Nat))), none⟩,
  ⟨some 155, (.move (.tmp (13 : Nat))), none⟩,
  ⟨some 156, (.slice 81 (.tmp (154 : Nat)) (some (.tmp (155 : Nat))) none none), none⟩,
  ⟨some 157, (.call { callee := (.builtin .copy), args := #[(.tmp (153 : Nat)), (.tmp (156 : Nat))], argTypes := #[81, 81] }), none⟩]
def p46_27 : Plan := (Plan.take 0 (Plan.take 1 (Plan.take 2 (Plan.take 3 (Plan.take 4 (Plan.take 5 (Plan.take 6 (Plan.eff 7 false Plan.nil))))))))
def s46_28 : List Slim := [⟨some 158, (.move (.tmp (12 : Nat))), none⟩,
  ⟨some 159, (.move (.tmp (0 : Nat))), none⟩,
  ⟨some 160, (.call { callee := (.builtin .len), args := #[(.tmp (159 : Nat))], argTypes := #[81] }), none⟩,
  ⟨some 161, (.slice 81 (.tmp (158 : Nat)) (some (.tmp (160 : Nat))) none none), none⟩,
  ⟨some 162, (.move (.tmp (3 : Nat))), none⟩,
  ⟨some 163, (.move (.tmp (13 : Nat))), none⟩,
  ⟨some 164, (.slice 81 (.tmp (162 : Nat)) none (some (.tmp (163 : Nat))) none), none⟩,
  ⟨some 165, (.call { callee := (.builtin .copy), args := #[(.tmp (161 : Nat)), (.tmp (164 : Nat))], argTypes := #[81, 81] }), none⟩]
def p46_28 : Plan := (Plan.take 0 (Plan.take 1 (Plan.take 2 (Plan.take 3 (Plan.take 4 (Plan.take 5 (Plan.take 6 (Plan.eff 7 false Plan.nil))))))))
def s46_29 : List Slim := [⟨some 166, (.move (.tmp (12 : Nat))), none⟩,
  ⟨some 167, (.move (.tmp (1 : Nat))), none⟩,
  ⟨some 168, (.slice 81 (.tmp (166 : Nat)) (some (.tmp (167 : Nat))) none none), none⟩,
  ⟨some 169, (.move (.tmp (13 : Nat))), none⟩,
  ⟨some 170, (.call { callee := (.value (.func 63)), args := #[(.tmp (168 : Nat)), (.tmp (169 : Nat))], argTypes := #[81, 3] }), none⟩]
def s46_30 : List Slim := [⟨some 171, (.move (.tmp (12 : Nat))), none⟩,
  ⟨some 8, (.assign (.tmp (171 : Nat))), none⟩]
def s46_31_1 : List Slim := [⟨some 178, (.unOp .not 4 (.tmp (177 : Nat))), none⟩]
def s46_31 : List Slim := (⟨some 172, (.move (.tmp (12 : Nat))), none⟩ : Slim) ::
  (⟨some 173, (.move (.tmp (0 : Nat))), none⟩ : Slim) ::
  (⟨some 174, (.call { callee := (.builtin .len), args := #[(.tmp (173 : Nat))], argTypes := #[81] }), none⟩ : Slim) ::
  (⟨some 175, (.slice 81 (.tmp (172 : Nat)) (some (.tmp (174 : Nat))) none none), none⟩ : Slim) ::
  (⟨some 176, (.move (.tmp (3 : Nat))), none⟩ : Slim) ::
  (⟨some 177, (.call { callee := (.value (.func 62)), args := #[(.tmp (175 : Nat)), (.tmp (176 : Nat))], argTypes := #[81, 81] }), none⟩ : Slim) ::
  s46_31_1
def s46_32 : List Slim := [⟨some 179, (.move (.tmp (12 : Nat))), none⟩,
  ⟨some 180, (.move (.tmp (0 : Nat))), none⟩,
  ⟨some 181, (.call { callee := (.builtin .len), args := #[(.tmp (180 : Nat))], argTypes := #[81] }), none⟩,
  ⟨some 182, (.slice 81 (.tmp (179 : Nat)) (some (.tmp (181 : Nat))) none none), none⟩,
  ⟨some 183, (.move (.tmp (3 : Nat))), none⟩,
  ⟨some 184, (.move (.tmp (13 : Nat))), none⟩,
  ⟨some 185, (.slice 81 (.tmp (183 : Nat)) none (some (.tmp (184 : Nat))) none), none⟩,
  ⟨some 186, (.call { callee := (.builtin .copy), args := #[(.tmp (182 : Nat)), (.tmp (185 : Nat))], argTypes := #[81, 81] }), none⟩]
def p46_32 : Plan := (Plan.take 0 (Plan.take 1 (Plan.take 2 (Plan.take 3 (Plan.take 4 (Plan.take 5 (Plan.take 6 (Plan.eff 7 false Plan.nil))))))))
def s46_33 : List Slim := [⟨some 187, (.move (.tmp (12 : Nat))), none⟩,
  ⟨some 188, (.move (.tmp (1 : Nat))), none⟩,
  ⟨some 189, (.move (.tmp (2 : Nat))), none⟩,
  ⟨some 190, (.slice 81 (.tmp (187 : Nat)) (some (.tmp (188 : Nat))) (some (.tmp (189 : Nat))) none), none⟩,
  ⟨some 191, (.move (.tmp (3 : Nat))), none⟩,
  ⟨some 192, (.move (.tmp (13 : Nat))), none⟩,
  ⟨some 193, (.slice 81 (.tmp (191 : Nat)) (some (.tmp (192 : Nat))) none none), none⟩,
  ⟨some 194, (.call { callee := (.builtin .copy), args := #[(.tmp (190 : Nat)), (.tmp (193 : Nat))], argTypes := #[81, 81] }), none⟩]
def p46_33 : Plan := (Plan.take 0 (Plan.take 1 (Plan.take 2 (Plan.take 3 (Plan.take 4 (Plan.take 5 (Plan.take 6 (Plan.eff 7 false Plan.nil))))))))
def s46_34 : List Slim := [⟨some 195, (.move (.tmp (12 : Nat))), none⟩,
  ⟨some 196, (.move (.tmp (1 : Nat))), none⟩,
  ⟨some 197, (.slice 81 (.tmp (195 : Nat)) (some (.tmp (196 : Nat))) none none), none⟩,
  ⟨some 198, (.move (.tmp (13 : Nat))), none⟩,
  ⟨some 199, (.call { callee := (.value (.func 63)), args := #[(.tmp (197 : Nat)), (.tmp (198 : Nat))], argTypes := #[81, 3] }), none⟩]
def s46_35 : List Slim := [⟨some 200, (.move (.tmp (12 : Nat))), none⟩,
  ⟨some 8, (.assign (.tmp (200 : Nat))), none⟩]
def s46_36 : List Slim := [⟨some 201, (.move (.tmp (3 : Nat))), none⟩,
  ⟨some 202, (.move (.tmp (0 : Nat))), none⟩,
  ⟨some 203, (.move (.tmp (2 : Nat))), none⟩,
  ⟨some 204, (.slice 81 (.tmp (202 : Nat)) (some (.tmp (203 : Nat))) none none), none⟩,
  ⟨some 205, (.call { callee := (.value (.func 64)), args := #[(.tmp (201 : Nat)), (.tmp (204 : Nat))], argTypes := #[81, 81] }), none⟩,
  ⟨some 14, (.assign (.tmp (205 : Nat))), none⟩]
def s46_37 : List Slim := [⟨some 206, (.move (.tmp (12 : Nat))), none⟩,
  ⟨some 207, (.move (.tmp (1 : Nat))), none⟩,
  ⟨some 208, (.slice 81 (.tmp (206 : Nat)) (some (.tmp (207 : Nat))) none none), none⟩,
  ⟨some 209, (.move (.tmp (3 : Nat))), none⟩,
  ⟨some 210, (.call { callee := (.builtin .copy), args := #[(.tmp (208 : Nat)), (.tmp (209 : Nat))], argTypes := #[81, 81] }), none⟩]
def s46_38 : List Slim := [⟨some 211, (.move (.tmp (12 : Nat))), none⟩,
  ⟨some 212, (.move (.tmp (1 : Nat))), none⟩,
  ⟨some 213, (.move (.tmp (3 : Nat))), none⟩,
  ⟨some 214, (.call { callee := (.builtin .len), args := #[(.tmp (213 : Nat))], argTypes := #[81] }), none⟩,
  ⟨some 215, (.binOp .add 3 (.tmp (212 : Nat)) (.tmp (214 : Nat)) 3), none⟩,
  ⟨some 216, (.slice 81 (.tmp (211 : Nat)) (some (.tmp (215 : Nat))) none none), none⟩,
  ⟨some 217, (.move (.tmp (12 : Nat))), none⟩,
  ⟨some 218, (.move (.tmp (1 : Nat))), none⟩,
  ⟨some 219, (.move (.tmp (14 : Nat))), none⟩,
  ⟨some 220, (.binOp .add 3 (.tmp (218 : Nat)) (.tmp (219 : Nat)) 3), none⟩,
  ⟨some 221, (.slice 81 (.tmp (217 : Nat)) (some (.tmp (220 : Nat))) none none), none⟩,
  ⟨some 222, (.call { callee := (.builtin .copy), args := #[(.tmp (216 : Nat)), (.tmp (221 : Nat))], argTypes := #[81, 81] }), none⟩]
def p46_38 : Plan := (Plan.take 0 (Plan.take 1 (Plan.take 2 (Plan.take 3 (Plan.take 4 (Plan.take 5 (Plan.take 6 (Plan.take 7 (Plan.take 8 (Plan.take 9 (Plan.take 10 (Plan.eff 11 false Plan.nil))))))))))))
def s46_39 : List Slim := [⟨some 223, (.move (.tmp (12 : Nat))), none⟩,
  ⟨some 8, (.assign (.tmp (223 : Nat))), none⟩]
abbrev k47 : List Nat := [0, 1, 2, 6, 7, 8, 9, 10, 11, 12, 15, 28, 39, 48, 62]
def s47_0 : List Slim := [⟨some 13, (.move (.tmp (2 : Nat))), none⟩,
  ⟨some 14, (.call { callee := (.builtin .len), args := #[(.tmp (13 : Nat))], argTypes := #[40] }), none⟩,
  ⟨some 15, (.binOp .eql 3 (.tmp (14 : Nat)) (.const (.int .i64 0)) 3), none⟩]
def s47_1 : List Slim := [⟨some 16, (.move (.tmp (0 : Nat))), none⟩,
  ⟨some 17, (.move (.tmp (1 : Nat))), none⟩,
  ⟨some 18, (.move (.tmp (1 : Nat))), none⟩,
  ⟨some 19, (.move (.tmp (2 : Nat))), none⟩,
  ⟨some 20, (.call { callee := (.builtin .len), args := #[(.tmp (19 : Nat))], argTypes := #[40] }), none⟩,
  ⟨some 21, (.binOp .add 2 (.tmp (18 : Nat)) (.tmp (20 : Nat)) 2), none⟩,
  ⟨some 22, (.call { callee := (.value (.func 65)), args := #[(.tmp (16 : Nat)), (.tmp (17 : Nat)), (.tmp (21 : Nat))], argTypes := #[64, 2, 2] }), none⟩,
  ⟨some 6, (.assign (.tmp (22 : Nat))), none⟩]
def s47_2 : List Slim := [⟨some 23, (.move (.tmp (1 : Nat))), none⟩,
  ⟨some 24, (.build 96 #[(0, (.tmp (23 : Nat)))]), none⟩,
  ⟨some 7, (.alloc 96), none⟩,
  ⟨none, (.store 96 (.tmp (7 : Nat)) (.tmp (24 : Nat))), none⟩]
def s47_3 : List Slim := [⟨some 8, (.assign (.const (.slice none 0 0))), none⟩]
def s47_4 : List Slim := [⟨some 9, (.assign (.const (.slice none 0 0))), none⟩]
def s47_5 : List Slim := [⟨some 10, (.assign (.const (.slice none 0 0))), none⟩]
def s47_6 : List Slim := [⟨some 11, (.assign (.const (.int .i64 0))), none⟩]
def s47_7 : List Slim := [⟨some 25, (.move (.tmp (11 : Nat))), none⟩,
  ⟨some 26, (.move (.tmp (6 : Nat))), none⟩,
  ⟨some 27, (.call { callee := (.builtin .len), args := #[(.tmp (26 : Nat))], argTypes := #[91] }), none⟩,
  ⟨some 28, (.binOp .lss 3 (.tmp (25 : Nat)) (.tmp (27 : Nat)) 3), none⟩]
def s47_9 : List Slim := [⟨some 31, (.move (.tmp (6 : Nat))), none⟩,
  ⟨some 32, (.move (.tmp (11 : Nat))), none⟩,
  ⟨some 33, (.indexAddr 91 (.tmp (31 : Nat)) (.tmp (32 : Nat))), none⟩,
  ⟨some 34, (.load 96 (.tmp (33 : Nat))), none⟩,
  ⟨some 12, (.alloc 96), none⟩,
  ⟨none, (.store 96 (.tmp (12 : Nat)) (.tmp (34 : Nat))), none⟩]
def s47_11_1 : List Slim := [⟨some 42, (.move (.tmp (1 : Nat))), none⟩,
  ⟨some 43, (.binOp .lss 2 (.tmp (41 : Nat)) (.tmp (42 : Nat)) 2), none⟩,
  ⟨some 39, (.assign (.tmp (43 : Nat))), none⟩]
def s47_11 : List Slim := (⟨some 40, (.load 96 (.tmp (12 : Nat))), none⟩ : Slim) ::
  (⟨some 41, (.call { callee := (.value (.func 66)), args := #[(.tmp (40 : Nat))], argTypes := #[96] }), none⟩ : Slim) ::
  s47_11_1
def s47_12 : List Slim := [⟨some 44, (.move (.tmp (8 : Nat))), none⟩,
  ⟨some 45, (.load 96 (.tmp (12 : Nat))), none⟩,
  ⟨some 46, (.buildSlice 91 1 #[(0, (.tmp (45 : Nat)))]), none⟩,
  ⟨some 47, (.call { callee := (.builtin .append), args := #[(.tmp (44 : Nat)), (.tmp (46 : Nat))], argTypes := #[91, 91] }), none⟩,
  ⟨some 8, (.assign (.tmp (47 : Nat))), none⟩]
def s47_13_1 : List Slim := [⟨some 51, (.move (.tmp (1 : Nat))), none⟩,
  ⟨some 52, (.binOp .eql 2 (.tmp (50 : Nat)) (.tmp (51 : Nat)) 2), none⟩,
  ⟨some 48, (.assign (.tmp (52 : Nat))), none⟩]
def s47_13 : List Slim := (⟨some 49, (.load 96 (.tmp (12 : Nat))), none⟩ : Slim) ::
  (⟨some 50, (.call { callee := (.value (.func 66)), args := #[(.tmp (49 : Nat))], argTypes := #[96] }), none⟩ : Slim) ::
  s47_13_1
def s47_14 : List Slim := [⟨some 53, (.fieldAddr 96 (.tmp (12 : Nat)) 0), none⟩,
  ⟨some 54, (.load 2 (.tmp (53 : Nat))), none⟩,
  ⟨some 55, (.fieldAddr 96 (.tmp (7 : Nat)) 0), none⟩,
  ⟨none, (.store 2 (.tmp (55 : Nat)) (.tmp (54 : Nat))), none⟩]
def s47_15 : List Slim := [⟨some 56, (.fieldAddr 96 (.tmp (7 : Nat)) 1), none⟩,
  ⟨some 57, (.load 40 (.tmp (56 : Nat))), none⟩,
  ⟨some 58, (.fieldAddr 96 (.tmp (12 : Nat)) 1), none⟩,
  ⟨some 59, (.load 40 (.tmp (58 : Nat))), none⟩,
  ⟨some 60, (.call { callee := (.builtin .append), args := #[(.tmp (57 : Nat)), (.tmp (59 : Nat))], argTypes := #[40, 40] }), none⟩,
  ⟨some 61, (.fieldAddr 96 (.tmp (7 : Nat)) 1), none⟩,
  ⟨none, (.store 40 (.tmp (61 : Nat)) (.tmp (60 : Nat))), none⟩]
def s47_16 : List Slim := [⟨some 63, (.fieldAddr 96 (.tmp (12 : Nat)) 0), none⟩,
  ⟨some 64, (.load 2 (.tmp (63 : Nat))), none⟩,
  ⟨some 65, (.move (.tmp (1 : Nat))), none⟩,
  ⟨some 66, (.move (.tmp (2 : Nat))), none⟩,
  ⟨some 67, (.call { callee := (.builtin .len), args := #[(.tmp (66 : Nat))], argTypes := #[40] }), none⟩,
  ⟨some 68, (.binOp .add 2 (.tmp (65 : Nat)) (.tmp (67 : Nat)) 2), none⟩,
  ⟨some 69, (.binOp .eql 2 (.tmp (64 : Nat)) (.tmp (68 : Nat)) 2), none⟩,
  ⟨some 62, (.assign (.tmp (69 : Nat))), none⟩]
def s47_17 : List Slim := [⟨some 70, (.fieldAddr 96 (.tmp (12 : Nat)) 1), none⟩,
  ⟨some 71, (.load 40 (.tmp (70 : Nat))), none⟩,
  ⟨some 10, (.assign (.tmp (71 : Nat))), none⟩]
def s47_10 : List Slim := [⟨some 35, (.move (.tmp (9 : Nat))), none⟩,
  ⟨some 36, (.load 96 (.tmp (12 : Nat))), none⟩,
  ⟨some 37, (.buildSlice 91 1 #[(0, (.tmp (36 : Nat)))]), none⟩,
  ⟨some 38, (.call { callee := (.builtin .append), args := #[(.tmp (35 : Nat)), (.tmp (37 : Nat))], argTypes := #[91, 91] }), none⟩,
  ⟨some 9, (.assign (.tmp (38 : Nat))), none⟩]
def s47_8 : List Slim := [⟨some 29, (.move (.tmp (11 : Nat))), none⟩,
  ⟨some 30, (.binOp .add 3 (.tmp (29 : Nat)) (.const (.int .i64 1)) 3), none⟩,
  ⟨some 11, (.assign (.tmp (30 : Nat))), none⟩]
def s47_18 : List Slim := [⟨some 72, (.fieldAddr 96 (.tmp (7 : Nat)) 1), none⟩,
  ⟨some 73, (.load 40 (.tmp (72 : Nat))), none⟩,
  ⟨some 74, (.move (.tmp (2 : Nat))), none⟩,
  ⟨some 75, (.call { callee := (.builtin .append), args := #[(.tmp (73 : Nat)), (.tmp (74 : Nat))], argTypes := #[40, 40] }), none⟩,
  ⟨some 76, (.fieldAddr 96 (.tmp (7 : Nat)) 1), none⟩,
  ⟨none, (.store 40 (.tmp (76 : Nat)) (.tmp (75 : Nat))), none⟩]
def s47_19 : List Slim := [⟨some 77, (.fieldAddr 96 (.tmp (7 : Nat)) 1), none⟩,
  ⟨some 78, (.load 40 (.tmp (77 : Nat))), none⟩,
  ⟨some 79, (.move (.tmp (10 : Nat))), none⟩,
  ⟨some 80, (.call { callee := (.builtin .append), args := #[(.tmp (78 : Nat)), (.tmp (79 : Nat))], argTypes := #[40, 40] }), none⟩,
  ⟨some 81, (.fieldAddr 96 (.tmp (7 : Nat)) 1), none⟩,
  ⟨none, (.store 40 (.tmp (81 : Nat)) (.tmp (80 : Nat))), none⟩]
def s47_20 : List Slim := [⟨some 82, (.move (.tmp (0 : Nat))), none⟩,
  ⟨some 83, (.move (.tmp (8 : Nat))), none⟩,
  ⟨some 84, (.load 96 (.tmp (7 : Nat))), none⟩,
  ⟨some 85, (.buildSlice 91 1 #[(0, (.tmp (84 : Nat)))]), none⟩,
  ⟨some 86, (.call { callee := (.builtin .append), args := #[(.tmp (83 : Nat)), (.tmp (85 : Nat))], argTypes := #[91, 91] }), none⟩,
  ⟨some 87, (.nilCheck (.tmp (82 : Nat))), none⟩,
  ⟨some 88, (.fieldAddr 93 (.tmp (87 : Nat)) 0), none⟩,
  ⟨none, (.store 91 (.tmp (88 : Nat)) (.tmp (86 : Nat))), none⟩]
def s47_21 : List Slim := [⟨some 89, (.move (.tmp (0 : Nat))), none⟩,
  ⟨some 90, (.move (.tmp (0 : Nat))), none⟩,
  ⟨some 91, (.nilCheck (.tmp (90 : Nat))), none⟩,
  ⟨some 92, (.fieldAddr 93 (.tmp (91 : Nat)) 0), none⟩,
  ⟨some 93, (.load 91 (.tmp (92 : Nat))), none⟩,
  ⟨some 94, (.move (.tmp (9 : Nat))), none⟩,
  ⟨some 95, (.call { callee := (.builtin .append), args := #[(.tmp (93 : Nat)), (.tmp (94 : Nat))], argTypes := #[91, 91] }), none⟩,
  ⟨some 96, (.nilCheck (.tmp (89 : Nat))), none⟩,
  ⟨some 97, (.fieldAddr 93 (.tmp (96 : Nat)) 0), none⟩,
  ⟨none, (.store 91 (.tmp (97 : Nat)) (.tmp (95 : Nat))), none⟩]
abbrev k48 : List Nat := [0, 1, 2, 6, 7, 9, 12, 17, 30]
def s48_0 : List Slim := [⟨some 6, (.assign (.const (.int .i64 0))), none⟩]
def s48_1 : List Slim := [⟨some 8, (.move (.tmp (1 : Nat))), none⟩,
  ⟨some 9, (.binOp .lss 2 (.tmp (8 : Nat)) (.const (.int .i64 0)) 2), none⟩]
def s48_2 : List Slim := [⟨some 6, (.assign (.const (.int .i64 2))), none⟩]
def s48_3 : List Slim := [⟨some 10, (.move (.tmp (2 : Nat))), none⟩,
  ⟨some 11, (.call { callee := (.builtin .len), args := #[(.tmp (10 : Nat))], argTypes := #[40] }), none⟩,
  ⟨some 12, (.binOp .eql 3 (.tmp (11 : Nat)) (.const (.int .i64 0)) 3), none⟩]
def s48_4 : List Slim := [⟨some 6, (.assign (.const (.int .i64 0))), none⟩]
def s48_5 : List Slim := [⟨some 13, (.move (.tmp (1 : Nat))), none⟩,
  ⟨some 14, (.move (.tmp (2 : Nat))), none⟩,
  ⟨some 15, (.call { callee := (.builtin .len), args := #[(.tmp (14 : Nat))], argTypes := #[40] }), none⟩,
  ⟨some 16, (.binOp .sub 2 (.const (.int .i64 1073741824)) (.tmp (15 : Nat)) 2), none⟩,
  ⟨some 17, (.binOp .gtr 2 (.tmp (13 : Nat)) (.tmp (16 : Nat)) 2), none⟩]
def s48_6 : List Slim := [⟨some 6, (.assign (.const (.int .i64 3))), none⟩]
def s48_7 : List Slim := [⟨some 18, (.move (.tmp (1 : Nat))), none⟩,
  ⟨some 19, (.move (.tmp (2 : Nat))), none⟩,
  ⟨some 20, (.call { callee := (.builtin .len), args := #[(.tmp (19 : Nat))], argTypes := #[40] }), none⟩,
  ⟨some 21, (.binOp .add 2 (.tmp (18 : Nat)) (.tmp (20 : Nat)) 2), none⟩,
  ⟨some 7, (.assign (.tmp (21 : Nat))), none⟩]
def s48_8_2 : List Slim := [⟨some 27, (.move (.tmp (2 : Nat))), none⟩,
  ⟨some 28, (.call { callee := (.builtin .len), args := #[(.tmp (27 : Nat))], argTypes := #[40] }), none⟩,
  ⟨some 29, (.binOp .add 2 (.tmp (26 : Nat)) (.tmp (28 : Nat)) 2), none⟩,
  ⟨some 30, (.binOp .gtr 2 (.tmp (29 : Nat)) (.const (.int .i64 4194304)) 2), none⟩]
def s48_8_1 : List Slim := (⟨some 26, (.call { callee := (.value (.func 67)), args := #[(.tmp (25 : Nat))], argTypes := #[91] }), none⟩ : Slim) ::
  s48_8_2
def s48_8 : List Slim := (⟨some 22, (.move (.tmp (0 : Nat))), none⟩ : Slim) ::
  (⟨some 23, (.move (.tmp (1 : Nat))), none⟩ : Slim) ::
  (⟨some 24, (.move (.tmp (7 : Nat))), none⟩ : Slim) ::
  (⟨some 25, (.call { callee := (.value (.func 65)), args := #[(.tmp (22 : Nat)), (.tmp (23 : Nat)), (.tmp (24 : Nat))], argTypes := #[64, 2, 2] }), none⟩ : Slim) ::
  s48_8_1
def s48_9 : List Slim := [⟨some 6, (.assign (.const (.int .i64 3))), none⟩]
def s48_10 : List Slim := [⟨some 31, (.move (.tmp (0 : Nat))), none⟩,
  ⟨some 32, (.move (.tmp (1 : Nat))), none⟩,
  ⟨some 33, (.move (.tmp (2 : Nat))), none⟩,
  ⟨some 34, (.call { callee := (.value (.func 47)), args := #[(.tmp (31 : Nat)), (.tmp (32 : Nat)), (.tmp (33 : Nat))], argTypes := #[64, 2, 40] }), none⟩]
def s48_11 : List Slim := [⟨some 35, (.move (.tmp (0 : Nat))), none⟩,
  ⟨some 36, (.move (.tmp (0 : Nat))), none⟩,
  ⟨some 37, (.nilCheck (.tmp (36 : Nat))), none⟩,
  ⟨some 38, (.fieldAddr 93 (.tmp (37 : Nat)) 1), none⟩,
  ⟨some 39, (.load 2 (.tmp (38 : Nat))), none⟩,
  ⟨some 40, (.move (.tmp (7 : Nat))), none⟩,
  ⟨some 41, (.call { callee := (.builtin .max), args := #[(.tmp (39 : Nat)), (.tmp (40 : Nat))], argTypes := #[2, 2] }), none⟩,
  ⟨some 42, (.nilCheck (.tmp (35 : Nat))), none⟩,
  ⟨some 43, (.fieldAddr 93 (.tmp (42 : Nat)) 1), none⟩,
  ⟨none, (.store 2 (.tmp (43 : Nat)) (.tmp (41 : Nat))), none⟩]
def s48_12 : List Slim := [⟨some 6, (.assign (.const (.int .i64 0))), none⟩]
abbrev k49 : List Nat := [0, 1, 4]
def s49_0 : List Slim := [⟨some 4, (.assign (.const (.bool false))), none⟩]
def s49_1 : List Slim := [⟨some 5, (.move (.tmp (0 : Nat))), none⟩,
  ⟨some 6, (.convert 40 9 (.tmp (5 : Nat))), none⟩,
  ⟨some 7, (.move (.tmp (1 : Nat))), none⟩,
  ⟨some 8, (.convert 40 9 (.tmp (7 : Nat))), none⟩,
  ⟨some 9, (.binOp .eql 9 (.tmp (6 : Nat)) (.tmp (8 : Nat)) 9), none⟩,
  ⟨some 4, (.assign (.tmp (9 : Nat))), none⟩]
abbrev k50 : List Nat := [0, 1, 4, 6, 8, 14]
def s50_0 : List Slim := [⟨some 4, (.assign (.const (.int .i64 0))), none⟩]
def s50_1 : List Slim := [⟨some 5, (.move (.tmp (1 : Nat))), none⟩,
  ⟨some 6, (.binOp .lss 2 (.tmp (5 : Nat)) (.const (.int .i64 0)) 2), none⟩]
def s50_2 : List Slim := [⟨some 4, (.assign (.const (.int .i64 2))), none⟩]
def s50_3 : List Slim := [⟨some 7, (.move (.tmp (1 : Nat))), none⟩,
  ⟨some 8, (.binOp .gtr 2 (.tmp (7 : Nat)) (.const (.int .i64 1073741824)) 2), none⟩]
def s50_4 : List Slim := [⟨some 4, (.assign (.const (.int .i64 3))), none⟩]
def s50_5 : List Slim := [⟨some 9, (.move (.tmp (1 : Nat))), none⟩,
  ⟨some 10, (.move (.tmp (0 : Nat))), none⟩,
  ⟨some 11, (.nilCheck (.tmp (10 : Nat))), none⟩,
  ⟨some 12, (.fieldAddr 93 (.tmp (11 : Nat)) 1), none⟩,
  ⟨some 13, (.load 2 (.tmp (12 : Nat))), none⟩,
  ⟨some 14, (.binOp .lss 2 (.tmp (9 : Nat)) (.tmp (13 : Nat)) 2), none⟩]
def s50_6_1 : List Slim := [⟨some 23, (.nilCheck (.tmp (15 : Nat))), none⟩,
  ⟨some 24, (.fieldAddr 93 (.tmp (23 : Nat)) 0), none⟩,
  ⟨none, (.store 91 (.tmp (24 : Nat)) (.tmp (22 : Nat))), none⟩]
def s50_6 : List Slim := (⟨some 15, (.move (.tmp (0 : Nat))), none⟩ : Slim) ::
  (⟨some 16, (.move (.tmp (0 : Nat))), none⟩ : Slim) ::
  (⟨some 17, (.move (.tmp (1 : Nat))), none⟩ : Slim) ::
  (⟨some 18, (.move (.tmp (0 : Nat))), none⟩ : Slim) ::
  (⟨some 19, (.nilCheck (.tmp (18 : Nat))), none⟩ : Slim) ::
  (⟨some 20, (.fieldAddr 93 (.tmp (19 : Nat)) 1), none⟩ : Slim) ::
  (⟨some 21, (.load 2 (.tmp (20 : Nat))), none⟩ : Slim) ::
  (⟨some 22, (.call { callee := (.value (.func 65)), args := #[(.tmp (16 : Nat)), (.tmp (17 : Nat)), (.tmp (21 : Nat))], argTypes := #[64, 2, 2] }), none⟩ : Slim) ::
  s50_6_1
def s50_7 : List Slim := [⟨some 25, (.move (.tmp (0 : Nat))), none⟩,
  ⟨some 26, (.move (.tmp (1 : Nat))), none⟩,
  ⟨some 27, (.nilCheck (.tmp (25 : Nat))), none⟩,
  ⟨some 28, (.fieldAddr 93 (.tmp (27 : Nat)) 1), none⟩,
  ⟨none, (.store 2 (.tmp (28 : Nat)) (.tmp (26 : Nat))), none⟩]
def s50_8 : List Slim := [⟨some 4, (.assign (.const (.int .i64 0))), none⟩]
abbrev k51 : List Nat := [0, 1, 2, 6, 12, 22]
def s51_0 : List Slim := [⟨some 6, (.assign (.const (.int .i64 0))), none⟩]
def s51_1 : List Slim := [⟨some 7, (.move (.tmp (1 : Nat))), none⟩,
  ⟨some 8, (.binOp .lss 2 (.tmp (7 : Nat)) (.const (.int .i64 0)) 2), none⟩,
  ⟨some 9, (.move (.tmp (8 : Nat))), none⟩,
  ⟨some 10, (.move (.tmp (2 : Nat))), some (9, false)⟩,
  ⟨some 11, (.binOp .lss 2 (.tmp (10 : Nat)) (.const (.int .i64 0)) 2), some (9, false)⟩,
  ⟨some 12, (.pick (.tmp (9 : Nat)) (.const (.bool true)) (.tmp (11 : Nat))), none⟩]
def s51_2 : List Slim := [⟨some 6, (.assign (.const (.int .i64 2))), none⟩]
def s51_3 : List Slim := [⟨some 13, (.move (.tmp (1 : Nat))), none⟩,
  ⟨some 14, (.move (.tmp (0 : Nat))), none⟩,
  ⟨some 15, (.nilCheck (.tmp (14 : Nat))), none⟩,
  ⟨some 16, (.fieldAddr 93 (.tmp (15 : Nat)) 1), none⟩,
  ⟨some 17, (.load 2 (.tmp (16 : Nat))), none⟩,
  ⟨some 18, (.binOp .geq 2 (.tmp (13 : Nat)) (.tmp (17 : Nat)) 2), none⟩,
  ⟨some 19, (.move (.tmp (18 : Nat))), none⟩,
  ⟨some 20, (.move (.tmp (2 : Nat))), some (19, false)⟩,
  ⟨some 21, (.binOp .eql 2 (.tmp (20 : Nat)) (.const (.int .i64 0)) 2), some (19, false)⟩,
  ⟨some 22, (.pick (.tmp (19 : Nat)) (.const (.bool true)) (.tmp (21 : Nat))), none⟩]
def s51_4 : List Slim := [⟨some 6, (.assign (.const (.int .i64 0))), none⟩]
def s51_5_1 : List Slim := [⟨some 37, (.nilCheck (.tmp (23 : Nat))), none⟩,
  ⟨some 38, (.fieldAddr 93 (.tmp (37 : Nat)) 0), none⟩,
  ⟨none, (.store 91 (.tmp (38 : Nat)) (.tmp (36 : Nat))), none⟩]
def s51_5 : List Slim := (⟨some 23, (.move (.tmp (0 : Nat))), none⟩ : Slim) ::
  (⟨some 24, (.move (.tmp (0 : Nat))), none⟩ : Slim) ::
  (⟨some 25, (.move (.tmp (1 : Nat))), none⟩ : Slim) ::
  (⟨some 26, (.move (.tmp (1 : Nat))), none⟩ : Slim) ::
  (⟨some 27, (.move (.tmp (2 : Nat))), none⟩ : Slim) ::
  (⟨some 28, (.move (.tmp (0 : Nat))), none⟩ : Slim) ::
  (⟨some 29, (.nilCheck (.tmp (28 : Nat))), none⟩ : Slim) ::
  (⟨some 30, (.fieldAddr 93 (.tmp (29 : Nat)) 1), none⟩ : Slim) ::
  (⟨some 31, (.load 2 (.tmp (30 : Nat))), none⟩ : Slim) ::
  (⟨some 32, (.move (.tmp (1 : Nat))), none⟩ : Slim) ::
  (⟨some 33, (.binOp .sub 2 (.tmp (31 : Nat)) (.tmp (32 : Nat)) 2), none⟩ : Slim) ::
  (⟨some 34, (.call { callee := (.builtin .min), args := #[(.tmp (27 : Nat)), (.tmp (33 : Nat))], argTypes := #[2, 2] }), none⟩ : Slim) ::
  (⟨some 35, (.binOp .add 2 (.tmp (26 : Nat)) (.tmp (34 : Nat)) 2), none⟩ : Slim) ::
  (⟨some 36, (.call { callee := (.value (.func 65)), args := #[(.tmp (24 : Nat)), (.tmp (25 : Nat)), (.tmp (35 : Nat))], argTypes := #[64, 2, 2] }), none⟩ : Slim) ::
  s51_5_1
def s51_6 : List Slim := [⟨some 6, (.assign (.const (.int .i64 0))), none⟩]
abbrev k52 : List Nat := [0, 2]
def s52_0 : List Slim := [⟨some 2, (.assign (.const (.int .i64 0))), none⟩]
def s52_1 : List Slim := [⟨some 3, (.move (.tmp (0 : Nat))), none⟩,
  ⟨some 4, (.call { callee := (.builtin .min), args := #[(.tmp (3 : Nat)), (.const (.int .i64 2147483648))], argTypes := #[2, 2] }), none⟩,
  ⟨some 5, (.call { callee := (.builtin .max), args := #[(.const (.int .i64 (-2147483648))), (.tmp (4 : Nat))], argTypes := #[2, 2] }), none⟩,
  ⟨some 2, (.assign (.tmp (5 : Nat))), none⟩]
abbrev k53 : List Nat := [0, 1, 2, 6, 7, 8, 9, 10, 11, 25, 35, 50, 72]
def s53_0 : List Slim := [⟨some 6, (.assign (.const (.slice none 0 0))), none⟩]
def s53_1 : List Slim := [⟨some 12, (.move (.tmp (1 : Nat))), none⟩,
  ⟨some 13, (.binOp .lss 2 (.tmp (12 : Nat)) (.const (.int .i64 0)) 2), none⟩,
  ⟨some 14, (.move (.tmp (13 : Nat))), none⟩,
  ⟨some 15, (.move (.tmp (2 : Nat))), some (14, false)⟩,
  ⟨some 16, (.binOp .lss 3 (.tmp (15 : Nat)) (.const (.int .i64 0)) 3), some (14, false)⟩,
  ⟨some 17, (.pick (.tmp (14 : Nat)) (.const (.bool true)) (.tmp (16 : Nat))), none⟩,
  ⟨some 18, (.move (.tmp (17 : Nat))), none⟩,
  ⟨some 19, (.move (.tmp (1 : Nat))), some (18, false)⟩,
  ⟨some 20, (.move (.tmp (0 : Nat))), some (18, false)⟩,
  ⟨some 21, (.nilCheck (.tmp (20 : Nat))), some (18, false)⟩,
  ⟨some 22, (.fieldAddr 93 (.tmp (21 : Nat)) 1), some (18, false)⟩,
  ⟨some 23, (.load 2 (.tmp (22 : Nat))), some (18, false)⟩,
  ⟨some 24, (.binOp .geq 2 (.tmp (19 : Nat)) (.tmp (23 : Nat)) 2), some (18, false)⟩,
  ⟨some 25, (.pick (.tmp (18 : Nat)) (.const (.bool true)) (.tmp (24 : Nat))), none⟩]
def s53_2 : List Slim := [⟨some 6, (.assign (.const (.slice none 0 0))), none⟩]
def s53_3 : List Slim := [⟨some 26, (.move (.tmp (2 : Nat))), none⟩,
  ⟨some 27, (.call { callee := (.builtin .min), args := #[(.tmp (26 : Nat)), (.const (.int .i64 65536))], argTypes := #[3, 3] }), none⟩,
  ⟨some 2, (.assign (.tmp (27 : Nat))), none⟩]
def s53_4 : List Slim := [⟨some 28, (.move (.tmp (2 : Nat))), none⟩,
  ⟨some 29, (.move (.tmp (0 : Nat))), none⟩,
  ⟨some 30, (.nilCheck (.tmp (29 : Nat))), none⟩,
  ⟨some 31, (.fieldAddr 93 (.tmp (30 : Nat)) 1), none⟩,
  ⟨some 32, (.load 2 (.tmp (31 : Nat))), none⟩,
  ⟨some 33, (.move (.tmp (1 : Nat))), none⟩,
  ⟨some 34, (.binOp .sub 2 (.tmp (32 : Nat)) (.tmp (33 : Nat)) 2), none⟩,
  ⟨some 35, (.binOp .gtr 2 (.tmp (28 : Nat)) (.tmp (34 : Nat)) 2), none⟩]
def s53_5 : List Slim := [⟨some 36, (.move (.tmp (0 : Nat))), none⟩,
  ⟨some 37, (.nilCheck (.tmp (36 : Nat))), none⟩,
  ⟨some 38, (.fieldAddr 93 (.tmp (37 : Nat)) 1), none⟩,
  ⟨some 39, (.load 2 (.tmp (38 : Nat))), none⟩,
  ⟨some 40, (.move (.tmp (1 : Nat))), none⟩,
  ⟨some 41, (.binOp .sub 2 (.tmp (39 : Nat)) (.tmp (40 : Nat)) 2), none⟩,
  ⟨some 2, (.assign (.tmp (41 : Nat))), none⟩]
def s53_6 : List Slim := [⟨some 42, (.move (.tmp (2 : Nat))), none⟩,
  ⟨some 43, (.makeSlice 40 (.tmp (42 : Nat)) (.tmp (42 : Nat))), none⟩,
  ⟨some 7, (.assign (.tmp (43 : Nat))), none⟩]
def s53_7 : List Slim := [⟨some 8, (.assign (.const (.int .i64 0))), none⟩]
def s53_8 : List Slim := [⟨some 44, (.move (.tmp (8 : Nat))), none⟩,
  ⟨some 45, (.move (.tmp (0 : Nat))), none⟩,
  ⟨some 46, (.nilCheck (.tmp (45 : Nat))), none⟩,
  ⟨some 47, (.fieldAddr 93 (.tmp (46 : Nat)) 0), none⟩,
  ⟨some 48, (.load 91 (.tmp (47 : Nat))), none⟩,
  ⟨some 49, (.call { callee := (.builtin .len), args := #[(.tmp (48 : Nat))], argTypes := #[91] }), none⟩,
  ⟨some 50, (.binOp .lss 3 (.tmp (44 : Nat)) (.tmp (49 : Nat)) 3), none⟩]
def s53_10 : List Slim := [⟨some 53, (.move (.tmp (0 : Nat))), none⟩,
  ⟨some 54, (.nilCheck (.tmp (53 : Nat))), none⟩,
  ⟨some 55, (.fieldAddr 93 (.tmp (54 : Nat)) 0), none⟩,
  ⟨some 56, (.load 91 (.tmp (55 : Nat))), none⟩,
  ⟨some 57, (.move (.tmp (8 : Nat))), none⟩,
  ⟨some 58, (.indexAddr 91 (.tmp (56 : Nat)) (.tmp (57 : Nat))), none⟩,
  ⟨some 59, (.load 96 (.tmp (58 : Nat))), none⟩,
  ⟨some 9, (.alloc 96), none⟩,
  ⟨none, (.store 96 (.tmp (9 : Nat)) (.tmp (59 : Nat))), none⟩]
def s53_11 : List Slim := [⟨some 60, (.move (.tmp (1 : Nat))), none⟩,
  ⟨some 61, (.fieldAddr 96 (.tmp (9 : Nat)) 0), none⟩,
  ⟨some 62, (.load 2 (.tmp (61 : Nat))), none⟩,
  ⟨some 63, (.call { callee := (.builtin .max), args := #[(.tmp (60 : Nat)), (.tmp (62 : Nat))], argTypes := #[2, 2] }), none⟩,
  ⟨some 10, (.assign (.tmp (63 : Nat))), none⟩]
def s53_12_1 : List Slim := [⟨some 69, (.call { callee := (.builtin .min), args := #[(.tmp (66 : Nat)), (.tmp (68 : Nat))], argTypes := #[2, 2] }), none⟩,
  ⟨some 11, (.assign (.tmp (69 : Nat))), none⟩]
def s53_12 : List Slim := (⟨some 64, (.move (.tmp (1 : Nat))), none⟩ : Slim) ::
  (⟨some 65, (.move (.tmp (2 : Nat))), none⟩ : Slim) ::
  (⟨some 66, (.binOp .add 2 (.tmp (64 : Nat)) (.tmp (65 : Nat)) 2), none⟩ : Slim) ::
  (⟨some 67, (.load 96 (.tmp (9 : Nat))), none⟩ : Slim) ::
  (⟨some 68, (.call { callee := (.value (.func 66)), args := #[(.tmp (67 : Nat))], argTypes := #[96] }), none⟩ : Slim) ::
  s53_12_1
def s53_13 : List Slim := [⟨some 70, (.move (.tmp (10 : Nat))), none⟩,
  ⟨some 71, (.move (.tmp (11 : Nat))), none⟩,
  ⟨some 72, (.binOp .lss 2 (.tmp (70 : Nat)) (.tmp (71 : Nat)) 2), none⟩]
def s53_14 : List Slim := [⟨some 73, (.move (.tmp (7 : Nat))), none⟩,
  ⟨some 74, (.move (.tmp (10 : Nat))), none⟩,
  ⟨some 75, (.move (.tmp (1 : Nat))), none⟩,
  ⟨some 76, (.binOp .sub 2 (.tmp (74 : Nat)) (.tmp (75 : Nat)) 2), none⟩,
  ⟨some 77, (.move (.tmp (11 : Nat))), none⟩,
  ⟨some 78, (.move (.tmp (1 : Nat))), none⟩,
  ⟨some 79, (.binOp .sub 2 (.tmp (77 : Nat)) (.tmp (78 : Nat)) 2), none⟩,
  ⟨some 80, (.slice 40 (.tmp (73 : Nat)) (some (.tmp (76 : Nat))) (some (.tmp (79 : Nat))) none), none⟩,
  ⟨some 81, (.fieldAddr 96 (.tmp (9 : Nat)) 1), none⟩,
  ⟨some 82, (.load 40 (.tmp (81 : Nat))), none⟩,
  ⟨some 83, (.move (.tmp (10 : Nat))), none⟩,
  ⟨some 84, (.fieldAddr 96 (.tmp (9 : Nat)) 0), none⟩,
  ⟨some 85, (.load 2 (.tmp (84 : Nat))), none⟩,
  ⟨some 86, (.binOp .sub 2 (.tmp (83 : Nat)) (.tmp (85 : Nat)) 2), none⟩,
  ⟨some 87, (.move (.tmp (11 : Nat))), none⟩,
  ⟨some 88, (.fieldAddr 96 (.tmp (9 : Nat)) 0), none⟩,
  ⟨some 89, (.load 2 (.tmp (88 : Nat))), none⟩,
  ⟨some 90, (.binOp .sub 2 (.tmp (87 : Nat)) (.tmp (89 : Nat)) 2), none⟩,
  ⟨some 91, (.slice 40 (.tmp (82 : Nat)) (some (.tmp (86 : Nat))) (some (.tmp (90 : Nat))) none), none⟩,
  ⟨some 92, (.call { callee := (.builtin .copy), args := #[(.tmp (80 : Nat)), (.tmp (91 : Nat))], argTypes := #[40, 40] }), none⟩]
def p53_14 : Plan := (Plan.take 0 (Plan.take 1 (Plan.take 2 (Plan.take 3 (Plan.take 4 (Plan.take 5 (Plan.take 6 (Plan.take 7 (Plan.take 8 (Plan.take 9 (Plan.take 10 (Plan.take 11 (Plan.take 12 (Plan.take 13 (Plan.take 14 (Plan.take 15 (Plan.take 16 (Plan.take 17 (Plan.take 18 (Plan.eff 19 false Plan.nil))))))))))))))))))))
def s53_9 : List Slim := [⟨some 51, (.move (.tmp (8 : Nat))), none⟩,
  ⟨some 52, (.binOp .add 3 (.tmp (51 : Nat)) (.const (.int .i64 1)) 3), none⟩,
  ⟨some 8, (.assign (.tmp (52 : Nat))), none⟩]
def s53_15 : List Slim := [⟨some 93, (.move (.tmp (7 : Nat))), none⟩,
  ⟨some 6, (.assign (.tmp (93 : Nat))), none⟩]
abbrev k54 : List Nat := [0, 1, 4, 5, 6, 15, 27]
def s54_0 : List Slim := [⟨some 4, (.assign (.const (.int .i64 0))), none⟩,
  ⟨some 5, (.assign (.const (.int .i64 0))), none⟩]
def s54_1 : List Slim := [⟨some 7, (.move (.tmp (1 : Nat))), none⟩,
  ⟨some 8, (.call { callee := (.builtin .max), args := #[(.tmp (7 : Nat)), (.const (.int .i64 0))], argTypes := #[2, 2] }), none⟩,
  ⟨some 1, (.assign (.tmp (8 : Nat))), none⟩]
def s54_2 : List Slim := [⟨some 6, (.assign (.const (.int .i64 0))), none⟩]
def s54_3 : List Slim := [⟨some 9, (.move (.tmp (6 : Nat))), none⟩,
  ⟨some 10, (.move (.tmp (0 : Nat))), none⟩,
  ⟨some 11, (.nilCheck (.tmp (10 : Nat))), none⟩,
  ⟨some 12, (.fieldAddr 93 (.tmp (11 : Nat)) 0), none⟩,
  ⟨some 13, (.load 91 (.tmp (12 : Nat))), none⟩,
  ⟨some 14, (.call { callee := (.builtin .len), args := #[(.tmp (13 : Nat))], argTypes := #[91] }), none⟩,
  ⟨some 15, (.binOp .lss 3 (.tmp (9 : Nat)) (.tmp (14 : Nat)) 3), none⟩]
def s54_5_1 : List Slim := [⟨some 26, (.move (.tmp (1 : Nat))), none⟩,
  ⟨some 27, (.binOp .gtr 2 (.tmp (25 : Nat)) (.tmp (26 : Nat)) 2), none⟩]
def s54_5 : List Slim := (⟨some 18, (.move (.tmp (0 : Nat))), none⟩ : Slim) ::
  (⟨some 19, (.nilCheck (.tmp (18 : Nat))), none⟩ : Slim) ::
  (⟨some 20, (.fieldAddr 93 (.tmp (19 : Nat)) 0), none⟩ : Slim) ::
  (⟨some 21, (.load 91 (.tmp (20 : Nat))), none⟩ : Slim) ::
  (⟨some 22, (.move (.tmp (6 : Nat))), none⟩ : Slim) ::
  (⟨some 23, (.indexAddr 91 (.tmp (21 : Nat)) (.tmp (22 : Nat))), none⟩ : Slim) ::
  (⟨some 24, (.load 96 (.tmp (23 : Nat))), none⟩ : Slim) ::
  (⟨some 25, (.call { callee := (.value (.func 66)), args := #[(.tmp (24 : Nat))], argTypes := #[96] }), none⟩ : Slim) ::
  s54_5_1
def s54_6 : List Slim := [⟨some 28, (.move (.tmp (1 : Nat))), none⟩,
  ⟨some 29, (.move (.tmp (0 : Nat))), none⟩,
  ⟨some 30, (.nilCheck (.tmp (29 : Nat))), none⟩,
  ⟨some 31, (.fieldAddr 93 (.tmp (30 : Nat)) 0), none⟩,
  ⟨some 32, (.load 91 (.tmp (31 : Nat))), none⟩,
  ⟨some 33, (.move (.tmp (6 : Nat))), none⟩,
  ⟨some 34, (.indexAddr 91 (.tmp (32 : Nat)) (.tmp (33 : Nat))), none⟩,
  ⟨some 35, (.fieldAddr 96 (.tmp (34 : Nat)) 0), none⟩,
  ⟨some 36, (.load 2 (.tmp (35 : Nat))), none⟩,
  ⟨some 37, (.call { callee := (.builtin .max), args := #[(.tmp (28 : Nat)), (.tmp (36 : Nat))], argTypes := #[2, 2] }), none⟩,
  ⟨some 38, (.move (.tmp (0 : Nat))), none⟩,
  ⟨some 39, (.nilCheck (.tmp (38 : Nat))), none⟩,
  ⟨some 40, (.fieldAddr 93 (.tmp (39 : Nat)) 0), none⟩,
  ⟨some 41, (.load 91 (.tmp (40 : Nat))), none⟩,
  ⟨some 42, (.move (.tmp (6 : Nat))), none⟩,
  ⟨some 43, (.indexAddr 91 (.tmp (41 : Nat)) (.tmp (42 : Nat))), none⟩,
  ⟨some 44, (.load 96 (.tmp (43 : Nat))), none⟩,
  ⟨some 45, (.call { callee := (.value (.func 66)), args := #[(.tmp (44 : Nat))], argTypes := #[96] }), none⟩,
  ⟨some 4, (.assign (.tmp (37 : Nat))), none⟩,
  ⟨some 5, (.assign (.tmp (45 : Nat))), none⟩]
def p54_6 : Plan := (Plan.take 0 (Plan.take 1 (Plan.take 2 (Plan.take 3 (Plan.take 4 (Plan.take 5 (Plan.take 6 (Plan.take 7 (Plan.take 8 (Plan.take 9 (Plan.take 10 (Plan.take 11 (Plan.take 12 (Plan.take 13 (Plan.take 14 (Plan.take 15 (Plan.take 16 (Plan.eff 17 true (Plan.take 18 (Plan.take 19 Plan.nil))))))))))))))))))))
def s54_4 : List Slim := [⟨some 16, (.move (.tmp (6 : Nat))), none⟩,
  ⟨some 17, (.binOp .add 3 (.tmp (16 : Nat)) (.const (.int .i64 1)) 3), none⟩,
  ⟨some 6, (.assign (.tmp (17 : Nat))), none⟩]
def s54_7 : List Slim := [⟨some 46, (.move (.tmp (0 : Nat))), none⟩,
  ⟨some 47, (.nilCheck (.tmp (46 : Nat))), none⟩,
  ⟨some 48, (.fieldAddr 93 (.tmp (47 : Nat)) 1), none⟩,
  ⟨some 49, (.load 2 (.tmp (48 : Nat))), none⟩,
  ⟨some 50, (.move (.tmp (0 : Nat))), none⟩,
  ⟨some 51, (.nilCheck (.tmp (50 : Nat))), none⟩,
  ⟨some 52, (.fieldAddr 93 (.tmp (51 : Nat)) 1), none⟩,
  ⟨some 53, (.load 2 (.tmp (52 : Nat))), none⟩,
  ⟨some 4, (.assign (.tmp (49 : Nat))), none⟩,
  ⟨some 5, (.assign (.tmp (53 : Nat))), none⟩]
def p54_7 : Plan := (Plan.take 0 (Plan.take 1 (Plan.take 2 (Plan.take 3 (Plan.take 4 (Plan.take 5 (Plan.take 6 (Plan.take 7 (Plan.take 8 (Plan.take 9 Plan.nil))))))))))
end Go.Proofs.Ytpdklpeojjkkaaa
