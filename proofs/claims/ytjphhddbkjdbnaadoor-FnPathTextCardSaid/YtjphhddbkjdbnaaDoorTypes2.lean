/- The types of the program, looked up. -/
import Derived.Test.YtjphhddbkjdbnaaDoorBaseD
import Derived.Test.YtjphhddbkjdbnaaDoorProg
set_option linter.unusedVariables false
set_option linter.unusedSimpArgs false
namespace Go.TT
set_option linter.unusedSectionVars false
variable [Go.Vg.Glob]
open Go.Proofs Go.Vg Go.RowKit
set_option maxRecDepth 10000
def tes : List (TypeId × TI) := [(2, ⟨.int .i64, 1, 8, [.i .i64 0], false⟩),
  (3, ⟨.int .i64, 1, 8, [.i .i64 0], false⟩),
  (4, ⟨.bool, 1, 1, [.b false], false⟩),
  (5, ⟨.int .u8, 1, 1, [.i .u8 0], false⟩),
  (6, ⟨.int .u8, 1, 1, [.i .u8 0], false⟩),
  (7, ⟨.struct [(2, 0), (3, 1), (4, 2), (6, 3)], 4, 24, [.i .i64 0, .i .i64 0, .b false, .i .u8 0], true⟩),
  (8, ⟨.struct [(2, 0), (3, 1), (4, 2), (6, 3)], 4, 24, [.i .i64 0, .i .i64 0, .b false, .i .u8 0], true⟩),
  (9, ⟨.str, 1, 16, [.s []], false⟩),
  (10, ⟨.str, 1, 16, [.s []], false⟩),
  (11, ⟨.str, 1, 16, [.s []], false⟩),
  (21, ⟨.int .i32, 1, 4, [.i .i32 0], false⟩),
  (22, ⟨.slice 40, 1, 24, [.nils], false⟩),
  (25, ⟨.slice 34, 1, 24, [.nils], false⟩),
  (29, ⟨.slice 5, 1, 24, [.nils], false⟩),
  (33, ⟨.struct [(3, 0), (3, 1), (9, 2)], 3, 32, [.i .i64 0, .i .i64 0, .s []], true⟩),
  (34, ⟨.struct [(3, 0), (3, 1), (9, 2)], 3, 32, [.i .i64 0, .i .i64 0, .s []], true⟩),
  (40, ⟨.struct [(3, 0), (3, 1), (9, 2)], 3, 32, [.i .i64 0, .i .i64 0, .s []], true⟩),
  (45, ⟨.slice 9, 1, 24, [.nils], false⟩),
  (67, ⟨.struct [(29, 0), (3, 1), (3, 2)], 3, 40, [.nils, .i .i64 0, .i .i64 0], false⟩),
  (68, ⟨.struct [(29, 0), (3, 1), (3, 2)], 3, 40, [.nils, .i .i64 0, .i .i64 0], false⟩),
  (89, ⟨.struct [(5, 0), (5, 1)], 2, 2, [.i .u8 0, .i .u8 0], true⟩),
  (90, ⟨.struct [(5, 0), (5, 1)], 2, 2, [.i .u8 0, .i .u8 0], true⟩),
  (101, ⟨.int .u8, 1, 1, [.i .u8 0], false⟩),
  (102, ⟨.int .u8, 1, 1, [.i .u8 0], false⟩),
  (104, ⟨.int .i32, 1, 4, [.i .i32 0], false⟩),
  (105, ⟨.int .i32, 1, 4, [.i .i32 0], false⟩)]
def te : TE := teOf tes
theorem mixed_ok : Tryd.prog.follows .mixedOrders = true := by kernel_rfl
theorem te_ok : teOk Tryd.prog te := teOf_ok (by kernel_rfl)
theorem te_2 : te 2 = some ⟨.int .i64, 1, 8, [.i .i64 0], false⟩ := id rfl
theorem te_3 : te 3 = some ⟨.int .i64, 1, 8, [.i .i64 0], false⟩ := id rfl
theorem te_4 : te 4 = some ⟨.bool, 1, 1, [.b false], false⟩ := id rfl
theorem te_5 : te 5 = some ⟨.int .u8, 1, 1, [.i .u8 0], false⟩ := id rfl
theorem te_6 : te 6 = some ⟨.int .u8, 1, 1, [.i .u8 0], false⟩ := id rfl
theorem te_7 : te 7 = some ⟨.struct [(2, 0), (3, 1), (4, 2), (6, 3)], 4, 24, [.i .i64 0, .i .i64 0, .b false, .i .u8 0], true⟩ := id rfl
theorem te_8 : te 8 = some ⟨.struct [(2, 0), (3, 1), (4, 2), (6, 3)], 4, 24, [.i .i64 0, .i .i64 0, .b false, .i .u8 0], true⟩ := id rfl
theorem te_9 : te 9 = some ⟨.str, 1, 16, [.s []], false⟩ := id rfl
theorem te_10 : te 10 = some ⟨.str, 1, 16, [.s []], false⟩ := id rfl
theorem te_11 : te 11 = some ⟨.str, 1, 16, [.s []], false⟩ := id rfl
theorem te_21 : te 21 = some ⟨.int .i32, 1, 4, [.i .i32 0], false⟩ := id rfl
theorem te_22 : te 22 = some ⟨.slice 40, 1, 24, [.nils], false⟩ := id rfl
theorem te_25 : te 25 = some ⟨.slice 34, 1, 24, [.nils], false⟩ := id rfl
theorem te_29 : te 29 = some ⟨.slice 5, 1, 24, [.nils], false⟩ := id rfl
theorem te_33 : te 33 = some ⟨.struct [(3, 0), (3, 1), (9, 2)], 3, 32, [.i .i64 0, .i .i64 0, .s []], true⟩ := id rfl
theorem te_34 : te 34 = some ⟨.struct [(3, 0), (3, 1), (9, 2)], 3, 32, [.i .i64 0, .i .i64 0, .s []], true⟩ := id rfl
theorem te_40 : te 40 = some ⟨.struct [(3, 0), (3, 1), (9, 2)], 3, 32, [.i .i64 0, .i .i64 0, .s []], true⟩ := id rfl
theorem te_45 : te 45 = some ⟨.slice 9, 1, 24, [.nils], false⟩ := id rfl
theorem te_67 : te 67 = some ⟨.struct [(29, 0), (3, 1), (3, 2)], 3, 40, [.nils, .i .i64 0, .i .i64 0], false⟩ := id rfl
theorem te_68 : te 68 = some ⟨.struct [(29, 0), (3, 1), (3, 2)], 3, 40, [.nils, .i .i64 0, .i .i64 0], false⟩ := id rfl
theorem te_89 : te 89 = some ⟨.struct [(5, 0), (5, 1)], 2, 2, [.i .u8 0, .i .u8 0], true⟩ := id rfl
theorem te_90 : te 90 = some ⟨.struct [(5, 0), (5, 1)], 2, 2, [.i .u8 0, .i .u8 0], true⟩ := id rfl
theorem te_101 : te 101 = some ⟨.int .u8, 1, 1, [.i .u8 0], false⟩ := id rfl
theorem te_102 : te 102 = some ⟨.int .u8, 1, 1, [.i .u8 0], false⟩ := id rfl
theorem te_104 : te 104 = some ⟨.int .i32, 1, 4, [.i .i32 0], false⟩ := id rfl
theorem te_105 : te 105 = some ⟨.int .i32, 1, 4, [.i .i32 0], false⟩ := id rfl
theorem TES : type_of% (And.intro (And.intro (And.intro (And.intro (@te_2) (And.intro (@te_3) (@te_4))) (And.intro (@te_5) (And.intro (@te_6) (@te_7)))) (And.intro (And.intro (@te_8) (And.intro (@te_9) (@te_10))) (And.intro (And.intro (@te_11) (@te_21)) (And.intro (@te_22) (@te_25))))) (And.intro (And.intro (And.intro (@te_29) (And.intro (@te_33) (@te_34))) (And.intro (@te_40) (And.intro (@te_45) (@te_67)))) (And.intro (And.intro (@te_68) (And.intro (@te_89) (@te_90))) (And.intro (And.intro (@te_101) (@te_102)) (And.intro (@te_104) (@te_105)))))) := And.intro (And.intro (And.intro (And.intro (@te_2) (And.intro (@te_3) (@te_4))) (And.intro (@te_5) (And.intro (@te_6) (@te_7)))) (And.intro (And.intro (@te_8) (And.intro (@te_9) (@te_10))) (And.intro (And.intro (@te_11) (@te_21)) (And.intro (@te_22) (@te_25))))) (And.intro (And.intro (And.intro (@te_29) (And.intro (@te_33) (@te_34))) (And.intro (@te_40) (And.intro (@te_45) (@te_67)))) (And.intro (And.intro (@te_68) (And.intro (@te_89) (@te_90))) (And.intro (And.intro (@te_101) (@te_102)) (And.intro (@te_104) (@te_105)))))
end Go.TT
