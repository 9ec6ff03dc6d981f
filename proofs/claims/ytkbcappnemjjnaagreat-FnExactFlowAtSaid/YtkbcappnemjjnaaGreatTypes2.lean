/- The types of the program, looked up. -/
import Derived.Test.YtkbcappnemjjnaaGreatBaseD
import Derived.Test.YtkbcappnemjjnaaGreatProg
set_option linter.unusedVariables false
set_option linter.unusedSimpArgs false
namespace Go.TT
open Go.Proofs Go.Vg Go.RowKit
set_option maxRecDepth 10000
def tes : List (TypeId × TI) := [(2, ⟨.int .i64, 1, 8, [.i .i64 0], false⟩),
  (3, ⟨.int .i64, 1, 8, [.i .i64 0], false⟩),
  (4, ⟨.bool, 1, 1, [.b false], false⟩),
  (5, ⟨.int .u8, 1, 1, [.i .u8 0], false⟩),
  (6, ⟨.int .u8, 1, 1, [.i .u8 0], false⟩),
  (7, ⟨.struct [(2, 0), (3, 1), (4, 2), (6, 3)], 4, 24, [.i .i64 0, .i .i64 0, .b false, .i .u8 0], true⟩),
  (8, ⟨.struct [(2, 0), (3, 1), (4, 2), (6, 3)], 4, 24, [.i .i64 0, .i .i64 0, .b false, .i .u8 0], true⟩),
  (9, ⟨.str, 1, 16, [.s []], false⟩),
  (10, ⟨.str, 1, 16, [.s []], false⟩),
  (11, ⟨.str, 1, 16, [.s []], false⟩),
  (21, ⟨.int .i32, 1, 4, [.i .i32 0], false⟩),
  (22, ⟨.slice 47, 1, 24, [.nils], false⟩),
  (30, ⟨.slice 82, 1, 24, [.nils], false⟩),
  (31, ⟨.slice 97, 1, 24, [.nils], false⟩),
  (32, ⟨.struct [(9, 0), (3, 1), (22, 2), (3, 3), (3, 4), (3, 5), (30, 6), (31, 7), (3, 8)], 9, 128, [.s [], .i .i64 0, .nils, .i .i64 0, .i .i64 0, .i .i64 0, .nils, .nils, .i .i64 0], false⟩),
  (33, ⟨.struct [(9, 0), (3, 1), (22, 2), (3, 3), (3, 4), (3, 5), (30, 6), (31, 7), (3, 8)], 9, 128, [.s [], .i .i64 0, .nils, .i .i64 0, .i .i64 0, .i .i64 0, .nils, .nils, .i .i64 0], false⟩),
  (41, ⟨.slice 4, 1, 24, [.nils], false⟩),
  (42, ⟨.map 9 3, 1, 8, [.u], false⟩),
  (43, ⟨.struct [(9, 0), (3, 1), (22, 2), (41, 3), (42, 4), (31, 5), (3, 6), (3, 7), (3, 8), (4, 9), (3, 10)], 11, 144, [.s [], .i .i64 0, .nils, .nils, .u, .nils, .i .i64 0, .i .i64 0, .i .i64 0, .b false, .i .i64 0], false⟩),
  (44, ⟨.struct [(9, 0), (3, 1), (22, 2), (41, 3), (42, 4), (31, 5), (3, 6), (3, 7), (3, 8), (4, 9), (3, 10)], 11, 144, [.s [], .i .i64 0, .nils, .nils, .u, .nils, .i .i64 0, .i .i64 0, .i .i64 0, .b false, .i .i64 0], false⟩),
  (46, ⟨.struct [(3, 0), (3, 1), (4, 2), (9, 3), (9, 4), (9, 5), (3, 6), (3, 7)], 8, 88, [.i .i64 0, .i .i64 0, .b false, .s [], .s [], .s [], .i .i64 0, .i .i64 0], true⟩),
  (47, ⟨.struct [(3, 0), (3, 1), (4, 2), (9, 3), (9, 4), (9, 5), (3, 6), (3, 7)], 8, 88, [.i .i64 0, .i .i64 0, .b false, .s [], .s [], .s [], .i .i64 0, .i .i64 0], true⟩),
  (56, ⟨.struct [(4, 0), (9, 1), (9, 2), (3, 3), (3, 4)], 5, 56, [.b false, .s [], .s [], .i .i64 0, .i .i64 0], true⟩),
  (57, ⟨.struct [(4, 0), (9, 1), (9, 2), (3, 3), (3, 4)], 5, 56, [.b false, .s [], .s [], .i .i64 0, .i .i64 0], true⟩),
  (61, ⟨.slice 5, 1, 24, [.nils], false⟩),
  (81, ⟨.struct [(9, 0), (4, 1)], 2, 24, [.s [], .b false], true⟩),
  (82, ⟨.struct [(9, 0), (4, 1)], 2, 24, [.s [], .b false], true⟩),
  (87, ⟨.struct [(9, 0), (4, 1)], 2, 24, [.s [], .b false], true⟩),
  (88, ⟨.struct [(9, 0), (4, 1)], 2, 24, [.s [], .b false], true⟩),
  (89, ⟨.slice 88, 1, 24, [.nils], false⟩),
  (96, ⟨.struct [(9, 0), (9, 1)], 2, 32, [.s [], .s []], true⟩),
  (97, ⟨.struct [(9, 0), (9, 1)], 2, 32, [.s [], .s []], true⟩),
  (103, ⟨.struct [(9, 0), (3, 1), (89, 2), (9, 3), (3, 4)], 5, 72, [.s [], .i .i64 0, .nils, .s [], .i .i64 0], false⟩),
  (104, ⟨.struct [(9, 0), (3, 1), (89, 2), (9, 3), (3, 4)], 5, 72, [.s [], .i .i64 0, .nils, .s [], .i .i64 0], false⟩),
  (110, ⟨.slice 3, 1, 24, [.nils], false⟩),
  (113, ⟨.map 3 3, 1, 8, [.u], false⟩),
  (144, ⟨.int .u8, 1, 1, [.i .u8 0], false⟩),
  (145, ⟨.int .u8, 1, 1, [.i .u8 0], false⟩),
  (147, ⟨.int .i32, 1, 4, [.i .i32 0], false⟩),
  (148, ⟨.int .i32, 1, 4, [.i .i32 0], false⟩)]
def te : TE := teOf tes
theorem mixed_ok : Tryz.prog.follows .mixedOrders = true := by kernel_rfl
theorem te_ok : teOk Tryz.prog te := teOf_ok (by kernel_rfl)
theorem te_2 : te 2 = some ⟨.int .i64, 1, 8, [.i .i64 0], false⟩ := id rfl
theorem te_3 : te 3 = some ⟨.int .i64, 1, 8, [.i .i64 0], false⟩ := id rfl
theorem te_4 : te 4 = some ⟨.bool, 1, 1, [.b false], false⟩ := id rfl
theorem te_5 : te 5 = some ⟨.int .u8, 1, 1, [.i .u8 0], false⟩ := id rfl
theorem te_6 : te 6 = some ⟨.int .u8, 1, 1, [.i .u8 0], false⟩ := id rfl
theorem te_7 : te 7 = some ⟨.struct [(2, 0), (3, 1), (4, 2), (6, 3)], 4, 24, [.i .i64 0, .i .i64 0, .b false, .i .u8 0], true⟩ := id rfl
theorem te_8 : te 8 = some ⟨.struct [(2, 0), (3, 1), (4, 2), (6, 3)], 4, 24, [.i .i64 0, .i .i64 0, .b false, .i .u8 0], true⟩ := id rfl
theorem te_9 : te 9 = some ⟨.str, 1, 16, [.s []], false⟩ := id rfl
theorem te_10 : te 10 = some ⟨.str, 1, 16, [.s []], false⟩ := id rfl
theorem te_11 : te 11 = some ⟨.str, 1, 16, [.s []], false⟩ := id rfl
theorem te_21 : te 21 = some ⟨.int .i32, 1, 4, [.i .i32 0], false⟩ := id rfl
theorem te_22 : te 22 = some ⟨.slice 47, 1, 24, [.nils], false⟩ := id rfl
theorem te_30 : te 30 = some ⟨.slice 82, 1, 24, [.nils], false⟩ := id rfl
theorem te_31 : te 31 = some ⟨.slice 97, 1, 24, [.nils], false⟩ := id rfl
theorem te_32 : te 32 = some ⟨.struct [(9, 0), (3, 1), (22, 2), (3, 3), (3, 4), (3, 5), (30, 6), (31, 7), (3, 8)], 9, 128, [.s [], .i .i64 0, .nils, .i .i64 0, .i .i64 0, .i .i64 0, .nils, .nils, .i .i64 0], false⟩ := id rfl
theorem te_33 : te 33 = some ⟨.struct [(9, 0), (3, 1), (22, 2), (3, 3), (3, 4), (3, 5), (30, 6), (31, 7), (3, 8)], 9, 128, [.s [], .i .i64 0, .nils, .i .i64 0, .i .i64 0, .i .i64 0, .nils, .nils, .i .i64 0], false⟩ := id rfl
theorem te_41 : te 41 = some ⟨.slice 4, 1, 24, [.nils], false⟩ := id rfl
theorem te_42 : te 42 = some ⟨.map 9 3, 1, 8, [.u], false⟩ := id rfl
theorem te_43 : te 43 = some ⟨.struct [(9, 0), (3, 1), (22, 2), (41, 3), (42, 4), (31, 5), (3, 6), (3, 7), (3, 8), (4, 9), (3, 10)], 11, 144, [.s [], .i .i64 0, .nils, .nils, .u, .nils, .i .i64 0, .i .i64 0, .i .i64 0, .b false, .i .i64 0], false⟩ := id rfl
theorem te_44 : te 44 = some ⟨.struct [(9, 0), (3, 1), (22, 2), (41, 3), (42, 4), (31, 5), (3, 6), (3, 7), (3, 8), (4, 9), (3, 10)], 11, 144, [.s [], .i .i64 0, .nils, .nils, .u, .nils, .i .i64 0, .i .i64 0, .i .i64 0, .b false, .i .i64 0], false⟩ := id rfl
theorem te_46 : te 46 = some ⟨.struct [(3, 0), (3, 1), (4, 2), (9, 3), (9, 4), (9, 5), (3, 6), (3, 7)], 8, 88, [.i .i64 0, .i .i64 0, .b false, .s [], .s [], .s [], .i .i64 0, .i .i64 0], true⟩ := id rfl
theorem te_47 : te 47 = some ⟨.struct [(3, 0), (3, 1), (4, 2), (9, 3), (9, 4), (9, 5), (3, 6), (3, 7)], 8, 88, [.i .i64 0, .i .i64 0, .b false, .s [], .s [], .s [], .i .i64 0, .i .i64 0], true⟩ := id rfl
theorem te_56 : te 56 = some ⟨.struct [(4, 0), (9, 1), (9, 2), (3, 3), (3, 4)], 5, 56, [.b false, .s [], .s [], .i .i64 0, .i .i64 0], true⟩ := id rfl
theorem te_57 : te 57 = some ⟨.struct [(4, 0), (9, 1), (9, 2), (3, 3), (3, 4)], 5, 56, [.b false, .s [], .s [], .i .i64 0, .i .i64 0], true⟩ := id rfl
theorem te_61 : te 61 = some ⟨.slice 5, 1, 24, [.nils], false⟩ := id rfl
theorem te_81 : te 81 = some ⟨.struct [(9, 0), (4, 1)], 2, 24, [.s [], .b false], true⟩ := id rfl
theorem te_82 : te 82 = some ⟨.struct [(9, 0), (4, 1)], 2, 24, [.s [], .b false], true⟩ := id rfl
theorem te_87 : te 87 = some ⟨.struct [(9, 0), (4, 1)], 2, 24, [.s [], .b false], true⟩ := id rfl
theorem te_88 : te 88 = some ⟨.struct [(9, 0), (4, 1)], 2, 24, [.s [], .b false], true⟩ := id rfl
theorem te_89 : te 89 = some ⟨.slice 88, 1, 24, [.nils], false⟩ := id rfl
theorem te_96 : te 96 = some ⟨.struct [(9, 0), (9, 1)], 2, 32, [.s [], .s []], true⟩ := id rfl
theorem te_97 : te 97 = some ⟨.struct [(9, 0), (9, 1)], 2, 32, [.s [], .s []], true⟩ := id rfl
theorem te_103 : te 103 = some ⟨.struct [(9, 0), (3, 1), (89, 2), (9, 3), (3, 4)], 5, 72, [.s [], .i .i64 0, .nils, .s [], .i .i64 0], false⟩ := id rfl
theorem te_104 : te 104 = some ⟨.struct [(9, 0), (3, 1), (89, 2), (9, 3), (3, 4)], 5, 72, [.s [], .i .i64 0, .nils, .s [], .i .i64 0], false⟩ := id rfl
theorem te_110 : te 110 = some ⟨.slice 3, 1, 24, [.nils], false⟩ := id rfl
theorem te_113 : te 113 = some ⟨.map 3 3, 1, 8, [.u], false⟩ := id rfl
theorem te_144 : te 144 = some ⟨.int .u8, 1, 1, [.i .u8 0], false⟩ := id rfl
theorem te_145 : te 145 = some ⟨.int .u8, 1, 1, [.i .u8 0], false⟩ := id rfl
theorem te_147 : te 147 = some ⟨.int .i32, 1, 4, [.i .i32 0], false⟩ := id rfl
theorem te_148 : te 148 = some ⟨.int .i32, 1, 4, [.i .i32 0], false⟩ := id rfl
theorem TES : type_of% (And.intro (And.intro (And.intro (And.intro (And.intro (@te_2) (@te_3)) (And.intro (@te_4) (And.intro (@te_5) (@te_6)))) (And.intro (And.intro (@te_7) (@te_8)) (And.intro (@te_9) (And.intro (@te_10) (@te_11))))) (And.intro (And.intro (And.intro (@te_21) (@te_22)) (And.intro (@te_30) (And.intro (@te_31) (@te_32)))) (And.intro (And.intro (@te_33) (@te_41)) (And.intro (@te_42) (And.intro (@te_43) (@te_44)))))) (And.intro (And.intro (And.intro (And.intro (@te_46) (@te_47)) (And.intro (@te_56) (And.intro (@te_57) (@te_61)))) (And.intro (And.intro (@te_81) (@te_82)) (And.intro (@te_87) (And.intro (@te_88) (@te_89))))) (And.intro (And.intro (And.intro (@te_96) (@te_97)) (And.intro (@te_103) (And.intro (@te_104) (@te_110)))) (And.intro (And.intro (@te_113) (@te_144)) (And.intro (@te_145) (And.intro (@te_147) (@te_148))))))) := And.intro (And.intro (And.intro (And.intro (And.intro (@te_2) (@te_3)) (And.intro (@te_4) (And.intro (@te_5) (@te_6)))) (And.intro (And.intro (@te_7) (@te_8)) (And.intro (@te_9) (And.intro (@te_10) (@te_11))))) (And.intro (And.intro (And.intro (@te_21) (@te_22)) (And.intro (@te_30) (And.intro (@te_31) (@te_32)))) (And.intro (And.intro (@te_33) (@te_41)) (And.intro (@te_42) (And.intro (@te_43) (@te_44)))))) (And.intro (And.intro (And.intro (And.intro (@te_46) (@te_47)) (And.intro (@te_56) (And.intro (@te_57) (@te_61)))) (And.intro (And.intro (@te_81) (@te_82)) (And.intro (@te_87) (And.intro (@te_88) (@te_89))))) (And.intro (And.intro (And.intro (@te_96) (@te_97)) (And.intro (@te_103) (And.intro (@te_104) (@te_110)))) (And.intro (And.intro (@te_113) (@te_144)) (And.intro (@te_145) (And.intro (@te_147) (@te_148))))))
end Go.TT
