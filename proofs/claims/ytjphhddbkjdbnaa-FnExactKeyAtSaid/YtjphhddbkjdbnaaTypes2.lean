/- The types of the program, looked up. -/
import Derived.Test.YtjphhddbkjdbnaaBaseD
import Derived.Test.YtjphhddbkjdbnaaProg
namespace Go.TT
open Go.Proofs Go.Vg Go.RowKit
set_option maxRecDepth 10000
def tes : List (TypeId × TI) := [(2, ⟨.int .i64, 1, 8, [.i .i64 0], false⟩),
  (3, ⟨.int .i64, 1, 8, [.i .i64 0], false⟩),
  (4, ⟨.bool, 1, 1, [.b false], false⟩),
  (5, ⟨.int .u8, 1, 1, [.i .u8 0], false⟩),
  (6, ⟨.int .u8, 1, 1, [.i .u8 0], false⟩),
  (7, ⟨.struct [(2, 0), (3, 1), (4, 2), (6, 3)], 4, 24, [.i .i64 0, .i .i64 0, .b false, .i .u8 0], true⟩),
  (8, ⟨.struct [(2, 0), (3, 1), (4, 2), (6, 3)], 4, 24, [.i .i64 0, .i .i64 0, .b false, .i .u8 0], true⟩),
  (9, ⟨.str, 1, 16, [.s []], false⟩),
  (10, ⟨.str, 1, 16, [.s []], false⟩),
  (11, ⟨.str, 1, 16, [.s []], false⟩),
  (21, ⟨.int .i32, 1, 4, [.i .i32 0], false⟩),
  (22, ⟨.slice 53, 1, 24, [.nils], false⟩),
  (25, ⟨.slice 54, 1, 24, [.nils], false⟩),
  (32, ⟨.slice 3, 1, 24, [.nils], false⟩),
  (37, ⟨.slice 69, 1, 24, [.nils], false⟩),
  (41, ⟨.slice 74, 1, 24, [.nils], false⟩),
  (42, ⟨.struct [(41, 0), (32, 1)], 2, 48, [.nils, .nils], false⟩),
  (43, ⟨.struct [(41, 0), (32, 1)], 2, 48, [.nils, .nils], false⟩),
  (52, ⟨.struct [(3, 0), (3, 1), (4, 2), (9, 3), (9, 4), (9, 5), (3, 6), (3, 7)], 8, 88, [.i .i64 0, .i .i64 0, .b false, .s [], .s [], .s [], .i .i64 0, .i .i64 0], true⟩),
  (53, ⟨.struct [(3, 0), (3, 1), (4, 2), (9, 3), (9, 4), (9, 5), (3, 6), (3, 7)], 8, 88, [.i .i64 0, .i .i64 0, .b false, .s [], .s [], .s [], .i .i64 0, .i .i64 0], true⟩),
  (54, ⟨.struct [(3, 0), (3, 1), (4, 2), (9, 3), (9, 4), (9, 5), (3, 6), (3, 7)], 8, 88, [.i .i64 0, .i .i64 0, .b false, .s [], .s [], .s [], .i .i64 0, .i .i64 0], true⟩),
  (56, ⟨.struct [(25, 0), (32, 1), (32, 2), (32, 3)], 4, 96, [.nils, .nils, .nils, .nils], false⟩),
  (57, ⟨.struct [(25, 0), (32, 1), (32, 2), (32, 3)], 4, 96, [.nils, .nils, .nils, .nils], false⟩),
  (68, ⟨.struct [(3, 0), (3, 1), (9, 2)], 3, 32, [.i .i64 0, .i .i64 0, .s []], true⟩),
  (69, ⟨.struct [(3, 0), (3, 1), (9, 2)], 3, 32, [.i .i64 0, .i .i64 0, .s []], true⟩),
  (73, ⟨.struct [(3, 0), (9, 1), (9, 2), (32, 3)], 4, 64, [.i .i64 0, .s [], .s [], .nils], false⟩),
  (74, ⟨.struct [(3, 0), (9, 1), (9, 2), (32, 3)], 4, 64, [.i .i64 0, .s [], .s [], .nils], false⟩),
  (88, ⟨.struct [(3, 0), (32, 1), (32, 2)], 3, 56, [.i .i64 0, .nils, .nils], false⟩),
  (89, ⟨.struct [(3, 0), (32, 1), (32, 2)], 3, 56, [.i .i64 0, .nils, .nils], false⟩),
  (91, ⟨.slice 5, 1, 24, [.nils], false⟩),
  (95, ⟨.map 9 3, 1, 8, [.u], false⟩),
  (97, ⟨.slice 99, 1, 24, [.nils], false⟩),
  (98, ⟨.struct [(9, 0), (4, 1)], 2, 24, [.s [], .b false], true⟩),
  (99, ⟨.struct [(9, 0), (4, 1)], 2, 24, [.s [], .b false], true⟩),
  (111, ⟨.struct [(9, 0), (3, 1), (97, 2), (9, 3), (3, 4)], 5, 72, [.s [], .i .i64 0, .nils, .s [], .i .i64 0], false⟩),
  (112, ⟨.struct [(9, 0), (3, 1), (97, 2), (9, 3), (3, 4)], 5, 72, [.s [], .i .i64 0, .nils, .s [], .i .i64 0], false⟩),
  (118, ⟨.map 3 3, 1, 8, [.u], false⟩),
  (150, ⟨.int .u8, 1, 1, [.i .u8 0], false⟩),
  (151, ⟨.int .u8, 1, 1, [.i .u8 0], false⟩),
  (153, ⟨.int .i32, 1, 4, [.i .i32 0], false⟩),
  (154, ⟨.int .i32, 1, 4, [.i .i32 0], false⟩)]
def te : TE := teOf tes
theorem mixed_ok : Try.prog.follows .mixedOrders = true := by kernel_rfl
theorem te_ok : teOk Try.prog te := teOf_ok (by kernel_rfl)
theorem te_2 : te 2 = some ⟨.int .i64, 1, 8, [.i .i64 0], false⟩ := id rfl
theorem te_3 : te 3 = some ⟨.int .i64, 1, 8, [.i .i64 0], false⟩ := id rfl
theorem te_4 : te 4 = some ⟨.bool, 1, 1, [.b false], false⟩ := id rfl
theorem te_5 : te 5 = some ⟨.int .u8, 1, 1, [.i .u8 0], false⟩ := id rfl
theorem te_6 : te 6 = some ⟨.int .u8, 1, 1, [.i .u8 0], false⟩ := id rfl
theorem te_7 : te 7 = some ⟨.struct [(2, 0), (3, 1), (4, 2), (6, 3)], 4, 24, [.i .i64 0, .i .i64 0, .b false, .i .u8 0], true⟩ := id rfl
theorem te_8 : te 8 = some ⟨.struct [(2, 0), (3, 1), (4, 2), (6, 3)], 4, 24, [.i .i64 0, .i .i64 0, .b false, .i .u8 0], true⟩ := id rfl
theorem te_9 : te 9 = some ⟨.str, 1, 16, [.s []], false⟩ := id rfl
theorem te_10 : te 10 = some ⟨.str, 1, 16, [.s []], false⟩ := id rfl
theorem te_11 : te 11 = some ⟨.str, 1, 16, [.s []], false⟩ := id rfl
theorem te_21 : te 21 = some ⟨.int .i32, 1, 4, [.i .i32 0], false⟩ := id rfl
theorem te_22 : te 22 = some ⟨.slice 53, 1, 24, [.nils], false⟩ := id rfl
theorem te_25 : te 25 = some ⟨.slice 54, 1, 24, [.nils], false⟩ := id rfl
theorem te_32 : te 32 = some ⟨.slice 3, 1, 24, [.nils], false⟩ := id rfl
theorem te_37 : te 37 = some ⟨.slice 69, 1, 24, [.nils], false⟩ := id rfl
theorem te_41 : te 41 = some ⟨.slice 74, 1, 24, [.nils], false⟩ := id rfl
theorem te_42 : te 42 = some ⟨.struct [(41, 0), (32, 1)], 2, 48, [.nils, .nils], false⟩ := id rfl
theorem te_43 : te 43 = some ⟨.struct [(41, 0), (32, 1)], 2, 48, [.nils, .nils], false⟩ := id rfl
theorem te_52 : te 52 = some ⟨.struct [(3, 0), (3, 1), (4, 2), (9, 3), (9, 4), (9, 5), (3, 6), (3, 7)], 8, 88, [.i .i64 0, .i .i64 0, .b false, .s [], .s [], .s [], .i .i64 0, .i .i64 0], true⟩ := id rfl
theorem te_53 : te 53 = some ⟨.struct [(3, 0), (3, 1), (4, 2), (9, 3), (9, 4), (9, 5), (3, 6), (3, 7)], 8, 88, [.i .i64 0, .i .i64 0, .b false, .s [], .s [], .s [], .i .i64 0, .i .i64 0], true⟩ := id rfl
theorem te_54 : te 54 = some ⟨.struct [(3, 0), (3, 1), (4, 2), (9, 3), (9, 4), (9, 5), (3, 6), (3, 7)], 8, 88, [.i .i64 0, .i .i64 0, .b false, .s [], .s [], .s [], .i .i64 0, .i .i64 0], true⟩ := id rfl
theorem te_56 : te 56 = some ⟨.struct [(25, 0), (32, 1), (32, 2), (32, 3)], 4, 96, [.nils, .nils, .nils, .nils], false⟩ := id rfl
theorem te_57 : te 57 = some ⟨.struct [(25, 0), (32, 1), (32, 2), (32, 3)], 4, 96, [.nils, .nils, .nils, .nils], false⟩ := id rfl
theorem te_68 : te 68 = some ⟨.struct [(3, 0), (3, 1), (9, 2)], 3, 32, [.i .i64 0, .i .i64 0, .s []], true⟩ := id rfl
theorem te_69 : te 69 = some ⟨.struct [(3, 0), (3, 1), (9, 2)], 3, 32, [.i .i64 0, .i .i64 0, .s []], true⟩ := id rfl
theorem te_73 : te 73 = some ⟨.struct [(3, 0), (9, 1), (9, 2), (32, 3)], 4, 64, [.i .i64 0, .s [], .s [], .nils], false⟩ := id rfl
theorem te_74 : te 74 = some ⟨.struct [(3, 0), (9, 1), (9, 2), (32, 3)], 4, 64, [.i .i64 0, .s [], .s [], .nils], false⟩ := id rfl
theorem te_88 : te 88 = some ⟨.struct [(3, 0), (32, 1), (32, 2)], 3, 56, [.i .i64 0, .nils, .nils], false⟩ := id rfl
theorem te_89 : te 89 = some ⟨.struct [(3, 0), (32, 1), (32, 2)], 3, 56, [.i .i64 0, .nils, .nils], false⟩ := id rfl
theorem te_91 : te 91 = some ⟨.slice 5, 1, 24, [.nils], false⟩ := id rfl
theorem te_95 : te 95 = some ⟨.map 9 3, 1, 8, [.u], false⟩ := id rfl
theorem te_97 : te 97 = some ⟨.slice 99, 1, 24, [.nils], false⟩ := id rfl
theorem te_98 : te 98 = some ⟨.struct [(9, 0), (4, 1)], 2, 24, [.s [], .b false], true⟩ := id rfl
theorem te_99 : te 99 = some ⟨.struct [(9, 0), (4, 1)], 2, 24, [.s [], .b false], true⟩ := id rfl
theorem te_111 : te 111 = some ⟨.struct [(9, 0), (3, 1), (97, 2), (9, 3), (3, 4)], 5, 72, [.s [], .i .i64 0, .nils, .s [], .i .i64 0], false⟩ := id rfl
theorem te_112 : te 112 = some ⟨.struct [(9, 0), (3, 1), (97, 2), (9, 3), (3, 4)], 5, 72, [.s [], .i .i64 0, .nils, .s [], .i .i64 0], false⟩ := id rfl
theorem te_118 : te 118 = some ⟨.map 3 3, 1, 8, [.u], false⟩ := id rfl
theorem te_150 : te 150 = some ⟨.int .u8, 1, 1, [.i .u8 0], false⟩ := id rfl
theorem te_151 : te 151 = some ⟨.int .u8, 1, 1, [.i .u8 0], false⟩ := id rfl
theorem te_153 : te 153 = some ⟨.int .i32, 1, 4, [.i .i32 0], false⟩ := id rfl
theorem te_154 : te 154 = some ⟨.int .i32, 1, 4, [.i .i32 0], false⟩ := id rfl
theorem TES : type_of% (And.intro (And.intro (And.intro (And.intro (And.intro (@te_2) (@te_3)) (And.intro (@te_4) (And.intro (@te_5) (@te_6)))) (And.intro (And.intro (@te_7) (@te_8)) (And.intro (@te_9) (And.intro (@te_10) (@te_11))))) (And.intro (And.intro (And.intro (@te_21) (@te_22)) (And.intro (@te_25) (And.intro (@te_32) (@te_37)))) (And.intro (And.intro (@te_41) (@te_42)) (And.intro (@te_43) (And.intro (@te_52) (@te_53)))))) (And.intro (And.intro (And.intro (And.intro (@te_54) (@te_56)) (And.intro (@te_57) (And.intro (@te_68) (@te_69)))) (And.intro (And.intro (@te_73) (@te_74)) (And.intro (@te_88) (And.intro (@te_89) (@te_91))))) (And.intro (And.intro (And.intro (@te_95) (@te_97)) (And.intro (@te_98) (And.intro (@te_99) (@te_111)))) (And.intro (And.intro (@te_112) (And.intro (@te_118) (@te_150))) (And.intro (@te_151) (And.intro (@te_153) (@te_154))))))) := And.intro (And.intro (And.intro (And.intro (And.intro (@te_2) (@te_3)) (And.intro (@te_4) (And.intro (@te_5) (@te_6)))) (And.intro (And.intro (@te_7) (@te_8)) (And.intro (@te_9) (And.intro (@te_10) (@te_11))))) (And.intro (And.intro (And.intro (@te_21) (@te_22)) (And.intro (@te_25) (And.intro (@te_32) (@te_37)))) (And.intro (And.intro (@te_41) (@te_42)) (And.intro (@te_43) (And.intro (@te_52) (@te_53)))))) (And.intro (And.intro (And.intro (And.intro (@te_54) (@te_56)) (And.intro (@te_57) (And.intro (@te_68) (@te_69)))) (And.intro (And.intro (@te_73) (@te_74)) (And.intro (@te_88) (And.intro (@te_89) (@te_91))))) (And.intro (And.intro (And.intro (@te_95) (@te_97)) (And.intro (@te_98) (And.intro (@te_99) (@te_111)))) (And.intro (And.intro (@te_112) (And.intro (@te_118) (@te_150))) (And.intro (@te_151) (And.intro (@te_153) (@te_154))))))
end Go.TT
