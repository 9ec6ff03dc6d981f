/- The types of the program, looked up. -/
import Derived.Test.YtlbahpbnnmgpnaaBaseD
import Derived.Test.YtlbahpbnnmgpnaaProg
namespace Go.TT
open Go.Proofs Go.Vg Go.RowKit
set_option maxRecDepth 10000
def tes : List (TypeId × TI) := [(2, ⟨.int .i64, 1, 8, [.i .i64 0], false⟩),
  (3, ⟨.int .i64, 1, 8, [.i .i64 0], false⟩),
  (4, ⟨.bool, 1, 1, [.b false], false⟩),
  (5, ⟨.int .u8, 1, 1, [.i .u8 0], false⟩),
  (6, ⟨.int .u8, 1, 1, [.i .u8 0], false⟩),
  (7, ⟨.struct [(2, 0), (3, 1), (4, 2), (6, 3)], 4, 24, [.i .i64 0, .i .i64 0, .b false, .i .u8 0], true⟩),
  (8, ⟨.struct [(2, 0), (3, 1), (4, 2), (6, 3)], 4, 24, [.i .i64 0, .i .i64 0, .b false, .i .u8 0], true⟩),
  (9, ⟨.str, 1, 16, [.s []], false⟩),
  (10, ⟨.str, 1, 16, [.s []], false⟩),
  (11, ⟨.str, 1, 16, [.s []], false⟩),
  (21, ⟨.int .i32, 1, 4, [.i .i32 0], false⟩),
  (22, ⟨.struct [(3, 0), (3, 1), (9, 2)], 3, 32, [.i .i64 0, .i .i64 0, .s []], true⟩),
  (23, ⟨.struct [(3, 0), (3, 1), (9, 2)], 3, 32, [.i .i64 0, .i .i64 0, .s []], true⟩),
  (26, ⟨.struct [(3, 0), (3, 1), (9, 2)], 3, 32, [.i .i64 0, .i .i64 0, .s []], true⟩),
  (29, ⟨.struct [(3, 0), (3, 1), (4, 2), (9, 3)], 4, 40, [.i .i64 0, .i .i64 0, .b false, .s []], true⟩),
  (30, ⟨.struct [(3, 0), (3, 1), (4, 2), (9, 3)], 4, 40, [.i .i64 0, .i .i64 0, .b false, .s []], true⟩),
  (33, ⟨.struct [(3, 0), (3, 1), (4, 2), (9, 3)], 4, 40, [.i .i64 0, .i .i64 0, .b false, .s []], true⟩),
  (36, ⟨.slice 5, 1, 24, [.nils], false⟩),
  (37, ⟨.slice 26, 1, 24, [.nils], false⟩),
  (44, ⟨.slice 3, 1, 24, [.nils], false⟩),
  (45, ⟨.slice 112, 1, 24, [.nils], false⟩),
  (46, ⟨.struct [(9, 0), (3, 1), (44, 2), (45, 3), (3, 4)], 5, 80, [.s [], .i .i64 0, .nils, .nils, .i .i64 0], false⟩),
  (47, ⟨.struct [(9, 0), (3, 1), (44, 2), (45, 3), (3, 4)], 5, 80, [.s [], .i .i64 0, .nils, .nils, .i .i64 0], false⟩),
  (51, ⟨.slice 23, 1, 24, [.nils], false⟩),
  (55, ⟨.slice 9, 1, 24, [.nils], false⟩),
  (64, ⟨.struct [(3, 0), (3, 1), (4, 2), (9, 3), (9, 4), (9, 5), (3, 6), (3, 7)], 8, 88, [.i .i64 0, .i .i64 0, .b false, .s [], .s [], .s [], .i .i64 0, .i .i64 0], true⟩),
  (65, ⟨.struct [(3, 0), (3, 1), (4, 2), (9, 3), (9, 4), (9, 5), (3, 6), (3, 7)], 8, 88, [.i .i64 0, .i .i64 0, .b false, .s [], .s [], .s [], .i .i64 0, .i .i64 0], true⟩),
  (66, ⟨.slice 73, 1, 24, [.nils], false⟩),
  (69, ⟨.slice 65, 1, 24, [.nils], false⟩),
  (73, ⟨.struct [(3, 0), (3, 1), (4, 2), (9, 3), (9, 4), (9, 5), (3, 6), (3, 7)], 8, 88, [.i .i64 0, .i .i64 0, .b false, .s [], .s [], .s [], .i .i64 0, .i .i64 0], true⟩),
  (85, ⟨.slice 4, 1, 24, [.nils], false⟩),
  (98, ⟨.struct [(3, 0), (44, 1), (44, 2)], 3, 56, [.i .i64 0, .nils, .nils], false⟩),
  (99, ⟨.struct [(3, 0), (44, 1), (44, 2)], 3, 56, [.i .i64 0, .nils, .nils], false⟩),
  (101, ⟨.struct [(69, 0), (44, 1), (44, 2), (44, 3)], 4, 96, [.nils, .nils, .nils, .nils], false⟩),
  (102, ⟨.struct [(69, 0), (44, 1), (44, 2), (44, 3)], 4, 96, [.nils, .nils, .nils, .nils], false⟩),
  (105, ⟨.struct [(36, 0), (3, 1), (3, 2)], 3, 40, [.nils, .i .i64 0, .i .i64 0], false⟩),
  (106, ⟨.struct [(36, 0), (3, 1), (3, 2)], 3, 40, [.nils, .i .i64 0, .i .i64 0], false⟩),
  (111, ⟨.struct [(3, 0), (3, 1), (44, 2)], 3, 40, [.i .i64 0, .i .i64 0, .nils], false⟩),
  (112, ⟨.struct [(3, 0), (3, 1), (44, 2)], 3, 40, [.i .i64 0, .i .i64 0, .nils], false⟩),
  (129, ⟨.int .u8, 1, 1, [.i .u8 0], false⟩),
  (130, ⟨.int .u8, 1, 1, [.i .u8 0], false⟩),
  (133, ⟨.int .i32, 1, 4, [.i .i32 0], false⟩),
  (134, ⟨.int .i32, 1, 4, [.i .i32 0], false⟩)]
def te : TE := teOf tes
theorem mixed_ok : Try.prog.follows .mixedOrders = true := by kernel_rfl
theorem te_ok : teOk Try.prog te := teOf_ok (by kernel_rfl)
theorem te_2 : te 2 = some ⟨.int .i64, 1, 8, [.i .i64 0], false⟩ := id rfl
theorem te_3 : te 3 = some ⟨.int .i64, 1, 8, [.i .i64 0], false⟩ := id rfl
theorem te_4 : te 4 = some ⟨.bool, 1, 1, [.b false], false⟩ := id rfl
theorem te_5 : te 5 = some ⟨.int .u8, 1, 1, [.i .u8 0], false⟩ := id rfl
theorem te_6 : te 6 = some ⟨.int .u8, 1, 1, [.i .u8 0], false⟩ := id rfl
theorem te_7 : te 7 = some ⟨.struct [(2, 0), (3, 1), (4, 2), (6, 3)], 4, 24, [.i .i64 0, .i .i64 0, .b false, .i .u8 0], true⟩ := id rfl
theorem te_8 : te 8 = some ⟨.struct [(2, 0), (3, 1), (4, 2), (6, 3)], 4, 24, [.i .i64 0, .i .i64 0, .b false, .i .u8 0], true⟩ := id rfl
theorem te_9 : te 9 = some ⟨.str, 1, 16, [.s []], false⟩ := id rfl
theorem te_10 : te 10 = some ⟨.str, 1, 16, [.s []], false⟩ := id rfl
theorem te_11 : te 11 = some ⟨.str, 1, 16, [.s []], false⟩ := id rfl
theorem te_21 : te 21 = some ⟨.int .i32, 1, 4, [.i .i32 0], false⟩ := id rfl
theorem te_22 : te 22 = some ⟨.struct [(3, 0), (3, 1), (9, 2)], 3, 32, [.i .i64 0, .i .i64 0, .s []], true⟩ := id rfl
theorem te_23 : te 23 = some ⟨.struct [(3, 0), (3, 1), (9, 2)], 3, 32, [.i .i64 0, .i .i64 0, .s []], true⟩ := id rfl
theorem te_26 : te 26 = some ⟨.struct [(3, 0), (3, 1), (9, 2)], 3, 32, [.i .i64 0, .i .i64 0, .s []], true⟩ := id rfl
theorem te_29 : te 29 = some ⟨.struct [(3, 0), (3, 1), (4, 2), (9, 3)], 4, 40, [.i .i64 0, .i .i64 0, .b false, .s []], true⟩ := id rfl
theorem te_30 : te 30 = some ⟨.struct [(3, 0), (3, 1), (4, 2), (9, 3)], 4, 40, [.i .i64 0, .i .i64 0, .b false, .s []], true⟩ := id rfl
theorem te_33 : te 33 = some ⟨.struct [(3, 0), (3, 1), (4, 2), (9, 3)], 4, 40, [.i .i64 0, .i .i64 0, .b false, .s []], true⟩ := id rfl
theorem te_36 : te 36 = some ⟨.slice 5, 1, 24, [.nils], false⟩ := id rfl
theorem te_37 : te 37 = some ⟨.slice 26, 1, 24, [.nils], false⟩ := id rfl
theorem te_44 : te 44 = some ⟨.slice 3, 1, 24, [.nils], false⟩ := id rfl
theorem te_45 : te 45 = some ⟨.slice 112, 1, 24, [.nils], false⟩ := id rfl
theorem te_46 : te 46 = some ⟨.struct [(9, 0), (3, 1), (44, 2), (45, 3), (3, 4)], 5, 80, [.s [], .i .i64 0, .nils, .nils, .i .i64 0], false⟩ := id rfl
theorem te_47 : te 47 = some ⟨.struct [(9, 0), (3, 1), (44, 2), (45, 3), (3, 4)], 5, 80, [.s [], .i .i64 0, .nils, .nils, .i .i64 0], false⟩ := id rfl
theorem te_51 : te 51 = some ⟨.slice 23, 1, 24, [.nils], false⟩ := id rfl
theorem te_55 : te 55 = some ⟨.slice 9, 1, 24, [.nils], false⟩ := id rfl
theorem te_64 : te 64 = some ⟨.struct [(3, 0), (3, 1), (4, 2), (9, 3), (9, 4), (9, 5), (3, 6), (3, 7)], 8, 88, [.i .i64 0, .i .i64 0, .b false, .s [], .s [], .s [], .i .i64 0, .i .i64 0], true⟩ := id rfl
theorem te_65 : te 65 = some ⟨.struct [(3, 0), (3, 1), (4, 2), (9, 3), (9, 4), (9, 5), (3, 6), (3, 7)], 8, 88, [.i .i64 0, .i .i64 0, .b false, .s [], .s [], .s [], .i .i64 0, .i .i64 0], true⟩ := id rfl
theorem te_66 : te 66 = some ⟨.slice 73, 1, 24, [.nils], false⟩ := id rfl
theorem te_69 : te 69 = some ⟨.slice 65, 1, 24, [.nils], false⟩ := id rfl
theorem te_73 : te 73 = some ⟨.struct [(3, 0), (3, 1), (4, 2), (9, 3), (9, 4), (9, 5), (3, 6), (3, 7)], 8, 88, [.i .i64 0, .i .i64 0, .b false, .s [], .s [], .s [], .i .i64 0, .i .i64 0], true⟩ := id rfl
theorem te_85 : te 85 = some ⟨.slice 4, 1, 24, [.nils], false⟩ := id rfl
theorem te_98 : te 98 = some ⟨.struct [(3, 0), (44, 1), (44, 2)], 3, 56, [.i .i64 0, .nils, .nils], false⟩ := id rfl
theorem te_99 : te 99 = some ⟨.struct [(3, 0), (44, 1), (44, 2)], 3, 56, [.i .i64 0, .nils, .nils], false⟩ := id rfl
theorem te_101 : te 101 = some ⟨.struct [(69, 0), (44, 1), (44, 2), (44, 3)], 4, 96, [.nils, .nils, .nils, .nils], false⟩ := id rfl
theorem te_102 : te 102 = some ⟨.struct [(69, 0), (44, 1), (44, 2), (44, 3)], 4, 96, [.nils, .nils, .nils, .nils], false⟩ := id rfl
theorem te_105 : te 105 = some ⟨.struct [(36, 0), (3, 1), (3, 2)], 3, 40, [.nils, .i .i64 0, .i .i64 0], false⟩ := id rfl
theorem te_106 : te 106 = some ⟨.struct [(36, 0), (3, 1), (3, 2)], 3, 40, [.nils, .i .i64 0, .i .i64 0], false⟩ := id rfl
theorem te_111 : te 111 = some ⟨.struct [(3, 0), (3, 1), (44, 2)], 3, 40, [.i .i64 0, .i .i64 0, .nils], false⟩ := id rfl
theorem te_112 : te 112 = some ⟨.struct [(3, 0), (3, 1), (44, 2)], 3, 40, [.i .i64 0, .i .i64 0, .nils], false⟩ := id rfl
theorem te_129 : te 129 = some ⟨.int .u8, 1, 1, [.i .u8 0], false⟩ := id rfl
theorem te_130 : te 130 = some ⟨.int .u8, 1, 1, [.i .u8 0], false⟩ := id rfl
theorem te_133 : te 133 = some ⟨.int .i32, 1, 4, [.i .i32 0], false⟩ := id rfl
theorem te_134 : te 134 = some ⟨.int .i32, 1, 4, [.i .i32 0], false⟩ := id rfl
theorem TES : type_of% (And.intro (And.intro (And.intro (And.intro (And.intro (@te_2) (@te_3)) (And.intro (@te_4) (And.intro (@te_5) (@te_6)))) (And.intro (And.intro (@te_7) (@te_8)) (And.intro (@te_9) (And.intro (@te_10) (@te_11))))) (And.intro (And.intro (And.intro (@te_21) (@te_22)) (And.intro (@te_23) (And.intro (@te_26) (@te_29)))) (And.intro (And.intro (@te_30) (And.intro (@te_33) (@te_36))) (And.intro (@te_37) (And.intro (@te_44) (@te_45)))))) (And.intro (And.intro (And.intro (And.intro (@te_46) (@te_47)) (And.intro (@te_51) (And.intro (@te_55) (@te_64)))) (And.intro (And.intro (@te_65) (And.intro (@te_66) (@te_69))) (And.intro (@te_73) (And.intro (@te_85) (@te_98))))) (And.intro (And.intro (And.intro (@te_99) (@te_101)) (And.intro (@te_102) (And.intro (@te_105) (@te_106)))) (And.intro (And.intro (@te_111) (And.intro (@te_112) (@te_129))) (And.intro (@te_130) (And.intro (@te_133) (@te_134))))))) := And.intro (And.intro (And.intro (And.intro (And.intro (@te_2) (@te_3)) (And.intro (@te_4) (And.intro (@te_5) (@te_6)))) (And.intro (And.intro (@te_7) (@te_8)) (And.intro (@te_9) (And.intro (@te_10) (@te_11))))) (And.intro (And.intro (And.intro (@te_21) (@te_22)) (And.intro (@te_23) (And.intro (@te_26) (@te_29)))) (And.intro (And.intro (@te_30) (And.intro (@te_33) (@te_36))) (And.intro (@te_37) (And.intro (@te_44) (@te_45)))))) (And.intro (And.intro (And.intro (And.intro (@te_46) (@te_47)) (And.intro (@te_51) (And.intro (@te_55) (@te_64)))) (And.intro (And.intro (@te_65) (And.intro (@te_66) (@te_69))) (And.intro (@te_73) (And.intro (@te_85) (@te_98))))) (And.intro (And.intro (And.intro (@te_99) (@te_101)) (And.intro (@te_102) (And.intro (@te_105) (@te_106)))) (And.intro (And.intro (@te_111) (And.intro (@te_112) (@te_129))) (And.intro (@te_130) (And.intro (@te_133) (@te_134))))))
end Go.TT
