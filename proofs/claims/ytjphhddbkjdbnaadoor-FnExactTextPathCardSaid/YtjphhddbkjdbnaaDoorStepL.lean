/- Own text: part StepL. -/
import Derived.Test.YtjphhddbkjdbnaaDoorTypes2
import Derived.Test.YtjphhddbkjdbnaaDoorTextA
import Derived.Test.YtjphhddbkjdbnaaDoorMarkA
import Derived.Test.YtjphhddbkjdbnaaDoorSegA
import Derived.Test.YtjphhddbkjdbnaaDoorShelf
import Derived.Test.YtjphhddbkjdbnaaDoorStepI
import Derived.Test.YtjphhddbkjdbnaaDoorStepK
import Derived.Test.YtjphhddbkjdbnaaDoorBaseE
import Derived.Test.YtjphhddbkjdbnaaDoorBaseF
set_option linter.unusedVariables false
set_option linter.unusedSimpArgs false
namespace Go.T101
set_option linter.unusedSectionVars false
variable [Go.Vg.Glob] [Go.Vg.GlobInt 0]
open Go.Proofs Go.Vg Go.RowKit Go.TT Go.Pl Go.T8 Go.T44 Go.T52 Go.TSh Go.T98 Go.T100
set_option linter.unusedVariables false
set_option linter.unusedSimpArgs false
set_option maxRecDepth 10000
set_option maxHeartbeats 4000000
theorem law_TextPath (s : Bs) : PF Tryd.prog 5 [.s s] (.b true) := by
  refine ⟨rfl, rfl, FnK.of (cf := mkCf Tryd.prog te [(10, pe_eqSegS), (16, pe_heldSegS)] 66 0 false (fun _ => false) (kp [(0, [0]), (1, [0, 13]), (2, [2]), (3, [0, 3, 4]), (4, [0, 3, 4, 5, 6]), (5, [0, 3, 4, 5, 32]), (6, [2]), (7, [0, 3, 4, 5, 7]), (8, [0, 3, 4, 5, 7]), (9, [0, 3, 4, 5, 7, 8]), (10, [0, 3, 4, 5, 7, 8]), (11, [0, 3, 4, 5, 7, 8, 40]), (12, [2]), (13, [0, 3, 4, 5, 7, 43]), (14, [2]), (15, [3, 4, 5, 7, 9, 10]), (16, [5, 7, 57]), (17, [2]), (18, [5, 7, 8]), (19, [7, 8]), (20, [7, 8, 62]), (21, [2]), (22, [65]), (23, [2]), (24, [2])]) [] []) (mkCf_ok te_ok (l := [(10, pe_eqSegS), (16, pe_heldSegS)]) (⟨pe_eqSegS_ok, pe_heldSegS_ok, trivial⟩) mixed_ok) Tryd.func5 rfl rfl rfl (by simp [mkCf]) (by simp [mkCf]) (rs := [.tmp 2]) rfl 100000 ?_⟩
  simp only [↓XC, XV, entry, isStr, tdOf, szOf, zeroOf, TD.isStruct, okCell, cellsOf, SO.isMap, SO.sz, SO.el, SO.n, SO.ro, mkCf, quietOp, opClass, okLeaf, spl, cellV, isU8T, isSlS, fillS, fillP, repl, SO.put, SV.mapH, frzV, frzVL, frzOk, frzOkL, lendOk, SV.bit, bitL, SV.plain, plainL, isE, mapHL, strip, stripL, gok, gokL, forall_const, implies_true, reduceIte, Nat.reduceAdd, Nat.reduceLT, Nat.reduceEqDiff, Nat.reduceBEq, Nat.reduceLeDiff, reduceCtorEq, Nat.reduceSub, Nat.reduceMul, Int.reduceToNat, Int.reduceLT, Int.reduceLE, TES, pe_eqSegS_eq, pe_heldSegS_eq, XRS]
  intro h
  have hs : s.length ≤ 1048576 := by omega
  have hsz := tpI_len s
  have hS := TextPath_s_own s hs
  have hO := TextPath_i_own s hs
  rw [← tp_eq] at hS
  obtain ⟨t, ht⟩ : ∃ t, t = tpI s := ⟨_, rfl⟩
  rw [← ht] at hS hO hsz
  refine XCalls.own (hS) rfl ?_
  simp only [↓XC, XV, entry, isStr, tdOf, szOf, zeroOf, TD.isStruct, okCell, cellsOf, SO.isMap, SO.sz, SO.el, SO.n, SO.ro, mkCf, quietOp, opClass, okLeaf, spl, cellV, isU8T, isSlS, fillS, fillP, repl, SO.put, SV.mapH, frzV, frzVL, frzOk, frzOkL, lendOk, SV.bit, bitL, SV.plain, plainL, isE, mapHL, strip, stripL, gok, gokL, forall_const, implies_true, reduceIte, Nat.reduceAdd, Nat.reduceLT, Nat.reduceEqDiff, Nat.reduceBEq, Nat.reduceLeDiff, reduceCtorEq, Nat.reduceSub, Nat.reduceMul, Int.reduceToNat, Int.reduceLT, Int.reduceLE, TES, pe_eqSegS_eq, pe_heldSegS_eq, XRS, XR, rowE_list, mkL_length, mergeC, upd, muL, List.getElem?_nil, List.drop_nil, Option.map_none]
  refine XCalls.own (hO) rfl ?_
  simp only [↓XC, XV, entry, isStr, tdOf, szOf, zeroOf, TD.isStruct, okCell, cellsOf, SO.isMap, SO.sz, SO.el, SO.n, SO.ro, mkCf, quietOp, opClass, okLeaf, spl, cellV, isU8T, isSlS, fillS, fillP, repl, SO.put, SV.mapH, frzV, frzVL, frzOk, frzOkL, lendOk, SV.bit, bitL, SV.plain, plainL, isE, mapHL, strip, stripL, gok, gokL, forall_const, implies_true, reduceIte, Nat.reduceAdd, Nat.reduceLT, Nat.reduceEqDiff, Nat.reduceBEq, Nat.reduceLeDiff, reduceCtorEq, Nat.reduceSub, Nat.reduceMul, Int.reduceToNat, Int.reduceLT, Int.reduceLE, TES, pe_eqSegS_eq, pe_heldSegS_eq, XRS, XR, rowE_list, mkL_length, mergeC, upd, muL, List.getElem?_nil, List.drop_nil, Option.map_none]
  refine Chk.mk ⟨⟨Nat.le_refl _, Nat.le_refl _⟩, by omega⟩ fun _ => ?_
  refine XCalls.mut (markSegS t.1 1 ⟨by omega, by omega, by omega⟩) rfl [1] (by simp [mapHL, SV.mapH, muL]) (by simp only [ctxMap, at_cons_zero, at_cons_succ, and_true, List.length_cons, List.length_nil]; exact ⟨by omega, soLe_same fun _ => rfl⟩) (by decide) ?_
  simp only [↓XC, XV, entry, isStr, tdOf, szOf, zeroOf, TD.isStruct, okCell, cellsOf, SO.isMap, SO.sz, SO.el, SO.n, SO.ro, mkCf, quietOp, opClass, okLeaf, spl, cellV, isU8T, isSlS, fillS, fillP, repl, SO.put, SV.mapH, frzV, frzVL, frzOk, frzOkL, lendOk, SV.bit, bitL, SV.plain, plainL, isE, mapHL, strip, stripL, gok, gokL, forall_const, implies_true, reduceIte, Nat.reduceAdd, Nat.reduceLT, Nat.reduceEqDiff, Nat.reduceBEq, Nat.reduceLeDiff, reduceCtorEq, Nat.reduceSub, Nat.reduceMul, Int.reduceToNat, Int.reduceLT, Int.reduceLE, TES, pe_eqSegS_eq, pe_heldSegS_eq, XRS, XR, rowE_list, mkL_length, mergeC, upd, muL, List.getElem?_nil, List.drop_nil, Option.map_none]
  refine Chk.mk ⟨Nat.le_refl _, by omega⟩ fun _ => ⟨fun h => by omega, fun _ => ?_⟩
  refine XCalls.own (hO) rfl ?_
  simp only [↓XC, XV, entry, isStr, tdOf, szOf, zeroOf, TD.isStruct, okCell, cellsOf, SO.isMap, SO.sz, SO.el, SO.n, SO.ro, mkCf, quietOp, opClass, okLeaf, spl, cellV, isU8T, isSlS, fillS, fillP, repl, SO.put, SV.mapH, frzV, frzVL, frzOk, frzOkL, lendOk, SV.bit, bitL, SV.plain, plainL, isE, mapHL, strip, stripL, gok, gokL, forall_const, implies_true, reduceIte, Nat.reduceAdd, Nat.reduceLT, Nat.reduceEqDiff, Nat.reduceBEq, Nat.reduceLeDiff, reduceCtorEq, Nat.reduceSub, Nat.reduceMul, Int.reduceToNat, Int.reduceLT, Int.reduceLE, TES, pe_eqSegS_eq, pe_heldSegS_eq, XRS, XR, rowE_list, mkL_length, mergeC, upd, muL, List.getElem?_nil, List.drop_nil, Option.map_none]
  exact Chk.mk ⟨⟨Nat.le_refl _, Nat.le_refl _⟩, by omega⟩ fun _ => Chk.mk ⟨Nat.le_refl _, by omega⟩ fun _ h => by omega
end Go.T101
