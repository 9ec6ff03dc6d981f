/- Own text: part FlowP. -/
import Derived.Test.YtkbcappnemjjnaaGreatBaseE
import Derived.Test.YtkbcappnemjjnaaGreatTypes2
import Derived.Test.YtkbcappnemjjnaaGreatTextA
import Derived.Test.YtkbcappnemjjnaaGreatEventA
import Derived.Test.YtkbcappnemjjnaaGreatFlowI
import Derived.Test.YtkbcappnemjjnaaGreatFlowO
import Derived.Test.YtkbcappnemjjnaaGreatBaseF
set_option linter.unusedVariables false
set_option linter.unusedSimpArgs false
namespace Go.T86
open Go.Proofs Go.Vg Go.RowKit Go.TT Go.Pl Go.T8 Go.T12 Go.T13 Go.T44 Go.T78 Go.T85
set_option linter.unusedVariables false
set_option linter.unusedSimpArgs false
set_option maxRecDepth 10000
set_option maxHeartbeats 4000000
theorem law_FlowAt (s : Bs) (p : Int) : PF Tryz.prog 3 [.s s, .i .i64 p] (.b true) := by
  refine ⟨rfl, rfl, FnK.of (cf := mkCf Tryz.prog te [(6, pe_eqEventS), (8, pe_heldEventS)] 87 0 false (fun _ => false) (kp [(0, [0, 1]), (1, [0, 1, 18]), (2, [4]), (3, [0, 1, 5, 6, 7]), (4, [0, 1, 5, 6, 7, 8, 9, 10]), (5, [0, 1, 5, 6, 7, 8, 46]), (6, [4]), (7, [0, 1, 5, 6, 7, 8, 11]), (8, [0, 1, 5, 6, 7, 8, 11]), (9, [0, 1, 5, 6, 7, 8, 11, 12]), (10, [0, 1, 5, 6, 7, 8, 11, 12]), (11, [0, 1, 5, 6, 7, 8, 11, 12, 54]), (12, [4]), (13, [0, 1, 5, 6, 7, 8, 11, 57]), (14, [4]), (15, [5, 6, 7, 8, 11, 13, 14, 15]), (16, [8, 11, 78]), (17, [4]), (18, [8, 11, 12]), (19, [11, 12]), (20, [11, 12, 83]), (21, [4]), (22, [86]), (23, [4]), (24, [4])]) [] []) (mkCf_ok te_ok (l := [(6, pe_eqEventS), (8, pe_heldEventS)]) (⟨pe_eqEventS_ok, pe_heldEventS_ok, trivial⟩) mixed_ok) Tryz.func3 rfl rfl rfl (by simp [mkCf]) (by simp [mkCf]) (rs := [.tmp 4]) rfl 100000 ?_⟩
  simp only [↓XC, XV, XT, forall_const, implies_true, reduceIte, Nat.reduceAdd, Nat.reduceLT, Nat.reduceEqDiff, Nat.reduceBEq, Nat.reduceLeDiff, reduceCtorEq, Nat.reduceSub, Nat.reduceMul, Int.reduceToNat, Int.reduceLT, Int.reduceLE, TES, pe_eqEventS_eq, pe_heldEventS_eq, XRE]
  intro h
  have hs : s.length ≤ 1048576 := by omega
  have hsz := flA_sz (spot_le s p)
  have hS := FlowAt_s_own s p hs
  have hO := FlowAt_i_own s p hs
  obtain ⟨t, ht⟩ : ∃ t, t = flA s (spot s p) := ⟨_, rfl⟩
  rw [← ht] at hS hO hsz
  refine XCalls.own (hS) rfl ?_
  simp only [↓XC, XV, XT, forall_const, implies_true, reduceIte, Nat.reduceAdd, Nat.reduceLT, Nat.reduceEqDiff, Nat.reduceBEq, Nat.reduceLeDiff, reduceCtorEq, Nat.reduceSub, Nat.reduceMul, Int.reduceToNat, Int.reduceLT, Int.reduceLE, TES, pe_eqEventS_eq, pe_heldEventS_eq, XRE, XR, rowE_list, mkL_length, mergeC, upd, muL, List.getElem?_nil, List.drop_nil, Option.map_none]
  refine XCalls.own (hO) rfl ?_
  simp only [↓XC, XV, XT, forall_const, implies_true, reduceIte, Nat.reduceAdd, Nat.reduceLT, Nat.reduceEqDiff, Nat.reduceBEq, Nat.reduceLeDiff, reduceCtorEq, Nat.reduceSub, Nat.reduceMul, Int.reduceToNat, Int.reduceLT, Int.reduceLE, TES, pe_eqEventS_eq, pe_heldEventS_eq, XRE, XR, rowE_list, mkL_length, mergeC, upd, muL, List.getElem?_nil, List.drop_nil, Option.map_none]
  refine Chk.mk ⟨⟨Nat.le_refl _, Nat.le_refl _⟩, by omega⟩ fun _ => ?_
  refine XCalls.mut (markEventS t.ev 1 ⟨by omega, by omega, by omega⟩) rfl [1] (by simp [mapHL, SV.mapH, muL]) (by simp only [ctxMap, at_cons_zero, at_cons_succ, and_true, List.length_cons, List.length_nil]; exact ⟨by omega, soLe_same fun _ => rfl⟩) (by decide) ?_
  simp only [↓XC, XV, XT, forall_const, implies_true, reduceIte, Nat.reduceAdd, Nat.reduceLT, Nat.reduceEqDiff, Nat.reduceBEq, Nat.reduceLeDiff, reduceCtorEq, Nat.reduceSub, Nat.reduceMul, Int.reduceToNat, Int.reduceLT, Int.reduceLE, TES, pe_eqEventS_eq, pe_heldEventS_eq, XRE, XR, rowE_list, mkL_length, mergeC, upd, muL, List.getElem?_nil, List.drop_nil, Option.map_none]
  refine Chk.mk ⟨Nat.le_refl _, by omega⟩ fun _ => ⟨fun h => by omega, fun _ => ?_⟩
  refine XCalls.own (hO) rfl ?_
  simp only [↓XC, XV, XT, forall_const, implies_true, reduceIte, Nat.reduceAdd, Nat.reduceLT, Nat.reduceEqDiff, Nat.reduceBEq, Nat.reduceLeDiff, reduceCtorEq, Nat.reduceSub, Nat.reduceMul, Int.reduceToNat, Int.reduceLT, Int.reduceLE, TES, pe_eqEventS_eq, pe_heldEventS_eq, XRE, XR, rowE_list, mkL_length, mergeC, upd, muL, List.getElem?_nil, List.drop_nil, Option.map_none]
  exact Chk.mk ⟨⟨Nat.le_refl _, Nat.le_refl _⟩, by omega⟩ fun _ => Chk.mk ⟨Nat.le_refl _, by omega⟩ fun _ h => by omega
end Go.T86
