/- Own text: part StepE. -/
import Derived.Test.YtjphhddbkjdbnaaDoorTypes2
import Derived.Test.YtjphhddbkjdbnaaDoorTextA
import Derived.Test.YtjphhddbkjdbnaaDoorMarkA
import Derived.Test.YtjphhddbkjdbnaaDoorSegA
import Derived.Test.YtjphhddbkjdbnaaDoorShelf
import Derived.Test.YtjphhddbkjdbnaaDoorStepB
import Derived.Test.YtjphhddbkjdbnaaDoorStepD
import Derived.Test.YtjphhddbkjdbnaaDoorBaseE
import Derived.Test.YtjphhddbkjdbnaaDoorBaseF
set_option linter.unusedVariables false
set_option linter.unusedSimpArgs false
namespace Go.T94
set_option linter.unusedSectionVars false
variable [Go.Vg.Glob] [Go.Vg.GlobInt 0]
open Go.Proofs Go.Vg Go.RowKit Go.TT Go.Pl Go.T8 Go.T44 Go.T52 Go.TSh Go.T91 Go.T93
set_option linter.unusedVariables false
set_option linter.unusedSimpArgs false
set_option maxRecDepth 10000
set_option maxHeartbeats 4000000
theorem law_PathText (l : List Sg) (hp : l.length ≤ 9223372036854775807 ∧ (∀ i, i < l.length → (l.getD i sgz).text.length ≤ 9223372036854775807)) : PF Tryd.prog 3 [.fs 3 (l.map segc)] (.b true) := by
  refine ⟨rfl, rfl, FnK.of (cf := mkCf Tryd.prog te [(6, pe_szSegS), (8, pe_toSegS), (7, pe_PathText_s), (9, pe_PathText_i), (10, pe_eqSegS)] 27 0 false (fun _ => false) (kp [(0, [0]), (1, [0, 3]), (2, [0, 3]), (3, [0, 11]), (4, [2]), (5, [0, 4]), (6, [0, 4, 5]), (7, [0, 4, 5, 6]), (8, [0, 5, 21]), (9, [2]), (10, [26]), (11, [2]), (12, [2])]) [] []) (mkCf_ok te_ok (l := [(6, pe_szSegS), (8, pe_toSegS), (7, pe_PathText_s), (9, pe_PathText_i), (10, pe_eqSegS)]) (⟨pe_szSegS_ok, pe_toSegS_ok, pe_PathText_s_ok, pe_PathText_i_ok, pe_eqSegS_ok, trivial⟩) mixed_ok) Tryd.func3 rfl rfl rfl (by simp [mkCf]) (by simp [mkCf]) (rs := [.tmp 2]) rfl 100000 ?_⟩
  simp only [↓XC, XV, entry, isStr, tdOf, szOf, zeroOf, TD.isStruct, okCell, cellsOf, SO.isMap, SO.sz, SO.el, SO.n, SO.ro, mkCf, quietOp, opClass, okLeaf, spl, cellV, isU8T, isSlS, fillS, fillP, repl, SO.put, SV.mapH, frzV, frzVL, frzOk, frzOkL, lendOk, SV.bit, bitL, SV.plain, plainL, isE, mapHL, strip, stripL, gok, gokL, forall_const, implies_true, reduceIte, Nat.reduceAdd, Nat.reduceLT, Nat.reduceEqDiff, Nat.reduceBEq, Nat.reduceLeDiff, reduceCtorEq, Nat.reduceSub, Nat.reduceMul, Int.reduceToNat, Int.reduceLT, Int.reduceLE, TES, pe_szSegS_eq, pe_toSegS_eq, pe_PathText_s_eq, pe_PathText_i_eq, pe_eqSegS_eq, XRS]
  refine Chk.mk hp fun _ h => ?_
  have hs : (l.length : Int) + sgW l ≤ 1048576 := by split at h <;> omega
  have hT : ∀ i, i < l.length → (l.getD i sgz).text.length ≤ 1048576 := fun i hi => by
    have h1 := sgW_take (l := l) (i := i) hi
    have h2 := sgW_le (l := l) (i + 1)
    omega
  have hl : l.length ≤ 1048576 := by omega
  exact Chk.mk hl fun _ => Chk.mk ⟨hl, hT⟩ fun _ => Chk.mk hl fun _ => Chk.mk ⟨hl, hT⟩ fun _ => Chk.mk hl fun _ => Chk.mk hl fun _ => trivial
end Go.T94
