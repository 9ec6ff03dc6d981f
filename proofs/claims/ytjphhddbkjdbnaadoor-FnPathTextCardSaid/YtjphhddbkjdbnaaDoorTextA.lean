/- Own text: part TextA. -/
import Derived.Test.YtjphhddbkjdbnaaDoorTypes2
import Derived.Test.YtjphhddbkjdbnaaDoorBaseE
set_option linter.unusedVariables false
set_option linter.unusedSimpArgs false
namespace Go.T8
set_option linter.unusedSectionVars false
variable [Go.Vg.Glob]
open Go.Proofs Go.Vg Go.RowKit Go.TT Go.Pl 
set_option linter.unusedVariables false
set_option linter.unusedSimpArgs false
set_option maxRecDepth 10000
set_option maxHeartbeats 4000000
theorem within (x lo hi : Int) : PF Tryd.prog 31 [.i .i64 x, .i .i64 lo, .i .i64 hi] (.b (decide (lo ≤ x) && decide (x ≤ hi))) := by
  refine ⟨rfl, rfl, FnK.of (cf := mkCf Tryd.prog te [] 15 0 false (fun _ => false) (kp [(0, [0, 1, 2]), (1, [6])]) [] []) (mkCf_ok te_ok (l := []) (trivial) mixed_ok) Tryd.func31 rfl rfl rfl (by simp [mkCf]) (by simp [mkCf]) (rs := [.tmp 6]) rfl 100000 ?_⟩
  simp only [↓XC, XV, entry, isStr, tdOf, szOf, zeroOf, TD.isStruct, okCell, cellsOf, SO.isMap, SO.sz, SO.el, SO.n, SO.ro, mkCf, quietOp, opClass, okLeaf, spl, cellV, isU8T, isSlS, fillS, fillP, repl, SO.put, SV.mapH, frzV, frzVL, frzOk, frzOkL, lendOk, SV.bit, bitL, SV.plain, plainL, isE, mapHL, strip, stripL, gok, gokL, forall_const, implies_true, reduceIte, Nat.reduceAdd, Nat.reduceLT, Nat.reduceEqDiff, Nat.reduceBEq, Nat.reduceLeDiff, reduceCtorEq, Nat.reduceSub, Nat.reduceMul, Int.reduceToNat, Int.reduceLT, Int.reduceLE, TES]

noncomputable def pe_within : PE := peR (fun (x : Int × Int × Int) => match x with | (x, lo, hi) => [.i .i64 x, .i .i64 lo, .i .i64 hi]) (fun (x : Int × Int × Int) => match x with | (x, lo, hi) => True) (fun (x : Int × Int × Int) => match x with | (x, lo, hi) => .b (decide (lo ≤ x) && decide (x ≤ hi)))
theorem pe_within_eq {x lo hi : Int} : pe_within [.i .i64 x, .i .i64 lo, .i .i64 hi] = some (True, .b (decide (lo ≤ x) && decide (x ≤ hi))) := peR_eq (by rintro ⟨a0, a1, a2⟩ ⟨b0, b1, b2⟩ h; simp_all []) (x, lo, hi)
theorem pe_within_ok : PE1 Tryd.prog 31 pe_within := peR_ok (by rintro ⟨x, lo, hi⟩ hp; exact within x lo hi)
end Go.T8
