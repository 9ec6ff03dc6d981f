/- Own text: part SegA. -/
import Derived.Test.YtjphhddbkjdbnaaDoorTypes2
import Derived.Test.YtjphhddbkjdbnaaDoorTextA
import Derived.Test.YtjphhddbkjdbnaaDoorMarkA
import Derived.Test.YtjphhddbkjdbnaaDoorBaseE
set_option linter.unusedVariables false
set_option linter.unusedSimpArgs false
namespace Go.T52
set_option linter.unusedSectionVars false
variable [Go.Vg.Glob]
open Go.Proofs Go.Vg Go.RowKit Go.TT Go.Pl Go.T8 Go.T44
set_option linter.unusedVariables false
set_option linter.unusedSimpArgs false
set_option maxRecDepth 10000
set_option maxHeartbeats 4000000
theorem SegOk_i (k n : Int) (x : Bs) : PF Tryd.prog 13 [.agg [.i .i64 k, .i .i64 n, .s x]] (.b (sgOk ⟨k, n, x⟩)) := by
  refine ⟨rfl, rfl, FnK.of (cf := mkCf Tryd.prog te [(31, pe_within)] 32 0 false (fun _ => false) (kp [(0, [1]), (1, [1, 4]), (2, [1, 4, 5]), (3, [1, 4, 5]), (4, [2]), (5, [1, 4, 16]), (6, [2]), (7, [1, 4, 21]), (8, [1, 21]), (9, [2]), (10, [2])]) [] []) (mkCf_ok te_ok (l := [(31, pe_within)]) (⟨pe_within_ok, trivial⟩) mixed_ok) Tryd.func13 rfl rfl rfl (by simp [mkCf]) (by simp [mkCf]) (rs := [.tmp 2]) rfl 100000 ?_⟩
  simp only [↓XC, XV, entry, isStr, tdOf, szOf, zeroOf, TD.isStruct, okCell, cellsOf, SO.isMap, SO.sz, SO.el, SO.n, SO.ro, mkCf, quietOp, opClass, okLeaf, spl, cellV, isU8T, isSlS, fillS, fillP, repl, SO.put, SV.mapH, frzV, frzVL, frzOk, frzOkL, lendOk, SV.bit, bitL, SV.plain, plainL, isE, mapHL, strip, stripL, gok, gokL, forall_const, implies_true, reduceIte, Nat.reduceAdd, Nat.reduceLT, Nat.reduceEqDiff, Nat.reduceBEq, Nat.reduceLeDiff, reduceCtorEq, Nat.reduceSub, Nat.reduceMul, Int.reduceToNat, Int.reduceLT, Int.reduceLE, TES, pe_within_eq]
  repeat' (first | with_reducible refine Chk.mk ?_ fun _ => ?_ | with_reducible refine And.intro ?_ ?_ | intro _)
  all_goals first
    | (exfalso; omega)
    | (simp_all [sgOk]; done)
    | (simp_all [sgOk]; grind)
noncomputable def pe_SegOk_i : PE := peR (fun (x : Int × Int × Bs) => match x with | (k, n, x) => [.agg [.i .i64 k, .i .i64 n, .s x]]) (fun (x : Int × Int × Bs) => match x with | (k, n, x) => True) (fun (x : Int × Int × Bs) => match x with | (k, n, x) => .b (sgOk ⟨k, n, x⟩))
theorem pe_SegOk_i_eq {k n : Int} {x : Bs} : pe_SegOk_i [.agg [.i .i64 k, .i .i64 n, .s x]] = some (True, .b (sgOk ⟨k, n, x⟩)) := peR_eq (by rintro ⟨a0, a1, a2⟩ ⟨b0, b1, b2⟩ h; simp_all []) (k, n, x)
theorem pe_SegOk_i_ok : PE1 Tryd.prog 13 pe_SegOk_i := peR_ok (by rintro ⟨k, n, x⟩ hp; exact SegOk_i k n x)
theorem eqSg {k n k' n' : Int} {x x' : Bs} : eqAt te 4 34 (.agg [.i .i64 k, .i .i64 n, .s x]) (.agg [.i .i64 k', .i .i64 n', .s x']) = some (decide ((⟨k, n, x⟩ : Sg) = ⟨k', n', x'⟩)) := by
  simp [eqAt, eqFs, partS, te_34, te_3, te_4, te_9, tdOf, TD.isStruct, Bool.decide_and]
end Go.T52
