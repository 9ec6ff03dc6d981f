/- Own text: part WholeB. -/
import Derived.Test.YtjphhddbkjdbnaaTypes2
import Derived.Test.YtjphhddbkjdbnaaEventA
import Derived.Test.YtjphhddbkjdbnaaEventB
import Derived.Test.YtjphhddbkjdbnaaDefA
import Derived.Test.YtjphhddbkjdbnaaTiedA
import Derived.Test.YtjphhddbkjdbnaaBaseE
import Derived.Test.YtjphhddbkjdbnaaVgMp
import Derived.Test.YtjphhddbkjdbnaaPlX
import Derived.Test.YtjphhddbkjdbnaaPlZ
namespace Go.T58
open Go.Proofs Go.Vg Go.RowKit Go.TT Go.Pl Go.T8 Go.T12 Go.T13 Go.T14 Go.T15 Go.T18 Go.T19 Go.T40 Go.T55
set_option linter.unusedVariables false
set_option linter.unusedSimpArgs false
set_option maxRecDepth 10000
set_option maxHeartbeats 4000000
theorem law_Whole (l : List Ev) (hp : l.length ≤ 9223372036854775807 ∧ (∀ i, i < l.length → (l.getD i evz).text.length ≤ 9223372036854775807 ∧ (l.getD i evz).anchor.length ≤ 9223372036854775807 ∧ (l.getD i evz).tag.length ≤ 9223372036854775807)) : PF Try.prog 7 [.fs 8 (l.map evc)] (.b true) := by
  refine ⟨rfl, rfl, FnK.of (cf := mkCf Try.prog te [(12, pe_szEventS), (14, pe_toEventS), (27, pe_Whole_s), (28, pe_Whole_i), (16, pe_eqEventS)] 27 0 false (fun _ => false) (kp [(0, [0]), (1, [0, 3]), (2, [0, 3]), (3, [0, 11]), (4, [2]), (5, [0, 4]), (6, [0, 4, 5]), (7, [0, 4, 5, 6]), (8, [0, 5, 21]), (9, [2]), (10, [26]), (11, [2]), (12, [2])]) [] []) (mkCf_ok te_ok (l := [(12, pe_szEventS), (14, pe_toEventS), (27, pe_Whole_s), (28, pe_Whole_i), (16, pe_eqEventS)]) (⟨pe_szEventS_ok, pe_toEventS_ok, pe_Whole_s_ok, pe_Whole_i_ok, pe_eqEventS_ok, trivial⟩) mixed_ok) Try.func7 rfl rfl rfl (by simp [mkCf]) (by simp [mkCf]) (rs := [.tmp 2]) rfl 100000 ?_⟩
  simp only [↓XC, XV, entry, isStr, tdOf, szOf, zeroOf, TD.isStruct, okCell, cellsOf, SO.isMap, SO.sz, SO.el, SO.n, SO.ro, mkCf, quietOp, opClass, okLeaf, spl, cellV, isU8T, isSlS, fillS, fillP, repl, SO.put, SV.mapH, frzV, frzVL, frzOk, frzOkL, lendOk, SV.bit, bitL, SV.plain, plainL, isE, mapHL, strip, stripL, gok, gokL, forall_const, implies_true, reduceIte, Nat.reduceAdd, Nat.reduceLT, Nat.reduceEqDiff, Nat.reduceBEq, Nat.reduceLeDiff, reduceCtorEq, Nat.reduceSub, Nat.reduceMul, Int.reduceToNat, Int.reduceLT, Int.reduceLE, TES, pe_szEventS_eq, pe_toEventS_eq, pe_Whole_s_eq, pe_Whole_i_eq, pe_eqEventS_eq, XRE]
  exact Chk.mk hp fun _ h => by
    have hs : (l.length : Int) + evW l ≤ 1048576 := by split at h <;> omega
    repeat' (first | with_reducible exact trivial | with_reducible refine Chk.mk ?_ fun _ => ?_ | with_reducible intro _)
    all_goals first | omega | exact ⟨by omega, by omega⟩
noncomputable def pe_law_Whole : PE := peR (fun (l : List Ev) => [.fs 8 (l.map evc)]) (fun (l : List Ev) => l.length ≤ 9223372036854775807 ∧ (∀ i, i < l.length → (l.getD i evz).text.length ≤ 9223372036854775807 ∧ (l.getD i evz).anchor.length ≤ 9223372036854775807 ∧ (l.getD i evz).tag.length ≤ 9223372036854775807)) (fun (l : List Ev) => .b true)
theorem pe_law_Whole_eq {l : List Ev} : pe_law_Whole [.fs 8 (l.map evc)] = some (l.length ≤ 9223372036854775807 ∧ (∀ i, i < l.length → (l.getD i evz).text.length ≤ 9223372036854775807 ∧ (l.getD i evz).anchor.length ≤ 9223372036854775807 ∧ (l.getD i evz).tag.length ≤ 9223372036854775807), .b true) := peR_eq (by rintro a b h; simp_all [evc_inj]) l
theorem pe_law_Whole_ok : PE1 Try.prog 7 pe_law_Whole := peR_ok (by rintro l hp; exact law_Whole l hp)
end Go.T58
