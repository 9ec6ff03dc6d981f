/- Own text: part KeyTA. -/
import Derived.Test.YtjphhddbkjdbnaaTypes2
import Derived.Test.YtjphhddbkjdbnaaEventA
import Derived.Test.YtjphhddbkjdbnaaEventB
import Derived.Test.YtjphhddbkjdbnaaDefA
import Derived.Test.YtjphhddbkjdbnaaKidA
import Derived.Test.YtjphhddbkjdbnaaMarkA
import Derived.Test.YtjphhddbkjdbnaaVgEv
import Derived.Test.YtjphhddbkjdbnaaVgNl
import Derived.Test.YtjphhddbkjdbnaaVgLd
import Derived.Test.YtjphhddbkjdbnaaPlN
import Derived.Test.YtjphhddbkjdbnaaPlT
import Derived.Test.YtjphhddbkjdbnaaPlU
import Derived.Test.YtjphhddbkjdbnaaPlX
namespace Go.T49
open Go.Proofs Go.Vg Go.RowKit Go.TT Go.Pl Go.T8 Go.T12 Go.T13 Go.T14 Go.T15 Go.T18 Go.T19 Go.T40 Go.T43 Go.T44
set_option linter.unusedVariables false
set_option linter.unusedSimpArgs false
set_option maxRecDepth 10000
set_option maxHeartbeats 4000000
theorem law_KeyText (l : List Ev) (i : Int) (hp : l.length ≤ 9223372036854775807 ∧ (∀ i, i < l.length → (l.getD i evz).text.length ≤ 9223372036854775807 ∧ (l.getD i evz).anchor.length ≤ 9223372036854775807 ∧ (l.getD i evz).tag.length ≤ 9223372036854775807)) : PF Try.prog 5 [.fs 8 (l.map evc), .i .i64 i] (.b true) := by
  refine ⟨rfl, rfl, FnK.of (cf := mkCf Try.prog te [(12, pe_szEventS), (14, pe_toEventS), (19, pe_KeyText_s), (20, pe_KeyText_i), (16, pe_eqEventS)] 31 0 false (fun _ => false) (kp [(0, [0, 1]), (1, [0, 1, 5]), (2, [0, 1, 5]), (3, [0, 1, 13]), (4, [4]), (5, [0, 1, 6]), (6, [0, 1, 6, 7]), (7, [0, 6, 7, 8]), (8, [0, 7, 25]), (9, [4]), (10, [30]), (11, [4]), (12, [4])]) [] []) (mkCf_ok te_ok (l := [(12, pe_szEventS), (14, pe_toEventS), (19, pe_KeyText_s), (20, pe_KeyText_i), (16, pe_eqEventS)]) (⟨pe_szEventS_ok, pe_toEventS_ok, pe_KeyText_s_ok, pe_KeyText_i_ok, pe_eqEventS_ok, trivial⟩) mixed_ok) Try.func5 rfl rfl rfl (by simp [mkCf]) (by simp [mkCf]) (rs := [.tmp 4]) rfl 100000 ?_⟩
  simp only [↓XC, XV, entry, isStr, tdOf, szOf, zeroOf, TD.isStruct, okCell, cellsOf, SO.isMap, SO.sz, SO.el, SO.n, SO.ro, mkCf, quietOp, opClass, okLeaf, spl, cellV, isU8T, isSlS, fillS, fillP, repl, SO.put, SV.mapH, frzV, frzVL, frzOk, frzOkL, lendOk, SV.bit, bitL, SV.plain, plainL, isE, mapHL, strip, stripL, gok, gokL, forall_const, implies_true, reduceIte, Nat.reduceAdd, Nat.reduceLT, Nat.reduceEqDiff, Nat.reduceBEq, Nat.reduceLeDiff, reduceCtorEq, Nat.reduceSub, Nat.reduceMul, Int.reduceToNat, Int.reduceLT, Int.reduceLE, TES, pe_szEventS_eq, pe_toEventS_eq, pe_KeyText_s_eq, pe_KeyText_i_eq, pe_eqEventS_eq, XRE]
  exact Chk.mk hp fun _ h => by
    have hs : (l.length : Int) + evW l ≤ 1048576 := by split at h <;> omega
    repeat' (first | with_reducible exact trivial | with_reducible refine Chk.mk ?_ fun _ => ?_ | with_reducible intro _)
    all_goals first | omega | exact ⟨by omega, by omega⟩
noncomputable def pe_law_KeyText : PE := peR (fun (x : List Ev × Int) => match x with | (l, i) => [.fs 8 (l.map evc), .i .i64 i]) (fun (x : List Ev × Int) => match x with | (l, i) => l.length ≤ 9223372036854775807 ∧ (∀ i, i < l.length → (l.getD i evz).text.length ≤ 9223372036854775807 ∧ (l.getD i evz).anchor.length ≤ 9223372036854775807 ∧ (l.getD i evz).tag.length ≤ 9223372036854775807)) (fun (x : List Ev × Int) => match x with | (l, i) => .b true)
theorem pe_law_KeyText_eq {l : List Ev} {i : Int} : pe_law_KeyText [.fs 8 (l.map evc), .i .i64 i] = some (l.length ≤ 9223372036854775807 ∧ (∀ i, i < l.length → (l.getD i evz).text.length ≤ 9223372036854775807 ∧ (l.getD i evz).anchor.length ≤ 9223372036854775807 ∧ (l.getD i evz).tag.length ≤ 9223372036854775807), .b true) := peR_eq (by rintro ⟨a0, a1⟩ ⟨b0, b1⟩ h; simp_all [evc_inj]) (l, i)
theorem pe_law_KeyText_ok : PE1 Try.prog 5 pe_law_KeyText := peR_ok (by rintro ⟨l, i⟩ hp; exact law_KeyText l i hp)
end Go.T49
