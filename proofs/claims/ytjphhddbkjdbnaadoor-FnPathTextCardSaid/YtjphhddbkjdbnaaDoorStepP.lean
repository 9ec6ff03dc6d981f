/- Own text: part StepP. -/
import Derived.Test.YtjphhddbkjdbnaaDoorTypes2
import Derived.Test.YtjphhddbkjdbnaaDoorTextA
import Derived.Test.YtjphhddbkjdbnaaDoorMarkA
import Derived.Test.YtjphhddbkjdbnaaDoorSegA
import Derived.Test.YtjphhddbkjdbnaaDoorShelf
import Derived.Test.YtjphhddbkjdbnaaDoorStepA
import Derived.Test.YtjphhddbkjdbnaaDoorStepB
import Derived.Test.YtjphhddbkjdbnaaDoorStepI
import Derived.Test.YtjphhddbkjdbnaaDoorStepO
import Derived.Test.YtjphhddbkjdbnaaDoorBaseE
import Derived.Test.YtjphhddbkjdbnaaDoorBaseH
import Derived.Test.YtjphhddbkjdbnaaDoorBaseF
set_option linter.unusedVariables false
set_option linter.unusedSimpArgs false
namespace Go.T105
set_option linter.unusedSectionVars false
variable [Go.Vg.Glob] [Go.Vg.GlobInt 0]
open Go.Proofs Go.Vg Go.RowKit Go.TT Go.Pl Go.T8 Go.T44 Go.T52 Go.TSh Go.T90 Go.T91 Go.T98 Go.T104
set_option linter.unusedVariables false
set_option linter.unusedSimpArgs false
set_option maxRecDepth 10000
set_option maxHeartbeats 4000000
theorem law_FnPathText (cd : Bs) (hp : cd.length ≤ 9223372036854775807) : PF Tryd.prog 4 [.fs 1 (cd.map bytc)] (.b true) := by
  refine ⟨rfl, rfl, FnK.of (cf := mkCf Tryd.prog te [(11, pe_MakeSegs), (9, pe_PathText_i), (12, pe_TextPath_i), (13, pe_SegOk_i)] 56 0 false (fun _ => false) (kp [(0, [0]), (1, [0, 10]), (2, [2]), (3, [3]), (4, [3, 4]), (5, [3, 4, 5, 6]), (6, [3, 5, 32]), (7, [2]), (8, [3, 5, 34, 35]), (9, [3, 5, 34, 35, 36]), (10, [3, 5, 7, 34, 35]), (11, [3, 5, 34, 35, 54]), (12, [2]), (13, [3, 5, 34, 35]), (14, [2])]) [] [(11, [], [], .q1 0 (.q1 1 (.q1 2 (.q1 4 (.q1 5 (.q1 6 (.q0 3 [3] (.q0 7 [7] (.q1 8 (.q1 9 (.q1 10 (.q1 11 (.q1 12 (.q0 13 [13] (.alt 14 (.q1 15 (.q1 16 (.fin))) (.fin))))))))))))))))]) (mkCf_ok te_ok (l := [(11, pe_MakeSegs), (9, pe_PathText_i), (12, pe_TextPath_i), (13, pe_SegOk_i)]) (⟨pe_MakeSegs_ok, pe_PathText_i_ok, pe_TextPath_i_ok, pe_SegOk_i_ok, trivial⟩) mixed_ok) Tryd.func4 rfl rfl rfl (by simp [mkCf]) (by simp [mkCf]) (rs := [.tmp 2]) rfl 100000 ?_⟩
  simp only [↓XC, XV, entry, isStr, tdOf, szOf, zeroOf, TD.isStruct, okCell, cellsOf, SO.isMap, SO.sz, SO.el, SO.n, SO.ro, mkCf, quietOp, opClass, okLeaf, spl, cellV, isU8T, isSlS, fillS, fillP, repl, SO.put, SV.mapH, frzV, frzVL, frzOk, frzOkL, lendOk, SV.bit, bitL, SV.plain, plainL, isE, mapHL, strip, stripL, gok, gokL, forall_const, implies_true, reduceIte, Nat.reduceAdd, Nat.reduceLT, Nat.reduceEqDiff, Nat.reduceBEq, Nat.reduceLeDiff, reduceCtorEq, Nat.reduceSub, Nat.reduceMul, Int.reduceToNat, Int.reduceLT, Int.reduceLE, TES, pe_MakeSegs_eq, pe_PathText_i_eq, pe_TextPath_i_eq, pe_SegOk_i_eq, XR, XRS]
  intro h
  have hc : cd.length ≤ 1048576 := by omega
  have h1 := drMk_len (cd := cd)
  have h2 := drMk_ok (cd := cd)
  have h3 := drMk_text (cd := cd)
  obtain ⟨l, hl⟩ : ∃ l, l = (drMk cd).1 := ⟨_, rfl⟩
  rw [← hl] at h1 h2 h3 ⊢
  have hT : ∀ i, i < l.length → (l.getD i sgz).text.length ≤ 100 := fun i hi => h3 _ (getD_mem hi)
  have hO : ∀ i, i < l.length → sgOk (l.getD i sgz) = true := fun i hi => h2 _ (getD_mem hi)
  obtain ⟨t1, t2⟩ := tpI_ptx (l := l) (by omega) h2
  have hlen : (ptx l).length ≤ 1048576 := by
    have h4 := stepsT_len 100 l hT
    have h5 : l.length * (2 * 100 + 12) ≤ 6 * (2 * 100 + 12) := Nat.mul_le_mul_right _ h1
    unfold ptx
    repeat' split
    · simp
    · simp
    · omega
  rw [t1]
  refine Chk.mk hc fun _ => Chk.mk ⟨by omega, fun i hi => Nat.le_trans (hT i hi) (by decide)⟩ fun _ => Chk.mk hlen fun _ => ⟨fun h9 => by simp [t2] at h9, fun h9 => ?_⟩
  refine VLoops.of (ι := {i : Nat // i ≤ l.length}) (fun x => ⟨[(3, .fs 3 (l.map segc)), (5, .fs 3 (l.map segc)), (34, .i .i64 (l.length : Nat)), (35, .i .i64 (x.1 : Nat))], []⟩) (fun x => l.length - x.1) ⟨0, Nat.zero_le _⟩ (Ent.refl _ _) ?_
  rintro ⟨i, hi⟩
  simp only [↓XC, XV, entry, isStr, tdOf, szOf, zeroOf, TD.isStruct, okCell, cellsOf, SO.isMap, SO.sz, SO.el, SO.n, SO.ro, mkCf, quietOp, opClass, okLeaf, spl, cellV, isU8T, isSlS, fillS, fillP, repl, SO.put, SV.mapH, frzV, frzVL, frzOk, frzOkL, lendOk, SV.bit, bitL, SV.plain, plainL, isE, mapHL, strip, stripL, gok, gokL, forall_const, implies_true, reduceIte, Nat.reduceAdd, Nat.reduceLT, Nat.reduceEqDiff, Nat.reduceBEq, Nat.reduceLeDiff, reduceCtorEq, Nat.reduceSub, Nat.reduceMul, Int.reduceToNat, Int.reduceLT, Int.reduceLE, TES, pe_SegOk_i_eq, XRS]
  intro hil
  have hOi := hO i (by omega)
  refine ⟨by decide +kernel, Chk.mk (by omega) fun _ => Chk.mk (by omega) fun _ => ?_⟩
  rw [eqSg]
  simp only [↓XC, XV, entry, isStr, tdOf, szOf, zeroOf, TD.isStruct, okCell, cellsOf, SO.isMap, SO.sz, SO.el, SO.n, SO.ro, mkCf, quietOp, opClass, okLeaf, spl, cellV, isU8T, isSlS, fillS, fillP, repl, SO.put, SV.mapH, frzV, frzVL, frzOk, frzOkL, lendOk, SV.bit, bitL, SV.plain, plainL, isE, mapHL, strip, stripL, gok, gokL, forall_const, implies_true, reduceIte, Nat.reduceAdd, Nat.reduceLT, Nat.reduceEqDiff, Nat.reduceBEq, Nat.reduceLeDiff, reduceCtorEq, Nat.reduceSub, Nat.reduceMul, Int.reduceToNat, Int.reduceLT, Int.reduceLE, TES, pe_SegOk_i_eq, XRS]
  exact Chk.mk (by omega) fun _ => ⟨fun h8 => by rw [hOi] at h8; simp at h8, fun _ => Chk.mk (by simp only [inR]; omega) fun _ => ⟨⟨i + 1, by omega⟩, by simp only; omega, (by first | exact Ent.refl _ _ | (simp only [Int.natCast_add, Int.natCast_one]; exact Ent.refl _ _))⟩⟩
end Go.T105
