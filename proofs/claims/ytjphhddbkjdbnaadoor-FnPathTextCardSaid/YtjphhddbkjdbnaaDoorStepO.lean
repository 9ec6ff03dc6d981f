/- Own text: part StepO. -/
import Derived.Test.YtjphhddbkjdbnaaDoorTypes2
import Derived.Test.YtjphhddbkjdbnaaDoorTextA
import Derived.Test.YtjphhddbkjdbnaaDoorMarkA
import Derived.Test.YtjphhddbkjdbnaaDoorSegA
import Derived.Test.YtjphhddbkjdbnaaDoorShelf
import Derived.Test.YtjphhddbkjdbnaaDoorStepN
import Derived.Test.YtjphhddbkjdbnaaDoorBaseE
import Derived.Test.YtjphhddbkjdbnaaDoorBaseH
import Derived.Test.YtjphhddbkjdbnaaDoorBaseF
set_option linter.unusedVariables false
set_option linter.unusedSimpArgs false
namespace Go.T104
set_option linter.unusedSectionVars false
variable [Go.Vg.Glob] [Go.Vg.GlobInt 0]
open Go.Proofs Go.Vg Go.RowKit Go.TT Go.Pl Go.T8 Go.T44 Go.T52 Go.TSh Go.T103
set_option linter.unusedVariables false
set_option linter.unusedSimpArgs false
set_option maxRecDepth 10000
set_option maxHeartbeats 4000000
theorem MakeSegs_own (cd : Bs) (hp : cd.length ≤ 1048576) : FnK Tryd.prog 11 0 [.fs 1 (cd.map bytc)] [] (fun z c => z = .slc 0 0 (drMk cd).1.length ∧ c = [some (.row false 3 (drMk cd).1.length (rowE segc sgz (drMk cd).1))]) := by
  refine FnK.ofE (cf := mkCf Tryd.prog te [] 10 0 false (fun _ => false) (kp [(0, [0]), (1, [3]), (2, [4]), (3, [2])]) [] []) (mkCf_ok te_ok (l := []) (trivial) mixed_ok) Tryd.func11 rfl rfl rfl (by simp [mkCf]) (by simp [mkCf]) (rs := [.tmp 2]) rfl 100000 ?_
  simp only [↓XC, XV, entry, isStr, tdOf, szOf, zeroOf, TD.isStruct, okCell, cellsOf, SO.isMap, SO.sz, SO.el, SO.n, SO.ro, mkCf, quietOp, opClass, okLeaf, spl, cellV, isU8T, isSlS, fillS, fillP, repl, SO.put, SV.mapH, frzV, frzVL, frzOk, frzOkL, lendOk, SV.bit, bitL, SV.plain, plainL, isE, mapHL, strip, stripL, gok, gokL, forall_const, implies_true, reduceIte, Nat.reduceAdd, Nat.reduceLT, Nat.reduceEqDiff, Nat.reduceBEq, Nat.reduceLeDiff, reduceCtorEq, Nat.reduceSub, Nat.reduceMul, Int.reduceToNat, Int.reduceLT, Int.reduceLE, TES, XR, XRS]
  refine XCalls.own (l01New_own cd hp) rfl ?_
  simp only [↓XC, XV, entry, isStr, tdOf, szOf, zeroOf, TD.isStruct, okCell, cellsOf, SO.isMap, SO.sz, SO.el, SO.n, SO.ro, mkCf, quietOp, opClass, okLeaf, spl, cellV, isU8T, isSlS, fillS, fillP, repl, SO.put, SV.mapH, frzV, frzVL, frzOk, frzOkL, lendOk, SV.bit, bitL, SV.plain, plainL, isE, mapHL, strip, stripL, gok, gokL, forall_const, implies_true, reduceIte, Nat.reduceAdd, Nat.reduceLT, Nat.reduceEqDiff, Nat.reduceBEq, Nat.reduceLeDiff, reduceCtorEq, Nat.reduceSub, Nat.reduceMul, Int.reduceToNat, Int.reduceLT, Int.reduceLE, TES, XR, XRS, mergeC, upd, muL, List.getElem?_nil, List.drop_nil, Option.map_none, SO.mapH, List.getElem?_cons_zero, List.getElem?_cons_succ]
  refine XCalls.mut (l17Segs cd (drNew cd) 5 6 ⟨drNew_le, hp, by decide, by decide, by decide, by decide⟩) rfl [0] (by simp [mapHL, SV.mapH, muL]) (by simp only [ctxMap, at_cons_zero, at_cons_succ, and_true, List.length_cons, List.length_nil]; exact ⟨by omega, soLe_blk rfl⟩) (by decide) ?_
  simp only [↓XC, XV, entry, isStr, tdOf, szOf, zeroOf, TD.isStruct, okCell, cellsOf, SO.isMap, SO.sz, SO.el, SO.n, SO.ro, mkCf, quietOp, opClass, okLeaf, spl, cellV, isU8T, isSlS, fillS, fillP, repl, SO.put, SV.mapH, frzV, frzVL, frzOk, frzOkL, lendOk, SV.bit, bitL, SV.plain, plainL, isE, mapHL, strip, stripL, gok, gokL, forall_const, implies_true, reduceIte, Nat.reduceAdd, Nat.reduceLT, Nat.reduceEqDiff, Nat.reduceBEq, Nat.reduceLeDiff, reduceCtorEq, Nat.reduceSub, Nat.reduceMul, Int.reduceToNat, Int.reduceLT, Int.reduceLE, TES, XR, XRS, mergeC, upd, muL, List.getElem?_nil, List.drop_nil, Option.map_none, SO.mapH, List.getElem?_cons_zero, List.getElem?_cons_succ]
  have e : drSegs cd 5 (drBelow cd (6 + 1) (drNew cd)).1.toNat [] (drBelow cd (6 + 1) (drNew cd)).2 = drMk cd := rfl
  rw [e]
  exact ⟨[1], by decide, by simp only [entCtx, at_cons_zero, at_cons_succ, and_true, true_and]; exact soLe_row fun j hj => rfl, by simp only [↓XC, XV, entry, isStr, tdOf, szOf, zeroOf, TD.isStruct, okCell, cellsOf, SO.isMap, SO.sz, SO.el, SO.n, SO.ro, mkCf, quietOp, opClass, okLeaf, spl, cellV, isU8T, isSlS, fillS, fillP, repl, SO.put, SV.mapH, frzV, frzVL, frzOk, frzOkL, lendOk, SV.bit, bitL, SV.plain, plainL, isE, mapHL, strip, stripL, gok, gokL, forall_const, implies_true, reduceIte, Nat.reduceAdd, Nat.reduceLT, Nat.reduceEqDiff, Nat.reduceBEq, Nat.reduceLeDiff, reduceCtorEq, Nat.reduceSub, Nat.reduceMul, Int.reduceToNat, Int.reduceLT, Int.reduceLE]; try simp [muL, SV.mapH, mapHL], by simp [newRw, SO.ro], by simp⟩
theorem MakeSegs (cd : Bs) (hp : cd.length ≤ 1048576) : PF Tryd.prog 11 [.fs 1 (cd.map bytc)] (  .fs 3 ((drMk cd).1.map segc)) := PF.ofOwn (MakeSegs_own cd hp) rfl rfl (by simp only [frzOk, frzOkL, frzV, frzVL, at_cons_zero, and_true]; exact ⟨⟨by omega, fun j hj => ⟨rfl, rfl⟩⟩, by rw [rowE_list rfl]⟩)
noncomputable def pe_MakeSegs : PE := peR (fun (cd : Bs) => [.fs 1 (cd.map bytc)]) (fun (cd : Bs) => cd.length ≤ 1048576) (fun (cd : Bs) =>   .fs 3 ((drMk cd).1.map segc))
theorem pe_MakeSegs_eq {cd : Bs} : pe_MakeSegs [.fs 1 (cd.map bytc)] = some (cd.length ≤ 1048576,   .fs 3 ((drMk cd).1.map segc)) := peR_eq (by rintro a b h; simp_all [bytc_inj]) cd
theorem pe_MakeSegs_ok : PE1 Tryd.prog 11 pe_MakeSegs := peR_ok (by rintro cd hp; exact MakeSegs cd hp)
end Go.T104
