/- Own text: part PMatchA. -/
import Derived.Test.YtlbahpbnnmgpnaaTypes2
import Derived.Test.YtlbahpbnnmgpnaaTextA
import Derived.Test.YtlbahpbnnmgpnaaVgEv
import Derived.Test.YtlbahpbnnmgpnaaVgSg
import Derived.Test.YtlbahpbnnmgpnaaVgDr
import Derived.Test.YtlbahpbnnmgpnaaPlQ
import Derived.Test.YtlbahpbnnmgpnaaSegA
import Derived.Test.YtlbahpbnnmgpnaaMatchW
import Derived.Test.YtlbahpbnnmgpnaaDrawA
namespace Go.T32
open Go.Proofs Go.Vg Go.RowKit Go.TT Go.Pl Go.T8 Go.T27 Go.T28 Go.T31
set_option linter.unusedVariables false
set_option linter.unusedSimpArgs false
set_option maxRecDepth 10000
set_option maxHeartbeats 4000000
theorem law_FnMatch (cd : Bs) (hp : cd.length ≤ 9223372036854775807) : PF Try.prog 5 [.fs 1 (cd.map bytc)] (.b true) := by
  refine ⟨rfl, rfl, FnK.of (cf := mkCf Try.prog te [(23, pe_MakePath), (24, pe_Match_i)] 67 0 false (fun i => i == 12) (kp [(0, [0]), (1, [0, 10]), (2, [2]), (3, [3]), (4, [3, 4]), (5, [3, 4, 15, 16]), (6, [3, 4, 15, 16, 17]), (7, [3, 4, 15, 16]), (8, [3, 4, 15, 16]), (9, [3, 4, 5]), (10, [3, 4, 5, 6]), (11, [3, 4, 5, 6, 7]), (12, [2])]) [] []) (mkCf_ok te_ok (l := [(23, pe_MakePath), (24, pe_Match_i)]) (⟨pe_MakePath_ok, pe_Match_i_ok, trivial⟩) mixed_ok) Try.func5 rfl rfl rfl (by simp [mkCf]) (by simp [mkCf]) (rs := [.tmp 2]) rfl 100000 ?_⟩
  simp only [↓XC, XV, entry, isStr, tdOf, szOf, zeroOf, TD.isStruct, okCell, cellsOf, SO.isMap, SO.sz, SO.el, SO.n, SO.ro, mkCf, quietOp, opClass, okLeaf, spl, cellV, isU8T, isSlS, fillS, fillP, repl, SO.put, SV.mapH, frzV, frzVL, frzOk, frzOkL, lendOk, SV.bit, bitL, SV.plain, plainL, isE, mapHL, strip, stripL, gok, gokL, forall_const, implies_true, reduceIte, Nat.reduceAdd, Nat.reduceLT, Nat.reduceEqDiff, Nat.reduceBEq, Nat.reduceLeDiff, reduceCtorEq, Nat.reduceSub, Nat.reduceMul, Int.reduceToNat, Int.reduceLT, Int.reduceLE, TES, pe_MakePath_eq, pe_Match_i_eq, XR, XRS]
  refine fun h => Chk.mk (by omega) fun _ => ?_
  have hL := drPath_len (cd := cd)
  have hO := drPath_ok (cd := cd)
  generalize (drPath cd).1 = l at *
  have k1 := sgsOk_of hO
  have k2 := mtc_same l hO
  have k3 := sgsOk_any l.length
  have k4 := mtc_any l
  obtain ⟨D, hD⟩ : ∃ D : List Sg, D = [⟨5, 0, []⟩] := ⟨_, rfl⟩
  obtain ⟨B, hB⟩ : ∃ B : List Sg, B = ⟨5, 0, []⟩ :: l := ⟨_, rfl⟩
  obtain ⟨M, hM⟩ : ∃ M : List Sg, M = List.replicate l.length ⟨4, 0, []⟩ ++ [⟨4, 0, []⟩] := ⟨_, rfl⟩
  obtain ⟨Z, hZ⟩ : ∃ Z : List Sg, Z = [sgz] := ⟨_, rfl⟩
  have k5 : sgsOk D = true := by rw [hD]; decide
  have k6 : mtc D l = true := by rw [hD]; exact mtc_all l
  have k7 : sgsOk B = true := by rw [hB]; simp only [sgsOk, List.all_cons]; rw [show sgOk ⟨5, 0, []⟩ = true by decide]; exact k1
  have k8 : mtc B l = true := by rw [hB]; exact mtc_both l hO
  have k9 : mtc M l = false := by rw [hM]; exact mtc_more l
  have k10 : sgsOk Z = false := by rw [hZ]; decide
  have lD : D.length = 1 := by rw [hD]; rfl
  have lB : B.length = 1 + l.length := by rw [hB]; simp; omega
  have lM : M.length = l.length + 1 := by rw [hM]; simp
  have lZ : Z.length = 1 := by rw [hZ]; rfl
  have e4 : ∀ w : Sg, (List.replicate l.length w).length = l.length := fun w => List.length_replicate
  refine VLoops.of (ι := {i : Nat // i ≤ l.length}) (fun x => ⟨[(3, .fs 3 (l.map segc)), (4, .slc 0 0 x.1), (15, .i .i64 (l.length : Nat)), (16, .i .i64 (x.1 : Nat))], [some (.row false 3 x.1 (rowE segc sgz (List.replicate x.1 ⟨4, 0, []⟩)))]⟩) (fun x => l.length - x.1) ⟨0, Nat.zero_le _⟩ (Ent.ren1 [0] (by decide) (by simp only [entCtx, at_cons_zero, at_cons_succ, and_true, true_and]; exact soLe_row fun j hj => absurd hj (Nat.not_lt_zero _)) (by simp [entEnv, Vg.look, SV.mapH, muL])) ?_
  rintro ⟨i, hi⟩
  simp only [↓XC, XV, entry, isStr, tdOf, szOf, zeroOf, TD.isStruct, okCell, cellsOf, SO.isMap, SO.sz, SO.el, SO.n, SO.ro, mkCf, quietOp, opClass, okLeaf, spl, cellV, isU8T, isSlS, fillS, fillP, repl, SO.put, SV.mapH, frzV, frzVL, frzOk, frzOkL, lendOk, SV.bit, bitL, SV.plain, plainL, isE, mapHL, strip, stripL, gok, gokL, forall_const, implies_true, reduceIte, Nat.reduceAdd, Nat.reduceLT, Nat.reduceEqDiff, Nat.reduceBEq, Nat.reduceLeDiff, reduceCtorEq, Nat.reduceSub, Nat.reduceMul, Int.reduceToNat, Int.reduceLT, Int.reduceLE, TES, pe_Match_i_eq, XR, XRS, ↓xguard_yes, k1, k2, k3, k4, k5, k6, k7, k8, k9, k10, Bool.and_true, Bool.true_and, Bool.and_false, Bool.false_and, forall_const, e4]
  refine ⟨fun h => ⟨litEl_ok rfl rfl, Chk.mk (by omega) fun _ => Chk.mk (by simp only [inR]; omega) fun _ => ⟨⟨i + 1, by omega⟩, by simp only; omega, ?_⟩⟩, fun h => ?_⟩
  · simp only [Int.natCast_add, Int.natCast_one]
    exact (Ent.ren1 [2] (by decide) (by simp only [entCtx, at_cons_zero, at_cons_succ, and_true, true_and]; exact soLe_rep (w := ⟨4, 0, []⟩) fun _ _ => rfl) (by simp [entEnv, Vg.look, SV.mapH, muL]))
  · obtain rfl : i = l.length := by omega
    refine Chk.mk (by omega) fun _ => Chk.mk (by omega) fun _ => ⟨litEl_ok rfl rfl, Chk.mk (by omega) fun _ => ⟨litEl_ok rfl rfl, ?_, Chk.mk (by omega) fun _ => Chk.mk (by omega) fun _ => ?_⟩⟩
    · intro x hx
      obtain ⟨s, _, rfl⟩ := List.mem_map.1 hx
      rfl
    rw [rowList_eq ((List.replicate l.length ⟨4, 0, []⟩).map segc) (by simp) fun j hj => by rw [getD_mapc sgz (by simpa using hj)]; rfl]
    simp only [↓XC, XV, entry, isStr, tdOf, szOf, zeroOf, TD.isStruct, okCell, cellsOf, SO.isMap, SO.sz, SO.el, SO.n, SO.ro, mkCf, quietOp, opClass, okLeaf, spl, cellV, isU8T, isSlS, fillS, fillP, repl, SO.put, SV.mapH, frzV, frzVL, frzOk, frzOkL, lendOk, SV.bit, bitL, SV.plain, plainL, isE, mapHL, strip, stripL, gok, gokL, forall_const, implies_true, reduceIte, Nat.reduceAdd, Nat.reduceLT, Nat.reduceEqDiff, Nat.reduceBEq, Nat.reduceLeDiff, reduceCtorEq, Nat.reduceSub, Nat.reduceMul, Int.reduceToNat, Int.reduceLT, Int.reduceLE, TES, pe_Match_i_eq, XR, XRS, ↓xguard_yes, k1, k2, k3, k4, k5, k6, k7, k8, k9, k10, Bool.and_true, Bool.true_and, Bool.and_false, Bool.false_and, forall_const, e4]
    refine Chk.mk (by omega) fun _ => ?_
    rw [rowList_eq (D.map segc) (by rw [List.length_map, lD] <;> omega) fun j hj => by rw [getD_mapc sgz (by omega), hD]; ((obtain rfl : j = 0 := by omega); rfl)]
    simp only [↓XC, XV, entry, isStr, tdOf, szOf, zeroOf, TD.isStruct, okCell, cellsOf, SO.isMap, SO.sz, SO.el, SO.n, SO.ro, mkCf, quietOp, opClass, okLeaf, spl, cellV, isU8T, isSlS, fillS, fillP, repl, SO.put, SV.mapH, frzV, frzVL, frzOk, frzOkL, lendOk, SV.bit, bitL, SV.plain, plainL, isE, mapHL, strip, stripL, gok, gokL, forall_const, implies_true, reduceIte, Nat.reduceAdd, Nat.reduceLT, Nat.reduceEqDiff, Nat.reduceBEq, Nat.reduceLeDiff, reduceCtorEq, Nat.reduceSub, Nat.reduceMul, Int.reduceToNat, Int.reduceLT, Int.reduceLE, TES, pe_Match_i_eq, XR, XRS, ↓xguard_yes, k1, k2, k3, k4, k5, k6, k7, k8, k9, k10, Bool.and_true, Bool.true_and, Bool.and_false, Bool.false_and, forall_const, e4]
    refine Chk.mk (⟨fun j hj => by ((obtain rfl : j = 0 := by omega); exact ⟨rfl, rfl⟩), by omega, by omega⟩) fun _ => ?_
    rw [rowList_eq (B.map segc) (by rw [List.length_map, lB] <;> omega) fun j hj => by rw [getD_mapc sgz (by omega), hB]; exact catB (w := ⟨5, 0, []⟩) j hj]
    simp only [↓XC, XV, entry, isStr, tdOf, szOf, zeroOf, TD.isStruct, okCell, cellsOf, SO.isMap, SO.sz, SO.el, SO.n, SO.ro, mkCf, quietOp, opClass, okLeaf, spl, cellV, isU8T, isSlS, fillS, fillP, repl, SO.put, SV.mapH, frzV, frzVL, frzOk, frzOkL, lendOk, SV.bit, bitL, SV.plain, plainL, isE, mapHL, strip, stripL, gok, gokL, forall_const, implies_true, reduceIte, Nat.reduceAdd, Nat.reduceLT, Nat.reduceEqDiff, Nat.reduceBEq, Nat.reduceLeDiff, reduceCtorEq, Nat.reduceSub, Nat.reduceMul, Int.reduceToNat, Int.reduceLT, Int.reduceLE, TES, pe_Match_i_eq, XR, XRS, ↓xguard_yes, k1, k2, k3, k4, k5, k6, k7, k8, k9, k10, Bool.and_true, Bool.true_and, Bool.and_false, Bool.false_and, forall_const, e4]
    refine Chk.mk (⟨⟨Nat.le_refl _, fun j hj => shp (catB (w := ⟨5, 0, []⟩) j hj)⟩, by omega, by omega⟩) fun _ => ?_
    rw [rowList_eq (M.map segc) (by rw [List.length_map, lM] <;> omega) fun j hj => by rw [getD_mapc sgz (by omega), hM]; exact catM (w := ⟨4, 0, []⟩) (fun j h => by simp only [getD_rep h]; rfl) j hj]
    simp only [↓XC, XV, entry, isStr, tdOf, szOf, zeroOf, TD.isStruct, okCell, cellsOf, SO.isMap, SO.sz, SO.el, SO.n, SO.ro, mkCf, quietOp, opClass, okLeaf, spl, cellV, isU8T, isSlS, fillS, fillP, repl, SO.put, SV.mapH, frzV, frzVL, frzOk, frzOkL, lendOk, SV.bit, bitL, SV.plain, plainL, isE, mapHL, strip, stripL, gok, gokL, forall_const, implies_true, reduceIte, Nat.reduceAdd, Nat.reduceLT, Nat.reduceEqDiff, Nat.reduceBEq, Nat.reduceLeDiff, reduceCtorEq, Nat.reduceSub, Nat.reduceMul, Int.reduceToNat, Int.reduceLT, Int.reduceLE, TES, pe_Match_i_eq, XR, XRS, ↓xguard_yes, k1, k2, k3, k4, k5, k6, k7, k8, k9, k10, Bool.and_true, Bool.true_and, Bool.and_false, Bool.false_and, forall_const, e4]
    refine Chk.mk (⟨⟨Nat.le_refl _, fun j hj => shp (catM (w := ⟨4, 0, []⟩) (fun j h => by simp only [getD_rep h]; rfl) j hj)⟩, by omega, by omega⟩) fun _ => ?_
    repeat (first | exact litEl_ok rfl rfl | refine And.intro ?_ ?_)
    rw [rowList_eq (Z.map segc) (by rw [List.length_map, lZ] <;> omega) fun j hj => by rw [getD_mapc sgz (by omega), hZ]; ((obtain rfl : j = 0 := by omega); rfl)]
    simp only [↓XC, XV, entry, isStr, tdOf, szOf, zeroOf, TD.isStruct, okCell, cellsOf, SO.isMap, SO.sz, SO.el, SO.n, SO.ro, mkCf, quietOp, opClass, okLeaf, spl, cellV, isU8T, isSlS, fillS, fillP, repl, SO.put, SV.mapH, frzV, frzVL, frzOk, frzOkL, lendOk, SV.bit, bitL, SV.plain, plainL, isE, mapHL, strip, stripL, gok, gokL, forall_const, implies_true, reduceIte, Nat.reduceAdd, Nat.reduceLT, Nat.reduceEqDiff, Nat.reduceBEq, Nat.reduceLeDiff, reduceCtorEq, Nat.reduceSub, Nat.reduceMul, Int.reduceToNat, Int.reduceLT, Int.reduceLE, TES, pe_Match_i_eq, XR, XRS, ↓xguard_yes, k1, k2, k3, k4, k5, k6, k7, k8, k9, k10, Bool.and_true, Bool.true_and, Bool.and_false, Bool.false_and, forall_const, e4]
    refine Chk.mk (⟨fun j hj => by ((obtain rfl : j = 0 := by omega); exact ⟨rfl, rfl⟩), by omega, by omega⟩) fun _ => ?_
    trivial
noncomputable def pe_law_FnMatch : PE := peR (fun (cd : Bs) => [.fs 1 (cd.map bytc)]) (fun (cd : Bs) => cd.length ≤ 9223372036854775807) (fun (cd : Bs) => .b true)
theorem pe_law_FnMatch_eq {cd : Bs} : pe_law_FnMatch [.fs 1 (cd.map bytc)] = some (cd.length ≤ 9223372036854775807, .b true) := peR_eq (by rintro a b h; simp_all [bytc_inj]) cd
theorem pe_law_FnMatch_ok : PE1 Try.prog 5 pe_law_FnMatch := peR_ok (by rintro cd hp; exact law_FnMatch cd hp)
end Go.T32
