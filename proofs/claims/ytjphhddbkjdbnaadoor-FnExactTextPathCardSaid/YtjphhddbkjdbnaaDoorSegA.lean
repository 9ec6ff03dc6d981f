/- Own text: part SegA. -/
import Derived.Test.YtjphhddbkjdbnaaDoorTypes2
import Derived.Test.YtjphhddbkjdbnaaDoorTextA
import Derived.Test.YtjphhddbkjdbnaaDoorMarkA
import Derived.Test.YtjphhddbkjdbnaaDoorBaseE
set_option linter.unusedVariables false
set_option linter.unusedSimpArgs false
namespace Go.T52
set_option linter.unusedSectionVars false
variable [Go.Vg.Glob]
open Go.Proofs Go.Vg Go.RowKit Go.TT Go.Pl Go.T8 Go.T44
set_option linter.unusedVariables false
set_option linter.unusedSimpArgs false
set_option maxRecDepth 10000
set_option maxHeartbeats 4000000
theorem SegOk_i (k n : Int) (x : Bs) : PF Tryd.prog 13 [.agg [.i .i64 k, .i .i64 n, .s x]] (.b (sgOk ⟨k, n, x⟩)) := by
  refine ⟨rfl, rfl, FnK.of (cf := mkCf Tryd.prog te [(31, pe_within)] 32 0 false (fun _ => false) (kp [(0, [1]), (1, [1, 4]), (2, [1, 4, 5]), (3, [1, 4, 5]), (4, [2]), (5, [1, 4, 16]), (6, [2]), (7, [1, 4, 21]), (8, [1, 21]), (9, [2]), (10, [2])]) [] []) (mkCf_ok te_ok (l := [(31, pe_within)]) (⟨pe_within_ok, trivial⟩) mixed_ok) Tryd.func13 rfl rfl rfl (by simp [mkCf]) (by simp [mkCf]) (rs := [.tmp 2]) rfl 100000 ?_⟩
  simp only [↓XC, XV, entry, isStr, tdOf, szOf, zeroOf, TD.isStruct, okCell, cellsOf, SO.isMap, SO.sz, SO.el, SO.n, SO.ro, mkCf, quietOp, opClass, okLeaf, spl, cellV, isU8T, isSlS, fillS, fillP, repl, SO.put, SV.mapH, frzV, frzVL, frzOk, frzOkL, lendOk, SV.bit, bitL, SV.plain, plainL, isE, mapHL, strip, stripL, gok, gokL, forall_const, implies_true, reduceIte, Nat.reduceAdd, Nat.reduceLT, Nat.reduceEqDiff, Nat.reduceBEq, Nat.reduceLeDiff, reduceCtorEq, Nat.reduceSub, Nat.reduceMul, Int.reduceToNat, Int.reduceLT, Int.reduceLE, TES, pe_within_eq]
  repeat' (first | with_reducible refine Chk.mk ?_ fun _ => ?_ | with_reducible refine And.intro ?_ ?_ | intro _)
  all_goals first
    | (exfalso; omega)
    | (simp_all [sgOk]; done)
    | (simp_all [sgOk]; grind)
noncomputable def pe_SegOk_i : PE := peR (fun (x : Int × Int × Bs) => match x with | (k, n, x) => [.agg [.i .i64 k, .i .i64 n, .s x]]) (fun (x : Int × Int × Bs) => match x with | (k, n, x) => True) (fun (x : Int × Int × Bs) => match x with | (k, n, x) => .b (sgOk ⟨k, n, x⟩))
theorem pe_SegOk_i_eq {k n : Int} {x : Bs} : pe_SegOk_i [.agg [.i .i64 k, .i .i64 n, .s x]] = some (True, .b (sgOk ⟨k, n, x⟩)) := peR_eq (by rintro ⟨a0, a1, a2⟩ ⟨b0, b1, b2⟩ h; simp_all []) (k, n, x)
theorem pe_SegOk_i_ok : PE1 Tryd.prog 13 pe_SegOk_i := peR_ok (by rintro ⟨k, n, x⟩ hp; exact SegOk_i k n x)
theorem SegOk_s (k n : Int) (x : Bs) : PF Tryd.prog 18 [.agg [.i .i64 k, .i .i64 n, .s x]] (.b (sgOk ⟨k, n, x⟩)) := by
  refine ⟨rfl, rfl, FnK.of (cf := mkCf Tryd.prog te [] 48 0 false (fun _ => false) (kp [(0, [1]), (1, [1, 3]), (2, [2])]) [] []) (mkCf_ok te_ok (l := []) (trivial) mixed_ok) Tryd.func18 rfl rfl rfl (by simp [mkCf]) (by simp [mkCf]) (rs := [.tmp 2]) rfl 100000 ?_⟩
  simp only [↓XC, XV, entry, isStr, tdOf, szOf, zeroOf, TD.isStruct, okCell, cellsOf, SO.isMap, SO.sz, SO.el, SO.n, SO.ro, mkCf, quietOp, opClass, okLeaf, spl, cellV, isU8T, isSlS, fillS, fillP, repl, SO.put, SV.mapH, frzV, frzVL, frzOk, frzOkL, lendOk, SV.bit, bitL, SV.plain, plainL, isE, mapHL, strip, stripL, gok, gokL, forall_const, implies_true, reduceIte, Nat.reduceAdd, Nat.reduceLT, Nat.reduceEqDiff, Nat.reduceBEq, Nat.reduceLeDiff, reduceCtorEq, Nat.reduceSub, Nat.reduceMul, Int.reduceToNat, Int.reduceLT, Int.reduceLE, TES]
  repeat' (first | with_reducible refine Chk.mk ?_ fun _ => ?_ | with_reducible refine And.intro ?_ ?_ | intro _)
  all_goals (rw [SV.b.injEq, Bool.eq_iff_iff]; simp only [sgOk, Bool.and_eq_true, Bool.or_eq_true, decide_eq_true_eq]; grind)
noncomputable def pe_SegOk_s : PE := peR (fun (x : Int × Int × Bs) => match x with | (k, n, x) => [.agg [.i .i64 k, .i .i64 n, .s x]]) (fun (x : Int × Int × Bs) => match x with | (k, n, x) => True) (fun (x : Int × Int × Bs) => match x with | (k, n, x) => .b (sgOk ⟨k, n, x⟩))
theorem pe_SegOk_s_eq {k n : Int} {x : Bs} : pe_SegOk_s [.agg [.i .i64 k, .i .i64 n, .s x]] = some (True, .b (sgOk ⟨k, n, x⟩)) := peR_eq (by rintro ⟨a0, a1, a2⟩ ⟨b0, b1, b2⟩ h; simp_all []) (k, n, x)
theorem pe_SegOk_s_ok : PE1 Tryd.prog 18 pe_SegOk_s := peR_ok (by rintro ⟨k, n, x⟩ hp; exact SegOk_s k n x)
theorem eqSeg (k n : Int) (x : Bs) (k' n' : Int) (x' : Bs) : PF Tryd.prog 26 [.agg [.i .i64 k, .i .i64 n, .s x], .agg [.i .i64 k', .i .i64 n', .s x']] (.b (decide (⟨k, n, x⟩ = (⟨k', n', x'⟩ : Sg)))) := by
  refine ⟨rfl, rfl, FnK.of (cf := mkCf Tryd.prog te [] 20 0 false (fun _ => false) (kp [(0, [2, 3]), (1, [2, 3, 9]), (2, [4]), (3, [2, 3, 14]), (4, [4]), (5, [19]), (6, [4]), (7, [4])]) [] []) (mkCf_ok te_ok (l := []) (trivial) mixed_ok) Tryd.func26 rfl rfl rfl (by simp [mkCf]) (by simp [mkCf]) (rs := [.tmp 4]) rfl 100000 ?_⟩
  simp only [↓XC, XV, entry, isStr, tdOf, szOf, zeroOf, TD.isStruct, okCell, cellsOf, SO.isMap, SO.sz, SO.el, SO.n, SO.ro, mkCf, quietOp, opClass, okLeaf, spl, cellV, isU8T, isSlS, fillS, fillP, repl, SO.put, SV.mapH, frzV, frzVL, frzOk, frzOkL, lendOk, SV.bit, bitL, SV.plain, plainL, isE, mapHL, strip, stripL, gok, gokL, forall_const, implies_true, reduceIte, Nat.reduceAdd, Nat.reduceLT, Nat.reduceEqDiff, Nat.reduceBEq, Nat.reduceLeDiff, reduceCtorEq, Nat.reduceSub, Nat.reduceMul, Int.reduceToNat, Int.reduceLT, Int.reduceLE, TES]
  repeat' (first | with_reducible refine Chk.mk ?_ fun _ => ?_ | with_reducible refine And.intro ?_ ?_ | intro _)
  all_goals simp_all
noncomputable def pe_eqSeg : PE := peR (fun (x : Int × Int × Bs × Int × Int × Bs) => match x with | (k, n, x, k', n', x') => [.agg [.i .i64 k, .i .i64 n, .s x], .agg [.i .i64 k', .i .i64 n', .s x']]) (fun (x : Int × Int × Bs × Int × Int × Bs) => match x with | (k, n, x, k', n', x') => True) (fun (x : Int × Int × Bs × Int × Int × Bs) => match x with | (k, n, x, k', n', x') => .b (decide (⟨k, n, x⟩ = (⟨k', n', x'⟩ : Sg))))
theorem pe_eqSeg_eq {k n : Int} {x : Bs} {k' n' : Int} {x' : Bs} : pe_eqSeg [.agg [.i .i64 k, .i .i64 n, .s x], .agg [.i .i64 k', .i .i64 n', .s x']] = some (True, .b (decide (⟨k, n, x⟩ = (⟨k', n', x'⟩ : Sg)))) := peR_eq (by rintro ⟨a0, a1, a2, a3, a4, a5⟩ ⟨b0, b1, b2, b3, b4, b5⟩ h; simp_all []) (k, n, x, k', n', x')
theorem pe_eqSeg_ok : PE1 Tryd.prog 26 pe_eqSeg := peR_ok (by rintro ⟨k, n, x, k', n', x'⟩ hp; exact eqSeg k n x k' n' x')
theorem eqSegS (a b : List Sg) (hp : a.length ≤ 1048576) : PF Tryd.prog 10 [.fs 3 (a.map segc), .fs 3 (b.map segc)] (.b (decide (a = b))) := by
  refine ⟨rfl, rfl, FnK.of (cf := mkCf Tryd.prog te [(26, pe_eqSeg)] 27 0 false (fun _ => false) (kp [(0, [0, 1]), (1, [0, 1, 10]), (2, [4]), (3, [0, 1, 5]), (4, [0, 1, 5, 14]), (5, [0, 1, 5]), (6, [0, 1, 5, 26]), (7, [4]), (8, [4])]) [] [(6, [], [], .q1 0 (.q1 1 (.q1 2 (.q1 4 (.q1 5 (.q1 6 (.q0 3 [3] (.q0 7 [7] (.alt 8 (.q1 9 (.fin)) (.fin))))))))))]) (mkCf_ok te_ok (l := [(26, pe_eqSeg)]) (⟨pe_eqSeg_ok, trivial⟩) mixed_ok) Tryd.func10 rfl rfl rfl (by simp [mkCf]) (by simp [mkCf]) (rs := [.tmp 4]) rfl 100000 ?_⟩
  simp only [↓XC, XV, entry, isStr, tdOf, szOf, zeroOf, TD.isStruct, okCell, cellsOf, SO.isMap, SO.sz, SO.el, SO.n, SO.ro, mkCf, quietOp, opClass, okLeaf, spl, cellV, isU8T, isSlS, fillS, fillP, repl, SO.put, SV.mapH, frzV, frzVL, frzOk, frzOkL, lendOk, SV.bit, bitL, SV.plain, plainL, isE, mapHL, strip, stripL, gok, gokL, forall_const, implies_true, reduceIte, Nat.reduceAdd, Nat.reduceLT, Nat.reduceEqDiff, Nat.reduceBEq, Nat.reduceLeDiff, reduceCtorEq, Nat.reduceSub, Nat.reduceMul, Int.reduceToNat, Int.reduceLT, Int.reduceLE, TES, pe_eqSeg_eq, XRS]
  refine ⟨fun h => ?_, fun h => ?_⟩
  · have : a ≠ b := by intro e; subst e; simp at h
    simp [this]
  have hlen : a.length = b.length := by simp at h; omega
  refine VLoops.of (ι := {i : Nat // i ≤ a.length ∧ ∀ j, j < i → a.getD j sgz = b.getD j sgz}) (fun x => ⟨[(0, .fs 3 (a.map segc)), (1, .fs 3 (b.map segc)), (5, .i .i64 (x.1 : Nat))], []⟩) (fun x => a.length - x.1) ⟨0, Nat.zero_le _, fun j hj => absurd hj (Nat.not_lt_zero _)⟩ (Ent.refl _ _) ?_
  rintro ⟨i, hi, hj⟩
  simp only [↓XC, XV, entry, isStr, tdOf, szOf, zeroOf, TD.isStruct, okCell, cellsOf, SO.isMap, SO.sz, SO.el, SO.n, SO.ro, mkCf, quietOp, opClass, okLeaf, spl, cellV, isU8T, isSlS, fillS, fillP, repl, SO.put, SV.mapH, frzV, frzVL, frzOk, frzOkL, lendOk, SV.bit, bitL, SV.plain, plainL, isE, mapHL, strip, stripL, gok, gokL, forall_const, implies_true, reduceIte, Nat.reduceAdd, Nat.reduceLT, Nat.reduceEqDiff, Nat.reduceBEq, Nat.reduceLeDiff, reduceCtorEq, Nat.reduceSub, Nat.reduceMul, Int.reduceToNat, Int.reduceLT, Int.reduceLE, TES, pe_eqSeg_eq, XRS]
  refine ⟨fun h => ⟨by decide +kernel, Chk.mk (by omega) fun _ => Chk.mk (by omega) fun _ => ⟨fun hne => ?_, fun hne => Chk.mk (by simp only [inR]; omega) fun _ => ⟨⟨i + 1, by omega, ?_⟩, by simp only; omega, (by first | exact Ent.refl _ _ | (simp only [Int.natCast_add, Int.natCast_one]; exact Ent.refl _ _))⟩⟩⟩, fun h => ?_⟩
  · have : a ≠ b := by intro e; subst e; simp at hne
    simp [this]
  · intro j hjj
    rcases Nat.lt_or_ge j i with h1 | h1
    · exact hj j h1
    · have : j = i := by omega
      subst this
      simpa using hne
  · have : a = b := eq_of_getD sgz hlen fun j h1 => hj j (by omega)
    simp [this]
noncomputable def pe_eqSegS : PE := peR (fun (x : List Sg × List Sg) => match x with | (a, b) => [.fs 3 (a.map segc), .fs 3 (b.map segc)]) (fun (x : List Sg × List Sg) => match x with | (a, b) => a.length ≤ 1048576) (fun (x : List Sg × List Sg) => match x with | (a, b) => .b (decide (a = b)))
theorem pe_eqSegS_eq {a b : List Sg} : pe_eqSegS [.fs 3 (a.map segc), .fs 3 (b.map segc)] = some (a.length ≤ 1048576, .b (decide (a = b))) := peR_eq (by rintro ⟨a0, a1⟩ ⟨b0, b1⟩ h; simp_all [segc_inj]) (a, b)
theorem pe_eqSegS_ok : PE1 Tryd.prog 10 pe_eqSegS := peR_ok (by rintro ⟨a, b⟩ hp; exact eqSegS a b hp)
theorem markSegS (a : List Sg) (k : Int) (hp : a.length ≤ 1048576 ∧ 0 ≤ k ∧ k ≤ 1048577) : FnK Tryd.prog 15 1 [.slc 0 0 a.length, .i .i64 k] [some (.row false 3 a.length (rowE segc sgz a))] (fun z c => z = .i .i64 (k + 3 * a.length) ∧ c = [some (.row false 3 a.length (rowE segc sgz (mkL sgm 3 k a.length)))]) := by
  refine FnK.ofE (cf := mkCf Tryd.prog te [(33, pe_markText)] 35 1 false (fun _ => false) (kp [(0, [0, 1]), (1, [0, 1, 5]), (2, [0, 1, 5, 9]), (3, [0, 1, 5]), (4, [0, 1, 5]), (5, [0, 1, 5]), (6, [0, 1, 5]), (7, [0, 1, 5]), (8, [0, 1, 5]), (9, [0, 1, 5]), (10, [4])]) [] []) (mkCf_ok te_ok (l := [(33, pe_markText)]) (⟨pe_markText_ok, trivial⟩) mixed_ok) Tryd.func15 rfl rfl rfl (by simp [mkCf]) (by simp [mkCf]) (rs := [.tmp 4]) rfl 100000 ?_
  simp only [↓XC, XV, entry, isStr, tdOf, szOf, zeroOf, TD.isStruct, okCell, cellsOf, SO.isMap, SO.sz, SO.el, SO.n, SO.ro, mkCf, quietOp, opClass, okLeaf, spl, cellV, isU8T, isSlS, fillS, fillP, repl, SO.put, SV.mapH, frzV, frzVL, frzOk, frzOkL, lendOk, SV.bit, bitL, SV.plain, plainL, isE, mapHL, strip, stripL, gok, gokL, forall_const, implies_true, reduceIte, Nat.reduceAdd, Nat.reduceLT, Nat.reduceEqDiff, Nat.reduceBEq, Nat.reduceLeDiff, reduceCtorEq, Nat.reduceSub, Nat.reduceMul, Int.reduceToNat, Int.reduceLT, Int.reduceLE, TES, pe_markText_eq, XR, XRS]
  refine VLoops.of (ι := {i : Nat // i ≤ a.length}) (fun x => ⟨[(0, .slc 0 0 a.length), (1, .i .i64 (k + 3 * (x.1 : Nat))), (5, .i .i64 (x.1 : Nat))], [some (.row false 3 a.length (rowE segc sgz (mkd sgm 3 k a x.1)))]⟩) (fun x => a.length - x.1) ⟨0, Nat.zero_le _⟩ (by simp only [Int.natCast_zero, Int.mul_zero, Int.add_zero, mkd_zero]; exact Ent.refl _ _) ?_
  rintro ⟨i, hi⟩
  simp only [↓XC, XV, entry, isStr, tdOf, szOf, zeroOf, TD.isStruct, okCell, cellsOf, SO.isMap, SO.sz, SO.el, SO.n, SO.ro, mkCf, quietOp, opClass, okLeaf, spl, cellV, isU8T, isSlS, fillS, fillP, repl, SO.put, SV.mapH, frzV, frzVL, frzOk, frzOkL, lendOk, SV.bit, bitL, SV.plain, plainL, isE, mapHL, strip, stripL, gok, gokL, forall_const, implies_true, reduceIte, Nat.reduceAdd, Nat.reduceLT, Nat.reduceEqDiff, Nat.reduceBEq, Nat.reduceLeDiff, reduceCtorEq, Nat.reduceSub, Nat.reduceMul, Int.reduceToNat, Int.reduceLT, Int.reduceLE, TES, pe_markText_eq, XR, XRS]
  refine ⟨fun h => ?_, fun h => ?_⟩
  · repeat (refine Chk.mk (by first | omega | (simp only [inR]; omega)) fun _ => ?_)
    refine ⟨⟨i + 1, by omega⟩, by simp only; omega, ?_⟩
    have e8 : k + 3 * (i : Int) + 1 + 1 + 1 = k + 3 * ((i + 1 : Nat) : Int) := by omega
    simp only [e8, Int.natCast_add, Int.natCast_one]
    refine (Ent.ren1 [0] (by decide) (by simp only [entCtx, at_cons_zero, at_cons_succ, and_true, true_and]; exact soLe_mark (fun _ => rfl) fun j hj => by ((by_cases h7 : j = i); (simp only [if_pos h7, rowE, segc, sgm, List.set_cons_zero, List.set_cons_succ, Int.add_assoc, Int.reduceAdd]); (simp only [if_neg h7]; rfl))) (by simp [entEnv, Vg.look, SV.mapH, muL]))
  · have hia : i = a.length := by omega
    subst hia
    rw [mkd_all]
    exact ⟨[0], by decide, by simp only [entCtx, at_cons_zero, at_cons_succ, and_true, true_and]; exact soLe_same fun _ => rfl, by simp only [↓XC, XV, entry, isStr, tdOf, szOf, zeroOf, TD.isStruct, okCell, cellsOf, SO.isMap, SO.sz, SO.el, SO.n, SO.ro, mkCf, quietOp, opClass, okLeaf, spl, cellV, isU8T, isSlS, fillS, fillP, repl, SO.put, SV.mapH, frzV, frzVL, frzOk, frzOkL, lendOk, SV.bit, bitL, SV.plain, plainL, isE, mapHL, strip, stripL, gok, gokL, forall_const, implies_true, reduceIte, Nat.reduceAdd, Nat.reduceLT, Nat.reduceEqDiff, Nat.reduceBEq, Nat.reduceLeDiff, reduceCtorEq, Nat.reduceSub, Nat.reduceMul, Int.reduceToNat, Int.reduceLT, Int.reduceLE]; try simp [muL, SV.mapH, mapHL], by simp [newRw, SO.ro], by simp⟩
theorem heldSegS (a : List Sg) (k : Int) (hp : a = mkL sgm 3 k a.length ∧ a.length ≤ 1048576 ∧ 0 ≤ k ∧ k ≤ 1048577) : PF Tryd.prog 16 [.fs 3 (a.map segc), .i .i64 k] (.i .i64 (k + 3 * a.length)) := by
  refine ⟨rfl, rfl, FnK.of (cf := mkCf Tryd.prog te [(33, pe_markText)] 41 0 false (fun _ => false) (kp [(0, [0, 1]), (1, [0, 1, 5]), (2, [0, 1, 5, 9]), (3, [0, 1, 5]), (4, [0, 1, 5, 18]), (5, [4]), (6, [0, 1, 5]), (7, [0, 1, 5, 27]), (8, [4]), (9, [0, 1, 5]), (10, [0, 1, 5, 37]), (11, [4]), (12, [0, 1, 5]), (13, [4])]) [] [(10, [], [], .q1 0 (.q1 1 (.q1 2 (.q1 3 (.q1 5 (.q0 4 [4] (.alt 6 (.q1 7 (.fin)) (.fin))))))))]) (mkCf_ok te_ok (l := [(33, pe_markText)]) (⟨pe_markText_ok, trivial⟩) mixed_ok) Tryd.func16 rfl rfl rfl (by simp [mkCf]) (by simp [mkCf]) (rs := [.tmp 4]) rfl 100000 ?_⟩
  simp only [↓XC, XV, entry, isStr, tdOf, szOf, zeroOf, TD.isStruct, okCell, cellsOf, SO.isMap, SO.sz, SO.el, SO.n, SO.ro, mkCf, quietOp, opClass, okLeaf, spl, cellV, isU8T, isSlS, fillS, fillP, repl, SO.put, SV.mapH, frzV, frzVL, frzOk, frzOkL, lendOk, SV.bit, bitL, SV.plain, plainL, isE, mapHL, strip, stripL, gok, gokL, forall_const, implies_true, reduceIte, Nat.reduceAdd, Nat.reduceLT, Nat.reduceEqDiff, Nat.reduceBEq, Nat.reduceLeDiff, reduceCtorEq, Nat.reduceSub, Nat.reduceMul, Int.reduceToNat, Int.reduceLT, Int.reduceLE, TES, pe_markText_eq, XR, XRS]
  refine VLoops.of (ι := {i : Nat // i ≤ a.length}) (fun x => ⟨[(0, .fs 3 (a.map segc)), (1, .i .i64 (k + 3 * (x.1 : Nat))), (5, .i .i64 (x.1 : Nat))], []⟩) (fun x => a.length - x.1) ⟨0, Nat.zero_le _⟩ (by simp only [Int.natCast_zero, Int.mul_zero, Int.add_zero]; exact Ent.refl _ _) ?_
  rintro ⟨i, hi⟩
  simp only [↓XC, XV, entry, isStr, tdOf, szOf, zeroOf, TD.isStruct, okCell, cellsOf, SO.isMap, SO.sz, SO.el, SO.n, SO.ro, mkCf, quietOp, opClass, okLeaf, spl, cellV, isU8T, isSlS, fillS, fillP, repl, SO.put, SV.mapH, frzV, frzVL, frzOk, frzOkL, lendOk, SV.bit, bitL, SV.plain, plainL, isE, mapHL, strip, stripL, gok, gokL, forall_const, implies_true, reduceIte, Nat.reduceAdd, Nat.reduceLT, Nat.reduceEqDiff, Nat.reduceBEq, Nat.reduceLeDiff, reduceCtorEq, Nat.reduceSub, Nat.reduceMul, Int.reduceToNat, Int.reduceLT, Int.reduceLE, TES, pe_markText_eq, XR, XRS]
  have hx : i < a.length → a.getD i sgz = sgm (k + 3 * i) := fun h => by
    have := mkL_get (g := sgm) (c := 3) sgz (n := a.length) (k := k) h
    rw [← hp.1] at this
    rw [this]
  refine ⟨fun h => ?_, fun h => by rw [show i = a.length by omega]⟩
  rw [hx (by omega)]
  have e3 : k + 3 * (i : Int) + 1 + 1 = k + 3 * (i : Int) + 2 := by omega
  have e8 : k + 3 * (i : Int) + 2 + 1 = k + 3 * ((i + 1 : Nat) : Int) := by omega
  simp only [sgm, e3, e8]
  repeat' (first | with_reducible refine Chk.mk ?_ fun _ => ?_ | with_reducible refine And.intro ?_ ?_ | intro _)
  all_goals first
    | omega
    | (simp only [inR]; omega)
    | (with_reducible refine (?_ : schAll _ _ _ = true); decide +kernel)
    | (exfalso; rename_i h9; simp at h9; done)
    | (refine ⟨⟨i + 1, by omega⟩, by simp only; omega, ?_⟩; simp only [Int.natCast_add, Int.natCast_one]; exact Ent.refl _ _)
noncomputable def pe_heldSegS : PE := peR (fun (x : List Sg × Int) => match x with | (a, k) => [.fs 3 (a.map segc), .i .i64 k]) (fun (x : List Sg × Int) => match x with | (a, k) => a = mkL sgm 3 k a.length ∧ a.length ≤ 1048576 ∧ 0 ≤ k ∧ k ≤ 1048577) (fun (x : List Sg × Int) => match x with | (a, k) => .i .i64 (k + 3 * a.length))
theorem pe_heldSegS_eq {a : List Sg} {k : Int} : pe_heldSegS [.fs 3 (a.map segc), .i .i64 k] = some (a = mkL sgm 3 k a.length ∧ a.length ≤ 1048576 ∧ 0 ≤ k ∧ k ≤ 1048577, .i .i64 (k + 3 * a.length)) := peR_eq (by rintro ⟨a0, a1⟩ ⟨b0, b1⟩ h; simp_all [segc_inj]) (a, k)
theorem pe_heldSegS_ok : PE1 Tryd.prog 16 pe_heldSegS := peR_ok (by rintro ⟨a, k⟩ hp; exact heldSegS a k hp)
end Go.T52
