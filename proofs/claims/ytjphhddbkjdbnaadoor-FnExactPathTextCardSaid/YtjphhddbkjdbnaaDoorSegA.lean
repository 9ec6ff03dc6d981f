/- Own text: part SegA. -/
import Derived.Test.YtjphhddbkjdbnaaDoorTypes2
import Derived.Test.YtjphhddbkjdbnaaDoorTextA
import Derived.Test.YtjphhddbkjdbnaaDoorMarkA
import Derived.Test.YtjphhddbkjdbnaaDoorBaseE
set_option linter.unusedVariables false
set_option linter.unusedSimpArgs false
namespace Go.T52
set_option linter.unusedSectionVars false
variable [Go.Vg.Glob]
open Go.Proofs Go.Vg Go.RowKit Go.TT Go.Pl Go.T8 Go.T44
set_option linter.unusedVariables false
set_option linter.unusedSimpArgs false
set_option maxRecDepth 10000
set_option maxHeartbeats 4000000
theorem SegOk_i (k n : Int) (x : Bs) : PF Tryd.prog 13 [.agg [.i .i64 k, .i .i64 n, .s x]] (.b (sgOk ⟨k, n, x⟩)) := by
  refine ⟨rfl, rfl, FnK.of (cf := mkCf Tryd.prog te [(31, pe_within)] 32 0 false (fun _ => false) (kp [(0, [1]), (1, [1, 4]), (2, [1, 4, 5]), (3, [1, 4, 5]), (4, [2]), (5, [1, 4, 16]), (6, [2]), (7, [1, 4, 21]), (8, [1, 21]), (9, [2]), (10, [2])]) [] []) (mkCf_ok te_ok (l := [(31, pe_within)]) (⟨pe_within_ok, trivial⟩) mixed_ok) Tryd.func13 rfl rfl rfl (by simp [mkCf]) (by simp [mkCf]) (rs := [.tmp 2]) rfl 100000 ?_⟩
  simp only [↓XC, XV, entry, isStr, tdOf, szOf, zeroOf, TD.isStruct, okCell, cellsOf, SO.isMap, SO.sz, SO.el, SO.n, SO.ro, mkCf, quietOp, opClass, okLeaf, spl, cellV, isU8T, isSlS, fillS, fillP, repl, SO.put, SV.mapH, frzV, frzVL, frzOk, frzOkL, lendOk, SV.bit, bitL, SV.plain, plainL, isE, mapHL, strip, stripL, gok, gokL, forall_const, implies_true, reduceIte, Nat.reduceAdd, Nat.reduceLT, Nat.reduceEqDiff, Nat.reduceBEq, Nat.reduceLeDiff, reduceCtorEq, Nat.reduceSub, Nat.reduceMul, Int.reduceToNat, Int.reduceLT, Int.reduceLE, TES, pe_within_eq]
  repeat' (first | with_reducible refine Chk.mk ?_ fun _ => ?_ | with_reducible refine And.intro ?_ ?_ | intro _)
  all_goals first
    | (exfalso; omega)
    | (simp_all [sgOk]; done)
    | (simp_all [sgOk]; grind)
noncomputable def pe_SegOk_i : PE := peR (fun (x : Int × Int × Bs) => match x with | (k, n, x) => [.agg [.i .i64 k, .i .i64 n, .s x]]) (fun (x : Int × Int × Bs) => match x with | (k, n, x) => True) (fun (x : Int × Int × Bs) => match x with | (k, n, x) => .b (sgOk ⟨k, n, x⟩))
theorem pe_SegOk_i_eq {k n : Int} {x : Bs} : pe_SegOk_i [.agg [.i .i64 k, .i .i64 n, .s x]] = some (True, .b (sgOk ⟨k, n, x⟩)) := peR_eq (by rintro ⟨a0, a1, a2⟩ ⟨b0, b1, b2⟩ h; simp_all []) (k, n, x)
theorem pe_SegOk_i_ok : PE1 Tryd.prog 13 pe_SegOk_i := peR_ok (by rintro ⟨k, n, x⟩ hp; exact SegOk_i k n x)
theorem SegOk_s (k n : Int) (x : Bs) : PF Tryd.prog 18 [.agg [.i .i64 k, .i .i64 n, .s x]] (.b (sgOk ⟨k, n, x⟩)) := by
  refine ⟨rfl, rfl, FnK.of (cf := mkCf Tryd.prog te [] 48 0 false (fun _ => false) (kp [(0, [1]), (1, [1, 3]), (2, [2])]) [] []) (mkCf_ok te_ok (l := []) (trivial) mixed_ok) Tryd.func18 rfl rfl rfl (by simp [mkCf]) (by simp [mkCf]) (rs := [.tmp 2]) rfl 100000 ?_⟩
  simp only [↓XC, XV, entry, isStr, tdOf, szOf, zeroOf, TD.isStruct, okCell, cellsOf, SO.isMap, SO.sz, SO.el, SO.n, SO.ro, mkCf, quietOp, opClass, okLeaf, spl, cellV, isU8T, isSlS, fillS, fillP, repl, SO.put, SV.mapH, frzV, frzVL, frzOk, frzOkL, lendOk, SV.bit, bitL, SV.plain, plainL, isE, mapHL, strip, stripL, gok, gokL, forall_const, implies_true, reduceIte, Nat.reduceAdd, Nat.reduceLT, Nat.reduceEqDiff, Nat.reduceBEq, Nat.reduceLeDiff, reduceCtorEq, Nat.reduceSub, Nat.reduceMul, Int.reduceToNat, Int.reduceLT, Int.reduceLE, TES]
  repeat' (first | with_reducible refine Chk.mk ?_ fun _ => ?_ | with_reducible refine And.intro ?_ ?_ | intro _)
  all_goals (rw [SV.b.injEq, Bool.eq_iff_iff]; simp only [sgOk, Bool.and_eq_true, Bool.or_eq_true, decide_eq_true_eq]; grind)
noncomputable def pe_SegOk_s : PE := peR (fun (x : Int × Int × Bs) => match x with | (k, n, x) => [.agg [.i .i64 k, .i .i64 n, .s x]]) (fun (x : Int × Int × Bs) => match x with | (k, n, x) => True) (fun (x : Int × Int × Bs) => match x with | (k, n, x) => .b (sgOk ⟨k, n, x⟩))
theorem pe_SegOk_s_eq {k n : Int} {x : Bs} : pe_SegOk_s [.agg [.i .i64 k, .i .i64 n, .s x]] = some (True, .b (sgOk ⟨k, n, x⟩)) := peR_eq (by rintro ⟨a0, a1, a2⟩ ⟨b0, b1, b2⟩ h; simp_all []) (k, n, x)
theorem pe_SegOk_s_ok : PE1 Tryd.prog 18 pe_SegOk_s := peR_ok (by rintro ⟨k, n, x⟩ hp; exact SegOk_s k n x)
theorem toSeg (k n : Int) (x : Bs) : PF Tryd.prog 22 [.agg [.i .i64 k, .i .i64 n, .s x]] (.agg [.i .i64 k, .i .i64 n, .s x]) := by
  refine ⟨rfl, rfl, FnK.of (cf := mkCf Tryd.prog te [] 14 0 false (fun _ => false) (kp [(0, [1, 2]), (1, [1, 2, 3]), (2, [1, 2, 3]), (3, [1, 2, 3]), (4, [2, 3]), (5, [2])]) [] []) (mkCf_ok te_ok (l := []) (trivial) mixed_ok) Tryd.func22 rfl rfl rfl (by simp [mkCf]) (by simp [mkCf]) (rs := [.cell 2 34]) rfl 100000 ?_⟩
  simp only [↓XC, XV, entry, isStr, tdOf, szOf, zeroOf, TD.isStruct, okCell, cellsOf, SO.isMap, SO.sz, SO.el, SO.n, SO.ro, mkCf, quietOp, opClass, okLeaf, spl, cellV, isU8T, isSlS, fillS, fillP, repl, SO.put, SV.mapH, frzV, frzVL, frzOk, frzOkL, lendOk, SV.bit, bitL, SV.plain, plainL, isE, mapHL, strip, stripL, gok, gokL, forall_const, implies_true, reduceIte, Nat.reduceAdd, Nat.reduceLT, Nat.reduceEqDiff, Nat.reduceBEq, Nat.reduceLeDiff, reduceCtorEq, Nat.reduceSub, Nat.reduceMul, Int.reduceToNat, Int.reduceLT, Int.reduceLE, TES]

noncomputable def pe_toSeg : PE := peR (fun (x : Int × Int × Bs) => match x with | (k, n, x) => [.agg [.i .i64 k, .i .i64 n, .s x]]) (fun (x : Int × Int × Bs) => match x with | (k, n, x) => True) (fun (x : Int × Int × Bs) => match x with | (k, n, x) => .agg [.i .i64 k, .i .i64 n, .s x])
theorem pe_toSeg_eq {k n : Int} {x : Bs} : pe_toSeg [.agg [.i .i64 k, .i .i64 n, .s x]] = some (True, .agg [.i .i64 k, .i .i64 n, .s x]) := peR_eq (by rintro ⟨a0, a1, a2⟩ ⟨b0, b1, b2⟩ h; simp_all []) (k, n, x)
theorem pe_toSeg_ok : PE1 Tryd.prog 22 pe_toSeg := peR_ok (by rintro ⟨k, n, x⟩ hp; exact toSeg k n x)
theorem szSeg (k n : Int) (x : Bs) (l : Int) (hp : l ≤ 1048576 ∧ 0 ≤ l ∧ x.length ≤ 9223372036854775807) : PF Tryd.prog 17 [.agg [.i .i64 k, .i .i64 n, .s x], .i .i64 l] (.i .i64 (if l < x.length then -1 else l - x.length)) := by
  refine ⟨rfl, rfl, FnK.of (cf := mkCf Tryd.prog te [] 13 0 false (fun _ => false) (kp [(0, [1, 2]), (1, [1]), (2, [1, 11]), (3, [4]), (4, [4])]) [] []) (mkCf_ok te_ok (l := []) (trivial) mixed_ok) Tryd.func17 rfl rfl rfl (by simp [mkCf]) (by simp [mkCf]) (rs := [.tmp 4]) rfl 100000 ?_⟩
  simp only [↓XC, XV, entry, isStr, tdOf, szOf, zeroOf, TD.isStruct, okCell, cellsOf, SO.isMap, SO.sz, SO.el, SO.n, SO.ro, mkCf, quietOp, opClass, okLeaf, spl, cellV, isU8T, isSlS, fillS, fillP, repl, SO.put, SV.mapH, frzV, frzVL, frzOk, frzOkL, lendOk, SV.bit, bitL, SV.plain, plainL, isE, mapHL, strip, stripL, gok, gokL, forall_const, implies_true, reduceIte, Nat.reduceAdd, Nat.reduceLT, Nat.reduceEqDiff, Nat.reduceBEq, Nat.reduceLeDiff, reduceCtorEq, Nat.reduceSub, Nat.reduceMul, Int.reduceToNat, Int.reduceLT, Int.reduceLE, TES]
  repeat' (first | with_reducible refine Chk.mk ?_ fun _ => ?_ | with_reducible refine And.intro ?_ ?_ | intro _)
  all_goals first
    | (simp only [inR]; omega)
    | (simp only [SV.i.injEq, true_and]; split <;> omega)
noncomputable def pe_szSeg : PE := peR (fun (x : Int × Int × Bs × Int) => match x with | (k, n, x, l) => [.agg [.i .i64 k, .i .i64 n, .s x], .i .i64 l]) (fun (x : Int × Int × Bs × Int) => match x with | (k, n, x, l) => l ≤ 1048576 ∧ 0 ≤ l ∧ x.length ≤ 9223372036854775807) (fun (x : Int × Int × Bs × Int) => match x with | (k, n, x, l) => .i .i64 (if l < x.length then -1 else l - x.length))
theorem pe_szSeg_eq {k n : Int} {x : Bs} {l : Int} : pe_szSeg [.agg [.i .i64 k, .i .i64 n, .s x], .i .i64 l] = some (l ≤ 1048576 ∧ 0 ≤ l ∧ x.length ≤ 9223372036854775807, .i .i64 (if l < x.length then -1 else l - x.length)) := peR_eq (by rintro ⟨a0, a1, a2, a3⟩ ⟨b0, b1, b2, b3⟩ h; simp_all []) (k, n, x, l)
theorem pe_szSeg_ok : PE1 Tryd.prog 17 pe_szSeg := peR_ok (by rintro ⟨k, n, x, l⟩ hp; exact szSeg k n x l hp)
theorem eqSeg (k n : Int) (x : Bs) (k' n' : Int) (x' : Bs) : PF Tryd.prog 26 [.agg [.i .i64 k, .i .i64 n, .s x], .agg [.i .i64 k', .i .i64 n', .s x']] (.b (decide (⟨k, n, x⟩ = (⟨k', n', x'⟩ : Sg)))) := by
  refine ⟨rfl, rfl, FnK.of (cf := mkCf Tryd.prog te [] 20 0 false (fun _ => false) (kp [(0, [2, 3]), (1, [2, 3, 9]), (2, [4]), (3, [2, 3, 14]), (4, [4]), (5, [19]), (6, [4]), (7, [4])]) [] []) (mkCf_ok te_ok (l := []) (trivial) mixed_ok) Tryd.func26 rfl rfl rfl (by simp [mkCf]) (by simp [mkCf]) (rs := [.tmp 4]) rfl 100000 ?_⟩
  simp only [↓XC, XV, entry, isStr, tdOf, szOf, zeroOf, TD.isStruct, okCell, cellsOf, SO.isMap, SO.sz, SO.el, SO.n, SO.ro, mkCf, quietOp, opClass, okLeaf, spl, cellV, isU8T, isSlS, fillS, fillP, repl, SO.put, SV.mapH, frzV, frzVL, frzOk, frzOkL, lendOk, SV.bit, bitL, SV.plain, plainL, isE, mapHL, strip, stripL, gok, gokL, forall_const, implies_true, reduceIte, Nat.reduceAdd, Nat.reduceLT, Nat.reduceEqDiff, Nat.reduceBEq, Nat.reduceLeDiff, reduceCtorEq, Nat.reduceSub, Nat.reduceMul, Int.reduceToNat, Int.reduceLT, Int.reduceLE, TES]
  repeat' (first | with_reducible refine Chk.mk ?_ fun _ => ?_ | with_reducible refine And.intro ?_ ?_ | intro _)
  all_goals simp_all
noncomputable def pe_eqSeg : PE := peR (fun (x : Int × Int × Bs × Int × Int × Bs) => match x with | (k, n, x, k', n', x') => [.agg [.i .i64 k, .i .i64 n, .s x], .agg [.i .i64 k', .i .i64 n', .s x']]) (fun (x : Int × Int × Bs × Int × Int × Bs) => match x with | (k, n, x, k', n', x') => True) (fun (x : Int × Int × Bs × Int × Int × Bs) => match x with | (k, n, x, k', n', x') => .b (decide (⟨k, n, x⟩ = (⟨k', n', x'⟩ : Sg))))
theorem pe_eqSeg_eq {k n : Int} {x : Bs} {k' n' : Int} {x' : Bs} : pe_eqSeg [.agg [.i .i64 k, .i .i64 n, .s x], .agg [.i .i64 k', .i .i64 n', .s x']] = some (True, .b (decide (⟨k, n, x⟩ = (⟨k', n', x'⟩ : Sg)))) := peR_eq (by rintro ⟨a0, a1, a2, a3, a4, a5⟩ ⟨b0, b1, b2, b3, b4, b5⟩ h; simp_all []) (k, n, x, k', n', x')
theorem pe_eqSeg_ok : PE1 Tryd.prog 26 pe_eqSeg := peR_ok (by rintro ⟨k, n, x, k', n', x'⟩ hp; exact eqSeg k n x k' n' x')
theorem szSegS (a : List Sg) (l : Int) (hp : 0 ≤ l ∧ l ≤ 1048576 ∧ a.length ≤ 9223372036854775807 ∧ (∀ i, i < a.length → (a.getD i sgz).text.length ≤ 9223372036854775807)) : PF Tryd.prog 6 [.fs 3 (a.map segc), .i .i64 l] (.i .i64 (if l < a.length + sgW a then -1 else l - (a.length + sgW a))) := by
  refine ⟨rfl, rfl, FnK.of (cf := mkCf Tryd.prog te [(17, pe_szSeg)] 27 0 false (fun _ => false) (kp [(0, [0, 1]), (1, [0, 1]), (2, [0, 1, 11]), (3, [4]), (4, [0, 1, 5]), (5, [0, 1, 5, 15]), (6, [0, 1, 5]), (7, [0, 1, 5]), (8, [0, 1, 5, 25]), (9, [4]), (10, [4])]) [] []) (mkCf_ok te_ok (l := [(17, pe_szSeg)]) (⟨pe_szSeg_ok, trivial⟩) mixed_ok) Tryd.func6 rfl rfl rfl (by simp [mkCf]) (by simp [mkCf]) (rs := [.tmp 4]) rfl 100000 ?_⟩
  simp only [↓XC, XV, entry, isStr, tdOf, szOf, zeroOf, TD.isStruct, okCell, cellsOf, SO.isMap, SO.sz, SO.el, SO.n, SO.ro, mkCf, quietOp, opClass, okLeaf, spl, cellV, isU8T, isSlS, fillS, fillP, repl, SO.put, SV.mapH, frzV, frzVL, frzOk, frzOkL, lendOk, SV.bit, bitL, SV.plain, plainL, isE, mapHL, strip, stripL, gok, gokL, forall_const, implies_true, reduceIte, Nat.reduceAdd, Nat.reduceLT, Nat.reduceEqDiff, Nat.reduceBEq, Nat.reduceLeDiff, reduceCtorEq, Nat.reduceSub, Nat.reduceMul, Int.reduceToNat, Int.reduceLT, Int.reduceLE, TES, pe_szSeg_eq, XRS]
  obtain ⟨h1, h2, h3, h4⟩ := hp
  refine Chk.mk (by simp only [inR]; omega) fun _ => ⟨fun h => by rw [if_pos (by omega)], fun h => ?_⟩
  refine VLoops.of (ι := {i : Nat // i ≤ a.length ∧ a.length + sgW (a.take i) ≤ l}) (fun x => ⟨[(0, .fs 3 (a.map segc)), (1, .i .i64 (l - (a.length + sgW (a.take x.1)))), (5, .i .i64 (x.1 : Nat))], []⟩) (fun x => a.length - x.1) ⟨0, Nat.zero_le _, by simp [sgW]; omega⟩ (by simp [sgW]; exact Ent.refl _ _) ?_
  rintro ⟨i, hi, hs⟩
  simp only [↓XC, XV, entry, isStr, tdOf, szOf, zeroOf, TD.isStruct, okCell, cellsOf, SO.isMap, SO.sz, SO.el, SO.n, SO.ro, mkCf, quietOp, opClass, okLeaf, spl, cellV, isU8T, isSlS, fillS, fillP, repl, SO.put, SV.mapH, frzV, frzVL, frzOk, frzOkL, lendOk, SV.bit, bitL, SV.plain, plainL, isE, mapHL, strip, stripL, gok, gokL, forall_const, implies_true, reduceIte, Nat.reduceAdd, Nat.reduceLT, Nat.reduceEqDiff, Nat.reduceBEq, Nat.reduceLeDiff, reduceCtorEq, Nat.reduceSub, Nat.reduceMul, Int.reduceToNat, Int.reduceLT, Int.reduceLE, TES, pe_szSeg_eq, XRS]
  have hs2 := sgW_le (l := a) i
  refine ⟨fun h5 => Chk.mk (by omega) fun _ => ?_, fun h5 => ?_⟩
  · have hg := h4 i (by omega)
    have ht := sgW_take (l := a) (i := i) (by omega)
    have ht2 := sgW_le (l := a) (i + 1)
    refine Chk.mk ⟨by omega, by omega, hg⟩ fun _ => ⟨fun h6 => ?_, fun h6 => ?_⟩
    · split at h6
      · rw [if_pos (by omega)]
      · omega
    · have hj : (a.length : Int) + (sgW (a.take (i + 1)) : Nat) ≤ l := by split at h6 <;> omega
      rw [if_neg (by omega)]
      rw [show l - ((a.length : Int) + (sgW (a.take i) : Nat)) - ((a.getD i sgz).text.length : Int) = l - (a.length + (sgW (a.take (i + 1)) : Nat)) by omega]
      exact Chk.mk (by simp only [inR]; omega) fun _ => ⟨⟨i + 1, by omega, hj⟩, by simp only; omega, (by first | exact Ent.refl _ _ | (simp only [Int.natCast_add, Int.natCast_one]; exact Ent.refl _ _))⟩
  · rw [show a.take i = a by rw [show i = a.length by omega]; exact List.take_length] at hs ⊢
    rw [if_neg (by omega)]
noncomputable def pe_szSegS : PE := peR (fun (x : List Sg × Int) => match x with | (a, l) => [.fs 3 (a.map segc), .i .i64 l]) (fun (x : List Sg × Int) => match x with | (a, l) => 0 ≤ l ∧ l ≤ 1048576 ∧ a.length ≤ 9223372036854775807 ∧ (∀ i, i < a.length → (a.getD i sgz).text.length ≤ 9223372036854775807)) (fun (x : List Sg × Int) => match x with | (a, l) => .i .i64 (if l < a.length + sgW a then -1 else l - (a.length + sgW a)))
theorem pe_szSegS_eq {a : List Sg} {l : Int} : pe_szSegS [.fs 3 (a.map segc), .i .i64 l] = some (0 ≤ l ∧ l ≤ 1048576 ∧ a.length ≤ 9223372036854775807 ∧ (∀ i, i < a.length → (a.getD i sgz).text.length ≤ 9223372036854775807), .i .i64 (if l < a.length + sgW a then -1 else l - (a.length + sgW a))) := peR_eq (by rintro ⟨a0, a1⟩ ⟨b0, b1⟩ h; simp_all [segc_inj]) (a, l)
theorem pe_szSegS_ok : PE1 Tryd.prog 6 pe_szSegS := peR_ok (by rintro ⟨a, l⟩ hp; exact szSegS a l hp)
theorem toSegS_own (a : List Sg) (hp : a.length ≤ 1048576) : FnK Tryd.prog 8 0 [.fs 3 (a.map segc)] [] (fun z c => z = .slc 0 0 a.length ∧ c = [some (.row false 3 a.length (rowE segc sgz a))]) := by
  refine FnK.ofE (cf := mkCf Tryd.prog te [(22, pe_toSeg)] 23 0 false (fun _ => false) (kp [(0, [0]), (1, [0, 3]), (2, [0, 3, 4]), (3, [0, 3, 4, 11]), (4, [0, 3, 4]), (5, [0, 3, 4]), (6, [2])]) [] []) (mkCf_ok te_ok (l := [(22, pe_toSeg)]) (⟨pe_toSeg_ok, trivial⟩) mixed_ok) Tryd.func8 rfl rfl rfl (by simp [mkCf]) (by simp [mkCf]) (rs := [.tmp 2]) rfl 100000 ?_
  simp only [↓XC, XV, entry, isStr, tdOf, szOf, zeroOf, TD.isStruct, okCell, cellsOf, SO.isMap, SO.sz, SO.el, SO.n, SO.ro, mkCf, quietOp, opClass, okLeaf, spl, cellV, isU8T, isSlS, fillS, fillP, repl, SO.put, SV.mapH, frzV, frzVL, frzOk, frzOkL, lendOk, SV.bit, bitL, SV.plain, plainL, isE, mapHL, strip, stripL, gok, gokL, forall_const, implies_true, reduceIte, Nat.reduceAdd, Nat.reduceLT, Nat.reduceEqDiff, Nat.reduceBEq, Nat.reduceLeDiff, reduceCtorEq, Nat.reduceSub, Nat.reduceMul, Int.reduceToNat, Int.reduceLT, Int.reduceLE, TES, pe_toSeg_eq, XRS]
  refine Chk.mk (by omega) fun _ => ?_
  refine VLoops.of (ι := {i : Nat // i ≤ a.length}) (fun x => ⟨[(0, .fs 3 (a.map segc)), (3, .slc 0 0 a.length), (4, .i .i64 (x.1 : Nat))], [some (.row false 3 a.length (rowE segc sgz (a.take x.1)))]⟩) (fun x => a.length - x.1) ⟨0, Nat.zero_le _⟩ (by simp only [List.take_zero]; exact (Ent.ren1 [0] (by decide) (by simp only [entCtx, at_cons_zero, at_cons_succ, and_true, true_and]; exact soLe_row fun j hj => rfl) (by simp [entEnv, Vg.look, SV.mapH, muL]))) ?_
  rintro ⟨i, hi⟩
  simp only [↓XC, XV, entry, isStr, tdOf, szOf, zeroOf, TD.isStruct, okCell, cellsOf, SO.isMap, SO.sz, SO.el, SO.n, SO.ro, mkCf, quietOp, opClass, okLeaf, spl, cellV, isU8T, isSlS, fillS, fillP, repl, SO.put, SV.mapH, frzV, frzVL, frzOk, frzOkL, lendOk, SV.bit, bitL, SV.plain, plainL, isE, mapHL, strip, stripL, gok, gokL, forall_const, implies_true, reduceIte, Nat.reduceAdd, Nat.reduceLT, Nat.reduceEqDiff, Nat.reduceBEq, Nat.reduceLeDiff, reduceCtorEq, Nat.reduceSub, Nat.reduceMul, Int.reduceToNat, Int.reduceLT, Int.reduceLE, TES, pe_toSeg_eq, XRS]
  refine ⟨fun h => Chk.mk (by omega) fun _ => Chk.mk (by omega) fun _ => Chk.mk (by omega) fun _ => Chk.mk (by simp only [inR]; omega) fun _ => ⟨⟨i + 1, by omega⟩, by simp only; omega, ?_⟩, fun h => ?_⟩
  · simp only [Int.natCast_add, Int.natCast_one]
    refine (Ent.ren1 [0] (by decide) (by simp only [entCtx, at_cons_zero, at_cons_succ, and_true, true_and]; exact soLe_fill (fun _ => rfl) (by omega) fun j hj => rfl) (by simp [entEnv, Vg.look, SV.mapH, muL]))
  · have hia : i = a.length := by omega
    subst hia
    rw [List.take_length]
    exact ⟨[0], by decide, by simp only [entCtx, at_cons_zero, at_cons_succ, and_true, true_and]; exact soLe_same fun _ => rfl, by simp only [↓XC, XV, entry, isStr, tdOf, szOf, zeroOf, TD.isStruct, okCell, cellsOf, SO.isMap, SO.sz, SO.el, SO.n, SO.ro, mkCf, quietOp, opClass, okLeaf, spl, cellV, isU8T, isSlS, fillS, fillP, repl, SO.put, SV.mapH, frzV, frzVL, frzOk, frzOkL, lendOk, SV.bit, bitL, SV.plain, plainL, isE, mapHL, strip, stripL, gok, gokL, forall_const, implies_true, reduceIte, Nat.reduceAdd, Nat.reduceLT, Nat.reduceEqDiff, Nat.reduceBEq, Nat.reduceLeDiff, reduceCtorEq, Nat.reduceSub, Nat.reduceMul, Int.reduceToNat, Int.reduceLT, Int.reduceLE]; try simp [muL, SV.mapH, mapHL], by simp [newRw, SO.ro], by simp⟩
theorem toSegS (a : List Sg) (hp : a.length ≤ 1048576) : PF Tryd.prog 8 [.fs 3 (a.map segc)] (.fs 3 (a.map segc)) := PF.ofOwn (toSegS_own a hp) rfl rfl (by simp only [frzOk, frzOkL, frzV, frzVL, at_cons_zero, and_true]; exact ⟨⟨by omega, fun j hj => ⟨rfl, rfl⟩⟩, by rw [rowE_list rfl]⟩)
noncomputable def pe_toSegS : PE := peR (fun (a : List Sg) => [.fs 3 (a.map segc)]) (fun (a : List Sg) => a.length ≤ 1048576) (fun (a : List Sg) => .fs 3 (a.map segc))
theorem pe_toSegS_eq {a : List Sg} : pe_toSegS [.fs 3 (a.map segc)] = some (a.length ≤ 1048576, .fs 3 (a.map segc)) := peR_eq (by rintro a b h; simp_all [segc_inj]) a
theorem pe_toSegS_ok : PE1 Tryd.prog 8 pe_toSegS := peR_ok (by rintro a hp; exact toSegS a hp)
theorem eqSegS (a b : List Sg) (hp : a.length ≤ 1048576) : PF Tryd.prog 10 [.fs 3 (a.map segc), .fs 3 (b.map segc)] (.b (decide (a = b))) := by
  refine ⟨rfl, rfl, FnK.of (cf := mkCf Tryd.prog te [(26, pe_eqSeg)] 27 0 false (fun _ => false) (kp [(0, [0, 1]), (1, [0, 1, 10]), (2, [4]), (3, [0, 1, 5]), (4, [0, 1, 5, 14]), (5, [0, 1, 5]), (6, [0, 1, 5, 26]), (7, [4]), (8, [4])]) [] [(6, [], [], .q1 0 (.q1 1 (.q1 2 (.q1 4 (.q1 5 (.q1 6 (.q0 3 [3] (.q0 7 [7] (.alt 8 (.q1 9 (.fin)) (.fin))))))))))]) (mkCf_ok te_ok (l := [(26, pe_eqSeg)]) (⟨pe_eqSeg_ok, trivial⟩) mixed_ok) Tryd.func10 rfl rfl rfl (by simp [mkCf]) (by simp [mkCf]) (rs := [.tmp 4]) rfl 100000 ?_⟩
  simp only [↓XC, XV, entry, isStr, tdOf, szOf, zeroOf, TD.isStruct, okCell, cellsOf, SO.isMap, SO.sz, SO.el, SO.n, SO.ro, mkCf, quietOp, opClass, okLeaf, spl, cellV, isU8T, isSlS, fillS, fillP, repl, SO.put, SV.mapH, frzV, frzVL, frzOk, frzOkL, lendOk, SV.bit, bitL, SV.plain, plainL, isE, mapHL, strip, stripL, gok, gokL, forall_const, implies_true, reduceIte, Nat.reduceAdd, Nat.reduceLT, Nat.reduceEqDiff, Nat.reduceBEq, Nat.reduceLeDiff, reduceCtorEq, Nat.reduceSub, Nat.reduceMul, Int.reduceToNat, Int.reduceLT, Int.reduceLE, TES, pe_eqSeg_eq, XRS]
  refine ⟨fun h => ?_, fun h => ?_⟩
  · have : a ≠ b := by intro e; subst e; simp at h
    simp [this]
  have hlen : a.length = b.length := by simp at h; omega
  refine VLoops.of (ι := {i : Nat // i ≤ a.length ∧ ∀ j, j < i → a.getD j sgz = b.getD j sgz}) (fun x => ⟨[(0, .fs 3 (a.map segc)), (1, .fs 3 (b.map segc)), (5, .i .i64 (x.1 : Nat))], []⟩) (fun x => a.length - x.1) ⟨0, Nat.zero_le _, fun j hj => absurd hj (Nat.not_lt_zero _)⟩ (Ent.refl _ _) ?_
  rintro ⟨i, hi, hj⟩
  simp only [↓XC, XV, entry, isStr, tdOf, szOf, zeroOf, TD.isStruct, okCell, cellsOf, SO.isMap, SO.sz, SO.el, SO.n, SO.ro, mkCf, quietOp, opClass, okLeaf, spl, cellV, isU8T, isSlS, fillS, fillP, repl, SO.put, SV.mapH, frzV, frzVL, frzOk, frzOkL, lendOk, SV.bit, bitL, SV.plain, plainL, isE, mapHL, strip, stripL, gok, gokL, forall_const, implies_true, reduceIte, Nat.reduceAdd, Nat.reduceLT, Nat.reduceEqDiff, Nat.reduceBEq, Nat.reduceLeDiff, reduceCtorEq, Nat.reduceSub, Nat.reduceMul, Int.reduceToNat, Int.reduceLT, Int.reduceLE, TES, pe_eqSeg_eq, XRS]
  refine ⟨fun h => ⟨by decide +kernel, Chk.mk (by omega) fun _ => Chk.mk (by omega) fun _ => ⟨fun hne => ?_, fun hne => Chk.mk (by simp only [inR]; omega) fun _ => ⟨⟨i + 1, by omega, ?_⟩, by simp only; omega, (by first | exact Ent.refl _ _ | (simp only [Int.natCast_add, Int.natCast_one]; exact Ent.refl _ _))⟩⟩⟩, fun h => ?_⟩
  · have : a ≠ b := by intro e; subst e; simp at hne
    simp [this]
  · intro j hjj
    rcases Nat.lt_or_ge j i with h1 | h1
    · exact hj j h1
    · have : j = i := by omega
      subst this
      simpa using hne
  · have : a = b := eq_of_getD sgz hlen fun j h1 => hj j (by omega)
    simp [this]
noncomputable def pe_eqSegS : PE := peR (fun (x : List Sg × List Sg) => match x with | (a, b) => [.fs 3 (a.map segc), .fs 3 (b.map segc)]) (fun (x : List Sg × List Sg) => match x with | (a, b) => a.length ≤ 1048576) (fun (x : List Sg × List Sg) => match x with | (a, b) => .b (decide (a = b)))
theorem pe_eqSegS_eq {a b : List Sg} : pe_eqSegS [.fs 3 (a.map segc), .fs 3 (b.map segc)] = some (a.length ≤ 1048576, .b (decide (a = b))) := peR_eq (by rintro ⟨a0, a1⟩ ⟨b0, b1⟩ h; simp_all [segc_inj]) (a, b)
theorem pe_eqSegS_ok : PE1 Tryd.prog 10 pe_eqSegS := peR_ok (by rintro ⟨a, b⟩ hp; exact eqSegS a b hp)
end Go.T52
