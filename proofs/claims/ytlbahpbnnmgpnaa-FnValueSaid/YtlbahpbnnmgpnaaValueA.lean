/- Own text: part ValueA. -/
import Derived.Test.YtlbahpbnnmgpnaaTypes2
import Derived.Test.YtlbahpbnnmgpnaaIntA
import Derived.Test.YtlbahpbnnmgpnaaEventA
import Derived.Test.YtlbahpbnnmgpnaaBaseE
import Derived.Test.YtlbahpbnnmgpnaaPlV
namespace Go.T24
open Go.Proofs Go.Vg Go.RowKit Go.TT Go.Pl Go.T6 Go.T8 Go.T12
set_option linter.unusedVariables false
set_option linter.unusedSimpArgs false
set_option maxRecDepth 10000
set_option maxHeartbeats 4000000
theorem plain_i (s : Bs) (hp : s.length ≤ 1048576) : PF Try.prog 85 [.s s] (.agg [.i .i64 (plV (intV s) s).1, .i .i64 (plV (intV s) s).2.1, .b (plV (intV s) s).2.2.1, .s (plV (intV s) s).2.2.2]) := by
  refine ⟨rfl, rfl, FnK.of (cf := mkCf Try.prog te [(26, pe_implIntOf)] 33 0 false (fun _ => false) (kp [(0, [0, 2]), (1, [0, 2, 5]), (2, [0, 2, 5, 6]), (3, [0, 2, 5, 6]), (4, [0, 2, 5, 6]), (5, [0, 2, 5, 6]), (6, [0, 2, 5, 6]), (7, [2]), (8, [0, 2, 5, 13]), (9, [0, 2, 5, 13]), (10, [0, 2, 5, 13]), (11, [2]), (12, [0, 2, 5, 18]), (13, [0, 2, 5, 18]), (14, [0, 2, 18]), (15, [2]), (16, [0, 2, 3, 4]), (17, [0, 2, 3, 28]), (18, [2]), (19, [2])]) [] []) (mkCf_ok te_ok (l := [(26, pe_implIntOf)]) (⟨pe_implIntOf_ok, trivial⟩) mixed_ok) Try.func85 rfl rfl rfl (by simp [mkCf]) (by simp [mkCf]) (rs := [.cell 2 33]) rfl 100000 ?_⟩
  simp only [↓XC, XV, entry, isStr, tdOf, szOf, zeroOf, TD.isStruct, okCell, cellsOf, SO.isMap, SO.sz, SO.el, SO.n, SO.ro, mkCf, quietOp, opClass, okLeaf, spl, cellV, isU8T, isSlS, fillS, fillP, repl, SO.put, SV.mapH, frzV, frzVL, frzOk, frzOkL, lendOk, SV.bit, bitL, SV.plain, plainL, isE, mapHL, strip, stripL, gok, gokL, forall_const, implies_true, reduceIte, Nat.reduceAdd, Nat.reduceLT, Nat.reduceEqDiff, Nat.reduceBEq, Nat.reduceLeDiff, reduceCtorEq, Nat.reduceSub, Nat.reduceMul, Int.reduceToNat, Int.reduceLT, Int.reduceLE, TES, pe_implIntOf_eq]
  repeat' (first | with_reducible refine Chk.mk ?_ fun _ => ?_ | with_reducible refine And.intro ?_ ?_ | intro _)
  all_goals first
    | (simp_all [plV, nulW, truW, falW]; done)
    | (cases h : intV s <;> simp_all [plV, nulW, truW, falW])
noncomputable def pe_plain_i : PE := peR (fun (s : Bs) => [.s s]) (fun (s : Bs) => s.length ≤ 1048576) (fun (s : Bs) => .agg [.i .i64 (plV (intV s) s).1, .i .i64 (plV (intV s) s).2.1, .b (plV (intV s) s).2.2.1, .s (plV (intV s) s).2.2.2])
theorem pe_plain_i_eq {s : Bs} : pe_plain_i [.s s] = some (s.length ≤ 1048576, .agg [.i .i64 (plV (intV s) s).1, .i .i64 (plV (intV s) s).2.1, .b (plV (intV s) s).2.2.1, .s (plV (intV s) s).2.2.2]) := peR_eq (by rintro a b h; simp_all []) s
theorem pe_plain_i_ok : PE1 Try.prog 85 pe_plain_i := peR_ok (by rintro s hp; exact plain_i s hp)
theorem among (s : Bs) (l : List Bs) (hp : l.length ≤ 1048576) : PF Try.prog 110 [.s s, .fs 1 (l.map strc)] (.b (decide (s ∈ l))) := by
  refine ⟨rfl, rfl, FnK.of (cf := mkCf Try.prog te [] 17 0 false (fun _ => false) (kp [(0, [0, 1]), (1, [0, 7, 8, 9]), (2, [0, 7, 8, 9, 10]), (3, [0, 6, 7, 8, 9]), (4, [0, 7, 8, 9, 15]), (5, [4]), (6, [0, 7, 8, 9]), (7, [4])]) [] []) (mkCf_ok te_ok (l := []) (trivial) mixed_ok) Try.func110 rfl rfl rfl (by simp [mkCf]) (by simp [mkCf]) (rs := [.tmp 4]) rfl 100000 ?_⟩
  simp only [↓XC, XV, entry, isStr, tdOf, szOf, zeroOf, TD.isStruct, okCell, cellsOf, SO.isMap, SO.sz, SO.el, SO.n, SO.ro, mkCf, quietOp, opClass, okLeaf, spl, cellV, isU8T, isSlS, fillS, fillP, repl, SO.put, SV.mapH, frzV, frzVL, frzOk, frzOkL, lendOk, SV.bit, bitL, SV.plain, plainL, isE, mapHL, strip, stripL, gok, gokL, forall_const, implies_true, reduceIte, Nat.reduceAdd, Nat.reduceLT, Nat.reduceEqDiff, Nat.reduceBEq, Nat.reduceLeDiff, reduceCtorEq, Nat.reduceSub, Nat.reduceMul, Int.reduceToNat, Int.reduceLT, Int.reduceLE, TES, XR]
  refine VLoops.of (ι := {i : Nat // i ≤ l.length ∧ s ∉ l.take i}) (fun x => ⟨[(0, .s s), (7, .fs 1 (l.map strc)), (8, .i .i64 (l.length : Nat)), (9, .i .i64 (x.1 : Nat))], []⟩) (fun x => l.length - x.1) ⟨0, Nat.zero_le _, by simp⟩ (Ent.refl _ _) ?_
  rintro ⟨i, hi, hj⟩
  simp only [↓XC, XV, entry, isStr, tdOf, szOf, zeroOf, TD.isStruct, okCell, cellsOf, SO.isMap, SO.sz, SO.el, SO.n, SO.ro, mkCf, quietOp, opClass, okLeaf, spl, cellV, isU8T, isSlS, fillS, fillP, repl, SO.put, SV.mapH, frzV, frzVL, frzOk, frzOkL, lendOk, SV.bit, bitL, SV.plain, plainL, isE, mapHL, strip, stripL, gok, gokL, forall_const, implies_true, reduceIte, Nat.reduceAdd, Nat.reduceLT, Nat.reduceEqDiff, Nat.reduceBEq, Nat.reduceLeDiff, reduceCtorEq, Nat.reduceSub, Nat.reduceMul, Int.reduceToNat, Int.reduceLT, Int.reduceLE, TES, XR]
  refine ⟨fun hl => Chk.mk (by omega) fun _ => ⟨fun h => ?_, fun h => Chk.mk (by simp only [inR]; omega) fun _ => ⟨⟨i + 1, by omega, ?_⟩, by simp only; omega, (by first | exact Ent.refl _ _ | (simp only [Int.natCast_add, Int.natCast_one]; exact Ent.refl _ _))⟩⟩, fun hl => ?_⟩
  · have : s ∈ l := by rw [← h]; exact getD_mem (by omega)
    simp [this]
  · rw [take_snoc [] (by omega)]
    simp only [List.mem_append, List.mem_singleton, not_or]
    exact ⟨hj, fun e => h e.symm⟩
  · rw [show i = l.length by omega, List.take_length] at hj
    simp [hj]
noncomputable def pe_among : PE := peR (fun (x : Bs × List Bs) => match x with | (s, l) => [.s s, .fs 1 (l.map strc)]) (fun (x : Bs × List Bs) => match x with | (s, l) => l.length ≤ 1048576) (fun (x : Bs × List Bs) => match x with | (s, l) => .b (decide (s ∈ l)))
theorem pe_among_eq {s : Bs} {l : List Bs} : pe_among [.s s, .fs 1 (l.map strc)] = some (l.length ≤ 1048576, .b (decide (s ∈ l))) := peR_eq (by rintro ⟨a0, a1⟩ ⟨b0, b1⟩ h; simp_all [strc_inj]) (s, l)
theorem pe_among_ok : PE1 Try.prog 110 pe_among := peR_ok (by rintro ⟨s, l⟩ hp; exact among s l hp)
theorem lit_nul : rowList (litEl [.s [], .s [126], .s [110, 117, 108, 108], .s [78, 117, 108, 108], .s [78, 85, 76, 76]] 1) 0 5 = nulW.map strc := by rfl
theorem lit_tru : rowList (litEl [.s [116, 114, 117, 101], .s [84, 114, 117, 101], .s [84, 82, 85, 69]] 1) 0 3 = truW.map strc := by rfl
theorem lit_fal : rowList (litEl [.s [102, 97, 108, 115, 101], .s [70, 97, 108, 115, 101], .s [70, 65, 76, 83, 69]] 1) 0 3 = falW.map strc := by rfl
theorem plain_s (s : Bs) (hp : s.length ≤ 1048576) : PF Try.prog 89 [.s s] (.agg [.i .i64 (plV (intV s) s).1, .i .i64 (plV (intV s) s).2.1, .b (plV (intV s) s).2.2.1, .s (plV (intV s) s).2.2.2]) := by
  refine ⟨rfl, rfl, FnK.of (cf := mkCf Try.prog te [(25, pe_specIntOf), (110, pe_among)] 31 0 false (fun _ => false) (kp [(0, [0, 2]), (1, [0, 2, 3, 4]), (2, [0, 2, 3, 4, 10]), (3, [2]), (4, [0, 2, 3, 4, 15]), (5, [2]), (6, [0, 2, 3, 4, 20]), (7, [2]), (8, [0, 2, 3, 25]), (9, [2]), (10, [2])]) [] []) (mkCf_ok te_ok (l := [(25, pe_specIntOf), (110, pe_among)]) (⟨pe_specIntOf_ok, pe_among_ok, trivial⟩) mixed_ok) Try.func89 rfl rfl rfl (by simp [mkCf]) (by simp [mkCf]) (rs := [.cell 2 33]) rfl 100000 ?_⟩
  simp only [↓XC, XV, entry, isStr, tdOf, szOf, zeroOf, TD.isStruct, okCell, cellsOf, SO.isMap, SO.sz, SO.el, SO.n, SO.ro, mkCf, quietOp, opClass, okLeaf, spl, cellV, isU8T, isSlS, fillS, fillP, repl, SO.put, SV.mapH, frzV, frzVL, frzOk, frzOkL, lendOk, SV.bit, bitL, SV.plain, plainL, isE, mapHL, strip, stripL, gok, gokL, forall_const, implies_true, reduceIte, Nat.reduceAdd, Nat.reduceLT, Nat.reduceEqDiff, Nat.reduceBEq, Nat.reduceLeDiff, reduceCtorEq, Nat.reduceSub, Nat.reduceMul, Int.reduceToNat, Int.reduceLT, Int.reduceLE, TES, pe_specIntOf_eq, pe_among_eq, lit_nul, lit_tru, lit_fal]
  repeat' (first | with_reducible refine Chk.mk ?_ fun _ => ?_ | with_reducible refine And.intro ?_ ?_ | intro _)
  all_goals first
    | omega
    | decide
    | (rename_i j hj; revert j; decide)
    | (simp_all [plV]; done)
    | (cases h : intV s <;> simp_all [plV])
noncomputable def pe_plain_s : PE := peR (fun (s : Bs) => [.s s]) (fun (s : Bs) => s.length ≤ 1048576) (fun (s : Bs) => .agg [.i .i64 (plV (intV s) s).1, .i .i64 (plV (intV s) s).2.1, .b (plV (intV s) s).2.2.1, .s (plV (intV s) s).2.2.2])
theorem pe_plain_s_eq {s : Bs} : pe_plain_s [.s s] = some (s.length ≤ 1048576, .agg [.i .i64 (plV (intV s) s).1, .i .i64 (plV (intV s) s).2.1, .b (plV (intV s) s).2.2.1, .s (plV (intV s) s).2.2.2]) := peR_eq (by rintro a b h; simp_all []) s
theorem pe_plain_s_ok : PE1 Try.prog 89 pe_plain_s := peR_ok (by rintro s hp; exact plain_s s hp)
theorem ValueOf_i (k st : Int) (fl : Bool) (x a g : Bs) (p c : Int) (hp : x.length ≤ 1048576) : PF Try.prog 43 [.agg [.i .i64 k, .i .i64 st, .b fl, .s x, .s a, .s g, .i .i64 p, .i .i64 c]] (.agg [.i .i64 (valV (plV (intV x) x) ⟨k, st, fl, x, a, g, p, c⟩).1, .i .i64 (valV (plV (intV x) x) ⟨k, st, fl, x, a, g, p, c⟩).2.1, .b (valV (plV (intV x) x) ⟨k, st, fl, x, a, g, p, c⟩).2.2.1, .s (valV (plV (intV x) x) ⟨k, st, fl, x, a, g, p, c⟩).2.2.2]) := by
  refine ⟨rfl, rfl, FnK.of (cf := mkCf Try.prog te [(84, pe_EventOk_i), (85, pe_plain_i)] 65 0 false (fun _ => false) (kp [(0, [1, 2]), (1, [1, 2, 7]), (2, [2]), (3, [1, 2, 10]), (4, [2]), (5, [1, 2, 10, 12]), (6, [2]), (7, [1, 2, 10, 15]), (8, [2]), (9, [1, 2, 10, 18]), (10, [2]), (11, [1, 2, 23]), (12, [1, 2, 3]), (13, [1, 2, 3, 26]), (14, [1, 2, 3, 26, 27]), (15, [1, 2, 31]), (16, [2]), (17, [2]), (18, [1, 2, 3, 26, 38]), (19, [1, 2, 3, 26, 38]), (20, [2]), (21, [1, 2, 3, 26, 44]), (22, [1, 2, 3]), (23, [1, 2, 3, 26, 46]), (24, [1, 2, 3]), (25, [1, 2, 3, 48]), (26, [1, 2, 3]), (27, [1, 2, 3, 4]), (28, [1, 2, 4, 60]), (29, [2]), (30, [2])]) [] []) (mkCf_ok te_ok (l := [(84, pe_EventOk_i), (85, pe_plain_i)]) (⟨pe_EventOk_i_ok, pe_plain_i_ok, trivial⟩) mixed_ok) Try.func43 rfl rfl rfl (by simp [mkCf]) (by simp [mkCf]) (rs := [.cell 2 33]) rfl 100000 ?_⟩
  simp only [↓XC, XV, entry, isStr, tdOf, szOf, zeroOf, TD.isStruct, okCell, cellsOf, SO.isMap, SO.sz, SO.el, SO.n, SO.ro, mkCf, quietOp, opClass, okLeaf, spl, cellV, isU8T, isSlS, fillS, fillP, repl, SO.put, SV.mapH, frzV, frzVL, frzOk, frzOkL, lendOk, SV.bit, bitL, SV.plain, plainL, isE, mapHL, strip, stripL, gok, gokL, forall_const, implies_true, reduceIte, Nat.reduceAdd, Nat.reduceLT, Nat.reduceEqDiff, Nat.reduceBEq, Nat.reduceLeDiff, reduceCtorEq, Nat.reduceSub, Nat.reduceMul, Int.reduceToNat, Int.reduceLT, Int.reduceLE, TES, pe_EventOk_i_eq, pe_plain_i_eq]
  generalize plV (intV x) x = v at *
  repeat' (first | with_reducible refine Chk.mk ?_ fun _ => ?_ | with_reducible refine And.intro ?_ ?_ | intro _)
  all_goals first
    | omega
    | assumption
    | (simp_all [valV, strT, nulT, booT, intT, coreT]; done)
noncomputable def pe_ValueOf_i : PE := peR (fun (x : Int × Int × Bool × Bs × Bs × Bs × Int × Int) => match x with | (k, st, fl, x, a, g, p, c) => [.agg [.i .i64 k, .i .i64 st, .b fl, .s x, .s a, .s g, .i .i64 p, .i .i64 c]]) (fun (x : Int × Int × Bool × Bs × Bs × Bs × Int × Int) => match x with | (k, st, fl, x, a, g, p, c) => x.length ≤ 1048576) (fun (x : Int × Int × Bool × Bs × Bs × Bs × Int × Int) => match x with | (k, st, fl, x, a, g, p, c) => .agg [.i .i64 (valV (plV (intV x) x) ⟨k, st, fl, x, a, g, p, c⟩).1, .i .i64 (valV (plV (intV x) x) ⟨k, st, fl, x, a, g, p, c⟩).2.1, .b (valV (plV (intV x) x) ⟨k, st, fl, x, a, g, p, c⟩).2.2.1, .s (valV (plV (intV x) x) ⟨k, st, fl, x, a, g, p, c⟩).2.2.2])
theorem pe_ValueOf_i_eq {k st : Int} {fl : Bool} {x a g : Bs} {p c : Int} : pe_ValueOf_i [.agg [.i .i64 k, .i .i64 st, .b fl, .s x, .s a, .s g, .i .i64 p, .i .i64 c]] = some (x.length ≤ 1048576, .agg [.i .i64 (valV (plV (intV x) x) ⟨k, st, fl, x, a, g, p, c⟩).1, .i .i64 (valV (plV (intV x) x) ⟨k, st, fl, x, a, g, p, c⟩).2.1, .b (valV (plV (intV x) x) ⟨k, st, fl, x, a, g, p, c⟩).2.2.1, .s (valV (plV (intV x) x) ⟨k, st, fl, x, a, g, p, c⟩).2.2.2]) := peR_eq (by rintro ⟨a0, a1, a2, a3, a4, a5, a6, a7⟩ ⟨b0, b1, b2, b3, b4, b5, b6, b7⟩ h; simp_all []) (k, st, fl, x, a, g, p, c)
theorem pe_ValueOf_i_ok : PE1 Try.prog 43 pe_ValueOf_i := peR_ok (by rintro ⟨k, st, fl, x, a, g, p, c⟩ hp; exact ValueOf_i k st fl x a g p c hp)
theorem ValueOf_s (k st : Int) (fl : Bool) (x a g : Bs) (p c : Int) (hp : x.length ≤ 1048576 ∧ a.length ≤ 1048576 ∧ g.length ≤ 1048576) : PF Try.prog 50 [.agg [.i .i64 k, .i .i64 st, .b fl, .s x, .s a, .s g, .i .i64 p, .i .i64 c]] (.agg [.i .i64 (valV (plV (intV x) x) ⟨k, st, fl, x, a, g, p, c⟩).1, .i .i64 (valV (plV (intV x) x) ⟨k, st, fl, x, a, g, p, c⟩).2.1, .b (valV (plV (intV x) x) ⟨k, st, fl, x, a, g, p, c⟩).2.2.1, .s (valV (plV (intV x) x) ⟨k, st, fl, x, a, g, p, c⟩).2.2.2]) := by
  refine ⟨rfl, rfl, FnK.of (cf := mkCf Try.prog te [(86, pe_EventOk_s), (89, pe_plain_s)] 70 0 false (fun _ => false) (kp [(0, [1, 2]), (1, [1, 2, 8]), (2, [2]), (3, [1, 2, 11]), (4, [1, 2, 11, 12]), (5, [2]), (6, [1, 2, 11, 15]), (7, [2]), (8, [1, 2, 11, 18]), (9, [2]), (10, [1, 2, 23]), (11, [1, 2, 3]), (12, [1, 2, 3, 29]), (13, [1, 2, 3, 29, 30]), (14, [1, 2, 3, 34]), (15, [2]), (16, [2]), (17, [1, 2, 3, 29, 39]), (18, [1, 2, 3, 39]), (19, [2]), (20, [1, 2, 3, 45, 46, 47]), (21, [1, 2, 3, 45, 46, 47, 48]), (22, [1, 2, 3, 4, 5, 45, 46, 47]), (23, [1, 2, 3, 45, 46, 47, 63]), (24, [2]), (25, [1, 2, 3, 45, 46, 47]), (26, [2]), (27, [2])]) [] []) (mkCf_ok te_ok (l := [(86, pe_EventOk_s), (89, pe_plain_s)]) (⟨pe_EventOk_s_ok, pe_plain_s_ok, trivial⟩) mixed_ok) Try.func50 rfl rfl rfl (by simp [mkCf]) (by simp [mkCf]) (rs := [.cell 2 33]) rfl 100000 ?_⟩
  simp only [↓XC, XV, entry, isStr, tdOf, szOf, zeroOf, TD.isStruct, okCell, cellsOf, SO.isMap, SO.sz, SO.el, SO.n, SO.ro, mkCf, quietOp, opClass, okLeaf, spl, cellV, isU8T, isSlS, fillS, fillP, repl, SO.put, SV.mapH, frzV, frzVL, frzOk, frzOkL, lendOk, SV.bit, bitL, SV.plain, plainL, isE, mapHL, strip, stripL, gok, gokL, forall_const, implies_true, reduceIte, Nat.reduceAdd, Nat.reduceLT, Nat.reduceEqDiff, Nat.reduceBEq, Nat.reduceLeDiff, reduceCtorEq, Nat.reduceSub, Nat.reduceMul, Int.reduceToNat, Int.reduceLT, Int.reduceLE, TES, pe_EventOk_s_eq, pe_plain_s_eq]
  generalize plV (intV x) x = v at *
  repeat' (first | with_reducible refine Chk.mk ?_ fun _ => ?_ | with_reducible refine And.intro ?_ ?_ | intro _)
  all_goals first
    | (exfalso; omega)
    | (intro j hj; revert j; decide)
    | omega
    | assumption
    | (simp_all [valV, strT, nulT, booT, intT, coreT]; done)
    | skip
  refine VLoops.of (ι := {i : Nat // i ≤ 3 ∧ ∀ j, j < i → ¬ (g = coreT ++ sfxW.getD j [] ∧ v.1 = 1 + (j : Int))}) (fun q => ⟨[(1, .ptr 0 0 0), (2, .ptr 1 0 0), (3, .ptr 2 0 0), (45, .slc 3 0 3), (46, .i .i64 3), (47, .i .i64 (q.1 : Nat))], [some (.blk false [.i .i64 k, .i .i64 st, .b fl, .s x, .s a, .s g, .i .i64 p, .i .i64 c]), some (.blk false [.i .i64 0, .i .i64 0, .b false, .s []]), some (.blk false [.i .i64 v.1, .i .i64 v.2.1, .b v.2.2.1, .s v.2.2.2]), some (.row false 1 3 (rowE strc [] sfxW))]⟩) (fun q => 3 - q.1) ⟨0, by omega, fun j hj => absurd hj (Nat.not_lt_zero _)⟩ (Ent.ren1 [0, 1, 2, 3] (by decide) (by simp only [entCtx, at_cons_zero, at_cons_succ, and_true, true_and]; exact ⟨soLe_blk rfl, soLe_blk rfl, soLe_blk rfl, soLe_row fun j hj => by match j, hj with | 0, _ => rfl | 1, _ => rfl | 2, _ => rfl⟩) (by simp [entEnv, Vg.look, SV.mapH, muL])) ?_
  rintro ⟨i, hi, hj⟩
  simp only [↓XC, XV, entry, isStr, tdOf, szOf, zeroOf, TD.isStruct, okCell, cellsOf, SO.isMap, SO.sz, SO.el, SO.n, SO.ro, mkCf, quietOp, opClass, okLeaf, spl, cellV, isU8T, isSlS, fillS, fillP, repl, SO.put, SV.mapH, frzV, frzVL, frzOk, frzOkL, lendOk, SV.bit, bitL, SV.plain, plainL, isE, mapHL, strip, stripL, gok, gokL, forall_const, implies_true, reduceIte, Nat.reduceAdd, Nat.reduceLT, Nat.reduceEqDiff, Nat.reduceBEq, Nat.reduceLeDiff, reduceCtorEq, Nat.reduceSub, Nat.reduceMul, Int.reduceToNat, Int.reduceLT, Int.reduceLE, TES, XR]
  have hc : ∀ t : Bs, (116 :: 97 :: 103 :: 58 :: 121 :: 97 :: 109 :: 108 :: 46 :: 111 :: 114 :: 103 :: 44 :: 50 :: 48 :: 48 :: 50 :: 58 :: t) = coreT ++ t := fun _ => rfl
  have hl : (sfxW.getD i []).length ≤ 10 := by
    rcases (by omega : i = 0 ∨ i = 1 ∨ i = 2 ∨ i ≥ 3) with h | h | h | h
    · subst h; decide
    · subst h; decide
    · subst h; decide
    · obtain rfl : i = 3 := by omega
      decide
  have h5 : k = 5 := by assumption
  have hek : evOk ⟨k, st, fl, x, a, g, p, c⟩ = true := by simp_all
  have h2 : ¬ g = [] := by assumption
  have h3 : ¬ g = [33] := by assumption
  have h4 : ¬ g = strT := by assumption
  simp only [hc]
  refine ⟨fun h => Chk.mk (by omega) fun _ => Chk.mk (by omega) fun _ => Chk.mk (by omega) fun _ => Chk.mk (fun _ => by simp only [inR]; omega) fun _ => ⟨fun hb => ?_, fun hb => Chk.mk (by simp only [inR]; omega) fun _ => ⟨⟨i + 1, by omega, ?_⟩, by simp only; omega, (by first | exact Ent.refl _ _ | (simp only [Int.natCast_add, Int.natCast_one]; exact Ent.refl _ _))⟩⟩, fun h => ?_⟩
  · rw [valV_hit (v := v) (i := i) hek h5 h2 h3 h4 (by omega) (by simpa using hb)]
  · intro j hjj
    rcases Nat.lt_or_ge j i with h1 | h1
    · exact hj j h1
    · obtain rfl : j = i := by omega
      simpa using hb
  · obtain rfl : i = 3 := by omega
    rw [valV_miss (v := v) hek h5 h2 h3 h4 hj]
noncomputable def pe_ValueOf_s : PE := peR (fun (x : Int × Int × Bool × Bs × Bs × Bs × Int × Int) => match x with | (k, st, fl, x, a, g, p, c) => [.agg [.i .i64 k, .i .i64 st, .b fl, .s x, .s a, .s g, .i .i64 p, .i .i64 c]]) (fun (x : Int × Int × Bool × Bs × Bs × Bs × Int × Int) => match x with | (k, st, fl, x, a, g, p, c) => x.length ≤ 1048576 ∧ a.length ≤ 1048576 ∧ g.length ≤ 1048576) (fun (x : Int × Int × Bool × Bs × Bs × Bs × Int × Int) => match x with | (k, st, fl, x, a, g, p, c) => .agg [.i .i64 (valV (plV (intV x) x) ⟨k, st, fl, x, a, g, p, c⟩).1, .i .i64 (valV (plV (intV x) x) ⟨k, st, fl, x, a, g, p, c⟩).2.1, .b (valV (plV (intV x) x) ⟨k, st, fl, x, a, g, p, c⟩).2.2.1, .s (valV (plV (intV x) x) ⟨k, st, fl, x, a, g, p, c⟩).2.2.2])
theorem pe_ValueOf_s_eq {k st : Int} {fl : Bool} {x a g : Bs} {p c : Int} : pe_ValueOf_s [.agg [.i .i64 k, .i .i64 st, .b fl, .s x, .s a, .s g, .i .i64 p, .i .i64 c]] = some (x.length ≤ 1048576 ∧ a.length ≤ 1048576 ∧ g.length ≤ 1048576, .agg [.i .i64 (valV (plV (intV x) x) ⟨k, st, fl, x, a, g, p, c⟩).1, .i .i64 (valV (plV (intV x) x) ⟨k, st, fl, x, a, g, p, c⟩).2.1, .b (valV (plV (intV x) x) ⟨k, st, fl, x, a, g, p, c⟩).2.2.1, .s (valV (plV (intV x) x) ⟨k, st, fl, x, a, g, p, c⟩).2.2.2]) := peR_eq (by rintro ⟨a0, a1, a2, a3, a4, a5, a6, a7⟩ ⟨b0, b1, b2, b3, b4, b5, b6, b7⟩ h; simp_all []) (k, st, fl, x, a, g, p, c)
theorem pe_ValueOf_s_ok : PE1 Try.prog 50 pe_ValueOf_s := peR_ok (by rintro ⟨k, st, fl, x, a, g, p, c⟩ hp; exact ValueOf_s k st fl x a g p c hp)
end Go.T24
