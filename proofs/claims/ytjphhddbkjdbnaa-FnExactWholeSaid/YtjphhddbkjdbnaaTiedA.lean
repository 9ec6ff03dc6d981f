/- Own text: part TiedA. -/
import Derived.Test.YtjphhddbkjdbnaaTypes2
import Derived.Test.YtjphhddbkjdbnaaEventA
import Derived.Test.YtjphhddbkjdbnaaEventB
import Derived.Test.YtjphhddbkjdbnaaNestA
import Derived.Test.YtjphhddbkjdbnaaNestB
import Derived.Test.YtjphhddbkjdbnaaTreeA
import Derived.Test.YtjphhddbkjdbnaaTreeB
import Derived.Test.YtjphhddbkjdbnaaDefA
import Derived.Test.YtjphhddbkjdbnaaBaseE
import Derived.Test.YtjphhddbkjdbnaaVgMp
import Derived.Test.YtjphhddbkjdbnaaPlX
import Derived.Test.YtjphhddbkjdbnaaPlZ
namespace Go.T55
open Go.Proofs Go.Vg Go.RowKit Go.TT Go.Pl Go.T8 Go.T12 Go.T13 Go.T14 Go.T15 Go.T18 Go.T19 Go.T40
set_option linter.unusedVariables false
set_option linter.unusedSimpArgs false
set_option maxRecDepth 10000
set_option maxHeartbeats 4000000
theorem nest_defs_own (l : List Ev) (hp : l.length ≤ 1048576 ∧ nested l = true) : FnK Try.prog 65 0 [.agg [.fs 8 (l.map evc), .fs 1 ((endL l).map intc), .fs 1 ((upL l).map intc), .fs 1 ((docL l).map intc)]] [] (fun z c => z = .slc 0 0 l.length ∧ c = [some (.row false 1 l.length (rowE intc 0 (mkR l.length (defD l))))]) := by
  refine FnK.ofE (cf := mkCf Try.prog te [] 73 0 false (fun _ => false) (kp [(0, [1]), (1, [1, 3]), (2, [1, 3, 4]), (3, [1, 3, 4, 15, 16, 17]), (4, [1, 3, 4, 15, 16, 17, 18]), (5, [1, 3, 4, 5, 6, 15, 16, 17]), (6, [1, 3, 4, 5, 6, 15, 16, 17]), (7, [1, 3, 4, 5, 6, 15, 16, 17, 25]), (8, [1, 3, 4, 15, 16, 17]), (9, [1, 3, 4, 5, 6, 15, 16, 17, 30]), (10, [1, 3, 4, 5, 7, 8, 15, 16, 17]), (11, [1, 3, 4, 5, 7, 15, 16, 17, 58]), (12, [1, 3, 4, 15, 16, 17]), (13, [1, 3, 4, 5, 6, 15, 16, 17, 63]), (14, [1, 3, 4, 15, 16, 17]), (15, [1, 3, 4, 15, 16, 17]), (16, [2])]) [] []) (mkCf_ok te_ok (l := []) (trivial) mixed_ok) Try.func65 rfl rfl rfl (by simp [mkCf]) (by simp [mkCf]) (rs := [.tmp 2]) rfl 100000 ?_
  simp only [↓XC, XV, entry, isStr, tdOf, szOf, zeroOf, TD.isStruct, okCell, cellsOf, SO.isMap, SO.sz, SO.el, SO.n, SO.ro, mkCf, quietOp, opClass, okLeaf, spl, cellV, isU8T, isSlS, fillS, fillP, repl, SO.put, SV.mapH, frzV, frzVL, frzOk, frzOkL, lendOk, SV.bit, bitL, SV.plain, plainL, isE, mapHL, strip, stripL, gok, gokL, forall_const, implies_true, reduceIte, Nat.reduceAdd, Nat.reduceLT, Nat.reduceEqDiff, Nat.reduceBEq, Nat.reduceLeDiff, reduceCtorEq, Nat.reduceSub, Nat.reduceMul, Int.reduceToNat, Int.reduceLT, Int.reduceLE, TES, XRE, XR, XOne_callt, onFn_fn]
  refine Chk.mk (by omega) fun _ => ?_
  refine VLoops.of (ι := {x : Nat × List (List UInt8 × Int) // x.1 ≤ l.length ∧ mapOk l x.1 x.2}) (fun x => ⟨[(1, .ptr 0 0 0), (3, .slc 1 0 l.length), (4, .mp 2), (15, .fs 8 (l.map evc)), (16, .i .i64 (l.length : Nat)), (17, .i .i64 (x.1.1 : Nat))], [some (.blk false [.fs 8 (l.map evc), .fs 1 ((endL l).map intc), .fs 1 ((upL l).map intc), .fs 1 ((docL l).map intc)]), some (.row false 1 l.length (rowE intc 0 (mkR l.length fun j => if j < x.1.1 then defD l j else 0))), some (.mapS x.1.2)]⟩) (fun x => l.length - x.1.1) ⟨(0, []), Nat.zero_le _, mapOk_zero⟩ (Ent.ren1 [0, 1, 2] (by decide) (by simp only [entCtx, at_cons_zero, at_cons_succ, and_true, true_and]; exact ⟨soLe_blk rfl, soLe_row fun j hj => by simp only [rowE, mkR_get hj, Nat.not_lt_zero, if_false] <;> rfl, soLe_map⟩) (by simp [entEnv, Vg.look, SV.mapH, muL])) ?_
  rintro ⟨⟨i, m⟩, hi, hm⟩
  simp only [↓XC, XV, entry, isStr, tdOf, szOf, zeroOf, TD.isStruct, okCell, cellsOf, SO.isMap, SO.sz, SO.el, SO.n, SO.ro, mkCf, quietOp, opClass, okLeaf, spl, cellV, isU8T, isSlS, fillS, fillP, repl, SO.put, SV.mapH, frzV, frzVL, frzOk, frzOkL, lendOk, SV.bit, bitL, SV.plain, plainL, isE, mapHL, strip, stripL, gok, gokL, forall_const, implies_true, reduceIte, Nat.reduceAdd, Nat.reduceLT, Nat.reduceEqDiff, Nat.reduceBEq, Nat.reduceLeDiff, reduceCtorEq, Nat.reduceSub, Nat.reduceMul, Int.reduceToNat, Int.reduceLT, Int.reduceLE, TES, XRE, XR, XOne_callt, onFn_fn]
  simp only at hi hm
  have hel : (endL l).length = l.length := mkR_length
  have hlt := lastA_lt (l := l) (t := (l.getD i evz).text) i
  have hlk := hm (l.getD i evz).text
  refine ⟨fun hil => Chk.mk (by omega) fun _ => Chk.mk (by omega) fun _ => Chk.mk (by omega) fun _ => ⟨fun h2 => ?_, fun h2 => ⟨fun h6 => ?_, fun h6 => ⟨fun ha => ?_, fun ha => ?_⟩⟩⟩, fun hil => ?_⟩
  · have hd := defD_no (l := l) (i := i) (by omega)
    exact Chk.mk (by simp only [inR]; omega) fun _ => ⟨⟨(i + 1, []), by simp only; omega, mapOk_doc h2⟩, by simp only; omega, by simp only [Int.natCast_add, Int.natCast_one]; exact (Ent.ren1 [0, 1, 4] (by decide) (by simp only [entCtx, at_cons_zero, at_cons_succ, and_true, true_and]; exact ⟨soLe_blk rfl, soLe_ints fun j hj => rowD hd j hj, soLe_map⟩) (by simp [entEnv, Vg.look, SV.mapH, muL]))⟩
  · have hsame := mapOk_same hm h2 (.inl h6)
    rw [hlk]
    have hdd : defD l i = if 0 ≤ lastA l (l.getD i evz).text i ∧ 0 ≤ (endL l).getD (lastA l (l.getD i evz).text i).toNat 0 ∧ (endL l).getD (lastA l (l.getD i evz).text i).toNat 0 < i then lastA l (l.getD i evz).text i else -1 := by unfold defD; rw [if_pos h6]
    generalize lastA l (l.getD i evz).text i = a at *
    by_cases ha0 : a < 0
    · rw [if_pos ha0]
      rw [if_neg (by omega)] at hdd
      refine Chk.mk (fun h => by cases h) fun _ => Chk.mk (fun h => by simp at h) fun _ => ⟨fun h => by simp at h, fun _ => ?_⟩
      exact Chk.mk (by simp only [inR]; omega) fun _ => ⟨⟨(i + 1, m), by simp only; omega, hsame⟩, by simp only; omega, by simp only [Int.natCast_add, Int.natCast_one]; exact (Ent.ren1 [0, 1, 2] (by decide) (by simp only [entCtx, at_cons_zero, at_cons_succ, and_true, true_and]; exact ⟨soLe_blk rfl, soLe_ints fun j hj => rowD hdd.symm j hj, soLe_map⟩) (by simp [entEnv, Vg.look, SV.mapH, muL]))⟩
    · rw [if_neg ha0]
      simp only [Option.isSome_some, Option.getD_some, Bool.true_and]
      refine Chk.mk (fun h => by omega) fun _ => Chk.mk (fun h => by omega) fun _ => ⟨fun h => ?_, fun h => ?_⟩
      · simp only [Bool.or_eq_true, Bool.and_eq_true, Bool.or_eq_false_iff, Bool.and_eq_false_iff, decide_eq_true_eq, decide_eq_false_iff_not, Bool.not_eq_true', Bool.not_eq_false', beq_iff_eq, beq_eq_false_iff_ne, ne_eq, ge_iff_le, gt_iff_lt, Int.not_le, Int.not_lt, Int.ofNat_le, Int.ofNat_lt] at h
        rw [if_pos (by omega)] at hdd
        refine Chk.mk (by omega) fun _ => Chk.mk (by omega) fun _ => ?_
        exact Chk.mk (by simp only [inR]; omega) fun _ => ⟨⟨(i + 1, m), by simp only; omega, hsame⟩, by simp only; omega, by simp only [Int.natCast_add, Int.natCast_one]; exact (Ent.ren1 [0, 1, 2] (by decide) (by simp only [entCtx, at_cons_zero, at_cons_succ, and_true, true_and]; exact ⟨soLe_blk rfl, soLe_ints fun j hj => rowD2 hdd.symm j hj, soLe_map⟩) (by simp [entEnv, Vg.look, SV.mapH, muL]))⟩
      · simp only [Bool.or_eq_true, Bool.and_eq_true, Bool.or_eq_false_iff, Bool.and_eq_false_iff, decide_eq_true_eq, decide_eq_false_iff_not, Bool.not_eq_true', Bool.not_eq_false', beq_iff_eq, beq_eq_false_iff_ne, ne_eq, ge_iff_le, gt_iff_lt, Int.not_le, Int.not_lt, Int.ofNat_le, Int.ofNat_lt] at h
        rw [if_neg (by omega)] at hdd
        exact Chk.mk (by simp only [inR]; omega) fun _ => ⟨⟨(i + 1, m), by simp only; omega, hsame⟩, by simp only; omega, by simp only [Int.natCast_add, Int.natCast_one]; exact (Ent.ren1 [0, 1, 2] (by decide) (by simp only [entCtx, at_cons_zero, at_cons_succ, and_true, true_and]; exact ⟨soLe_blk rfl, soLe_ints fun j hj => rowD hdd.symm j hj, soLe_map⟩) (by simp [entEnv, Vg.look, SV.mapH, muL]))⟩
  · have hd := defD_no (l := l) (i := i) h6
    exact Chk.mk (by simp only [inR]; omega) fun _ => ⟨⟨(i + 1, updS m (l.getD i evz).anchor i), by simp only; omega, mapOk_put hm h2 h6 (by simpa using ha)⟩, by simp only; omega, by simp only [Int.natCast_add, Int.natCast_one]; exact (Ent.ren1 [0, 1, 2] (by decide) (by simp only [entCtx, at_cons_zero, at_cons_succ, and_true, true_and]; exact ⟨soLe_blk rfl, soLe_ints fun j hj => rowD hd j hj, soLe_map⟩) (by simp [entEnv, Vg.look, SV.mapH, muL]))⟩
  · have hd := defD_no (l := l) (i := i) h6
    have ha2 : (l.getD i evz).anchor = [] := by simpa using ha
    exact Chk.mk (by simp only [inR]; omega) fun _ => ⟨⟨(i + 1, m), by simp only; omega, mapOk_same hm h2 (.inr ha2)⟩, by simp only; omega, by simp only [Int.natCast_add, Int.natCast_one]; exact (Ent.ren1 [0, 1, 2] (by decide) (by simp only [entCtx, at_cons_zero, at_cons_succ, and_true, true_and]; exact ⟨soLe_blk rfl, soLe_ints fun j hj => rowD hd j hj, soLe_map⟩) (by simp [entEnv, Vg.look, SV.mapH, muL]))⟩
  · obtain rfl : i = l.length := by omega
    rw [mkR_done]
    exact ⟨[1], by decide, by simp only [entCtx, at_cons_zero, at_cons_succ, and_true, true_and]; exact soLe_same fun _ => rfl, by simp only [↓XC, XV, entry, isStr, tdOf, szOf, zeroOf, TD.isStruct, okCell, cellsOf, SO.isMap, SO.sz, SO.el, SO.n, SO.ro, mkCf, quietOp, opClass, okLeaf, spl, cellV, isU8T, isSlS, fillS, fillP, repl, SO.put, SV.mapH, frzV, frzVL, frzOk, frzOkL, lendOk, SV.bit, bitL, SV.plain, plainL, isE, mapHL, strip, stripL, gok, gokL, forall_const, implies_true, reduceIte, Nat.reduceAdd, Nat.reduceLT, Nat.reduceEqDiff, Nat.reduceBEq, Nat.reduceLeDiff, reduceCtorEq, Nat.reduceSub, Nat.reduceMul, Int.reduceToNat, Int.reduceLT, Int.reduceLE]; try simp [muL, SV.mapH, mapHL], by simp [newRw, SO.ro], by simp⟩
theorem nest_defs (l : List Ev) (hp : l.length ≤ 1048576 ∧ nested l = true) : PF Try.prog 65 [.agg [.fs 8 (l.map evc), .fs 1 ((endL l).map intc), .fs 1 ((upL l).map intc), .fs 1 ((docL l).map intc)]] (.fs 1 ((mkR l.length (defD l)).map intc)) := PF.ofOwn (nest_defs_own l hp) rfl rfl (by simp only [frzOk, frzOkL, frzV, frzVL, at_cons_zero, and_true]; exact ⟨⟨by omega, fun j hj => ⟨rfl, rfl⟩⟩, by rw [rowE_list mkR_length.symm]⟩)
noncomputable def pe_nest_defs : PE := peR (fun (l : List Ev) => [.agg [.fs 8 (l.map evc), .fs 1 ((endL l).map intc), .fs 1 ((upL l).map intc), .fs 1 ((docL l).map intc)]]) (fun (l : List Ev) => l.length ≤ 1048576 ∧ nested l = true) (fun (l : List Ev) => .fs 1 ((mkR l.length (defD l)).map intc))
theorem pe_nest_defs_eq {l : List Ev} : pe_nest_defs [.agg [.fs 8 (l.map evc), .fs 1 ((endL l).map intc), .fs 1 ((upL l).map intc), .fs 1 ((docL l).map intc)]] = some (l.length ≤ 1048576 ∧ nested l = true, .fs 1 ((mkR l.length (defD l)).map intc)) := peR_eq (by rintro a b h; simp_all [evc_inj, intc_inj]) l
theorem pe_nest_defs_ok : PE1 Try.prog 65 pe_nest_defs := peR_ok (by rintro l hp; exact nest_defs l hp)
theorem nest_tied (l : List Ev) (hp : l.length ≤ 1048576 ∧ nested l = true) : PF Try.prog 51 [.agg [.fs 8 (l.map evc), .fs 1 ((endL l).map intc), .fs 1 ((upL l).map intc), .fs 1 ((docL l).map intc)]] (.b (tiedTo l l.length)) := by
  refine ⟨rfl, rfl, FnK.of (cf := mkCf Try.prog te [(65, pe_nest_defs)] 27 0 false (fun _ => false) (kp [(0, [1]), (1, [1, 3]), (2, [3, 9, 10, 11]), (3, [3, 9, 10, 11, 12]), (4, [3, 4, 5, 9, 10, 11]), (5, [3, 9, 10, 11, 25]), (6, [2]), (7, [3, 9, 10, 11]), (8, [2])]) [] []) (mkCf_ok te_ok (l := [(65, pe_nest_defs)]) (⟨pe_nest_defs_ok, trivial⟩) mixed_ok) Try.func51 rfl rfl rfl (by simp [mkCf]) (by simp [mkCf]) (rs := [.tmp 2]) rfl 100000 ?_⟩
  simp only [↓XC, XV, entry, isStr, tdOf, szOf, zeroOf, TD.isStruct, okCell, cellsOf, SO.isMap, SO.sz, SO.el, SO.n, SO.ro, mkCf, quietOp, opClass, okLeaf, spl, cellV, isU8T, isSlS, fillS, fillP, repl, SO.put, SV.mapH, frzV, frzVL, frzOk, frzOkL, lendOk, SV.bit, bitL, SV.plain, plainL, isE, mapHL, strip, stripL, gok, gokL, forall_const, implies_true, reduceIte, Nat.reduceAdd, Nat.reduceLT, Nat.reduceEqDiff, Nat.reduceBEq, Nat.reduceLeDiff, reduceCtorEq, Nat.reduceSub, Nat.reduceMul, Int.reduceToNat, Int.reduceLT, Int.reduceLE, TES, pe_nest_defs_eq, XRE, XR, XOne_callt, onFn_fn]
  refine Chk.mk hp fun _ => ?_
  refine VLoops.of (ι := {i : Nat // i ≤ l.length ∧ tiedTo l i = true}) (fun x => ⟨[(3, .fs 1 ((mkR l.length (defD l)).map intc)), (9, .fs 8 (l.map evc)), (10, .i .i64 (l.length : Nat)), (11, .i .i64 (x.1 : Nat))], []⟩) (fun x => l.length - x.1) ⟨0, Nat.zero_le _, rfl⟩ (by (try simp only [Int.natCast_add, Int.natCast_one]); exact Ent.nil (by simp [entEnv, Vg.look, SV.mapH])) ?_
  rintro ⟨i, hi, hf⟩
  simp only [↓XC, XV, entry, isStr, tdOf, szOf, zeroOf, TD.isStruct, okCell, cellsOf, SO.isMap, SO.sz, SO.el, SO.n, SO.ro, mkCf, quietOp, opClass, okLeaf, spl, cellV, isU8T, isSlS, fillS, fillP, repl, SO.put, SV.mapH, frzV, frzVL, frzOk, frzOkL, lendOk, SV.bit, bitL, SV.plain, plainL, isE, mapHL, strip, stripL, gok, gokL, forall_const, implies_true, reduceIte, Nat.reduceAdd, Nat.reduceLT, Nat.reduceEqDiff, Nat.reduceBEq, Nat.reduceLeDiff, reduceCtorEq, Nat.reduceSub, Nat.reduceMul, Int.reduceToNat, Int.reduceLT, Int.reduceLE, TES, XRE, XR, XOne_callt, onFn_fn]
  refine ⟨fun hl => Chk.mk (by omega) fun _ => Chk.mk (fun _ => by rw [mkR_length]; omega) fun _ => ?_, fun hl => ?_⟩
  · rw [mkR_get (by omega)]
    by_cases h6 : (l.getD i evz).kind = 6
    · rw [defD_eq hp.2 (by omega) h6]
      refine ⟨fun hb => ?_, fun hb => ?_⟩
      · simp only [decide_eq_true h6, Bool.true_and, decide_eq_true_eq] at hb
        rw [tiedTo_bad h6 hb l.length (by omega)]
      · have hs : tiedTo l (i + 1) = true := by simp only [tiedTo, hf, hb]; rfl
        exact Chk.mk (by simp only [inR]; omega) fun _ => ⟨⟨i + 1, by omega, hs⟩, by simp only; omega, (by (try simp only [Int.natCast_add, Int.natCast_one]); exact Ent.nil (by simp [entEnv, Vg.look, SV.mapH]))⟩
    · refine ⟨fun hb => (by simp only [decide_eq_false h6, Bool.false_and] at hb; cases hb), fun hb => ?_⟩
      have hs : tiedTo l (i + 1) = true := by simp only [tiedTo, hf, decide_eq_false h6]; rfl
      exact Chk.mk (by simp only [inR]; omega) fun _ => ⟨⟨i + 1, by omega, hs⟩, by simp only; omega, (by (try simp only [Int.natCast_add, Int.natCast_one]); exact Ent.nil (by simp [entEnv, Vg.look, SV.mapH]))⟩
  · obtain rfl : i = l.length := by omega
    rw [hf]
noncomputable def pe_nest_tied : PE := peR (fun (l : List Ev) => [.agg [.fs 8 (l.map evc), .fs 1 ((endL l).map intc), .fs 1 ((upL l).map intc), .fs 1 ((docL l).map intc)]]) (fun (l : List Ev) => l.length ≤ 1048576 ∧ nested l = true) (fun (l : List Ev) => .b (tiedTo l l.length))
theorem pe_nest_tied_eq {l : List Ev} : pe_nest_tied [.agg [.fs 8 (l.map evc), .fs 1 ((endL l).map intc), .fs 1 ((upL l).map intc), .fs 1 ((docL l).map intc)]] = some (l.length ≤ 1048576 ∧ nested l = true, .b (tiedTo l l.length)) := peR_eq (by rintro a b h; simp_all [evc_inj, intc_inj]) l
theorem pe_nest_tied_ok : PE1 Try.prog 51 pe_nest_tied := peR_ok (by rintro l hp; exact nest_tied l hp)
theorem Tied_i (l : List Ev) (hp : l.length ≤ 1048576) : PF Try.prog 18 [.fs 8 (l.map evc)] (.b (tiedV l)) := by
  refine ⟨rfl, rfl, FnK.of (cf := mkCf Try.prog te [(47, pe_Nested_i), (48, pe_nestOf), (51, pe_nest_tied)] 10 0 false (fun _ => false) (kp [(0, [0]), (1, [2])]) [] []) (mkCf_ok te_ok (l := [(47, pe_Nested_i), (48, pe_nestOf), (51, pe_nest_tied)]) (⟨pe_Nested_i_ok, pe_nestOf_ok, pe_nest_tied_ok, trivial⟩) mixed_ok) Try.func18 rfl rfl rfl (by simp [mkCf]) (by simp [mkCf]) (rs := [.tmp 2]) rfl 100000 ?_⟩
  simp only [↓XC, XV, entry, isStr, tdOf, szOf, zeroOf, TD.isStruct, okCell, cellsOf, SO.isMap, SO.sz, SO.el, SO.n, SO.ro, mkCf, quietOp, opClass, okLeaf, spl, cellV, isU8T, isSlS, fillS, fillP, repl, SO.put, SV.mapH, frzV, frzVL, frzOk, frzOkL, lendOk, SV.bit, bitL, SV.plain, plainL, isE, mapHL, strip, stripL, gok, gokL, forall_const, implies_true, reduceIte, Nat.reduceAdd, Nat.reduceLT, Nat.reduceEqDiff, Nat.reduceBEq, Nat.reduceLeDiff, reduceCtorEq, Nat.reduceSub, Nat.reduceMul, Int.reduceToNat, Int.reduceLT, Int.reduceLE, TES, pe_Nested_i_eq, pe_nestOf_eq, pe_nest_tied_eq, XRE, XR, XOne_callt, onFn_fn]
  exact Chk.mk hp fun _ => Chk.mk (fun h => ⟨h, hp, h⟩) fun _ => Chk.mk (fun h => ⟨h, hp, h⟩) fun _ => rfl
noncomputable def pe_Tied_i : PE := peR (fun (l : List Ev) => [.fs 8 (l.map evc)]) (fun (l : List Ev) => l.length ≤ 1048576) (fun (l : List Ev) => .b (tiedV l))
theorem pe_Tied_i_eq {l : List Ev} : pe_Tied_i [.fs 8 (l.map evc)] = some (l.length ≤ 1048576, .b (tiedV l)) := peR_eq (by rintro a b h; simp_all [evc_inj]) l
theorem pe_Tied_i_ok : PE1 Try.prog 18 pe_Tied_i := peR_ok (by rintro l hp; exact Tied_i l hp)
theorem Tied_s (l : List Ev) (hp : l.length ≤ 1048576 ∧ evW l ≤ 1048576) : PF Try.prog 17 [.fs 8 (l.map evc)] (.b (tiedV l)) := by
  refine ⟨rfl, rfl, FnK.of (cf := mkCf Try.prog te [(44, pe_Nested_s), (45, pe_l13Def)] 25 0 false (fun _ => false) (kp [(0, [0]), (1, [0, 7]), (2, [2]), (3, [0, 8, 9, 10]), (4, [0, 8, 9, 10, 11]), (5, [0, 3, 4, 8, 9, 10]), (6, [0, 8, 9, 10, 23]), (7, [2]), (8, [0, 8, 9, 10]), (9, [2])]) [] []) (mkCf_ok te_ok (l := [(44, pe_Nested_s), (45, pe_l13Def)]) (⟨pe_Nested_s_ok, pe_l13Def_ok, trivial⟩) mixed_ok) Try.func17 rfl rfl rfl (by simp [mkCf]) (by simp [mkCf]) (rs := [.tmp 2]) rfl 100000 ?_⟩
  simp only [↓XC, XV, entry, isStr, tdOf, szOf, zeroOf, TD.isStruct, okCell, cellsOf, SO.isMap, SO.sz, SO.el, SO.n, SO.ro, mkCf, quietOp, opClass, okLeaf, spl, cellV, isU8T, isSlS, fillS, fillP, repl, SO.put, SV.mapH, frzV, frzVL, frzOk, frzOkL, lendOk, SV.bit, bitL, SV.plain, plainL, isE, mapHL, strip, stripL, gok, gokL, forall_const, implies_true, reduceIte, Nat.reduceAdd, Nat.reduceLT, Nat.reduceEqDiff, Nat.reduceBEq, Nat.reduceLeDiff, reduceCtorEq, Nat.reduceSub, Nat.reduceMul, Int.reduceToNat, Int.reduceLT, Int.reduceLE, TES, pe_Nested_s_eq, pe_l13Def_eq, XRE, XR, XOne_callt, onFn_fn]
  refine Chk.mk hp fun _ => ⟨fun h => (by unfold tiedV; simp at h; rw [h]; rfl), fun h => ?_⟩
  have hn : nested l = true := by simpa using h
  refine VLoops.of (ι := {i : Nat // i ≤ l.length ∧ tiedTo l i = true}) (fun x => ⟨[(0, .fs 8 (l.map evc)), (8, .fs 8 (l.map evc)), (9, .i .i64 (l.length : Nat)), (10, .i .i64 (x.1 : Nat))], []⟩) (fun x => l.length - x.1) ⟨0, Nat.zero_le _, rfl⟩ (Ent.refl _ _) ?_
  rintro ⟨i, hi, hf⟩
  simp only [↓XC, XV, entry, isStr, tdOf, szOf, zeroOf, TD.isStruct, okCell, cellsOf, SO.isMap, SO.sz, SO.el, SO.n, SO.ro, mkCf, quietOp, opClass, okLeaf, spl, cellV, isU8T, isSlS, fillS, fillP, repl, SO.put, SV.mapH, frzV, frzVL, frzOk, frzOkL, lendOk, SV.bit, bitL, SV.plain, plainL, isE, mapHL, strip, stripL, gok, gokL, forall_const, implies_true, reduceIte, Nat.reduceAdd, Nat.reduceLT, Nat.reduceEqDiff, Nat.reduceBEq, Nat.reduceLeDiff, reduceCtorEq, Nat.reduceSub, Nat.reduceMul, Int.reduceToNat, Int.reduceLT, Int.reduceLE, TES, pe_l13Def_eq, XRE, XR, XOne_callt, onFn_fn]
  refine ⟨fun hl => Chk.mk (by omega) fun _ => Chk.mk (fun h => ⟨⟨h, h⟩, by omega⟩) fun _ => ⟨fun hb => ?_, fun hb => ?_⟩, fun hl => ?_⟩
  · simp only [Bool.and_eq_true, decide_eq_true_eq] at hb
    unfold tiedV
    rw [tiedTo_bad hb.1 hb.2 l.length (by omega), Bool.and_false]
  · have hs : tiedTo l (i + 1) = true := by simp only [tiedTo, hf, hb]; rfl
    exact Chk.mk (by simp only [inR]; omega) fun _ => ⟨⟨i + 1, by omega, hs⟩, by simp only; omega, (by (try simp only [Int.natCast_add, Int.natCast_one]); exact Ent.nil (by simp [entEnv, Vg.look, SV.mapH]))⟩
  · obtain rfl : i = l.length := by omega
    unfold tiedV
    rw [hn, hf]
    rfl
noncomputable def pe_Tied_s : PE := peR (fun (l : List Ev) => [.fs 8 (l.map evc)]) (fun (l : List Ev) => l.length ≤ 1048576 ∧ evW l ≤ 1048576) (fun (l : List Ev) => .b (tiedV l))
theorem pe_Tied_s_eq {l : List Ev} : pe_Tied_s [.fs 8 (l.map evc)] = some (l.length ≤ 1048576 ∧ evW l ≤ 1048576, .b (tiedV l)) := peR_eq (by rintro a b h; simp_all [evc_inj]) l
theorem pe_Tied_s_ok : PE1 Try.prog 17 pe_Tied_s := peR_ok (by rintro l hp; exact Tied_s l hp)
theorem isFault (k st : Int) (fl : Bool) (x a g : Bs) (p c : Int) : PF Try.prog 91 [.agg [.i .i64 k, .i .i64 st, .b fl, .s x, .s a, .s g, .i .i64 p, .i .i64 c]] (.b (decide (k = 10))) := by
  refine ⟨rfl, rfl, FnK.of (cf := mkCf Try.prog te [] 6 0 false (fun _ => false) (kp [(0, [1]), (1, [2])]) [] []) (mkCf_ok te_ok (l := []) (trivial) mixed_ok) Try.func91 rfl rfl rfl (by simp [mkCf]) (by simp [mkCf]) (rs := [.tmp 2]) rfl 100000 ?_⟩
  simp only [↓XC, XV, entry, isStr, tdOf, szOf, zeroOf, TD.isStruct, okCell, cellsOf, SO.isMap, SO.sz, SO.el, SO.n, SO.ro, mkCf, quietOp, opClass, okLeaf, spl, cellV, isU8T, isSlS, fillS, fillP, repl, SO.put, SV.mapH, frzV, frzVL, frzOk, frzOkL, lendOk, SV.bit, bitL, SV.plain, plainL, isE, mapHL, strip, stripL, gok, gokL, forall_const, implies_true, reduceIte, Nat.reduceAdd, Nat.reduceLT, Nat.reduceEqDiff, Nat.reduceBEq, Nat.reduceLeDiff, reduceCtorEq, Nat.reduceSub, Nat.reduceMul, Int.reduceToNat, Int.reduceLT, Int.reduceLE, TES, XRE, XR, XOne_callt, onFn_fn]

noncomputable def pe_isFault : PE := peR (fun (x : Int × Int × Bool × Bs × Bs × Bs × Int × Int) => match x with | (k, st, fl, x, a, g, p, c) => [.agg [.i .i64 k, .i .i64 st, .b fl, .s x, .s a, .s g, .i .i64 p, .i .i64 c]]) (fun (x : Int × Int × Bool × Bs × Bs × Bs × Int × Int) => match x with | (k, st, fl, x, a, g, p, c) => True) (fun (x : Int × Int × Bool × Bs × Bs × Bs × Int × Int) => match x with | (k, st, fl, x, a, g, p, c) => .b (decide (k = 10)))
theorem pe_isFault_eq {k st : Int} {fl : Bool} {x a g : Bs} {p c : Int} : pe_isFault [.agg [.i .i64 k, .i .i64 st, .b fl, .s x, .s a, .s g, .i .i64 p, .i .i64 c]] = some (True, .b (decide (k = 10))) := peR_eq (by rintro ⟨a0, a1, a2, a3, a4, a5, a6, a7⟩ ⟨b0, b1, b2, b3, b4, b5, b6, b7⟩ h; simp_all []) (k, st, fl, x, a, g, p, c)
theorem pe_isFault_ok : PE1 Try.prog 91 pe_isFault := peR_ok (by rintro ⟨k, st, fl, x, a, g, p, c⟩ hp; exact isFault k st fl x a g p c)
theorem idxF (l : List Ev) (hp : l.length ≤ 1048576) : PF Try.prog 119 [.fs 8 (l.map evc), .fn 91] (.i .i64 (fstF l 0)) := by
  refine ⟨rfl, rfl, FnK.of (cf := mkCf Try.prog te [(91, pe_isFault)] 19 0 false (fun _ => false) (kp [(0, [0, 1]), (1, [0, 1, 7, 8]), (2, [0, 1, 7, 8, 9]), (3, [0, 1, 5, 7, 8]), (4, [0, 1, 5, 7, 8, 16]), (5, [4]), (6, [0, 1, 7, 8]), (7, [4])]) [] []) (mkCf_ok te_ok (l := [(91, pe_isFault)]) (⟨pe_isFault_ok, trivial⟩) mixed_ok) Try.func119 rfl rfl rfl (by simp [mkCf]) (by simp [mkCf]) (rs := [.tmp 4]) rfl 100000 ?_⟩
  simp only [↓XC, XV, entry, isStr, tdOf, szOf, zeroOf, TD.isStruct, okCell, cellsOf, SO.isMap, SO.sz, SO.el, SO.n, SO.ro, mkCf, quietOp, opClass, okLeaf, spl, cellV, isU8T, isSlS, fillS, fillP, repl, SO.put, SV.mapH, frzV, frzVL, frzOk, frzOkL, lendOk, SV.bit, bitL, SV.plain, plainL, isE, mapHL, strip, stripL, gok, gokL, forall_const, implies_true, reduceIte, Nat.reduceAdd, Nat.reduceLT, Nat.reduceEqDiff, Nat.reduceBEq, Nat.reduceLeDiff, reduceCtorEq, Nat.reduceSub, Nat.reduceMul, Int.reduceToNat, Int.reduceLT, Int.reduceLE, TES, pe_isFault_eq, XRE, XR, XOne_callt, onFn_fn]
  refine VLoops.of (ι := {i : Nat // i ≤ l.length ∧ fstF l i = fstF l 0}) (fun x => ⟨[(0, .fs 8 (l.map evc)), (1, .fn 91), (7, .i .i64 (l.length : Nat)), (8, .i .i64 (x.1 : Nat))], []⟩) (fun x => l.length - x.1) ⟨0, Nat.zero_le _, rfl⟩ (Ent.refl _ _) ?_
  rintro ⟨i, hi, hf⟩
  simp only [↓XC, XV, entry, isStr, tdOf, szOf, zeroOf, TD.isStruct, okCell, cellsOf, SO.isMap, SO.sz, SO.el, SO.n, SO.ro, mkCf, quietOp, opClass, okLeaf, spl, cellV, isU8T, isSlS, fillS, fillP, repl, SO.put, SV.mapH, frzV, frzVL, frzOk, frzOkL, lendOk, SV.bit, bitL, SV.plain, plainL, isE, mapHL, strip, stripL, gok, gokL, forall_const, implies_true, reduceIte, Nat.reduceAdd, Nat.reduceLT, Nat.reduceEqDiff, Nat.reduceBEq, Nat.reduceLeDiff, reduceCtorEq, Nat.reduceSub, Nat.reduceMul, Int.reduceToNat, Int.reduceLT, Int.reduceLE, TES, pe_isFault_eq, XRE, XR, XOne_callt, onFn_fn]
  refine ⟨fun hl => ?_, fun hl => by rw [← hf, fstF_no (by omega)]⟩
  rw [fstF_yes (by omega)] at hf
  refine Chk.mk (by omega) fun _ => ⟨fun h => ?_, fun h => ?_⟩
  · rw [if_pos h] at hf
    rw [← hf]
  · rw [if_neg h] at hf
    exact Chk.mk (by simp only [inR]; omega) fun _ => ⟨⟨i + 1, by omega, hf⟩, by simp only; omega, (by first | exact Ent.refl _ _ | (simp only [Int.natCast_add, Int.natCast_one]; exact Ent.refl _ _))⟩
noncomputable def pe_idxF : PE := peR (fun (l : List Ev) => [.fs 8 (l.map evc), .fn 91]) (fun (l : List Ev) => l.length ≤ 1048576) (fun (l : List Ev) => .i .i64 (fstF l 0))
theorem pe_idxF_eq {l : List Ev} : pe_idxF [.fs 8 (l.map evc), .fn 91] = some (l.length ≤ 1048576, .i .i64 (fstF l 0)) := peR_eq (by rintro a b h; simp_all [evc_inj]) l
theorem pe_idxF_ok : PE1 Try.prog 119 pe_idxF := peR_ok (by rintro l hp; exact idxF l hp)
theorem hasE (l : List Ev) (hp : l.length ≤ 1048576) : PF Try.prog 90 [.fs 8 (l.map evc), .fn 91] (.b (hasF l)) := by
  refine ⟨rfl, rfl, FnK.of (cf := mkCf Try.prog te [(119, pe_idxF)] 9 0 false (fun _ => false) (kp [(0, [0, 1]), (1, [4])]) [] []) (mkCf_ok te_ok (l := [(119, pe_idxF)]) (⟨pe_idxF_ok, trivial⟩) mixed_ok) Try.func90 rfl rfl rfl (by simp [mkCf]) (by simp [mkCf]) (rs := [.tmp 4]) rfl 100000 ?_⟩
  simp only [↓XC, XV, entry, isStr, tdOf, szOf, zeroOf, TD.isStruct, okCell, cellsOf, SO.isMap, SO.sz, SO.el, SO.n, SO.ro, mkCf, quietOp, opClass, okLeaf, spl, cellV, isU8T, isSlS, fillS, fillP, repl, SO.put, SV.mapH, frzV, frzVL, frzOk, frzOkL, lendOk, SV.bit, bitL, SV.plain, plainL, isE, mapHL, strip, stripL, gok, gokL, forall_const, implies_true, reduceIte, Nat.reduceAdd, Nat.reduceLT, Nat.reduceEqDiff, Nat.reduceBEq, Nat.reduceLeDiff, reduceCtorEq, Nat.reduceSub, Nat.reduceMul, Int.reduceToNat, Int.reduceLT, Int.reduceLE, TES, pe_idxF_eq, XRE, XR, XOne_callt, onFn_fn]
  refine Chk.mk hp fun _ => ?_
  have := fstF_has (l := l) _ 0 (Nat.le_refl _)
  rw [List.drop_zero] at this
  unfold hasF
  rw [← this]
noncomputable def pe_hasE : PE := peR (fun (l : List Ev) => [.fs 8 (l.map evc), .fn 91]) (fun (l : List Ev) => l.length ≤ 1048576) (fun (l : List Ev) => .b (hasF l))
theorem pe_hasE_eq {l : List Ev} : pe_hasE [.fs 8 (l.map evc), .fn 91] = some (l.length ≤ 1048576, .b (hasF l)) := peR_eq (by rintro a b h; simp_all [evc_inj]) l
theorem pe_hasE_ok : PE1 Try.prog 90 pe_hasE := peR_ok (by rintro l hp; exact hasE l hp)
theorem hasFault (l : List Ev) (hp : l.length ≤ 1048576) : PF Try.prog 57 [.fs 8 (l.map evc)] (.b (hasF l)) := by
  refine ⟨rfl, rfl, FnK.of (cf := mkCf Try.prog te [(90, pe_hasE), (91, pe_isFault)] 5 0 false (fun _ => false) (kp [(0, [0]), (1, [2])]) [] []) (mkCf_ok te_ok (l := [(90, pe_hasE), (91, pe_isFault)]) (⟨pe_hasE_ok, pe_isFault_ok, trivial⟩) mixed_ok) Try.func57 rfl rfl rfl (by simp [mkCf]) (by simp [mkCf]) (rs := [.tmp 2]) rfl 100000 ?_⟩
  simp only [↓XC, XV, entry, isStr, tdOf, szOf, zeroOf, TD.isStruct, okCell, cellsOf, SO.isMap, SO.sz, SO.el, SO.n, SO.ro, mkCf, quietOp, opClass, okLeaf, spl, cellV, isU8T, isSlS, fillS, fillP, repl, SO.put, SV.mapH, frzV, frzVL, frzOk, frzOkL, lendOk, SV.bit, bitL, SV.plain, plainL, isE, mapHL, strip, stripL, gok, gokL, forall_const, implies_true, reduceIte, Nat.reduceAdd, Nat.reduceLT, Nat.reduceEqDiff, Nat.reduceBEq, Nat.reduceLeDiff, reduceCtorEq, Nat.reduceSub, Nat.reduceMul, Int.reduceToNat, Int.reduceLT, Int.reduceLE, TES, pe_hasE_eq, pe_isFault_eq, XRE, XR, XOne_callt, onFn_fn]
  exact Chk.mk hp fun _ => trivial
noncomputable def pe_hasFault : PE := peR (fun (l : List Ev) => [.fs 8 (l.map evc)]) (fun (l : List Ev) => l.length ≤ 1048576) (fun (l : List Ev) => .b (hasF l))
theorem pe_hasFault_eq {l : List Ev} : pe_hasFault [.fs 8 (l.map evc)] = some (l.length ≤ 1048576, .b (hasF l)) := peR_eq (by rintro a b h; simp_all [evc_inj]) l
theorem pe_hasFault_ok : PE1 Try.prog 57 pe_hasFault := peR_ok (by rintro l hp; exact hasFault l hp)
theorem Whole_i (l : List Ev) (hp : l.length ≤ 1048576) : PF Try.prog 28 [.fs 8 (l.map evc)] (.b (tiedV l && !hasF l)) := by
  refine ⟨rfl, rfl, FnK.of (cf := mkCf Try.prog te [(18, pe_Tied_i), (57, pe_hasFault)] 10 0 false (fun _ => false) (kp [(0, [0]), (1, [2])]) [] []) (mkCf_ok te_ok (l := [(18, pe_Tied_i), (57, pe_hasFault)]) (⟨pe_Tied_i_ok, pe_hasFault_ok, trivial⟩) mixed_ok) Try.func28 rfl rfl rfl (by simp [mkCf]) (by simp [mkCf]) (rs := [.tmp 2]) rfl 100000 ?_⟩
  simp only [↓XC, XV, entry, isStr, tdOf, szOf, zeroOf, TD.isStruct, okCell, cellsOf, SO.isMap, SO.sz, SO.el, SO.n, SO.ro, mkCf, quietOp, opClass, okLeaf, spl, cellV, isU8T, isSlS, fillS, fillP, repl, SO.put, SV.mapH, frzV, frzVL, frzOk, frzOkL, lendOk, SV.bit, bitL, SV.plain, plainL, isE, mapHL, strip, stripL, gok, gokL, forall_const, implies_true, reduceIte, Nat.reduceAdd, Nat.reduceLT, Nat.reduceEqDiff, Nat.reduceBEq, Nat.reduceLeDiff, reduceCtorEq, Nat.reduceSub, Nat.reduceMul, Int.reduceToNat, Int.reduceLT, Int.reduceLE, TES, pe_Tied_i_eq, pe_hasFault_eq, XRE, XR, XOne_callt, onFn_fn]
  exact Chk.mk hp fun _ => Chk.mk (fun h => ⟨h, hp⟩) fun _ => trivial
noncomputable def pe_Whole_i : PE := peR (fun (l : List Ev) => [.fs 8 (l.map evc)]) (fun (l : List Ev) => l.length ≤ 1048576) (fun (l : List Ev) => .b (tiedV l && !hasF l))
theorem pe_Whole_i_eq {l : List Ev} : pe_Whole_i [.fs 8 (l.map evc)] = some (l.length ≤ 1048576, .b (tiedV l && !hasF l)) := peR_eq (by rintro a b h; simp_all [evc_inj]) l
theorem pe_Whole_i_ok : PE1 Try.prog 28 pe_Whole_i := peR_ok (by rintro l hp; exact Whole_i l hp)
theorem Whole_s (l : List Ev) (hp : l.length ≤ 1048576 ∧ evW l ≤ 1048576) : PF Try.prog 27 [.fs 8 (l.map evc)] (.b (tiedV l && !hasF l)) := by
  refine ⟨rfl, rfl, FnK.of (cf := mkCf Try.prog te [(17, pe_Tied_s)] 15 0 false (fun _ => false) (kp [(0, [0]), (1, [2])]) [] []) (mkCf_ok te_ok (l := [(17, pe_Tied_s)]) (⟨pe_Tied_s_ok, trivial⟩) mixed_ok) Try.func27 rfl rfl rfl (by simp [mkCf]) (by simp [mkCf]) (rs := [.tmp 2]) rfl 100000 ?_⟩
  simp only [↓XC, XV, entry, isStr, tdOf, szOf, zeroOf, TD.isStruct, okCell, cellsOf, SO.isMap, SO.sz, SO.el, SO.n, SO.ro, mkCf, quietOp, opClass, okLeaf, spl, cellV, isU8T, isSlS, fillS, fillP, repl, SO.put, SV.mapH, frzV, frzVL, frzOk, frzOkL, lendOk, SV.bit, bitL, SV.plain, plainL, isE, mapHL, strip, stripL, gok, gokL, forall_const, implies_true, reduceIte, Nat.reduceAdd, Nat.reduceLT, Nat.reduceEqDiff, Nat.reduceBEq, Nat.reduceLeDiff, reduceCtorEq, Nat.reduceSub, Nat.reduceMul, Int.reduceToNat, Int.reduceLT, Int.reduceLE, TES, pe_Tied_s_eq, XRE, XR, XOne_callt, onFn_fn]
  refine Chk.mk hp fun _ => Chk.mk (fun h => by simp only [inR]; omega) fun _ => Chk.mk (fun h => by have := nested_len (tied_last h); omega) fun _ => ?_
  rw [show ((l.length : Int) - 1).toNat = l.length - 1 by omega]
  cases h : tiedV l with
  | false => rfl
  | true => rw [hasF_last (tied_last h)]
noncomputable def pe_Whole_s : PE := peR (fun (l : List Ev) => [.fs 8 (l.map evc)]) (fun (l : List Ev) => l.length ≤ 1048576 ∧ evW l ≤ 1048576) (fun (l : List Ev) => .b (tiedV l && !hasF l))
theorem pe_Whole_s_eq {l : List Ev} : pe_Whole_s [.fs 8 (l.map evc)] = some (l.length ≤ 1048576 ∧ evW l ≤ 1048576, .b (tiedV l && !hasF l)) := peR_eq (by rintro a b h; simp_all [evc_inj]) l
theorem pe_Whole_s_ok : PE1 Try.prog 27 pe_Whole_s := peR_ok (by rintro l hp; exact Whole_s l hp)
end Go.T55
