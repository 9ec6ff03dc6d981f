/- Own text: part KidA. -/
import Derived.Test.YtjphhddbkjdbnaaTypes2
import Derived.Test.YtjphhddbkjdbnaaEventA
import Derived.Test.YtjphhddbkjdbnaaEventB
import Derived.Test.YtjphhddbkjdbnaaNestA
import Derived.Test.YtjphhddbkjdbnaaNestB
import Derived.Test.YtjphhddbkjdbnaaTreeA
import Derived.Test.YtjphhddbkjdbnaaTreeB
import Derived.Test.YtjphhddbkjdbnaaDefA
import Derived.Test.YtjphhddbkjdbnaaBaseE
import Derived.Test.YtjphhddbkjdbnaaPlX
namespace Go.T43
open Go.Proofs Go.Vg Go.RowKit Go.TT Go.Pl Go.T8 Go.T12 Go.T13 Go.T14 Go.T15 Go.T18 Go.T19 Go.T40
set_option linter.unusedVariables false
set_option linter.unusedSimpArgs false
set_option maxRecDepth 10000
set_option maxHeartbeats 4000000
theorem nest_keyText (l : List Ev) (i : Int) (hp : l.length ≤ 1048576 ∧ nested l = true) : PF Try.prog 53 [.agg [.fs 8 (l.map evc), .fs 1 ((endL l).map intc), .fs 1 ((upL l).map intc), .fs 1 ((docL l).map intc)], .i .i64 i] (.s (if 0 ≤ i ∧ i < l.length then keyV l i.toNat else [])) := by
  refine ⟨rfl, rfl, FnK.of (cf := mkCf Try.prog te [(49, pe_nest_defOf), (89, pe_nest_has)] 31 0 false (fun _ => false) (kp [(0, [1, 2]), (1, [1, 2, 5]), (2, [1, 2, 5, 10]), (3, [1, 2]), (4, [1, 2, 24]), (5, [4]), (6, [4])]) [] []) (mkCf_ok te_ok (l := [(49, pe_nest_defOf), (89, pe_nest_has)]) (⟨pe_nest_defOf_ok, pe_nest_has_ok, trivial⟩) mixed_ok) Try.func53 rfl rfl rfl (by simp [mkCf]) (by simp [mkCf]) (rs := [.tmp 4]) rfl 100000 ?_⟩
  simp only [↓XC, XV, entry, isStr, tdOf, szOf, zeroOf, TD.isStruct, okCell, cellsOf, SO.isMap, SO.sz, SO.el, SO.n, SO.ro, mkCf, quietOp, opClass, okLeaf, spl, cellV, isU8T, isSlS, fillS, fillP, repl, SO.put, SV.mapH, frzV, frzVL, frzOk, frzOkL, lendOk, SV.bit, bitL, SV.plain, plainL, isE, mapHL, strip, stripL, gok, gokL, forall_const, implies_true, reduceIte, Nat.reduceAdd, Nat.reduceLT, Nat.reduceEqDiff, Nat.reduceBEq, Nat.reduceLeDiff, reduceCtorEq, Nat.reduceSub, Nat.reduceMul, Int.reduceToNat, Int.reduceLT, Int.reduceLE, TES, pe_nest_defOf_eq, pe_nest_has_eq, XRE, XR]
  have hlt := defS_lt (l := l) (i := i.toNat) i.toNat
  by_cases h6 : 0 ≤ i ∧ i < l.length ∧ (l.getD i.toNat evz).kind = 6
  · simp only [if_pos h6]
    have e : keyV l i.toNat = if defS l i.toNat i.toNat < 0 then [] else txtV l (defS l i.toNat i.toNat).toNat := by unfold keyV; rw [if_pos h6.2.2]
    rw [if_pos ⟨h6.1, h6.2.1⟩, e]
    generalize defS l i.toNat i.toNat = d at *
    refine Chk.mk hp fun _ => ⟨fun hd => Chk.mk hp.1 fun _ => Chk.mk (fun h => by omega) fun _ => ⟨fun h => ?_, fun h => ?_⟩, fun hd => Chk.mk hp.1 fun _ => Chk.mk (fun h => by omega) fun _ => ⟨fun h => ?_, fun h => ?_⟩⟩
    · simp only [Bool.or_eq_true, Bool.and_eq_true, Bool.or_eq_false_iff, Bool.and_eq_false_iff, decide_eq_true_eq, decide_eq_false_iff_not, Bool.not_eq_true', Bool.not_eq_false', beq_iff_eq, beq_eq_false_iff_ne, ne_eq, ge_iff_le, gt_iff_lt, Int.not_le, Int.not_lt, Int.ofNat_le, Int.ofNat_lt] at h
      rw [if_neg (by omega), txtV, if_neg (by omega)]
    · simp only [Bool.or_eq_true, Bool.and_eq_true, Bool.or_eq_false_iff, Bool.and_eq_false_iff, decide_eq_true_eq, decide_eq_false_iff_not, Bool.not_eq_true', Bool.not_eq_false', beq_iff_eq, beq_eq_false_iff_ne, ne_eq, ge_iff_le, gt_iff_lt, Int.not_le, Int.not_lt, Int.ofNat_le, Int.ofNat_lt] at h
      exact Chk.mk (by omega) fun _ => by rw [if_neg (by omega), txtV, if_pos (by omega)]
    · rw [if_pos (by omega)]
    · simp only [Bool.or_eq_true, Bool.and_eq_true, Bool.or_eq_false_iff, Bool.and_eq_false_iff, decide_eq_true_eq, decide_eq_false_iff_not, Bool.not_eq_true', Bool.not_eq_false', beq_iff_eq, beq_eq_false_iff_ne, ne_eq, ge_iff_le, gt_iff_lt, Int.not_le, Int.not_lt, Int.ofNat_le, Int.ofNat_lt] at h
      omega
  · simp only [if_neg h6]
    refine Chk.mk hp fun _ => ⟨fun hd => by omega, fun hd => Chk.mk hp.1 fun _ => Chk.mk (fun h => by simp only [Bool.or_eq_true, Bool.and_eq_true, Bool.or_eq_false_iff, Bool.and_eq_false_iff, decide_eq_true_eq, decide_eq_false_iff_not, Bool.not_eq_true', Bool.not_eq_false', beq_iff_eq, beq_eq_false_iff_ne, ne_eq, ge_iff_le, gt_iff_lt, Int.not_le, Int.not_lt, Int.ofNat_le, Int.ofNat_lt] at h; omega) fun _ => ⟨fun h => ?_, fun h => ?_⟩⟩
    · simp only [Bool.or_eq_true, Bool.and_eq_true, Bool.or_eq_false_iff, Bool.and_eq_false_iff, decide_eq_true_eq, decide_eq_false_iff_not, Bool.not_eq_true', Bool.not_eq_false', beq_iff_eq, beq_eq_false_iff_ne, ne_eq, ge_iff_le, gt_iff_lt, Int.not_le, Int.not_lt, Int.ofNat_le, Int.ofNat_lt] at h
      split
      · unfold keyV
        rw [if_neg (by omega), txtV, if_neg (by omega)]
      · rfl
    · simp only [Bool.or_eq_true, Bool.and_eq_true, Bool.or_eq_false_iff, Bool.and_eq_false_iff, decide_eq_true_eq, decide_eq_false_iff_not, Bool.not_eq_true', Bool.not_eq_false', beq_iff_eq, beq_eq_false_iff_ne, ne_eq, ge_iff_le, gt_iff_lt, Int.not_le, Int.not_lt, Int.ofNat_le, Int.ofNat_lt] at h
      refine Chk.mk (by omega) fun _ => ?_
      rw [if_pos (by omega)]
      unfold keyV
      rw [if_neg (by omega), txtV, if_pos (by omega)]
noncomputable def pe_nest_keyText : PE := peR (fun (x : List Ev × Int) => match x with | (l, i) => [.agg [.fs 8 (l.map evc), .fs 1 ((endL l).map intc), .fs 1 ((upL l).map intc), .fs 1 ((docL l).map intc)], .i .i64 i]) (fun (x : List Ev × Int) => match x with | (l, i) => l.length ≤ 1048576 ∧ nested l = true) (fun (x : List Ev × Int) => match x with | (l, i) => .s (if 0 ≤ i ∧ i < l.length then keyV l i.toNat else []))
theorem pe_nest_keyText_eq {l : List Ev} {i : Int} : pe_nest_keyText [.agg [.fs 8 (l.map evc), .fs 1 ((endL l).map intc), .fs 1 ((upL l).map intc), .fs 1 ((docL l).map intc)], .i .i64 i] = some (l.length ≤ 1048576 ∧ nested l = true, .s (if 0 ≤ i ∧ i < l.length then keyV l i.toNat else [])) := peR_eq (by rintro ⟨a0, a1⟩ ⟨b0, b1⟩ h; simp_all [evc_inj, intc_inj]) (l, i)
theorem pe_nest_keyText_ok : PE1 Try.prog 53 pe_nest_keyText := peR_ok (by rintro ⟨l, i⟩ hp; exact nest_keyText l i hp)
theorem KeyText_i (l : List Ev) (i : Int) (hp : l.length ≤ 1048576) : PF Try.prog 20 [.fs 8 (l.map evc), .i .i64 i] (.s (if nested l = true then (if 0 ≤ i ∧ i < l.length then keyV l i.toNat else []) else [])) := by
  refine ⟨rfl, rfl, FnK.of (cf := mkCf Try.prog te [(47, pe_Nested_i), (48, pe_nestOf), (53, pe_nest_keyText)] 12 0 false (fun _ => false) (kp [(0, [0, 1]), (1, [0, 1, 7]), (2, [4]), (3, [4])]) [] []) (mkCf_ok te_ok (l := [(47, pe_Nested_i), (48, pe_nestOf), (53, pe_nest_keyText)]) (⟨pe_Nested_i_ok, pe_nestOf_ok, pe_nest_keyText_ok, trivial⟩) mixed_ok) Try.func20 rfl rfl rfl (by simp [mkCf]) (by simp [mkCf]) (rs := [.tmp 4]) rfl 100000 ?_⟩
  simp only [↓XC, XV, entry, isStr, tdOf, szOf, zeroOf, TD.isStruct, okCell, cellsOf, SO.isMap, SO.sz, SO.el, SO.n, SO.ro, mkCf, quietOp, opClass, okLeaf, spl, cellV, isU8T, isSlS, fillS, fillP, repl, SO.put, SV.mapH, frzV, frzVL, frzOk, frzOkL, lendOk, SV.bit, bitL, SV.plain, plainL, isE, mapHL, strip, stripL, gok, gokL, forall_const, implies_true, reduceIte, Nat.reduceAdd, Nat.reduceLT, Nat.reduceEqDiff, Nat.reduceBEq, Nat.reduceLeDiff, reduceCtorEq, Nat.reduceSub, Nat.reduceMul, Int.reduceToNat, Int.reduceLT, Int.reduceLE, TES, pe_Nested_i_eq, pe_nestOf_eq, pe_nest_keyText_eq, XRE, XR]
  refine Chk.mk hp fun _ => ⟨fun h => ?_, fun h => Chk.mk ⟨hp, by simpa using h⟩ fun _ => Chk.mk ⟨hp, by simpa using h⟩ fun _ => ?_⟩
  · rw [if_neg (by simp at h; simp [h])]
  · rw [if_pos (c := nested l = true) (by simpa using h)]
noncomputable def pe_KeyText_i : PE := peR (fun (x : List Ev × Int) => match x with | (l, i) => [.fs 8 (l.map evc), .i .i64 i]) (fun (x : List Ev × Int) => match x with | (l, i) => l.length ≤ 1048576) (fun (x : List Ev × Int) => match x with | (l, i) => .s (if nested l = true then (if 0 ≤ i ∧ i < l.length then keyV l i.toNat else []) else []))
theorem pe_KeyText_i_eq {l : List Ev} {i : Int} : pe_KeyText_i [.fs 8 (l.map evc), .i .i64 i] = some (l.length ≤ 1048576, .s (if nested l = true then (if 0 ≤ i ∧ i < l.length then keyV l i.toNat else []) else [])) := peR_eq (by rintro ⟨a0, a1⟩ ⟨b0, b1⟩ h; simp_all [evc_inj]) (l, i)
theorem pe_KeyText_i_ok : PE1 Try.prog 20 pe_KeyText_i := peR_ok (by rintro ⟨l, i⟩ hp; exact KeyText_i l i hp)
theorem l17Key (l : List Ev) (i : Int) (hp : l.length ≤ 1048576 ∧ 0 ≤ i ∧ i < l.length) : PF Try.prog 52 [.fs 8 (l.map evc), .i .i64 i] (.s (keyV l i.toNat)) := by
  refine ⟨rfl, rfl, FnK.of (cf := mkCf Try.prog te [(45, pe_l13Def)] 29 0 false (fun _ => false) (kp [(0, [0, 1]), (1, [0, 1, 11]), (2, [0, 5]), (3, [0, 5, 16]), (4, [4]), (5, [0, 1]), (6, [0, 1, 23]), (7, [4]), (8, [4])]) [] []) (mkCf_ok te_ok (l := [(45, pe_l13Def)]) (⟨pe_l13Def_ok, trivial⟩) mixed_ok) Try.func52 rfl rfl rfl (by simp [mkCf]) (by simp [mkCf]) (rs := [.tmp 4]) rfl 100000 ?_⟩
  simp only [↓XC, XV, entry, isStr, tdOf, szOf, zeroOf, TD.isStruct, okCell, cellsOf, SO.isMap, SO.sz, SO.el, SO.n, SO.ro, mkCf, quietOp, opClass, okLeaf, spl, cellV, isU8T, isSlS, fillS, fillP, repl, SO.put, SV.mapH, frzV, frzVL, frzOk, frzOkL, lendOk, SV.bit, bitL, SV.plain, plainL, isE, mapHL, strip, stripL, gok, gokL, forall_const, implies_true, reduceIte, Nat.reduceAdd, Nat.reduceLT, Nat.reduceEqDiff, Nat.reduceBEq, Nat.reduceLeDiff, reduceCtorEq, Nat.reduceSub, Nat.reduceMul, Int.reduceToNat, Int.reduceLT, Int.reduceLE, TES, pe_l13Def_eq, XRE, XR]
  have hlt := defS_lt (l := l) (i := i.toNat) i.toNat
  unfold keyV
  refine Chk.mk hp.2 fun _ => ⟨fun h6 => Chk.mk hp fun _ => ?_, fun h6 => Chk.mk hp.2 fun _ => ?_⟩
  · rw [if_pos h6]
    generalize defS l i.toNat i.toNat = d at *
    refine ⟨fun h => by rw [if_pos h], fun h => Chk.mk (by omega) fun _ => ?_⟩
    rw [if_neg h]
    exact ⟨fun h5 => Chk.mk (by omega) fun _ => by rw [txtV, if_pos h5], fun h5 => by rw [txtV, if_neg h5]⟩
  · rw [if_neg h6]
    exact ⟨fun h5 => Chk.mk (by omega) fun _ => by rw [txtV, if_pos h5], fun h5 => by rw [txtV, if_neg h5]⟩
noncomputable def pe_l17Key : PE := peR (fun (x : List Ev × Int) => match x with | (l, i) => [.fs 8 (l.map evc), .i .i64 i]) (fun (x : List Ev × Int) => match x with | (l, i) => l.length ≤ 1048576 ∧ 0 ≤ i ∧ i < l.length) (fun (x : List Ev × Int) => match x with | (l, i) => .s (keyV l i.toNat))
theorem pe_l17Key_eq {l : List Ev} {i : Int} : pe_l17Key [.fs 8 (l.map evc), .i .i64 i] = some (l.length ≤ 1048576 ∧ 0 ≤ i ∧ i < l.length, .s (keyV l i.toNat)) := peR_eq (by rintro ⟨a0, a1⟩ ⟨b0, b1⟩ h; simp_all [evc_inj]) (l, i)
theorem pe_l17Key_ok : PE1 Try.prog 52 pe_l17Key := peR_ok (by rintro ⟨l, i⟩ hp; exact l17Key l i hp)
theorem KeyText_s (l : List Ev) (i : Int) (hp : l.length ≤ 1048576 ∧ evW l ≤ 1048576) : PF Try.prog 19 [.fs 8 (l.map evc), .i .i64 i] (.s (if nested l = true then (if 0 ≤ i ∧ i < l.length then keyV l i.toNat else []) else [])) := by
  refine ⟨rfl, rfl, FnK.of (cf := mkCf Try.prog te [(44, pe_Nested_s), (52, pe_l17Key)] 21 0 false (fun _ => false) (kp [(0, [0, 1]), (1, [0, 1, 17]), (2, [4]), (3, [4])]) [] []) (mkCf_ok te_ok (l := [(44, pe_Nested_s), (52, pe_l17Key)]) (⟨pe_Nested_s_ok, pe_l17Key_ok, trivial⟩) mixed_ok) Try.func19 rfl rfl rfl (by simp [mkCf]) (by simp [mkCf]) (rs := [.tmp 4]) rfl 100000 ?_⟩
  simp only [↓XC, XV, entry, isStr, tdOf, szOf, zeroOf, TD.isStruct, okCell, cellsOf, SO.isMap, SO.sz, SO.el, SO.n, SO.ro, mkCf, quietOp, opClass, okLeaf, spl, cellV, isU8T, isSlS, fillS, fillP, repl, SO.put, SV.mapH, frzV, frzVL, frzOk, frzOkL, lendOk, SV.bit, bitL, SV.plain, plainL, isE, mapHL, strip, stripL, gok, gokL, forall_const, implies_true, reduceIte, Nat.reduceAdd, Nat.reduceLT, Nat.reduceEqDiff, Nat.reduceBEq, Nat.reduceLeDiff, reduceCtorEq, Nat.reduceSub, Nat.reduceMul, Int.reduceToNat, Int.reduceLT, Int.reduceLE, TES, pe_Nested_s_eq, pe_l17Key_eq, XRE, XR]
  refine Chk.mk hp fun _ => ⟨fun h => ?_, fun h => ?_⟩
  · simp only [Bool.or_eq_true, Bool.and_eq_true, Bool.or_eq_false_iff, Bool.and_eq_false_iff, decide_eq_true_eq, decide_eq_false_iff_not, Bool.not_eq_true', Bool.not_eq_false', beq_iff_eq, beq_eq_false_iff_ne, ne_eq, ge_iff_le, gt_iff_lt, Int.not_le, Int.not_lt, Int.ofNat_le, Int.ofNat_lt] at h
    split
    · rename_i h9
      rw [if_neg]
      intro h2
      rcases h with (h | h) | h
      · rw [h9] at h; cases h
      · omega
      · omega
    · rfl
  · simp only [Bool.or_eq_true, Bool.and_eq_true, Bool.or_eq_false_iff, Bool.and_eq_false_iff, decide_eq_true_eq, decide_eq_false_iff_not, Bool.not_eq_true', Bool.not_eq_false', beq_iff_eq, beq_eq_false_iff_ne, ne_eq, ge_iff_le, gt_iff_lt, Int.not_le, Int.not_lt, Int.ofNat_le, Int.ofNat_lt] at h
    refine Chk.mk ⟨hp.1, by omega, by omega⟩ fun _ => ?_
    rw [if_pos (c := nested l = true) h.1.1, if_pos ⟨by omega, by omega⟩]
noncomputable def pe_KeyText_s : PE := peR (fun (x : List Ev × Int) => match x with | (l, i) => [.fs 8 (l.map evc), .i .i64 i]) (fun (x : List Ev × Int) => match x with | (l, i) => l.length ≤ 1048576 ∧ evW l ≤ 1048576) (fun (x : List Ev × Int) => match x with | (l, i) => .s (if nested l = true then (if 0 ≤ i ∧ i < l.length then keyV l i.toNat else []) else []))
theorem pe_KeyText_s_eq {l : List Ev} {i : Int} : pe_KeyText_s [.fs 8 (l.map evc), .i .i64 i] = some (l.length ≤ 1048576 ∧ evW l ≤ 1048576, .s (if nested l = true then (if 0 ≤ i ∧ i < l.length then keyV l i.toNat else []) else [])) := peR_eq (by rintro ⟨a0, a1⟩ ⟨b0, b1⟩ h; simp_all [evc_inj]) (l, i)
theorem pe_KeyText_s_ok : PE1 Try.prog 19 pe_KeyText_s := peR_ok (by rintro ⟨l, i⟩ hp; exact KeyText_s l i hp)
theorem nest_roots_own (l : List Ev) (hp : l.length ≤ 1048576 ∧ nested l = true) : FnK Try.prog 55 0 [.agg [.fs 8 (l.map evc), .fs 1 ((endL l).map intc), .fs 1 ((upL l).map intc), .fs 1 ((docL l).map intc)]] [] (fun z c => z = .slc 0 0 (rootsTo l l.length).length ∧ c = [some (.row false 1 (rootsTo l l.length).length (rowE intc 0 (rootsTo l l.length)))]) := by
  refine FnK.ofE (cf := mkCf Try.prog te [(66, pe_isNode_i)] 33 0 false (fun _ => false) (kp [(0, [1]), (1, [1, 3]), (2, [1, 3, 8, 9, 10]), (3, [1, 3, 8, 9, 10, 11]), (4, [1, 3, 4, 5, 8, 9, 10]), (5, [1, 3, 4, 8, 9, 10, 26]), (6, [1, 3, 8, 9, 10]), (7, [1, 3, 8, 9, 10]), (8, [2])]) [] []) (mkCf_ok te_ok (l := [(66, pe_isNode_i)]) (⟨pe_isNode_i_ok, trivial⟩) mixed_ok) Try.func55 rfl rfl rfl (by simp [mkCf]) (by simp [mkCf]) (rs := [.tmp 2]) rfl 100000 ?_
  simp only [↓XC, XV, entry, isStr, tdOf, szOf, zeroOf, TD.isStruct, okCell, cellsOf, SO.isMap, SO.sz, SO.el, SO.n, SO.ro, mkCf, quietOp, opClass, okLeaf, spl, cellV, isU8T, isSlS, fillS, fillP, repl, SO.put, SV.mapH, frzV, frzVL, frzOk, frzOkL, lendOk, SV.bit, bitL, SV.plain, plainL, isE, mapHL, strip, stripL, gok, gokL, forall_const, implies_true, reduceIte, Nat.reduceAdd, Nat.reduceLT, Nat.reduceEqDiff, Nat.reduceBEq, Nat.reduceLeDiff, reduceCtorEq, Nat.reduceSub, Nat.reduceMul, Int.reduceToNat, Int.reduceLT, Int.reduceLE, TES, pe_isNode_i_eq, XRE, XR]
  refine VLoops.of (ι := {i : Nat // i ≤ l.length}) (fun x => ⟨[(1, .ptr 0 0 0), (3, .slc 1 0 (rootsTo l x.1).length), (8, .fs 8 (l.map evc)), (9, .i .i64 (l.length : Nat)), (10, .i .i64 (x.1 : Nat))], [some (.blk false [.fs 8 (l.map evc), .fs 1 ((endL l).map intc), .fs 1 ((upL l).map intc), .fs 1 ((docL l).map intc)]), some (.row false 1 (rootsTo l x.1).length (rowE intc 0 (rootsTo l x.1)))]⟩) (fun x => l.length - x.1) ⟨0, Nat.zero_le _⟩ (by simp only [rootsTo, List.length_nil]; exact (Ent.ren1 [0, 1] (by decide) (by simp only [entCtx, at_cons_zero, at_cons_succ, and_true, true_and]; exact ⟨soLe_blk rfl, soLe_nil⟩) (by simp [entEnv, Vg.look, SV.mapH, muL]))) ?_
  rintro ⟨i, hi⟩
  simp only [↓XC, XV, entry, isStr, tdOf, szOf, zeroOf, TD.isStruct, okCell, cellsOf, SO.isMap, SO.sz, SO.el, SO.n, SO.ro, mkCf, quietOp, opClass, okLeaf, spl, cellV, isU8T, isSlS, fillS, fillP, repl, SO.put, SV.mapH, frzV, frzVL, frzOk, frzOkL, lendOk, SV.bit, bitL, SV.plain, plainL, isE, mapHL, strip, stripL, gok, gokL, forall_const, implies_true, reduceIte, Nat.reduceAdd, Nat.reduceLT, Nat.reduceEqDiff, Nat.reduceBEq, Nat.reduceLeDiff, reduceCtorEq, Nat.reduceSub, Nat.reduceMul, Int.reduceToNat, Int.reduceLT, Int.reduceLE, TES, pe_isNode_i_eq, XRE, XR]
  have h0 := nested_first hp.2
  have hr : rootsTo l (i + 1) = if isRoot l i then rootsTo l i ++ [(i : Int)] else rootsTo l i := rfl
  have hrl := rootsTo_len (l := l) i
  have hpos : isNode (l.getD i evz).kind = true → 0 < i := fun h => by
    rcases Nat.eq_zero_or_pos i with e | e
    · subst e; rw [h0] at h; cases h
    · exact e
  refine ⟨fun hl => Chk.mk (by omega) fun _ => Chk.mk (fun h => by have := hpos h; simp only [inR]; omega) fun _ => Chk.mk (fun h => by have := hpos h; omega) fun _ => ⟨fun hb => ?_, fun hb => ?_⟩, fun hl => ?_⟩
  · simp only [Bool.or_eq_true, Bool.and_eq_true, Bool.or_eq_false_iff, Bool.and_eq_false_iff, decide_eq_true_eq, decide_eq_false_iff_not, Bool.not_eq_true', Bool.not_eq_false', beq_iff_eq, beq_eq_false_iff_ne, ne_eq, ge_iff_le, gt_iff_lt, Int.not_le, Int.not_lt, Int.ofNat_le, Int.ofNat_lt] at hb
    have hq := hpos hb.1
    rw [show ((i : Int) - 1).toNat = i - 1 by omega] at hb
    have ht : isRoot l i = true := by unfold isRoot; rw [hb.1, hb.2]; simp [hq]
    rw [if_pos ht] at hr
    refine ⟨litEl_ok rfl rfl, Chk.mk (by omega) fun _ => Chk.mk (by simp only [inR]; omega) fun _ => ⟨⟨i + 1, by omega⟩, by simp only; omega, ?_⟩⟩
    simp only [hr, Int.natCast_add, Int.natCast_one]
    exact (Ent.ren1 [0, 4] (by decide) (by simp only [entCtx, at_cons_zero, at_cons_succ, and_true, true_and]; exact ⟨soLe_blk rfl, soLe_push (y := (i : Int)) (fun _ => rfl) rfl (fun _ _ => rfl) rfl⟩) (by simp [entEnv, Vg.look, SV.mapH, muL]))
  · have ht : ¬ isRoot l i = true := by
      unfold isRoot
      intro h9
      simp only [Bool.and_eq_true, decide_eq_true_eq] at h9
      rw [show ((i : Int) - 1).toNat = i - 1 by omega, h9.2, h9.1.2] at hb
      cases hb
    rw [if_neg ht] at hr
    refine Chk.mk (by simp only [inR]; omega) fun _ => ⟨⟨i + 1, by omega⟩, by simp only; omega, ?_⟩
    simp only [hr, Int.natCast_add, Int.natCast_one]
    exact (Ent.ren1 [0, 1] (by decide) (by simp only [entCtx, at_cons_zero, at_cons_succ, and_true, true_and]; exact ⟨soLe_blk rfl, soLe_same fun _ => rfl⟩) (by simp [entEnv, Vg.look, SV.mapH, muL]))
  · obtain rfl : i = l.length := by omega
    exact ⟨[1], by decide, by simp only [entCtx, at_cons_zero, at_cons_succ, and_true, true_and]; exact soLe_same fun _ => rfl, by simp only [↓XC, XV, entry, isStr, tdOf, szOf, zeroOf, TD.isStruct, okCell, cellsOf, SO.isMap, SO.sz, SO.el, SO.n, SO.ro, mkCf, quietOp, opClass, okLeaf, spl, cellV, isU8T, isSlS, fillS, fillP, repl, SO.put, SV.mapH, frzV, frzVL, frzOk, frzOkL, lendOk, SV.bit, bitL, SV.plain, plainL, isE, mapHL, strip, stripL, gok, gokL, forall_const, implies_true, reduceIte, Nat.reduceAdd, Nat.reduceLT, Nat.reduceEqDiff, Nat.reduceBEq, Nat.reduceLeDiff, reduceCtorEq, Nat.reduceSub, Nat.reduceMul, Int.reduceToNat, Int.reduceLT, Int.reduceLE]; try simp [muL, SV.mapH, mapHL], by simp [newRw, SO.ro], by simp⟩
theorem nest_roots (l : List Ev) (hp : l.length ≤ 1048576 ∧ nested l = true) : PF Try.prog 55 [.agg [.fs 8 (l.map evc), .fs 1 ((endL l).map intc), .fs 1 ((upL l).map intc), .fs 1 ((docL l).map intc)]] (.fs 1 ((rootsTo l l.length).map intc)) := PF.ofOwn (nest_roots_own l hp) rfl rfl (by simp only [frzOk, frzOkL, frzV, frzVL, at_cons_zero, and_true]; exact ⟨⟨by omega, fun j hj => ⟨rfl, rfl⟩⟩, by rw [rowE_list rfl]⟩)
noncomputable def pe_nest_roots : PE := peR (fun (l : List Ev) => [.agg [.fs 8 (l.map evc), .fs 1 ((endL l).map intc), .fs 1 ((upL l).map intc), .fs 1 ((docL l).map intc)]]) (fun (l : List Ev) => l.length ≤ 1048576 ∧ nested l = true) (fun (l : List Ev) => .fs 1 ((rootsTo l l.length).map intc))
theorem pe_nest_roots_eq {l : List Ev} : pe_nest_roots [.agg [.fs 8 (l.map evc), .fs 1 ((endL l).map intc), .fs 1 ((upL l).map intc), .fs 1 ((docL l).map intc)]] = some (l.length ≤ 1048576 ∧ nested l = true, .fs 1 ((rootsTo l l.length).map intc)) := peR_eq (by rintro a b h; simp_all [evc_inj, intc_inj]) l
theorem pe_nest_roots_ok : PE1 Try.prog 55 pe_nest_roots := peR_ok (by rintro l hp; exact nest_roots l hp)
theorem RootsOf_i_own (l : List Ev) (hp : l.length ≤ 1048576) : FnK Try.prog 22 0 [.fs 8 (l.map evc)] [] (fun z c => z = .slc 0 0 (rootsN l l.length).length ∧ c = [some (.row false 1 (rootsN l l.length).length (rowE intc 0 (rootsN l l.length)))]) := by
  refine FnK.ofX (cf := mkCf Try.prog te [(47, pe_Nested_i), (48, pe_nestOf)] 9 0 false (fun _ => false) (kp [(0, [0]), (1, [0, 5]), (2, [2]), (3, [2])]) [] []) (mkCf_ok te_ok (l := [(47, pe_Nested_i), (48, pe_nestOf)]) (⟨pe_Nested_i_ok, pe_nestOf_ok, trivial⟩) mixed_ok) Try.func22 rfl rfl rfl (by simp [mkCf]) (by simp [mkCf]) (rs := [.tmp 2]) rfl 100000 ?_
  simp only [↓XC, XV, entry, isStr, tdOf, szOf, zeroOf, TD.isStruct, okCell, cellsOf, SO.isMap, SO.sz, SO.el, SO.n, SO.ro, mkCf, quietOp, opClass, okLeaf, spl, cellV, isU8T, isSlS, fillS, fillP, repl, SO.put, SV.mapH, frzV, frzVL, frzOk, frzOkL, lendOk, SV.bit, bitL, SV.plain, plainL, isE, mapHL, strip, stripL, gok, gokL, forall_const, implies_true, reduceIte, Nat.reduceAdd, Nat.reduceLT, Nat.reduceEqDiff, Nat.reduceBEq, Nat.reduceLeDiff, reduceCtorEq, Nat.reduceSub, Nat.reduceMul, Int.reduceToNat, Int.reduceLT, Int.reduceLE, TES, pe_Nested_i_eq, pe_nestOf_eq, XRE, XR]
  refine Chk.mk hp fun _ => ⟨fun h => ?_, fun h => ?_⟩
  · rw [rootsN_no (by simp at h; simp [h])]
    exact ⟨_, Ent.nl (d := []) (env' := [(2, .slc 0 0 0)]) [(1, rowE intc 0 [])] (by simp [nlE, nlV, Vg.look]) (by simp [nlC]), ⟨[0], by decide, by simp only [entCtx, at_cons_zero, at_cons_succ, and_true, true_and]; exact soLe_same fun _ => rfl, by simp only [↓XC, XV, entry, isStr, tdOf, szOf, zeroOf, TD.isStruct, okCell, cellsOf, SO.isMap, SO.sz, SO.el, SO.n, SO.ro, mkCf, quietOp, opClass, okLeaf, spl, cellV, isU8T, isSlS, fillS, fillP, repl, SO.put, SV.mapH, frzV, frzVL, frzOk, frzOkL, lendOk, SV.bit, bitL, SV.plain, plainL, isE, mapHL, strip, stripL, gok, gokL, forall_const, implies_true, reduceIte, Nat.reduceAdd, Nat.reduceLT, Nat.reduceEqDiff, Nat.reduceBEq, Nat.reduceLeDiff, reduceCtorEq, Nat.reduceSub, Nat.reduceMul, Int.reduceToNat, Int.reduceLT, Int.reduceLE]; try simp [muL, SV.mapH, mapHL], by simp [newRw, SO.ro], by simp⟩⟩
  · have hn : nested l = true := by simpa using h
    rw [rootsN_yes hn]
    refine Chk.mk ⟨hp, hn⟩ fun _ => ?_
    refine XCalls.own (nest_roots_own l ⟨hp, hn⟩) rfl ?_
    simp only [↓XC, XV, entry, isStr, tdOf, szOf, zeroOf, TD.isStruct, okCell, cellsOf, SO.isMap, SO.sz, SO.el, SO.n, SO.ro, mkCf, quietOp, opClass, okLeaf, spl, cellV, isU8T, isSlS, fillS, fillP, repl, SO.put, SV.mapH, frzV, frzVL, frzOk, frzOkL, lendOk, SV.bit, bitL, SV.plain, plainL, isE, mapHL, strip, stripL, gok, gokL, forall_const, implies_true, reduceIte, Nat.reduceAdd, Nat.reduceLT, Nat.reduceEqDiff, Nat.reduceBEq, Nat.reduceLeDiff, reduceCtorEq, Nat.reduceSub, Nat.reduceMul, Int.reduceToNat, Int.reduceLT, Int.reduceLE, TES, XRE, XR]
    exact FinX.of ⟨[0], by decide, by simp only [entCtx, at_cons_zero, at_cons_succ, and_true, true_and]; exact soLe_same fun _ => rfl, by simp only [↓XC, XV, entry, isStr, tdOf, szOf, zeroOf, TD.isStruct, okCell, cellsOf, SO.isMap, SO.sz, SO.el, SO.n, SO.ro, mkCf, quietOp, opClass, okLeaf, spl, cellV, isU8T, isSlS, fillS, fillP, repl, SO.put, SV.mapH, frzV, frzVL, frzOk, frzOkL, lendOk, SV.bit, bitL, SV.plain, plainL, isE, mapHL, strip, stripL, gok, gokL, forall_const, implies_true, reduceIte, Nat.reduceAdd, Nat.reduceLT, Nat.reduceEqDiff, Nat.reduceBEq, Nat.reduceLeDiff, reduceCtorEq, Nat.reduceSub, Nat.reduceMul, Int.reduceToNat, Int.reduceLT, Int.reduceLE]; try simp [muL, SV.mapH, mapHL], by simp [newRw, SO.ro], by simp⟩
theorem RootsOf_i (l : List Ev) (hp : l.length ≤ 1048576) : PF Try.prog 22 [.fs 8 (l.map evc)] (.fs 1 ((rootsN l l.length).map intc)) := PF.ofOwn (RootsOf_i_own l hp) rfl rfl (by simp only [frzOk, frzOkL, frzV, frzVL, at_cons_zero, and_true]; exact ⟨⟨by omega, fun j hj => ⟨rfl, rfl⟩⟩, by rw [rowE_list rfl]⟩)
noncomputable def pe_RootsOf_i : PE := peR (fun (l : List Ev) => [.fs 8 (l.map evc)]) (fun (l : List Ev) => l.length ≤ 1048576) (fun (l : List Ev) => .fs 1 ((rootsN l l.length).map intc))
theorem pe_RootsOf_i_eq {l : List Ev} : pe_RootsOf_i [.fs 8 (l.map evc)] = some (l.length ≤ 1048576, .fs 1 ((rootsN l l.length).map intc)) := peR_eq (by rintro a b h; simp_all [evc_inj]) l
theorem pe_RootsOf_i_ok : PE1 Try.prog 22 pe_RootsOf_i := peR_ok (by rintro l hp; exact RootsOf_i l hp)
theorem RootsOf_s_own (l : List Ev) (hp : l.length ≤ 1048576 ∧ evW l ≤ 1048576) : FnK Try.prog 21 0 [.fs 8 (l.map evc)] [] (fun z c => z = .slc 0 0 (rootsN l l.length).length ∧ c = [some (.row false 1 (rootsN l l.length).length (rowE intc 0 (rootsN l l.length)))]) := by
  refine FnK.ofE (cf := mkCf Try.prog te [(54, pe_isNode_s), (44, pe_Nested_s)] 39 0 false (fun _ => false) (kp [(0, [0]), (1, [0, 3]), (2, [0, 3, 7, 8]), (3, [0, 3, 7, 8, 9]), (4, [0, 3, 4, 7, 8]), (5, [0, 3, 4, 7, 8, 32]), (6, [0, 3, 7, 8]), (7, [0, 3, 7, 8]), (8, [2])]) [] []) (mkCf_ok te_ok (l := [(54, pe_isNode_s), (44, pe_Nested_s)]) (⟨pe_isNode_s_ok, pe_Nested_s_ok, trivial⟩) mixed_ok) Try.func21 rfl rfl rfl (by simp [mkCf]) (by simp [mkCf]) (rs := [.tmp 2]) rfl 100000 ?_
  simp only [↓XC, XV, entry, isStr, tdOf, szOf, zeroOf, TD.isStruct, okCell, cellsOf, SO.isMap, SO.sz, SO.el, SO.n, SO.ro, mkCf, quietOp, opClass, okLeaf, spl, cellV, isU8T, isSlS, fillS, fillP, repl, SO.put, SV.mapH, frzV, frzVL, frzOk, frzOkL, lendOk, SV.bit, bitL, SV.plain, plainL, isE, mapHL, strip, stripL, gok, gokL, forall_const, implies_true, reduceIte, Nat.reduceAdd, Nat.reduceLT, Nat.reduceEqDiff, Nat.reduceBEq, Nat.reduceLeDiff, reduceCtorEq, Nat.reduceSub, Nat.reduceMul, Int.reduceToNat, Int.reduceLT, Int.reduceLE, TES, pe_isNode_s_eq, pe_Nested_s_eq, XRE, XR]
  refine VLoops.of (ι := {i : Nat // i ≤ l.length}) (fun x => ⟨[(0, .fs 8 (l.map evc)), (3, .slc 0 0 (rootsN l x.1).length), (7, .i .i64 (l.length : Nat)), (8, .i .i64 (x.1 : Nat))], [some (.row false 1 (rootsN l x.1).length (rowE intc 0 (rootsN l x.1)))]⟩) (fun x => l.length - x.1) ⟨0, Nat.zero_le _⟩ (by simp only [rootsN_zero, List.length_nil]; exact (Ent.ren1 [0] (by decide) (by simp only [entCtx, at_cons_zero, at_cons_succ, and_true, true_and]; exact soLe_nil) (by simp [entEnv, Vg.look, SV.mapH, muL]))) ?_
  rintro ⟨i, hi⟩
  simp only [↓XC, XV, entry, isStr, tdOf, szOf, zeroOf, TD.isStruct, okCell, cellsOf, SO.isMap, SO.sz, SO.el, SO.n, SO.ro, mkCf, quietOp, opClass, okLeaf, spl, cellV, isU8T, isSlS, fillS, fillP, repl, SO.put, SV.mapH, frzV, frzVL, frzOk, frzOkL, lendOk, SV.bit, bitL, SV.plain, plainL, isE, mapHL, strip, stripL, gok, gokL, forall_const, implies_true, reduceIte, Nat.reduceAdd, Nat.reduceLT, Nat.reduceEqDiff, Nat.reduceBEq, Nat.reduceLeDiff, reduceCtorEq, Nat.reduceSub, Nat.reduceMul, Int.reduceToNat, Int.reduceLT, Int.reduceLE, TES, pe_isNode_s_eq, pe_Nested_s_eq, XRE, XR]
  have hrl := rootsN_len (l := l) i
  refine ⟨fun hl => Chk.mk (fun h => by simp only [inR]; omega) fun _ => Chk.mk (fun h => by omega) fun _ => Chk.mk (fun h => by omega) fun _ => Chk.mk (fun h => ⟨h, hp⟩) fun _ => ⟨fun hb => ?_, fun hb => ?_⟩, fun hl => ?_⟩
  · simp only [Bool.or_eq_true, Bool.and_eq_true, Bool.or_eq_false_iff, Bool.and_eq_false_iff, decide_eq_true_eq, decide_eq_false_iff_not, Bool.not_eq_true', Bool.not_eq_false', beq_iff_eq, beq_eq_false_iff_ne, ne_eq, ge_iff_le, gt_iff_lt, Int.not_le, Int.not_lt, Int.ofNat_le, Int.ofNat_lt] at hb
    rw [show ((i : Int) - 1).toNat = i - 1 by omega] at hb
    have ht : isRoot l i = true := by unfold isRoot; rw [hb.1.2, hb.1.1.2]; simp; omega
    have hr := rootsN_more ⟨ht, hb.2⟩
    refine ⟨litEl_ok rfl rfl, Chk.mk (by omega) fun _ => Chk.mk (by simp only [inR]; omega) fun _ => ⟨⟨i + 1, by omega⟩, by simp only; omega, ?_⟩⟩
    simp only [hr, Int.natCast_add, Int.natCast_one]
    exact (Ent.ren1 [2] (by decide) (by simp only [entCtx, at_cons_zero, at_cons_succ, and_true, true_and]; exact soLe_push (y := (i : Int)) (fun _ => rfl) rfl (fun _ _ => rfl) rfl) (by simp [entEnv, Vg.look, SV.mapH, muL]))
  · have hr := rootsN_same (l := l) (i := i) (by
      rintro ⟨h9, h8⟩
      unfold isRoot at h9
      simp only [Bool.and_eq_true, decide_eq_true_eq] at h9
      rw [show ((i : Int) - 1).toNat = i - 1 by omega, h9.2, h9.1.2, h8] at hb
      simp at hb
      omega)
    refine Chk.mk (by simp only [inR]; omega) fun _ => ⟨⟨i + 1, by omega⟩, by simp only; omega, ?_⟩
    simp only [hr, Int.natCast_add, Int.natCast_one]
    exact (Ent.ren1 [0] (by decide) (by simp only [entCtx, at_cons_zero, at_cons_succ, and_true, true_and]; exact soLe_same fun _ => rfl) (by simp [entEnv, Vg.look, SV.mapH, muL]))
  · obtain rfl : i = l.length := by omega
    exact ⟨[0], by decide, by simp only [entCtx, at_cons_zero, at_cons_succ, and_true, true_and]; exact soLe_same fun _ => rfl, by simp only [↓XC, XV, entry, isStr, tdOf, szOf, zeroOf, TD.isStruct, okCell, cellsOf, SO.isMap, SO.sz, SO.el, SO.n, SO.ro, mkCf, quietOp, opClass, okLeaf, spl, cellV, isU8T, isSlS, fillS, fillP, repl, SO.put, SV.mapH, frzV, frzVL, frzOk, frzOkL, lendOk, SV.bit, bitL, SV.plain, plainL, isE, mapHL, strip, stripL, gok, gokL, forall_const, implies_true, reduceIte, Nat.reduceAdd, Nat.reduceLT, Nat.reduceEqDiff, Nat.reduceBEq, Nat.reduceLeDiff, reduceCtorEq, Nat.reduceSub, Nat.reduceMul, Int.reduceToNat, Int.reduceLT, Int.reduceLE]; try simp [muL, SV.mapH, mapHL], by simp [newRw, SO.ro], by simp⟩
theorem RootsOf_s (l : List Ev) (hp : l.length ≤ 1048576 ∧ evW l ≤ 1048576) : PF Try.prog 21 [.fs 8 (l.map evc)] (.fs 1 ((rootsN l l.length).map intc)) := PF.ofOwn (RootsOf_s_own l hp) rfl rfl (by simp only [frzOk, frzOkL, frzV, frzVL, at_cons_zero, and_true]; exact ⟨⟨by omega, fun j hj => ⟨rfl, rfl⟩⟩, by rw [rowE_list rfl]⟩)
noncomputable def pe_RootsOf_s : PE := peR (fun (l : List Ev) => [.fs 8 (l.map evc)]) (fun (l : List Ev) => l.length ≤ 1048576 ∧ evW l ≤ 1048576) (fun (l : List Ev) => .fs 1 ((rootsN l l.length).map intc))
theorem pe_RootsOf_s_eq {l : List Ev} : pe_RootsOf_s [.fs 8 (l.map evc)] = some (l.length ≤ 1048576 ∧ evW l ≤ 1048576, .fs 1 ((rootsN l l.length).map intc)) := peR_eq (by rintro a b h; simp_all [evc_inj]) l
theorem pe_RootsOf_s_ok : PE1 Try.prog 21 pe_RootsOf_s := peR_ok (by rintro l hp; exact RootsOf_s l hp)
theorem nest_kidsOf_own (l : List Ev) (i : Int) (hp : l.length ≤ 1048576 ∧ nested l = true) : FnK Try.prog 60 0 [.agg [.fs 8 (l.map evc), .fs 1 ((endL l).map intc), .fs 1 ((upL l).map intc), .fs 1 ((docL l).map intc)], .i .i64 i] [] (fun z c => z = .slc 0 0 (if 0 ≤ i ∧ i < l.length then kidsV l i.toNat else []).length ∧ c = [some (.row false 1 (if 0 ≤ i ∧ i < l.length then kidsV l i.toNat else []).length (rowE intc 0 (if 0 ≤ i ∧ i < l.length then kidsV l i.toNat else [])))]) := by
  refine FnK.ofE (cf := mkCf Try.prog te [(89, pe_nest_has), (88, pe_isColl_i), (66, pe_isNode_i)] 55 0 false (fun _ => false) (kp [(0, [1, 2]), (1, [1, 2, 5]), (2, [1, 2, 5, 20]), (3, [4]), (4, [2, 5, 6]), (5, [2, 5, 6, 36]), (6, [2, 5, 6]), (7, [2, 5, 6]), (8, [2, 5, 6, 48]), (9, [2, 5, 6]), (10, [4])]) [] []) (mkCf_ok te_ok (l := [(89, pe_nest_has), (88, pe_isColl_i), (66, pe_isNode_i)]) (⟨pe_nest_has_ok, pe_isColl_i_ok, pe_isNode_i_ok, trivial⟩) mixed_ok) Try.func60 rfl rfl rfl (by simp [mkCf]) (by simp [mkCf]) (rs := [.tmp 4]) rfl 100000 ?_
  simp only [↓XC, XV, entry, isStr, tdOf, szOf, zeroOf, TD.isStruct, okCell, cellsOf, SO.isMap, SO.sz, SO.el, SO.n, SO.ro, mkCf, quietOp, opClass, okLeaf, spl, cellV, isU8T, isSlS, fillS, fillP, repl, SO.put, SV.mapH, frzV, frzVL, frzOk, frzOkL, lendOk, SV.bit, bitL, SV.plain, plainL, isE, mapHL, strip, stripL, gok, gokL, forall_const, implies_true, reduceIte, Nat.reduceAdd, Nat.reduceLT, Nat.reduceEqDiff, Nat.reduceBEq, Nat.reduceLeDiff, reduceCtorEq, Nat.reduceSub, Nat.reduceMul, Int.reduceToNat, Int.reduceLT, Int.reduceLE, TES, pe_nest_has_eq, pe_isColl_i_eq, pe_isNode_i_eq, XRE, XR]
  refine Chk.mk hp.1 fun _ => Chk.mk (fun h => by simp only [Bool.or_eq_true, Bool.and_eq_true, Bool.or_eq_false_iff, Bool.and_eq_false_iff, decide_eq_true_eq, decide_eq_false_iff_not, Bool.not_eq_true', Bool.not_eq_false', beq_iff_eq, beq_eq_false_iff_ne, ne_eq, ge_iff_le, gt_iff_lt, Int.not_le, Int.not_lt, Int.ofNat_le, Int.ofNat_lt] at h; omega) fun _ => ⟨fun h => ?_, fun h => ?_⟩
  · have e : (if 0 ≤ i ∧ i < l.length then kidsV l i.toNat else []) = [] := by
      simp only [Bool.or_eq_true, Bool.and_eq_true, Bool.or_eq_false_iff, Bool.and_eq_false_iff, decide_eq_true_eq, decide_eq_false_iff_not, Bool.not_eq_true', Bool.not_eq_false', beq_iff_eq, beq_eq_false_iff_ne, ne_eq, ge_iff_le, gt_iff_lt, Int.not_le, Int.not_lt, Int.ofNat_le, Int.ofNat_lt] at h
      split
      · unfold kidsV
        rw [if_neg]
        intro h2
        rcases h with h | h
        · omega
        · rw [h2] at h; cases h
      · rfl
    rw [e]
    exact ⟨[1], by decide, by simp only [entCtx, at_cons_zero, at_cons_succ, and_true, true_and]; exact soLe_nil, by simp only [↓XC, XV, entry, isStr, tdOf, szOf, zeroOf, TD.isStruct, okCell, cellsOf, SO.isMap, SO.sz, SO.el, SO.n, SO.ro, mkCf, quietOp, opClass, okLeaf, spl, cellV, isU8T, isSlS, fillS, fillP, repl, SO.put, SV.mapH, frzV, frzVL, frzOk, frzOkL, lendOk, SV.bit, bitL, SV.plain, plainL, isE, mapHL, strip, stripL, gok, gokL, forall_const, implies_true, reduceIte, Nat.reduceAdd, Nat.reduceLT, Nat.reduceEqDiff, Nat.reduceBEq, Nat.reduceLeDiff, reduceCtorEq, Nat.reduceSub, Nat.reduceMul, Int.reduceToNat, Int.reduceLT, Int.reduceLE]; try simp [muL, SV.mapH, mapHL], by simp [newRw, SO.ro], by simp⟩
  simp only [Bool.or_eq_true, Bool.and_eq_true, Bool.or_eq_false_iff, Bool.and_eq_false_iff, decide_eq_true_eq, decide_eq_false_iff_not, Bool.not_eq_true', Bool.not_eq_false', beq_iff_eq, beq_eq_false_iff_ne, ne_eq, ge_iff_le, gt_iff_lt, Int.not_le, Int.not_lt, Int.ofNat_le, Int.ofNat_lt] at h
  obtain ⟨n, rfl⟩ := Int.eq_ofNat_of_zero_le (show 0 ≤ i by omega)
  have e : (if 0 ≤ ((n : Nat) : Int) ∧ ((n : Nat) : Int) < l.length then kidsV l (n : Int).toNat else []) = kidsF l (n + 1) := by
    rw [if_pos (by omega)]; unfold kidsV; rw [if_pos h.2]; rfl
  rw [e]
  refine Chk.mk (by simp only [inR]; omega) fun _ => ?_
  refine VLoops.of (ι := {x : Nat × List Int // x.2.length ≤ x.1 ∧ n + 1 ≤ x.1 ∧ x.1 ≤ l.length ∧ x.2 ++ kidsF l x.1 = kidsF l (n + 1)}) (fun x => ⟨[(2, .ptr 0 0 0), (5, .slc 1 0 x.1.2.length), (6, .i .i64 (x.1.1 : Nat))], [some (.blk false [.fs 8 (l.map evc), .fs 1 ((endL l).map intc), .fs 1 ((upL l).map intc), .fs 1 ((docL l).map intc)]), some (.row false 1 x.1.2.length (rowE intc 0 x.1.2))]⟩) (fun x => l.length - x.1.1) ⟨(n + 1, []), by simp, Nat.le_refl _, by simp only; omega, rfl⟩ (Ent.ren1 [0, 1] (by decide) (by simp only [entCtx, at_cons_zero, at_cons_succ, and_true, true_and]; exact ⟨soLe_blk rfl, soLe_nil⟩) (by simp [entEnv, Vg.look, SV.mapH, muL])) ?_
  rintro ⟨⟨k, q⟩, hq, hk1, hk, hd⟩
  simp only [↓XC, XV, entry, isStr, tdOf, szOf, zeroOf, TD.isStruct, okCell, cellsOf, SO.isMap, SO.sz, SO.el, SO.n, SO.ro, mkCf, quietOp, opClass, okLeaf, spl, cellV, isU8T, isSlS, fillS, fillP, repl, SO.put, SV.mapH, frzV, frzVL, frzOk, frzOkL, lendOk, SV.bit, bitL, SV.plain, plainL, isE, mapHL, strip, stripL, gok, gokL, forall_const, implies_true, reduceIte, Nat.reduceAdd, Nat.reduceLT, Nat.reduceEqDiff, Nat.reduceBEq, Nat.reduceLeDiff, reduceCtorEq, Nat.reduceSub, Nat.reduceMul, Int.reduceToNat, Int.reduceLT, Int.reduceLE, TES, pe_isNode_i_eq, XRE, XR]
  simp only at hq hk1 hk hd
  refine Chk.mk (fun _ => by omega) fun _ => ⟨fun hb => ?_, fun hb => ?_⟩
  · simp only [Bool.or_eq_true, Bool.and_eq_true, Bool.or_eq_false_iff, Bool.and_eq_false_iff, decide_eq_true_eq, decide_eq_false_iff_not, Bool.not_eq_true', Bool.not_eq_false', beq_iff_eq, beq_eq_false_iff_ne, ne_eq, ge_iff_le, gt_iff_lt, Int.not_le, Int.not_lt, Int.ofNat_le, Int.ofNat_lt] at hb
    have hel : (endL l).length = l.length := mkR_length
    have he := endL_get hp.2 (k := k) (by omega)
    rw [if_pos hb.2] at he
    rw [he]
    refine ⟨litEl_ok rfl rfl, Chk.mk (by omega) fun _ => Chk.mk (by omega) fun _ => ⟨fun h => ?_, fun h => Chk.mk (by omega) fun _ => Chk.mk (by have hr := scB_range (l := l) (l.length - k) k 0 (Nat.le_refl _) (by omega); simp only [inR]; omega) fun _ => ?_⟩⟩
    · rw [kidsF_last ⟨by omega, hb.2⟩ h] at hd
      rw [← hd]
      exact ⟨[3], by decide, by simp only [entCtx, at_cons_zero, at_cons_succ, and_true, true_and]; exact soLe_push (y := (k : Int)) (fun _ => rfl) rfl (fun _ _ => rfl) rfl, by simp only [↓XC, XV, entry, isStr, tdOf, szOf, zeroOf, TD.isStruct, okCell, cellsOf, SO.isMap, SO.sz, SO.el, SO.n, SO.ro, mkCf, quietOp, opClass, okLeaf, spl, cellV, isU8T, isSlS, fillS, fillP, repl, SO.put, SV.mapH, frzV, frzVL, frzOk, frzOkL, lendOk, SV.bit, bitL, SV.plain, plainL, isE, mapHL, strip, stripL, gok, gokL, forall_const, implies_true, reduceIte, Nat.reduceAdd, Nat.reduceLT, Nat.reduceEqDiff, Nat.reduceBEq, Nat.reduceLeDiff, reduceCtorEq, Nat.reduceSub, Nat.reduceMul, Int.reduceToNat, Int.reduceLT, Int.reduceLE]; try simp [muL, SV.mapH, mapHL], by simp [newRw, SO.ro], by simp⟩
    · have hr := scB_range (l := l) (l.length - k) k 0 (Nat.le_refl _) (by omega)
      rw [kidsF_next ⟨by omega, hb.2⟩ h] at hd
      refine ⟨⟨((scB l k 0).toNat + 1, q ++ [(k : Int)]), by simp; omega, by simp only; omega, by simp only; omega, by simp only [List.append_assoc, List.singleton_append]; exact hd⟩, by simp only; omega, ?_⟩
      simp only [show (((scB l k 0).toNat + 1 : Nat) : Int) = scB l k 0 + 1 by omega]
      exact (Ent.ren1 [0, 3] (by decide) (by simp only [entCtx, at_cons_zero, at_cons_succ, and_true, true_and]; exact ⟨soLe_blk rfl, soLe_push (y := (k : Int)) (fun _ => rfl) rfl (fun _ _ => rfl) rfl⟩) (by simp [entEnv, Vg.look, SV.mapH, muL]))
  · rw [kidsF_no (by rintro ⟨h1, h2⟩; rw [h2] at hb; simp at hb; omega), List.append_nil] at hd
    rw [← hd]
    exact ⟨[1], by decide, by simp only [entCtx, at_cons_zero, at_cons_succ, and_true, true_and]; exact soLe_same fun _ => rfl, by simp only [↓XC, XV, entry, isStr, tdOf, szOf, zeroOf, TD.isStruct, okCell, cellsOf, SO.isMap, SO.sz, SO.el, SO.n, SO.ro, mkCf, quietOp, opClass, okLeaf, spl, cellV, isU8T, isSlS, fillS, fillP, repl, SO.put, SV.mapH, frzV, frzVL, frzOk, frzOkL, lendOk, SV.bit, bitL, SV.plain, plainL, isE, mapHL, strip, stripL, gok, gokL, forall_const, implies_true, reduceIte, Nat.reduceAdd, Nat.reduceLT, Nat.reduceEqDiff, Nat.reduceBEq, Nat.reduceLeDiff, reduceCtorEq, Nat.reduceSub, Nat.reduceMul, Int.reduceToNat, Int.reduceLT, Int.reduceLE]; try simp [muL, SV.mapH, mapHL], by simp [newRw, SO.ro], by simp⟩
theorem nest_kidsOf (l : List Ev) (i : Int) (hp : l.length ≤ 1048576 ∧ nested l = true) : PF Try.prog 60 [.agg [.fs 8 (l.map evc), .fs 1 ((endL l).map intc), .fs 1 ((upL l).map intc), .fs 1 ((docL l).map intc)], .i .i64 i] (.fs 1 ((if 0 ≤ i ∧ i < l.length then kidsV l i.toNat else []).map intc)) := PF.ofOwn (nest_kidsOf_own l i hp) rfl rfl (by simp only [frzOk, frzOkL, frzV, frzVL, at_cons_zero, and_true]; exact ⟨⟨by omega, fun j hj => ⟨rfl, rfl⟩⟩, by rw [rowE_list rfl]⟩)
noncomputable def pe_nest_kidsOf : PE := peR (fun (x : List Ev × Int) => match x with | (l, i) => [.agg [.fs 8 (l.map evc), .fs 1 ((endL l).map intc), .fs 1 ((upL l).map intc), .fs 1 ((docL l).map intc)], .i .i64 i]) (fun (x : List Ev × Int) => match x with | (l, i) => l.length ≤ 1048576 ∧ nested l = true) (fun (x : List Ev × Int) => match x with | (l, i) => .fs 1 ((if 0 ≤ i ∧ i < l.length then kidsV l i.toNat else []).map intc))
theorem pe_nest_kidsOf_eq {l : List Ev} {i : Int} : pe_nest_kidsOf [.agg [.fs 8 (l.map evc), .fs 1 ((endL l).map intc), .fs 1 ((upL l).map intc), .fs 1 ((docL l).map intc)], .i .i64 i] = some (l.length ≤ 1048576 ∧ nested l = true, .fs 1 ((if 0 ≤ i ∧ i < l.length then kidsV l i.toNat else []).map intc)) := peR_eq (by rintro ⟨a0, a1⟩ ⟨b0, b1⟩ h; simp_all [evc_inj, intc_inj]) (l, i)
theorem pe_nest_kidsOf_ok : PE1 Try.prog 60 pe_nest_kidsOf := peR_ok (by rintro ⟨l, i⟩ hp; exact nest_kidsOf l i hp)
theorem KidsOf_i_own (l : List Ev) (i : Int) (hp : l.length ≤ 1048576) : FnK Try.prog 30 0 [.fs 8 (l.map evc), .i .i64 i] [] (fun z c => z = .slc 0 0 (if nested l = true then (if 0 ≤ i ∧ i < l.length then kidsV l i.toNat else []) else []).length ∧ c = [some (.row false 1 (if nested l = true then (if 0 ≤ i ∧ i < l.length then kidsV l i.toNat else []) else []).length (rowE intc 0 (if nested l = true then (if 0 ≤ i ∧ i < l.length then kidsV l i.toNat else []) else [])))]) := by
  refine FnK.ofX (cf := mkCf Try.prog te [(47, pe_Nested_i), (48, pe_nestOf)] 12 0 false (fun _ => false) (kp [(0, [0, 1]), (1, [0, 1, 7]), (2, [4]), (3, [4])]) [] []) (mkCf_ok te_ok (l := [(47, pe_Nested_i), (48, pe_nestOf)]) (⟨pe_Nested_i_ok, pe_nestOf_ok, trivial⟩) mixed_ok) Try.func30 rfl rfl rfl (by simp [mkCf]) (by simp [mkCf]) (rs := [.tmp 4]) rfl 100000 ?_
  simp only [↓XC, XV, entry, isStr, tdOf, szOf, zeroOf, TD.isStruct, okCell, cellsOf, SO.isMap, SO.sz, SO.el, SO.n, SO.ro, mkCf, quietOp, opClass, okLeaf, spl, cellV, isU8T, isSlS, fillS, fillP, repl, SO.put, SV.mapH, frzV, frzVL, frzOk, frzOkL, lendOk, SV.bit, bitL, SV.plain, plainL, isE, mapHL, strip, stripL, gok, gokL, forall_const, implies_true, reduceIte, Nat.reduceAdd, Nat.reduceLT, Nat.reduceEqDiff, Nat.reduceBEq, Nat.reduceLeDiff, reduceCtorEq, Nat.reduceSub, Nat.reduceMul, Int.reduceToNat, Int.reduceLT, Int.reduceLE, TES, pe_Nested_i_eq, pe_nestOf_eq, XRE, XR]
  refine Chk.mk hp fun _ => ⟨fun h => ?_, fun h => ?_⟩
  · rw [if_neg (by simp at h; simp [h])]
    exact ⟨_, Ent.nl (d := []) (env' := [(4, .slc 0 0 0)]) [(1, rowE intc 0 [])] (by simp [nlE, nlV, Vg.look]) (by simp [nlC]), ⟨[0], by decide, by simp only [entCtx, at_cons_zero, at_cons_succ, and_true, true_and]; exact soLe_same fun _ => rfl, by simp only [↓XC, XV, entry, isStr, tdOf, szOf, zeroOf, TD.isStruct, okCell, cellsOf, SO.isMap, SO.sz, SO.el, SO.n, SO.ro, mkCf, quietOp, opClass, okLeaf, spl, cellV, isU8T, isSlS, fillS, fillP, repl, SO.put, SV.mapH, frzV, frzVL, frzOk, frzOkL, lendOk, SV.bit, bitL, SV.plain, plainL, isE, mapHL, strip, stripL, gok, gokL, forall_const, implies_true, reduceIte, Nat.reduceAdd, Nat.reduceLT, Nat.reduceEqDiff, Nat.reduceBEq, Nat.reduceLeDiff, reduceCtorEq, Nat.reduceSub, Nat.reduceMul, Int.reduceToNat, Int.reduceLT, Int.reduceLE]; try simp [muL, SV.mapH, mapHL], by simp [newRw, SO.ro], by simp⟩⟩
  · have hn : nested l = true := by simpa using h
    rw [if_pos (c := nested l = true) hn]
    refine Chk.mk ⟨hp, hn⟩ fun _ => ?_
    refine XCalls.own (nest_kidsOf_own l i ⟨hp, hn⟩) rfl ?_
    simp only [↓XC, XV, entry, isStr, tdOf, szOf, zeroOf, TD.isStruct, okCell, cellsOf, SO.isMap, SO.sz, SO.el, SO.n, SO.ro, mkCf, quietOp, opClass, okLeaf, spl, cellV, isU8T, isSlS, fillS, fillP, repl, SO.put, SV.mapH, frzV, frzVL, frzOk, frzOkL, lendOk, SV.bit, bitL, SV.plain, plainL, isE, mapHL, strip, stripL, gok, gokL, forall_const, implies_true, reduceIte, Nat.reduceAdd, Nat.reduceLT, Nat.reduceEqDiff, Nat.reduceBEq, Nat.reduceLeDiff, reduceCtorEq, Nat.reduceSub, Nat.reduceMul, Int.reduceToNat, Int.reduceLT, Int.reduceLE, TES, XRE, XR]
    exact FinX.of ⟨[0], by decide, by simp only [entCtx, at_cons_zero, at_cons_succ, and_true, true_and]; exact soLe_same fun _ => rfl, by simp only [↓XC, XV, entry, isStr, tdOf, szOf, zeroOf, TD.isStruct, okCell, cellsOf, SO.isMap, SO.sz, SO.el, SO.n, SO.ro, mkCf, quietOp, opClass, okLeaf, spl, cellV, isU8T, isSlS, fillS, fillP, repl, SO.put, SV.mapH, frzV, frzVL, frzOk, frzOkL, lendOk, SV.bit, bitL, SV.plain, plainL, isE, mapHL, strip, stripL, gok, gokL, forall_const, implies_true, reduceIte, Nat.reduceAdd, Nat.reduceLT, Nat.reduceEqDiff, Nat.reduceBEq, Nat.reduceLeDiff, reduceCtorEq, Nat.reduceSub, Nat.reduceMul, Int.reduceToNat, Int.reduceLT, Int.reduceLE]; try simp [muL, SV.mapH, mapHL], by simp [newRw, SO.ro], by simp⟩
theorem KidsOf_i (l : List Ev) (i : Int) (hp : l.length ≤ 1048576) : PF Try.prog 30 [.fs 8 (l.map evc), .i .i64 i] (.fs 1 ((if nested l = true then (if 0 ≤ i ∧ i < l.length then kidsV l i.toNat else []) else []).map intc)) := PF.ofOwn (KidsOf_i_own l i hp) rfl rfl (by simp only [frzOk, frzOkL, frzV, frzVL, at_cons_zero, and_true]; exact ⟨⟨by omega, fun j hj => ⟨rfl, rfl⟩⟩, by rw [rowE_list rfl]⟩)
noncomputable def pe_KidsOf_i : PE := peR (fun (x : List Ev × Int) => match x with | (l, i) => [.fs 8 (l.map evc), .i .i64 i]) (fun (x : List Ev × Int) => match x with | (l, i) => l.length ≤ 1048576) (fun (x : List Ev × Int) => match x with | (l, i) => .fs 1 ((if nested l = true then (if 0 ≤ i ∧ i < l.length then kidsV l i.toNat else []) else []).map intc))
theorem pe_KidsOf_i_eq {l : List Ev} {i : Int} : pe_KidsOf_i [.fs 8 (l.map evc), .i .i64 i] = some (l.length ≤ 1048576, .fs 1 ((if nested l = true then (if 0 ≤ i ∧ i < l.length then kidsV l i.toNat else []) else []).map intc)) := peR_eq (by rintro ⟨a0, a1⟩ ⟨b0, b1⟩ h; simp_all [evc_inj]) (l, i)
theorem pe_KidsOf_i_ok : PE1 Try.prog 30 pe_KidsOf_i := peR_ok (by rintro ⟨l, i⟩ hp; exact KidsOf_i l i hp)
theorem l13Kids_own (l : List Ev) (i : Int) (hp : l.length ≤ 1048576 ∧ 0 ≤ i ∧ i < l.length) : FnK Try.prog 59 0 [.fs 8 (l.map evc), .i .i64 i] [] (fun z c => z = .slc 0 0 (kidsV l i.toNat).length ∧ c = [some (.row false 1 (kidsV l i.toNat).length (rowE intc 0 (kidsV l i.toNat)))]) := by
  refine FnK.ofE (cf := mkCf Try.prog te [(58, pe_isColl_s), (54, pe_isNode_s), (85, pe_l13End)] 43 0 false (fun _ => false) (kp [(0, [0, 1]), (1, [0, 1, 5]), (2, [0, 1, 5, 14]), (3, [4]), (4, [0, 5, 6]), (5, [0, 5, 6, 28]), (6, [0, 5, 6]), (7, [0, 5, 6]), (8, [0, 5, 7]), (9, [0, 5, 7, 39]), (10, [4]), (11, [0, 5, 6]), (12, [4])]) [] []) (mkCf_ok te_ok (l := [(58, pe_isColl_s), (54, pe_isNode_s), (85, pe_l13End)]) (⟨pe_isColl_s_ok, pe_isNode_s_ok, pe_l13End_ok, trivial⟩) mixed_ok) Try.func59 rfl rfl rfl (by simp [mkCf]) (by simp [mkCf]) (rs := [.tmp 4]) rfl 100000 ?_
  simp only [↓XC, XV, entry, isStr, tdOf, szOf, zeroOf, TD.isStruct, okCell, cellsOf, SO.isMap, SO.sz, SO.el, SO.n, SO.ro, mkCf, quietOp, opClass, okLeaf, spl, cellV, isU8T, isSlS, fillS, fillP, repl, SO.put, SV.mapH, frzV, frzVL, frzOk, frzOkL, lendOk, SV.bit, bitL, SV.plain, plainL, isE, mapHL, strip, stripL, gok, gokL, forall_const, implies_true, reduceIte, Nat.reduceAdd, Nat.reduceLT, Nat.reduceEqDiff, Nat.reduceBEq, Nat.reduceLeDiff, reduceCtorEq, Nat.reduceSub, Nat.reduceMul, Int.reduceToNat, Int.reduceLT, Int.reduceLE, TES, pe_isColl_s_eq, pe_isNode_s_eq, pe_l13End_eq, XRE, XR]
  obtain ⟨h1, h0, hl⟩ := hp
  obtain ⟨n, rfl⟩ := Int.eq_ofNat_of_zero_le h0
  simp only [Int.toNat_natCast]
  refine Chk.mk (by omega) fun _ => ⟨fun h => ?_, fun h => Chk.mk (by simp only [inR]; omega) fun _ => ?_⟩
  · have e : kidsV l n = [] := by unfold kidsV; rw [if_neg (by simp at h; simp [h])]
    rw [e]
    exact ⟨[0], by decide, by simp only [entCtx, at_cons_zero, at_cons_succ, and_true, true_and]; exact soLe_nil, by simp only [↓XC, XV, entry, isStr, tdOf, szOf, zeroOf, TD.isStruct, okCell, cellsOf, SO.isMap, SO.sz, SO.el, SO.n, SO.ro, mkCf, quietOp, opClass, okLeaf, spl, cellV, isU8T, isSlS, fillS, fillP, repl, SO.put, SV.mapH, frzV, frzVL, frzOk, frzOkL, lendOk, SV.bit, bitL, SV.plain, plainL, isE, mapHL, strip, stripL, gok, gokL, forall_const, implies_true, reduceIte, Nat.reduceAdd, Nat.reduceLT, Nat.reduceEqDiff, Nat.reduceBEq, Nat.reduceLeDiff, reduceCtorEq, Nat.reduceSub, Nat.reduceMul, Int.reduceToNat, Int.reduceLT, Int.reduceLE]; try simp [muL, SV.mapH, mapHL], by simp [newRw, SO.ro], by simp⟩
  have e : kidsV l n = kidsF l (n + 1) := by unfold kidsV; rw [if_pos (by simpa using h)]
  rw [e]
  refine VLoops.of (ι := {x : Nat × List Int // x.2.length ≤ x.1 ∧ n + 1 ≤ x.1 ∧ x.1 ≤ l.length ∧ x.2 ++ kidsF l x.1 = kidsF l (n + 1)}) (fun x => ⟨[(0, .fs 8 (l.map evc)), (5, .slc 0 0 x.1.2.length), (6, .i .i64 (x.1.1 : Nat))], [some (.row false 1 x.1.2.length (rowE intc 0 x.1.2))]⟩) (fun x => l.length - x.1.1) ⟨(n + 1, []), by simp, Nat.le_refl _, by simp only; omega, rfl⟩ (Ent.ren1 [0] (by decide) (by simp only [entCtx, at_cons_zero, at_cons_succ, and_true, true_and]; exact soLe_nil) (by simp [entEnv, Vg.look, SV.mapH, muL])) ?_
  rintro ⟨⟨k, q⟩, hq, hk1, hk, hd⟩
  simp only [↓XC, XV, entry, isStr, tdOf, szOf, zeroOf, TD.isStruct, okCell, cellsOf, SO.isMap, SO.sz, SO.el, SO.n, SO.ro, mkCf, quietOp, opClass, okLeaf, spl, cellV, isU8T, isSlS, fillS, fillP, repl, SO.put, SV.mapH, frzV, frzVL, frzOk, frzOkL, lendOk, SV.bit, bitL, SV.plain, plainL, isE, mapHL, strip, stripL, gok, gokL, forall_const, implies_true, reduceIte, Nat.reduceAdd, Nat.reduceLT, Nat.reduceEqDiff, Nat.reduceBEq, Nat.reduceLeDiff, reduceCtorEq, Nat.reduceSub, Nat.reduceMul, Int.reduceToNat, Int.reduceLT, Int.reduceLE, TES, pe_isNode_s_eq, pe_l13End_eq, XRE, XR]
  simp only at hq hk1 hk hd
  refine Chk.mk (fun _ => by omega) fun _ => ⟨fun hb => ?_, fun hb => ?_⟩
  · simp only [Bool.or_eq_true, Bool.and_eq_true, Bool.or_eq_false_iff, Bool.and_eq_false_iff, decide_eq_true_eq, decide_eq_false_iff_not, Bool.not_eq_true', Bool.not_eq_false', beq_iff_eq, beq_eq_false_iff_ne, ne_eq, ge_iff_le, gt_iff_lt, Int.not_le, Int.not_lt, Int.ofNat_le, Int.ofNat_lt] at hb
    rw [if_pos hb.2]
    refine ⟨litEl_ok rfl rfl, Chk.mk (by omega) fun _ => Chk.mk (by omega) fun _ => ⟨fun h => ?_, fun h => Chk.mk (by have hr := scB_range (l := l) (l.length - k) k 0 (Nat.le_refl _) (by omega); simp only [inR]; omega) fun _ => ?_⟩⟩
    · rw [kidsF_last ⟨by omega, hb.2⟩ h] at hd
      rw [← hd]
      exact ⟨[2], by decide, by simp only [entCtx, at_cons_zero, at_cons_succ, and_true, true_and]; exact soLe_push (y := (k : Int)) (fun _ => rfl) rfl (fun _ _ => rfl) rfl, by simp only [↓XC, XV, entry, isStr, tdOf, szOf, zeroOf, TD.isStruct, okCell, cellsOf, SO.isMap, SO.sz, SO.el, SO.n, SO.ro, mkCf, quietOp, opClass, okLeaf, spl, cellV, isU8T, isSlS, fillS, fillP, repl, SO.put, SV.mapH, frzV, frzVL, frzOk, frzOkL, lendOk, SV.bit, bitL, SV.plain, plainL, isE, mapHL, strip, stripL, gok, gokL, forall_const, implies_true, reduceIte, Nat.reduceAdd, Nat.reduceLT, Nat.reduceEqDiff, Nat.reduceBEq, Nat.reduceLeDiff, reduceCtorEq, Nat.reduceSub, Nat.reduceMul, Int.reduceToNat, Int.reduceLT, Int.reduceLE]; try simp [muL, SV.mapH, mapHL], by simp [newRw, SO.ro], by simp⟩
    · have hr := scB_range (l := l) (l.length - k) k 0 (Nat.le_refl _) (by omega)
      rw [kidsF_next ⟨by omega, hb.2⟩ h] at hd
      refine ⟨⟨((scB l k 0).toNat + 1, q ++ [(k : Int)]), by simp; omega, by simp only; omega, by simp only; omega, by simp only [List.append_assoc, List.singleton_append]; exact hd⟩, by simp only; omega, ?_⟩
      simp only [show (((scB l k 0).toNat + 1 : Nat) : Int) = scB l k 0 + 1 by omega]
      exact (Ent.ren1 [2] (by decide) (by simp only [entCtx, at_cons_zero, at_cons_succ, and_true, true_and]; exact soLe_push (y := (k : Int)) (fun _ => rfl) rfl (fun _ _ => rfl) rfl) (by simp [entEnv, Vg.look, SV.mapH, muL]))
  · rw [kidsF_no (by rintro ⟨h1, h2⟩; rw [h2] at hb; simp at hb; omega), List.append_nil] at hd
    rw [← hd]
    exact ⟨[0], by decide, by simp only [entCtx, at_cons_zero, at_cons_succ, and_true, true_and]; exact soLe_same fun _ => rfl, by simp only [↓XC, XV, entry, isStr, tdOf, szOf, zeroOf, TD.isStruct, okCell, cellsOf, SO.isMap, SO.sz, SO.el, SO.n, SO.ro, mkCf, quietOp, opClass, okLeaf, spl, cellV, isU8T, isSlS, fillS, fillP, repl, SO.put, SV.mapH, frzV, frzVL, frzOk, frzOkL, lendOk, SV.bit, bitL, SV.plain, plainL, isE, mapHL, strip, stripL, gok, gokL, forall_const, implies_true, reduceIte, Nat.reduceAdd, Nat.reduceLT, Nat.reduceEqDiff, Nat.reduceBEq, Nat.reduceLeDiff, reduceCtorEq, Nat.reduceSub, Nat.reduceMul, Int.reduceToNat, Int.reduceLT, Int.reduceLE]; try simp [muL, SV.mapH, mapHL], by simp [newRw, SO.ro], by simp⟩
theorem l13Kids (l : List Ev) (i : Int) (hp : l.length ≤ 1048576 ∧ 0 ≤ i ∧ i < l.length) : PF Try.prog 59 [.fs 8 (l.map evc), .i .i64 i] (.fs 1 ((kidsV l i.toNat).map intc)) := PF.ofOwn (l13Kids_own l i hp) rfl rfl (by simp only [frzOk, frzOkL, frzV, frzVL, at_cons_zero, and_true]; exact ⟨⟨by omega, fun j hj => ⟨rfl, rfl⟩⟩, by rw [rowE_list rfl]⟩)
noncomputable def pe_l13Kids : PE := peR (fun (x : List Ev × Int) => match x with | (l, i) => [.fs 8 (l.map evc), .i .i64 i]) (fun (x : List Ev × Int) => match x with | (l, i) => l.length ≤ 1048576 ∧ 0 ≤ i ∧ i < l.length) (fun (x : List Ev × Int) => match x with | (l, i) => .fs 1 ((kidsV l i.toNat).map intc))
theorem pe_l13Kids_eq {l : List Ev} {i : Int} : pe_l13Kids [.fs 8 (l.map evc), .i .i64 i] = some (l.length ≤ 1048576 ∧ 0 ≤ i ∧ i < l.length, .fs 1 ((kidsV l i.toNat).map intc)) := peR_eq (by rintro ⟨a0, a1⟩ ⟨b0, b1⟩ h; simp_all [evc_inj]) (l, i)
theorem pe_l13Kids_ok : PE1 Try.prog 59 pe_l13Kids := peR_ok (by rintro ⟨l, i⟩ hp; exact l13Kids l i hp)
theorem KidsOf_s_own (l : List Ev) (i : Int) (hp : l.length ≤ 1048576 ∧ evW l ≤ 1048576) : FnK Try.prog 29 0 [.fs 8 (l.map evc), .i .i64 i] [] (fun z c => z = .slc 0 0 (if nested l = true then (if 0 ≤ i ∧ i < l.length then kidsV l i.toNat else []) else []).length ∧ c = [some (.row false 1 (if nested l = true then (if 0 ≤ i ∧ i < l.length then kidsV l i.toNat else []) else []).length (rowE intc 0 (if nested l = true then (if 0 ≤ i ∧ i < l.length then kidsV l i.toNat else []) else [])))]) := by
  refine FnK.ofX (cf := mkCf Try.prog te [(44, pe_Nested_s), (58, pe_isColl_s)] 29 0 false (fun _ => false) (kp [(0, [0, 1]), (1, [0, 1, 25]), (2, [4]), (3, [4])]) [] []) (mkCf_ok te_ok (l := [(44, pe_Nested_s), (58, pe_isColl_s)]) (⟨pe_Nested_s_ok, pe_isColl_s_ok, trivial⟩) mixed_ok) Try.func29 rfl rfl rfl (by simp [mkCf]) (by simp [mkCf]) (rs := [.tmp 4]) rfl 100000 ?_
  simp only [↓XC, XV, entry, isStr, tdOf, szOf, zeroOf, TD.isStruct, okCell, cellsOf, SO.isMap, SO.sz, SO.el, SO.n, SO.ro, mkCf, quietOp, opClass, okLeaf, spl, cellV, isU8T, isSlS, fillS, fillP, repl, SO.put, SV.mapH, frzV, frzVL, frzOk, frzOkL, lendOk, SV.bit, bitL, SV.plain, plainL, isE, mapHL, strip, stripL, gok, gokL, forall_const, implies_true, reduceIte, Nat.reduceAdd, Nat.reduceLT, Nat.reduceEqDiff, Nat.reduceBEq, Nat.reduceLeDiff, reduceCtorEq, Nat.reduceSub, Nat.reduceMul, Int.reduceToNat, Int.reduceLT, Int.reduceLE, TES, pe_Nested_s_eq, pe_isColl_s_eq, XRE, XR]
  refine Chk.mk hp fun _ => Chk.mk (fun h => by simp at h; omega) fun _ => ⟨fun h => ?_, fun h => ?_⟩
  · have e : (if nested l = true then (if 0 ≤ i ∧ i < l.length then kidsV l i.toNat else []) else []) = [] := by
      simp only [Bool.or_eq_true, Bool.and_eq_true, Bool.or_eq_false_iff, Bool.and_eq_false_iff, decide_eq_true_eq, decide_eq_false_iff_not, Bool.not_eq_true', Bool.not_eq_false', beq_iff_eq, beq_eq_false_iff_ne, ne_eq, ge_iff_le, gt_iff_lt, Int.not_le, Int.not_lt, Int.ofNat_le, Int.ofNat_lt] at h
      split
      · rename_i h9
        split
        · unfold kidsV
          rw [if_neg]
          intro h2
          rcases h with ((h | h) | h) | h
          · rw [h9] at h; cases h
          · omega
          · omega
          · rw [h2] at h; cases h
        · rfl
      · rfl
    rw [e]
    exact ⟨_, Ent.nl (d := []) (env' := [(4, .slc 0 0 0)]) [(1, rowE intc 0 [])] (by simp [nlE, nlV, Vg.look]) (by simp [nlC]), ⟨[0], by decide, by simp only [entCtx, at_cons_zero, at_cons_succ, and_true, true_and]; exact soLe_same fun _ => rfl, by simp only [↓XC, XV, entry, isStr, tdOf, szOf, zeroOf, TD.isStruct, okCell, cellsOf, SO.isMap, SO.sz, SO.el, SO.n, SO.ro, mkCf, quietOp, opClass, okLeaf, spl, cellV, isU8T, isSlS, fillS, fillP, repl, SO.put, SV.mapH, frzV, frzVL, frzOk, frzOkL, lendOk, SV.bit, bitL, SV.plain, plainL, isE, mapHL, strip, stripL, gok, gokL, forall_const, implies_true, reduceIte, Nat.reduceAdd, Nat.reduceLT, Nat.reduceEqDiff, Nat.reduceBEq, Nat.reduceLeDiff, reduceCtorEq, Nat.reduceSub, Nat.reduceMul, Int.reduceToNat, Int.reduceLT, Int.reduceLE]; try simp [muL, SV.mapH, mapHL], by simp [newRw, SO.ro], by simp⟩⟩
  · simp only [Bool.or_eq_true, Bool.and_eq_true, Bool.or_eq_false_iff, Bool.and_eq_false_iff, decide_eq_true_eq, decide_eq_false_iff_not, Bool.not_eq_true', Bool.not_eq_false', beq_iff_eq, beq_eq_false_iff_ne, ne_eq, ge_iff_le, gt_iff_lt, Int.not_le, Int.not_lt, Int.ofNat_le, Int.ofNat_lt] at h
    rw [if_pos (c := nested l = true) h.1.1.1, if_pos ⟨by omega, by omega⟩]
    refine XCalls.own (l13Kids_own l i ⟨hp.1, by omega, by omega⟩) rfl ?_
    simp only [↓XC, XV, entry, isStr, tdOf, szOf, zeroOf, TD.isStruct, okCell, cellsOf, SO.isMap, SO.sz, SO.el, SO.n, SO.ro, mkCf, quietOp, opClass, okLeaf, spl, cellV, isU8T, isSlS, fillS, fillP, repl, SO.put, SV.mapH, frzV, frzVL, frzOk, frzOkL, lendOk, SV.bit, bitL, SV.plain, plainL, isE, mapHL, strip, stripL, gok, gokL, forall_const, implies_true, reduceIte, Nat.reduceAdd, Nat.reduceLT, Nat.reduceEqDiff, Nat.reduceBEq, Nat.reduceLeDiff, reduceCtorEq, Nat.reduceSub, Nat.reduceMul, Int.reduceToNat, Int.reduceLT, Int.reduceLE, TES, XRE, XR]
    exact FinX.of ⟨[0], by decide, by simp only [entCtx, at_cons_zero, at_cons_succ, and_true, true_and]; exact soLe_same fun _ => rfl, by simp only [↓XC, XV, entry, isStr, tdOf, szOf, zeroOf, TD.isStruct, okCell, cellsOf, SO.isMap, SO.sz, SO.el, SO.n, SO.ro, mkCf, quietOp, opClass, okLeaf, spl, cellV, isU8T, isSlS, fillS, fillP, repl, SO.put, SV.mapH, frzV, frzVL, frzOk, frzOkL, lendOk, SV.bit, bitL, SV.plain, plainL, isE, mapHL, strip, stripL, gok, gokL, forall_const, implies_true, reduceIte, Nat.reduceAdd, Nat.reduceLT, Nat.reduceEqDiff, Nat.reduceBEq, Nat.reduceLeDiff, reduceCtorEq, Nat.reduceSub, Nat.reduceMul, Int.reduceToNat, Int.reduceLT, Int.reduceLE]; try simp [muL, SV.mapH, mapHL], by simp [newRw, SO.ro], by simp⟩
theorem KidsOf_s (l : List Ev) (i : Int) (hp : l.length ≤ 1048576 ∧ evW l ≤ 1048576) : PF Try.prog 29 [.fs 8 (l.map evc), .i .i64 i] (.fs 1 ((if nested l = true then (if 0 ≤ i ∧ i < l.length then kidsV l i.toNat else []) else []).map intc)) := PF.ofOwn (KidsOf_s_own l i hp) rfl rfl (by simp only [frzOk, frzOkL, frzV, frzVL, at_cons_zero, and_true]; exact ⟨⟨by omega, fun j hj => ⟨rfl, rfl⟩⟩, by rw [rowE_list rfl]⟩)
noncomputable def pe_KidsOf_s : PE := peR (fun (x : List Ev × Int) => match x with | (l, i) => [.fs 8 (l.map evc), .i .i64 i]) (fun (x : List Ev × Int) => match x with | (l, i) => l.length ≤ 1048576 ∧ evW l ≤ 1048576) (fun (x : List Ev × Int) => match x with | (l, i) => .fs 1 ((if nested l = true then (if 0 ≤ i ∧ i < l.length then kidsV l i.toNat else []) else []).map intc))
theorem pe_KidsOf_s_eq {l : List Ev} {i : Int} : pe_KidsOf_s [.fs 8 (l.map evc), .i .i64 i] = some (l.length ≤ 1048576 ∧ evW l ≤ 1048576, .fs 1 ((if nested l = true then (if 0 ≤ i ∧ i < l.length then kidsV l i.toNat else []) else []).map intc)) := peR_eq (by rintro ⟨a0, a1⟩ ⟨b0, b1⟩ h; simp_all [evc_inj]) (l, i)
theorem pe_KidsOf_s_ok : PE1 Try.prog 29 pe_KidsOf_s := peR_ok (by rintro ⟨l, i⟩ hp; exact KidsOf_s l i hp)
end Go.T43
