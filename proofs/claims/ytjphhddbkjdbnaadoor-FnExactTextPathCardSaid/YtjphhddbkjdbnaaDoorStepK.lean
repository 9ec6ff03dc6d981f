/- Own text: part StepK. -/
import Derived.Test.YtjphhddbkjdbnaaDoorTypes2
import Derived.Test.YtjphhddbkjdbnaaDoorTextA
import Derived.Test.YtjphhddbkjdbnaaDoorMarkA
import Derived.Test.YtjphhddbkjdbnaaDoorSegA
import Derived.Test.YtjphhddbkjdbnaaDoorShelf
import Derived.Test.YtjphhddbkjdbnaaDoorStepC
import Derived.Test.YtjphhddbkjdbnaaDoorStepD
import Derived.Test.YtjphhddbkjdbnaaDoorStepG
import Derived.Test.YtjphhddbkjdbnaaDoorStepJ
import Derived.Test.YtjphhddbkjdbnaaDoorBaseE
import Derived.Test.YtjphhddbkjdbnaaDoorBaseF
set_option linter.unusedVariables false
set_option linter.unusedSimpArgs false
namespace Go.T100
set_option linter.unusedSectionVars false
variable [Go.Vg.Glob] [Go.Vg.GlobInt 0]
open Go.Proofs Go.Vg Go.RowKit Go.TT Go.Pl Go.T8 Go.T44 Go.T52 Go.TSh Go.T92 Go.T93 Go.T96 Go.T99
set_option linter.unusedVariables false
set_option linter.unusedSimpArgs false
set_option maxRecDepth 10000
set_option maxHeartbeats 4000000
theorem TextPath_s_own (s : Bs) (hp : s.length ≤ 1048576) : FnK Tryd.prog 14 0 [.s s] [] (fun z c => z = .tup [.slc 0 0 (tpS s).1.length, .b (tpS s).2] ∧ c = [some (.row false 3 (tpS s).1.length (rowE segc sgz (tpS s).1))]) := by
  refine FnK.ofX (cf := mkCf Tryd.prog te [(32, pe_l17Step), (7, pe_PathText_s)] 48 0 false (fun _ => false) (kp [(0, [0]), (1, [0, 9]), (2, [2, 3]), (3, [0, 4]), (4, [0, 4, 5]), (5, [0, 4, 5, 25]), (6, [0, 4, 6, 7]), (7, [0, 4, 7]), (8, [0, 4, 5]), (9, [4, 46]), (10, [2, 3]), (11, [2, 3])]) [] []) (mkCf_ok te_ok (l := [(32, pe_l17Step), (7, pe_PathText_s)]) (⟨pe_l17Step_ok, pe_PathText_s_ok, trivial⟩) mixed_ok) Tryd.func14 rfl rfl rfl (by simp [mkCf]) (by simp [mkCf]) (rs := [.tmp 2, .tmp 3]) rfl 100000 ?_
  simp only [↓XC, XV, entry, isStr, tdOf, szOf, zeroOf, TD.isStruct, okCell, cellsOf, SO.isMap, SO.sz, SO.el, SO.n, SO.ro, mkCf, quietOp, opClass, okLeaf, spl, cellV, isU8T, isSlS, fillS, fillP, repl, SO.put, SV.mapH, frzV, frzVL, frzOk, frzOkL, lendOk, SV.bit, bitL, SV.plain, plainL, isE, mapHL, strip, stripL, gok, gokL, forall_const, implies_true, reduceIte, Nat.reduceAdd, Nat.reduceLT, Nat.reduceEqDiff, Nat.reduceBEq, Nat.reduceLeDiff, reduceCtorEq, Nat.reduceSub, Nat.reduceMul, Int.reduceToNat, Int.reduceLT, Int.reduceLE, TES, pe_l17Step_eq, pe_PathText_s_eq, XRS, XR]
  have u47 : ∀ k : Nat, (((s.getD k 0).toNat : Int) = 47) = (s.getD k 0 = 47) := fun k => propext ⟨fun h => UInt8.toNat_inj.1 (by show (s.getD k 0).toNat = 47; omega), fun h => by rw [h]; rfl⟩
  refine ⟨fun h => ?_, fun h => ?_⟩
  · have e : tpS s = ([], true) := by unfold tpS; rw [if_pos h]
    rw [e]
    exact ⟨_, Ent.trans (b := ⟨[(2, .nils), (3, .b true)], []⟩) (Ent.nil (by simp [entEnv, Vg.look, SV.mapH])) (Ent.nl (env' := [(2, .slc 0 0 0), (3, .b true)]) (d := []) [(3, rowE segc sgz [])] (by simp [nlE, nlV, Vg.look]) (by simp [nlC])), ⟨[0], by decide, by simp only [entCtx, at_cons_zero, at_cons_succ, and_true, true_and]; exact soLe_same fun _ => rfl, by simp only [↓XC, XV, entry, isStr, tdOf, szOf, zeroOf, TD.isStruct, okCell, cellsOf, SO.isMap, SO.sz, SO.el, SO.n, SO.ro, mkCf, quietOp, opClass, okLeaf, spl, cellV, isU8T, isSlS, fillS, fillP, repl, SO.put, SV.mapH, frzV, frzVL, frzOk, frzOkL, lendOk, SV.bit, bitL, SV.plain, plainL, isE, mapHL, strip, stripL, gok, gokL, forall_const, implies_true, reduceIte, Nat.reduceAdd, Nat.reduceLT, Nat.reduceEqDiff, Nat.reduceBEq, Nat.reduceLeDiff, reduceCtorEq, Nat.reduceSub, Nat.reduceMul, Int.reduceToNat, Int.reduceLT, Int.reduceLE]; try simp [muL, SV.mapH, mapHL], by simp [newRw, SO.ro], by simp⟩⟩
  refine VLoops.of (ι := {x : Nat × List Sg // rdS s x.1 x.2 = rdS s 0 [] ∧ x.2.length ≤ 61 ∧ ∀ i, i < x.2.length → (x.2.getD i sgz).text.length ≤ 1048576}) (fun x => ⟨[(0, .s s), (4, .slc 0 0 x.1.2.length), (5, .i .i64 (x.1.1 : Nat))], [some (.row false 3 x.1.2.length (rowE segc sgz x.1.2))]⟩) (fun x => s.length - x.1.1) ⟨(0, []), rfl, by decide, fun i hi => by simp at hi⟩ (Ent.ren1 [0] (by decide) (by simp only [entCtx, at_cons_zero, at_cons_succ, and_true, true_and]; exact soLe_row fun i hi => by simp at hi) (by simp [entEnv, Vg.look, SV.mapH, muL])) ?_
  rintro ⟨⟨p, l⟩, hr, hl, hT⟩
  simp only [↓XC, XV, entry, isStr, tdOf, szOf, zeroOf, TD.isStruct, okCell, cellsOf, SO.isMap, SO.sz, SO.el, SO.n, SO.ro, mkCf, quietOp, opClass, okLeaf, spl, cellV, isU8T, isSlS, fillS, fillP, repl, SO.put, SV.mapH, frzV, frzVL, frzOk, frzOkL, lendOk, SV.bit, bitL, SV.plain, plainL, isE, mapHL, strip, stripL, gok, gokL, forall_const, implies_true, reduceIte, Nat.reduceAdd, Nat.reduceLT, Nat.reduceEqDiff, Nat.reduceBEq, Nat.reduceLeDiff, reduceCtorEq, Nat.reduceSub, Nat.reduceMul, Int.reduceToNat, Int.reduceLT, Int.reduceLE, TES, pe_l17Step_eq, pe_PathText_s_eq, XRS, XR]
  simp only at hr hl hT
  have hc : (decide ((p : Int) < (s.length : Nat)) && decide (((s.getD p 0).toNat : Int) = 47) && decide (((l.length : Nat) : Int) ≤ 60)) = decide (p < s.length ∧ s.getD p 0 = 47 ∧ l.length ≤ 60) := by
    rw [Bool.eq_iff_iff]
    simp only [Bool.and_eq_true, decide_eq_true_eq, u47]
    constructor
    · rintro ⟨⟨a, b⟩, c⟩; exact ⟨by omega, b, by omega⟩
    · rintro ⟨a, b, c⟩; exact ⟨⟨by omega, b⟩, by omega⟩
  rw [hc]
  refine Chk.mk (fun h => by omega) fun _ => ⟨fun h3 => ?_, fun h3 => ?_⟩
  · have h3' := of_decide_eq_true h3
    refine Chk.mk (by simp only [inR]; omega) fun _ => ?_
    have hst := stS_len s (p + 1)
    rw [show ((p : Int) + 1) = ((p + 1 : Nat) : Int) by omega]
    simp only [↓XC, XV, entry, isStr, tdOf, szOf, zeroOf, TD.isStruct, okCell, cellsOf, SO.isMap, SO.sz, SO.el, SO.n, SO.ro, mkCf, quietOp, opClass, okLeaf, spl, cellV, isU8T, isSlS, fillS, fillP, repl, SO.put, SV.mapH, frzV, frzVL, frzOk, frzOkL, lendOk, SV.bit, bitL, SV.plain, plainL, isE, mapHL, strip, stripL, gok, gokL, forall_const, implies_true, reduceIte, Nat.reduceAdd, Nat.reduceLT, Nat.reduceEqDiff, Nat.reduceBEq, Nat.reduceLeDiff, reduceCtorEq, Nat.reduceSub, Nat.reduceMul, Int.reduceToNat, Int.reduceLT, Int.reduceLE, TES, pe_l17Step_eq, pe_PathText_s_eq, XRS, XR]
    have hge := stS_ge s (p + 1)
    refine Chk.mk ⟨hp, by omega⟩ fun _ => ⟨litEl_ok rfl rfl, Chk.mk (by omega) fun _ => ⟨⟨((stS s (p + 1)).2, l ++ [(stS s (p + 1)).1]), ?_, by simp only [List.length_append, List.length_singleton]; omega, fun i hi => ?_⟩, by simp only; omega, ?_⟩⟩
    · rw [← hr, rdS.eq_def s p l, if_pos h3']
    · simp only [List.length_append, List.length_singleton] at hi
      simp only
      by_cases h9 : i < l.length
      · rw [List.getD_eq_getElem?_getD, List.getElem?_append_left h9, ← List.getD_eq_getElem?_getD]
        exact hT i h9
      · have : i = l.length := by omega
        subst this
        rw [List.getD_eq_getElem?_getD, List.getElem?_append_right (Nat.le_refl _), Nat.sub_self]
        show ((stS s (p + 1)).1).text.length ≤ _
        omega
    · exact (Ent.ren1 [3] (by decide) (by simp only [entCtx, at_cons_zero, at_cons_succ, and_true, true_and]; exact soLe_push (enc := segc) (z := sgz) (xs := l) (y := (stS s (p + 1)).1) (n := l.length) (fun _ => rfl) rfl (fun _ _ => rfl) rfl) (by simp [entEnv, Vg.look, SV.mapH, muL, Int.natCast_add, Int.natCast_one, List.length_append, List.length_singleton]))
  · have h3' := of_decide_eq_false h3
    have hr2 : rdS s p l = l := by rw [rdS.eq_def, if_neg h3']
    rw [hr2] at hr
    rw [rowE_list rfl]
    simp only [↓XC, XV, entry, isStr, tdOf, szOf, zeroOf, TD.isStruct, okCell, cellsOf, SO.isMap, SO.sz, SO.el, SO.n, SO.ro, mkCf, quietOp, opClass, okLeaf, spl, cellV, isU8T, isSlS, fillS, fillP, repl, SO.put, SV.mapH, frzV, frzVL, frzOk, frzOkL, lendOk, SV.bit, bitL, SV.plain, plainL, isE, mapHL, strip, stripL, gok, gokL, forall_const, implies_true, reduceIte, Nat.reduceAdd, Nat.reduceLT, Nat.reduceEqDiff, Nat.reduceBEq, Nat.reduceLeDiff, reduceCtorEq, Nat.reduceSub, Nat.reduceMul, Int.reduceToNat, Int.reduceLT, Int.reduceLE, TES, pe_l17Step_eq, pe_PathText_s_eq, XRS, XR]
    have hl0 : l.length = 0 ↔ l = [] := List.length_eq_zero_iff
    have hcc : (decide (((l.length : Nat) : Int) = 0) || !decide (ptx l = s)) = decide (l = [] ∨ ptx l ≠ s) := by
      rw [Bool.eq_iff_iff]
      simp only [Bool.or_eq_true, decide_eq_true_eq, Bool.not_eq_true', decide_eq_false_iff_not, ← hl0]
      constructor
      · rintro (h | h)
        · exact .inl (by omega)
        · exact .inr h
      · rintro (h | h)
        · exact .inl (by omega)
        · exact .inr h
    rw [hcc]
    refine Chk.mk (fun h9 => ⟨h9, Nat.le_refl _, by omega, hT⟩) fun _ => ⟨fun h9 => ?_, fun h9 => ?_⟩
    · have e : tpS s = ([], false) := by unfold tpS; rw [if_neg h, ← hr, if_pos (of_decide_eq_true h9)]
      rw [e]
      exact ⟨_, Ent.trans (b := ⟨[(2, .nils), (3, .b false)], []⟩) (Ent.nil (by simp [entEnv, Vg.look, SV.mapH])) (Ent.nl (env' := [(2, .slc 0 0 0), (3, .b false)]) (d := []) [(3, rowE segc sgz [])] (by simp [nlE, nlV, Vg.look]) (by simp [nlC])), ⟨[0], by decide, by simp only [entCtx, at_cons_zero, at_cons_succ, and_true, true_and]; exact soLe_same fun _ => rfl, by simp only [↓XC, XV, entry, isStr, tdOf, szOf, zeroOf, TD.isStruct, okCell, cellsOf, SO.isMap, SO.sz, SO.el, SO.n, SO.ro, mkCf, quietOp, opClass, okLeaf, spl, cellV, isU8T, isSlS, fillS, fillP, repl, SO.put, SV.mapH, frzV, frzVL, frzOk, frzOkL, lendOk, SV.bit, bitL, SV.plain, plainL, isE, mapHL, strip, stripL, gok, gokL, forall_const, implies_true, reduceIte, Nat.reduceAdd, Nat.reduceLT, Nat.reduceEqDiff, Nat.reduceBEq, Nat.reduceLeDiff, reduceCtorEq, Nat.reduceSub, Nat.reduceMul, Int.reduceToNat, Int.reduceLT, Int.reduceLE]; try simp [muL, SV.mapH, mapHL], by simp [newRw, SO.ro], by simp⟩⟩
    · have e : tpS s = (l, true) := by unfold tpS; rw [if_neg h, ← hr, if_neg (of_decide_eq_false h9)]
      rw [e]
      exact ⟨_, Ent.refl _ _, ⟨[0], by decide, by simp only [entCtx, at_cons_zero, at_cons_succ, and_true, true_and]; exact soLe_same fun _ => rfl, by simp only [↓XC, XV, entry, isStr, tdOf, szOf, zeroOf, TD.isStruct, okCell, cellsOf, SO.isMap, SO.sz, SO.el, SO.n, SO.ro, mkCf, quietOp, opClass, okLeaf, spl, cellV, isU8T, isSlS, fillS, fillP, repl, SO.put, SV.mapH, frzV, frzVL, frzOk, frzOkL, lendOk, SV.bit, bitL, SV.plain, plainL, isE, mapHL, strip, stripL, gok, gokL, forall_const, implies_true, reduceIte, Nat.reduceAdd, Nat.reduceLT, Nat.reduceEqDiff, Nat.reduceBEq, Nat.reduceLeDiff, reduceCtorEq, Nat.reduceSub, Nat.reduceMul, Int.reduceToNat, Int.reduceLT, Int.reduceLE]; try simp [muL, SV.mapH, mapHL], by simp [newRw, SO.ro], by simp⟩⟩
end Go.T100
