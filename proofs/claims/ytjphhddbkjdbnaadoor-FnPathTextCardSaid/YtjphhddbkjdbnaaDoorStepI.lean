/- Own text: part StepI. -/
import Derived.Test.YtjphhddbkjdbnaaDoorTypes2
import Derived.Test.YtjphhddbkjdbnaaDoorTextA
import Derived.Test.YtjphhddbkjdbnaaDoorMarkA
import Derived.Test.YtjphhddbkjdbnaaDoorSegA
import Derived.Test.YtjphhddbkjdbnaaDoorShelf
import Derived.Test.YtjphhddbkjdbnaaDoorStepA
import Derived.Test.YtjphhddbkjdbnaaDoorStepB
import Derived.Test.YtjphhddbkjdbnaaDoorStepC
import Derived.Test.YtjphhddbkjdbnaaDoorStepD
import Derived.Test.YtjphhddbkjdbnaaDoorStepG
import Derived.Test.YtjphhddbkjdbnaaDoorStepH
import Derived.Test.YtjphhddbkjdbnaaDoorBaseE
import Derived.Test.YtjphhddbkjdbnaaDoorBaseF
set_option linter.unusedVariables false
set_option linter.unusedSimpArgs false
namespace Go.T98
set_option linter.unusedSectionVars false
variable [Go.Vg.Glob] [Go.Vg.GlobInt 0]
open Go.Proofs Go.Vg Go.RowKit Go.TT Go.Pl Go.T8 Go.T44 Go.T52 Go.TSh Go.T90 Go.T91 Go.T92 Go.T93 Go.T96 Go.T97
set_option linter.unusedVariables false
set_option linter.unusedSimpArgs false
set_option maxRecDepth 10000
set_option maxHeartbeats 4000000
theorem TextPath_i_own (s : Bs) (hp : s.length ≤ 1048576) : FnK Tryd.prog 12 0 [.s s] [] (fun z c => z = .tup [.slc 0 0 (tpI s).1.length, .b (tpI s).2] ∧ c = [some (.row false 3 (tpI s).1.length (rowE segc sgz (tpI s).1))]) := by
  refine FnK.ofX (cf := mkCf Tryd.prog te [(29, pe_quotedEnd), (30, pe_textSeg), (9, pe_PathText_i)] 85 0 false (fun _ => false) (kp [(0, [0]), (1, [0, 13]), (2, [2, 3]), (3, [0, 4]), (4, [0, 4, 5]), (5, [0, 4, 5, 28]), (6, [0, 4, 5, 6]), (7, [0, 4, 5, 6, 39]), (8, [0, 4, 5, 6]), (9, [0, 4, 5, 6, 52]), (10, [0, 4, 5, 6]), (11, [0, 4, 6]), (12, [0, 4, 6, 77]), (13, [2, 3]), (14, [0, 4, 5]), (15, [4, 83]), (16, [2, 3]), (17, [2, 3])]) [11] []) (mkCf_ok te_ok (l := [(29, pe_quotedEnd), (30, pe_textSeg), (9, pe_PathText_i)]) (⟨pe_quotedEnd_ok, pe_textSeg_ok, pe_PathText_i_ok, trivial⟩) mixed_ok) Tryd.func12 rfl rfl rfl (by simp [mkCf]) (by simp [mkCf]) (rs := [.tmp 2, .tmp 3]) rfl 100000 ?_
  simp only [↓XC, XV, entry, isStr, tdOf, szOf, zeroOf, TD.isStruct, okCell, cellsOf, SO.isMap, SO.sz, SO.el, SO.n, SO.ro, mkCf, quietOp, opClass, okLeaf, spl, cellV, isU8T, isSlS, fillS, fillP, repl, SO.put, SV.mapH, frzV, frzVL, frzOk, frzOkL, lendOk, SV.bit, bitL, SV.plain, plainL, isE, mapHL, strip, stripL, gok, gokL, forall_const, implies_true, reduceIte, Nat.reduceAdd, Nat.reduceLT, Nat.reduceEqDiff, Nat.reduceBEq, Nat.reduceLeDiff, reduceCtorEq, Nat.reduceSub, Nat.reduceMul, Int.reduceToNat, Int.reduceLT, Int.reduceLE, TES, pe_quotedEnd_eq, pe_textSeg_eq, pe_PathText_i_eq, XRS, XR, XCut]
  have hl0 : s ≠ [] → 0 < s.length := fun h => List.length_pos_iff.2 h
  have u47 : ∀ k : Nat, (((s.getD k 0).toNat : Int) = 47) = (s.getD k 0 = 47) := fun k => propext ⟨fun h => UInt8.toNat_inj.1 (by show (s.getD k 0).toNat = 47; omega), fun h => by rw [h]; rfl⟩
  have u39 : ∀ k : Nat, (((s.getD k 0).toNat : Int) = 39) = (s.getD k 0 = 39) := fun k => propext ⟨fun h => UInt8.toNat_inj.1 (by show (s.getD k 0).toNat = 39; omega), fun h => by rw [h]; rfl⟩
  simp only [u47]
  refine Chk.mk (fun h => by have := hl0 (by simpa using h); omega) fun _ => ⟨fun h => ?_, fun h => ?_⟩
  · have e : tpI s = ([], false) := by
      unfold tpI
      rw [if_pos]
      simpa using h
    rw [e]
    exact ⟨_, Ent.trans (b := ⟨[(2, .nils), (3, .b false)], []⟩) (Ent.nil (by simp [entEnv, Vg.look, SV.mapH])) (Ent.nl (env' := [(2, .slc 0 0 0), (3, .b false)]) (d := []) [(3, rowE segc sgz [])] (by simp [nlE, nlV, Vg.look]) (by simp [nlC])), ⟨[0], by decide, by simp only [entCtx, at_cons_zero, at_cons_succ, and_true, true_and]; exact soLe_same fun _ => rfl, by simp only [↓XC, XV, entry, isStr, tdOf, szOf, zeroOf, TD.isStruct, okCell, cellsOf, SO.isMap, SO.sz, SO.el, SO.n, SO.ro, mkCf, quietOp, opClass, okLeaf, spl, cellV, isU8T, isSlS, fillS, fillP, repl, SO.put, SV.mapH, frzV, frzVL, frzOk, frzOkL, lendOk, SV.bit, bitL, SV.plain, plainL, isE, mapHL, strip, stripL, gok, gokL, forall_const, implies_true, reduceIte, Nat.reduceAdd, Nat.reduceLT, Nat.reduceEqDiff, Nat.reduceBEq, Nat.reduceLeDiff, reduceCtorEq, Nat.reduceSub, Nat.reduceMul, Int.reduceToNat, Int.reduceLT, Int.reduceLE]; try simp [muL, SV.mapH, mapHL], by simp [newRw, SO.ro], by simp⟩⟩
  have h0 : s ≠ [] ∧ s.getD 0 0 = 47 := by simpa using h
  have hn : ¬ (s = [] ∨ s.getD 0 0 ≠ 47) := by
    rintro (h1 | h1)
    · exact h0.1 h1
    · exact h1 h0.2
  have eN : rdI s 1 [] = none → tpI s = ([], false) := fun h9 => by unfold tpI; rw [if_neg hn, h9]
  have eS : ∀ l, rdI s 1 [] = some l → tpI s = if ptx l = s then (l, true) else ([], false) := fun l h9 => by unfold tpI; rw [if_neg hn, h9]
  refine VLoops.of (ι := {x : Nat × List Sg // rdI s x.1 x.2 = rdI s 1 [] ∧ 1 ≤ x.1 ∧ x.1 ≤ s.length + 1 ∧ x.2.length ≤ 60 ∧ ∀ i, i < x.2.length → (x.2.getD i sgz).text.length ≤ 1048576}) (fun x => ⟨[(0, .s s), (4, .slc 0 0 x.1.2.length), (5, .i .i64 (x.1.1 : Nat))], [some (.row false 3 x.1.2.length (rowE segc sgz x.1.2))]⟩) (fun x => s.length + 1 - x.1.1) ⟨(1, []), rfl, Nat.le_refl _, by have := hl0 h0.1; omega, by decide, fun i hi => by simp at hi⟩ (Ent.ren1 [0] (by decide) (by simp only [entCtx, at_cons_zero, at_cons_succ, and_true, true_and]; exact soLe_row fun i hi => by simp at hi) (by simp [entEnv, Vg.look, SV.mapH, muL])) ?_
  rintro ⟨⟨p, l⟩, hr, hp1, hpl, hl60, hT⟩
  simp only [↓XC, XV, entry, isStr, tdOf, szOf, zeroOf, TD.isStruct, okCell, cellsOf, SO.isMap, SO.sz, SO.el, SO.n, SO.ro, mkCf, quietOp, opClass, okLeaf, spl, cellV, isU8T, isSlS, fillS, fillP, repl, SO.put, SV.mapH, frzV, frzVL, frzOk, frzOkL, lendOk, SV.bit, bitL, SV.plain, plainL, isE, mapHL, strip, stripL, gok, gokL, forall_const, implies_true, reduceIte, Nat.reduceAdd, Nat.reduceLT, Nat.reduceEqDiff, Nat.reduceBEq, Nat.reduceLeDiff, reduceCtorEq, Nat.reduceSub, Nat.reduceMul, Int.reduceToNat, Int.reduceLT, Int.reduceLE, TES, XRS, XR, XCut]
  have hc : (decide ((p : Int) < (s.length : Nat)) || decide ((p : Int) > 1) && decide ((p : Int) = (s.length : Nat))) = decide (p < s.length ∨ (1 < p ∧ p = s.length)) := by
    rw [Bool.eq_iff_iff]
    simp only [Bool.or_eq_true, Bool.and_eq_true, decide_eq_true_eq]
    omega
  simp only at hr hp1 hpl hl60 hT
  rw [hc]
  refine ⟨fun hp2 => ?_, fun hp2 => ?_⟩
  · have hp2' := of_decide_eq_true hp2
    have hse := stE_ge s p (by omega)
    refine VCuts.of (ι := Unit) (fun _ => ⟨[(0, .s s), (4, .slc 0 0 l.length), (5, .i .i64 (p : Nat)), (6, .i .i64 (stE s p : Nat))], [some (.row false 3 l.length (rowE segc sgz l))]⟩) ?_ ?_
    · simp only [↓XC, XV, entry, isStr, tdOf, szOf, zeroOf, TD.isStruct, okCell, cellsOf, SO.isMap, SO.sz, SO.el, SO.n, SO.ro, mkCf, quietOp, opClass, okLeaf, spl, cellV, isU8T, isSlS, fillS, fillP, repl, SO.put, SV.mapH, frzV, frzVL, frzOk, frzOkL, lendOk, SV.bit, bitL, SV.plain, plainL, isE, mapHL, strip, stripL, gok, gokL, forall_const, implies_true, reduceIte, Nat.reduceAdd, Nat.reduceLT, Nat.reduceEqDiff, Nat.reduceBEq, Nat.reduceLeDiff, reduceCtorEq, Nat.reduceSub, Nat.reduceMul, Int.reduceToNat, Int.reduceLT, Int.reduceLE, TES, pe_quotedEnd_eq, pe_textSeg_eq, pe_PathText_i_eq, XRS, XR, XCut]
      have hc39 : (decide ((p : Int) < (s.length : Nat)) && decide (((s.getD p 0).toNat : Int) = 39)) = decide (p < s.length ∧ s.getD p 0 = 39) := by
        rw [Bool.eq_iff_iff]
        simp only [Bool.and_eq_true, decide_eq_true_eq, u39]
        exact ⟨fun h => ⟨by omega, h.2⟩, fun h => ⟨by omega, h.2⟩⟩
      rw [hc39]
      refine Chk.mk (fun h => by omega) fun _ => ⟨fun h3 => Chk.mk ⟨hp, by omega⟩ fun _ => ⟨(), ?_⟩, fun h3 => ?_⟩
      · have h3' := of_decide_eq_true h3
        rw [show stE s p = qeI s (p + 1) by unfold stE; rw [if_pos h3']]
        exact Ent.refl _ _
      · have h3' := of_decide_eq_false h3
        have hsl : stE s p = slE s p := by unfold stE; rw [if_neg h3']
        rw [hsl]
        refine VLoops.of (ι := {e : Nat // slE s e = slE s p ∧ p ≤ e ∧ e ≤ s.length + 1}) (fun x => ⟨[(0, .s s), (4, .slc 0 0 l.length), (5, .i .i64 (p : Nat)), (6, .i .i64 (x.1 : Nat))], [some (.row false 3 l.length (rowE segc sgz l))]⟩) (fun x => s.length + 1 - x.1) ⟨p, rfl, Nat.le_refl _, by omega⟩ (Ent.ren1 [0] (by decide) (by simp only [entCtx, at_cons_zero, at_cons_succ, and_true, true_and]; exact soLe_same fun _ => rfl) (by simp [entEnv, Vg.look, SV.mapH, muL])) ?_
        rintro ⟨e, he, hpe, hel⟩
        simp only [↓XC, XV, entry, isStr, tdOf, szOf, zeroOf, TD.isStruct, okCell, cellsOf, SO.isMap, SO.sz, SO.el, SO.n, SO.ro, mkCf, quietOp, opClass, okLeaf, spl, cellV, isU8T, isSlS, fillS, fillP, repl, SO.put, SV.mapH, frzV, frzVL, frzOk, frzOkL, lendOk, SV.bit, bitL, SV.plain, plainL, isE, mapHL, strip, stripL, gok, gokL, forall_const, implies_true, reduceIte, Nat.reduceAdd, Nat.reduceLT, Nat.reduceEqDiff, Nat.reduceBEq, Nat.reduceLeDiff, reduceCtorEq, Nat.reduceSub, Nat.reduceMul, Int.reduceToNat, Int.reduceLT, Int.reduceLE, TES, XRS, XR, XCut]
        have hx : (decide ((e : Int) < (s.length : Nat)) && !decide (((s.getD e 0).toNat : Int) = 47)) = decide (e < s.length ∧ s.getD e 0 ≠ 47) := by
          rw [Bool.eq_iff_iff]
          simp only [Bool.and_eq_true, decide_eq_true_eq, u47, Bool.not_eq_true', decide_eq_false_iff_not]
          exact ⟨fun h => ⟨by omega, h.2⟩, fun h => ⟨by omega, h.2⟩⟩
        rw [hx]
        refine Chk.mk (fun h => by omega) fun _ => ⟨fun h5 => ?_, fun h5 => ?_⟩
        · have h5' := of_decide_eq_true h5
          refine Chk.mk (by simp only [inR]; omega) fun _ => ⟨⟨e + 1, ?_, by omega, by omega⟩, by simp only; omega, (by first | exact Ent.refl _ _ | (simp only [Int.natCast_add, Int.natCast_one]; exact Ent.refl _ _))⟩
          rw [← he, slE.eq_def s e, if_pos h5']
        · have h5' := of_decide_eq_false h5
          have hee : slE s e = e := by rw [slE.eq_def s e, if_neg h5']
          rw [hee] at he
          exact ⟨(), by rw [← he]; exact (Ent.ren1 [0] (by decide) (by simp only [entCtx, at_cons_zero, at_cons_succ, and_true, true_and]; exact soLe_same fun _ => rfl) (by simp [entEnv, Vg.look, SV.mapH, muL]))⟩
    · rintro ⟨⟩
      simp only [↓XC, XV, entry, isStr, tdOf, szOf, zeroOf, TD.isStruct, okCell, cellsOf, SO.isMap, SO.sz, SO.el, SO.n, SO.ro, mkCf, quietOp, opClass, okLeaf, spl, cellV, isU8T, isSlS, fillS, fillP, repl, SO.put, SV.mapH, frzV, frzVL, frzOk, frzOkL, lendOk, SV.bit, bitL, SV.plain, plainL, isE, mapHL, strip, stripL, gok, gokL, forall_const, implies_true, reduceIte, Nat.reduceAdd, Nat.reduceLT, Nat.reduceEqDiff, Nat.reduceBEq, Nat.reduceLeDiff, reduceCtorEq, Nat.reduceSub, Nat.reduceMul, Int.reduceToNat, Int.reduceLT, Int.reduceLE, TES, pe_quotedEnd_eq, pe_textSeg_eq, pe_PathText_i_eq, XRS, XR, XCut]
      obtain ⟨x, hx⟩ : ∃ x, x = tsI (sub s p (stE s p)) := ⟨_, rfl⟩
      have hxl : (sub s p (stE s p)).length ≤ s.length := by simp only [sub, List.length_drop, List.length_take]; omega
      have hxt := tsI_len (sub s p (stE s p))
      rw [← hx] at hxt
      rw [show List.drop p (List.take (stE s p) s) = sub s p (stE s p) from rfl, ← hx]
      have hc2 : (decide (((l.length : Nat) : Int) + 1 > 60) || decide (((stE s p : Nat) : Int) < (s.length : Nat)) && !decide (((s.getD (stE s p) 0).toNat : Int) = 47)) = decide (60 < l.length + 1 ∨ (stE s p < s.length ∧ s.getD (stE s p) 0 ≠ 47)) := by
        rw [Bool.eq_iff_iff]
        simp only [Bool.or_eq_true, Bool.and_eq_true, decide_eq_true_eq, u47, Bool.not_eq_true', decide_eq_false_iff_not]
        constructor
        · rintro (h | h)
          · exact .inl (by omega)
          · exact .inr ⟨by omega, h.2⟩
        · rintro (h | h)
          · exact .inl (by omega)
          · exact .inr ⟨by omega, h.2⟩
      simp only [Int.natCast_add, Int.natCast_one] at hc2 ⊢
      rw [hc2]
      refine Chk.mk ⟨by omega, by omega, by omega⟩ fun _ => Chk.mk (by omega) fun _ => ⟨litEl_ok rfl rfl, Chk.mk (by omega) fun _ => Chk.mk (fun h => by simp at h; omega) fun _ => ⟨fun h4 => ?_, fun h4 => Chk.mk (by simp only [inR]; omega) fun _ => ?_⟩⟩
      · have h4' := of_decide_eq_true h4
        have hr2 : rdI s p l = none := by rw [rdI.eq_def, dif_pos hp2', if_pos h4']
        have e := eN (by rw [← hr]; exact hr2)
        rw [e]
        exact ⟨_, Ent.trans (b := ⟨[(2, .nils), (3, .b false)], []⟩) (Ent.nil (by simp [entEnv, Vg.look, SV.mapH])) (Ent.nl (env' := [(2, .slc 0 0 0), (3, .b false)]) (d := []) [(3, rowE segc sgz [])] (by simp [nlE, nlV, Vg.look]) (by simp [nlC])), ⟨[0], by decide, by simp only [entCtx, at_cons_zero, at_cons_succ, and_true, true_and]; exact soLe_same fun _ => rfl, by simp only [↓XC, XV, entry, isStr, tdOf, szOf, zeroOf, TD.isStruct, okCell, cellsOf, SO.isMap, SO.sz, SO.el, SO.n, SO.ro, mkCf, quietOp, opClass, okLeaf, spl, cellV, isU8T, isSlS, fillS, fillP, repl, SO.put, SV.mapH, frzV, frzVL, frzOk, frzOkL, lendOk, SV.bit, bitL, SV.plain, plainL, isE, mapHL, strip, stripL, gok, gokL, forall_const, implies_true, reduceIte, Nat.reduceAdd, Nat.reduceLT, Nat.reduceEqDiff, Nat.reduceBEq, Nat.reduceLeDiff, reduceCtorEq, Nat.reduceSub, Nat.reduceMul, Int.reduceToNat, Int.reduceLT, Int.reduceLE]; try simp [muL, SV.mapH, mapHL], by simp [newRw, SO.ro], by simp⟩⟩
      · have h4' := of_decide_eq_false h4
        refine ⟨⟨(stE s p + 1, l ++ [x]), ?_, by simp only; omega, by simp only; omega, by simp only [List.length_append, List.length_singleton]; omega, fun i hi => ?_⟩, by simp only; omega, ?_⟩
        · rw [← hr, rdI.eq_def s p l, dif_pos hp2', if_neg h4', hx]
        · simp only [List.length_append, List.length_singleton] at hi
          simp only
          by_cases h9 : i < l.length
          · rw [List.getD_eq_getElem?_getD, List.getElem?_append_left h9, ← List.getD_eq_getElem?_getD]
            exact hT i h9
          · have : i = l.length := by omega
            subst this
            rw [List.getD_eq_getElem?_getD, List.getElem?_append_right (Nat.le_refl _), Nat.sub_self]
            show x.text.length ≤ _
            omega
        · exact (Ent.ren1 [2] (by decide) (by simp only [entCtx, at_cons_zero, at_cons_succ, and_true, true_and]; exact soLe_push (enc := segc) (z := sgz) (xs := l) (y := x) (n := l.length) (fun _ => rfl) rfl (fun _ _ => rfl) rfl) (by simp [entEnv, Vg.look, SV.mapH, muL, Int.natCast_add, Int.natCast_one, List.length_append, List.length_singleton]))
  · have hp2' := of_decide_eq_false hp2
    have hr2 : rdI s p l = some l := by rw [rdI.eq_def, dif_neg hp2']
    have eS' := eS l (by rw [← hr]; exact hr2)
    rw [rowE_list rfl]
    simp only [↓XC, XV, entry, isStr, tdOf, szOf, zeroOf, TD.isStruct, okCell, cellsOf, SO.isMap, SO.sz, SO.el, SO.n, SO.ro, mkCf, quietOp, opClass, okLeaf, spl, cellV, isU8T, isSlS, fillS, fillP, repl, SO.put, SV.mapH, frzV, frzVL, frzOk, frzOkL, lendOk, SV.bit, bitL, SV.plain, plainL, isE, mapHL, strip, stripL, gok, gokL, forall_const, implies_true, reduceIte, Nat.reduceAdd, Nat.reduceLT, Nat.reduceEqDiff, Nat.reduceBEq, Nat.reduceLeDiff, reduceCtorEq, Nat.reduceSub, Nat.reduceMul, Int.reduceToNat, Int.reduceLT, Int.reduceLE, TES, pe_quotedEnd_eq, pe_textSeg_eq, pe_PathText_i_eq, XRS, XR, XCut]
    refine Chk.mk ⟨Nat.le_refl _, by omega, hT⟩ fun _ => ⟨fun h9 => ?_, fun h9 => ?_⟩
    · rw [if_neg (by simpa using h9)] at eS'
      rw [eS']
      exact ⟨_, Ent.trans (b := ⟨[(2, .nils), (3, .b false)], []⟩) (Ent.nil (by simp [entEnv, Vg.look, SV.mapH])) (Ent.nl (env' := [(2, .slc 0 0 0), (3, .b false)]) (d := []) [(3, rowE segc sgz [])] (by simp [nlE, nlV, Vg.look]) (by simp [nlC])), ⟨[0], by decide, by simp only [entCtx, at_cons_zero, at_cons_succ, and_true, true_and]; exact soLe_same fun _ => rfl, by simp only [↓XC, XV, entry, isStr, tdOf, szOf, zeroOf, TD.isStruct, okCell, cellsOf, SO.isMap, SO.sz, SO.el, SO.n, SO.ro, mkCf, quietOp, opClass, okLeaf, spl, cellV, isU8T, isSlS, fillS, fillP, repl, SO.put, SV.mapH, frzV, frzVL, frzOk, frzOkL, lendOk, SV.bit, bitL, SV.plain, plainL, isE, mapHL, strip, stripL, gok, gokL, forall_const, implies_true, reduceIte, Nat.reduceAdd, Nat.reduceLT, Nat.reduceEqDiff, Nat.reduceBEq, Nat.reduceLeDiff, reduceCtorEq, Nat.reduceSub, Nat.reduceMul, Int.reduceToNat, Int.reduceLT, Int.reduceLE]; try simp [muL, SV.mapH, mapHL], by simp [newRw, SO.ro], by simp⟩⟩
    · rw [if_pos (by simpa using h9)] at eS'
      rw [eS']
      exact ⟨_, Ent.refl _ _, ⟨[0], by decide, by simp only [entCtx, at_cons_zero, at_cons_succ, and_true, true_and]; exact soLe_same fun _ => rfl, by simp only [↓XC, XV, entry, isStr, tdOf, szOf, zeroOf, TD.isStruct, okCell, cellsOf, SO.isMap, SO.sz, SO.el, SO.n, SO.ro, mkCf, quietOp, opClass, okLeaf, spl, cellV, isU8T, isSlS, fillS, fillP, repl, SO.put, SV.mapH, frzV, frzVL, frzOk, frzOkL, lendOk, SV.bit, bitL, SV.plain, plainL, isE, mapHL, strip, stripL, gok, gokL, forall_const, implies_true, reduceIte, Nat.reduceAdd, Nat.reduceLT, Nat.reduceEqDiff, Nat.reduceBEq, Nat.reduceLeDiff, reduceCtorEq, Nat.reduceSub, Nat.reduceMul, Int.reduceToNat, Int.reduceLT, Int.reduceLE]; try simp [muL, SV.mapH, mapHL], by simp [newRw, SO.ro], by simp⟩⟩
theorem TextPath_i (s : Bs) (hp : s.length ≤ 1048576) : PF Tryd.prog 12 [.s s] (.tup [.fs 3 ((tpI s).1.map segc), .b (tpI s).2]) := PF.ofOwn (TextPath_i_own s hp) rfl rfl (by simp only [frzOk, frzOkL, frzV, frzVL, at_cons_zero, and_true]; exact ⟨⟨by omega, fun j hj => ⟨rfl, rfl⟩⟩, by rw [rowE_list rfl]⟩)
noncomputable def pe_TextPath_i : PE := peR (fun (s : Bs) => [.s s]) (fun (s : Bs) => s.length ≤ 1048576) (fun (s : Bs) => .tup [.fs 3 ((tpI s).1.map segc), .b (tpI s).2])
theorem pe_TextPath_i_eq {s : Bs} : pe_TextPath_i [.s s] = some (s.length ≤ 1048576, .tup [.fs 3 ((tpI s).1.map segc), .b (tpI s).2]) := peR_eq (by rintro a b h; simp_all []) s
theorem pe_TextPath_i_ok : PE1 Tryd.prog 12 pe_TextPath_i := peR_ok (by rintro s hp; exact TextPath_i s hp)
end Go.T98
