/- Own text: part StepB. -/
import Derived.Test.YtjphhddbkjdbnaaDoorTypes2
import Derived.Test.YtjphhddbkjdbnaaDoorTextA
import Derived.Test.YtjphhddbkjdbnaaDoorMarkA
import Derived.Test.YtjphhddbkjdbnaaDoorSegA
import Derived.Test.YtjphhddbkjdbnaaDoorShelf
import Derived.Test.YtjphhddbkjdbnaaDoorStepA
import Derived.Test.YtjphhddbkjdbnaaDoorBaseE
import Derived.Test.YtjphhddbkjdbnaaDoorBaseF
set_option linter.unusedVariables false
set_option linter.unusedSimpArgs false
namespace Go.T91
set_option linter.unusedSectionVars false
variable [Go.Vg.Glob] [Go.Vg.GlobInt 0]
open Go.Proofs Go.Vg Go.RowKit Go.TT Go.Pl Go.T8 Go.T44 Go.T52 Go.TSh Go.T90
set_option linter.unusedVariables false
set_option linter.unusedSimpArgs false
set_option maxRecDepth 10000
set_option maxHeartbeats 4000000
theorem PathText_i (l : List Sg) (hp : l.length ≤ 1048576 ∧ (∀ i, i < l.length → (l.getD i sgz).text.length ≤ 1048576)) : PF Tryd.prog 9 [.fs 3 (l.map segc)] (.s (ptx l)) := by
  refine ⟨rfl, rfl, FnK.of (cf := mkCf Tryd.prog te [(23, pe_segsOk), (24, pe_segText), (25, pe_joinS)] 30 0 false (fun _ => false) (kp [(0, [0]), (1, [0, 13]), (2, [2]), (3, [0, 3]), (4, [3, 15, 16, 17]), (5, [3, 15, 16, 17, 18]), (6, [3, 5, 15, 16, 17]), (7, [3, 15, 16, 17]), (8, [3, 15, 16, 17]), (9, [2])]) [] []) (mkCf_ok te_ok (l := [(23, pe_segsOk), (24, pe_segText), (25, pe_joinS)]) (⟨pe_segsOk_ok, pe_segText_ok, pe_joinS_ok, trivial⟩) mixed_ok) Tryd.func9 rfl rfl rfl (by simp [mkCf]) (by simp [mkCf]) (rs := [.tmp 2]) rfl 100000 ?_⟩
  simp only [↓XC, XV, entry, isStr, tdOf, szOf, zeroOf, TD.isStruct, okCell, cellsOf, SO.isMap, SO.sz, SO.el, SO.n, SO.ro, mkCf, quietOp, opClass, okLeaf, spl, cellV, isU8T, isSlS, fillS, fillP, repl, SO.put, SV.mapH, frzV, frzVL, frzOk, frzOkL, lendOk, SV.bit, bitL, SV.plain, plainL, isE, mapHL, strip, stripL, gok, gokL, forall_const, implies_true, reduceIte, Nat.reduceAdd, Nat.reduceLT, Nat.reduceEqDiff, Nat.reduceBEq, Nat.reduceLeDiff, reduceCtorEq, Nat.reduceSub, Nat.reduceMul, Int.reduceToNat, Int.reduceLT, Int.reduceLE, TES, pe_segsOk_eq, pe_segText_eq, pe_joinS_eq, XRS, XR]
  obtain ⟨hl, ht⟩ := hp
  refine Chk.mk (fun h => ⟨h, hl⟩) fun _ => ⟨fun h => ?_, fun h => ?_⟩
  · have : ptx l = [] := by
      unfold ptx
      rw [if_pos]
      simp only [Bool.or_eq_true, decide_eq_true_eq, Bool.not_eq_true'] at h
      rcases h with h | h
      · exact .inl (by omega)
      · exact .inr h
    rw [this]
  have hnot : ¬ (60 < l.length ∨ sgsOk l = false) := by
    simp only [Bool.or_eq_false_iff, decide_eq_false_iff_not, Bool.not_eq_false'] at h
    rintro (h1 | h1)
    · omega
    · rw [h.2] at h1; cases h1
  refine VLoops.of (ι := {i : Nat // i ≤ l.length}) (fun x => ⟨[(3, .slc 0 0 x.1), (15, .fs 3 (l.map segc)), (16, .i .i64 (l.length : Nat)), (17, .i .i64 (x.1 : Nat))], [some (.row false 1 x.1 (rowE strc [] ((l.take x.1).map segT)))]⟩) (fun x => l.length - x.1) ⟨0, Nat.zero_le _⟩ (Ent.ren1 [0] (by decide) (by simp only [entCtx, at_cons_zero, at_cons_succ, and_true, true_and]; exact soLe_row fun i hi => by simp at hi) (by simp [entEnv, Vg.look, SV.mapH, muL])) ?_
  rintro ⟨i, hi⟩
  simp only [↓XC, XV, entry, isStr, tdOf, szOf, zeroOf, TD.isStruct, okCell, cellsOf, SO.isMap, SO.sz, SO.el, SO.n, SO.ro, mkCf, quietOp, opClass, okLeaf, spl, cellV, isU8T, isSlS, fillS, fillP, repl, SO.put, SV.mapH, frzV, frzVL, frzOk, frzOkL, lendOk, SV.bit, bitL, SV.plain, plainL, isE, mapHL, strip, stripL, gok, gokL, forall_const, implies_true, reduceIte, Nat.reduceAdd, Nat.reduceLT, Nat.reduceEqDiff, Nat.reduceBEq, Nat.reduceLeDiff, reduceCtorEq, Nat.reduceSub, Nat.reduceMul, Int.reduceToNat, Int.reduceLT, Int.reduceLE, TES, pe_segText_eq, pe_joinS_eq, XRS, XR]
  refine ⟨fun hil => Chk.mk (by omega) fun _ => Chk.mk (ht i (by omega)) fun _ => ⟨litEl_ok rfl rfl, Chk.mk (by omega) fun _ => Chk.mk (by simp only [inR]; omega) fun _ => ⟨⟨i + 1, by omega⟩, by simp only; omega, ?_⟩⟩, fun hil => ?_⟩
  · have e : (l.take (i + 1)).map segT = (l.take i).map segT ++ [segT (l.getD i sgz)] := by rw [take_snoc sgz (by omega), List.map_append]; rfl
    simp only [e]
    exact (Ent.ren1 [3] (by decide) (by simp only [entCtx, at_cons_zero, at_cons_succ, and_true, true_and]; have h9 := soLe_push (μ := muL [3] 4) (enc := strc) (z := []) (xs := (l.take i).map segT) (y := segT (l.getD i sgz)) (n := i) (f := rowE strc [] ((l.take i).map segT)) (fun _ => rfl) (by simp; omega) (fun _ _ => rfl) rfl; rw [show ((l.take i).map segT ++ [segT (l.getD i sgz)]).length = i + 1 by simp; omega] at h9; exact h9) (by simp [entEnv, Vg.look, SV.mapH, muL, Int.natCast_add, Int.natCast_one]))
  · have ei : i = l.length := by omega
    subst ei
    rw [List.take_length, rowE_list (by simp)]
    simp only [↓XC, XV, entry, isStr, tdOf, szOf, zeroOf, TD.isStruct, okCell, cellsOf, SO.isMap, SO.sz, SO.el, SO.n, SO.ro, mkCf, quietOp, opClass, okLeaf, spl, cellV, isU8T, isSlS, fillS, fillP, repl, SO.put, SV.mapH, frzV, frzVL, frzOk, frzOkL, lendOk, SV.bit, bitL, SV.plain, plainL, isE, mapHL, strip, stripL, gok, gokL, forall_const, implies_true, reduceIte, Nat.reduceAdd, Nat.reduceLT, Nat.reduceEqDiff, Nat.reduceBEq, Nat.reduceLeDiff, reduceCtorEq, Nat.reduceSub, Nat.reduceMul, Int.reduceToNat, Int.reduceLT, Int.reduceLE, TES, pe_joinS_eq, XR]
    have hj := join_len ht
    have h60 : l.length ≤ 60 := by omega
    have h6 : l.length * (2 * 1048576 + 12) ≤ 60 * (2 * 1048576 + 12) := Nat.mul_le_mul_right _ h60
    refine Chk.mk ⟨Nat.le_refl _, by omega, by omega⟩ fun _ => Chk.mk (by omega) fun _ => ?_
    rw [ptx_join l hnot]
noncomputable def pe_PathText_i : PE := peR (fun (l : List Sg) => [.fs 3 (l.map segc)]) (fun (l : List Sg) => l.length ≤ 1048576 ∧ (∀ i, i < l.length → (l.getD i sgz).text.length ≤ 1048576)) (fun (l : List Sg) => .s (ptx l))
theorem pe_PathText_i_eq {l : List Sg} : pe_PathText_i [.fs 3 (l.map segc)] = some (l.length ≤ 1048576 ∧ (∀ i, i < l.length → (l.getD i sgz).text.length ≤ 1048576), .s (ptx l)) := peR_eq (by rintro a b h; simp_all [segc_inj]) l
theorem pe_PathText_i_ok : PE1 Tryd.prog 9 pe_PathText_i := peR_ok (by rintro l hp; exact PathText_i l hp)
end Go.T91
