/- Own text: part StepD. -/
import Derived.Test.YtjphhddbkjdbnaaDoorTypes2
import Derived.Test.YtjphhddbkjdbnaaDoorTextA
import Derived.Test.YtjphhddbkjdbnaaDoorMarkA
import Derived.Test.YtjphhddbkjdbnaaDoorSegA
import Derived.Test.YtjphhddbkjdbnaaDoorShelf
import Derived.Test.YtjphhddbkjdbnaaDoorStepC
import Derived.Test.YtjphhddbkjdbnaaDoorBaseE
import Derived.Test.YtjphhddbkjdbnaaDoorBaseF
set_option linter.unusedVariables false
set_option linter.unusedSimpArgs false
namespace Go.T93
set_option linter.unusedSectionVars false
variable [Go.Vg.Glob] [Go.Vg.GlobInt 0]
open Go.Proofs Go.Vg Go.RowKit Go.TT Go.Pl Go.T8 Go.T44 Go.T52 Go.TSh Go.T92
set_option linter.unusedVariables false
set_option linter.unusedSimpArgs false
set_option maxRecDepth 10000
set_option maxHeartbeats 4000000
theorem PathText_s (l : List Sg) (hp : l.length ≤ 1048576 ∧ (∀ i, i < l.length → (l.getD i sgz).text.length ≤ 1048576)) : PF Tryd.prog 7 [.fs 3 (l.map segc)] (.s (ptx l)) := by
  refine ⟨rfl, rfl, FnK.of (cf := mkCf Tryd.prog te [(18, pe_SegOk_s), (19, pe_NumText_s), (20, pe_l17Word), (21, pe_l17Quote)] 68 0 false (fun _ => false) (kp [(0, [0]), (1, [0, 8]), (2, [2]), (3, [0, 3]), (4, [3, 9, 10, 11]), (5, [3, 9, 10, 11, 12]), (6, [3, 5, 9, 10, 11]), (7, [3, 5, 9, 10, 11, 17]), (8, [2]), (9, [3, 5, 9, 10, 11]), (10, [3, 9, 10, 11]), (11, [3, 5, 9, 10, 11, 25]), (12, [3, 9, 10, 11]), (13, [3, 5, 9, 10, 11, 34]), (14, [3, 9, 10, 11]), (15, [3, 5, 9, 10, 11, 44]), (16, [3, 9, 10, 11]), (17, [3, 5, 9, 10, 11, 50]), (18, [3, 9, 10, 11]), (19, [3, 5, 9, 10, 11, 56]), (20, [3, 9, 10, 11]), (21, [3, 9, 10, 11]), (22, [3, 66]), (23, [2]), (24, [2])]) [] []) (mkCf_ok te_ok (l := [(18, pe_SegOk_s), (19, pe_NumText_s), (20, pe_l17Word), (21, pe_l17Quote)]) (⟨pe_SegOk_s_ok, pe_NumText_s_ok, pe_l17Word_ok, pe_l17Quote_ok, trivial⟩) mixed_ok) Tryd.func7 rfl rfl rfl (by simp [mkCf]) (by simp [mkCf]) (rs := [.tmp 2]) rfl 100000 ?_⟩
  simp only [↓XC, XV, entry, isStr, tdOf, szOf, zeroOf, TD.isStruct, okCell, cellsOf, SO.isMap, SO.sz, SO.el, SO.n, SO.ro, mkCf, quietOp, opClass, okLeaf, spl, cellV, isU8T, isSlS, fillS, fillP, repl, SO.put, SV.mapH, frzV, frzVL, frzOk, frzOkL, lendOk, SV.bit, bitL, SV.plain, plainL, isE, mapHL, strip, stripL, gok, gokL, forall_const, implies_true, reduceIte, Nat.reduceAdd, Nat.reduceLT, Nat.reduceEqDiff, Nat.reduceBEq, Nat.reduceLeDiff, reduceCtorEq, Nat.reduceSub, Nat.reduceMul, Int.reduceToNat, Int.reduceLT, Int.reduceLE, TES, pe_SegOk_s_eq, pe_NumText_s_eq, pe_l17Word_eq, pe_l17Quote_eq, XRS]
  obtain ⟨hl, ht⟩ := hp
  refine ⟨fun h => ?_, fun h => ?_⟩
  · have : ptx l = [] := by
      unfold ptx
      rw [if_pos (.inl (by omega))]
    rw [this]
  refine VLoops.of (ι := {i : Nat // i ≤ l.length ∧ (l.take i).all sgOk = true}) (fun x => ⟨[(3, .s (stepsT (l.take x.1))), (9, .fs 3 (l.map segc)), (10, .i .i64 (l.length : Nat)), (11, .i .i64 (x.1 : Nat))], []⟩) (fun x => l.length - x.1) ⟨0, Nat.zero_le _, by simp⟩ (Ent.refl _ _) ?_
  rintro ⟨i, hi, hj⟩
  simp only [↓XC, XV, entry, isStr, tdOf, szOf, zeroOf, TD.isStruct, okCell, cellsOf, SO.isMap, SO.sz, SO.el, SO.n, SO.ro, mkCf, quietOp, opClass, okLeaf, spl, cellV, isU8T, isSlS, fillS, fillP, repl, SO.put, SV.mapH, frzV, frzVL, frzOk, frzOkL, lendOk, SV.bit, bitL, SV.plain, plainL, isE, mapHL, strip, stripL, gok, gokL, forall_const, implies_true, reduceIte, Nat.reduceAdd, Nat.reduceLT, Nat.reduceEqDiff, Nat.reduceBEq, Nat.reduceLeDiff, reduceCtorEq, Nat.reduceSub, Nat.reduceMul, Int.reduceToNat, Int.reduceLT, Int.reduceLE, TES, pe_SegOk_s_eq, pe_NumText_s_eq, pe_l17Word_eq, pe_l17Quote_eq, XRS]
  refine ⟨fun hil => Chk.mk (by omega) fun _ => ⟨fun hb => ?_, fun hb => ?_⟩, fun hil => ?_⟩
  · have : sgsOk l = false := by
      unfold sgsOk
      rw [List.all_eq_false]
      exact ⟨_, getD_mem (z := sgz) (by omega : i < l.length), by simpa using hb⟩
    unfold ptx
    rw [if_pos (.inr this)]
  · have hb' : sgOk (l.getD i sgz) = true := by simpa using hb
    have est : stepsT (l.take (i + 1)) = stepsT (l.take i) ++ (47 :: segT (l.getD i sgz)) := by
      rw [take_snoc sgz (by omega)]
      simp [stepsT]
    have hj2 : (l.take (i + 1)).all sgOk = true := by
      rw [take_snoc sgz (by omega), List.all_append, hj]
      simpa using hb'
    have hn : (l.getD i sgz).n ≤ 4294967295 := by
      unfold sgOk at hb'
      simp only [Bool.and_eq_true, decide_eq_true_eq] at hb'
      exact hb'.1.1.2.2.2
    have hti := ht i (by omega)
    have hsl := stepsT_len 1048576 (l.take i) fun m hm => by
      rw [List.length_take] at hm
      rw [List.getD_eq_getElem?_getD, List.getElem?_take, if_pos (by omega), ← List.getD_eq_getElem?_getD]
      exact ht m (by omega)
    have hsl2 : (l.take i).length * (2 * 1048576 + 12) ≤ 60 * (2 * 1048576 + 12) := Nat.mul_le_mul_right _ (by rw [List.length_take]; omega)
    have hsl3 : (stepsT (l.take i)).length ≤ 60 * (2 * 1048576 + 12) := Nat.le_trans hsl hsl2
    clear hsl hsl2
    have hN := numW_len (l.getD i sgz).n
    have hD := dbl_length (l.getD i sgz).text
    generalize hE : l.getD i sgz = e at *
    have g1 : e.kind = 1 → segT e = numW e.n := fun h => by unfold segT; rw [if_pos h]
    have g3 : ¬ e.kind = 1 → e.kind = 3 → segT e = 64 :: numW e.n := fun h h3 => by unfold segT; rw [if_neg h, if_pos h3]
    have g4 : ¬ e.kind = 1 → ¬ e.kind = 3 → e.kind = 4 → segT e = [42] := fun h h3 h4 => by unfold segT; rw [if_neg h, if_neg h3, if_pos h4]
    have g5 : ¬ e.kind = 1 → ¬ e.kind = 3 → ¬ e.kind = 4 → e.kind = 5 → segT e = [42, 42] := fun h h3 h4 h5 => by unfold segT; rw [if_neg h, if_neg h3, if_neg h4, if_pos h5]
    have g6 : ¬ e.kind = 1 → ¬ e.kind = 3 → ¬ e.kind = 4 → ¬ e.kind = 5 → bare e.text = true → segT e = e.text := fun h h3 h4 h5 h6 => by unfold segT; rw [if_neg h, if_neg h3, if_neg h4, if_neg h5, if_pos h6]
    have g7 : ¬ e.kind = 1 → ¬ e.kind = 3 → ¬ e.kind = 4 → ¬ e.kind = 5 → bare e.text = false → segT e = 39 :: (dbl e.text ++ [39]) := fun h h3 h4 h5 h6 => by unfold segT; rw [if_neg h, if_neg h3, if_neg h4, if_neg h5, if_neg (by simp [h6])]
    refine Chk.mk (by omega) fun _ => ⟨fun h1 => Chk.mk (by omega) fun _ => Chk.mk (by omega) fun _ => Chk.mk (by simp only [inR]; omega) fun _ => ?_, fun h1 => ⟨fun h3 => Chk.mk (by omega) fun _ => Chk.mk (by omega) fun _ => Chk.mk (by omega) fun _ => Chk.mk (by simp only [inR]; omega) fun _ => ?_, fun h3 => ⟨fun h4 => Chk.mk (by omega) fun _ => Chk.mk (by simp only [inR]; omega) fun _ => ?_, fun h4 => ⟨fun h5 => Chk.mk (by omega) fun _ => Chk.mk (by simp only [inR]; omega) fun _ => ?_, fun h5 => Chk.mk hti fun _ => ⟨fun h6 => Chk.mk (by omega) fun _ => Chk.mk (by simp only [inR]; omega) fun _ => ?_, fun h6 => Chk.mk hti fun _ => Chk.mk (by omega) fun _ => Chk.mk (by simp only [inR]; omega) fun _ => ?_⟩⟩⟩⟩⟩
    · refine ⟨⟨i + 1, by omega, hj2⟩, by simp only; omega, ?_⟩
      rw [est, g1 h1]
      simp only [List.append_assoc, List.cons_append, List.nil_append]
      exact (by (try simp only [Int.natCast_add, Int.natCast_one]); exact Ent.nil (by simp [entEnv, Vg.look, SV.mapH]))
    · refine ⟨⟨i + 1, by omega, hj2⟩, by simp only; omega, ?_⟩
      rw [est, g3 h1 h3]
      simp only [List.append_assoc, List.cons_append, List.nil_append]
      exact (by (try simp only [Int.natCast_add, Int.natCast_one]); exact Ent.nil (by simp [entEnv, Vg.look, SV.mapH]))
    · refine ⟨⟨i + 1, by omega, hj2⟩, by simp only; omega, ?_⟩
      rw [est, g4 h1 h3 h4]
      simp only [List.append_assoc, List.cons_append, List.nil_append]
      exact (by (try simp only [Int.natCast_add, Int.natCast_one]); exact Ent.nil (by simp [entEnv, Vg.look, SV.mapH]))
    · refine ⟨⟨i + 1, by omega, hj2⟩, by simp only; omega, ?_⟩
      rw [est, g5 h1 h3 h4 h5]
      simp only [List.append_assoc, List.cons_append, List.nil_append]
      exact (by (try simp only [Int.natCast_add, Int.natCast_one]); exact Ent.nil (by simp [entEnv, Vg.look, SV.mapH]))
    · refine ⟨⟨i + 1, by omega, hj2⟩, by simp only; omega, ?_⟩
      rw [est, g6 h1 h3 h4 h5 h6]
      simp only [List.append_assoc, List.cons_append, List.nil_append]
      exact (by (try simp only [Int.natCast_add, Int.natCast_one]); exact Ent.nil (by simp [entEnv, Vg.look, SV.mapH]))
    · refine ⟨⟨i + 1, by omega, hj2⟩, by simp only; omega, ?_⟩
      rw [est, g7 h1 h3 h4 h5 h6]
      simp only [List.append_assoc, List.cons_append, List.nil_append]
      exact (by (try simp only [Int.natCast_add, Int.natCast_one]); exact Ent.nil (by simp [entEnv, Vg.look, SV.mapH]))
  · have hiE : i = l.length := by omega
    rw [hiE, List.take_length] at hj ⊢
    have hk : sgsOk l = true := hj
    have hne : l = [] ↔ stepsT l = [] := by
      constructor
      · rintro rfl; rfl
      · intro h9
        cases l with
        | nil => rfl
        | cons a b => simp [stepsT] at h9
    unfold ptx
    rw [if_neg (by rw [hk]; simp; omega)]
    refine ⟨fun h9 => by rw [if_pos (hne.2 h9)], fun h9 => by rw [if_neg fun h8 => h9 (hne.1 h8)]⟩
noncomputable def pe_PathText_s : PE := peR (fun (l : List Sg) => [.fs 3 (l.map segc)]) (fun (l : List Sg) => l.length ≤ 1048576 ∧ (∀ i, i < l.length → (l.getD i sgz).text.length ≤ 1048576)) (fun (l : List Sg) => .s (ptx l))
theorem pe_PathText_s_eq {l : List Sg} : pe_PathText_s [.fs 3 (l.map segc)] = some (l.length ≤ 1048576 ∧ (∀ i, i < l.length → (l.getD i sgz).text.length ≤ 1048576), .s (ptx l)) := peR_eq (by rintro a b h; simp_all [segc_inj]) l
theorem pe_PathText_s_ok : PE1 Tryd.prog 7 pe_PathText_s := peR_ok (by rintro l hp; exact PathText_s l hp)
end Go.T93
