/- Own text: part StepH. -/
import Derived.Test.YtjphhddbkjdbnaaDoorTypes2
import Derived.Test.YtjphhddbkjdbnaaDoorTextA
import Derived.Test.YtjphhddbkjdbnaaDoorMarkA
import Derived.Test.YtjphhddbkjdbnaaDoorSegA
import Derived.Test.YtjphhddbkjdbnaaDoorShelf
import Derived.Test.YtjphhddbkjdbnaaDoorStepA
import Derived.Test.YtjphhddbkjdbnaaDoorStepB
import Derived.Test.YtjphhddbkjdbnaaDoorStepC
import Derived.Test.YtjphhddbkjdbnaaDoorStepD
import Derived.Test.YtjphhddbkjdbnaaDoorStepG
import Derived.Test.YtjphhddbkjdbnaaDoorBaseE
import Derived.Test.YtjphhddbkjdbnaaDoorBaseF
set_option linter.unusedVariables false
set_option linter.unusedSimpArgs false
namespace Go.T97
set_option linter.unusedSectionVars false
variable [Go.Vg.Glob] [Go.Vg.GlobInt 0]
open Go.Proofs Go.Vg Go.RowKit Go.TT Go.Pl Go.T8 Go.T44 Go.T52 Go.TSh Go.T90 Go.T91 Go.T92 Go.T93 Go.T96
set_option linter.unusedVariables false
set_option linter.unusedSimpArgs false
set_option maxRecDepth 10000
set_option maxHeartbeats 4000000
theorem quotedEnd (s : Bs) (p : Nat) (hp : s.length ≤ 1048576 ∧ p ≤ s.length) : PF Tryd.prog 29 [.s s, .i .i64 (p : Nat)] (.i .i64 (qeI s (p + 1) : Nat)) := by
  refine ⟨rfl, rfl, FnK.of (cf := mkCf Tryd.prog te [] 36 0 false (fun _ => false) (kp [(0, [0, 1]), (1, [0, 5]), (2, [0, 5, 11]), (3, [0, 5]), (4, [0, 5, 17]), (5, [0, 5, 29]), (6, [4]), (7, [0, 5]), (8, [4])]) [] []) (mkCf_ok te_ok (l := []) (trivial) mixed_ok) Tryd.func29 rfl rfl rfl (by simp [mkCf]) (by simp [mkCf]) (rs := [.tmp 4]) rfl 100000 ?_⟩
  simp only [↓XC, XV, entry, isStr, tdOf, szOf, zeroOf, TD.isStruct, okCell, cellsOf, SO.isMap, SO.sz, SO.el, SO.n, SO.ro, mkCf, quietOp, opClass, okLeaf, spl, cellV, isU8T, isSlS, fillS, fillP, repl, SO.put, SV.mapH, frzV, frzVL, frzOk, frzOkL, lendOk, SV.bit, bitL, SV.plain, plainL, isE, mapHL, strip, stripL, gok, gokL, forall_const, implies_true, reduceIte, Nat.reduceAdd, Nat.reduceLT, Nat.reduceEqDiff, Nat.reduceBEq, Nat.reduceLeDiff, reduceCtorEq, Nat.reduceSub, Nat.reduceMul, Int.reduceToNat, Int.reduceLT, Int.reduceLE, TES]
  refine Chk.mk (by simp only [inR]; omega) fun _ => ?_
  refine VLoops.of (ι := {q : Nat // qeI s q = qeI s (p + 1) ∧ q ≤ s.length + 1}) (fun x => ⟨[(0, .s s), (5, .i .i64 (x.1 : Nat))], []⟩) (fun x => s.length + 1 - x.1) ⟨p + 1, rfl, by omega⟩ (by simp only [Int.natCast_add, Int.natCast_one]; exact Ent.refl _ _) ?_
  rintro ⟨q, hq, hql⟩
  simp only [↓XC, XV, entry, isStr, tdOf, szOf, zeroOf, TD.isStruct, okCell, cellsOf, SO.isMap, SO.sz, SO.el, SO.n, SO.ro, mkCf, quietOp, opClass, okLeaf, spl, cellV, isU8T, isSlS, fillS, fillP, repl, SO.put, SV.mapH, frzV, frzVL, frzOk, frzOkL, lendOk, SV.bit, bitL, SV.plain, plainL, isE, mapHL, strip, stripL, gok, gokL, forall_const, implies_true, reduceIte, Nat.reduceAdd, Nat.reduceLT, Nat.reduceEqDiff, Nat.reduceBEq, Nat.reduceLeDiff, reduceCtorEq, Nat.reduceSub, Nat.reduceMul, Int.reduceToNat, Int.reduceLT, Int.reduceLE, TES]
  have u : ∀ k : Nat, (((s.getD k 0).toNat : Int) = 39) = (s.getD k 0 = 39) := fun k => propext ⟨fun h => UInt8.toNat_inj.1 (by show (s.getD k 0).toNat = 39; omega), fun h => by rw [h]; rfl⟩
  have ep : ((q : Int) + 1).toNat = q + 1 := by omega
  rw [ep]
  simp only [u]
  refine ⟨fun hl => Chk.mk (by omega) fun _ => ⟨fun h => ?_, fun h => ?_⟩, fun hl => ?_⟩
  · have h' : s.getD q 0 ≠ 39 := by simpa using h
    refine Chk.mk (by simp only [inR]; omega) fun _ => ⟨⟨q + 1, ?_, by omega⟩, by simp only; omega, (by first | exact Ent.refl _ _ | (simp only [Int.natCast_add, Int.natCast_one]; exact Ent.refl _ _))⟩
    rw [← hq, qeI.eq_def s q, if_pos (by omega), if_pos h']
  · have h' : ¬ s.getD q 0 ≠ 39 := by simpa using h
    refine Chk.mk (by simp only [inR]; omega) fun _ => Chk.mk (fun _ => by simp only [inR]; omega) fun _ => Chk.mk (fun h2 => by simp at h2; omega) fun _ => ⟨fun h2 => Chk.mk (by simp only [inR]; omega) fun _ => ?_, fun h2 => Chk.mk (by simp only [inR]; omega) fun _ => Chk.mk (by simp only [inR]; omega) fun _ => ⟨⟨q + 2, ?_, by omega⟩, by simp only; omega, ?_⟩⟩
    · have h3 : q + 1 = s.length ∨ s.getD (q + 1) 0 ≠ 39 := by
        simp only [Bool.or_eq_true, decide_eq_true_eq, Bool.not_eq_true', decide_eq_false_iff_not] at h2
        rcases h2 with h2 | h2
        · exact .inl (by omega)
        · exact .inr h2
      rw [← hq, qeI.eq_def s q, if_pos (by omega), if_neg h', if_pos h3]
      rfl
    · have h3 : ¬ (q + 1 = s.length ∨ s.getD (q + 1) 0 ≠ 39) := by
        simp only [Bool.or_eq_false_iff, decide_eq_false_iff_not, Bool.not_eq_false', decide_eq_true_eq] at h2
        rintro (h4 | h4)
        · exact h2.1 (by omega)
        · exact h4 h2.2
      rw [← hq, qeI.eq_def s q, if_pos (by omega), if_neg h', if_neg h3]
    · rw [show ((q : Int) + 1 + 1) = ((q + 2 : Nat) : Int) by omega]
      exact Ent.refl _ _
  · rw [← hq, qeI.eq_def s q, if_neg (by omega)]
noncomputable def pe_quotedEnd : PE := peR (fun (x : Bs × Nat) => match x with | (s, p) => [.s s, .i .i64 (p : Nat)]) (fun (x : Bs × Nat) => match x with | (s, p) => s.length ≤ 1048576 ∧ p ≤ s.length) (fun (x : Bs × Nat) => match x with | (s, p) => .i .i64 (qeI s (p + 1) : Nat))
theorem pe_quotedEnd_eq {s : Bs} {p : Nat} : pe_quotedEnd [.s s, .i .i64 (p : Nat)] = some (s.length ≤ 1048576 ∧ p ≤ s.length, .i .i64 (qeI s (p + 1) : Nat)) := peR_eq (by rintro ⟨a0, a1⟩ ⟨b0, b1⟩ h; simp_all [Int.ofNat_inj]) (s, p)
theorem pe_quotedEnd_ok : PE1 Tryd.prog 29 pe_quotedEnd := peR_ok (by rintro ⟨s, p⟩ hp; exact quotedEnd s p hp)
theorem textSeg (s : Bs) (hp : s.length ≤ 1048576) : PF Tryd.prog 30 [.s s] (.agg [.i .i64 (tsI s).kind, .i .i64 (tsI s).n, .s (tsI s).text]) := by
  refine ⟨rfl, rfl, FnK.of (cf := mkCf Tryd.prog te [(42, pe_TextNum_i), (36, pe_rplAS)] 57 0 false (fun _ => false) (kp [(0, [0, 2]), (1, [0, 2, 7]), (2, [2]), (3, [0, 2, 11]), (4, [2]), (5, [0, 2, 15]), (6, [2, 3]), (7, [2]), (8, [0, 2, 31]), (9, [2]), (10, [0, 2, 5, 6]), (11, [0, 2, 5, 52]), (12, [2]), (13, [2])]) [] []) (mkCf_ok te_ok (l := [(42, pe_TextNum_i), (36, pe_rplAS)]) (⟨pe_TextNum_i_ok, pe_rplAS_ok, trivial⟩) mixed_ok) Tryd.func30 rfl rfl rfl (by simp [mkCf]) (by simp [mkCf]) (rs := [.cell 2 34]) rfl 100000 ?_⟩
  simp only [↓XC, XV, entry, isStr, tdOf, szOf, zeroOf, TD.isStruct, okCell, cellsOf, SO.isMap, SO.sz, SO.el, SO.n, SO.ro, mkCf, quietOp, opClass, okLeaf, spl, cellV, isU8T, isSlS, fillS, fillP, repl, SO.put, SV.mapH, frzV, frzVL, frzOk, frzOkL, lendOk, SV.bit, bitL, SV.plain, plainL, isE, mapHL, strip, stripL, gok, gokL, forall_const, implies_true, reduceIte, Nat.reduceAdd, Nat.reduceLT, Nat.reduceEqDiff, Nat.reduceBEq, Nat.reduceLeDiff, reduceCtorEq, Nat.reduceSub, Nat.reduceMul, Int.reduceToNat, Int.reduceLT, Int.reduceLE, TES, pe_TextNum_i_eq, pe_rplAS_eq, XRS]
  have hl0 : s ≠ [] → 0 < s.length := fun h => List.length_pos_iff.2 h
  have u64 : ((s.getD 0 0).toNat : Int) = 64 ↔ s.getD 0 0 = 64 := ⟨fun h => UInt8.toNat_inj.1 (by show (s.getD 0 0).toNat = 64; omega), fun h => by rw [h]; rfl⟩
  have u39 : ((s.getD 0 0).toNat : Int) = 39 ↔ s.getD 0 0 = 39 := ⟨fun h => UInt8.toNat_inj.1 (by show (s.getD 0 0).toNat = 39; omega), fun h => by rw [h]; rfl⟩
  have k3 : (!decide (s = []) && decide (((s.getD 0 0).toNat : Int) = 64)) = false → ¬ (s ≠ [] ∧ s.getD 0 0 = 64) := by
    rintro h3 ⟨k1, k2⟩
    rw [decide_eq_true (u64.2 k2), decide_eq_false k1] at h3
    simp at h3
  have k4 : (decide (((s.length : Nat) : Int) > 1) && decide (((s.getD 0 0).toNat : Int) = 39)) = false → ¬ (1 < s.length ∧ s.getD 0 0 = 39) := by
    rintro h4 ⟨k1, k2⟩
    rw [decide_eq_true (u39.2 k2), decide_eq_true (show ((s.length : Nat) : Int) > 1 by omega)] at h4
    simp at h4
  unfold tsI
  refine ⟨fun h1 => by rw [if_pos h1], fun h1 => ⟨fun h2 => by rw [if_neg h1, if_pos h2], fun h2 => Chk.mk (fun h => by have := hl0 (by simpa using h); omega) fun _ => ⟨fun h3 => ?_, fun h3 => Chk.mk (fun h => by omega) fun _ => ⟨fun h4 => ?_, fun h4 => Chk.mk hp fun _ => ⟨fun h5 => ?_, fun h5 => ?_⟩⟩⟩⟩⟩
  · have h3' : s ≠ [] ∧ s.getD 0 0 = 64 := by simp only [Bool.and_eq_true, Bool.not_eq_true', decide_eq_false_iff_not, decide_eq_true_eq, u64] at h3; exact h3
    have := hl0 h3'.1
    exact Chk.mk (by omega) fun _ => Chk.mk (by rw [List.length_drop]; omega) fun _ => by rw [if_neg h1, if_neg h2, if_pos h3']
  · have h4' : 1 < s.length ∧ s.getD 0 0 = 39 := by simp only [Bool.and_eq_true, decide_eq_true_eq, u39] at h4; exact ⟨by omega, h4.2⟩
    have e1 : ((s.length : Int) - 1).toNat = s.length - 1 := by omega
    rw [e1]
    refine Chk.mk (by simp only [inR]; omega) fun _ => Chk.mk (by omega) fun _ => Chk.mk (by simp only [List.length_drop, List.length_take]; omega) fun _ => ?_
    rw [if_neg h1, if_neg h2, if_neg (k3 h3), if_pos h4']
    rfl
  · rw [if_neg h1, if_neg h2, if_neg (k3 h3), if_neg (k4 h4), if_pos h5]
  · rw [if_neg h1, if_neg h2, if_neg (k3 h3), if_neg (k4 h4), if_neg (by simp [h5])]
noncomputable def pe_textSeg : PE := peR (fun (s : Bs) => [.s s]) (fun (s : Bs) => s.length ≤ 1048576) (fun (s : Bs) => .agg [.i .i64 (tsI s).kind, .i .i64 (tsI s).n, .s (tsI s).text])
theorem pe_textSeg_eq {s : Bs} : pe_textSeg [.s s] = some (s.length ≤ 1048576, .agg [.i .i64 (tsI s).kind, .i .i64 (tsI s).n, .s (tsI s).text]) := peR_eq (by rintro a b h; simp_all []) s
theorem pe_textSeg_ok : PE1 Tryd.prog 30 pe_textSeg := peR_ok (by rintro s hp; exact textSeg s hp)
end Go.T97
