/- Own text: part StepJ. -/
import Derived.Test.YtjphhddbkjdbnaaDoorTypes2
import Derived.Test.YtjphhddbkjdbnaaDoorTextA
import Derived.Test.YtjphhddbkjdbnaaDoorMarkA
import Derived.Test.YtjphhddbkjdbnaaDoorSegA
import Derived.Test.YtjphhddbkjdbnaaDoorShelf
import Derived.Test.YtjphhddbkjdbnaaDoorStepC
import Derived.Test.YtjphhddbkjdbnaaDoorStepD
import Derived.Test.YtjphhddbkjdbnaaDoorStepG
import Derived.Test.YtjphhddbkjdbnaaDoorBaseE
import Derived.Test.YtjphhddbkjdbnaaDoorBaseF
set_option linter.unusedVariables false
set_option linter.unusedSimpArgs false
namespace Go.T99
set_option linter.unusedSectionVars false
variable [Go.Vg.Glob] [Go.Vg.GlobInt 0]
open Go.Proofs Go.Vg Go.RowKit Go.TT Go.Pl Go.T8 Go.T44 Go.T52 Go.TSh Go.T92 Go.T93 Go.T96
set_option linter.unusedVariables false
set_option linter.unusedSimpArgs false
set_option maxRecDepth 10000
set_option maxHeartbeats 4000000
theorem l17Step (s : Bs) (p : Nat) (hp : s.length ≤ 1048576 ∧ p ≤ s.length) : PF Tryd.prog 32 [.s s, .i .i64 (p : Nat)] (.tup [.agg [.i .i64 (stS s p).1.kind, .i .i64 (stS s p).1.n, .s (stS s p).1.text], .i .i64 ((stS s p).2 : Nat)]) := by
  refine ⟨rfl, rfl, FnK.of (cf := mkCf Tryd.prog te [(43, pe_TextNum_s)] 126 0 false (fun _ => false) (kp [(0, [0, 1, 4]), (1, [0, 1, 4, 21]), (2, [0, 1, 4, 6]), (3, [0, 4, 6, 7]), (4, [0, 4, 6, 7, 48]), (5, [0, 4, 6, 7]), (6, [0, 4, 6, 7, 58]), (7, [0, 4, 6, 7]), (8, [0, 4, 6, 7]), (9, [4, 5]), (10, [0, 1, 4, 8]), (11, [0, 1, 4, 8, 78]), (12, [0, 1, 4, 8]), (13, [4, 8, 9]), (14, [4, 8, 9, 10, 11]), (15, [4, 8, 9, 10, 11, 90]), (16, [4, 5]), (17, [4, 8, 9, 10, 11, 95]), (18, [4, 5]), (19, [4, 8, 9, 10, 100]), (20, [4, 5]), (21, [4, 8, 9, 105]), (22, [4, 8, 10]), (23, [4, 5]), (24, [4, 5])]) [] []) (mkCf_ok te_ok (l := [(43, pe_TextNum_s)]) (⟨pe_TextNum_s_ok, trivial⟩) mixed_ok) Tryd.func32 rfl rfl rfl (by simp [mkCf]) (by simp [mkCf]) (rs := [.cell 4 34, .tmp 5]) rfl 100000 ?_⟩
  simp only [↓XC, XV, entry, isStr, tdOf, szOf, zeroOf, TD.isStruct, okCell, cellsOf, SO.isMap, SO.sz, SO.el, SO.n, SO.ro, mkCf, quietOp, opClass, okLeaf, spl, cellV, isU8T, isSlS, fillS, fillP, repl, SO.put, SV.mapH, frzV, frzVL, frzOk, frzOkL, lendOk, SV.bit, bitL, SV.plain, plainL, isE, mapHL, strip, stripL, gok, gokL, forall_const, implies_true, reduceIte, Nat.reduceAdd, Nat.reduceLT, Nat.reduceEqDiff, Nat.reduceBEq, Nat.reduceLeDiff, reduceCtorEq, Nat.reduceSub, Nat.reduceMul, Int.reduceToNat, Int.reduceLT, Int.reduceLE, TES, pe_TextNum_s_eq, XR]
  have u39 : ∀ k : Nat, (((s.getD k 0).toNat : Int) = 39) = (s.getD k 0 = 39) := fun k => propext ⟨fun h => UInt8.toNat_inj.1 (by show (s.getD k 0).toNat = 39; omega), fun h => by rw [h]; rfl⟩
  obtain ⟨hs, hpl⟩ := hp
  have hc39 : (decide ((p : Int) < (s.length : Nat)) && decide (((s.getD p 0).toNat : Int) = 39)) = decide (p < s.length ∧ s.getD p 0 = 39) := by
    rw [Bool.eq_iff_iff]
    simp only [Bool.and_eq_true, decide_eq_true_eq, u39]
    exact ⟨fun h => ⟨by omega, h.2⟩, fun h => ⟨by omega, h.2⟩⟩
  rw [hc39]
  refine Chk.mk (fun h => by omega) fun _ => ⟨fun h3 => Chk.mk (by simp only [inR]; omega) fun _ => ?_, fun h3 => ?_⟩
  · have h3' := of_decide_eq_true h3
    have e1 : stS s p = (⟨2, 0, (rwS s (p + 1)).1⟩, (rwS s (p + 1)).2 + 1) := by unfold stS; rw [if_pos h3']
    rw [e1]
    refine VLoops.of (ι := {x : Nat × Bs // x.2 ++ (rwS s x.1).1 = (rwS s (p + 1)).1 ∧ (rwS s x.1).2 = (rwS s (p + 1)).2 ∧ x.1 ≤ s.length + 1 ∧ x.2.length ≤ x.1}) (fun x => ⟨[(0, .s s), (4, .ptr 0 0 0), (6, .slc 1 0 x.1.2.length), (7, .i .i64 (x.1.1 : Nat))], [some (.blk false [.i .i64 0, .i .i64 0, .s []]), some (.row false 1 x.1.2.length (rowE bytc 0 x.1.2))]⟩) (fun x => s.length + 1 - x.1.1) ⟨(p + 1, []), rfl, rfl, by omega, by simp⟩ (Ent.ren1 [0, 1] (by decide) (by simp only [entCtx, at_cons_zero, at_cons_succ, and_true, true_and]; exact ⟨soLe_blk rfl, soLe_row fun i hi => by simp at hi⟩) (by simp [entEnv, Vg.look, SV.mapH, muL])) ?_
    rintro ⟨⟨i, out⟩, h1, h2, h3, h4⟩
    simp only [↓XC, XV, entry, isStr, tdOf, szOf, zeroOf, TD.isStruct, okCell, cellsOf, SO.isMap, SO.sz, SO.el, SO.n, SO.ro, mkCf, quietOp, opClass, okLeaf, spl, cellV, isU8T, isSlS, fillS, fillP, repl, SO.put, SV.mapH, frzV, frzVL, frzOk, frzOkL, lendOk, SV.bit, bitL, SV.plain, plainL, isE, mapHL, strip, stripL, gok, gokL, forall_const, implies_true, reduceIte, Nat.reduceAdd, Nat.reduceLT, Nat.reduceEqDiff, Nat.reduceBEq, Nat.reduceLeDiff, reduceCtorEq, Nat.reduceSub, Nat.reduceMul, Int.reduceToNat, Int.reduceLT, Int.reduceLE, TES, XR]
    simp only at h1 h2 h3 h4
    have ei : ((i : Int) + 1).toNat = i + 1 := by omega
    rw [ei]
    have hcc : (decide ((i : Int) < (s.length : Nat)) && (!decide (((s.getD i 0).toNat : Int) = 39) || decide ((i : Int) + 1 < (s.length : Nat)) && decide (((s.getD (i + 1) 0).toNat : Int) = 39))) = decide (i < s.length ∧ (s.getD i 0 ≠ 39 ∨ (i + 1 < s.length ∧ s.getD (i + 1) 0 = 39))) := by
      rw [Bool.eq_iff_iff]
      simp only [Bool.and_eq_true, Bool.or_eq_true, decide_eq_true_eq, u39, Bool.not_eq_true', decide_eq_false_iff_not]
      constructor
      · rintro ⟨a, b⟩; exact ⟨by omega, b.imp id fun c => ⟨by omega, c.2⟩⟩
      · rintro ⟨a, b⟩; exact ⟨by omega, b.imp id fun c => ⟨by omega, c.2⟩⟩
    rw [hcc]
    refine Chk.mk (fun h => by omega) fun _ => Chk.mk (fun h => by simp at h; simp only [inR]; omega) fun _ => Chk.mk (fun h => by simp at h; simp only [inR]; omega) fun _ => Chk.mk (fun h => by simp at h; omega) fun _ => ⟨fun hb => ?_, fun hb => ?_⟩
    · have hb' := of_decide_eq_true hb
      refine Chk.mk (by omega) fun _ => ⟨litEl_ok rfl rfl, Chk.mk (by omega) fun _ => Chk.mk (by omega) fun _ => ⟨fun hq => ?_, fun hq => ?_⟩⟩
      · have hq' : s.getD i 0 = 39 := by rw [u39] at hq; exact hq
        have hi1 : i + 1 < s.length := by
          rcases hb'.2 with h9 | h9
          · exact absurd hq' h9
          · exact h9.1
        have er : rwS s i = (39 :: (rwS s (i + 2)).1, (rwS s (i + 2)).2) := by rw [rwS.eq_def s i, if_pos hb', if_pos hq']
        rw [er] at h1 h2
        refine Chk.mk (by simp only [inR]; omega) fun _ => Chk.mk (by simp only [inR]; omega) fun _ => ⟨⟨(i + 2, out ++ [39]), by simpa using h1, h2, by simp only; omega, by simp only [List.length_append, List.length_singleton]; omega⟩, by simp only; omega, ?_⟩
        rw [hq', show ((i : Int) + 1 + 1) = ((i + 2 : Nat) : Int) by omega]
        exact (Ent.ren1 [0, 3] (by decide) (by simp only [entCtx, at_cons_zero, at_cons_succ, and_true, true_and]; exact ⟨soLe_blk rfl, soLe_push (enc := bytc) (z := 0) (xs := out) (y := (39 : UInt8)) (n := out.length) (fun _ => rfl) rfl (fun _ _ => rfl) rfl⟩) (by simp [entEnv, Vg.look, SV.mapH, muL, List.length_append, List.length_singleton]))
      · have hq' : ¬ s.getD i 0 = 39 := by rw [u39] at hq; exact hq
        have er : rwS s i = (s.getD i 0 :: (rwS s (i + 1)).1, (rwS s (i + 1)).2) := by rw [rwS.eq_def s i, if_pos hb', if_neg hq']
        rw [er] at h1 h2
        refine Chk.mk (by simp only [inR]; omega) fun _ => ⟨⟨(i + 1, out ++ [s.getD i 0]), by simpa using h1, h2, by simp only; omega, by simp only [List.length_append, List.length_singleton]; omega⟩, by simp only; omega, ?_⟩
        exact (Ent.ren1 [0, 3] (by decide) (by simp only [entCtx, at_cons_zero, at_cons_succ, and_true, true_and]; exact ⟨soLe_blk rfl, soLe_push (enc := bytc) (z := 0) (xs := out) (y := s.getD i 0) (n := out.length) (fun _ => rfl) rfl (fun _ _ => rfl) rfl⟩) (by simp [entEnv, Vg.look, SV.mapH, muL, Int.natCast_add, Int.natCast_one, List.length_append, List.length_singleton]))
    · have hb' := of_decide_eq_false hb
      have er : rwS s i = ([], i) := by rw [rwS.eq_def s i, if_neg hb']
      rw [er] at h1 h2
      simp only [List.append_nil] at h1 h2
      refine ⟨fun j hj => isU8_bytc out j, Chk.mk (Nat.le_refl _) fun _ => Chk.mk (by simp only [inR]; omega) fun _ => ?_⟩
      rw [rowBytes_bytc, h1, h2]
      simp only [Int.natCast_add, Int.natCast_one]
  · have h3' := of_decide_eq_false h3
    have e1 : stS s p = (wdS (sub s p (slE s p)), slE s p) := by unfold stS; rw [if_neg h3']
    rw [e1]
    refine VLoops.of (ι := {e : Nat // slE s e = slE s p ∧ p ≤ e ∧ e ≤ s.length + 1}) (fun x => ⟨[(0, .s s), (1, .i .i64 (p : Nat)), (4, .ptr 0 0 0), (8, .i .i64 (x.1 : Nat))], [some (.blk false [.i .i64 0, .i .i64 0, .s []])]⟩) (fun x => s.length + 1 - x.1) ⟨p, rfl, Nat.le_refl _, by omega⟩ (Ent.refl _ _) ?_
    rintro ⟨e, he, hpe, hel⟩
    simp only [↓XC, XV, entry, isStr, tdOf, szOf, zeroOf, TD.isStruct, okCell, cellsOf, SO.isMap, SO.sz, SO.el, SO.n, SO.ro, mkCf, quietOp, opClass, okLeaf, spl, cellV, isU8T, isSlS, fillS, fillP, repl, SO.put, SV.mapH, frzV, frzVL, frzOk, frzOkL, lendOk, SV.bit, bitL, SV.plain, plainL, isE, mapHL, strip, stripL, gok, gokL, forall_const, implies_true, reduceIte, Nat.reduceAdd, Nat.reduceLT, Nat.reduceEqDiff, Nat.reduceBEq, Nat.reduceLeDiff, reduceCtorEq, Nat.reduceSub, Nat.reduceMul, Int.reduceToNat, Int.reduceLT, Int.reduceLE, TES, pe_TextNum_s_eq, XR]
    have u47 : (((s.getD e 0).toNat : Int) = 47) = (s.getD e 0 = 47) := propext ⟨fun h => UInt8.toNat_inj.1 (by show (s.getD e 0).toNat = 47; omega), fun h => by rw [h]; rfl⟩
    have hx : (decide ((e : Int) < (s.length : Nat)) && !decide (((s.getD e 0).toNat : Int) = 47)) = decide (e < s.length ∧ s.getD e 0 ≠ 47) := by
      rw [Bool.eq_iff_iff]
      simp only [Bool.and_eq_true, decide_eq_true_eq, u47, Bool.not_eq_true', decide_eq_false_iff_not]
      exact ⟨fun h => ⟨by omega, h.2⟩, fun h => ⟨by omega, h.2⟩⟩
    rw [hx]
    refine Chk.mk (fun h => by omega) fun _ => ⟨fun h5 => ?_, fun h5 => ?_⟩
    · have h5' := of_decide_eq_true h5
      refine Chk.mk (by simp only [inR]; omega) fun _ => ⟨⟨e + 1, ?_, by omega, by omega⟩, by simp only; omega, (by first | exact Ent.refl _ _ | (simp only [Int.natCast_add, Int.natCast_one]; exact Ent.refl _ _))⟩
      rw [← he, slE.eq_def s e, if_pos h5']
    · have h5' := of_decide_eq_false h5
      have hee : slE s e = e := by rw [slE.eq_def s e, if_neg h5']
      have hle := slE_le s p hpl
      rw [hee] at he
      rw [← he] at hle ⊢
      obtain ⟨w, hw⟩ : ∃ w, w = sub s p e := ⟨_, rfl⟩
      have hwl : w.length ≤ s.length := by rw [hw]; simp only [sub, List.length_drop, List.length_take]; omega
      rw [show List.drop p (List.take e s) = sub s p e from rfl, ← hw]
      have w64 : (((w.getD 0 0).toNat : Int) = 64) = (w.getD 0 0 = 64) := propext ⟨fun h => UInt8.toNat_inj.1 (by show (w.getD 0 0).toNat = 64; omega), fun h => by rw [h]; rfl⟩
      have hx2 : (decide (((w.length : Nat) : Int) > 1) && decide (((w.getD 0 0).toNat : Int) = 64)) = decide (1 < w.length ∧ w.getD 0 0 = 64) := by
        rw [Bool.eq_iff_iff]
        simp only [Bool.and_eq_true, decide_eq_true_eq, w64]
        exact ⟨fun h => ⟨by omega, h.2⟩, fun h => ⟨by omega, h.2⟩⟩
      rw [hx2]
      refine Chk.mk (by omega) fun _ => Chk.mk (by omega) fun _ => ⟨fun k1 => ?_, fun k1 => ⟨fun k2 => ?_, fun k2 => ⟨fun k3 => ?_, fun k3 => Chk.mk (fun h => by omega) fun _ => ⟨fun k4 => ?_, fun k4 => ?_⟩⟩⟩⟩
      · have : wdS w = ⟨4, 0, []⟩ := by unfold wdS; rw [if_pos k1]
        rw [this]
      · have : wdS w = ⟨5, 0, []⟩ := by unfold wdS; rw [if_neg k1, if_pos k2]
        rw [this]
      · have : wdS w = ⟨1, (tnW w).1, []⟩ := by unfold wdS; rw [if_neg k1, if_neg k2, if_pos k3]
        rw [this]
      · have k4' := of_decide_eq_true k4
        have : wdS w = ⟨3, (tnW (w.drop 1)).1, []⟩ := by unfold wdS; rw [if_neg k1, if_neg k2, if_neg (by simp [k3]), if_pos k4']
        exact Chk.mk (by omega) fun _ => Chk.mk (by rw [List.length_drop]; omega) fun _ => by rw [this]
      · have k4' := of_decide_eq_false k4
        have : wdS w = ⟨2, 0, w⟩ := by unfold wdS; rw [if_neg k1, if_neg k2, if_neg (by simp [k3]), if_neg k4']
        rw [this]

noncomputable def pe_l17Step : PE := peR (fun (x : Bs × Nat) => match x with | (s, p) => [.s s, .i .i64 (p : Nat)]) (fun (x : Bs × Nat) => match x with | (s, p) => s.length ≤ 1048576 ∧ p ≤ s.length) (fun (x : Bs × Nat) => match x with | (s, p) => .tup [.agg [.i .i64 (stS s p).1.kind, .i .i64 (stS s p).1.n, .s (stS s p).1.text], .i .i64 ((stS s p).2 : Nat)])
theorem pe_l17Step_eq {s : Bs} {p : Nat} : pe_l17Step [.s s, .i .i64 (p : Nat)] = some (s.length ≤ 1048576 ∧ p ≤ s.length, .tup [.agg [.i .i64 (stS s p).1.kind, .i .i64 (stS s p).1.n, .s (stS s p).1.text], .i .i64 ((stS s p).2 : Nat)]) := peR_eq (by rintro ⟨a0, a1⟩ ⟨b0, b1⟩ h; simp_all [Int.ofNat_inj]) (s, p)
theorem pe_l17Step_ok : PE1 Tryd.prog 32 pe_l17Step := peR_ok (by rintro ⟨s, p⟩ hp; exact l17Step s p hp)
end Go.T99
