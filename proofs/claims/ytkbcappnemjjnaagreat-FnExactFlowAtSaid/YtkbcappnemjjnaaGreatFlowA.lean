/- Own text: part FlowA. -/
import Derived.Test.YtkbcappnemjjnaaGreatBaseE
import Derived.Test.YtkbcappnemjjnaaGreatTypes2
import Derived.Test.YtkbcappnemjjnaaGreatTextA
import Derived.Test.YtkbcappnemjjnaaGreatEventA
import Derived.Test.YtkbcappnemjjnaaGreatLineA
import Derived.Test.YtkbcappnemjjnaaGreatRuneA
import Derived.Test.YtkbcappnemjjnaaGreatFoldA
import Derived.Test.YtkbcappnemjjnaaGreatQuotA
import Derived.Test.YtkbcappnemjjnaaGreatQuotB
set_option linter.unusedVariables false
set_option linter.unusedSimpArgs false
namespace Go.T70
open Go.Proofs Go.Vg Go.RowKit Go.TT Go.Pl Go.T8 Go.T12 Go.T60 Go.T61 Go.T62 Go.T63 Go.T64
set_option linter.unusedVariables false
set_option linter.unusedSimpArgs false
set_option maxRecDepth 10000
set_option maxHeartbeats 4000000
theorem IndentAt_i (s : Bs) (p : Int) (hp : s.length ≤ 1048576) : PF Tryz.prog 118 [.s s, .i .i64 p] (.i .i64 (inA s (spot s p) : Nat)) := by
  refine ⟨rfl, rfl, FnK.of (cf := mkCf Tryz.prog te [(53, pe_LineAt_i), (51, pe_byteAt)] 20 0 false (fun _ => false) (kp [(0, [0, 1]), (1, [0, 5]), (2, [0, 5, 6]), (3, [0, 5, 6, 14]), (4, [0, 5, 6]), (5, [4])]) [] []) (mkCf_ok te_ok (l := [(53, pe_LineAt_i), (51, pe_byteAt)]) (⟨pe_LineAt_i_ok, pe_byteAt_ok, trivial⟩) mixed_ok) Tryz.func118 rfl rfl rfl (by simp [mkCf]) (by simp [mkCf]) (rs := [.tmp 4]) rfl 100000 ?_⟩
  simp only [↓XC, XV, XT, forall_const, implies_true, reduceIte, Nat.reduceAdd, Nat.reduceLT, Nat.reduceEqDiff, Nat.reduceBEq, Nat.reduceLeDiff, reduceCtorEq, Nat.reduceSub, Nat.reduceMul, Int.reduceToNat, Int.reduceLT, Int.reduceLE, TES, pe_LineAt_i_eq, pe_byteAt_eq]
  have h0 := spot_le s p
  have hl := la_le s (spot s p)
  refine Chk.mk hp fun _ => ?_
  refine VLoops.of (ι := {q : Nat // la s (spot s p) ≤ q ∧ q ≤ s.length ∧ bl s q = bl s (la s (spot s p))}) (fun x => ⟨[(0, .s s), (5, .i .i64 (la s (spot s p) : Nat)), (6, .i .i64 (x.1 : Nat))], []⟩) (fun x => s.length - x.1) ⟨la s (spot s p), Nat.le_refl _, by omega, rfl⟩ (Ent.refl _ _) ?_
  rintro ⟨q, hq1, hq2, hw⟩
  simp only [↓XC, XV, XT, forall_const, implies_true, reduceIte, Nat.reduceAdd, Nat.reduceLT, Nat.reduceEqDiff, Nat.reduceBEq, Nat.reduceLeDiff, reduceCtorEq, Nat.reduceSub, Nat.reduceMul, Int.reduceToNat, Int.reduceLT, Int.reduceLE, TES, pe_byteAt_eq]
  rw [spot_of s hq2]
  refine Chk.mk hp fun _ => ⟨fun h => Chk.mk (by simp only [inR]; omega) fun _ => ?_, fun h => Chk.mk (by simp only [inR]; omega) fun _ => ?_⟩
  · have hl2 := byt_pos h (by decide)
    exact ⟨⟨q + 1, by omega, by omega, by rw [← bl_t h]; exact hw⟩, by simp only; omega, (by first | exact Ent.refl _ _ | (simp only [Int.natCast_add, Int.natCast_one]; exact Ent.refl _ _))⟩
  · rw [show inA s (spot s p) = q - la s (spot s p) by unfold inA; rw [← hw, bl_f h], Int.ofNat_sub hq1]
noncomputable def pe_IndentAt_i : PE := peR (fun (x : Bs × Int) => match x with | (s, p) => [.s s, .i .i64 p]) (fun (x : Bs × Int) => match x with | (s, p) => s.length ≤ 1048576) (fun (x : Bs × Int) => match x with | (s, p) => .i .i64 (inA s (spot s p) : Nat))
theorem pe_IndentAt_i_eq {s : Bs} {p : Int} : pe_IndentAt_i [.s s, .i .i64 p] = some (s.length ≤ 1048576, .i .i64 (inA s (spot s p) : Nat)) := peR_eq (by rintro ⟨a0, a1⟩ ⟨b0, b1⟩ h; simp_all []) (s, p)
theorem pe_IndentAt_i_ok : PE1 Tryz.prog 118 pe_IndentAt_i := peR_ok (by rintro ⟨s, p⟩ hp; exact IndentAt_i s p hp)
theorem IndentAt_s (s : Bs) (p : Int) (hp : s.length ≤ 1048576) : PF Tryz.prog 76 [.s s, .i .i64 p] (.i .i64 (inA s (spot s p) : Nat)) := by
  refine ⟨rfl, rfl, FnK.of (cf := mkCf Tryz.prog te [(34, pe_LineAt_s)] 27 0 false (fun _ => false) (kp [(0, [0, 1]), (1, [0, 5]), (2, [0, 5, 6]), (3, [0, 5, 6, 23]), (4, [0, 5, 6]), (5, [4])]) [] []) (mkCf_ok te_ok (l := [(34, pe_LineAt_s)]) (⟨pe_LineAt_s_ok, trivial⟩) mixed_ok) Tryz.func76 rfl rfl rfl (by simp [mkCf]) (by simp [mkCf]) (rs := [.tmp 4]) rfl 100000 ?_⟩
  simp only [↓XC, XV, XT, forall_const, implies_true, reduceIte, Nat.reduceAdd, Nat.reduceLT, Nat.reduceEqDiff, Nat.reduceBEq, Nat.reduceLeDiff, reduceCtorEq, Nat.reduceSub, Nat.reduceMul, Int.reduceToNat, Int.reduceLT, Int.reduceLE, TES, pe_LineAt_s_eq]
  have h0 := spot_le s p
  have hl := la_le s (spot s p)
  refine Chk.mk hp fun _ => ?_
  refine VLoops.of (ι := {n : Nat // la s (spot s p) + n ≤ s.length ∧ bl s (la s (spot s p) + n) = bl s (la s (spot s p))}) (fun x => ⟨[(0, .s s), (5, .i .i64 (la s (spot s p) : Nat)), (6, .i .i64 (x.1 : Nat))], []⟩) (fun x => s.length - x.1) ⟨0, by omega, rfl⟩ (Ent.refl _ _) ?_
  rintro ⟨n, hq, hw⟩
  simp only [↓XC, XV, XT, forall_const, implies_true, reduceIte, Nat.reduceAdd, Nat.reduceLT, Nat.reduceEqDiff, Nat.reduceBEq, Nat.reduceLeDiff, reduceCtorEq, Nat.reduceSub, Nat.reduceMul, Int.reduceToNat, Int.reduceLT, Int.reduceLE, TES]
  unfold inA
  generalize la s (spot s p) = a at *
  have e2 : ((a : Int) + n).toNat = a + n := by omega
  rw [e2]
  have hd : (decide ((a : Int) + n < s.length) && decide (((s.getD (a + n) 0).toNat : Int) = 32)) = decide (byt s (a + n) = 32) := by
    rcases Nat.lt_or_ge (a + n) s.length with h6 | h6
    · rw [← byt_lt h6, decide_eq_true (show (a : Int) + n < s.length by omega), Bool.true_and]
    · rw [byt_ge h6, decide_eq_false (show ¬ (a : Int) + n < s.length by omega)]; rfl
  rw [hd]
  refine Chk.mk (by simp only [inR]; omega) fun _ => Chk.mk (fun _ => by simp only [inR]; omega) fun _ => Chk.mk (fun h => by omega) fun _ => ⟨fun h => Chk.mk (by simp only [inR]; omega) fun _ => ?_, fun h => ?_⟩
  · have h' := of_decide_eq_true h
    have hl2 := byt_pos h' (by decide)
    exact ⟨⟨n + 1, by omega, by rw [← Nat.add_assoc, ← bl_t h']; exact hw⟩, by simp only; omega, (by first | exact Ent.refl _ _ | (simp only [Int.natCast_add, Int.natCast_one]; exact Ent.refl _ _))⟩
  · have h' := of_decide_eq_false h
    rw [← hw, bl_f h', Nat.add_sub_cancel_left]
noncomputable def pe_IndentAt_s : PE := peR (fun (x : Bs × Int) => match x with | (s, p) => [.s s, .i .i64 p]) (fun (x : Bs × Int) => match x with | (s, p) => s.length ≤ 1048576) (fun (x : Bs × Int) => match x with | (s, p) => .i .i64 (inA s (spot s p) : Nat))
theorem pe_IndentAt_s_eq {s : Bs} {p : Int} : pe_IndentAt_s [.s s, .i .i64 p] = some (s.length ≤ 1048576, .i .i64 (inA s (spot s p) : Nat)) := peR_eq (by rintro ⟨a0, a1⟩ ⟨b0, b1⟩ h; simp_all []) (s, p)
theorem pe_IndentAt_s_ok : PE1 Tryz.prog 76 pe_IndentAt_s := peR_ok (by rintro ⟨s, p⟩ hp; exact IndentAt_s s p hp)
theorem Gap_i (s : Bs) (p : Int) (hp : s.length ≤ 1048576) : PF Tryz.prog 29 [.s s, .i .i64 p] (.i .i64 (gpE s (spot s p) : Nat)) := by
  refine ⟨rfl, rfl, FnK.of (cf := mkCf Tryz.prog te [(28, pe_spot_i), (51, pe_byteAt), (52, pe_isWhite), (53, pe_LineAt_i), (54, pe_EndAt_i)] 47 0 false (fun _ => false) (kp [(0, [0, 1]), (1, [0, 1]), (2, [0, 1, 12]), (3, [0, 1, 5]), (4, [4]), (5, [0, 1, 5, 17]), (6, [0, 1]), (7, [0, 1, 26]), (8, [0, 1]), (9, [4])]) [] []) (mkCf_ok te_ok (l := [(28, pe_spot_i), (51, pe_byteAt), (52, pe_isWhite), (53, pe_LineAt_i), (54, pe_EndAt_i)]) (⟨pe_spot_i_ok, pe_byteAt_ok, pe_isWhite_ok, pe_LineAt_i_ok, pe_EndAt_i_ok, trivial⟩) mixed_ok) Tryz.func29 rfl rfl rfl (by simp [mkCf]) (by simp [mkCf]) (rs := [.tmp 4]) rfl 100000 ?_⟩
  simp only [↓XC, XV, XT, forall_const, implies_true, reduceIte, Nat.reduceAdd, Nat.reduceLT, Nat.reduceEqDiff, Nat.reduceBEq, Nat.reduceLeDiff, reduceCtorEq, Nat.reduceSub, Nat.reduceMul, Int.reduceToNat, Int.reduceLT, Int.reduceLE, TES, pe_spot_i_eq, pe_byteAt_eq, pe_isWhite_eq, pe_LineAt_i_eq, pe_EndAt_i_eq]
  refine VLoops.of (ι := {q : Nat // q ≤ s.length ∧ gpE s q = gpE s (spot s p)}) (fun x => ⟨[(0, .s s), (1, .i .i64 (x.1 : Nat))], []⟩) (fun x => s.length - x.1) ⟨spot s p, spot_le s p, rfl⟩ (Ent.refl _ _) ?_
  rintro ⟨q, hq, hw⟩
  simp only [↓XC, XV, XT, forall_const, implies_true, reduceIte, Nat.reduceAdd, Nat.reduceLT, Nat.reduceEqDiff, Nat.reduceBEq, Nat.reduceLeDiff, reduceCtorEq, Nat.reduceSub, Nat.reduceMul, Int.reduceToNat, Int.reduceLT, Int.reduceLE, TES, pe_byteAt_eq, pe_isWhite_eq, pe_LineAt_i_eq, pe_EndAt_i_eq]
  have e2 : spot s ((q : Int) - 1) = q - 1 := by unfold spot; omega
  rw [spot_of s hq, e2]
  have hA : (byt s q == 32 || byt s q == 9 || decide (byt s q = 10)) = decide (isW s q = true ∨ byt s q = 10) := by
    rw [Bool.decide_or, show (byt s q == 32 || byt s q == 9) = isW s q from rfl, Bool.decide_eq_true]
  have hC : (decide (byt s q = 35) && (decide ((la s q : Int) = (q : Int)) || (byt s (q - 1) == 32 || byt s (q - 1) == 9))) = gpC s q := by
    unfold gpC isW
    rw [show decide ((la s q : Int) = (q : Int)) = decide (la s q = q) from by rw [decide_eq_decide]; omega]
  rw [hA, hC]
  refine ⟨fun hl => Chk.mk hp fun _ => ⟨fun h => Chk.mk (by simp only [inR]; omega) fun _ => ?_, fun h => Chk.mk (fun h => ⟨⟨h, h⟩, hp⟩) fun _ => Chk.mk (fun _ => by simp only [inR]; omega) fun _ => Chk.mk (fun h => ⟨⟨h, h⟩, hp⟩) fun _ => ⟨fun hc => Chk.mk hp fun _ => ?_, fun hc => ?_⟩⟩, fun hl => ?_⟩
  · exact ⟨⟨q + 1, by omega, by rw [← gpE_w (of_decide_eq_true h)]; exact hw⟩, by simp only; omega, (by first | exact Ent.refl _ _ | (simp only [Int.natCast_add, Int.natCast_one]; exact Ent.refl _ _))⟩
  · have hg := en_gt (isB_35 (by simp [gpC] at hc; exact hc.1))
    exact ⟨⟨en s q, en_le s q hq, by rw [← gpE_c hc]; exact hw⟩, by simp only; omega, Ent.refl _ _⟩
  · rw [← hw, gpE_f (of_decide_eq_false h) hc]
  · rw [← hw, gpE_end (by omega)]
noncomputable def pe_Gap_i : PE := peR (fun (x : Bs × Int) => match x with | (s, p) => [.s s, .i .i64 p]) (fun (x : Bs × Int) => match x with | (s, p) => s.length ≤ 1048576) (fun (x : Bs × Int) => match x with | (s, p) => .i .i64 (gpE s (spot s p) : Nat))
theorem pe_Gap_i_eq {s : Bs} {p : Int} : pe_Gap_i [.s s, .i .i64 p] = some (s.length ≤ 1048576, .i .i64 (gpE s (spot s p) : Nat)) := peR_eq (by rintro ⟨a0, a1⟩ ⟨b0, b1⟩ h; simp_all []) (s, p)
theorem pe_Gap_i_ok : PE1 Tryz.prog 29 pe_Gap_i := peR_ok (by rintro ⟨s, p⟩ hp; exact Gap_i s p hp)
theorem Gap_s2 (s : Bs) (p : Int) (hp : s.length ≤ 1048576) : PF Tryz.prog 19 [.s s, .i .i64 p] (.i .i64 (gpE s (spot s p) : Nat)) := by
  refine ⟨rfl, rfl, FnK.of (cf := mkCf Tryz.prog te [(9, pe_spot_s), (33, pe_White_s), (34, pe_LineAt_s), (35, pe_White1_s), (36, pe_EndAt_s)] 51 0 false (fun _ => false) (kp [(0, [0, 1]), (1, [0, 1]), (2, [0, 5]), (3, [0, 5, 34]), (4, [0, 5]), (5, [0, 5, 47]), (6, [4]), (7, [0, 1])]) [] []) (mkCf_ok te_ok (l := [(9, pe_spot_s), (33, pe_White_s), (34, pe_LineAt_s), (35, pe_White1_s), (36, pe_EndAt_s)]) (⟨pe_spot_s_ok, pe_White_s_ok, pe_LineAt_s_ok, pe_White1_s_ok, pe_EndAt_s_ok, trivial⟩) mixed_ok) Tryz.func19 rfl rfl rfl (by simp [mkCf]) (by simp [mkCf]) (rs := [.tmp 4]) rfl 100000 ?_⟩
  simp only [↓XC, XV, XT, forall_const, implies_true, reduceIte, Nat.reduceAdd, Nat.reduceLT, Nat.reduceEqDiff, Nat.reduceBEq, Nat.reduceLeDiff, reduceCtorEq, Nat.reduceSub, Nat.reduceMul, Int.reduceToNat, Int.reduceLT, Int.reduceLE, TES, pe_spot_s_eq, pe_White_s_eq, pe_LineAt_s_eq, pe_White1_s_eq, pe_EndAt_s_eq]
  refine VLoops.of (ι := {q : Nat // q ≤ s.length ∧ gpE s q = gpE s (spot s p)}) (fun x => ⟨[(0, .s s), (1, .i .i64 (x.1 : Nat))], []⟩) (fun x => s.length + 1 - x.1) ⟨spot s p, spot_le s p, rfl⟩ (Ent.refl _ _) ?_
  rintro ⟨q, hq, hw⟩
  simp only [↓XC, XV, XT, forall_const, implies_true, reduceIte, Nat.reduceAdd, Nat.reduceLT, Nat.reduceEqDiff, Nat.reduceBEq, Nat.reduceLeDiff, reduceCtorEq, Nat.reduceSub, Nat.reduceMul, Int.reduceToNat, Int.reduceLT, Int.reduceLE, TES, pe_White_s_eq, pe_LineAt_s_eq, pe_White1_s_eq, pe_EndAt_s_eq]
  have hwl := wh_le s q hq
  have hwg := wh_ge s q
  have hgw := gpE_wh s q
  have hnw := wh_not s q
  have hll := la_le s (wh s q)
  rw [spot_of s hq, spot_of s hwl]
  have e2 : ((wh s q : Int) - 1).toNat = wh s q - 1 := by omega
  rw [e2]
  generalize wh s q = w at *
  have hC : (decide ((w : Int) < s.length) && decide (((s.getD w 0).toNat : Int) = 35) && (decide ((la s w : Int) = (w : Int)) || isW s (w - 1))) = gpC s w := by
    unfold gpC
    rcases Nat.lt_or_ge w s.length with h6 | h6
    · rw [← byt_lt h6, decide_eq_true (show (w : Int) < s.length by omega), Bool.true_and, show decide ((la s w : Int) = (w : Int)) = decide (la s w = w) from by rw [decide_eq_decide]; omega]
    · rw [byt_ge h6, decide_eq_false (show ¬ (w : Int) < s.length by omega)]; rfl
  rw [hC]
  have hel := en_le s w hwl
  have heg := en_ge s w
  have heB := en_isB s w
  have hbn : ∀ v : Nat, (decide ((v : Int) ≥ s.length) || !decide (((s.getD v 0).toNat : Int) = 10)) = !decide (byt s v = 10) := by
    intro v
    rcases Nat.lt_or_ge v s.length with h6 | h6
    · rw [← byt_lt h6, decide_eq_false (show ¬ (v : Int) ≥ s.length by omega), Bool.false_or]
    · rw [byt_ge h6, decide_eq_true (show (v : Int) ≥ s.length by omega)]; rfl
  rw [hbn, hbn]
  refine Chk.mk hp fun _ => Chk.mk (fun h => by omega) fun _ => Chk.mk (fun h => ⟨⟨h, h⟩, hp⟩) fun _ => Chk.mk (fun h => by simp only [inR]; omega) fun _ => Chk.mk (fun h => ⟨⟨h, h⟩, hp, by simp only [Bool.or_eq_true, Bool.and_eq_true, Bool.or_eq_false_iff, Bool.and_eq_false_iff, decide_eq_true_eq, decide_eq_false_iff_not, Bool.not_eq_true', Bool.not_eq_false', beq_iff_eq, beq_eq_false_iff_ne, ne_eq, ge_iff_le, gt_iff_lt, Int.not_le, Int.not_lt, Int.ofNat_le, Int.ofNat_lt] at h; omega⟩) fun _ => ⟨fun hc => Chk.mk hp fun _ => Chk.mk (fun h => by simp only [Bool.or_eq_true, Bool.and_eq_true, Bool.or_eq_false_iff, Bool.and_eq_false_iff, decide_eq_true_eq, decide_eq_false_iff_not, Bool.not_eq_true', Bool.not_eq_false', beq_iff_eq, beq_eq_false_iff_ne, ne_eq, ge_iff_le, gt_iff_lt, Int.not_le, Int.not_lt, Int.ofNat_le, Int.ofNat_lt] at h; omega) fun _ => ⟨fun hb => ?_, fun hb => Chk.mk (by simp only [inR]; omega) fun _ => ?_⟩, fun hc => Chk.mk (fun h => by simp only [Bool.or_eq_true, Bool.and_eq_true, Bool.or_eq_false_iff, Bool.and_eq_false_iff, decide_eq_true_eq, decide_eq_false_iff_not, Bool.not_eq_true', Bool.not_eq_false', beq_iff_eq, beq_eq_false_iff_ne, ne_eq, ge_iff_le, gt_iff_lt, Int.not_le, Int.not_lt, Int.ofNat_le, Int.ofNat_lt] at h; omega) fun _ => ⟨fun hb => ?_, fun hb => Chk.mk (by simp only [inR]; omega) fun _ => ?_⟩⟩
  · have hb' : ¬ byt s (en s w) = 10 := by simpa using hb
    rw [← hw, ← hgw, gpE_c hc, gpE_end]
    have : byt s (en s w) < 0 := by simpa [isB, hb'] using heB
    have := byt_neg.1 this
    omega
  · have hb' : byt s (en s w) = 10 := by simpa using hb
    have := byt_pos hb' (by decide)
    exact ⟨⟨en s w + 1, by omega, by rw [← gpE_w (.inr hb'), ← gpE_c hc, hgw]; exact hw⟩, by simp only; omega, (by first | exact Ent.refl _ _ | (simp only [Int.natCast_add, Int.natCast_one]; exact Ent.refl _ _))⟩
  · have hb' : ¬ byt s w = 10 := by simpa using hb
    rw [← hw, ← hgw, gpE_f (by rw [hnw]; simp [hb']) hc]
  · have hb' : byt s w = 10 := by simpa using hb
    have := byt_pos hb' (by decide)
    exact ⟨⟨w + 1, by omega, by rw [← gpE_w (.inr hb'), hgw]; exact hw⟩, by simp only; omega, (by first | exact Ent.refl _ _ | (simp only [Int.natCast_add, Int.natCast_one]; exact Ent.refl _ _))⟩
noncomputable def pe_Gap_s2 : PE := peR (fun (x : Bs × Int) => match x with | (s, p) => [.s s, .i .i64 p]) (fun (x : Bs × Int) => match x with | (s, p) => s.length ≤ 1048576) (fun (x : Bs × Int) => match x with | (s, p) => .i .i64 (gpE s (spot s p) : Nat))
theorem pe_Gap_s2_eq {s : Bs} {p : Int} : pe_Gap_s2 [.s s, .i .i64 p] = some (s.length ≤ 1048576, .i .i64 (gpE s (spot s p) : Nat)) := peR_eq (by rintro ⟨a0, a1⟩ ⟨b0, b1⟩ h; simp_all []) (s, p)
theorem pe_Gap_s2_ok : PE1 Tryz.prog 19 pe_Gap_s2 := peR_ok (by rintro ⟨s, p⟩ hp; exact Gap_s2 s p hp)
theorem Lone_i (s : Bs) (p : Int) (hp : s.length ≤ 1048576) : PF Tryz.prog 117 [.s s, .i .i64 p] (.b (lnA s (spot s p))) := by
  refine ⟨rfl, rfl, FnK.of (cf := mkCf Tryz.prog te [(53, pe_LineAt_i), (85, pe_White_i), (51, pe_byteAt), (99, pe_isBreak)] 13 0 false (fun _ => false) (kp [(0, [0, 1]), (1, [4])]) [] []) (mkCf_ok te_ok (l := [(53, pe_LineAt_i), (85, pe_White_i), (51, pe_byteAt), (99, pe_isBreak)]) (⟨pe_LineAt_i_ok, pe_White_i_ok, pe_byteAt_ok, pe_isBreak_ok, trivial⟩) mixed_ok) Tryz.func117 rfl rfl rfl (by simp [mkCf]) (by simp [mkCf]) (rs := [.tmp 4]) rfl 100000 ?_⟩
  simp only [↓XC, XV, XT, forall_const, implies_true, reduceIte, Nat.reduceAdd, Nat.reduceLT, Nat.reduceEqDiff, Nat.reduceBEq, Nat.reduceLeDiff, reduceCtorEq, Nat.reduceSub, Nat.reduceMul, Int.reduceToNat, Int.reduceLT, Int.reduceLE, TES, pe_LineAt_i_eq, pe_White_i_eq, pe_byteAt_eq, pe_isBreak_eq]
  have h0 := spot_le s p
  have hl := la_le s (spot s p)
  have hw := wh_le s (la s (spot s p)) (by omega)
  rw [spot_of s (show la s (spot s p) ≤ s.length by omega), spot_of s hw]
  exact Chk.mk hp fun _ => Chk.mk hp fun _ => Chk.mk hp fun _ => rfl
noncomputable def pe_Lone_i : PE := peR (fun (x : Bs × Int) => match x with | (s, p) => [.s s, .i .i64 p]) (fun (x : Bs × Int) => match x with | (s, p) => s.length ≤ 1048576) (fun (x : Bs × Int) => match x with | (s, p) => .b (lnA s (spot s p)))
theorem pe_Lone_i_eq {s : Bs} {p : Int} : pe_Lone_i [.s s, .i .i64 p] = some (s.length ≤ 1048576, .b (lnA s (spot s p))) := peR_eq (by rintro ⟨a0, a1⟩ ⟨b0, b1⟩ h; simp_all []) (s, p)
theorem pe_Lone_i_ok : PE1 Tryz.prog 117 pe_Lone_i := peR_ok (by rintro ⟨s, p⟩ hp; exact Lone_i s p hp)
theorem Lone_s (s : Bs) (p : Int) (hp : s.length ≤ 1048576) : PF Tryz.prog 75 [.s s, .i .i64 p] (.b (lnA s (spot s p))) := by
  refine ⟨rfl, rfl, FnK.of (cf := mkCf Tryz.prog te [(34, pe_LineAt_s), (33, pe_White_s), (68, pe_Break_s)] 12 0 false (fun _ => false) (kp [(0, [0, 1]), (1, [4])]) [] []) (mkCf_ok te_ok (l := [(34, pe_LineAt_s), (33, pe_White_s), (68, pe_Break_s)]) (⟨pe_LineAt_s_ok, pe_White_s_ok, pe_Break_s_ok, trivial⟩) mixed_ok) Tryz.func75 rfl rfl rfl (by simp [mkCf]) (by simp [mkCf]) (rs := [.tmp 4]) rfl 100000 ?_⟩
  simp only [↓XC, XV, XT, forall_const, implies_true, reduceIte, Nat.reduceAdd, Nat.reduceLT, Nat.reduceEqDiff, Nat.reduceBEq, Nat.reduceLeDiff, reduceCtorEq, Nat.reduceSub, Nat.reduceMul, Int.reduceToNat, Int.reduceLT, Int.reduceLE, TES, pe_LineAt_s_eq, pe_White_s_eq, pe_Break_s_eq]
  have h0 := spot_le s p
  have hl := la_le s (spot s p)
  rw [spot_of s (show la s (spot s p) ≤ s.length by omega)]
  exact Chk.mk hp fun _ => Chk.mk hp fun _ => Chk.mk ⟨hp, by omega⟩ fun _ => rfl
noncomputable def pe_Lone_s : PE := peR (fun (x : Bs × Int) => match x with | (s, p) => [.s s, .i .i64 p]) (fun (x : Bs × Int) => match x with | (s, p) => s.length ≤ 1048576) (fun (x : Bs × Int) => match x with | (s, p) => .b (lnA s (spot s p)))
theorem pe_Lone_s_eq {s : Bs} {p : Int} : pe_Lone_s [.s s, .i .i64 p] = some (s.length ≤ 1048576, .b (lnA s (spot s p))) := peR_eq (by rintro ⟨a0, a1⟩ ⟨b0, b1⟩ h; simp_all []) (s, p)
theorem pe_Lone_s_ok : PE1 Tryz.prog 75 pe_Lone_s := peR_ok (by rintro ⟨s, p⟩ hp; exact Lone_s s p hp)
theorem Close_s (s : Bs) (p : Int) (hp : s.length ≤ 1048576 ∧ 0 ≤ p ∧ p ≤ s.length + 9) : PF Tryz.prog 67 [.s s, .i .i64 p] (.i .i64 (if byt s (cl s p.toNat) = 62 then (cl s p.toNat : Int) + 1 else -1)) := by
  refine ⟨rfl, rfl, FnK.of (cf := mkCf Tryz.prog te [(40, pe_Gap_s)] 17 0 false (fun _ => false) (kp [(0, [0, 1]), (1, [0, 1, 8]), (2, [0, 1, 12]), (3, [4]), (4, [0, 1]), (5, [4])]) [] []) (mkCf_ok te_ok (l := [(40, pe_Gap_s)]) (⟨pe_Gap_s_ok, trivial⟩) mixed_ok) Tryz.func67 rfl rfl rfl (by simp [mkCf]) (by simp [mkCf]) (rs := [.tmp 4]) rfl 100000 ?_⟩
  simp only [↓XC, XV, XT, forall_const, implies_true, reduceIte, Nat.reduceAdd, Nat.reduceLT, Nat.reduceEqDiff, Nat.reduceBEq, Nat.reduceLeDiff, reduceCtorEq, Nat.reduceSub, Nat.reduceMul, Int.reduceToNat, Int.reduceLT, Int.reduceLE, TES, pe_Gap_s_eq]
  refine VLoops.of (ι := {q : Nat // p.toNat ≤ q ∧ q ≤ s.length + 9 ∧ cl s q = cl s p.toNat}) (fun x => ⟨[(0, .s s), (1, .i .i64 (x.1 : Nat))], []⟩) (fun x => s.length + 9 - x.1) ⟨p.toNat, Nat.le_refl _, by omega, rfl⟩ (by rw [show ((p.toNat : Nat) : Int) = p by omega]; exact Ent.refl _ _) ?_
  rintro ⟨q, hq1, hq2, hw⟩
  simp only [↓XC, XV, XT, forall_const, implies_true, reduceIte, Nat.reduceAdd, Nat.reduceLT, Nat.reduceEqDiff, Nat.reduceBEq, Nat.reduceLeDiff, reduceCtorEq, Nat.reduceSub, Nat.reduceMul, Int.reduceToNat, Int.reduceLT, Int.reduceLE, TES, pe_Gap_s_eq]
  refine Chk.mk ⟨hp.1, by omega⟩ fun _ => ⟨fun hg => ?_, fun hg => ?_⟩
  · have hg' : gap s q = false := by simpa using hg
    have hq := gap_not hg'
    rw [← byt_lt hq]
    refine Chk.mk (by omega) fun _ => ⟨fun h => Chk.mk (by simp only [inR]; omega) fun _ => ?_, fun h => Chk.mk (by simp only [inR]; omega) fun _ => ?_⟩
    · rw [← hw, cl_f (by rw [h]; simp), if_pos h]
    · exact ⟨⟨q + 1, by omega, by omega, by rw [← cl_t ⟨hg', h⟩]; exact hw⟩, by simp only; omega, (by first | exact Ent.refl _ _ | (simp only [Int.natCast_add, Int.natCast_one]; exact Ent.refl _ _))⟩
  · have hg' : gap s q = true := by simpa using hg
    rw [← hw, cl_f (by rw [hg']; simp), if_neg (by intro hb; revert hg'; unfold gap isW isB; rw [hb]; decide)]
noncomputable def pe_Close_s : PE := peR (fun (x : Bs × Int) => match x with | (s, p) => [.s s, .i .i64 p]) (fun (x : Bs × Int) => match x with | (s, p) => s.length ≤ 1048576 ∧ 0 ≤ p ∧ p ≤ s.length + 9) (fun (x : Bs × Int) => match x with | (s, p) => .i .i64 (if byt s (cl s p.toNat) = 62 then (cl s p.toNat : Int) + 1 else -1))
theorem pe_Close_s_eq {s : Bs} {p : Int} : pe_Close_s [.s s, .i .i64 p] = some (s.length ≤ 1048576 ∧ 0 ≤ p ∧ p ≤ s.length + 9, .i .i64 (if byt s (cl s p.toNat) = 62 then (cl s p.toNat : Int) + 1 else -1)) := peR_eq (by rintro ⟨a0, a1⟩ ⟨b0, b1⟩ h; simp_all []) (s, p)
theorem pe_Close_s_ok : PE1 Tryz.prog 67 pe_Close_s := peR_ok (by rintro ⟨s, p⟩ hp; exact Close_s s p hp)
theorem TagAt_i (s : Bs) (p : Int) (hp : s.length ≤ 1048576) : PF Tryz.prog 82 [.s s, .i .i64 p] (.tup [.s (tgA s (spot s p)).1, .i .i64 (tgA s (spot s p)).2.1, .b (tgA s (spot s p)).2.2]) := by
  refine ⟨rfl, rfl, FnK.of (cf := mkCf Tryz.prog te [(28, pe_spot_i), (51, pe_byteAt), (100, pe_stretch_i), (80, pe_gapAt)] 59 0 false (fun _ => false) (kp [(0, [0, 1]), (1, [0, 1]), (2, [0, 1, 15]), (3, [4, 5, 6]), (4, [0, 1, 7]), (5, [0, 1, 7, 23]), (6, [0, 1, 7, 8]), (7, [0, 1, 7, 8, 35]), (8, [0, 1, 7, 8]), (9, [0, 1, 7, 8, 47]), (10, [0, 1, 7]), (11, [0, 1, 7, 53]), (12, [4, 5, 6]), (13, [4, 5, 6])]) [] []) (mkCf_ok te_ok (l := [(28, pe_spot_i), (51, pe_byteAt), (100, pe_stretch_i), (80, pe_gapAt)]) (⟨pe_spot_i_ok, pe_byteAt_ok, pe_stretch_i_ok, pe_gapAt_ok, trivial⟩) mixed_ok) Tryz.func82 rfl rfl rfl (by simp [mkCf]) (by simp [mkCf]) (rs := [.tmp 4, .tmp 5, .tmp 6]) rfl 100000 ?_⟩
  simp only [↓XC, XV, XT, forall_const, implies_true, reduceIte, Nat.reduceAdd, Nat.reduceLT, Nat.reduceEqDiff, Nat.reduceBEq, Nat.reduceLeDiff, reduceCtorEq, Nat.reduceSub, Nat.reduceMul, Int.reduceToNat, Int.reduceLT, Int.reduceLE, TES, pe_spot_i_eq, pe_byteAt_eq, pe_stretch_i_eq, pe_gapAt_eq]
  have h0 := spot_le s p
  have hsp := spot_of s h0
  generalize spot s p = a at *
  rw [hsp]
  refine Chk.mk hp fun _ => ⟨fun h => ?_, fun h => ?_⟩
  · rw [tgA_f (by rintro ⟨h2, _⟩; simp [h2] at h)]
  have h33 : byt s a = 33 := by simpa using h
  have hpl := tgE_place h33
  have hlt := byt_pos h33 (by decide)
  have hst := stc_33 h33
  have hstl := stc_le s a h0
  rw [show byt s (spot s ((a : Int) + 1)) = byt s (a + 1) by rw [byt_spot (by omega)]; rfl]
  refine Chk.mk ⟨hp, by omega, by omega⟩ fun _ => Chk.mk (by simp only [inR]; omega) fun _ => Chk.mk hp fun _ => ⟨fun h60 => Chk.mk (by simp only [inR]; omega) fun _ => ?_, fun h60 => ?_⟩
  · refine VLoops.of (ι := {q : Nat // a + 2 ≤ q ∧ q ≤ s.length + 1 ∧ cl s q = cl s (a + 2)}) (fun x => ⟨[(0, .s s), (1, .i .i64 (a : Nat)), (7, .i .i64 (stc s a : Nat)), (8, .i .i64 (x.1 : Nat))], []⟩) (fun x => s.length + 1 - x.1) ⟨a + 2, Nat.le_refl _, by omega, rfl⟩ (by simp only [Int.natCast_add]; exact Ent.refl _ _) ?_
    rintro ⟨q, hq1, hq2, hw⟩
    simp only [↓XC, XV, XT, forall_const, implies_true, reduceIte, Nat.reduceAdd, Nat.reduceLT, Nat.reduceEqDiff, Nat.reduceBEq, Nat.reduceLeDiff, reduceCtorEq, Nat.reduceSub, Nat.reduceMul, Int.reduceToNat, Int.reduceLT, Int.reduceLE, TES, pe_byteAt_eq, pe_gapAt_eq]
    rw [show byt s (spot s (q : Int)) = byt s q by rw [byt_spot (by omega)]; rfl]
    have hd : (!decide (byt s q = 62) && !gap s q) = decide (gap s q = false ∧ ¬ byt s q = 62) := by cases hg : gap s q <;> by_cases hb : byt s q = 62 <;> simp [hb]
    rw [hd]
    refine Chk.mk hp fun _ => Chk.mk (fun h => ⟨⟨h, h⟩, hp, by omega⟩) fun _ => ⟨fun h => Chk.mk (by simp only [inR]; omega) fun _ => ?_, fun h => Chk.mk hp fun _ => Chk.mk (fun _ => by simp only [inR]; omega) fun _ => ⟨fun hx => Chk.mk (by simp only [inR]; omega) fun _ => ?_, fun hx => ?_⟩⟩
    · have h' := of_decide_eq_true h
      have := gap_not h'.1
      exact ⟨⟨q + 1, by omega, by omega, by rw [← cl_t h']; exact hw⟩, by simp only; omega, (by first | exact Ent.refl _ _ | (simp only [Int.natCast_add, Int.natCast_one]; exact Ent.refl _ _))⟩
    · have hc := cl_f (of_decide_eq_false h)
      simp only [Bool.or_eq_true, Bool.and_eq_true, Bool.or_eq_false_iff, Bool.and_eq_false_iff, decide_eq_true_eq, decide_eq_false_iff_not, Bool.not_eq_true', Bool.not_eq_false', beq_iff_eq, beq_eq_false_iff_ne, ne_eq, ge_iff_le, gt_iff_lt, Int.not_le, Int.not_lt, Int.ofNat_le, Int.ofNat_lt] at hx
      have hql := byt_pos hx.1 (by decide)
      have hE : tgE s a = q + 1 := by unfold tgE; rw [if_pos ⟨h60, by rw [← hw, hc]; exact hx.1, by rw [← hw, hc]; omega⟩, ← hw, hc]
      have e4 : ((q : Int) + 1).toNat = q + 1 := by omega
      rw [e4]
      refine Chk.mk (by simp only [inR]; omega) fun _ => ⟨fun h => ?_, fun h => Chk.mk (by omega) fun _ => ?_⟩
      · rw [tgA_f (by rintro ⟨_, h2⟩; rw [hE] at h2; omega)]
      · rw [tgA_t ⟨h33, by rw [hE]; omega⟩, hE]; rfl
    · have hc := cl_f (of_decide_eq_false h)
      simp only [Bool.or_eq_true, Bool.and_eq_true, Bool.or_eq_false_iff, Bool.and_eq_false_iff, decide_eq_true_eq, decide_eq_false_iff_not, Bool.not_eq_true', Bool.not_eq_false', beq_iff_eq, beq_eq_false_iff_ne, ne_eq, ge_iff_le, gt_iff_lt, Int.not_le, Int.not_lt, Int.ofNat_le, Int.ofNat_lt] at hx
      have hE : tgE s a = stc s a := by unfold tgE; rw [if_neg (by rintro ⟨_, h2, h3⟩; rw [← hw, hc] at h2 h3; omega)]
      refine Chk.mk (by simp only [inR]; omega) fun _ => ⟨fun h => ?_, fun h => Chk.mk (by omega) fun _ => ?_⟩
      · rw [tgA_f (by rintro ⟨_, h2⟩; rw [hE] at h2; omega)]
      · rw [tgA_t ⟨h33, by rw [hE]; omega⟩, hE]; rfl
  · have hE : tgE s a = stc s a := by unfold tgE; rw [if_neg (fun h => h60 h.1)]
    refine Chk.mk (by simp only [inR]; omega) fun _ => ⟨fun h => ?_, fun h => Chk.mk (by omega) fun _ => ?_⟩
    · rw [tgA_f (by rintro ⟨_, h2⟩; rw [hE] at h2; omega)]
    · rw [tgA_t ⟨h33, by rw [hE]; omega⟩, hE]; rfl
noncomputable def pe_TagAt_i : PE := peR (fun (x : Bs × Int) => match x with | (s, p) => [.s s, .i .i64 p]) (fun (x : Bs × Int) => match x with | (s, p) => s.length ≤ 1048576) (fun (x : Bs × Int) => match x with | (s, p) => .tup [.s (tgA s (spot s p)).1, .i .i64 (tgA s (spot s p)).2.1, .b (tgA s (spot s p)).2.2])
theorem pe_TagAt_i_eq {s : Bs} {p : Int} : pe_TagAt_i [.s s, .i .i64 p] = some (s.length ≤ 1048576, .tup [.s (tgA s (spot s p)).1, .i .i64 (tgA s (spot s p)).2.1, .b (tgA s (spot s p)).2.2]) := peR_eq (by rintro ⟨a0, a1⟩ ⟨b0, b1⟩ h; simp_all []) (s, p)
theorem pe_TagAt_i_ok : PE1 Tryz.prog 82 pe_TagAt_i := peR_ok (by rintro ⟨s, p⟩ hp; exact TagAt_i s p hp)
theorem TagAt_s (s : Bs) (p : Int) (hp : s.length ≤ 1048576) : PF Tryz.prog 39 [.s s, .i .i64 p] (.tup [.s (tgA s (spot s p)).1, .i .i64 (tgA s (spot s p)).2.1, .b (tgA s (spot s p)).2.2]) := by
  refine ⟨rfl, rfl, FnK.of (cf := mkCf Tryz.prog te [(9, pe_spot_s), (66, pe_stretch_s), (67, pe_Close_s)] 55 0 false (fun _ => false) (kp [(0, [0, 1]), (1, [0, 1]), (2, [0, 1, 21]), (3, [4, 5, 6]), (4, [0, 1, 7]), (5, [0, 1, 7, 36]), (6, [0, 1, 7, 8]), (7, [0, 1, 7, 8, 44]), (8, [0, 1, 7]), (9, [0, 1, 7, 49]), (10, [4, 5, 6]), (11, [4, 5, 6])]) [] []) (mkCf_ok te_ok (l := [(9, pe_spot_s), (66, pe_stretch_s), (67, pe_Close_s)]) (⟨pe_spot_s_ok, pe_stretch_s_ok, pe_Close_s_ok, trivial⟩) mixed_ok) Tryz.func39 rfl rfl rfl (by simp [mkCf]) (by simp [mkCf]) (rs := [.tmp 4, .tmp 5, .tmp 6]) rfl 100000 ?_⟩
  simp only [↓XC, XV, XT, forall_const, implies_true, reduceIte, Nat.reduceAdd, Nat.reduceLT, Nat.reduceEqDiff, Nat.reduceBEq, Nat.reduceLeDiff, reduceCtorEq, Nat.reduceSub, Nat.reduceMul, Int.reduceToNat, Int.reduceLT, Int.reduceLE, TES, pe_spot_s_eq, pe_stretch_s_eq, pe_Close_s_eq]
  have h0 := spot_le s p
  generalize spot s p = a at *
  refine Chk.mk (fun h => by simp only [Bool.or_eq_true, Bool.and_eq_true, Bool.or_eq_false_iff, Bool.and_eq_false_iff, decide_eq_true_eq, decide_eq_false_iff_not, Bool.not_eq_true', Bool.not_eq_false', beq_iff_eq, beq_eq_false_iff_ne, ne_eq, ge_iff_le, gt_iff_lt, Int.not_le, Int.not_lt, Int.ofNat_le, Int.ofNat_lt] at h; omega) fun _ => ⟨fun h => ?_, fun h => ?_⟩
  · rw [tgA_f]
    rintro ⟨h2, _⟩
    have hlt := byt_pos h2 (by decide)
    rw [byt_lt hlt] at h2
    rw [h2, decide_eq_false (show ¬ (a : Int) ≥ s.length by omega)] at h
    simp at h
  have hlt : a < s.length := by simp only [Bool.or_eq_true, Bool.and_eq_true, Bool.or_eq_false_iff, Bool.and_eq_false_iff, decide_eq_true_eq, decide_eq_false_iff_not, Bool.not_eq_true', Bool.not_eq_false', beq_iff_eq, beq_eq_false_iff_ne, ne_eq, ge_iff_le, gt_iff_lt, Int.not_le, Int.not_lt, Int.ofNat_le, Int.ofNat_lt] at h; omega
  have h33 : byt s a = 33 := by rw [byt_lt hlt]; simp only [Bool.or_eq_true, Bool.and_eq_true, Bool.or_eq_false_iff, Bool.and_eq_false_iff, decide_eq_true_eq, decide_eq_false_iff_not, Bool.not_eq_true', Bool.not_eq_false', beq_iff_eq, beq_eq_false_iff_ne, ne_eq, ge_iff_le, gt_iff_lt, Int.not_le, Int.not_lt, Int.ofNat_le, Int.ofNat_lt] at h; omega
  have hpl := tgE_place h33
  have hst := stc_33 h33
  have hstl := stc_le s a h0
  have e2 : ((a : Int) + 1).toNat = a + 1 := by omega
  have e3 : ((a : Int) + 2).toNat = a + 2 := by omega
  rw [e2, e3]
  have hd : (decide ((a : Int) + 1 < s.length) && decide (((s.getD (a + 1) 0).toNat : Int) = 60)) = decide (byt s (a + 1) = 60) := by
    rcases Nat.lt_or_ge (a + 1) s.length with h6 | h6
    · rw [← byt_lt h6, decide_eq_true (show (a : Int) + 1 < s.length by omega), Bool.true_and]
    · rw [byt_ge h6, decide_eq_false (show ¬ (a : Int) + 1 < s.length by omega)]; rfl
  rw [hd]
  have hcg := cl_ge s (a + 2)
  refine Chk.mk ⟨hp, by omega, by omega⟩ fun _ => Chk.mk (by simp only [inR]; omega) fun _ => Chk.mk (fun _ => by simp only [inR]; omega) fun _ => Chk.mk (fun h => by omega) fun _ => ⟨fun h60 => Chk.mk (by simp only [inR]; omega) fun _ => Chk.mk ⟨hp, by omega, by omega⟩ fun _ => Chk.mk (by simp only [inR]; omega) fun _ => ?_, fun h60 => ?_⟩
  · have h60' := of_decide_eq_true h60
    by_cases hc : byt s (cl s (a + 2)) = 62
    · rw [if_pos hc]
      have hcl := byt_pos hc (by decide)
      refine ⟨fun hx => ?_, fun hx => ?_⟩
      · have hE : tgE s a = cl s (a + 2) + 1 := by unfold tgE; rw [if_pos ⟨h60', hc, by omega⟩]
        have e4 : ((cl s (a + 2) : Int) + 1).toNat = cl s (a + 2) + 1 := by omega
        rw [e4]
        refine Chk.mk (by simp only [inR]; omega) fun _ => ⟨fun h => ?_, fun h => Chk.mk (by omega) fun _ => ?_⟩
        · rw [tgA_f (by rintro ⟨_, h2⟩; rw [hE] at h2; omega)]
        · rw [tgA_t ⟨h33, by rw [hE]; omega⟩, hE]; rfl
      · have hE : tgE s a = stc s a := by unfold tgE; rw [if_neg (by rintro ⟨_, _, h2⟩; omega)]
        refine Chk.mk (by simp only [inR]; omega) fun _ => ⟨fun h => ?_, fun h => Chk.mk (by omega) fun _ => ?_⟩
        · rw [tgA_f (by rintro ⟨_, h2⟩; rw [hE] at h2; omega)]
        · rw [tgA_t ⟨h33, by rw [hE]; omega⟩, hE]; rfl
    · rw [if_neg hc]
      refine ⟨fun hx => by omega, fun hx => ?_⟩
      have hE : tgE s a = stc s a := by unfold tgE; rw [if_neg (fun h => hc h.2.1)]
      refine Chk.mk (by simp only [inR]; omega) fun _ => ⟨fun h => ?_, fun h => Chk.mk (by omega) fun _ => ?_⟩
      · rw [tgA_f (by rintro ⟨_, h2⟩; rw [hE] at h2; omega)]
      · rw [tgA_t ⟨h33, by rw [hE]; omega⟩, hE]; rfl
  · have hE : tgE s a = stc s a := by unfold tgE; rw [if_neg (fun h => of_decide_eq_false h60 h.1)]
    refine Chk.mk (by simp only [inR]; omega) fun _ => ⟨fun h => ?_, fun h => Chk.mk (by omega) fun _ => ?_⟩
    · rw [tgA_f (by rintro ⟨_, h2⟩; rw [hE] at h2; omega)]
    · rw [tgA_t ⟨h33, by rw [hE]; omega⟩, hE]; rfl
noncomputable def pe_TagAt_s : PE := peR (fun (x : Bs × Int) => match x with | (s, p) => [.s s, .i .i64 p]) (fun (x : Bs × Int) => match x with | (s, p) => s.length ≤ 1048576) (fun (x : Bs × Int) => match x with | (s, p) => .tup [.s (tgA s (spot s p)).1, .i .i64 (tgA s (spot s p)).2.1, .b (tgA s (spot s p)).2.2])
theorem pe_TagAt_s_eq {s : Bs} {p : Int} : pe_TagAt_s [.s s, .i .i64 p] = some (s.length ≤ 1048576, .tup [.s (tgA s (spot s p)).1, .i .i64 (tgA s (spot s p)).2.1, .b (tgA s (spot s p)).2.2]) := peR_eq (by rintro ⟨a0, a1⟩ ⟨b0, b1⟩ h; simp_all []) (s, p)
theorem pe_TagAt_s_ok : PE1 Tryz.prog 39 pe_TagAt_s := peR_ok (by rintro ⟨s, p⟩ hp; exact TagAt_s s p hp)
end Go.T70
