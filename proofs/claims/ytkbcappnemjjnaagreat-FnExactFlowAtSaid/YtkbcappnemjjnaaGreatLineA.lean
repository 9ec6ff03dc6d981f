/- Own text: part LineA. -/
import Derived.Test.YtkbcappnemjjnaaGreatBaseE
import Derived.Test.YtkbcappnemjjnaaGreatTypes2
import Derived.Test.YtkbcappnemjjnaaGreatTextA
import Derived.Test.YtkbcappnemjjnaaGreatEventA
set_option linter.unusedVariables false
set_option linter.unusedSimpArgs false
namespace Go.T60
open Go.Proofs Go.Vg Go.RowKit Go.TT Go.Pl Go.T8 Go.T12
set_option linter.unusedVariables false
set_option linter.unusedSimpArgs false
set_option maxRecDepth 10000
set_option maxHeartbeats 4000000
theorem lixb (s : Bs) (c : Int) (hp : s.length ≤ 1048576) : PF Tryz.prog 97 [.s s, .i .u8 c] (.i .i64 (lix s c)) := by
  refine ⟨rfl, rfl, FnK.of (cf := mkCf Tryz.prog te [] 19 0 false (fun _ => false) (kp [(0, [0, 1]), (1, [0, 1, 5]), (2, [0, 1, 5, 10]), (3, [0, 1, 5]), (4, [0, 1, 5, 17]), (5, [4]), (6, [4])]) [] []) (mkCf_ok te_ok (l := []) (trivial) mixed_ok) Tryz.func97 rfl rfl rfl (by simp [mkCf]) (by simp [mkCf]) (rs := [.tmp 4]) rfl 100000 ?_⟩
  simp only [↓XC, XV, XT, forall_const, implies_true, reduceIte, Nat.reduceAdd, Nat.reduceLT, Nat.reduceEqDiff, Nat.reduceBEq, Nat.reduceLeDiff, reduceCtorEq, Nat.reduceSub, Nat.reduceMul, Int.reduceToNat, Int.reduceLT, Int.reduceLE, TES]
  refine Chk.mk (by simp only [inR]; omega) fun _ => ?_
  refine VLoops.of (ι := {i : Nat // i ≤ s.length ∧ lixU s c i = lix s c}) (fun x => ⟨[(0, .s s), (1, .i .u8 c), (5, .i .i64 ((x.1 : Nat) - 1))], []⟩) (fun x => x.1) ⟨s.length, Nat.le_refl _, rfl⟩ (Ent.refl _ _) ?_
  rintro ⟨i, hi, hj⟩
  simp only [↓XC, XV, XT, forall_const, implies_true, reduceIte, Nat.reduceAdd, Nat.reduceLT, Nat.reduceEqDiff, Nat.reduceBEq, Nat.reduceLeDiff, reduceCtorEq, Nat.reduceSub, Nat.reduceMul, Int.reduceToNat, Int.reduceLT, Int.reduceLE, TES]
  refine ⟨fun h => ?_, fun h => ?_⟩
  · obtain ⟨k, rfl⟩ : ∃ k, i = k + 1 := ⟨i - 1, by omega⟩
    have e1 : (((k + 1 : Nat) : Int) - 1).toNat = k := by omega
    have e2 : ((k + 1 : Nat) : Int) - 1 = (k : Nat) := by omega
    rw [e1, e2]
    refine Chk.mk (by omega) fun _ => ⟨fun h1 => ?_, fun h1 => Chk.mk (by simp only [inR]; omega) fun _ => ⟨⟨k, by omega, ?_⟩, by simp only; omega, Ent.refl _ _⟩⟩
    · rw [← hj, lixU, if_pos h1]
    · rw [← hj]; conv => rhs; rw [lixU, if_neg h1]
  · obtain rfl : i = 0 := by omega
    rw [← hj]; rfl
noncomputable def pe_lixb : PE := peR (fun (x : Bs × Int) => match x with | (s, c) => [.s s, .i .u8 c]) (fun (x : Bs × Int) => match x with | (s, c) => s.length ≤ 1048576) (fun (x : Bs × Int) => match x with | (s, c) => .i .i64 (lix s c))
theorem pe_lixb_eq {s : Bs} {c : Int} : pe_lixb [.s s, .i .u8 c] = some (s.length ≤ 1048576, .i .i64 (lix s c)) := peR_eq (by rintro ⟨a0, a1⟩ ⟨b0, b1⟩ h; simp_all []) (s, c)
theorem pe_lixb_ok : PE1 Tryz.prog 97 pe_lixb := peR_ok (by rintro ⟨s, c⟩ hp; exact lixb s c hp)
theorem lixs (s : Bs) (c : Int) (hp : s.length ≤ 1048576) : PF Tryz.prog 78 [.s s, .i .u8 c] (.i .i64 (lix s c)) := by
  refine ⟨rfl, rfl, FnK.of (cf := mkCf Tryz.prog te [(97, pe_lixb)] 8 0 false (fun _ => false) (kp [(0, [0, 1]), (1, [4])]) [] []) (mkCf_ok te_ok (l := [(97, pe_lixb)]) (⟨pe_lixb_ok, trivial⟩) mixed_ok) Tryz.func78 rfl rfl rfl (by simp [mkCf]) (by simp [mkCf]) (rs := [.tmp 4]) rfl 100000 ?_⟩
  simp only [↓XC, XV, XT, forall_const, implies_true, reduceIte, Nat.reduceAdd, Nat.reduceLT, Nat.reduceEqDiff, Nat.reduceBEq, Nat.reduceLeDiff, reduceCtorEq, Nat.reduceSub, Nat.reduceMul, Int.reduceToNat, Int.reduceLT, Int.reduceLE, TES, pe_lixb_eq]
  exact Chk.mk hp fun _ => trivial
noncomputable def pe_lixs : PE := peR (fun (x : Bs × Int) => match x with | (s, c) => [.s s, .i .u8 c]) (fun (x : Bs × Int) => match x with | (s, c) => s.length ≤ 1048576) (fun (x : Bs × Int) => match x with | (s, c) => .i .i64 (lix s c))
theorem pe_lixs_eq {s : Bs} {c : Int} : pe_lixs [.s s, .i .u8 c] = some (s.length ≤ 1048576, .i .i64 (lix s c)) := peR_eq (by rintro ⟨a0, a1⟩ ⟨b0, b1⟩ h; simp_all []) (s, c)
theorem pe_lixs_ok : PE1 Tryz.prog 78 pe_lixs := peR_ok (by rintro ⟨s, c⟩ hp; exact lixs s c hp)
theorem LineAt_i (s : Bs) (p : Int) (hp : s.length ≤ 1048576) : PF Tryz.prog 53 [.s s, .i .i64 p] (.i .i64 (la s (spot s p) : Nat)) := by
  refine ⟨rfl, rfl, FnK.of (cf := mkCf Tryz.prog te [(28, pe_spot_i), (78, pe_lixs)] 12 0 false (fun _ => false) (kp [(0, [0, 1]), (1, [4])]) [] []) (mkCf_ok te_ok (l := [(28, pe_spot_i), (78, pe_lixs)]) (⟨pe_spot_i_ok, pe_lixs_ok, trivial⟩) mixed_ok) Tryz.func53 rfl rfl rfl (by simp [mkCf]) (by simp [mkCf]) (rs := [.tmp 4]) rfl 100000 ?_⟩
  simp only [↓XC, XV, XT, forall_const, implies_true, reduceIte, Nat.reduceAdd, Nat.reduceLT, Nat.reduceEqDiff, Nat.reduceBEq, Nat.reduceLeDiff, reduceCtorEq, Nat.reduceSub, Nat.reduceMul, Int.reduceToNat, Int.reduceLT, Int.reduceLE, TES, pe_spot_i_eq, pe_lixs_eq]
  have h0 := spot_le s p
  have h1 := lix_take h0
  have h2 := la_le s (spot s p)
  rw [h1]
  exact Chk.mk (by omega) fun _ => Chk.mk (by simp only [List.length_take]; omega) fun _ => Chk.mk (by simp only [inR]; omega) fun _ => rfl
noncomputable def pe_LineAt_i : PE := peR (fun (x : Bs × Int) => match x with | (s, p) => [.s s, .i .i64 p]) (fun (x : Bs × Int) => match x with | (s, p) => s.length ≤ 1048576) (fun (x : Bs × Int) => match x with | (s, p) => .i .i64 (la s (spot s p) : Nat))
theorem pe_LineAt_i_eq {s : Bs} {p : Int} : pe_LineAt_i [.s s, .i .i64 p] = some (s.length ≤ 1048576, .i .i64 (la s (spot s p) : Nat)) := peR_eq (by rintro ⟨a0, a1⟩ ⟨b0, b1⟩ h; simp_all []) (s, p)
theorem pe_LineAt_i_ok : PE1 Tryz.prog 53 pe_LineAt_i := peR_ok (by rintro ⟨s, p⟩ hp; exact LineAt_i s p hp)
theorem LineAt_s (s : Bs) (p : Int) (hp : s.length ≤ 1048576) : PF Tryz.prog 34 [.s s, .i .i64 p] (.i .i64 (la s (spot s p) : Nat)) := by
  refine ⟨rfl, rfl, FnK.of (cf := mkCf Tryz.prog te [(9, pe_spot_s)] 20 0 false (fun _ => false) (kp [(0, [0, 1]), (1, [0, 1]), (2, [0, 1, 16]), (3, [0, 1]), (4, [4])]) [] []) (mkCf_ok te_ok (l := [(9, pe_spot_s)]) (⟨pe_spot_s_ok, trivial⟩) mixed_ok) Tryz.func34 rfl rfl rfl (by simp [mkCf]) (by simp [mkCf]) (rs := [.tmp 4]) rfl 100000 ?_⟩
  simp only [↓XC, XV, XT, forall_const, implies_true, reduceIte, Nat.reduceAdd, Nat.reduceLT, Nat.reduceEqDiff, Nat.reduceBEq, Nat.reduceLeDiff, reduceCtorEq, Nat.reduceSub, Nat.reduceMul, Int.reduceToNat, Int.reduceLT, Int.reduceLE, TES, pe_spot_s_eq]
  refine VLoops.of (ι := {q : Nat // q ≤ s.length ∧ la s q = la s (spot s p)}) (fun x => ⟨[(0, .s s), (1, .i .i64 (x.1 : Nat))], []⟩) (fun x => x.1) ⟨spot s p, spot_le s p, rfl⟩ (Ent.refl _ _) ?_
  rintro ⟨q, hq, hw⟩
  simp only [↓XC, XV, XT, forall_const, implies_true, reduceIte, Nat.reduceAdd, Nat.reduceLT, Nat.reduceEqDiff, Nat.reduceBEq, Nat.reduceLeDiff, reduceCtorEq, Nat.reduceSub, Nat.reduceMul, Int.reduceToNat, Int.reduceLT, Int.reduceLE, TES]
  refine Chk.mk (fun h => by simp only [inR]; omega) fun _ => Chk.mk (fun h => by omega) fun _ => ⟨fun h => ?_, fun h => ?_⟩
  · have hq0 : 0 < q := by simp at h; omega
    obtain ⟨k, rfl⟩ : ∃ k, q = k + 1 := ⟨q - 1, by omega⟩
    have e1 : (((k + 1 : Nat) : Int) - 1).toNat = k := by omega
    have e2 : ((k + 1 : Nat) : Int) - 1 = (k : Nat) := by omega
    rw [e1] at h
    rw [e2]
    refine Chk.mk (by simp only [inR]; omega) fun _ => ⟨⟨k, by omega, ?_⟩, by simp only; omega, Ent.refl _ _⟩
    rw [← la_f (by omega) (by simp only [Bool.or_eq_true, Bool.and_eq_true, Bool.or_eq_false_iff, Bool.and_eq_false_iff, decide_eq_true_eq, decide_eq_false_iff_not, Bool.not_eq_true', Bool.not_eq_false', beq_iff_eq, beq_eq_false_iff_ne, ne_eq, ge_iff_le, gt_iff_lt, Int.not_le, Int.not_lt, Int.ofNat_le, Int.ofNat_lt] at h; omega)]; exact hw
  · rw [← hw]
    rcases Nat.eq_zero_or_pos q with h0 | h0
    · subst h0; rfl
    · obtain ⟨k, rfl⟩ : ∃ k, q = k + 1 := ⟨q - 1, by omega⟩
      have e1 : (((k + 1 : Nat) : Int) - 1).toNat = k := by omega
      rw [e1] at h
      rw [la_t (by omega) (by simp only [Bool.or_eq_true, Bool.and_eq_true, Bool.or_eq_false_iff, Bool.and_eq_false_iff, decide_eq_true_eq, decide_eq_false_iff_not, Bool.not_eq_true', Bool.not_eq_false', beq_iff_eq, beq_eq_false_iff_ne, ne_eq, ge_iff_le, gt_iff_lt, Int.not_le, Int.not_lt, Int.ofNat_le, Int.ofNat_lt] at h; omega)]
noncomputable def pe_LineAt_s : PE := peR (fun (x : Bs × Int) => match x with | (s, p) => [.s s, .i .i64 p]) (fun (x : Bs × Int) => match x with | (s, p) => s.length ≤ 1048576) (fun (x : Bs × Int) => match x with | (s, p) => .i .i64 (la s (spot s p) : Nat))
theorem pe_LineAt_s_eq {s : Bs} {p : Int} : pe_LineAt_s [.s s, .i .i64 p] = some (s.length ≤ 1048576, .i .i64 (la s (spot s p) : Nat)) := peR_eq (by rintro ⟨a0, a1⟩ ⟨b0, b1⟩ h; simp_all []) (s, p)
theorem pe_LineAt_s_ok : PE1 Tryz.prog 34 pe_LineAt_s := peR_ok (by rintro ⟨s, p⟩ hp; exact LineAt_s s p hp)
theorem MarkAt_i (s : Bs) (p : Int) (hp : s.length ≤ 1048576) : PF Tryz.prog 56 [.s s, .i .i64 p] (.i .i64 (mkA s (spot s p))) := by
  refine ⟨rfl, rfl, FnK.of (cf := mkCf Tryz.prog te [(28, pe_spot_i), (53, pe_LineAt_i), (80, pe_gapAt)] 36 0 false (fun _ => false) (kp [(0, [0, 1]), (1, [0, 1]), (2, [0, 1, 26]), (3, [4]), (4, [31]), (5, [31, 32]), (6, [4]), (7, [34]), (8, [4]), (9, [4])]) [] []) (mkCf_ok te_ok (l := [(28, pe_spot_i), (53, pe_LineAt_i), (80, pe_gapAt)]) (⟨pe_spot_i_ok, pe_LineAt_i_ok, pe_gapAt_ok, trivial⟩) mixed_ok) Tryz.func56 rfl rfl rfl (by simp [mkCf]) (by simp [mkCf]) (rs := [.tmp 4]) rfl 100000 ?_⟩
  simp only [↓XC, XV, XT, forall_const, implies_true, reduceIte, Nat.reduceAdd, Nat.reduceLT, Nat.reduceEqDiff, Nat.reduceBEq, Nat.reduceLeDiff, reduceCtorEq, Nat.reduceSub, Nat.reduceMul, Int.reduceToNat, Int.reduceLT, Int.reduceLE, TES, pe_spot_i_eq, pe_LineAt_i_eq, pe_gapAt_eq]
  have h0 := spot_le s p
  rw [spot_of s h0]
  have e0 : ((spot s p : Nat) + 3 : Int).toNat = spot s p + 3 := by omega
  rw [e0]
  generalize spot s p = q at *
  have hA : (!decide ((la s q : Int) = (q : Int)) || decide ((s.length : Int) - (q : Int) < 3) || !gap s (q + 3)) = !decide (la s q = q ∧ q + 3 ≤ s.length ∧ gap s (q + 3) = true) := by
    rw [Bool.eq_iff_iff]
    simp only [Bool.or_eq_true, Bool.not_eq_true', decide_eq_true_eq, decide_eq_false_iff_not]
    cases gap s (q + 3) <;> simp <;> omega
  rw [hA]
  refine Chk.mk hp fun _ => Chk.mk (fun _ => by simp only [inR]; omega) fun _ => Chk.mk (fun _ => by simp only [inR]; omega) fun _ => Chk.mk (fun h => ⟨⟨h, h⟩, hp, by omega⟩) fun _ => ⟨fun h => ?_, fun h => ?_⟩
  · rw [mkA_bad (by intro hx; rw [decide_eq_true hx] at h; cases h)]
  · have h1 : la s q = q ∧ q + 3 ≤ s.length ∧ gap s (q + 3) = true := by simpa using h
    refine Chk.mk (by simp only [inR]; omega) fun _ => Chk.mk (by omega) fun _ => ?_
    unfold mkA sub
    rw [if_pos h1]
    refine ⟨fun h2 => by rw [if_pos h2], fun h2 => ⟨fun h3 => by rw [if_neg h2, if_pos h3], fun h3 => by rw [if_neg h2, if_neg h3]⟩⟩
noncomputable def pe_MarkAt_i : PE := peR (fun (x : Bs × Int) => match x with | (s, p) => [.s s, .i .i64 p]) (fun (x : Bs × Int) => match x with | (s, p) => s.length ≤ 1048576) (fun (x : Bs × Int) => match x with | (s, p) => .i .i64 (mkA s (spot s p)))
theorem pe_MarkAt_i_eq {s : Bs} {p : Int} : pe_MarkAt_i [.s s, .i .i64 p] = some (s.length ≤ 1048576, .i .i64 (mkA s (spot s p))) := peR_eq (by rintro ⟨a0, a1⟩ ⟨b0, b1⟩ h; simp_all []) (s, p)
theorem pe_MarkAt_i_ok : PE1 Tryz.prog 56 pe_MarkAt_i := peR_ok (by rintro ⟨s, p⟩ hp; exact MarkAt_i s p hp)
theorem MarkAt_s (s : Bs) (p : Int) (hp : s.length ≤ 1048576) : PF Tryz.prog 37 [.s s, .i .i64 p] (.i .i64 (mkA s (spot s p))) := by
  refine ⟨rfl, rfl, FnK.of (cf := mkCf Tryz.prog te [(9, pe_spot_s), (34, pe_LineAt_s), (40, pe_Gap_s)] 36 0 false (fun _ => false) (kp [(0, [0, 1]), (1, [0, 1]), (2, [0, 1, 26]), (3, [4]), (4, [31]), (5, [31, 32]), (6, [4]), (7, [34]), (8, [4]), (9, [4])]) [] []) (mkCf_ok te_ok (l := [(9, pe_spot_s), (34, pe_LineAt_s), (40, pe_Gap_s)]) (⟨pe_spot_s_ok, pe_LineAt_s_ok, pe_Gap_s_ok, trivial⟩) mixed_ok) Tryz.func37 rfl rfl rfl (by simp [mkCf]) (by simp [mkCf]) (rs := [.tmp 4]) rfl 100000 ?_⟩
  simp only [↓XC, XV, XT, forall_const, implies_true, reduceIte, Nat.reduceAdd, Nat.reduceLT, Nat.reduceEqDiff, Nat.reduceBEq, Nat.reduceLeDiff, reduceCtorEq, Nat.reduceSub, Nat.reduceMul, Int.reduceToNat, Int.reduceLT, Int.reduceLE, TES, pe_spot_s_eq, pe_LineAt_s_eq, pe_Gap_s_eq]
  have h0 := spot_le s p
  rw [spot_of s h0]
  have e0 : ((spot s p : Nat) + 3 : Int).toNat = spot s p + 3 := by omega
  rw [e0]
  generalize spot s p = q at *
  have hA : (!decide ((la s q : Int) = (q : Int)) || decide ((s.length : Int) - (q : Int) < 3) || !gap s (q + 3)) = !decide (la s q = q ∧ q + 3 ≤ s.length ∧ gap s (q + 3) = true) := by
    rw [Bool.eq_iff_iff]
    simp only [Bool.or_eq_true, Bool.not_eq_true', decide_eq_true_eq, decide_eq_false_iff_not]
    cases gap s (q + 3) <;> simp <;> omega
  rw [hA]
  refine Chk.mk hp fun _ => Chk.mk (fun _ => by simp only [inR]; omega) fun _ => Chk.mk (fun _ => by simp only [inR]; omega) fun _ => Chk.mk (fun h => ⟨⟨h, h⟩, hp, by omega⟩) fun _ => ⟨fun h => ?_, fun h => ?_⟩
  · rw [mkA_bad (by intro hx; rw [decide_eq_true hx] at h; cases h)]
  · have h1 : la s q = q ∧ q + 3 ≤ s.length ∧ gap s (q + 3) = true := by simpa using h
    refine Chk.mk (by simp only [inR]; omega) fun _ => Chk.mk (by omega) fun _ => ?_
    unfold mkA sub
    rw [if_pos h1]
    refine ⟨fun h2 => by rw [if_pos h2], fun h2 => ⟨fun h3 => by rw [if_neg h2, if_pos h3], fun h3 => by rw [if_neg h2, if_neg h3]⟩⟩
noncomputable def pe_MarkAt_s : PE := peR (fun (x : Bs × Int) => match x with | (s, p) => [.s s, .i .i64 p]) (fun (x : Bs × Int) => match x with | (s, p) => s.length ≤ 1048576) (fun (x : Bs × Int) => match x with | (s, p) => .i .i64 (mkA s (spot s p)))
theorem pe_MarkAt_s_eq {s : Bs} {p : Int} : pe_MarkAt_s [.s s, .i .i64 p] = some (s.length ≤ 1048576, .i .i64 (mkA s (spot s p))) := peR_eq (by rintro ⟨a0, a1⟩ ⟨b0, b1⟩ h; simp_all []) (s, p)
theorem pe_MarkAt_s_ok : PE1 Tryz.prog 37 pe_MarkAt_s := peR_ok (by rintro ⟨s, p⟩ hp; exact MarkAt_s s p hp)
theorem stretch_i (s : Bs) (p : Int) (hp : s.length ≤ 1048576 ∧ 0 ≤ p ∧ p ≤ s.length + 1) : PF Tryz.prog 100 [.s s, .i .i64 p] (.i .i64 (stc s p.toNat : Nat)) := by
  refine ⟨rfl, rfl, FnK.of (cf := mkCf Tryz.prog te [(80, pe_gapAt), (51, pe_byteAt), (83, pe_isFlow)] 19 0 false (fun _ => false) (kp [(0, [0, 1]), (1, [0, 1, 15]), (2, [0, 1]), (3, [4])]) [] []) (mkCf_ok te_ok (l := [(80, pe_gapAt), (51, pe_byteAt), (83, pe_isFlow)]) (⟨pe_gapAt_ok, pe_byteAt_ok, pe_isFlow_ok, trivial⟩) mixed_ok) Tryz.func100 rfl rfl rfl (by simp [mkCf]) (by simp [mkCf]) (rs := [.tmp 4]) rfl 100000 ?_⟩
  simp only [↓XC, XV, XT, forall_const, implies_true, reduceIte, Nat.reduceAdd, Nat.reduceLT, Nat.reduceEqDiff, Nat.reduceBEq, Nat.reduceLeDiff, reduceCtorEq, Nat.reduceSub, Nat.reduceMul, Int.reduceToNat, Int.reduceLT, Int.reduceLE, TES, pe_gapAt_eq, pe_byteAt_eq, pe_isFlow_eq]
  refine VLoops.of (ι := {q : Nat // p.toNat ≤ q ∧ q ≤ s.length + 1 ∧ stc s q = stc s p.toNat}) (fun x => ⟨[(0, .s s), (1, .i .i64 (x.1 : Nat))], []⟩) (fun x => s.length + 1 - x.1) ⟨p.toNat, Nat.le_refl _, by omega, rfl⟩ (by rw [show ((p.toNat : Nat) : Int) = p by omega]; exact Ent.refl _ _) ?_
  rintro ⟨q, hq1, hq2, hw⟩
  simp only [↓XC, XV, XT, forall_const, implies_true, reduceIte, Nat.reduceAdd, Nat.reduceLT, Nat.reduceEqDiff, Nat.reduceBEq, Nat.reduceLeDiff, reduceCtorEq, Nat.reduceSub, Nat.reduceMul, Int.reduceToNat, Int.reduceLT, Int.reduceLE, TES, pe_gapAt_eq, pe_byteAt_eq, pe_isFlow_eq]
  have hb : byt s (spot s (q : Int)) = byt s q := by rw [byt_spot (by omega)]; rfl
  rw [hb]
  refine Chk.mk ⟨hp.1, by omega⟩ fun _ => Chk.mk (fun h => ⟨⟨h, h⟩, hp.1⟩) fun _ => ⟨fun h => Chk.mk (by simp only [inR]; omega) fun _ => ?_, fun h => ?_⟩
  · have h1 : gap s q = false ∧ flw (byt s q) = false := by simpa using h
    have h2 := gap_not h1.1
    exact ⟨⟨q + 1, by omega, by omega, by rw [← stc_t h1]; exact hw⟩, by simp only; omega, (by first | exact Ent.refl _ _ | (simp only [Int.natCast_add, Int.natCast_one]; exact Ent.refl _ _))⟩
  · rw [← hw, stc_f]
    simpa using h
noncomputable def pe_stretch_i : PE := peR (fun (x : Bs × Int) => match x with | (s, p) => [.s s, .i .i64 p]) (fun (x : Bs × Int) => match x with | (s, p) => s.length ≤ 1048576 ∧ 0 ≤ p ∧ p ≤ s.length + 1) (fun (x : Bs × Int) => match x with | (s, p) => .i .i64 (stc s p.toNat : Nat))
theorem pe_stretch_i_eq {s : Bs} {p : Int} : pe_stretch_i [.s s, .i .i64 p] = some (s.length ≤ 1048576 ∧ 0 ≤ p ∧ p ≤ s.length + 1, .i .i64 (stc s p.toNat : Nat)) := peR_eq (by rintro ⟨a0, a1⟩ ⟨b0, b1⟩ h; simp_all []) (s, p)
theorem pe_stretch_i_ok : PE1 Tryz.prog 100 pe_stretch_i := peR_ok (by rintro ⟨s, p⟩ hp; exact stretch_i s p hp)
theorem stretch_s (s : Bs) (p : Int) (hp : s.length ≤ 1048576 ∧ 0 ≤ p ∧ p ≤ s.length + 1) : PF Tryz.prog 66 [.s s, .i .i64 p] (.i .i64 (stc s p.toNat : Nat)) := by
  refine ⟨rfl, rfl, FnK.of (cf := mkCf Tryz.prog te [(40, pe_Gap_s), (41, pe_Flow_s)] 19 0 false (fun _ => false) (kp [(0, [0, 1]), (1, [0, 1, 15]), (2, [0, 1]), (3, [4])]) [] []) (mkCf_ok te_ok (l := [(40, pe_Gap_s), (41, pe_Flow_s)]) (⟨pe_Gap_s_ok, pe_Flow_s_ok, trivial⟩) mixed_ok) Tryz.func66 rfl rfl rfl (by simp [mkCf]) (by simp [mkCf]) (rs := [.tmp 4]) rfl 100000 ?_⟩
  simp only [↓XC, XV, XT, forall_const, implies_true, reduceIte, Nat.reduceAdd, Nat.reduceLT, Nat.reduceEqDiff, Nat.reduceBEq, Nat.reduceLeDiff, reduceCtorEq, Nat.reduceSub, Nat.reduceMul, Int.reduceToNat, Int.reduceLT, Int.reduceLE, TES, pe_Gap_s_eq, pe_Flow_s_eq]
  refine VLoops.of (ι := {q : Nat // p.toNat ≤ q ∧ q ≤ s.length + 1 ∧ stc s q = stc s p.toNat}) (fun x => ⟨[(0, .s s), (1, .i .i64 (x.1 : Nat))], []⟩) (fun x => s.length + 1 - x.1) ⟨p.toNat, Nat.le_refl _, by omega, rfl⟩ (by rw [show ((p.toNat : Nat) : Int) = p by omega]; exact Ent.refl _ _) ?_
  rintro ⟨q, hq1, hq2, hw⟩
  simp only [↓XC, XV, XT, forall_const, implies_true, reduceIte, Nat.reduceAdd, Nat.reduceLT, Nat.reduceEqDiff, Nat.reduceBEq, Nat.reduceLeDiff, reduceCtorEq, Nat.reduceSub, Nat.reduceMul, Int.reduceToNat, Int.reduceLT, Int.reduceLE, TES, pe_Gap_s_eq, pe_Flow_s_eq]
  have hb : gap s q = false → ((s.getD q 0).toNat : Int) = byt s q := fun h => (byt_lt (gap_not h)).symm
  refine Chk.mk ⟨hp.1, by omega⟩ fun _ => Chk.mk (fun h => by have := gap_not (show gap s q = false by simpa using h); omega) fun _ => ⟨fun h => Chk.mk (by simp only [inR]; omega) fun _ => ?_, fun h => ?_⟩
  · have h0 : gap s q = false := by simp at h; exact h.1
    rw [hb h0] at h
    have h1 : gap s q = false ∧ flw (byt s q) = false := by simpa using h
    have h2 := gap_not h1.1
    exact ⟨⟨q + 1, by omega, by omega, by rw [← stc_t h1]; exact hw⟩, by simp only; omega, (by first | exact Ent.refl _ _ | (simp only [Int.natCast_add, Int.natCast_one]; exact Ent.refl _ _))⟩
  · rw [← hw, stc_f]
    rintro ⟨h1, h2⟩
    rw [hb h1, h1, h2] at h
    cases h
noncomputable def pe_stretch_s : PE := peR (fun (x : Bs × Int) => match x with | (s, p) => [.s s, .i .i64 p]) (fun (x : Bs × Int) => match x with | (s, p) => s.length ≤ 1048576 ∧ 0 ≤ p ∧ p ≤ s.length + 1) (fun (x : Bs × Int) => match x with | (s, p) => .i .i64 (stc s p.toNat : Nat))
theorem pe_stretch_s_eq {s : Bs} {p : Int} : pe_stretch_s [.s s, .i .i64 p] = some (s.length ≤ 1048576 ∧ 0 ≤ p ∧ p ≤ s.length + 1, .i .i64 (stc s p.toNat : Nat)) := peR_eq (by rintro ⟨a0, a1⟩ ⟨b0, b1⟩ h; simp_all []) (s, p)
theorem pe_stretch_s_ok : PE1 Tryz.prog 66 pe_stretch_s := peR_ok (by rintro ⟨s, p⟩ hp; exact stretch_s s p hp)
theorem NameAt_i (s : Bs) (p : Int) (hp : s.length ≤ 1048576) : PF Tryz.prog 81 [.s s, .i .i64 p] (.tup [.s (nmA s (spot s p)).1, .i .i64 (nmA s (spot s p)).2.1, .b (nmA s (spot s p)).2.2]) := by
  refine ⟨rfl, rfl, FnK.of (cf := mkCf Tryz.prog te [(28, pe_spot_i), (51, pe_byteAt), (100, pe_stretch_i), (101, pe_within)] 37 0 false (fun _ => false) (kp [(0, [0, 1]), (1, [0, 1]), (2, [0, 1, 7]), (3, [0, 1, 20]), (4, [4, 5, 6]), (5, [0, 1, 8]), (6, [0, 1, 8, 30]), (7, [4, 5, 6]), (8, [4, 5, 6])]) [] []) (mkCf_ok te_ok (l := [(28, pe_spot_i), (51, pe_byteAt), (100, pe_stretch_i), (101, pe_within)]) (⟨pe_spot_i_ok, pe_byteAt_ok, pe_stretch_i_ok, pe_within_ok, trivial⟩) mixed_ok) Tryz.func81 rfl rfl rfl (by simp [mkCf]) (by simp [mkCf]) (rs := [.tmp 4, .tmp 5, .tmp 6]) rfl 100000 ?_⟩
  simp only [↓XC, XV, XT, forall_const, implies_true, reduceIte, Nat.reduceAdd, Nat.reduceLT, Nat.reduceEqDiff, Nat.reduceBEq, Nat.reduceLeDiff, reduceCtorEq, Nat.reduceSub, Nat.reduceMul, Int.reduceToNat, Int.reduceLT, Int.reduceLE, TES, pe_spot_i_eq, pe_byteAt_eq, pe_stretch_i_eq, pe_within_eq]
  have h0 := spot_le s p
  rw [spot_of s h0]
  have e0 : ((spot s p : Nat) + 1 : Int).toNat = spot s p + 1 := by omega
  rw [e0]
  generalize spot s p = q at *
  have h1 := stc_ge s (q + 1)
  refine Chk.mk hp fun _ => ⟨fun h => ?_, fun h => Chk.mk (by simp only [inR]; omega) fun _ => Chk.mk ⟨hp, by omega, by omega⟩ fun _ => ?_⟩
  · rw [nmA_f]; rintro ⟨h2, _⟩; simp at h; omega
  have hb : byt s q = 38 ∨ byt s q = 42 := by
    by_cases h3 : byt s q = 38
    · exact .inl h3
    · simp [h3] at h; exact .inr h
  have hq : q < s.length := by
    rcases Nat.lt_or_ge q s.length with h3 | h3
    · exact h3
    · rw [byt_ge h3] at hb; omega
  have h2 := stc_le s (q + 1) (by omega)
  refine Chk.mk (by simp only [inR]; omega) fun _ => Chk.mk (by simp only [inR]; omega) fun _ => ⟨fun h3 => ?_, fun h3 => Chk.mk (by simp only [inR]; omega) fun _ => ?_⟩
  · rw [nmA_f]; rintro ⟨_, h4, h5⟩; simp at h3; omega
  · have h4 : q + 2 ≤ stc s (q + 1) ∧ stc s (q + 1) ≤ q + 61 := by simp at h3; omega
    exact Chk.mk (by omega) fun _ => by rw [nmA_t ⟨hb, h4⟩]; rfl
noncomputable def pe_NameAt_i : PE := peR (fun (x : Bs × Int) => match x with | (s, p) => [.s s, .i .i64 p]) (fun (x : Bs × Int) => match x with | (s, p) => s.length ≤ 1048576) (fun (x : Bs × Int) => match x with | (s, p) => .tup [.s (nmA s (spot s p)).1, .i .i64 (nmA s (spot s p)).2.1, .b (nmA s (spot s p)).2.2])
theorem pe_NameAt_i_eq {s : Bs} {p : Int} : pe_NameAt_i [.s s, .i .i64 p] = some (s.length ≤ 1048576, .tup [.s (nmA s (spot s p)).1, .i .i64 (nmA s (spot s p)).2.1, .b (nmA s (spot s p)).2.2]) := peR_eq (by rintro ⟨a0, a1⟩ ⟨b0, b1⟩ h; simp_all []) (s, p)
theorem pe_NameAt_i_ok : PE1 Tryz.prog 81 pe_NameAt_i := peR_ok (by rintro ⟨s, p⟩ hp; exact NameAt_i s p hp)
theorem NameAt_s (s : Bs) (p : Int) (hp : s.length ≤ 1048576) : PF Tryz.prog 38 [.s s, .i .i64 p] (.tup [.s (nmA s (spot s p)).1, .i .i64 (nmA s (spot s p)).2.1, .b (nmA s (spot s p)).2.2]) := by
  refine ⟨rfl, rfl, FnK.of (cf := mkCf Tryz.prog te [(9, pe_spot_s), (66, pe_stretch_s)] 48 0 false (fun _ => false) (kp [(0, [0, 1]), (1, [0, 1]), (2, [0, 1, 26]), (3, [4, 5, 6]), (4, [0, 1, 7]), (5, [0, 1, 7, 41]), (6, [4, 5, 6]), (7, [4, 5, 6])]) [] []) (mkCf_ok te_ok (l := [(9, pe_spot_s), (66, pe_stretch_s)]) (⟨pe_spot_s_ok, pe_stretch_s_ok, trivial⟩) mixed_ok) Tryz.func38 rfl rfl rfl (by simp [mkCf]) (by simp [mkCf]) (rs := [.tmp 4, .tmp 5, .tmp 6]) rfl 100000 ?_⟩
  simp only [↓XC, XV, XT, forall_const, implies_true, reduceIte, Nat.reduceAdd, Nat.reduceLT, Nat.reduceEqDiff, Nat.reduceBEq, Nat.reduceLeDiff, reduceCtorEq, Nat.reduceSub, Nat.reduceMul, Int.reduceToNat, Int.reduceLT, Int.reduceLE, TES, pe_spot_s_eq, pe_stretch_s_eq]
  have h0 := spot_le s p
  have e0 : ((spot s p : Nat) + 1 : Int).toNat = spot s p + 1 := by omega
  rw [e0]
  generalize spot s p = q at *
  have h1 := stc_ge s (q + 1)
  refine Chk.mk (fun h => by simp at h; omega) fun _ => Chk.mk (fun h => by simp at h; omega) fun _ => ⟨fun h => ?_, fun h => Chk.mk (by simp only [inR]; omega) fun _ => Chk.mk ⟨hp, by omega, by omega⟩ fun _ => ?_⟩
  · rw [nmA_f]; rintro ⟨h2, _⟩
    rcases Nat.lt_or_ge q s.length with h3 | h3
    · rw [byt_lt h3] at h2; simp only [Bool.or_eq_true, Bool.and_eq_true, Bool.or_eq_false_iff, Bool.and_eq_false_iff, decide_eq_true_eq, decide_eq_false_iff_not, Bool.not_eq_true', Bool.not_eq_false', beq_iff_eq, beq_eq_false_iff_ne, ne_eq, ge_iff_le, gt_iff_lt, Int.not_le, Int.not_lt, Int.ofNat_le, Int.ofNat_lt] at h; omega
    · rw [byt_ge h3] at h2; omega
  have hq : q < s.length := by simp at h; omega
  have hb : byt s q = 38 ∨ byt s q = 42 := by
    rw [byt_lt hq]
    by_cases h3 : ((s.getD q 0).toNat : Int) = 38
    · exact .inl h3
    · have h4 := h
      simp only [h3] at h4
      simp at h4
      exact .inr (by have := h4.2; simpa using this)
  have h2 := stc_le s (q + 1) (by omega)
  refine Chk.mk (by simp only [inR]; omega) fun _ => Chk.mk (fun _ => by simp only [inR]; omega) fun _ => Chk.mk (fun _ => by simp only [inR]; omega) fun _ => ⟨fun h3 => ?_, fun h3 => Chk.mk (by simp only [inR]; omega) fun _ => ?_⟩
  · rw [nmA_f]; rintro ⟨_, h4, h5⟩; simp only [Bool.or_eq_true, Bool.and_eq_true, Bool.or_eq_false_iff, Bool.and_eq_false_iff, decide_eq_true_eq, decide_eq_false_iff_not, Bool.not_eq_true', Bool.not_eq_false', beq_iff_eq, beq_eq_false_iff_ne, ne_eq, ge_iff_le, gt_iff_lt, Int.not_le, Int.not_lt, Int.ofNat_le, Int.ofNat_lt] at h3; omega
  · have h4 : q + 2 ≤ stc s (q + 1) ∧ stc s (q + 1) ≤ q + 61 := by simp only [Bool.or_eq_true, Bool.and_eq_true, Bool.or_eq_false_iff, Bool.and_eq_false_iff, decide_eq_true_eq, decide_eq_false_iff_not, Bool.not_eq_true', Bool.not_eq_false', beq_iff_eq, beq_eq_false_iff_ne, ne_eq, ge_iff_le, gt_iff_lt, Int.not_le, Int.not_lt, Int.ofNat_le, Int.ofNat_lt] at h3; omega
    exact Chk.mk (by omega) fun _ => by rw [nmA_t ⟨hb, h4⟩]; rfl
noncomputable def pe_NameAt_s : PE := peR (fun (x : Bs × Int) => match x with | (s, p) => [.s s, .i .i64 p]) (fun (x : Bs × Int) => match x with | (s, p) => s.length ≤ 1048576) (fun (x : Bs × Int) => match x with | (s, p) => .tup [.s (nmA s (spot s p)).1, .i .i64 (nmA s (spot s p)).2.1, .b (nmA s (spot s p)).2.2])
theorem pe_NameAt_s_eq {s : Bs} {p : Int} : pe_NameAt_s [.s s, .i .i64 p] = some (s.length ≤ 1048576, .tup [.s (nmA s (spot s p)).1, .i .i64 (nmA s (spot s p)).2.1, .b (nmA s (spot s p)).2.2]) := peR_eq (by rintro ⟨a0, a1⟩ ⟨b0, b1⟩ h; simp_all []) (s, p)
theorem pe_NameAt_s_ok : PE1 Tryz.prog 38 pe_NameAt_s := peR_ok (by rintro ⟨s, p⟩ hp; exact NameAt_s s p hp)
theorem isQuote (b : Int) : PF Tryz.prog 61 [.i .i64 b] (.b (b == 39 || b == 34)) := by
  refine ⟨rfl, rfl, FnK.of (cf := mkCf Tryz.prog te [] 9 0 false (fun _ => false) (kp [(0, [0]), (1, [2])]) [] []) (mkCf_ok te_ok (l := []) (trivial) mixed_ok) Tryz.func61 rfl rfl rfl (by simp [mkCf]) (by simp [mkCf]) (rs := [.tmp 2]) rfl 100000 ?_⟩
  simp only [↓XC, XV, XT, forall_const, implies_true, reduceIte, Nat.reduceAdd, Nat.reduceLT, Nat.reduceEqDiff, Nat.reduceBEq, Nat.reduceLeDiff, reduceCtorEq, Nat.reduceSub, Nat.reduceMul, Int.reduceToNat, Int.reduceLT, Int.reduceLE, TES]
  rfl
noncomputable def pe_isQuote : PE := peR (fun (b : Int) => [.i .i64 b]) (fun (b : Int) => True) (fun (b : Int) => .b (b == 39 || b == 34))
theorem pe_isQuote_eq {b : Int} : pe_isQuote [.i .i64 b] = some (True, .b (b == 39 || b == 34)) := peR_eq (by rintro a b h; simp_all []) b
theorem pe_isQuote_ok : PE1 Tryz.prog 61 pe_isQuote := peR_ok (by rintro b hp; exact isQuote b)
theorem PlainFirst_i (s : Bs) (p : Int) (fl : Bool) (hp : s.length ≤ 1048576) : PF Tryz.prog 63 [.s s, .i .i64 p, .b fl] (.b (pfA s (spot s p) fl)) := by
  refine ⟨rfl, rfl, FnK.of (cf := mkCf Tryz.prog te [(28, pe_spot_i), (51, pe_byteAt), (80, pe_gapAt), (79, pe_ixs), (83, pe_isFlow)] 57 0 false (fun _ => false) (kp [(0, [0, 1, 2]), (1, [0, 1, 2]), (2, [0, 1, 2, 7]), (3, [0, 1, 2, 7, 30]), (4, [6]), (5, [0, 1, 2, 40]), (6, [6]), (7, [6])]) [] []) (mkCf_ok te_ok (l := [(28, pe_spot_i), (51, pe_byteAt), (80, pe_gapAt), (79, pe_ixs), (83, pe_isFlow)]) (⟨pe_spot_i_ok, pe_byteAt_ok, pe_gapAt_ok, pe_ixs_ok, pe_isFlow_ok, trivial⟩) mixed_ok) Tryz.func63 rfl rfl rfl (by simp [mkCf]) (by simp [mkCf]) (rs := [.tmp 6]) rfl 100000 ?_⟩
  simp only [↓XC, XV, XT, forall_const, implies_true, reduceIte, Nat.reduceAdd, Nat.reduceLT, Nat.reduceEqDiff, Nat.reduceBEq, Nat.reduceLeDiff, reduceCtorEq, Nat.reduceSub, Nat.reduceMul, Int.reduceToNat, Int.reduceLT, Int.reduceLE, TES, pe_spot_i_eq, pe_byteAt_eq, pe_gapAt_eq, pe_ixs_eq, pe_isFlow_eq]
  have h0 := spot_le s p
  rw [spot_of s h0]
  have e0 : ((spot s p : Nat) + 1 : Int).toNat = spot s p + 1 := by omega
  have e1 : byt s (spot s ((spot s p : Nat) + 1 : Int)) = byt s (spot s p + 1) := by rw [byt_spot (by omega), e0]
  rw [e1, e0]
  generalize spot s p = q at *
  have hr := byt_range s q
  refine Chk.mk hp fun _ => Chk.mk ⟨hp, by omega⟩ fun _ => ?_
  have hg : gap s q = true ∨ gap s q = false := by cases gap s q <;> simp
  rcases hg with hg | hg
  · rw [hg, pfA_gap hg]
    simp
  have hq := gap_not hg
  have hL := pfL_mem (s.getD q 0)
  rw [← byt_lt hq] at hL
  have e2 : UInt8.ofNat (byt s q).toNat = s.getD q 0 := by rw [byt_lt hq]; simp
  rw [e2, idx_ge, hg]
  simp only [Bool.false_or]
  rw [hL]
  refine Chk.mk (fun _ => by rw [byt_lt hq]; have := (s.getD q 0).toNat_lt; simp only [inR]; omega) fun _ => ⟨fun h => ?_, fun h => ?_⟩
  · rw [pfA_no (by simpa using h)]
  have hn : ¬ s.getD q 0 ∈ pfL := by simpa using h
  refine ⟨fun hs => ?_, fun hs => ?_⟩
  · rw [pfA_sign hg hn (by simpa [or_assoc] using hs)]
    exact Chk.mk (by simp only [inR]; omega) fun _ => Chk.mk ⟨hp, by omega⟩ fun _ => Chk.mk (fun _ => by simp only [inR]; omega) fun _ => Chk.mk (fun h => ⟨⟨h, h⟩, hp⟩) fun _ => rfl
  · rw [pfA_yes hg hn (by simpa [and_assoc] using hs)]
noncomputable def pe_PlainFirst_i : PE := peR (fun (x : Bs × Int × Bool) => match x with | (s, p, fl) => [.s s, .i .i64 p, .b fl]) (fun (x : Bs × Int × Bool) => match x with | (s, p, fl) => s.length ≤ 1048576) (fun (x : Bs × Int × Bool) => match x with | (s, p, fl) => .b (pfA s (spot s p) fl))
theorem pe_PlainFirst_i_eq {s : Bs} {p : Int} {fl : Bool} : pe_PlainFirst_i [.s s, .i .i64 p, .b fl] = some (s.length ≤ 1048576, .b (pfA s (spot s p) fl)) := peR_eq (by rintro ⟨a0, a1, a2⟩ ⟨b0, b1, b2⟩ h; simp_all []) (s, p, fl)
theorem pe_PlainFirst_i_ok : PE1 Tryz.prog 63 pe_PlainFirst_i := peR_ok (by rintro ⟨s, p, fl⟩ hp; exact PlainFirst_i s p fl hp)
theorem PlainEnd_i (s : Bs) (p : Int) (fl : Bool) (hp : s.length ≤ 1048576) : PF Tryz.prog 107 [.s s, .i .i64 p, .b fl] (.i .i64 (plE s (spot s p) fl : Nat)) := by
  refine ⟨rfl, rfl, FnK.of (cf := mkCf Tryz.prog te [(28, pe_spot_i), (51, pe_byteAt), (99, pe_isBreak), (80, pe_gapAt), (83, pe_isFlow), (52, pe_isWhite)] 79 0 false (fun _ => false) (kp [(0, [0, 1, 2]), (1, [0, 1, 2]), (2, [0, 1, 2, 7]), (3, [0, 1, 2, 7, 18]), (4, [0, 1, 2, 7, 8]), (5, [0, 1, 2, 7, 8, 9]), (6, [0, 1, 2, 7, 63]), (7, [0, 1, 2, 7]), (8, [0, 1, 7, 75]), (9, [0, 1, 7]), (10, [6])]) [] []) (mkCf_ok te_ok (l := [(28, pe_spot_i), (51, pe_byteAt), (99, pe_isBreak), (80, pe_gapAt), (83, pe_isFlow), (52, pe_isWhite)]) (⟨pe_spot_i_ok, pe_byteAt_ok, pe_isBreak_ok, pe_gapAt_ok, pe_isFlow_ok, pe_isWhite_ok, trivial⟩) mixed_ok) Tryz.func107 rfl rfl rfl (by simp [mkCf]) (by simp [mkCf]) (rs := [.tmp 6]) rfl 100000 ?_⟩
  simp only [↓XC, XV, XT, forall_const, implies_true, reduceIte, Nat.reduceAdd, Nat.reduceLT, Nat.reduceEqDiff, Nat.reduceBEq, Nat.reduceLeDiff, reduceCtorEq, Nat.reduceSub, Nat.reduceMul, Int.reduceToNat, Int.reduceLT, Int.reduceLE, TES, pe_spot_i_eq, pe_byteAt_eq, pe_isBreak_eq, pe_gapAt_eq, pe_isFlow_eq, pe_isWhite_eq]
  have h0 := spot_le s p
  refine VLoops.of (ι := {q : Nat // spot s p ≤ q ∧ q ≤ s.length ∧ pe1 s (spot s p) fl q = pe1 s (spot s p) fl (spot s p)}) (fun x => ⟨[(0, .s s), (1, .i .i64 (spot s p : Nat)), (2, .b fl), (7, .i .i64 (x.1 : Nat))], []⟩) (fun x => s.length - x.1) ⟨spot s p, Nat.le_refl _, h0, rfl⟩ (Ent.refl _ _) ?_
  rintro ⟨q, hq1, hq2, hw⟩
  simp only [↓XC, XV, XT, forall_const, implies_true, reduceIte, Nat.reduceAdd, Nat.reduceLT, Nat.reduceEqDiff, Nat.reduceBEq, Nat.reduceLeDiff, reduceCtorEq, Nat.reduceSub, Nat.reduceMul, Int.reduceToNat, Int.reduceLT, Int.reduceLE, TES, pe_isBreak_eq, pe_byteAt_eq, pe_isWhite_eq, pe_gapAt_eq, pe_isFlow_eq]
  have e0 : ((q : Nat) + 1 : Int).toNat = q + 1 := by omega
  have e1 : byt s (spot s ((q : Nat) + 1 : Int)) = byt s (q + 1) := by rw [byt_spot (by omega), e0]
  have e2 : spot s ((q : Int) - 1) = q - 1 := by unfold spot; omega
  have hB : (byt s q == 10 || decide (byt s q < 0)) = isB s q := rfl
  have hX : (decide (byt s q = 35) && decide ((q : Int) > (spot s p : Nat)) && (byt s (q - 1) == 32 || byt s (q - 1) == 9) || decide (byt s q = 58) && (gap s (q + 1) || fl && flw (byt s (q + 1))) || fl && flw (byt s q)) = peX s (spot s p) fl q := by
    unfold peX isW
    rw [show decide ((q : Int) > ((spot s p : Nat) : Int)) = decide (spot s p < q) from by rw [decide_eq_decide]; omega]
  rw [e1, e0, e2, spot_of s hq2, hB]
  rw [hX]
  refine Chk.mk hp fun _ => ⟨fun hb => ?_, fun hb => ?_⟩
  · have hbf : isB s q = false := by simpa using hb
    have hl := isB_not hbf
    refine Chk.mk hp fun _ => Chk.mk (by simp only [inR]; omega) fun _ => Chk.mk ⟨hp, by omega⟩ fun _ => Chk.mk (fun _ => by simp only [inR]; omega) fun _ => Chk.mk (fun h => ⟨⟨h, h⟩, hp⟩) fun _ => Chk.mk (fun h => by simp only [inR]; omega) fun _ => Chk.mk (fun h => ⟨⟨h, h⟩, hp⟩) fun _ => ⟨fun hx => ?_, fun hx => Chk.mk (by simp only [inR]; omega) fun _ => ⟨⟨q + 1, by omega, by omega, by rw [← pe1_t ⟨hbf, hx⟩]; exact hw⟩, by simp only; omega, (by first | exact Ent.refl _ _ | (simp only [Int.natCast_add, Int.natCast_one]; exact Ent.refl _ _))⟩⟩
    have hf : ¬ (isB s q = false ∧ peX s (spot s p) fl q = false) := by rw [hx]; simp
    refine VLoops.of (ι := {q : Nat // spot s p ≤ q ∧ q ≤ s.length ∧ bkW s (spot s p) q = plE s (spot s p) fl}) (fun x => ⟨[(0, .s s), (1, .i .i64 (spot s p : Nat)), (7, .i .i64 (x.1 : Nat))], []⟩) (fun x => x.1) ⟨q, hq1, hq2, by rw [plE, ← hw, pe1_f hf]⟩ (by (try simp only [Int.natCast_add, Int.natCast_one]); exact Ent.nil (by simp [entEnv, Vg.look, SV.mapH])) ?_
    rintro ⟨k, hk1, hk2, hk⟩
    simp only [↓XC, XV, XT, forall_const, implies_true, reduceIte, Nat.reduceAdd, Nat.reduceLT, Nat.reduceEqDiff, Nat.reduceBEq, Nat.reduceLeDiff, reduceCtorEq, Nat.reduceSub, Nat.reduceMul, Int.reduceToNat, Int.reduceLT, Int.reduceLE, TES, pe_isWhite_eq, pe_byteAt_eq]
    have e4 : spot s ((k : Int) - 1) = k - 1 := by unfold spot; omega
    have hX : (decide ((k : Int) > (spot s p : Nat)) && (byt s (k - 1) == 32 || byt s (k - 1) == 9)) = decide (spot s p < k ∧ isW s (k - 1) = true) := by
      rw [Bool.eq_iff_iff, Bool.and_eq_true, decide_eq_true_eq, decide_eq_true_eq, gt_iff_lt, Int.ofNat_lt]
      rfl
    rw [e4, hX]
    refine Chk.mk (fun h => by simp only [inR]; omega) fun _ => Chk.mk (fun h => ⟨⟨h, h⟩, hp⟩) fun _ => ⟨fun h => ?_, fun h => ?_⟩
    · have h1 := of_decide_eq_true h
      refine Chk.mk (by simp only [inR]; omega) fun _ => ⟨⟨k - 1, by omega, by omega, by rw [← bkW_t h1.1 h1.2]; exact hk⟩, by simp only; omega, ?_⟩
      rw [show ((k : Int) - 1) = ((k - 1 : Nat) : Int) by omega]
      exact Ent.refl _ _
    · rw [← hk, bkW_f (of_decide_eq_false h)]
  · have hbt : isB s q = true := by simpa using hb
    have hf : ¬ (isB s q = false ∧ peX s (spot s p) fl q = false) := by rw [hbt]; simp
    refine VLoops.of (ι := {q : Nat // spot s p ≤ q ∧ q ≤ s.length ∧ bkW s (spot s p) q = plE s (spot s p) fl}) (fun x => ⟨[(0, .s s), (1, .i .i64 (spot s p : Nat)), (7, .i .i64 (x.1 : Nat))], []⟩) (fun x => x.1) ⟨q, hq1, hq2, by rw [plE, ← hw, pe1_f hf]⟩ (by (try simp only [Int.natCast_add, Int.natCast_one]); exact Ent.nil (by simp [entEnv, Vg.look, SV.mapH])) ?_
    rintro ⟨k, hk1, hk2, hk⟩
    simp only [↓XC, XV, XT, forall_const, implies_true, reduceIte, Nat.reduceAdd, Nat.reduceLT, Nat.reduceEqDiff, Nat.reduceBEq, Nat.reduceLeDiff, reduceCtorEq, Nat.reduceSub, Nat.reduceMul, Int.reduceToNat, Int.reduceLT, Int.reduceLE, TES, pe_isWhite_eq, pe_byteAt_eq]
    have e4 : spot s ((k : Int) - 1) = k - 1 := by unfold spot; omega
    have hX : (decide ((k : Int) > (spot s p : Nat)) && (byt s (k - 1) == 32 || byt s (k - 1) == 9)) = decide (spot s p < k ∧ isW s (k - 1) = true) := by
      rw [Bool.eq_iff_iff, Bool.and_eq_true, decide_eq_true_eq, decide_eq_true_eq, gt_iff_lt, Int.ofNat_lt]
      rfl
    rw [e4, hX]
    refine Chk.mk (fun h => by simp only [inR]; omega) fun _ => Chk.mk (fun h => ⟨⟨h, h⟩, hp⟩) fun _ => ⟨fun h => ?_, fun h => ?_⟩
    · have h1 := of_decide_eq_true h
      refine Chk.mk (by simp only [inR]; omega) fun _ => ⟨⟨k - 1, by omega, by omega, by rw [← bkW_t h1.1 h1.2]; exact hk⟩, by simp only; omega, ?_⟩
      rw [show ((k : Int) - 1) = ((k - 1 : Nat) : Int) by omega]
      exact Ent.refl _ _
    · rw [← hk, bkW_f (of_decide_eq_false h)]

noncomputable def pe_PlainEnd_i : PE := peR (fun (x : Bs × Int × Bool) => match x with | (s, p, fl) => [.s s, .i .i64 p, .b fl]) (fun (x : Bs × Int × Bool) => match x with | (s, p, fl) => s.length ≤ 1048576) (fun (x : Bs × Int × Bool) => match x with | (s, p, fl) => .i .i64 (plE s (spot s p) fl : Nat))
theorem pe_PlainEnd_i_eq {s : Bs} {p : Int} {fl : Bool} : pe_PlainEnd_i [.s s, .i .i64 p, .b fl] = some (s.length ≤ 1048576, .i .i64 (plE s (spot s p) fl : Nat)) := peR_eq (by rintro ⟨a0, a1, a2⟩ ⟨b0, b1, b2⟩ h; simp_all []) (s, p, fl)
theorem pe_PlainEnd_i_ok : PE1 Tryz.prog 107 pe_PlainEnd_i := peR_ok (by rintro ⟨s, p, fl⟩ hp; exact PlainEnd_i s p fl hp)
theorem PlainEnd_s (s : Bs) (p : Int) (fl : Bool) (hp : s.length ≤ 1048576) : PF Tryz.prog 74 [.s s, .i .i64 p, .b fl] (.i .i64 (plE s (spot s p) fl : Nat)) := by
  refine ⟨rfl, rfl, FnK.of (cf := mkCf Tryz.prog te [(9, pe_spot_s), (68, pe_Break_s), (35, pe_White1_s), (41, pe_Flow_s), (40, pe_Gap_s)] 74 0 false (fun _ => false) (kp [(0, [0, 1, 2]), (1, [0, 1, 2]), (2, [0, 1, 2, 7]), (3, [0, 1, 2, 7, 15]), (4, [0, 1, 2, 7, 39]), (5, [0, 1, 2, 7, 59]), (6, [0, 1, 2, 7]), (7, [0, 1, 7, 70]), (8, [0, 1, 7]), (9, [6])]) [] []) (mkCf_ok te_ok (l := [(9, pe_spot_s), (68, pe_Break_s), (35, pe_White1_s), (41, pe_Flow_s), (40, pe_Gap_s)]) (⟨pe_spot_s_ok, pe_Break_s_ok, pe_White1_s_ok, pe_Flow_s_ok, pe_Gap_s_ok, trivial⟩) mixed_ok) Tryz.func74 rfl rfl rfl (by simp [mkCf]) (by simp [mkCf]) (rs := [.tmp 6]) rfl 100000 ?_⟩
  simp only [↓XC, XV, XT, forall_const, implies_true, reduceIte, Nat.reduceAdd, Nat.reduceLT, Nat.reduceEqDiff, Nat.reduceBEq, Nat.reduceLeDiff, reduceCtorEq, Nat.reduceSub, Nat.reduceMul, Int.reduceToNat, Int.reduceLT, Int.reduceLE, TES, pe_spot_s_eq, pe_Break_s_eq, pe_White1_s_eq, pe_Flow_s_eq, pe_Gap_s_eq]
  have h0 := spot_le s p
  refine VLoops.of (ι := {q : Nat // spot s p ≤ q ∧ q ≤ s.length ∧ pe1 s (spot s p) fl q = pe1 s (spot s p) fl (spot s p)}) (fun x => ⟨[(0, .s s), (1, .i .i64 (spot s p : Nat)), (2, .b fl), (7, .i .i64 (x.1 : Nat))], []⟩) (fun x => s.length - x.1) ⟨spot s p, Nat.le_refl _, h0, rfl⟩ (Ent.refl _ _) ?_
  rintro ⟨q, hq1, hq2, hw⟩
  simp only [↓XC, XV, XT, forall_const, implies_true, reduceIte, Nat.reduceAdd, Nat.reduceLT, Nat.reduceEqDiff, Nat.reduceBEq, Nat.reduceLeDiff, reduceCtorEq, Nat.reduceSub, Nat.reduceMul, Int.reduceToNat, Int.reduceLT, Int.reduceLE, TES, pe_Break_s_eq, pe_White1_s_eq, pe_Gap_s_eq, pe_Flow_s_eq]
  have e0 : ((q : Nat) + 1 : Int).toNat = q + 1 := by omega
  have e2 : ((q : Int) - 1).toNat = q - 1 := by omega
  rw [show decide ((q : Int) > ((spot s p : Nat) : Int)) = decide (spot s p < q) from by rw [decide_eq_decide]; omega]
  rw [e0, e2]
  refine Chk.mk ⟨hp, by omega⟩ fun _ => ⟨fun hb => ?_, fun hb => ?_⟩
  · have hbf : isB s q = false := by simpa using hb
    have hl := isB_not hbf
    rw [← byt_lt hl]
    refine Chk.mk (by omega) fun _ => Chk.mk (fun h => by simp only [inR]; omega) fun _ => Chk.mk (fun h => ⟨⟨h, h⟩, hp, by simp only [Bool.or_eq_true, Bool.and_eq_true, Bool.or_eq_false_iff, Bool.and_eq_false_iff, decide_eq_true_eq, decide_eq_false_iff_not, Bool.not_eq_true', Bool.not_eq_false', beq_iff_eq, beq_eq_false_iff_ne, ne_eq, ge_iff_le, gt_iff_lt, Int.not_le, Int.not_lt, Int.ofNat_le, Int.ofNat_lt] at h; omega⟩) fun _ => Chk.mk (fun h => by omega) fun _ => ⟨fun hx => ?_, fun hx => ?_⟩
    · have hf : ¬ (isB s q = false ∧ peX s (spot s p) fl q = false) := by
        unfold peX
        intro h
        have h2 := h.2
        cases h3 : fl && flw (byt s q) <;> cases h4 : (decide (byt s q = 35) && decide (spot s p < q) && isW s (q - 1)) <;> simp [h3, h4] at hx h2
      refine VLoops.of (ι := {q : Nat // spot s p ≤ q ∧ q ≤ s.length ∧ bkW s (spot s p) q = plE s (spot s p) fl}) (fun x => ⟨[(0, .s s), (1, .i .i64 (spot s p : Nat)), (7, .i .i64 (x.1 : Nat))], []⟩) (fun x => x.1) ⟨q, hq1, hq2, by rw [plE, ← hw, pe1_f hf]⟩ (by (try simp only [Int.natCast_add, Int.natCast_one]); exact Ent.nil (by simp [entEnv, Vg.look, SV.mapH])) ?_
      rintro ⟨k, hk1, hk2, hk⟩
      simp only [↓XC, XV, XT, forall_const, implies_true, reduceIte, Nat.reduceAdd, Nat.reduceLT, Nat.reduceEqDiff, Nat.reduceBEq, Nat.reduceLeDiff, reduceCtorEq, Nat.reduceSub, Nat.reduceMul, Int.reduceToNat, Int.reduceLT, Int.reduceLE, TES, pe_White1_s_eq]
      have e4 : ((k : Int) - 1).toNat = k - 1 := by omega
      have hX : (decide ((k : Int) > (spot s p : Nat)) && isW s (k - 1)) = decide (spot s p < k ∧ isW s (k - 1) = true) := by
        rw [Bool.eq_iff_iff]
        simp only [Bool.and_eq_true, decide_eq_true_eq, gt_iff_lt, Int.ofNat_lt]
      rw [e4, hX]
      refine Chk.mk (fun h => by simp only [inR]; omega) fun _ => Chk.mk (fun h => ⟨⟨h, h⟩, hp, by omega⟩) fun _ => ⟨fun h => ?_, fun h => ?_⟩
      · have h1 := of_decide_eq_true h
        refine Chk.mk (by simp only [inR]; omega) fun _ => ⟨⟨k - 1, by omega, by omega, by rw [← bkW_t h1.1 h1.2]; exact hk⟩, by simp only; omega, ?_⟩
        rw [show ((k : Int) - 1) = ((k - 1 : Nat) : Int) by omega]
        exact Ent.refl _ _
      · rw [← hk, bkW_f (of_decide_eq_false h)]
    · refine Chk.mk (by omega) fun _ => Chk.mk (fun _ => by simp only [inR]; omega) fun _ => Chk.mk (fun h => ⟨⟨h, h⟩, hp, by omega⟩) fun _ => Chk.mk (fun _ => by simp only [inR]; omega) fun _ => Chk.mk (fun h => by have := gap_not (show gap s (q + 1) = false by simp at h; exact h.1.2); omega) fun _ => ?_
      have hY : (decide (byt s q = 58) && (gap s (q + 1) || fl && flw ((s.getD (q + 1) 0).toNat : Int))) = (decide (byt s q = 58) && (gap s (q + 1) || fl && flw (byt s (q + 1)))) := by
        cases hg : gap s (q + 1)
        · rw [byt_lt (gap_not hg)]
        · simp
      rw [hY]
      have hX : peX s (spot s p) fl q = (decide (byt s q = 58) && (gap s (q + 1) || fl && flw (byt s (q + 1)))) := by
        unfold peX
        cases h3 : fl && flw (byt s q) <;> cases h4 : (decide (byt s q = 35) && decide (spot s p < q) && isW s (q - 1)) <;> simp [h3, h4] at hx ⊢
      rw [← hX]
      refine ⟨fun hy => ?_, fun hy => Chk.mk (by simp only [inR]; omega) fun _ => ⟨⟨q + 1, by omega, by omega, by rw [← pe1_t ⟨hbf, hy⟩]; exact hw⟩, by simp only; omega, (by first | exact Ent.refl _ _ | (simp only [Int.natCast_add, Int.natCast_one]; exact Ent.refl _ _))⟩⟩
      have hf : ¬ (isB s q = false ∧ peX s (spot s p) fl q = false) := by rw [hy]; simp
      refine VLoops.of (ι := {q : Nat // spot s p ≤ q ∧ q ≤ s.length ∧ bkW s (spot s p) q = plE s (spot s p) fl}) (fun x => ⟨[(0, .s s), (1, .i .i64 (spot s p : Nat)), (7, .i .i64 (x.1 : Nat))], []⟩) (fun x => x.1) ⟨q, hq1, hq2, by rw [plE, ← hw, pe1_f hf]⟩ (by (try simp only [Int.natCast_add, Int.natCast_one]); exact Ent.nil (by simp [entEnv, Vg.look, SV.mapH])) ?_
      rintro ⟨k, hk1, hk2, hk⟩
      simp only [↓XC, XV, XT, forall_const, implies_true, reduceIte, Nat.reduceAdd, Nat.reduceLT, Nat.reduceEqDiff, Nat.reduceBEq, Nat.reduceLeDiff, reduceCtorEq, Nat.reduceSub, Nat.reduceMul, Int.reduceToNat, Int.reduceLT, Int.reduceLE, TES, pe_White1_s_eq]
      have e4 : ((k : Int) - 1).toNat = k - 1 := by omega
      have hX : (decide ((k : Int) > (spot s p : Nat)) && isW s (k - 1)) = decide (spot s p < k ∧ isW s (k - 1) = true) := by
        rw [Bool.eq_iff_iff]
        simp only [Bool.and_eq_true, decide_eq_true_eq, gt_iff_lt, Int.ofNat_lt]
      rw [e4, hX]
      refine Chk.mk (fun h => by simp only [inR]; omega) fun _ => Chk.mk (fun h => ⟨⟨h, h⟩, hp, by omega⟩) fun _ => ⟨fun h => ?_, fun h => ?_⟩
      · have h1 := of_decide_eq_true h
        refine Chk.mk (by simp only [inR]; omega) fun _ => ⟨⟨k - 1, by omega, by omega, by rw [← bkW_t h1.1 h1.2]; exact hk⟩, by simp only; omega, ?_⟩
        rw [show ((k : Int) - 1) = ((k - 1 : Nat) : Int) by omega]
        exact Ent.refl _ _
      · rw [← hk, bkW_f (of_decide_eq_false h)]
  · have hbt : isB s q = true := by simpa using hb
    have hf : ¬ (isB s q = false ∧ peX s (spot s p) fl q = false) := by rw [hbt]; simp
    refine VLoops.of (ι := {q : Nat // spot s p ≤ q ∧ q ≤ s.length ∧ bkW s (spot s p) q = plE s (spot s p) fl}) (fun x => ⟨[(0, .s s), (1, .i .i64 (spot s p : Nat)), (7, .i .i64 (x.1 : Nat))], []⟩) (fun x => x.1) ⟨q, hq1, hq2, by rw [plE, ← hw, pe1_f hf]⟩ (by (try simp only [Int.natCast_add, Int.natCast_one]); exact Ent.nil (by simp [entEnv, Vg.look, SV.mapH])) ?_
    rintro ⟨k, hk1, hk2, hk⟩
    simp only [↓XC, XV, XT, forall_const, implies_true, reduceIte, Nat.reduceAdd, Nat.reduceLT, Nat.reduceEqDiff, Nat.reduceBEq, Nat.reduceLeDiff, reduceCtorEq, Nat.reduceSub, Nat.reduceMul, Int.reduceToNat, Int.reduceLT, Int.reduceLE, TES, pe_White1_s_eq]
    have e4 : ((k : Int) - 1).toNat = k - 1 := by omega
    have hX : (decide ((k : Int) > (spot s p : Nat)) && isW s (k - 1)) = decide (spot s p < k ∧ isW s (k - 1) = true) := by
      rw [Bool.eq_iff_iff]
      simp only [Bool.and_eq_true, decide_eq_true_eq, gt_iff_lt, Int.ofNat_lt]
    rw [e4, hX]
    refine Chk.mk (fun h => by simp only [inR]; omega) fun _ => Chk.mk (fun h => ⟨⟨h, h⟩, hp, by omega⟩) fun _ => ⟨fun h => ?_, fun h => ?_⟩
    · have h1 := of_decide_eq_true h
      refine Chk.mk (by simp only [inR]; omega) fun _ => ⟨⟨k - 1, by omega, by omega, by rw [← bkW_t h1.1 h1.2]; exact hk⟩, by simp only; omega, ?_⟩
      rw [show ((k : Int) - 1) = ((k - 1 : Nat) : Int) by omega]
      exact Ent.refl _ _
    · rw [← hk, bkW_f (of_decide_eq_false h)]

noncomputable def pe_PlainEnd_s : PE := peR (fun (x : Bs × Int × Bool) => match x with | (s, p, fl) => [.s s, .i .i64 p, .b fl]) (fun (x : Bs × Int × Bool) => match x with | (s, p, fl) => s.length ≤ 1048576) (fun (x : Bs × Int × Bool) => match x with | (s, p, fl) => .i .i64 (plE s (spot s p) fl : Nat))
theorem pe_PlainEnd_s_eq {s : Bs} {p : Int} {fl : Bool} : pe_PlainEnd_s [.s s, .i .i64 p, .b fl] = some (s.length ≤ 1048576, .i .i64 (plE s (spot s p) fl : Nat)) := peR_eq (by rintro ⟨a0, a1, a2⟩ ⟨b0, b1, b2⟩ h; simp_all []) (s, p, fl)
theorem pe_PlainEnd_s_ok : PE1 Tryz.prog 74 pe_PlainEnd_s := peR_ok (by rintro ⟨s, p, fl⟩ hp; exact PlainEnd_s s p fl hp)
theorem PlainFirst_s (s : Bs) (p : Int) (fl : Bool) (hp : s.length ≤ 1048576) : PF Tryz.prog 48 [.s s, .i .i64 p, .b fl] (.b (pfA s (spot s p) fl)) := by
  refine ⟨rfl, rfl, FnK.of (cf := mkCf Tryz.prog te [(9, pe_spot_s), (40, pe_Gap_s), (41, pe_Flow_s)] 60 0 false (fun _ => false) (kp [(0, [0, 1, 2]), (1, [0, 1, 2]), (2, [0, 1, 2, 14]), (3, [6]), (4, [0, 1, 2, 16, 17, 18]), (5, [0, 1, 2, 16, 17, 18, 19]), (6, [0, 1, 2, 8, 16, 17, 18]), (7, [0, 1, 2, 16, 17, 18, 26]), (8, [6]), (9, [0, 1, 2, 16, 17, 18]), (10, [0, 1, 2, 43]), (11, [6]), (12, [6])]) [] []) (mkCf_ok te_ok (l := [(9, pe_spot_s), (40, pe_Gap_s), (41, pe_Flow_s)]) (⟨pe_spot_s_ok, pe_Gap_s_ok, pe_Flow_s_ok, trivial⟩) mixed_ok) Tryz.func48 rfl rfl rfl (by simp [mkCf]) (by simp [mkCf]) (rs := [.tmp 6]) rfl 100000 ?_⟩
  simp only [↓XC, XV, XT, forall_const, implies_true, reduceIte, Nat.reduceAdd, Nat.reduceLT, Nat.reduceEqDiff, Nat.reduceBEq, Nat.reduceLeDiff, reduceCtorEq, Nat.reduceSub, Nat.reduceMul, Int.reduceToNat, Int.reduceLT, Int.reduceLE, TES, pe_spot_s_eq, pe_Gap_s_eq, pe_Flow_s_eq]
  refine Chk.mk ⟨hp, by omega⟩ fun _ => ⟨fun h => by rw [pfA_gap h], fun hg => ?_⟩
  rw [xmem_conv]
  refine cvO_of rfl (by rfl) rfl (by rfl) (by decide) ?_
  simp only [putS_s, ↓XC, XV, XT, forall_const, implies_true, reduceIte, Nat.reduceAdd, Nat.reduceLT, Nat.reduceEqDiff, Nat.reduceBEq, Nat.reduceLeDiff, reduceCtorEq, Nat.reduceSub, Nat.reduceMul, Int.reduceToNat, Int.reduceLT, Int.reduceLE, TES]
  refine VLoops.of (ι := {i : Nat // i ≤ 16 ∧ ¬ s.getD (spot s p) 0 ∈ pfL.take i}) (fun x => ⟨[(0, .s s), (1, .i .i64 (spot s p : Nat)), (2, .b fl), (16, .slc 0 0 16), (17, .i .i64 16), (18, .i .i64 (x.1 : Nat))], [some (.row false 1 16 (rowE bytc 0 pfL))]⟩) (fun x => 16 - x.1) ⟨0, Nat.zero_le _, by simp⟩ (Ent.ren1 [0] (by decide) (by simp only [entCtx, at_cons_zero, at_cons_succ, and_true, true_and]; exact soLe_row fun j hj => (mapHL_plain (by rfl)).trans (litEl_bytes (b := pfL) (by rfl) j hj).symm) (by simp [entEnv, Vg.look, SV.mapH, muL])) ?_
  rintro ⟨i, hi, hj⟩
  simp only [↓XC, XV, XT, forall_const, implies_true, reduceIte, Nat.reduceAdd, Nat.reduceLT, Nat.reduceEqDiff, Nat.reduceBEq, Nat.reduceLeDiff, reduceCtorEq, Nat.reduceSub, Nat.reduceMul, Int.reduceToNat, Int.reduceLT, Int.reduceLE, TES, pe_Gap_s_eq, pe_Flow_s_eq, XR]
  have h0 := spot_le s p
  have hq := gap_not hg
  have e0 : ((spot s p : Nat) + 1 : Int).toNat = spot s p + 1 := by omega
  rw [e0]
  generalize spot s p = q at *
  refine ⟨fun hil => Chk.mk (by omega) fun _ => Chk.mk (by omega) fun _ => Chk.mk (by omega) fun _ => ⟨fun he => ?_, fun he => Chk.mk (by simp only [inR]; omega) fun _ => ⟨⟨i + 1, by omega, ?_⟩, by simp only; omega, (Ent.ren1 [0] (by decide) (by simp only [entCtx, at_cons_zero, at_cons_succ, and_true, true_and]; exact soLe_same fun _ => rfl) (by simp [entEnv, Vg.look, SV.mapH, muL]))⟩⟩, fun hil => ?_⟩
  · have : s.getD q 0 = pfL.getD i 0 := UInt8.toNat_inj.1 (by omega)
    rw [pfA_no (by rw [this]; exact getD_mem (by show i < 16; omega))]
  · rw [take_snoc 0 (by show i < 16; omega)]
    simp only [List.mem_append, List.mem_singleton, not_or]
    exact ⟨hj, fun e => he (by rw [e])⟩
  · have hn : ¬ s.getD q 0 ∈ pfL := by rw [show i = 16 by omega] at hj; exact hj
    rw [← byt_lt hq]
    refine Chk.mk (by omega) fun _ => Chk.mk (fun _ => by omega) fun _ => Chk.mk (fun _ => by omega) fun _ => ⟨fun h => ?_, fun h => ?_⟩
    · rw [pfA_yes hg hn (by simpa [and_assoc] using h)]
    · have hs : byt s q = 45 ∨ byt s q = 63 ∨ byt s q = 58 := by
        rw [← Classical.not_not (a := _ ∨ _)]; intro hx; simp only [not_or] at hx; simp [hx.1, hx.2.1, hx.2.2] at h
      rw [pfA_sign hg hn hs]
      refine Chk.mk (by simp only [inR]; omega) fun _ => Chk.mk ⟨hp, by omega⟩ fun _ => Chk.mk (fun _ => by simp only [inR]; omega) fun _ => Chk.mk (fun h => by have := gap_not (show gap s (q + 1) = false by simp at h; exact h.1); omega) fun _ => ?_
      cases hg1 : gap s (q + 1)
      · rw [byt_lt (gap_not hg1)]
      · rfl

noncomputable def pe_PlainFirst_s : PE := peR (fun (x : Bs × Int × Bool) => match x with | (s, p, fl) => [.s s, .i .i64 p, .b fl]) (fun (x : Bs × Int × Bool) => match x with | (s, p, fl) => s.length ≤ 1048576) (fun (x : Bs × Int × Bool) => match x with | (s, p, fl) => .b (pfA s (spot s p) fl))
theorem pe_PlainFirst_s_eq {s : Bs} {p : Int} {fl : Bool} : pe_PlainFirst_s [.s s, .i .i64 p, .b fl] = some (s.length ≤ 1048576, .b (pfA s (spot s p) fl)) := peR_eq (by rintro ⟨a0, a1, a2⟩ ⟨b0, b1, b2⟩ h; simp_all []) (s, p, fl)
theorem pe_PlainFirst_s_ok : PE1 Tryz.prog 48 pe_PlainFirst_s := peR_ok (by rintro ⟨s, p, fl⟩ hp; exact PlainFirst_s s p fl hp)
end Go.T60
