/- Own text: part QuotB. -/
import Derived.Test.YtkbcappnemjjnaaGreatBaseE
import Derived.Test.YtkbcappnemjjnaaGreatTypes2
import Derived.Test.YtkbcappnemjjnaaGreatTextA
import Derived.Test.YtkbcappnemjjnaaGreatEventA
import Derived.Test.YtkbcappnemjjnaaGreatLineA
import Derived.Test.YtkbcappnemjjnaaGreatRuneA
import Derived.Test.YtkbcappnemjjnaaGreatFoldA
import Derived.Test.YtkbcappnemjjnaaGreatQuotA
set_option linter.unusedVariables false
set_option linter.unusedSimpArgs false
namespace Go.T64
open Go.Proofs Go.Vg Go.RowKit Go.TT Go.Pl Go.T8 Go.T12 Go.T60 Go.T61 Go.T62 Go.T63
set_option linter.unusedVariables false
set_option linter.unusedSimpArgs false
set_option maxRecDepth 10000
set_option maxHeartbeats 4000000
theorem SingleAt_i (s : Bs) (p : Int) (hp : s.length ≤ 1048576) : PF Tryz.prog 91 [.s s, .i .i64 p] (.tup [.s (sgA s (spot s p)).1, .i .i64 ((sgA s (spot s p)).2.1 : Nat), .i .i64 (sgA s (spot s p)).2.2]) := by
  refine ⟨rfl, rfl, FnK.of (cf := mkCf Tryz.prog te [(28, pe_spot_i), (51, pe_byteAt), (52, pe_isWhite)] 79 0 false (fun _ => false) (kp [(0, [0, 1]), (1, [0, 1]), (2, [0, 1, 15]), (3, [4, 5, 6]), (4, [0, 7]), (5, [0, 7, 28]), (6, [0, 7, 8]), (7, [0, 7]), (8, [0, 7, 8, 44]), (9, [0, 7, 49]), (10, [4, 5, 6]), (11, [0, 7, 8, 54]), (12, [0, 7]), (13, [0, 7, 8, 69]), (14, [4, 5, 6]), (15, [4, 5, 6])]) [] [(10, [], [], .q1 0 (.q1 1 (.q1 2 (.q1 4 (.q0 3 [3] (.q1 5 (.q1 6 (.fin)))))))), (7, [], [], .q1 0 (.q1 1 (.q1 4 (.q1 5 (.alt 2 (.alt 3 (.seq [6, 7, 8]) (.alt 6 (.alt 3 (.seq [7, 8]) (.alt 7 (.seq [3, 8]) (.fin))) (.fin))) (.alt 6 (.alt 2 (.alt 3 (.seq [7, 8]) (.alt 7 (.seq [3, 8]) (.fin))) (.alt 7 (.seq [2, 3, 8]) (.fin))) (.fin)))))))]) (mkCf_ok te_ok (l := [(28, pe_spot_i), (51, pe_byteAt), (52, pe_isWhite)]) (⟨pe_spot_i_ok, pe_byteAt_ok, pe_isWhite_ok, trivial⟩) mixed_ok) Tryz.func91 rfl rfl rfl (by simp [mkCf]) (by simp [mkCf]) (rs := [.tmp 4, .tmp 5, .tmp 6]) rfl 100000 ?_⟩
  simp only [↓XC, XV, XT, forall_const, implies_true, reduceIte, Nat.reduceAdd, Nat.reduceLT, Nat.reduceEqDiff, Nat.reduceBEq, Nat.reduceLeDiff, reduceCtorEq, Nat.reduceSub, Nat.reduceMul, Int.reduceToNat, Int.reduceLT, Int.reduceLE, TES, pe_spot_i_eq, pe_byteAt_eq, pe_isWhite_eq, XRP, XR]
  have h0 := spot_le s p
  rw [spot_of s h0]
  refine Chk.mk hp fun _ => ⟨fun h => ?_, fun h => Chk.mk (by simp only [inR]; omega) fun _ => ?_⟩
  · rw [show sgA s (spot s p) = ([], spot s p, 10) by unfold sgA; rw [if_neg (by simp only [Bool.or_eq_true, Bool.and_eq_true, Bool.or_eq_false_iff, Bool.and_eq_false_iff, decide_eq_true_eq, decide_eq_false_iff_not, Bool.not_eq_true', Bool.not_eq_false', beq_iff_eq, beq_eq_false_iff_ne, ne_eq, ge_iff_le, gt_iff_lt, Int.not_le, Int.not_lt, Int.ofNat_le, Int.ofNat_lt] at h; omega)]]
  have hb : byt s (spot s p) = 39 := by simp only [Bool.or_eq_true, Bool.and_eq_true, Bool.or_eq_false_iff, Bool.and_eq_false_iff, decide_eq_true_eq, decide_eq_false_iff_not, Bool.not_eq_true', Bool.not_eq_false', beq_iff_eq, beq_eq_false_iff_ne, ne_eq, ge_iff_le, gt_iff_lt, Int.not_le, Int.not_lt, Int.ofNat_le, Int.ofNat_lt] at h; omega
  have hl0 : spot s p < s.length := by
    rcases Nat.lt_or_ge (spot s p) s.length with h3 | h3
    · exact h3
    · rw [byt_ge h3] at hb; omega
  refine VLoops.of (ι := {x : Nat × List Pc × Bs × Nat // x.1 ≤ s.length ∧ x.2.2.1.length + pcW x.2.1 ≤ 1 * x.1 ∧ x.2.2.2 ≤ x.2.2.1.length ∧ sgl s x.1 x.2.1 x.2.2.1 = sgA s (spot s p) ∧ x.2.2.2 = 0}) (fun x => ⟨[(0, .s s), (7, .ptr 0 0 0)], [some (.blk false [.s s, .i .i64 ((x.1.1 : Nat)), .slc 1 0 (x.1.2.1).length, .s (x.1.2.2.1), .i .i64 (((cutW x.1.2.2.2 x.1.2.2.1).length : Nat))]), some (.row false 2 (x.1.2.1).length (rowE pcc pcz (x.1.2.1)))]⟩) (fun x => s.length - x.1.1) ⟨(spot s p + 1, [], [], 0), by simp only; omega, by simp [pcW], Nat.zero_le _, by unfold sgA; rw [if_pos hb], rfl⟩ (Ent.nl (d := [some (.blk false [.s s, .i .i64 ((spot s p : Nat) + 1), .slc 1 0 0, .s [], .i .i64 0])]) [(2, rowE pcc pcz [])] (by simp [nlE, nlV, Vg.look]) (by simp [nlC, nlO, nlL, nlV, cutW_nil])) ?_
  rintro ⟨⟨i, L, cur, k⟩, h1, h2, h3, h4, h5⟩
  simp only [↓XC, XV, XT, forall_const, implies_true, reduceIte, Nat.reduceAdd, Nat.reduceLT, Nat.reduceEqDiff, Nat.reduceBEq, Nat.reduceLeDiff, reduceCtorEq, Nat.reduceSub, Nat.reduceMul, Int.reduceToNat, Int.reduceLT, Int.reduceLE, TES, pe_byteAt_eq, pe_isWhite_eq, XRP, XR]
  simp only at h1 h2 h3 h4 h5
  have hW := pcW_ge L
  have hcw := cutW_len k cur
  refine ⟨fun hil => Chk.mk (by omega) fun _ => ?_, fun hil => ?_⟩
  · have hi : i < s.length := by omega
    have hbt := byt_lt hi
    rw [← hbt]
    have e1 : byt s (spot s ((i : Int) + 1)) = byt s (i + 1) := by rw [byt_spot (by omega)]; rfl
    rw [e1]
    refine ⟨fun h10 => ?_, fun h10 => Chk.mk (fun _ => by simp only [inR]; omega) fun _ => Chk.mk (fun h => ⟨⟨h, h⟩, hp⟩) fun _ => ⟨fun hqq => ?_, fun hqq => ⟨fun hq => ?_, fun hq => ?_⟩⟩⟩
    · refine XCalls.reb (qends s i L cur (cutW k cur).length false ⟨hp, hi, hcw, by omega, by omega⟩) [0, 1] (by simp [mapHL, SV.mapH, muL]) (by simp only [ctxMap, at_cons_zero, at_cons_succ, and_true, List.length_cons, List.length_nil]; exact ⟨by omega, soLe_blk (by simp [mapHL, SV.mapH, muL]), by omega, soLe_same fun _ => rfl⟩) (by decide) (by simp [newRw, SO.ro]) (by decide) (by simp [cleanC, upds, cleanO, noHL, noH, SO.ro, litEl]) ?_
      simp only [↓XC, XV, XT, forall_const, implies_true, reduceIte, Nat.reduceAdd, Nat.reduceLT, Nat.reduceEqDiff, Nat.reduceBEq, Nat.reduceLeDiff, reduceCtorEq, Nat.reduceSub, Nat.reduceMul, Int.reduceToNat, Int.reduceLT, Int.reduceLE, TES, pe_byteAt_eq, pe_isWhite_eq, XRP, XR, XM]
      subst h5
      by_cases hm : mkA s (i + 1) = 0
      · simp only [hm, decide_true, Bool.not_true, Bool.false_eq_true, false_implies, true_and, forall_const, if_true]
        have hcl := cutW_take 0 cur
        have hwl := wh_le s (i + 1) hi
        have hwg := wh_ge s (i + 1)
        rw [hcl]
        exact ⟨⟨(wh s (i + 1), L ++ [⟨cutW 0 cur, false⟩], [], 0), hwl, by simp only [pcW_append, pcW_one, List.length_nil]; omega, Nat.le_refl _, by simp only; rw [← sgl_nl hi h10 hm]; exact h4, rfl⟩, by simp only; omega, (Ent.ren1 [0, 1] (by decide) (by simp only [entCtx, at_cons_zero, at_cons_succ, and_true, true_and]; exact ⟨soLe_blk (by simp [mapHL, SV.mapH, muL, cutW_nil]), soLe_row' (by simp) fun j hj => rfl⟩) (by simp [entEnv, Vg.look, SV.mapH, muL]))⟩
      · simp only [hm, decide_false, Bool.not_false, Bool.true_eq_false, false_implies, and_true, forall_const, if_false]
        refine ⟨by decide +kernel, ?_⟩
        rw [← h4, sgl_mk hi h10 hm]
    · refine XCalls.reb (qput s i L cur (cutW k cur).length [39] 2 true ⟨by omega, by simp, by omega, by omega, by omega⟩) [0, 1] (by simp [mapHL, SV.mapH, muL]) (by simp only [ctxMap, at_cons_zero, at_cons_succ, and_true, List.length_cons, List.length_nil]; exact ⟨by omega, soLe_blk (by simp [mapHL, SV.mapH, muL]), by omega, soLe_same fun _ => rfl⟩) (by decide) (by simp [newRw, SO.ro]) (by decide) (by simp [cleanC, upds, cleanO, noHL, noH, SO.ro, litEl]) ?_
      simp only [↓XC, XV, XT, forall_const, implies_true, reduceIte, Nat.reduceAdd, Nat.reduceLT, Nat.reduceEqDiff, Nat.reduceBEq, Nat.reduceLeDiff, reduceCtorEq, Nat.reduceSub, Nat.reduceMul, Int.reduceToNat, Int.reduceLT, Int.reduceLE, TES, pe_byteAt_eq, pe_isWhite_eq, XRP, XR, XM]
      have h39 : byt s i = 39 ∧ byt s (i + 1) = 39 := by simpa using hqq
      have hi1 : i + 1 < s.length := by
        rcases Nat.lt_or_ge (i + 1) s.length with h6 | h6
        · exact h6
        · rw [byt_ge h6] at h39; omega
      have hc : cutW k (cur ++ [39]) = cur ++ [39] := cutW_non (by decide)
      exact ⟨⟨(i + 2, L, cur ++ [39], k), by simp only; omega, by simp only [List.length_append, List.length_singleton]; omega, by simp only [List.length_append, List.length_singleton]; omega, by simp only; rw [← sgl_qq hi h39.1 h39.2]; exact h4, h5⟩, by simp only; omega, (Ent.ren1 [0, 1] (by decide) (by simp only [entCtx, at_cons_zero, at_cons_succ, and_true, true_and]; exact ⟨soLe_blk (by simp [mapHL, SV.mapH, muL, hc]), soLe_row' (by simp) fun j hj => rfl⟩) (by simp [entEnv, Vg.look, SV.mapH, muL]))⟩
    · refine XCalls.reb (qdone s i L cur (cutW k cur).length ⟨by omega, by omega⟩) [0, 1] (by simp [mapHL, SV.mapH, muL]) (by simp only [ctxMap, at_cons_zero, at_cons_succ, and_true, List.length_cons, List.length_nil]; exact ⟨by omega, soLe_blk (by simp [mapHL, SV.mapH, muL]), by omega, soLe_same fun _ => rfl⟩) (by decide) (by simp [newRw, SO.ro]) (by decide) (by simp [cleanC, upds, cleanO, noHL, noH, SO.ro, litEl]) ?_
      simp only [↓XC, XV, XT, forall_const, implies_true, reduceIte, Nat.reduceAdd, Nat.reduceLT, Nat.reduceEqDiff, Nat.reduceBEq, Nat.reduceLeDiff, reduceCtorEq, Nat.reduceSub, Nat.reduceMul, Int.reduceToNat, Int.reduceLT, Int.reduceLE, TES, pe_byteAt_eq, pe_isWhite_eq, XRP, XR, XM]
      have hn : ¬ byt s (i + 1) = 39 := by intro hx; simp [hq, hx] at hqq
      rw [← h4, sgl_q hi hq hn]; rfl
    · refine ⟨by decide +kernel, Chk.mk (by have := byt_range s i; simp only [inR]; omega) fun _ => ?_⟩
      have hks : isU8 ((litEl [SV.i .u8 (byt s i)] 1 0).getD 0 .u) = true := by rfl
      have hU : ∀ j, j < 1 → isU8 ((litEl [SV.i .u8 (byt s i)] 1 j).getD 0 .u) = true := by
        intro j hj
        obtain rfl : j = 0 := by omega
        exact hks
      simp only [u8_of]
      have hwk : (!(byt s i == 32 || byt s i == 9)) = false → (s.getD i 0 = 32 ∨ s.getD i 0 = 9) := fun hw => by
        have e1 := u8_eq (c := s.getD i 0) (n := 32) (by decide)
        have e2 := u8_eq (c := s.getD i 0) (n := 9) (by decide)
        simp only [Int.cast_ofNat_Int] at e1 e2
        rw [hbt] at hw
        simp only [Bool.not_eq_false', Bool.or_eq_true, beq_iff_eq, e1, e2] at hw
        exact hw
      have hwn : (!(byt s i == 32 || byt s i == 9)) = true → ¬ (s.getD i 0 = 32 ∨ s.getD i 0 = 9) := fun hw => by
        have e1 := u8_eq (c := s.getD i 0) (n := 32) (by decide)
        have e2 := u8_eq (c := s.getD i 0) (n := 9) (by decide)
        simp only [Int.cast_ofNat_Int] at e1 e2
        rw [hbt] at hw
        simp only [Bool.not_eq_true', Bool.or_eq_false_iff, beq_eq_false_iff_ne, ne_eq, e1, e2] at hw
        rintro (hx | hx)
        · exact hw.1 hx
        · exact hw.2 hx
      have hlen : ((if (!(byt s i == 32 || byt s i == 9)) = true then cur.length + 1 else (cutW k cur).length : Nat) : Int) = ((cutW k (cur ++ [s.getD i 0])).length : Nat) := by
        cases hw : (!(byt s i == 32 || byt s i == 9))
        · rw [cutW_white h3 (hwk hw)]; rfl
        · rw [cutW_non (hwn hw)]; simp
      have hS : ∀ {P : Program} {kk : Nat} {st : St} {K : Sl (SV × St)}, True := fun {_ _ _ _} => trivial
      repeat' (with_reducible refine And.intro ?_ ?_)
      all_goals first
        | exact hU
        | (refine XCalls.reb (qput s i L cur (cutW k cur).length [s.getD i 0] 1 (!(byt s i == 32 || byt s i == 9)) ⟨by omega, by simp, by omega, by omega, by omega⟩) [0, 1] (by simp [mapHL, SV.mapH, muL]) (by simp only [ctxMap, at_cons_zero, at_cons_succ, and_true, List.length_cons, List.length_nil]; exact ⟨by omega, soLe_blk (by simp [mapHL, SV.mapH, muL]), by omega, soLe_same fun _ => rfl⟩) (by decide) (by simp [newRw, SO.ro]) (by decide) (by simp [cleanC, upds, cleanO, noHL, noH, SO.ro, litEl]) ?_
           simp only [↓XC, XV, XT, forall_const, implies_true, reduceIte, Nat.reduceAdd, Nat.reduceLT, Nat.reduceEqDiff, Nat.reduceBEq, Nat.reduceLeDiff, reduceCtorEq, Nat.reduceSub, Nat.reduceMul, Int.reduceToNat, Int.reduceLT, Int.reduceLE, TES, pe_byteAt_eq, pe_isWhite_eq, XRP, XR, XM]
           rw [hlen]
           exact ⟨⟨(i + 1, L, cur ++ [s.getD i 0], k), by simp only; omega, by simp only [List.length_append, List.length_singleton]; omega, by simp only [List.length_append, List.length_singleton]; omega, by simp only; rw [← sgl_c hi h10 hq]; exact h4, h5⟩, by simp only; omega, (Ent.ren1 [0, 1] (by decide) (by simp only [entCtx, at_cons_zero, at_cons_succ, and_true, true_and]; exact ⟨soLe_blk (by simp [mapHL, SV.mapH, muL]), soLe_row' (by simp) fun j hj => rfl⟩) (by simp [entEnv, Vg.look, SV.mapH, muL]))⟩)
  · rw [← h4, sgl_end (by omega)]
noncomputable def pe_SingleAt_i : PE := peR (fun (x : Bs × Int) => match x with | (s, p) => [.s s, .i .i64 p]) (fun (x : Bs × Int) => match x with | (s, p) => s.length ≤ 1048576) (fun (x : Bs × Int) => match x with | (s, p) => .tup [.s (sgA s (spot s p)).1, .i .i64 ((sgA s (spot s p)).2.1 : Nat), .i .i64 (sgA s (spot s p)).2.2])
theorem pe_SingleAt_i_eq {s : Bs} {p : Int} : pe_SingleAt_i [.s s, .i .i64 p] = some (s.length ≤ 1048576, .tup [.s (sgA s (spot s p)).1, .i .i64 ((sgA s (spot s p)).2.1 : Nat), .i .i64 (sgA s (spot s p)).2.2]) := peR_eq (by rintro ⟨a0, a1⟩ ⟨b0, b1⟩ h; simp_all []) (s, p)
theorem pe_SingleAt_i_ok : PE1 Tryz.prog 91 pe_SingleAt_i := peR_ok (by rintro ⟨s, p⟩ hp; exact SingleAt_i s p hp)
theorem DoubleAt_i (s : Bs) (p : Int) (hp : s.length ≤ 1048576) : PF Tryz.prog 92 [.s s, .i .i64 p] (.tup [.s (dbA s (spot s p)).1, .i .i64 ((dbA s (spot s p)).2.1 : Nat), .i .i64 (dbA s (spot s p)).2.2]) := by
  refine ⟨rfl, rfl, FnK.of (cf := mkCf Tryz.prog te [(28, pe_spot_i), (51, pe_byteAt), (106, pe_EscapeAt_i), (52, pe_isWhite)] 118 0 false (fun _ => false) (kp [(0, [0, 1]), (1, [0, 1]), (2, [0, 1, 18]), (3, [4, 5, 6]), (4, [0, 7]), (5, [0, 7, 31]), (6, [0, 7, 8]), (7, [0, 7, 8, 9]), (8, [0, 7]), (9, [0, 7, 8, 9, 59]), (10, [0, 7, 9, 65]), (11, [0, 7, 9]), (12, [0, 7, 76]), (13, [4, 5, 6]), (14, [0, 7, 8, 81]), (15, [0, 7, 10, 11]), (16, [0, 7, 10, 11, 94]), (17, [4, 5, 6]), (18, [0, 7]), (19, [0, 7, 8, 108]), (20, [4, 5, 6]), (21, [4, 5, 6])]) [] [(13, [], [], .q1 0 (.q1 1 (.q1 2 (.q1 4 (.q0 3 [3] (.q1 5 (.q1 6 (.fin)))))))), (17, [], [], .q1 0 (.q1 1 (.q1 2 (.q1 4 (.q0 3 [3] (.q1 5 (.q1 6 (.fin)))))))), (8, [], [], .q1 0 (.q1 1 (.q1 4 (.q1 5 (.alt 2 (.alt 3 (.seq [6, 7, 8]) (.alt 6 (.alt 3 (.seq [7, 8]) (.alt 7 (.seq [3, 8]) (.fin))) (.fin))) (.alt 6 (.alt 2 (.alt 3 (.seq [7, 8]) (.alt 7 (.seq [3, 8]) (.fin))) (.alt 7 (.seq [2, 3, 8]) (.fin))) (.fin)))))))]) (mkCf_ok te_ok (l := [(28, pe_spot_i), (51, pe_byteAt), (106, pe_EscapeAt_i), (52, pe_isWhite)]) (⟨pe_spot_i_ok, pe_byteAt_ok, pe_EscapeAt_i_ok, pe_isWhite_ok, trivial⟩) mixed_ok) Tryz.func92 rfl rfl rfl (by simp [mkCf]) (by simp [mkCf]) (rs := [.tmp 4, .tmp 5, .tmp 6]) rfl 100000 ?_⟩
  simp only [↓XC, XV, XT, forall_const, implies_true, reduceIte, Nat.reduceAdd, Nat.reduceLT, Nat.reduceEqDiff, Nat.reduceBEq, Nat.reduceLeDiff, reduceCtorEq, Nat.reduceSub, Nat.reduceMul, Int.reduceToNat, Int.reduceLT, Int.reduceLE, TES, pe_spot_i_eq, pe_byteAt_eq, pe_EscapeAt_i_eq, pe_isWhite_eq, XRP, XR]
  have h0 := spot_le s p
  rw [spot_of s h0]
  refine Chk.mk hp fun _ => ⟨fun h => ?_, fun h => Chk.mk (by simp only [inR]; omega) fun _ => ?_⟩
  · rw [show dbA s (spot s p) = ([], spot s p, 10) by unfold dbA; rw [if_neg (by simp only [Bool.or_eq_true, Bool.and_eq_true, Bool.or_eq_false_iff, Bool.and_eq_false_iff, decide_eq_true_eq, decide_eq_false_iff_not, Bool.not_eq_true', Bool.not_eq_false', beq_iff_eq, beq_eq_false_iff_ne, ne_eq, ge_iff_le, gt_iff_lt, Int.not_le, Int.not_lt, Int.ofNat_le, Int.ofNat_lt] at h; omega)]]
  have hb : byt s (spot s p) = 34 := by simp only [Bool.or_eq_true, Bool.and_eq_true, Bool.or_eq_false_iff, Bool.and_eq_false_iff, decide_eq_true_eq, decide_eq_false_iff_not, Bool.not_eq_true', Bool.not_eq_false', beq_iff_eq, beq_eq_false_iff_ne, ne_eq, ge_iff_le, gt_iff_lt, Int.not_le, Int.not_lt, Int.ofNat_le, Int.ofNat_lt] at h; omega
  have hl0 : spot s p < s.length := by
    rcases Nat.lt_or_ge (spot s p) s.length with h3 | h3
    · exact h3
    · rw [byt_ge h3] at hb; omega
  refine VLoops.of (ι := {x : Nat × List Pc × Bs × Nat // x.1 ≤ s.length ∧ x.2.2.1.length + pcW x.2.1 ≤ 2 * x.1 ∧ x.2.2.2 ≤ x.2.2.1.length ∧ dbl s x.1 x.2.1 x.2.2.1 x.2.2.2 = dbA s (spot s p)}) (fun x => ⟨[(0, .s s), (7, .ptr 0 0 0)], [some (.blk false [.s s, .i .i64 ((x.1.1 : Nat)), .slc 1 0 (x.1.2.1).length, .s (x.1.2.2.1), .i .i64 (((cutW x.1.2.2.2 x.1.2.2.1).length : Nat))]), some (.row false 2 (x.1.2.1).length (rowE pcc pcz (x.1.2.1)))]⟩) (fun x => s.length - x.1.1) ⟨(spot s p + 1, [], [], 0), by simp only; omega, by simp [pcW], Nat.zero_le _, by unfold dbA; rw [if_pos hb]⟩ (Ent.nl (d := [some (.blk false [.s s, .i .i64 ((spot s p : Nat) + 1), .slc 1 0 0, .s [], .i .i64 0])]) [(2, rowE pcc pcz [])] (by simp [nlE, nlV, Vg.look]) (by simp [nlC, nlO, nlL, nlV, cutW_nil])) ?_
  rintro ⟨⟨i, L, cur, k⟩, h1, h2, h3, h4⟩
  simp only [↓XC, XV, XT, forall_const, implies_true, reduceIte, Nat.reduceAdd, Nat.reduceLT, Nat.reduceEqDiff, Nat.reduceBEq, Nat.reduceLeDiff, reduceCtorEq, Nat.reduceSub, Nat.reduceMul, Int.reduceToNat, Int.reduceLT, Int.reduceLE, TES, pe_byteAt_eq, pe_isWhite_eq, pe_EscapeAt_i_eq, XRP, XR]
  simp only at h1 h2 h3 h4
  have hW := pcW_ge L
  have hcw := cutW_len k cur
  refine ⟨fun hil => Chk.mk (by omega) fun _ => ?_, fun hil => ?_⟩
  · have hi : i < s.length := by omega
    have hbt := byt_lt hi
    rw [← hbt]
    have e1 : byt s (spot s ((i : Int) + 1)) = byt s (i + 1) := by rw [byt_spot (by omega)]; rfl
    rw [e1, spot_of s h1]
    refine Chk.mk (fun _ => by simp only [inR]; omega) fun _ => Chk.mk (fun h => ⟨⟨h, h⟩, hp⟩) fun _ => ⟨fun hA => ⟨fun hg => Chk.mk (by simp only [inR]; omega) fun _ => ?_, fun hg => ?_⟩, fun hA => ⟨fun h92 => Chk.mk hp fun _ => ⟨fun he => ?_, fun he => Chk.mk (by have := esA_le s i; simp only [inR]; omega) fun _ => ?_⟩, fun h92 => ⟨fun hq => ?_, fun hq => ?_⟩⟩⟩
    · rw [hg]
      have hgl : byt s i = 92 ∧ byt s (i + 1) = 10 := by simpa using hg
      have hi1 : i + 1 < s.length := by
        rcases Nat.lt_or_ge (i + 1) s.length with h6 | h6
        · exact h6
        · rw [byt_ge h6] at hgl; omega
      refine XCalls.reb (qends s (i + 1) L cur (cutW k cur).length true ⟨hp, hi1, hcw, by omega, by omega⟩) [0, 1] (by simp [mapHL, SV.mapH, muL]) (by simp only [ctxMap, at_cons_zero, at_cons_succ, and_true, List.length_cons, List.length_nil]; exact ⟨by omega, soLe_blk (by simp [mapHL, SV.mapH, muL]), by omega, soLe_same fun _ => rfl⟩) (by decide) (by simp [newRw, SO.ro]) (by decide) (by simp [cleanC, upds, cleanO, noHL, noH, SO.ro, litEl]) ?_
      simp only [↓XC, XV, XT, forall_const, implies_true, reduceIte, Nat.reduceAdd, Nat.reduceLT, Nat.reduceEqDiff, Nat.reduceBEq, Nat.reduceLeDiff, reduceCtorEq, Nat.reduceSub, Nat.reduceMul, Int.reduceToNat, Int.reduceLT, Int.reduceLE, TES, pe_byteAt_eq, pe_isWhite_eq, XRP, XR, XM]
      by_cases hm : mkA s (i + 1 + 1) = 0
      · simp only [hm, decide_true, Bool.not_true, Bool.false_eq_true, false_implies, true_and, forall_const, if_true]
        have hwl := wh_le s (i + 1 + 1) hi1
        have hwg := wh_ge s (i + 1 + 1)
        exact ⟨⟨(wh s (i + 1 + 1), L ++ [⟨cur, true⟩], [], 0), hwl, by simp only [pcW_append, pcW_one, List.length_nil]; omega, Nat.le_refl _, by simp only; rw [← dbl_gl hi hgl.1 hgl.2 hm]; exact h4⟩, by simp only; omega, (Ent.ren1 [0, 1] (by decide) (by simp only [entCtx, at_cons_zero, at_cons_succ, and_true, true_and]; exact ⟨soLe_blk (by simp [mapHL, SV.mapH, muL, cutW_nil]), soLe_row' (by simp) fun j hj => rfl⟩) (by simp [entEnv, Vg.look, SV.mapH, muL]))⟩
      · simp only [hm, decide_false, Bool.not_false, Bool.true_eq_false, false_implies, and_true, forall_const, if_false]
        refine ⟨by decide +kernel, ?_⟩
        rw [← h4, dbl_gm hi hgl.1 hgl.2 hm]
    · rw [hg]
      have h10 : byt s i = 10 := by rw [hg] at hA; simpa using hA
      refine XCalls.reb (qends s i L cur (cutW k cur).length false ⟨hp, hi, hcw, by omega, by omega⟩) [0, 1] (by simp [mapHL, SV.mapH, muL]) (by simp only [ctxMap, at_cons_zero, at_cons_succ, and_true, List.length_cons, List.length_nil]; exact ⟨by omega, soLe_blk (by simp [mapHL, SV.mapH, muL]), by omega, soLe_same fun _ => rfl⟩) (by decide) (by simp [newRw, SO.ro]) (by decide) (by simp [cleanC, upds, cleanO, noHL, noH, SO.ro, litEl]) ?_
      simp only [↓XC, XV, XT, forall_const, implies_true, reduceIte, Nat.reduceAdd, Nat.reduceLT, Nat.reduceEqDiff, Nat.reduceBEq, Nat.reduceLeDiff, reduceCtorEq, Nat.reduceSub, Nat.reduceMul, Int.reduceToNat, Int.reduceLT, Int.reduceLE, TES, pe_byteAt_eq, pe_isWhite_eq, XRP, XR, XM]
      by_cases hm : mkA s (i + 1) = 0
      · simp only [hm, decide_true, Bool.not_true, Bool.false_eq_true, false_implies, true_and, forall_const, if_true, if_false]
        have hcl := cutW_take k cur
        have hwl := wh_le s (i + 1) hi
        have hwg := wh_ge s (i + 1)
        rw [hcl]
        exact ⟨⟨(wh s (i + 1), L ++ [⟨cutW k cur, false⟩], [], 0), hwl, by simp only [pcW_append, pcW_one, List.length_nil]; omega, Nat.le_refl _, by simp only; rw [← dbl_nl hi h10 hm]; exact h4⟩, by simp only; omega, (Ent.ren1 [0, 1] (by decide) (by simp only [entCtx, at_cons_zero, at_cons_succ, and_true, true_and]; exact ⟨soLe_blk (by simp [mapHL, SV.mapH, muL, cutW_nil]), soLe_row' (by simp) fun j hj => rfl⟩) (by simp [entEnv, Vg.look, SV.mapH, muL]))⟩
      · simp only [hm, decide_false, Bool.not_false, Bool.true_eq_false, false_implies, and_true, forall_const, if_false]
        refine ⟨by decide +kernel, ?_⟩
        rw [← h4, dbl_mk hi h10 hm]
    · have hn : ¬ byt s (i + 1) = 10 := by intro hx; simp [h92, hx] at hA
      refine ⟨by decide +kernel, ?_⟩
      rw [← h4, dbl_eb hi h92 hn (by omega)]
    · have hn : ¬ byt s (i + 1) = 10 := by intro hx; simp [h92, hx] at hA
      have hel := esA_len s i
      have hegt := esA_gt s i
      have hele := esA_le s i
      have h44 := dbl_es (L := L) (cur := cur) (k := k) hi h92 hn (by omega)
      rw [h4] at h44
      generalize esA s i = t at *
      refine XCalls.reb (qput s i L cur (cutW k cur).length t.1 ((t.2 : Int) - i) true ⟨by omega, by omega, by omega, by omega, by omega⟩) [0, 1] (by simp [mapHL, SV.mapH, muL]) (by simp only [ctxMap, at_cons_zero, at_cons_succ, and_true, List.length_cons, List.length_nil]; exact ⟨by omega, soLe_blk (by simp [mapHL, SV.mapH, muL]), by omega, soLe_same fun _ => rfl⟩) (by decide) (by simp [newRw, SO.ro]) (by decide) (by simp [cleanC, upds, cleanO, noHL, noH, SO.ro, litEl]) ?_
      simp only [↓XC, XV, XT, forall_const, implies_true, reduceIte, Nat.reduceAdd, Nat.reduceLT, Nat.reduceEqDiff, Nat.reduceBEq, Nat.reduceLeDiff, reduceCtorEq, Nat.reduceSub, Nat.reduceMul, Int.reduceToNat, Int.reduceLT, Int.reduceLE, TES, pe_byteAt_eq, pe_isWhite_eq, XRP, XR, XM]
      have hc : cutW (cur.length + t.1.length) (cur ++ t.1) = cur ++ t.1 := by rw [← List.length_append]; exact cutW_all _
      rw [show (i : Int) + ((t.2 : Int) - i) = (t.2 : Int) by omega]
      exact ⟨⟨(t.2, L, cur ++ t.1, (cur ++ t.1).length), by simp only; omega, by simp only [List.length_append]; omega, Nat.le_refl _, h44.symm⟩, by simp only; omega, (Ent.ren1 [0, 1] (by decide) (by simp only [entCtx, at_cons_zero, at_cons_succ, and_true, true_and]; exact ⟨soLe_blk (by simp [mapHL, SV.mapH, muL, hc]), soLe_row' (by simp) fun j hj => rfl⟩) (by simp [entEnv, Vg.look, SV.mapH, muL]))⟩
    · refine XCalls.reb (qdone s i L cur (cutW k cur).length ⟨by omega, by omega⟩) [0, 1] (by simp [mapHL, SV.mapH, muL]) (by simp only [ctxMap, at_cons_zero, at_cons_succ, and_true, List.length_cons, List.length_nil]; exact ⟨by omega, soLe_blk (by simp [mapHL, SV.mapH, muL]), by omega, soLe_same fun _ => rfl⟩) (by decide) (by simp [newRw, SO.ro]) (by decide) (by simp [cleanC, upds, cleanO, noHL, noH, SO.ro, litEl]) ?_
      simp only [↓XC, XV, XT, forall_const, implies_true, reduceIte, Nat.reduceAdd, Nat.reduceLT, Nat.reduceEqDiff, Nat.reduceBEq, Nat.reduceLeDiff, reduceCtorEq, Nat.reduceSub, Nat.reduceMul, Int.reduceToNat, Int.reduceLT, Int.reduceLE, TES, pe_byteAt_eq, pe_isWhite_eq, XRP, XR, XM]
      rw [← h4, dbl_q hi hq]; rfl
    · have hq10 : ¬ byt s i = 10 := by intro hx; simp [hx] at hA
      refine ⟨by decide +kernel, Chk.mk (by have := byt_range s i; simp only [inR]; omega) fun _ => ?_⟩
      have hks : isU8 ((litEl [SV.i .u8 (byt s i)] 1 0).getD 0 .u) = true := by rfl
      have hU : ∀ j, j < 1 → isU8 ((litEl [SV.i .u8 (byt s i)] 1 j).getD 0 .u) = true := by
        intro j hj
        obtain rfl : j = 0 := by omega
        exact hks
      simp only [u8_of]
      have hwk : (!(byt s i == 32 || byt s i == 9)) = false → (s.getD i 0 = 32 ∨ s.getD i 0 = 9) := fun hw => by
        have e1 := u8_eq (c := s.getD i 0) (n := 32) (by decide)
        have e2 := u8_eq (c := s.getD i 0) (n := 9) (by decide)
        simp only [Int.cast_ofNat_Int] at e1 e2
        rw [hbt] at hw
        simp only [Bool.not_eq_false', Bool.or_eq_true, beq_iff_eq, e1, e2] at hw
        exact hw
      have hwn : (!(byt s i == 32 || byt s i == 9)) = true → ¬ (s.getD i 0 = 32 ∨ s.getD i 0 = 9) := fun hw => by
        have e1 := u8_eq (c := s.getD i 0) (n := 32) (by decide)
        have e2 := u8_eq (c := s.getD i 0) (n := 9) (by decide)
        simp only [Int.cast_ofNat_Int] at e1 e2
        rw [hbt] at hw
        simp only [Bool.not_eq_true', Bool.or_eq_false_iff, beq_eq_false_iff_ne, ne_eq, e1, e2] at hw
        rintro (hx | hx)
        · exact hw.1 hx
        · exact hw.2 hx
      have hlen : ((if (!(byt s i == 32 || byt s i == 9)) = true then cur.length + 1 else (cutW k cur).length : Nat) : Int) = ((cutW k (cur ++ [s.getD i 0])).length : Nat) := by
        cases hw : (!(byt s i == 32 || byt s i == 9))
        · rw [cutW_white h3 (hwk hw)]; rfl
        · rw [cutW_non (hwn hw)]; simp
      repeat' (with_reducible refine And.intro ?_ ?_)
      all_goals first
        | exact hU
        | (refine XCalls.reb (qput s i L cur (cutW k cur).length [s.getD i 0] 1 (!(byt s i == 32 || byt s i == 9)) ⟨by omega, by simp, by omega, by omega, by omega⟩) [0, 1] (by simp [mapHL, SV.mapH, muL]) (by simp only [ctxMap, at_cons_zero, at_cons_succ, and_true, List.length_cons, List.length_nil]; exact ⟨by omega, soLe_blk (by simp [mapHL, SV.mapH, muL]), by omega, soLe_same fun _ => rfl⟩) (by decide) (by simp [newRw, SO.ro]) (by decide) (by simp [cleanC, upds, cleanO, noHL, noH, SO.ro, litEl]) ?_
           simp only [↓XC, XV, XT, forall_const, implies_true, reduceIte, Nat.reduceAdd, Nat.reduceLT, Nat.reduceEqDiff, Nat.reduceBEq, Nat.reduceLeDiff, reduceCtorEq, Nat.reduceSub, Nat.reduceMul, Int.reduceToNat, Int.reduceLT, Int.reduceLE, TES, pe_byteAt_eq, pe_isWhite_eq, XRP, XR, XM]
           rw [hlen]
           exact ⟨⟨(i + 1, L, cur ++ [s.getD i 0], k), by simp only; omega, by simp only [List.length_append, List.length_singleton]; omega, by simp only [List.length_append, List.length_singleton]; omega, by simp only; rw [← dbl_c hi hq10 h92 hq]; exact h4⟩, by simp only; omega, (Ent.ren1 [0, 1] (by decide) (by simp only [entCtx, at_cons_zero, at_cons_succ, and_true, true_and]; exact ⟨soLe_blk (by simp [mapHL, SV.mapH, muL]), soLe_row' (by simp) fun j hj => rfl⟩) (by simp [entEnv, Vg.look, SV.mapH, muL]))⟩)
  · rw [← h4, dbl_end (by omega)]
noncomputable def pe_DoubleAt_i : PE := peR (fun (x : Bs × Int) => match x with | (s, p) => [.s s, .i .i64 p]) (fun (x : Bs × Int) => match x with | (s, p) => s.length ≤ 1048576) (fun (x : Bs × Int) => match x with | (s, p) => .tup [.s (dbA s (spot s p)).1, .i .i64 ((dbA s (spot s p)).2.1 : Nat), .i .i64 (dbA s (spot s p)).2.2])
theorem pe_DoubleAt_i_eq {s : Bs} {p : Int} : pe_DoubleAt_i [.s s, .i .i64 p] = some (s.length ≤ 1048576, .tup [.s (dbA s (spot s p)).1, .i .i64 ((dbA s (spot s p)).2.1 : Nat), .i .i64 (dbA s (spot s p)).2.2]) := peR_eq (by rintro ⟨a0, a1⟩ ⟨b0, b1⟩ h; simp_all []) (s, p)
theorem pe_DoubleAt_i_ok : PE1 Tryz.prog 92 pe_DoubleAt_i := peR_ok (by rintro ⟨s, p⟩ hp; exact DoubleAt_i s p hp)
theorem SingleAt_s (s : Bs) (p : Int) (hp : s.length ≤ 1048576) : PF Tryz.prog 72 [.s s, .i .i64 p] (.tup [.s (sgA s (spot s p)).1, .i .i64 ((sgA s (spot s p)).2.1 : Nat), .i .i64 (sgA s (spot s p)).2.2]) := by
  refine ⟨rfl, rfl, FnK.of (cf := mkCf Tryz.prog te [(9, pe_spot_s), (77, pe_FoldFlow_s), (95, pe_Cut_s), (37, pe_MarkAt_s), (33, pe_White_s)] 105 0 false (fun _ => false) (kp [(0, [0, 1]), (1, [0, 1]), (2, [0, 1, 22]), (3, [4, 5, 6]), (4, [0, 1, 7]), (5, [0, 1, 7, 8]), (6, [0, 7, 8, 9]), (7, [0, 7, 8, 9, 31]), (8, [0, 7, 8, 9]), (9, [0, 7, 8, 9]), (10, [0, 7, 8, 9, 40]), (11, [0, 7, 8, 9]), (12, [0, 7, 8, 9]), (13, [0, 7, 8, 9, 64]), (14, [7, 9]), (15, [4, 5, 6]), (16, [0, 7, 8, 9, 79]), (17, [0, 7, 9]), (18, [0, 7, 8, 9]), (19, [0, 7, 8, 9, 95]), (20, [4, 5, 6]), (21, [0, 7, 8, 9]), (22, [4, 5, 6])]) [] []) (mkCf_ok te_ok (l := [(9, pe_spot_s), (77, pe_FoldFlow_s), (95, pe_Cut_s), (37, pe_MarkAt_s), (33, pe_White_s)]) (⟨pe_spot_s_ok, pe_FoldFlow_s_ok, pe_Cut_s_ok, pe_MarkAt_s_ok, pe_White_s_ok, trivial⟩) mixed_ok) Tryz.func72 rfl rfl rfl (by simp [mkCf]) (by simp [mkCf]) (rs := [.tmp 4, .tmp 5, .tmp 6]) rfl 100000 ?_⟩
  simp only [↓XC, XV, XT, forall_const, implies_true, reduceIte, Nat.reduceAdd, Nat.reduceLT, Nat.reduceEqDiff, Nat.reduceBEq, Nat.reduceLeDiff, reduceCtorEq, Nat.reduceSub, Nat.reduceMul, Int.reduceToNat, Int.reduceLT, Int.reduceLE, TES, pe_spot_s_eq, pe_FoldFlow_s_eq, pe_Cut_s_eq, pe_MarkAt_s_eq, pe_White_s_eq, XRP, XR]
  have h0 := spot_le s p
  refine Chk.mk (fun h => by simp only [Bool.or_eq_true, Bool.and_eq_true, Bool.or_eq_false_iff, Bool.and_eq_false_iff, decide_eq_true_eq, decide_eq_false_iff_not, Bool.not_eq_true', Bool.not_eq_false', beq_iff_eq, beq_eq_false_iff_ne, ne_eq, ge_iff_le, gt_iff_lt, Int.not_le, Int.not_lt, Int.ofNat_le, Int.ofNat_lt] at h; omega) fun _ => ⟨fun h => ?_, fun h => Chk.mk (by simp only [inR]; omega) fun _ => ?_⟩
  · have hn : ¬ byt s (spot s p) = 39 := by
      intro hb
      have hl : spot s p < s.length := by
        rcases Nat.lt_or_ge (spot s p) s.length with h3 | h3
        · exact h3
        · rw [byt_ge h3] at hb; omega
      rw [byt_lt hl] at hb
      simp only [Bool.or_eq_true, Bool.and_eq_true, Bool.or_eq_false_iff, Bool.and_eq_false_iff, decide_eq_true_eq, decide_eq_false_iff_not, Bool.not_eq_true', Bool.not_eq_false', beq_iff_eq, beq_eq_false_iff_ne, ne_eq, ge_iff_le, gt_iff_lt, Int.not_le, Int.not_lt, Int.ofNat_le, Int.ofNat_lt] at h
      omega
    rw [show sgA s (spot s p) = ([], spot s p, 10) by unfold sgA; rw [if_neg hn]]
  have hl0 : spot s p < s.length := by simp only [Bool.or_eq_true, Bool.and_eq_true, Bool.or_eq_false_iff, Bool.and_eq_false_iff, decide_eq_true_eq, decide_eq_false_iff_not, Bool.not_eq_true', Bool.not_eq_false', beq_iff_eq, beq_eq_false_iff_ne, ne_eq, ge_iff_le, gt_iff_lt, Int.not_le, Int.not_lt, Int.ofNat_le, Int.ofNat_lt] at h; omega
  have hb : byt s (spot s p) = 39 := by rw [byt_lt hl0]; simp only [Bool.or_eq_true, Bool.and_eq_true, Bool.or_eq_false_iff, Bool.and_eq_false_iff, decide_eq_true_eq, decide_eq_false_iff_not, Bool.not_eq_true', Bool.not_eq_false', beq_iff_eq, beq_eq_false_iff_ne, ne_eq, ge_iff_le, gt_iff_lt, Int.not_le, Int.not_lt, Int.ofNat_le, Int.ofNat_lt] at h; omega
  refine VLoops.of (ι := {x : Nat × List Pc × Bs × Nat // x.1 ≤ s.length ∧ x.2.2.1.length + pcW x.2.1 ≤ 1 * x.1 ∧ x.2.2.2 ≤ x.2.2.1.length ∧ sgl s x.1 x.2.1 x.2.2.1 = sgA s (spot s p) ∧ x.2.2.2 = 0}) (fun x => ⟨[(0, .s s), (7, .slc 0 0 x.1.2.1.length), (8, .slc 1 0 x.1.2.2.1.length), (9, .i .i64 (x.1.1 : Nat))], [some (.row false 2 x.1.2.1.length (rowE pcc pcz x.1.2.1)), some (.row false 1 x.1.2.2.1.length (rowE bytc 0 x.1.2.2.1))]⟩) (fun x => s.length - x.1.1) ⟨(spot s p + 1, [], [], 0), by simp only; omega, by simp [pcW], Nat.zero_le _, by unfold sgA; rw [if_pos hb], rfl⟩ (by simp only [Int.natCast_add, Int.natCast_one]; exact (Ent.ren1 [0, 1] (by decide) (by simp only [entCtx, at_cons_zero, at_cons_succ, and_true, true_and]; exact ⟨soLe_row fun j hj => absurd hj (Nat.not_lt_zero _), soLe_row fun j hj => absurd hj (Nat.not_lt_zero _)⟩) (by simp [entEnv, Vg.look, SV.mapH, muL]))) ?_
  rintro ⟨⟨i, L, cur, k⟩, h1, h2, h3, h4, h5⟩
  simp only [↓XC, XV, XT, forall_const, implies_true, reduceIte, Nat.reduceAdd, Nat.reduceLT, Nat.reduceEqDiff, Nat.reduceBEq, Nat.reduceLeDiff, reduceCtorEq, Nat.reduceSub, Nat.reduceMul, Int.reduceToNat, Int.reduceLT, Int.reduceLE, TES, pe_FoldFlow_s_eq, pe_Cut_s_eq, pe_MarkAt_s_eq, pe_White_s_eq, XRP, XR]
  simp only at h1 h2 h3 h4 h5
  have hW := pcW_ge L
  have e2 : ((i : Int) + 1).toNat = i + 1 := by omega
  rw [e2]
  refine ⟨fun hil => Chk.mk (by omega) fun _ => ?_, fun hil => ?_⟩
  · have hi : i < s.length := by omega
    have hbt := byt_lt hi
    rw [← hbt]
    refine Chk.mk (fun _ => by simp only [inR]; omega) fun _ => Chk.mk (fun h => by simp only [inR]; omega) fun _ => Chk.mk (fun h => by simp only [Bool.or_eq_true, Bool.and_eq_true, Bool.or_eq_false_iff, Bool.and_eq_false_iff, decide_eq_true_eq, decide_eq_false_iff_not, Bool.not_eq_true', Bool.not_eq_false', beq_iff_eq, beq_eq_false_iff_ne, ne_eq, ge_iff_le, gt_iff_lt, Int.not_le, Int.not_lt, Int.ofNat_le, Int.ofNat_lt] at h; omega) fun _ => ⟨fun hqq => ?_, fun hqq => Chk.mk (by omega) fun _ => ⟨fun hq => ?_, fun hq => Chk.mk (by omega) fun _ => ⟨fun h10 => ?_, fun h10 => Chk.mk (by omega) fun _ => ?_⟩⟩⟩
    · have h39 : byt s i = 39 ∧ byt s (i + 1) = 39 ∧ i + 1 < s.length := by
        simp only [Bool.or_eq_true, Bool.and_eq_true, Bool.or_eq_false_iff, Bool.and_eq_false_iff, decide_eq_true_eq, decide_eq_false_iff_not, Bool.not_eq_true', Bool.not_eq_false', beq_iff_eq, beq_eq_false_iff_ne, ne_eq, ge_iff_le, gt_iff_lt, Int.not_le, Int.not_lt, Int.ofNat_le, Int.ofNat_lt] at hqq
        exact ⟨hqq.1.1, by rw [byt_lt (by omega)]; exact hqq.2, by omega⟩
      refine ⟨litEl_ok rfl rfl, Chk.mk (by omega) fun _ => Chk.mk (by simp only [inR]; omega) fun _ => Chk.mk (by simp only [inR]; omega) fun _ => ?_⟩
      exact ⟨⟨(i + 2, L, cur ++ [39], k), by simp only; omega, by simp only [List.length_append, List.length_singleton]; omega, by simp only [List.length_append, List.length_singleton]; omega, by simp only; rw [← sgl_qq hi h39.1 h39.2.1]; exact h4, h5⟩, by simp only; omega, (by first | exact Ent.ren1 [0, 3] (by decide) (by simp only [entCtx, at_cons_zero, at_cons_succ, and_true, true_and]; exact ⟨soLe_same fun _ => rfl, soLe_push (enc := bytc) (z := 0) (xs := cur) (y := 39) (sz := 1) (fun _ => rfl) rfl (fun _ _ => rfl) rfl⟩) (by simp [entEnv, Vg.look, SV.mapH, muL]; try omega))⟩
    · have hn : ¬ byt s (i + 1) = 39 := by
        intro hx
        have hi1 : i + 1 < s.length := by
          rcases Nat.lt_or_ge (i + 1) s.length with h6 | h6
          · exact h6
          · rw [byt_ge h6] at hx; omega
        rw [byt_lt hi1] at hx
        simp only [hq, hx, show (i : Int) + 1 < s.length by omega, decide_true, Bool.and_self, Bool.true_eq_false] at hqq
      refine ⟨fun j _ => rfl, Chk.mk (Nat.le_refl _) fun _ => ⟨litEl_ok rfl rfl, Chk.mk (by omega) fun _ => ?_⟩⟩
      rw [rowBytes_bytc]
      have e : rowList (catF L.length (fun j => [SV.s (L.getD j pcz).text, SV.b (L.getD j pcz).glue]) fun j => litEl [SV.s cur, SV.b false] 2 j) 0 (L.length + 1) = (L ++ [(⟨cur, false⟩ : Pc)]).map pcc := rowList_pushC pcz L ⟨cur, false⟩ 2 (fun _ _ => rfl) rfl rfl
      rw [e]
      simp only [↓XC, XV, XT, forall_const, implies_true, reduceIte, Nat.reduceAdd, Nat.reduceLT, Nat.reduceEqDiff, Nat.reduceBEq, Nat.reduceLeDiff, reduceCtorEq, Nat.reduceSub, Nat.reduceMul, Int.reduceToNat, Int.reduceLT, Int.reduceLE, TES, pe_FoldFlow_s_eq, XRP, XR]
      refine Chk.mk ⟨⟨Nat.le_refl _, catF_plain (enc := pcc) pcz L ⟨cur, false⟩ 2 (fun _ => rfl) (fun _ _ => rfl) rfl fun _ => rfl⟩, by rw [pcW_append, pcW_one]; show pcW L + (cur.length + 1) ≤ 16777216; omega⟩ fun _ => Chk.mk (by simp only [inR]; omega) fun _ => ?_
      rw [← h4, sgl_q hi hq hn]; rfl
    · rw [rowE_list rfl]
      simp only [↓XC, XV, XT, forall_const, implies_true, reduceIte, Nat.reduceAdd, Nat.reduceLT, Nat.reduceEqDiff, Nat.reduceBEq, Nat.reduceLeDiff, reduceCtorEq, Nat.reduceSub, Nat.reduceMul, Int.reduceToNat, Int.reduceLT, Int.reduceLE, TES, pe_FoldFlow_s_eq, pe_Cut_s_eq, pe_MarkAt_s_eq, pe_White_s_eq, XRP, XR]
      have hs : spot s ((i : Int) + 1) = i + 1 := by unfold spot; omega
      rw [hs]
      have hwl := wh_le s (i + 1) hi
      have hwg := wh_ge s (i + 1)
      have hcl := cutW_len 0 cur
      have hr := mkA_range s (i + 1)
      refine Chk.mk ⟨Nat.le_refl _, by omega⟩ fun _ => ⟨litEl_ok rfl rfl, Chk.mk (by omega) fun _ => Chk.mk (by simp only [inR]; omega) fun _ => Chk.mk hp fun _ => ⟨fun hm => Chk.mk (by simp only [inR]; omega) fun _ => ?_, fun hm => Chk.mk (by simp only [inR]; omega) fun _ => Chk.mk hp fun _ => Chk.mk (by simp only [inR]; omega) fun _ => Chk.mk (by simp only [inR]; omega) fun _ => ?_⟩⟩
      · rw [← h4, sgl_mk hi h10 (by omega)]; rfl
      · rw [show (((wh s (i + 1) : Nat) : Int) - 1 + 1) = ((wh s (i + 1) : Nat) : Int) by omega]
        exact ⟨⟨(wh s (i + 1), L ++ [⟨cutW 0 cur, false⟩], [], 0), hwl, by simp only [pcW_append, pcW_one, List.length_nil]; omega, Nat.le_refl _, by simp only; rw [← sgl_nl hi h10 (by omega)]; exact h4, rfl⟩, by simp only; omega, (Ent.ren1 [3, 4] (by decide) (by simp only [entCtx, at_cons_zero, at_cons_succ, and_true, true_and]; exact ⟨soLe_push (enc := pcc) (z := pcz) (xs := L) (y := ⟨cutW 0 cur, false⟩) (sz := 2) (fun _ => rfl) rfl (fun _ _ => rfl) rfl, soLe_row fun j hj => absurd hj (Nat.not_lt_zero _)⟩) (by simp [entEnv, Vg.look, SV.mapH, muL]))⟩
    · refine ⟨litEl_ok rfl rfl, Chk.mk (by omega) fun _ => Chk.mk (by simp only [inR]; omega) fun _ => ?_⟩
      rw [hbt]
      exact ⟨⟨(i + 1, L, cur ++ [s.getD i 0], k), by simp only; omega, by simp only [List.length_append, List.length_singleton]; omega, by simp only [List.length_append, List.length_singleton]; omega, by simp only; rw [← sgl_c hi h10 hq]; exact h4, h5⟩, by simp only; omega, (by first | exact Ent.ren1 [0, 3] (by decide) (by simp only [entCtx, at_cons_zero, at_cons_succ, and_true, true_and]; exact ⟨soLe_same fun _ => rfl, soLe_push (enc := bytc) (z := 0) (xs := cur) (y := s.getD i 0) (sz := 1) (fun _ => rfl) rfl (fun _ _ => rfl) rfl⟩) (by simp [entEnv, Vg.look, SV.mapH, muL]; try omega))⟩
  · rw [← h4, sgl_end (by omega)]
noncomputable def pe_SingleAt_s : PE := peR (fun (x : Bs × Int) => match x with | (s, p) => [.s s, .i .i64 p]) (fun (x : Bs × Int) => match x with | (s, p) => s.length ≤ 1048576) (fun (x : Bs × Int) => match x with | (s, p) => .tup [.s (sgA s (spot s p)).1, .i .i64 ((sgA s (spot s p)).2.1 : Nat), .i .i64 (sgA s (spot s p)).2.2])
theorem pe_SingleAt_s_eq {s : Bs} {p : Int} : pe_SingleAt_s [.s s, .i .i64 p] = some (s.length ≤ 1048576, .tup [.s (sgA s (spot s p)).1, .i .i64 ((sgA s (spot s p)).2.1 : Nat), .i .i64 (sgA s (spot s p)).2.2]) := peR_eq (by rintro ⟨a0, a1⟩ ⟨b0, b1⟩ h; simp_all []) (s, p)
theorem pe_SingleAt_s_ok : PE1 Tryz.prog 72 pe_SingleAt_s := peR_ok (by rintro ⟨s, p⟩ hp; exact SingleAt_s s p hp)
theorem DoubleAt_s (s : Bs) (p : Int) (hp : s.length ≤ 1048576) : PF Tryz.prog 73 [.s s, .i .i64 p] (.tup [.s (dbA s (spot s p)).1, .i .i64 ((dbA s (spot s p)).2.1 : Nat), .i .i64 (dbA s (spot s p)).2.2]) := by
  refine ⟨rfl, rfl, FnK.of (cf := mkCf Tryz.prog te [(9, pe_spot_s), (77, pe_FoldFlow_s), (95, pe_Cut_s), (37, pe_MarkAt_s), (33, pe_White_s), (96, pe_EscapeAt_s)] 134 0 false (fun _ => false) (kp [(0, [0, 1]), (1, [0, 1]), (2, [0, 1, 26]), (3, [4, 5, 6]), (4, [0, 1, 7]), (5, [0, 1, 7, 8]), (6, [0, 1, 7, 8, 9]), (7, [0, 7, 8, 9, 10]), (8, [0, 7, 8, 9, 10, 35]), (9, [0, 7, 8, 9, 10]), (10, [0, 7, 8, 9, 10, 11]), (11, [0, 7, 8, 9, 10]), (12, [0, 7, 8, 9, 10, 11, 62]), (13, [7, 10]), (14, [4, 5, 6]), (15, [0, 7, 8, 9, 10, 11, 77]), (16, [0, 7, 8, 9, 10, 11, 85]), (17, [0, 7, 8, 9, 10, 11]), (18, [0, 7, 8, 9, 10, 11]), (19, [0, 7, 10]), (20, [0, 7, 8, 10]), (21, [0, 7, 8, 9, 10]), (22, [0, 7, 8, 9, 10, 103]), (23, [4, 5, 6]), (24, [0, 7, 8, 9, 10]), (25, [0, 7, 8, 9, 10, 111]), (26, [0, 7, 8, 10, 12, 13]), (27, [0, 7, 8, 10, 12, 13, 123]), (28, [4, 5, 6]), (29, [0, 7, 8, 13]), (30, [0, 7, 8, 9, 13]), (31, [0, 7, 8, 9, 10]), (32, [4, 5, 6])]) [] []) (mkCf_ok te_ok (l := [(9, pe_spot_s), (77, pe_FoldFlow_s), (95, pe_Cut_s), (37, pe_MarkAt_s), (33, pe_White_s), (96, pe_EscapeAt_s)]) (⟨pe_spot_s_ok, pe_FoldFlow_s_ok, pe_Cut_s_ok, pe_MarkAt_s_ok, pe_White_s_ok, pe_EscapeAt_s_ok, trivial⟩) mixed_ok) Tryz.func73 rfl rfl rfl (by simp [mkCf]) (by simp [mkCf]) (rs := [.tmp 4, .tmp 5, .tmp 6]) rfl 100000 ?_⟩
  simp only [↓XC, XV, XT, forall_const, implies_true, reduceIte, Nat.reduceAdd, Nat.reduceLT, Nat.reduceEqDiff, Nat.reduceBEq, Nat.reduceLeDiff, reduceCtorEq, Nat.reduceSub, Nat.reduceMul, Int.reduceToNat, Int.reduceLT, Int.reduceLE, TES, pe_spot_s_eq, pe_FoldFlow_s_eq, pe_Cut_s_eq, pe_MarkAt_s_eq, pe_White_s_eq, pe_EscapeAt_s_eq, XRP, XR]
  have h0 := spot_le s p
  refine Chk.mk (fun h => by simp only [Bool.or_eq_true, Bool.and_eq_true, Bool.or_eq_false_iff, Bool.and_eq_false_iff, decide_eq_true_eq, decide_eq_false_iff_not, Bool.not_eq_true', Bool.not_eq_false', beq_iff_eq, beq_eq_false_iff_ne, ne_eq, ge_iff_le, gt_iff_lt, Int.not_le, Int.not_lt, Int.ofNat_le, Int.ofNat_lt] at h; omega) fun _ => ⟨fun h => ?_, fun h => Chk.mk (by simp only [inR]; omega) fun _ => ?_⟩
  · have hn : ¬ byt s (spot s p) = 34 := by
      intro hb
      have hl : spot s p < s.length := by
        rcases Nat.lt_or_ge (spot s p) s.length with h3 | h3
        · exact h3
        · rw [byt_ge h3] at hb; omega
      rw [byt_lt hl] at hb
      simp only [Bool.or_eq_true, Bool.and_eq_true, Bool.or_eq_false_iff, Bool.and_eq_false_iff, decide_eq_true_eq, decide_eq_false_iff_not, Bool.not_eq_true', Bool.not_eq_false', beq_iff_eq, beq_eq_false_iff_ne, ne_eq, ge_iff_le, gt_iff_lt, Int.not_le, Int.not_lt, Int.ofNat_le, Int.ofNat_lt] at h
      omega
    rw [show dbA s (spot s p) = ([], spot s p, 10) by unfold dbA; rw [if_neg hn]]
  have hl0 : spot s p < s.length := by simp only [Bool.or_eq_true, Bool.and_eq_true, Bool.or_eq_false_iff, Bool.and_eq_false_iff, decide_eq_true_eq, decide_eq_false_iff_not, Bool.not_eq_true', Bool.not_eq_false', beq_iff_eq, beq_eq_false_iff_ne, ne_eq, ge_iff_le, gt_iff_lt, Int.not_le, Int.not_lt, Int.ofNat_le, Int.ofNat_lt] at h; omega
  have hb : byt s (spot s p) = 34 := by rw [byt_lt hl0]; simp only [Bool.or_eq_true, Bool.and_eq_true, Bool.or_eq_false_iff, Bool.and_eq_false_iff, decide_eq_true_eq, decide_eq_false_iff_not, Bool.not_eq_true', Bool.not_eq_false', beq_iff_eq, beq_eq_false_iff_ne, ne_eq, ge_iff_le, gt_iff_lt, Int.not_le, Int.not_lt, Int.ofNat_le, Int.ofNat_lt] at h; omega
  refine VLoops.of (ι := {x : Nat × List Pc × Bs × Nat // x.1 ≤ s.length ∧ x.2.2.1.length + pcW x.2.1 ≤ 2 * x.1 ∧ x.2.2.2 ≤ x.2.2.1.length ∧ dbl s x.1 x.2.1 x.2.2.1 x.2.2.2 = dbA s (spot s p)}) (fun x => ⟨[(0, .s s), (7, .slc 0 0 x.1.2.1.length), (8, .slc 1 0 x.1.2.2.1.length), (9, .i .i64 (x.1.2.2.2 : Nat)), (10, .i .i64 (x.1.1 : Nat))], [some (.row false 2 x.1.2.1.length (rowE pcc pcz x.1.2.1)), some (.row false 1 x.1.2.2.1.length (rowE bytc 0 x.1.2.2.1))]⟩) (fun x => s.length - x.1.1) ⟨(spot s p + 1, [], [], 0), by simp only; omega, by simp [pcW], Nat.zero_le _, by unfold dbA; rw [if_pos hb]⟩ (by simp only [Int.natCast_add, Int.natCast_one]; exact (Ent.ren1 [0, 1] (by decide) (by simp only [entCtx, at_cons_zero, at_cons_succ, and_true, true_and]; exact ⟨soLe_row fun j hj => absurd hj (Nat.not_lt_zero _), soLe_row fun j hj => absurd hj (Nat.not_lt_zero _)⟩) (by simp [entEnv, Vg.look, SV.mapH, muL]))) ?_
  rintro ⟨⟨i, L, cur, k⟩, h1, h2, h3, h4⟩
  simp only [↓XC, XV, XT, forall_const, implies_true, reduceIte, Nat.reduceAdd, Nat.reduceLT, Nat.reduceEqDiff, Nat.reduceBEq, Nat.reduceLeDiff, reduceCtorEq, Nat.reduceSub, Nat.reduceMul, Int.reduceToNat, Int.reduceLT, Int.reduceLE, TES, pe_FoldFlow_s_eq, pe_Cut_s_eq, pe_MarkAt_s_eq, pe_White_s_eq, pe_EscapeAt_s_eq, XRP, XR]
  simp only at h1 h2 h3 h4
  have hW := pcW_ge L
  have e2 : ((i : Int) + 1).toNat = i + 1 := by omega
  rw [e2]
  refine ⟨fun hil => Chk.mk (by omega) fun _ => ?_, fun hil => ?_⟩
  · have hi : i < s.length := by omega
    have hbt := byt_lt hi
    rw [← hbt]
    have hgl : (decide (byt s i = 92) && decide ((i : Int) + 1 < s.length) && decide (((s.getD (i + 1) 0).toNat : Int) = 10)) = decide (byt s i = 92 ∧ byt s (i + 1) = 10) := by
      rcases Nat.lt_or_ge (i + 1) s.length with h6 | h6
      · rw [← byt_lt h6, show decide ((i : Int) + 1 < s.length) = true from decide_eq_true (by omega), Bool.and_true, Bool.decide_and]
      · rw [byt_ge h6, show decide ((i : Int) + 1 < s.length) = false from decide_eq_false (by omega)]
        simp
    rw [hgl]
    refine Chk.mk (fun _ => by simp only [inR]; omega) fun _ => Chk.mk (fun h => by simp only [inR]; omega) fun _ => Chk.mk (fun h => by simp only [Bool.or_eq_true, Bool.and_eq_true, Bool.or_eq_false_iff, Bool.and_eq_false_iff, decide_eq_true_eq, decide_eq_false_iff_not, Bool.not_eq_true', Bool.not_eq_false', beq_iff_eq, beq_eq_false_iff_ne, ne_eq, ge_iff_le, gt_iff_lt, Int.not_le, Int.not_lt, Int.ofNat_le, Int.ofNat_lt] at h; omega) fun _ => Chk.mk (by omega) fun _ => ⟨fun hq => ?_, fun hq => Chk.mk (by omega) fun _ => ⟨fun hA => ⟨fun hg => Chk.mk (by simp only [inR]; omega) fun _ => ?_, fun hg => ?_⟩, fun hA => Chk.mk (by omega) fun _ => ⟨fun h92 => ?_, fun h92 => Chk.mk (by omega) fun _ => ?_⟩⟩⟩
    · refine ⟨fun j _ => rfl, Chk.mk (Nat.le_refl _) fun _ => ⟨litEl_ok rfl rfl, Chk.mk (by omega) fun _ => ?_⟩⟩
      rw [rowBytes_bytc]
      have e : rowList (catF L.length (fun j => [SV.s (L.getD j pcz).text, SV.b (L.getD j pcz).glue]) fun j => litEl [SV.s cur, SV.b false] 2 j) 0 (L.length + 1) = (L ++ [(⟨cur, false⟩ : Pc)]).map pcc := rowList_pushC pcz L ⟨cur, false⟩ 2 (fun _ _ => rfl) rfl rfl
      rw [e]
      simp only [↓XC, XV, XT, forall_const, implies_true, reduceIte, Nat.reduceAdd, Nat.reduceLT, Nat.reduceEqDiff, Nat.reduceBEq, Nat.reduceLeDiff, reduceCtorEq, Nat.reduceSub, Nat.reduceMul, Int.reduceToNat, Int.reduceLT, Int.reduceLE, TES, pe_FoldFlow_s_eq, XRP, XR]
      refine Chk.mk ⟨⟨Nat.le_refl _, catF_plain (enc := pcc) pcz L ⟨cur, false⟩ 2 (fun _ => rfl) (fun _ _ => rfl) rfl fun _ => rfl⟩, by rw [pcW_append, pcW_one]; show pcW L + (cur.length + 1) ≤ 16777216; omega⟩ fun _ => Chk.mk (by simp only [inR]; omega) fun _ => ?_
      rw [← h4, dbl_q hi hq]; rfl
    · rw [rowE_list rfl]
      simp only [↓XC, XV, XT, forall_const, implies_true, reduceIte, Nat.reduceAdd, Nat.reduceLT, Nat.reduceEqDiff, Nat.reduceBEq, Nat.reduceLeDiff, reduceCtorEq, Nat.reduceSub, Nat.reduceMul, Int.reduceToNat, Int.reduceLT, Int.reduceLE, TES, pe_FoldFlow_s_eq, pe_Cut_s_eq, pe_MarkAt_s_eq, pe_White_s_eq, pe_EscapeAt_s_eq, XRP, XR]
      have hg2 : decide (byt s i = 92 ∧ byt s (i + 1) = 10) = true := hg
      have hgl2 := of_decide_eq_true hg
      rw [hg2]
      have hi1 : i + 1 + 1 ≤ s.length := by
        rcases Nat.lt_or_ge (i + 1) s.length with h6 | h6
        · exact h6
        · rw [byt_ge h6] at hgl2; omega
      have hs : spot s ((i : Int) + 1 + 1) = i + 1 + 1 := by unfold spot; omega
      rw [hs]
      have hwl := wh_le s (i + 1 + 1) hi1
      have hwg := wh_ge s (i + 1 + 1)
      have hcl := cutW_len k cur
      have hr := mkA_range s (i + 1 + 1)
      rw [cutW_all]
      refine Chk.mk ⟨Nat.le_refl _, by omega, by omega⟩ fun _ => ⟨litEl_ok rfl rfl, Chk.mk (by omega) fun _ => Chk.mk (by simp only [inR]; omega) fun _ => Chk.mk hp fun _ => ⟨fun hm => Chk.mk (by simp only [inR]; omega) fun _ => ?_, fun hm => Chk.mk (by simp only [inR]; omega) fun _ => Chk.mk hp fun _ => Chk.mk (by simp only [inR]; omega) fun _ => Chk.mk (by simp only [inR]; omega) fun _ => ?_⟩⟩
      · rw [← h4, dbl_gm hi hgl2.1 hgl2.2 (show ¬ mkA s (i + 1 + 1) = 0 by omega)]; rfl
      · rw [show (((wh s (i + 1 + 1) : Nat) : Int) - 1 + 1) = ((wh s (i + 1 + 1) : Nat) : Int) by omega]
        exact ⟨⟨(wh s (i + 1 + 1), L ++ [⟨cur, true⟩], [], 0), hwl, by simp only [pcW_append, pcW_one, List.length_nil]; omega, Nat.le_refl _, (dbl_gl hi hgl2.1 hgl2.2 (show mkA s (i + 1 + 1) = 0 by omega)).symm.trans h4⟩, by simp only; omega, (Ent.ren1 [3, 4] (by decide) (by simp only [entCtx, at_cons_zero, at_cons_succ, and_true, true_and]; exact ⟨soLe_push (enc := pcc) (z := pcz) (xs := L) (y := ⟨cur, true⟩) (sz := 2) (fun _ => rfl) rfl (fun _ _ => rfl) rfl, soLe_row fun j hj => absurd hj (Nat.not_lt_zero _)⟩) (by simp [entEnv, Vg.look, SV.mapH, muL]))⟩
    · rw [rowE_list rfl]
      simp only [↓XC, XV, XT, forall_const, implies_true, reduceIte, Nat.reduceAdd, Nat.reduceLT, Nat.reduceEqDiff, Nat.reduceBEq, Nat.reduceLeDiff, reduceCtorEq, Nat.reduceSub, Nat.reduceMul, Int.reduceToNat, Int.reduceLT, Int.reduceLE, TES, pe_FoldFlow_s_eq, pe_Cut_s_eq, pe_MarkAt_s_eq, pe_White_s_eq, pe_EscapeAt_s_eq, XRP, XR]
      have hg2 : decide (byt s i = 92 ∧ byt s (i + 1) = 10) = false := hg
      have h10 : byt s i = 10 := by rw [hg] at hA; simpa using hA
      rw [hg2]
      have hi1 : i + 1 ≤ s.length := hi
      have hs : spot s ((i : Int) + 1) = i + 1 := by unfold spot; omega
      rw [hs]
      have hwl := wh_le s (i + 1) hi1
      have hwg := wh_ge s (i + 1)
      have hcl := cutW_len k cur
      have hr := mkA_range s (i + 1)
      skip
      refine Chk.mk ⟨Nat.le_refl _, by omega, by omega⟩ fun _ => ⟨litEl_ok rfl rfl, Chk.mk (by omega) fun _ => Chk.mk (by simp only [inR]; omega) fun _ => Chk.mk hp fun _ => ⟨fun hm => Chk.mk (by simp only [inR]; omega) fun _ => ?_, fun hm => Chk.mk (by simp only [inR]; omega) fun _ => Chk.mk hp fun _ => Chk.mk (by simp only [inR]; omega) fun _ => Chk.mk (by simp only [inR]; omega) fun _ => ?_⟩⟩
      · rw [← h4, dbl_mk hi h10 (by omega)]; rfl
      · rw [show (((wh s (i + 1) : Nat) : Int) - 1 + 1) = ((wh s (i + 1) : Nat) : Int) by omega]
        exact ⟨⟨(wh s (i + 1), L ++ [⟨cutW k cur, false⟩], [], 0), hwl, by simp only [pcW_append, pcW_one, List.length_nil]; omega, Nat.le_refl _, by simp only; rw [← dbl_nl hi h10 (by omega)]; exact h4⟩, by simp only; omega, (Ent.ren1 [3, 4] (by decide) (by simp only [entCtx, at_cons_zero, at_cons_succ, and_true, true_and]; exact ⟨soLe_push (enc := pcc) (z := pcz) (xs := L) (y := ⟨cutW k cur, false⟩) (sz := 2) (fun _ => rfl) rfl (fun _ _ => rfl) rfl, soLe_row fun j hj => absurd hj (Nat.not_lt_zero _)⟩) (by simp [entEnv, Vg.look, SV.mapH, muL]))⟩
    · have hn : ¬ byt s (i + 1) = 10 := by intro hx; simp [h92, hx] at hA
      rw [spot_of s h1]
      have hel := esA_len s i
      have hegt := esA_gt s i
      have hele := esA_le s i
      refine Chk.mk hp fun _ => ⟨fun he => ?_, fun he => ?_⟩
      · rw [← h4, dbl_eb hi h92 hn (by omega)]
      · have h44 := dbl_es (L := L) (cur := cur) (k := k) hi h92 hn (by omega)
        rw [h4] at h44
        generalize esA s i = t at *
        refine Chk.mk (by omega) fun _ => Chk.mk (by simp only [inR]; omega) fun _ => Chk.mk (by simp only [inR]; omega) fun _ => ?_
        rw [show ((t.2 : Int) - 1 + 1) = (t.2 : Int) by omega]
        exact ⟨⟨(t.2, L, cur ++ t.1, (cur ++ t.1).length), by simp only; omega, by simp only [List.length_append]; omega, Nat.le_refl _, h44.symm⟩, by simp only; omega, Ent.ren1 [0, 2] (by decide) (by simp only [entCtx, at_cons_zero, at_cons_succ, and_true, true_and]; exact ⟨soLe_same fun _ => rfl, soLe_app (enc := bytc) (z := 0) cur t.1 1 (fun _ => rfl) (fun _ _ => rfl) (fun _ _ => rfl)⟩) (by simp [entEnv, Vg.look, SV.mapH, muL])⟩
    · have h10 : ¬ byt s i = 10 := by intro hx; simp [hx] at hA
      refine ⟨litEl_ok rfl rfl, Chk.mk (by omega) fun _ => Chk.mk (by simp only [inR]; omega) fun _ => ?_⟩
      rw [hbt]
      exact ⟨⟨(i + 1, L, cur ++ [s.getD i 0], k), by simp only; omega, by simp only [List.length_append, List.length_singleton]; omega, by simp only [List.length_append, List.length_singleton]; omega, by simp only; rw [← dbl_c hi h10 h92 hq]; exact h4⟩, by simp only; omega, (by first | exact Ent.ren1 [0, 3] (by decide) (by simp only [entCtx, at_cons_zero, at_cons_succ, and_true, true_and]; exact ⟨soLe_same fun _ => rfl, soLe_push (enc := bytc) (z := 0) (xs := cur) (y := s.getD i 0) (sz := 1) (fun _ => rfl) rfl (fun _ _ => rfl) rfl⟩) (by simp [entEnv, Vg.look, SV.mapH, muL]; try omega))⟩
  · rw [← h4, dbl_end (by omega)]
noncomputable def pe_DoubleAt_s : PE := peR (fun (x : Bs × Int) => match x with | (s, p) => [.s s, .i .i64 p]) (fun (x : Bs × Int) => match x with | (s, p) => s.length ≤ 1048576) (fun (x : Bs × Int) => match x with | (s, p) => .tup [.s (dbA s (spot s p)).1, .i .i64 ((dbA s (spot s p)).2.1 : Nat), .i .i64 (dbA s (spot s p)).2.2])
theorem pe_DoubleAt_s_eq {s : Bs} {p : Int} : pe_DoubleAt_s [.s s, .i .i64 p] = some (s.length ≤ 1048576, .tup [.s (dbA s (spot s p)).1, .i .i64 ((dbA s (spot s p)).2.1 : Nat), .i .i64 (dbA s (spot s p)).2.2]) := peR_eq (by rintro ⟨a0, a1⟩ ⟨b0, b1⟩ h; simp_all []) (s, p)
theorem pe_DoubleAt_s_ok : PE1 Tryz.prog 73 pe_DoubleAt_s := peR_ok (by rintro ⟨s, p⟩ hp; exact DoubleAt_s s p hp)
end Go.T64
