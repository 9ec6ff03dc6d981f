/- Own text: part FlowC. -/
import Derived.Test.YtkbcappnemjjnaaGreatBaseE
import Derived.Test.YtkbcappnemjjnaaGreatTypes2
import Derived.Test.YtkbcappnemjjnaaGreatTextA
import Derived.Test.YtkbcappnemjjnaaGreatEventA
import Derived.Test.YtkbcappnemjjnaaGreatLineA
import Derived.Test.YtkbcappnemjjnaaGreatRuneA
import Derived.Test.YtkbcappnemjjnaaGreatFoldA
import Derived.Test.YtkbcappnemjjnaaGreatQuotA
import Derived.Test.YtkbcappnemjjnaaGreatQuotB
import Derived.Test.YtkbcappnemjjnaaGreatFlowA
import Derived.Test.YtkbcappnemjjnaaGreatFlowB
import Derived.Test.YtkbcappnemjjnaaGreatBaseF
set_option linter.unusedVariables false
set_option linter.unusedSimpArgs false
namespace Go.T72
open Go.Proofs Go.Vg Go.RowKit Go.TT Go.Pl Go.T8 Go.T12 Go.T60 Go.T61 Go.T62 Go.T63 Go.T64 Go.T70 Go.T71
set_option linter.unusedVariables false
set_option linter.unusedSimpArgs false
set_option maxRecDepth 10000
set_option maxHeartbeats 4000000
theorem nextPlain_i (s : Bs) (e n : Int) (fl : Bool) (hp : s.length ≤ 1048576 ∧ 0 ≤ e ∧ e ≤ s.length) : PF Tryz.prog 108 [.s s, .i .i64 e, .i .i64 n, .b fl] (.tup [.i .i64 (nxA s e.toNat n fl).1, .i .i64 (nxA s e.toNat n fl).2.1, .b (nxA s e.toNat n fl).2.2]) := by
  refine ⟨rfl, rfl, FnK.of (cf := mkCf Tryz.prog te [(85, pe_White_i), (51, pe_byteAt), (117, pe_Lone_i), (54, pe_EndAt_i), (56, pe_MarkAt_i), (118, pe_IndentAt_i), (107, pe_PlainEnd_i)] 73 0 false (fun _ => false) (kp [(0, [0, 1, 2, 3]), (1, [0, 1, 2, 3, 19]), (2, [8, 9, 10]), (3, [0, 2, 3, 11]), (4, [0, 2, 3, 11, 12]), (5, [0, 2, 3, 11, 12, 26]), (6, [0, 2, 3, 11, 12, 32]), (7, [8, 9, 10]), (8, [0, 2, 3, 11, 12]), (9, [0, 2, 3, 11, 12]), (10, [0, 2, 3, 11, 12, 13]), (11, [12, 13, 70]), (12, [8, 9, 10]), (13, [8, 9, 10])]) [] []) (mkCf_ok te_ok (l := [(85, pe_White_i), (51, pe_byteAt), (117, pe_Lone_i), (54, pe_EndAt_i), (56, pe_MarkAt_i), (118, pe_IndentAt_i), (107, pe_PlainEnd_i)]) (⟨pe_White_i_ok, pe_byteAt_ok, pe_Lone_i_ok, pe_EndAt_i_ok, pe_MarkAt_i_ok, pe_IndentAt_i_ok, pe_PlainEnd_i_ok, trivial⟩) mixed_ok) Tryz.func108 rfl rfl rfl (by simp [mkCf]) (by simp [mkCf]) (rs := [.tmp 8, .tmp 9, .tmp 10]) rfl 100000 ?_⟩
  simp only [↓XC, XV, XT, forall_const, implies_true, reduceIte, Nat.reduceAdd, Nat.reduceLT, Nat.reduceEqDiff, Nat.reduceBEq, Nat.reduceLeDiff, reduceCtorEq, Nat.reduceSub, Nat.reduceMul, Int.reduceToNat, Int.reduceLT, Int.reduceLE, TES, pe_White_i_eq, pe_byteAt_eq, pe_Lone_i_eq, pe_EndAt_i_eq, pe_MarkAt_i_eq, pe_IndentAt_i_eq, pe_PlainEnd_i_eq]
  obtain ⟨q, rfl⟩ : ∃ q : Nat, e = q := ⟨e.toNat, by omega⟩
  have hq : q ≤ s.length := by omega
  have hw := wh_le s q hq
  rw [spot_of s hq, spot_of s hw]
  simp only [Int.toNat_natCast]
  refine Chk.mk hp.1 fun _ => Chk.mk hp.1 fun _ => ⟨fun h => ?_, fun h => Chk.mk hp.1 fun _ => Chk.mk (by simp only [inR]; omega) fun _ => ?_⟩
  · rw [nxA_f (by rintro ⟨h2, _⟩; simp [h2] at h)]; rfl
  have h10 : byt s (wh s q) = 10 := by simpa using h
  have hwl := byt_pos h10 (by decide)
  refine VLoops.of (ι := {x : Nat × Nat // wh s q + 1 ≤ x.1 ∧ x.1 ≤ s.length ∧ x.2 ≤ x.1 ∧ lnS s x.1 x.2 = lnS s (wh s q + 1) 0}) (fun x => ⟨[(0, .s s), (2, .i .i64 n), (3, .b fl), (11, .i .i64 (x.1.1 : Nat)), (12, .i .i64 (x.1.2 : Nat))], []⟩) (fun x => s.length - x.1.1) ⟨(wh s q + 1, 0), Nat.le_refl _, hwl, by simp only; omega, rfl⟩ (by simp only [Int.natCast_add, Int.natCast_one]; exact Ent.refl _ _) ?_
  rintro ⟨⟨a, many⟩, h1, h2, h3, h4⟩
  simp only [↓XC, XV, XT, forall_const, implies_true, reduceIte, Nat.reduceAdd, Nat.reduceLT, Nat.reduceEqDiff, Nat.reduceBEq, Nat.reduceLeDiff, reduceCtorEq, Nat.reduceSub, Nat.reduceMul, Int.reduceToNat, Int.reduceLT, Int.reduceLE, TES, pe_Lone_i_eq, pe_EndAt_i_eq, pe_White_i_eq, pe_MarkAt_i_eq, pe_IndentAt_i_eq, pe_byteAt_eq, pe_PlainEnd_i_eq]
  simp only at h1 h2 h3 h4
  have hen := en_le s a h2
  have heg := en_ge s a
  have hwa := wh_le s a h2
  rw [spot_of s h2, spot_of s hwa]
  have hN : (!decide (mkA s a = 0) || !fl && decide ((inA s a : Int) ≤ n) || decide (byt s (wh s a) = 35) || decide ((plE s (wh s a) fl : Int) = (wh s a : Nat))) = !nxO s a n fl := by
    unfold nxO
    rw [show decide (n < (inA s a : Int)) = !decide ((inA s a : Int) ≤ n) by rw [← decide_not, decide_eq_decide]; omega, show decide ((plE s (wh s a) fl : Int) = (wh s a : Nat)) = decide (plE s (wh s a) fl = wh s a) by rw [decide_eq_decide]; omega]
    simp only [Bool.not_and, Bool.not_not, Bool.not_or]
  rw [hN]
  refine Chk.mk hp.1 fun _ => ⟨fun hl => Chk.mk hp.1 fun _ => ⟨fun he => ?_, fun he => Chk.mk hp.1 fun _ => Chk.mk (by simp only [inR]; omega) fun _ => Chk.mk (by simp only [inR]; omega) fun _ => ?_⟩, fun hl => Chk.mk hp.1 fun _ => Chk.mk hp.1 fun _ => Chk.mk (fun h => ⟨⟨h, h⟩, hp.1⟩) fun _ => Chk.mk (fun h => ⟨⟨h, h⟩, hp.1⟩) fun _ => Chk.mk (fun h => ⟨⟨h, h, h⟩, hp.1⟩) fun _ => ⟨fun hx => ?_, fun hx => ?_⟩⟩
  · rw [lnS_e hl (by omega)] at h4
    rw [nxA_f (by rintro ⟨_, h5, _⟩; rw [← h4] at h5; cases h5)]; rfl
  · exact ⟨⟨(en s a + 1, many + 1), by simp only; omega, by simp only; omega, by simp only; omega, by rw [← lnS_t hl (by omega)]; exact h4⟩, by simp only; omega, (by first | exact Ent.refl _ _ | (simp only [Int.natCast_add, Int.natCast_one]; exact Ent.refl _ _))⟩
  · rw [lnS_f hl] at h4
    rw [nxA_f (by rintro ⟨_, _, h5⟩; rw [← h4] at h5; simp only at h5; rw [h5] at hx; cases hx)]; rfl
  · rw [lnS_f hl] at h4
    have hx' : nxO s a n fl = true := by simpa using hx
    rw [nxA_t ⟨h10, by rw [← h4], by rw [← h4]; exact hx'⟩, ← h4]
noncomputable def pe_nextPlain_i : PE := peR (fun (x : Bs × Int × Int × Bool) => match x with | (s, e, n, fl) => [.s s, .i .i64 e, .i .i64 n, .b fl]) (fun (x : Bs × Int × Int × Bool) => match x with | (s, e, n, fl) => s.length ≤ 1048576 ∧ 0 ≤ e ∧ e ≤ s.length) (fun (x : Bs × Int × Int × Bool) => match x with | (s, e, n, fl) => .tup [.i .i64 (nxA s e.toNat n fl).1, .i .i64 (nxA s e.toNat n fl).2.1, .b (nxA s e.toNat n fl).2.2])
theorem pe_nextPlain_i_eq {s : Bs} {e n : Int} {fl : Bool} : pe_nextPlain_i [.s s, .i .i64 e, .i .i64 n, .b fl] = some (s.length ≤ 1048576 ∧ 0 ≤ e ∧ e ≤ s.length, .tup [.i .i64 (nxA s e.toNat n fl).1, .i .i64 (nxA s e.toNat n fl).2.1, .b (nxA s e.toNat n fl).2.2]) := peR_eq (by rintro ⟨a0, a1, a2, a3⟩ ⟨b0, b1, b2, b3⟩ h; simp_all []) (s, e, n, fl)
theorem pe_nextPlain_i_ok : PE1 Tryz.prog 108 pe_nextPlain_i := peR_ok (by rintro ⟨s, e, n, fl⟩ hp; exact nextPlain_i s e n fl hp)
theorem PlainAt_i (s : Bs) (p n : Int) (fl : Bool) (hp : s.length ≤ 1048576) : PF Tryz.prog 93 [.s s, .i .i64 p, .i .i64 n, .b fl] (.tup [.s (ptA s (spot s p) n fl).1, .i .i64 (ptA s (spot s p) n fl).2.1, .b (ptA s (spot s p) n fl).2.2]) := by
  refine ⟨rfl, rfl, FnK.of (cf := mkCf Tryz.prog te [(28, pe_spot_i), (63, pe_PlainFirst_i), (107, pe_PlainEnd_i), (108, pe_nextPlain_i), (109, pe_FoldFlow_i)] 68 0 false (fun _ => false) (kp [(0, [0, 1, 2, 3]), (1, [0, 1, 2, 3]), (2, [0, 1, 2, 3, 23]), (3, [8, 9, 10]), (4, [0, 1, 2, 3, 11]), (5, [0, 2, 3, 11, 12]), (6, [0, 2, 3, 11, 12, 13, 14, 15]), (7, [0, 2, 3, 11, 12, 13, 14, 44]), (8, [8, 9, 10]), (9, [0, 2, 3, 12, 13, 48, 49]), (10, [0, 2, 3, 12, 13, 48, 49, 50]), (11, [0, 2, 3, 12, 13, 48, 49]), (12, [0, 2, 3, 12, 13, 48, 49]), (13, [0, 2, 3, 11, 12, 13]), (14, [0, 2, 3, 11, 12])]) [] []) (mkCf_ok te_ok (l := [(28, pe_spot_i), (63, pe_PlainFirst_i), (107, pe_PlainEnd_i), (108, pe_nextPlain_i), (109, pe_FoldFlow_i)]) (⟨pe_spot_i_ok, pe_PlainFirst_i_ok, pe_PlainEnd_i_ok, pe_nextPlain_i_ok, pe_FoldFlow_i_ok, trivial⟩) mixed_ok) Tryz.func93 rfl rfl rfl (by simp [mkCf]) (by simp [mkCf]) (rs := [.tmp 8, .tmp 9, .tmp 10]) rfl 100000 ?_⟩
  simp only [↓XC, XV, XT, forall_const, implies_true, reduceIte, Nat.reduceAdd, Nat.reduceLT, Nat.reduceEqDiff, Nat.reduceBEq, Nat.reduceLeDiff, reduceCtorEq, Nat.reduceSub, Nat.reduceMul, Int.reduceToNat, Int.reduceLT, Int.reduceLE, TES, pe_spot_i_eq, pe_PlainFirst_i_eq, pe_PlainEnd_i_eq, pe_nextPlain_i_eq, pe_FoldFlow_i_eq, XRP]
  have h0 := spot_le s p
  rw [spot_of s h0]
  generalize spot s p = q at *
  have hge := plE_ge s q fl
  have hle := plE_le s q fl h0
  refine Chk.mk hp fun _ => ⟨fun h => ?_, fun h => Chk.mk hp fun _ => Chk.mk (by omega) fun _ => ?_⟩
  · unfold ptA; rw [if_neg (by simpa using h)]; rfl
  have hpt : ptA s q n fl = ((plA s (plE s q fl) n fl [⟨sub s q (plE s q fl), false⟩]).1, (plA s (plE s q fl) n fl [⟨sub s q (plE s q fl), false⟩]).2, true) := by unfold ptA; rw [if_pos (by simpa using h)]
  rw [hpt]
  refine VLoops.of (ι := {x : Nat × List Pc // x.1 ≤ s.length ∧ pcW x.2 ≤ x.1 + 1 ∧ plA s x.1 n fl x.2 = plA s (plE s q fl) n fl [⟨sub s q (plE s q fl), false⟩]}) (fun x => ⟨[(0, .s s), (2, .i .i64 n), (3, .b fl), (11, .i .i64 (x.1.1 : Nat)), (12, .slc 0 0 x.1.2.length)], [some (.row false 2 x.1.2.length (rowE pcc pcz x.1.2))]⟩) (fun x => s.length - x.1.1) ⟨(plE s q fl, [⟨sub s q (plE s q fl), false⟩]), hle, by simp only [pcW, List.map_cons, List.map_nil, List.sum_cons, List.sum_nil, sub, List.length_drop, List.length_take]; omega, rfl⟩ (Ent.ren1 [0] (by decide) (by simp only [entCtx, at_cons_zero, at_cons_succ, and_true, true_and]; exact soLe_row fun j hj => by match j, hj with | 0, _ => rfl) (by simp [entEnv, Vg.look, SV.mapH, muL])) ?_
  rintro ⟨⟨e, L⟩, h1, h2, h3⟩
  simp only [↓XC, XV, XT, forall_const, implies_true, reduceIte, Nat.reduceAdd, Nat.reduceLT, Nat.reduceEqDiff, Nat.reduceBEq, Nat.reduceLeDiff, reduceCtorEq, Nat.reduceSub, Nat.reduceMul, Int.reduceToNat, Int.reduceLT, Int.reduceLE, TES, pe_nextPlain_i_eq, pe_FoldFlow_i_eq, pe_PlainEnd_i_eq, XRP]
  simp only at h1 h2 h3
  have hW := pcW_ge L
  refine Chk.mk ⟨hp, by omega, by omega⟩ fun _ => ⟨fun hn => ?_, fun hn => ?_⟩
  · rw [rowE_list rfl]
    simp only [↓XC, XV, XT, forall_const, implies_true, reduceIte, Nat.reduceAdd, Nat.reduceLT, Nat.reduceEqDiff, Nat.reduceBEq, Nat.reduceLeDiff, reduceCtorEq, Nat.reduceSub, Nat.reduceMul, Int.reduceToNat, Int.reduceLT, Int.reduceLE, TES, pe_FoldFlow_i_eq, XRP]
    refine Chk.mk ⟨Nat.le_refl _, by omega⟩ fun _ => ?_
    rw [← h3, plA_f (by simpa using hn)]
  have hok : (nxA s e n fl).2.2 = true := by simpa using hn
  have hpl := nxA_place hok
  have hpe := plE_le s (nxA s e n fl).1 fl hpl.2.1
  refine VLoops.of (ι := {k : Nat // (k : Int) ≤ (nxA s e n fl).2.1}) (fun x => ⟨[(0, .s s), (2, .i .i64 n), (3, .b fl), (12, .slc 0 0 (L.length + x.1)), (13, .i .i64 (nxA s e n fl).1), (48, .i .i64 (nxA s e n fl).2.1), (49, .i .i64 (x.1 : Nat))], [some (.row false 2 (L.length + x.1) (rowE pcc pcz (L ++ List.replicate x.1 pcz)))]⟩) (fun x => (nxA s e n fl).2.1 - x.1) ⟨0, by omega⟩ (Ent.ren1 [0] (by decide) (by simp only [entCtx, at_cons_zero, at_cons_succ, and_true, true_and]; exact soLe_row fun j hj => by simp only [List.replicate_zero, List.append_nil]; rfl) (by simp [entEnv, Vg.look, SV.mapH, muL])) ?_
  rintro ⟨k, hk⟩
  simp only [↓XC, XV, XT, forall_const, implies_true, reduceIte, Nat.reduceAdd, Nat.reduceLT, Nat.reduceEqDiff, Nat.reduceBEq, Nat.reduceLeDiff, reduceCtorEq, Nat.reduceSub, Nat.reduceMul, Int.reduceToNat, Int.reduceLT, Int.reduceLE, TES, pe_PlainEnd_i_eq, XRP]
  rw [spot_of s hpl.2.1]
  refine ⟨fun hlt => ⟨litEl_ok rfl rfl, Chk.mk (by omega) fun _ => Chk.mk (by simp only [inR]; omega) fun _ => ⟨⟨k + 1, by omega⟩, by simp only; omega, ?_⟩⟩, fun hlt => Chk.mk hp fun _ => Chk.mk (by omega) fun _ => ⟨litEl_ok rfl rfl, Chk.mk (by omega) fun _ => ?_⟩⟩
  · simp only [Int.natCast_add, Int.natCast_one]
    exact (Ent.ren1 [2] (by decide) (by simp only [entCtx, at_cons_zero, at_cons_succ, and_true, true_and]; exact soLe_pushN (L ++ List.replicate k pcz) pcz (fun _ => rfl) (by rw [List.replicate_succ', List.append_assoc]) (by simp) rfl (fun _ _ => rfl) rfl rfl) (by simp [entEnv, Vg.look, SV.mapH, muL, Nat.add_assoc]))
  · have hkm : k = (nxA s e n fl).2.1 := by omega
    subst hkm
    have hs : (sub s (nxA s e n fl).1 (plE s (nxA s e n fl).1 fl)).length = plE s (nxA s e n fl).1 fl - (nxA s e n fl).1 := by simp only [sub, List.length_drop, List.length_take]; omega
    refine ⟨⟨(plE s (nxA s e n fl).1 fl, L ++ List.replicate (nxA s e n fl).2.1 pcz ++ [⟨sub s (nxA s e n fl).1 (plE s (nxA s e n fl).1 fl), false⟩]), hpe, ?_, by rw [← plA_t hok]; exact h3⟩, by simp only; omega, ?_⟩
    · simp only [pcW_append, pcW_one, pcW_repl]
      omega
    · exact (Ent.ren1 [2] (by decide) (by simp only [entCtx, at_cons_zero, at_cons_succ, and_true, true_and]; exact soLe_pushN (L ++ List.replicate (nxA s e n fl).2.1 pcz) ⟨sub s (nxA s e n fl).1 (plE s (nxA s e n fl).1 fl), false⟩ (fun _ => rfl) rfl (by simp) (by simp [Nat.add_assoc]) (fun _ _ => rfl) rfl rfl) (by simp [entEnv, Vg.look, SV.mapH, muL, Nat.add_assoc]))
noncomputable def pe_PlainAt_i : PE := peR (fun (x : Bs × Int × Int × Bool) => match x with | (s, p, n, fl) => [.s s, .i .i64 p, .i .i64 n, .b fl]) (fun (x : Bs × Int × Int × Bool) => match x with | (s, p, n, fl) => s.length ≤ 1048576) (fun (x : Bs × Int × Int × Bool) => match x with | (s, p, n, fl) => .tup [.s (ptA s (spot s p) n fl).1, .i .i64 (ptA s (spot s p) n fl).2.1, .b (ptA s (spot s p) n fl).2.2])
theorem pe_PlainAt_i_eq {s : Bs} {p n : Int} {fl : Bool} : pe_PlainAt_i [.s s, .i .i64 p, .i .i64 n, .b fl] = some (s.length ≤ 1048576, .tup [.s (ptA s (spot s p) n fl).1, .i .i64 (ptA s (spot s p) n fl).2.1, .b (ptA s (spot s p) n fl).2.2]) := peR_eq (by rintro ⟨a0, a1, a2, a3⟩ ⟨b0, b1, b2, b3⟩ h; simp_all []) (s, p, n, fl)
theorem pe_PlainAt_i_ok : PE1 Tryz.prog 93 pe_PlainAt_i := peR_ok (by rintro ⟨s, p, n, fl⟩ hp; exact PlainAt_i s p n fl hp)
theorem PlainAt_s (s : Bs) (p n : Int) (fl : Bool) (hp : s.length ≤ 1048576) : PF Tryz.prog 49 [.s s, .i .i64 p, .i .i64 n, .b fl] (.tup [.s (ptA s (spot s p) n fl).1, .i .i64 (ptA s (spot s p) n fl).2.1, .b (ptA s (spot s p) n fl).2.2]) := by
  refine ⟨rfl, rfl, FnK.of (cf := mkCf Tryz.prog te [(9, pe_spot_s), (48, pe_PlainFirst_s), (74, pe_PlainEnd_s), (33, pe_White_s), (75, pe_Lone_s), (36, pe_EndAt_s), (37, pe_MarkAt_s), (76, pe_IndentAt_s), (77, pe_FoldFlow_s)] 133 0 false (fun _ => false) (kp [(0, [0, 1, 2, 3]), (1, [0, 1, 2, 3]), (2, [0, 1, 2, 3, 22]), (3, [8, 9, 10]), (4, [0, 1, 2, 3, 11]), (5, [0, 2, 3, 11, 12]), (6, [0, 2, 3, 11, 12, 13]), (7, [0, 2, 3, 11, 12, 13, 14]), (8, [0, 2, 3, 11, 12, 13, 14, 46]), (9, [0, 2, 3, 11, 12, 13, 14]), (10, [0, 2, 3, 11, 12, 13, 14, 65]), (11, [0, 2, 3, 11, 12, 13, 14]), (12, [0, 2, 3, 11, 12, 13, 14]), (13, [0, 2, 3, 11, 12, 13, 14, 88]), (14, [0, 2, 3, 11, 12, 13, 14]), (15, [0, 2, 3, 11, 12, 13, 14, 115]), (16, [0, 2, 3, 11, 12, 13, 14]), (17, [0, 2, 3, 11, 12]), (18, [8, 9, 10])]) [] [(17, [], [], .q1 0 (.q1 1 (.q1 3 (.q1 4 (.q1 5 (.q1 6 (.q1 7 (.alt 2 (.seq [8, 9, 10]) (.alt 8 (.seq [2, 9, 10]) (.fin))))))))))]) (mkCf_ok te_ok (l := [(9, pe_spot_s), (48, pe_PlainFirst_s), (74, pe_PlainEnd_s), (33, pe_White_s), (75, pe_Lone_s), (36, pe_EndAt_s), (37, pe_MarkAt_s), (76, pe_IndentAt_s), (77, pe_FoldFlow_s)]) (⟨pe_spot_s_ok, pe_PlainFirst_s_ok, pe_PlainEnd_s_ok, pe_White_s_ok, pe_Lone_s_ok, pe_EndAt_s_ok, pe_MarkAt_s_ok, pe_IndentAt_s_ok, pe_FoldFlow_s_ok, trivial⟩) mixed_ok) Tryz.func49 rfl rfl rfl (by simp [mkCf]) (by simp [mkCf]) (rs := [.tmp 8, .tmp 9, .tmp 10]) rfl 100000 ?_⟩
  simp only [↓XC, XV, XT, forall_const, implies_true, reduceIte, Nat.reduceAdd, Nat.reduceLT, Nat.reduceEqDiff, Nat.reduceBEq, Nat.reduceLeDiff, reduceCtorEq, Nat.reduceSub, Nat.reduceMul, Int.reduceToNat, Int.reduceLT, Int.reduceLE, TES, pe_spot_s_eq, pe_PlainFirst_s_eq, pe_PlainEnd_s_eq, pe_White_s_eq, pe_Lone_s_eq, pe_EndAt_s_eq, pe_MarkAt_s_eq, pe_IndentAt_s_eq, pe_FoldFlow_s_eq, XRP]
  have h0 := spot_le s p
  rw [spot_of s h0]
  generalize spot s p = q at *
  have hge := plE_ge s q fl
  have hle := plE_le s q fl h0
  refine Chk.mk hp fun _ => ⟨fun h => ?_, fun h => Chk.mk hp fun _ => Chk.mk (by omega) fun _ => ?_⟩
  · unfold ptA; rw [if_neg (by simpa using h)]; rfl
  have hpt : ptA s q n fl = ((plA s (plE s q fl) n fl [⟨sub s q (plE s q fl), false⟩]).1, (plA s (plE s q fl) n fl [⟨sub s q (plE s q fl), false⟩]).2, true) := by unfold ptA; rw [if_pos (by simpa using h)]
  rw [hpt]
  refine VLoops.of (ι := {x : Nat × List Pc // x.1 ≤ s.length ∧ pcW x.2 ≤ x.1 + 1 ∧ plA s x.1 n fl x.2 = plA s (plE s q fl) n fl [⟨sub s q (plE s q fl), false⟩]}) (fun x => ⟨[(0, .s s), (2, .i .i64 n), (3, .b fl), (11, .i .i64 (x.1.1 : Nat)), (12, .slc 0 0 x.1.2.length)], [some (.row false 2 x.1.2.length (rowE pcc pcz x.1.2))]⟩) (fun x => s.length - x.1.1) ⟨(plE s q fl, [⟨sub s q (plE s q fl), false⟩]), hle, by simp only [pcW, List.map_cons, List.map_nil, List.sum_cons, List.sum_nil, sub, List.length_drop, List.length_take]; omega, rfl⟩ (Ent.ren1 [0] (by decide) (by simp only [entCtx, at_cons_zero, at_cons_succ, and_true, true_and]; exact soLe_row fun j hj => by match j, hj with | 0, _ => rfl) (by simp [entEnv, Vg.look, SV.mapH, muL])) ?_
  rintro ⟨⟨e, L⟩, h1, h2, h3⟩
  simp only [↓XC, XV, XT, forall_const, implies_true, reduceIte, Nat.reduceAdd, Nat.reduceLT, Nat.reduceEqDiff, Nat.reduceBEq, Nat.reduceLeDiff, reduceCtorEq, Nat.reduceSub, Nat.reduceMul, Int.reduceToNat, Int.reduceLT, Int.reduceLE, TES, pe_White_s_eq, pe_FoldFlow_s_eq, pe_PlainEnd_s_eq, pe_Lone_s_eq, pe_EndAt_s_eq, pe_MarkAt_s_eq, pe_IndentAt_s_eq, XRP]
  simp only at h1 h2 h3
  have hW := pcW_ge L
  have hwl := wh_le s e h1
  rw [spot_of s h1]
  refine Chk.mk hp fun _ => Chk.mk (fun h => by simp at h; omega) fun _ => ⟨fun hn => ?_, fun hn => Chk.mk (by simp only [inR]; omega) fun _ => ?_⟩
  · rw [rowE_list rfl]
    simp only [↓XC, XV, XT, forall_const, implies_true, reduceIte, Nat.reduceAdd, Nat.reduceLT, Nat.reduceEqDiff, Nat.reduceBEq, Nat.reduceLeDiff, reduceCtorEq, Nat.reduceSub, Nat.reduceMul, Int.reduceToNat, Int.reduceLT, Int.reduceLE, TES, pe_FoldFlow_s_eq, XRP]
    refine Chk.mk ⟨Nat.le_refl _, by omega⟩ fun _ => ?_
    rw [← h3, plA_f]
    have h9 : nxA s e n fl = (0, 0, false) := nxA_f fun h => by
      have hb := byt_pos h.1 (by decide)
      have h8 := h.1
      rw [byt_lt hb] at h8
      simp only [h8, decide_true, Bool.not_true, Bool.or_false, decide_eq_true_eq] at hn
      omega
    rw [h9]
  have h10 : byt s (wh s e) = 10 := by simp only [Bool.or_eq_true, Bool.and_eq_true, Bool.or_eq_false_iff, Bool.and_eq_false_iff, decide_eq_true_eq, decide_eq_false_iff_not, Bool.not_eq_true', Bool.not_eq_false', beq_iff_eq, beq_eq_false_iff_ne, ne_eq, ge_iff_le, gt_iff_lt, Int.not_le, Int.not_lt, Int.ofNat_le, Int.ofNat_lt] at hn; rw [byt_lt (by omega)]; omega
  have hw1 := byt_pos h10 (by decide)
  refine VLoops.of (ι := {x : Nat × Nat // wh s e + 1 ≤ x.1 ∧ x.1 ≤ s.length ∧ x.2 ≤ x.1 ∧ la s x.1 = x.1 ∧ lnS s x.1 x.2 = lnS s (wh s e + 1) 0}) (fun x => ⟨[(0, .s s), (2, .i .i64 n), (3, .b fl), (11, .i .i64 (e : Nat)), (12, .slc 0 0 L.length), (13, .slc 1 0 x.1.2), (14, .i .i64 (x.1.1 : Nat))], [some (.row false 2 L.length (rowE pcc pcz L)), some (.row false 2 x.1.2 (rowE pcc pcz (List.replicate x.1.2 pcz)))]⟩) (fun x => s.length - x.1.1) ⟨(wh s e + 1, 0), Nat.le_refl _, hw1, by simp only; omega, la_nl h10, rfl⟩ (Ent.ren1 [0, 1] (by decide) (by simp only [entCtx, at_cons_zero, at_cons_succ, and_true, true_and]; exact ⟨soLe_same fun _ => rfl, soLe_row fun j hj => absurd hj (Nat.not_lt_zero _)⟩) (by simp [entEnv, Vg.look, SV.mapH, muL])) ?_
  rintro ⟨⟨a, k⟩, k1, k2, k3, k4, k5⟩
  simp only [↓XC, XV, XT, forall_const, implies_true, reduceIte, Nat.reduceAdd, Nat.reduceLT, Nat.reduceEqDiff, Nat.reduceBEq, Nat.reduceLeDiff, reduceCtorEq, Nat.reduceSub, Nat.reduceMul, Int.reduceToNat, Int.reduceLT, Int.reduceLE, TES, pe_White_s_eq, pe_FoldFlow_s_eq, pe_PlainEnd_s_eq, pe_Lone_s_eq, pe_EndAt_s_eq, pe_MarkAt_s_eq, pe_IndentAt_s_eq, XRP]
  simp only at k1 k2 k3 k4 k5
  have hen := en_le s a k2
  have heg := en_ge s a
  have hwa := wh_le s a k2
  rw [spot_of s k2, spot_of s hwa]
  have hC1 : (decide ((a : Int) < s.length) && lnA s a && decide ((en s a : Int) < s.length)) = decide (lnA s a = true ∧ en s a < s.length) := by
    rw [Bool.eq_iff_iff]
    simp only [Bool.and_eq_true, decide_eq_true_eq]
    constructor
    · rintro ⟨⟨_, b⟩, c⟩; exact ⟨b, by omega⟩
    · rintro ⟨b, c⟩; exact ⟨⟨by omega, b⟩, by omega⟩
  have hmk : decide (mkA s a > 0) = !decide (mkA s a = 0) := by
    rcases mkA_range s a with h9 | h9 | h9 <;> rw [h9] <;> rfl
  have hln : lnA s a = isB s (wh s a) := by unfold lnA; rw [k4]
  have hB1 : (decide ((wh s a : Int) ≥ s.length) || decide (((s.getD (wh s a) 0).toNat : Int) = 10)) = lnA s a := by
    rw [hln]; unfold isB
    rcases Nat.lt_or_ge (wh s a) s.length with h6 | h6
    · rw [byt_lt h6, decide_eq_false (show ¬ ((wh s a : Int) ≥ s.length) by omega), decide_eq_false (show ¬ ((s.getD (wh s a) 0).toNat : Int) < 0 by omega), Bool.false_or, Bool.or_false]; rfl
    · rw [byt_ge h6, decide_eq_true (show (wh s a : Int) ≥ s.length by omega)]; rfl
  have hB2 : lnA s a = false → wh s a < s.length ∧ decide (((s.getD (wh s a) 0).toNat : Int) = 35) = decide (byt s (wh s a) = 35) := fun hl => by
    have : wh s a < s.length := isB_not (by rw [← hln]; exact hl)
    rw [byt_lt this]; exact ⟨this, rfl⟩
  rw [hC1, hmk, hB1]
  refine Chk.mk (fun h => ⟨⟨h, h⟩, hp⟩) fun _ => Chk.mk (fun h => ⟨⟨h, h⟩, hp⟩) fun _ => ⟨fun hc => ⟨litEl_ok rfl rfl, Chk.mk (by omega) fun _ => Chk.mk hp fun _ => Chk.mk (by simp only [inR]; omega) fun _ => ?_⟩, fun hc => Chk.mk hp fun _ => Chk.mk (fun h => ⟨⟨h, h⟩, hp⟩) fun _ => ⟨fun hm => ?_, fun hm => Chk.mk hp fun _ => Chk.mk (fun h => by simp at h; omega) fun _ => Chk.mk (fun h => by have := (hB2 (by simpa using h)).1; omega) fun _ => Chk.mk (fun h => ⟨⟨h, h, h⟩, hp⟩) fun _ => ⟨fun hx => ?_, fun hx => ?_⟩⟩⟩
  · have hc := of_decide_eq_true hc
    refine ⟨⟨(en s a + 1, k + 1), by simp only; omega, by simp only; omega, by simp only; omega, la_nl (en_10 hc.2), by rw [← lnS_t hc.1 hc.2]; exact k5⟩, by simp only; omega, ?_⟩
    simp only [Int.natCast_add, Int.natCast_one]
    exact (Ent.ren1 [0, 3] (by decide) (by simp only [entCtx, at_cons_zero, at_cons_succ, and_true, true_and]; refine ⟨soLe_same fun _ => rfl, ?_⟩; exact soLe_pushN (List.replicate k pcz) pcz (fun _ => rfl) (by rw [List.replicate_succ'])  (by simp) rfl (fun _ _ => rfl) rfl rfl) (by simp [entEnv, Vg.look, SV.mapH, muL]))
  all_goals
    have hres := nxA_at (n := n) (fl := fl) h10 k5 (of_decide_eq_false hc)
  · have hno : nxO s a n fl = false := by
      unfold nxO
      rw [show decide (n < (inA s a : Int)) = !decide ((inA s a : Int) ≤ n) by rw [← decide_not, decide_eq_decide]; omega]
      cases h7 : decide (mkA s a = 0) <;> cases fl <;> cases h8 : decide ((inA s a : Int) ≤ n) <;> simp_all
    rw [if_neg (by rw [hno]; simp)] at hres
    rw [rowE_list rfl]
    simp only [↓XC, XV, XT, forall_const, implies_true, reduceIte, Nat.reduceAdd, Nat.reduceLT, Nat.reduceEqDiff, Nat.reduceBEq, Nat.reduceLeDiff, reduceCtorEq, Nat.reduceSub, Nat.reduceMul, Int.reduceToNat, Int.reduceLT, Int.reduceLE, TES, pe_FoldFlow_s_eq, XRP]
    refine Chk.mk ⟨Nat.le_refl _, by omega⟩ fun _ => ?_
    rw [← h3, plA_f (by rw [hres])]
  · have hno : ¬ (lnA s a = false ∧ nxO s a n fl = true) := by
      rintro ⟨hl, h9⟩
      unfold nxO at h9
      rw [hl, (hB2 hl).2, show decide ((plE s (wh s a) fl : Int) = (wh s a : Nat)) = decide (plE s (wh s a) fl = wh s a) by rw [decide_eq_decide]; omega] at hx
      simp only [Bool.and_eq_true, Bool.not_eq_true'] at h9
      rw [h9.1.2, h9.2] at hx
      cases hx
    rw [if_neg hno] at hres
    rw [rowE_list rfl]
    simp only [↓XC, XV, XT, forall_const, implies_true, reduceIte, Nat.reduceAdd, Nat.reduceLT, Nat.reduceEqDiff, Nat.reduceBEq, Nat.reduceLeDiff, reduceCtorEq, Nat.reduceSub, Nat.reduceMul, Int.reduceToNat, Int.reduceLT, Int.reduceLE, TES, pe_FoldFlow_s_eq, XRP]
    refine Chk.mk ⟨Nat.le_refl _, by omega⟩ fun _ => ?_
    rw [← h3, plA_f (by rw [hres])]
  · have hl : lnA s a = false := by
      simp only [Bool.or_eq_false_iff] at hx
      exact hx.1.1
    have hno : nxO s a n fl = true := by
      rw [hl, (hB2 hl).2, show decide ((plE s (wh s a) fl : Int) = (wh s a : Nat)) = decide (plE s (wh s a) fl = wh s a) by rw [decide_eq_decide]; omega] at hx
      unfold nxO
      rw [show decide (n < (inA s a : Int)) = !decide ((inA s a : Int) ≤ n) by rw [← decide_not, decide_eq_decide]; omega]
      simp only [Bool.or_eq_false_iff] at hx hm
      rw [hx.1.2, hx.2]
      cases h7 : decide (mkA s a = 0) <;> cases fl <;> cases h8 : decide ((inA s a : Int) ≤ n) <;> simp_all
    rw [if_pos ⟨hl, hno⟩] at hres
    have hok : (nxA s e n fl).2.2 = true := by rw [hres]
    have hpl := nxA_place hok
    rw [hres] at hpl
    simp only at hpl
    have hpe := plE_le s (wh s a) fl hpl.2.1
    have hs : (sub s (wh s a) (plE s (wh s a) fl)).length = plE s (wh s a) fl - wh s a := by simp only [sub, List.length_drop, List.length_take]; omega
    refine Chk.mk hp fun _ => ⟨by decide +kernel, Chk.mk (by omega) fun _ => ?_⟩
    have hr : (List.replicate k pcz).length = k := by simp
    refine ⟨?_, ?_⟩
    all_goals
      refine Chk.mk (Nat.le_refl _) fun _ => Chk.mk (by omega) fun _ => ⟨litEl_ok rfl rfl, Chk.mk (by omega) fun _ => ⟨⟨(plE s (wh s a) fl, L ++ List.replicate k pcz ++ [⟨sub s (wh s a) (plE s (wh s a) fl), false⟩]), hpe, ?_, ?_⟩, by simp only; omega, ?_⟩⟩
      · simp only [pcW_append, pcW_one, pcW_repl]
        omega
      · simp only
        rw [← h3]
        conv => rhs; rw [plA_t hok, hres]
      · exact (Ent.ren1 [4] (by decide) (by simp only [entCtx, at_cons_zero, at_cons_succ, and_true, true_and]; exact soLe_pushN (L ++ List.replicate k pcz) ⟨sub s (wh s a) (plE s (wh s a) fl), false⟩ (fun _ => rfl) rfl (by simp) (by simp [Nat.add_assoc]) (fun j hj => rowE_app (enc := pcc) (z := pcz) rfl hr.symm (fun _ _ => rfl) (fun _ _ => rfl) hj) rfl rfl) (by simp [entEnv, Vg.look, SV.mapH, muL, Nat.add_assoc]))
noncomputable def pe_PlainAt_s : PE := peR (fun (x : Bs × Int × Int × Bool) => match x with | (s, p, n, fl) => [.s s, .i .i64 p, .i .i64 n, .b fl]) (fun (x : Bs × Int × Int × Bool) => match x with | (s, p, n, fl) => s.length ≤ 1048576) (fun (x : Bs × Int × Int × Bool) => match x with | (s, p, n, fl) => .tup [.s (ptA s (spot s p) n fl).1, .i .i64 (ptA s (spot s p) n fl).2.1, .b (ptA s (spot s p) n fl).2.2])
theorem pe_PlainAt_s_eq {s : Bs} {p n : Int} {fl : Bool} : pe_PlainAt_s [.s s, .i .i64 p, .i .i64 n, .b fl] = some (s.length ≤ 1048576, .tup [.s (ptA s (spot s p) n fl).1, .i .i64 (ptA s (spot s p) n fl).2.1, .b (ptA s (spot s p) n fl).2.2]) := peR_eq (by rintro ⟨a0, a1, a2, a3⟩ ⟨b0, b1, b2, b3⟩ h; simp_all []) (s, p, n, fl)
theorem pe_PlainAt_s_ok : PE1 Tryz.prog 49 pe_PlainAt_s := peR_ok (by rintro ⟨s, p, n, fl⟩ hp; exact PlainAt_s s p n fl hp)
end Go.T72
