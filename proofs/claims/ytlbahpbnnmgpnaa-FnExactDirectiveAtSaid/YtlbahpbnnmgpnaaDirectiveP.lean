/- Own text: part DirectiveP. -/
import Derived.Test.YtlbahpbnnmgpnaaTypes2
import Derived.Test.YtlbahpbnnmgpnaaTextA
import Derived.Test.YtlbahpbnnmgpnaaVgRow
import Derived.Test.YtlbahpbnnmgpnaaPlM
namespace Go.T9
open Go.Proofs Go.Vg Go.RowKit Go.TT Go.Pl Go.T8
set_option linter.unusedVariables false
set_option linter.unusedSimpArgs false
set_option maxRecDepth 10000
set_option maxHeartbeats 4000000
theorem DirectiveAt_i_own (s : Bs) (p : Int) (hp : s.length ≤ 1048576) : FnK Try.prog 37 0 [.s s, .i .i64 p] [] (fun z c => z = .tup [.slc 0 0 (dirs s (en s (spot s p)) (spot s p)).length, .i .i64 (en s (spot s p) : Nat)] ∧ c = [some (.row false 1 (dirs s (en s (spot s p)) (spot s p)).length (rowE strc [] (dirs s (en s (spot s p)) (spot s p))))]) := by
  refine FnK.ofE (cf := mkCf Try.prog te [(78, pe_spot_i), (79, pe_EndAt_i), (80, pe_White_i), (81, pe_gapAt)] 45 0 false (fun _ => false) (kp [(0, [0, 1]), (1, [0, 1]), (2, [0, 1, 6]), (3, [0, 1, 6, 7]), (4, [0, 1, 6, 7]), (5, [0, 1, 6, 7, 27]), (6, [4, 5]), (7, [0, 1, 6, 7, 8]), (8, [0, 1, 6, 7, 8, 34]), (9, [0, 1, 6, 7, 8]), (10, [0, 6, 7, 8]), (11, [0, 1, 6, 7])]) [] []) (mkCf_ok te_ok (l := [(78, pe_spot_i), (79, pe_EndAt_i), (80, pe_White_i), (81, pe_gapAt)]) (⟨pe_spot_i_ok, pe_EndAt_i_ok, pe_White_i_ok, pe_gapAt_ok, trivial⟩) mixed_ok) Try.func37 rfl rfl rfl (by simp [mkCf]) (by simp [mkCf]) (rs := [.tmp 4, .tmp 5]) rfl 100000 ?_
  simp only [↓XC, XV, entry, isStr, tdOf, szOf, zeroOf, TD.isStruct, okCell, cellsOf, SO.isMap, SO.sz, SO.el, SO.n, SO.ro, mkCf, quietOp, opClass, okLeaf, spl, cellV, isU8T, isSlS, fillS, fillP, repl, SO.put, SV.mapH, frzV, frzVL, frzOk, frzOkL, lendOk, SV.bit, bitL, SV.plain, plainL, isE, mapHL, strip, stripL, gok, gokL, forall_const, implies_true, reduceIte, Nat.reduceAdd, Nat.reduceLT, Nat.reduceEqDiff, Nat.reduceBEq, Nat.reduceLeDiff, reduceCtorEq, Nat.reduceSub, Nat.reduceMul, Int.reduceToNat, Int.reduceLT, Int.reduceLE, TES, pe_spot_i_eq, pe_EndAt_i_eq, pe_White_i_eq, pe_gapAt_eq]
  refine Chk.mk hp fun _ => ?_
  rw [spot_of s (spot_le s p)]
  have hi0 := spot_le s p
  generalize spot s p = i0 at *
  have he := en_le s i0 hi0
  refine VLoops.of (ι := {x : Nat × List Bs // i0 ≤ x.1 ∧ x.1 ≤ s.length ∧ x.2.length ≤ x.1 ∧ x.2 ++ dirs s (en s i0) x.1 = dirs s (en s i0) i0}) (fun x => ⟨[(0, .s s), (1, .i .i64 (x.1.1 : Nat)), (6, .i .i64 (en s i0 : Nat)), (7, .slc 0 0 x.1.2.length)], [some (.row false 1 x.1.2.length (rowE strc [] x.1.2))]⟩) (fun x => s.length - x.1.1) ⟨(i0, []), Nat.le_refl _, hi0, Nat.zero_le _, rfl⟩ (Ent.ren1 [0] (by decide) (by simp only [entCtx, at_cons_zero, at_cons_succ, and_true, true_and]; exact soLe_row fun i hi => by simp at hi) (by simp [entEnv, Vg.look, SV.mapH, muL])) ?_
  rintro ⟨⟨q0, out⟩, hq0, hq, hol, hd⟩
  simp only [↓XC, XV, entry, isStr, tdOf, szOf, zeroOf, TD.isStruct, okCell, cellsOf, SO.isMap, SO.sz, SO.el, SO.n, SO.ro, mkCf, quietOp, opClass, okLeaf, spl, cellV, isU8T, isSlS, fillS, fillP, repl, SO.put, SV.mapH, frzV, frzVL, frzOk, frzOkL, lendOk, SV.bit, bitL, SV.plain, plainL, isE, mapHL, strip, stripL, gok, gokL, forall_const, implies_true, reduceIte, Nat.reduceAdd, Nat.reduceLT, Nat.reduceEqDiff, Nat.reduceBEq, Nat.reduceLeDiff, reduceCtorEq, Nat.reduceSub, Nat.reduceMul, Int.reduceToNat, Int.reduceLT, Int.reduceLE, TES, pe_White_i_eq, pe_gapAt_eq]
  simp only at hq0 hq hol hd
  rw [spot_of s hq]
  have hw1 := wh_ge s q0
  have hw2 := wh_le s q0 hq
  have hdd : dirs s (en s i0) q0 = if wh s q0 < en s i0 ∧ byt s (wh s q0) ≠ 35 ∧ gap s (wh s q0) = false then sub s (wh s q0) (gp s (wh s q0)) :: dirs s (en s i0) (gp s (wh s q0)) else [] := by
    rw [dirs]; simp only [dite_eq_ite]
  refine Chk.mk hp fun _ => Chk.mk (fun h => ?_) fun _ => ⟨fun h => ?_, fun h => ?_⟩
  · simp only [Bool.or_eq_true, Bool.and_eq_true, Bool.or_eq_false_iff, Bool.and_eq_false_iff, decide_eq_true_eq, decide_eq_false_iff_not, Bool.not_eq_true', Bool.not_eq_false', beq_iff_eq, beq_eq_false_iff_ne, ne_eq, ge_iff_le, gt_iff_lt, Int.not_le, Int.not_lt, Int.ofNat_le, Int.ofNat_lt] at h; omega
  · have hx : dirs s (en s i0) q0 = [] := by
      rw [hdd, if_neg]
      rintro ⟨h1, h2, _⟩
      rw [byt_lt (by omega)] at h2
      simp only [Bool.or_eq_true, Bool.and_eq_true, Bool.or_eq_false_iff, Bool.and_eq_false_iff, decide_eq_true_eq, decide_eq_false_iff_not, Bool.not_eq_true', Bool.not_eq_false', beq_iff_eq, beq_eq_false_iff_ne, ne_eq, ge_iff_le, gt_iff_lt, Int.not_le, Int.not_lt, Int.ofNat_le, Int.ofNat_lt] at h
      omega
    rw [hx, List.append_nil] at hd
    subst hd
    exact ⟨[0], by decide, by simp only [entCtx, at_cons_zero, at_cons_succ, and_true, true_and]; exact soLe_same fun _ => rfl, by simp only [↓XC, XV, entry, isStr, tdOf, szOf, zeroOf, TD.isStruct, okCell, cellsOf, SO.isMap, SO.sz, SO.el, SO.n, SO.ro, mkCf, quietOp, opClass, okLeaf, spl, cellV, isU8T, isSlS, fillS, fillP, repl, SO.put, SV.mapH, frzV, frzVL, frzOk, frzOkL, lendOk, SV.bit, bitL, SV.plain, plainL, isE, mapHL, strip, stripL, gok, gokL, forall_const, implies_true, reduceIte, Nat.reduceAdd, Nat.reduceLT, Nat.reduceEqDiff, Nat.reduceBEq, Nat.reduceLeDiff, reduceCtorEq, Nat.reduceSub, Nat.reduceMul, Int.reduceToNat, Int.reduceLT, Int.reduceLE]; try simp [muL, SV.mapH, mapHL], by simp [newRw, SO.ro], by simp⟩
  have hlt : wh s q0 < en s i0 ∧ byt s (wh s q0) ≠ 35 := by
    simp only [Bool.or_eq_true, Bool.and_eq_true, Bool.or_eq_false_iff, Bool.and_eq_false_iff, decide_eq_true_eq, decide_eq_false_iff_not, Bool.not_eq_true', Bool.not_eq_false', beq_iff_eq, beq_eq_false_iff_ne, ne_eq, ge_iff_le, gt_iff_lt, Int.not_le, Int.not_lt, Int.ofNat_le, Int.ofNat_lt] at h
    exact ⟨by omega, by rw [byt_lt (by omega)]; omega⟩
  have hg : gap s (wh s q0) = false := by
    unfold gap
    rw [wh_not, en_lt (by omega) hlt.1]; rfl
  rw [if_pos ⟨hlt.1, hlt.2, hg⟩] at hdd
  refine VLoops.of (ι := {x : Nat // wh s q0 ≤ x ∧ x ≤ s.length ∧ gp s x = gp s (wh s q0)}) (fun x => ⟨[(0, .s s), (1, .i .i64 (wh s q0 : Nat)), (6, .i .i64 (en s i0 : Nat)), (7, .slc 0 0 out.length), (8, .i .i64 (x.1 : Nat))], [some (.row false 1 out.length (rowE strc [] out))]⟩) (fun x => s.length - x.1) ⟨wh s q0, Nat.le_refl _, hw2, rfl⟩ (Ent.refl _ _) ?_
  rintro ⟨q, h1, h2, h3⟩
  simp only [↓XC, XV, entry, isStr, tdOf, szOf, zeroOf, TD.isStruct, okCell, cellsOf, SO.isMap, SO.sz, SO.el, SO.n, SO.ro, mkCf, quietOp, opClass, okLeaf, spl, cellV, isU8T, isSlS, fillS, fillP, repl, SO.put, SV.mapH, frzV, frzVL, frzOk, frzOkL, lendOk, SV.bit, bitL, SV.plain, plainL, isE, mapHL, strip, stripL, gok, gokL, forall_const, implies_true, reduceIte, Nat.reduceAdd, Nat.reduceLT, Nat.reduceEqDiff, Nat.reduceBEq, Nat.reduceLeDiff, reduceCtorEq, Nat.reduceSub, Nat.reduceMul, Int.reduceToNat, Int.reduceLT, Int.reduceLE, TES, pe_gapAt_eq]
  refine Chk.mk ⟨hp, by omega⟩ fun _ => ⟨fun hg1 => Chk.mk (by simp only [inR]; omega) fun _ => ?_, fun hg1 => Chk.mk (by omega) fun _ => ⟨litEl_ok rfl rfl, Chk.mk (by omega) fun _ => ?_⟩⟩
  · have hg2 : gap s q = false := by simpa using hg1
    have := gap_not hg2
    exact ⟨⟨q + 1, by omega, by omega, by rw [← gp_t hg2]; exact h3⟩, by simp only; omega, (by first | exact Ent.refl _ _ | (simp only [Int.natCast_add, Int.natCast_one]; exact Ent.refl _ _))⟩
  · have hg2 : gap s q = true := by simpa using hg1
    rw [gp_f hg2] at h3
    have hq1 : wh s q0 ≠ q := by intro e; rw [e] at hg; rw [hg] at hg2; cases hg2
    refine ⟨⟨(q, out ++ [sub s (wh s q0) q]), by simp only; omega, h2, by simp only [List.length_append, List.length_singleton]; omega, ?_⟩, by simp only; omega, (Ent.ren1 [2] (by decide) (by simp only [entCtx, at_cons_zero, at_cons_succ, and_true, true_and]; exact soLe_push (y := sub s (wh s q0) q) (fun _ => rfl) rfl (fun _ _ => rfl) rfl) (by simp [entEnv, Vg.look, SV.mapH, muL]))⟩
    simp only
    rw [List.append_assoc, ← hd, hdd, ← h3]
    rfl
theorem DirectiveAt_i (s : Bs) (p : Int) (hp : s.length ≤ 1048576) : PF Try.prog 37 [.s s, .i .i64 p] (.tup [.fs 1 ((dirs s (en s (spot s p)) (spot s p)).map strc), .i .i64 (en s (spot s p) : Nat)]) := PF.ofOwn (DirectiveAt_i_own s p hp) rfl rfl (by simp only [frzOk, frzOkL, frzV, frzVL, at_cons_zero, and_true]; exact ⟨⟨by omega, fun j hj => ⟨rfl, rfl⟩⟩, by rw [rowE_list rfl]⟩)
noncomputable def pe_DirectiveAt_i : PE := peR (fun (x : Bs × Int) => match x with | (s, p) => [.s s, .i .i64 p]) (fun (x : Bs × Int) => match x with | (s, p) => s.length ≤ 1048576) (fun (x : Bs × Int) => match x with | (s, p) => .tup [.fs 1 ((dirs s (en s (spot s p)) (spot s p)).map strc), .i .i64 (en s (spot s p) : Nat)])
theorem pe_DirectiveAt_i_eq {s : Bs} {p : Int} : pe_DirectiveAt_i [.s s, .i .i64 p] = some (s.length ≤ 1048576, .tup [.fs 1 ((dirs s (en s (spot s p)) (spot s p)).map strc), .i .i64 (en s (spot s p) : Nat)]) := peR_eq (by rintro ⟨a0, a1⟩ ⟨b0, b1⟩ h; simp_all []) (s, p)
theorem pe_DirectiveAt_i_ok : PE1 Try.prog 37 pe_DirectiveAt_i := peR_ok (by rintro ⟨s, p⟩ hp; exact DirectiveAt_i s p hp)
theorem DirectiveAt_s_own (s : Bs) (p : Int) (hp : s.length ≤ 1048576) : FnK Try.prog 36 0 [.s s, .i .i64 p] [] (fun z c => z = .tup [.slc 0 0 (dirs s (en s (spot s p)) (spot s p)).length, .i .i64 (en s (spot s p) : Nat)] ∧ c = [some (.row false 1 (dirs s (en s (spot s p)) (spot s p)).length (rowE strc [] (dirs s (en s (spot s p)) (spot s p))))]) := by
  refine FnK.ofE (cf := mkCf Try.prog te [(74, pe_spot_s), (75, pe_EndAt_s), (76, pe_White_s), (77, pe_Gap_s)] 45 0 false (fun _ => false) (kp [(0, [0, 1]), (1, [0, 1]), (2, [0, 1, 6]), (3, [0, 1, 6, 7]), (4, [0, 1, 6, 7]), (5, [0, 1, 6, 7, 27]), (6, [4, 5]), (7, [0, 1, 6, 7, 8]), (8, [0, 1, 6, 7, 8, 34]), (9, [0, 1, 6, 7, 8]), (10, [0, 6, 7, 8]), (11, [0, 1, 6, 7])]) [] []) (mkCf_ok te_ok (l := [(74, pe_spot_s), (75, pe_EndAt_s), (76, pe_White_s), (77, pe_Gap_s)]) (⟨pe_spot_s_ok, pe_EndAt_s_ok, pe_White_s_ok, pe_Gap_s_ok, trivial⟩) mixed_ok) Try.func36 rfl rfl rfl (by simp [mkCf]) (by simp [mkCf]) (rs := [.tmp 4, .tmp 5]) rfl 100000 ?_
  simp only [↓XC, XV, entry, isStr, tdOf, szOf, zeroOf, TD.isStruct, okCell, cellsOf, SO.isMap, SO.sz, SO.el, SO.n, SO.ro, mkCf, quietOp, opClass, okLeaf, spl, cellV, isU8T, isSlS, fillS, fillP, repl, SO.put, SV.mapH, frzV, frzVL, frzOk, frzOkL, lendOk, SV.bit, bitL, SV.plain, plainL, isE, mapHL, strip, stripL, gok, gokL, forall_const, implies_true, reduceIte, Nat.reduceAdd, Nat.reduceLT, Nat.reduceEqDiff, Nat.reduceBEq, Nat.reduceLeDiff, reduceCtorEq, Nat.reduceSub, Nat.reduceMul, Int.reduceToNat, Int.reduceLT, Int.reduceLE, TES, pe_spot_s_eq, pe_EndAt_s_eq, pe_White_s_eq, pe_Gap_s_eq]
  refine Chk.mk hp fun _ => ?_
  rw [spot_of s (spot_le s p)]
  have hi0 := spot_le s p
  generalize spot s p = i0 at *
  have he := en_le s i0 hi0
  refine VLoops.of (ι := {x : Nat × List Bs // i0 ≤ x.1 ∧ x.1 ≤ s.length ∧ x.2.length ≤ x.1 ∧ x.2 ++ dirs s (en s i0) x.1 = dirs s (en s i0) i0}) (fun x => ⟨[(0, .s s), (1, .i .i64 (x.1.1 : Nat)), (6, .i .i64 (en s i0 : Nat)), (7, .slc 0 0 x.1.2.length)], [some (.row false 1 x.1.2.length (rowE strc [] x.1.2))]⟩) (fun x => s.length - x.1.1) ⟨(i0, []), Nat.le_refl _, hi0, Nat.zero_le _, rfl⟩ (Ent.ren1 [0] (by decide) (by simp only [entCtx, at_cons_zero, at_cons_succ, and_true, true_and]; exact soLe_row fun i hi => by simp at hi) (by simp [entEnv, Vg.look, SV.mapH, muL])) ?_
  rintro ⟨⟨q0, out⟩, hq0, hq, hol, hd⟩
  simp only [↓XC, XV, entry, isStr, tdOf, szOf, zeroOf, TD.isStruct, okCell, cellsOf, SO.isMap, SO.sz, SO.el, SO.n, SO.ro, mkCf, quietOp, opClass, okLeaf, spl, cellV, isU8T, isSlS, fillS, fillP, repl, SO.put, SV.mapH, frzV, frzVL, frzOk, frzOkL, lendOk, SV.bit, bitL, SV.plain, plainL, isE, mapHL, strip, stripL, gok, gokL, forall_const, implies_true, reduceIte, Nat.reduceAdd, Nat.reduceLT, Nat.reduceEqDiff, Nat.reduceBEq, Nat.reduceLeDiff, reduceCtorEq, Nat.reduceSub, Nat.reduceMul, Int.reduceToNat, Int.reduceLT, Int.reduceLE, TES, pe_White_s_eq, pe_Gap_s_eq]
  simp only at hq0 hq hol hd
  rw [spot_of s hq]
  have hw1 := wh_ge s q0
  have hw2 := wh_le s q0 hq
  have hdd : dirs s (en s i0) q0 = if wh s q0 < en s i0 ∧ byt s (wh s q0) ≠ 35 ∧ gap s (wh s q0) = false then sub s (wh s q0) (gp s (wh s q0)) :: dirs s (en s i0) (gp s (wh s q0)) else [] := by
    rw [dirs]; simp only [dite_eq_ite]
  refine Chk.mk hp fun _ => Chk.mk (fun h => ?_) fun _ => ⟨fun h => ?_, fun h => ?_⟩
  · simp only [Bool.or_eq_true, Bool.and_eq_true, Bool.or_eq_false_iff, Bool.and_eq_false_iff, decide_eq_true_eq, decide_eq_false_iff_not, Bool.not_eq_true', Bool.not_eq_false', beq_iff_eq, beq_eq_false_iff_ne, ne_eq, ge_iff_le, gt_iff_lt, Int.not_le, Int.not_lt, Int.ofNat_le, Int.ofNat_lt] at h; omega
  · have hx : dirs s (en s i0) q0 = [] := by
      rw [hdd, if_neg]
      rintro ⟨h1, h2, _⟩
      rw [byt_lt (by omega)] at h2
      simp only [Bool.or_eq_true, Bool.and_eq_true, Bool.or_eq_false_iff, Bool.and_eq_false_iff, decide_eq_true_eq, decide_eq_false_iff_not, Bool.not_eq_true', Bool.not_eq_false', beq_iff_eq, beq_eq_false_iff_ne, ne_eq, ge_iff_le, gt_iff_lt, Int.not_le, Int.not_lt, Int.ofNat_le, Int.ofNat_lt] at h
      omega
    rw [hx, List.append_nil] at hd
    subst hd
    exact ⟨[0], by decide, by simp only [entCtx, at_cons_zero, at_cons_succ, and_true, true_and]; exact soLe_same fun _ => rfl, by simp only [↓XC, XV, entry, isStr, tdOf, szOf, zeroOf, TD.isStruct, okCell, cellsOf, SO.isMap, SO.sz, SO.el, SO.n, SO.ro, mkCf, quietOp, opClass, okLeaf, spl, cellV, isU8T, isSlS, fillS, fillP, repl, SO.put, SV.mapH, frzV, frzVL, frzOk, frzOkL, lendOk, SV.bit, bitL, SV.plain, plainL, isE, mapHL, strip, stripL, gok, gokL, forall_const, implies_true, reduceIte, Nat.reduceAdd, Nat.reduceLT, Nat.reduceEqDiff, Nat.reduceBEq, Nat.reduceLeDiff, reduceCtorEq, Nat.reduceSub, Nat.reduceMul, Int.reduceToNat, Int.reduceLT, Int.reduceLE]; try simp [muL, SV.mapH, mapHL], by simp [newRw, SO.ro], by simp⟩
  have hlt : wh s q0 < en s i0 ∧ byt s (wh s q0) ≠ 35 := by
    simp only [Bool.or_eq_true, Bool.and_eq_true, Bool.or_eq_false_iff, Bool.and_eq_false_iff, decide_eq_true_eq, decide_eq_false_iff_not, Bool.not_eq_true', Bool.not_eq_false', beq_iff_eq, beq_eq_false_iff_ne, ne_eq, ge_iff_le, gt_iff_lt, Int.not_le, Int.not_lt, Int.ofNat_le, Int.ofNat_lt] at h
    exact ⟨by omega, by rw [byt_lt (by omega)]; omega⟩
  have hg : gap s (wh s q0) = false := by
    unfold gap
    rw [wh_not, en_lt (by omega) hlt.1]; rfl
  rw [if_pos ⟨hlt.1, hlt.2, hg⟩] at hdd
  refine VLoops.of (ι := {x : Nat // wh s q0 ≤ x ∧ x ≤ s.length ∧ gp s x = gp s (wh s q0)}) (fun x => ⟨[(0, .s s), (1, .i .i64 (wh s q0 : Nat)), (6, .i .i64 (en s i0 : Nat)), (7, .slc 0 0 out.length), (8, .i .i64 (x.1 : Nat))], [some (.row false 1 out.length (rowE strc [] out))]⟩) (fun x => s.length - x.1) ⟨wh s q0, Nat.le_refl _, hw2, rfl⟩ (Ent.refl _ _) ?_
  rintro ⟨q, h1, h2, h3⟩
  simp only [↓XC, XV, entry, isStr, tdOf, szOf, zeroOf, TD.isStruct, okCell, cellsOf, SO.isMap, SO.sz, SO.el, SO.n, SO.ro, mkCf, quietOp, opClass, okLeaf, spl, cellV, isU8T, isSlS, fillS, fillP, repl, SO.put, SV.mapH, frzV, frzVL, frzOk, frzOkL, lendOk, SV.bit, bitL, SV.plain, plainL, isE, mapHL, strip, stripL, gok, gokL, forall_const, implies_true, reduceIte, Nat.reduceAdd, Nat.reduceLT, Nat.reduceEqDiff, Nat.reduceBEq, Nat.reduceLeDiff, reduceCtorEq, Nat.reduceSub, Nat.reduceMul, Int.reduceToNat, Int.reduceLT, Int.reduceLE, TES, pe_Gap_s_eq]
  refine Chk.mk ⟨hp, by omega⟩ fun _ => ⟨fun hg1 => Chk.mk (by simp only [inR]; omega) fun _ => ?_, fun hg1 => Chk.mk (by omega) fun _ => ⟨litEl_ok rfl rfl, Chk.mk (by omega) fun _ => ?_⟩⟩
  · have hg2 : gap s q = false := by simpa using hg1
    have := gap_not hg2
    exact ⟨⟨q + 1, by omega, by omega, by rw [← gp_t hg2]; exact h3⟩, by simp only; omega, (by first | exact Ent.refl _ _ | (simp only [Int.natCast_add, Int.natCast_one]; exact Ent.refl _ _))⟩
  · have hg2 : gap s q = true := by simpa using hg1
    rw [gp_f hg2] at h3
    have hq1 : wh s q0 ≠ q := by intro e; rw [e] at hg; rw [hg] at hg2; cases hg2
    refine ⟨⟨(q, out ++ [sub s (wh s q0) q]), by simp only; omega, h2, by simp only [List.length_append, List.length_singleton]; omega, ?_⟩, by simp only; omega, (Ent.ren1 [2] (by decide) (by simp only [entCtx, at_cons_zero, at_cons_succ, and_true, true_and]; exact soLe_push (y := sub s (wh s q0) q) (fun _ => rfl) rfl (fun _ _ => rfl) rfl) (by simp [entEnv, Vg.look, SV.mapH, muL]))⟩
    simp only
    rw [List.append_assoc, ← hd, hdd, ← h3]
    rfl
theorem DirectiveAt_s (s : Bs) (p : Int) (hp : s.length ≤ 1048576) : PF Try.prog 36 [.s s, .i .i64 p] (.tup [.fs 1 ((dirs s (en s (spot s p)) (spot s p)).map strc), .i .i64 (en s (spot s p) : Nat)]) := PF.ofOwn (DirectiveAt_s_own s p hp) rfl rfl (by simp only [frzOk, frzOkL, frzV, frzVL, at_cons_zero, and_true]; exact ⟨⟨by omega, fun j hj => ⟨rfl, rfl⟩⟩, by rw [rowE_list rfl]⟩)
noncomputable def pe_DirectiveAt_s : PE := peR (fun (x : Bs × Int) => match x with | (s, p) => [.s s, .i .i64 p]) (fun (x : Bs × Int) => match x with | (s, p) => s.length ≤ 1048576) (fun (x : Bs × Int) => match x with | (s, p) => .tup [.fs 1 ((dirs s (en s (spot s p)) (spot s p)).map strc), .i .i64 (en s (spot s p) : Nat)])
theorem pe_DirectiveAt_s_eq {s : Bs} {p : Int} : pe_DirectiveAt_s [.s s, .i .i64 p] = some (s.length ≤ 1048576, .tup [.fs 1 ((dirs s (en s (spot s p)) (spot s p)).map strc), .i .i64 (en s (spot s p) : Nat)]) := peR_eq (by rintro ⟨a0, a1⟩ ⟨b0, b1⟩ h; simp_all []) (s, p)
theorem pe_DirectiveAt_s_ok : PE1 Try.prog 36 pe_DirectiveAt_s := peR_ok (by rintro ⟨s, p⟩ hp; exact DirectiveAt_s s p hp)
theorem markText (k : Int) (hp : k ≤ 1073741824) : PF Try.prog 82 [.i .i64 k] (.s (mtx k)) := by
  refine ⟨rfl, rfl, FnK.of (cf := mkCf Try.prog te [] 20 0 false (fun _ => false) (kp [(0, [0]), (1, [0, 5]), (2, [2]), (3, [0, 3]), (4, [0, 3, 7]), (5, [0, 3]), (6, [0, 3]), (7, [2])]) [] []) (mkCf_ok te_ok (l := []) (trivial) mixed_ok) Try.func82 rfl rfl rfl (by simp [mkCf]) (by simp [mkCf]) (rs := [.tmp 2]) rfl 100000 ?_⟩
  simp only [↓XC, XV, entry, isStr, tdOf, szOf, zeroOf, TD.isStruct, okCell, cellsOf, SO.isMap, SO.sz, SO.el, SO.n, SO.ro, mkCf, quietOp, opClass, okLeaf, spl, cellV, isU8T, isSlS, fillS, fillP, repl, SO.put, SV.mapH, frzV, frzVL, frzOk, frzOkL, lendOk, SV.bit, bitL, SV.plain, plainL, isE, mapHL, strip, stripL, gok, gokL, forall_const, implies_true, reduceIte, Nat.reduceAdd, Nat.reduceLT, Nat.reduceEqDiff, Nat.reduceBEq, Nat.reduceLeDiff, reduceCtorEq, Nat.reduceSub, Nat.reduceMul, Int.reduceToNat, Int.reduceLT, Int.reduceLE, TES, XR]
  refine ⟨fun h => by rw [mtx, if_pos h], fun h => ?_⟩
  refine VLoops.of (ι := {x : Nat × List UInt8 // DecInv k.toNat x.1 x.2}) (fun x => ⟨[(0, .i .i64 (x.1.1 : Nat)), (3, .s x.1.2)], []⟩) (fun x => x.1.1) ⟨(k.toNat, []), Nat.le_refl _, by rw [if_neg (by omega)]; simp⟩ (by rw [show ((k.toNat : Nat) : Int) = k by omega]; exact Ent.refl _ _) ?_
  rintro ⟨⟨m, out⟩, hm⟩
  simp only [↓XC, XV, entry, isStr, tdOf, szOf, zeroOf, TD.isStruct, okCell, cellsOf, SO.isMap, SO.sz, SO.el, SO.n, SO.ro, mkCf, quietOp, opClass, okLeaf, spl, cellV, isU8T, isSlS, fillS, fillP, repl, SO.put, SV.mapH, frzV, frzVL, frzOk, frzOkL, lendOk, SV.bit, bitL, SV.plain, plainL, isE, mapHL, strip, stripL, gok, gokL, forall_const, implies_true, reduceIte, Nat.reduceAdd, Nat.reduceLT, Nat.reduceEqDiff, Nat.reduceBEq, Nat.reduceLeDiff, reduceCtorEq, Nat.reduceSub, Nat.reduceMul, Int.reduceToNat, Int.reduceLT, Int.reduceLE, TES]
  have e1 : (m : Int).tmod 10 = ((m % 10 : Nat) : Int) := tmod_nat m 10
  have e2 : (m : Int).tdiv 10 = ((m / 10 : Nat) : Int) := tdiv_nat m 10
  simp only [e1, e2]
  have e3 : ((48 : Int) + ((m % 10 : Nat) : Int)).toNat = 48 + m % 10 := by omega
  have hl := hm.len
  have hmk : m ≤ k.toNat := hm.1
  simp only at hm hl
  refine ⟨fun hc => Chk.mk (by decide) fun _ => Chk.mk (by simp only [inR]; omega) fun _ => Chk.mk (by simp only [inR]; omega) fun _ => ⟨isU8_one, Chk.mk (by omega) fun _ => ⟨by decide, Chk.mk (by simp only [inR]; omega) fun _ => ?_⟩⟩, fun hc => Chk.mk (by omega) fun _ => ?_⟩
  · rw [e3]
    exact ⟨⟨(m / 10, UInt8.ofNat (48 + m % 10) :: out), hm.step (by omega)⟩, by simp only; omega, Ent.nil (by simp [entEnv, Vg.look, SV.mapH])⟩
  · have hm0 : m = 0 := by omega
    subst hm0
    have := hm.2
    rw [if_pos rfl] at this
    rw [mtx, if_neg h, this]
noncomputable def pe_markText : PE := peR (fun (k : Int) => [.i .i64 k]) (fun (k : Int) => k ≤ 1073741824) (fun (k : Int) => .s (mtx k))
theorem pe_markText_eq {k : Int} : pe_markText [.i .i64 k] = some (k ≤ 1073741824, .s (mtx k)) := peR_eq (by rintro a b h; simp_all []) k
theorem pe_markText_ok : PE1 Try.prog 82 pe_markText := peR_ok (by rintro k hp; exact markText k hp)
theorem eqStringS (a b : List Bs) (hp : a.length ≤ 1048576) : PF Try.prog 38 [.fs 1 (a.map strc), .fs 1 (b.map strc)] (.b (decide (a = b))) := by
  refine ⟨rfl, rfl, FnK.of (cf := mkCf Try.prog te [] 26 0 false (fun _ => false) (kp [(0, [0, 1]), (1, [0, 1, 10]), (2, [4]), (3, [0, 1, 5]), (4, [0, 1, 5, 14]), (5, [0, 1, 5]), (6, [0, 1, 5, 25]), (7, [4]), (8, [4])]) [] [(6, [], [], .q1 0 (.q1 1 (.q1 2 (.q1 4 (.q1 5 (.q1 6 (.q0 3 [3] (.q0 7 [7] (.q1 8 (.fin))))))))))]) (mkCf_ok te_ok (l := []) (trivial) mixed_ok) Try.func38 rfl rfl rfl (by simp [mkCf]) (by simp [mkCf]) (rs := [.tmp 4]) rfl 100000 ?_⟩
  simp only [↓XC, XV, entry, isStr, tdOf, szOf, zeroOf, TD.isStruct, okCell, cellsOf, SO.isMap, SO.sz, SO.el, SO.n, SO.ro, mkCf, quietOp, opClass, okLeaf, spl, cellV, isU8T, isSlS, fillS, fillP, repl, SO.put, SV.mapH, frzV, frzVL, frzOk, frzOkL, lendOk, SV.bit, bitL, SV.plain, plainL, isE, mapHL, strip, stripL, gok, gokL, forall_const, implies_true, reduceIte, Nat.reduceAdd, Nat.reduceLT, Nat.reduceEqDiff, Nat.reduceBEq, Nat.reduceLeDiff, reduceCtorEq, Nat.reduceSub, Nat.reduceMul, Int.reduceToNat, Int.reduceLT, Int.reduceLE, TES, XR]
  refine ⟨fun h => ?_, fun h => ?_⟩
  · have : a ≠ b := by intro e; subst e; simp at h
    simp [this]
  have hlen : a.length = b.length := by simp at h; omega
  refine VLoops.of (ι := {i : Nat // i ≤ a.length ∧ ∀ j, j < i → a.getD j [] = b.getD j []}) (fun x => ⟨[(0, .fs 1 (a.map strc)), (1, .fs 1 (b.map strc)), (5, .i .i64 (x.1 : Nat))], []⟩) (fun x => a.length - x.1) ⟨0, Nat.zero_le _, fun j hj => absurd hj (Nat.not_lt_zero _)⟩ (Ent.refl _ _) ?_
  rintro ⟨i, hi, hj⟩
  simp only [↓XC, XV, entry, isStr, tdOf, szOf, zeroOf, TD.isStruct, okCell, cellsOf, SO.isMap, SO.sz, SO.el, SO.n, SO.ro, mkCf, quietOp, opClass, okLeaf, spl, cellV, isU8T, isSlS, fillS, fillP, repl, SO.put, SV.mapH, frzV, frzVL, frzOk, frzOkL, lendOk, SV.bit, bitL, SV.plain, plainL, isE, mapHL, strip, stripL, gok, gokL, forall_const, implies_true, reduceIte, Nat.reduceAdd, Nat.reduceLT, Nat.reduceEqDiff, Nat.reduceBEq, Nat.reduceLeDiff, reduceCtorEq, Nat.reduceSub, Nat.reduceMul, Int.reduceToNat, Int.reduceLT, Int.reduceLE, TES, XR]
  refine ⟨fun h => ⟨by decide +kernel, Chk.mk (by omega) fun _ => Chk.mk (by omega) fun _ => ⟨fun hne => ?_, fun hne => Chk.mk (by simp only [inR]; omega) fun _ => ⟨⟨i + 1, by omega, ?_⟩, by simp only; omega, (by first | exact Ent.refl _ _ | (simp only [Int.natCast_add, Int.natCast_one]; exact Ent.refl _ _))⟩⟩⟩, fun h => ?_⟩
  · have : a ≠ b := by intro e; subst e; simp at hne
    simp [this]
  · intro j hjj
    rcases Nat.lt_or_ge j i with h1 | h1
    · exact hj j h1
    · have : j = i := by omega
      subst this
      simpa using hne
  · have : a = b := eq_of_getD [] hlen fun j h1 => hj j (by omega)
    simp [this]
noncomputable def pe_eqStringS : PE := peR (fun (x : List Bs × List Bs) => match x with | (a, b) => [.fs 1 (a.map strc), .fs 1 (b.map strc)]) (fun (x : List Bs × List Bs) => match x with | (a, b) => a.length ≤ 1048576) (fun (x : List Bs × List Bs) => match x with | (a, b) => .b (decide (a = b)))
theorem pe_eqStringS_eq {a b : List Bs} : pe_eqStringS [.fs 1 (a.map strc), .fs 1 (b.map strc)] = some (a.length ≤ 1048576, .b (decide (a = b))) := peR_eq (by rintro ⟨a0, a1⟩ ⟨b0, b1⟩ h; simp_all [strc_inj]) (a, b)
theorem pe_eqStringS_ok : PE1 Try.prog 38 pe_eqStringS := peR_ok (by rintro ⟨a, b⟩ hp; exact eqStringS a b hp)
theorem heldStringS (a : List Bs) (k : Int) (hp : a = mkL mtx 1 k a.length ∧ a.length ≤ 1048576 ∧ 0 ≤ k ∧ k ≤ 1048577) : PF Try.prog 40 [.fs 1 (a.map strc), .i .i64 k] (.i .i64 (k + a.length)) := by
  refine ⟨rfl, rfl, FnK.of (cf := mkCf Try.prog te [(82, pe_markText)] 22 0 false (fun _ => false) (kp [(0, [0, 1]), (1, [0, 1, 5]), (2, [0, 1, 5, 9]), (3, [0, 1, 5]), (4, [0, 1, 5, 18]), (5, [4]), (6, [0, 1, 5]), (7, [4])]) [] [(4, [], [], .q1 0 (.q1 1 (.q1 2 (.q1 4 (.q0 3 [3] (.alt 5 (.q1 6 (.fin)) (.fin)))))))]) (mkCf_ok te_ok (l := [(82, pe_markText)]) (⟨pe_markText_ok, trivial⟩) mixed_ok) Try.func40 rfl rfl rfl (by simp [mkCf]) (by simp [mkCf]) (rs := [.tmp 4]) rfl 100000 ?_⟩
  simp only [↓XC, XV, entry, isStr, tdOf, szOf, zeroOf, TD.isStruct, okCell, cellsOf, SO.isMap, SO.sz, SO.el, SO.n, SO.ro, mkCf, quietOp, opClass, okLeaf, spl, cellV, isU8T, isSlS, fillS, fillP, repl, SO.put, SV.mapH, frzV, frzVL, frzOk, frzOkL, lendOk, SV.bit, bitL, SV.plain, plainL, isE, mapHL, strip, stripL, gok, gokL, forall_const, implies_true, reduceIte, Nat.reduceAdd, Nat.reduceLT, Nat.reduceEqDiff, Nat.reduceBEq, Nat.reduceLeDiff, reduceCtorEq, Nat.reduceSub, Nat.reduceMul, Int.reduceToNat, Int.reduceLT, Int.reduceLE, TES, pe_markText_eq, XR]
  refine VLoops.of (ι := {i : Nat // i ≤ a.length}) (fun x => ⟨[(0, .fs 1 (a.map strc)), (1, .i .i64 (k + (x.1 : Nat))), (5, .i .i64 (x.1 : Nat))], []⟩) (fun x => a.length - x.1) ⟨0, Nat.zero_le _⟩ (by simp only [Int.natCast_zero, Int.add_zero]; exact Ent.refl _ _) ?_
  rintro ⟨i, hi⟩
  simp only [↓XC, XV, entry, isStr, tdOf, szOf, zeroOf, TD.isStruct, okCell, cellsOf, SO.isMap, SO.sz, SO.el, SO.n, SO.ro, mkCf, quietOp, opClass, okLeaf, spl, cellV, isU8T, isSlS, fillS, fillP, repl, SO.put, SV.mapH, frzV, frzVL, frzOk, frzOkL, lendOk, SV.bit, bitL, SV.plain, plainL, isE, mapHL, strip, stripL, gok, gokL, forall_const, implies_true, reduceIte, Nat.reduceAdd, Nat.reduceLT, Nat.reduceEqDiff, Nat.reduceBEq, Nat.reduceLeDiff, reduceCtorEq, Nat.reduceSub, Nat.reduceMul, Int.reduceToNat, Int.reduceLT, Int.reduceLE, TES, pe_markText_eq, XR]
  have hx : i < a.length → a.getD i [] = mtx (k + i) := fun h => by
    have := mkL_get (g := mtx) (c := 1) [] (n := a.length) (k := k) h
    rw [← hp.1] at this
    rw [this, Int.one_mul]
  refine ⟨fun h => ⟨by decide +kernel, Chk.mk (by omega) fun _ => Chk.mk (by omega) fun _ => ⟨fun hne => ?_, fun _ => Chk.mk (by simp only [inR]; omega) fun _ => Chk.mk (by simp only [inR]; omega) fun _ => ⟨⟨i + 1, by omega⟩, by simp only; omega, ?_⟩⟩⟩, fun h => ?_⟩
  · rw [hx (by omega)] at hne; simp at hne
  · simp only [Int.natCast_add, Int.natCast_one, ← Int.add_assoc]; exact Ent.refl _ _
  · rw [show i = a.length by omega]
noncomputable def pe_heldStringS : PE := peR (fun (x : List Bs × Int) => match x with | (a, k) => [.fs 1 (a.map strc), .i .i64 k]) (fun (x : List Bs × Int) => match x with | (a, k) => a = mkL mtx 1 k a.length ∧ a.length ≤ 1048576 ∧ 0 ≤ k ∧ k ≤ 1048577) (fun (x : List Bs × Int) => match x with | (a, k) => .i .i64 (k + a.length))
theorem pe_heldStringS_eq {a : List Bs} {k : Int} : pe_heldStringS [.fs 1 (a.map strc), .i .i64 k] = some (a = mkL mtx 1 k a.length ∧ a.length ≤ 1048576 ∧ 0 ≤ k ∧ k ≤ 1048577, .i .i64 (k + a.length)) := peR_eq (by rintro ⟨a0, a1⟩ ⟨b0, b1⟩ h; simp_all [strc_inj]) (a, k)
theorem pe_heldStringS_ok : PE1 Try.prog 40 pe_heldStringS := peR_ok (by rintro ⟨a, k⟩ hp; exact heldStringS a k hp)
theorem markStringS (a : List Bs) (k : Int) (hp : a.length ≤ 1048576 ∧ 0 ≤ k ∧ k ≤ 1048577) : FnK Try.prog 39 1 [.slc 0 0 a.length, .i .i64 k] [some (.row false 1 a.length (rowE strc [] a))] (fun z c => z = .i .i64 (k + a.length) ∧ c = [some (.row false 1 a.length (rowE strc [] (mkL mtx 1 k a.length)))]) := by
  refine FnK.ofE (cf := mkCf Try.prog te [(82, pe_markText)] 20 1 false (fun _ => false) (kp [(0, [0, 1]), (1, [0, 1, 5]), (2, [0, 1, 5, 9]), (3, [0, 1, 5]), (4, [0, 1, 5]), (5, [0, 1, 5]), (6, [4])]) [] []) (mkCf_ok te_ok (l := [(82, pe_markText)]) (⟨pe_markText_ok, trivial⟩) mixed_ok) Try.func39 rfl rfl rfl (by simp [mkCf]) (by simp [mkCf]) (rs := [.tmp 4]) rfl 100000 ?_
  simp only [↓XC, XV, entry, isStr, tdOf, szOf, zeroOf, TD.isStruct, okCell, cellsOf, SO.isMap, SO.sz, SO.el, SO.n, SO.ro, mkCf, quietOp, opClass, okLeaf, spl, cellV, isU8T, isSlS, fillS, fillP, repl, SO.put, SV.mapH, frzV, frzVL, frzOk, frzOkL, lendOk, SV.bit, bitL, SV.plain, plainL, isE, mapHL, strip, stripL, gok, gokL, forall_const, implies_true, reduceIte, Nat.reduceAdd, Nat.reduceLT, Nat.reduceEqDiff, Nat.reduceBEq, Nat.reduceLeDiff, reduceCtorEq, Nat.reduceSub, Nat.reduceMul, Int.reduceToNat, Int.reduceLT, Int.reduceLE, TES, pe_markText_eq, XR]
  refine VLoops.of (ι := {i : Nat // i ≤ a.length}) (fun x => ⟨[(0, .slc 0 0 a.length), (1, .i .i64 (k + (x.1 : Nat))), (5, .i .i64 (x.1 : Nat))], [some (.row false 1 a.length (rowE strc [] (mkd mtx 1 k a x.1)))]⟩) (fun x => a.length - x.1) ⟨0, Nat.zero_le _⟩ (by simp only [Int.natCast_zero, Int.add_zero, mkd_zero]; exact Ent.refl _ _) ?_
  rintro ⟨i, hi⟩
  simp only [↓XC, XV, entry, isStr, tdOf, szOf, zeroOf, TD.isStruct, okCell, cellsOf, SO.isMap, SO.sz, SO.el, SO.n, SO.ro, mkCf, quietOp, opClass, okLeaf, spl, cellV, isU8T, isSlS, fillS, fillP, repl, SO.put, SV.mapH, frzV, frzVL, frzOk, frzOkL, lendOk, SV.bit, bitL, SV.plain, plainL, isE, mapHL, strip, stripL, gok, gokL, forall_const, implies_true, reduceIte, Nat.reduceAdd, Nat.reduceLT, Nat.reduceEqDiff, Nat.reduceBEq, Nat.reduceLeDiff, reduceCtorEq, Nat.reduceSub, Nat.reduceMul, Int.reduceToNat, Int.reduceLT, Int.reduceLE, TES, pe_markText_eq, XR]
  refine ⟨fun h => Chk.mk (by omega) fun _ => Chk.mk (by omega) fun _ => Chk.mk (by omega) fun _ => Chk.mk (by simp only [inR]; omega) fun _ => Chk.mk (by simp only [inR]; omega) fun _ => ⟨⟨i + 1, by omega⟩, by simp only; omega, ?_⟩, fun h => ?_⟩
  · simp only [Int.natCast_add, Int.natCast_one, ← Int.add_assoc]
    refine (Ent.ren1 [0] (by decide) (by simp only [entCtx, at_cons_zero, at_cons_succ, and_true, true_and]; exact soLe_mark (fun _ => rfl) fun j hj => by simp only [Int.one_mul]; rfl) (by simp [entEnv, Vg.look, SV.mapH, muL]))
  · have hia : i = a.length := by omega
    subst hia
    rw [mkd_all]
    exact ⟨[0], by decide, by simp only [entCtx, at_cons_zero, at_cons_succ, and_true, true_and]; exact soLe_same fun _ => rfl, by simp only [↓XC, XV, entry, isStr, tdOf, szOf, zeroOf, TD.isStruct, okCell, cellsOf, SO.isMap, SO.sz, SO.el, SO.n, SO.ro, mkCf, quietOp, opClass, okLeaf, spl, cellV, isU8T, isSlS, fillS, fillP, repl, SO.put, SV.mapH, frzV, frzVL, frzOk, frzOkL, lendOk, SV.bit, bitL, SV.plain, plainL, isE, mapHL, strip, stripL, gok, gokL, forall_const, implies_true, reduceIte, Nat.reduceAdd, Nat.reduceLT, Nat.reduceEqDiff, Nat.reduceBEq, Nat.reduceLeDiff, reduceCtorEq, Nat.reduceSub, Nat.reduceMul, Int.reduceToNat, Int.reduceLT, Int.reduceLE]; try simp [muL, SV.mapH, mapHL], by simp [newRw, SO.ro], by simp⟩
end Go.T9
