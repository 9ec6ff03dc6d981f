/- Own text: part PathA. -/
import Derived.Test.YtjphhddbkjdbnaaTypes2
import Derived.Test.YtjphhddbkjdbnaaEventA
import Derived.Test.YtjphhddbkjdbnaaEventB
import Derived.Test.YtjphhddbkjdbnaaNestA
import Derived.Test.YtjphhddbkjdbnaaNestB
import Derived.Test.YtjphhddbkjdbnaaTreeA
import Derived.Test.YtjphhddbkjdbnaaTreeB
import Derived.Test.YtjphhddbkjdbnaaDefA
import Derived.Test.YtjphhddbkjdbnaaKidA
import Derived.Test.YtjphhddbkjdbnaaBaseE
import Derived.Test.YtjphhddbkjdbnaaVgSg
import Derived.Test.YtjphhddbkjdbnaaPlX
import Derived.Test.YtjphhddbkjdbnaaPlY
namespace Go.T51
open Go.Proofs Go.Vg Go.RowKit Go.TT Go.Pl Go.T8 Go.T12 Go.T13 Go.T14 Go.T15 Go.T18 Go.T19 Go.T40 Go.T43
set_option linter.unusedVariables false
set_option linter.unusedSimpArgs false
set_option maxRecDepth 10000
set_option maxHeartbeats 4000000
theorem nest_step (l : List Ev) (u i : Int) (hp : l.length ≤ 1048576 ∧ nested l = true ∧ 0 ≤ u ∧ u < l.length ∧ 0 ≤ i ∧ i < l.length) : PF Try.prog 94 [.agg [.fs 8 (l.map evc), .fs 1 ((endL l).map intc), .fs 1 ((upL l).map intc), .fs 1 ((docL l).map intc)], .i .i64 u, .i .i64 i] (.tup [.agg [.i .i64 ((stepO l u.toNat i.toNat).getD sgz).kind, .i .i64 ((stepO l u.toNat i.toNat).getD sgz).n, .s ((stepO l u.toNat i.toNat).getD sgz).text], .b (stepO l u.toNat i.toNat).isSome]) := by
  refine ⟨rfl, rfl, FnK.of (cf := mkCf Try.prog te [(60, pe_nest_kidsOf), (53, pe_nest_keyText)] 65 0 false (fun _ => false) (kp [(0, [1, 2, 3, 6]), (1, [1, 2, 3, 6, 16]), (2, [6, 7]), (3, [1, 2, 3, 6, 8]), (4, [1, 2, 3, 6, 8, 9]), (5, [1, 2, 3, 6, 8, 9, 33]), (6, [1, 2, 3, 6, 8, 9]), (7, [1, 3, 6, 8, 9, 36]), (8, [6, 7]), (9, [3, 6, 8, 9, 40]), (10, [6, 7]), (11, [3, 6, 8, 9, 50]), (12, [6, 7]), (13, [6, 7])]) [] [(13, [8], [1], .q1 1 (.q1 2 (.q1 3 (.q0 4 [4, 5, 6, 7, 8, 9] (.q0 0 [0, 6, 7, 8, 9] (.q0 5 [5, 6, 7, 8, 9] (.alt 6 (.q1 7 (.sw (.alt 8 (.q1 9 (.fin)) (.fin)))) (.fin))))))))]) (mkCf_ok te_ok (l := [(60, pe_nest_kidsOf), (53, pe_nest_keyText)]) (⟨pe_nest_kidsOf_ok, pe_nest_keyText_ok, trivial⟩) mixed_ok) Try.func94 rfl rfl rfl (by simp [mkCf]) (by simp [mkCf]) (rs := [.cell 6 69, .tmp 7]) rfl 100000 ?_⟩
  simp only [↓XC, XV, entry, isStr, tdOf, szOf, zeroOf, TD.isStruct, okCell, cellsOf, SO.isMap, SO.sz, SO.el, SO.n, SO.ro, mkCf, quietOp, opClass, okLeaf, spl, cellV, isU8T, isSlS, fillS, fillP, repl, SO.put, SV.mapH, frzV, frzVL, frzOk, frzOkL, lendOk, SV.bit, bitL, SV.plain, plainL, isE, mapHL, strip, stripL, gok, gokL, forall_const, implies_true, reduceIte, Nat.reduceAdd, Nat.reduceLT, Nat.reduceEqDiff, Nat.reduceBEq, Nat.reduceLeDiff, reduceCtorEq, Nat.reduceSub, Nat.reduceMul, Int.reduceToNat, Int.reduceLT, Int.reduceLE, TES, pe_nest_kidsOf_eq, pe_nest_keyText_eq, XRE, XR, XRS]
  obtain ⟨h1, hn, hu0, hul, hi0, hil⟩ := hp
  obtain ⟨n, rfl⟩ := Int.eq_ofNat_of_zero_le hu0
  obtain ⟨m, rfl⟩ := Int.eq_ofNat_of_zero_le hi0
  simp only [Int.toNat_natCast, if_pos (show 0 ≤ ((n : Nat) : Int) ∧ ((n : Nat) : Int) < l.length by omega)]
  have hkl := kidsV_len (l := l) n
  refine Chk.mk (by omega) fun _ => ⟨fun h7 => ?_, fun h7 => Chk.mk ⟨h1, hn⟩ fun _ => Chk.mk (by simp only [inR]; omega) fun _ => ?_⟩
  · have e : stepO l n m = none := by unfold stepO; rw [if_pos h7]
    rw [e]; rfl
  have e : stepO l n m = if lastK (kidsV l n) m (kidsV l n).length < 0 then none else some (stepK l n (lastK (kidsV l n) m (kidsV l n).length)) := by unfold stepO; rw [if_neg h7]
  refine VLoops.of (ι := {x : Nat // x ≤ (kidsV l n).length ∧ lastK (kidsV l n) m x = lastK (kidsV l n) m (kidsV l n).length}) (fun x => ⟨[(1, .i .i64 (n : Nat)), (2, .i .i64 (m : Nat)), (3, .ptr 0 0 0), (6, .ptr 1 0 0), (8, .fs 1 ((kidsV l n).map intc)), (9, .i .i64 ((x.1 : Nat) - 1 : Int))], [some (.blk false [.fs 8 (l.map evc), .fs 1 ((endL l).map intc), .fs 1 ((upL l).map intc), .fs 1 ((docL l).map intc)]), some (.blk false [.i .i64 0, .i .i64 0, .s []])]⟩) (fun x => x.1) ⟨(kidsV l n).length, Nat.le_refl _, rfl⟩ (Ent.refl _ _) ?_
  rintro ⟨k, hk, hd⟩
  simp only [↓XC, XV, entry, isStr, tdOf, szOf, zeroOf, TD.isStruct, okCell, cellsOf, SO.isMap, SO.sz, SO.el, SO.n, SO.ro, mkCf, quietOp, opClass, okLeaf, spl, cellV, isU8T, isSlS, fillS, fillP, repl, SO.put, SV.mapH, frzV, frzVL, frzOk, frzOkL, lendOk, SV.bit, bitL, SV.plain, plainL, isE, mapHL, strip, stripL, gok, gokL, forall_const, implies_true, reduceIte, Nat.reduceAdd, Nat.reduceLT, Nat.reduceEqDiff, Nat.reduceBEq, Nat.reduceLeDiff, reduceCtorEq, Nat.reduceSub, Nat.reduceMul, Int.reduceToNat, Int.reduceLT, Int.reduceLE, TES, pe_nest_keyText_eq, XRE, XR, XRS]
  rcases k with _ | k
  · refine Chk.mk (fun h => by omega) fun _ => ⟨fun h => by simp at h, fun _ => ⟨fun _ => ?_, fun h => by omega⟩⟩
    rw [e, if_pos (by rw [← hd]; simp [lastK])]
    rfl
  simp only [show ((k + 1 : Nat) : Int) - 1 = (k : Int) by omega, Int.toNat_natCast]
  simp only [lastK] at hd
  refine Chk.mk (fun _ => by omega) fun _ => ⟨fun h => ?_, fun h => ⟨fun h9 => by omega, fun _ => Chk.mk (by omega) fun _ => ?_⟩⟩
  · simp only [Bool.or_eq_true, Bool.and_eq_true, Bool.or_eq_false_iff, Bool.and_eq_false_iff, decide_eq_true_eq, decide_eq_false_iff_not, Bool.not_eq_true', Bool.not_eq_false', beq_iff_eq, beq_eq_false_iff_ne, ne_eq, ge_iff_le, gt_iff_lt, Int.not_le, Int.not_lt, Int.ofNat_le, Int.ofNat_lt] at h
    rw [if_pos (by omega)] at hd
    exact Chk.mk (by simp only [inR]; omega) fun _ => ⟨⟨k, by omega, hd⟩, by simp only; omega, Ent.refl _ _⟩
  · simp only [Bool.or_eq_true, Bool.and_eq_true, Bool.or_eq_false_iff, Bool.and_eq_false_iff, decide_eq_true_eq, decide_eq_false_iff_not, Bool.not_eq_true', Bool.not_eq_false', beq_iff_eq, beq_eq_false_iff_ne, ne_eq, ge_iff_le, gt_iff_lt, Int.not_le, Int.not_lt, Int.ofNat_le, Int.ofNat_lt] at h
    rw [if_neg (by omega)] at hd
    rw [← hd, if_neg (by omega)] at e
    rw [e]
    simp only [stepK]
    refine ⟨fun h3 => by rw [if_pos h3]; rfl, fun h3 => Chk.mk (by decide) fun _ => ⟨fun h2 => ⟨by decide, Chk.mk (by rw [show (k : Int).tdiv 2 = ((k / 2 : Nat) : Int) from tdiv_nat k 2]; simp only [inR]; omega) fun _ => by rw [if_neg h3, if_pos h2]; rfl⟩, fun h2 => ?_⟩⟩
    rw [if_neg h3, if_neg h2]
    have hk1 : 1 ≤ k := by
      rcases Nat.eq_zero_or_pos k with h0 | h0
      · subst h0; exact absurd (by decide) h2
      · exact h0
    have hkg := kidsV_get (l := l) (u := n) (j := ((k : Int) - 1).toNat) (by omega)
    refine ⟨by decide +kernel, Chk.mk (by simp only [inR]; omega) fun _ => Chk.mk (by omega) fun _ => Chk.mk ⟨h1, hn⟩ fun _ => ?_⟩
    rw [if_pos hkg]
    rfl
noncomputable def pe_nest_step : PE := peR (fun (x : List Ev × Int × Int) => match x with | (l, u, i) => [.agg [.fs 8 (l.map evc), .fs 1 ((endL l).map intc), .fs 1 ((upL l).map intc), .fs 1 ((docL l).map intc)], .i .i64 u, .i .i64 i]) (fun (x : List Ev × Int × Int) => match x with | (l, u, i) => l.length ≤ 1048576 ∧ nested l = true ∧ 0 ≤ u ∧ u < l.length ∧ 0 ≤ i ∧ i < l.length) (fun (x : List Ev × Int × Int) => match x with | (l, u, i) => .tup [.agg [.i .i64 ((stepO l u.toNat i.toNat).getD sgz).kind, .i .i64 ((stepO l u.toNat i.toNat).getD sgz).n, .s ((stepO l u.toNat i.toNat).getD sgz).text], .b (stepO l u.toNat i.toNat).isSome])
theorem pe_nest_step_eq {l : List Ev} {u i : Int} : pe_nest_step [.agg [.fs 8 (l.map evc), .fs 1 ((endL l).map intc), .fs 1 ((upL l).map intc), .fs 1 ((docL l).map intc)], .i .i64 u, .i .i64 i] = some (l.length ≤ 1048576 ∧ nested l = true ∧ 0 ≤ u ∧ u < l.length ∧ 0 ≤ i ∧ i < l.length, .tup [.agg [.i .i64 ((stepO l u.toNat i.toNat).getD sgz).kind, .i .i64 ((stepO l u.toNat i.toNat).getD sgz).n, .s ((stepO l u.toNat i.toNat).getD sgz).text], .b (stepO l u.toNat i.toNat).isSome]) := peR_eq (by rintro ⟨a0, a1, a2⟩ ⟨b0, b1, b2⟩ h; simp_all [evc_inj, intc_inj]) (l, u, i)
theorem pe_nest_step_ok : PE1 Try.prog 94 pe_nest_step := peR_ok (by rintro ⟨l, u, i⟩ hp; exact nest_step l u i hp)
theorem nest_pathOf_aux : ∀ (bound : Nat) (l : List Ev) (i : Int), (l.length ≤ 1048576 ∧ nested l = true) → i.toNat < bound → FnK Try.prog 62 0 [.agg [.fs 8 (l.map evc), .fs 1 ((endL l).map intc), .fs 1 ((upL l).map intc), .fs 1 ((docL l).map intc)], .i .i64 i] [] (fun z c => z = .slc 0 0 (if 0 ≤ i ∧ i < l.length then pathV l i.toNat else []).length ∧ c = [some (.row false 3 (if 0 ≤ i ∧ i < l.length then pathV l i.toNat else []).length (rowE segc sgz (if 0 ≤ i ∧ i < l.length then pathV l i.toNat else [])))]) := by
  intro bound
  induction bound with
  | zero => intro l i _ h; exact absurd h (Nat.not_lt_zero _)
  | succ bound ih =>
  intro l i hp hm
  refine FnK.ofX (cf := mkCf Try.prog te [(93, pe_nest_upOf), (94, pe_nest_step)] 30 0 false (fun _ => false) (kp [(0, [1, 2]), (1, [1, 2, 5]), (2, [1, 2, 5, 13]), (3, [4]), (4, [1, 2, 5, 6]), (5, [6, 7, 8]), (6, [6, 7, 24]), (7, [6]), (8, [4])]) [] []) (mkCf_ok te_ok (l := [(93, pe_nest_upOf), (94, pe_nest_step)]) (⟨pe_nest_upOf_ok, pe_nest_step_ok, trivial⟩) mixed_ok) Try.func62 rfl rfl rfl (by simp [mkCf]) (by simp [mkCf]) (rs := [.tmp 4]) rfl 100000 ?_
  simp only [↓XC, XV, entry, isStr, tdOf, szOf, zeroOf, TD.isStruct, okCell, cellsOf, SO.isMap, SO.sz, SO.el, SO.n, SO.ro, mkCf, quietOp, opClass, okLeaf, spl, cellV, isU8T, isSlS, fillS, fillP, repl, SO.put, SV.mapH, frzV, frzVL, frzOk, frzOkL, lendOk, SV.bit, bitL, SV.plain, plainL, isE, mapHL, strip, stripL, gok, gokL, forall_const, implies_true, reduceIte, Nat.reduceAdd, Nat.reduceLT, Nat.reduceEqDiff, Nat.reduceBEq, Nat.reduceLeDiff, reduceCtorEq, Nat.reduceSub, Nat.reduceMul, Int.reduceToNat, Int.reduceLT, Int.reduceLE, TES, pe_nest_upOf_eq, pe_nest_step_eq, XRE, XR, XRS]
  obtain ⟨h1, hn⟩ := hp
  have hul : (upL l).length = l.length := mkR_length
  by_cases hi : 0 ≤ i ∧ i < l.length
  · obtain ⟨n, rfl⟩ := Int.eq_ofNat_of_zero_le hi.1
    simp only [if_pos hi, Int.toNat_natCast] at hm ⊢
    have hup : (upL l).getD n 0 = upB l n 0 := by unfold upL; rw [mkR_get (by omega), tops_up hn (by omega)]
    rw [hup]
    have hlt := upB_lt (l := l) n 0
    refine Chk.mk ⟨h1, hul⟩ fun _ => ⟨fun h => ?_, fun h => ?_⟩
    · rw [pathV_none h]
      exact ⟨_, Ent.nl (d := [some (.blk false [.fs 8 (l.map evc), .fs 1 ((endL l).map intc), .fs 1 ((upL l).map intc), .fs 1 ((docL l).map intc)])]) (env' := [(4, .slc 1 0 0)]) [(3, rowE segc sgz [])] (by simp [nlE, nlV, Vg.look]) (by simp [nlC, nlO, nlL, nlV]), ⟨[1], by decide, by simp only [entCtx, at_cons_zero, at_cons_succ, and_true, true_and]; exact soLe_same fun _ => rfl, by simp only [↓XC, XV, entry, isStr, tdOf, szOf, zeroOf, TD.isStruct, okCell, cellsOf, SO.isMap, SO.sz, SO.el, SO.n, SO.ro, mkCf, quietOp, opClass, okLeaf, spl, cellV, isU8T, isSlS, fillS, fillP, repl, SO.put, SV.mapH, frzV, frzVL, frzOk, frzOkL, lendOk, SV.bit, bitL, SV.plain, plainL, isE, mapHL, strip, stripL, gok, gokL, forall_const, implies_true, reduceIte, Nat.reduceAdd, Nat.reduceLT, Nat.reduceEqDiff, Nat.reduceBEq, Nat.reduceLeDiff, reduceCtorEq, Nat.reduceSub, Nat.reduceMul, Int.reduceToNat, Int.reduceLT, Int.reduceLE]; try simp [muL, SV.mapH, mapHL], by simp [newRw, SO.ro], by simp⟩⟩
    · have hI := ih l (upB l n 0) ⟨h1, hn⟩ (by omega)
      simp only [if_pos (show 0 ≤ upB l n 0 ∧ upB l n 0 < l.length by omega)] at hI
      have hPl := pathV_len (l := l) _ (upB l n 0).toNat (Nat.le_refl _)
      rw [pathV_some h]
      generalize pathV l (upB l n 0).toNat = P at *
      refine XCalls.own hI rfl ?_
      simp only [↓XC, XV, entry, isStr, tdOf, szOf, zeroOf, TD.isStruct, okCell, cellsOf, SO.isMap, SO.sz, SO.el, SO.n, SO.ro, mkCf, quietOp, opClass, okLeaf, spl, cellV, isU8T, isSlS, fillS, fillP, repl, SO.put, SV.mapH, frzV, frzVL, frzOk, frzOkL, lendOk, SV.bit, bitL, SV.plain, plainL, isE, mapHL, strip, stripL, gok, gokL, forall_const, implies_true, reduceIte, Nat.reduceAdd, Nat.reduceLT, Nat.reduceEqDiff, Nat.reduceBEq, Nat.reduceLeDiff, reduceCtorEq, Nat.reduceSub, Nat.reduceMul, Int.reduceToNat, Int.reduceLT, Int.reduceLE, TES, pe_nest_step_eq, XRE, XR, XRS]
      refine Chk.mk ⟨h1, hn, by omega, by omega, by omega, by omega⟩ fun _ => ?_
      simp only [if_pos hi]
      cases hs : stepO l (upB l n 0).toNat n with
      | none =>
        refine ⟨fun h9 => (by cases h9), fun _ => ?_⟩
        simp only [Option.toList_none, List.append_nil]
        exact FinX.of ⟨[1], by decide, by simp only [entCtx, at_cons_zero, at_cons_succ, and_true, true_and]; exact soLe_same fun _ => rfl, by simp only [↓XC, XV, entry, isStr, tdOf, szOf, zeroOf, TD.isStruct, okCell, cellsOf, SO.isMap, SO.sz, SO.el, SO.n, SO.ro, mkCf, quietOp, opClass, okLeaf, spl, cellV, isU8T, isSlS, fillS, fillP, repl, SO.put, SV.mapH, frzV, frzVL, frzOk, frzOkL, lendOk, SV.bit, bitL, SV.plain, plainL, isE, mapHL, strip, stripL, gok, gokL, forall_const, implies_true, reduceIte, Nat.reduceAdd, Nat.reduceLT, Nat.reduceEqDiff, Nat.reduceBEq, Nat.reduceLeDiff, reduceCtorEq, Nat.reduceSub, Nat.reduceMul, Int.reduceToNat, Int.reduceLT, Int.reduceLE]; try simp [muL, SV.mapH, mapHL], by simp [newRw, SO.ro], by simp⟩
      | some s =>
        refine ⟨fun _ => ⟨litEl_ok rfl rfl, Chk.mk (by omega) fun _ => ?_⟩, fun h9 => (by cases h9)⟩
        simp only [Option.toList_some]
        exact FinX.of ⟨[4], by decide, by simp only [entCtx, at_cons_zero, at_cons_succ, and_true, true_and]; exact soLe_push (y := s) (fun _ => rfl) rfl (fun _ _ => rfl) rfl, by simp only [↓XC, XV, entry, isStr, tdOf, szOf, zeroOf, TD.isStruct, okCell, cellsOf, SO.isMap, SO.sz, SO.el, SO.n, SO.ro, mkCf, quietOp, opClass, okLeaf, spl, cellV, isU8T, isSlS, fillS, fillP, repl, SO.put, SV.mapH, frzV, frzVL, frzOk, frzOkL, lendOk, SV.bit, bitL, SV.plain, plainL, isE, mapHL, strip, stripL, gok, gokL, forall_const, implies_true, reduceIte, Nat.reduceAdd, Nat.reduceLT, Nat.reduceEqDiff, Nat.reduceBEq, Nat.reduceLeDiff, reduceCtorEq, Nat.reduceSub, Nat.reduceMul, Int.reduceToNat, Int.reduceLT, Int.reduceLE]; try simp [muL, SV.mapH, mapHL], by simp [newRw, SO.ro], by simp⟩
  · simp only [if_neg hi]
    refine Chk.mk ⟨h1, hul⟩ fun _ => ⟨fun h => ?_, fun h => by omega⟩
    exact ⟨_, Ent.nl (d := [some (.blk false [.fs 8 (l.map evc), .fs 1 ((endL l).map intc), .fs 1 ((upL l).map intc), .fs 1 ((docL l).map intc)])]) (env' := [(4, .slc 1 0 0)]) [(3, rowE segc sgz [])] (by simp [nlE, nlV, Vg.look]) (by simp [nlC, nlO, nlL, nlV]), ⟨[1], by decide, by simp only [entCtx, at_cons_zero, at_cons_succ, and_true, true_and]; exact soLe_same fun _ => rfl, by simp only [↓XC, XV, entry, isStr, tdOf, szOf, zeroOf, TD.isStruct, okCell, cellsOf, SO.isMap, SO.sz, SO.el, SO.n, SO.ro, mkCf, quietOp, opClass, okLeaf, spl, cellV, isU8T, isSlS, fillS, fillP, repl, SO.put, SV.mapH, frzV, frzVL, frzOk, frzOkL, lendOk, SV.bit, bitL, SV.plain, plainL, isE, mapHL, strip, stripL, gok, gokL, forall_const, implies_true, reduceIte, Nat.reduceAdd, Nat.reduceLT, Nat.reduceEqDiff, Nat.reduceBEq, Nat.reduceLeDiff, reduceCtorEq, Nat.reduceSub, Nat.reduceMul, Int.reduceToNat, Int.reduceLT, Int.reduceLE]; try simp [muL, SV.mapH, mapHL], by simp [newRw, SO.ro], by simp⟩⟩
theorem nest_pathOf_own (l : List Ev) (i : Int) (hp : l.length ≤ 1048576 ∧ nested l = true) : FnK Try.prog 62 0 [.agg [.fs 8 (l.map evc), .fs 1 ((endL l).map intc), .fs 1 ((upL l).map intc), .fs 1 ((docL l).map intc)], .i .i64 i] [] (fun z c => z = .slc 0 0 (if 0 ≤ i ∧ i < l.length then pathV l i.toNat else []).length ∧ c = [some (.row false 3 (if 0 ≤ i ∧ i < l.length then pathV l i.toNat else []).length (rowE segc sgz (if 0 ≤ i ∧ i < l.length then pathV l i.toNat else [])))]) := nest_pathOf_aux (i.toNat + 1) l i hp (Nat.lt_succ_self _)
theorem nest_pathOf (l : List Ev) (i : Int) (hp : l.length ≤ 1048576 ∧ nested l = true) : PF Try.prog 62 [.agg [.fs 8 (l.map evc), .fs 1 ((endL l).map intc), .fs 1 ((upL l).map intc), .fs 1 ((docL l).map intc)], .i .i64 i] (.fs 3 ((if 0 ≤ i ∧ i < l.length then pathV l i.toNat else []).map segc)) := PF.ofOwn (nest_pathOf_own l i hp) rfl rfl (by simp only [frzOk, frzOkL, frzV, frzVL, at_cons_zero, and_true]; exact ⟨⟨by omega, fun j hj => ⟨rfl, rfl⟩⟩, by rw [rowE_list rfl]⟩)
noncomputable def pe_nest_pathOf : PE := peR (fun (x : List Ev × Int) => match x with | (l, i) => [.agg [.fs 8 (l.map evc), .fs 1 ((endL l).map intc), .fs 1 ((upL l).map intc), .fs 1 ((docL l).map intc)], .i .i64 i]) (fun (x : List Ev × Int) => match x with | (l, i) => l.length ≤ 1048576 ∧ nested l = true) (fun (x : List Ev × Int) => match x with | (l, i) => .fs 3 ((if 0 ≤ i ∧ i < l.length then pathV l i.toNat else []).map segc))
theorem pe_nest_pathOf_eq {l : List Ev} {i : Int} : pe_nest_pathOf [.agg [.fs 8 (l.map evc), .fs 1 ((endL l).map intc), .fs 1 ((upL l).map intc), .fs 1 ((docL l).map intc)], .i .i64 i] = some (l.length ≤ 1048576 ∧ nested l = true, .fs 3 ((if 0 ≤ i ∧ i < l.length then pathV l i.toNat else []).map segc)) := peR_eq (by rintro ⟨a0, a1⟩ ⟨b0, b1⟩ h; simp_all [evc_inj, intc_inj]) (l, i)
theorem pe_nest_pathOf_ok : PE1 Try.prog 62 pe_nest_pathOf := peR_ok (by rintro ⟨l, i⟩ hp; exact nest_pathOf l i hp)
theorem PathOf_i_own (l : List Ev) (i : Int) (hp : l.length ≤ 1048576) : FnK Try.prog 32 0 [.fs 8 (l.map evc), .i .i64 i] [] (fun z c => z = .slc 0 0 (if nested l = true then (if 0 ≤ i ∧ i < l.length then pathV l i.toNat else []) else []).length ∧ c = [some (.row false 3 (if nested l = true then (if 0 ≤ i ∧ i < l.length then pathV l i.toNat else []) else []).length (rowE segc sgz (if nested l = true then (if 0 ≤ i ∧ i < l.length then pathV l i.toNat else []) else [])))]) := by
  refine FnK.ofX (cf := mkCf Try.prog te [(47, pe_Nested_i), (48, pe_nestOf)] 12 0 false (fun _ => false) (kp [(0, [0, 1]), (1, [0, 1, 7]), (2, [4]), (3, [4])]) [] []) (mkCf_ok te_ok (l := [(47, pe_Nested_i), (48, pe_nestOf)]) (⟨pe_Nested_i_ok, pe_nestOf_ok, trivial⟩) mixed_ok) Try.func32 rfl rfl rfl (by simp [mkCf]) (by simp [mkCf]) (rs := [.tmp 4]) rfl 100000 ?_
  simp only [↓XC, XV, entry, isStr, tdOf, szOf, zeroOf, TD.isStruct, okCell, cellsOf, SO.isMap, SO.sz, SO.el, SO.n, SO.ro, mkCf, quietOp, opClass, okLeaf, spl, cellV, isU8T, isSlS, fillS, fillP, repl, SO.put, SV.mapH, frzV, frzVL, frzOk, frzOkL, lendOk, SV.bit, bitL, SV.plain, plainL, isE, mapHL, strip, stripL, gok, gokL, forall_const, implies_true, reduceIte, Nat.reduceAdd, Nat.reduceLT, Nat.reduceEqDiff, Nat.reduceBEq, Nat.reduceLeDiff, reduceCtorEq, Nat.reduceSub, Nat.reduceMul, Int.reduceToNat, Int.reduceLT, Int.reduceLE, TES, pe_Nested_i_eq, pe_nestOf_eq, XRE, XR, XRS]
  refine Chk.mk hp fun _ => ⟨fun h => ?_, fun h => ?_⟩
  · rw [if_neg (by simp at h; simp [h])]
    exact ⟨_, Ent.nl (d := []) (env' := [(4, .slc 0 0 0)]) [(3, rowE segc sgz [])] (by simp [nlE, nlV, Vg.look]) (by simp [nlC]), ⟨[0], by decide, by simp only [entCtx, at_cons_zero, at_cons_succ, and_true, true_and]; exact soLe_same fun _ => rfl, by simp only [↓XC, XV, entry, isStr, tdOf, szOf, zeroOf, TD.isStruct, okCell, cellsOf, SO.isMap, SO.sz, SO.el, SO.n, SO.ro, mkCf, quietOp, opClass, okLeaf, spl, cellV, isU8T, isSlS, fillS, fillP, repl, SO.put, SV.mapH, frzV, frzVL, frzOk, frzOkL, lendOk, SV.bit, bitL, SV.plain, plainL, isE, mapHL, strip, stripL, gok, gokL, forall_const, implies_true, reduceIte, Nat.reduceAdd, Nat.reduceLT, Nat.reduceEqDiff, Nat.reduceBEq, Nat.reduceLeDiff, reduceCtorEq, Nat.reduceSub, Nat.reduceMul, Int.reduceToNat, Int.reduceLT, Int.reduceLE]; try simp [muL, SV.mapH, mapHL], by simp [newRw, SO.ro], by simp⟩⟩
  · have hn : nested l = true := by simpa using h
    rw [if_pos (c := nested l = true) hn]
    refine Chk.mk ⟨hp, hn⟩ fun _ => ?_
    refine XCalls.own (nest_pathOf_own l i ⟨hp, hn⟩) rfl ?_
    simp only [↓XC, XV, entry, isStr, tdOf, szOf, zeroOf, TD.isStruct, okCell, cellsOf, SO.isMap, SO.sz, SO.el, SO.n, SO.ro, mkCf, quietOp, opClass, okLeaf, spl, cellV, isU8T, isSlS, fillS, fillP, repl, SO.put, SV.mapH, frzV, frzVL, frzOk, frzOkL, lendOk, SV.bit, bitL, SV.plain, plainL, isE, mapHL, strip, stripL, gok, gokL, forall_const, implies_true, reduceIte, Nat.reduceAdd, Nat.reduceLT, Nat.reduceEqDiff, Nat.reduceBEq, Nat.reduceLeDiff, reduceCtorEq, Nat.reduceSub, Nat.reduceMul, Int.reduceToNat, Int.reduceLT, Int.reduceLE, TES, XRE, XR, XRS]
    exact FinX.of ⟨[0], by decide, by simp only [entCtx, at_cons_zero, at_cons_succ, and_true, true_and]; exact soLe_same fun _ => rfl, by simp only [↓XC, XV, entry, isStr, tdOf, szOf, zeroOf, TD.isStruct, okCell, cellsOf, SO.isMap, SO.sz, SO.el, SO.n, SO.ro, mkCf, quietOp, opClass, okLeaf, spl, cellV, isU8T, isSlS, fillS, fillP, repl, SO.put, SV.mapH, frzV, frzVL, frzOk, frzOkL, lendOk, SV.bit, bitL, SV.plain, plainL, isE, mapHL, strip, stripL, gok, gokL, forall_const, implies_true, reduceIte, Nat.reduceAdd, Nat.reduceLT, Nat.reduceEqDiff, Nat.reduceBEq, Nat.reduceLeDiff, reduceCtorEq, Nat.reduceSub, Nat.reduceMul, Int.reduceToNat, Int.reduceLT, Int.reduceLE]; try simp [muL, SV.mapH, mapHL], by simp [newRw, SO.ro], by simp⟩
theorem PathOf_i (l : List Ev) (i : Int) (hp : l.length ≤ 1048576) : PF Try.prog 32 [.fs 8 (l.map evc), .i .i64 i] (.fs 3 ((if nested l = true then (if 0 ≤ i ∧ i < l.length then pathV l i.toNat else []) else []).map segc)) := PF.ofOwn (PathOf_i_own l i hp) rfl rfl (by simp only [frzOk, frzOkL, frzV, frzVL, at_cons_zero, and_true]; exact ⟨⟨by omega, fun j hj => ⟨rfl, rfl⟩⟩, by rw [rowE_list rfl]⟩)
noncomputable def pe_PathOf_i : PE := peR (fun (x : List Ev × Int) => match x with | (l, i) => [.fs 8 (l.map evc), .i .i64 i]) (fun (x : List Ev × Int) => match x with | (l, i) => l.length ≤ 1048576) (fun (x : List Ev × Int) => match x with | (l, i) => .fs 3 ((if nested l = true then (if 0 ≤ i ∧ i < l.length then pathV l i.toNat else []) else []).map segc))
theorem pe_PathOf_i_eq {l : List Ev} {i : Int} : pe_PathOf_i [.fs 8 (l.map evc), .i .i64 i] = some (l.length ≤ 1048576, .fs 3 ((if nested l = true then (if 0 ≤ i ∧ i < l.length then pathV l i.toNat else []) else []).map segc)) := peR_eq (by rintro ⟨a0, a1⟩ ⟨b0, b1⟩ h; simp_all [evc_inj]) (l, i)
theorem pe_PathOf_i_ok : PE1 Try.prog 32 pe_PathOf_i := peR_ok (by rintro ⟨l, i⟩ hp; exact PathOf_i l i hp)
theorem l17Path_aux : ∀ (bound : Nat) (l : List Ev) (i : Int), (l.length ≤ 1048576 ∧ nested l = true ∧ 0 ≤ i ∧ i < l.length) → i.toNat < bound → FnK Try.prog 61 0 [.fs 8 (l.map evc), .i .i64 i] [] (fun z c => z = .slc 0 0 (pathV l i.toNat).length ∧ c = [some (.row false 3 (pathV l i.toNat).length (rowE segc sgz (pathV l i.toNat)))]) := by
  intro bound
  induction bound with
  | zero => intro l i _ h; exact absurd h (Nat.not_lt_zero _)
  | succ bound ih =>
  intro l i hp hm
  refine FnK.ofE (cf := mkCf Try.prog te [(92, pe_l13Up), (85, pe_l13End), (59, pe_l13Kids), (52, pe_l17Key)] 78 0 false (fun _ => false) (kp [(0, [0, 1]), (1, [0, 1, 5]), (2, [0, 1, 5, 13]), (3, [4]), (4, [0, 1, 5, 6]), (5, [0, 1, 5, 6, 22]), (6, [4]), (7, [0, 1, 5, 6, 7]), (8, [0, 1, 5, 6, 7, 8]), (9, [0, 1, 5, 6, 7, 8, 39]), (10, [0, 1, 5, 6, 7, 8]), (11, [0, 5, 6, 7, 8, 43]), (12, [4]), (13, [0, 6, 7, 8, 45]), (14, [4]), (15, [0, 6, 7, 8, 57]), (16, [4]), (17, [4])]) [] []) (mkCf_ok te_ok (l := [(92, pe_l13Up), (85, pe_l13End), (59, pe_l13Kids), (52, pe_l17Key)]) (⟨pe_l13Up_ok, pe_l13End_ok, pe_l13Kids_ok, pe_l17Key_ok, trivial⟩) mixed_ok) Try.func61 rfl rfl rfl (by simp [mkCf]) (by simp [mkCf]) (rs := [.tmp 4]) rfl 100000 ?_
  simp only [↓XC, XV, entry, isStr, tdOf, szOf, zeroOf, TD.isStruct, okCell, cellsOf, SO.isMap, SO.sz, SO.el, SO.n, SO.ro, mkCf, quietOp, opClass, okLeaf, spl, cellV, isU8T, isSlS, fillS, fillP, repl, SO.put, SV.mapH, frzV, frzVL, frzOk, frzOkL, lendOk, SV.bit, bitL, SV.plain, plainL, isE, mapHL, strip, stripL, gok, gokL, forall_const, implies_true, reduceIte, Nat.reduceAdd, Nat.reduceLT, Nat.reduceEqDiff, Nat.reduceBEq, Nat.reduceLeDiff, reduceCtorEq, Nat.reduceSub, Nat.reduceMul, Int.reduceToNat, Int.reduceLT, Int.reduceLE, TES, pe_l13Up_eq, pe_l13End_eq, pe_l13Kids_eq, pe_l17Key_eq, XRE, XR, XRS]
  obtain ⟨h1, hn, h0, hl⟩ := hp
  obtain ⟨n, rfl⟩ := Int.eq_ofNat_of_zero_le h0
  simp only [Int.toNat_natCast] at hm ⊢
  have hlt := upB_lt (l := l) n 0
  refine Chk.mk (by omega) fun _ => ⟨fun h => ?_, fun h => ?_⟩
  · rw [pathV_none h]
    exact ⟨[0], by decide, by simp only [entCtx, at_cons_zero, at_cons_succ, and_true, true_and]; exact soLe_nil, by simp only [↓XC, XV, entry, isStr, tdOf, szOf, zeroOf, TD.isStruct, okCell, cellsOf, SO.isMap, SO.sz, SO.el, SO.n, SO.ro, mkCf, quietOp, opClass, okLeaf, spl, cellV, isU8T, isSlS, fillS, fillP, repl, SO.put, SV.mapH, frzV, frzVL, frzOk, frzOkL, lendOk, SV.bit, bitL, SV.plain, plainL, isE, mapHL, strip, stripL, gok, gokL, forall_const, implies_true, reduceIte, Nat.reduceAdd, Nat.reduceLT, Nat.reduceEqDiff, Nat.reduceBEq, Nat.reduceLeDiff, reduceCtorEq, Nat.reduceSub, Nat.reduceMul, Int.reduceToNat, Int.reduceLT, Int.reduceLE]; try simp [muL, SV.mapH, mapHL], by simp [newRw, SO.ro], by simp⟩
  · have hI := ih l (upB l n 0) ⟨h1, hn, by omega, by omega⟩ (by omega)
    have hPl := pathV_len (l := l) _ (upB l n 0).toNat (Nat.le_refl _)
    have hpv := pathV_some h
    have hcc := upB_coll (l := l) n 0 (by omega)
    obtain ⟨u, hu⟩ := Int.eq_ofNat_of_zero_le (show 0 ≤ upB l n 0 by omega)
    rw [hu] at hI hPl hpv hlt hcc h
    simp only [hu]
    simp only [Int.toNat_natCast] at hI hPl hpv hcc
    have hei := end_iff hn (i := n) (u := u) (by omega) hu
    have hnode : isNode (l.getD u evz).kind = true := by unfold isNode; rw [hcc]; rfl
    have hkl := kidsV_len (l := l) u
    have hkh := kidsV_head (l := l) (u := u) (i := n) (by omega)
    generalize pathV l u = P at *
    refine XCalls.own hI rfl ?_
    simp only [↓XC, XV, entry, isStr, tdOf, szOf, zeroOf, TD.isStruct, okCell, cellsOf, SO.isMap, SO.sz, SO.el, SO.n, SO.ro, mkCf, quietOp, opClass, okLeaf, spl, cellV, isU8T, isSlS, fillS, fillP, repl, SO.put, SV.mapH, frzV, frzVL, frzOk, frzOkL, lendOk, SV.bit, bitL, SV.plain, plainL, isE, mapHL, strip, stripL, gok, gokL, forall_const, implies_true, reduceIte, Nat.reduceAdd, Nat.reduceLT, Nat.reduceEqDiff, Nat.reduceBEq, Nat.reduceLeDiff, reduceCtorEq, Nat.reduceSub, Nat.reduceMul, Int.reduceToNat, Int.reduceLT, Int.reduceLE, TES, pe_l13End_eq, pe_l13Kids_eq, XRE, XR, XRS, Int.toNat_natCast, hnode]
    refine Chk.mk (by omega) fun _ => ⟨fun h7 => ?_, fun h7 => Chk.mk (by omega) fun _ => Chk.mk (by simp only [inR]; omega) fun _ => ?_⟩
    · have e : stepO l u n = none := by unfold stepO; rw [if_pos (hei.1 h7)]
      rw [e] at hpv
      simp only [Option.toList_none, List.append_nil] at hpv
      rw [hpv]
      exact ⟨[0], by decide, by simp only [entCtx, at_cons_zero, at_cons_succ, and_true, true_and]; exact soLe_same fun _ => rfl, by simp only [↓XC, XV, entry, isStr, tdOf, szOf, zeroOf, TD.isStruct, okCell, cellsOf, SO.isMap, SO.sz, SO.el, SO.n, SO.ro, mkCf, quietOp, opClass, okLeaf, spl, cellV, isU8T, isSlS, fillS, fillP, repl, SO.put, SV.mapH, frzV, frzVL, frzOk, frzOkL, lendOk, SV.bit, bitL, SV.plain, plainL, isE, mapHL, strip, stripL, gok, gokL, forall_const, implies_true, reduceIte, Nat.reduceAdd, Nat.reduceLT, Nat.reduceEqDiff, Nat.reduceBEq, Nat.reduceLeDiff, reduceCtorEq, Nat.reduceSub, Nat.reduceMul, Int.reduceToNat, Int.reduceLT, Int.reduceLE]; try simp [muL, SV.mapH, mapHL], by simp [newRw, SO.ro], by simp⟩
    have e : stepO l u n = if lastS (kidsV l u) n (kidsV l u).length < 0 then none else some (stepK l u (lastS (kidsV l u) n (kidsV l u).length)) := by unfold stepO; rw [if_neg (fun h9 => h7 (hei.2 h9)), last_same hkh]
    refine VLoops.of (ι := {x : Nat // x ≤ (kidsV l u).length ∧ lastS (kidsV l u) n x = lastS (kidsV l u) n (kidsV l u).length ∧ (x = 0 → (kidsV l u).length = 0)}) (fun x => ⟨[(0, .fs 8 (l.map evc)), (1, .i .i64 (n : Nat)), (5, .i .i64 (u : Nat)), (6, .slc 0 0 P.length), (7, .fs 1 ((kidsV l u).map intc)), (8, .i .i64 ((x.1 : Nat) - 1 : Int))], [some (.row false 3 P.length (rowE segc sgz P))]⟩) (fun x => x.1) ⟨(kidsV l u).length, Nat.le_refl _, rfl, id⟩ (Ent.refl _ _) ?_
    rintro ⟨k, hk, hd, hz⟩
    simp only [↓XC, XV, entry, isStr, tdOf, szOf, zeroOf, TD.isStruct, okCell, cellsOf, SO.isMap, SO.sz, SO.el, SO.n, SO.ro, mkCf, quietOp, opClass, okLeaf, spl, cellV, isU8T, isSlS, fillS, fillP, repl, SO.put, SV.mapH, frzV, frzVL, frzOk, frzOkL, lendOk, SV.bit, bitL, SV.plain, plainL, isE, mapHL, strip, stripL, gok, gokL, forall_const, implies_true, reduceIte, Nat.reduceAdd, Nat.reduceLT, Nat.reduceEqDiff, Nat.reduceBEq, Nat.reduceLeDiff, reduceCtorEq, Nat.reduceSub, Nat.reduceMul, Int.reduceToNat, Int.reduceLT, Int.reduceLE, TES, pe_l17Key_eq, XRE, XR, XRS, Int.toNat_natCast]
    rcases k with _ | k
    · refine Chk.mk (fun h => by omega) fun _ => ⟨fun h => by simp at h, fun _ => ⟨fun _ => ?_, fun h => by omega⟩⟩
      rw [← hd, if_pos (by simp [lastS])] at e
      rw [e] at hpv
      simp only [Option.toList_none, List.append_nil] at hpv
      rw [hpv]
      exact ⟨[0], by decide, by simp only [entCtx, at_cons_zero, at_cons_succ, and_true, true_and]; exact soLe_same fun _ => rfl, by simp only [↓XC, XV, entry, isStr, tdOf, szOf, zeroOf, TD.isStruct, okCell, cellsOf, SO.isMap, SO.sz, SO.el, SO.n, SO.ro, mkCf, quietOp, opClass, okLeaf, spl, cellV, isU8T, isSlS, fillS, fillP, repl, SO.put, SV.mapH, frzV, frzVL, frzOk, frzOkL, lendOk, SV.bit, bitL, SV.plain, plainL, isE, mapHL, strip, stripL, gok, gokL, forall_const, implies_true, reduceIte, Nat.reduceAdd, Nat.reduceLT, Nat.reduceEqDiff, Nat.reduceBEq, Nat.reduceLeDiff, reduceCtorEq, Nat.reduceSub, Nat.reduceMul, Int.reduceToNat, Int.reduceLT, Int.reduceLE]; try simp [muL, SV.mapH, mapHL], by simp [newRw, SO.ro], by simp⟩
    simp only [show ((k + 1 : Nat) : Int) - 1 = (k : Int) by omega, Int.toNat_natCast]
    refine Chk.mk (fun _ => by omega) fun _ => ⟨fun h => ?_, fun h => ⟨fun h9 => by omega, fun _ => Chk.mk (by omega) fun _ => ?_⟩⟩
    · simp only [Bool.or_eq_true, Bool.and_eq_true, Bool.or_eq_false_iff, Bool.and_eq_false_iff, decide_eq_true_eq, decide_eq_false_iff_not, Bool.not_eq_true', Bool.not_eq_false', beq_iff_eq, beq_eq_false_iff_ne, ne_eq, ge_iff_le, gt_iff_lt, Int.not_le, Int.not_lt, Int.ofNat_le, Int.ofNat_lt] at h
      rw [lastS_go (by omega)] at hd
      exact Chk.mk (by simp only [inR]; omega) fun _ => ⟨⟨k, by omega, hd, fun h0 => by omega⟩, by simp only; omega, Ent.refl _ _⟩
    · simp only [Bool.or_eq_true, Bool.and_eq_true, Bool.or_eq_false_iff, Bool.and_eq_false_iff, decide_eq_true_eq, decide_eq_false_iff_not, Bool.not_eq_true', Bool.not_eq_false', beq_iff_eq, beq_eq_false_iff_ne, ne_eq, ge_iff_le, gt_iff_lt, Int.not_le, Int.not_lt, Int.ofNat_le, Int.ofNat_lt] at h
      rw [lastS_stop (by omega)] at hd
      rw [← hd, if_neg (by omega)] at e
      rw [e] at hpv
      simp only [Option.toList_some, stepK] at hpv
      refine ⟨fun h3 => ⟨litEl_ok rfl rfl, Chk.mk (by omega) fun _ => ?_⟩, fun h3 => Chk.mk (by decide) fun _ => ⟨fun h2 => ⟨by decide, Chk.mk (by rw [show (k : Int).tdiv 2 = ((k / 2 : Nat) : Int) from tdiv_nat k 2]; simp only [inR]; omega) fun _ => ⟨litEl_ok rfl rfl, Chk.mk (by omega) fun _ => ?_⟩⟩, fun h2 => ?_⟩⟩
      · rw [if_pos h3] at hpv
        rw [hpv]
        exact ⟨[2], by decide, by simp only [entCtx, at_cons_zero, at_cons_succ, and_true, true_and]; exact soLe_push (enc := segc) (y := (⟨1, (k : Int), []⟩ : Sg)) (fun _ => rfl) rfl (fun _ _ => rfl) rfl, by simp only [↓XC, XV, entry, isStr, tdOf, szOf, zeroOf, TD.isStruct, okCell, cellsOf, SO.isMap, SO.sz, SO.el, SO.n, SO.ro, mkCf, quietOp, opClass, okLeaf, spl, cellV, isU8T, isSlS, fillS, fillP, repl, SO.put, SV.mapH, frzV, frzVL, frzOk, frzOkL, lendOk, SV.bit, bitL, SV.plain, plainL, isE, mapHL, strip, stripL, gok, gokL, forall_const, implies_true, reduceIte, Nat.reduceAdd, Nat.reduceLT, Nat.reduceEqDiff, Nat.reduceBEq, Nat.reduceLeDiff, reduceCtorEq, Nat.reduceSub, Nat.reduceMul, Int.reduceToNat, Int.reduceLT, Int.reduceLE]; try simp [muL, SV.mapH, mapHL], by simp [newRw, SO.ro], by simp⟩
      · rw [if_neg h3, if_pos h2] at hpv
        rw [hpv]
        exact ⟨[2], by decide, by simp only [entCtx, at_cons_zero, at_cons_succ, and_true, true_and]; exact soLe_push (enc := segc) (y := (⟨3, (k : Int).tdiv 2, []⟩ : Sg)) (fun _ => rfl) rfl (fun _ _ => rfl) rfl, by simp only [↓XC, XV, entry, isStr, tdOf, szOf, zeroOf, TD.isStruct, okCell, cellsOf, SO.isMap, SO.sz, SO.el, SO.n, SO.ro, mkCf, quietOp, opClass, okLeaf, spl, cellV, isU8T, isSlS, fillS, fillP, repl, SO.put, SV.mapH, frzV, frzVL, frzOk, frzOkL, lendOk, SV.bit, bitL, SV.plain, plainL, isE, mapHL, strip, stripL, gok, gokL, forall_const, implies_true, reduceIte, Nat.reduceAdd, Nat.reduceLT, Nat.reduceEqDiff, Nat.reduceBEq, Nat.reduceLeDiff, reduceCtorEq, Nat.reduceSub, Nat.reduceMul, Int.reduceToNat, Int.reduceLT, Int.reduceLE]; try simp [muL, SV.mapH, mapHL], by simp [newRw, SO.ro], by simp⟩
      · rw [if_neg h3, if_neg h2] at hpv
        have hk1 : 1 ≤ k := by
          rcases Nat.eq_zero_or_pos k with h0 | h0
          · subst h0; exact absurd (by decide) h2
          · exact h0
        have hkg := kidsV_get (l := l) (u := u) (j := ((k : Int) - 1).toNat) (by omega)
        rw [hpv]
        exact Chk.mk (by simp only [inR]; omega) fun _ => Chk.mk (by omega) fun _ => Chk.mk ⟨h1, hkg⟩ fun _ => ⟨litEl_ok rfl rfl, Chk.mk (by omega) fun _ => ⟨[2], by decide, by simp only [entCtx, at_cons_zero, at_cons_succ, and_true, true_and]; exact soLe_push (enc := segc) (y := (⟨2, 0, keyV l ((kidsV l u).getD ((k : Int) - 1).toNat 0).toNat⟩ : Sg)) (fun _ => rfl) rfl (fun _ _ => rfl) rfl, by simp only [↓XC, XV, entry, isStr, tdOf, szOf, zeroOf, TD.isStruct, okCell, cellsOf, SO.isMap, SO.sz, SO.el, SO.n, SO.ro, mkCf, quietOp, opClass, okLeaf, spl, cellV, isU8T, isSlS, fillS, fillP, repl, SO.put, SV.mapH, frzV, frzVL, frzOk, frzOkL, lendOk, SV.bit, bitL, SV.plain, plainL, isE, mapHL, strip, stripL, gok, gokL, forall_const, implies_true, reduceIte, Nat.reduceAdd, Nat.reduceLT, Nat.reduceEqDiff, Nat.reduceBEq, Nat.reduceLeDiff, reduceCtorEq, Nat.reduceSub, Nat.reduceMul, Int.reduceToNat, Int.reduceLT, Int.reduceLE]; try simp [muL, SV.mapH, mapHL], by simp [newRw, SO.ro], by simp⟩⟩

theorem l17Path_own (l : List Ev) (i : Int) (hp : l.length ≤ 1048576 ∧ nested l = true ∧ 0 ≤ i ∧ i < l.length) : FnK Try.prog 61 0 [.fs 8 (l.map evc), .i .i64 i] [] (fun z c => z = .slc 0 0 (pathV l i.toNat).length ∧ c = [some (.row false 3 (pathV l i.toNat).length (rowE segc sgz (pathV l i.toNat)))]) := l17Path_aux (i.toNat + 1) l i hp (Nat.lt_succ_self _)
theorem l17Path (l : List Ev) (i : Int) (hp : l.length ≤ 1048576 ∧ nested l = true ∧ 0 ≤ i ∧ i < l.length) : PF Try.prog 61 [.fs 8 (l.map evc), .i .i64 i] (.fs 3 ((pathV l i.toNat).map segc)) := PF.ofOwn (l17Path_own l i hp) rfl rfl (by simp only [frzOk, frzOkL, frzV, frzVL, at_cons_zero, and_true]; exact ⟨⟨by omega, fun j hj => ⟨rfl, rfl⟩⟩, by rw [rowE_list rfl]⟩)
noncomputable def pe_l17Path : PE := peR (fun (x : List Ev × Int) => match x with | (l, i) => [.fs 8 (l.map evc), .i .i64 i]) (fun (x : List Ev × Int) => match x with | (l, i) => l.length ≤ 1048576 ∧ nested l = true ∧ 0 ≤ i ∧ i < l.length) (fun (x : List Ev × Int) => match x with | (l, i) => .fs 3 ((pathV l i.toNat).map segc))
theorem pe_l17Path_eq {l : List Ev} {i : Int} : pe_l17Path [.fs 8 (l.map evc), .i .i64 i] = some (l.length ≤ 1048576 ∧ nested l = true ∧ 0 ≤ i ∧ i < l.length, .fs 3 ((pathV l i.toNat).map segc)) := peR_eq (by rintro ⟨a0, a1⟩ ⟨b0, b1⟩ h; simp_all [evc_inj]) (l, i)
theorem pe_l17Path_ok : PE1 Try.prog 61 pe_l17Path := peR_ok (by rintro ⟨l, i⟩ hp; exact l17Path l i hp)
theorem PathOf_s_own (l : List Ev) (i : Int) (hp : l.length ≤ 1048576 ∧ evW l ≤ 1048576) : FnK Try.prog 31 0 [.fs 8 (l.map evc), .i .i64 i] [] (fun z c => z = .slc 0 0 (if nested l = true then (if 0 ≤ i ∧ i < l.length then pathV l i.toNat else []) else []).length ∧ c = [some (.row false 3 (if nested l = true then (if 0 ≤ i ∧ i < l.length then pathV l i.toNat else []) else []).length (rowE segc sgz (if nested l = true then (if 0 ≤ i ∧ i < l.length then pathV l i.toNat else []) else [])))]) := by
  refine FnK.ofX (cf := mkCf Try.prog te [(44, pe_Nested_s)] 21 0 false (fun _ => false) (kp [(0, [0, 1]), (1, [0, 1, 17]), (2, [4]), (3, [4])]) [] []) (mkCf_ok te_ok (l := [(44, pe_Nested_s)]) (⟨pe_Nested_s_ok, trivial⟩) mixed_ok) Try.func31 rfl rfl rfl (by simp [mkCf]) (by simp [mkCf]) (rs := [.tmp 4]) rfl 100000 ?_
  simp only [↓XC, XV, entry, isStr, tdOf, szOf, zeroOf, TD.isStruct, okCell, cellsOf, SO.isMap, SO.sz, SO.el, SO.n, SO.ro, mkCf, quietOp, opClass, okLeaf, spl, cellV, isU8T, isSlS, fillS, fillP, repl, SO.put, SV.mapH, frzV, frzVL, frzOk, frzOkL, lendOk, SV.bit, bitL, SV.plain, plainL, isE, mapHL, strip, stripL, gok, gokL, forall_const, implies_true, reduceIte, Nat.reduceAdd, Nat.reduceLT, Nat.reduceEqDiff, Nat.reduceBEq, Nat.reduceLeDiff, reduceCtorEq, Nat.reduceSub, Nat.reduceMul, Int.reduceToNat, Int.reduceLT, Int.reduceLE, TES, pe_Nested_s_eq, XRE, XR, XRS]
  refine Chk.mk hp fun _ => ⟨fun h => ?_, fun h => ?_⟩
  · have e : (if nested l = true then (if 0 ≤ i ∧ i < l.length then pathV l i.toNat else []) else []) = [] := by
      simp only [Bool.or_eq_true, Bool.and_eq_true, Bool.or_eq_false_iff, Bool.and_eq_false_iff, decide_eq_true_eq, decide_eq_false_iff_not, Bool.not_eq_true', Bool.not_eq_false', beq_iff_eq, beq_eq_false_iff_ne, ne_eq, ge_iff_le, gt_iff_lt, Int.not_le, Int.not_lt, Int.ofNat_le, Int.ofNat_lt] at h
      split
      · rename_i h9
        rw [if_neg]
        intro h2
        rcases h with (h | h) | h
        · rw [h9] at h; cases h
        · omega
        · omega
      · rfl
    rw [e]
    exact ⟨_, Ent.nl (d := []) (env' := [(4, .slc 0 0 0)]) [(3, rowE segc sgz [])] (by simp [nlE, nlV, Vg.look]) (by simp [nlC]), ⟨[0], by decide, by simp only [entCtx, at_cons_zero, at_cons_succ, and_true, true_and]; exact soLe_same fun _ => rfl, by simp only [↓XC, XV, entry, isStr, tdOf, szOf, zeroOf, TD.isStruct, okCell, cellsOf, SO.isMap, SO.sz, SO.el, SO.n, SO.ro, mkCf, quietOp, opClass, okLeaf, spl, cellV, isU8T, isSlS, fillS, fillP, repl, SO.put, SV.mapH, frzV, frzVL, frzOk, frzOkL, lendOk, SV.bit, bitL, SV.plain, plainL, isE, mapHL, strip, stripL, gok, gokL, forall_const, implies_true, reduceIte, Nat.reduceAdd, Nat.reduceLT, Nat.reduceEqDiff, Nat.reduceBEq, Nat.reduceLeDiff, reduceCtorEq, Nat.reduceSub, Nat.reduceMul, Int.reduceToNat, Int.reduceLT, Int.reduceLE]; try simp [muL, SV.mapH, mapHL], by simp [newRw, SO.ro], by simp⟩⟩
  · simp only [Bool.or_eq_true, Bool.and_eq_true, Bool.or_eq_false_iff, Bool.and_eq_false_iff, decide_eq_true_eq, decide_eq_false_iff_not, Bool.not_eq_true', Bool.not_eq_false', beq_iff_eq, beq_eq_false_iff_ne, ne_eq, ge_iff_le, gt_iff_lt, Int.not_le, Int.not_lt, Int.ofNat_le, Int.ofNat_lt] at h
    rw [if_pos (c := nested l = true) h.1.1, if_pos ⟨by omega, by omega⟩]
    refine XCalls.own (l17Path_own l i ⟨hp.1, h.1.1, by omega, by omega⟩) rfl ?_
    simp only [↓XC, XV, entry, isStr, tdOf, szOf, zeroOf, TD.isStruct, okCell, cellsOf, SO.isMap, SO.sz, SO.el, SO.n, SO.ro, mkCf, quietOp, opClass, okLeaf, spl, cellV, isU8T, isSlS, fillS, fillP, repl, SO.put, SV.mapH, frzV, frzVL, frzOk, frzOkL, lendOk, SV.bit, bitL, SV.plain, plainL, isE, mapHL, strip, stripL, gok, gokL, forall_const, implies_true, reduceIte, Nat.reduceAdd, Nat.reduceLT, Nat.reduceEqDiff, Nat.reduceBEq, Nat.reduceLeDiff, reduceCtorEq, Nat.reduceSub, Nat.reduceMul, Int.reduceToNat, Int.reduceLT, Int.reduceLE, TES, XRE, XR, XRS]
    exact FinX.of ⟨[0], by decide, by simp only [entCtx, at_cons_zero, at_cons_succ, and_true, true_and]; exact soLe_same fun _ => rfl, by simp only [↓XC, XV, entry, isStr, tdOf, szOf, zeroOf, TD.isStruct, okCell, cellsOf, SO.isMap, SO.sz, SO.el, SO.n, SO.ro, mkCf, quietOp, opClass, okLeaf, spl, cellV, isU8T, isSlS, fillS, fillP, repl, SO.put, SV.mapH, frzV, frzVL, frzOk, frzOkL, lendOk, SV.bit, bitL, SV.plain, plainL, isE, mapHL, strip, stripL, gok, gokL, forall_const, implies_true, reduceIte, Nat.reduceAdd, Nat.reduceLT, Nat.reduceEqDiff, Nat.reduceBEq, Nat.reduceLeDiff, reduceCtorEq, Nat.reduceSub, Nat.reduceMul, Int.reduceToNat, Int.reduceLT, Int.reduceLE]; try simp [muL, SV.mapH, mapHL], by simp [newRw, SO.ro], by simp⟩
theorem PathOf_s (l : List Ev) (i : Int) (hp : l.length ≤ 1048576 ∧ evW l ≤ 1048576) : PF Try.prog 31 [.fs 8 (l.map evc), .i .i64 i] (.fs 3 ((if nested l = true then (if 0 ≤ i ∧ i < l.length then pathV l i.toNat else []) else []).map segc)) := PF.ofOwn (PathOf_s_own l i hp) rfl rfl (by simp only [frzOk, frzOkL, frzV, frzVL, at_cons_zero, and_true]; exact ⟨⟨by omega, fun j hj => ⟨rfl, rfl⟩⟩, by rw [rowE_list rfl]⟩)
noncomputable def pe_PathOf_s : PE := peR (fun (x : List Ev × Int) => match x with | (l, i) => [.fs 8 (l.map evc), .i .i64 i]) (fun (x : List Ev × Int) => match x with | (l, i) => l.length ≤ 1048576 ∧ evW l ≤ 1048576) (fun (x : List Ev × Int) => match x with | (l, i) => .fs 3 ((if nested l = true then (if 0 ≤ i ∧ i < l.length then pathV l i.toNat else []) else []).map segc))
theorem pe_PathOf_s_eq {l : List Ev} {i : Int} : pe_PathOf_s [.fs 8 (l.map evc), .i .i64 i] = some (l.length ≤ 1048576 ∧ evW l ≤ 1048576, .fs 3 ((if nested l = true then (if 0 ≤ i ∧ i < l.length then pathV l i.toNat else []) else []).map segc)) := peR_eq (by rintro ⟨a0, a1⟩ ⟨b0, b1⟩ h; simp_all [evc_inj]) (l, i)
theorem pe_PathOf_s_ok : PE1 Try.prog 31 pe_PathOf_s := peR_ok (by rintro ⟨l, i⟩ hp; exact PathOf_s l i hp)
end Go.T51
