/- Own text: part DefA. -/
import Derived.Test.YtjphhddbkjdbnaaTypes2
import Derived.Test.YtjphhddbkjdbnaaEventA
import Derived.Test.YtjphhddbkjdbnaaEventB
import Derived.Test.YtjphhddbkjdbnaaNestA
import Derived.Test.YtjphhddbkjdbnaaNestB
import Derived.Test.YtjphhddbkjdbnaaTreeA
import Derived.Test.YtjphhddbkjdbnaaTreeB
import Derived.Test.YtjphhddbkjdbnaaBaseE
import Derived.Test.YtjphhddbkjdbnaaPlX
namespace Go.T40
open Go.Proofs Go.Vg Go.RowKit Go.TT Go.Pl Go.T8 Go.T12 Go.T13 Go.T14 Go.T15 Go.T18 Go.T19
set_option linter.unusedVariables false
set_option linter.unusedSimpArgs false
set_option maxRecDepth 10000
set_option maxHeartbeats 4000000
theorem l13End (l : List Ev) (i : Int) (hp : l.length ≤ 1048576 ∧ 0 ≤ i ∧ i < l.length) : PF Try.prog 85 [.fs 8 (l.map evc), .i .i64 i] (.i .i64 (if Pl.isNode (l.getD i.toNat evz).kind then scB l i.toNat 0 else -1)) := by
  refine ⟨rfl, rfl, FnK.of (cf := mkCf Try.prog te [(54, pe_isNode_s), (58, pe_isColl_s)] 38 0 false (fun _ => false) (kp [(0, [0, 1]), (1, [0, 1, 12]), (2, [4]), (3, [0, 1, 5]), (4, [0, 5, 6]), (5, [0, 5, 6, 17]), (6, [0, 5, 6]), (7, [0, 5, 6, 24]), (8, [0, 5, 6]), (9, [0, 5, 6, 32]), (10, [0, 5, 6]), (11, [0, 5, 6, 36]), (12, [4]), (13, [4])]) [] []) (mkCf_ok te_ok (l := [(54, pe_isNode_s), (58, pe_isColl_s)]) (⟨pe_isNode_s_ok, pe_isColl_s_ok, trivial⟩) mixed_ok) Try.func85 rfl rfl rfl (by simp [mkCf]) (by simp [mkCf]) (rs := [.tmp 4]) rfl 100000 ?_⟩
  simp only [↓XC, XV, entry, isStr, tdOf, szOf, zeroOf, TD.isStruct, okCell, cellsOf, SO.isMap, SO.sz, SO.el, SO.n, SO.ro, mkCf, quietOp, opClass, okLeaf, spl, cellV, isU8T, isSlS, fillS, fillP, repl, SO.put, SV.mapH, frzV, frzVL, frzOk, frzOkL, lendOk, SV.bit, bitL, SV.plain, plainL, isE, mapHL, strip, stripL, gok, gokL, forall_const, implies_true, reduceIte, Nat.reduceAdd, Nat.reduceLT, Nat.reduceEqDiff, Nat.reduceBEq, Nat.reduceLeDiff, reduceCtorEq, Nat.reduceSub, Nat.reduceMul, Int.reduceToNat, Int.reduceLT, Int.reduceLE, TES, pe_isNode_s_eq, pe_isColl_s_eq, XRE, XR]
  refine Chk.mk (by omega) fun _ => ⟨fun h => ?_, fun h => ?_⟩
  · rw [if_neg (fun h1 => by rw [h1] at h; cases h)]
  have hnd : Pl.isNode (l.getD i.toNat evz).kind = true := by simpa using h
  rw [if_pos hnd]
  refine VLoops.of (ι := {x : Nat × Nat // i.toNat ≤ x.1 ∧ x.1 ≤ l.length ∧ (x.2 = 0 → x.1 = i.toNat) ∧ x.2 ≤ x.1 ∧ scB l x.1 x.2 = scB l i.toNat 0}) (fun x => ⟨[(0, .fs 8 (l.map evc)), (5, .i .i64 (x.1.2 : Nat)), (6, .i .i64 (x.1.1 : Nat))], []⟩) (fun x => l.length - x.1.1) ⟨(i.toNat, 0), Nat.le_refl _, by simp only; omega, fun _ => rfl, Nat.zero_le _, rfl⟩ (by simp only [show ((i.toNat : Nat) : Int) = i by omega]; exact Ent.refl _ _) ?_
  rintro ⟨⟨k, c⟩, hk, hkl, hc0, hck, hu⟩
  simp only [↓XC, XV, entry, isStr, tdOf, szOf, zeroOf, TD.isStruct, okCell, cellsOf, SO.isMap, SO.sz, SO.el, SO.n, SO.ro, mkCf, quietOp, opClass, okLeaf, spl, cellV, isU8T, isSlS, fillS, fillP, repl, SO.put, SV.mapH, frzV, frzVL, frzOk, frzOkL, lendOk, SV.bit, bitL, SV.plain, plainL, isE, mapHL, strip, stripL, gok, gokL, forall_const, implies_true, reduceIte, Nat.reduceAdd, Nat.reduceLT, Nat.reduceEqDiff, Nat.reduceBEq, Nat.reduceLeDiff, reduceCtorEq, Nat.reduceSub, Nat.reduceMul, Int.reduceToNat, Int.reduceLT, Int.reduceLE, TES, pe_isColl_s_eq, XRE]
  simp only at hk hkl hc0 hck hu
  refine ⟨fun hlt => Chk.mk (by omega) fun _ => ?_, fun hlt => by rw [← hu, scB_ge (by omega)]⟩
  rw [scB_lt (by omega)] at hu
  refine ⟨fun hcl => Chk.mk (by simp only [inR]; omega) fun _ => Chk.mk (by omega) fun _ => ?_, fun hcl => Chk.mk (by omega) fun _ => ?_⟩
  · have h7 : (l.getD k evz).kind ≠ 7 := fun h => by rw [h] at hcl; cases hcl
    have hcn : cnE (l.getD k evz).kind c = c + 1 := by unfold cnE; rw [if_pos hcl]
    rw [hcn, if_neg (by omega)] at hu
    refine ⟨fun h => absurd h h7, fun _ => ⟨fun h => by omega, fun _ => Chk.mk (by simp only [inR]; omega) fun _ => ⟨⟨(k + 1, c + 1), by simp only; omega, by simp only; omega, by simp only; omega, by simp only; omega, hu⟩, by simp only; omega, ?_⟩⟩⟩
    simp only [Int.natCast_add, Int.natCast_one]
    exact Ent.refl _ _
  · have hcf : ¬ isColl (l.getD k evz).kind = true := by rw [hcl]; simp
    refine ⟨fun h7 => ?_, fun h7 => ?_⟩
    · have hcn : cnE (l.getD k evz).kind c = c - 1 := by unfold cnE; rw [if_neg hcf, if_pos h7]
      have hc1 : c ≠ 0 := fun h0 => by
        have := hc0 h0
        rw [this] at h7
        rw [h7] at hnd; cases hnd
      rw [hcn] at hu
      refine Chk.mk (by simp only [inR]; omega) fun _ => ⟨fun h => ?_, fun h => Chk.mk (by simp only [inR]; omega) fun _ => ?_⟩
      · rw [if_pos (by omega)] at hu; rw [hu]
      · rw [if_neg (by omega)] at hu
        refine ⟨⟨(k + 1, c - 1), by simp only; omega, by simp only; omega, by simp only; omega, by simp only; omega, hu⟩, by simp only; omega, ?_⟩
        simp only [Int.natCast_add, Int.natCast_one, show ((c - 1 : Nat) : Int) = (c : Int) - 1 by omega]
        exact Ent.refl _ _
    · have hcn : cnE (l.getD k evz).kind c = c := by unfold cnE; rw [if_neg hcf, if_neg h7]
      rw [hcn] at hu
      refine ⟨fun h => ?_, fun h => Chk.mk (by simp only [inR]; omega) fun _ => ?_⟩
      · rw [if_pos (by omega)] at hu; rw [hu]
      · rw [if_neg (by omega)] at hu
        refine ⟨⟨(k + 1, c), by simp only; omega, by simp only; omega, by simp only; omega, by simp only; omega, hu⟩, by simp only; omega, ?_⟩
        simp only [Int.natCast_add, Int.natCast_one]
        exact Ent.refl _ _
noncomputable def pe_l13End : PE := peR (fun (x : List Ev × Int) => match x with | (l, i) => [.fs 8 (l.map evc), .i .i64 i]) (fun (x : List Ev × Int) => match x with | (l, i) => l.length ≤ 1048576 ∧ 0 ≤ i ∧ i < l.length) (fun (x : List Ev × Int) => match x with | (l, i) => .i .i64 (if Pl.isNode (l.getD i.toNat evz).kind then scB l i.toNat 0 else -1))
theorem pe_l13End_eq {l : List Ev} {i : Int} : pe_l13End [.fs 8 (l.map evc), .i .i64 i] = some (l.length ≤ 1048576 ∧ 0 ≤ i ∧ i < l.length, .i .i64 (if Pl.isNode (l.getD i.toNat evz).kind then scB l i.toNat 0 else -1)) := peR_eq (by rintro ⟨a0, a1⟩ ⟨b0, b1⟩ h; simp_all [evc_inj]) (l, i)
theorem pe_l13End_ok : PE1 Try.prog 85 pe_l13End := peR_ok (by rintro ⟨l, i⟩ hp; exact l13End l i hp)
theorem nest_defOf (l : List Ev) (i : Int) (hp : l.length ≤ 1048576 ∧ nested l = true) : PF Try.prog 49 [.agg [.fs 8 (l.map evc), .fs 1 ((endL l).map intc), .fs 1 ((upL l).map intc), .fs 1 ((docL l).map intc)], .i .i64 i] (.i .i64 (if 0 ≤ i ∧ i < l.length ∧ (l.getD i.toNat evz).kind = 6 then defS l i.toNat i.toNat else -1)) := by
  refine ⟨rfl, rfl, FnK.of (cf := mkCf Try.prog te [(89, pe_nest_has), (66, pe_isNode_i)] 67 0 false (fun _ => false) (kp [(0, [1, 2]), (1, [1, 2, 18]), (2, [4]), (3, [1, 2, 5]), (4, [1, 2, 5, 27]), (5, [1, 2, 5]), (6, [1, 2, 5, 50]), (7, [5, 65]), (8, [4]), (9, [4]), (10, [4])]) [] [(6, [], [], .q1 0 (.q1 2 (.q0 1 [1] (.q1 3 (.q0 4 [4] (.alt 5 (.q1 6 (.q1 7 (.q1 9 (.q1 13 (.q1 15 (.q0 8 [8] (.q1 10 (.q1 11 (.q0 12 [12] (.q0 14 [14] (.q1 16 (.q1 17 (.q0 18 [18] (.q1 19 (.q1 20 (.fin)))))))))))))))) (.fin)))))))]) (mkCf_ok te_ok (l := [(89, pe_nest_has), (66, pe_isNode_i)]) (⟨pe_nest_has_ok, pe_isNode_i_ok, trivial⟩) mixed_ok) Try.func49 rfl rfl rfl (by simp [mkCf]) (by simp [mkCf]) (rs := [.tmp 4]) rfl 100000 ?_⟩
  simp only [↓XC, XV, entry, isStr, tdOf, szOf, zeroOf, TD.isStruct, okCell, cellsOf, SO.isMap, SO.sz, SO.el, SO.n, SO.ro, mkCf, quietOp, opClass, okLeaf, spl, cellV, isU8T, isSlS, fillS, fillP, repl, SO.put, SV.mapH, frzV, frzVL, frzOk, frzOkL, lendOk, SV.bit, bitL, SV.plain, plainL, isE, mapHL, strip, stripL, gok, gokL, forall_const, implies_true, reduceIte, Nat.reduceAdd, Nat.reduceLT, Nat.reduceEqDiff, Nat.reduceBEq, Nat.reduceLeDiff, reduceCtorEq, Nat.reduceSub, Nat.reduceMul, Int.reduceToNat, Int.reduceLT, Int.reduceLE, TES, pe_nest_has_eq, pe_isNode_i_eq, XRE, XR]
  obtain ⟨h1, hn⟩ := hp
  refine Chk.mk h1 fun _ => Chk.mk (fun h => by simp at h; omega) fun _ => ⟨fun h => ?_, fun h => ?_⟩
  · simp only [Bool.or_eq_true, Bool.and_eq_true, Bool.or_eq_false_iff, Bool.and_eq_false_iff, decide_eq_true_eq, decide_eq_false_iff_not, Bool.not_eq_true', Bool.not_eq_false', beq_iff_eq, beq_eq_false_iff_ne, ne_eq, ge_iff_le, gt_iff_lt, Int.not_le, Int.not_lt, Int.ofNat_le, Int.ofNat_lt] at h
    rw [if_neg]
    intro h2
    omega
  simp only [Bool.or_eq_true, Bool.and_eq_true, Bool.or_eq_false_iff, Bool.and_eq_false_iff, decide_eq_true_eq, decide_eq_false_iff_not, Bool.not_eq_true', Bool.not_eq_false', beq_iff_eq, beq_eq_false_iff_ne, ne_eq, ge_iff_le, gt_iff_lt, Int.not_le, Int.not_lt, Int.ofNat_le, Int.ofNat_lt] at h
  have hi : 0 ≤ i ∧ i < l.length := by omega
  have h6 := h.2
  obtain ⟨n, rfl⟩ := Int.eq_ofNat_of_zero_le hi.1
  simp only [Int.toNat_natCast] at h6 ⊢
  rw [if_pos ⟨hi.1, hi.2, h6⟩]
  have hdl : (docL l).getD n 0 = ((docF l (n + 1) : Nat) : Int) := by unfold docL; rw [mkR_get (by omega)]
  have hds := def_same hn (i := n) (by omega) h6
  refine Chk.mk (by simp only [inR]; omega) fun _ => ?_
  refine VLoops.of (ι := {k : Nat // k ≤ n ∧ defI l n ((docF l (n + 1) : Nat) : Int) k = defS l n n}) (fun x => ⟨[(1, .i .i64 (n : Nat)), (2, .ptr 0 0 0), (5, .i .i64 ((x.1 : Nat) - 1 : Int))], [some (.blk false [.fs 8 (l.map evc), .fs 1 ((endL l).map intc), .fs 1 ((upL l).map intc), .fs 1 ((docL l).map intc)])]⟩) (fun x => x.1) ⟨n, Nat.le_refl _, hds⟩ (Ent.refl _ _) ?_
  rintro ⟨k, hk, hd⟩
  simp only [↓XC, XV, entry, isStr, tdOf, szOf, zeroOf, TD.isStruct, okCell, cellsOf, SO.isMap, SO.sz, SO.el, SO.n, SO.ro, mkCf, quietOp, opClass, okLeaf, spl, cellV, isU8T, isSlS, fillS, fillP, repl, SO.put, SV.mapH, frzV, frzVL, frzOk, frzOkL, lendOk, SV.bit, bitL, SV.plain, plainL, isE, mapHL, strip, stripL, gok, gokL, forall_const, implies_true, reduceIte, Nat.reduceAdd, Nat.reduceLT, Nat.reduceEqDiff, Nat.reduceBEq, Nat.reduceLeDiff, reduceCtorEq, Nat.reduceSub, Nat.reduceMul, Int.reduceToNat, Int.reduceLT, Int.reduceLE, TES, pe_isNode_i_eq, XRE, XR]
  have hel : (endL l).length = l.length := mkR_length
  refine Chk.mk (by rw [show (docL l).length = l.length from mkR_length]; omega) fun _ => ?_
  rw [hdl]
  rcases k with _ | k
  · exact ⟨fun h => by omega, fun _ => by rw [← hd]; rfl⟩
  simp only [show ((k + 1 : Nat) : Int) - 1 = (k : Int) by omega, Int.toNat_natCast]
  simp only [defI] at hd
  refine ⟨fun h => ⟨by decide +kernel, Chk.mk (by omega) fun _ => Chk.mk (fun _ => by omega) fun _ => Chk.mk (fun _ => by omega) fun _ => ⟨fun hb => ?_, fun hb => ?_⟩⟩, fun h => ?_⟩
  · simp only [Bool.or_eq_true, Bool.and_eq_true, Bool.or_eq_false_iff, Bool.and_eq_false_iff, decide_eq_true_eq, decide_eq_false_iff_not, Bool.not_eq_true', Bool.not_eq_false', beq_iff_eq, beq_eq_false_iff_ne, ne_eq, ge_iff_le, gt_iff_lt, Int.not_le, Int.not_lt, Int.ofNat_le, Int.ofNat_lt] at hb
    rw [if_pos h, if_pos hb] at hd
    refine Chk.mk (by omega) fun _ => Chk.mk (fun _ => by omega) fun _ => ⟨fun he => ?_, fun he => ?_⟩
    · simp only [Bool.or_eq_true, Bool.and_eq_true, Bool.or_eq_false_iff, Bool.and_eq_false_iff, decide_eq_true_eq, decide_eq_false_iff_not, Bool.not_eq_true', Bool.not_eq_false', beq_iff_eq, beq_eq_false_iff_ne, ne_eq, ge_iff_le, gt_iff_lt, Int.not_le, Int.not_lt, Int.ofNat_le, Int.ofNat_lt] at he
      rw [if_pos (by omega)] at hd
      rw [hd]
    · simp only [Bool.or_eq_true, Bool.and_eq_true, Bool.or_eq_false_iff, Bool.and_eq_false_iff, decide_eq_true_eq, decide_eq_false_iff_not, Bool.not_eq_true', Bool.not_eq_false', beq_iff_eq, beq_eq_false_iff_ne, ne_eq, ge_iff_le, gt_iff_lt, Int.not_le, Int.not_lt, Int.ofNat_le, Int.ofNat_lt] at he
      rw [if_neg (by omega)] at hd
      rw [hd]
  · simp only [Bool.or_eq_true, Bool.and_eq_true, Bool.or_eq_false_iff, Bool.and_eq_false_iff, decide_eq_true_eq, decide_eq_false_iff_not, Bool.not_eq_true', Bool.not_eq_false', beq_iff_eq, beq_eq_false_iff_ne, ne_eq, ge_iff_le, gt_iff_lt, Int.not_le, Int.not_lt, Int.ofNat_le, Int.ofNat_lt] at hb
    rw [if_pos h, if_neg (by intro h9; rcases hb with hb | hb; (rw [h9.1] at hb; cases hb); exact hb h9.2)] at hd
    refine Chk.mk (by simp only [inR]; omega) fun _ => ⟨⟨k, by omega, hd⟩, by simp only; omega, Ent.refl _ _⟩
  · rw [if_neg h] at hd
    rw [hd]
noncomputable def pe_nest_defOf : PE := peR (fun (x : List Ev × Int) => match x with | (l, i) => [.agg [.fs 8 (l.map evc), .fs 1 ((endL l).map intc), .fs 1 ((upL l).map intc), .fs 1 ((docL l).map intc)], .i .i64 i]) (fun (x : List Ev × Int) => match x with | (l, i) => l.length ≤ 1048576 ∧ nested l = true) (fun (x : List Ev × Int) => match x with | (l, i) => .i .i64 (if 0 ≤ i ∧ i < l.length ∧ (l.getD i.toNat evz).kind = 6 then defS l i.toNat i.toNat else -1))
theorem pe_nest_defOf_eq {l : List Ev} {i : Int} : pe_nest_defOf [.agg [.fs 8 (l.map evc), .fs 1 ((endL l).map intc), .fs 1 ((upL l).map intc), .fs 1 ((docL l).map intc)], .i .i64 i] = some (l.length ≤ 1048576 ∧ nested l = true, .i .i64 (if 0 ≤ i ∧ i < l.length ∧ (l.getD i.toNat evz).kind = 6 then defS l i.toNat i.toNat else -1)) := peR_eq (by rintro ⟨a0, a1⟩ ⟨b0, b1⟩ h; simp_all [evc_inj, intc_inj]) (l, i)
theorem pe_nest_defOf_ok : PE1 Try.prog 49 pe_nest_defOf := peR_ok (by rintro ⟨l, i⟩ hp; exact nest_defOf l i hp)
theorem DefOf_i (l : List Ev) (i : Int) (hp : l.length ≤ 1048576) : PF Try.prog 15 [.fs 8 (l.map evc), .i .i64 i] (.i .i64 (if nested l = true then (if 0 ≤ i ∧ i < l.length ∧ (l.getD i.toNat evz).kind = 6 then defS l i.toNat i.toNat else -1) else -1)) := by
  refine ⟨rfl, rfl, FnK.of (cf := mkCf Try.prog te [(47, pe_Nested_i), (48, pe_nestOf), (49, pe_nest_defOf)] 12 0 false (fun _ => false) (kp [(0, [0, 1]), (1, [0, 1, 7]), (2, [4]), (3, [4])]) [] []) (mkCf_ok te_ok (l := [(47, pe_Nested_i), (48, pe_nestOf), (49, pe_nest_defOf)]) (⟨pe_Nested_i_ok, pe_nestOf_ok, pe_nest_defOf_ok, trivial⟩) mixed_ok) Try.func15 rfl rfl rfl (by simp [mkCf]) (by simp [mkCf]) (rs := [.tmp 4]) rfl 100000 ?_⟩
  simp only [↓XC, XV, entry, isStr, tdOf, szOf, zeroOf, TD.isStruct, okCell, cellsOf, SO.isMap, SO.sz, SO.el, SO.n, SO.ro, mkCf, quietOp, opClass, okLeaf, spl, cellV, isU8T, isSlS, fillS, fillP, repl, SO.put, SV.mapH, frzV, frzVL, frzOk, frzOkL, lendOk, SV.bit, bitL, SV.plain, plainL, isE, mapHL, strip, stripL, gok, gokL, forall_const, implies_true, reduceIte, Nat.reduceAdd, Nat.reduceLT, Nat.reduceEqDiff, Nat.reduceBEq, Nat.reduceLeDiff, reduceCtorEq, Nat.reduceSub, Nat.reduceMul, Int.reduceToNat, Int.reduceLT, Int.reduceLE, TES, pe_Nested_i_eq, pe_nestOf_eq, pe_nest_defOf_eq, XRE, XR]
  refine Chk.mk hp fun _ => ⟨fun h => ?_, fun h => Chk.mk ⟨hp, by simpa using h⟩ fun _ => Chk.mk ⟨hp, by simpa using h⟩ fun _ => ?_⟩
  · rw [if_neg (by simp at h; simp [h])]
  · rw [if_pos (c := nested l = true) (by simpa using h)]
noncomputable def pe_DefOf_i : PE := peR (fun (x : List Ev × Int) => match x with | (l, i) => [.fs 8 (l.map evc), .i .i64 i]) (fun (x : List Ev × Int) => match x with | (l, i) => l.length ≤ 1048576) (fun (x : List Ev × Int) => match x with | (l, i) => .i .i64 (if nested l = true then (if 0 ≤ i ∧ i < l.length ∧ (l.getD i.toNat evz).kind = 6 then defS l i.toNat i.toNat else -1) else -1))
theorem pe_DefOf_i_eq {l : List Ev} {i : Int} : pe_DefOf_i [.fs 8 (l.map evc), .i .i64 i] = some (l.length ≤ 1048576, .i .i64 (if nested l = true then (if 0 ≤ i ∧ i < l.length ∧ (l.getD i.toNat evz).kind = 6 then defS l i.toNat i.toNat else -1) else -1)) := peR_eq (by rintro ⟨a0, a1⟩ ⟨b0, b1⟩ h; simp_all [evc_inj]) (l, i)
theorem pe_DefOf_i_ok : PE1 Try.prog 15 pe_DefOf_i := peR_ok (by rintro ⟨l, i⟩ hp; exact DefOf_i l i hp)
theorem l13Def (l : List Ev) (i : Int) (hp : l.length ≤ 1048576 ∧ 0 ≤ i ∧ i < l.length) : PF Try.prog 45 [.fs 8 (l.map evc), .i .i64 i] (.i .i64 (defS l i.toNat i.toNat)) := by
  refine ⟨rfl, rfl, FnK.of (cf := mkCf Try.prog te [(54, pe_isNode_s), (85, pe_l13End)] 58 0 false (fun _ => false) (kp [(0, [0, 1]), (1, [0, 1, 5]), (2, [0, 1, 5, 18]), (3, [0, 1, 5]), (4, [0, 1, 5, 46]), (5, [1, 5, 6]), (6, [5, 56]), (7, [4]), (8, [4]), (9, [4])]) [] [(4, [], [], .q1 0 (.q1 1 (.q1 2 (.q0 3 [3] (.alt 4 (.q1 5 (.q1 6 (.q1 7 (.q1 8 (.q1 9 (.q0 10 [10] (.q1 11 (.q1 12 (.q1 13 (.q1 14 (.q1 15 (.q1 16 (.q1 17 (.q1 19 (.q1 20 (.q1 21 (.q1 22 (.q0 18 [18] (.q0 23 [23] (.q1 24 (.q1 25 (.fin)))))))))))))))))))))) (.fin))))))]) (mkCf_ok te_ok (l := [(54, pe_isNode_s), (85, pe_l13End)]) (⟨pe_isNode_s_ok, pe_l13End_ok, trivial⟩) mixed_ok) Try.func45 rfl rfl rfl (by simp [mkCf]) (by simp [mkCf]) (rs := [.tmp 4]) rfl 100000 ?_⟩
  simp only [↓XC, XV, entry, isStr, tdOf, szOf, zeroOf, TD.isStruct, okCell, cellsOf, SO.isMap, SO.sz, SO.el, SO.n, SO.ro, mkCf, quietOp, opClass, okLeaf, spl, cellV, isU8T, isSlS, fillS, fillP, repl, SO.put, SV.mapH, frzV, frzVL, frzOk, frzOkL, lendOk, SV.bit, bitL, SV.plain, plainL, isE, mapHL, strip, stripL, gok, gokL, forall_const, implies_true, reduceIte, Nat.reduceAdd, Nat.reduceLT, Nat.reduceEqDiff, Nat.reduceBEq, Nat.reduceLeDiff, reduceCtorEq, Nat.reduceSub, Nat.reduceMul, Int.reduceToNat, Int.reduceLT, Int.reduceLE, TES, pe_isNode_s_eq, pe_l13End_eq, XRE, XR]
  obtain ⟨h1, h0, hl⟩ := hp
  obtain ⟨n, rfl⟩ := Int.eq_ofNat_of_zero_le h0
  simp only [Int.toNat_natCast]
  refine Chk.mk (by simp only [inR]; omega) fun _ => ?_
  refine VLoops.of (ι := {k : Nat // k ≤ n ∧ defS l n k = defS l n n}) (fun x => ⟨[(0, .fs 8 (l.map evc)), (1, .i .i64 (n : Nat)), (5, .i .i64 ((x.1 : Nat) - 1 : Int))], []⟩) (fun x => x.1) ⟨n, Nat.le_refl _, rfl⟩ (Ent.refl _ _) ?_
  rintro ⟨k, hk, hd⟩
  simp only [↓XC, XV, entry, isStr, tdOf, szOf, zeroOf, TD.isStruct, okCell, cellsOf, SO.isMap, SO.sz, SO.el, SO.n, SO.ro, mkCf, quietOp, opClass, okLeaf, spl, cellV, isU8T, isSlS, fillS, fillP, repl, SO.put, SV.mapH, frzV, frzVL, frzOk, frzOkL, lendOk, SV.bit, bitL, SV.plain, plainL, isE, mapHL, strip, stripL, gok, gokL, forall_const, implies_true, reduceIte, Nat.reduceAdd, Nat.reduceLT, Nat.reduceEqDiff, Nat.reduceBEq, Nat.reduceLeDiff, reduceCtorEq, Nat.reduceSub, Nat.reduceMul, Int.reduceToNat, Int.reduceLT, Int.reduceLE, TES, pe_isNode_s_eq, pe_l13End_eq, XRE, XR]
  rcases k with _ | k
  · exact Chk.mk (fun h => by omega) fun _ => ⟨fun h => by simp at h, fun _ => by rw [← hd]; rfl⟩
  simp only [show ((k + 1 : Nat) : Int) - 1 = (k : Int) by omega, Int.toNat_natCast]
  simp only [defS] at hd
  refine Chk.mk (fun _ => by omega) fun _ => ⟨fun h => ⟨by decide +kernel, Chk.mk (by omega) fun _ => Chk.mk (fun _ => by omega) fun _ => Chk.mk (fun _ => by omega) fun _ => Chk.mk (fun _ => by omega) fun _ => ⟨fun hb => ?_, fun hb => ?_⟩⟩, fun h => ?_⟩
  · simp only [Bool.or_eq_true, Bool.and_eq_true, Bool.or_eq_false_iff, Bool.and_eq_false_iff, decide_eq_true_eq, decide_eq_false_iff_not, Bool.not_eq_true', Bool.not_eq_false', beq_iff_eq, beq_eq_false_iff_ne, ne_eq, ge_iff_le, gt_iff_lt, Int.not_le, Int.not_lt, Int.ofNat_le, Int.ofNat_lt] at h
    simp only [Bool.or_eq_true, Bool.and_eq_true, Bool.or_eq_false_iff, Bool.and_eq_false_iff, decide_eq_true_eq, decide_eq_false_iff_not, Bool.not_eq_true', Bool.not_eq_false', beq_iff_eq, beq_eq_false_iff_ne, ne_eq, ge_iff_le, gt_iff_lt, Int.not_le, Int.not_lt, Int.ofNat_le, Int.ofNat_lt] at hb
    rw [if_neg h.2, if_pos ⟨hb.1.1, hb.1.2, hb.2⟩] at hd
    rw [if_pos hb.1.1]
    refine Chk.mk (by omega) fun _ => ⟨fun he => ?_, fun he => ?_⟩
    · simp only [Bool.or_eq_true, Bool.and_eq_true, Bool.or_eq_false_iff, Bool.and_eq_false_iff, decide_eq_true_eq, decide_eq_false_iff_not, Bool.not_eq_true', Bool.not_eq_false', beq_iff_eq, beq_eq_false_iff_ne, ne_eq, ge_iff_le, gt_iff_lt, Int.not_le, Int.not_lt, Int.ofNat_le, Int.ofNat_lt] at he
      rw [if_pos (by omega)] at hd
      rw [hd]
    · simp only [Bool.or_eq_true, Bool.and_eq_true, Bool.or_eq_false_iff, Bool.and_eq_false_iff, decide_eq_true_eq, decide_eq_false_iff_not, Bool.not_eq_true', Bool.not_eq_false', beq_iff_eq, beq_eq_false_iff_ne, ne_eq, ge_iff_le, gt_iff_lt, Int.not_le, Int.not_lt, Int.ofNat_le, Int.ofNat_lt] at he
      rw [if_neg (by omega)] at hd
      rw [hd]
  · simp only [Bool.or_eq_true, Bool.and_eq_true, Bool.or_eq_false_iff, Bool.and_eq_false_iff, decide_eq_true_eq, decide_eq_false_iff_not, Bool.not_eq_true', Bool.not_eq_false', beq_iff_eq, beq_eq_false_iff_ne, ne_eq, ge_iff_le, gt_iff_lt, Int.not_le, Int.not_lt, Int.ofNat_le, Int.ofNat_lt] at h
    simp only [Bool.or_eq_true, Bool.and_eq_true, Bool.or_eq_false_iff, Bool.and_eq_false_iff, decide_eq_true_eq, decide_eq_false_iff_not, Bool.not_eq_true', Bool.not_eq_false', beq_iff_eq, beq_eq_false_iff_ne, ne_eq, ge_iff_le, gt_iff_lt, Int.not_le, Int.not_lt, Int.ofNat_le, Int.ofNat_lt] at hb
    rw [if_neg h.2, if_neg (by intro h9; rcases hb with (hb | hb) | hb; (rw [h9.1] at hb; cases hb); exact h9.2.1 hb; exact hb h9.2.2)] at hd
    refine Chk.mk (by simp only [inR]; omega) fun _ => ⟨⟨k, by omega, hd⟩, by simp only; omega, Ent.refl _ _⟩
  · simp only [Bool.or_eq_true, Bool.and_eq_true, Bool.or_eq_false_iff, Bool.and_eq_false_iff, decide_eq_true_eq, decide_eq_false_iff_not, Bool.not_eq_true', Bool.not_eq_false', beq_iff_eq, beq_eq_false_iff_ne, ne_eq, ge_iff_le, gt_iff_lt, Int.not_le, Int.not_lt, Int.ofNat_le, Int.ofNat_lt] at h
    rw [if_pos (by omega)] at hd
    rw [hd]
noncomputable def pe_l13Def : PE := peR (fun (x : List Ev × Int) => match x with | (l, i) => [.fs 8 (l.map evc), .i .i64 i]) (fun (x : List Ev × Int) => match x with | (l, i) => l.length ≤ 1048576 ∧ 0 ≤ i ∧ i < l.length) (fun (x : List Ev × Int) => match x with | (l, i) => .i .i64 (defS l i.toNat i.toNat))
theorem pe_l13Def_eq {l : List Ev} {i : Int} : pe_l13Def [.fs 8 (l.map evc), .i .i64 i] = some (l.length ≤ 1048576 ∧ 0 ≤ i ∧ i < l.length, .i .i64 (defS l i.toNat i.toNat)) := peR_eq (by rintro ⟨a0, a1⟩ ⟨b0, b1⟩ h; simp_all [evc_inj]) (l, i)
theorem pe_l13Def_ok : PE1 Try.prog 45 pe_l13Def := peR_ok (by rintro ⟨l, i⟩ hp; exact l13Def l i hp)
theorem DefOf_s (l : List Ev) (i : Int) (hp : l.length ≤ 1048576 ∧ evW l ≤ 1048576) : PF Try.prog 13 [.fs 8 (l.map evc), .i .i64 i] (.i .i64 (if nested l = true then (if 0 ≤ i ∧ i < l.length ∧ (l.getD i.toNat evz).kind = 6 then defS l i.toNat i.toNat else -1) else -1)) := by
  refine ⟨rfl, rfl, FnK.of (cf := mkCf Try.prog te [(44, pe_Nested_s), (45, pe_l13Def)] 29 0 false (fun _ => false) (kp [(0, [0, 1]), (1, [0, 1, 25]), (2, [4]), (3, [4])]) [] []) (mkCf_ok te_ok (l := [(44, pe_Nested_s), (45, pe_l13Def)]) (⟨pe_Nested_s_ok, pe_l13Def_ok, trivial⟩) mixed_ok) Try.func13 rfl rfl rfl (by simp [mkCf]) (by simp [mkCf]) (rs := [.tmp 4]) rfl 100000 ?_⟩
  simp only [↓XC, XV, entry, isStr, tdOf, szOf, zeroOf, TD.isStruct, okCell, cellsOf, SO.isMap, SO.sz, SO.el, SO.n, SO.ro, mkCf, quietOp, opClass, okLeaf, spl, cellV, isU8T, isSlS, fillS, fillP, repl, SO.put, SV.mapH, frzV, frzVL, frzOk, frzOkL, lendOk, SV.bit, bitL, SV.plain, plainL, isE, mapHL, strip, stripL, gok, gokL, forall_const, implies_true, reduceIte, Nat.reduceAdd, Nat.reduceLT, Nat.reduceEqDiff, Nat.reduceBEq, Nat.reduceLeDiff, reduceCtorEq, Nat.reduceSub, Nat.reduceMul, Int.reduceToNat, Int.reduceLT, Int.reduceLE, TES, pe_Nested_s_eq, pe_l13Def_eq, XRE, XR]
  refine Chk.mk hp fun _ => Chk.mk (fun h => by simp at h; omega) fun _ => ⟨fun h => ?_, fun h => ?_⟩
  · simp only [Bool.or_eq_true, Bool.and_eq_true, Bool.or_eq_false_iff, Bool.and_eq_false_iff, decide_eq_true_eq, decide_eq_false_iff_not, Bool.not_eq_true', Bool.not_eq_false', beq_iff_eq, beq_eq_false_iff_ne, ne_eq, ge_iff_le, gt_iff_lt, Int.not_le, Int.not_lt, Int.ofNat_le, Int.ofNat_lt] at h
    split
    · rename_i h9
      rw [if_neg]
      intro h2
      rcases h with ((h | h) | h) | h
      · rw [h9] at h; cases h
      · omega
      · omega
      · exact h h2.2.2
    · rfl
  · simp only [Bool.or_eq_true, Bool.and_eq_true, Bool.or_eq_false_iff, Bool.and_eq_false_iff, decide_eq_true_eq, decide_eq_false_iff_not, Bool.not_eq_true', Bool.not_eq_false', beq_iff_eq, beq_eq_false_iff_ne, ne_eq, ge_iff_le, gt_iff_lt, Int.not_le, Int.not_lt, Int.ofNat_le, Int.ofNat_lt] at h
    refine Chk.mk ⟨hp.1, by omega, by omega⟩ fun _ => ?_
    rw [if_pos (c := nested l = true) h.1.1.1, if_pos ⟨by omega, by omega, h.2⟩]
noncomputable def pe_DefOf_s : PE := peR (fun (x : List Ev × Int) => match x with | (l, i) => [.fs 8 (l.map evc), .i .i64 i]) (fun (x : List Ev × Int) => match x with | (l, i) => l.length ≤ 1048576 ∧ evW l ≤ 1048576) (fun (x : List Ev × Int) => match x with | (l, i) => .i .i64 (if nested l = true then (if 0 ≤ i ∧ i < l.length ∧ (l.getD i.toNat evz).kind = 6 then defS l i.toNat i.toNat else -1) else -1))
theorem pe_DefOf_s_eq {l : List Ev} {i : Int} : pe_DefOf_s [.fs 8 (l.map evc), .i .i64 i] = some (l.length ≤ 1048576 ∧ evW l ≤ 1048576, .i .i64 (if nested l = true then (if 0 ≤ i ∧ i < l.length ∧ (l.getD i.toNat evz).kind = 6 then defS l i.toNat i.toNat else -1) else -1)) := peR_eq (by rintro ⟨a0, a1⟩ ⟨b0, b1⟩ h; simp_all [evc_inj]) (l, i)
theorem pe_DefOf_s_ok : PE1 Try.prog 13 pe_DefOf_s := peR_ok (by rintro ⟨l, i⟩ hp; exact DefOf_s l i hp)
end Go.T40
