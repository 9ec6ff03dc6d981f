/- Own text: part EndOfA. -/
import Derived.Test.YtlbahpbnnmgpnaaTypes2
import Derived.Test.YtlbahpbnnmgpnaaEventA
import Derived.Test.YtlbahpbnnmgpnaaEventB
import Derived.Test.YtlbahpbnnmgpnaaNestA
import Derived.Test.YtlbahpbnnmgpnaaNestB
import Derived.Test.YtlbahpbnnmgpnaaTreeA
import Derived.Test.YtlbahpbnnmgpnaaTreeB
import Derived.Test.YtlbahpbnnmgpnaaVgEv
import Derived.Test.YtlbahpbnnmgpnaaVgNl
import Derived.Test.YtlbahpbnnmgpnaaPlN
import Derived.Test.YtlbahpbnnmgpnaaPlT
import Derived.Test.YtlbahpbnnmgpnaaPlU
namespace Go.T22
open Go.Proofs Go.Vg Go.RowKit Go.TT Go.Pl Go.T8 Go.T12 Go.T13 Go.T14 Go.T15 Go.T18 Go.T19
set_option linter.unusedVariables false
set_option linter.unusedSimpArgs false
set_option maxRecDepth 10000
set_option maxHeartbeats 4000000
theorem l13End (l : List Ev) (i : Int) (hp : l.length ≤ 1048576 ∧ 0 ≤ i ∧ i < l.length) : PF Try.prog 93 [.fs 8 (l.map evc), .i .i64 i] (.i .i64 (if Pl.isNode (l.getD i.toNat evz).kind then scB l i.toNat 0 else -1)) := by
  refine ⟨rfl, rfl, FnK.of (cf := mkCf Try.prog te [(115, pe_isNode_s), (111, pe_isColl_s)] 38 0 false (fun _ => false) (kp [(0, [0, 1]), (1, [0, 1, 12]), (2, [4]), (3, [0, 1, 5]), (4, [0, 5, 6]), (5, [0, 5, 6, 17]), (6, [0, 5, 6]), (7, [0, 5, 6, 24]), (8, [0, 5, 6]), (9, [0, 5, 6, 32]), (10, [0, 5, 6]), (11, [0, 5, 6, 36]), (12, [4]), (13, [4])]) [] []) (mkCf_ok te_ok (l := [(115, pe_isNode_s), (111, pe_isColl_s)]) (⟨pe_isNode_s_ok, pe_isColl_s_ok, trivial⟩) mixed_ok) Try.func93 rfl rfl rfl (by simp [mkCf]) (by simp [mkCf]) (rs := [.tmp 4]) rfl 100000 ?_⟩
  simp only [↓XC, XV, entry, isStr, tdOf, szOf, zeroOf, TD.isStruct, okCell, cellsOf, SO.isMap, SO.sz, SO.el, SO.n, SO.ro, mkCf, quietOp, opClass, okLeaf, spl, cellV, isU8T, isSlS, fillS, fillP, repl, SO.put, SV.mapH, frzV, frzVL, frzOk, frzOkL, lendOk, SV.bit, bitL, SV.plain, plainL, isE, mapHL, strip, stripL, gok, gokL, forall_const, implies_true, reduceIte, Nat.reduceAdd, Nat.reduceLT, Nat.reduceEqDiff, Nat.reduceBEq, Nat.reduceLeDiff, reduceCtorEq, Nat.reduceSub, Nat.reduceMul, Int.reduceToNat, Int.reduceLT, Int.reduceLE, TES, pe_isNode_s_eq, pe_isColl_s_eq, XRE, XR]
  refine Chk.mk (by omega) fun _ => ⟨fun h => ?_, fun h => ?_⟩
  · rw [if_neg (fun h1 => by rw [h1] at h; cases h)]
  have hnd : Pl.isNode (l.getD i.toNat evz).kind = true := by simpa using h
  rw [if_pos hnd]
  refine VLoops.of (ι := {x : Nat × Nat // i.toNat ≤ x.1 ∧ x.1 ≤ l.length ∧ (x.2 = 0 → x.1 = i.toNat) ∧ x.2 ≤ x.1 ∧ scB l x.1 x.2 = scB l i.toNat 0}) (fun x => ⟨[(0, .fs 8 (l.map evc)), (5, .i .i64 (x.1.2 : Nat)), (6, .i .i64 (x.1.1 : Nat))], []⟩) (fun x => l.length - x.1.1) ⟨(i.toNat, 0), Nat.le_refl _, by simp only; omega, fun _ => rfl, Nat.zero_le _, rfl⟩ (by simp only [show ((i.toNat : Nat) : Int) = i by omega]; exact Ent.refl _ _) ?_
  rintro ⟨⟨k, c⟩, hk, hkl, hc0, hck, hu⟩
  simp only [↓XC, XV, entry, isStr, tdOf, szOf, zeroOf, TD.isStruct, okCell, cellsOf, SO.isMap, SO.sz, SO.el, SO.n, SO.ro, mkCf, quietOp, opClass, okLeaf, spl, cellV, isU8T, isSlS, fillS, fillP, repl, SO.put, SV.mapH, frzV, frzVL, frzOk, frzOkL, lendOk, SV.bit, bitL, SV.plain, plainL, isE, mapHL, strip, stripL, gok, gokL, forall_const, implies_true, reduceIte, Nat.reduceAdd, Nat.reduceLT, Nat.reduceEqDiff, Nat.reduceBEq, Nat.reduceLeDiff, reduceCtorEq, Nat.reduceSub, Nat.reduceMul, Int.reduceToNat, Int.reduceLT, Int.reduceLE, TES, pe_isColl_s_eq, XRE]
  simp only at hk hkl hc0 hck hu
  refine ⟨fun hlt => Chk.mk (by omega) fun _ => ?_, fun hlt => by rw [← hu, scB_ge (by omega)]⟩
  rw [scB_lt (by omega)] at hu
  refine ⟨fun hcl => Chk.mk (by simp only [inR]; omega) fun _ => Chk.mk (by omega) fun _ => ?_, fun hcl => Chk.mk (by omega) fun _ => ?_⟩
  · have h7 : (l.getD k evz).kind ≠ 7 := fun h => by rw [h] at hcl; cases hcl
    have hcn : cnE (l.getD k evz).kind c = c + 1 := by unfold cnE; rw [if_pos hcl]
    rw [hcn, if_neg (by omega)] at hu
    refine ⟨fun h => absurd h h7, fun _ => ⟨fun h => by omega, fun _ => Chk.mk (by simp only [inR]; omega) fun _ => ⟨⟨(k + 1, c + 1), by simp only; omega, by simp only; omega, by simp only; omega, by simp only; omega, hu⟩, by simp only; omega, ?_⟩⟩⟩
    simp only [Int.natCast_add, Int.natCast_one]
    exact Ent.refl _ _
  · have hcf : ¬ isColl (l.getD k evz).kind = true := by rw [hcl]; simp
    refine ⟨fun h7 => ?_, fun h7 => ?_⟩
    · have hcn : cnE (l.getD k evz).kind c = c - 1 := by unfold cnE; rw [if_neg hcf, if_pos h7]
      have hc1 : c ≠ 0 := fun h0 => by
        have := hc0 h0
        rw [this] at h7
        rw [h7] at hnd; cases hnd
      rw [hcn] at hu
      refine Chk.mk (by simp only [inR]; omega) fun _ => ⟨fun h => ?_, fun h => Chk.mk (by simp only [inR]; omega) fun _ => ?_⟩
      · rw [if_pos (by omega)] at hu; rw [hu]
      · rw [if_neg (by omega)] at hu
        refine ⟨⟨(k + 1, c - 1), by simp only; omega, by simp only; omega, by simp only; omega, by simp only; omega, hu⟩, by simp only; omega, ?_⟩
        simp only [Int.natCast_add, Int.natCast_one, show ((c - 1 : Nat) : Int) = (c : Int) - 1 by omega]
        exact Ent.refl _ _
    · have hcn : cnE (l.getD k evz).kind c = c := by unfold cnE; rw [if_neg hcf, if_neg h7]
      rw [hcn] at hu
      refine ⟨fun h => ?_, fun h => Chk.mk (by simp only [inR]; omega) fun _ => ?_⟩
      · rw [if_pos (by omega)] at hu; rw [hu]
      · rw [if_neg (by omega)] at hu
        refine ⟨⟨(k + 1, c), by simp only; omega, by simp only; omega, by simp only; omega, by simp only; omega, hu⟩, by simp only; omega, ?_⟩
        simp only [Int.natCast_add, Int.natCast_one]
        exact Ent.refl _ _
noncomputable def pe_l13End : PE := peR (fun (x : List Ev × Int) => match x with | (l, i) => [.fs 8 (l.map evc), .i .i64 i]) (fun (x : List Ev × Int) => match x with | (l, i) => l.length ≤ 1048576 ∧ 0 ≤ i ∧ i < l.length) (fun (x : List Ev × Int) => match x with | (l, i) => .i .i64 (if Pl.isNode (l.getD i.toNat evz).kind then scB l i.toNat 0 else -1))
theorem pe_l13End_eq {l : List Ev} {i : Int} : pe_l13End [.fs 8 (l.map evc), .i .i64 i] = some (l.length ≤ 1048576 ∧ 0 ≤ i ∧ i < l.length, .i .i64 (if Pl.isNode (l.getD i.toNat evz).kind then scB l i.toNat 0 else -1)) := peR_eq (by rintro ⟨a0, a1⟩ ⟨b0, b1⟩ h; simp_all [evc_inj]) (l, i)
theorem pe_l13End_ok : PE1 Try.prog 93 pe_l13End := peR_ok (by rintro ⟨l, i⟩ hp; exact l13End l i hp)
theorem EndOf_i (l : List Ev) (i : Int) (hp : l.length ≤ 1048576) : PF Try.prog 56 [.fs 8 (l.map evc), .i .i64 i] (.i .i64 (if nested l = true ∧ 0 ≤ i ∧ i < l.length then (if Pl.isNode (l.getD i.toNat evz).kind then scB l i.toNat 0 else -1) else -1)) := by
  refine ⟨rfl, rfl, FnK.of (cf := mkCf Try.prog te [(47, pe_Nested_i), (91, pe_nestOf), (94, pe_nest_endOf)] 12 0 false (fun _ => false) (kp [(0, [0, 1]), (1, [0, 1, 7]), (2, [4]), (3, [4])]) [] []) (mkCf_ok te_ok (l := [(47, pe_Nested_i), (91, pe_nestOf), (94, pe_nest_endOf)]) (⟨pe_Nested_i_ok, pe_nestOf_ok, pe_nest_endOf_ok, trivial⟩) mixed_ok) Try.func56 rfl rfl rfl (by simp [mkCf]) (by simp [mkCf]) (rs := [.tmp 4]) rfl 100000 ?_⟩
  simp only [↓XC, XV, entry, isStr, tdOf, szOf, zeroOf, TD.isStruct, okCell, cellsOf, SO.isMap, SO.sz, SO.el, SO.n, SO.ro, mkCf, quietOp, opClass, okLeaf, spl, cellV, isU8T, isSlS, fillS, fillP, repl, SO.put, SV.mapH, frzV, frzVL, frzOk, frzOkL, lendOk, SV.bit, bitL, SV.plain, plainL, isE, mapHL, strip, stripL, gok, gokL, forall_const, implies_true, reduceIte, Nat.reduceAdd, Nat.reduceLT, Nat.reduceEqDiff, Nat.reduceBEq, Nat.reduceLeDiff, reduceCtorEq, Nat.reduceSub, Nat.reduceMul, Int.reduceToNat, Int.reduceLT, Int.reduceLE, TES, pe_Nested_i_eq, pe_nestOf_eq, pe_nest_endOf_eq, XRE, XR]
  refine Chk.mk hp fun _ => ⟨fun h => ?_, fun h => Chk.mk ⟨hp, by simpa using h⟩ fun _ => Chk.mk ⟨hp, mkR_length⟩ fun _ => ?_⟩
  · rw [if_neg (by simp at h; simp [h])]
  · have hn : nested l = true := by simpa using h
    by_cases hi : 0 ≤ i ∧ i < l.length
    · rw [if_pos hi, if_pos ⟨hn, hi⟩]
      unfold endL
      rw [mkR_get (by omega), end_scan hn (by omega)]
    · rw [if_neg hi, if_neg (fun h => hi h.2)]
noncomputable def pe_EndOf_i : PE := peR (fun (x : List Ev × Int) => match x with | (l, i) => [.fs 8 (l.map evc), .i .i64 i]) (fun (x : List Ev × Int) => match x with | (l, i) => l.length ≤ 1048576) (fun (x : List Ev × Int) => match x with | (l, i) => .i .i64 (if nested l = true ∧ 0 ≤ i ∧ i < l.length then (if Pl.isNode (l.getD i.toNat evz).kind then scB l i.toNat 0 else -1) else -1))
theorem pe_EndOf_i_eq {l : List Ev} {i : Int} : pe_EndOf_i [.fs 8 (l.map evc), .i .i64 i] = some (l.length ≤ 1048576, .i .i64 (if nested l = true ∧ 0 ≤ i ∧ i < l.length then (if Pl.isNode (l.getD i.toNat evz).kind then scB l i.toNat 0 else -1) else -1)) := peR_eq (by rintro ⟨a0, a1⟩ ⟨b0, b1⟩ h; simp_all [evc_inj]) (l, i)
theorem pe_EndOf_i_ok : PE1 Try.prog 56 pe_EndOf_i := peR_ok (by rintro ⟨l, i⟩ hp; exact EndOf_i l i hp)
theorem EndOf_s (l : List Ev) (i : Int) (hp : l.length ≤ 1048576 ∧ evW l ≤ 1048576) : PF Try.prog 55 [.fs 8 (l.map evc), .i .i64 i] (.i .i64 (if nested l = true ∧ 0 ≤ i ∧ i < l.length then (if Pl.isNode (l.getD i.toNat evz).kind then scB l i.toNat 0 else -1) else -1)) := by
  refine ⟨rfl, rfl, FnK.of (cf := mkCf Try.prog te [(45, pe_Nested_s), (93, pe_l13End)] 21 0 false (fun _ => false) (kp [(0, [0, 1]), (1, [0, 1, 17]), (2, [4]), (3, [4])]) [] []) (mkCf_ok te_ok (l := [(45, pe_Nested_s), (93, pe_l13End)]) (⟨pe_Nested_s_ok, pe_l13End_ok, trivial⟩) mixed_ok) Try.func55 rfl rfl rfl (by simp [mkCf]) (by simp [mkCf]) (rs := [.tmp 4]) rfl 100000 ?_⟩
  simp only [↓XC, XV, entry, isStr, tdOf, szOf, zeroOf, TD.isStruct, okCell, cellsOf, SO.isMap, SO.sz, SO.el, SO.n, SO.ro, mkCf, quietOp, opClass, okLeaf, spl, cellV, isU8T, isSlS, fillS, fillP, repl, SO.put, SV.mapH, frzV, frzVL, frzOk, frzOkL, lendOk, SV.bit, bitL, SV.plain, plainL, isE, mapHL, strip, stripL, gok, gokL, forall_const, implies_true, reduceIte, Nat.reduceAdd, Nat.reduceLT, Nat.reduceEqDiff, Nat.reduceBEq, Nat.reduceLeDiff, reduceCtorEq, Nat.reduceSub, Nat.reduceMul, Int.reduceToNat, Int.reduceLT, Int.reduceLE, TES, pe_Nested_s_eq, pe_l13End_eq, XRE, XR]
  refine Chk.mk hp fun _ => ⟨fun h => ?_, fun h => ?_⟩
  · simp only [Bool.or_eq_true, Bool.and_eq_true, Bool.or_eq_false_iff, Bool.and_eq_false_iff, decide_eq_true_eq, decide_eq_false_iff_not, Bool.not_eq_true', Bool.not_eq_false', beq_iff_eq, beq_eq_false_iff_ne, ne_eq, ge_iff_le, gt_iff_lt, Int.not_le, Int.not_lt, Int.ofNat_le, Int.ofNat_lt] at h
    rw [if_neg]
    rintro ⟨h1, h2, h3⟩
    rcases h with (h | h) | h
    · rw [h1] at h; cases h
    · omega
    · omega
  · simp only [Bool.or_eq_true, Bool.and_eq_true, Bool.or_eq_false_iff, Bool.and_eq_false_iff, decide_eq_true_eq, decide_eq_false_iff_not, Bool.not_eq_true', Bool.not_eq_false', beq_iff_eq, beq_eq_false_iff_ne, ne_eq, ge_iff_le, gt_iff_lt, Int.not_le, Int.not_lt, Int.ofNat_le, Int.ofNat_lt] at h
    exact Chk.mk ⟨hp.1, by omega, by omega⟩ fun _ => by rw [if_pos (c := nested l = true ∧ 0 ≤ i ∧ i < l.length) ⟨h.1.1, by omega, by omega⟩]
noncomputable def pe_EndOf_s : PE := peR (fun (x : List Ev × Int) => match x with | (l, i) => [.fs 8 (l.map evc), .i .i64 i]) (fun (x : List Ev × Int) => match x with | (l, i) => l.length ≤ 1048576 ∧ evW l ≤ 1048576) (fun (x : List Ev × Int) => match x with | (l, i) => .i .i64 (if nested l = true ∧ 0 ≤ i ∧ i < l.length then (if Pl.isNode (l.getD i.toNat evz).kind then scB l i.toNat 0 else -1) else -1))
theorem pe_EndOf_s_eq {l : List Ev} {i : Int} : pe_EndOf_s [.fs 8 (l.map evc), .i .i64 i] = some (l.length ≤ 1048576 ∧ evW l ≤ 1048576, .i .i64 (if nested l = true ∧ 0 ≤ i ∧ i < l.length then (if Pl.isNode (l.getD i.toNat evz).kind then scB l i.toNat 0 else -1) else -1)) := peR_eq (by rintro ⟨a0, a1⟩ ⟨b0, b1⟩ h; simp_all [evc_inj]) (l, i)
theorem pe_EndOf_s_ok : PE1 Try.prog 55 pe_EndOf_s := peR_ok (by rintro ⟨l, i⟩ hp; exact EndOf_s l i hp)
theorem law_EndOf (l : List Ev) (i : Int) (hp : l.length ≤ 9223372036854775807 ∧ (∀ i, i < l.length → (l.getD i evz).text.length ≤ 9223372036854775807 ∧ (l.getD i evz).anchor.length ≤ 9223372036854775807 ∧ (l.getD i evz).tag.length ≤ 9223372036854775807)) : PF Try.prog 14 [.fs 8 (l.map evc), .i .i64 i] (.b true) := by
  refine ⟨rfl, rfl, FnK.of (cf := mkCf Try.prog te [(44, pe_szEventS), (46, pe_toEventS), (55, pe_EndOf_s), (56, pe_EndOf_i), (48, pe_eqEventS)] 31 0 false (fun _ => false) (kp [(0, [0, 1]), (1, [0, 1, 5]), (2, [0, 1, 5]), (3, [0, 1, 13]), (4, [4]), (5, [0, 1, 6]), (6, [0, 1, 6, 7]), (7, [0, 6, 7, 8]), (8, [0, 7, 25]), (9, [4]), (10, [30]), (11, [4]), (12, [4])]) [] []) (mkCf_ok te_ok (l := [(44, pe_szEventS), (46, pe_toEventS), (55, pe_EndOf_s), (56, pe_EndOf_i), (48, pe_eqEventS)]) (⟨pe_szEventS_ok, pe_toEventS_ok, pe_EndOf_s_ok, pe_EndOf_i_ok, pe_eqEventS_ok, trivial⟩) mixed_ok) Try.func14 rfl rfl rfl (by simp [mkCf]) (by simp [mkCf]) (rs := [.tmp 4]) rfl 100000 ?_⟩
  simp only [↓XC, XV, entry, isStr, tdOf, szOf, zeroOf, TD.isStruct, okCell, cellsOf, SO.isMap, SO.sz, SO.el, SO.n, SO.ro, mkCf, quietOp, opClass, okLeaf, spl, cellV, isU8T, isSlS, fillS, fillP, repl, SO.put, SV.mapH, frzV, frzVL, frzOk, frzOkL, lendOk, SV.bit, bitL, SV.plain, plainL, isE, mapHL, strip, stripL, gok, gokL, forall_const, implies_true, reduceIte, Nat.reduceAdd, Nat.reduceLT, Nat.reduceEqDiff, Nat.reduceBEq, Nat.reduceLeDiff, reduceCtorEq, Nat.reduceSub, Nat.reduceMul, Int.reduceToNat, Int.reduceLT, Int.reduceLE, TES, pe_szEventS_eq, pe_toEventS_eq, pe_EndOf_s_eq, pe_EndOf_i_eq, pe_eqEventS_eq, XRE]
  exact Chk.mk hp fun _ h => by
    have hs : (l.length : Int) + evW l ≤ 1048576 := by split at h <;> omega
    exact Chk.mk (by omega) fun _ => Chk.mk ⟨by omega, by omega⟩ fun _ => Chk.mk (by omega) fun _ => Chk.mk (by omega) fun _ => Chk.mk (by omega) fun _ => Chk.mk (by omega) fun _ => trivial
noncomputable def pe_law_EndOf : PE := peR (fun (x : List Ev × Int) => match x with | (l, i) => [.fs 8 (l.map evc), .i .i64 i]) (fun (x : List Ev × Int) => match x with | (l, i) => l.length ≤ 9223372036854775807 ∧ (∀ i, i < l.length → (l.getD i evz).text.length ≤ 9223372036854775807 ∧ (l.getD i evz).anchor.length ≤ 9223372036854775807 ∧ (l.getD i evz).tag.length ≤ 9223372036854775807)) (fun (x : List Ev × Int) => match x with | (l, i) => .b true)
theorem pe_law_EndOf_eq {l : List Ev} {i : Int} : pe_law_EndOf [.fs 8 (l.map evc), .i .i64 i] = some (l.length ≤ 9223372036854775807 ∧ (∀ i, i < l.length → (l.getD i evz).text.length ≤ 9223372036854775807 ∧ (l.getD i evz).anchor.length ≤ 9223372036854775807 ∧ (l.getD i evz).tag.length ≤ 9223372036854775807), .b true) := peR_eq (by rintro ⟨a0, a1⟩ ⟨b0, b1⟩ h; simp_all [evc_inj]) (l, i)
theorem pe_law_EndOf_ok : PE1 Try.prog 14 pe_law_EndOf := peR_ok (by rintro ⟨l, i⟩ hp; exact law_EndOf l i hp)
end Go.T22
