/- Own text: part TreeB. -/
import Derived.Test.YtjphhddbkjdbnaaTypes2
import Derived.Test.YtjphhddbkjdbnaaEventA
import Derived.Test.YtjphhddbkjdbnaaEventB
import Derived.Test.YtjphhddbkjdbnaaNestA
import Derived.Test.YtjphhddbkjdbnaaNestB
import Derived.Test.YtjphhddbkjdbnaaTreeA
import Derived.Test.YtjphhddbkjdbnaaBaseE
namespace Go.T19
open Go.Proofs Go.Vg Go.RowKit Go.TT Go.Pl Go.T8 Go.T12 Go.T13 Go.T14 Go.T15 Go.T18
set_option linter.unusedVariables false
set_option linter.unusedSimpArgs false
set_option maxRecDepth 10000
set_option maxHeartbeats 4000000
theorem nest_has (l : List Ev) (ev up dc : List Int) (i : Int) (hp : l.length ≤ 1048576) : PF Try.prog 89 [.agg [.fs 8 (l.map evc), .fs 1 (ev.map intc), .fs 1 (up.map intc), .fs 1 (dc.map intc)], .i .i64 i] (.b (decide (0 ≤ i) && decide (i ≤ (l.length : Int) - 1))) := by
  refine ⟨rfl, rfl, FnK.of (cf := mkCf Try.prog te [(115, pe_within)] 11 0 false (fun _ => false) (kp [(0, [1, 2]), (1, [4])]) [] []) (mkCf_ok te_ok (l := [(115, pe_within)]) (⟨pe_within_ok, trivial⟩) mixed_ok) Try.func89 rfl rfl rfl (by simp [mkCf]) (by simp [mkCf]) (rs := [.tmp 4]) rfl 100000 ?_⟩
  simp only [↓XC, XV, entry, isStr, tdOf, szOf, zeroOf, TD.isStruct, okCell, cellsOf, SO.isMap, SO.sz, SO.el, SO.n, SO.ro, mkCf, quietOp, opClass, okLeaf, spl, cellV, isU8T, isSlS, fillS, fillP, repl, SO.put, SV.mapH, frzV, frzVL, frzOk, frzOkL, lendOk, SV.bit, bitL, SV.plain, plainL, isE, mapHL, strip, stripL, gok, gokL, forall_const, implies_true, reduceIte, Nat.reduceAdd, Nat.reduceLT, Nat.reduceEqDiff, Nat.reduceBEq, Nat.reduceLeDiff, reduceCtorEq, Nat.reduceSub, Nat.reduceMul, Int.reduceToNat, Int.reduceLT, Int.reduceLE, TES, pe_within_eq, XRE, XR]
  exact Chk.mk (by simp only [inR]; omega) fun _ => trivial
noncomputable def pe_nest_has : PE := peR (fun (x : List Ev × List Int × List Int × List Int × Int) => match x with | (l, ev, up, dc, i) => [.agg [.fs 8 (l.map evc), .fs 1 (ev.map intc), .fs 1 (up.map intc), .fs 1 (dc.map intc)], .i .i64 i]) (fun (x : List Ev × List Int × List Int × List Int × Int) => match x with | (l, ev, up, dc, i) => l.length ≤ 1048576) (fun (x : List Ev × List Int × List Int × List Int × Int) => match x with | (l, ev, up, dc, i) => .b (decide (0 ≤ i) && decide (i ≤ (l.length : Int) - 1)))
theorem pe_nest_has_eq {l : List Ev} {ev up dc : List Int} {i : Int} : pe_nest_has [.agg [.fs 8 (l.map evc), .fs 1 (ev.map intc), .fs 1 (up.map intc), .fs 1 (dc.map intc)], .i .i64 i] = some (l.length ≤ 1048576, .b (decide (0 ≤ i) && decide (i ≤ (l.length : Int) - 1))) := peR_eq (by rintro ⟨a0, a1, a2, a3, a4⟩ ⟨b0, b1, b2, b3, b4⟩ h; simp_all [evc_inj, intc_inj]) (l, ev, up, dc, i)
theorem pe_nest_has_ok : PE1 Try.prog 89 pe_nest_has := peR_ok (by rintro ⟨l, ev, up, dc, i⟩ hp; exact nest_has l ev up dc i hp)
theorem nest_upOf (l : List Ev) (ev up dc : List Int) (i : Int) (hp : l.length ≤ 1048576 ∧ up.length = l.length) : PF Try.prog 93 [.agg [.fs 8 (l.map evc), .fs 1 (ev.map intc), .fs 1 (up.map intc), .fs 1 (dc.map intc)], .i .i64 i] (.i .i64 (if 0 ≤ i ∧ i < l.length then up.getD i.toNat 0 else -1)) := by
  refine ⟨rfl, rfl, FnK.of (cf := mkCf Try.prog te [(89, pe_nest_has)] 14 0 false (fun _ => false) (kp [(0, [1, 2]), (1, [1, 2, 8]), (2, [4]), (3, [4])]) [] []) (mkCf_ok te_ok (l := [(89, pe_nest_has)]) (⟨pe_nest_has_ok, trivial⟩) mixed_ok) Try.func93 rfl rfl rfl (by simp [mkCf]) (by simp [mkCf]) (rs := [.tmp 4]) rfl 100000 ?_⟩
  simp only [↓XC, XV, entry, isStr, tdOf, szOf, zeroOf, TD.isStruct, okCell, cellsOf, SO.isMap, SO.sz, SO.el, SO.n, SO.ro, mkCf, quietOp, opClass, okLeaf, spl, cellV, isU8T, isSlS, fillS, fillP, repl, SO.put, SV.mapH, frzV, frzVL, frzOk, frzOkL, lendOk, SV.bit, bitL, SV.plain, plainL, isE, mapHL, strip, stripL, gok, gokL, forall_const, implies_true, reduceIte, Nat.reduceAdd, Nat.reduceLT, Nat.reduceEqDiff, Nat.reduceBEq, Nat.reduceLeDiff, reduceCtorEq, Nat.reduceSub, Nat.reduceMul, Int.reduceToNat, Int.reduceLT, Int.reduceLE, TES, pe_nest_has_eq, XRE, XR]
  refine Chk.mk (by omega) fun _ => ⟨fun h => ?_, fun h => ?_⟩
  · rw [if_neg (by simp at h; omega)]
  · simp at h
    exact Chk.mk (by omega) fun _ => by rw [if_pos (by omega)]
noncomputable def pe_nest_upOf : PE := peR (fun (x : List Ev × List Int × List Int × List Int × Int) => match x with | (l, ev, up, dc, i) => [.agg [.fs 8 (l.map evc), .fs 1 (ev.map intc), .fs 1 (up.map intc), .fs 1 (dc.map intc)], .i .i64 i]) (fun (x : List Ev × List Int × List Int × List Int × Int) => match x with | (l, ev, up, dc, i) => l.length ≤ 1048576 ∧ up.length = l.length) (fun (x : List Ev × List Int × List Int × List Int × Int) => match x with | (l, ev, up, dc, i) => .i .i64 (if 0 ≤ i ∧ i < l.length then up.getD i.toNat 0 else -1))
theorem pe_nest_upOf_eq {l : List Ev} {ev up dc : List Int} {i : Int} : pe_nest_upOf [.agg [.fs 8 (l.map evc), .fs 1 (ev.map intc), .fs 1 (up.map intc), .fs 1 (dc.map intc)], .i .i64 i] = some (l.length ≤ 1048576 ∧ up.length = l.length, .i .i64 (if 0 ≤ i ∧ i < l.length then up.getD i.toNat 0 else -1)) := peR_eq (by rintro ⟨a0, a1, a2, a3, a4⟩ ⟨b0, b1, b2, b3, b4⟩ h; simp_all [evc_inj, intc_inj]) (l, ev, up, dc, i)
theorem pe_nest_upOf_ok : PE1 Try.prog 93 pe_nest_upOf := peR_ok (by rintro ⟨l, ev, up, dc, i⟩ hp; exact nest_upOf l ev up dc i hp)
theorem l13Up (l : List Ev) (i : Int) (hp : l.length ≤ 1048576 ∧ 0 ≤ i ∧ i < l.length) : PF Try.prog 92 [.fs 8 (l.map evc), .i .i64 i] (.i .i64 (upB l i.toNat 0)) := by
  refine ⟨rfl, rfl, FnK.of (cf := mkCf Try.prog te [(58, pe_isColl_s)] 31 0 false (fun _ => false) (kp [(0, [0, 1]), (1, [0, 1, 5]), (2, [0, 5, 6]), (3, [0, 5, 6, 10]), (4, [0, 5, 6]), (5, [0, 5, 6, 18]), (6, [0, 5, 6]), (7, [0, 5, 6, 25]), (8, [0, 5, 6, 27]), (9, [4]), (10, [0, 5, 6]), (11, [4])]) [] []) (mkCf_ok te_ok (l := [(58, pe_isColl_s)]) (⟨pe_isColl_s_ok, trivial⟩) mixed_ok) Try.func92 rfl rfl rfl (by simp [mkCf]) (by simp [mkCf]) (rs := [.tmp 4]) rfl 100000 ?_⟩
  simp only [↓XC, XV, entry, isStr, tdOf, szOf, zeroOf, TD.isStruct, okCell, cellsOf, SO.isMap, SO.sz, SO.el, SO.n, SO.ro, mkCf, quietOp, opClass, okLeaf, spl, cellV, isU8T, isSlS, fillS, fillP, repl, SO.put, SV.mapH, frzV, frzVL, frzOk, frzOkL, lendOk, SV.bit, bitL, SV.plain, plainL, isE, mapHL, strip, stripL, gok, gokL, forall_const, implies_true, reduceIte, Nat.reduceAdd, Nat.reduceLT, Nat.reduceEqDiff, Nat.reduceBEq, Nat.reduceLeDiff, reduceCtorEq, Nat.reduceSub, Nat.reduceMul, Int.reduceToNat, Int.reduceLT, Int.reduceLE, TES, pe_isColl_s_eq, XRE, XR]
  refine Chk.mk (by simp only [inR]; omega) fun _ => ?_
  refine VLoops.of (ι := {x : Nat × Nat // x.1 ≤ i.toNat ∧ x.2 + x.1 ≤ i.toNat ∧ upB l x.1 x.2 = upB l i.toNat 0}) (fun x => ⟨[(0, .fs 8 (l.map evc)), (5, .i .i64 (x.1.2 : Nat)), (6, .i .i64 ((x.1.1 : Nat) - 1 : Int))], []⟩) (fun x => x.1.1) ⟨(i.toNat, 0), Nat.le_refl _, by omega, rfl⟩ (by simp only [show ((i.toNat : Nat) : Int) = i by omega]; exact Ent.refl _ _) ?_
  rintro ⟨⟨k, c⟩, hk, hc, hu⟩
  simp only [↓XC, XV, entry, isStr, tdOf, szOf, zeroOf, TD.isStruct, okCell, cellsOf, SO.isMap, SO.sz, SO.el, SO.n, SO.ro, mkCf, quietOp, opClass, okLeaf, spl, cellV, isU8T, isSlS, fillS, fillP, repl, SO.put, SV.mapH, frzV, frzVL, frzOk, frzOkL, lendOk, SV.bit, bitL, SV.plain, plainL, isE, mapHL, strip, stripL, gok, gokL, forall_const, implies_true, reduceIte, Nat.reduceAdd, Nat.reduceLT, Nat.reduceEqDiff, Nat.reduceBEq, Nat.reduceLeDiff, reduceCtorEq, Nat.reduceSub, Nat.reduceMul, Int.reduceToNat, Int.reduceLT, Int.reduceLE, TES, pe_isColl_s_eq, XRE]
  simp only at hk hc hu
  rcases k with _ | m
  · exact ⟨fun h => by omega, fun _ => by rw [← hu]; rfl⟩
  simp only [show ((m + 1 : Nat) : Int) - 1 = (m : Int) by omega, Int.toNat_natCast]
  simp only [upB] at hu
  refine ⟨fun _ => Chk.mk (by omega) fun _ => ⟨fun h7 => ?_, fun h7 => ?_⟩, fun h => by omega⟩
  · rw [if_pos h7] at hu
    have hcf : isColl (l.getD m evz).kind = false := by rw [h7]; decide
    refine Chk.mk (by simp only [inR]; omega) fun _ => Chk.mk (by omega) fun _ => ⟨fun h => (by rw [hcf] at h; cases h), fun _ => Chk.mk (by simp only [inR]; omega) fun _ => ⟨⟨(m, c + 1), by simp only; omega, by simp only; omega, hu⟩, by simp only; omega, ?_⟩⟩
    simp only [Int.natCast_add, Int.natCast_one]
    exact Ent.refl _ _
  · rw [if_neg h7] at hu
    refine Chk.mk (by omega) fun _ => ⟨fun hcl => ?_, fun hcl => ?_⟩
    · rw [if_pos hcl] at hu
      refine ⟨fun h0 => ?_, fun h0 => Chk.mk (by simp only [inR]; omega) fun _ => Chk.mk (by simp only [inR]; omega) fun _ => ?_⟩
      · rw [if_pos (by omega)] at hu; rw [hu]
      · rw [if_neg (by omega)] at hu
        refine ⟨⟨(m, c - 1), by simp only; omega, by simp only; omega, hu⟩, by simp only; omega, ?_⟩
        simp only [show ((c - 1 : Nat) : Int) = (c : Int) - 1 by omega]
        exact Ent.refl _ _
    · rw [if_neg (by rw [hcl]; simp)] at hu
      exact Chk.mk (by simp only [inR]; omega) fun _ => ⟨⟨(m, c), by simp only; omega, by simp only; omega, hu⟩, by simp only; omega, Ent.refl _ _⟩
noncomputable def pe_l13Up : PE := peR (fun (x : List Ev × Int) => match x with | (l, i) => [.fs 8 (l.map evc), .i .i64 i]) (fun (x : List Ev × Int) => match x with | (l, i) => l.length ≤ 1048576 ∧ 0 ≤ i ∧ i < l.length) (fun (x : List Ev × Int) => match x with | (l, i) => .i .i64 (upB l i.toNat 0))
theorem pe_l13Up_eq {l : List Ev} {i : Int} : pe_l13Up [.fs 8 (l.map evc), .i .i64 i] = some (l.length ≤ 1048576 ∧ 0 ≤ i ∧ i < l.length, .i .i64 (upB l i.toNat 0)) := peR_eq (by rintro ⟨a0, a1⟩ ⟨b0, b1⟩ h; simp_all [evc_inj]) (l, i)
theorem pe_l13Up_ok : PE1 Try.prog 92 pe_l13Up := peR_ok (by rintro ⟨l, i⟩ hp; exact l13Up l i hp)
end Go.T19
