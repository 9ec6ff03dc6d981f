/- Own text: part ValueL. -/
import Derived.Test.YtlbahpbnnmgpnaaTypes2
import Derived.Test.YtlbahpbnnmgpnaaValueA
import Derived.Test.YtlbahpbnnmgpnaaEventA
import Derived.Test.YtlbahpbnnmgpnaaVgEv
import Derived.Test.YtlbahpbnnmgpnaaPlV
namespace Go.T25
open Go.Proofs Go.Vg Go.RowKit Go.TT Go.Pl Go.T6 Go.T8 Go.T12 Go.T24
set_option linter.unusedVariables false
set_option linter.unusedSimpArgs false
set_option maxRecDepth 10000
set_option maxHeartbeats 4000000
theorem eqValue (k1 n1 : Int) (b1 : Bool) (s1 : Bs) (k2 n2 : Int) (b2 : Bool) (s2 : Bs) : PF Try.prog 52 [.agg [.i .i64 k1, .i .i64 n1, .b b1, .s s1], .agg [.i .i64 k2, .i .i64 n2, .b b2, .s s2]] (.b (decide (k1 = k2 ∧ n1 = n2 ∧ b1 = b2 ∧ s1 = s2))) := by
  refine ⟨rfl, rfl, FnK.of (cf := mkCf Try.prog te [] 25 0 false (fun _ => false) (kp [(0, [2, 3]), (1, [2, 3, 9]), (2, [4]), (3, [2, 3, 14]), (4, [4]), (5, [2, 3, 19]), (6, [4]), (7, [24]), (8, [4]), (9, [4])]) [] []) (mkCf_ok te_ok (l := []) (trivial) mixed_ok) Try.func52 rfl rfl rfl (by simp [mkCf]) (by simp [mkCf]) (rs := [.tmp 4]) rfl 100000 ?_⟩
  simp only [↓XC, XV, entry, isStr, tdOf, szOf, zeroOf, TD.isStruct, okCell, cellsOf, SO.isMap, SO.sz, SO.el, SO.n, SO.ro, mkCf, quietOp, opClass, okLeaf, spl, cellV, isU8T, isSlS, fillS, fillP, repl, SO.put, SV.mapH, frzV, frzVL, frzOk, frzOkL, lendOk, SV.bit, bitL, SV.plain, plainL, isE, mapHL, strip, stripL, gok, gokL, forall_const, implies_true, reduceIte, Nat.reduceAdd, Nat.reduceLT, Nat.reduceEqDiff, Nat.reduceBEq, Nat.reduceLeDiff, reduceCtorEq, Nat.reduceSub, Nat.reduceMul, Int.reduceToNat, Int.reduceLT, Int.reduceLE, TES]
  repeat' (first | with_reducible refine Chk.mk ?_ fun _ => ?_ | with_reducible refine And.intro ?_ ?_ | intro _)
  all_goals simp_all
noncomputable def pe_eqValue : PE := peR (fun (x : Int × Int × Bool × Bs × Int × Int × Bool × Bs) => match x with | (k1, n1, b1, s1, k2, n2, b2, s2) => [.agg [.i .i64 k1, .i .i64 n1, .b b1, .s s1], .agg [.i .i64 k2, .i .i64 n2, .b b2, .s s2]]) (fun (x : Int × Int × Bool × Bs × Int × Int × Bool × Bs) => match x with | (k1, n1, b1, s1, k2, n2, b2, s2) => True) (fun (x : Int × Int × Bool × Bs × Int × Int × Bool × Bs) => match x with | (k1, n1, b1, s1, k2, n2, b2, s2) => .b (decide (k1 = k2 ∧ n1 = n2 ∧ b1 = b2 ∧ s1 = s2)))
theorem pe_eqValue_eq {k1 n1 : Int} {b1 : Bool} {s1 : Bs} {k2 n2 : Int} {b2 : Bool} {s2 : Bs} : pe_eqValue [.agg [.i .i64 k1, .i .i64 n1, .b b1, .s s1], .agg [.i .i64 k2, .i .i64 n2, .b b2, .s s2]] = some (True, .b (decide (k1 = k2 ∧ n1 = n2 ∧ b1 = b2 ∧ s1 = s2))) := peR_eq (by rintro ⟨a0, a1, a2, a3, a4, a5, a6, a7⟩ ⟨b0, b1, b2, b3, b4, b5, b6, b7⟩ h; simp_all []) (k1, n1, b1, s1, k2, n2, b2, s2)
theorem pe_eqValue_ok : PE1 Try.prog 52 pe_eqValue := peR_ok (by rintro ⟨k1, n1, b1, s1, k2, n2, b2, s2⟩ hp; exact eqValue k1 n1 b1 s1 k2 n2 b2 s2)
theorem law_ValueOf (k st : Int) (fl : Bool) (x a g : Bs) (p c : Int) (hp : x.length ≤ 9223372036854775807 ∧ a.length ≤ 9223372036854775807 ∧ g.length ≤ 9223372036854775807) : PF Try.prog 12 [.agg [.i .i64 k, .i .i64 st, .b fl, .s x, .s a, .s g, .i .i64 p, .i .i64 c]] (.b true) := by
  refine ⟨rfl, rfl, FnK.of (cf := mkCf Try.prog te [(49, pe_szEvent), (51, pe_toEvent), (50, pe_ValueOf_s), (43, pe_ValueOf_i), (52, pe_eqValue)] 21 0 false (fun _ => false) (kp [(0, [1]), (1, [1, 3]), (2, [1, 3]), (3, [1, 10]), (4, [2]), (5, [1, 4]), (6, [4, 5]), (7, [20]), (8, [2]), (9, [2])]) [] []) (mkCf_ok te_ok (l := [(49, pe_szEvent), (51, pe_toEvent), (50, pe_ValueOf_s), (43, pe_ValueOf_i), (52, pe_eqValue)]) (⟨pe_szEvent_ok, pe_toEvent_ok, pe_ValueOf_s_ok, pe_ValueOf_i_ok, pe_eqValue_ok, trivial⟩) mixed_ok) Try.func12 rfl rfl rfl (by simp [mkCf]) (by simp [mkCf]) (rs := [.tmp 2]) rfl 100000 ?_⟩
  simp only [↓XC, XV, entry, isStr, tdOf, szOf, zeroOf, TD.isStruct, okCell, cellsOf, SO.isMap, SO.sz, SO.el, SO.n, SO.ro, mkCf, quietOp, opClass, okLeaf, spl, cellV, isU8T, isSlS, fillS, fillP, repl, SO.put, SV.mapH, frzV, frzVL, frzOk, frzOkL, lendOk, SV.bit, bitL, SV.plain, plainL, isE, mapHL, strip, stripL, gok, gokL, forall_const, implies_true, reduceIte, Nat.reduceAdd, Nat.reduceLT, Nat.reduceEqDiff, Nat.reduceBEq, Nat.reduceLeDiff, reduceCtorEq, Nat.reduceSub, Nat.reduceMul, Int.reduceToNat, Int.reduceLT, Int.reduceLE, TES, pe_szEvent_eq, pe_toEvent_eq, pe_ValueOf_s_eq, pe_ValueOf_i_eq, pe_eqValue_eq]
  exact Chk.mk hp fun _ h => by
    have hs : (x.length : Int) + a.length + g.length ≤ 1048576 := by split at h <;> omega
    exact Chk.mk ⟨by omega, by omega, by omega⟩ fun _ => Chk.mk (by omega) fun _ => trivial
noncomputable def pe_law_ValueOf : PE := peR (fun (x : Int × Int × Bool × Bs × Bs × Bs × Int × Int) => match x with | (k, st, fl, x, a, g, p, c) => [.agg [.i .i64 k, .i .i64 st, .b fl, .s x, .s a, .s g, .i .i64 p, .i .i64 c]]) (fun (x : Int × Int × Bool × Bs × Bs × Bs × Int × Int) => match x with | (k, st, fl, x, a, g, p, c) => x.length ≤ 9223372036854775807 ∧ a.length ≤ 9223372036854775807 ∧ g.length ≤ 9223372036854775807) (fun (x : Int × Int × Bool × Bs × Bs × Bs × Int × Int) => match x with | (k, st, fl, x, a, g, p, c) => .b true)
theorem pe_law_ValueOf_eq {k st : Int} {fl : Bool} {x a g : Bs} {p c : Int} : pe_law_ValueOf [.agg [.i .i64 k, .i .i64 st, .b fl, .s x, .s a, .s g, .i .i64 p, .i .i64 c]] = some (x.length ≤ 9223372036854775807 ∧ a.length ≤ 9223372036854775807 ∧ g.length ≤ 9223372036854775807, .b true) := peR_eq (by rintro ⟨a0, a1, a2, a3, a4, a5, a6, a7⟩ ⟨b0, b1, b2, b3, b4, b5, b6, b7⟩ h; simp_all []) (k, st, fl, x, a, g, p, c)
theorem pe_law_ValueOf_ok : PE1 Try.prog 12 pe_law_ValueOf := peR_ok (by rintro ⟨k, st, fl, x, a, g, p, c⟩ hp; exact law_ValueOf k st fl x a g p c hp)
end Go.T25
