/- Own text: part DirectiveA. -/
import Derived.Test.YtlbahpbnnmgpnaaTypes2
import Derived.Test.YtlbahpbnnmgpnaaDirectiveP
namespace Go.T10
open Go.Proofs Go.Vg Go.RowKit Go.TT Go.Pl Go.T8 Go.T9
set_option linter.unusedVariables false
set_option linter.unusedSimpArgs false
set_option maxRecDepth 10000
set_option maxHeartbeats 4000000
theorem law_DirectiveAt (s : Bs) (p : Int) : PF Try.prog 9 [.s s, .i .i64 p] (.b true) := by
  refine ⟨rfl, rfl, FnK.of (cf := mkCf Try.prog te [(36, pe_DirectiveAt_s), (38, pe_eqStringS), (40, pe_heldStringS)] 71 0 false (fun _ => false) (kp [(0, [0, 1]), (1, [0, 1, 15]), (2, [4]), (3, [0, 1, 5, 6]), (4, [0, 1, 5, 6, 7, 8]), (5, [0, 1, 5, 6, 7, 36]), (6, [4]), (7, [0, 1, 5, 6, 7, 9]), (8, [0, 1, 5, 6, 7, 9]), (9, [0, 1, 5, 6, 7, 9, 10]), (10, [0, 1, 5, 6, 7, 9, 10]), (11, [0, 1, 5, 6, 7, 9, 10, 44]), (12, [4]), (13, [0, 1, 5, 6, 7, 9, 47]), (14, [4]), (15, [5, 6, 7, 9, 11, 12]), (16, [7, 9, 62]), (17, [4]), (18, [7, 9, 10]), (19, [9, 10]), (20, [9, 10, 67]), (21, [4]), (22, [70]), (23, [4]), (24, [4])]) [] []) (mkCf_ok te_ok (l := [(36, pe_DirectiveAt_s), (38, pe_eqStringS), (40, pe_heldStringS)]) (⟨pe_DirectiveAt_s_ok, pe_eqStringS_ok, pe_heldStringS_ok, trivial⟩) mixed_ok) Try.func9 rfl rfl rfl (by simp [mkCf]) (by simp [mkCf]) (rs := [.tmp 4]) rfl 100000 ?_⟩
  simp only [↓XC, XV, entry, isStr, tdOf, szOf, zeroOf, TD.isStruct, okCell, cellsOf, SO.isMap, SO.sz, SO.el, SO.n, SO.ro, mkCf, quietOp, opClass, okLeaf, spl, cellV, isU8T, isSlS, fillS, fillP, repl, SO.put, SV.mapH, frzV, frzVL, frzOk, frzOkL, lendOk, SV.bit, bitL, SV.plain, plainL, isE, mapHL, strip, stripL, gok, gokL, forall_const, implies_true, reduceIte, Nat.reduceAdd, Nat.reduceLT, Nat.reduceEqDiff, Nat.reduceBEq, Nat.reduceLeDiff, reduceCtorEq, Nat.reduceSub, Nat.reduceMul, Int.reduceToNat, Int.reduceLT, Int.reduceLE, TES, pe_DirectiveAt_s_eq, pe_eqStringS_eq, pe_heldStringS_eq]
  refine fun h => Chk.mk (by omega) fun _ => ?_
  have hw := DirectiveAt_i_own s p (by omega)
  refine XCalls.own hw rfl ?_
  have hD := dirs_len s (en s (spot s p)) (spot s p)
  have hE := en_le s _ (spot_le s p)
  generalize dirs s (en s (spot s p)) (spot s p) = D at *
  simp only [↓XC, XV, entry, isStr, tdOf, szOf, zeroOf, TD.isStruct, okCell, cellsOf, SO.isMap, SO.sz, SO.el, SO.n, SO.ro, mkCf, quietOp, opClass, okLeaf, spl, cellV, isU8T, isSlS, fillS, fillP, repl, SO.put, SV.mapH, frzV, frzVL, frzOk, frzOkL, lendOk, SV.bit, bitL, SV.plain, plainL, isE, mapHL, strip, stripL, gok, gokL, forall_const, implies_true, reduceIte, Nat.reduceAdd, Nat.reduceLT, Nat.reduceEqDiff, Nat.reduceBEq, Nat.reduceLeDiff, reduceCtorEq, Nat.reduceSub, Nat.reduceMul, Int.reduceToNat, Int.reduceLT, Int.reduceLE, TES, pe_DirectiveAt_s_eq, pe_eqStringS_eq, pe_heldStringS_eq, XR, rowE_list, mkL_length]
  refine Chk.mk ⟨Nat.le_refl _, by omega⟩ fun _ => ?_
  refine XCalls.mut (markStringS D 1 (by omega)) rfl [0] (by simp [mapHL, SV.mapH, muL]) (by simp only [ctxMap, at_cons_zero, at_cons_succ, and_true, List.length_cons, List.length_nil]; exact ⟨by omega, soLe_same fun _ => rfl⟩) (by decide) ?_
  simp only [↓XC, XV, entry, isStr, tdOf, szOf, zeroOf, TD.isStruct, okCell, cellsOf, SO.isMap, SO.sz, SO.el, SO.n, SO.ro, mkCf, quietOp, opClass, okLeaf, spl, cellV, isU8T, isSlS, fillS, fillP, repl, SO.put, SV.mapH, frzV, frzVL, frzOk, frzOkL, lendOk, SV.bit, bitL, SV.plain, plainL, isE, mapHL, strip, stripL, gok, gokL, forall_const, implies_true, reduceIte, Nat.reduceAdd, Nat.reduceLT, Nat.reduceEqDiff, Nat.reduceBEq, Nat.reduceLeDiff, reduceCtorEq, Nat.reduceSub, Nat.reduceMul, Int.reduceToNat, Int.reduceLT, Int.reduceLE, TES, pe_DirectiveAt_s_eq, pe_eqStringS_eq, pe_heldStringS_eq, XR, rowE_list, mkL_length, mergeC, upd, muL, List.getElem?_nil, List.drop_nil, Option.map_none]
  refine Chk.mk ⟨Nat.le_refl _, by omega⟩ fun _ => ⟨fun h => by omega, fun h => ?_⟩
  refine XCalls.own hw rfl ?_
  simp only [↓XC, XV, entry, isStr, tdOf, szOf, zeroOf, TD.isStruct, okCell, cellsOf, SO.isMap, SO.sz, SO.el, SO.n, SO.ro, mkCf, quietOp, opClass, okLeaf, spl, cellV, isU8T, isSlS, fillS, fillP, repl, SO.put, SV.mapH, frzV, frzVL, frzOk, frzOkL, lendOk, SV.bit, bitL, SV.plain, plainL, isE, mapHL, strip, stripL, gok, gokL, forall_const, implies_true, reduceIte, Nat.reduceAdd, Nat.reduceLT, Nat.reduceEqDiff, Nat.reduceBEq, Nat.reduceLeDiff, reduceCtorEq, Nat.reduceSub, Nat.reduceMul, Int.reduceToNat, Int.reduceLT, Int.reduceLE, TES, pe_DirectiveAt_s_eq, pe_eqStringS_eq, pe_heldStringS_eq, XR, rowE_list, mkL_length, mergeC, upd, muL, List.getElem?_nil, List.drop_nil, Option.map_none]
  exact Chk.mk ⟨Nat.le_refl _, by omega⟩ fun _ => Chk.mk ⟨Nat.le_refl _, by omega⟩ fun _ h => by omega
noncomputable def pe_law_DirectiveAt : PE := peR (fun (x : Bs × Int) => match x with | (s, p) => [.s s, .i .i64 p]) (fun (x : Bs × Int) => match x with | (s, p) => True) (fun (x : Bs × Int) => match x with | (s, p) => .b true)
theorem pe_law_DirectiveAt_eq {s : Bs} {p : Int} : pe_law_DirectiveAt [.s s, .i .i64 p] = some (True, .b true) := peR_eq (by rintro ⟨a0, a1⟩ ⟨b0, b1⟩ h; simp_all []) (s, p)
theorem pe_law_DirectiveAt_ok : PE1 Try.prog 9 pe_law_DirectiveAt := peR_ok (by rintro ⟨s, p⟩ hp; exact law_DirectiveAt s p)
end Go.T10
