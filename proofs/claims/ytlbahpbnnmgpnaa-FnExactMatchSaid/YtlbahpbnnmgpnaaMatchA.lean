/- Own text: part MatchA. -/
import Derived.Test.YtlbahpbnnmgpnaaTypes2
import Derived.Test.YtlbahpbnnmgpnaaTextA
import Derived.Test.YtlbahpbnnmgpnaaVgEv
import Derived.Test.YtlbahpbnnmgpnaaVgSg
import Derived.Test.YtlbahpbnnmgpnaaPlQ
import Derived.Test.YtlbahpbnnmgpnaaSegA
import Derived.Test.YtlbahpbnnmgpnaaMatchW
namespace Go.T29
open Go.Proofs Go.Vg Go.RowKit Go.TT Go.Pl Go.T8 Go.T27 Go.T28
set_option linter.unusedVariables false
set_option linter.unusedSimpArgs false
set_option maxRecDepth 10000
set_option maxHeartbeats 4000000
theorem law_Match (p l : List Sg) (hp : (p.length ≤ 9223372036854775807 ∧ (∀ i, i < p.length → (p.getD i sgz).text.length ≤ 9223372036854775807)) ∧ l.length ≤ 9223372036854775807 ∧ (∀ i, i < l.length → (l.getD i sgz).text.length ≤ 9223372036854775807)) : PF Try.prog 8 [.fs 3 (p.map segc), .fs 3 (l.map segc)] (.b true) := by
  refine ⟨rfl, rfl, FnK.of (cf := mkCf Try.prog te [(32, pe_szSegS), (34, pe_toSegS), (33, pe_Match_s), (24, pe_Match_i), (35, pe_eqSegS)] 45 0 false (fun _ => false) (kp [(0, [0, 1]), (1, [0, 1, 5]), (2, [0, 1, 5]), (3, [0, 1, 5, 14]), (4, [4]), (5, [0, 1, 5]), (6, [0, 1, 19]), (7, [4]), (8, [0, 1, 6]), (9, [0, 1, 6, 7]), (10, [0, 1, 6, 7, 8]), (11, [0, 1, 6, 7, 8, 9]), (12, [0, 1, 7, 8, 34]), (13, [4]), (14, [1, 8, 39]), (15, [4]), (16, [44]), (17, [4]), (18, [4])]) [] []) (mkCf_ok te_ok (l := [(32, pe_szSegS), (34, pe_toSegS), (33, pe_Match_s), (24, pe_Match_i), (35, pe_eqSegS)]) (⟨pe_szSegS_ok, pe_toSegS_ok, pe_Match_s_ok, pe_Match_i_ok, pe_eqSegS_ok, trivial⟩) mixed_ok) Try.func8 rfl rfl rfl (by simp [mkCf]) (by simp [mkCf]) (rs := [.tmp 4]) rfl 100000 ?_⟩
  simp only [↓XC, XV, entry, isStr, tdOf, szOf, zeroOf, TD.isStruct, okCell, cellsOf, SO.isMap, SO.sz, SO.el, SO.n, SO.ro, mkCf, quietOp, opClass, okLeaf, spl, cellV, isU8T, isSlS, fillS, fillP, repl, SO.put, SV.mapH, frzV, frzVL, frzOk, frzOkL, lendOk, SV.bit, bitL, SV.plain, plainL, isE, mapHL, strip, stripL, gok, gokL, forall_const, implies_true, reduceIte, Nat.reduceAdd, Nat.reduceLT, Nat.reduceEqDiff, Nat.reduceBEq, Nat.reduceLeDiff, reduceCtorEq, Nat.reduceSub, Nat.reduceMul, Int.reduceToNat, Int.reduceLT, Int.reduceLE, TES, pe_szSegS_eq, pe_toSegS_eq, pe_Match_s_eq, pe_Match_i_eq, pe_eqSegS_eq, XRS]
  refine Chk.mk hp.1 fun _ h1 => ?_
  have e1 : (if (1048576 : Int) < p.length + sgW p then (-1 : Int) else 1048576 - (p.length + sgW p)) = 1048576 - (p.length + sgW p) := by rw [if_neg]; intro h; rw [if_pos h] at h1; omega
  rw [e1] at h1 ⊢
  refine Chk.mk ⟨by omega, by omega, hp.2⟩ fun _ h2 => ?_
  have e2 : (l.length : Int) + sgW l ≤ 1048576 - (p.length + sgW p) := by split at h2 <;> omega
  repeat refine Chk.mk (by omega) fun _ => ?_
  trivial
noncomputable def pe_law_Match : PE := peR (fun (x : List Sg × List Sg) => match x with | (p, l) => [.fs 3 (p.map segc), .fs 3 (l.map segc)]) (fun (x : List Sg × List Sg) => match x with | (p, l) => (p.length ≤ 9223372036854775807 ∧ (∀ i, i < p.length → (p.getD i sgz).text.length ≤ 9223372036854775807)) ∧ l.length ≤ 9223372036854775807 ∧ (∀ i, i < l.length → (l.getD i sgz).text.length ≤ 9223372036854775807)) (fun (x : List Sg × List Sg) => match x with | (p, l) => .b true)
theorem pe_law_Match_eq {p l : List Sg} : pe_law_Match [.fs 3 (p.map segc), .fs 3 (l.map segc)] = some ((p.length ≤ 9223372036854775807 ∧ (∀ i, i < p.length → (p.getD i sgz).text.length ≤ 9223372036854775807)) ∧ l.length ≤ 9223372036854775807 ∧ (∀ i, i < l.length → (l.getD i sgz).text.length ≤ 9223372036854775807), .b true) := peR_eq (by rintro ⟨a0, a1⟩ ⟨b0, b1⟩ h; simp_all [segc_inj]) (p, l)
theorem pe_law_Match_ok : PE1 Try.prog 8 pe_law_Match := peR_ok (by rintro ⟨p, l⟩ hp; exact law_Match p l hp)
end Go.T29
