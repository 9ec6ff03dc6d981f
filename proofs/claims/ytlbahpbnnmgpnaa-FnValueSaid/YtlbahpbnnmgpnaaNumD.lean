/- Own text: part NumD. -/
import Derived.Test.YtlbahpbnnmgpnaaTypes2
import Derived.Test.YtlbahpbnnmgpnaaIntA
import Derived.Test.YtlbahpbnnmgpnaaTextA
import Derived.Test.YtlbahpbnnmgpnaaDrawA
import Derived.Test.YtlbahpbnnmgpnaaNumA
import Derived.Test.YtlbahpbnnmgpnaaNumB
import Derived.Test.YtlbahpbnnmgpnaaValueA
import Derived.Test.YtlbahpbnnmgpnaaBaseE
import Derived.Test.YtlbahpbnnmgpnaaVgSg
import Derived.Test.YtlbahpbnnmgpnaaVgDr
import Derived.Test.YtlbahpbnnmgpnaaPlW
namespace Go.T38
open Go.Proofs Go.Vg Go.RowKit Go.TT Go.Pl Go.T31 Go.T36 Go.T37 Go.T24
open Go.T6 (intV pe_implIntOf pe_implIntOf_eq pe_implIntOf_ok)
set_option linter.unusedVariables false
set_option linter.unusedSimpArgs false
set_option maxRecDepth 10000
set_option maxHeartbeats 4000000
theorem MakeBytes_own (cd : Bs) (hp : cd.length ≤ 1048576) : FnK Try.prog 41 0 [.fs 1 (cd.map bytc)] [] (fun z c => z = .slc 0 0 (drMake cd).1.length ∧ c = [some (.row false 1 (drMake cd).1.length (rowE bytc 0 (drMake cd).1))]) := by
  refine FnK.ofE (cf := mkCf Try.prog te [] 10 0 false (fun _ => false) (kp [(0, [0]), (1, [3]), (2, [4]), (3, [2])]) [] []) (mkCf_ok te_ok (l := []) (trivial) mixed_ok) Try.func41 rfl rfl rfl (by simp [mkCf]) (by simp [mkCf]) (rs := [.tmp 2]) rfl 100000 ?_
  simp only [↓XC, XV, entry, isStr, tdOf, szOf, zeroOf, TD.isStruct, okCell, cellsOf, SO.isMap, SO.sz, SO.el, SO.n, SO.ro, mkCf, quietOp, opClass, okLeaf, spl, cellV, isU8T, isSlS, fillS, fillP, repl, SO.put, SV.mapH, frzV, frzVL, frzOk, frzOkL, lendOk, SV.bit, bitL, SV.plain, plainL, isE, mapHL, strip, stripL, gok, gokL, forall_const, implies_true, reduceIte, Nat.reduceAdd, Nat.reduceLT, Nat.reduceEqDiff, Nat.reduceBEq, Nat.reduceLeDiff, reduceCtorEq, Nat.reduceSub, Nat.reduceMul, Int.reduceToNat, Int.reduceLT, Int.reduceLE, TES, XR]
  refine XCalls.own (l01New_own cd hp) rfl ?_
  simp only [↓XC, XV, entry, isStr, tdOf, szOf, zeroOf, TD.isStruct, okCell, cellsOf, SO.isMap, SO.sz, SO.el, SO.n, SO.ro, mkCf, quietOp, opClass, okLeaf, spl, cellV, isU8T, isSlS, fillS, fillP, repl, SO.put, SV.mapH, frzV, frzVL, frzOk, frzOkL, lendOk, SV.bit, bitL, SV.plain, plainL, isE, mapHL, strip, stripL, gok, gokL, forall_const, implies_true, reduceIte, Nat.reduceAdd, Nat.reduceLT, Nat.reduceEqDiff, Nat.reduceBEq, Nat.reduceLeDiff, reduceCtorEq, Nat.reduceSub, Nat.reduceMul, Int.reduceToNat, Int.reduceLT, Int.reduceLE, TES, XR, mergeC, upd, muL, List.getElem?_nil, List.drop_nil, Option.map_none, SO.mapH, List.getElem?_cons_zero, List.getElem?_cons_succ]
  refine XCalls.mut (l01Bytes cd (drNew cd) 40 ⟨drNew_le, hp, by decide, by decide⟩) rfl [0] (by simp [mapHL, SV.mapH, muL]) (by simp only [ctxMap, at_cons_zero, at_cons_succ, and_true, List.length_cons, List.length_nil]; exact ⟨by omega, soLe_blk rfl⟩) (by decide) ?_
  simp only [↓XC, XV, entry, isStr, tdOf, szOf, zeroOf, TD.isStruct, okCell, cellsOf, SO.isMap, SO.sz, SO.el, SO.n, SO.ro, mkCf, quietOp, opClass, okLeaf, spl, cellV, isU8T, isSlS, fillS, fillP, repl, SO.put, SV.mapH, frzV, frzVL, frzOk, frzOkL, lendOk, SV.bit, bitL, SV.plain, plainL, isE, mapHL, strip, stripL, gok, gokL, forall_const, implies_true, reduceIte, Nat.reduceAdd, Nat.reduceLT, Nat.reduceEqDiff, Nat.reduceBEq, Nat.reduceLeDiff, reduceCtorEq, Nat.reduceSub, Nat.reduceMul, Int.reduceToNat, Int.reduceLT, Int.reduceLE, TES, XR, mergeC, upd, muL, List.getElem?_nil, List.drop_nil, Option.map_none, SO.mapH, List.getElem?_cons_zero, List.getElem?_cons_succ]
  have e : drBytes cd (drBelow cd (40 + 1) (drNew cd)).1.toNat [] (drBelow cd (40 + 1) (drNew cd)).2 = drMake cd := rfl
  rw [e]
  exact ⟨[1], by decide, by simp only [entCtx, at_cons_zero, at_cons_succ, and_true, true_and]; exact soLe_row fun j hj => rfl, by simp only [↓XC, XV, entry, isStr, tdOf, szOf, zeroOf, TD.isStruct, okCell, cellsOf, SO.isMap, SO.sz, SO.el, SO.n, SO.ro, mkCf, quietOp, opClass, okLeaf, spl, cellV, isU8T, isSlS, fillS, fillP, repl, SO.put, SV.mapH, frzV, frzVL, frzOk, frzOkL, lendOk, SV.bit, bitL, SV.plain, plainL, isE, mapHL, strip, stripL, gok, gokL, forall_const, implies_true, reduceIte, Nat.reduceAdd, Nat.reduceLT, Nat.reduceEqDiff, Nat.reduceBEq, Nat.reduceLeDiff, reduceCtorEq, Nat.reduceSub, Nat.reduceMul, Int.reduceToNat, Int.reduceLT, Int.reduceLE]; try simp [muL, SV.mapH, mapHL], by simp [newRw, SO.ro], by simp⟩
theorem MakeBytes (cd : Bs) (hp : cd.length ≤ 1048576) : PF Try.prog 41 [.fs 1 (cd.map bytc)] (.fs 1 ((drMake cd).1.map bytc)) := PF.ofOwn (MakeBytes_own cd hp) rfl rfl (by simp only [frzOk, frzOkL, frzV, frzVL, at_cons_zero, and_true]; exact ⟨⟨by omega, fun j hj => ⟨rfl, rfl⟩⟩, by rw [rowE_list rfl]⟩)
noncomputable def pe_MakeBytes : PE := peR (fun (cd : Bs) => [.fs 1 (cd.map bytc)]) (fun (cd : Bs) => cd.length ≤ 1048576) (fun (cd : Bs) => .fs 1 ((drMake cd).1.map bytc))
theorem pe_MakeBytes_eq {cd : Bs} : pe_MakeBytes [.fs 1 (cd.map bytc)] = some (cd.length ≤ 1048576, .fs 1 ((drMake cd).1.map bytc)) := peR_eq (by rintro a b h; simp_all [bytc_inj]) cd
theorem pe_MakeBytes_ok : PE1 Try.prog 41 pe_MakeBytes := peR_ok (by rintro cd hp; exact MakeBytes cd hp)
theorem law_FnValue (cd : Bs) (hp : cd.length ≤ 9223372036854775807) : PF Try.prog 10 [.fs 1 (cd.map bytc)] (.b true) := by
  refine ⟨rfl, rfl, FnK.of (cf := mkCf Try.prog te [(41, pe_MakeBytes), (42, pe_NumText), (26, pe_implIntOf), (43, pe_ValueOf_i), (22, pe_ValueText3)] 96 0 false (fun _ => false) (kp [(0, [0]), (1, [0, 16]), (2, [2]), (3, [3]), (4, [3, 4]), (5, [4, 19, 20, 21]), (6, [4, 19, 20, 21, 22]), (7, [4, 6, 19, 20, 21]), (8, [4, 19, 20, 21]), (9, [4, 19, 20, 21]), (10, [4, 7]), (11, [4, 7, 8, 9]), (12, [4, 7, 8, 9, 10, 11]), (13, [4, 7, 8, 9, 10, 11, 12]), (14, [4, 7, 8, 9, 10, 11, 12, 13]), (15, [2])]) [] []) (mkCf_ok te_ok (l := [(41, pe_MakeBytes), (42, pe_NumText), (26, pe_implIntOf), (43, pe_ValueOf_i), (22, pe_ValueText3)]) (⟨pe_MakeBytes_ok, pe_NumText_ok, pe_implIntOf_ok, pe_ValueOf_i_ok, pe_ValueText3_ok, trivial⟩) mixed_ok) Try.func10 rfl rfl rfl (by simp [mkCf]) (by simp [mkCf]) (rs := [.tmp 2]) rfl 100000 ?_⟩
  simp only [↓XC, XV, entry, isStr, tdOf, szOf, zeroOf, TD.isStruct, okCell, cellsOf, SO.isMap, SO.sz, SO.el, SO.n, SO.ro, mkCf, quietOp, opClass, okLeaf, spl, cellV, isU8T, isSlS, fillS, fillP, repl, SO.put, SV.mapH, frzV, frzVL, frzOk, frzOkL, lendOk, SV.bit, bitL, SV.plain, plainL, isE, mapHL, strip, stripL, gok, gokL, forall_const, implies_true, reduceIte, Nat.reduceAdd, Nat.reduceLT, Nat.reduceEqDiff, Nat.reduceBEq, Nat.reduceLeDiff, reduceCtorEq, Nat.reduceSub, Nat.reduceMul, Int.reduceToNat, Int.reduceLT, Int.reduceLE, TES, pe_MakeBytes_eq, pe_NumText_eq, pe_implIntOf_eq, pe_ValueOf_i_eq, pe_ValueText3_eq, XR]
  refine fun h => Chk.mk (by omega) fun _ => ?_
  have hL := drMake_len (cd := cd)
  generalize (drMake cd).1 = l at *
  refine VLoops.of (ι := {x : Nat × Int // x.1 ≤ l.length ∧ 0 ≤ x.2 ∧ x.2 < 1000000007}) (fun x => ⟨[(4, .i .i64 x.1.2), (19, .fs 1 (l.map bytc)), (20, .i .i64 (l.length : Nat)), (21, .i .i64 (x.1.1 : Nat))], []⟩) (fun x => l.length - x.1.1) ⟨(0, 0), Nat.zero_le _, by decide, by decide⟩ (Ent.refl _ _) ?_
  rintro ⟨⟨i, n⟩, hi, hn0, hn1⟩
  simp only [↓XC, XV, entry, isStr, tdOf, szOf, zeroOf, TD.isStruct, okCell, cellsOf, SO.isMap, SO.sz, SO.el, SO.n, SO.ro, mkCf, quietOp, opClass, okLeaf, spl, cellV, isU8T, isSlS, fillS, fillP, repl, SO.put, SV.mapH, frzV, frzVL, frzOk, frzOkL, lendOk, SV.bit, bitL, SV.plain, plainL, isE, mapHL, strip, stripL, gok, gokL, forall_const, implies_true, reduceIte, Nat.reduceAdd, Nat.reduceLT, Nat.reduceEqDiff, Nat.reduceBEq, Nat.reduceLeDiff, reduceCtorEq, Nat.reduceSub, Nat.reduceMul, Int.reduceToNat, Int.reduceLT, Int.reduceLE, TES, pe_NumText_eq, pe_implIntOf_eq, pe_ValueOf_i_eq, pe_ValueText3_eq, XR]
  simp only at hi hn0 hn1
  have hdl := dec_length n.toNat
  refine ⟨fun hl => ?_, fun hl => ?_⟩
  · have hb := (l.getD i 0).toNat_lt
    have hm := tmod_in (a := n * 31 + ((l.getD i 0).toNat : Nat)) (n := 1000000007) (by omega) (by omega)
    repeat (refine Chk.mk (by first | omega | (simp only [inR]; omega)) fun _ => ?_)
    exact ⟨⟨(i + 1, (n * 31 + ((l.getD i 0).toNat : Nat)).tmod 1000000007), by simp only; omega, hm.1, hm.2⟩, by simp only; omega, (by first | exact Ent.refl _ _ | (simp only [Int.natCast_add, Int.natCast_one]; exact Ent.refl _ _))⟩
  · have hdl2 : (dec n.toNat).length ≤ 20 := dec_short (by omega)
    repeat (refine Chk.mk (by first | omega | (intro _; simp only [inR]; omega)) fun _ => ?_)
    obtain ⟨i1, i2, i3⟩ := intV_dec (n := n.toNat) (by omega)
    have hn : ((n.toNat : Nat) : Int) = n := by omega
    rw [hn] at i1 i2 i3
    simp only [↓XC, XV, entry, isStr, tdOf, szOf, zeroOf, TD.isStruct, okCell, cellsOf, SO.isMap, SO.sz, SO.el, SO.n, SO.ro, mkCf, quietOp, opClass, okLeaf, spl, cellV, isU8T, isSlS, fillS, fillP, repl, SO.put, SV.mapH, frzV, frzVL, frzOk, frzOkL, lendOk, SV.bit, bitL, SV.plain, plainL, isE, mapHL, strip, stripL, gok, gokL, forall_const, implies_true, reduceIte, Nat.reduceAdd, Nat.reduceLT, Nat.reduceEqDiff, Nat.reduceBEq, Nat.reduceLeDiff, reduceCtorEq, Nat.reduceSub, Nat.reduceMul, Int.reduceToNat, Int.reduceLT, Int.reduceLE, TES, pe_ValueText3_eq, XR, i1, i2, i3, valV_1, valV_2, plV_dec, Option.isSome_some, Option.getD_some, decide_true, Bool.and_true, Bool.true_and]
    exact Chk.mk (fun h9 => ⟨h9, by omega, by omega⟩) fun _ => Chk.mk (fun _ => by omega) fun _ => by rw [decide_eq_true (by omega)]
noncomputable def pe_law_FnValue : PE := peR (fun (cd : Bs) => [.fs 1 (cd.map bytc)]) (fun (cd : Bs) => cd.length ≤ 9223372036854775807) (fun (cd : Bs) => .b true)
theorem pe_law_FnValue_eq {cd : Bs} : pe_law_FnValue [.fs 1 (cd.map bytc)] = some (cd.length ≤ 9223372036854775807, .b true) := peR_eq (by rintro a b h; simp_all [bytc_inj]) cd
theorem pe_law_FnValue_ok : PE1 Try.prog 10 pe_law_FnValue := peR_ok (by rintro cd hp; exact law_FnValue cd hp)
end Go.T38
