/- Own text: part NumB. -/
import Derived.Test.YtlbahpbnnmgpnaaTypes2
import Derived.Test.YtlbahpbnnmgpnaaTextA
import Derived.Test.YtlbahpbnnmgpnaaDrawA
import Derived.Test.YtlbahpbnnmgpnaaBaseE
import Derived.Test.YtlbahpbnnmgpnaaVgSg
import Derived.Test.YtlbahpbnnmgpnaaVgDr
import Derived.Test.YtlbahpbnnmgpnaaPlW
namespace Go.T37
open Go.Proofs Go.Vg Go.RowKit Go.TT Go.Pl Go.T8 Go.T31
set_option linter.unusedVariables false
set_option linter.unusedSimpArgs false
set_option maxRecDepth 10000
set_option maxHeartbeats 4000000
theorem l01Bytes (cd : Bs) (d : Nat × Int) (m : Int) (hp : d.1 ≤ cd.length ∧ cd.length ≤ 1048576 ∧ 0 ≤ m ∧ m ≤ 100) : FnK Try.prog 83 1 [.ptr 0 0 0, .i .i64 m] [some (.blk false [.fs 1 (cd.map bytc), .i .i64 (d.1 : Nat), .i .i64 d.2])] (fun z c => z = .slc 1 0 (drBytes cd (drBelow cd (m + 1) d).1.toNat [] (drBelow cd (m + 1) d).2).1.length ∧ c = [some (.blk false [.fs 1 (cd.map bytc), .i .i64 ((drBytes cd (drBelow cd (m + 1) d).1.toNat [] (drBelow cd (m + 1) d).2).2.1 : Nat), .i .i64 (drBytes cd (drBelow cd (m + 1) d).1.toNat [] (drBelow cd (m + 1) d).2).2.2]), some (.row false 1 (drBytes cd (drBelow cd (m + 1) d).1.toNat [] (drBelow cd (m + 1) d).2).1.length (rowE bytc 0 (drBytes cd (drBelow cd (m + 1) d).1.toNat [] (drBelow cd (m + 1) d).2).1))]) := by
  refine FnK.ofE (cf := mkCf Try.prog te [] 25 1 false (fun _ => false) (kp [(0, [0, 1]), (1, [0, 5]), (2, [0, 5, 6]), (3, [0, 5, 6, 7]), (4, [0, 5, 6, 7, 15]), (5, [0, 5, 6, 7]), (6, [0, 5, 6, 7]), (7, [4])]) [] []) (mkCf_ok te_ok (l := []) (trivial) mixed_ok) Try.func83 rfl rfl rfl (by simp [mkCf]) (by simp [mkCf]) (rs := [.tmp 4]) rfl 100000 ?_
  simp only [↓XC, XV, entry, isStr, tdOf, szOf, zeroOf, TD.isStruct, okCell, cellsOf, SO.isMap, SO.sz, SO.el, SO.n, SO.ro, mkCf, quietOp, opClass, okLeaf, spl, cellV, isU8T, isSlS, fillS, fillP, repl, SO.put, SV.mapH, frzV, frzVL, frzOk, frzOkL, lendOk, SV.bit, bitL, SV.plain, plainL, isE, mapHL, strip, stripL, gok, gokL, forall_const, implies_true, reduceIte, Nat.reduceAdd, Nat.reduceLT, Nat.reduceEqDiff, Nat.reduceBEq, Nat.reduceLeDiff, reduceCtorEq, Nat.reduceSub, Nat.reduceMul, Int.reduceToNat, Int.reduceLT, Int.reduceLE, TES, XR]
  have hr := drBelow_range cd (n := m + 1) d (by omega)
  have hq := drBelow_le (cd := cd) (n := m + 1) hp.1
  refine Chk.mk (by simp only [inR]; omega) fun _ => ?_
  refine XCalls.mut (l01Below cd d (m + 1) ⟨hp.1, hp.2.1⟩) rfl [0] (by simp [mapHL, SV.mapH, muL]) (by simp only [ctxMap, at_cons_zero, at_cons_succ, and_true, List.length_cons, List.length_nil]; exact ⟨by omega, soLe_blk rfl⟩) (by decide) ?_
  simp only [↓XC, XV, entry, isStr, tdOf, szOf, zeroOf, TD.isStruct, okCell, cellsOf, SO.isMap, SO.sz, SO.el, SO.n, SO.ro, mkCf, quietOp, opClass, okLeaf, spl, cellV, isU8T, isSlS, fillS, fillP, repl, SO.put, SV.mapH, frzV, frzVL, frzOk, frzOkL, lendOk, SV.bit, bitL, SV.plain, plainL, isE, mapHL, strip, stripL, gok, gokL, forall_const, implies_true, reduceIte, Nat.reduceAdd, Nat.reduceLT, Nat.reduceEqDiff, Nat.reduceBEq, Nat.reduceLeDiff, reduceCtorEq, Nat.reduceSub, Nat.reduceMul, Int.reduceToNat, Int.reduceLT, Int.reduceLE, TES, XR, mergeC, upd, muL, List.getElem?_nil, List.drop_nil, Option.map_none, SO.mapH, List.getElem?_cons_zero, List.getElem?_cons_succ]
  generalize drBelow cd (m + 1) d = q at *
  refine VLoops.of (ι := {x : Nat × List UInt8 × Nat × Int // x.2.1.length = x.1 ∧ (x.1 : Int) ≤ q.1 ∧ x.2.2.1 ≤ cd.length ∧ drBytes cd (q.1.toNat - x.1) x.2.1 x.2.2 = drBytes cd q.1.toNat [] q.2}) (fun x => ⟨[(0, .ptr 0 0 0), (5, .i .i64 q.1), (6, .slc 1 0 x.1.2.1.length), (7, .i .i64 (x.1.1 : Nat))], [some (.blk false [.fs 1 (cd.map bytc), .i .i64 (x.1.2.2.1 : Nat), .i .i64 x.1.2.2.2]), some (.row false 1 x.1.2.1.length (rowE bytc 0 x.1.2.1))]⟩) (fun x => q.1.toNat - x.1.1) ⟨(0, [], q.2), rfl, by omega, hq, rfl⟩ (Ent.ren1 [0, 1] (by decide) (by simp only [entCtx, at_cons_zero, at_cons_succ, and_true, true_and]; exact ⟨soLe_blk rfl, soLe_nil⟩) (by simp [entEnv, Vg.look, SV.mapH, muL])) ?_
  rintro ⟨⟨i, l, e⟩, hl, hi, he, hd⟩
  simp only [↓XC, XV, entry, isStr, tdOf, szOf, zeroOf, TD.isStruct, okCell, cellsOf, SO.isMap, SO.sz, SO.el, SO.n, SO.ro, mkCf, quietOp, opClass, okLeaf, spl, cellV, isU8T, isSlS, fillS, fillP, repl, SO.put, SV.mapH, frzV, frzVL, frzOk, frzOkL, lendOk, SV.bit, bitL, SV.plain, plainL, isE, mapHL, strip, stripL, gok, gokL, forall_const, implies_true, reduceIte, Nat.reduceAdd, Nat.reduceLT, Nat.reduceEqDiff, Nat.reduceBEq, Nat.reduceLeDiff, reduceCtorEq, Nat.reduceSub, Nat.reduceMul, Int.reduceToNat, Int.reduceLT, Int.reduceLE, TES, XR]
  simp only at hl hi he hd
  refine ⟨fun h => ?_, fun h => ?_⟩
  · refine XCalls.mut (l01Byte cd e ⟨he, hp.2.1⟩) rfl [0] (by simp [mapHL, SV.mapH, muL]) (by simp only [ctxMap, at_cons_zero, at_cons_succ, and_true, List.length_cons, List.length_nil]; exact ⟨by omega, soLe_blk rfl⟩) (by decide) ?_
    simp only [↓XC, XV, entry, isStr, tdOf, szOf, zeroOf, TD.isStruct, okCell, cellsOf, SO.isMap, SO.sz, SO.el, SO.n, SO.ro, mkCf, quietOp, opClass, okLeaf, spl, cellV, isU8T, isSlS, fillS, fillP, repl, SO.put, SV.mapH, frzV, frzVL, frzOk, frzOkL, lendOk, SV.bit, bitL, SV.plain, plainL, isE, mapHL, strip, stripL, gok, gokL, forall_const, implies_true, reduceIte, Nat.reduceAdd, Nat.reduceLT, Nat.reduceEqDiff, Nat.reduceBEq, Nat.reduceLeDiff, reduceCtorEq, Nat.reduceSub, Nat.reduceMul, Int.reduceToNat, Int.reduceLT, Int.reduceLE, TES, XR, mergeC, upd, muL, List.getElem?_nil, List.drop_nil, Option.map_none, SO.mapH, List.getElem?_cons_zero, List.getElem?_cons_succ]
    have hb := drByte_range cd e
    have hk : q.1.toNat - i = (q.1.toNat - (i + 1)) + 1 := by omega
    rw [hk] at hd
    simp only [drBytes] at hd
    have hy : [SV.i .u8 (drByte cd e).1] = bytc (UInt8.ofNat (drByte cd e).1.toNat) := by
      simp only [bytc, UInt8.toNat_ofNat']
      congr 2
      omega
    rw [hy]
    refine Chk.mk (by simp only [inR]; omega) fun _ => ⟨litEl_ok rfl rfl, Chk.mk (by omega) fun _ => Chk.mk (by simp only [inR]; omega) fun _ => ⟨⟨(i + 1, l ++ [UInt8.ofNat (drByte cd e).1.toNat], (drByte cd e).2), by simp; omega, by simp only; omega, drByte_le he, hd⟩, by simp only; omega, ?_⟩⟩
    simp only [Int.natCast_add, Int.natCast_one]
    exact (Ent.ren1 [0, 3] (by decide) (by simp only [entCtx, at_cons_zero, at_cons_succ, and_true, true_and]; exact ⟨soLe_blk rfl, soLe_push (enc := bytc) (y := UInt8.ofNat (drByte cd e).1.toNat) (fun _ => rfl) rfl (fun _ _ => rfl) rfl⟩) (by simp [entEnv, Vg.look, SV.mapH, muL]))
  · rw [show q.1.toNat - i = 0 by omega] at hd
    rw [← hd]
    simp only [drBytes]
    exact ⟨[0, 1], by decide, by simp only [entCtx, at_cons_zero, at_cons_succ, and_true, true_and]; exact ⟨soLe_blk rfl, soLe_same fun _ => rfl⟩, by simp only [↓XC, XV, entry, isStr, tdOf, szOf, zeroOf, TD.isStruct, okCell, cellsOf, SO.isMap, SO.sz, SO.el, SO.n, SO.ro, mkCf, quietOp, opClass, okLeaf, spl, cellV, isU8T, isSlS, fillS, fillP, repl, SO.put, SV.mapH, frzV, frzVL, frzOk, frzOkL, lendOk, SV.bit, bitL, SV.plain, plainL, isE, mapHL, strip, stripL, gok, gokL, forall_const, implies_true, reduceIte, Nat.reduceAdd, Nat.reduceLT, Nat.reduceEqDiff, Nat.reduceBEq, Nat.reduceLeDiff, reduceCtorEq, Nat.reduceSub, Nat.reduceMul, Int.reduceToNat, Int.reduceLT, Int.reduceLE]; try simp [muL, SV.mapH, mapHL], by simp [newRw, SO.ro], by simp⟩
theorem decimal (n : Int) (hp : 0 ≤ n ∧ n ≤ 1073741824) : PF Try.prog 59 [.i .i64 n] (.s (dec n.toNat)) := by
  refine ⟨rfl, rfl, FnK.of (cf := mkCf Try.prog te [] 21 0 false (fun _ => false) (kp [(0, [0]), (1, [0, 3]), (2, [0, 3, 9]), (3, [0, 3]), (4, [0, 3]), (5, [2])]) [] []) (mkCf_ok te_ok (l := []) (trivial) mixed_ok) Try.func59 rfl rfl rfl (by simp [mkCf]) (by simp [mkCf]) (rs := [.tmp 2]) rfl 100000 ?_⟩
  simp only [↓XC, XV, entry, isStr, tdOf, szOf, zeroOf, TD.isStruct, okCell, cellsOf, SO.isMap, SO.sz, SO.el, SO.n, SO.ro, mkCf, quietOp, opClass, okLeaf, spl, cellV, isU8T, isSlS, fillS, fillP, repl, SO.put, SV.mapH, frzV, frzVL, frzOk, frzOkL, lendOk, SV.bit, bitL, SV.plain, plainL, isE, mapHL, strip, stripL, gok, gokL, forall_const, implies_true, reduceIte, Nat.reduceAdd, Nat.reduceLT, Nat.reduceEqDiff, Nat.reduceBEq, Nat.reduceLeDiff, reduceCtorEq, Nat.reduceSub, Nat.reduceMul, Int.reduceToNat, Int.reduceLT, Int.reduceLE, TES]
  refine VLoops.of (ι := {x : Nat × List UInt8 // (x.2 = [] ∧ x.1 = n.toNat) ∨ (x.2 ≠ [] ∧ DecInv n.toNat x.1 x.2)}) (fun x => ⟨[(0, .i .i64 (x.1.1 : Nat)), (3, .s x.1.2)], []⟩) (fun x => if x.1.2 = [] then x.1.1 + 1 else x.1.1) ⟨(n.toNat, []), .inl ⟨rfl, rfl⟩⟩ (by rw [show ((n.toNat : Nat) : Int) = n by omega]; exact Ent.refl _ _) ?_
  rintro ⟨⟨m, out⟩, hm⟩
  simp only [↓XC, XV, entry, isStr, tdOf, szOf, zeroOf, TD.isStruct, okCell, cellsOf, SO.isMap, SO.sz, SO.el, SO.n, SO.ro, mkCf, quietOp, opClass, okLeaf, spl, cellV, isU8T, isSlS, fillS, fillP, repl, SO.put, SV.mapH, frzV, frzVL, frzOk, frzOkL, lendOk, SV.bit, bitL, SV.plain, plainL, isE, mapHL, strip, stripL, gok, gokL, forall_const, implies_true, reduceIte, Nat.reduceAdd, Nat.reduceLT, Nat.reduceEqDiff, Nat.reduceBEq, Nat.reduceLeDiff, reduceCtorEq, Nat.reduceSub, Nat.reduceMul, Int.reduceToNat, Int.reduceLT, Int.reduceLE, TES]
  simp only at hm
  have e1 : (m : Int).tmod 10 = ((m % 10 : Nat) : Int) := tmod_nat m 10
  have e2 : (m : Int).tdiv 10 = ((m / 10 : Nat) : Int) := tdiv_nat m 10
  simp only [e1, e2]
  have e3 : ((48 : Int) + ((m % 10 : Nat) : Int)).toNat = 48 + m % 10 := by omega
  have hmk : m ≤ n.toNat := by rcases hm with h | h; omega; exact h.2.1
  have hl : out.length ≤ n.toNat + 1 := by
    rcases hm with h | h
    · rw [h.1]; simp
    · exact h.2.len
  refine ⟨fun hc => Chk.mk (by decide) fun _ => Chk.mk (by simp only [inR]; omega) fun _ => Chk.mk (by simp only [inR]; omega) fun _ => ⟨isU8_one, Chk.mk (by omega) fun _ => ⟨by decide, Chk.mk (by simp only [inR]; omega) fun _ => ?_⟩⟩, fun hc => ?_⟩
  · rw [e3]
    refine ⟨⟨(m / 10, UInt8.ofNat (48 + m % 10) :: out), .inr ⟨by simp, ?_⟩⟩, ?_, Ent.nil (by simp [entEnv, Vg.look, SV.mapH])⟩
    · rcases hm with ⟨h1, h2⟩ | ⟨h1, h2⟩
      · subst h1
        subst h2
        refine ⟨by omega, ?_⟩
        rw [dec_eq n.toNat]
        by_cases h9 : n.toNat < 10
        · rw [if_pos h9, if_pos (by omega), show n.toNat % 10 = n.toNat by omega]
        · rw [if_neg h9, if_neg (by omega)]
      · refine h2.step ?_
        simp only [Bool.or_eq_true, decide_eq_true_eq] at hc
        rcases hc with hc | hc
        · exact absurd hc h1
        · omega
    · simp only [reduceCtorEq, if_false]
      split
      · omega
      · rename_i h9
        simp only [Bool.or_eq_true, decide_eq_true_eq] at hc
        rcases hc with hc | hc
        · exact absurd hc h9
        · omega
  · simp only [Bool.or_eq_false_iff, decide_eq_false_iff_not] at hc
    rcases hm with ⟨h1, _⟩ | ⟨h1, h2⟩
    · exact absurd h1 hc.1
    · have := h2.2
      rw [if_pos (by omega)] at this
      rw [this]
noncomputable def pe_decimal : PE := peR (fun (n : Int) => [.i .i64 n]) (fun (n : Int) => 0 ≤ n ∧ n ≤ 1073741824) (fun (n : Int) => .s (dec n.toNat))
theorem pe_decimal_eq {n : Int} : pe_decimal [.i .i64 n] = some (0 ≤ n ∧ n ≤ 1073741824, .s (dec n.toNat)) := peR_eq (by rintro a b h; simp_all []) n
theorem pe_decimal_ok : PE1 Try.prog 59 pe_decimal := peR_ok (by rintro n hp; exact decimal n hp)
theorem NumText (n : Int) (hp : 0 ≤ n ∧ n ≤ 1073741824) : PF Try.prog 42 [.i .i64 n] (.s (dec n.toNat)) := by
  refine ⟨rfl, rfl, FnK.of (cf := mkCf Try.prog te [(57, pe_within), (59, pe_decimal)] 8 0 false (fun _ => false) (kp [(0, [0]), (1, [0, 5]), (2, [2]), (3, [2])]) [] []) (mkCf_ok te_ok (l := [(57, pe_within), (59, pe_decimal)]) (⟨pe_within_ok, pe_decimal_ok, trivial⟩) mixed_ok) Try.func42 rfl rfl rfl (by simp [mkCf]) (by simp [mkCf]) (rs := [.tmp 2]) rfl 100000 ?_⟩
  simp only [↓XC, XV, entry, isStr, tdOf, szOf, zeroOf, TD.isStruct, okCell, cellsOf, SO.isMap, SO.sz, SO.el, SO.n, SO.ro, mkCf, quietOp, opClass, okLeaf, spl, cellV, isU8T, isSlS, fillS, fillP, repl, SO.put, SV.mapH, frzV, frzVL, frzOk, frzOkL, lendOk, SV.bit, bitL, SV.plain, plainL, isE, mapHL, strip, stripL, gok, gokL, forall_const, implies_true, reduceIte, Nat.reduceAdd, Nat.reduceLT, Nat.reduceEqDiff, Nat.reduceBEq, Nat.reduceLeDiff, reduceCtorEq, Nat.reduceSub, Nat.reduceMul, Int.reduceToNat, Int.reduceLT, Int.reduceLE, TES, pe_within_eq, pe_decimal_eq]
  exact ⟨fun h => by simp at h; omega, fun _ => Chk.mk hp fun _ => trivial⟩
noncomputable def pe_NumText : PE := peR (fun (n : Int) => [.i .i64 n]) (fun (n : Int) => 0 ≤ n ∧ n ≤ 1073741824) (fun (n : Int) => .s (dec n.toNat))
theorem pe_NumText_eq {n : Int} : pe_NumText [.i .i64 n] = some (0 ≤ n ∧ n ≤ 1073741824, .s (dec n.toNat)) := peR_eq (by rintro a b h; simp_all []) n
theorem pe_NumText_ok : PE1 Try.prog 42 pe_NumText := peR_ok (by rintro n hp; exact NumText n hp)
theorem ValueText3 (n : Int) (hp : 0 ≤ n ∧ n ≤ 1073741824) : PF Try.prog 22 [.agg [.i .i64 3, .i .i64 n, .b false, .s []]] (.s ([105, 110, 116, 32] ++ dec n.toNat)) := by
  refine ⟨rfl, rfl, FnK.of (cf := mkCf Try.prog te [(57, pe_within), (59, pe_decimal)] 50 0 false (fun _ => false) (kp [(0, [1]), (1, [1, 4]), (2, [1, 4, 5]), (3, [2]), (4, [1, 4, 7]), (5, [10]), (6, [2]), (7, [2]), (8, [1, 4, 11]), (9, [1, 13]), (10, [2]), (11, [1, 18]), (12, [2]), (13, [2]), (14, [1, 4, 31]), (15, [2]), (16, [1, 4, 36]), (17, [2]), (18, [1, 4, 41]), (19, [2]), (20, [4, 46]), (21, [2]), (22, [48]), (23, [2]), (24, [2])]) [] []) (mkCf_ok te_ok (l := [(57, pe_within), (59, pe_decimal)]) (⟨pe_within_ok, pe_decimal_ok, trivial⟩) mixed_ok) Try.func22 rfl rfl rfl (by simp [mkCf]) (by simp [mkCf]) (rs := [.tmp 2]) rfl 100000 ?_⟩
  simp only [↓XC, XV, entry, isStr, tdOf, szOf, zeroOf, TD.isStruct, okCell, cellsOf, SO.isMap, SO.sz, SO.el, SO.n, SO.ro, mkCf, quietOp, opClass, okLeaf, spl, cellV, isU8T, isSlS, fillS, fillP, repl, SO.put, SV.mapH, frzV, frzVL, frzOk, frzOkL, lendOk, SV.bit, bitL, SV.plain, plainL, isE, mapHL, strip, stripL, gok, gokL, forall_const, implies_true, reduceIte, Nat.reduceAdd, Nat.reduceLT, Nat.reduceEqDiff, Nat.reduceBEq, Nat.reduceLeDiff, reduceCtorEq, Nat.reduceSub, Nat.reduceMul, Int.reduceToNat, Int.reduceLT, Int.reduceLE, TES, pe_within_eq, pe_decimal_eq]
  have hl := dec_length n.toNat
  repeat' (first | with_reducible refine Chk.mk ?_ fun _ => ?_ | with_reducible refine And.intro ?_ ?_ | intro _)
  all_goals first | trivial | omega | (exfalso; rename_i h9; revert h9; decide) | (exfalso; rename_i h9; simp at h9; omega)
noncomputable def pe_ValueText3 : PE := peR (fun (n : Int) => [.agg [.i .i64 3, .i .i64 n, .b false, .s []]]) (fun (n : Int) => 0 ≤ n ∧ n ≤ 1073741824) (fun (n : Int) => .s ([105, 110, 116, 32] ++ dec n.toNat))
theorem pe_ValueText3_eq {n : Int} : pe_ValueText3 [.agg [.i .i64 3, .i .i64 n, .b false, .s []]] = some (0 ≤ n ∧ n ≤ 1073741824, .s ([105, 110, 116, 32] ++ dec n.toNat)) := peR_eq (by rintro a b h; simp_all []) n
theorem pe_ValueText3_ok : PE1 Try.prog 22 pe_ValueText3 := peR_ok (by rintro n hp; exact ValueText3 n hp)
end Go.T37
