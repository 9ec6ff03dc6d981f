/- Own text: part KeyG. -/
import Derived.Test.YtjphhddbkjdbnaaTypes2
import Derived.Test.YtjphhddbkjdbnaaTextA
import Derived.Test.YtjphhddbkjdbnaaEventA
import Derived.Test.YtjphhddbkjdbnaaKeyA
import Derived.Test.YtjphhddbkjdbnaaKeyB
import Derived.Test.YtjphhddbkjdbnaaKeyD
import Derived.Test.YtjphhddbkjdbnaaKeyE
import Derived.Test.YtjphhddbkjdbnaaKeyF
import Derived.Test.YtjphhddbkjdbnaaShelf
import Derived.Test.YtjphhddbkjdbnaaBaseE
import Derived.Test.YtjphhddbkjdbnaaPlV
import Derived.Test.YtjphhddbkjdbnaaPlB
import Derived.Test.YtjphhddbkjdbnaaPlC
import Derived.Test.YtjphhddbkjdbnaaVgCv
import Derived.Test.YtjphhddbkjdbnaaVgPc
namespace Go.T65
open Go.Proofs Go.Vg Go.RowKit Go.TT Go.Pl Go.T8 Go.T12 Go.T60 Go.T61 Go.T62 Go.T63 Go.T64 Go.TSh
set_option linter.unusedVariables false
set_option linter.unusedSimpArgs false
set_option maxRecDepth 10000
set_option maxHeartbeats 4000000
theorem keyEnd (s : Bs) (p : Int) (hp : s.length ≤ 1048576 ∧ 0 ≤ p ∧ p ≤ s.length) : PF Try.prog 80 [.s s, .i .i64 p] (.tup [.i .i64 (keE s p.toNat).1, .b (keE s p.toNat).2]) := by
  refine ⟨rfl, rfl, FnK.of (cf := mkCf Try.prog te [(82, pe_byteAt), (105, pe_NameAt_i), (106, pe_isQuote), (107, pe_SingleAt_i), (108, pe_DoubleAt_i), (109, pe_cntS), (110, pe_PlainFirst_i), (111, pe_PlainEnd_i)] 70 0 false (fun _ => false) (kp [(0, [0, 1]), (1, [0, 1, 6]), (2, [0, 1, 6, 17]), (3, [8, 9]), (4, [4, 5]), (5, [0, 1, 6, 29]), (6, [0, 1, 6, 11, 12]), (7, [0, 1, 11, 12, 40]), (8, [0, 1, 11, 12]), (9, [4, 5]), (10, [0, 1, 59]), (11, [1, 13]), (12, [4, 5]), (13, [4, 5])]) [] []) (mkCf_ok te_ok (l := [(82, pe_byteAt), (105, pe_NameAt_i), (106, pe_isQuote), (107, pe_SingleAt_i), (108, pe_DoubleAt_i), (109, pe_cntS), (110, pe_PlainFirst_i), (111, pe_PlainEnd_i)]) (⟨pe_byteAt_ok, pe_NameAt_i_ok, pe_isQuote_ok, pe_SingleAt_i_ok, pe_DoubleAt_i_ok, pe_cntS_ok, pe_PlainFirst_i_ok, pe_PlainEnd_i_ok, trivial⟩) mixed_ok) Try.func80 rfl rfl rfl (by simp [mkCf]) (by simp [mkCf]) (rs := [.tmp 4, .tmp 5]) rfl 100000 ?_⟩
  simp only [↓XC, XV, entry, isStr, tdOf, szOf, zeroOf, TD.isStruct, okCell, cellsOf, SO.isMap, SO.sz, SO.el, SO.n, SO.ro, mkCf, quietOp, opClass, okLeaf, spl, cellV, isU8T, isSlS, fillS, fillP, repl, SO.put, SV.mapH, frzV, frzVL, frzOk, frzOkL, lendOk, SV.bit, bitL, SV.plain, plainL, isE, mapHL, strip, stripL, gok, gokL, forall_const, implies_true, reduceIte, Nat.reduceAdd, Nat.reduceLT, Nat.reduceEqDiff, Nat.reduceBEq, Nat.reduceLeDiff, reduceCtorEq, Nat.reduceSub, Nat.reduceMul, Int.reduceToNat, Int.reduceLT, Int.reduceLE, TES, pe_byteAt_eq, pe_NameAt_i_eq, pe_isQuote_eq, pe_SingleAt_i_eq, pe_DoubleAt_i_eq, pe_cntS_eq, pe_PlainFirst_i_eq, pe_PlainEnd_i_eq]
  obtain ⟨q, rfl⟩ : ∃ q : Nat, p = q := ⟨p.toNat, by omega⟩
  have hq : q ≤ s.length := by omega
  have h2 := sgA_place hq
  have h3 := dbA_place hq
  have hp0 := hp.1
  rw [spot_of s hq, Int.toNat_natCast]
  have hm : ∀ e : Nat, q ≤ e → e ≤ s.length → decide ((10 : UInt8) ∈ List.drop q (List.take e s)) = !oneL s q e := fun e h1 h2 => mem_sub h1 h2
  refine Chk.mk hp0 fun _ => ⟨fun h42 => Chk.mk hp0 fun _ => ?_, fun h42 => ⟨fun hQ => Chk.mk hp0 fun _ => ⟨fun h34 => Chk.mk hp0 fun _ => Chk.mk (fun h => by omega) fun _ => ?_, fun h34 => Chk.mk (fun h => by omega) fun _ => ?_⟩, fun hQ => Chk.mk hp0 fun _ => ⟨fun hf => Chk.mk hp0 fun _ => ?_, fun hf => ?_⟩⟩⟩
  · unfold keE; rw [if_pos h42]
  · unfold keE; rw [if_neg h42, if_neg (by omega), if_pos h34, hm _ h3.1 h3.2.1, Bool.not_not]
  · have h39 : byt s q = 39 := by simpa [h34] using hQ
    unfold keE; rw [if_neg h42, if_pos h39, hm _ h2.1 h2.2.1, Bool.not_not]
  · have h39 : ¬ byt s q = 39 ∧ ¬ byt s q = 34 := by simpa using hQ
    unfold keE; rw [if_neg h42, if_neg h39.1, if_neg h39.2, if_pos hf]
    simp only [gt_iff_lt, Int.ofNat_lt]
  · have h39 : ¬ byt s q = 39 ∧ ¬ byt s q = 34 := by simpa using hQ
    unfold keE; rw [if_neg h42, if_neg h39.1, if_neg h39.2, if_neg (by rw [hf]; simp)]
noncomputable def pe_keyEnd : PE := peR (fun (x : Bs × Int) => match x with | (s, p) => [.s s, .i .i64 p]) (fun (x : Bs × Int) => match x with | (s, p) => s.length ≤ 1048576 ∧ 0 ≤ p ∧ p ≤ s.length) (fun (x : Bs × Int) => match x with | (s, p) => .tup [.i .i64 (keE s p.toNat).1, .b (keE s p.toNat).2])
theorem pe_keyEnd_eq {s : Bs} {p : Int} : pe_keyEnd [.s s, .i .i64 p] = some (s.length ≤ 1048576 ∧ 0 ≤ p ∧ p ≤ s.length, .tup [.i .i64 (keE s p.toNat).1, .b (keE s p.toNat).2]) := peR_eq (by rintro ⟨a0, a1⟩ ⟨b0, b1⟩ h; simp_all []) (s, p)
theorem pe_keyEnd_ok : PE1 Try.prog 80 pe_keyEnd := peR_ok (by rintro ⟨s, p⟩ hp; exact keyEnd s p hp)
theorem KeyAt_i (s : Bs) (p : Int) (hp : s.length ≤ 1048576) : PF Try.prog 42 [.s s, .i .i64 p] (.tup [.i .i64 (kyA s (spot s p)).1, .i .i64 (kyA s (spot s p)).2.1, .b (kyA s (spot s p)).2.2]) := by
  refine ⟨rfl, rfl, FnK.of (cf := mkCf Try.prog te [(79, pe_spot_i), (80, pe_keyEnd), (81, pe_White_i), (82, pe_byteAt), (83, pe_gapAt)] 43 0 false (fun _ => false) (kp [(0, [0, 1]), (1, [0, 1]), (2, [0, 1, 7, 8]), (3, [0, 7, 26]), (4, [4, 5, 6]), (5, [0, 7, 9]), (6, [7, 9, 40]), (7, [4, 5, 6]), (8, [4, 5, 6])]) [] []) (mkCf_ok te_ok (l := [(79, pe_spot_i), (80, pe_keyEnd), (81, pe_White_i), (82, pe_byteAt), (83, pe_gapAt)]) (⟨pe_spot_i_ok, pe_keyEnd_ok, pe_White_i_ok, pe_byteAt_ok, pe_gapAt_ok, trivial⟩) mixed_ok) Try.func42 rfl rfl rfl (by simp [mkCf]) (by simp [mkCf]) (rs := [.tmp 4, .tmp 5, .tmp 6]) rfl 100000 ?_⟩
  simp only [↓XC, XV, entry, isStr, tdOf, szOf, zeroOf, TD.isStruct, okCell, cellsOf, SO.isMap, SO.sz, SO.el, SO.n, SO.ro, mkCf, quietOp, opClass, okLeaf, spl, cellV, isU8T, isSlS, fillS, fillP, repl, SO.put, SV.mapH, frzV, frzVL, frzOk, frzOkL, lendOk, SV.bit, bitL, SV.plain, plainL, isE, mapHL, strip, stripL, gok, gokL, forall_const, implies_true, reduceIte, Nat.reduceAdd, Nat.reduceLT, Nat.reduceEqDiff, Nat.reduceBEq, Nat.reduceLeDiff, reduceCtorEq, Nat.reduceSub, Nat.reduceMul, Int.reduceToNat, Int.reduceLT, Int.reduceLE, TES, pe_spot_i_eq, pe_keyEnd_eq, pe_White_i_eq, pe_byteAt_eq, pe_gapAt_eq]
  have h0 := spot_le s p
  generalize spot s p = q at *
  have h1 := keE_place h0
  obtain ⟨e, he⟩ : ∃ e : Nat, (keE s q).1 = e := ⟨(keE s q).1.toNat, by omega⟩
  rw [he] at h1 ⊢
  have hel : e ≤ s.length := by omega
  rw [spot_of s hel]
  have hwl := wh_le s e hel
  rw [spot_of s hwl]
  have e1 : ((wh s e : Nat) + 1 : Int).toNat = wh s e + 1 := by omega
  rw [e1]
  have hN : (keE s q).1.toNat = e := by omega
  refine Chk.mk ⟨hp, by omega, by omega⟩ fun _ => Chk.mk (fun _ => by simp only [inR]; omega) fun _ => ⟨fun h => ?_, fun h => Chk.mk hp fun _ => Chk.mk hp fun _ => Chk.mk (fun _ => by simp only [inR]; omega) fun _ => Chk.mk (fun h => ⟨⟨h, h⟩, hp, by omega⟩) fun _ => ⟨fun h4 => ?_, fun h4 => ?_⟩⟩
  · rw [kyA_f]; rintro ⟨h2, h3, _⟩; rw [he] at h3; rw [h2, decide_eq_false (by omega)] at h; cases h
  · rw [kyA_f]; rintro ⟨_, _, h2, h3⟩; rw [hN] at h2 h3; rw [h2, h3] at h4; simp at h4
  · have h5 : (keE s q).2 = true ∧ ¬ (e : Int) - q > 1000 := by simpa using h
    have h6 : byt s (wh s e) = 58 ∧ gap s (wh s e + 1) = true := by simpa using h4
    rw [kyA_t ⟨h5.1, by rw [he]; omega, by rw [hN]; exact h6.1, by rw [hN]; exact h6.2⟩, he, Int.toNat_natCast]
noncomputable def pe_KeyAt_i : PE := peR (fun (x : Bs × Int) => match x with | (s, p) => [.s s, .i .i64 p]) (fun (x : Bs × Int) => match x with | (s, p) => s.length ≤ 1048576) (fun (x : Bs × Int) => match x with | (s, p) => .tup [.i .i64 (kyA s (spot s p)).1, .i .i64 (kyA s (spot s p)).2.1, .b (kyA s (spot s p)).2.2])
theorem pe_KeyAt_i_eq {s : Bs} {p : Int} : pe_KeyAt_i [.s s, .i .i64 p] = some (s.length ≤ 1048576, .tup [.i .i64 (kyA s (spot s p)).1, .i .i64 (kyA s (spot s p)).2.1, .b (kyA s (spot s p)).2.2]) := peR_eq (by rintro ⟨a0, a1⟩ ⟨b0, b1⟩ h; simp_all []) (s, p)
theorem pe_KeyAt_i_ok : PE1 Try.prog 42 pe_KeyAt_i := peR_ok (by rintro ⟨s, p⟩ hp; exact KeyAt_i s p hp)
theorem OneLine_s (s : Bs) (p e : Int) (hp : s.length ≤ 1048576) : PF Try.prog 73 [.s s, .i .i64 p, .i .i64 e] (.b (decide (e ≤ en s (spot s p)))) := by
  refine ⟨rfl, rfl, FnK.of (cf := mkCf Try.prog te [(100, pe_EndAt_s)] 12 0 false (fun _ => false) (kp [(0, [0, 1, 2]), (1, [6])]) [] []) (mkCf_ok te_ok (l := [(100, pe_EndAt_s)]) (⟨pe_EndAt_s_ok, trivial⟩) mixed_ok) Try.func73 rfl rfl rfl (by simp [mkCf]) (by simp [mkCf]) (rs := [.tmp 6]) rfl 100000 ?_⟩
  simp only [↓XC, XV, entry, isStr, tdOf, szOf, zeroOf, TD.isStruct, okCell, cellsOf, SO.isMap, SO.sz, SO.el, SO.n, SO.ro, mkCf, quietOp, opClass, okLeaf, spl, cellV, isU8T, isSlS, fillS, fillP, repl, SO.put, SV.mapH, frzV, frzVL, frzOk, frzOkL, lendOk, SV.bit, bitL, SV.plain, plainL, isE, mapHL, strip, stripL, gok, gokL, forall_const, implies_true, reduceIte, Nat.reduceAdd, Nat.reduceLT, Nat.reduceEqDiff, Nat.reduceBEq, Nat.reduceLeDiff, reduceCtorEq, Nat.reduceSub, Nat.reduceMul, Int.reduceToNat, Int.reduceLT, Int.reduceLE, TES, pe_EndAt_s_eq]
  exact Chk.mk hp fun _ => trivial
noncomputable def pe_OneLine_s : PE := peR (fun (x : Bs × Int × Int) => match x with | (s, p, e) => [.s s, .i .i64 p, .i .i64 e]) (fun (x : Bs × Int × Int) => match x with | (s, p, e) => s.length ≤ 1048576) (fun (x : Bs × Int × Int) => match x with | (s, p, e) => .b (decide (e ≤ en s (spot s p))))
theorem pe_OneLine_s_eq {s : Bs} {p e : Int} : pe_OneLine_s [.s s, .i .i64 p, .i .i64 e] = some (s.length ≤ 1048576, .b (decide (e ≤ en s (spot s p)))) := peR_eq (by rintro ⟨a0, a1, a2⟩ ⟨b0, b1, b2⟩ h; simp_all []) (s, p, e)
theorem pe_OneLine_s_ok : PE1 Try.prog 73 pe_OneLine_s := peR_ok (by rintro ⟨s, p, e⟩ hp; exact OneLine_s s p e hp)
theorem KeyAt_s (s : Bs) (p : Int) (hp : s.length ≤ 1048576) : PF Try.prog 41 [.s s, .i .i64 p] (.tup [.i .i64 (kyA s (spot s p)).1, .i .i64 (kyA s (spot s p)).2.1, .b (kyA s (spot s p)).2.2]) := by
  refine ⟨rfl, rfl, FnK.of (cf := mkCf Try.prog te [(70, pe_spot_s), (71, pe_NameAt_s), (72, pe_SingleAt_s), (73, pe_OneLine_s), (74, pe_DoubleAt_s), (75, pe_PlainFirst_s), (76, pe_PlainEnd_s), (77, pe_White_s), (78, pe_Gap_s)] 122 0 false (fun _ => false) (kp [(0, [0, 1]), (1, [0, 1]), (2, [0, 1, 24]), (3, [4, 5, 6]), (4, [0, 1, 7]), (5, [0, 1, 7, 26]), (6, [0, 1, 7, 9, 10]), (7, [0, 1, 7, 9, 38]), (8, [0, 1, 7]), (9, [0, 1, 7, 40]), (10, [0, 1, 7, 12, 13]), (11, [0, 1, 7, 12, 59]), (12, [0, 1, 7]), (13, [0, 1, 7, 61]), (14, [0, 1, 7, 15, 16]), (15, [0, 1, 7, 15, 80]), (16, [0, 1, 7]), (17, [0, 1, 7, 82]), (18, [0, 1, 7]), (19, [0, 1, 7, 17]), (20, [7, 17, 119]), (21, [4, 5, 6]), (22, [4, 5, 6])]) [19] []) (mkCf_ok te_ok (l := [(70, pe_spot_s), (71, pe_NameAt_s), (72, pe_SingleAt_s), (73, pe_OneLine_s), (74, pe_DoubleAt_s), (75, pe_PlainFirst_s), (76, pe_PlainEnd_s), (77, pe_White_s), (78, pe_Gap_s)]) (⟨pe_spot_s_ok, pe_NameAt_s_ok, pe_SingleAt_s_ok, pe_OneLine_s_ok, pe_DoubleAt_s_ok, pe_PlainFirst_s_ok, pe_PlainEnd_s_ok, pe_White_s_ok, pe_Gap_s_ok, trivial⟩) mixed_ok) Try.func41 rfl rfl rfl (by simp [mkCf]) (by simp [mkCf]) (rs := [.tmp 4, .tmp 5, .tmp 6]) rfl 100000 ?_⟩
  simp only [↓XC, XV, entry, isStr, tdOf, szOf, zeroOf, TD.isStruct, okCell, cellsOf, SO.isMap, SO.sz, SO.el, SO.n, SO.ro, mkCf, quietOp, opClass, okLeaf, spl, cellV, isU8T, isSlS, fillS, fillP, repl, SO.put, SV.mapH, frzV, frzVL, frzOk, frzOkL, lendOk, SV.bit, bitL, SV.plain, plainL, isE, mapHL, strip, stripL, gok, gokL, forall_const, implies_true, reduceIte, Nat.reduceAdd, Nat.reduceLT, Nat.reduceEqDiff, Nat.reduceBEq, Nat.reduceLeDiff, reduceCtorEq, Nat.reduceSub, Nat.reduceMul, Int.reduceToNat, Int.reduceLT, Int.reduceLE, TES, pe_spot_s_eq, pe_NameAt_s_eq, pe_SingleAt_s_eq, pe_OneLine_s_eq, pe_DoubleAt_s_eq, pe_PlainFirst_s_eq, pe_PlainEnd_s_eq, pe_White_s_eq, pe_Gap_s_eq, XCut]
  have h0 := spot_le s p
  have h1 := keE_place h0
  have hsp := spot_of s h0
  generalize spot s p = q at *
  refine ⟨fun h => ?_, fun h => VCuts.of (ι := Unit) (fun _ => ⟨[(0, .s s), (1, .i .i64 (q : Nat)), (7, .i .i64 (if (keE s q).2 = true then (keE s q).1 else (q : Int)))], []⟩) ?_ (fun _ => ?_)⟩
  · rw [kyA_f]
    have hq : s.length ≤ q := by omega
    rintro ⟨h2, _⟩
    unfold keE at h2
    rw [byt_ge hq, if_neg (by omega), if_neg (by omega), if_neg (by omega), if_neg (by rw [pfA_gap (gap_end hq)]; simp)] at h2
    cases h2
  · have hq : q < s.length := by omega
    have hbt := byt_lt hq
    simp only [↓XC, XV, entry, isStr, tdOf, szOf, zeroOf, TD.isStruct, okCell, cellsOf, SO.isMap, SO.sz, SO.el, SO.n, SO.ro, mkCf, quietOp, opClass, okLeaf, spl, cellV, isU8T, isSlS, fillS, fillP, repl, SO.put, SV.mapH, frzV, frzVL, frzOk, frzOkL, lendOk, SV.bit, bitL, SV.plain, plainL, isE, mapHL, strip, stripL, gok, gokL, forall_const, implies_true, reduceIte, Nat.reduceAdd, Nat.reduceLT, Nat.reduceEqDiff, Nat.reduceBEq, Nat.reduceLeDiff, reduceCtorEq, Nat.reduceSub, Nat.reduceMul, Int.reduceToNat, Int.reduceLT, Int.reduceLE, TES, pe_NameAt_s_eq, pe_SingleAt_s_eq, pe_DoubleAt_s_eq, pe_PlainFirst_s_eq, pe_PlainEnd_s_eq, pe_OneLine_s_eq, pe_White_s_eq, pe_Gap_s_eq, XCut]
    rw [hsp, ← hbt]
    refine Chk.mk (by omega) fun _ => ⟨fun h42 => Chk.mk hp fun _ => ?_, fun h42 => Chk.mk (by omega) fun _ => ⟨fun h39 => Chk.mk hp fun _ => Chk.mk (fun h => ⟨⟨h, h, h⟩, hp⟩) fun _ => ?_, fun h39 => Chk.mk (by omega) fun _ => ⟨fun h34 => Chk.mk hp fun _ => Chk.mk (fun h => ⟨⟨h, h, h⟩, hp⟩) fun _ => ?_, fun h34 => Chk.mk hp fun _ => ⟨fun hf => Chk.mk hp fun _ => ?_, fun hf => ?_⟩⟩⟩⟩
    · have hK : (if (keE s q).2 = true then (keE s q).1 else (q : Int)) = if (nmA s q).2.2 = true then (nmA s q).2.1 else (q : Int) := by unfold keE; rw [if_pos h42]
      rw [hK]
      refine ⟨fun h => ?_, fun h => ?_⟩
      · rw [if_pos h]; exact ⟨(), (by (try simp only [Int.natCast_add, Int.natCast_one]); exact Ent.nil (by simp [entEnv, Vg.look, SV.mapH]))⟩
      · rw [if_neg (by rw [h]; simp)]; exact ⟨(), (by (try simp only [Int.natCast_add, Int.natCast_one]); exact Ent.nil (by simp [entEnv, Vg.look, SV.mapH]))⟩
    · have hK : (if (keE s q).2 = true then (keE s q).1 else (q : Int)) = if (decide ((sgA s q).2.2 = 0) && decide (((sgA s q).2.1 : Int) ≤ (en s q : Int))) = true then ((sgA s q).2.1 : Int) else (q : Int) := by unfold keE oneL; rw [if_neg h42, if_pos h39]; simp only [Int.ofNat_le]
      rw [hK]
      refine ⟨fun h => ?_, fun h => ?_⟩
      · rw [if_pos h]; exact ⟨(), (by (try simp only [Int.natCast_add, Int.natCast_one]); exact Ent.nil (by simp [entEnv, Vg.look, SV.mapH]))⟩
      · rw [if_neg (by rw [h]; simp)]; exact ⟨(), (by (try simp only [Int.natCast_add, Int.natCast_one]); exact Ent.nil (by simp [entEnv, Vg.look, SV.mapH]))⟩
    · have hK : (if (keE s q).2 = true then (keE s q).1 else (q : Int)) = if (decide ((dbA s q).2.2 = 0) && decide (((dbA s q).2.1 : Int) ≤ (en s q : Int))) = true then ((dbA s q).2.1 : Int) else (q : Int) := by unfold keE oneL; rw [if_neg h42, if_neg h39, if_pos h34]; simp only [Int.ofNat_le]
      rw [hK]
      refine ⟨fun h => ?_, fun h => ?_⟩
      · rw [if_pos h]; exact ⟨(), (by (try simp only [Int.natCast_add, Int.natCast_one]); exact Ent.nil (by simp [entEnv, Vg.look, SV.mapH]))⟩
      · rw [if_neg (by rw [h]; simp)]; exact ⟨(), (by (try simp only [Int.natCast_add, Int.natCast_one]); exact Ent.nil (by simp [entEnv, Vg.look, SV.mapH]))⟩
    · have hK : (if (keE s q).2 = true then (keE s q).1 else (q : Int)) = (plE s q false : Int) := by
        have hg := plE_ge s q false
        unfold keE; rw [if_neg h42, if_neg h39, if_neg h34, if_pos hf]
        simp only [decide_eq_true_eq]
        split <;> omega
      rw [hK]; exact ⟨(), (by (try simp only [Int.natCast_add, Int.natCast_one]); exact Ent.nil (by simp [entEnv, Vg.look, SV.mapH]))⟩
    · have hK : (if (keE s q).2 = true then (keE s q).1 else (q : Int)) = (q : Int) := by
        unfold keE; rw [if_neg h42, if_neg h39, if_neg h34, if_neg (by rw [hf]; simp)]; try rfl
      rw [hK]; exact ⟨(), (by (try simp only [Int.natCast_add, Int.natCast_one]); exact Ent.nil (by simp [entEnv, Vg.look, SV.mapH]))⟩
  · have hq : q < s.length := by omega
    simp only [↓XC, XV, entry, isStr, tdOf, szOf, zeroOf, TD.isStruct, okCell, cellsOf, SO.isMap, SO.sz, SO.el, SO.n, SO.ro, mkCf, quietOp, opClass, okLeaf, spl, cellV, isU8T, isSlS, fillS, fillP, repl, SO.put, SV.mapH, frzV, frzVL, frzOk, frzOkL, lendOk, SV.bit, bitL, SV.plain, plainL, isE, mapHL, strip, stripL, gok, gokL, forall_const, implies_true, reduceIte, Nat.reduceAdd, Nat.reduceLT, Nat.reduceEqDiff, Nat.reduceBEq, Nat.reduceLeDiff, reduceCtorEq, Nat.reduceSub, Nat.reduceMul, Int.reduceToNat, Int.reduceLT, Int.reduceLE, TES, pe_NameAt_s_eq, pe_SingleAt_s_eq, pe_DoubleAt_s_eq, pe_PlainFirst_s_eq, pe_PlainEnd_s_eq, pe_OneLine_s_eq, pe_White_s_eq, pe_Gap_s_eq, XCut]
    obtain ⟨e, he⟩ : ∃ e : Nat, (if (keE s q).2 = true then (keE s q).1 else (q : Int)) = e := ⟨(if (keE s q).2 = true then (keE s q).1 else (q : Int)).toNat, by split <;> omega⟩
    have hel : e ≤ s.length := by split at he <;> omega
    have heq : (decide ((e : Int) = (q : Int))) = !(keE s q).2 := by
      cases hk : (keE s q).2
      · rw [hk] at he; simp at he; simp [he]
      · rw [hk] at he; simp at he
        have := h1.2.2 hk
        simp; omega
    have hN : (keE s q).2 = true → (keE s q).1 = e := fun hk => by rw [if_pos hk] at he; exact he
    rw [he, spot_of s hel]
    have hwl := wh_le s e hel
    have e1 : ((wh s e : Nat) + 1 : Int).toNat = wh s e + 1 := by omega
    rw [e1, heq]
    refine Chk.mk hp fun _ => Chk.mk (fun _ => by simp only [inR]; omega) fun _ => Chk.mk (fun h => by simp only [Bool.or_eq_true, Bool.and_eq_true, Bool.or_eq_false_iff, Bool.and_eq_false_iff, decide_eq_true_eq, decide_eq_false_iff_not, Bool.not_eq_true', Bool.not_eq_false', beq_iff_eq, beq_eq_false_iff_ne, ne_eq, ge_iff_le, gt_iff_lt, Int.not_le, Int.not_lt, Int.ofNat_le, Int.ofNat_lt] at h; omega) fun _ => Chk.mk (fun _ => by simp only [inR]; omega) fun _ => Chk.mk (fun h => ⟨⟨h, h⟩, hp, by omega⟩) fun _ => ⟨fun h => ?_, fun h => ?_⟩
    · rw [kyA_f]
      rintro ⟨k1, k2, k3, k4⟩
      have hE := hN k1
      rw [hE] at k2 k3 k4
      rw [Int.toNat_natCast] at k3 k4
      have hl2 : wh s e < s.length := by
        rcases Nat.lt_or_ge (wh s e) s.length with h3 | h3
        · exact h3
        · rw [byt_ge h3] at k3; omega
      rw [byt_lt hl2] at k3
      rw [k1, k3, k4, decide_eq_false (show ¬ ((e : Int) - q > 1000) by omega), decide_eq_false (show ¬ ((wh s e : Int) ≥ s.length) by omega)] at h
      simp at h
    · simp only [Bool.or_eq_true, Bool.and_eq_true, Bool.or_eq_false_iff, Bool.and_eq_false_iff, decide_eq_true_eq, decide_eq_false_iff_not, Bool.not_eq_true', Bool.not_eq_false', beq_iff_eq, beq_eq_false_iff_ne, ne_eq, ge_iff_le, gt_iff_lt, Int.not_le, Int.not_lt, Int.ofNat_le, Int.ofNat_lt] at h
      have hE := hN (by have := h.1.1.1.1; simpa using this)
      have hl2 : wh s e < s.length := by omega
      rw [kyA_t ⟨by have := h.1.1.1.1; simpa using this, by rw [hE]; omega, by rw [hE, Int.toNat_natCast, byt_lt hl2]; exact h.1.2, by rw [hE, Int.toNat_natCast]; exact h.2⟩, hE, Int.toNat_natCast]
noncomputable def pe_KeyAt_s : PE := peR (fun (x : Bs × Int) => match x with | (s, p) => [.s s, .i .i64 p]) (fun (x : Bs × Int) => match x with | (s, p) => s.length ≤ 1048576) (fun (x : Bs × Int) => match x with | (s, p) => .tup [.i .i64 (kyA s (spot s p)).1, .i .i64 (kyA s (spot s p)).2.1, .b (kyA s (spot s p)).2.2])
theorem pe_KeyAt_s_eq {s : Bs} {p : Int} : pe_KeyAt_s [.s s, .i .i64 p] = some (s.length ≤ 1048576, .tup [.i .i64 (kyA s (spot s p)).1, .i .i64 (kyA s (spot s p)).2.1, .b (kyA s (spot s p)).2.2]) := peR_eq (by rintro ⟨a0, a1⟩ ⟨b0, b1⟩ h; simp_all []) (s, p)
theorem pe_KeyAt_s_ok : PE1 Try.prog 41 pe_KeyAt_s := peR_ok (by rintro ⟨s, p⟩ hp; exact KeyAt_s s p hp)
theorem law_KeyAt (s : Bs) (p : Int) : PF Try.prog 11 [.s s, .i .i64 p] (.b true) := by
  refine ⟨rfl, rfl, FnK.of (cf := mkCf Try.prog te [(41, pe_KeyAt_s), (42, pe_KeyAt_i)] 41 0 false (fun _ => false) (kp [(0, [0, 1]), (1, [0, 1, 13]), (2, [4]), (3, [0, 1, 5, 6, 7]), (4, [5, 6, 7, 8, 9, 10]), (5, [40]), (6, [4]), (7, [4])]) [] []) (mkCf_ok te_ok (l := [(41, pe_KeyAt_s), (42, pe_KeyAt_i)]) (⟨pe_KeyAt_s_ok, pe_KeyAt_i_ok, trivial⟩) mixed_ok) Try.func11 rfl rfl rfl (by simp [mkCf]) (by simp [mkCf]) (rs := [.tmp 4]) rfl 100000 ?_⟩
  simp only [↓XC, XV, entry, isStr, tdOf, szOf, zeroOf, TD.isStruct, okCell, cellsOf, SO.isMap, SO.sz, SO.el, SO.n, SO.ro, mkCf, quietOp, opClass, okLeaf, spl, cellV, isU8T, isSlS, fillS, fillP, repl, SO.put, SV.mapH, frzV, frzVL, frzOk, frzOkL, lendOk, SV.bit, bitL, SV.plain, plainL, isE, mapHL, strip, stripL, gok, gokL, forall_const, implies_true, reduceIte, Nat.reduceAdd, Nat.reduceLT, Nat.reduceEqDiff, Nat.reduceBEq, Nat.reduceLeDiff, reduceCtorEq, Nat.reduceSub, Nat.reduceMul, Int.reduceToNat, Int.reduceLT, Int.reduceLE, TES, pe_KeyAt_s_eq, pe_KeyAt_i_eq]
  exact fun h => Chk.mk (by omega) fun _ => Chk.mk (by omega) fun _ => trivial
noncomputable def pe_law_KeyAt : PE := peR (fun (x : Bs × Int) => match x with | (s, p) => [.s s, .i .i64 p]) (fun (x : Bs × Int) => match x with | (s, p) => True) (fun (x : Bs × Int) => match x with | (s, p) => .b true)
theorem pe_law_KeyAt_eq {s : Bs} {p : Int} : pe_law_KeyAt [.s s, .i .i64 p] = some (True, .b true) := peR_eq (by rintro ⟨a0, a1⟩ ⟨b0, b1⟩ h; simp_all []) (s, p)
theorem pe_law_KeyAt_ok : PE1 Try.prog 11 pe_law_KeyAt := peR_ok (by rintro ⟨s, p⟩ hp; exact law_KeyAt s p)
end Go.T65
